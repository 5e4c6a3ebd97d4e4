/- Part 0 of the proof of vaultGranted_holds. No condition. -/
import Derived.Handy
import Derived.Lib.Hide
import Derived.Deep.Slices
import Derived.Deep.Draws
import Derived.Deep.OwnRows
import Derived.WalkLawsBesides
import Derived.WalkSpells
import Derived.Test.YtdggplhnfhcieaaGreatDoorChecked
import Derived.Lib.Strings
import Derived.Deep.Fields
import Derived.Test.YtdggplhnfhcieaaGreatDoorYH
set_option linter.unusedVariables false
set_option linter.unusedSimpArgs false
set_option linter.unusedSectionVars false
set_option maxRecDepth 100000
namespace Go.Proofs.YtdggplhnfhcieaaGreatDoor
section
abbrev Nm:=ByteArray
abbrev Top:Nm:=⟨#[]⟩
abbrev Fs:=Nm->Option (Nm×Bool)
def ZJ (F:Fs) (s:Nm):Bool:=match F s with | some (_,g)=>!g | none=>false
def YW (F:Fs) (s:Nm):Nm:=match F s with | some (p,_)=>p | none=>Top
def chN (F:Fs):Nat->Nm->List Nm
 | 0,_=>[]
 | k+1,s=>if ZJ F s then s :: chN F k (YW F s) else []
def ch (F:Fs) (s:Nm):List Nm:=chN F 5 s
structure Inv (F:Fs):Prop where
 no:ZJ F Top=false
 up:∀s,ZJ F s=true->YW F s=Top\/ZJ F (YW F s)=true
 deep:∀s,(ch F s).length<=4
theorem zF6 (F:Fs):∀(k:Nat) (s:Nm),(chN F k s).length < k->chN F (k+1) s=chN F k s
 | 0,_,h=>by simp at h
 | k+1,s,h=>by
  rw [chN] at h
  show (if ZJ F s then s :: chN F (k+1) (YW F s) else [])=if ZJ F s then s :: chN F k (YW F s) else []
  split
  ·rename_i hl
   rw [if_pos hl] at h
   rw [zF6 F k (YW F s) (by simpa using h)]
  ·rfl
theorem z3w (F:Fs):∀(k:Nat) (s:Nm),(chN F k s).length<=(chN F (k+1) s).length
 | 0,_=>by simp [chN]
 | k+1,s=>by
  rw [chN,chN]
  split
  ·have:=z3w F k (YW F s)
   simpa using this
  ·exact znl _
section
variable {F:Fs}
theorem zOe (h:Inv F) (s:Nm):ch F s=if ZJ F s then s :: ch F (YW F s) else []:=by
 have h1:chN F 6 s=chN F 5 s:=zF6 F 5 s (by have:=h.deep s;unfold ch at this;omega)
 unfold ch
 rw [<-h1,chN]
theorem z4b (h:Inv F) {s:Nm} (hs:ZJ F s=true):ch F s=s :: ch F (YW F s):=by rw [zOe h,if_pos hs]
theorem zKf (h:Inv F) {s:Nm} (hs:ZJ F s=false):ch F s=[]:=by rw [zOe h,hs];rfl
theorem z78 (h:Inv F) {s:Nm} (hs:ZJ F s=true):s∈ch F s:=by rw [z4b h hs];exact List.mem_cons_self ..
theorem z7g (h:Inv F) {s x:Nm} (hx:x∈ch F s):ZJ F s=true:=by
 cases hl:ZJ F s with
 | true=>rfl
 | false=>rw [zKf h hl] at hx;simp at hx
theorem zA7 (h:Inv F) {x:Nm}:∀(n:Nat) (s:Nm),(ch F s).length<=n->x∈ch F s->∃pre,ch F s=pre++ch F x
 | 0,s,hn,hx=>by
  have:ch F s=[]:=List.eq_nil_of_length_eq_zero (by omega)
  rw [this] at hx
  simp at hx
 | n+1,s,hn,hx=>by
  have hl:=z7g h hx
  rw [z4b h hl] at hx hn⊢
  rcases List.mem_cons.1 hx with rfl | hx
  ·exact ⟨[],by rw [List.nil_append,z4b h hl]⟩
  ·obtain ⟨pre,hp⟩:=zA7 h n (YW F s) (by simpa using hn) hx
   exact ⟨s :: pre,by rw [hp];rfl⟩
theorem zMn (h:Inv F) {s x y:Nm} (hx:x∈ch F s) (hy:y∈ch F x):y∈ch F s:=by
 obtain ⟨_,hp⟩:=zA7 h _ s (znl _) hx
 rw [hp]
 exact List.mem_append_right _ hy
theorem zQg (h:Inv F) {s x:Nm} (hx:x∈ch F s):(ch F x).length<=(ch F s).length:=by
 obtain ⟨_,hp⟩:=zA7 h _ s (znl _) hx
 rw [hp,List.length_append]
 omega
theorem z2w (h:Inv F) {s:Nm} (hs:ZJ F s=true):(ch F s).length=(ch F (YW F s)).length+1:=by rw [z4b h hs];rfl
theorem zF7 (h:Inv F) {s:Nm}:∀(n:Nat) (x:Nm),(ch F x).length<=n->s∈ch F x->x≠s->∃c,ZJ F c=true/\YW F c=s/\c∈ch F x
 | 0,x,hn,hx,_=>by
  have:ch F x=[]:=List.eq_nil_of_length_eq_zero (by omega)
  rw [this] at hx
  simp at hx
 | n+1,x,hn,hx,hne=>by
  have hl:=z7g h hx
  have hx':=hx
  rw [z4b h hl] at hx'
  rcases List.mem_cons.1 hx' with e | hx'
  ·exact absurd e.symm hne
  ·by_cases hp:YW F x=s
   ·exact ⟨x,hl,hp,z78 h hl⟩
   ·obtain ⟨c,c1,c2,c3⟩:=zF7 h n (YW F x) (by have:=z2w h hl;omega) hx' hp
    refine ⟨c,c1,c2,?_⟩
    rw [z4b h hl]
    exact zmc _ c3
def IsHigh (F:Fs) (s:Nm) (n:Nat):Prop:=
 (ZJ F s=false->n=0)/\(ZJ F s=true->(∀x,s∈ch F x->(ch F x).length+1<=n+(ch F s).length)/\∃x,s∈ch F x/\(ch F x).length+1=n+(ch F s).length)
theorem IsHigh.up (h:Inv F) {s:Nm} (hs:ZJ F s=true) {m:Nat} (h1:∀c,ZJ F c=true->YW F c=s->∃k,IsHigh F c k/\k<=m) (h2:m=0\/∃c,ZJ F c=true/\YW F c=s/\IsHigh F c m):IsHigh F s (m+1):=by
 refine ⟨fun hl=>(by rw [hs] at hl;cases hl),fun _=>⟨fun x hx=>?_,?_⟩⟩
 ·by_cases e:x=s
  ·subst e;omega
  obtain ⟨c,c1,c2,c3⟩:=zF7 h _ x (znl _) hx e
  obtain ⟨k,k1,_⟩:=h1 c c1 c2
  have h3:=(k1.2 c1).1 x c3
  have h4:=z2w h c1
  rw [c2] at h4
  omega
 rcases h2 with rfl | ⟨c,c1,c2,c3⟩
 ·exact ⟨s,z78 h hs,by omega⟩
 obtain ⟨_,x,x1,_⟩:=c3.2 c1
 have h4:=z2w h c1
 rw [c2] at h4
 refine ⟨x,zMn h x1 ?_,by omega⟩
 rw [z4b h c1,c2]
 exact zmc _ (z78 h hs)
def upd (F:Fs) (s:Nm) (v:Nm×Bool):Fs:=fun x=>if x=s then some v else F x
theorem YZ (s x:Nm) (v:Nm×Bool):ZJ (upd F s v) x=if x=s then !v.2 else ZJ F x:=by
 unfold ZJ upd
 by_cases h:x=s<;>simp [h]
theorem z40 (s x:Nm) (v:Nm×Bool):YW (upd F s v) x=if x=s then v.1 else YW F x:=by
 unfold YW upd
 by_cases h:x=s<;>simp [h]
theorem zD0 (h:Inv F) {s p:Nm} (hs:ZJ F s=false) (hne:s≠Top):∀(k:Nat) (x:Nm),x≠s->chN (upd F s (p,false)) k x=chN F k x
 | 0,_,_=>rfl
 | k+1,x,hx=>by
  rw [chN,chN,YZ,if_neg hx,z40,if_neg hx]
  split
  ·rename_i hl
   rw [zD0 h hs hne k (YW F x) fun e=>?_]
   rcases h.up x hl with h1 | h1
   ·exact hne (by rw [<-e,h1])
   ·rw [e,hs] at h1;cases h1
  ·rfl
theorem Inv.add (h:Inv F) {s p:Nm} (hs:ZJ F s=false) (hne:s≠Top) (hp:p=Top\/ZJ F p=true) (hl:(ch F p).length<=3):Inv (upd F s (p,false)):=by
 have hps:p≠s:=fun e=>by
  rcases hp with h1 | h1
  ·exact hne (by rw [<-e,h1])
  ·rw [e,hs] at h1;cases h1
 refine ⟨by rw [YZ,if_neg (Ne.symm hne)];exact h.no,fun x hx=>?_,fun x=>?_⟩
 ·rw [YZ] at hx
  rw [z40]
  by_cases e:x=s
  ·rw [if_pos e]
   rcases hp with h1 | h1
   ·exact .inl h1
   right;rw [YZ,if_neg hps];exact h1
  rw [if_neg e] at hx⊢
  rcases h.up x hx with h1 | h1
  ·exact .inl h1
  right
  rw [YZ,if_neg fun e2=>by rw [e2,hs] at h1;cases h1]
  exact h1
 by_cases e:x=s
 ·subst e
  unfold ch
  rw [chN,YZ,if_pos rfl,z40,if_pos rfl]
  have h1:(chN F 4 p).length<=(chN F 5 p).length:=z3w F 4 p
  have h2:=zD0 h (p:=p) hs hne 4 p hps
  unfold ch at hl
  dsimp only
  rw [h2]
  simp
  omega
 unfold ch
 rw [zD0 h hs hne 5 x e]
 exact h.deep x
theorem zA8 (h:Inv F) {s p:Nm} (hs:ZJ F s=true):∀(k:Nat) (x:Nm),s∉ch F x->chN (upd F s (p,false)) k x=chN F k x
 | 0,_,_=>rfl
 | k+1,x,hx=>by
  have hne:x≠s:=fun e=>hx (by rw [e];exact z78 h hs)
  rw [chN,chN,YZ,if_neg hne,z40,if_neg hne]
  split
  ·rename_i hl
   rw [zA8 h hs k (YW F x) fun hm=>hx (by rw [z4b h hl];exact zmc _ hm)]
  ·rfl
theorem zDt (h:Inv F) {s p:Nm} (hs:ZJ F s=true) (hsp:s∉ch F p):∀(n k:Nat) (x:Nm),(ch F x).length<=n->s∈ch F x->k<=5->(chN (upd F s (p,false)) k x).length+(ch F s).length<=(ch F x).length+1+(ch F p).length
 | 0,_,x,hn,hx,_=>by
  have:ch F x=[]:=List.eq_nil_of_length_eq_zero (by omega)
  rw [this] at hx
  simp at hx
 | n+1,0,x,hn,hx,_=>by
  have:=zQg h hx
  simp [chN]
  omega
 | n+1,k+1,x,hn,hx,hk=>by
  rw [chN,YZ,z40]
  by_cases e:x=s
  ·subst e
   rw [if_pos rfl,if_pos rfl]
   dsimp only
   rw [zA8 h hs k p hsp]
   have:(chN F k p).length<=(chN F 5 p).length:=by
    have m1:(chN F 0 p).length<=(chN F 1 p).length:=z3w F 0 p
    have m2:(chN F 1 p).length<=(chN F 2 p).length:=z3w F 1 p
    have m3:(chN F 2 p).length<=(chN F 3 p).length:=z3w F 2 p
    have m4:(chN F 3 p).length<=(chN F 4 p).length:=z3w F 3 p
    have m5:(chN F 4 p).length<=(chN F 5 p).length:=z3w F 4 p
    rcases (show k=0\/k=1\/k=2\/k=3\/k=4 by omega) with rfl | rfl | rfl | rfl | rfl<;>omega
   unfold ch
   simp
   omega
  ·rw [if_neg e,if_neg e]
   have hl:=z7g h hx
   rw [if_pos hl]
   have hx':=hx
   rw [z4b h hl] at hx'
   have hx2:s∈ch F (YW F x):=(List.mem_cons.1 hx').resolve_left fun e2=>e e2.symm
   have:=zDt h hs hsp n k (YW F x) (by have:=z2w h hl;omega) hx2 (by omega)
   have h4:=z2w h hl
   simp only [List.length_cons]
   omega
theorem Inv.move (h:Inv F) {s p:Nm} (hs:ZJ F s=true) (hp:p=Top\/ZJ F p=true) (hsp:s∉ch F p) {n:Nat} (hn:IsHigh F s n) (hl:(ch F p).length+n<=4):Inv (upd F s (p,false)):=by
 have hst:s≠Top:=fun e=>by rw [e,h.no] at hs;cases hs
 have lv:∀x,ZJ (upd F s (p,false)) x=ZJ F x:=fun x=>by
  rw [YZ]
  by_cases e:x=s
  ·rw [if_pos e,e,hs];rfl
  ·rw [if_neg e]
 refine ⟨by rw [lv];exact h.no,fun x hx=>?_,fun x=>?_⟩
 ·rw [lv] at hx
  rw [z40,lv]
  by_cases e:x=s
  ·rw [if_pos e];exact hp
  rw [if_neg e];exact h.up x hx
 by_cases e:s∈ch F x
 ·have h1:=zDt h hs hsp _ 5 x (znl _) e (znl _)
  have h2:=(hn.2 hs).1 x e
  unfold ch at h1 h2 hl⊢
  omega
 unfold ch
 rw [zA8 h hs 5 x e]
 exact h.deep x
theorem zF8 (h:Inv F) {s q:Nm} (hc:∀x,ZJ F x=true->YW F x≠s):∀(k:Nat) (x:Nm),x≠s->chN (upd F s (q,true)) k x=chN F k x
 | 0,_,_=>rfl
 | k+1,x,hx=>by
  rw [chN,chN,YZ,if_neg hx,z40,if_neg hx]
  split
  ·rename_i hl
   rw [zF8 h hc k (YW F x) (hc x hl)]
  ·rfl
theorem Inv.gone (h:Inv F) {s q:Nm} (hs:ZJ F s=true) (hc:∀x,ZJ F x=true->YW F x≠s):Inv (upd F s (q,true)):=by
 have hst:s≠Top:=fun e=>by rw [e,h.no] at hs;cases hs
 refine ⟨by rw [YZ,if_neg (Ne.symm hst)];exact h.no,fun x hx=>?_,fun x=>?_⟩
 ·rw [YZ] at hx
  by_cases e:x=s
  ·rw [if_pos e] at hx;cases hx
  rw [if_neg e] at hx
  rw [z40,if_neg e,YZ,if_neg (hc x hx)]
  exact h.up x hx
 by_cases e:x=s
 ·subst e
  unfold ch
  rw [chN,YZ,if_pos rfl]
  simp
 unfold ch
 rw [zF8 h hc 5 x e]
 exact h.deep x
theorem Inv.start:Inv (fun _=>none):=⟨rfl,fun s hs=>by simp [ZJ] at hs,fun s=>by simp [ch,chN,ZJ]⟩
end
end
section
open Go.RowKit Go.Deep Go.ChangeShapes Go.WideShapes
section
variable {P:Program} (w:World)
theorem zMo (ts:Array TypeId) (t:TypeId) (k k':IntKind) (x y:Int):(Builtin.max_ ts t #[.int k x,.int k' y]).run P w= .ok (.int k (max x y)) w:=by
 rw [run_max_int2];congr 2;split<;>omega
theorem zMp (ts:Array TypeId) (t:TypeId) (k k' k'':IntKind) (x y z:Int):(Builtin.max_ ts t #[.int k x,.int k' y,.int k'' z]).run P w= .ok (.int k (max (max x y) z)) w:=by
 rw [run_max_int3];congr 2;split<;>split<;>omega
theorem zMq (ts:Array TypeId) (t:TypeId) (k k':IntKind) (x y:Int):(Builtin.min_ ts t #[.int k x,.int k' y]).run P w= .ok (.int k (min x y)) w:=by
 rw [run_min_int2];congr 2;split<;>omega
theorem zMr (ts:Array TypeId) (t:TypeId) (k k' k'':IntKind) (x y z:Int):(Builtin.min_ ts t #[.int k x,.int k' y,.int k'' z]).run P w= .ok (.int k (min (min x y) z)) w:=by
 rw [run_min_int3];congr 2;split<;>split<;>omega
end
attribute [go_sem high] zMo zMp zMq zMr
def I64 (n:Int):Prop:= -9223372036854775808<=n/\n<=9223372036854775807
abbrev Rp (α:Type):=(Nat->Prop)->World->List Value->α->Prop
def Kept (S S':Nat->Prop) (w w':World):Prop:=∀b,S b->b < w.heap.size->S' b/\w'.heap[b]? =w.heap[b]?
theorem Kept.refl {S S':Nat->Prop} (w:World) (h:∀b,S b->S' b):Kept S S' w w:=fun b hb _=>⟨h b hb,rfl⟩
theorem Kept.below {S S':Nat->Prop} {w w':World} (h:Below w.heap.size w w') (hS:∀b,S b->S' b):Kept S S' w w':=fun b hb hl=>⟨hS b hb,h.block b hl⟩
structure RpOk {α:Type} (sz:Nat) (R:Rp α):Prop where
 len:∀{S:Nat->Prop} {w:World} {cs:List Value} {x:α},R S w cs x->cs.length=sz
 keep:∀{S S':Nat->Prop} {w w':World} {cs:List Value} {x:α},R S w cs x->Kept S S' w w'->R S' w' cs x
 one:∀{S:Nat->Prop} {w:World} {cs:List Value} {x:α},R S w cs x->∀u∈cs,u.oneCell'=true
def SlAt {α:Type} (sz:Nat) (R:Rp α) (S:Nat->Prop) (w:World) (A:Option Addr) (l:List α):Prop:=
 ∀i x,l[i]? =some x->∃b o ys,A=some ⟨b,o,none⟩/\S b/\ys.length=sz/\(∀j y,ys[j]? =some y->w.cell? ⟨b,o+(i*sz+j),none⟩=some y)/\R S w ys x
def Sl {α:Type} (sz:Nat) (R:Rp α) (S:Nat->Prop) (w:World) (v:Value) (l:List α):Prop:=
 ∃A c,v= .slice A l.length c/\l.length<=c/\c<=maxLen/\l.length<=140737488355328/\SlAt sz R S w A l
theorem zF {w:World} {p:Addr} {v:Value} (h:w.cell? p=some v):p.block < w.heap.size:=World.block_lt_of_cell? w p h
theorem Z1 {S S':Nat->Prop} {w w':World} {p:Addr} {v:Value} (h:Kept S S' w w') (hS:S p.block) (hc:w.cell? p=some v):w'.cell? p=some v:=
 (World.cell?_of_block (h p.block hS (zF hc)).2).trans hc
section
variable {α:Type} {sz:Nat} {R:Rp α} {S S':Nat->Prop} {w w':World}
theorem SlAt.keep (ok:RpOk sz R) (hsz:0 < sz) {A:Option Addr} {l:List α} (h:SlAt sz R S w A l) (k:Kept S S' w w'):SlAt sz R S' w' A l:=by
 intro i x hx
 obtain ⟨b,o,ys,hA,hS,hl,hc,hR⟩:=h i x hx
 have h0:∃y,ys[0]? =some y:=⟨ys[0]'(by omega),List.getElem?_eq_getElem (by omega)⟩
 obtain ⟨y,hy⟩:=h0
 have hb:=zF (hc 0 y hy)
 exact ⟨b,o,ys,hA,(k b hS hb).1,hl,fun j y hj=>Z1 k hS (hc j y hj),ok.keep hR k⟩
theorem Sl.keep (ok:RpOk sz R) (hsz:0 < sz) {v:Value} {l:List α} (h:Sl sz R S w v l) (k:Kept S S' w w'):Sl sz R S' w' v l:=by
 obtain ⟨A,c,hv,h1,h2,h2',h3⟩:=h
 exact ⟨A,c,hv,h1,h2,h2',h3.keep ok hsz k⟩
end
theorem zO (w:World) (cs:Array Value) (T:TypeId):∃W,w.alloc (.cells cs T)=W/\(∀j v,cs[j]? =some v->W.cell? ⟨w.heap.size,j,none⟩=some v)/\(∀j,W.frozen? ⟨w.heap.size,j,none⟩=false)/\Below w.heap.size w W/\w.heap.size < W.heap.size:=by
 refine ⟨_,rfl,fun j v hj=>?_,fun j=>?_,(Below.refl _ _).alloc (znl _) _,by simp⟩
 ·rw [cell_of_row _ w.heap.size j cs T (0,0) (heap_alloc_new w _)];exact hj
 have h:=heap_alloc_new w (.cells cs T)
 unfold World.frozen?
 rw [h]
 simp
theorem z00 {α:Type} (sz:Nat) (R:Rp α) (S:Nat->Prop) (w:World):Sl sz R S w (.slice none 0 0) []:=⟨none,0,rfl,znl _,Nat.zero_le _,Nat.zero_le _,fun i x hi=>by simp at hi⟩
theorem zQh {α:Type} {sz:Nat} {R:Rp α} {S:Nat->Prop} {w:World} {b o n c:Nat} {l:List α} (hl:l.length=n) (h1:n<=c) (h2:c<=maxLen) (h2':n<=140737488355328) (hS:S b)
  (h:∀i x,l[i]? =some x->∃ys:List Value,ys.length=sz/\(∀j y,ys[j]? =some y->w.cell? ⟨b,o+(i*sz+j),none⟩=some y)/\R S w ys x):Sl sz R S w (.slice (some ⟨b,o,none⟩) n c) l:=by
 subst hl
 refine ⟨_,c,rfl,h1,h2,h2',fun i x hi=>?_⟩
 obtain ⟨ys,h3,h4,h5⟩:=h i x hi
 exact ⟨b,o,ys,rfl,hS,h3,h4,h5⟩
def z7h {H:Type} (P:Program) (t:TypeId) (d:DataW H):Prop:=∀n∈d.weights P t,n<=reachBytes
abbrev Rd (P:Program) (w:World) (t:TypeId) {α:Type} (R:Rp α):Prop:=
 ∀{H:Type} {enc:TypeId×Value->H} {base:Nat} {spare:Nat->Bool} {held:Bool} {fuel:Nat} {cs:List Value} {x:DataW H×List MemPlace},
  DataW.trod enc P w base spare held fuel t cs=some x->z7h P t x.1->∃a,R (fun _=>True) w cs a
theorem zDu {H:Type} {P:Program} {e:TypeId}:∀{ds:List (DataW H)} {d:DataW H},d∈ds->∀n∈d.weights P e,n∈DataW.weightsAll P e ds
 | x :: r,d,h,n,hn=>by
  rw [DataW.weightsAll,List.mem_append]
  rcases List.mem_cons.1 h with rfl | h
  ·exact .inl hn
  ·exact .inr (zDu h n hn)
def zF9:Rp Int:=fun _ _ cs n=>cs=[.int .i64 n]/\I64 n
def z2i:Rp ByteArray:=fun _ _ cs s=>cs=[.string s]/\s.size<=140737488355328
def yN:Rp Int:=fun _ _ cs n=>cs=[.int .u8 n]/\0<=n/\n<=255
def rSl {α:Type} (sz:Nat) (R:Rp α):Rp (List α):=fun S w cs l=>∃v,cs=[v]/\Sl sz R S w v l
theorem YK:RpOk 1 z2i:=⟨fun h=>by rw [h.1];rfl,fun h _=>h,fun h u hu=>by rw [h.1] at hu;simp at hu;subst hu;rfl⟩
theorem rByte_ok:RpOk 1 yN:=⟨fun h=>by rw [h.1];rfl,fun h _=>h,fun h u hu=>by rw [h.1] at hu;simp at hu;subst hu;rfl⟩
section
variable {P:Program} {w:World} {t:TypeId}
theorem zPp (ht:P.underlying t=some (.int .i64)):Rd P w t zF9:=by
 intro H enc base spare held fuel cs x h _
 obtain ⟨n,hc,_,hw⟩:=DataW.trod_int ht h
 exact ⟨n,hc,by simp [Lit.wf] at hw;exact hw⟩
theorem zOh (ht:P.underlying t=some (.int .u8)):Rd P w t yN:=by
 intro H enc base spare held fuel cs x h _
 obtain ⟨n,hc,_,hw⟩:=DataW.trod_int ht h
 exact ⟨n,hc,by simp [Lit.wf] at hw;exact hw⟩
theorem zPq (ht:P.underlying t=some .string):Rd P w t z2i:=by
 intro H enc base spare held fuel cs x h hz
 obtain ⟨s,hc,hx,_⟩:=DataW.trod_string ht h
 subst hx
 have:=hz s.data.toList.length (by simp [DataW.weights])
 exact ⟨s,hc,by unfold reachBytes at this;simpa using Nat.le_trans this (by decide)⟩
variable {H:Type} {enc:TypeId×Value->H} {base:Nat} {spare:Nat->Bool} {held:Bool} {fuel:Nat} {v:Value} {x:DataW H×List MemPlace}
theorem zD1 (ht:P.underlying t=some (.int .i64)) (h:DataW.trod enc P w base spare held fuel t [v]=some x) (hz:z7h P t x.1):∃a,v= .int .i64 a/\I64 a:=by
 obtain ⟨a,h1,h2⟩:=zPp ht h hz
 exact ⟨a,by simpa using h1,h2⟩
theorem z9a (ht:P.underlying t=some .string) (h:DataW.trod enc P w base spare held fuel t [v]=some x) (hz:z7h P t x.1):∃a,v= .string a/\a.size<=140737488355328:=by
 obtain ⟨a,h1,h2⟩:=zPq ht h hz
 exact ⟨a,by simpa using h1,h2⟩
theorem zKg {α:Type} {sz:Nat} {R:Rp α} (hR:Rd P w t (rSl sz R)) (h:DataW.trod enc P w base spare held fuel t [v]=some x) (hz:z7h P t x.1):∃l,Sl sz R (fun _=>True) w v l:=by
 obtain ⟨l,u,h1,h2⟩:=hR h hz
 obtain rfl:v=u:=by simpa using h1
 exact ⟨l,h2⟩
end
end
def ltS (a b:ByteArray):Bool:=Op.bytesLess a.toList b.toList
theorem z2y:∀l:List UInt8,Op.bytesLess l l=false
 | []=>rfl
 | a :: l=>by simp [Op.bytesLess,z2y l]
theorem z4c:∀l r:List UInt8,Op.bytesLess l r=true\/l=r\/Op.bytesLess r l=true
 | [],[]=> .inr (.inl rfl)
 | [],_ :: _=> .inl rfl
 | _ :: _,[]=> .inr (.inr rfl)
 | a :: l,b :: r=>by
  rcases Nat.lt_trichotomy a.toNat b.toNat with h | h | h
  ·left;simp [Op.bytesLess,UInt8.lt_iff_toNat_lt,h]
  ·obtain rfl:a=b:=UInt8.toNat_inj.1 h
   rcases z4c l r with h1 | h1 | h1
   ·left;simp [Op.bytesLess,h1]
   ·right;left;rw [h1]
   ·right;right;simp [Op.bytesLess,h1]
  ·right;right;simp [Op.bytesLess,UInt8.lt_iff_toNat_lt,h]
theorem z4d:∀l m r:List UInt8,Op.bytesLess l m=true->Op.bytesLess m r=true->Op.bytesLess l r=true
 | [],[],_,h,_=>by cases h
 | [],_ :: _,[],_,h=>by cases h
 | [],_ :: _,_ :: _,_,_=>rfl
 | _ :: _,[],_,h,_=>by cases h
 | _ :: _,_ :: _,[],_,h=>by cases h
 | a :: l,b :: m,c :: r,h,k=>by
  simp only [Op.bytesLess,Bool.or_eq_true,Bool.and_eq_true,decide_eq_true_eq,beq_iff_eq,UInt8.lt_iff_toNat_lt] at h k⊢
  rcases h with h | ⟨rfl,h⟩
  ·rcases k with k | ⟨rfl,k⟩
   ·left;omega
   ·left;exact h
  ·rcases k with k | ⟨rfl,k⟩
   ·left;exact k
   ·right;exact ⟨rfl,z4d l m r h k⟩
theorem toList_inj {a b:ByteArray} (h:a.toList=b.toList):a=b:=by
 rw [Lib.toList_data,Lib.toList_data] at h
 exact ByteArray.ext (Array.toList_inj.1 h)
theorem YB (a:ByteArray):ltS a a=false:=z2y _
theorem YT {a b c:ByteArray} (h:ltS a b=true) (k:ltS b c=true):ltS a c=true:=z4d _ _ _ h k
theorem z13 (a b:ByteArray):ltS a b=true\/a=b\/ltS b a=true:=(z4c a.toList b.toList).imp id fun h=>h.imp toList_inj id
theorem z35 {a b:ByteArray} (h:ltS a b=true):ltS b a=false:=by
 cases k:ltS b a
 ·rfl
 have:=YT h k
 rw [YB] at this
 cases this
theorem z58 {a b:ByteArray} (h:ltS a b=true):a≠b:=fun e=>by rw [e,YB] at h;cases h
section
open Go.RowKit Go.Deep Go.ChangeShapes Go.WideShapes
theorem zKh {P:Program} {w:World} {t:TypeId} {fs:Array Field} (ht:P.underlying t=some (.struct fs)) (hone:oneCellFields P fs=true) (hC:P.cellsOf t=fs.size)
  {H:Type} {enc:TypeId×Value->H} {base:Nat} {spare:Nat->Bool} {held:Bool} {fuel:Nat} {cs:List Value} {x:DataW H×List MemPlace}
  (h:DataW.trod enc P w base spare held fuel t cs=some x) (hz:z7h P t x.1):
  cs.length=fs.size/\∃n,∀j f,fs[j]? =some f->∃y,DataW.trod enc P w base spare held n f.type [cs.getD j undef]=some y/\z7h P f.type y.1:=by
 obtain ⟨xs,n,_,hx,hl,_,hf⟩:=DataW.trod_struct ht h
 subst hx
 refine ⟨hl.trans hC,n,fun j f hj=>?_⟩
 obtain ⟨ho,hk⟩:=hone_of hone j f hj
 have hjl:j < fs.size:=(Array.getElem?_eq_some_iff.1 hj).1
 have h1:=hf j f hj
 rw [ho,hk,take1_drop cs j undef (by omega),List.getElem?_eq_getElem (by omega)] at h1
 refine ⟨_,h1,fun m hm=>hz m ?_⟩
 simp only [DataW.weights,ht]
 exact DataW.weights_mem_each (j:=j) (t:=f.type) (by simp [hj]) (by simp [List.getElem?_eq_getElem (show j < xs.length by omega)]) m hm
theorem zH {S:Nat->Prop} {w wr:World} (h:Below w.heap.size w wr):Kept S S w wr:=Kept.below h fun _ h=>h
theorem z2j {W w1:World} (hb:Below W.heap.size W w1):(∀b o,b < W.heap.size->w1.cell? ⟨b,o,none⟩=W.cell? ⟨b,o,none⟩)/\(∀b o,b < W.heap.size->w1.frozen? ⟨b,o,none⟩=W.frozen? ⟨b,o,none⟩):=
 ⟨fun b o h=>hb.cell (p:=⟨b,o,none⟩) h,fun b o h=>hb.frozen (p:=⟨b,o,none⟩) h⟩
theorem zB {w W w1:World} (h:Below w.heap.size w W) (h1:Below W.heap.size W w1):Below w.heap.size w w1:=h.trans (h1.mono h.size)
theorem ZI {a b:Bool} (h:a=b):Ending.returned (.bool a)= .returned (.bool b):=by rw [h]
theorem Z9 {k:IntKind} {a b:Int} (h:a=b):Ending.returned (.int k a)= .returned (.int k b):=by rw [h]
theorem zOi {α β:Type} {p:Nat->β->Prop} {q:β->α->Prop} {len:Nat} (h:∀i,i < len->∃r:α×β,p i r.2/\q r.2 r.1):∃l:List α,l.length=len/\∀i x,l[i]? =some x->∃ys,p i ys/\q ys x:=by
 induction len with
 | zero=>exact ⟨[],rfl,fun i x hi=>by simp at hi⟩
 | succ k ih=>
  obtain ⟨l,hl,hl'⟩:=ih (fun i hi=>h i (by omega))
  obtain ⟨r,q1,q2⟩:=h k (by omega)
  refine ⟨l++[r.1],by simp [hl],fun i x hi=>?_⟩
  rcases Nat.lt_or_ge i k with hlt | hge
  ·exact hl' i x (by rwa [List.getElem?_append_left (by omega)] at hi)
  rw [List.getElem?_append_right (by omega)] at hi
  have:i=k:=by
   rcases Nat.lt_or_ge (i - l.length) 1 with h1 | h1
   ·omega
   ·rw [List.getElem?_eq_none (by simpa using h1)] at hi;cases hi
  subst this
  simp [hl] at hi
  subst hi
  exact ⟨r.2,q1,q2⟩
theorem z4e {α:Type} {l:List α} {k:Nat} (h:k < l.length):∃x,l[k]? =some x/\l.drop k=x :: l.drop (k+1)/\x∈l:=⟨l[k],List.getElem?_eq_getElem h,List.drop_eq_getElem_cons h,List.getElem_mem h⟩
theorem zFa {α:Type} {P:Program} {w:World} {t e:TypeId} {sz:Nat} {R:Rp α} (ht:P.underlying t=some (.slice e)) (hC:P.cellsOf e=sz) (hby:0 < P.bytesOf e) (hsz:0 < sz) (hR:Rd P w e R) (hlen:∀{S:Nat->Prop} {w:World} {cs:List Value} {x:α},R S w cs x->cs.length=sz):Rd P w t (rSl sz R):=by
 intro H enc base spare held fuel cs x h hz
 rcases open_slice ht h with ⟨rfl,_⟩ | ⟨a,len,cap,m,n,D,Pl,rfl,hb,hl,hm,hmm,hxx,hx⟩
 ·exact ⟨[],_,rfl,z00 _ _ _ _⟩
 have hlm:len<=m:=by rw [hmm];split<;>omega
 have hall:∀i,i < len->∃q:α×List Value,w.cells? base (a.add (i*sz)) sz=some q.2/\R (fun _=>True) w q.2 q.1:=by
  intro i hi
  obtain ⟨cs',h1,h2⟩:=hx i (by omega)
  obtain ⟨y,hy⟩:=hR h2 (fun q hq=>hz q (by
   rw [hxx]
   simp only [DataW.weights,ht,List.mem_cons,List.mem_append]
   exact .inr (.inl (zDu (List.mem_map.2 ⟨i,List.mem_range.2 hi,rfl⟩) q hq))))
  rw [hC] at h1
  exact ⟨(y,cs'),h1,hy⟩
 obtain ⟨l,hll,hl'⟩:=zOi (p:=fun i ys=>w.cells? base (a.add (i*sz)) sz=some ys) (q:=fun ys x=>R (fun _=>True) w ys x) hall
 have hlen47:len<=140737488355328:=by
  have h1:=hz ((((List.range len).map D).length+((List.range (m - len)).map fun j=>D (len+j)).length)*P.bytesOf e) (by rw [hxx];simp [DataW.weights,ht])
  have h2:len<=(((List.range len).map D).length+((List.range (m - len)).map fun j=>D (len+j)).length)*P.bytesOf e:=by
   rw [List.length_map,List.length_range]
   exact Nat.le_trans (Nat.le_add_right _ _) (Nat.le_mul_of_pos_right _ hby)
  exact Nat.le_trans h2 (Nat.le_trans h1 (by decide))
 refine ⟨l,_,rfl,some a,cap,by rw [hll],by omega,hm,by omega,fun i x hi=>?_⟩
 have hil:i < len:=by have:=(zge hi).1;omega
 obtain ⟨ys,h1,h2⟩:=hl' i x hi
 obtain ⟨_,hyl,hyc⟩:=World.cells?_some h1
 obtain ⟨b,o,sp⟩:=a
 obtain ⟨q0,h0,_⟩:=hall 0 (by omega)
 obtain ⟨_,hyl0,hyc0⟩:=World.cells?_some h0
 have h00:=hyc0 0 hsz
 rw [List.getElem?_eq_getElem (by omega),Nat.zero_mul] at h00
 have hsp:sp=none:=World.cell?_spot h00
 subst hsp
 refine ⟨b,o,ys,rfl,trivial,hyl,fun j y hj=>?_,h2⟩
 have hjl:j < sz:=by have:=(zge hj).1;omega
 have h3:=hyc j hjl
 rw [hj,add_add] at h3
 have e:(⟨b,o,none⟩:Addr).add (i*sz+j)=⟨b,o+(i*sz+j),none⟩:=by
  unfold Addr.add
  split
  ·rename_i h;rw [h];rfl
  ·rfl
 rw [e] at h3
 exact h3
structure User where
 name:ByteArray
 lost:Bool
def z01:Rp User:=fun S w cs x=>cs=[.string x.name,.bool x.lost]/\x.name.size<=140737488355328
theorem zKi {S:Nat->Prop} {w:World} {cs:List Value} {x:User} (h:z01 S w cs x):cs.length=2:=by
 obtain ⟨rfl,_⟩:=h
 rfl
theorem z1q {S S':Nat->Prop} {w w':World} {cs:List Value} {x:User} (h:z01 S w cs x) (k:Kept S S' w w'):z01 S' w' cs x:=by
 obtain ⟨e,c0⟩:=h
 exact ⟨e,c0⟩
theorem zKj {S:Nat->Prop} {w:World} {cs:List Value} {x:User} (h:z01 S w cs x):∀u∈cs,u.oneCell'=true:=by
 obtain ⟨e,_⟩:=h
 intro u hu
 rw [e] at hu
 simp only [List.mem_cons,List.not_mem_nil,or_false] at hu
 rcases hu with rfl | rfl<;>rfl
theorem YG:RpOk 2 z01:=⟨zKi,z1q,zKj⟩
theorem z8h {S:Nat->Prop} {w:World} {cs:List Value} {x:User} (h:z01 S w cs x):cs=[.string x.name,.bool x.lost]/\x.name.size<=140737488355328:=by
 obtain ⟨e,c0⟩:=h
 exact ⟨e,c0⟩
theorem z5w {S S':Nat->Prop} {w wr:World} {A:Option Addr} {l:List User} {k:Nat} (s:SlAt 2 z01 S w A l) (hk:k < l.length) (hb:Kept S S' w wr):
  ∃x b o,l[k]? =some x/\l.drop k=x :: l.drop (k+1)/\x∈l/\A=some ⟨b,o,none⟩/\b < w.heap.size/\S b/\wr.cell? ⟨b,o+k*2,none⟩=some (.string x.name)/\wr.cell? ⟨b,o+k*2+1,none⟩=some (.bool x.lost)/\z01 S' wr [.string x.name,.bool x.lost] x/\x.name.size<=140737488355328:=by
 obtain ⟨x,hx,hd,hm⟩:=z4e hk
 obtain ⟨b,o,_,hA,hS,_,hc,hR⟩:=s k _ hx
 have hR':=z1q hR hb
 obtain ⟨e,hrest⟩:=z8h hR'
 subst e
 have c0':wr.cell? ⟨b,o+k*2,none⟩=_:=Z1 (p:=⟨b,o+(k*2+0),none⟩) hb hS (hc 0 _ rfl)
 have c1':wr.cell? ⟨b,o+k*2+1,none⟩=_:=Z1 (p:=⟨b,o+(k*2+1),none⟩) hb hS (hc 1 _ rfl)
 exact ⟨x,b,o,hx,hd,hm,hA,zF (hc 0 _ rfl),hS,c0',c1',hR',hrest⟩
structure Pair where
 frm:ByteArray
 to:ByteArray
def YV:Rp Pair:=fun S w cs x=>cs=[.string x.frm,.string x.to]/\x.frm.size<=140737488355328/\x.to.size<=140737488355328
theorem zKk {S:Nat->Prop} {w:World} {cs:List Value} {x:Pair} (h:YV S w cs x):cs.length=2:=by
 obtain ⟨rfl,_,_⟩:=h
 rfl
theorem z2k {S S':Nat->Prop} {w w':World} {cs:List Value} {x:Pair} (h:YV S w cs x) (k:Kept S S' w w'):YV S' w' cs x:=by
 obtain ⟨e,c0,c1⟩:=h
 exact ⟨e,c0,c1⟩
theorem zKl {S:Nat->Prop} {w:World} {cs:List Value} {x:Pair} (h:YV S w cs x):∀u∈cs,u.oneCell'=true:=by
 obtain ⟨e,_,_⟩:=h
 intro u hu
 rw [e] at hu
 simp only [List.mem_cons,List.not_mem_nil,or_false] at hu
 rcases hu with rfl | rfl<;>rfl
theorem z19:RpOk 2 YV:=⟨zKk,z2k,zKl⟩
theorem z8i {S:Nat->Prop} {w:World} {cs:List Value} {x:Pair} (h:YV S w cs x):cs=[.string x.frm,.string x.to]/\x.frm.size<=140737488355328/\x.to.size<=140737488355328:=by
 obtain ⟨e,c0,c1⟩:=h
 exact ⟨e,c0,c1⟩
theorem zA9 {S S':Nat->Prop} {w wr:World} {A:Option Addr} {l:List Pair} {k:Nat} (s:SlAt 2 YV S w A l) (hk:k < l.length) (hb:Kept S S' w wr):
  ∃x b o,l[k]? =some x/\l.drop k=x :: l.drop (k+1)/\x∈l/\A=some ⟨b,o,none⟩/\b < w.heap.size/\S b/\wr.cell? ⟨b,o+k*2,none⟩=some (.string x.frm)/\wr.cell? ⟨b,o+k*2+1,none⟩=some (.string x.to)/\YV S' wr [.string x.frm,.string x.to] x/\x.frm.size<=140737488355328/\x.to.size<=140737488355328:=by
 obtain ⟨x,hx,hd,hm⟩:=z4e hk
 obtain ⟨b,o,_,hA,hS,_,hc,hR⟩:=s k _ hx
 have hR':=z2k hR hb
 obtain ⟨e,hrest⟩:=z8i hR'
 subst e
 have c0':wr.cell? ⟨b,o+k*2,none⟩=_:=Z1 (p:=⟨b,o+(k*2+0),none⟩) hb hS (hc 0 _ rfl)
 have c1':wr.cell? ⟨b,o+k*2+1,none⟩=_:=Z1 (p:=⟨b,o+(k*2+1),none⟩) hb hS (hc 1 _ rfl)
 exact ⟨x,b,o,hx,hd,hm,hA,zF (hc 0 _ rfl),hS,c0',c1',hR',hrest⟩
structure At where
 name:ByteArray
 seq:Int
def rAt:Rp At:=fun S w cs x=>cs=[.string x.name,.int .i64 x.seq]/\x.name.size<=140737488355328/\I64 x.seq
theorem zOj {S:Nat->Prop} {w:World} {cs:List Value} {x:At} (h:rAt S w cs x):cs.length=2:=by
 obtain ⟨rfl,_,_⟩:=h
 rfl
theorem zFb {S S':Nat->Prop} {w w':World} {cs:List Value} {x:At} (h:rAt S w cs x) (k:Kept S S' w w'):rAt S' w' cs x:=by
 obtain ⟨e,c0,c1⟩:=h
 exact ⟨e,c0,c1⟩
theorem zOk {S:Nat->Prop} {w:World} {cs:List Value} {x:At} (h:rAt S w cs x):∀u∈cs,u.oneCell'=true:=by
 obtain ⟨e,_,_⟩:=h
 intro u hu
 rw [e] at hu
 simp only [List.mem_cons,List.not_mem_nil,or_false] at hu
 rcases hu with rfl | rfl<;>rfl
theorem Z8:RpOk 2 rAt:=⟨zOj,zFb,zOk⟩
theorem z41 {S:Nat->Prop} {w:World} {cs:List Value} {x:At} (h:rAt S w cs x):cs=[.string x.name,.int .i64 x.seq]/\x.name.size<=140737488355328/\I64 x.seq:=by
 obtain ⟨e,c0,c1⟩:=h
 exact ⟨e,c0,c1⟩
theorem zFc {S S':Nat->Prop} {w wr:World} {A:Option Addr} {l:List At} {k:Nat} (s:SlAt 2 rAt S w A l) (hk:k < l.length) (hb:Kept S S' w wr):
  ∃x b o,l[k]? =some x/\l.drop k=x :: l.drop (k+1)/\x∈l/\A=some ⟨b,o,none⟩/\b < w.heap.size/\S b/\wr.cell? ⟨b,o+k*2,none⟩=some (.string x.name)/\wr.cell? ⟨b,o+k*2+1,none⟩=some (.int .i64 x.seq)/\rAt S' wr [.string x.name,.int .i64 x.seq] x/\x.name.size<=140737488355328/\I64 x.seq:=by
 obtain ⟨x,hx,hd,hm⟩:=z4e hk
 obtain ⟨b,o,_,hA,hS,_,hc,hR⟩:=s k _ hx
 have hR':=zFb hR hb
 obtain ⟨e,hrest⟩:=z41 hR'
 subst e
 have c0':wr.cell? ⟨b,o+k*2,none⟩=_:=Z1 (p:=⟨b,o+(k*2+0),none⟩) hb hS (hc 0 _ rfl)
 have c1':wr.cell? ⟨b,o+k*2+1,none⟩=_:=Z1 (p:=⟨b,o+(k*2+1),none⟩) hb hS (hc 1 _ rfl)
 exact ⟨x,b,o,hx,hd,hm,hA,zF (hc 0 _ rfl),hS,c0',c1',hR',hrest⟩
structure Member where
 name:ByteArray
 role:Int
def zY:Rp Member:=fun S w cs x=>cs=[.string x.name,.int .i64 x.role]/\x.name.size<=140737488355328/\I64 x.role
theorem zGt {S:Nat->Prop} {w:World} {cs:List Value} {x:Member} (h:zY S w cs x):cs.length=2:=by
 obtain ⟨rfl,_,_⟩:=h
 rfl
theorem z8j {S S':Nat->Prop} {w w':World} {cs:List Value} {x:Member} (h:zY S w cs x) (k:Kept S S' w w'):zY S' w' cs x:=by
 obtain ⟨e,c0,c1⟩:=h
 exact ⟨e,c0,c1⟩
theorem zGu {S:Nat->Prop} {w:World} {cs:List Value} {x:Member} (h:zY S w cs x):∀u∈cs,u.oneCell'=true:=by
 obtain ⟨e,_,_⟩:=h
 intro u hu
 rw [e] at hu
 simp only [List.mem_cons,List.not_mem_nil,or_false] at hu
 rcases hu with rfl | rfl<;>rfl
theorem ZC:RpOk 2 zY:=⟨zGt,z8j,zGu⟩
theorem z3n {S:Nat->Prop} {w:World} {cs:List Value} {x:Member} (h:zY S w cs x):cs=[.string x.name,.int .i64 x.role]/\x.name.size<=140737488355328/\I64 x.role:=by
 obtain ⟨e,c0,c1⟩:=h
 exact ⟨e,c0,c1⟩
theorem Y5 {S S':Nat->Prop} {w wr:World} {A:Option Addr} {l:List Member} {k:Nat} (s:SlAt 2 zY S w A l) (hk:k < l.length) (hb:Kept S S' w wr):
  ∃x b o,l[k]? =some x/\l.drop k=x :: l.drop (k+1)/\x∈l/\A=some ⟨b,o,none⟩/\b < w.heap.size/\S b/\wr.cell? ⟨b,o+k*2,none⟩=some (.string x.name)/\wr.cell? ⟨b,o+k*2+1,none⟩=some (.int .i64 x.role)/\zY S' wr [.string x.name,.int .i64 x.role] x/\x.name.size<=140737488355328/\I64 x.role:=by
 obtain ⟨x,hx,hd,hm⟩:=z4e hk
 obtain ⟨b,o,_,hA,hS,_,hc,hR⟩:=s k _ hx
 have hR':=z8j hR hb
 obtain ⟨e,hrest⟩:=z3n hR'
 subst e
 have c0':wr.cell? ⟨b,o+k*2,none⟩=_:=Z1 (p:=⟨b,o+(k*2+0),none⟩) hb hS (hc 0 _ rfl)
 have c1':wr.cell? ⟨b,o+k*2+1,none⟩=_:=Z1 (p:=⟨b,o+(k*2+1),none⟩) hb hS (hc 1 _ rfl)
 exact ⟨x,b,o,hx,hd,hm,hA,zF (hc 0 _ rfl),hS,c0',c1',hR',hrest⟩
structure Manifest where
 folder:ByteArray
 seq:Int
 prev:List Int
 parent:ByteArray
 members:List Member
 cut:Int
 gone:Bool
 who:ByteArray
def ZO:Rp Manifest:=fun S w cs x=>∃v2 v4,cs=[.string x.folder,.int .i64 x.seq,v2,.string x.parent,v4,.int .i64 x.cut,.bool x.gone,.string x.who]/\x.folder.size<=140737488355328/\I64 x.seq/\Sl 1 yN S w v2 x.prev/\x.parent.size<=140737488355328/\Sl 2 zY S w v4 x.members/\I64 x.cut/\x.who.size<=140737488355328
theorem zEt {S:Nat->Prop} {w:World} {cs:List Value} {x:Manifest} (h:ZO S w cs x):cs.length=8:=by
 obtain ⟨_,_,rfl,_,_,_,_,_,_,_⟩:=h
 rfl
theorem Y1 {S S':Nat->Prop} {w w':World} {cs:List Value} {x:Manifest} (h:ZO S w cs x) (k:Kept S S' w w'):ZO S' w' cs x:=by
 obtain ⟨v2,v4,e,c0,c1,c2,c3,c4,c5,c6⟩:=h
 exact ⟨v2,v4,e,c0,c1,c2.keep rByte_ok (by decide) k,c3,c4.keep ZC (by decide) k,c5,c6⟩
theorem zEu {S:Nat->Prop} {w:World} {cs:List Value} {x:Manifest} (h:ZO S w cs x):∀u∈cs,u.oneCell'=true:=by
 obtain ⟨_,_,e,_,_,c2,_,c4,_,_⟩:=h
 obtain ⟨_,_,rfl,_⟩:=c2
 obtain ⟨_,_,rfl,_⟩:=c4
 intro u hu
 rw [e] at hu
 simp only [List.mem_cons,List.not_mem_nil,or_false] at hu
 rcases hu with rfl | rfl | rfl | rfl | rfl | rfl | rfl | rfl<;>rfl
theorem z1a:RpOk 8 ZO:=⟨zEt,Y1,zEu⟩
theorem yO {S:Nat->Prop} {w:World} {cs:List Value} {x:Manifest} (h:ZO S w cs x):∃A2 c2 A4 c4,cs=[.string x.folder,.int .i64 x.seq,.slice A2 x.prev.length c2,.string x.parent,.slice A4 x.members.length c4,.int .i64 x.cut,.bool x.gone,.string x.who]/\x.folder.size<=140737488355328/\I64 x.seq/\x.prev.length<=c2/\c2<=9223372036854775807/\x.prev.length<=140737488355328/\SlAt 1 yN S w A2 x.prev/\x.parent.size<=140737488355328/\x.members.length<=c4/\c4<=9223372036854775807/\x.members.length<=140737488355328/\SlAt 2 zY S w A4 x.members/\I64 x.cut/\x.who.size<=140737488355328:=by
 obtain ⟨_,_,e,c0,c1,c2,c3,c4,c5,c6⟩:=h
 obtain ⟨A2,k2,rfl,l2,m2,n2,s2⟩:=c2
 obtain ⟨A4,k4,rfl,l4,m4,n4,s4⟩:=c4
 exact ⟨A2,k2,A4,k4,e,c0,c1,l2,(by simpa [maxLen] using m2),n2,s2,c3,l4,(by simpa [maxLen] using m4),n4,s4,c5,c6⟩
theorem z5x {S S':Nat->Prop} {w wr:World} {A:Option Addr} {l:List Manifest} {k:Nat} (s:SlAt 8 ZO S w A l) (hk:k < l.length) (hb:Kept S S' w wr):
  ∃x b o A2 c2 A4 c4,l[k]? =some x/\l.drop k=x :: l.drop (k+1)/\x∈l/\A=some ⟨b,o,none⟩/\b < w.heap.size/\S b/\wr.cell? ⟨b,o+k*8,none⟩=some (.string x.folder)/\wr.cell? ⟨b,o+k*8+1,none⟩=some (.int .i64 x.seq)/\wr.cell? ⟨b,o+k*8+2,none⟩=some (.slice A2 x.prev.length c2)/\wr.cell? ⟨b,o+k*8+3,none⟩=some (.string x.parent)/\wr.cell? ⟨b,o+k*8+4,none⟩=some (.slice A4 x.members.length c4)/\wr.cell? ⟨b,o+k*8+5,none⟩=some (.int .i64 x.cut)/\wr.cell? ⟨b,o+k*8+6,none⟩=some (.bool x.gone)/\wr.cell? ⟨b,o+k*8+7,none⟩=some (.string x.who)/\ZO S' wr [.string x.folder,.int .i64 x.seq,.slice A2 x.prev.length c2,.string x.parent,.slice A4 x.members.length c4,.int .i64 x.cut,.bool x.gone,.string x.who] x/\x.folder.size<=140737488355328/\I64 x.seq/\x.prev.length<=c2/\c2<=9223372036854775807/\x.prev.length<=140737488355328/\SlAt 1 yN S' wr A2 x.prev/\x.parent.size<=140737488355328/\x.members.length<=c4/\c4<=9223372036854775807/\x.members.length<=140737488355328/\SlAt 2 zY S' wr A4 x.members/\I64 x.cut/\x.who.size<=140737488355328:=by
 obtain ⟨x,hx,hd,hm⟩:=z4e hk
 obtain ⟨b,o,_,hA,hS,_,hc,hR⟩:=s k _ hx
 have hR':=Y1 hR hb
 obtain ⟨A2,c2,A4,c4,e,hrest⟩:=yO hR'
 subst e
 have c0':wr.cell? ⟨b,o+k*8,none⟩=_:=Z1 (p:=⟨b,o+(k*8+0),none⟩) hb hS (hc 0 _ rfl)
 have c1':wr.cell? ⟨b,o+k*8+1,none⟩=_:=Z1 (p:=⟨b,o+(k*8+1),none⟩) hb hS (hc 1 _ rfl)
 have c2':wr.cell? ⟨b,o+k*8+2,none⟩=_:=Z1 (p:=⟨b,o+(k*8+2),none⟩) hb hS (hc 2 _ rfl)
 have c3':wr.cell? ⟨b,o+k*8+3,none⟩=_:=Z1 (p:=⟨b,o+(k*8+3),none⟩) hb hS (hc 3 _ rfl)
 have c4':wr.cell? ⟨b,o+k*8+4,none⟩=_:=Z1 (p:=⟨b,o+(k*8+4),none⟩) hb hS (hc 4 _ rfl)
 have c5':wr.cell? ⟨b,o+k*8+5,none⟩=_:=Z1 (p:=⟨b,o+(k*8+5),none⟩) hb hS (hc 5 _ rfl)
 have c6':wr.cell? ⟨b,o+k*8+6,none⟩=_:=Z1 (p:=⟨b,o+(k*8+6),none⟩) hb hS (hc 6 _ rfl)
 have c7':wr.cell? ⟨b,o+k*8+7,none⟩=_:=Z1 (p:=⟨b,o+(k*8+7),none⟩) hb hS (hc 7 _ rfl)
 exact ⟨x,b,o,A2,c2,A4,c4,hx,hd,hm,hA,zF (hc 0 _ rfl),hS,c0',c1',c2',c3',c4',c5',c6',c7',hR',hrest⟩
structure Epoch where
 place:Int
 frm:Int
 seq:Int
 chain:List At
 who:ByteArray
def Y6:Rp Epoch:=fun S w cs x=>∃v3,cs=[.int .i64 x.place,.int .i64 x.frm,.int .i64 x.seq,v3,.string x.who]/\I64 x.place/\I64 x.frm/\I64 x.seq/\Sl 2 rAt S w v3 x.chain/\x.who.size<=140737488355328
theorem zIl {S:Nat->Prop} {w:World} {cs:List Value} {x:Epoch} (h:Y6 S w cs x):cs.length=5:=by
 obtain ⟨_,rfl,_,_,_,_,_⟩:=h
 rfl
theorem z14 {S S':Nat->Prop} {w w':World} {cs:List Value} {x:Epoch} (h:Y6 S w cs x) (k:Kept S S' w w'):Y6 S' w' cs x:=by
 obtain ⟨v3,e,c0,c1,c2,c3,c4⟩:=h
 exact ⟨v3,e,c0,c1,c2,c3.keep Z8 (by decide) k,c4⟩
theorem zIm {S:Nat->Prop} {w:World} {cs:List Value} {x:Epoch} (h:Y6 S w cs x):∀u∈cs,u.oneCell'=true:=by
 obtain ⟨_,e,_,_,_,c3,_⟩:=h
 obtain ⟨_,_,rfl,_⟩:=c3
 intro u hu
 rw [e] at hu
 simp only [List.mem_cons,List.not_mem_nil,or_false] at hu
 rcases hu with rfl | rfl | rfl | rfl | rfl<;>rfl
theorem z36:RpOk 5 Y6:=⟨zIl,z14,zIm⟩
theorem z2l {S:Nat->Prop} {w:World} {cs:List Value} {x:Epoch} (h:Y6 S w cs x):∃A3 c3,cs=[.int .i64 x.place,.int .i64 x.frm,.int .i64 x.seq,.slice A3 x.chain.length c3,.string x.who]/\I64 x.place/\I64 x.frm/\I64 x.seq/\x.chain.length<=c3/\c3<=9223372036854775807/\x.chain.length<=140737488355328/\SlAt 2 rAt S w A3 x.chain/\x.who.size<=140737488355328:=by
 obtain ⟨_,e,c0,c1,c2,c3,c4⟩:=h
 obtain ⟨A3,k3,rfl,l3,m3,n3,s3⟩:=c3
 exact ⟨A3,k3,e,c0,c1,c2,l3,(by simpa [maxLen] using m3),n3,s3,c4⟩
theorem zDv {S S':Nat->Prop} {w wr:World} {A:Option Addr} {l:List Epoch} {k:Nat} (s:SlAt 5 Y6 S w A l) (hk:k < l.length) (hb:Kept S S' w wr):
  ∃x b o A3 c3,l[k]? =some x/\l.drop k=x :: l.drop (k+1)/\x∈l/\A=some ⟨b,o,none⟩/\b < w.heap.size/\S b/\wr.cell? ⟨b,o+k*5,none⟩=some (.int .i64 x.place)/\wr.cell? ⟨b,o+k*5+1,none⟩=some (.int .i64 x.frm)/\wr.cell? ⟨b,o+k*5+2,none⟩=some (.int .i64 x.seq)/\wr.cell? ⟨b,o+k*5+3,none⟩=some (.slice A3 x.chain.length c3)/\wr.cell? ⟨b,o+k*5+4,none⟩=some (.string x.who)/\Y6 S' wr [.int .i64 x.place,.int .i64 x.frm,.int .i64 x.seq,.slice A3 x.chain.length c3,.string x.who] x/\I64 x.place/\I64 x.frm/\I64 x.seq/\x.chain.length<=c3/\c3<=9223372036854775807/\x.chain.length<=140737488355328/\SlAt 2 rAt S' wr A3 x.chain/\x.who.size<=140737488355328:=by
 obtain ⟨x,hx,hd,hm⟩:=z4e hk
 obtain ⟨b,o,_,hA,hS,_,hc,hR⟩:=s k _ hx
 have hR':=z14 hR hb
 obtain ⟨A3,c3,e,hrest⟩:=z2l hR'
 subst e
 have c0':wr.cell? ⟨b,o+k*5,none⟩=_:=Z1 (p:=⟨b,o+(k*5+0),none⟩) hb hS (hc 0 _ rfl)
 have c1':wr.cell? ⟨b,o+k*5+1,none⟩=_:=Z1 (p:=⟨b,o+(k*5+1),none⟩) hb hS (hc 1 _ rfl)
 have c2':wr.cell? ⟨b,o+k*5+2,none⟩=_:=Z1 (p:=⟨b,o+(k*5+2),none⟩) hb hS (hc 2 _ rfl)
 have c3':wr.cell? ⟨b,o+k*5+3,none⟩=_:=Z1 (p:=⟨b,o+(k*5+3),none⟩) hb hS (hc 3 _ rfl)
 have c4':wr.cell? ⟨b,o+k*5+4,none⟩=_:=Z1 (p:=⟨b,o+(k*5+4),none⟩) hb hS (hc 4 _ rfl)
 exact ⟨x,b,o,A3,c3,hx,hd,hm,hA,zF (hc 0 _ rfl),hS,c0',c1',c2',c3',c4',hR',hrest⟩
structure Version where
 epoch:Int
 gone:Bool
 who:ByteArray
 data:List Int
def yB:Rp Version:=fun S w cs x=>∃v3,cs=[.int .i64 x.epoch,.bool x.gone,.string x.who,v3]/\I64 x.epoch/\x.who.size<=140737488355328/\Sl 1 yN S w v3 x.data
theorem zFd {S:Nat->Prop} {w:World} {cs:List Value} {x:Version} (h:yB S w cs x):cs.length=4:=by
 obtain ⟨_,rfl,_,_,_⟩:=h
 rfl
theorem z09 {S S':Nat->Prop} {w w':World} {cs:List Value} {x:Version} (h:yB S w cs x) (k:Kept S S' w w'):yB S' w' cs x:=by
 obtain ⟨v3,e,c0,c1,c2⟩:=h
 exact ⟨v3,e,c0,c1,c2.keep rByte_ok (by decide) k⟩
theorem zFe {S:Nat->Prop} {w:World} {cs:List Value} {x:Version} (h:yB S w cs x):∀u∈cs,u.oneCell'=true:=by
 obtain ⟨_,e,_,_,c2⟩:=h
 obtain ⟨_,_,rfl,_⟩:=c2
 intro u hu
 rw [e] at hu
 simp only [List.mem_cons,List.not_mem_nil,or_false] at hu
 rcases hu with rfl | rfl | rfl | rfl<;>rfl
theorem z1y:RpOk 4 yB:=⟨zFd,z09,zFe⟩
theorem z5y {S:Nat->Prop} {w:World} {cs:List Value} {x:Version} (h:yB S w cs x):∃A3 c3,cs=[.int .i64 x.epoch,.bool x.gone,.string x.who,.slice A3 x.data.length c3]/\I64 x.epoch/\x.who.size<=140737488355328/\x.data.length<=c3/\c3<=9223372036854775807/\x.data.length<=140737488355328/\SlAt 1 yN S w A3 x.data:=by
 obtain ⟨_,e,c0,c1,c2⟩:=h
 obtain ⟨A3,k3,rfl,l3,m3,n3,s3⟩:=c2
 exact ⟨A3,k3,e,c0,c1,l3,(by simpa [maxLen] using m3),n3,s3⟩
theorem z3o {S S':Nat->Prop} {w wr:World} {A:Option Addr} {l:List Version} {k:Nat} (s:SlAt 4 yB S w A l) (hk:k < l.length) (hb:Kept S S' w wr):
  ∃x b o A3 c3,l[k]? =some x/\l.drop k=x :: l.drop (k+1)/\x∈l/\A=some ⟨b,o,none⟩/\b < w.heap.size/\S b/\wr.cell? ⟨b,o+k*4,none⟩=some (.int .i64 x.epoch)/\wr.cell? ⟨b,o+k*4+1,none⟩=some (.bool x.gone)/\wr.cell? ⟨b,o+k*4+2,none⟩=some (.string x.who)/\wr.cell? ⟨b,o+k*4+3,none⟩=some (.slice A3 x.data.length c3)/\yB S' wr [.int .i64 x.epoch,.bool x.gone,.string x.who,.slice A3 x.data.length c3] x/\I64 x.epoch/\x.who.size<=140737488355328/\x.data.length<=c3/\c3<=9223372036854775807/\x.data.length<=140737488355328/\SlAt 1 yN S' wr A3 x.data:=by
 obtain ⟨x,hx,hd,hm⟩:=z4e hk
 obtain ⟨b,o,_,hA,hS,_,hc,hR⟩:=s k _ hx
 have hR':=z09 hR hb
 obtain ⟨A3,c3,e,hrest⟩:=z5y hR'
 subst e
 have c0':wr.cell? ⟨b,o+k*4,none⟩=_:=Z1 (p:=⟨b,o+(k*4+0),none⟩) hb hS (hc 0 _ rfl)
 have c1':wr.cell? ⟨b,o+k*4+1,none⟩=_:=Z1 (p:=⟨b,o+(k*4+1),none⟩) hb hS (hc 1 _ rfl)
 have c2':wr.cell? ⟨b,o+k*4+2,none⟩=_:=Z1 (p:=⟨b,o+(k*4+2),none⟩) hb hS (hc 2 _ rfl)
 have c3':wr.cell? ⟨b,o+k*4+3,none⟩=_:=Z1 (p:=⟨b,o+(k*4+3),none⟩) hb hS (hc 3 _ rfl)
 exact ⟨x,b,o,A3,c3,hx,hd,hm,hA,zF (hc 0 _ rfl),hS,c0',c1',c2',c3',hR',hrest⟩
structure Item where
 name:ByteArray
 versions:List Version
def yV:Rp Item:=fun S w cs x=>∃v1,cs=[.string x.name,v1]/\x.name.size<=140737488355328/\Sl 4 yB S w v1 x.versions
theorem zKm {S:Nat->Prop} {w:World} {cs:List Value} {x:Item} (h:yV S w cs x):cs.length=2:=by
 obtain ⟨_,rfl,_,_⟩:=h
 rfl
theorem z4f {S S':Nat->Prop} {w w':World} {cs:List Value} {x:Item} (h:yV S w cs x) (k:Kept S S' w w'):yV S' w' cs x:=by
 obtain ⟨v1,e,c0,c1⟩:=h
 exact ⟨v1,e,c0,c1.keep z1y (by decide) k⟩
theorem zKn {S:Nat->Prop} {w:World} {cs:List Value} {x:Item} (h:yV S w cs x):∀u∈cs,u.oneCell'=true:=by
 obtain ⟨_,e,_,c1⟩:=h
 obtain ⟨_,_,rfl,_⟩:=c1
 intro u hu
 rw [e] at hu
 simp only [List.mem_cons,List.not_mem_nil,or_false] at hu
 rcases hu with rfl | rfl<;>rfl
theorem z1z:RpOk 2 yV:=⟨zKm,z4f,zKn⟩
theorem z37 {S:Nat->Prop} {w:World} {cs:List Value} {x:Item} (h:yV S w cs x):∃A1 c1,cs=[.string x.name,.slice A1 x.versions.length c1]/\x.name.size<=140737488355328/\x.versions.length<=c1/\c1<=9223372036854775807/\x.versions.length<=140737488355328/\SlAt 4 yB S w A1 x.versions:=by
 obtain ⟨_,e,c0,c1⟩:=h
 obtain ⟨A1,k1,rfl,l1,m1,n1,s1⟩:=c1
 exact ⟨A1,k1,e,c0,l1,(by simpa [maxLen] using m1),n1,s1⟩
theorem z2m {S S':Nat->Prop} {w wr:World} {A:Option Addr} {l:List Item} {k:Nat} (s:SlAt 2 yV S w A l) (hk:k < l.length) (hb:Kept S S' w wr):
  ∃x b o A1 c1,l[k]? =some x/\l.drop k=x :: l.drop (k+1)/\x∈l/\A=some ⟨b,o,none⟩/\b < w.heap.size/\S b/\wr.cell? ⟨b,o+k*2,none⟩=some (.string x.name)/\wr.cell? ⟨b,o+k*2+1,none⟩=some (.slice A1 x.versions.length c1)/\yV S' wr [.string x.name,.slice A1 x.versions.length c1] x/\x.name.size<=140737488355328/\x.versions.length<=c1/\c1<=9223372036854775807/\x.versions.length<=140737488355328/\SlAt 4 yB S' wr A1 x.versions:=by
 obtain ⟨x,hx,hd,hm⟩:=z4e hk
 obtain ⟨b,o,_,hA,hS,_,hc,hR⟩:=s k _ hx
 have hR':=z4f hR hb
 obtain ⟨A1,c1,e,hrest⟩:=z37 hR'
 subst e
 have c0':wr.cell? ⟨b,o+k*2,none⟩=_:=Z1 (p:=⟨b,o+(k*2+0),none⟩) hb hS (hc 0 _ rfl)
 have c1':wr.cell? ⟨b,o+k*2+1,none⟩=_:=Z1 (p:=⟨b,o+(k*2+1),none⟩) hb hS (hc 1 _ rfl)
 exact ⟨x,b,o,A1,c1,hx,hd,hm,hA,zF (hc 0 _ rfl),hS,c0',c1',hR',hrest⟩
structure Wrap where
 name:ByteArray
 epoch:Int
 seed:Bool
def yW:Rp Wrap:=fun S w cs x=>cs=[.string x.name,.int .i64 x.epoch,.bool x.seed]/\x.name.size<=140737488355328/\I64 x.epoch
theorem zKo {S:Nat->Prop} {w:World} {cs:List Value} {x:Wrap} (h:yW S w cs x):cs.length=3:=by
 obtain ⟨rfl,_,_⟩:=h
 rfl
theorem z2n {S S':Nat->Prop} {w w':World} {cs:List Value} {x:Wrap} (h:yW S w cs x) (k:Kept S S' w w'):yW S' w' cs x:=by
 obtain ⟨e,c0,c1⟩:=h
 exact ⟨e,c0,c1⟩
theorem zDw {S:Nat->Prop} {w:World} {cs:List Value} {x:Wrap} (h:yW S w cs x):∀u∈cs,u.oneCell'=true:=by
 obtain ⟨e,_,_⟩:=h
 intro u hu
 rw [e] at hu
 simp only [List.mem_cons,List.not_mem_nil,or_false] at hu
 rcases hu with rfl | rfl | rfl<;>rfl
theorem z2o:RpOk 3 yW:=⟨zKo,z2n,zDw⟩
theorem z2g {S:Nat->Prop} {w:World} {cs:List Value} {x:Wrap} (h:yW S w cs x):cs=[.string x.name,.int .i64 x.epoch,.bool x.seed]/\x.name.size<=140737488355328/\I64 x.epoch:=by
 obtain ⟨e,c0,c1⟩:=h
 exact ⟨e,c0,c1⟩
theorem z7i {S S':Nat->Prop} {w wr:World} {A:Option Addr} {l:List Wrap} {k:Nat} (s:SlAt 3 yW S w A l) (hk:k < l.length) (hb:Kept S S' w wr):
  ∃x b o,l[k]? =some x/\l.drop k=x :: l.drop (k+1)/\x∈l/\A=some ⟨b,o,none⟩/\b < w.heap.size/\S b/\wr.cell? ⟨b,o+k*3,none⟩=some (.string x.name)/\wr.cell? ⟨b,o+k*3+1,none⟩=some (.int .i64 x.epoch)/\wr.cell? ⟨b,o+k*3+2,none⟩=some (.bool x.seed)/\yW S' wr [.string x.name,.int .i64 x.epoch,.bool x.seed] x/\x.name.size<=140737488355328/\I64 x.epoch:=by
 obtain ⟨x,hx,hd,hm⟩:=z4e hk
 obtain ⟨b,o,_,hA,hS,_,hc,hR⟩:=s k _ hx
 have hR':=z2n hR hb
 obtain ⟨e,hrest⟩:=z2g hR'
 subst e
 have c0':wr.cell? ⟨b,o+k*3,none⟩=_:=Z1 (p:=⟨b,o+(k*3+0),none⟩) hb hS (hc 0 _ rfl)
 have c1':wr.cell? ⟨b,o+k*3+1,none⟩=_:=Z1 (p:=⟨b,o+(k*3+1),none⟩) hb hS (hc 1 _ rfl)
 have c2':wr.cell? ⟨b,o+k*3+2,none⟩=_:=Z1 (p:=⟨b,o+(k*3+2),none⟩) hb hS (hc 2 _ rfl)
 exact ⟨x,b,o,hx,hd,hm,hA,zF (hc 0 _ rfl),hS,c0',c1',c2',hR',hrest⟩
structure Link where
 epoch:Int
 to:ByteArray
 seq:Int
def YP:Rp Link:=fun S w cs x=>cs=[.int .i64 x.epoch,.string x.to,.int .i64 x.seq]/\I64 x.epoch/\x.to.size<=140737488355328/\I64 x.seq
theorem zKp {S:Nat->Prop} {w:World} {cs:List Value} {x:Link} (h:YP S w cs x):cs.length=3:=by
 obtain ⟨rfl,_,_,_⟩:=h
 rfl
theorem z4g {S S':Nat->Prop} {w w':World} {cs:List Value} {x:Link} (h:YP S w cs x) (k:Kept S S' w w'):YP S' w' cs x:=by
 obtain ⟨e,c0,c1,c2⟩:=h
 exact ⟨e,c0,c1,c2⟩
theorem zKq {S:Nat->Prop} {w:World} {cs:List Value} {x:Link} (h:YP S w cs x):∀u∈cs,u.oneCell'=true:=by
 obtain ⟨e,_,_,_⟩:=h
 intro u hu
 rw [e] at hu
 simp only [List.mem_cons,List.not_mem_nil,or_false] at hu
 rcases hu with rfl | rfl | rfl<;>rfl
theorem z2p:RpOk 3 YP:=⟨zKp,z4g,zKq⟩
theorem z59 {S:Nat->Prop} {w:World} {cs:List Value} {x:Link} (h:YP S w cs x):cs=[.int .i64 x.epoch,.string x.to,.int .i64 x.seq]/\I64 x.epoch/\x.to.size<=140737488355328/\I64 x.seq:=by
 obtain ⟨e,c0,c1,c2⟩:=h
 exact ⟨e,c0,c1,c2⟩
theorem zAa {S S':Nat->Prop} {w wr:World} {A:Option Addr} {l:List Link} {k:Nat} (s:SlAt 3 YP S w A l) (hk:k < l.length) (hb:Kept S S' w wr):
  ∃x b o,l[k]? =some x/\l.drop k=x :: l.drop (k+1)/\x∈l/\A=some ⟨b,o,none⟩/\b < w.heap.size/\S b/\wr.cell? ⟨b,o+k*3,none⟩=some (.int .i64 x.epoch)/\wr.cell? ⟨b,o+k*3+1,none⟩=some (.string x.to)/\wr.cell? ⟨b,o+k*3+2,none⟩=some (.int .i64 x.seq)/\YP S' wr [.int .i64 x.epoch,.string x.to,.int .i64 x.seq] x/\I64 x.epoch/\x.to.size<=140737488355328/\I64 x.seq:=by
 obtain ⟨x,hx,hd,hm⟩:=z4e hk
 obtain ⟨b,o,_,hA,hS,_,hc,hR⟩:=s k _ hx
 have hR':=z4g hR hb
 obtain ⟨e,hrest⟩:=z59 hR'
 subst e
 have c0':wr.cell? ⟨b,o+k*3,none⟩=_:=Z1 (p:=⟨b,o+(k*3+0),none⟩) hb hS (hc 0 _ rfl)
 have c1':wr.cell? ⟨b,o+k*3+1,none⟩=_:=Z1 (p:=⟨b,o+(k*3+1),none⟩) hb hS (hc 1 _ rfl)
 have c2':wr.cell? ⟨b,o+k*3+2,none⟩=_:=Z1 (p:=⟨b,o+(k*3+2),none⟩) hb hS (hc 2 _ rfl)
 exact ⟨x,b,o,hx,hd,hm,hA,zF (hc 0 _ rfl),hS,c0',c1',c2',hR',hrest⟩
structure Folder where
 name:ByteArray
 turn:Int
 manifests:List Manifest
 epochs:List Epoch
 items:List Item
 wraps:List Wrap
 links:List Link
def ZE:Rp Folder:=fun S w cs x=>∃v2 v3 v4 v5 v6,cs=[.string x.name,.int .i64 x.turn,v2,v3,v4,v5,v6]/\x.name.size<=140737488355328/\I64 x.turn/\Sl 8 ZO S w v2 x.manifests/\Sl 5 Y6 S w v3 x.epochs/\Sl 2 yV S w v4 x.items/\Sl 3 yW S w v5 x.wraps/\Sl 3 YP S w v6 x.links
theorem zGv {S:Nat->Prop} {w:World} {cs:List Value} {x:Folder} (h:ZE S w cs x):cs.length=7:=by
 obtain ⟨_,_,_,_,_,rfl,_,_,_,_,_,_,_⟩:=h
 rfl
theorem Z0 {S S':Nat->Prop} {w w':World} {cs:List Value} {x:Folder} (h:ZE S w cs x) (k:Kept S S' w w'):ZE S' w' cs x:=by
 obtain ⟨v2,v3,v4,v5,v6,e,c0,c1,c2,c3,c4,c5,c6⟩:=h
 exact ⟨v2,v3,v4,v5,v6,e,c0,c1,c2.keep z1a (by decide) k,c3.keep z36 (by decide) k,c4.keep z1z (by decide) k,c5.keep z2o (by decide) k,c6.keep z2p (by decide) k⟩
theorem z9r {S:Nat->Prop} {w:World} {cs:List Value} {x:Folder} (h:ZE S w cs x):∀u∈cs,u.oneCell'=true:=by
 obtain ⟨_,_,_,_,_,e,_,_,c2,c3,c4,c5,c6⟩:=h
 obtain ⟨_,_,rfl,_⟩:=c2
 obtain ⟨_,_,rfl,_⟩:=c3
 obtain ⟨_,_,rfl,_⟩:=c4
 obtain ⟨_,_,rfl,_⟩:=c5
 obtain ⟨_,_,rfl,_⟩:=c6
 intro u hu
 rw [e] at hu
 simp only [List.mem_cons,List.not_mem_nil,or_false] at hu
 rcases hu with rfl | rfl | rfl | rfl | rfl | rfl | rfl<;>rfl
theorem z02:RpOk 7 ZE:=⟨zGv,Z0,z9r⟩
theorem Z5 {S:Nat->Prop} {w:World} {cs:List Value} {x:Folder} (h:ZE S w cs x):∃A2 c2 A3 c3 A4 c4 A5 c5 A6 c6,cs=[.string x.name,.int .i64 x.turn,.slice A2 x.manifests.length c2,.slice A3 x.epochs.length c3,.slice A4 x.items.length c4,.slice A5 x.wraps.length c5,.slice A6 x.links.length c6]/\x.name.size<=140737488355328/\I64 x.turn/\x.manifests.length<=c2/\c2<=9223372036854775807/\x.manifests.length<=140737488355328/\SlAt 8 ZO S w A2 x.manifests/\x.epochs.length<=c3/\c3<=9223372036854775807/\x.epochs.length<=140737488355328/\SlAt 5 Y6 S w A3 x.epochs/\x.items.length<=c4/\c4<=9223372036854775807/\x.items.length<=140737488355328/\SlAt 2 yV S w A4 x.items/\x.wraps.length<=c5/\c5<=9223372036854775807/\x.wraps.length<=140737488355328/\SlAt 3 yW S w A5 x.wraps/\x.links.length<=c6/\c6<=9223372036854775807/\x.links.length<=140737488355328/\SlAt 3 YP S w A6 x.links:=by
 obtain ⟨_,_,_,_,_,e,c0,c1,c2,c3,c4,c5,c6⟩:=h
 obtain ⟨A2,k2,rfl,l2,m2,n2,s2⟩:=c2
 obtain ⟨A3,k3,rfl,l3,m3,n3,s3⟩:=c3
 obtain ⟨A4,k4,rfl,l4,m4,n4,s4⟩:=c4
 obtain ⟨A5,k5,rfl,l5,m5,n5,s5⟩:=c5
 obtain ⟨A6,k6,rfl,l6,m6,n6,s6⟩:=c6
 exact ⟨A2,k2,A3,k3,A4,k4,A5,k5,A6,k6,e,c0,c1,l2,(by simpa [maxLen] using m2),n2,s2,l3,(by simpa [maxLen] using m3),n3,s3,l4,(by simpa [maxLen] using m4),n4,s4,l5,(by simpa [maxLen] using m5),n5,s5,l6,(by simpa [maxLen] using m6),n6,s6⟩
theorem z1r {S S':Nat->Prop} {w wr:World} {A:Option Addr} {l:List Folder} {k:Nat} (s:SlAt 7 ZE S w A l) (hk:k < l.length) (hb:Kept S S' w wr):
  ∃x b o A2 c2 A3 c3 A4 c4 A5 c5 A6 c6,l[k]? =some x/\l.drop k=x :: l.drop (k+1)/\x∈l/\A=some ⟨b,o,none⟩/\b < w.heap.size/\S b/\wr.cell? ⟨b,o+k*7,none⟩=some (.string x.name)/\wr.cell? ⟨b,o+k*7+1,none⟩=some (.int .i64 x.turn)/\wr.cell? ⟨b,o+k*7+2,none⟩=some (.slice A2 x.manifests.length c2)/\wr.cell? ⟨b,o+k*7+3,none⟩=some (.slice A3 x.epochs.length c3)/\wr.cell? ⟨b,o+k*7+4,none⟩=some (.slice A4 x.items.length c4)/\wr.cell? ⟨b,o+k*7+5,none⟩=some (.slice A5 x.wraps.length c5)/\wr.cell? ⟨b,o+k*7+6,none⟩=some (.slice A6 x.links.length c6)/\ZE S' wr [.string x.name,.int .i64 x.turn,.slice A2 x.manifests.length c2,.slice A3 x.epochs.length c3,.slice A4 x.items.length c4,.slice A5 x.wraps.length c5,.slice A6 x.links.length c6] x/\x.name.size<=140737488355328/\I64 x.turn/\x.manifests.length<=c2/\c2<=9223372036854775807/\x.manifests.length<=140737488355328/\SlAt 8 ZO S' wr A2 x.manifests/\x.epochs.length<=c3/\c3<=9223372036854775807/\x.epochs.length<=140737488355328/\SlAt 5 Y6 S' wr A3 x.epochs/\x.items.length<=c4/\c4<=9223372036854775807/\x.items.length<=140737488355328/\SlAt 2 yV S' wr A4 x.items/\x.wraps.length<=c5/\c5<=9223372036854775807/\x.wraps.length<=140737488355328/\SlAt 3 yW S' wr A5 x.wraps/\x.links.length<=c6/\c6<=9223372036854775807/\x.links.length<=140737488355328/\SlAt 3 YP S' wr A6 x.links:=by
 obtain ⟨x,hx,hd,hm⟩:=z4e hk
 obtain ⟨b,o,_,hA,hS,_,hc,hR⟩:=s k _ hx
 have hR':=Z0 hR hb
 obtain ⟨A2,c2,A3,c3,A4,c4,A5,c5,A6,c6,e,hrest⟩:=Z5 hR'
 subst e
 have c0':wr.cell? ⟨b,o+k*7,none⟩=_:=Z1 (p:=⟨b,o+(k*7+0),none⟩) hb hS (hc 0 _ rfl)
 have c1':wr.cell? ⟨b,o+k*7+1,none⟩=_:=Z1 (p:=⟨b,o+(k*7+1),none⟩) hb hS (hc 1 _ rfl)
 have c2':wr.cell? ⟨b,o+k*7+2,none⟩=_:=Z1 (p:=⟨b,o+(k*7+2),none⟩) hb hS (hc 2 _ rfl)
 have c3':wr.cell? ⟨b,o+k*7+3,none⟩=_:=Z1 (p:=⟨b,o+(k*7+3),none⟩) hb hS (hc 3 _ rfl)
 have c4':wr.cell? ⟨b,o+k*7+4,none⟩=_:=Z1 (p:=⟨b,o+(k*7+4),none⟩) hb hS (hc 4 _ rfl)
 have c5':wr.cell? ⟨b,o+k*7+5,none⟩=_:=Z1 (p:=⟨b,o+(k*7+5),none⟩) hb hS (hc 5 _ rfl)
 have c6':wr.cell? ⟨b,o+k*7+6,none⟩=_:=Z1 (p:=⟨b,o+(k*7+6),none⟩) hb hS (hc 6 _ rfl)
 exact ⟨x,b,o,A2,c2,A3,c3,A4,c4,A5,c5,A6,c6,hx,hd,hm,hA,zF (hc 0 _ rfl),hS,c0',c1',c2',c3',c4',c5',c6',hR',hrest⟩
structure Past where
 number:Int
 epoch:Int
 gone:Bool
 who:ByteArray
def z4z:Rp Past:=fun S w cs x=>cs=[.int .i64 x.number,.int .i64 x.epoch,.bool x.gone,.string x.who]/\I64 x.number/\I64 x.epoch/\x.who.size<=140737488355328
theorem zKr {S:Nat->Prop} {w:World} {cs:List Value} {x:Past} (h:z4z S w cs x):cs.length=4:=by
 obtain ⟨rfl,_,_,_⟩:=h
 rfl
theorem zIn {S S':Nat->Prop} {w w':World} {cs:List Value} {x:Past} (h:z4z S w cs x) (k:Kept S S' w w'):z4z S' w' cs x:=by
 obtain ⟨e,c0,c1,c2⟩:=h
 exact ⟨e,c0,c1,c2⟩
theorem zKs {S:Nat->Prop} {w:World} {cs:List Value} {x:Past} (h:z4z S w cs x):∀u∈cs,u.oneCell'=true:=by
 obtain ⟨e,_,_,_⟩:=h
 intro u hu
 rw [e] at hu
 simp only [List.mem_cons,List.not_mem_nil,or_false] at hu
 rcases hu with rfl | rfl | rfl | rfl<;>rfl
theorem z5z:RpOk 4 z4z:=⟨zKr,zIn,zKs⟩
structure Answer where
 err:Int
 number:Int
 who:ByteArray
 data:List Int
 names:List ByteArray
 members:List Member
 history:List Past
def YC:Rp Answer:=fun S w cs x=>∃v3 v4 v5 v6,cs=[.int .i64 x.err,.int .i64 x.number,.string x.who,v3,v4,v5,v6]/\I64 x.err/\I64 x.number/\x.who.size<=140737488355328/\Sl 1 yN S w v3 x.data/\Sl 1 z2i S w v4 x.names/\Sl 2 zY S w v5 x.members/\Sl 4 z4z S w v6 x.history
theorem z1b {S S':Nat->Prop} {w w':World} {cs:List Value} {x:Answer} (h:YC S w cs x) (k:Kept S S' w w'):YC S' w' cs x:=by
 obtain ⟨v3,v4,v5,v6,e,c0,c1,c2,c3,c4,c5,c6⟩:=h
 exact ⟨v3,v4,v5,v6,e,c0,c1,c2,c3.keep rByte_ok (by decide) k,c4.keep YK (by decide) k,c5.keep ZC (by decide) k,c6.keep z5z (by decide) k⟩
structure Call where
 kind:Int
 user:ByteArray
 folder:ByteArray
 name:ByteArray
 other:ByteArray
 role:Int
 version:Int
 data:List Int
def z0s:Rp Call:=fun S w cs x=>∃v7,cs=[.int .i64 x.kind,.string x.user,.string x.folder,.string x.name,.string x.other,.int .i64 x.role,.int .i64 x.version,v7]/\I64 x.kind/\x.user.size<=140737488355328/\x.folder.size<=140737488355328/\x.name.size<=140737488355328/\x.other.size<=140737488355328/\I64 x.role/\I64 x.version/\Sl 1 yN S w v7 x.data
theorem zKt {S:Nat->Prop} {w:World} {cs:List Value} {x:Call} (h:z0s S w cs x):cs.length=8:=by
 obtain ⟨_,rfl,_,_,_,_,_,_,_,_⟩:=h
 rfl
theorem YD {S S':Nat->Prop} {w w':World} {cs:List Value} {x:Call} (h:z0s S w cs x) (k:Kept S S' w w'):z0s S' w' cs x:=by
 obtain ⟨v7,e,c0,c1,c2,c3,c4,c5,c6,c7⟩:=h
 exact ⟨v7,e,c0,c1,c2,c3,c4,c5,c6,c7.keep rByte_ok (by decide) k⟩
theorem zKu {S:Nat->Prop} {w:World} {cs:List Value} {x:Call} (h:z0s S w cs x):∀u∈cs,u.oneCell'=true:=by
 obtain ⟨_,e,_,_,_,_,_,_,_,c7⟩:=h
 obtain ⟨_,_,rfl,_⟩:=c7
 intro u hu
 rw [e] at hu
 simp only [List.mem_cons,List.not_mem_nil,or_false] at hu
 rcases hu with rfl | rfl | rfl | rfl | rfl | rfl | rfl | rfl<;>rfl
theorem z7j:RpOk 8 z0s:=⟨zKt,YD,zKu⟩
theorem Y7 {S:Nat->Prop} {w:World} {cs:List Value} {x:Call} (h:z0s S w cs x):∃A7 c7,cs=[.int .i64 x.kind,.string x.user,.string x.folder,.string x.name,.string x.other,.int .i64 x.role,.int .i64 x.version,.slice A7 x.data.length c7]/\I64 x.kind/\x.user.size<=140737488355328/\x.folder.size<=140737488355328/\x.name.size<=140737488355328/\x.other.size<=140737488355328/\I64 x.role/\I64 x.version/\x.data.length<=c7/\c7<=9223372036854775807/\x.data.length<=140737488355328/\SlAt 1 yN S w A7 x.data:=by
 obtain ⟨_,e,c0,c1,c2,c3,c4,c5,c6,c7⟩:=h
 obtain ⟨A7,k7,rfl,l7,m7,n7,s7⟩:=c7
 exact ⟨A7,k7,e,c0,c1,c2,c3,c4,c5,c6,l7,(by simpa [maxLen] using m7),n7,s7⟩
theorem zFf {S S':Nat->Prop} {w wr:World} {A:Option Addr} {l:List Call} {k:Nat} (s:SlAt 8 z0s S w A l) (hk:k < l.length) (hb:Kept S S' w wr):
  ∃x b o A7 c7,l[k]? =some x/\l.drop k=x :: l.drop (k+1)/\x∈l/\A=some ⟨b,o,none⟩/\b < w.heap.size/\S b/\wr.cell? ⟨b,o+k*8,none⟩=some (.int .i64 x.kind)/\wr.cell? ⟨b,o+k*8+1,none⟩=some (.string x.user)/\wr.cell? ⟨b,o+k*8+2,none⟩=some (.string x.folder)/\wr.cell? ⟨b,o+k*8+3,none⟩=some (.string x.name)/\wr.cell? ⟨b,o+k*8+4,none⟩=some (.string x.other)/\wr.cell? ⟨b,o+k*8+5,none⟩=some (.int .i64 x.role)/\wr.cell? ⟨b,o+k*8+6,none⟩=some (.int .i64 x.version)/\wr.cell? ⟨b,o+k*8+7,none⟩=some (.slice A7 x.data.length c7)/\z0s S' wr [.int .i64 x.kind,.string x.user,.string x.folder,.string x.name,.string x.other,.int .i64 x.role,.int .i64 x.version,.slice A7 x.data.length c7] x/\I64 x.kind/\x.user.size<=140737488355328/\x.folder.size<=140737488355328/\x.name.size<=140737488355328/\x.other.size<=140737488355328/\I64 x.role/\I64 x.version/\x.data.length<=c7/\c7<=9223372036854775807/\x.data.length<=140737488355328/\SlAt 1 yN S' wr A7 x.data:=by
 obtain ⟨x,hx,hd,hm⟩:=z4e hk
 obtain ⟨b,o,_,hA,hS,_,hc,hR⟩:=s k _ hx
 have hR':=YD hR hb
 obtain ⟨A7,c7,e,hrest⟩:=Y7 hR'
 subst e
 have c0':wr.cell? ⟨b,o+k*8,none⟩=_:=Z1 (p:=⟨b,o+(k*8+0),none⟩) hb hS (hc 0 _ rfl)
 have c1':wr.cell? ⟨b,o+k*8+1,none⟩=_:=Z1 (p:=⟨b,o+(k*8+1),none⟩) hb hS (hc 1 _ rfl)
 have c2':wr.cell? ⟨b,o+k*8+2,none⟩=_:=Z1 (p:=⟨b,o+(k*8+2),none⟩) hb hS (hc 2 _ rfl)
 have c3':wr.cell? ⟨b,o+k*8+3,none⟩=_:=Z1 (p:=⟨b,o+(k*8+3),none⟩) hb hS (hc 3 _ rfl)
 have c4':wr.cell? ⟨b,o+k*8+4,none⟩=_:=Z1 (p:=⟨b,o+(k*8+4),none⟩) hb hS (hc 4 _ rfl)
 have c5':wr.cell? ⟨b,o+k*8+5,none⟩=_:=Z1 (p:=⟨b,o+(k*8+5),none⟩) hb hS (hc 5 _ rfl)
 have c6':wr.cell? ⟨b,o+k*8+6,none⟩=_:=Z1 (p:=⟨b,o+(k*8+6),none⟩) hb hS (hc 6 _ rfl)
 have c7':wr.cell? ⟨b,o+k*8+7,none⟩=_:=Z1 (p:=⟨b,o+(k*8+7),none⟩) hb hS (hc 7 _ rfl)
 exact ⟨x,b,o,A7,c7,hx,hd,hm,hA,zF (hc 0 _ rfl),hS,c0',c1',c2',c3',c4',c5',c6',c7',hR',hrest⟩
theorem zPr {w:World}:Rd Tryz.prog w 41 z0s:=by
 intro H enc base spare held fuel cs x h hz
 obtain ⟨hl,_,hf⟩:=zKh Tryz.underlying41 (by kernel_rfl) (by kernel_rfl) h hz
 match cs,hl with
 | [c0,c1,c2,c3,c4,c5,c6,c7],_=>
  obtain ⟨_,t0,z0⟩:=hf 0 _ rfl
  obtain ⟨a0,(e0:c0=_),b0⟩:=zD1 Tryz.underlying3 t0 z0
  obtain ⟨_,t1,z1⟩:=hf 1 _ rfl
  obtain ⟨a1,(e1:c1=_),b1⟩:=z9a Tryz.underlying9 t1 z1
  obtain ⟨_,t2,z2⟩:=hf 2 _ rfl
  obtain ⟨a2,(e2:c2=_),b2⟩:=z9a Tryz.underlying9 t2 z2
  obtain ⟨_,t3,z3⟩:=hf 3 _ rfl
  obtain ⟨a3,(e3:c3=_),b3⟩:=z9a Tryz.underlying9 t3 z3
  obtain ⟨_,t4,z4⟩:=hf 4 _ rfl
  obtain ⟨a4,(e4:c4=_),b4⟩:=z9a Tryz.underlying9 t4 z4
  obtain ⟨_,t5,z5⟩:=hf 5 _ rfl
  obtain ⟨a5,(e5:c5=_),b5⟩:=zD1 Tryz.underlying3 t5 z5
  obtain ⟨_,t6,z6⟩:=hf 6 _ rfl
  obtain ⟨a6,(e6:c6=_),b6⟩:=zD1 Tryz.underlying3 t6 z6
  obtain ⟨_,t7,z7⟩:=hf 7 _ rfl
  obtain ⟨a7,b7⟩:=zKg (zFa Tryz.underlying39 (by kernel_rfl) (of_decide_eq_true (by kernel_rfl)) (by decide) (zOh Tryz.underlying5) rByte_ok.len) t7 z7
  have b7':Sl 1 yN _ w c7 a7:=b7
  subst e0 e1 e2 e3 e4 e5 e6
  exact ⟨⟨a0,a1,a2,a3,a4,a5,a6,a7⟩,⟨c7,rfl,b0,b1,b2,b3,b4,b5,b6,b7'⟩⟩
structure State where
 turn:Int
 users:List User
 deposits:List Pair
 folders:List Folder
def ZX:Rp State:=fun S w cs x=>∃v1 v2 v3,cs=[.int .i64 x.turn,v1,v2,v3]/\I64 x.turn/\Sl 2 z01 S w v1 x.users/\Sl 2 YV S w v2 x.deposits/\Sl 7 ZE S w v3 x.folders
theorem zR {S S':Nat->Prop} {w w':World} {cs:List Value} {x:State} (h:ZX S w cs x) (k:Kept S S' w w'):ZX S' w' cs x:=by
 obtain ⟨v1,v2,v3,e,c0,c1,c2,c3⟩:=h
 exact ⟨v1,v2,v3,e,c0,c1.keep YG (by decide) k,c2.keep z19 (by decide) k,c3.keep z02 (by decide) k⟩
theorem ZL {S:Nat->Prop} {w:World} {cs:List Value} {x:State} (h:ZX S w cs x):∃A1 c1 A2 c2 A3 c3,cs=[.int .i64 x.turn,.slice A1 x.users.length c1,.slice A2 x.deposits.length c2,.slice A3 x.folders.length c3]/\I64 x.turn/\x.users.length<=c1/\c1<=9223372036854775807/\x.users.length<=140737488355328/\SlAt 2 z01 S w A1 x.users/\x.deposits.length<=c2/\c2<=9223372036854775807/\x.deposits.length<=140737488355328/\SlAt 2 YV S w A2 x.deposits/\x.folders.length<=c3/\c3<=9223372036854775807/\x.folders.length<=140737488355328/\SlAt 7 ZE S w A3 x.folders:=by
 obtain ⟨_,_,_,e,c0,c1,c2,c3⟩:=h
 obtain ⟨A1,k1,rfl,l1,m1,n1,s1⟩:=c1
 obtain ⟨A2,k2,rfl,l2,m2,n2,s2⟩:=c2
 obtain ⟨A3,k3,rfl,l3,m3,n3,s3⟩:=c3
 exact ⟨A1,k1,A2,k2,A3,k3,e,c0,l1,(by simpa [maxLen] using m1),n1,s1,l2,(by simpa [maxLen] using m2),n2,s2,l3,(by simpa [maxLen] using m3),n3,s3⟩
end
end Go.Proofs.YtdggplhnfhcieaaGreatDoor
