/- Part 0 of the proof of vaultStays_holds. No condition. -/
import Derived.Handy
import Derived.Lib.Hide
import Derived.Deep.Slices
import Derived.Deep.Draws
import Derived.Deep.OwnRows
import Derived.WalkLawsBesides
import Derived.WalkSpells
import Derived.Test.YtdggplhnfhcieaaGreatDoorChecked
import Derived.Lib.Strings
import Derived.Test.YtdggplhnfhcieaaGreatDoorZH
set_option linter.unusedVariables false
set_option linter.unusedSimpArgs false
set_option linter.unusedSectionVars false
set_option maxRecDepth 100000
namespace Go.Proofs.YtdggplhnfhcieaaGreatDoor
section
abbrev Nm:=ByteArray
abbrev Top:Nm:=⟨#[]⟩
abbrev Fs:=Nm->Option (Nm×Bool)
def ZI (F:Fs) (s:Nm):Bool:=match F s with | some (_,g)=>!g | none=>false
def YO (F:Fs) (s:Nm):Nm:=match F s with | some (p,_)=>p | none=>Top
def chN (F:Fs):Nat->Nm->List Nm
 | 0,_=>[]
 | k+1,s=>if ZI F s then s :: chN F k (YO F s) else []
def ch (F:Fs) (s:Nm):List Nm:=chN F 5 s
structure Inv (F:Fs):Prop where
 no:ZI F Top=false
 up:∀s,ZI F s=true->YO F s=Top\/ZI F (YO F s)=true
 deep:∀s,(ch F s).length<=4
theorem zE0 (F:Fs):∀(k:Nat) (s:Nm),(chN F k s).length < k->chN F (k+1) s=chN F k s
 | 0,_,h=>by simp at h
 | k+1,s,h=>by
  rw [chN] at h
  show (if ZI F s then s :: chN F (k+1) (YO F s) else [])=if ZI F s then s :: chN F k (YO F s) else []
  split
  ·rename_i hl
   rw [if_pos hl] at h
   rw [zE0 F k (YO F s) (by simpa using h)]
  ·rfl
theorem z3d (F:Fs):∀(k:Nat) (s:Nm),(chN F k s).length<=(chN F (k+1) s).length
 | 0,_=>by simp [chN]
 | k+1,s=>by
  rw [chN,chN]
  split
  ·have:=z3d F k (YO F s)
   simpa using this
  ·exact Nat.le_refl _
section
variable {F:Fs}
theorem zNc (h:Inv F) (s:Nm):ch F s=if ZI F s then s :: ch F (YO F s) else []:=by
 have h1:chN F 6 s=chN F 5 s:=zE0 F 5 s (by have:=h.deep s;unfold ch at this;omega)
 unfold ch
 rw [<-h1,chN]
theorem z3v (h:Inv F) {s:Nm} (hs:ZI F s=true):ch F s=s :: ch F (YO F s):=by rw [zNc h,if_pos hs]
theorem zJd (h:Inv F) {s:Nm} (hs:ZI F s=false):ch F s=[]:=by rw [zNc h,hs];rfl
theorem z69 (h:Inv F) {s:Nm} (hs:ZI F s=true):s∈ch F s:=by rw [z3v h hs];exact List.mem_cons_self ..
theorem z6j (h:Inv F) {s x:Nm} (hx:x∈ch F s):ZI F s=true:=by
 cases hl:ZI F s with
 | true=>rfl
 | false=>rw [zJd h hl] at hx;simp at hx
theorem z98 (h:Inv F) {x:Nm}:∀(n:Nat) (s:Nm),(ch F s).length<=n->x∈ch F s->∃pre,ch F s=pre++ch F x
 | 0,s,hn,hx=>by
  have:ch F s=[]:=List.eq_nil_of_length_eq_zero (by omega)
  rw [this] at hx
  simp at hx
 | n+1,s,hn,hx=>by
  have hl:=z6j h hx
  rw [z3v h hl] at hx hn⊢
  rcases List.mem_cons.1 hx with rfl | hx
  ·exact ⟨[],by rw [List.nil_append,z3v h hl]⟩
  ·obtain ⟨pre,hp⟩:=z98 h n (YO F s) (by simpa using hn) hx
   exact ⟨s :: pre,by rw [hp];rfl⟩
theorem zLo (h:Inv F) {s x y:Nm} (hx:x∈ch F s) (hy:y∈ch F x):y∈ch F s:=by
 obtain ⟨_,hp⟩:=z98 h _ s (Nat.le_refl _) hx
 rw [hp]
 exact List.mem_append_right _ hy
theorem zPf (h:Inv F) {s x:Nm} (hx:x∈ch F s):(ch F x).length<=(ch F s).length:=by
 obtain ⟨_,hp⟩:=z98 h _ s (Nat.le_refl _) hx
 rw [hp,List.length_append]
 omega
theorem z2b (h:Inv F) {s:Nm} (hs:ZI F s=true):(ch F s).length=(ch F (YO F s)).length+1:=by rw [z3v h hs];rfl
theorem zE1 (h:Inv F) {s:Nm}:∀(n:Nat) (x:Nm),(ch F x).length<=n->s∈ch F x->x≠s->∃c,ZI F c=true/\YO F c=s/\c∈ch F x
 | 0,x,hn,hx,_=>by
  have:ch F x=[]:=List.eq_nil_of_length_eq_zero (by omega)
  rw [this] at hx
  simp at hx
 | n+1,x,hn,hx,hne=>by
  have hl:=z6j h hx
  have hx':=hx
  rw [z3v h hl] at hx'
  rcases List.mem_cons.1 hx' with e | hx'
  ·exact absurd e.symm hne
  ·by_cases hp:YO F x=s
   ·exact ⟨x,hl,hp,z69 h hl⟩
   ·obtain ⟨c,c1,c2,c3⟩:=zE1 h n (YO F x) (by have:=z2b h hl;omega) hx' hp
    refine ⟨c,c1,c2,?_⟩
    rw [z3v h hl]
    exact List.mem_cons_of_mem _ c3
def IsHigh (F:Fs) (s:Nm) (n:Nat):Prop:=
 (ZI F s=false->n=0)/\(ZI F s=true->(∀x,s∈ch F x->(ch F x).length+1<=n+(ch F s).length)/\∃x,s∈ch F x/\(ch F x).length+1=n+(ch F s).length)
theorem IsHigh.up (h:Inv F) {s:Nm} (hs:ZI F s=true) {m:Nat} (h1:∀c,ZI F c=true->YO F c=s->∃k,IsHigh F c k/\k<=m) (h2:m=0\/∃c,ZI F c=true/\YO F c=s/\IsHigh F c m):IsHigh F s (m+1):=by
 refine ⟨fun hl=>(by rw [hs] at hl;cases hl),fun _=>⟨fun x hx=>?_,?_⟩⟩
 ·by_cases e:x=s
  ·subst e;omega
  ·obtain ⟨c,c1,c2,c3⟩:=zE1 h _ x (Nat.le_refl _) hx e
   obtain ⟨k,k1,_⟩:=h1 c c1 c2
   have h3:=(k1.2 c1).1 x c3
   have h4:=z2b h c1
   rw [c2] at h4
   omega
 ·rcases h2 with rfl | ⟨c,c1,c2,c3⟩
  ·exact ⟨s,z69 h hs,by omega⟩
  ·obtain ⟨_,x,x1,_⟩:=c3.2 c1
   have h4:=z2b h c1
   rw [c2] at h4
   refine ⟨x,zLo h x1 ?_,by omega⟩
   rw [z3v h c1,c2]
   exact List.mem_cons_of_mem _ (z69 h hs)
def upd (F:Fs) (s:Nm) (v:Nm×Bool):Fs:=fun x=>if x=s then some v else F x
theorem YR (s x:Nm) (v:Nm×Bool):ZI (upd F s v) x=if x=s then !v.2 else ZI F x:=by
 unfold ZI upd
 by_cases h:x=s<;>simp [h]
theorem z3j (s x:Nm) (v:Nm×Bool):YO (upd F s v) x=if x=s then v.1 else YO F x:=by
 unfold YO upd
 by_cases h:x=s<;>simp [h]
theorem zB1 (h:Inv F) {s p:Nm} (hs:ZI F s=false) (hne:s≠Top):∀(k:Nat) (x:Nm),x≠s->chN (upd F s (p,false)) k x=chN F k x
 | 0,_,_=>rfl
 | k+1,x,hx=>by
  rw [chN,chN,YR,if_neg hx,z3j,if_neg hx]
  split
  ·rename_i hl
   rw [zB1 h hs hne k (YO F x) fun e=>?_]
   rcases h.up x hl with h1 | h1
   ·exact hne (by rw [<-e,h1])
   ·rw [e,hs] at h1;cases h1
  ·rfl
theorem Inv.add (h:Inv F) {s p:Nm} (hs:ZI F s=false) (hne:s≠Top) (hp:p=Top\/ZI F p=true) (hl:(ch F p).length<=3):Inv (upd F s (p,false)):=by
 have hps:p≠s:=fun e=>by
  rcases hp with h1 | h1
  ·exact hne (by rw [<-e,h1])
  ·rw [e,hs] at h1;cases h1
 refine ⟨by rw [YR,if_neg (Ne.symm hne)];exact h.no,fun x hx=>?_,fun x=>?_⟩
 ·rw [YR] at hx
  rw [z3j]
  by_cases e:x=s
  ·rw [if_pos e]
   rcases hp with h1 | h1
   ·exact .inl h1
   ·right;rw [YR,if_neg hps];exact h1
  ·rw [if_neg e] at hx⊢
   rcases h.up x hx with h1 | h1
   ·exact .inl h1
   ·right
    rw [YR,if_neg fun e2=>by rw [e2,hs] at h1;cases h1]
    exact h1
 ·by_cases e:x=s
  ·subst e
   unfold ch
   rw [chN,YR,if_pos rfl,z3j,if_pos rfl]
   have h1:(chN F 4 p).length<=(chN F 5 p).length:=z3d F 4 p
   have h2:=zB1 h (p:=p) hs hne 4 p hps
   unfold ch at hl
   dsimp only
   rw [h2]
   simp
   omega
  ·unfold ch
   rw [zB1 h hs hne 5 x e]
   exact h.deep x
theorem z99 (h:Inv F) {s p:Nm} (hs:ZI F s=true):∀(k:Nat) (x:Nm),s∉ch F x->chN (upd F s (p,false)) k x=chN F k x
 | 0,_,_=>rfl
 | k+1,x,hx=>by
  have hne:x≠s:=fun e=>hx (by rw [e];exact z69 h hs)
  rw [chN,chN,YR,if_neg hne,z3j,if_neg hne]
  split
  ·rename_i hl
   rw [z99 h hs k (YO F x) fun hm=>hx (by rw [z3v h hl];exact List.mem_cons_of_mem _ hm)]
  ·rfl
theorem zBr (h:Inv F) {s p:Nm} (hs:ZI F s=true) (hsp:s∉ch F p):∀(n k:Nat) (x:Nm),(ch F x).length<=n->s∈ch F x->k<=5->(chN (upd F s (p,false)) k x).length+(ch F s).length<=(ch F x).length+1+(ch F p).length
 | 0,_,x,hn,hx,_=>by
  have:ch F x=[]:=List.eq_nil_of_length_eq_zero (by omega)
  rw [this] at hx
  simp at hx
 | n+1,0,x,hn,hx,_=>by
  have:=zPf h hx
  simp [chN]
  omega
 | n+1,k+1,x,hn,hx,hk=>by
  rw [chN,YR,z3j]
  by_cases e:x=s
  ·subst e
   rw [if_pos rfl,if_pos rfl]
   dsimp only
   rw [z99 h hs k p hsp]
   have:(chN F k p).length<=(chN F 5 p).length:=by
    have m1:(chN F 0 p).length<=(chN F 1 p).length:=z3d F 0 p
    have m2:(chN F 1 p).length<=(chN F 2 p).length:=z3d F 1 p
    have m3:(chN F 2 p).length<=(chN F 3 p).length:=z3d F 2 p
    have m4:(chN F 3 p).length<=(chN F 4 p).length:=z3d F 3 p
    have m5:(chN F 4 p).length<=(chN F 5 p).length:=z3d F 4 p
    rcases (show k=0\/k=1\/k=2\/k=3\/k=4 by omega) with rfl | rfl | rfl | rfl | rfl<;>omega
   unfold ch
   simp
   omega
  ·rw [if_neg e,if_neg e]
   have hl:=z6j h hx
   rw [if_pos hl]
   have hx':=hx
   rw [z3v h hl] at hx'
   have hx2:s∈ch F (YO F x):=(List.mem_cons.1 hx').resolve_left fun e2=>e e2.symm
   have:=zBr h hs hsp n k (YO F x) (by have:=z2b h hl;omega) hx2 (by omega)
   have h4:=z2b h hl
   simp only [List.length_cons]
   omega
theorem Inv.move (h:Inv F) {s p:Nm} (hs:ZI F s=true) (hp:p=Top\/ZI F p=true) (hsp:s∉ch F p) {n:Nat} (hn:IsHigh F s n) (hl:(ch F p).length+n<=4):Inv (upd F s (p,false)):=by
 have hst:s≠Top:=fun e=>by rw [e,h.no] at hs;cases hs
 have lv:∀x,ZI (upd F s (p,false)) x=ZI F x:=fun x=>by
  rw [YR]
  by_cases e:x=s
  ·rw [if_pos e,e,hs];rfl
  ·rw [if_neg e]
 refine ⟨by rw [lv];exact h.no,fun x hx=>?_,fun x=>?_⟩
 ·rw [lv] at hx
  rw [z3j,lv]
  by_cases e:x=s
  ·rw [if_pos e];exact hp
  ·rw [if_neg e];exact h.up x hx
 ·by_cases e:s∈ch F x
  ·have h1:=zBr h hs hsp _ 5 x (Nat.le_refl _) e (Nat.le_refl _)
   have h2:=(hn.2 hs).1 x e
   unfold ch at h1 h2 hl⊢
   omega
  ·unfold ch
   rw [z99 h hs 5 x e]
   exact h.deep x
theorem zE2 (h:Inv F) {s q:Nm} (hc:∀x,ZI F x=true->YO F x≠s):∀(k:Nat) (x:Nm),x≠s->chN (upd F s (q,true)) k x=chN F k x
 | 0,_,_=>rfl
 | k+1,x,hx=>by
  rw [chN,chN,YR,if_neg hx,z3j,if_neg hx]
  split
  ·rename_i hl
   rw [zE2 h hc k (YO F x) (hc x hl)]
  ·rfl
theorem Inv.gone (h:Inv F) {s q:Nm} (hs:ZI F s=true) (hc:∀x,ZI F x=true->YO F x≠s):Inv (upd F s (q,true)):=by
 have hst:s≠Top:=fun e=>by rw [e,h.no] at hs;cases hs
 refine ⟨by rw [YR,if_neg (Ne.symm hst)];exact h.no,fun x hx=>?_,fun x=>?_⟩
 ·rw [YR] at hx
  by_cases e:x=s
  ·rw [if_pos e] at hx;cases hx
  ·rw [if_neg e] at hx
   rw [z3j,if_neg e,YR,if_neg (hc x hx)]
   exact h.up x hx
 ·by_cases e:x=s
  ·subst e
   unfold ch
   rw [chN,YR,if_pos rfl]
   simp
  ·unfold ch
   rw [zE2 h hc 5 x e]
   exact h.deep x
theorem Inv.start:Inv (fun _=>none):=⟨rfl,fun s hs=>by simp [ZI] at hs,fun s=>by simp [ch,chN,ZI]⟩
end
end
section
open Go.RowKit Go.Deep Go.ChangeShapes Go.WideShapes
section
variable {P:Program} (w:World)
theorem zLp (ts:Array TypeId) (t:TypeId) (k k':IntKind) (x y:Int):(Builtin.max_ ts t #[.int k x,.int k' y]).run P w= .ok (.int k (max x y)) w:=by
 rw [run_max_int2];congr 2;split<;>omega
theorem zLq (ts:Array TypeId) (t:TypeId) (k k' k'':IntKind) (x y z:Int):(Builtin.max_ ts t #[.int k x,.int k' y,.int k'' z]).run P w= .ok (.int k (max (max x y) z)) w:=by
 rw [run_max_int3];congr 2;split<;>split<;>omega
theorem zLr (ts:Array TypeId) (t:TypeId) (k k':IntKind) (x y:Int):(Builtin.min_ ts t #[.int k x,.int k' y]).run P w= .ok (.int k (min x y)) w:=by
 rw [run_min_int2];congr 2;split<;>omega
theorem zLs (ts:Array TypeId) (t:TypeId) (k k' k'':IntKind) (x y z:Int):(Builtin.min_ ts t #[.int k x,.int k' y,.int k'' z]).run P w= .ok (.int k (min (min x y) z)) w:=by
 rw [run_min_int3];congr 2;split<;>split<;>omega
end
attribute [go_sem high] zLp zLq zLr zLs
def I64 (n:Int):Prop:= -9223372036854775808<=n/\n<=9223372036854775807
abbrev Rp (α:Type):=(Nat->Prop)->World->List Value->α->Prop
def Kept (S S':Nat->Prop) (w w':World):Prop:=∀b,S b->b < w.heap.size->S' b/\w'.heap[b]? =w.heap[b]?
theorem Kept.refl {S S':Nat->Prop} (w:World) (h:∀b,S b->S' b):Kept S S' w w:=fun b hb _=>⟨h b hb,rfl⟩
theorem Kept.below {S S':Nat->Prop} {w w':World} (h:Below w.heap.size w w') (hS:∀b,S b->S' b):Kept S S' w w':=fun b hb hl=>⟨hS b hb,h.block b hl⟩
structure RpOk {α:Type} (sz:Nat) (R:Rp α):Prop where
 len:∀{S:Nat->Prop} {w:World} {cs:List Value} {x:α},R S w cs x->cs.length=sz
 keep:∀{S S':Nat->Prop} {w w':World} {cs:List Value} {x:α},R S w cs x->Kept S S' w w'->R S' w' cs x
 one:∀{S:Nat->Prop} {w:World} {cs:List Value} {x:α},R S w cs x->∀u∈cs,u.oneCell'=true
def SlAt {α:Type} (sz:Nat) (R:Rp α) (S:Nat->Prop) (w:World) (A:Option Addr) (l:List α):Prop:=
 ∀i x,l[i]? =some x->∃b o ys,A=some ⟨b,o,none⟩/\S b/\ys.length=sz/\(∀j y,ys[j]? =some y->w.cell? ⟨b,o+(i*sz+j),none⟩=some y)/\R S w ys x
def Sl {α:Type} (sz:Nat) (R:Rp α) (S:Nat->Prop) (w:World) (v:Value) (l:List α):Prop:=
 ∃A c,v= .slice A l.length c/\l.length<=c/\c<=maxLen/\l.length<=140737488355328/\SlAt sz R S w A l
theorem zF {w:World} {p:Addr} {v:Value} (h:w.cell? p=some v):p.block < w.heap.size:=World.block_lt_of_cell? w p h
theorem Z0 {S S':Nat->Prop} {w w':World} {p:Addr} {v:Value} (h:Kept S S' w w') (hS:S p.block) (hc:w.cell? p=some v):w'.cell? p=some v:=
 (World.cell?_of_block (h p.block hS (zF hc)).2).trans hc
section
variable {α:Type} {sz:Nat} {R:Rp α} {S S':Nat->Prop} {w w':World}
theorem SlAt.keep (ok:RpOk sz R) (hsz:0 < sz) {A:Option Addr} {l:List α} (h:SlAt sz R S w A l) (k:Kept S S' w w'):SlAt sz R S' w' A l:=by
 intro i x hx
 obtain ⟨b,o,ys,hA,hS,hl,hc,hR⟩:=h i x hx
 have h0:∃y,ys[0]? =some y:=⟨ys[0]'(by omega),List.getElem?_eq_getElem (by omega)⟩
 obtain ⟨y,hy⟩:=h0
 have hb:=zF (hc 0 y hy)
 exact ⟨b,o,ys,hA,(k b hS hb).1,hl,fun j y hj=>Z0 k hS (hc j y hj),ok.keep hR k⟩
theorem Sl.keep (ok:RpOk sz R) (hsz:0 < sz) {v:Value} {l:List α} (h:Sl sz R S w v l) (k:Kept S S' w w'):Sl sz R S' w' v l:=by
 obtain ⟨A,c,hv,h1,h2,h2',h3⟩:=h
 exact ⟨A,c,hv,h1,h2,h2',h3.keep ok hsz k⟩
end
theorem zQ (w:World) (cs:Array Value) (T:TypeId):∃W,w.alloc (.cells cs T)=W/\(∀j v,cs[j]? =some v->W.cell? ⟨w.heap.size,j,none⟩=some v)/\(∀j,W.frozen? ⟨w.heap.size,j,none⟩=false)/\Below w.heap.size w W/\w.heap.size < W.heap.size:=by
 refine ⟨_,rfl,fun j v hj=>?_,fun j=>?_,(Below.refl _ _).alloc (Nat.le_refl _) _,by simp⟩
 ·rw [cell_of_row _ w.heap.size j cs T (0,0) (heap_alloc_new w _)];exact hj
 ·have h:=heap_alloc_new w (.cells cs T)
  unfold World.frozen?
  rw [h]
  simp
theorem z0s {α:Type} (sz:Nat) (R:Rp α) (S:Nat->Prop) (w:World):Sl sz R S w (.slice none 0 0) []:=⟨none,0,rfl,Nat.le_refl _,Nat.zero_le _,Nat.zero_le _,fun i x hi=>by simp at hi⟩
theorem zPg {α:Type} {sz:Nat} {R:Rp α} {S:Nat->Prop} {w:World} {b o n c:Nat} {l:List α} (hl:l.length=n) (h1:n<=c) (h2:c<=maxLen) (h2':n<=140737488355328) (hS:S b)
  (h:∀i x,l[i]? =some x->∃ys:List Value,ys.length=sz/\(∀j y,ys[j]? =some y->w.cell? ⟨b,o+(i*sz+j),none⟩=some y)/\R S w ys x):Sl sz R S w (.slice (some ⟨b,o,none⟩) n c) l:=by
 subst hl
 refine ⟨_,c,rfl,h1,h2,h2',fun i x hi=>?_⟩
 obtain ⟨ys,h3,h4,h5⟩:=h i x hi
 exact ⟨b,o,ys,rfl,hS,h3,h4,h5⟩
def z6k {H:Type} (P:Program) (t:TypeId) (d:DataW H):Prop:=∀n∈d.weights P t,n<=reachBytes
abbrev Rd (P:Program) (w:World) (t:TypeId) {α:Type} (R:Rp α):Prop:=
 ∀{H:Type} {enc:TypeId×Value->H} {base:Nat} {spare:Nat->Bool} {held:Bool} {fuel:Nat} {cs:List Value} {x:DataW H×List MemPlace},
  DataW.trod enc P w base spare held fuel t cs=some x->z6k P t x.1->∃a,R (fun _=>True) w cs a
theorem zBs {H:Type} {P:Program} {e:TypeId}:∀{ds:List (DataW H)} {d:DataW H},d∈ds->∀n∈d.weights P e,n∈DataW.weightsAll P e ds
 | x :: r,d,h,n,hn=>by
  rw [DataW.weightsAll,List.mem_append]
  rcases List.mem_cons.1 h with rfl | h
  ·exact .inl hn
  ·exact .inr (zBs h n hn)
def zE3:Rp Int:=fun _ _ cs n=>cs=[.int .i64 n]/\I64 n
def z44:Rp ByteArray:=fun _ _ cs s=>cs=[.string s]/\s.size<=140737488355328
def yI:Rp Int:=fun _ _ cs n=>cs=[.int .u8 n]/\0<=n/\n<=255
def rSl {α:Type} (sz:Nat) (R:Rp α):Rp (List α):=fun S w cs l=>∃v,cs=[v]/\Sl sz R S w v l
theorem z3k:RpOk 1 z44:=⟨fun h=>by rw [h.1];rfl,fun h _=>h,fun h u hu=>by rw [h.1] at hu;simp at hu;subst hu;rfl⟩
theorem rByte_ok:RpOk 1 yI:=⟨fun h=>by rw [h.1];rfl,fun h _=>h,fun h u hu=>by rw [h.1] at hu;simp at hu;subst hu;rfl⟩
section
variable {P:Program} {w:World} {t:TypeId}
theorem zOo (ht:P.underlying t=some (.int .i64)):Rd P w t zE3:=by
 intro H enc base spare held fuel cs x h _
 obtain ⟨n,hc,_,hw⟩:=DataW.trod_int ht h
 exact ⟨n,hc,by simp [Lit.wf] at hw;exact hw⟩
theorem zNf (ht:P.underlying t=some (.int .u8)):Rd P w t yI:=by
 intro H enc base spare held fuel cs x h _
 obtain ⟨n,hc,_,hw⟩:=DataW.trod_int ht h
 exact ⟨n,hc,by simp [Lit.wf] at hw;exact hw⟩
theorem zOp (ht:P.underlying t=some .string):Rd P w t z44:=by
 intro H enc base spare held fuel cs x h hz
 obtain ⟨s,hc,hx,_⟩:=DataW.trod_string ht h
 subst hx
 have:=hz s.data.toList.length (by simp [DataW.weights])
 exact ⟨s,hc,by unfold reachBytes at this;simpa using Nat.le_trans this (by decide)⟩
variable {H:Type} {enc:TypeId×Value->H} {base:Nat} {spare:Nat->Bool} {held:Bool} {fuel:Nat} {v:Value} {x:DataW H×List MemPlace}
theorem zB2 (ht:P.underlying t=some (.int .i64)) (h:DataW.trod enc P w base spare held fuel t [v]=some x) (hz:z6k P t x.1):∃a,v= .int .i64 a/\I64 a:=by
 obtain ⟨a,h1,h2⟩:=zOo ht h hz
 exact ⟨a,by simpa using h1,h2⟩
theorem z8e (ht:P.underlying t=some .string) (h:DataW.trod enc P w base spare held fuel t [v]=some x) (hz:z6k P t x.1):∃a,v= .string a/\a.size<=140737488355328:=by
 obtain ⟨a,h1,h2⟩:=zOp ht h hz
 exact ⟨a,by simpa using h1,h2⟩
theorem zJe {α:Type} {sz:Nat} {R:Rp α} (hR:Rd P w t (rSl sz R)) (h:DataW.trod enc P w base spare held fuel t [v]=some x) (hz:z6k P t x.1):∃l,Sl sz R (fun _=>True) w v l:=by
 obtain ⟨l,u,h1,h2⟩:=hR h hz
 obtain rfl:v=u:=by simpa using h1
 exact ⟨l,h2⟩
end
end
def ltS (a b:ByteArray):Bool:=Op.bytesLess a.toList b.toList
theorem z2f:∀l:List UInt8,Op.bytesLess l l=false
 | []=>rfl
 | a :: l=>by simp [Op.bytesLess,z2f l]
theorem z3w:∀l r:List UInt8,Op.bytesLess l r=true\/l=r\/Op.bytesLess r l=true
 | [],[]=> .inr (.inl rfl)
 | [],_ :: _=> .inl rfl
 | _ :: _,[]=> .inr (.inr rfl)
 | a :: l,b :: r=>by
  rcases Nat.lt_trichotomy a.toNat b.toNat with h | h | h
  ·left;simp [Op.bytesLess,UInt8.lt_iff_toNat_lt,h]
  ·obtain rfl:a=b:=UInt8.toNat_inj.1 h
   rcases z3w l r with h1 | h1 | h1
   ·left;simp [Op.bytesLess,h1]
   ·right;left;rw [h1]
   ·right;right;simp [Op.bytesLess,h1]
  ·right;right;simp [Op.bytesLess,UInt8.lt_iff_toNat_lt,h]
theorem z3x:∀l m r:List UInt8,Op.bytesLess l m=true->Op.bytesLess m r=true->Op.bytesLess l r=true
 | [],[],_,h,_=>by cases h
 | [],_ :: _,[],_,h=>by cases h
 | [],_ :: _,_ :: _,_,_=>rfl
 | _ :: _,[],_,h,_=>by cases h
 | _ :: _,_ :: _,[],_,h=>by cases h
 | a :: l,b :: m,c :: r,h,k=>by
  simp only [Op.bytesLess,Bool.or_eq_true,Bool.and_eq_true,decide_eq_true_eq,beq_iff_eq,UInt8.lt_iff_toNat_lt] at h k⊢
  rcases h with h | ⟨rfl,h⟩
  ·rcases k with k | ⟨rfl,k⟩
   ·left;omega
   ·left;exact h
  ·rcases k with k | ⟨rfl,k⟩
   ·left;exact k
   ·right;exact ⟨rfl,z3x l m r h k⟩
theorem toList_inj {a b:ByteArray} (h:a.toList=b.toList):a=b:=by
 rw [Lib.toList_data,Lib.toList_data] at h
 exact ByteArray.ext (Array.toList_inj.1 h)
theorem YB (a:ByteArray):ltS a a=false:=z2f _
theorem YM {a b c:ByteArray} (h:ltS a b=true) (k:ltS b c=true):ltS a c=true:=z3x _ _ _ h k
theorem z0w (a b:ByteArray):ltS a b=true\/a=b\/ltS b a=true:=(z3w a.toList b.toList).imp id fun h=>h.imp toList_inj id
theorem z2l {a b:ByteArray} (h:ltS a b=true):ltS b a=false:=by
 cases k:ltS b a
 ·rfl
 ·have:=YM h k
  rw [YB] at this
  cases this
theorem z4p {a b:ByteArray} (h:ltS a b=true):a≠b:=fun e=>by rw [e,YB] at h;cases h
end Go.Proofs.YtdggplhnfhcieaaGreatDoor
