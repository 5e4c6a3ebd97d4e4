/- No condition. -/
import Derived.Handy
import Derived.Lib.Hide
import Derived.Deep.Slices
import Derived.Deep.Draws
import Derived.Deep.OwnRows
import Derived.WalkLawsBesides
import Derived.WalkSpells
import Derived.Test.YtdggplhnfhcieaaGreatDoorChecked
import Derived.Lib.Strings
import Derived.Deep.Fields
import Derived.Test.YtdggplhnfhcieaaGreatDoorXH
set_option linter.all false
set_option maxRecDepth 100000
namespace Go.Proofs.YtdggplhnfhcieaaGreatDoor
section
abbrev Nm:=ByteArray
abbrev Top:Nm:=⟨#[]⟩
abbrev Fs:=Nm->Option (Nm×Bool)
def ZC (F:Fs) (s:Nm):Bool:=match F s with | some (_,g)=>!g | none=>false
def yQ (F:Fs) (s:Nm):Nm:=match F s with | some (p,_)=>p | none=>Top
def chN (F:Fs):Nat->Nm->List Nm
 | 0,_=>[]
 | k+1,s=>if ZC F s then s :: chN F k (yQ F s) else []
def ch (F:Fs) (s:Nm):List Nm:=chN F 5 s
structure Inv (F:Fs):Prop where
 no:ZC F Top=false
 up:∀s,ZC F s=true->yQ F s=Top\/ZC F (yQ F s)=true
 deep:∀s,(ch F s).length<=4
theorem zHj (F:Fs):∀(k:Nat) (s:Nm),(chN F k s).length < k->chN F (k+1) s=chN F k s
 | 0,_,h=>by simp at h
 | k+1,s,h=>by
  rw [chN] at h;show (if ZC F s then s :: chN F (k+1) (yQ F s) else [])=if ZC F s then s :: chN F k (yQ F s) else []
  split
  ·rename_i hl;rw [if_pos hl] at h;rw [zHj F k (yQ F s) (by simpa using h)]
  ·rfl
theorem z59 (F:Fs):∀(k:Nat) (s:Nm),(chN F k s).length<=(chN F (k+1) s).length
 | 0,_=>by simp [chN]
 | k+1,s=>by
  rw [chN,chN];split
  ·have:=z59 F k (yQ F s);simpa using this
  ·exact znl _
theorem zHk (F:Fs):∀(k:Nat) (s x:Nm),x∈chN F k s->ZC F x=true
 | 0,_,_,h=>by simp [chN] at h
 | k+1,s,x,h=>by
  rw [chN] at h;split at h
  ·rename_i hl;rcases List.mem_cons.1 h with rfl | h
   ·exact hl
   ·exact zHk F k _ x h
  ·simp at h
section
variable {F:Fs}
theorem zS1 (h:Inv F) (s:Nm):ch F s=if ZC F s then s :: ch F (yQ F s) else []:=by
 have h1:chN F 6 s=chN F 5 s:=zHj F 5 s (by have:=h.deep s;unfold ch at this;omega);unfold ch;rw [<-h1,chN]
theorem z29 (h:Inv F) {s:Nm} (hs:ZC F s=true):ch F s=s :: ch F (yQ F s):=by rw [zS1 h,if_pos hs]
theorem zDx (h:Inv F) {s:Nm} (hs:ZC F s=false):ch F s=[]:=by rw [zS1 h,hs];rfl
theorem z1i {s x:Nm} (hx:x∈ch F s):ZC F x=true:=zHk F 5 s x hx
theorem z38 (h:Inv F) {s:Nm} (hs:ZC F s=true):s∈ch F s:=by rw [z29 h hs];exact List.mem_cons_self ..
theorem z8z (h:Inv F) {s x:Nm} (hx:x∈ch F s):ZC F s=true:=by
 cases hl:ZC F s with
 | true=>rfl
 | false=>rw [zDx h hl] at hx;simp at hx
theorem zD5 (h:Inv F) {x:Nm}:∀(n:Nat) (s:Nm),(ch F s).length<=n->x∈ch F s->∃pre,ch F s=pre++ch F x
 | 0,s,hn,hx=>by
  have:ch F s=[]:=List.eq_nil_of_length_eq_zero (by omega);rw [this] at hx
  simp at hx
 | n+1,s,hn,hx=>by
  have hl:=z8z h hx;rw [z29 h hl] at hx hn⊢;rcases List.mem_cons.1 hx with rfl | hx
  ·exact ⟨[],by rw [List.nil_append,z29 h hl]⟩
  ·obtain ⟨pre,hp⟩:=zD5 h n (yQ F s) (by simpa using hn) hx;exact ⟨s :: pre,by rw [hp];rfl⟩
theorem z7f (h:Inv F) {s x y:Nm} (hx:x∈ch F s) (hy:y∈ch F x):y∈ch F s:=by
 obtain ⟨_,hp⟩:=zD5 h _ s (znl _) hx;rw [hp];exact List.mem_append_right _ hy
theorem zUe (h:Inv F) {s x:Nm} (hx:x∈ch F s):(ch F x).length<=(ch F s).length:=by
 obtain ⟨_,hp⟩:=zD5 h _ s (znl _) hx;rw [hp,qLax];omega
theorem z2u (h:Inv F) {s:Nm} (hs:ZC F s=true):(ch F s).length=(ch F (yQ F s)).length+1:=by rw [z29 h hs];rfl
theorem zHl (h:Inv F) {s:Nm}:∀(n:Nat) (x:Nm),(ch F x).length<=n->s∈ch F x->x≠s->∃c,ZC F c=true/\yQ F c=s/\c∈ch F x
 | 0,x,hn,hx,_=>by
  have:ch F x=[]:=List.eq_nil_of_length_eq_zero (by omega);rw [this] at hx
  simp at hx
 | n+1,x,hn,hx,hne=>by
  have hl:=z8z h hx;have hx':=hx;rw [z29 h hl] at hx';rcases List.mem_cons.1 hx' with e | hx'
  ·exact absurd e.symm hne
  ·by_cases hp:yQ F x=s
   ·exact ⟨x,hl,hp,z38 h hl⟩
   ·obtain ⟨c,c1,c2,c3⟩:=zHl h n (yQ F x) (by have:=z2u h hl;omega) hx' hp;refine ⟨c,c1,c2,?_⟩;rw [z29 h hl];exact zmc _ c3
def IsHigh (F:Fs) (s:Nm) (n:Nat):Prop:=
 (ZC F s=false->n=0)/\(ZC F s=true->(∀x,s∈ch F x->(ch F x).length+1<=n+(ch F s).length)/\∃x,s∈ch F x/\(ch F x).length+1=n+(ch F s).length)
theorem IsHigh.up (h:Inv F) {s:Nm} (hs:ZC F s=true) {m:Nat} (h1:∀c,ZC F c=true->yQ F c=s->∃k,IsHigh F c k/\k<=m) (h2:m=0\/∃c,ZC F c=true/\yQ F c=s/\IsHigh F c m):IsHigh F s (m+1):=by
 refine ⟨fun hl=>(by rw [hs] at hl;cases hl),fun _=>⟨fun x hx=>?_,?_⟩⟩
 ·by_cases e:x=s
  ·subst e;omega
  obtain ⟨c,c1,c2,c3⟩:=zHl h _ x (znl _) hx e;obtain ⟨k,k1,_⟩:=h1 c c1 c2;have h3:=(k1.2 c1).1 x c3;have h4:=z2u h c1;rw [c2] at h4;omega
 rcases h2 with rfl | ⟨c,c1,c2,c3⟩
 ·exact ⟨s,z38 h hs,by omega⟩
 obtain ⟨_,x,x1,_⟩:=c3.2 c1;have h4:=z2u h c1;rw [c2] at h4;refine ⟨x,z7f h x1 ?_,by omega⟩;rw [z29 h c1,c2];exact zmc _ (z38 h hs)
def upd (F:Fs) (s:Nm) (v:Nm×Bool):Fs:=fun x=>if x=s then some v else F x
theorem z0r (s x:Nm) (v:Nm×Bool):ZC (upd F s v) x=if x=s then !v.2 else ZC F x:=by
 unfold ZC upd;by_cases h:x=s<;>simp [h]
theorem z4r (s x:Nm) (v:Nm×Bool):yQ (upd F s v) x=if x=s then v.1 else yQ F x:=by
 unfold yQ upd;by_cases h:x=s<;>simp [h]
theorem zAz (h:Inv F) {s p:Nm} (hs:ZC F s=false) (hne:s≠Top):∀(k:Nat) (x:Nm),x≠s->chN (upd F s (p,false)) k x=chN F k x
 | 0,_,_=>rfl
 | k+1,x,hx=>by
  rw [chN,chN,z0r,if_neg hx,z4r,if_neg hx];split
  ·rename_i hl;rw [zAz h hs hne k (yQ F x) fun e=>?_];rcases h.up x hl with h1 | h1
   ·exact hne (by rw [<-e,h1])
   ·rw [e,hs] at h1;cases h1
  ·rfl
theorem Inv.add (h:Inv F) {s p:Nm} (hs:ZC F s=false) (hne:s≠Top) (hp:p=Top\/ZC F p=true) (hl:(ch F p).length<=3):Inv (upd F s (p,false)):=by
 have hps:p≠s:=fun e=>by
  rcases hp with h1 | h1
  ·exact hne (by rw [<-e,h1])
  ·rw [e,hs] at h1;cases h1
 refine ⟨by rw [z0r,if_neg (Ne.symm hne)];exact h.no,fun x hx=>?_,fun x=>?_⟩
 ·rw [z0r] at hx;rw [z4r];by_cases e:x=s
  ·rw [if_pos e];rcases hp with h1 | h1
   ·exact .inl h1
   right;rw [z0r,if_neg hps];exact h1
  rw [if_neg e] at hx⊢;rcases h.up x hx with h1 | h1
  ·exact .inl h1
  right;rw [z0r,if_neg fun e2=>by rw [e2,hs] at h1;cases h1];exact h1
 by_cases e:x=s
 ·subst e;unfold ch;rw [chN,z0r,if_pos rfl,z4r,if_pos rfl];have h1:(chN F 4 p).length<=(chN F 5 p).length:=z59 F 4 p;have h2:=zAz h (p:=p) hs hne 4 p hps;unfold ch at hl;dsimp only;rw [h2];simp;omega
 unfold ch;rw [zAz h hs hne 5 x e];exact h.deep x
theorem zD6 (h:Inv F) {s p:Nm} (hs:ZC F s=true):∀(k:Nat) (x:Nm),s∉ch F x->chN (upd F s (p,false)) k x=chN F k x
 | 0,_,_=>rfl
 | k+1,x,hx=>by
  have hne:x≠s:=fun e=>hx (by rw [e];exact z38 h hs)
  rw [chN,chN,z0r,if_neg hne,z4r,if_neg hne];split
  ·rename_i hl;rw [zD6 h hs k (yQ F x) fun hm=>hx (by rw [z29 h hl];exact zmc _ hm)]
  ·rfl
theorem zG3 (h:Inv F) {s p:Nm} (hs:ZC F s=true) (hsp:s∉ch F p):∀(n k:Nat) (x:Nm),(ch F x).length<=n->s∈ch F x->k<=5->(chN (upd F s (p,false)) k x).length+(ch F s).length<=(ch F x).length+1+(ch F p).length
 | 0,_,x,hn,hx,_=>by
  have:ch F x=[]:=List.eq_nil_of_length_eq_zero (by omega);rw [this] at hx
  simp at hx
 | n+1,0,x,hn,hx,_=>by
  have:=zUe h hx;simp [chN]
  omega
 | n+1,k+1,x,hn,hx,hk=>by
  rw [chN,z0r,z4r];by_cases e:x=s
  ·subst e;rw [if_pos rfl,if_pos rfl];dsimp only;rw [zD6 h hs k p hsp];have:(chN F k p).length<=(chN F 5 p).length:=by
    have m1:(chN F 0 p).length<=(chN F 1 p).length:=z59 F 0 p;have m2:(chN F 1 p).length<=(chN F 2 p).length:=z59 F 1 p;have m3:(chN F 2 p).length<=(chN F 3 p).length:=z59 F 2 p;have m4:(chN F 3 p).length<=(chN F 4 p).length:=z59 F 3 p;have m5:(chN F 4 p).length<=(chN F 5 p).length:=z59 F 4 p;rcases (show k=0\/k=1\/k=2\/k=3\/k=4 by omega) with rfl | rfl | rfl | rfl | rfl<;>omega
   unfold ch;simp;omega
  ·rw [if_neg e,if_neg e];have hl:=z8z h hx;rw [if_pos hl];have hx':=hx;rw [z29 h hl] at hx';have hx2:s∈ch F (yQ F x):=(List.mem_cons.1 hx').resolve_left fun e2=>e e2.symm
   have:=zG3 h hs hsp n k (yQ F x) (by have:=z2u h hl;omega) hx2 (by omega);have h4:=z2u h hl;simp only [List.length_cons];omega
theorem Inv.move (h:Inv F) {s p:Nm} (hs:ZC F s=true) (hp:p=Top\/ZC F p=true) (hsp:s∉ch F p) {n:Nat} (hn:IsHigh F s n) (hl:(ch F p).length+n<=4):Inv (upd F s (p,false)):=by
 have hst:s≠Top:=fun e=>by rw [e,h.no] at hs;cases hs
 have lv:∀x,ZC (upd F s (p,false)) x=ZC F x:=fun x=>by
  rw [z0r];by_cases e:x=s
  ·rw [if_pos e,e,hs];rfl
  ·rw [if_neg e]
 refine ⟨by rw [lv];exact h.no,fun x hx=>?_,fun x=>?_⟩
 ·rw [lv] at hx;rw [z4r,lv];by_cases e:x=s
  ·rw [if_pos e];exact hp
  rw [if_neg e];exact h.up x hx
 by_cases e:s∈ch F x
 ·have h1:=zG3 h hs hsp _ 5 x (znl _) e (znl _);have h2:=(hn.2 hs).1 x e;unfold ch at h1 h2 hl⊢;omega
 unfold ch;rw [zD6 h hs 5 x e];exact h.deep x
theorem zHm (h:Inv F) {s q:Nm} (hc:∀x,ZC F x=true->yQ F x≠s):∀(k:Nat) (x:Nm),x≠s->chN (upd F s (q,true)) k x=chN F k x
 | 0,_,_=>rfl
 | k+1,x,hx=>by
  rw [chN,chN,z0r,if_neg hx,z4r,if_neg hx];split
  ·rename_i hl;rw [zHm h hc k (yQ F x) (hc x hl)]
  ·rfl
theorem Inv.gone (h:Inv F) {s q:Nm} (hs:ZC F s=true) (hc:∀x,ZC F x=true->yQ F x≠s):Inv (upd F s (q,true)):=by
 have hst:s≠Top:=fun e=>by rw [e,h.no] at hs;cases hs
 refine ⟨by rw [z0r,if_neg (Ne.symm hst)];exact h.no,fun x hx=>?_,fun x=>?_⟩
 ·rw [z0r] at hx;by_cases e:x=s
  ·rw [if_pos e] at hx;cases hx
  rw [if_neg e] at hx;rw [z4r,if_neg e,z0r,if_neg (hc x hx)];exact h.up x hx
 by_cases e:x=s
 ·subst e;unfold ch;rw [chN,z0r,if_pos rfl];simp
 unfold ch;rw [zHm h hc 5 x e];exact h.deep x
theorem Inv.start:Inv (fun _=>none):=⟨rfl,fun s hs=>by simp [ZC] at hs,fun s=>by simp [ch,chN,ZC]⟩
end
end
section
open Go.RowKit Go.Deep Go.ChangeShapes Go.WideShapes
section
variable {P:Program} (w:World)
theorem zPy (ts:Array TypeId) (t:TypeId) (k k':IntKind) (x y:Int):(Builtin.max_ ts t #[.int k x,.int k' y]).run P w= .ok (.int k (max x y)) w:=by
 rw [run_max_int2];congr 2;split<;>omega
theorem zPz (ts:Array TypeId) (t:TypeId) (k k' k'':IntKind) (x y z:Int):(Builtin.max_ ts t #[.int k x,.int k' y,.int k'' z]).run P w= .ok (.int k (max (max x y) z)) w:=by
 rw [run_max_int3];congr 2;split<;>split<;>omega
theorem zQ0 (ts:Array TypeId) (t:TypeId) (k k':IntKind) (x y:Int):(Builtin.min_ ts t #[.int k x,.int k' y]).run P w= .ok (.int k (min x y)) w:=by
 rw [run_min_int2];congr 2;split<;>omega
theorem zQ1 (ts:Array TypeId) (t:TypeId) (k k' k'':IntKind) (x y z:Int):(Builtin.min_ ts t #[.int k x,.int k' y,.int k'' z]).run P w= .ok (.int k (min (min x y) z)) w:=by
 rw [run_min_int3];congr 2;split<;>split<;>omega
end
attribute [go_sem high] zPy zPz zQ0 zQ1
def I64 (n:Int):Prop:= -9223372036854775808<=n/\n<=9223372036854775807
abbrev Rp (α:Type):=(Nat->Prop)->World->List Value->α->Prop
def Kept (S S':Nat->Prop) (w w':World):Prop:=∀b,S b->b < w.heap.size->S' b/\w'.heap[b]? =w.heap[b]?
theorem Kept.refl {S S':Nat->Prop} (w:World) (h:∀b,S b->S' b):Kept S S' w w:=fun b hb _=>⟨h b hb,rfl⟩
theorem Kept.below {S S':Nat->Prop} {w w':World} (h:Below w.heap.size w w') (hS:∀b,S b->S' b):Kept S S' w w':=fun b hb hl=>⟨hS b hb,h.block b hl⟩
structure RpOk {α:Type} (sz:Nat) (R:Rp α):Prop where
 len:∀{S:Nat->Prop} {w:World} {cs:List Value} {x:α},R S w cs x->cs.length=sz
 keep:∀{S S':Nat->Prop} {w w':World} {cs:List Value} {x:α},R S w cs x->Kept S S' w w'->R S' w' cs x
 one:∀{S:Nat->Prop} {w:World} {cs:List Value} {x:α},R S w cs x->∀u∈cs,u.oneCell'=true
def SlAt {α:Type} (sz:Nat) (R:Rp α) (S:Nat->Prop) (w:World) (A:Option Addr) (l:List α):Prop:=
 ∀i x,l[i]? =some x->∃b o ys,A=some ⟨b,o,none⟩/\S b/\ys.length=sz/\(∀j y,ys[j]? =some y->w.cell? ⟨b,o+(i*sz+j),none⟩=some y)/\R S w ys x
def Sl {α:Type} (sz:Nat) (R:Rp α) (S:Nat->Prop) (w:World) (v:Value) (l:List α):Prop:=
 ∃A c,v= .slice A l.length c/\l.length<=c/\c<=maxLen/\l.length<=140737488355328/\SlAt sz R S w A l
theorem zF {w:World} {p:Addr} {v:Value} (h:w.cell? p=some v):p.block < w.heap.size:=World.block_lt_of_cell? w p h
theorem Z9 {S S':Nat->Prop} {w w':World} {p:Addr} {v:Value} (h:Kept S S' w w') (hS:S p.block) (hc:w.cell? p=some v):w'.cell? p=some v:=
 (World.cell?_of_block (h p.block hS (zF hc)).2).trans hc
section
variable {α:Type} {sz:Nat} {R:Rp α} {S S':Nat->Prop} {w w':World}
theorem SlAt.keep (ok:RpOk sz R) (hsz:0 < sz) {A:Option Addr} {l:List α} (h:SlAt sz R S w A l) (k:Kept S S' w w'):SlAt sz R S' w' A l:=by
 intro i x hx;obtain ⟨b,o,ys,hA,hS,hl,hc,hR⟩:=h i x hx;have h0:∃y,ys[0]? =some y:=⟨ys[0]'(by omega),qLgx (by omega)⟩;obtain ⟨y,hy⟩:=h0;have hb:=zF (hc 0 y hy);exact ⟨b,o,ys,hA,(k b hS hb).1,hl,fun j y hj=>Z9 k hS (hc j y hj),ok.keep hR k⟩
theorem Sl.keep (ok:RpOk sz R) (hsz:0 < sz) {v:Value} {l:List α} (h:Sl sz R S w v l) (k:Kept S S' w w'):Sl sz R S' w' v l:=by
 obtain ⟨A,c,hv,h1,h2,h2',h3⟩:=h;exact ⟨A,c,hv,h1,h2,h2',h3.keep ok hsz k⟩
end
theorem zQ (w:World) (cs:Array Value) (T:TypeId):∃W,w.alloc (.cells cs T)=W/\(∀j v,cs[j]? =some v->W.cell? ⟨w.heap.size,j,none⟩=some v)/\(∀j,W.frozen? ⟨w.heap.size,j,none⟩=false)/\Below w.heap.size w W/\w.heap.size < W.heap.size:=by
 refine ⟨_,rfl,fun j v hj=>?_,fun j=>?_,(Below.refl _ _).alloc (znl _) _,by simp⟩
 ·rw [cell_of_row _ w.heap.size j cs T (0,0) (heap_alloc_new w _)];exact hj
 have h:=heap_alloc_new w (.cells cs T);unfold World.frozen?;rw [h];simp
theorem z0k {α:Type} (sz:Nat) (R:Rp α) (S:Nat->Prop) (w:World):Sl sz R S w (.slice none 0 0) []:=⟨none,0,rfl,znl _,Nat.zero_le _,Nat.zero_le _,fun i x hi=>by simp at hi⟩
theorem zS2 {α:Type} {sz:Nat} {R:Rp α} {S:Nat->Prop} {w:World} {b o n c:Nat} {l:List α} (hl:l.length=n) (h1:n<=c) (h2:c<=maxLen) (h2':n<=140737488355328) (hS:S b)
  (h:∀i x,l[i]? =some x->∃ys:List Value,ys.length=sz/\(∀j y,ys[j]? =some y->w.cell? ⟨b,o+(i*sz+j),none⟩=some y)/\R S w ys x):Sl sz R S w (.slice (some ⟨b,o,none⟩) n c) l:=by
 subst hl;refine ⟨_,c,rfl,h1,h2,h2',fun i x hi=>?_⟩;obtain ⟨ys,h3,h4,h5⟩:=h i x hi;exact ⟨b,o,ys,rfl,hS,h3,h4,h5⟩
def z90 {H:Type} (P:Program) (t:TypeId) (d:DataW H):Prop:=∀n∈d.weights P t,n<=reachBytes
abbrev Rd (P:Program) (w:World) (t:TypeId) {α:Type} (R:Rp α):Prop:=
 ∀{H:Type} {enc:TypeId×Value->H} {base:Nat} {spare:Nat->Bool} {held:Bool} {fuel:Nat} {cs:List Value} {x:DataW H×List MemPlace},
  DataW.trod enc P w base spare held fuel t cs=some x->z90 P t x.1->∃a,R (fun _=>True) w cs a
theorem zG4 {H:Type} {P:Program} {e:TypeId}:∀{ds:List (DataW H)} {d:DataW H},d∈ds->∀n∈d.weights P e,n∈DataW.weightsAll P e ds
 | x :: r,d,h,n,hn=>by
  rw [DataW.weightsAll,List.mem_append];rcases List.mem_cons.1 h with rfl | h
  ·exact .inl hn
  ·exact .inr (zG4 h n hn)
def zHn:Rp Int:=fun _ _ cs n=>cs=[.int .i64 n]/\I64 n
def z06:Rp ByteArray:=fun _ _ cs s=>cs=[.string s]/\s.size<=140737488355328
def YL:Rp Int:=fun _ _ cs n=>cs=[.int .u8 n]/\0<=n/\n<=255
def rSl {α:Type} (sz:Nat) (R:Rp α):Rp (List α):=fun S w cs l=>∃v,cs=[v]/\Sl sz R S w v l
theorem ZT:RpOk 1 z06:=⟨fun h=>by rw [h.1];rfl,fun h _=>h,fun h u hu=>by rw [h.1] at hu;simp at hu;subst hu;rfl⟩
theorem rByte_ok:RpOk 1 YL:=⟨fun h=>by rw [h.1];rfl,fun h _=>h,fun h u hu=>by rw [h.1] at hu;simp at hu;subst hu;rfl⟩
section
variable {P:Program} {w:World} {t:TypeId}
theorem zTm (ht:P.underlying t=some (.int .i64)):Rd P w t zHn:=by
 intro H enc base spare held fuel cs x h _;obtain ⟨n,hc,_,hw⟩:=DataW.trod_int ht h;exact ⟨n,hc,by simp [Lit.wf] at hw;exact hw⟩
theorem zSb (ht:P.underlying t=some (.int .u8)):Rd P w t YL:=by
 intro H enc base spare held fuel cs x h _;obtain ⟨n,hc,_,hw⟩:=DataW.trod_int ht h;exact ⟨n,hc,by simp [Lit.wf] at hw;exact hw⟩
theorem zTn (ht:P.underlying t=some .string):Rd P w t z06:=by
 intro H enc base spare held fuel cs x h hz;obtain ⟨s,hc,hx,_⟩:=DataW.trod_string ht h;subst hx;have:=hz s.data.toList.length (by simp [DataW.weights]);exact ⟨s,hc,by unfold reachBytes at this;simpa using qNtx this (by decide)⟩
variable {H:Type} {enc:TypeId×Value->H} {base:Nat} {spare:Nat->Bool} {held:Bool} {fuel:Nat} {v:Value} {x:DataW H×List MemPlace}
theorem zF9 (ht:P.underlying t=some (.int .i64)) (h:DataW.trod enc P w base spare held fuel t [v]=some x) (hz:z90 P t x.1):∃a,v= .int .i64 a/\I64 a:=by
 obtain ⟨a,h1,h2⟩:=zTm ht h hz;exact ⟨a,by simpa using h1,h2⟩
theorem zB0 (ht:P.underlying t=some .string) (h:DataW.trod enc P w base spare held fuel t [v]=some x) (hz:z90 P t x.1):∃a,v= .string a/\a.size<=140737488355328:=by
 obtain ⟨a,h1,h2⟩:=zTn ht h hz;exact ⟨a,by simpa using h1,h2⟩
theorem zNg {α:Type} {sz:Nat} {R:Rp α} (hR:Rd P w t (rSl sz R)) (h:DataW.trod enc P w base spare held fuel t [v]=some x) (hz:z90 P t x.1):∃l,Sl sz R (fun _=>True) w v l:=by
 obtain ⟨l,u,h1,h2⟩:=hR h hz;obtain rfl:v=u:=by simpa using h1
 exact ⟨l,h2⟩
end
end
def ltS (a b:ByteArray):Bool:=Op.bytesLess a.toList b.toList
theorem z42:∀l:List UInt8,Op.bytesLess l l=false
 | []=>rfl
 | a :: l=>by simp [Op.bytesLess,z42 l]
theorem z5n:∀l r:List UInt8,Op.bytesLess l r=true\/l=r\/Op.bytesLess r l=true
 | [],[]=> .inr (.inl rfl)
 | [],_ :: _=> .inl rfl
 | _ :: _,[]=> .inr (.inr rfl)
 | a :: l,b :: r=>by
  rcases Nat.lt_trichotomy a.toNat b.toNat with h | h | h
  ·left;simp [Op.bytesLess,UInt8.lt_iff_toNat_lt,h]
  ·obtain rfl:a=b:=UInt8.toNat_inj.1 h;rcases z5n l r with h1 | h1 | h1
   ·left;simp [Op.bytesLess,h1]
   ·right;left;rw [h1]
   ·right;right;simp [Op.bytesLess,h1]
  ·right;right;simp [Op.bytesLess,UInt8.lt_iff_toNat_lt,h]
theorem z5o:∀l m r:List UInt8,Op.bytesLess l m=true->Op.bytesLess m r=true->Op.bytesLess l r=true
 | [],[],_,h,_=>by cases h
 | [],_ :: _,[],_,h=>by cases h
 | [],_ :: _,_ :: _,_,_=>rfl
 | _ :: _,[],_,h,_=>by cases h
 | _ :: _,_ :: _,[],_,h=>by cases h
 | a :: l,b :: m,c :: r,h,k=>by
  simp only [Op.bytesLess,Bool.or_eq_true,qBqx,decide_eq_true_eq,beq_iff_eq,UInt8.lt_iff_toNat_lt] at h k⊢;rcases h with h | ⟨rfl,h⟩
  ·rcases k with k | ⟨rfl,k⟩
   ·left;omega
   ·left;exact h
  ·rcases k with k | ⟨rfl,k⟩
   ·left;exact k
   ·right;exact ⟨rfl,z5o l m r h k⟩
theorem toList_inj {a b:ByteArray} (h:a.toList=b.toList):a=b:=by
 rw [Lib.toList_data,Lib.toList_data] at h;exact ByteArray.ext (Array.toList_inj.1 h)
theorem YV (a:ByteArray):ltS a a=false:=z42 _
theorem YP {a b c:ByteArray} (h:ltS a b=true) (k:ltS b c=true):ltS a c=true:=z5o _ _ _ h k
theorem z18 (a b:ByteArray):ltS a b=true\/a=b\/ltS b a=true:=(z5n a.toList b.toList).imp id fun h=>h.imp toList_inj id
theorem z3h {a b:ByteArray} (h:ltS a b=true):ltS b a=false:=by
 cases k:ltS b a
 ·rfl
 have:=YP h k;rw [YV] at this;cases this
theorem z5p {a b:ByteArray} (h:ltS a b=true):a≠b:=fun e=>by rw [e,YV] at h;cases h
def IsNames (P:Nm->Prop) (R:List Nm):Prop:=R.Pairwise (fun a b=>ltS a b=true)/\∀x,x∈R↔P x
theorem IsNames.nil {P:Nm->Prop} (h:∀x,¬P x):IsNames P []:=⟨List.Pairwise.nil,fun x=>by simp [h x]⟩
def z3a (s:Nm):List Nm->List Nm
 | []=>[s]
 | x :: l=>if ltS s x then s :: x :: l else x :: z3a s l
theorem zD7 (s:Nm):∀(l:List Nm) (x:Nm),x∈z3a s l↔x=s\/x∈l
 | [],x=>by simp [z3a]
 | y :: l,x=>by
  rw [z3a];split
  ·simp
  ·rw [qLcx,zD7 s l x,qLcx];constructor
   ·rintro (h | h | h)
    ·exact .inr (.inl h)
    ·exact .inl h
    ·exact .inr (.inr h)
   ·rintro (h | h | h)
    ·exact .inr (.inl h)
    ·exact .inl h
    ·exact .inr (.inr h)
theorem zBk (s:Nm):∀(l:List Nm),l.Pairwise (fun a b=>ltS a b=true)->s∉l->(z3a s l).Pairwise (fun a b=>ltS a b=true)
 | [],_,_=>by simp [z3a]
 | y :: l,h,hs=>by
  obtain ⟨h1,h2⟩:=List.pairwise_cons.1 h;rw [z3a];split
  ·rename_i hl;refine List.pairwise_cons.2 ⟨fun x hx=>?_,h⟩;rcases List.mem_cons.1 hx with rfl | hx
   ·exact hl
   ·exact YP hl (h1 x hx)
  ·rename_i hl;refine List.pairwise_cons.2 ⟨fun x hx=>?_,zBk s l h2 fun hm=>hs (zmc _ hm)⟩;rcases (zD7 s l x).1 hx with rfl | hx
   ·rcases z18 y x with h3 | h3 | h3
    ·exact h3
    ·exact absurd (by rw [h3];exact List.mem_cons_self ..) hs
    ·exact absurd h3 hl
   ·exact h1 x hx
theorem IsNames.put {P:Nm->Prop} {R:List Nm} (h:IsNames P R) {s:Nm} (hs:¬P s):IsNames (fun x=>x=s\/P x) (z3a s R):=
 ⟨zBk s R h.1 fun hm=>hs ((h.2 s).1 hm),fun x=>by rw [zD7,h.2]⟩
section
open Go.RowKit Go.Deep Go.ChangeShapes Go.WideShapes
theorem zNh {P:Program} {w:World} {t:TypeId} {fs:Array Field} (ht:P.underlying t=some (.struct fs)) (hone:oneCellFields P fs=true) (hC:P.cellsOf t=fs.size)
  {H:Type} {enc:TypeId×Value->H} {base:Nat} {spare:Nat->Bool} {held:Bool} {fuel:Nat} {cs:List Value} {x:DataW H×List MemPlace}
  (h:DataW.trod enc P w base spare held fuel t cs=some x) (hz:z90 P t x.1):
  cs.length=fs.size/\∃n,∀j f,fs[j]? =some f->∃y,DataW.trod enc P w base spare held n f.type [cs.getD j undef]=some y/\z90 P f.type y.1:=by
 obtain ⟨xs,n,_,hx,hl,_,hf⟩:=DataW.trod_struct ht h;subst hx;refine ⟨hl.trans hC,n,fun j f hj=>?_⟩;obtain ⟨ho,hk⟩:=hone_of hone j f hj;have hjl:j < fs.size:=(Array.getElem?_eq_some_iff.1 hj).1;have h1:=hf j f hj;rw [ho,hk,take1_drop cs j undef (by omega),qLgx (by omega)] at h1;refine ⟨_,h1,fun m hm=>hz m ?_⟩;simp only [DataW.weights,ht];exact DataW.weights_mem_each (j:=j) (t:=f.type) (by simp [hj]) (by simp [qLgx (show j < xs.length by omega)]) m hm
theorem zK {S:Nat->Prop} {w wr:World} (h:Below w.heap.size w wr):Kept S S w wr:=Kept.below h fun _ h=>h
theorem z3l {W w1:World} (hb:Below W.heap.size W w1):(∀b o,b < W.heap.size->w1.cell? ⟨b,o,none⟩=W.cell? ⟨b,o,none⟩)/\(∀b o,b < W.heap.size->w1.frozen? ⟨b,o,none⟩=W.frozen? ⟨b,o,none⟩):=
 ⟨fun b o h=>hb.cell (p:=⟨b,o,none⟩) h,fun b o h=>hb.frozen (p:=⟨b,o,none⟩) h⟩
theorem zB {w W w1:World} (h:Below w.heap.size w W) (h1:Below W.heap.size W w1):Below w.heap.size w w1:=h.trans (h1.mono h.size)
theorem ZM {a b:Bool} (h:a=b):Ending.returned (.bool a)= .returned (.bool b):=by rw [h]
theorem ZB {k:IntKind} {a b:Int} (h:a=b):Ending.returned (.int k a)= .returned (.int k b):=by rw [h]
theorem zSc {α β:Type} {p:Nat->β->Prop} {q:β->α->Prop} {len:Nat} (h:∀i,i < len->∃r:α×β,p i r.2/\q r.2 r.1):∃l:List α,l.length=len/\∀i x,l[i]? =some x->∃ys,p i ys/\q ys x:=by
 induction len with
 | zero=>exact ⟨[],rfl,fun i x hi=>by simp at hi⟩
 | succ k ih=>
  obtain ⟨l,hl,hl'⟩:=ih (fun i hi=>h i (by omega));obtain ⟨r,q1,q2⟩:=h k (by omega);refine ⟨l++[r.1],by simp [hl],fun i x hi=>?_⟩;rcases Nat.lt_or_ge i k with hlt | hge
  ·exact hl' i x (by rwa [qLlx (by omega)] at hi)
  rw [qLrx (by omega)] at hi;have:i=k:=by
   rcases Nat.lt_or_ge (i - l.length) 1 with h1 | h1
   ·omega
   ·rw [List.getElem?_eq_none (by simpa using h1)] at hi;cases hi
  subst this;simp [hl] at hi;subst hi;exact ⟨r.2,q1,q2⟩
theorem z5z {α:Type} {l:List α} {k:Nat} (h:k < l.length):∃x,l[k]? =some x/\l.drop k=x :: l.drop (k+1)/\x∈l:=⟨l[k],qLgx h,List.drop_eq_getElem_cons h,List.getElem_mem h⟩
theorem zHo {α:Type} {P:Program} {w:World} {t e:TypeId} {sz:Nat} {R:Rp α} (ht:P.underlying t=some (.slice e)) (hC:P.cellsOf e=sz) (hby:0 < P.bytesOf e) (hsz:0 < sz) (hR:Rd P w e R) (hlen:∀{S:Nat->Prop} {w:World} {cs:List Value} {x:α},R S w cs x->cs.length=sz):Rd P w t (rSl sz R):=by
 intro H enc base spare held fuel cs x h hz;rcases open_slice ht h with ⟨rfl,_⟩ | ⟨a,len,cap,m,n,D,Pl,rfl,hb,hl,hm,hmm,hxx,hx⟩
 ·exact ⟨[],_,rfl,z0k _ _ _ _⟩
 have hlm:len<=m:=by rw [hmm];split<;>omega
 have hall:∀i,i < len->∃q:α×List Value,w.cells? base (a.add (i*sz)) sz=some q.2/\R (fun _=>True) w q.2 q.1:=by
  intro i hi;obtain ⟨cs',h1,h2⟩:=hx i (by omega);obtain ⟨y,hy⟩:=hR h2 (fun q hq=>hz q (by
   rw [hxx];simp only [DataW.weights,ht,qLcx,List.mem_append];exact .inr (.inl (zG4 (List.mem_map.2 ⟨i,List.mem_range.2 hi,rfl⟩) q hq))))
  rw [hC] at h1;exact ⟨(y,cs'),h1,hy⟩
 obtain ⟨l,hll,hl'⟩:=zSc (p:=fun i ys=>w.cells? base (a.add (i*sz)) sz=some ys) (q:=fun ys x=>R (fun _=>True) w ys x) hall;have hlen47:len<=140737488355328:=by
  have h1:=hz ((((List.range len).map D).length+((List.range (m - len)).map fun j=>D (len+j)).length)*P.bytesOf e) (by rw [hxx];simp [DataW.weights,ht]);have h2:len<=(((List.range len).map D).length+((List.range (m - len)).map fun j=>D (len+j)).length)*P.bytesOf e:=by
   rw [qLmx,List.length_range];exact qNtx (Nat.le_add_right _ _) (Nat.le_mul_of_pos_right _ hby)
  exact qNtx h2 (qNtx h1 (by decide))
 refine ⟨l,_,rfl,some a,cap,by rw [hll],by omega,hm,by omega,fun i x hi=>?_⟩;have hil:i < len:=by have:=(zge hi).1;omega
 obtain ⟨ys,h1,h2⟩:=hl' i x hi;obtain ⟨_,hyl,hyc⟩:=World.cells?_some h1;obtain ⟨b,o,sp⟩:=a;obtain ⟨q0,h0,_⟩:=hall 0 (by omega);obtain ⟨_,hyl0,hyc0⟩:=World.cells?_some h0;have h00:=hyc0 0 hsz;rw [qLgx (by omega),Nat.zero_mul] at h00;have hsp:sp=none:=World.cell?_spot h00;subst hsp;refine ⟨b,o,ys,rfl,trivial,hyl,fun j y hj=>?_,h2⟩;have hjl:j < sz:=by have:=(zge hj).1;omega
 have h3:=hyc j hjl;rw [hj,add_add] at h3;have e:(⟨b,o,none⟩:Addr).add (i*sz+j)=⟨b,o+(i*sz+j),none⟩:=by
  unfold Addr.add;split
  ·rename_i h;rw [h];rfl
  ·rfl
 rw [e] at h3;exact h3
structure User where
 name:ByteArray
 lost:Bool
def z0s:Rp User:=fun S w cs x=>cs=[.string x.name,.bool x.lost]/\x.name.size<=140737488355328
theorem zNi {S:Nat->Prop} {w:World} {cs:List Value} {x:User} (h:z0s S w cs x):cs.length=2:=by
 obtain ⟨rfl,_⟩:=h;rfl
theorem z2v {S S':Nat->Prop} {w w':World} {cs:List Value} {x:User} (h:z0s S w cs x) (k:Kept S S' w w'):z0s S' w' cs x:=by
 obtain ⟨e,c0⟩:=h;exact ⟨e,c0⟩
theorem zNj {S:Nat->Prop} {w:World} {cs:List Value} {x:User} (h:z0s S w cs x):∀u∈cs,u.oneCell'=true:=by
 obtain ⟨e,_⟩:=h;intro u hu;rw [e] at hu;simp only [qLcx,List.not_mem_nil,or_false] at hu;rcases hu with rfl | rfl<;>rfl
theorem z3m:RpOk 2 z0s:=⟨zNi,z2v,zNj⟩
theorem z7w {S:Nat->Prop} {w:World} {cs:List Value} {x:User} (h:z0s S w cs x):cs=[.string x.name,.bool x.lost]/\x.name.size<=140737488355328:=by
 obtain ⟨e,c0⟩:=h;exact ⟨e,c0⟩
theorem zQ2 {S S':Nat->Prop} {w wr:World} {A:Option Addr} {l:List User} {k:Nat} (s:SlAt 2 z0s S w A l) (hk:k < l.length) (hb:Kept S S' w wr):
  ∃x b o,l[k]? =some x/\l.drop k=x :: l.drop (k+1)/\x∈l/\A=some ⟨b,o,none⟩/\b < w.heap.size/\S b/\wr.cell? ⟨b,o+k*2,none⟩=some (.string x.name)/\wr.cell? ⟨b,o+k*2+1,none⟩=some (.bool x.lost)/\z0s S' wr [.string x.name,.bool x.lost] x/\x.name.size<=140737488355328:=by
 obtain ⟨x,hx,hd,hm⟩:=z5z hk;obtain ⟨b,o,_,hA,hS,_,hc,hR⟩:=s k _ hx;have hR':=z2v hR hb;obtain ⟨e,hrest⟩:=z7w hR';subst e;have c0':wr.cell? ⟨b,o+k*2,none⟩=_:=Z9 (p:=⟨b,o+(k*2+0),none⟩) hb hS (hc 0 _ rfl);have c1':wr.cell? ⟨b,o+k*2+1,none⟩=_:=Z9 (p:=⟨b,o+(k*2+1),none⟩) hb hS (hc 1 _ rfl);exact ⟨x,b,o,hx,hd,hm,hA,zF (hc 0 _ rfl),hS,c0',c1',hR',hrest⟩
structure Pair where
 frm:ByteArray
 to:ByteArray
def z0o:Rp Pair:=fun S w cs x=>cs=[.string x.frm,.string x.to]/\x.frm.size<=140737488355328/\x.to.size<=140737488355328
theorem zNk {S:Nat->Prop} {w:World} {cs:List Value} {x:Pair} (h:z0o S w cs x):cs.length=2:=by
 obtain ⟨rfl,_,_⟩:=h;rfl
theorem z3n {S S':Nat->Prop} {w w':World} {cs:List Value} {x:Pair} (h:z0o S w cs x) (k:Kept S S' w w'):z0o S' w' cs x:=by
 obtain ⟨e,c0,c1⟩:=h;exact ⟨e,c0,c1⟩
theorem zNl {S:Nat->Prop} {w:World} {cs:List Value} {x:Pair} (h:z0o S w cs x):∀u∈cs,u.oneCell'=true:=by
 obtain ⟨e,_,_⟩:=h;intro u hu;rw [e] at hu;simp only [qLcx,List.not_mem_nil,or_false] at hu;rcases hu with rfl | rfl<;>rfl
theorem z2e:RpOk 2 z0o:=⟨zNk,z3n,zNl⟩
theorem z7x {S:Nat->Prop} {w:World} {cs:List Value} {x:Pair} (h:z0o S w cs x):cs=[.string x.frm,.string x.to]/\x.frm.size<=140737488355328/\x.to.size<=140737488355328:=by
 obtain ⟨e,c0,c1⟩:=h;exact ⟨e,c0,c1⟩
theorem zQ3 {S S':Nat->Prop} {w wr:World} {A:Option Addr} {l:List Pair} {k:Nat} (s:SlAt 2 z0o S w A l) (hk:k < l.length) (hb:Kept S S' w wr):
  ∃x b o,l[k]? =some x/\l.drop k=x :: l.drop (k+1)/\x∈l/\A=some ⟨b,o,none⟩/\b < w.heap.size/\S b/\wr.cell? ⟨b,o+k*2,none⟩=some (.string x.frm)/\wr.cell? ⟨b,o+k*2+1,none⟩=some (.string x.to)/\z0o S' wr [.string x.frm,.string x.to] x/\x.frm.size<=140737488355328/\x.to.size<=140737488355328:=by
 obtain ⟨x,hx,hd,hm⟩:=z5z hk;obtain ⟨b,o,_,hA,hS,_,hc,hR⟩:=s k _ hx;have hR':=z3n hR hb;obtain ⟨e,hrest⟩:=z7x hR';subst e;have c0':wr.cell? ⟨b,o+k*2,none⟩=_:=Z9 (p:=⟨b,o+(k*2+0),none⟩) hb hS (hc 0 _ rfl);have c1':wr.cell? ⟨b,o+k*2+1,none⟩=_:=Z9 (p:=⟨b,o+(k*2+1),none⟩) hb hS (hc 1 _ rfl);exact ⟨x,b,o,hx,hd,hm,hA,zF (hc 0 _ rfl),hS,c0',c1',hR',hrest⟩
structure At where
 name:ByteArray
 seq:Int
def rAt:Rp At:=fun S w cs x=>cs=[.string x.name,.int .i64 x.seq]/\x.name.size<=140737488355328/\I64 x.seq
theorem zSd {S:Nat->Prop} {w:World} {cs:List Value} {x:At} (h:rAt S w cs x):cs.length=2:=by
 obtain ⟨rfl,_,_⟩:=h;rfl
theorem zHp {S S':Nat->Prop} {w w':World} {cs:List Value} {x:At} (h:rAt S w cs x) (k:Kept S S' w w'):rAt S' w' cs x:=by
 obtain ⟨e,c0,c1⟩:=h;exact ⟨e,c0,c1⟩
theorem zSe {S:Nat->Prop} {w:World} {cs:List Value} {x:At} (h:rAt S w cs x):∀u∈cs,u.oneCell'=true:=by
 obtain ⟨e,_,_⟩:=h;intro u hu;rw [e] at hu;simp only [qLcx,List.not_mem_nil,or_false] at hu;rcases hu with rfl | rfl<;>rfl
theorem Z1:RpOk 2 rAt:=⟨zSd,zHp,zSe⟩
theorem z3b {S:Nat->Prop} {w:World} {cs:List Value} {x:At} (h:rAt S w cs x):cs=[.string x.name,.int .i64 x.seq]/\x.name.size<=140737488355328/\I64 x.seq:=by
 obtain ⟨e,c0,c1⟩:=h;exact ⟨e,c0,c1⟩
theorem zTo {S S':Nat->Prop} {w wr:World} {A:Option Addr} {l:List At} {k:Nat} (s:SlAt 2 rAt S w A l) (hk:k < l.length) (hb:Kept S S' w wr):
  ∃x b o,l[k]? =some x/\l.drop k=x :: l.drop (k+1)/\x∈l/\A=some ⟨b,o,none⟩/\b < w.heap.size/\S b/\wr.cell? ⟨b,o+k*2,none⟩=some (.string x.name)/\wr.cell? ⟨b,o+k*2+1,none⟩=some (.int .i64 x.seq)/\rAt S' wr [.string x.name,.int .i64 x.seq] x/\x.name.size<=140737488355328/\I64 x.seq:=by
 obtain ⟨x,hx,hd,hm⟩:=z5z hk;obtain ⟨b,o,_,hA,hS,_,hc,hR⟩:=s k _ hx;have hR':=zHp hR hb;obtain ⟨e,hrest⟩:=z3b hR';subst e;have c0':wr.cell? ⟨b,o+k*2,none⟩=_:=Z9 (p:=⟨b,o+(k*2+0),none⟩) hb hS (hc 0 _ rfl);have c1':wr.cell? ⟨b,o+k*2+1,none⟩=_:=Z9 (p:=⟨b,o+(k*2+1),none⟩) hb hS (hc 1 _ rfl);exact ⟨x,b,o,hx,hd,hm,hA,zF (hc 0 _ rfl),hS,c0',c1',hR',hrest⟩
structure Member where
 name:ByteArray
 role:Int
def zY:Rp Member:=fun S w cs x=>cs=[.string x.name,.int .i64 x.role]/\x.name.size<=140737488355328/\I64 x.role
theorem zJe {S:Nat->Prop} {w:World} {cs:List Value} {x:Member} (h:zY S w cs x):cs.length=2:=by
 obtain ⟨rfl,_,_⟩:=h;rfl
theorem zA1 {S S':Nat->Prop} {w w':World} {cs:List Value} {x:Member} (h:zY S w cs x) (k:Kept S S' w w'):zY S' w' cs x:=by
 obtain ⟨e,c0,c1⟩:=h;exact ⟨e,c0,c1⟩
theorem zJf {S:Nat->Prop} {w:World} {cs:List Value} {x:Member} (h:zY S w cs x):∀u∈cs,u.oneCell'=true:=by
 obtain ⟨e,_,_⟩:=h;intro u hu;rw [e] at hu;simp only [qLcx,List.not_mem_nil,or_false] at hu;rcases hu with rfl | rfl<;>rfl
theorem ZH:RpOk 2 zY:=⟨zJe,zA1,zJf⟩
theorem z43 {S:Nat->Prop} {w:World} {cs:List Value} {x:Member} (h:zY S w cs x):cs=[.string x.name,.int .i64 x.role]/\x.name.size<=140737488355328/\I64 x.role:=by
 obtain ⟨e,c0,c1⟩:=h;exact ⟨e,c0,c1⟩
theorem YW {S S':Nat->Prop} {w wr:World} {A:Option Addr} {l:List Member} {k:Nat} (s:SlAt 2 zY S w A l) (hk:k < l.length) (hb:Kept S S' w wr):
  ∃x b o,l[k]? =some x/\l.drop k=x :: l.drop (k+1)/\x∈l/\A=some ⟨b,o,none⟩/\b < w.heap.size/\S b/\wr.cell? ⟨b,o+k*2,none⟩=some (.string x.name)/\wr.cell? ⟨b,o+k*2+1,none⟩=some (.int .i64 x.role)/\zY S' wr [.string x.name,.int .i64 x.role] x/\x.name.size<=140737488355328/\I64 x.role:=by
 obtain ⟨x,hx,hd,hm⟩:=z5z hk;obtain ⟨b,o,_,hA,hS,_,hc,hR⟩:=s k _ hx;have hR':=zA1 hR hb;obtain ⟨e,hrest⟩:=z43 hR';subst e;have c0':wr.cell? ⟨b,o+k*2,none⟩=_:=Z9 (p:=⟨b,o+(k*2+0),none⟩) hb hS (hc 0 _ rfl);have c1':wr.cell? ⟨b,o+k*2+1,none⟩=_:=Z9 (p:=⟨b,o+(k*2+1),none⟩) hb hS (hc 1 _ rfl);exact ⟨x,b,o,hx,hd,hm,hA,zF (hc 0 _ rfl),hS,c0',c1',hR',hrest⟩
structure Manifest where
 folder:ByteArray
 seq:Int
 prev:List Int
 parent:ByteArray
 members:List Member
 cut:Int
 gone:Bool
 who:ByteArray
def ZR:Rp Manifest:=fun S w cs x=>∃v2 v4,cs=[.string x.folder,.int .i64 x.seq,v2,.string x.parent,v4,.int .i64 x.cut,.bool x.gone,.string x.who]/\x.folder.size<=140737488355328/\I64 x.seq/\Sl 1 YL S w v2 x.prev/\x.parent.size<=140737488355328/\Sl 2 zY S w v4 x.members/\I64 x.cut/\x.who.size<=140737488355328
theorem zH6 {S:Nat->Prop} {w:World} {cs:List Value} {x:Manifest} (h:ZR S w cs x):cs.length=8:=by
 obtain ⟨_,_,rfl,_,_,_,_,_,_,_⟩:=h;rfl
theorem YF {S S':Nat->Prop} {w w':World} {cs:List Value} {x:Manifest} (h:ZR S w cs x) (k:Kept S S' w w'):ZR S' w' cs x:=by
 obtain ⟨v2,v4,e,c0,c1,c2,c3,c4,c5,c6⟩:=h;exact ⟨v2,v4,e,c0,c1,c2.keep rByte_ok (by decide) k,c3,c4.keep ZH (by decide) k,c5,c6⟩
theorem zH7 {S:Nat->Prop} {w:World} {cs:List Value} {x:Manifest} (h:ZR S w cs x):∀u∈cs,u.oneCell'=true:=by
 obtain ⟨_,_,e,_,_,c2,_,c4,_,_⟩:=h;obtain ⟨_,_,rfl,_⟩:=c2;obtain ⟨_,_,rfl,_⟩:=c4;intro u hu;rw [e] at hu;simp only [qLcx,List.not_mem_nil,or_false] at hu;rcases hu with rfl | rfl | rfl | rfl | rfl | rfl | rfl | rfl<;>rfl
theorem z2f:RpOk 8 ZR:=⟨zH6,YF,zH7⟩
theorem yF {S:Nat->Prop} {w:World} {cs:List Value} {x:Manifest} (h:ZR S w cs x):∃A2 c2 A4 c4,cs=[.string x.folder,.int .i64 x.seq,.slice A2 x.prev.length c2,.string x.parent,.slice A4 x.members.length c4,.int .i64 x.cut,.bool x.gone,.string x.who]/\x.folder.size<=140737488355328/\I64 x.seq/\x.prev.length<=c2/\c2<=9223372036854775807/\x.prev.length<=140737488355328/\SlAt 1 YL S w A2 x.prev/\x.parent.size<=140737488355328/\x.members.length<=c4/\c4<=9223372036854775807/\x.members.length<=140737488355328/\SlAt 2 zY S w A4 x.members/\I64 x.cut/\x.who.size<=140737488355328:=by
 obtain ⟨_,_,e,c0,c1,c2,c3,c4,c5,c6⟩:=h;obtain ⟨A2,k2,rfl,l2,m2,n2,s2⟩:=c2;obtain ⟨A4,k4,rfl,l4,m4,n4,s4⟩:=c4;exact ⟨A2,k2,A4,k4,e,c0,c1,l2,(by simpa [maxLen] using m2),n2,s2,c3,l4,(by simpa [maxLen] using m4),n4,s4,c5,c6⟩
theorem zHq {S S':Nat->Prop} {w wr:World} {A:Option Addr} {l:List Manifest} {k:Nat} (s:SlAt 8 ZR S w A l) (hk:k < l.length) (hb:Kept S S' w wr):
  ∃x b o A2 c2 A4 c4,l[k]? =some x/\l.drop k=x :: l.drop (k+1)/\x∈l/\A=some ⟨b,o,none⟩/\b < w.heap.size/\S b/\wr.cell? ⟨b,o+k*8,none⟩=some (.string x.folder)/\wr.cell? ⟨b,o+k*8+1,none⟩=some (.int .i64 x.seq)/\wr.cell? ⟨b,o+k*8+2,none⟩=some (.slice A2 x.prev.length c2)/\wr.cell? ⟨b,o+k*8+3,none⟩=some (.string x.parent)/\wr.cell? ⟨b,o+k*8+4,none⟩=some (.slice A4 x.members.length c4)/\wr.cell? ⟨b,o+k*8+5,none⟩=some (.int .i64 x.cut)/\wr.cell? ⟨b,o+k*8+6,none⟩=some (.bool x.gone)/\wr.cell? ⟨b,o+k*8+7,none⟩=some (.string x.who)/\ZR S' wr [.string x.folder,.int .i64 x.seq,.slice A2 x.prev.length c2,.string x.parent,.slice A4 x.members.length c4,.int .i64 x.cut,.bool x.gone,.string x.who] x/\x.folder.size<=140737488355328/\I64 x.seq/\x.prev.length<=c2/\c2<=9223372036854775807/\x.prev.length<=140737488355328/\SlAt 1 YL S' wr A2 x.prev/\x.parent.size<=140737488355328/\x.members.length<=c4/\c4<=9223372036854775807/\x.members.length<=140737488355328/\SlAt 2 zY S' wr A4 x.members/\I64 x.cut/\x.who.size<=140737488355328:=by
 obtain ⟨x,hx,hd,hm⟩:=z5z hk;obtain ⟨b,o,_,hA,hS,_,hc,hR⟩:=s k _ hx;have hR':=YF hR hb;obtain ⟨A2,c2,A4,c4,e,hrest⟩:=yF hR';subst e;have c0':wr.cell? ⟨b,o+k*8,none⟩=_:=Z9 (p:=⟨b,o+(k*8+0),none⟩) hb hS (hc 0 _ rfl);have c1':wr.cell? ⟨b,o+k*8+1,none⟩=_:=Z9 (p:=⟨b,o+(k*8+1),none⟩) hb hS (hc 1 _ rfl);have c2':wr.cell? ⟨b,o+k*8+2,none⟩=_:=Z9 (p:=⟨b,o+(k*8+2),none⟩) hb hS (hc 2 _ rfl);have c3':wr.cell? ⟨b,o+k*8+3,none⟩=_:=Z9 (p:=⟨b,o+(k*8+3),none⟩) hb hS (hc 3 _ rfl);have c4':wr.cell? ⟨b,o+k*8+4,none⟩=_:=Z9 (p:=⟨b,o+(k*8+4),none⟩) hb hS (hc 4 _ rfl);have c5':wr.cell? ⟨b,o+k*8+5,none⟩=_:=Z9 (p:=⟨b,o+(k*8+5),none⟩) hb hS (hc 5 _ rfl);have c6':wr.cell? ⟨b,o+k*8+6,none⟩=_:=Z9 (p:=⟨b,o+(k*8+6),none⟩) hb hS (hc 6 _ rfl);have c7':wr.cell? ⟨b,o+k*8+7,none⟩=_:=Z9 (p:=⟨b,o+(k*8+7),none⟩) hb hS (hc 7 _ rfl);exact ⟨x,b,o,A2,c2,A4,c4,hx,hd,hm,hA,zF (hc 0 _ rfl),hS,c0',c1',c2',c3',c4',c5',c6',c7',hR',hrest⟩
structure Epoch where
 place:Int
 frm:Int
 seq:Int
 chain:List At
 who:ByteArray
def z02:Rp Epoch:=fun S w cs x=>∃v3,cs=[.int .i64 x.place,.int .i64 x.frm,.int .i64 x.seq,v3,.string x.who]/\I64 x.place/\I64 x.frm/\I64 x.seq/\Sl 2 rAt S w v3 x.chain/\x.who.size<=140737488355328
theorem zLh {S:Nat->Prop} {w:World} {cs:List Value} {x:Epoch} (h:z02 S w cs x):cs.length=5:=by
 obtain ⟨_,rfl,_,_,_,_,_⟩:=h;rfl
theorem z30 {S S':Nat->Prop} {w w':World} {cs:List Value} {x:Epoch} (h:z02 S w cs x) (k:Kept S S' w w'):z02 S' w' cs x:=by
 obtain ⟨v3,e,c0,c1,c2,c3,c4⟩:=h;exact ⟨v3,e,c0,c1,c2,c3.keep Z1 (by decide) k,c4⟩
theorem zLi {S:Nat->Prop} {w:World} {cs:List Value} {x:Epoch} (h:z02 S w cs x):∀u∈cs,u.oneCell'=true:=by
 obtain ⟨_,e,_,_,_,c3,_⟩:=h;obtain ⟨_,_,rfl,_⟩:=c3;intro u hu;rw [e] at hu;simp only [qLcx,List.not_mem_nil,or_false] at hu;rcases hu with rfl | rfl | rfl | rfl | rfl<;>rfl
theorem z4g:RpOk 5 z02:=⟨zLh,z30,zLi⟩
theorem z3o {S:Nat->Prop} {w:World} {cs:List Value} {x:Epoch} (h:z02 S w cs x):∃A3 c3,cs=[.int .i64 x.place,.int .i64 x.frm,.int .i64 x.seq,.slice A3 x.chain.length c3,.string x.who]/\I64 x.place/\I64 x.frm/\I64 x.seq/\x.chain.length<=c3/\c3<=9223372036854775807/\x.chain.length<=140737488355328/\SlAt 2 rAt S w A3 x.chain/\x.who.size<=140737488355328:=by
 obtain ⟨_,e,c0,c1,c2,c3,c4⟩:=h;obtain ⟨A3,k3,rfl,l3,m3,n3,s3⟩:=c3;exact ⟨A3,k3,e,c0,c1,c2,l3,(by simpa [maxLen] using m3),n3,s3,c4⟩
structure Version where
 epoch:Int
 gone:Bool
 who:ByteArray
 data:List Int
def yL:Rp Version:=fun S w cs x=>∃v3,cs=[.int .i64 x.epoch,.bool x.gone,.string x.who,v3]/\I64 x.epoch/\x.who.size<=140737488355328/\Sl 1 YL S w v3 x.data
theorem zHr {S:Nat->Prop} {w:World} {cs:List Value} {x:Version} (h:yL S w cs x):cs.length=4:=by
 obtain ⟨_,rfl,_,_,_⟩:=h;rfl
theorem z19 {S S':Nat->Prop} {w w':World} {cs:List Value} {x:Version} (h:yL S w cs x) (k:Kept S S' w w'):yL S' w' cs x:=by
 obtain ⟨v3,e,c0,c1,c2⟩:=h;exact ⟨v3,e,c0,c1,c2.keep rByte_ok (by decide) k⟩
theorem zHs {S:Nat->Prop} {w:World} {cs:List Value} {x:Version} (h:yL S w cs x):∀u∈cs,u.oneCell'=true:=by
 obtain ⟨_,e,_,_,c2⟩:=h;obtain ⟨_,_,rfl,_⟩:=c2;intro u hu;rw [e] at hu;simp only [qLcx,List.not_mem_nil,or_false] at hu;rcases hu with rfl | rfl | rfl | rfl<;>rfl
theorem z44:RpOk 4 yL:=⟨zHr,z19,zHs⟩
theorem zA2 {S:Nat->Prop} {w:World} {cs:List Value} {x:Version} (h:yL S w cs x):∃A3 c3,cs=[.int .i64 x.epoch,.bool x.gone,.string x.who,.slice A3 x.data.length c3]/\I64 x.epoch/\x.who.size<=140737488355328/\x.data.length<=c3/\c3<=9223372036854775807/\x.data.length<=140737488355328/\SlAt 1 YL S w A3 x.data:=by
 obtain ⟨_,e,c0,c1,c2⟩:=h;obtain ⟨A3,k3,rfl,l3,m3,n3,s3⟩:=c2;exact ⟨A3,k3,e,c0,c1,l3,(by simpa [maxLen] using m3),n3,s3⟩
theorem z8d {S S':Nat->Prop} {w wr:World} {A:Option Addr} {l:List Version} {k:Nat} (s:SlAt 4 yL S w A l) (hk:k < l.length) (hb:Kept S S' w wr):
  ∃x b o A3 c3,l[k]? =some x/\l.drop k=x :: l.drop (k+1)/\x∈l/\A=some ⟨b,o,none⟩/\b < w.heap.size/\S b/\wr.cell? ⟨b,o+k*4,none⟩=some (.int .i64 x.epoch)/\wr.cell? ⟨b,o+k*4+1,none⟩=some (.bool x.gone)/\wr.cell? ⟨b,o+k*4+2,none⟩=some (.string x.who)/\wr.cell? ⟨b,o+k*4+3,none⟩=some (.slice A3 x.data.length c3)/\yL S' wr [.int .i64 x.epoch,.bool x.gone,.string x.who,.slice A3 x.data.length c3] x/\I64 x.epoch/\x.who.size<=140737488355328/\x.data.length<=c3/\c3<=9223372036854775807/\x.data.length<=140737488355328/\SlAt 1 YL S' wr A3 x.data:=by
 obtain ⟨x,hx,hd,hm⟩:=z5z hk;obtain ⟨b,o,_,hA,hS,_,hc,hR⟩:=s k _ hx;have hR':=z19 hR hb;obtain ⟨A3,c3,e,hrest⟩:=zA2 hR';subst e;have c0':wr.cell? ⟨b,o+k*4,none⟩=_:=Z9 (p:=⟨b,o+(k*4+0),none⟩) hb hS (hc 0 _ rfl);have c1':wr.cell? ⟨b,o+k*4+1,none⟩=_:=Z9 (p:=⟨b,o+(k*4+1),none⟩) hb hS (hc 1 _ rfl);have c2':wr.cell? ⟨b,o+k*4+2,none⟩=_:=Z9 (p:=⟨b,o+(k*4+2),none⟩) hb hS (hc 2 _ rfl);have c3':wr.cell? ⟨b,o+k*4+3,none⟩=_:=Z9 (p:=⟨b,o+(k*4+3),none⟩) hb hS (hc 3 _ rfl);exact ⟨x,b,o,A3,c3,hx,hd,hm,hA,zF (hc 0 _ rfl),hS,c0',c1',c2',c3',hR',hrest⟩
structure Item where
 name:ByteArray
 versions:List Version
def YB:Rp Item:=fun S w cs x=>∃v1,cs=[.string x.name,v1]/\x.name.size<=140737488355328/\Sl 4 yL S w v1 x.versions
theorem zNm {S:Nat->Prop} {w:World} {cs:List Value} {x:Item} (h:YB S w cs x):cs.length=2:=by
 obtain ⟨_,rfl,_,_⟩:=h;rfl
theorem z5q {S S':Nat->Prop} {w w':World} {cs:List Value} {x:Item} (h:YB S w cs x) (k:Kept S S' w w'):YB S' w' cs x:=by
 obtain ⟨v1,e,c0,c1⟩:=h;exact ⟨v1,e,c0,c1.keep z44 (by decide) k⟩
theorem zNn {S:Nat->Prop} {w:World} {cs:List Value} {x:Item} (h:YB S w cs x):∀u∈cs,u.oneCell'=true:=by
 obtain ⟨_,e,_,c1⟩:=h;obtain ⟨_,_,rfl,_⟩:=c1;intro u hu;rw [e] at hu;simp only [qLcx,List.not_mem_nil,or_false] at hu;rcases hu with rfl | rfl<;>rfl
theorem z3p:RpOk 2 YB:=⟨zNm,z5q,zNn⟩
theorem z4h {S:Nat->Prop} {w:World} {cs:List Value} {x:Item} (h:YB S w cs x):∃A1 c1,cs=[.string x.name,.slice A1 x.versions.length c1]/\x.name.size<=140737488355328/\x.versions.length<=c1/\c1<=9223372036854775807/\x.versions.length<=140737488355328/\SlAt 4 yL S w A1 x.versions:=by
 obtain ⟨_,e,c0,c1⟩:=h;obtain ⟨A1,k1,rfl,l1,m1,n1,s1⟩:=c1;exact ⟨A1,k1,e,c0,l1,(by simpa [maxLen] using m1),n1,s1⟩
theorem z5a {S S':Nat->Prop} {w wr:World} {A:Option Addr} {l:List Item} {k:Nat} (s:SlAt 2 YB S w A l) (hk:k < l.length) (hb:Kept S S' w wr):
  ∃x b o A1 c1,l[k]? =some x/\l.drop k=x :: l.drop (k+1)/\x∈l/\A=some ⟨b,o,none⟩/\b < w.heap.size/\S b/\wr.cell? ⟨b,o+k*2,none⟩=some (.string x.name)/\wr.cell? ⟨b,o+k*2+1,none⟩=some (.slice A1 x.versions.length c1)/\YB S' wr [.string x.name,.slice A1 x.versions.length c1] x/\x.name.size<=140737488355328/\x.versions.length<=c1/\c1<=9223372036854775807/\x.versions.length<=140737488355328/\SlAt 4 yL S' wr A1 x.versions:=by
 obtain ⟨x,hx,hd,hm⟩:=z5z hk;obtain ⟨b,o,_,hA,hS,_,hc,hR⟩:=s k _ hx;have hR':=z5q hR hb;obtain ⟨A1,c1,e,hrest⟩:=z4h hR';subst e;have c0':wr.cell? ⟨b,o+k*2,none⟩=_:=Z9 (p:=⟨b,o+(k*2+0),none⟩) hb hS (hc 0 _ rfl);have c1':wr.cell? ⟨b,o+k*2+1,none⟩=_:=Z9 (p:=⟨b,o+(k*2+1),none⟩) hb hS (hc 1 _ rfl);exact ⟨x,b,o,A1,c1,hx,hd,hm,hA,zF (hc 0 _ rfl),hS,c0',c1',hR',hrest⟩
structure Wrap where
 name:ByteArray
 epoch:Int
 seed:Bool
def YC:Rp Wrap:=fun S w cs x=>cs=[.string x.name,.int .i64 x.epoch,.bool x.seed]/\x.name.size<=140737488355328/\I64 x.epoch
theorem zNo {S:Nat->Prop} {w:World} {cs:List Value} {x:Wrap} (h:YC S w cs x):cs.length=3:=by
 obtain ⟨rfl,_,_⟩:=h;rfl
theorem z3q {S S':Nat->Prop} {w w':World} {cs:List Value} {x:Wrap} (h:YC S w cs x) (k:Kept S S' w w'):YC S' w' cs x:=by
 obtain ⟨e,c0,c1⟩:=h;exact ⟨e,c0,c1⟩
theorem zG5 {S:Nat->Prop} {w:World} {cs:List Value} {x:Wrap} (h:YC S w cs x):∀u∈cs,u.oneCell'=true:=by
 obtain ⟨e,_,_⟩:=h;intro u hu;rw [e] at hu;simp only [qLcx,List.not_mem_nil,or_false] at hu;rcases hu with rfl | rfl | rfl<;>rfl
theorem z3r:RpOk 3 YC:=⟨zNo,z3q,zG5⟩
theorem z3i {S:Nat->Prop} {w:World} {cs:List Value} {x:Wrap} (h:YC S w cs x):cs=[.string x.name,.int .i64 x.epoch,.bool x.seed]/\x.name.size<=140737488355328/\I64 x.epoch:=by
 obtain ⟨e,c0,c1⟩:=h;exact ⟨e,c0,c1⟩
theorem zHt {S S':Nat->Prop} {w wr:World} {A:Option Addr} {l:List Wrap} {k:Nat} (s:SlAt 3 YC S w A l) (hk:k < l.length) (hb:Kept S S' w wr):
  ∃x b o,l[k]? =some x/\l.drop k=x :: l.drop (k+1)/\x∈l/\A=some ⟨b,o,none⟩/\b < w.heap.size/\S b/\wr.cell? ⟨b,o+k*3,none⟩=some (.string x.name)/\wr.cell? ⟨b,o+k*3+1,none⟩=some (.int .i64 x.epoch)/\wr.cell? ⟨b,o+k*3+2,none⟩=some (.bool x.seed)/\YC S' wr [.string x.name,.int .i64 x.epoch,.bool x.seed] x/\x.name.size<=140737488355328/\I64 x.epoch:=by
 obtain ⟨x,hx,hd,hm⟩:=z5z hk;obtain ⟨b,o,_,hA,hS,_,hc,hR⟩:=s k _ hx;have hR':=z3q hR hb;obtain ⟨e,hrest⟩:=z3i hR';subst e;have c0':wr.cell? ⟨b,o+k*3,none⟩=_:=Z9 (p:=⟨b,o+(k*3+0),none⟩) hb hS (hc 0 _ rfl);have c1':wr.cell? ⟨b,o+k*3+1,none⟩=_:=Z9 (p:=⟨b,o+(k*3+1),none⟩) hb hS (hc 1 _ rfl);have c2':wr.cell? ⟨b,o+k*3+2,none⟩=_:=Z9 (p:=⟨b,o+(k*3+2),none⟩) hb hS (hc 2 _ rfl);exact ⟨x,b,o,hx,hd,hm,hA,zF (hc 0 _ rfl),hS,c0',c1',c2',hR',hrest⟩
structure Link where
 epoch:Int
 to:ByteArray
 seq:Int
def z0g:Rp Link:=fun S w cs x=>cs=[.int .i64 x.epoch,.string x.to,.int .i64 x.seq]/\I64 x.epoch/\x.to.size<=140737488355328/\I64 x.seq
theorem zNp {S:Nat->Prop} {w:World} {cs:List Value} {x:Link} (h:z0g S w cs x):cs.length=3:=by
 obtain ⟨rfl,_,_,_⟩:=h;rfl
theorem z5r {S S':Nat->Prop} {w w':World} {cs:List Value} {x:Link} (h:z0g S w cs x) (k:Kept S S' w w'):z0g S' w' cs x:=by
 obtain ⟨e,c0,c1,c2⟩:=h;exact ⟨e,c0,c1,c2⟩
theorem zNq {S:Nat->Prop} {w:World} {cs:List Value} {x:Link} (h:z0g S w cs x):∀u∈cs,u.oneCell'=true:=by
 obtain ⟨e,_,_,_⟩:=h;intro u hu;rw [e] at hu;simp only [qLcx,List.not_mem_nil,or_false] at hu;rcases hu with rfl | rfl | rfl<;>rfl
theorem z3s:RpOk 3 z0g:=⟨zNp,z5r,zNq⟩
theorem z6l {S:Nat->Prop} {w:World} {cs:List Value} {x:Link} (h:z0g S w cs x):cs=[.int .i64 x.epoch,.string x.to,.int .i64 x.seq]/\I64 x.epoch/\x.to.size<=140737488355328/\I64 x.seq:=by
 obtain ⟨e,c0,c1,c2⟩:=h;exact ⟨e,c0,c1,c2⟩
theorem zQ4 {S S':Nat->Prop} {w wr:World} {A:Option Addr} {l:List Link} {k:Nat} (s:SlAt 3 z0g S w A l) (hk:k < l.length) (hb:Kept S S' w wr):
  ∃x b o,l[k]? =some x/\l.drop k=x :: l.drop (k+1)/\x∈l/\A=some ⟨b,o,none⟩/\b < w.heap.size/\S b/\wr.cell? ⟨b,o+k*3,none⟩=some (.int .i64 x.epoch)/\wr.cell? ⟨b,o+k*3+1,none⟩=some (.string x.to)/\wr.cell? ⟨b,o+k*3+2,none⟩=some (.int .i64 x.seq)/\z0g S' wr [.int .i64 x.epoch,.string x.to,.int .i64 x.seq] x/\I64 x.epoch/\x.to.size<=140737488355328/\I64 x.seq:=by
 obtain ⟨x,hx,hd,hm⟩:=z5z hk;obtain ⟨b,o,_,hA,hS,_,hc,hR⟩:=s k _ hx;have hR':=z5r hR hb;obtain ⟨e,hrest⟩:=z6l hR';subst e;have c0':wr.cell? ⟨b,o+k*3,none⟩=_:=Z9 (p:=⟨b,o+(k*3+0),none⟩) hb hS (hc 0 _ rfl);have c1':wr.cell? ⟨b,o+k*3+1,none⟩=_:=Z9 (p:=⟨b,o+(k*3+1),none⟩) hb hS (hc 1 _ rfl);have c2':wr.cell? ⟨b,o+k*3+2,none⟩=_:=Z9 (p:=⟨b,o+(k*3+2),none⟩) hb hS (hc 2 _ rfl);exact ⟨x,b,o,hx,hd,hm,hA,zF (hc 0 _ rfl),hS,c0',c1',c2',hR',hrest⟩
structure Folder where
 name:ByteArray
 turn:Int
 manifests:List Manifest
 epochs:List Epoch
 items:List Item
 wraps:List Wrap
 links:List Link
def ZG:Rp Folder:=fun S w cs x=>∃v2 v3 v4 v5 v6,cs=[.string x.name,.int .i64 x.turn,v2,v3,v4,v5,v6]/\x.name.size<=140737488355328/\I64 x.turn/\Sl 8 ZR S w v2 x.manifests/\Sl 5 z02 S w v3 x.epochs/\Sl 2 YB S w v4 x.items/\Sl 3 YC S w v5 x.wraps/\Sl 3 z0g S w v6 x.links
theorem zJg {S:Nat->Prop} {w:World} {cs:List Value} {x:Folder} (h:ZG S w cs x):cs.length=7:=by
 obtain ⟨_,_,_,_,_,rfl,_,_,_,_,_,_,_⟩:=h;rfl
theorem Z5 {S S':Nat->Prop} {w w':World} {cs:List Value} {x:Folder} (h:ZG S w cs x) (k:Kept S S' w w'):ZG S' w' cs x:=by
 obtain ⟨v2,v3,v4,v5,v6,e,c0,c1,c2,c3,c4,c5,c6⟩:=h;exact ⟨v2,v3,v4,v5,v6,e,c0,c1,c2.keep z2f (by decide) k,c3.keep z4g (by decide) k,c4.keep z3p (by decide) k,c5.keep z3r (by decide) k,c6.keep z3s (by decide) k⟩
theorem zBl {S:Nat->Prop} {w:World} {cs:List Value} {x:Folder} (h:ZG S w cs x):∀u∈cs,u.oneCell'=true:=by
 obtain ⟨_,_,_,_,_,e,_,_,c2,c3,c4,c5,c6⟩:=h;obtain ⟨_,_,rfl,_⟩:=c2;obtain ⟨_,_,rfl,_⟩:=c3;obtain ⟨_,_,rfl,_⟩:=c4;obtain ⟨_,_,rfl,_⟩:=c5;obtain ⟨_,_,rfl,_⟩:=c6;intro u hu;rw [e] at hu;simp only [qLcx,List.not_mem_nil,or_false] at hu;rcases hu with rfl | rfl | rfl | rfl | rfl | rfl | rfl<;>rfl
theorem YX:RpOk 7 ZG:=⟨zJg,Z5,zBl⟩
theorem Z2 {S:Nat->Prop} {w:World} {cs:List Value} {x:Folder} (h:ZG S w cs x):∃A2 c2 A3 c3 A4 c4 A5 c5 A6 c6,cs=[.string x.name,.int .i64 x.turn,.slice A2 x.manifests.length c2,.slice A3 x.epochs.length c3,.slice A4 x.items.length c4,.slice A5 x.wraps.length c5,.slice A6 x.links.length c6]/\x.name.size<=140737488355328/\I64 x.turn/\x.manifests.length<=c2/\c2<=9223372036854775807/\x.manifests.length<=140737488355328/\SlAt 8 ZR S w A2 x.manifests/\x.epochs.length<=c3/\c3<=9223372036854775807/\x.epochs.length<=140737488355328/\SlAt 5 z02 S w A3 x.epochs/\x.items.length<=c4/\c4<=9223372036854775807/\x.items.length<=140737488355328/\SlAt 2 YB S w A4 x.items/\x.wraps.length<=c5/\c5<=9223372036854775807/\x.wraps.length<=140737488355328/\SlAt 3 YC S w A5 x.wraps/\x.links.length<=c6/\c6<=9223372036854775807/\x.links.length<=140737488355328/\SlAt 3 z0g S w A6 x.links:=by
 obtain ⟨_,_,_,_,_,e,c0,c1,c2,c3,c4,c5,c6⟩:=h;obtain ⟨A2,k2,rfl,l2,m2,n2,s2⟩:=c2;obtain ⟨A3,k3,rfl,l3,m3,n3,s3⟩:=c3;obtain ⟨A4,k4,rfl,l4,m4,n4,s4⟩:=c4;obtain ⟨A5,k5,rfl,l5,m5,n5,s5⟩:=c5;obtain ⟨A6,k6,rfl,l6,m6,n6,s6⟩:=c6;exact ⟨A2,k2,A3,k3,A4,k4,A5,k5,A6,k6,e,c0,c1,l2,(by simpa [maxLen] using m2),n2,s2,l3,(by simpa [maxLen] using m3),n3,s3,l4,(by simpa [maxLen] using m4),n4,s4,l5,(by simpa [maxLen] using m5),n5,s5,l6,(by simpa [maxLen] using m6),n6,s6⟩
theorem z4s {S S':Nat->Prop} {w wr:World} {A:Option Addr} {l:List Folder} {k:Nat} (s:SlAt 7 ZG S w A l) (hk:k < l.length) (hb:Kept S S' w wr):
  ∃x b o A2 c2 A3 c3 A4 c4 A5 c5 A6 c6,l[k]? =some x/\l.drop k=x :: l.drop (k+1)/\x∈l/\A=some ⟨b,o,none⟩/\b < w.heap.size/\S b/\wr.cell? ⟨b,o+k*7,none⟩=some (.string x.name)/\wr.cell? ⟨b,o+k*7+1,none⟩=some (.int .i64 x.turn)/\wr.cell? ⟨b,o+k*7+2,none⟩=some (.slice A2 x.manifests.length c2)/\wr.cell? ⟨b,o+k*7+3,none⟩=some (.slice A3 x.epochs.length c3)/\wr.cell? ⟨b,o+k*7+4,none⟩=some (.slice A4 x.items.length c4)/\wr.cell? ⟨b,o+k*7+5,none⟩=some (.slice A5 x.wraps.length c5)/\wr.cell? ⟨b,o+k*7+6,none⟩=some (.slice A6 x.links.length c6)/\ZG S' wr [.string x.name,.int .i64 x.turn,.slice A2 x.manifests.length c2,.slice A3 x.epochs.length c3,.slice A4 x.items.length c4,.slice A5 x.wraps.length c5,.slice A6 x.links.length c6] x/\x.name.size<=140737488355328/\I64 x.turn/\x.manifests.length<=c2/\c2<=9223372036854775807/\x.manifests.length<=140737488355328/\SlAt 8 ZR S' wr A2 x.manifests/\x.epochs.length<=c3/\c3<=9223372036854775807/\x.epochs.length<=140737488355328/\SlAt 5 z02 S' wr A3 x.epochs/\x.items.length<=c4/\c4<=9223372036854775807/\x.items.length<=140737488355328/\SlAt 2 YB S' wr A4 x.items/\x.wraps.length<=c5/\c5<=9223372036854775807/\x.wraps.length<=140737488355328/\SlAt 3 YC S' wr A5 x.wraps/\x.links.length<=c6/\c6<=9223372036854775807/\x.links.length<=140737488355328/\SlAt 3 z0g S' wr A6 x.links:=by
 obtain ⟨x,hx,hd,hm⟩:=z5z hk;obtain ⟨b,o,_,hA,hS,_,hc,hR⟩:=s k _ hx;have hR':=Z5 hR hb;obtain ⟨A2,c2,A3,c3,A4,c4,A5,c5,A6,c6,e,hrest⟩:=Z2 hR';subst e;have c0':wr.cell? ⟨b,o+k*7,none⟩=_:=Z9 (p:=⟨b,o+(k*7+0),none⟩) hb hS (hc 0 _ rfl);have c1':wr.cell? ⟨b,o+k*7+1,none⟩=_:=Z9 (p:=⟨b,o+(k*7+1),none⟩) hb hS (hc 1 _ rfl);have c2':wr.cell? ⟨b,o+k*7+2,none⟩=_:=Z9 (p:=⟨b,o+(k*7+2),none⟩) hb hS (hc 2 _ rfl);have c3':wr.cell? ⟨b,o+k*7+3,none⟩=_:=Z9 (p:=⟨b,o+(k*7+3),none⟩) hb hS (hc 3 _ rfl);have c4':wr.cell? ⟨b,o+k*7+4,none⟩=_:=Z9 (p:=⟨b,o+(k*7+4),none⟩) hb hS (hc 4 _ rfl);have c5':wr.cell? ⟨b,o+k*7+5,none⟩=_:=Z9 (p:=⟨b,o+(k*7+5),none⟩) hb hS (hc 5 _ rfl);have c6':wr.cell? ⟨b,o+k*7+6,none⟩=_:=Z9 (p:=⟨b,o+(k*7+6),none⟩) hb hS (hc 6 _ rfl);exact ⟨x,b,o,A2,c2,A3,c3,A4,c4,A5,c5,A6,c6,hx,hd,hm,hA,zF (hc 0 _ rfl),hS,c0',c1',c2',c3',c4',c5',c6',hR',hrest⟩
structure Past where
 number:Int
 epoch:Int
 gone:Bool
 who:ByteArray
def z6e:Rp Past:=fun S w cs x=>cs=[.int .i64 x.number,.int .i64 x.epoch,.bool x.gone,.string x.who]/\I64 x.number/\I64 x.epoch/\x.who.size<=140737488355328
theorem zNr {S:Nat->Prop} {w:World} {cs:List Value} {x:Past} (h:z6e S w cs x):cs.length=4:=by
 obtain ⟨rfl,_,_,_⟩:=h;rfl
theorem zLj {S S':Nat->Prop} {w w':World} {cs:List Value} {x:Past} (h:z6e S w cs x) (k:Kept S S' w w'):z6e S' w' cs x:=by
 obtain ⟨e,c0,c1,c2⟩:=h;exact ⟨e,c0,c1,c2⟩
theorem zNs {S:Nat->Prop} {w:World} {cs:List Value} {x:Past} (h:z6e S w cs x):∀u∈cs,u.oneCell'=true:=by
 obtain ⟨e,_,_,_⟩:=h;intro u hu;rw [e] at hu;simp only [qLcx,List.not_mem_nil,or_false] at hu;rcases hu with rfl | rfl | rfl | rfl<;>rfl
theorem z7g:RpOk 4 z6e:=⟨zNr,zLj,zNs⟩
structure Answer where
 err:Int
 number:Int
 who:ByteArray
 data:List Int
 names:List ByteArray
 members:List Member
 history:List Past
def YY:Rp Answer:=fun S w cs x=>∃v3 v4 v5 v6,cs=[.int .i64 x.err,.int .i64 x.number,.string x.who,v3,v4,v5,v6]/\I64 x.err/\I64 x.number/\x.who.size<=140737488355328/\Sl 1 YL S w v3 x.data/\Sl 1 z06 S w v4 x.names/\Sl 2 zY S w v5 x.members/\Sl 4 z6e S w v6 x.history
theorem z2g {S S':Nat->Prop} {w w':World} {cs:List Value} {x:Answer} (h:YY S w cs x) (k:Kept S S' w w'):YY S' w' cs x:=by
 obtain ⟨v3,v4,v5,v6,e,c0,c1,c2,c3,c4,c5,c6⟩:=h;exact ⟨v3,v4,v5,v6,e,c0,c1,c2,c3.keep rByte_ok (by decide) k,c4.keep ZT (by decide) k,c5.keep ZH (by decide) k,c6.keep z7g (by decide) k⟩
structure Call where
 kind:Int
 user:ByteArray
 folder:ByteArray
 name:ByteArray
 other:ByteArray
 role:Int
 version:Int
 data:List Int
def z2a:Rp Call:=fun S w cs x=>∃v7,cs=[.int .i64 x.kind,.string x.user,.string x.folder,.string x.name,.string x.other,.int .i64 x.role,.int .i64 x.version,v7]/\I64 x.kind/\x.user.size<=140737488355328/\x.folder.size<=140737488355328/\x.name.size<=140737488355328/\x.other.size<=140737488355328/\I64 x.role/\I64 x.version/\Sl 1 YL S w v7 x.data
theorem zNt {S:Nat->Prop} {w:World} {cs:List Value} {x:Call} (h:z2a S w cs x):cs.length=8:=by
 obtain ⟨_,rfl,_,_,_,_,_,_,_,_⟩:=h;rfl
theorem YZ {S S':Nat->Prop} {w w':World} {cs:List Value} {x:Call} (h:z2a S w cs x) (k:Kept S S' w w'):z2a S' w' cs x:=by
 obtain ⟨v7,e,c0,c1,c2,c3,c4,c5,c6,c7⟩:=h;exact ⟨v7,e,c0,c1,c2,c3,c4,c5,c6,c7.keep rByte_ok (by decide) k⟩
theorem zNu {S:Nat->Prop} {w:World} {cs:List Value} {x:Call} (h:z2a S w cs x):∀u∈cs,u.oneCell'=true:=by
 obtain ⟨_,e,_,_,_,_,_,_,_,c7⟩:=h;obtain ⟨_,_,rfl,_⟩:=c7;intro u hu;rw [e] at hu;simp only [qLcx,List.not_mem_nil,or_false] at hu;rcases hu with rfl | rfl | rfl | rfl | rfl | rfl | rfl | rfl<;>rfl
theorem zD8:RpOk 8 z2a:=⟨zNt,YZ,zNu⟩
theorem YQ {S:Nat->Prop} {w:World} {cs:List Value} {x:Call} (h:z2a S w cs x):∃A7 c7,cs=[.int .i64 x.kind,.string x.user,.string x.folder,.string x.name,.string x.other,.int .i64 x.role,.int .i64 x.version,.slice A7 x.data.length c7]/\I64 x.kind/\x.user.size<=140737488355328/\x.folder.size<=140737488355328/\x.name.size<=140737488355328/\x.other.size<=140737488355328/\I64 x.role/\I64 x.version/\x.data.length<=c7/\c7<=9223372036854775807/\x.data.length<=140737488355328/\SlAt 1 YL S w A7 x.data:=by
 obtain ⟨_,e,c0,c1,c2,c3,c4,c5,c6,c7⟩:=h;obtain ⟨A7,k7,rfl,l7,m7,n7,s7⟩:=c7;exact ⟨A7,k7,e,c0,c1,c2,c3,c4,c5,c6,l7,(by simpa [maxLen] using m7),n7,s7⟩
theorem zHu {S S':Nat->Prop} {w wr:World} {A:Option Addr} {l:List Call} {k:Nat} (s:SlAt 8 z2a S w A l) (hk:k < l.length) (hb:Kept S S' w wr):
  ∃x b o A7 c7,l[k]? =some x/\l.drop k=x :: l.drop (k+1)/\x∈l/\A=some ⟨b,o,none⟩/\b < w.heap.size/\S b/\wr.cell? ⟨b,o+k*8,none⟩=some (.int .i64 x.kind)/\wr.cell? ⟨b,o+k*8+1,none⟩=some (.string x.user)/\wr.cell? ⟨b,o+k*8+2,none⟩=some (.string x.folder)/\wr.cell? ⟨b,o+k*8+3,none⟩=some (.string x.name)/\wr.cell? ⟨b,o+k*8+4,none⟩=some (.string x.other)/\wr.cell? ⟨b,o+k*8+5,none⟩=some (.int .i64 x.role)/\wr.cell? ⟨b,o+k*8+6,none⟩=some (.int .i64 x.version)/\wr.cell? ⟨b,o+k*8+7,none⟩=some (.slice A7 x.data.length c7)/\z2a S' wr [.int .i64 x.kind,.string x.user,.string x.folder,.string x.name,.string x.other,.int .i64 x.role,.int .i64 x.version,.slice A7 x.data.length c7] x/\I64 x.kind/\x.user.size<=140737488355328/\x.folder.size<=140737488355328/\x.name.size<=140737488355328/\x.other.size<=140737488355328/\I64 x.role/\I64 x.version/\x.data.length<=c7/\c7<=9223372036854775807/\x.data.length<=140737488355328/\SlAt 1 YL S' wr A7 x.data:=by
 obtain ⟨x,hx,hd,hm⟩:=z5z hk;obtain ⟨b,o,_,hA,hS,_,hc,hR⟩:=s k _ hx;have hR':=YZ hR hb;obtain ⟨A7,c7,e,hrest⟩:=YQ hR';subst e;have c0':wr.cell? ⟨b,o+k*8,none⟩=_:=Z9 (p:=⟨b,o+(k*8+0),none⟩) hb hS (hc 0 _ rfl);have c1':wr.cell? ⟨b,o+k*8+1,none⟩=_:=Z9 (p:=⟨b,o+(k*8+1),none⟩) hb hS (hc 1 _ rfl);have c2':wr.cell? ⟨b,o+k*8+2,none⟩=_:=Z9 (p:=⟨b,o+(k*8+2),none⟩) hb hS (hc 2 _ rfl);have c3':wr.cell? ⟨b,o+k*8+3,none⟩=_:=Z9 (p:=⟨b,o+(k*8+3),none⟩) hb hS (hc 3 _ rfl);have c4':wr.cell? ⟨b,o+k*8+4,none⟩=_:=Z9 (p:=⟨b,o+(k*8+4),none⟩) hb hS (hc 4 _ rfl);have c5':wr.cell? ⟨b,o+k*8+5,none⟩=_:=Z9 (p:=⟨b,o+(k*8+5),none⟩) hb hS (hc 5 _ rfl);have c6':wr.cell? ⟨b,o+k*8+6,none⟩=_:=Z9 (p:=⟨b,o+(k*8+6),none⟩) hb hS (hc 6 _ rfl);have c7':wr.cell? ⟨b,o+k*8+7,none⟩=_:=Z9 (p:=⟨b,o+(k*8+7),none⟩) hb hS (hc 7 _ rfl);exact ⟨x,b,o,A7,c7,hx,hd,hm,hA,zF (hc 0 _ rfl),hS,c0',c1',c2',c3',c4',c5',c6',c7',hR',hrest⟩
theorem zTp {w:World}:Rd Tryz.prog w 41 z2a:=by
 intro H enc base spare held fuel cs x h hz;obtain ⟨hl,_,hf⟩:=zNh Tryz.underlying41 (by kernel_rfl) (by kernel_rfl) h hz
 match cs,hl with
 | [c0,c1,c2,c3,c4,c5,c6,c7],_=>
  obtain ⟨_,t0,z0⟩:=hf 0 _ rfl;obtain ⟨a0,(e0:c0=_),b0⟩:=zF9 Tryz.underlying3 t0 z0;obtain ⟨_,t1,z1⟩:=hf 1 _ rfl;obtain ⟨a1,(e1:c1=_),b1⟩:=zB0 Tryz.underlying9 t1 z1;obtain ⟨_,t2,z2⟩:=hf 2 _ rfl;obtain ⟨a2,(e2:c2=_),b2⟩:=zB0 Tryz.underlying9 t2 z2;obtain ⟨_,t3,z3⟩:=hf 3 _ rfl;obtain ⟨a3,(e3:c3=_),b3⟩:=zB0 Tryz.underlying9 t3 z3;obtain ⟨_,t4,z4⟩:=hf 4 _ rfl;obtain ⟨a4,(e4:c4=_),b4⟩:=zB0 Tryz.underlying9 t4 z4;obtain ⟨_,t5,z5⟩:=hf 5 _ rfl;obtain ⟨a5,(e5:c5=_),b5⟩:=zF9 Tryz.underlying3 t5 z5;obtain ⟨_,t6,z6⟩:=hf 6 _ rfl;obtain ⟨a6,(e6:c6=_),b6⟩:=zF9 Tryz.underlying3 t6 z6;obtain ⟨_,t7,z7⟩:=hf 7 _ rfl;obtain ⟨a7,b7⟩:=zNg (zHo Tryz.underlying39 (by kernel_rfl) (of_decide_eq_true (by kernel_rfl)) (by decide) (zSb Tryz.underlying5) rByte_ok.len) t7 z7;have b7':Sl 1 YL _ w c7 a7:=b7;subst e0 e1 e2 e3 e4 e5 e6;exact ⟨⟨a0,a1,a2,a3,a4,a5,a6,a7⟩,⟨c7,rfl,b0,b1,b2,b3,b4,b5,b6,b7'⟩⟩
structure State where
 turn:Int
 users:List User
 deposits:List Pair
 folders:List Folder
def yB:Rp State:=fun S w cs x=>∃v1 v2 v3,cs=[.int .i64 x.turn,v1,v2,v3]/\I64 x.turn/\Sl 2 z0s S w v1 x.users/\Sl 2 z0o S w v2 x.deposits/\Sl 7 ZG S w v3 x.folders
theorem Z0 {S S':Nat->Prop} {w w':World} {cs:List Value} {x:State} (h:yB S w cs x) (k:Kept S S' w w'):yB S' w' cs x:=by
 obtain ⟨v1,v2,v3,e,c0,c1,c2,c3⟩:=h;exact ⟨v1,v2,v3,e,c0,c1.keep z3m (by decide) k,c2.keep z2e (by decide) k,c3.keep YX (by decide) k⟩
theorem ZP {S:Nat->Prop} {w:World} {cs:List Value} {x:State} (h:yB S w cs x):∃A1 c1 A2 c2 A3 c3,cs=[.int .i64 x.turn,.slice A1 x.users.length c1,.slice A2 x.deposits.length c2,.slice A3 x.folders.length c3]/\I64 x.turn/\x.users.length<=c1/\c1<=9223372036854775807/\x.users.length<=140737488355328/\SlAt 2 z0s S w A1 x.users/\x.deposits.length<=c2/\c2<=9223372036854775807/\x.deposits.length<=140737488355328/\SlAt 2 z0o S w A2 x.deposits/\x.folders.length<=c3/\c3<=9223372036854775807/\x.folders.length<=140737488355328/\SlAt 7 ZG S w A3 x.folders:=by
 obtain ⟨_,_,_,e,c0,c1,c2,c3⟩:=h;obtain ⟨A1,k1,rfl,l1,m1,n1,s1⟩:=c1;obtain ⟨A2,k2,rfl,l2,m2,n2,s2⟩:=c2;obtain ⟨A3,k3,rfl,l3,m3,n3,s3⟩:=c3;exact ⟨A1,k1,A2,k2,A3,k3,e,c0,l1,(by simpa [maxLen] using m1),n1,s1,l2,(by simpa [maxLen] using m2),n2,s2,l3,(by simpa [maxLen] using m3),n3,s3⟩
end
end Go.Proofs.YtdggplhnfhcieaaGreatDoor
