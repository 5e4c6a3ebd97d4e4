/- No condition. -/
import Derived.Handy
import Derived.Lib.Hide
import Derived.Deep.Slices
import Derived.Deep.Draws
import Derived.Deep.OwnRows
import Derived.WalkLawsBesides
import Derived.WalkSpells
import Derived.Test.YtdggplhnfhcieaaGreatDoorChecked
import Derived.Deep.Fields
import Derived.Maps.AppendAt
import Derived.OwnWalk
import Derived.Lib.AppendZeros
import Derived.WalkKit
import Derived.ProofKit
import Derived.OpenShut
import Derived.Below
import Derived.Carry
import Derived.Test.YtdggplhnfhcieaaGreatDoorRows
import Derived.Lib.Strings
import Derived.LaidMore
import Derived.Lay
import Derived.Test.YtdggplhnfhcieaaGreatDoorTie
import Derived.Laws.StructEq
import Derived.BigQuiet
import Derived.Deep.DeepMust
import Derived.ArgAppend
import Derived.Deep.AppendLies
import Derived.Test.YtdggplhnfhcieaaGreatDoorWH
set_option linter.all false
set_option maxRecDepth 100000
set_option maxHeartbeats 16000000
namespace Go.Proofs.YtdggplhnfhcieaaGreatDoor
open Go.Proofs.Tryz Cd List
variable {A:Option Addr} {P:Program} {Q:Exit->Act->World->Prop} {S S':Nat->Prop} {cs:List Value} {e:TypeId} {i k n:Nat} {ops:Array Oper} {p:Prop} {rest:List Oper} {v:Value} {W w w' wr:World} {H α:Type} {l:List α}
open Go.RowKit Go.Deep in
instance {f a w v}:CoeDep Cd (.kB f a w v) Prop:=⟨Calls Tryz.prog f a w λe x=>e= .returned v/\Below w w x⟩
theorem gn (h:p:=by go_num):p:=h
theorem gg (h:p:=by go_grown):p:=h
abbrev Nm:=ByteArray
variable {s x:Nm}
abbrev Top:Nm:=⟨#[]⟩
abbrev Fs:=Nm->Option (Nm×Bool)
def ZX (F:Fs) (s:Nm):Bool:=match F s with|some (_,g)=>!g|none=>false
def z1k (F:Fs) (s:Nm):Nm:=match F s with|some (p,_)=>p|none=>Top
def chN (F:Fs):Nat->Nm->List Nm
 | 0,_=>[]
 | k+1,s=>if ZX F s then s::chN F k (z1k F s) else[]
def ch (F:Fs) (s:Nm):List Nm:=chN F 5 s
structure Inv (F:Fs):Prop where
 no:ZX F Top=false
 up:∀s,ZX F s=true->z1k F s=Top\/ZX F (z1k F s)=true
 deep:∀s,(ch F s).length<=4
theorem zJg (F:Fs):∀(k:Nat) (s:Nm),(chN F k s).length<k->chN F (k+1) s=chN F k s
 | 0,_,h=>by simp at h
 | k+1,s,h=>by
  rw[chN] at h;show(if ZX F s then s::chN F (k+1) (z1k F s) else[])=if ZX F s then s::chN F k (z1k F s) else[]
  split
  ·rename_i a;rw[if_pos a] at h;rw[zJg F k (z1k F s) (by simpa using h)]
  ·rfl
theorem z67 (F:Fs):∀(k:Nat) (s:Nm),(chN F k s).length<=(chN F (k+1) s).length
 | 0,_=>by simp[chN]
 | k+1,s=>by
  rw[chN,chN];split
  ·have:=z67 F k (z1k F s);simpa using this
  ·exact znl _
section
variable {F:Fs}
theorem zU7 (h:Inv F) (s:Nm):ch F s=if ZX F s then s::ch F (z1k F s) else[]:=by
 have a:chN F 6 s=chN F 5 s:=zJg F 5 s (by have:=h.deep s;unfold ch at this;omega);unfold ch;rw[<-a,chN]
theorem z6j (h:Inv F) (hs:ZX F s=true):ch F s=s::ch F (z1k F s):=by rw[zU7 h,if_pos hs]
theorem zP8 (h:Inv F) (hs:ZX F s=false):ch F s=[]:=by rw[zU7 h,hs];rfl
theorem z8m (h:Inv F) (hs:ZX F s=true):s∈ch F s:=by rw[z6j h hs];exact mem_cons_self ..
theorem zAe (h:Inv F) {x:Nm} (hx:x∈ch F s):ZX F s=true:=by
 cases a:ZX F s with
 | true=>rfl
 | false=>rw[zP8 h a] at hx;simp at hx
theorem zEr (h:Inv F) {x:Nm}:∀(n:Nat) (s:Nm),(ch F s).length<=n->x∈ch F s->∃c,ch F s=c++ch F x
 | 0,s,hn,a=>by
  have:ch F s=[]:=eq_nil_of_length_eq_zero om;rw[this] at a
  simp at a
 | n+1,s,hn,a=>by
  have d:=zAe h a;rw[z6j h d] at a hn⊢;rcases mem_cons.1 a with rfl|a
  ·exact⟨[],by rw[nil_append,z6j h d]⟩
  ·obtain⟨c,f⟩:=zEr h n (z1k F s) (by simpa using hn) a;exact⟨s::c,by rw[f];rfl⟩
theorem zS2 (h:Inv F) {x y:Nm} (hx:x∈ch F s) (hy:y∈ch F x):y∈ch F s:=by
 obtain⟨_,a⟩:=zEr h _ s (znl _) hx;rw[a];exact mem_append_right _ hy
theorem zWr (h:Inv F) (hx:x∈ch F s):(ch F x).length<=(ch F s).length:=by
 obtain⟨_,a⟩:=zEr h _ s (znl _) hx;rw[a,qLax];omega
theorem z4t (h:Inv F) (hs:ZX F s=true):(ch F s).length=(ch F (z1k F s)).length+1:=by rw[z6j h hs];rfl
theorem zJh (h:Inv F) {s:Nm}:∀(n:Nat) (x:Nm),(ch F x).length<=n->s∈ch F x->x≠s->∃c,ZX F c=true/\z1k F c=s/\c∈ch F x
 | 0,x,hn,hx,_=>by
  have:ch F x=[]:=eq_nil_of_length_eq_zero om;rw[this] at hx
  simp at hx
 | n+1,x,hn,hx,hne=>by
  have a:=zAe h hx;have d:=hx;rw[z6j h a] at d;rcases mem_cons.1 d with e|d
  ·exact absurd e.symm hne
  ·by_cases f:z1k F x=s
   ·exact⟨x,a,f,z8m h a⟩
   ·obtain⟨c,g,j,q⟩:=zJh h n (z1k F x) (oh (z4t h a)) d f;refine⟨c,g,j,?_⟩;rw[z6j h a];exact zmc _ q
def IsHigh (F:Fs) (s:Nm) (n:Nat):Prop:=
 (ZX F s=false->n=0)/\(ZX F s=true->(∀x,s∈ch F x->(ch F x).length+1<=n+(ch F s).length)/\∃x,s∈ch F x/\(ch F x).length+1=n+(ch F s).length)
theorem IsHigh.one {s:Nm} {m:Nat} (h:IsHigh F s n) (k:IsHigh F s m):n=m:=by
 cases a:ZX F s with
 | false=>rw[h.1 a,k.1 a]
 | true=>
  obtain⟨c,x,f,_⟩:=h.2 a;obtain⟨d,g,j,_⟩:=k.2 a;have:=c g j;have:=d x f;omega
theorem IsHigh.off (h:ZX F s=false):IsHigh F s 0:=⟨λ_=>rfl,λa=>by rw[h] at a;cases a⟩
theorem IsHigh.up (h:Inv F) (hs:ZX F s=true) {m:Nat} (h1:∀c,ZX F c=true->z1k F c=s->∃k,IsHigh F c k/\k<=m) (h2:m=0\/∃c,ZX F c=true/\z1k F c=s/\IsHigh F c m):IsHigh F s (m+1):=by
 refine⟨λj=>(by rw[hs] at j;cases j),λ_=>⟨λx q=>?_,?_⟩⟩
 ·by_cases e:x=s
  ·subst e;omega
  obtain⟨c,a,d,f⟩:=zJh h _ x (znl _) q e;obtain⟨k,u,_⟩:=h1 c a d;have z:=(u.2 a).1 x f;have g:=z4t h a;rw[d] at g;omega
 rcases h2 with rfl|⟨c,a,d,f⟩
 ·exact⟨s,z8m h hs,om⟩
 obtain⟨_,x,y,_⟩:=f.2 a;have g:=z4t h a;rw[d] at g;refine⟨x,zS2 h y ?_,om⟩;rw[z6j h a,d];exact zmc _ (z8m h hs)
theorem IsHigh.ge (h:Inv F) (hs:ZX F s=true) (hn:IsHigh F s n):1<=n/\n+(ch F s).length<=5:=by
 obtain⟨a,x,_⟩:=hn.2 hs;have:=a s (z8m h hs);have:=h.deep x;omega
def upd (F:Fs) (s:Nm) (v:Nm×Bool):Fs:=λx=>if x=s then some v else F x
theorem z1o (s x:Nm) (v:Nm×Bool):ZX (upd F s v) x=if x=s then !v.2 else ZX F x:=by
 unfold ZX upd;by_cases a:x=s<;>simp[a]
theorem z6b (s x:Nm) (v:Nm×Bool):z1k (upd F s v) x=if x=s then v.1 else z1k F x:=by
 unfold z1k upd;by_cases a:x=s<;>simp[a]
theorem zGt (h:Inv F) {s p:Nm} (hs:ZX F s=false) (c:s≠Top):∀(k:Nat) (x:Nm),x≠s->chN (upd F s (p,false)) k x=chN F k x
 | 0,_,_=>rfl
 | k+1,x,hx=>by
  rw[chN,chN,z1o,if_neg hx,z6b,if_neg hx];split
  ·rename_i d;rw[zGt h hs c k (z1k F x) λe=>?_];rcases h.up x d with a|a
   ·exact c (by rw[<-e,a])
   ·rw[e,hs] at a;cases a
  ·rfl
theorem Inv.add (h:Inv F) {p:Nm} (hs:ZX F s=false) (c:s≠Top) (hp:p=Top\/ZX F p=true) (hl:(ch F p).length<=3):Inv (upd F s (p,false)):=by
 have f:p≠s:=λe=>by
  rcases hp with a|a
  ·exact c (by rw[<-e,a])
  ·rw[e,hs] at a;cases a
 refine⟨by rw[z1o,if_neg (Ne.symm c)];exact h.no,λx d=>?_,λx=>?_⟩
 ·rw[z1o] at d;rw[z6b];by_cases e:x=s
  ·rw[if_pos e];rcases hp with a|a
   ·exact .inl a
   right;rw[z1o,if_neg f];exact a
  rw[if_neg e] at d⊢;rcases h.up x d with a|a
  ·exact .inl a
  right;rw[z1o,if_neg λg=>by rw[g,hs] at a;cases a];exact a
 by_cases e:x=s
 ·subst e;unfold ch;rw[chN,z1o,if_pos rfl,z6b,if_pos rfl];have a:(chN F 4 p).length<=(chN F 5 p).length:=z67 F 4 p;have j:=zGt h (p:=p) hs c 4 p f;unfold ch at hl;dsimp only;rw[j];simp;omega
 unfold ch;rw[zGt h hs c 5 x e];exact h.deep x
theorem zEs (h:Inv F) {s p:Nm} (hs:ZX F s=true):∀(k:Nat) (x:Nm),s∉ch F x->chN (upd F s (p,false)) k x=chN F k x
 | 0,_,_=>rfl
 | k+1,x,hx=>by
  have a:x≠s:=λe=>hx (by rw[e];exact z8m h hs)
  rw[chN,chN,z1o,if_neg a,z6b,if_neg a];split
  ·rename_i c;rw[zEs h hs k (z1k F x) λd=>hx (by rw[z6j h c];exact zmc _ d)]
  ·rfl
theorem zHq (h:Inv F) {s p:Nm} (hs:ZX F s=true) (c:s∉ch F p):∀(n k:Nat) (x:Nm),(ch F x).length<=n->s∈ch F x->k<=5->(chN (upd F s (p,false)) k x).length+(ch F s).length<=(ch F x).length+1+(ch F p).length
 | 0,_,x,hn,hx,_=>by
  have:ch F x=[]:=eq_nil_of_length_eq_zero om;rw[this] at hx
  simp at hx
 | n+1,0,x,hn,hx,_=>by
  have:=zWr h hx;simp[chN]
  omega
 | n+1,k+1,x,hn,hx,hk=>by
  rw[chN,z1o,z6b];by_cases e:x=s
  ·subst e;rw[if_pos rfl,if_pos rfl];dsimp only;rw[zEs h hs k p c];have:(chN F k p).length<=(chN F 5 p).length:=by
    have q:(chN F 0 p).length<=(chN F 1 p).length:=z67 F 0 p;have u:(chN F 1 p).length<=(chN F 2 p).length:=z67 F 1 p;have y:(chN F 2 p).length<=(chN F 3 p).length:=z67 F 2 p;have z:(chN F 3 p).length<=(chN F 4 p).length:=z67 F 3 p;have C:(chN F 4 p).length<=(chN F 5 p).length:=z67 F 4 p;rcases(by omega:k=0\/k=1\/k=2\/k=3\/k=4) with rfl|rfl|rfl|rfl|rfl<;>omega
   unfold ch;simp;omega
  ·rw[if_neg e,if_neg e];have a:=zAe h hx;rw[if_pos a];have d:=hx;rw[z6j h a] at d;have g:s∈ch F (z1k F x):=(mem_cons.1 d).resolve_left λf=>e f.symm
   have:=zHq h hs c n k (z1k F x) (oh (z4t h a)) g om;have j:=z4t h a;simp only[length_cons];omega
theorem Inv.move (h:Inv F) {p:Nm} (hs:ZX F s=true) (hp:p=Top\/ZX F p=true) (g:s∉ch F p) {n:Nat} (hn:IsHigh F s n) (hl:(ch F p).length+n<=4):Inv (upd F s (p,false)):=by
 have j:s≠Top:=λe=>by rw[e,h.no] at hs;cases hs
 have a:∀x,ZX (upd F s (p,false)) x=ZX F x:=λx=>by
  rw[z1o];by_cases e:x=s
  ·rw[if_pos e,e,hs];rfl
  ·rw[if_neg e]
 refine⟨by rw[a];exact h.no,λx c=>?_,λx=>?_⟩
 ·rw[a] at c;rw[z6b,a];by_cases e:x=s
  ·rw[if_pos e];exact hp
  rw[if_neg e];exact h.up x c
 by_cases e:s∈ch F x
 ·have d:=zHq h hs g _ 5 x (znl _) e (znl _);have f:=(hn.2 hs).1 x e;unfold ch at d f hl⊢;omega
 unfold ch;rw[zEs h hs 5 x e];exact h.deep x
theorem zJi (h:Inv F) {s q:Nm} (a:∀x,ZX F x=true->z1k F x≠s):∀(k:Nat) (x:Nm),x≠s->chN (upd F s (q,true)) k x=chN F k x
 | 0,_,_=>rfl
 | k+1,x,hx=>by
  rw[chN,chN,z1o,if_neg hx,z6b,if_neg hx];split
  ·rename_i c;rw[zJi h a k (z1k F x) (a x c)]
  ·rfl
theorem Inv.gone (h:Inv F) {q:Nm} (hs:ZX F s=true) (c:∀x,ZX F x=true->z1k F x≠s):Inv (upd F s (q,true)):=by
 have d:s≠Top:=λe=>by rw[e,h.no] at hs;cases hs
 refine⟨by rw[z1o,if_neg (Ne.symm d)];exact h.no,λx a=>?_,λx=>?_⟩
 ·rw[z1o] at a;by_cases e:x=s
  ·rw[if_pos e] at a;cases a
  rw[if_neg e] at a;rw[z6b,if_neg e,z1o,if_neg (c x a)];exact h.up x a
 by_cases e:x=s
 ·subst e;unfold ch;rw[chN,z1o,if_pos rfl];simp
 unfold ch;rw[zJi h c 5 x e];exact h.deep x
theorem Inv.start:Inv (λ_=>none):=⟨rfl,λs a=>by simp[ZX] at a,λs=>by simp[ch,chN,ZX]⟩
end
section
open Go.RowKit Go.Deep Go.ChangeShapes Go.WideShapes
section
variable {P:Program} (w:World)
theorem zS3 (ts:Array TypeId) (t:TypeId) (k a:IntKind) (x y:Int):(Builtin.max_ ts t #[.int k x,.int a y]).run P w= .ok (.int k (max x y)) w:=by
 rw[run_max_int2];congr 2;split<;>omega
theorem zS4 (ts:Array TypeId) (t:TypeId) (k c d:IntKind) (x y a:Int):(Builtin.max_ ts t #[.int k x,.int c y,.int d a]).run P w= .ok (.int k (max (max x y) a)) w:=by
 rw[run_max_int3];congr 2;split<;>split<;>omega
theorem zS5 (ts:Array TypeId) (t:TypeId) (k a:IntKind) (x y:Int):(Builtin.min_ ts t #[.int k x,.int a y]).run P w= .ok (.int k (min x y)) w:=by
 rw[run_min_int2];congr 2;split<;>omega
theorem zS6 (ts:Array TypeId) (t:TypeId) (k c d:IntKind) (x y a:Int):(Builtin.min_ ts t #[.int k x,.int c y,.int d a]).run P w= .ok (.int k (min (min x y) a)) w:=by
 rw[run_min_int3];congr 2;split<;>split<;>omega
end
attribute [go_sem high] zS3 zS4 zS5 zS6
def I64 (n:Int):Prop:= -9223372036854775808<=n/\n<=9223372036854775807
abbrev Rp (α:Type):=(Nat->Prop)->World->List Value->α->Prop
def Kept (S S':Nat->Prop) (w w':World):Prop:=∀b,S b->b<w.heap.size->S' b/\w'.heap[b]? =w.heap[b]?
theorem Kept.refl (w:World) (h:∀b,S b->S' b):Kept S S' w w:=λb a _=>⟨h b a,rfl⟩
theorem Kept.trans {a:Nat->Prop} {c:World} (h:Kept S S' w w') (hz:w<=w'.heap.size) (k:Kept S' a w' c):Kept S a w c:=λb g j=>by
 obtain⟨d,f⟩:=h b g j;obtain⟨q,u⟩:=k b d om;exact⟨q,u.trans f⟩
theorem Kept.below (h:(bW w w':Prop)) (a:∀b,S b->S' b):Kept S S' w w':=λb c d=>⟨a b c,h.block b d⟩
structure RpOk {α:Type} (sz:Nat) (R:Rp α):Prop where
 len:∀{S:Nat->Prop} {w:World} {cs:List Value} {x:α},R S w cs x->cs=sz
 keep:∀{S S':Nat->Prop} {w w':World} {cs:List Value} {x:α},R S w cs x->Kept S S' w w'->R S' w' cs x
 one:∀{S:Nat->Prop} {w:World} {cs:List Value} {x:α},R S w cs x->∀u∈cs,u.oneCell'=true
def SlAt {α:Type} (sz:Nat) (R:Rp α) (S:Nat->Prop) (w:World) (A:Option Addr) (l:List α):Prop:=
 ∀i x,l[i]? =some x->∃b o a,A=some ⟨b,o,none⟩/\S b/\a.length=sz/\(∀c d,a[c]? =some d->(cL w b (o+(i*sz+c)) d:Prop))/\R S w a x
def Sl {α:Type} (sz:Nat) (R:Rp α) (S:Nat->Prop) (w:World) (v:Value) (l:List α):Prop:=
 ∃A a,v= .slice A l a/\l.length<=a/\a<=maxLen/\l.length<=()/\SlAt sz R S w A l
theorem zF {p:Addr} (h:w.cell? p=some v):p.block<w:=World.block_lt_of_cell? w p h
theorem ZG {p:Addr} (h:Kept S S' w w') (c:S p.block) (a:w.cell? p=some v):w'.cell? p=some v:=
 (World.cell?_of_block (h p.block c (zF a)).2).trans a
section
variable {α:Type} {sz:Nat} {R:Rp α} {S S':Nat->Prop} {w w':World}
theorem SlAt.keep (I:RpOk sz R) (J:0<sz) {l:List α} (h:SlAt sz R S w A l) (k:Kept S S' w w'):SlAt sz R S' w' A l:=by
 intro i x C;obtain⟨b,o,c,j,d,z,f,q⟩:=h i x C;have g:∃a,c[0]? =some a:=⟨c[0]'(om),qLgx om⟩;obtain⟨a,D⟩:=g;have u:=zF (f 0 a D);exact⟨b,o,c,j,(k b d u).1,z,λG a y=>ZG k d (f G a y),I.keep q k⟩
theorem Sl.keep (u:RpOk sz R) (j:0<sz) {l:List α} (h:Sl sz R S w v l) (k:Kept S S' w w'):Sl sz R S' w' v l:=by
 obtain⟨A,a,q,c,d,f,g⟩:=h;exact⟨A,a,q,c,d,f,g.keep u j k⟩
end
theorem zP (w:World) (cs:Array Value) (T:TypeId):∃W,w.alloc (.cells cs T)=W/\(∀j v,cs[j]? =some v->(cL W w j v:Prop))/\(∀j,W.frozen? (aD w j)=false)/\bW w W/\w<W.heap.size:=by
 refine⟨_,rfl,λj v c=>?_,λj=>?_,(Below.refl _ _).alloc (znl _) _,sm⟩
 ·rw[cell_of_row _ w j cs T (0,0) (heap_alloc_new w _)];exact c
 have a:=heap_alloc_new w (.cells cs T);unfold World.frozen?;rw[a];simp
theorem z1p (sz:Nat) (R:Rp α) (S:Nat->Prop) (w:World):Sl sz R S w () []:=⟨none,0,rfl,znl _,Nat.zero_le _,Nat.zero_le _,λi x a=>by simp at a⟩
theorem zU8 {sz:Nat} {R:Rp α} {b o c:Nat} (hl:l=n) (h1:n<=c) (h2:c<=maxLen) (d:n<=()) (u:S b)
  (h:∀i x,l[i]? =some x->∃a:List Value,a=sz/\(∀j y,a[j]? =some y->(cL w b (o+(i*sz+j)) y:Prop))/\R S w a x):Sl sz R S w (.slice (some ⟨b,o,none⟩) n c) l:=by
 subst hl;refine⟨_,c,rfl,h1,h2,d,λi x z=>?_⟩;obtain⟨a,f,g,q⟩:=h i x z;exact⟨b,o,a,rfl,u,f,g,q⟩
def zAf {H:Type} (P:Program) (t:TypeId) (d:DataW H):Prop:=∀n∈d.weights P t,n<=reachBytes
abbrev Rd (P:Program) (w:World) (t:TypeId) {α:Type} (R:Rp α):Prop:=
 ∀{H:Type} {enc:TypeId×Value->H} {base:Nat} {spare:Nat->Bool} {z56:Bool} {fuel:Nat} {cs:List Value} {x:DataW H×List MemPlace},
  DataW.trod enc P w base spare z56 fuel t cs=some x->zAf P t x.1->∃a,R (λ_=>True) w cs a
theorem zHr {H:Type} {P:Program} {e:TypeId}:∀{c:List (DataW H)} {d:DataW H},d∈c->∀n∈d.weights P e,n∈DataW.weightsAll P e c
 | x::r,d,a,n,hn=>by
  rw[DataW.weightsAll,mem_append];rcases mem_cons.1 a with rfl|a
  ·exact .inl hn
  ·exact .inr (zHr a n hn)
def zJj:Rp Int:=λ_ _ cs n=>cs=[.int .i64 n]/\I64 n
def z3u:Rp ByteArray:=λ_ _ cs s=>cs=[.string s]/\s.size<=()
def Y1:Rp Int:=λ_ _ cs n=>cs=[.int .u8 n]/\0<=n/\n<=255
def rSl {α:Type} (sz:Nat) (R:Rp α):Rp (List α):=λS w cs l=>∃v,cs=[v]/\Sl sz R S w v l
theorem z0r:RpOk 1 z3u:=⟨λa=>by rw[a.1];rfl,λa _=>a,λa d c=>by rw[a.1] at c;simp at c;subst c;rfl⟩
theorem rByte_ok:RpOk 1 Y1:=⟨λa=>by rw[a.1];rfl,λa _=>a,λa d c=>by rw[a.1] at c;simp at c;subst c;rfl⟩
section
variable {P:Program} {w:World} {t:TypeId}
theorem mcc (h:p:=by
 obtain⟨n,hc,_,hw⟩:=DataW.trod_int ht h;exact⟨n,hc,by simp[Lit.wf] at hw;exact hw⟩):p:=h
theorem zVx (ht:P.underlying t=some (.int .i64)):Rd P w t zJj:=by
 intro H enc base spare z56 fuel cs x h _;exact mcc
theorem zUe (ht:P.underlying t=some (.int .u8)):Rd P w t Y1:=by
 intro H enc base spare z56 fuel cs x h _;exact mcc
theorem zVy (d:P.underlying t=some .string):Rd P w t z3u:=by
 intro H enc base spare z56 fuel cs x a g;obtain⟨s,c,f,_⟩:=DataW.trod_string d a;subst f;have:=g s.data.toList (by simp[DataW.weights]);exact⟨s,c,by unfold reachBytes at this;simpa using qNtx this dc⟩
variable {H:Type} {enc:TypeId×Value->H} {base:Nat} {spare:Nat->Bool} {z56:Bool} {fuel:Nat} {v:Value} {x:DataW H×List MemPlace}
theorem zGu (f:P.underlying t=some (.int .i64)) (h:DataW.trod enc P w base spare z56 fuel t [v]=some x) (hz:zAf P t x.1):∃a,v= .int .i64 a/\I64 a:=by
 obtain⟨a,c,d⟩:=zVx f h hz;exact⟨a,by simpa using c,d⟩
theorem zDj (f:P.underlying t=some .string) (h:DataW.trod enc P w base spare z56 fuel t [v]=some x) (hz:zAf P t x.1):∃a,v= .string a/\a.size<=140737488355328:=by
 obtain⟨a,c,d⟩:=zVy f h hz;exact⟨a,by simpa using c,d⟩
theorem zP9 {α:Type} {sz:Nat} {R:Rp α} (d:Rd P w t (rSl sz R)) (h:DataW.trod enc P w base spare z56 fuel t [v]=some x) (hz:zAf P t x.1):∃l,Sl sz R (λ_=>True) w v l:=by
 obtain⟨l,f,a,c⟩:=d h hz;obtain rfl:v=f:=by simpa using a
 exact⟨l,c⟩
end
end
section
open Go.RowKit Go.Deep Go.ChangeShapes Go.WideShapes
theorem zPa {t:TypeId} {a:Array Field} (g:P.underlying t=some (.struct a)) (I:oneCellFields P a=true) (q:P.cellsOf t=a.size)
  {H:Type} {enc:TypeId×Value->H} {base:Nat} {spare:Nat->Bool} {z56:Bool} {fuel:Nat} {cs:List Value} {x:DataW H×List MemPlace}
  (h:DataW.trod enc P w base spare z56 fuel t cs=some x) (hz:zAf P t x.1):
  cs=a.size/\∃n,∀j f,a[j]? =some f->∃y,DataW.trod enc P w base spare z56 n f.type [cs.getD j undef]=some y/\zAf P f.type y.1:=by
 obtain⟨K,n,_,J,C,_,u⟩:=DataW.trod_struct g h;subst J;refine⟨C.trans q,n,λj f c=>?_⟩;obtain⟨G,z⟩:=hone_of I j f c;have L:j<a.size:=(Array.getElem?_eq_some_iff.1 c).1;have d:=u j f c;rw[G,z,take1_drop cs j undef om,qLgx om] at d;refine⟨_,d,λm D=>hz m ?_⟩;simp only[DataW.weights,g];exact DataW.weights_mem_each (j:=j) (t:=f.type) (by simp[c]) (by simp[qLgx (by omega:j<K)]) m D
theorem zK (h:(bW w wr:Prop)):Kept S S w wr:=Kept.below h λ_ h=>h
theorem z1q {w1:World} (hb:(bW W w1:Prop)):(∀b o,b<W.heap.size->w1.cell? ⟨b,o,none⟩=W.cell? ⟨b,o,none⟩)/\(∀b o,b<W.heap.size->w1.frozen? (aD b o)=W.frozen? (aD b o)):=
 ⟨λb o a=>hb.cell (p:=aD b o) a,λb o a=>hb.frozen (p:=aD b o) a⟩
theorem zD {w1:World} (h:(bW w W:Prop)) (h1:(bW W w1:Prop)):(bW w w1:Prop):=h.trans (h1.mono h.size)
theorem ZM {a b:Bool} (h:a=b):Ending.returned (.bool a)= .returned (.bool b):=by rw[h]
theorem Z8 {k:IntKind} {a b:Int} (h:a=b):Ending.returned (.int k a)= .returned (.int k b):=by rw[h]
theorem zUf {c:Type} {p:Nat->c->Prop} {q:c->α->Prop} {len:Nat} (h:∀i,i<len->∃r:α×c,p i r.2/\q r.2 r.1):∃l:List α,l=len/\∀i x,l[i]? =some x->∃g,p i g/\q g x:=by
 induction len with
 | zero=>exact⟨[],rfl,λi x a=>by simp at a⟩
 | succ k ih=>
  obtain⟨l,f,j⟩:=ih (λi a=>h i om);obtain⟨r,u,y⟩:=h k om;refine⟨l++[r.1],by simp[f],λi x a=>?_⟩;rcases Nat.lt_or_ge i k with C|z
  ·exact j i x (by rwa [qLlx om] at a)
  rw[qLrx om] at a;have:i=k:=by
   rcases Nat.lt_or_ge (i-l.length) 1 with d|d
   ·omega
   ·rw[getElem?_eq_none (by simpa using d)] at a;cases a
  subst this;simp[f] at a;subst a;exact⟨r.2,u,y⟩
theorem z68 (h:k<l):∃x,l[k]? =some x/\l.drop k=x::l.drop (k+1)/\x∈l:=⟨l[k],qLgx h,drop_eq_getElem_cons h,getElem_mem h⟩
theorem zJk {α:Type} {t e:TypeId} {sz:Nat} {R:Rp α} (D:P.underlying t=some (.slice e)) (X:P.cellsOf e=sz) (Z:0<P.bytesOf e) (ah:0<sz) (Y:Rd P w e R) (au:∀{S:Nat->Prop} {w:World} {cs:List Value} {x:α},R S w cs x->cs=sz):Rd P w t (rSl sz R):=by
 intro H enc base spare z56 fuel cs x z L;rcases open_slice D z with ⟨rfl,_⟩|⟨u,a,O,m,n,j,ao,rfl,ap,ar,ad,ae,K,ai⟩
 ·exact⟨[],_,rfl,z1p _ _ _ _⟩
 have aw:a<=m:=by rw[ae];split<;>omega
 have I:∀i,i<a->∃f:α×List Value,w.cells? base (u.add (i*sz)) sz=some f.2/\R (λ_=>True) w f.2 f.1:=by
  intro i y;obtain⟨U,d,g⟩:=ai i om;obtain⟨M,aj⟩:=Y g (λf af=>L f (by
   rw[K];simp only[DataW.weights,D,qLcx,mem_append];exact .inr (.inl (zHr (mem_map.2 ⟨i,mem_range.2 y,rfl⟩) f af))))
  rw[X] at d;exact⟨(M,U),d,aj⟩
 obtain⟨l,ac,ab⟩:=zUf (p:=λi h=>w.cells? base (u.add (i*sz)) sz=some h) (q:=λh x=>R (λ_=>True) w h x) I;have av:a<=():=by
  have d:=L ((((range a).map j).length+((range (m-a)).map λc=>j (a+c)).length)*P.bytesOf e) (by rw[K];simp[DataW.weights,D]);have g:a<=(((range a).map j).length+((range (m-a)).map λc=>j (a+c)).length)*P.bytesOf e:=by
   rw[qLmx,length_range];exact qNtx (Nat.le_add_right _ _) (Nat.le_mul_of_pos_right _ Z)
  exact qNtx g (qNtx d dc)
 refine⟨l,_,rfl,some u,O,by rw[ac],om,ad,om,λi x y=>?_⟩;have aq:i<a:=by have:=(zge y).1;omega
 obtain⟨h,d,g⟩:=ab i x y;obtain⟨_,am,ak⟩:=World.cells?_some d;obtain⟨b,o,an⟩:=u;obtain⟨ay,V,_⟩:=I 0 om;obtain⟨_,ax,al⟩:=World.cells?_some V;have G:=al 0 ah;rw[qLgx om,Nat.zero_mul] at G;have ag:an=none:=World.cell?_spot G;subst ag;refine⟨b,o,h,rfl,trivial,am,λc M J=>?_,g⟩;have aa:c<sz:=by have:=(zge J).1;omega
 have C:=ak c aa;rw[J,add_add] at C;have e:(⟨b,o,none⟩:Addr).add (i*sz+c)=⟨b,o+(i*sz+c),none⟩:=by
  unfold Addr.add;split
  ·rename_i z;rw[z];rfl
  ·rfl
 rw[e] at C;exact C
structure User where
 name:ByteArray
 lost:Bool
def z0z:Rp User:=λS w cs x=>cs=[.string x.name,.bool x.lost]/\x.name.size<=()
theorem zPb {S:Nat->Prop} {w:World} {x:User} (h:z0z S w cs x):cs.length=2:=by
 obtain⟨rfl,_⟩:=h;rfl
theorem z29 {S:Nat->Prop} {w:World} {x:User} (h:z0z S w cs x) (k:Kept S S' w w'):z0z S' w' cs x:=by
 obtain⟨e,a⟩:=h;exact⟨e,a⟩
theorem maH (h:p:=by
 intro u hu;rw[e] at hu;simp only[qLcx,not_mem_nil,or_false] at hu;rcases hu with rfl|rfl<;>rfl):p:=h
theorem zPc {S:Nat->Prop} {w:World} {x:User} (h:z0z S w cs x):∀u∈cs,u.oneCell'=true:=by
 obtain⟨e,_⟩:=h;exact maH
theorem z1a:RpOk 2 z0z:=⟨zPb,z29,zPc⟩
theorem zBk {S:Nat->Prop} {w:World} {x:User} (h:z0z S w cs x):cs=[.string x.name,.bool x.lost]/\x.name.size<=():=by
 obtain⟨e,a⟩:=h;exact⟨e,a⟩
theorem mau (h:p:=by
 subst e;have c0':wr.cell? ⟨b,o+k*2,none⟩=_:=ZG (p:=aD b (o+(k*2+0))) hb hS (hc 0 _ rfl);have c1':wr.cell? ⟨b,o+k*2+1,none⟩=_:=ZG (p:=aD b (o+(k*2+1))) hb hS (hc 1 _ rfl);exact⟨x,b,o,hx,hd,hm,hA,zF (hc 0 _ rfl),hS,c0',c1',hR',hrest⟩):p:=h
theorem z71 {l:List User} (s:SlAt 2 z0z S w A l) (hk:k<l) (hb:Kept S S' w wr):
  ∃x b o,l[k]? =some x/\l.drop k=x::l.drop (k+1)/\x∈l/\A=some ⟨b,o,none⟩/\b<w.heap.size/\S b/\cL wr b (o+k*2) x.name/\cL wr b (o+k*2+1) x.lost/\z0z S' wr [x.name,x.lost] x/\x.name.size<=():=by
 obtain⟨x,hx,hd,hm⟩:=z68 hk;obtain⟨b,o,_,hA,hS,_,hc,a⟩:=s k _ hx;have hR':=z29 a hb;obtain⟨e,hrest⟩:=zBk hR';exact mau
structure Pair where
 frm:ByteArray
 to:ByteArray
def z10:Rp Pair:=λS w cs x=>cs=[.string x.frm,.string x.to]/\x.frm.size<=()/\x.to.size<=()
theorem zPd {S:Nat->Prop} {w:World} {x:Pair} (h:z10 S w cs x):cs.length=2:=by
 obtain⟨rfl,_⟩:=h;rfl
theorem maU (h:p:=by
 obtain⟨e,c0,c1⟩:=h;exact⟨e,c0,c1⟩):p:=h
theorem z3o {S:Nat->Prop} {w:World} {x:Pair} (h:z10 S w cs x) (k:Kept S S' w w'):z10 S' w' cs x:=by
 exact maU
theorem zPe {S:Nat->Prop} {w:World} {x:Pair} (h:z10 S w cs x):∀u∈cs,u.oneCell'=true:=by
 obtain⟨e,_⟩:=h;exact maH
theorem z1r:RpOk 2 z10:=⟨zPd,z3o,zPe⟩
theorem zBl {S:Nat->Prop} {w:World} {x:Pair} (h:z10 S w cs x):cs=[.string x.frm,.string x.to]/\x.frm.size<=()/\x.to.size<=():=by
 exact maU
theorem zAg {l:List Pair} (s:SlAt 2 z10 S w A l) (hk:k<l) (hb:Kept S S' w wr):
  ∃x b o,l[k]? =some x/\l.drop k=x::l.drop (k+1)/\x∈l/\A=some ⟨b,o,none⟩/\b<w.heap.size/\S b/\cL wr b (o+k*2) x.frm/\cL wr b (o+k*2+1) x.to/\z10 S' wr [x.frm,x.to] x/\x.frm.size<=()/\x.to.size<=():=by
 obtain⟨x,hx,hd,hm⟩:=z68 hk;obtain⟨b,o,_,hA,hS,_,hc,a⟩:=s k _ hx;have hR':=z3o a hb;obtain⟨e,hrest⟩:=zBl hR';exact mau
structure At where
 name:ByteArray
 seq:Int
def rAt:Rp At:=λS w cs x=>cs=[.string x.name,.int .i64 x.seq]/\x.name.size<=()/\I64 x.seq
theorem zUg {S:Nat->Prop} {w:World} {x:At} (h:rAt S w cs x):cs.length=2:=by
 obtain⟨rfl,_⟩:=h;rfl
theorem zJl {S:Nat->Prop} {w:World} {x:At} (h:rAt S w cs x) (k:Kept S S' w w'):rAt S' w' cs x:=by
 exact maU
theorem zUh {S:Nat->Prop} {w:World} {x:At} (h:rAt S w cs x):∀u∈cs,u.oneCell'=true:=by
 obtain⟨e,_⟩:=h;exact maH
theorem ZE:RpOk 2 rAt:=⟨zUg,zJl,zUh⟩
theorem z48 {S:Nat->Prop} {w:World} {x:At} (h:rAt S w cs x):cs=[.string x.name,.int .i64 x.seq]/\x.name.size<=()/\I64 x.seq:=by
 exact maU
theorem zFj {l:List At} (s:SlAt 2 rAt S w A l) (hk:k<l) (hb:Kept S S' w wr):
  ∃x b o,l[k]? =some x/\l.drop k=x::l.drop (k+1)/\x∈l/\A=some ⟨b,o,none⟩/\b<w.heap.size/\S b/\cL wr b (o+k*2) x.name/\cL wr b (o+k*2+1) x.seq/\rAt S' wr [x.name,x.seq] x/\x.name.size<=()/\I64 x.seq:=by
 obtain⟨x,hx,hd,hm⟩:=z68 hk;obtain⟨b,o,_,hA,hS,_,hc,a⟩:=s k _ hx;have hR':=zJl a hb;obtain⟨e,hrest⟩:=z48 hR';exact mau
structure Member where
 name:ByteArray
 role:Int
def zZ:Rp Member:=λS w cs x=>cs=[.string x.name,.int .i64 x.role]/\x.name.size<=()/\I64 x.role
theorem zLk {S:Nat->Prop} {w:World} {x:Member} (h:zZ S w cs x):cs.length=2:=by
 obtain⟨rfl,_⟩:=h;rfl
theorem zBm {S:Nat->Prop} {w:World} {x:Member} (h:zZ S w cs x) (k:Kept S S' w w'):zZ S' w' cs x:=by
 exact maU
theorem zLl {S:Nat->Prop} {w:World} {x:Member} (h:zZ S w cs x):∀u∈cs,u.oneCell'=true:=by
 obtain⟨e,_⟩:=h;exact maH
theorem ZA:RpOk 2 zZ:=⟨zLk,zBm,zLl⟩
theorem z5t {S:Nat->Prop} {w:World} {x:Member} (h:zZ S w cs x):cs=[.string x.name,.int .i64 x.role]/\x.name.size<=()/\I64 x.role:=by
 exact maU
theorem yT {l:List Member} (s:SlAt 2 zZ S w A l) (hk:k<l) (hb:Kept S S' w wr):
  ∃x b o,l[k]? =some x/\l.drop k=x::l.drop (k+1)/\x∈l/\A=some ⟨b,o,none⟩/\b<w.heap.size/\S b/\cL wr b (o+k*2) x.name/\cL wr b (o+k*2+1) x.role/\zZ S' wr [x.name,x.role] x/\x.name.size<=()/\I64 x.role:=by
 obtain⟨x,hx,hd,hm⟩:=z68 hk;obtain⟨b,o,_,hA,hS,_,hc,a⟩:=s k _ hx;have hR':=zBm a hb;obtain⟨e,hrest⟩:=z5t hR';exact mau
structure Manifest where
 folder:ByteArray
 seq:Int
 prev:List Int
 parent:ByteArray
 members:List Member
 cut:Int
 gone:Bool
 who:ByteArray
def ZL:Rp Manifest:=λS w cs x=>∃a c,cs=[.string x.folder,.int .i64 x.seq,a,.string x.parent,c,.int .i64 x.cut,.bool x.gone,.string x.who]/\x.folder.size<=()/\I64 x.seq/\Sl 1 Y1 S w a x.prev/\x.parent.size<=()/\Sl 2 zZ S w c x.members/\I64 x.cut/\x.who.size<=()
theorem zIu {S:Nat->Prop} {w:World} {x:Manifest} (h:ZL S w cs x):cs.length=8:=by
 obtain⟨_,_,rfl,_⟩:=h;rfl
theorem yF {S:Nat->Prop} {w:World} {x:Manifest} (h:ZL S w cs x) (k:Kept S S' w w'):ZL S' w' cs x:=by
 obtain⟨u,y,e,a,c,d,f,g,j,q⟩:=h;exact⟨u,y,e,a,c,d.keep rByte_ok dc k,f,g.keep ZA dc k,j,q⟩
theorem mbG (h:p:=by
 intro u hu;rw[e] at hu;simp only[qLcx,not_mem_nil,or_false] at hu;rcases hu with rfl|rfl|rfl|rfl|rfl|rfl|rfl|rfl<;>rfl):p:=h
theorem zIv {S:Nat->Prop} {w:World} {x:Manifest} (h:ZL S w cs x):∀u∈cs,u.oneCell'=true:=by
 obtain⟨_,_,e,_,_,a,_,c,_⟩:=h;obtain⟨_,_,rfl,_⟩:=a;obtain⟨_,_,rfl,_⟩:=c;exact mbG
theorem z16:RpOk 8 ZL:=⟨zIu,yF,zIv⟩
theorem ZO {x:Manifest} (h:ZL S w cs x):∃d a f c,cs=[.string x.folder,.int .i64 x.seq,.slice d x.prev a,.string x.parent,.slice f x.members c,.int .i64 x.cut,.bool x.gone,.string x.who]/\x.folder.size<=()/\I64 x.seq/\x.prev.length<=a/\a<=9223372036854775807/\x.prev.length<=()/\SlAt 1 Y1 S w d x.prev/\x.parent.size<=()/\x.members.length<=c/\c<=9223372036854775807/\x.members.length<=()/\SlAt 2 zZ S w f x.members/\I64 x.cut/\x.who.size<=():=by
 obtain⟨_,_,e,g,j,a,q,c,u,y⟩:=h;obtain⟨d,z,rfl,D,I,K,M⟩:=a;obtain⟨f,C,rfl,G,J,L,O⟩:=c;exact⟨d,z,f,C,e,g,j,D,(by simpa[maxLen] using I),K,M,q,G,(by simpa[maxLen] using J),L,O,u,y⟩
theorem z6m {l:List Manifest} (s:SlAt 8 ZL S w A l) (hk:k<l) (hb:Kept S S' w wr):
  ∃x b o g d h f,l[k]? =some x/\l.drop k=x::l.drop (k+1)/\x∈l/\A=some ⟨b,o,none⟩/\b<w.heap.size/\S b/\cL wr b (o+k*8) x.folder/\cL wr b (o+k*8+1) x.seq/\cL wr b (o+k*8+2) (.slice g x.prev d)/\cL wr b (o+k*8+3) x.parent/\cL wr b (o+k*8+4) (.slice h x.members f)/\cL wr b (o+k*8+5) x.cut/\cL wr b (o+k*8+6) x.gone/\cL wr b (o+k*8+7) x.who/\ZL S' wr [x.folder,x.seq,.slice g x.prev d,x.parent,.slice h x.members f,x.cut,x.gone,x.who] x/\x.folder.size<=()/\I64 x.seq/\x.prev.length<=d/\d<=9223372036854775807/\x.prev.length<=()/\SlAt 1 Y1 S' wr g x.prev/\x.parent.size<=()/\x.members.length<=f/\f<=9223372036854775807/\x.members.length<=()/\SlAt 2 zZ S' wr h x.members/\I64 x.cut/\x.who.size<=():=by
 obtain⟨x,q,M,O⟩:=z68 hk;obtain⟨b,o,_,K,a,_,c,L⟩:=s k _ q;have j:=yF L hb;obtain⟨g,d,h,f,e,U⟩:=ZO j;subst e;have u:wr.cell? ⟨b,o+k*8,none⟩=_:=ZG (p:=aD b (o+(k*8+0))) hb a (c 0 _ rfl);have y:wr.cell? ⟨b,o+k*8+1,none⟩=_:=ZG (p:=aD b (o+(k*8+1))) hb a (c 1 _ rfl);have z:wr.cell? ⟨b,o+k*8+2,none⟩=_:=ZG (p:=aD b (o+(k*8+2))) hb a (c 2 _ rfl);have C:wr.cell? ⟨b,o+k*8+3,none⟩=_:=ZG (p:=aD b (o+(k*8+3))) hb a (c 3 _ rfl);have D:wr.cell? ⟨b,o+k*8+4,none⟩=_:=ZG (p:=aD b (o+(k*8+4))) hb a (c 4 _ rfl);have G:wr.cell? ⟨b,o+k*8+5,none⟩=_:=ZG (p:=aD b (o+(k*8+5))) hb a (c 5 _ rfl);have I:wr.cell? ⟨b,o+k*8+6,none⟩=_:=ZG (p:=aD b (o+(k*8+6))) hb a (c 6 _ rfl);have J:wr.cell? ⟨b,o+k*8+7,none⟩=_:=ZG (p:=aD b (o+(k*8+7))) hb a (c 7 _ rfl);exact⟨x,b,o,g,d,h,f,q,M,O,K,zF (c 0 _ rfl),a,u,y,z,C,D,G,I,J,j,U⟩
structure Epoch where
 place:Int
 frm:Int
 seq:Int
 chain:List At
 who:ByteArray
def YE:Rp Epoch:=λS w cs x=>∃a,cs=[.int .i64 x.place,.int .i64 x.frm,.int .i64 x.seq,a,.string x.who]/\I64 x.place/\I64 x.frm/\I64 x.seq/\Sl 2 rAt S w a x.chain/\x.who.size<=()
theorem zNf {S:Nat->Prop} {w:World} {x:Epoch} (h:YE S w cs x):cs.length=5:=by
 obtain⟨_,rfl,_⟩:=h;rfl
theorem z2a {S:Nat->Prop} {w:World} {x:Epoch} (h:YE S w cs x) (k:Kept S S' w w'):YE S' w' cs x:=by
 obtain⟨j,e,a,c,d,f,g⟩:=h;exact⟨j,e,a,c,d,f.keep ZE dc k,g⟩
theorem zNg {S:Nat->Prop} {w:World} {x:Epoch} (h:YE S w cs x):∀u∈cs,u.oneCell'=true:=by
 obtain⟨_,e,_,_,_,c,_⟩:=h;obtain⟨_,_,rfl,_⟩:=c;intro u a;rw[e] at a;simp only[qLcx,not_mem_nil,or_false] at a;rcases a with rfl|rfl|rfl|rfl|rfl<;>rfl
theorem z2e:RpOk 5 YE:=⟨zNf,z2a,zNg⟩
theorem z3p {x:Epoch} (h:YE S w cs x):∃c a,cs=[.int .i64 x.place,.int .i64 x.frm,.int .i64 x.seq,.slice c x.chain a,.string x.who]/\I64 x.place/\I64 x.frm/\I64 x.seq/\x.chain.length<=a/\a<=9223372036854775807/\x.chain.length<=()/\SlAt 2 rAt S w c x.chain/\x.who.size<=():=by
 obtain⟨_,e,d,f,g,a,j⟩:=h;obtain⟨c,q,rfl,u,y,z,C⟩:=a;exact⟨c,q,e,d,f,g,u,(by simpa[maxLen] using y),z,C,j⟩
theorem zBn {l:List Epoch} (s:SlAt 5 YE S w A l) (hk:k<l) (hb:Kept S S' w wr):
  ∃x b o f a,l[k]? =some x/\l.drop k=x::l.drop (k+1)/\x∈l/\A=some ⟨b,o,none⟩/\b<w.heap.size/\S b/\cL wr b (o+k*5) x.place/\cL wr b (o+k*5+1) x.frm/\cL wr b (o+k*5+2) x.seq/\cL wr b (o+k*5+3) (.slice f x.chain a)/\cL wr b (o+k*5+4) x.who/\YE S' wr [x.place,x.frm,x.seq,.slice f x.chain a,x.who] x/\I64 x.place/\I64 x.frm/\I64 x.seq/\x.chain.length<=a/\a<=9223372036854775807/\x.chain.length<=()/\SlAt 2 rAt S' wr f x.chain/\x.who.size<=():=by
 obtain⟨x,h,G,I⟩:=z68 hk;obtain⟨b,o,_,C,c,_,d,D⟩:=s k _ h;have g:=z2a D hb;obtain⟨f,a,e,J⟩:=z3p g;subst e;have j:wr.cell? ⟨b,o+k*5,none⟩=_:=ZG (p:=aD b (o+(k*5+0))) hb c (d 0 _ rfl);have q:wr.cell? ⟨b,o+k*5+1,none⟩=_:=ZG (p:=aD b (o+(k*5+1))) hb c (d 1 _ rfl);have u:wr.cell? ⟨b,o+k*5+2,none⟩=_:=ZG (p:=aD b (o+(k*5+2))) hb c (d 2 _ rfl);have y:wr.cell? ⟨b,o+k*5+3,none⟩=_:=ZG (p:=aD b (o+(k*5+3))) hb c (d 3 _ rfl);have z:wr.cell? ⟨b,o+k*5+4,none⟩=_:=ZG (p:=aD b (o+(k*5+4))) hb c (d 4 _ rfl);exact⟨x,b,o,f,a,h,G,I,C,zF (d 0 _ rfl),c,j,q,u,y,z,g,J⟩
structure Version where
 epoch:Int
 gone:Bool
 who:ByteArray
 data:List Int
def yM:Rp Version:=λS w cs x=>∃a,cs=[.int .i64 x.epoch,.bool x.gone,.string x.who,a]/\I64 x.epoch/\x.who.size<=()/\Sl 1 Y1 S w a x.data
theorem zJm {S:Nat->Prop} {w:World} {x:Version} (h:yM S w cs x):cs.length=4:=by
 obtain⟨_,rfl,_⟩:=h;rfl
theorem z0q {S:Nat->Prop} {w:World} {x:Version} (h:yM S w cs x) (k:Kept S S' w w'):yM S' w' cs x:=by
 obtain⟨f,e,a,c,d⟩:=h;exact⟨f,e,a,c,d.keep rByte_ok dc k⟩
theorem mbR (h:p:=by
 intro u hu;rw[e] at hu;simp only[qLcx,not_mem_nil,or_false] at hu;rcases hu with rfl|rfl|rfl|rfl<;>rfl):p:=h
theorem zJn {S:Nat->Prop} {w:World} {x:Version} (h:yM S w cs x):∀u∈cs,u.oneCell'=true:=by
 obtain⟨_,e,_,_,a⟩:=h;obtain⟨_,_,rfl,_⟩:=a;exact mbR
theorem z2z:RpOk 4 yM:=⟨zJm,z0q,zJn⟩
theorem z6n {x:Version} (h:yM S w cs x):∃a c,cs=[.int .i64 x.epoch,.bool x.gone,.string x.who,.slice a x.data c]/\I64 x.epoch/\x.who.size<=()/\x.data.length<=c/\c<=9223372036854775807/\x.data.length<=()/\SlAt 1 Y1 S w a x.data:=by
 obtain⟨_,e,d,f,g⟩:=h;obtain⟨a,j,rfl,q,u,y,z⟩:=g;exact⟨a,j,e,d,f,q,(by simpa[maxLen] using u),y,z⟩
theorem z3v {l:List Version} (s:SlAt 4 yM S w A l) (hk:k<l) (hb:Kept S S' w wr):
  ∃x b o c a,l[k]? =some x/\l.drop k=x::l.drop (k+1)/\x∈l/\A=some ⟨b,o,none⟩/\b<w.heap.size/\S b/\cL wr b (o+k*4) x.epoch/\cL wr b (o+k*4+1) x.gone/\cL wr b (o+k*4+2) x.who/\cL wr b (o+k*4+3) (.slice c x.data a)/\yM S' wr [x.epoch,x.gone,x.who,.slice c x.data a] x/\I64 x.epoch/\x.who.size<=()/\x.data.length<=a/\a<=9223372036854775807/\x.data.length<=()/\SlAt 1 Y1 S' wr c x.data:=by
 obtain⟨x,h,D,G⟩:=z68 hk;obtain⟨b,o,_,z,d,_,f,C⟩:=s k _ h;have g:=z0q C hb;obtain⟨c,a,e,I⟩:=z6n g;subst e;have j:wr.cell? ⟨b,o+k*4,none⟩=_:=ZG (p:=aD b (o+(k*4+0))) hb d (f 0 _ rfl);have q:wr.cell? ⟨b,o+k*4+1,none⟩=_:=ZG (p:=aD b (o+(k*4+1))) hb d (f 1 _ rfl);have u:wr.cell? ⟨b,o+k*4+2,none⟩=_:=ZG (p:=aD b (o+(k*4+2))) hb d (f 2 _ rfl);have y:wr.cell? ⟨b,o+k*4+3,none⟩=_:=ZG (p:=aD b (o+(k*4+3))) hb d (f 3 _ rfl);exact⟨x,b,o,c,a,h,D,G,z,zF (f 0 _ rfl),d,j,q,u,y,g,I⟩
structure Item where
 name:ByteArray
 versions:List Version
def YG:Rp Item:=λS w cs x=>∃a,cs=[.string x.name,a]/\x.name.size<=()/\Sl 4 yM S w a x.versions
theorem zPf {S:Nat->Prop} {w:World} {x:Item} (h:YG S w cs x):cs.length=2:=by
 obtain⟨_,rfl,_⟩:=h;rfl
theorem z4j {S:Nat->Prop} {w:World} {x:Item} (h:YG S w cs x) (k:Kept S S' w w'):YG S' w' cs x:=by
 obtain⟨d,e,a,c⟩:=h;exact⟨d,e,a,c.keep z2z dc k⟩
theorem zPg {S:Nat->Prop} {w:World} {x:Item} (h:YG S w cs x):∀u∈cs,u.oneCell'=true:=by
 obtain⟨_,e,_,a⟩:=h;obtain⟨_,_,rfl,_⟩:=a;exact maH
theorem z20:RpOk 2 YG:=⟨zPf,z4j,zPg⟩
theorem z4f {x:Item} (h:YG S w cs x):∃c a,cs=[.string x.name,.slice c x.versions a]/\x.name.size<=()/\x.versions.length<=a/\a<=9223372036854775807/\x.versions.length<=()/\SlAt 4 yM S w c x.versions:=by
 obtain⟨_,e,d,a⟩:=h;obtain⟨c,f,rfl,g,j,q,u⟩:=a;exact⟨c,f,e,d,g,(by simpa[maxLen] using j),q,u⟩
theorem z0w {l:List Item} (s:SlAt 2 YG S w A l) (hk:k<l) (hb:Kept S S' w wr):
  ∃x b o c a,l[k]? =some x/\l.drop k=x::l.drop (k+1)/\x∈l/\A=some ⟨b,o,none⟩/\b<w.heap.size/\S b/\cL wr b (o+k*2) x.name/\cL wr b (o+k*2+1) (.slice c x.versions a)/\YG S' wr [x.name,.slice c x.versions a] x/\x.name.size<=()/\x.versions.length<=a/\a<=9223372036854775807/\x.versions.length<=()/\SlAt 4 yM S' wr c x.versions:=by
 obtain⟨x,h,z,C⟩:=z68 hk;obtain⟨b,o,_,u,d,_,f,y⟩:=s k _ h;have g:=z4j y hb;obtain⟨c,a,e,D⟩:=z4f g;subst e;have j:wr.cell? ⟨b,o+k*2,none⟩=_:=ZG (p:=aD b (o+(k*2+0))) hb d (f 0 _ rfl);have q:wr.cell? ⟨b,o+k*2+1,none⟩=_:=ZG (p:=aD b (o+(k*2+1))) hb d (f 1 _ rfl);exact⟨x,b,o,c,a,h,z,C,u,zF (f 0 _ rfl),d,j,q,g,D⟩
structure Wrap where
 name:ByteArray
 epoch:Int
 seed:Bool
def yL:Rp Wrap:=λS w cs x=>cs=[.string x.name,.int .i64 x.epoch,.bool x.seed]/\x.name.size<=()/\I64 x.epoch
theorem zPh {S:Nat->Prop} {w:World} {x:Wrap} (h:yL S w cs x):cs.length=3:=by
 obtain⟨rfl,_⟩:=h;rfl
theorem z4k {S:Nat->Prop} {w:World} {x:Wrap} (h:yL S w cs x) (k:Kept S S' w w'):yL S' w' cs x:=by
 exact maU
theorem mbW (h:p:=by
 intro u hu;rw[e] at hu;simp only[qLcx,not_mem_nil,or_false] at hu;rcases hu with rfl|rfl|rfl<;>rfl):p:=h
theorem zHs {S:Nat->Prop} {w:World} {x:Wrap} (h:yL S w cs x):∀u∈cs,u.oneCell'=true:=by
 obtain⟨e,_⟩:=h;exact mbW
theorem z08:RpOk 3 yL:=⟨zPh,z4k,zHs⟩
theorem z4g {S:Nat->Prop} {w:World} {x:Wrap} (h:yL S w cs x):cs=[.string x.name,.int .i64 x.epoch,.bool x.seed]/\x.name.size<=()/\I64 x.epoch:=by
 exact maU
theorem maJ (h:p:=by
 subst e;have c0':wr.cell? ⟨b,o+k*3,none⟩=_:=ZG (p:=aD b (o+(k*3+0))) hb hS (hc 0 _ rfl);have c1':wr.cell? ⟨b,o+k*3+1,none⟩=_:=ZG (p:=aD b (o+(k*3+1))) hb hS (hc 1 _ rfl);have c2':wr.cell? ⟨b,o+k*3+2,none⟩=_:=ZG (p:=aD b (o+(k*3+2))) hb hS (hc 2 _ rfl);exact⟨x,b,o,hx,hd,hm,hA,zF (hc 0 _ rfl),hS,c0',c1',c2',hR',hrest⟩):p:=h
theorem z8u {l:List Wrap} (s:SlAt 3 yL S w A l) (hk:k<l) (hb:Kept S S' w wr):
  ∃x b o,l[k]? =some x/\l.drop k=x::l.drop (k+1)/\x∈l/\A=some ⟨b,o,none⟩/\b<w.heap.size/\S b/\cL wr b (o+k*3) x.name/\cL wr b (o+k*3+1) x.epoch/\cL wr b (o+k*3+2) x.seed/\yL S' wr [x.name,x.epoch,x.seed] x/\x.name.size<=()/\I64 x.epoch:=by
 obtain⟨x,hx,hd,hm⟩:=z68 hk;obtain⟨b,o,_,hA,hS,_,hc,a⟩:=s k _ hx;have hR':=z4k a hb;obtain⟨e,hrest⟩:=z4g hR';exact maJ
structure Link where
 epoch:Int
 to:ByteArray
 seq:Int
def z0g:Rp Link:=λS w cs x=>cs=[.int .i64 x.epoch,.string x.to,.int .i64 x.seq]/\I64 x.epoch/\x.to.size<=()/\I64 x.seq
theorem zPi {S:Nat->Prop} {w:World} {x:Link} (h:z0g S w cs x):cs.length=3:=by
 obtain⟨rfl,_⟩:=h;rfl
theorem mbH (h:p:=by
 obtain⟨e,c0,c1,c2⟩:=h;exact⟨e,c0,c1,c2⟩):p:=h
theorem z6o {S:Nat->Prop} {w:World} {x:Link} (h:z0g S w cs x) (k:Kept S S' w w'):z0g S' w' cs x:=by
 exact mbH
theorem zPj {S:Nat->Prop} {w:World} {x:Link} (h:z0g S w cs x):∀u∈cs,u.oneCell'=true:=by
 obtain⟨e,_⟩:=h;exact mbW
theorem z1b:RpOk 3 z0g:=⟨zPi,z6o,zPj⟩
theorem z7r {S:Nat->Prop} {w:World} {x:Link} (h:z0g S w cs x):cs=[.int .i64 x.epoch,.string x.to,.int .i64 x.seq]/\I64 x.epoch/\x.to.size<=()/\I64 x.seq:=by
 exact mbH
theorem zAh {l:List Link} (s:SlAt 3 z0g S w A l) (hk:k<l) (hb:Kept S S' w wr):
  ∃x b o,l[k]? =some x/\l.drop k=x::l.drop (k+1)/\x∈l/\A=some ⟨b,o,none⟩/\b<w.heap.size/\S b/\cL wr b (o+k*3) x.epoch/\cL wr b (o+k*3+1) x.to/\cL wr b (o+k*3+2) x.seq/\z0g S' wr [x.epoch,x.to,x.seq] x/\I64 x.epoch/\x.to.size<=()/\I64 x.seq:=by
 obtain⟨x,hx,hd,hm⟩:=z68 hk;obtain⟨b,o,_,hA,hS,_,hc,a⟩:=s k _ hx;have hR':=z6o a hb;obtain⟨e,hrest⟩:=z7r hR';exact maJ
structure Folder where
 name:ByteArray
 turn:Int
 manifests:List Manifest
 epochs:List Epoch
 items:List Item
 wraps:List Wrap
 links:List Link
def Z6:Rp Folder:=λS w cs x=>∃a c d f g,cs=[.string x.name,.int .i64 x.turn,a,c,d,f,g]/\x.name.size<=()/\I64 x.turn/\Sl 8 ZL S w a x.manifests/\Sl 5 YE S w c x.epochs/\Sl 2 YG S w d x.items/\Sl 3 yL S w f x.wraps/\Sl 3 z0g S w g x.links
theorem zLm {S:Nat->Prop} {w:World} {x:Folder} (h:Z6 S w cs x):cs.length=7:=by
 obtain⟨_,_,_,_,_,rfl,_⟩:=h;rfl
theorem zV {S:Nat->Prop} {w:World} {x:Folder} (h:Z6 S w cs x) (k:Kept S S' w w'):Z6 S' w' cs x:=by
 obtain⟨u,y,z,C,D,e,a,c,d,f,g,j,q⟩:=h;exact⟨u,y,z,C,D,e,a,c,d.keep z16 dc k,f.keep z2e dc k,g.keep z20 dc k,j.keep z08 dc k,q.keep z1b dc k⟩
theorem zE2 {S:Nat->Prop} {w:World} {x:Folder} (h:Z6 S w cs x):∀u∈cs,u.oneCell'=true:=by
 obtain⟨_,_,_,_,_,e,_,_,c,d,f,g,j⟩:=h;obtain⟨_,_,rfl,_⟩:=c;obtain⟨_,_,rfl,_⟩:=d;obtain⟨_,_,rfl,_⟩:=f;obtain⟨_,_,rfl,_⟩:=g;obtain⟨_,_,rfl,_⟩:=j;intro u a;rw[e] at a;simp only[qLcx,not_mem_nil,or_false] at a;rcases a with rfl|rfl|rfl|rfl|rfl|rfl|rfl<;>rfl
theorem rFolder_ok:RpOk 7 Z6:=⟨zLm,zV,zE2⟩
theorem Z9 {x:Folder} (h:Z6 S w cs x):∃j a q c u d y f z g,cs=[.string x.name,.int .i64 x.turn,.slice j x.manifests a,.slice q x.epochs c,.slice u x.items d,.slice y x.wraps f,.slice z x.links g]/\x.name.size<=()/\I64 x.turn/\x.manifests.length<=a/\a<=9223372036854775807/\x.manifests.length<=()/\SlAt 8 ZL S w j x.manifests/\x.epochs.length<=c/\c<=9223372036854775807/\x.epochs.length<=()/\SlAt 5 YE S w q x.epochs/\x.items.length<=d/\d<=9223372036854775807/\x.items.length<=()/\SlAt 2 YG S w u x.items/\x.wraps.length<=f/\f<=9223372036854775807/\x.wraps.length<=()/\SlAt 3 yL S w y x.wraps/\x.links.length<=g/\g<=9223372036854775807/\x.links.length<=()/\SlAt 3 z0g S w z x.links:=by
 obtain⟨_,_,_,_,_,e,C,D,a,c,d,f,g⟩:=h;obtain⟨j,G,rfl,M,Y,ad,ai⟩:=a;obtain⟨q,I,rfl,O,Z,ae,aj⟩:=c;obtain⟨u,J,rfl,U,aa,af,ak⟩:=d;obtain⟨y,K,rfl,V,ab,ag,al⟩:=f;obtain⟨z,L,rfl,X,ac,ah,am⟩:=g;exact⟨j,G,q,I,u,J,y,K,z,L,e,C,D,M,(by simpa[maxLen] using Y),ad,ai,O,(by simpa[maxLen] using Z),ae,aj,U,(by simpa[maxLen] using aa),af,ak,V,(by simpa[maxLen] using ab),ag,al,X,(by simpa[maxLen] using ac),ah,am⟩
theorem yP {l:List Folder} (s:SlAt 7 Z6 S w A l) (hk:k<l) (hb:Kept S S' w wr):
  ∃x b o q d u f y g z h C j,l[k]? =some x/\l.drop k=x::l.drop (k+1)/\x∈l/\A=some ⟨b,o,none⟩/\b<w.heap.size/\S b/\cL wr b (o+k*7) x.name/\cL wr b (o+k*7+1) x.turn/\cL wr b (o+k*7+2) (.slice q x.manifests d)/\cL wr b (o+k*7+3) (.slice u x.epochs f)/\cL wr b (o+k*7+4) (.slice y x.items g)/\cL wr b (o+k*7+5) (.slice z x.wraps h)/\cL wr b (o+k*7+6) (.slice C x.links j)/\Z6 S' wr [x.name,x.turn,.slice q x.manifests d,.slice u x.epochs f,.slice y x.items g,.slice z x.wraps h,.slice C x.links j] x/\x.name.size<=()/\I64 x.turn/\x.manifests.length<=d/\d<=9223372036854775807/\x.manifests.length<=()/\SlAt 8 ZL S' wr q x.manifests/\x.epochs.length<=f/\f<=9223372036854775807/\x.epochs.length<=()/\SlAt 5 YE S' wr u x.epochs/\x.items.length<=g/\g<=9223372036854775807/\x.items.length<=()/\SlAt 2 YG S' wr y x.items/\x.wraps.length<=h/\h<=9223372036854775807/\x.wraps.length<=()/\SlAt 3 yL S' wr z x.wraps/\x.links.length<=j/\j<=9223372036854775807/\x.links.length<=()/\SlAt 3 z0g S' wr C x.links:=by
 obtain⟨x,G,Y,Z⟩:=z68 hk;obtain⟨b,o,_,V,a,_,c,X⟩:=s k _ G;have D:=zV X hb;obtain⟨q,d,u,f,y,g,z,h,C,j,e,aa⟩:=Z9 D;subst e;have I:wr.cell? ⟨b,o+k*7,none⟩=_:=ZG (p:=aD b (o+(k*7+0))) hb a (c 0 _ rfl);have J:wr.cell? ⟨b,o+k*7+1,none⟩=_:=ZG (p:=aD b (o+(k*7+1))) hb a (c 1 _ rfl);have K:wr.cell? ⟨b,o+k*7+2,none⟩=_:=ZG (p:=aD b (o+(k*7+2))) hb a (c 2 _ rfl);have L:wr.cell? ⟨b,o+k*7+3,none⟩=_:=ZG (p:=aD b (o+(k*7+3))) hb a (c 3 _ rfl);have M:wr.cell? ⟨b,o+k*7+4,none⟩=_:=ZG (p:=aD b (o+(k*7+4))) hb a (c 4 _ rfl);have O:wr.cell? ⟨b,o+k*7+5,none⟩=_:=ZG (p:=aD b (o+(k*7+5))) hb a (c 5 _ rfl);have U:wr.cell? ⟨b,o+k*7+6,none⟩=_:=ZG (p:=aD b (o+(k*7+6))) hb a (c 6 _ rfl);exact⟨x,b,o,q,d,u,f,y,g,z,h,C,j,G,Y,Z,V,zF (c 0 _ rfl),a,I,J,K,L,M,O,U,D,aa⟩
structure Past where
 number:Int
 epoch:Int
 gone:Bool
 who:ByteArray
def z3q:Rp Past:=λS w cs x=>cs=[.int .i64 x.number,.int .i64 x.epoch,.bool x.gone,.string x.who]/\I64 x.number/\I64 x.epoch/\x.who.size<=()
theorem zPk {S:Nat->Prop} {w:World} {x:Past} (h:z3q S w cs x):cs.length=4:=by
 obtain⟨rfl,_⟩:=h;rfl
theorem zFk {S:Nat->Prop} {w:World} {x:Past} (h:z3q S w cs x) (k:Kept S S' w w'):z3q S' w' cs x:=by
 exact mbH
theorem zPl {S:Nat->Prop} {w:World} {x:Past} (h:z3q S w cs x):∀u∈cs,u.oneCell'=true:=by
 obtain⟨e,_⟩:=h;exact mbR
theorem z72:RpOk 4 z3q:=⟨zPk,zFk,zPl⟩
theorem zPm {S:Nat->Prop} {w:World} {x:Past} (h:z3q S w cs x):cs=[.int .i64 x.number,.int .i64 x.epoch,.bool x.gone,.string x.who]/\I64 x.number/\I64 x.epoch/\x.who.size<=():=by
 exact mbH
theorem zJo {l:List Past} (s:SlAt 4 z3q S w A l) (hk:k<l) (hb:Kept S S' w wr):
  ∃x b o,l[k]? =some x/\l.drop k=x::l.drop (k+1)/\x∈l/\A=some ⟨b,o,none⟩/\b<w.heap.size/\S b/\cL wr b (o+k*4) x.number/\cL wr b (o+k*4+1) x.epoch/\cL wr b (o+k*4+2) x.gone/\cL wr b (o+k*4+3) x.who/\z3q S' wr [x.number,x.epoch,x.gone,x.who] x/\I64 x.number/\I64 x.epoch/\x.who.size<=():=by
 obtain⟨x,f,z,C⟩:=z68 hk;obtain⟨b,o,_,u,a,_,c,y⟩:=s k _ f;have d:=zFk y hb;obtain⟨e,D⟩:=zPm d;subst e;have g:wr.cell? ⟨b,o+k*4,none⟩=_:=ZG (p:=aD b (o+(k*4+0))) hb a (c 0 _ rfl);have h:wr.cell? ⟨b,o+k*4+1,none⟩=_:=ZG (p:=aD b (o+(k*4+1))) hb a (c 1 _ rfl);have j:wr.cell? ⟨b,o+k*4+2,none⟩=_:=ZG (p:=aD b (o+(k*4+2))) hb a (c 2 _ rfl);have q:wr.cell? ⟨b,o+k*4+3,none⟩=_:=ZG (p:=aD b (o+(k*4+3))) hb a (c 3 _ rfl);exact⟨x,b,o,f,z,C,u,zF (c 0 _ rfl),a,g,h,j,q,d,D⟩
structure Answer where
 err:Int
 number:Int
 who:ByteArray
 data:List Int
 names:List ByteArray
 members:List Member
 history:List Past
def yJ:Rp Answer:=λS w cs x=>∃a c d f,cs=[.int .i64 x.err,.int .i64 x.number,.string x.who,a,c,d,f]/\I64 x.err/\I64 x.number/\x.who.size<=()/\Sl 1 Y1 S w a x.data/\Sl 1 z3u S w c x.names/\Sl 2 zZ S w d x.members/\Sl 4 z3q S w f x.history
theorem yY {S:Nat->Prop} {w:World} {x:Answer} (h:yJ S w cs x) (k:Kept S S' w w'):yJ S' w' cs x:=by
 obtain⟨u,y,z,C,e,a,c,d,f,g,j,q⟩:=h;exact⟨u,y,z,C,e,a,c,d,f.keep rByte_ok dc k,g.keep z0r dc k,j.keep ZA dc k,q.keep z72 dc k⟩
structure Call where
 kind:Int
 user:ByteArray
 folder:ByteArray
 name:ByteArray
 other:ByteArray
 role:Int
 version:Int
 data:List Int
def z09:Rp Call:=λS w cs x=>∃a,cs=[.int .i64 x.kind,.string x.user,.string x.folder,.string x.name,.string x.other,.int .i64 x.role,.int .i64 x.version,a]/\I64 x.kind/\x.user.size<=()/\x.folder.size<=()/\x.name.size<=()/\x.other.size<=()/\I64 x.role/\I64 x.version/\Sl 1 Y1 S w a x.data
theorem zPn {S:Nat->Prop} {w:World} {x:Call} (h:z09 S w cs x):cs.length=8:=by
 obtain⟨_,rfl,_⟩:=h;rfl
theorem YH {S:Nat->Prop} {w:World} {x:Call} (h:z09 S w cs x) (k:Kept S S' w w'):z09 S' w' cs x:=by
 obtain⟨y,e,a,c,d,f,g,j,q,u⟩:=h;exact⟨y,e,a,c,d,f,g,j,q,u.keep rByte_ok dc k⟩
theorem zPo {S:Nat->Prop} {w:World} {x:Call} (h:z09 S w cs x):∀u∈cs,u.oneCell'=true:=by
 obtain⟨_,e,_,_,_,_,_,_,_,a⟩:=h;obtain⟨_,_,rfl,_⟩:=a;exact mbG
theorem zJp:RpOk 8 z09:=⟨zPn,YH,zPo⟩
theorem yG {x:Call} (h:z09 S w cs x):∃c a,cs=[.int .i64 x.kind,.string x.user,.string x.folder,.string x.name,.string x.other,.int .i64 x.role,.int .i64 x.version,.slice c x.data a]/\I64 x.kind/\x.user.size<=()/\x.folder.size<=()/\x.name.size<=()/\x.other.size<=()/\I64 x.role/\I64 x.version/\x.data.length<=a/\a<=9223372036854775807/\x.data.length<=()/\SlAt 1 Y1 S w c x.data:=by
 obtain⟨_,e,d,f,g,j,q,u,y,a⟩:=h;obtain⟨c,z,rfl,C,D,G,I⟩:=a;exact⟨c,z,e,d,f,g,j,q,u,y,C,(by simpa[maxLen] using D),G,I⟩
theorem zJq {l:List Call} (s:SlAt 8 z09 S w A l) (hk:k<l) (hb:Kept S S' w wr):
  ∃x b o f d,l[k]? =some x/\l.drop k=x::l.drop (k+1)/\x∈l/\A=some ⟨b,o,none⟩/\b<w.heap.size/\S b/\cL wr b (o+k*8) x.kind/\cL wr b (o+k*8+1) x.user/\cL wr b (o+k*8+2) x.folder/\cL wr b (o+k*8+3) x.name/\cL wr b (o+k*8+4) x.other/\cL wr b (o+k*8+5) x.role/\cL wr b (o+k*8+6) x.version/\cL wr b (o+k*8+7) (.slice f x.data d)/\z09 S' wr [x.kind,x.user,x.folder,x.name,x.other,x.role,x.version,.slice f x.data d] x/\I64 x.kind/\x.user.size<=()/\x.folder.size<=()/\x.name.size<=()/\x.other.size<=()/\I64 x.role/\I64 x.version/\x.data.length<=d/\d<=9223372036854775807/\x.data.length<=()/\SlAt 1 Y1 S' wr f x.data:=by
 obtain⟨x,h,K,L⟩:=z68 hk;obtain⟨b,o,_,I,a,_,c,J⟩:=s k _ h;have g:=YH J hb;obtain⟨f,d,e,M⟩:=yG g;subst e;have j:wr.cell? ⟨b,o+k*8,none⟩=_:=ZG (p:=aD b (o+(k*8+0))) hb a (c 0 _ rfl);have q:wr.cell? ⟨b,o+k*8+1,none⟩=_:=ZG (p:=aD b (o+(k*8+1))) hb a (c 1 _ rfl);have u:wr.cell? ⟨b,o+k*8+2,none⟩=_:=ZG (p:=aD b (o+(k*8+2))) hb a (c 2 _ rfl);have y:wr.cell? ⟨b,o+k*8+3,none⟩=_:=ZG (p:=aD b (o+(k*8+3))) hb a (c 3 _ rfl);have z:wr.cell? ⟨b,o+k*8+4,none⟩=_:=ZG (p:=aD b (o+(k*8+4))) hb a (c 4 _ rfl);have C:wr.cell? ⟨b,o+k*8+5,none⟩=_:=ZG (p:=aD b (o+(k*8+5))) hb a (c 5 _ rfl);have D:wr.cell? ⟨b,o+k*8+6,none⟩=_:=ZG (p:=aD b (o+(k*8+6))) hb a (c 6 _ rfl);have G:wr.cell? ⟨b,o+k*8+7,none⟩=_:=ZG (p:=aD b (o+(k*8+7))) hb a (c 7 _ rfl);exact⟨x,b,o,f,d,h,K,L,I,zF (c 0 _ rfl),a,j,q,u,y,z,C,D,G,g,M⟩
theorem zVz:Rd prog w 41 z09:=by
 intro H enc base spare z56 fuel cs x Z ab;obtain⟨aa,_,a⟩:=zPa underlying41 kr kr Z ab
 match cs,aa with
 | [c0,c1,c2,c3,c4,c5,c6,c7],_=>
  obtain⟨_,ac,ak⟩:=a 0 _ rfl;obtain⟨d,(L:c0=_),b0⟩:=zGu underlying3 ac ak;obtain⟨_,ad,al⟩:=a 1 _ rfl;obtain⟨f,(M:c1=_),y⟩:=zDj underlying9 ad al;obtain⟨_,ae,am⟩:=a 2 _ rfl;obtain⟨g,(O:c2=_),z⟩:=zDj underlying9 ae am;obtain⟨_,af,an⟩:=a 3 _ rfl;obtain⟨h,(U:c3=_),C⟩:=zDj underlying9 af an;obtain⟨_,ag,ao⟩:=a 4 _ rfl;obtain⟨j,(V:c4=_),D⟩:=zDj underlying9 ag ao;obtain⟨_,ah,ap⟩:=a 5 _ rfl;obtain⟨q,(X:c5=_),G⟩:=zGu underlying3 ah ap;obtain⟨_,ai,aq⟩:=a 6 _ rfl;obtain⟨u,(Y:c6=_),I⟩:=zGu underlying3 ai aq;obtain⟨_,aj,ar⟩:=a 7 _ rfl;obtain⟨c,J⟩:=zP9 (zJk underlying39 kr (of_decide_eq_true kr) dc (zUe underlying5) rByte_ok.len) aj ar;have K:Sl 1 Y1 _ w c7 c:=J;subst L M O U V X Y;exact⟨⟨d,f,g,h,j,q,u,c⟩,⟨c7,rfl,b0,y,z,C,D,G,I,K⟩⟩
structure State where
 turn:Int
 users:List User
 deposits:List Pair
 folders:List Folder
inductive Ce|aF (x:Folder) (A0:Option Addr) (c0:Nat) (A1:Option Addr) (c1:Nat) (A2:Option Addr) (c2:Nat) (A3:Option Addr) (c3:Nat) (A4:Option Addr) (c4:Nat)|lF (x:Folder) (A0:Option Addr) (c0:Nat) (A1:Option Addr) (c1:Nat) (A2:Option Addr) (c2:Nat) (A3:Option Addr) (c3:Nat) (A4:Option Addr) (c4:Nat)|aS (x:State) (A0:Option Addr) (c0:Nat) (A1:Option Addr) (c1:Nat) (A2:Option Addr) (c2:Nat)|lS (x:State) (A0:Option Addr) (c0:Nat) (A1:Option Addr) (c1:Nat) (A2:Option Addr) (c2:Nat)|aC (x:Call) (A0:Option Addr) (c0:Nat)|aA (x:Answer) (A0:Option Addr) (c0:Nat) (A1:Option Addr) (c1:Nat) (A2:Option Addr) (c2:Nat) (A3:Option Addr) (c3:Nat)|lA (x:Answer) (A0:Option Addr) (c0:Nat) (A1:Option Addr) (c1:Nat) (A2:Option Addr) (c2:Nat) (A3:Option Addr) (c3:Nat)|aM (x:Manifest) (A0:Option Addr) (c0:Nat) (A1:Option Addr) (c1:Nat)|aE (x:Epoch) (A0:Option Addr) (c0:Nat)|lE (x:Epoch) (A0:Option Addr) (c0:Nat)
instance {x:Folder} {A0 A1 A2 A3 A4:Option Addr} {c0 c1 c2 c3 c4:Nat}:CoeDep Ce (.aF x A0 c0 A1 c1 A2 c2 A3 c3 A4 c4) (Array Value):=⟨#[.string x.name,.int .i64 x.turn,.slice A0 x.manifests c0,.slice A1 x.epochs c1,.slice A2 x.items c2,.slice A3 x.wraps c3,.slice A4 x.links c4]⟩
instance {x:Folder} {A0 A1 A2 A3 A4:Option Addr} {c0 c1 c2 c3 c4:Nat}:CoeDep Ce (.lF x A0 c0 A1 c1 A2 c2 A3 c3 A4 c4) (List Value):=⟨[.string x.name,.int .i64 x.turn,.slice A0 x.manifests c0,.slice A1 x.epochs c1,.slice A2 x.items c2,.slice A3 x.wraps c3,.slice A4 x.links c4]⟩
instance {x:State} {A0 A1 A2:Option Addr} {c0 c1 c2:Nat}:CoeDep Ce (.aS x A0 c0 A1 c1 A2 c2) (Array Value):=⟨#[.int .i64 x.turn,.slice A0 x.users c0,.slice A1 x.deposits c1,.slice A2 x.folders c2]⟩
instance {x:State} {A0 A1 A2:Option Addr} {c0 c1 c2:Nat}:CoeDep Ce (.lS x A0 c0 A1 c1 A2 c2) (List Value):=⟨[.int .i64 x.turn,.slice A0 x.users c0,.slice A1 x.deposits c1,.slice A2 x.folders c2]⟩
instance {x:Call} {A0:Option Addr} {c0:Nat}:CoeDep Ce (.aC x A0 c0) (Array Value):=⟨#[.int .i64 x.kind,.string x.user,.string x.folder,.string x.name,.string x.other,.int .i64 x.role,.int .i64 x.version,.slice A0 x.data c0]⟩
instance {x:Answer} {A0 A1 A2 A3:Option Addr} {c0 c1 c2 c3:Nat}:CoeDep Ce (.aA x A0 c0 A1 c1 A2 c2 A3 c3) (Array Value):=⟨#[.int .i64 x.err,.int .i64 x.number,.string x.who,.slice A0 x.data c0,.slice A1 x.names c1,.slice A2 x.members c2,.slice A3 x.history c3]⟩
instance {x:Answer} {A0 A1 A2 A3:Option Addr} {c0 c1 c2 c3:Nat}:CoeDep Ce (.lA x A0 c0 A1 c1 A2 c2 A3 c3) (List Value):=⟨[.int .i64 x.err,.int .i64 x.number,.string x.who,.slice A0 x.data c0,.slice A1 x.names c1,.slice A2 x.members c2,.slice A3 x.history c3]⟩
instance {x:Manifest} {A0 A1:Option Addr} {c0 c1:Nat}:CoeDep Ce (.aM x A0 c0 A1 c1) (Array Value):=⟨#[.string x.folder,.int .i64 x.seq,.slice A0 x.prev c0,.string x.parent,.slice A1 x.members c1,.int .i64 x.cut,.bool x.gone,.string x.who]⟩
instance {x:Epoch} {A0:Option Addr} {c0:Nat}:CoeDep Ce (.aE x A0 c0) (Array Value):=⟨#[.int .i64 x.place,.int .i64 x.frm,.int .i64 x.seq,.slice A0 x.chain c0,.string x.who]⟩
instance {x:Epoch} {A0:Option Addr} {c0:Nat}:CoeDep Ce (.lE x A0 c0) (List Value):=⟨[.int .i64 x.place,.int .i64 x.frm,.int .i64 x.seq,.slice A0 x.chain c0,.string x.who]⟩
open Ce
def Z5:Rp State:=λS w cs x=>∃a c d,cs=[.int .i64 x.turn,a,c,d]/\I64 x.turn/\Sl 2 z0z S w a x.users/\Sl 2 z10 S w c x.deposits/\Sl 7 Z6 S w d x.folders
theorem zM {S:Nat->Prop} {w:World} {x:State} (h:Z5 S w cs x) (k:Kept S S' w w'):Z5 S' w' cs x:=by
 obtain⟨g,j,q,e,a,c,d,f⟩:=h;exact⟨g,j,q,e,a,c.keep z1a dc k,d.keep z1r dc k,f.keep rFolder_ok dc k⟩
theorem ZF {x:State} (h:Z5 S w cs x):∃f a g c j d,cs=[.int .i64 x.turn,.slice f x.users a,.slice g x.deposits c,.slice j x.folders d]/\I64 x.turn/\x.users.length<=a/\a<=9223372036854775807/\x.users.length<=()/\SlAt 2 z0z S w f x.users/\x.deposits.length<=c/\c<=9223372036854775807/\x.deposits.length<=()/\SlAt 2 z10 S w g x.deposits/\x.folders.length<=d/\d<=9223372036854775807/\x.folders.length<=()/\SlAt 7 Z6 S w j x.folders:=by
 obtain⟨_,_,_,e,q,a,c,d⟩:=h;obtain⟨f,u,rfl,C,I,L,U⟩:=a;obtain⟨g,y,rfl,D,J,M,V⟩:=c;obtain⟨j,z,rfl,G,K,O,X⟩:=d;exact⟨f,u,g,y,j,z,e,q,C,(by simpa[maxLen] using I),L,U,D,(by simpa[maxLen] using J),M,V,G,(by simpa[maxLen] using K),O,X⟩
end
open Ce
section
open Go.RowKit Go.Deep
def Elems {α:Type} (sz:Nat) (R:Rp α) (S:Nat->Prop) (w:World) (f:List Value) (l:List α):Prop:=
 ∀i x,l[i]? =some x->∃a:List Value,a=sz/\(∀c d,a[c]? =some d->f[i*sz+c]? =some d)/\R S w a x
def Own {α:Type} (e:TypeId) (sz:Nat) (R:Rp α) (S:Nat->Prop) (w:World) (base:Nat) (v:Value) (l:List α):Prop:=
 l.length<=140737488355328/\(∀b,S b->b<w.heap.size/\v.ownBlock≠some b)/\∃a:List Value,w.ownsRow base e sz v l a/\Elems sz R S w a l
section
variable {α:Type} {e:TypeId} {sz:Nat} {R:Rp α} {S:Nat->Prop} {w w':World} {base:Nat} {v:Value} {l:List α}
theorem Own.nil (a:∀b,S b->b<w.heap.size):Own e sz R S w base () ([]:List α):=
 ⟨sm,λb c=>⟨a b c,by simp[Value.ownBlock]⟩,[],World.ownsRow_nil w base e sz,λi x d=>by simp at d⟩
theorem Own.empty {g:Nat} (hg:w.heap[g]? =some (.cells #[] e (0,0))) (hb:base<=g) (a:∀b,S b->b<w.heap.size/\b≠g):Own e sz R S w base (.slice (some ⟨g,0,none⟩) 0 0) ([]:List α):=
 ⟨sm,λb hb=>⟨(a b hb).1,by simp only[Value.ownBlock,ne_eq,Option.some.injEq];exact λc=>(a b hb).2 c.symm⟩,[],⟨sm,.inr ⟨g,0,#[],rfl,hb,hg,znl _,Nat.zero_le _,sm,sm⟩⟩,λi x d=>by simp at d⟩
theorem Elems.keep (j:RpOk sz R) {a:List Value} (h:Elems sz R S w a l) (k:Kept S S' w w'):Elems sz R S' w' a l:=λi x g=>by
 obtain⟨q,c,d,f⟩:=h i x g;exact⟨q,c,d,j.keep f k⟩
theorem Own.keep (D:RpOk sz R) (h:Own e sz R S w base v l) (hk:∀b,v.ownBlock=some b->w'.heap[b]? =w.heap[b]?) (k:Kept S S' w w') (y:∀b,S' b->b<w'.heap.size/\v.ownBlock≠some b):Own e sz R S' w' base v l:=by
 obtain⟨j,_,G,⟨q,a⟩,u⟩:=h;refine⟨j,y,G,⟨q,?_⟩,u.keep D k⟩;rcases a with a|⟨c,f,g,d,z,C,r⟩
 ·exact .inl a
 exact .inr ⟨c,f,g,d,z,(hk c (by rw[d];rfl)).trans C,r⟩
theorem Own.below (g:RpOk sz R) (h:Own e sz R S w base v l) (hb:(bW w w':Prop)):Own e sz R S w' base v l:=by
 have a:=h.2.1;refine h.keep g (λb f=>hb.block b ?_) (Kept.below hb λ_ h=>h) λb c=>⟨zll (a b c).1 hb.size,(a b c).2⟩
 obtain⟨_,_,_,d,_⟩:=h;exact(d.lt b f).2
theorem mbt (h:p:=by
 rw[<-htk,getElem?_take] at hx';split at hx'
 ·simpa using hx'
 cases hx'):p:=h
theorem Own.sl (J:RpOk sz R) (h:Own e sz R S w base v l):Sl sz R (λ_=>True) w v l:=by
 obtain⟨g,_,_,⟨_,j⟩,q⟩:=h;rcases j with ⟨c,C⟩|⟨a,d,f,c,V,y,D,u,X,htk⟩
 ·have:l=[]:=eq_nil_of_length_eq_zero C;subst this;subst c;exact z1p _ _ _ _
 refine⟨some ⟨a,0,none⟩,d,c,D,u,g,λi x G=>?_⟩;obtain⟨U,L,M,O⟩:=q i x G;refine⟨a,0,U,rfl,trivial,L,λI K z=>?_,J.keep O (Kept.refl w λ_ _=>trivial)⟩;have hx':=M I K z;rw[cell_of_row w a _ f e (0,0) y];exact mbt
theorem Own.base_le (h:Own e sz R S w base v l):∀b,v.ownBlock=some b->base<=b/\b<w.heap.size:=by
 obtain⟨_,_,_,a,_⟩:=h;exact a.lt
theorem Own.shape (h:Own e sz R S w base v l):∃A c,v= .slice A l c:=by
 obtain⟨_,_,_,⟨_,d⟩,_⟩:=h;rcases d with ⟨a,f⟩|⟨q,g,j,a,_⟩
 ·exact⟨none,0,by rw[a,f]⟩
 exact⟨_,_,a⟩
end
theorem zHv {α:Type} {sz:Nat} {R:Rp α} {S:Nat->Prop} {w:World}:∀(l:List α) (f:Nat->List Value),(∀i,i<l.length->(f i).length=sz)->∃c:List Value,c.length=l.length*sz/\∀i j,i<l.length->j<sz->c[i*sz+j]? =(f i)[j]?
 | [],_,_=>⟨[],sm,λi j a=>by simp at a⟩
 | x::l,f,h=>by
  obtain⟨c,g,q⟩:=zHv (R:=R) (S:=S) (w:=w) l (λi=>f (i+1)) (λi a=>h (i+1) (by simp;omega));have d:=h 0 sm;refine⟨f 0++c,by simp[d,g,Nat.add_mul,Nat.add_comm],λi j a u=>?_⟩;rcases i with _|i
  ·rw[Nat.zero_mul,Nat.zero_add,qLlx om]
  ·have e:(i+1)*sz+j-(f 0).length=i*sz+j:=by rw[d,Nat.add_mul];omega
   rw[qLrx (by rw[d,Nat.add_mul];omega),e];exact q i j (by simp at a;omega) u
theorem zNj {sz q:Nat} (a:0<sz) (h:q<n*sz):q / sz<n/\q % sz<sz/\q=q / sz*sz+q % sz:=by
 have c:=Nat.mod_lt q a;have d:=Nat.div_add_mod q sz;refine⟨(Nat.div_lt_iff_lt_mul a).2 h,c,?_⟩;rw[Nat.mul_comm] at d;omega
section
variable {P:Program} {α:Type} {R:Rp α} {S:Nat->Prop}
theorem zA0 (w:World) (t ag e:TypeId) (i:TypeInfo) (ah:Value) (sz L:Nat) (aa:P.underlying t=some (.slice e)) (hi:P.info? e=some i) (hz:i.zero=some ah)
  (aX:i.size=sz) (aJ:i.bytes=L) (a1:ah.cells.size=sz) (ar:0<sz) (ad:RpOk sz R) (base:Nat) (aI:base<=w) (v:Value) (l:List α) (aU:Own e sz R S w base v l)
  (A:Option Addr) (m c:Nat) (g:List α) (hm:m=g) (hs:SlAt sz R S w A g) (an:(l.length+m)*L<=140737488355328) (aH:0<L):
  ∃v' w',(Builtin.append_ #[t,t] ag #[v,.slice A m c]).run P w= .ok v' w'/\Own e sz R S w' base v' (l++g)/\w.grownBy w' v.ownBlock/\(v'.ownBlock=v.ownBlock\/v'.ownBlock=some w.heap.size):=by
 obtain⟨a8,O,V,U,aB⟩:=aU;have ba:l.length+m<=140737488355328:=qNtx (Nat.le_mul_of_pos_right _ aH) an;have z:∃y:Nat->List Value,∀k,k<g.length->(y k).length=sz/\(∃b o,A=some ⟨b,o,none⟩/\∀a q,(y k)[a]? =some q->(cL w b (o+(k*sz+a)) q:Prop))/\∀x,g[k]? =some x->R S w (y k) x:=by
  classical
  have f:∀k,∃G:List Value,k<g.length->G=sz/\(∃b o,A=some ⟨b,o,none⟩/\∀a q,G[a]? =some q->(cL w b (o+(k*sz+a)) q:Prop))/\∀x,g[k]? =some x->R S w G x:=by
   intro k;by_cases f:k<g
   ·obtain⟨b,o,G,X,_,Z,Y,aG⟩:=hs k _ (qLgx f);exact⟨G,λ_=>⟨Z,⟨b,o,X,Y⟩,λx u=>by rw[qLgx f] at u;cases u;exact aG⟩⟩
   ·exact⟨[],λj=>absurd j f⟩
  exact⟨λk=>Classical.choose (f k),λk j=>Classical.choose_spec (f k) j⟩
 obtain⟨y,z⟩:=z;obtain⟨D,ac,au⟩:=zHv (R:=R) (S:=S) (w:=w) g y (λk f=>(z k f).1);have aq:∀h d,D[h]? =some d->∃k a,k<g.length/\a<sz/\h=k*sz+a/\(y k)[a]? =some d:=by
  intro h d J;have aV:h<g.length*sz:=by rw[<-ac];exact(zge J).1
  obtain⟨ai,aj,ak⟩:=zNj ar aV;refine⟨h / sz,h % sz,ai,aj,ak,?_⟩;rw[<-au _ _ ai aj,<-ak];exact J
 have aT:∀d∈D,d.oneCell'=true:=by
  intro d ab;obtain⟨h,J⟩:=getElem?_of_mem ab;obtain⟨k,a,f,C,_,aY⟩:=aq h d J;exact ad.one ((z k f).2.2 _ (qLgx f)) d (zmg aY)
 have aW:∃v' w',(Builtin.append_ #[t,t] ag #[v,.slice A m c]).run P w= .ok v' w'/\w'.ownsRow base e sz v' (l.length+m) (V++D)/\w.grownBy w' v.ownBlock/\(v'.ownBlock=v.ownBlock\/v'.ownBlock=some w.heap.size):=by
  rcases A with _|al
  ·have aP:m=0:=by
    rcases Nat.eq_zero_or_pos m with M|M
    ·exact M
    ·obtain⟨_,⟨b,o,j,_⟩,_⟩:=z 0 om;cases j
   have aN:g=[]:=eq_nil_of_length_eq_zero om;subst aN;subst aP;have aQ:D=[]:=eq_nil_of_length_eq_zero (by simpa using ac);subst aQ;refine⟨v,w,?_,by simpa using U,World.grownBy.refl w _,.inl rfl⟩;rcases U.2 with ⟨rfl,bb⟩|⟨a7,a5,a6,rfl,_,_,aR,_⟩
   ·simp[Builtin.append_,run_underlying aa,sizeOf,typeInfo,hi,Builtin.lenOf,Builtin.firstCells]
   ·simp[Builtin.append_,run_underlying aa,sizeOf,typeInfo,hi,Builtin.lenOf,Builtin.firstCells,aR,storeCells]
  ·have aK:∀h d,D[h]? =some d->w.cell? (al.add h)=some d:=by
    intro h d J;obtain⟨k,a,f,C,rfl,ab⟩:=aq h d J;obtain⟨_,⟨b,o,X,Y⟩,_⟩:=z k f;cases X
    have:=Y a d ab;unfold Addr.add;split
    ·rename_i M;rw[M] at this;exact this
    ·exact this
   obtain⟨v',w',ae,af,K,_,a2⟩:=run_append_own_at (P:=P) w base t ag e i ah sz L aa hi hz aX aJ a1 ar v l V U al m c D (by rw[ac,hm]) aK aT (by simp only[maxLen];omega) an aI;exact⟨v',w',ae,af,K,a2⟩
 obtain⟨v',w',ae,af,K,av⟩:=aW;have am:Kept S S w w':=λb I Z=>⟨I,K.block b Z (λj=>(O b I).2 j.symm)⟩
 refine⟨v',w',ae,⟨by simp[<-hm];omega,λb I=>⟨zll (O b I).1 K.size,?_⟩,V++D,by simpa[<-hm] using af,?_⟩,K,av⟩
 ·rcases av with j|j
  ·rw[j];exact(O b I).2
  rw[j];simp only[ne_eq,Option.some.injEq];have:=(O b I).1;omega
 intro k x u;rcases Nat.lt_or_ge k l with aO|ao
 ·rw[qLlx aO] at u;obtain⟨G,a3,aw,a4⟩:=aB k x u;refine⟨G,a3,λa q C=>?_,ad.keep a4 am⟩;have a0:=(zge (aw a q C)).1;rw[qLlx a0];exact aw a q C
 rw[qLrx ao] at u;have ap:k-l.length<g.length:=(zge u).1;obtain⟨ay,_,az⟩:=z _ ap;refine⟨y (k-l.length),ay,λa q C=>?_,ad.keep (az x u) am⟩;have aL:a<sz:=by have:=(zge C).1;omega
 have aZ:V.length=l.length*sz:=U.1;have a9:l.length*sz<=k*sz:=Nat.mul_le_mul_right _ ao;rw[qLrx om,aZ];have ax:k*sz+a-l.length*sz=(k-l.length)*sz+a:=by rw[Nat.sub_mul];omega
 rw[ax,au _ _ ap aL];exact C
theorem zE0 (w:World) {ops:Array Oper} {rest:List Oper} {o:Oper} {a:Act} {Q:Exit->Act->World->Prop} (z:o.guard=none) (s x:Operand) (t:TypeId)
  (C:o.op= .call { callee:= .builtin .append,args:=#[s,x],argTypes:=#[t,t] })
  (e:TypeId) (i:TypeInfo) (g:Value) (sz d:Nat) (K:P.underlying t=some (.slice e)) (hi:P.info? e=some i) (hz:i.zero=some g)
  (G:i.size=sz) (u:i.bytes=d) (L:g.cells.size=sz) (J:0<sz) (M:RpOk sz R) (base:Nat) (q:base<=w) (v:Value) (l:List α) (hs:a.eval s=v) (D:Own e sz R S w base v l)
  (A:Option Addr) (m c:Nat) (hx:a.eval x= .slice A m c) (f:List α) (hm:m=f) (I:SlAt sz R S w A f) (y:(l.length+m)*d<=140737488355328) (j:0<d)
  (h:∀v' w',Own e sz R S w' base v' (l++f)->w.grownBy w' v.ownBlock->(v'.ownBlock=v.ownBlock\/v'.ownBlock=some w.heap.size)->wpList P ops Q rest (a.put o.dst v') w'):wpList P ops Q (o::rest) a w:=by
 obtain⟨v',w',O,U,V,X⟩:=zA0 (P:=P) w t o.type e i g sz d K hi hz G u L J M base q v l D A m c f hm I y j;exact Lib.wpList_append_run w z s x t t C _ _ hs hx v' w' O (h v' w' U V X)
end
end
section
open Go.ChangeShapes Go.WideShapes Go.ChangeAt Go.RowKit
theorem zUj:ownKnob prog.godebug=none:=kr
theorem zJs:laidOutB prog=true:=kr
def z9p (P:Program) (ts:List TypeId):Bool:=ts.all λt=>P.readableRec t&&decide (t<P.types.size)
theorem zBg {H:Type} {enc:TypeId×Value->H} {P:Program} (hl:laidOutB P=true) {W W':World} (hb:(bW W W':Prop)) (j:Nat->Bool):
  ∀(ts:List TypeId) (g:List Value) (f:List (DataW H)) (c:List MemPlace),z9p P ts=true->DataW.TrodAll enc P W 0 (λ_=>true) true ts g f c->
   (∀x∈c,x.block<W)->(∀x∈c,j x.block=true)->DataW.TrodAll enc P W' 0 j true ts g f c
 | [],[],[],c,_,h,_,_=>h
 | t::ts,v::g,d::f,c,hr,h,hlt,hsp=>by
  obtain⟨p,q,C,D,rfl⟩:=h;unfold z9p at hr;rw[all_cons,qBqx,qBqx] at hr;obtain⟨⟨u,y⟩,z⟩:=hr;exact⟨p,q,WideElems.Trod_stays hl u (of_decide_eq_true y) C (λx a=>hb.same (hlt x (mem_append_left _ a))) (λx a=>hsp x (mem_append_left _ a)),
   zBg hl hb j ts g f q z D (λx a=>hlt x (mem_append_right _ a)) (λx a=>hsp x (mem_append_right _ a)),rfl⟩
 | [],_::_,_,_,_,h,_,_=>by cases h
 | _::_,[],_,_,_,h,_,_=>by cases h
 | [],[],_::_,_,_,h,_,_=>by cases h
 | _::_,_::_,[],_,_,h,_,_=>by cases h
theorem zS8 {enc:TypeId×Value->H} {f:Func} {s:ChangeSpec} {X:TypeId} {y fresh ab again:Bool} {W':World} {j:Array Value} {g z:List (DataW H)} {Y:List MemPlace}
  (D:DataW.Whole enc P f.params.toList s.vars y W j.toList g z Y) (hv:s.vars=[]) (u:s.fn H (g++z)={ results:=[.lit (.bool true)],args:=g })
  (U:f.resultTypes=#[X]) (I:P.underlying X=some .bool) (hl:laidOutB P=true) (hr:z9p P f.params.toList=true) (hb:(bW W W':Prop)):
  s.post enc P f y fresh ab again W j (.bool true) W':=by
 have q:=D;obtain⟨p,_,Z,C,rfl,K,M⟩:=D;rw[hv] at C;obtain⟨rfl,rfl⟩:=trodVars_none C;have h:∀x∈p++([]:List MemPlace),x.block<W.heap.size:=λx d=>q.lt x d
 simp only[List.append_nil] at h K M q;have YO:∀x∈p,(λb=>decide (b<W.heap.size)) x.block=true:=λx d=>by simpa using h x d
 have V:∀c:Nat->Bool,DataW.TrodVars enc P W' c s.vars ([]:List (DataW H)) []:=λc=>by rw[hv];rfl
 have G:∀c:Nat->Bool,(∀x∈p,c x.block=true)->DataW.TrodAll enc P W' 0 c true f.params.toList j.toList g p:=λc ad=>zBg hl hb c _ _ _ _ hr Z h ad
 have O:∀(b:Nat) (c:Nat->Bool) (J:Bool),DataW.TrodAll enc P W' b c J f.resultTypes.toList ((Value.bool true).resultList f.resultTypes.size) [.lit (.bool true)] []:=λb c J=>by
  rw[U];exact trodAll_mk1 (shut_bool I true)
 have ae:(s.fn H (g++[])).vars=[]:=by rw[u]
 refine⟨g,[],p,[],p,[],q,?_,?_,?_,World.keptBut_mono (λx d=>⟨d,?_⟩) (hb.frame (·∈p)),λ_=>?_⟩
 ·rw[u];exact O _ _ _
 ·rw[u];exact G _ YO
 ·rw[ae];exact V _
 ·simpa using d
 refine⟨ok_one U rfl (okWide_bool_mk I true),[.lit (.bool true)]++g,[],([]++p)++[],⟨[]++p,[],trodAll_append (G _ (λ_ _=>rfl)) (O _ _ _),V _,rfl,?_,?_⟩,?_⟩
 ·intro b off ac;have L:MemPlace.cell b off∈p:=by simpa using ac
  rw[hb.frozen (h _ L)];exact K b off L
 ·intro aa;simpa using M aa
 intro x d _;simpa using d
end
def z1d (k:Nat):Nat:=[0,0,9,9,1,21,21,5,67,35,1,3,3,1,4,0,4].getD k 0
section
variable (N:ByteArray->Bool)
def z3d (s:ByteArray):Bool:=decide (s=⟨#[]⟩)
def txt (s:ByteArray) (a:Bool):Bool:=if a then N s else z3d s
def num (n a b:Int) (c:Bool):Bool:=if c then decide (a<=n)&&decide (n<=b) else decide (n=0)
def z57 (k:Int) (m:Nat):Bool:=z1d k.toNat &&& m !=0
def z58 (a:Int) (f d name c:ByteArray) (role g len:Int):Bool:=
 decide (1<=a)&&decide (a<=16)&&N f&&txt N d (z57 a 1)&&txt N name (z57 a 2)&&txt N c (z57 a 4||z57 a 8&&!z3d c) &&
 !(!z57 a 1&&decide (c=f))&&!(decide (a=2)&&decide (c=d))&&num role 1 4 (z57 a 16)&&num g 0 1099511627776 (z57 a 32)&&num len 0 512 (z57 a 64)
def yK (k:Int) (f c name a:ByteArray) (role d len:Int):Bool:=
 N f&&decide (1<=k)&&decide (k<=16)&&!((decide (k=14)||decide (k=16))&&(!N a||decide (a=f))) &&
 (if k=1\/14<=k then !(!z3d c||(decide (k=1)||decide (k=15))&&!z3d a) else N c) &&
 (if k=2\/k=3 then !(!z3d a&&!N a||decide (k=2)&&decide (a=c)) else if 5<=k/\k<=7 then N a else !(decide (k<14)&&!z3d a)) &&
 !((decide (k=8)||decide (k=9)||decide (k=11)||decide (k=12))&&!N name)&&!(!(decide (k=8)||decide (k=9)||decide (k=11)||decide (k=12))&&!z3d name) &&
 (if k=5\/k=6 then decide (1<=role)&&decide (role<=4) else decide (role=0)) &&
 (if k=9 then decide (0<=d)&&decide (d<=1099511627776) else decide (d=0)) &&
 (decide (len=0)||decide (k=8)&&decide (len<=512))
theorem zR1 (u:N ⟨#[]⟩=false) (k:Int) (d a name c:ByteArray) (role C len:Int) (hl:0<=len):z58 N k d a name c role C len=yK N k d a name c role C len:=by
 by_cases j:1<=k
 rotate_left
 ·unfold z58 yK;simp[j]
 by_cases q:k<=16
 rotate_left
 ·unfold z58 yK;simp[q]
 cases f:N d with
 | false=>unfold z58 yK;simp[f]
 | true=>
  have G:d≠⟨#[]⟩:=λe=>by rw[e,u] at f;cases f
  have z:(decide (len=0)||decide (len<=512))=decide (len<=512):=by
   by_cases h:len=0
   ·simp[h]
   ·simp[h]
  have J:∀g b:Bool,(g&&b)=(b&&g):=Bool.and_comm;have D:k=1\/k=2\/k=3\/k=4\/k=5\/k=6\/k=7\/k=8\/k=9\/k=10\/k=11\/k=12\/k=13\/k=14\/k=15\/k=16:=om
  clear j q;rcases D with rfl|rfl|rfl|rfl|rfl|rfl|rfl|rfl|rfl|rfl|rfl|rfl|rfl|rfl|rfl|rfl
  all_goals
   unfold z58 yK;simp only[z57,z1d,txt,num,f,z3d];by_cases y:c=⟨#[]⟩
   ·subst y;have I:¬((⟨#[]⟩:ByteArray)=d):=λe=>G e.symm
    simp[u,I,hl,z];try (cases decide (a=⟨#[]⟩)<;>cases decide (name=⟨#[]⟩)<;>cases N a<;>cases N name<;>simp<;>omega)
   ·simp[y,hl,z];try (cases N c<;>cases decide (c=d)<;>cases decide (c=a)<;>cases decide (name=⟨#[]⟩)<;>cases N a<;>simp)
end
def ltS (a b:ByteArray):Bool:=Op.bytesLess a.toList b.toList
theorem z4x:∀l:List UInt8,Op.bytesLess l l=false
 | []=>rfl
 | a::l=>by simp[Op.bytesLess,z4x l]
theorem z6k:∀l r:List UInt8,Op.bytesLess l r=true\/l=r\/Op.bytesLess r l=true
 | [],[]=> .inr (.inl rfl)
 | [],_::_=> .inl rfl
 | _::_,[]=> .inr (.inr rfl)
 | a::l,b::r=>by
  rcases Nat.lt_trichotomy a.toNat b.toNat with c|c|c
  ·left;simp[Op.bytesLess,UInt8.lt_iff_toNat_lt,c]
  ·obtain rfl:a=b:=UInt8.toNat_inj.1 c;rcases z6k l r with d|d|d
   ·left;simp[Op.bytesLess,d]
   ·right;left;rw[d]
   ·right;right;simp[Op.bytesLess,d]
  ·right;right;simp[Op.bytesLess,UInt8.lt_iff_toNat_lt,c]
theorem z6l:∀l m r:List UInt8,Op.bytesLess l m=true->Op.bytesLess m r=true->Op.bytesLess l r=true
 | [],[],_,d,_=>by cases d
 | [],_::_,[],_,d=>by cases d
 | [],_::_,_::_,_,_=>rfl
 | _::_,[],_,d,_=>by cases d
 | _::_,_::_,[],_,d=>by cases d
 | a::l,b::m,c::r,d,k=>by
  simp only[Op.bytesLess,Bool.or_eq_true,qBqx,decide_eq_true_eq,beq_iff_eq,UInt8.lt_iff_toNat_lt] at d k⊢;rcases d with d|⟨rfl,d⟩
  ·rcases k with k|⟨rfl,k⟩
   ·left;omega
   ·left;exact d
  ·rcases k with k|⟨rfl,k⟩
   ·left;exact k
   ·right;exact⟨rfl,z6l l m r d k⟩
theorem toList_inj {a b:ByteArray} (h:a.toList=b.toList):a=b:=by
 rw[Lib.toList_data,Lib.toList_data] at h;exact ByteArray.ext (Array.toList_inj.1 h)
theorem z07 (a:ByteArray):ltS a a=false:=z4x _
theorem z0e {a b c:ByteArray} (h:ltS a b=true) (k:ltS b c=true):ltS a c=true:=z6l _ _ _ h k
theorem z1e (a b:ByteArray):ltS a b=true\/a=b\/ltS b a=true:=(z6k a.toList b.toList).imp id λh=>h.imp toList_inj id
theorem z2y {a b:ByteArray} (h:ltS a b=true):ltS b a=false:=by
 cases k:ltS b a
 ·rfl
 have:=z0e h k;rw[z07] at this;cases this
theorem z4u {a b:ByteArray} (h:ltS a b=true):a≠b:=λe=>by rw[e,z07] at h;cases h
def IsNames (P:Nm->Prop) (R:List Nm):Prop:=R.Pairwise (λa b=>ltS a b=true)/\∀x,x∈R↔P x
theorem IsNames.nodup {P:Nm->Prop} {R:List Nm} (h:IsNames P R):R.Nodup:=h.1.imp λh=>z4u h
theorem zNe {a b:List Nm} (ha:a.Pairwise (λa b=>ltS a b=true)) (hb:b.Pairwise (λa b=>ltS a b=true)) (h:∀x,x∈a↔x∈b):a=b:=
 Perm.eq_of_pairwise (le:=λx d=>ltS x d=true) (λx d _ _ f c=>by rw[z2y f] at c;cases c) ha hb ((perm_ext_iff_of_nodup (ha.imp λh=>z4u h) (hb.imp λh=>z4u h)).2 h)
theorem IsNames.ext {P Q:Nm->Prop} {a b:List Nm} (ha:IsNames P a) (hb:IsNames Q b) (h:∀x,P x↔Q x):a=b:=
 zNe ha.1 hb.1 λx=>by rw[ha.2,hb.2,h]
theorem IsNames.nil {P:Nm->Prop} (h:∀x,¬P x):IsNames P []:=⟨Pairwise.nil,λx=>by simp[h x]⟩
def z47 (s:Nm):List Nm->List Nm
 | []=>[s]
 | x::l=>if ltS s x then s::x::l else x::z47 s l
theorem zEt (s:Nm):∀(l:List Nm) (x:Nm),x∈z47 s l↔x=s\/x∈l
 | [],x=>by simp[z47]
 | y::l,x=>by
  rw[z47];split
  ·simp
  ·rw[qLcx,zEt s l x,qLcx];constructor
   ·rintro(a|a|a)
    ·exact .inr (.inl a)
    ·exact .inl a
    ·exact .inr (.inr a)
   ·rintro(a|a|a)
    ·exact .inr (.inl a)
    ·exact .inl a
    ·exact .inr (.inr a)
theorem zE1 (s:Nm):∀(l:List Nm),l.Pairwise (λa b=>ltS a b=true)->s∉l->(z47 s l).Pairwise (λa b=>ltS a b=true)
 | [],_,_=>by simp[z47]
 | y::l,h,hs=>by
  obtain⟨g,j⟩:=pairwise_cons.1 h;rw[z47];split
  ·rename_i f;refine pairwise_cons.2 ⟨λx c=>?_,h⟩;rcases mem_cons.1 c with rfl|c
   ·exact f
   ·exact z0e f (g x c)
  ·rename_i f;refine pairwise_cons.2 ⟨λx c=>?_,zE1 s l j λq=>hs (zmc _ q)⟩;rcases(zEt s l x).1 c with rfl|c
   ·rcases z1e y x with d|d|d
    ·exact d
    ·exact absurd (by rw[d];exact mem_cons_self ..) hs
    ·exact absurd d f
   ·exact g x c
theorem IsNames.put {P:Nm->Prop} {R:List Nm} (h:IsNames P R) (hs:¬P s):IsNames (λx=>x=s\/P x) (z47 s R):=
 ⟨zE1 s R h.1 λa=>hs ((h.2 s).1 a),λx=>by rw[zEt,h.2]⟩
section
open Go.ChangeShapes Go.WideShapes Go.ChangeAt Go.RowKit
def fieldsZ:List Int:=[0,0,9,9,1,21,21,5,67,35,1,3,3,1,4,0,4]
theorem zP7:∀r:Fin 17,fieldsZ.getD r.val 0=(z1d r.val:Nat):=dc
theorem laid_cells (h:laidMetH prog [("bastille/call.fields",Rows.laid_bastille_call_fields)] W):0<W.heap.size/\∀r:Nat,r<17->(cL W 0 r (.int .i64 (z1d r:Nat)):Prop):=by
 rw[MakeChecks.laidMetH_plain _ _ _ kr] at h;obtain⟨_,⟨_,_,cs,_,_,_,j,K,L,I,_⟩,_⟩:=h;obtain rfl:=zsi ((by kernel_rfl:prog.globalNamed "bastille/call.fields"=some 0).symm.trans j)
 obtain rfl:=zsi ((by kernel_rfl:(prog.globals[0]?).map (·.type)=some 134).symm.trans K);obtain⟨c,_,_,D,_,_,J⟩:=DataW.trod_array underlying134 I;have u:prog.cellsOf 3=1:=kr
 have O:fieldsZ.length=17:=dc
 have g:∀r:Nat,r<17->(cL W 0 r (.int .i64 (z1d r:Nat)):Prop):=by
  intro r q;have f:=J r q;rw[u,Nat.mul_one,qLgx om] at f;obtain⟨d,y,z,_⟩:=DataW.trod_int underlying3 f;have C:(c.map (·.1))=fieldsZ.map λn=> .lit (.int .i64 n):=(DataW.agg.inj (Prod.mk.inj D).1).symm
  have a:(c.map (·.1))[r]? =(fieldsZ.map λn=>(DataW.lit (.int .i64 n):DataW Unit))[r]? :=by rw[C]
  rw[getElem?_map,getElem?_map,qLgx (by omega:r<c),qLgx (by omega:r<fieldsZ),z] at a;have M:d=(z1d r:Nat):=by
   simp only[Option.map_some,Option.some.injEq,DataW.lit.injEq,Lit.int.injEq,true_and] at a;rw[a,<-zP7 ⟨r,q⟩,getD,qLgx (by omega:r<fieldsZ)];rfl
  rw[World.var?_cell j L r,<-M];have:cs.toList[r]? =some (.int .i64 d):=by
   have G:((cs.toList.drop r).take 1)[0]? =some (.int .i64 d):=by rw[y];rfl
   simpa using G
  simpa using this
 exact⟨World.block_lt_of_cell? W ⟨0,0,none⟩ (g 0 om),g⟩
end
section
open Go.RowKit Go.Deep
section
variable {w w':World} {b:Nat} {cs:Array Value} {T:TypeId} {o:Obj}
theorem zB (h:w.heap[b]? =some (.cells cs T (0,0))):(∀j v,cs[j]? =some v->(cL w b j v:Prop))/\(∀j,w.frozen? (aD b j)=false):=
 ⟨λj v a=>by rw[cell_of_row w b j cs T (0,0) h];exact a,λj=>by unfold World.frozen?;rw[h];simp⟩
theorem ψ (h:w.heap[b]? =some (.cells cs T (0,0))):∀j v,cs[j]? =some v->(cL w b j v:Prop):=(zB h).1
theorem zI (h:w.heap[b]? =some o):b<w:=by
 rcases Nat.lt_or_ge b w with a|a
 ·exact a
 rw[Array.getElem?_eq_none a] at h;cases h
theorem zR (a:Obj) (h:w.heap[b]? =some o):(w.alloc a).heap[b]? =some o:=by rw[heap_alloc_old _ _ (zI h)];exact h
theorem zJ (o:Obj) (h:b=w):(w.alloc o).heap[b]? =some o:=by subst h;exact heap_alloc_new _ _
theorem Z2 {a:Addr} (u:Value) (h:w.heap[b]? =some o) (c:b≠a.block):(w.setCell a u).heap[b]? =some o:=by rw[Below.heap_setCell _ _ _ _ c];exact h
theorem zH {cs':Array Value} (u:Value) (h:w.heap[b]? =some (.cells cs T (0,0))) (a:cs.setIfInBounds i u=cs'):(w.setCell (aD b i) u).heap[b]? =some (.cells cs' T (0,0)):=by
 subst a;exact heap_setCell_same w b i cs T u h
theorem ZQ (h:w.heap[b]? =some o):w.drew.heap[b]? =some o:=h
end
def z21 (B:Nat->Prop) (w:World) (v:Value):Nat->Prop:=λb=>b<w/\¬B b/\v.ownBlock≠some b
def Grow {α:Type} (e:TypeId) (sz:Nat) (R:Rp α) (B:Nat->Prop) (w:World) (base:Nat) (v:Value) (l:List α):Prop:=Own e sz R (z21 B w v) w base v l
section
variable {P:Program} {α:Type} {e:TypeId} {sz:Nat} {R:Rp α} {B B':Nat->Prop} {w w':World} {base:Nat} {v:Value} {l:List α}
theorem Grow.nil:Grow e sz R B w base () ([]:List α):=Own.nil λb a=>a.1
theorem Grow.empty {g:Nat} (hg:w.heap[g]? =some (.cells #[] e (0,0))) (hb:base<=g):Grow e sz R B w base (.slice (some ⟨g,0,none⟩) 0 0) ([]:List α):=
 Own.empty hg hb λb a=>⟨a.1,λe=>a.2.2 (by rw[e];rfl)⟩
theorem Grow.len (h:Grow e sz R B w base v l):l.length<=():=h.1
theorem Grow.base_le (h:Grow e sz R B w base v l):∀b,v.ownBlock=some b->base<=b/\b<w.heap.size:=Own.base_le h
theorem Grow.shape (h:Grow e sz R B w base v l):∃A c,v= .slice A l c:=Own.shape h
theorem Grow.shape' (h:Grow e sz R B w base v l):∃A n c,v= .slice A n c/\n=l.length:=by
 obtain⟨A,c,h⟩:=h.shape;exact⟨A,_,c,h,rfl⟩
theorem Grow.keep (g:RpOk sz R) (h:Grow e sz R B w base v l) (hz:w<=w'.heap.size) (f:∀b,b<w.heap.size->B' b->B b) (hk:∀b,b<w.heap.size->¬B b->w'.heap[b]? =w.heap[b]?) (hv:∀b,v.ownBlock=some b->w'.heap[b]? =w.heap[b]?):
  Grow e sz R B' w' base v l:=by
 refine Own.keep g h hv (λb a c=>⟨⟨om,λd=>a.2.1 (f b c d),a.2.2⟩,hk b c a.2.1⟩) λb a=>⟨a.1,a.2.2⟩
theorem Grow.alloc (d:RpOk sz R) (h:Grow e sz R B w base v l) (o:Obj):Grow e sz R B (w.alloc o) base v l:=
 h.keep d sm (λ_ _ h=>h) (λb a _=>heap_alloc_old _ _ a) λb c=>heap_alloc_old _ _ (h.base_le b c).2
theorem Grow.set (f:RpOk sz R) (h:Grow e sz R B w base v l) {a:Addr} (u:Value) (d:B a.block) (hv:v.ownBlock≠some a.block):Grow e sz R B (w.setCell a u) base v l:=
 h.keep f sm (λ_ _ h=>h) (λb g c=>Below.heap_setCell _ _ _ _ λe=>c (by rw[e];exact d)) λb c=>Below.heap_setCell _ _ _ _ λe=>hv (by rw[c,e])
theorem Grow.below (d:RpOk sz R) (h:Grow e sz R B w base v l) (hb:(bW w w':Prop)):Grow e sz R B w' base v l:=
 h.keep d hb.size (λ_ _ h=>h) (λb a _=>hb.block b a) λb c=>hb.block b (h.base_le b c).2
theorem Grow.drew (a:RpOk sz R) (h:Grow e sz R B w base v l):Grow e sz R B w.drew base v l:=
 h.keep a (znl _) (λ_ _ h=>h) (λb c _=>rfl) λb d=>rfl
theorem Grow.grown (j:RpOk sz R) {c:Option Nat} (h:Grow e sz R B w base v l) (g:w.grownBy w' c) (hr:∀b,c=some b->B b/\v.ownBlock≠some b):Grow e sz R B w' base v l:=
 h.keep j g.size (λ_ _ h=>h) (λb f d=>g.block b f λe=>d (hr b e.symm).1) λb a=>g.block b (h.base_le b a).2 λe=>(hr b e.symm).2 a
theorem Grow.other (c:RpOk sz R) (h:Grow e sz R B w base v l) (a:∀b,b<w.heap.size->B' b->B b):Grow e sz R B' w base v l:=
 h.keep c (znl _) a (λb _ _=>rfl) λb _=>rfl
theorem Grow.sl (g:RpOk sz R) (h:Grow e sz R B w base v l) (I:∀b,b<w.heap.size->¬B b->S b) (hv:∀b,v.ownBlock=some b->S b):Sl sz R S w v l:=by
 obtain⟨A,j,c,u,y,z,_⟩:=Own.sl g h;obtain⟨_,_,_,⟨_,C⟩,D⟩:=h;refine⟨A,j,c,u,y,z,λi x f=>?_⟩;rcases C with ⟨ag,O⟩|⟨a,ab,q,d,ac,K,af,ad,ae,htk⟩
 ·have:l=[]:=eq_nil_of_length_eq_zero O;subst this;simp at f
 obtain⟨aa,X,Y,Z⟩:=D i x f;have G:A=some ⟨a,0,none⟩:=by rw[d] at c;cases c;rfl
 refine⟨a,0,aa,G,hv a (by rw[d];rfl),X,λU V L=>?_,g.keep Z λb J M=>⟨?_,rfl⟩⟩
 ·have hx':=Y U V L;rw[cell_of_row w a _ q e (0,0) K];exact mbt
 exact I b M J.2.1
theorem YP (w:World) {ops:Array Oper} {rest:List Oper} {o:Oper} {a:Act} {Q:Exit->Act->World->Prop} (J:o.guard=none) (s x:Operand) (t:TypeId)
  (L:o.op= .call { callee:= .builtin .append,args:=#[s,x],argTypes:=#[t,t] })
  (e:TypeId) (i:TypeInfo) (q:Value) (sz g:Nat) (X:P.underlying t=some (.slice e)) (hi:P.info? e=some i) (hz:i.zero=some q)
  (O:i.size=sz) (G:i.bytes=g) (Y:q.cells.size=sz) (V:0<sz) (u:RpOk sz R) (base:Nat) (D:base<=w) (v:Value) (l:List α) (hs:a.eval s=v) (M:Grow e sz R B w base v l)
  (A:Option Addr) (m c:Nat) (hx:a.eval x= .slice A m c) (j:List α) (hm:m=j) (U:SlAt sz R (z21 B w v) w A j) (I:(l.length+m)*g<=140737488355328) (C:0<g)
  (h:∀v' w',Grow e sz R B w' base v' (l++j)->w.grownBy w' v.ownBlock->(v'.ownBlock=v.ownBlock\/v'.ownBlock=some w.heap.size)->wpList P ops Q rest (a.put o.dst v') w'):wpList P ops Q (o::rest) a w:=by
 refine zE0 w J s x t L e i q sz g X hi hz O G Y V u base D v l hs M A m c hx j hm U I C λv' w' y z d=>h v' w' ?_ z d
 refine Own.keep (S':=z21 B w' v') u y (λb _=>rfl) (λb f K=>⟨⟨K,f.2.1,?_⟩,rfl⟩) λb f=>⟨f.1,f.2.2⟩
 rcases d with d|d
 ·rw[d];exact f.2.2
 rw[d];have:=f.1;simp only[ne_eq,Option.some.injEq];omega
theorem zAi {b o:Nat} {x:α} (a:List Value) (f:S b) (hl:a=sz) (g:∀j y,a[j]? =some y->(cL w b (o+j) y:Prop)) (d:R S w a x):SlAt sz R S w (some ⟨b,o,none⟩) [x]:=by
 intro i q c;rcases i with _|i
 ·simp at c;subst c;exact⟨b,o,a,rfl,f,hl,λj y h=>by rw[Nat.zero_mul,Nat.zero_add];exact g j y h,d⟩
 simp at c
end
theorem zNk {B:Nat->Prop} (o:Obj):Kept (z21 B w v) (z21 B (w.alloc o) v) w (w.alloc o):=λb a c=>
 ⟨⟨by simp;omega,a.2.1,a.2.2⟩,heap_alloc_old _ _ c⟩
theorem zUi {b c:Nat}:Value.ownBlock (.slice none n c)≠some b:=by simp[Value.ownBlock]
theorem z3w {f:World} {a:Option Nat} (h:w.grownBy w' a) (k:w'.grownBy f a):w.grownBy f a:=
 ⟨k.os.trans h.os,k.tape.trans h.tape,k.output.trans h.output,qNtx h.size k.size,λb c d=>(k.block b (zll c h.size) d).trans (h.block b c d)⟩
section
variable {P:Program} {α:Type} {e:TypeId} {sz:Nat} {R:Rp α} {B B':Nat->Prop} {base:Nat} {v:Value} {l:List α}
theorem yZ (W:World) (d:List Value) {ops:Array Oper} {rest:List Oper} {o:Oper} {a:Act} {Q:Exit->Act->World->Prop} (M:o.guard=none) (s x:Operand) (t:TypeId)
  (U:o.op= .call { callee:= .builtin .append,args:=#[s,x],argTypes:=#[t,t] })
  (e:TypeId) (i:TypeInfo) (q:Value) (sz f:Nat) (Y:P.underlying t=some (.slice e)) (hi:P.info? e=some i) (hz:i.zero=some q)
  (V:i.size=sz) (K:i.bytes=f) (Z:q.cells.size=sz) (X:0<sz) (g:RpOk sz R) (base:Nat) (aa:base<=W) (v:Value) (l:List α) (hs:a.eval s=v) (y:Grow e sz R B W base v l)
  (c N:Nat) (hx:a.eval x= .slice (some ⟨N,0,none⟩) 1 c) (I:N=W) (j:α) (G:∀b,B b->b<W.heap.size) (u:R (z21 B W v) W d j) (L:(l.length+1)*f<=140737488355328) (J:0<f)
  (h:∀v' w',Grow e sz R B w' base v' (l++[j])->W.grownBy w' v.ownBlock->(v'.ownBlock=v.ownBlock\/v'.ownBlock=some (W.heap.size+1))->wpList P ops Q rest (a.put o.dst v') w'):wpList P ops Q (o::rest) a (W.alloc (.cells d.toArray e)):=by
 subst I;refine YP (B:=B) (W.alloc (.cells d.toArray e)) M s x t U e i q sz f Y hi hz V K Z X g base (by simp;omega) v l hs (y.alloc g _) _ 1 c hx [j] rfl ?_ L J ?_
 ·refine zAi d ⟨sm,λh=>?_,λh=>?_⟩ (g.len u) (λab ac O=>?_) (g.keep u (zNk _))
  ·have:=G _ h;omega
  ·have:=(y.base_le _ h).2;omega
  rw[cell_of_row _ W _ d.toArray e (0,0) (heap_alloc_new W _)];simpa using O
 intro v' w' z C D;refine h v' w' z (z3w (World.grownBy_alloc W _ _) C) ?_;simpa using D
end
end
abbrev GN:=Bool×Nm×Int
variable {E:List (GN×GN)} {b:GN}
def uN (s:Nm):GN:=(false,s,0)
def eN (s:Nm) (e:Int):GN:=(true,s,e)
inductive Reach (E:List (GN×GN)) (a:GN):GN->Prop
 | refl:Reach E a a
 | step {b c:GN}:Reach E a b->(b,c)∈E->Reach E a c
theorem Reach.mono {E c:List (GN×GN)} (h:∀x∈E,x∈c) {a:GN} (r:Reach E a b):Reach c a b:=by
 induction r with
 | refl=>exact .refl
 | step _ hm ih=>exact .step ih (h _ hm)
theorem Reach.trans {a b c:GN} (r:Reach E a b) (s:Reach E b c):Reach E a c:=by
 induction s with
 | refl=>exact r
 | step _ hm ih=>exact .step ih hm
theorem Reach.closed {E:List (GN×GN)} {a:GN} (S:GN->Prop) (h0:S a) (c:∀x∈E,S x.1->S x.2) (r:Reach E a b):S b:=by
 induction r with
 | refl=>exact h0
 | step _ hm ih=>exact c _ hm ih
instance memDec (s:Nm) (l:List Nm):Decidable (s∈l):=decidable_of_iff (∃y∈l,y=s) sm
def z87 {α:Type} (key:α->Nm) (a:List α) (x:α):List α:=if key x∈a.map key then a else a++[x]
def ZP {α:Type} (key:α->Nm) (l:List α):List α:=l.foldl (z87 key) []
theorem z73 {α:Type} {p:List α->Prop} (h0:p []) (hs:∀l x,p l->p (l++[x])) (l:List α):p l:=by
 have:∀r:List α,p r.reverse:=by
  intro r
  induction r with
  | nil=>exact h0
  | cons x r ih=>rw[reverse_cons];exact hs _ _ ih
 have a:=this l.reverse;rwa [reverse_reverse] at a
section
variable {α:Type} (key:α->Nm)
theorem zFl (l:List α) (x:α):ZP key (l++[x])=z87 key (ZP key l) x:=by simp[ZP,foldl_append]
theorem zE3 (l:List α) (s:Nm):s∈(ZP key l).map key↔s∈l.map key:=by
 induction l using z73 with
 | h0=>simp[ZP]
 | hs l x ih=>
  rw[zFl,z87,map_append,mem_append,<-ih];split
  ·rename_i c;constructor
   ·exact .inl
   rintro(a|a)
   ·exact a
   obtain rfl:s=key x:=by simpa using a
   exact c
  rw[map_append,mem_append]
theorem z1m (l:List α) (x:α):ZP key (l++[x])=if key x∈l.map key then ZP key l else ZP key l++[x]:=by
 rw[zFl,z87];by_cases a:key x∈l.map key
 ·rw[if_pos a,if_pos ((zE3 key l _).2 a)]
 rw[if_neg a,if_neg λe=>a ((zE3 key l _).1 e)]
theorem z6p (l:List α):(ZP key l).length<=l.length:=by
 induction l using z73 with
 | h0=>simp[ZP]
 | hs l x ih=>
  rw[z1m];split
  ·rw[qLax];omega
  rw[qLax,qLax];simpa using ih
theorem zFm (l:List α) (x:α) (h:x∈ZP key l):x∈l:=by
 induction l using z73 with
 | h0=>simp[ZP] at h
 | hs l y ih=>
  rw[z1m] at h;split at h
  ·exact mem_append_left _ (ih h)
  rcases zmb h with h|h
  ·exact mem_append_left _ (ih h)
  exact mem_append_right _ h
theorem zNh (l:List α) (x:α):x∈ZP key l↔∃a b,l=a++x::b/\key x∉a.map key:=by
 induction l using z73 with
 | h0=>simp[ZP]
 | hs l y ih=>
  rw[z1m];constructor
  ·intro c;split at c
   ·obtain⟨a,b,rfl,d⟩:=ih.1 c;exact⟨a,b++[y],sm,d⟩
   rename_i j;rcases zmb c with c|c
   ·obtain⟨a,b,rfl,d⟩:=ih.1 c;exact⟨a,b++[y],sm,d⟩
   obtain rfl:x=y:=by simpa using c
   exact⟨l,[],rfl,j⟩
  rintro⟨a,b,e,d⟩;rcases eq_nil_or_concat b with rfl|⟨f,q,rfl⟩
  ·obtain⟨rfl,g⟩:=append_inj' e rfl;obtain rfl:y=x:=by simpa using g
   rw[if_neg d];exact mem_append_right _ sm
  have h:l++[y]=(a++x::f)++[q]:=by rw[e];simp
  obtain⟨rfl,_⟩:=append_inj' h rfl;have:=ih.2 ⟨a,f,rfl,d⟩;split
  ·exact this
  exact mem_append_left _ this
theorem z7i (l:List α) (s:Nm) (x:α):l.find? (λy=>decide (key y=s))=some x↔x∈ZP key l/\key x=s:=by
 rw[zNh];constructor
 ·intro h;obtain⟨a,c,b,rfl,d⟩:=find?_eq_some_iff_append.1 h;have g:key x=s:=by simpa using a
  refine⟨⟨c,b,rfl,λj=>?_⟩,g⟩;obtain⟨y,f,e⟩:=mem_map.1 j;have:=d y f;simp[e,g] at this
 rintro⟨⟨c,b,rfl,d⟩,a⟩;refine find?_eq_some_iff_append.2 ⟨by simpa using a,c,b,rfl,λy f=>?_⟩;have:key y≠s:=λe=>d (mem_map.2 ⟨y,f,by rw[e,a]⟩)
 simpa using this
end
def Z4 (st:State) (s:Nm):Option Folder:=st.folders.find? λf=>decide (f.name=s)
theorem z2v {st:State} {f:Folder} (h:Z4 st s=some f):f.name=s:=by simpa using find?_some h
theorem z30 {st:State} {f:Folder} (h:Z4 st s=some f):f∈st.folders:=mem_of_find?_eq_some h
def z36:List Epoch->Int->Int
 | [],e=>e
 | x::l,e=>if x.place=1 then e else z36 l (e+1)
theorem zHt:∀(l:List Epoch) (e:Int),e<=z36 l e/\z36 l e<=e+l.length
 | [],e=>by simp[z36]
 | x::l,e=>by
  rw[z36];have:=zHt l (e+1);split
  ·simp only[length_cons];omega
  ·simp only[length_cons];omega
def z03 (l:List Epoch) (e:Int):Int:=if 1<=e/\e<=l.length then z36 (l.drop e.toNat) e else e
theorem zHu {l:List Epoch} {e:Int} (h1:1<=e) (h2:e<=l):e<=z03 l e/\z03 l e<=l.length:=by
 rw[z03,if_pos ⟨h1,h2⟩];have:=zHt (l.drop e.toNat) e;rw[length_drop] at this;omega
theorem z6q {l:List Epoch} {e:Int} (h:¬(1<=e/\e<=l)):z03 l e=e:=by rw[z03,if_neg h]
def z3r (l:List Epoch) (w:Wrap):Int:=if w.seed then z03 l w.epoch else w.epoch
def z1s (f:Folder) (l:List Wrap):List (GN×GN):=l.map λw=>(uN w.name,eN f.name (z3r f.epochs w))
def z49 (f:Folder) (l:List Link):List (GN×GN):=l.map λx=>(eN x.to x.seq,eN f.name x.epoch)
def z4a (s:Nm) (n:Nat):List (GN×GN):=(range n).map λi:Nat=>(eN s ((i:Int)+2),eN s ((i:Int)+1))
def z2f (f:Folder):List (GN×GN):=z4a f.name (f.epochs.length-1)++(z1s f (ZP Wrap.name f.wraps)++z49 f f.links)
def z1t (l:List Pair):List (GN×GN):=l.map λp=>(uN p.to,uN p.frm)
def z5k (st:State):List (GN×GN):=z1t st.deposits++(ZP Folder.name st.folders).flatMap z2f
theorem maQ (h:p:=by
 constructor
 ·rintro⟨p,hp,h⟩;rw[Prod.mk.injEq] at h;exact⟨p,hp,h.1.symm,h.2.symm⟩
 rintro⟨p,hp,rfl,rfl⟩;exact⟨p,hp,rfl⟩):p:=h
theorem z7s {st:State} {a:GN}:(a,b)∈z5k st↔(∃p∈st.deposits,a=uN p.to/\b=uN p.frm)\/∃f∈ZP Folder.name st.folders,
  (∃e:Int,2<=e/\e<=f.epochs/\a=eN f.name e/\b=eN f.name (e-1))\/(∃w∈ZP Wrap.name f.wraps,a=uN w.name/\b=eN f.name (z3r f.epochs w))\/∃x∈f.links,a=eN x.to x.seq/\b=eN f.name x.epoch:=by
 have c:∀f:Folder,(a,b)∈z4a f.name (f.epochs.length-1)↔∃e:Int,2<=e/\e<=f.epochs/\a=eN f.name e/\b=eN f.name (e-1):=λf=>by
  unfold z4a;rw[mem_map];constructor
  ·rintro⟨i,d,h⟩;rw[mem_range] at d;rw[Prod.mk.injEq] at h;exact⟨i+2,om,om,h.1.symm,by rw[<-h.2];congr 1;omega⟩
  ·rintro⟨e,_,_,rfl,rfl⟩;exact⟨(e-2).toNat,by rw[mem_range];omega,by rw[Prod.mk.injEq];constructor<;>(congr 1;omega)⟩
 unfold z5k z1t;rw[mem_append,mem_map,mem_flatMap];refine or_congr ?_ ?_
 ·exact maQ
 refine exists_congr λf=>and_congr_right λ_=>?_
 unfold z2f z1s z49;rw[mem_append,mem_append,c,mem_map,mem_map];refine or_congr Iff.rfl (or_congr ?_ ?_)
 ·exact maQ
 exact maQ
def z8v (st:State) (u fo:Nm) (e:Int):Prop:=Reach (z5k st) (uN u) (eN fo e)
def IsMost (p:Int->Prop) (len:Nat) (n:Int):Prop:=0<=n/\n<=len/\(n=0\/p n)/\∀e:Int,1<=e->e<=len->p e->e<=n
theorem IsMost.one {p q:Int->Prop} {len:Nat} {n m:Int} (h:IsMost p len n) (k:IsMost q len m) (e:∀x,p x↔q x):n=m:=by
 obtain⟨c,d,f,g⟩:=h;obtain⟨j,u,y,z⟩:=k;have C:n<=m:=by
  rcases f with rfl|h
  ·exact j
  ·by_cases a:1<=n
   ·exact z n a d ((e _).1 h)
   ·omega
 have D:m<=n:=by
  rcases y with rfl|h
  ·exact c
  ·by_cases a:1<=m
   ·exact g m a u ((e _).2 h)
   ·omega
 omega
def IsReach (st:State) (u fo:Nm) (n:Int):Prop:=(Z4 st fo=none/\n=0)\/∃f,Z4 st fo=some f/\IsMost (z8v st u fo) f.epochs.length n
theorem IsReach.one {st:State} {u fo:Nm} {n m:Int} (h:IsReach st u fo n) (k:IsReach st u fo m):n=m:=by
 rcases h with ⟨c,rfl⟩|⟨g,c,j⟩
 ·rcases k with ⟨a,rfl⟩|⟨d,a,f⟩
  ·rfl
  rw[c] at a;cases a
 rcases k with ⟨a,rfl⟩|⟨d,a,f⟩
 ·rw[c] at a;cases a
 obtain rfl:g=d:=zsi (c.symm.trans a);exact j.one f λ_=>Iff.rfl
def z5b (nm:Nm) (len:Nat) (o:Int) (n:GN):Int:=if n.1=true/\n.2.1=nm/\1<=n.2.2/\n.2.2<=len then max o n.2.2 else o
def z2g (nm:Nm) (len:Nat) (l:List GN):Int:=l.foldl (z5b nm len) 0
theorem zE4 (nm:Nm) (len:Nat) (l:List GN) (x:GN):z2g nm len (l++[x])=z5b nm len (z2g nm len l) x:=by simp[z2g,foldl_append]
theorem zPp (nm:Nm) (len:Nat) (l:List GN):IsMost (λe=>eN nm e∈l) len (z2g nm len l):=by
 induction l using z73 with
 | h0=>exact⟨by simp[z2g],by simp[z2g],.inl rfl,λe _ _ a=>by simp at a⟩
 | hs l x ih=>
  obtain⟨D,G,q,u⟩:=ih;rw[zE4,z5b];split
  ·rename_i a;obtain⟨y,z,I,J⟩:=a;obtain⟨K,j,C⟩:=x;dsimp only at y z I J⊢;subst y z;refine⟨om,om,?_,λe f g h=>?_⟩
   ·rcases Int.le_total (z2g j len l) C with d|d
    ·rw[Int.max_eq_right d];exact .inr (mem_append_right _ (by simp[eN]))
    rw[Int.max_eq_left d];exact q.imp id λa=>mem_append_left _ a
   rcases zmb h with c|c
   ·have:=u e f g c;omega
   have:eN j e=(true,j,C):=by simpa using c
   simp only[eN,Prod.mk.injEq,true_and] at this;omega
  rename_i a;refine⟨D,G,q.imp id λa=>mem_append_left _ a,λe f g h=>?_⟩;rcases zmb h with c|c
  ·exact u e f g c
  have d:eN nm e=x:=by simpa using c
  subst d;exact absurd ⟨rfl,rfl,f,g⟩ a
theorem zNi {st:State} {u fo:Nm} {f:Folder} (j:Z4 st fo=some f) {l:List GN} (h:∀x,x∈l↔Reach (z5k st) (uN u) x):IsReach st u fo (z2g f.name f.epochs l):=by
 refine .inr ⟨f,j,?_⟩;obtain⟨a,c,d,g⟩:=zPp f.name f.epochs l;rw[z2v j] at a c d g⊢;exact⟨a,c,d.imp id λk=>(h _).1 k,λe q y z=>g e q y ((h _).2 z)⟩
structure GRep (E:List (GN×GN)) (m:Nat) (ns:List GN) (adj:List (List Nat)):Prop where
 nodup:ns.Nodup
 len:adj=ns.length
 lt:∀(i:Nat) (l:List Nat) (j:Nat),adj[i]? =some l->j∈l->j<ns
 edge:∀a b,(a,b)∈E↔∃(i j:Nat) (l:List Nat),ns[i]? =some a/\ns[j]? =some b/\adj[i]? =some l/\j∈l
 small:ns<=m
 deg:∀(i:Nat) (l:List Nat),adj[i]? =some l->l<=m
theorem zEu {α:Type} {l:List α} (h:l.Nodup) {j:Nat} {x:α} (hi:l[i]? =some x) (hj:l[j]? =some x):i=j:=by
 have a:=(zge hi);have c:=(zge hj);rcases Nat.lt_trichotomy i j with k|k|k
 ·exact absurd (a.2.trans c.2.symm) (pairwise_iff_getElem.1 h i j a.1 c.1 k)
 ·exact k
 exact absurd (c.2.trans a.2.symm) (pairwise_iff_getElem.1 h j i c.1 a.1 k)
section
variable {E:List (GN×GN)} {m:Nat} {ns:List GN} {adj:List (List Nat)}
theorem GRep.start:GRep [] 0 [] []:=⟨nodup_nil,rfl,λi l d a=>by simp at a,λc b=>sm,znl _,λi l a=>by simp at a⟩
theorem GRep.mono (h:GRep E m ns adj) {m':Nat} (hm:m<=m'):GRep E m' ns adj:=⟨h.nodup,h.len,h.lt,h.edge,qNtx h.small hm,λi l e=>qNtx (h.deg i l e) hm⟩
theorem GRep.again (h:GRep E m ns adj) {x:GN×GN} (hx:x∈E):GRep (E++[x]) m ns adj:=⟨h.nodup,h.len,h.lt,λa b=>by
 rw[<-h.edge,mem_append];constructor
 ·rintro(k|k)
  ·exact k
  ·rw[zml k];exact hx
 ·exact .inl,h.small,h.deg⟩
theorem mbS (h:p:=by
 rcases hq:i-adj.length with _|q
 ·rw[hq] at hi;exact(by simpa using hi:[]=l).symm
 ·rw[hq] at hi;simp at hi):p:=h
theorem GRep.node (h:GRep E m ns adj) {k:GN} (hk:k∉ns):GRep E (m+1) (ns++[k]) (adj++[[]]):=by
 have z:∀i l a,(adj++[[]])[i]? =some l->a∈l->adj[i]? =some l/\a<ns.length:=λi l a hi u=>by
  rcases Nat.lt_or_ge i adj with c|c
  ·rw[qLlx c] at hi;exact⟨hi,h.lt i l a hi u⟩
  ·rw[qLrx c] at hi;have:l=[]:=by
    exact mbS
   subst this;cases u
 refine⟨?_,by simp[h.len],λi l a hi u=>?_,λC b=>?_,by have:=h.small;simp;omega,λi l hi=>?_⟩
 ·refine nodup_append.2 ⟨h.nodup,sm,λC I b J=>?_⟩;obtain rfl:b=k:=by simpa using J
  exact λe=>hk (e▸I)
 ·have:=(z i l a hi u).2;simp;omega
 ·rw[h.edge];constructor
  ·rintro⟨i,a,l,d,f,g,j⟩;refine⟨i,a,l,?_,?_,?_,j⟩
   ·rw[qLlx (zge d).1];exact d
   ·rw[qLlx (zge f).1];exact f
   rw[qLlx (zge g).1];exact g
  rintro⟨i,a,l,d,f,g,j⟩;obtain⟨y,D⟩:=z i l a g j;have G:i<ns:=by rw[<-h.len];exact(zge y).1
  rw[qLlx G] at d;rw[qLlx D] at f;exact⟨i,a,l,d,f,y,j⟩
 rcases Nat.lt_or_ge i adj with c|c
 ·rw[qLlx c] at hi;have:=h.deg i l hi;omega
 rw[qLrx c] at hi;have:l=[]:=by
  exact mbS
 subst this;simp
theorem GRep.link (h:GRep E m ns adj) {a:GN} {j:Nat} {l:List Nat} (ha:ns[i]? =some a) (hb:ns[j]? =some b) (hl:adj[i]? =some l):GRep (E++[(a,b)]) (m+1) ns (adj.set i (l++[j])):=by
 have z:=(zge hl).1;have I:=(zge hb).1;refine⟨h.nodup,by rw[length_set];exact h.len,λy u q c d=>?_,λD G=>?_,by have:=h.small;omega,λy u c=>?_⟩
 ·rw[getElem?_set] at c;split at c
  ·rename_i e;subst e;try rw[if_pos z] at c
   obtain rfl:=zsi c;rcases zmb d with d|d
   ·exact h.lt _ _ _ hl d
   obtain rfl:q=j:=by simpa using d
   exact I
  exact h.lt _ _ _ c d
 ·rw[mem_append,h.edge];constructor
  ·rintro(⟨y,q,u,c,d,g,f⟩|C)
   ·by_cases e:i=y
    ·subst e;obtain rfl:u=l:=zsi (g.symm.trans hl);exact⟨i,q,u++[j],c,d,by rw[getElem?_set_self z],mem_append_left _ f⟩
    exact⟨y,q,u,c,d,by rw[getElem?_set_ne e];exact g,f⟩
   have C:(D,G)=(a,b):=by simpa using C
   rw[Prod.mk.injEq] at C;obtain⟨rfl,rfl⟩:=C;exact⟨i,j,l++[j],ha,hb,by rw[getElem?_set_self z],mem_append_right _ sm⟩
  rintro⟨y,q,u,c,d,g,f⟩;rw[getElem?_set] at g;split at g
  ·rename_i e;subst e;try rw[if_pos z] at g
   obtain rfl:=zsi g;rcases zmb f with f|f
   ·exact .inl ⟨i,q,l,c,d,hl,f⟩
   obtain rfl:q=j:=by simpa using f
   obtain rfl:=zsi (c.symm.trans ha);obtain rfl:=zsi (d.symm.trans hb);exact .inr sm
  exact .inl ⟨y,q,u,c,d,g,f⟩
 rw[getElem?_set] at c;split at c
 ·rename_i e;subst e;try rw[if_pos z] at c
  obtain rfl:=zsi c;have:=h.deg _ _ hl;simp;omega
 have:=h.deg _ _ c;omega
end
structure Srch (E:List (GN×GN)) (s:GN) (all:List GN) (i:Nat):Prop where
 nodup:all.Nodup
 head:s∈all
 sound:∀x∈all,Reach E s x
 done:∀(k:Nat) (x:GN),k<i->all[k]? =some x->∀y,(x,y)∈E->y∈all
theorem Srch.start (E:List (GN×GN)) (s:GN):Srch E s [s] 0:=⟨sm,sm,λx a=>by rw[zml a];exact .refl,λk x c=>om⟩
theorem Srch.add {s:GN} {c:List GN} (h:Srch E s c i) {x y:GN} (hx:x∈c) (j:(x,y)∈E) (hy:y∉c) (hi:i<=c):Srch E s (c++[y]) i:=by
 refine⟨nodup_append.2 ⟨h.nodup,sm,λz f b g=>?_⟩,mem_append_left _ h.head,λd a=>?_,λk d q a v u=>?_⟩
 ·obtain rfl:b=y:=by simpa using g
  exact λe=>hy (e▸f)
 ·rcases zmb a with a|a
  ·exact h.sound d a
  rw[zml a];exact .step (h.sound x hx) j
 rw[qLlx om] at a;exact mem_append_left _ (h.done k d q a v u)
theorem Srch.next {s:GN} {a:List GN} (h:Srch E s a i) {x:GN} (hx:a[i]? =some x) (g:∀y,(x,y)∈E->y∈a):Srch E s a (i+1):=
 ⟨h.nodup,h.head,h.sound,λk j q f y d=>by
  rcases Nat.lt_or_ge k i with c|c
  ·exact h.done k j c f y d
  ·obtain rfl:k=i:=om
   obtain rfl:=zsi (hx.symm.trans f);exact g y d⟩
theorem mcg (h:p:=by
 obtain⟨k,hk⟩:=getElem?_of_mem h1;have:=(zge hk).1;exact h.done k _ om hk _ he):p:=h
theorem Srch.all {s:GN} {a:List GN} {i:Nat} (h:Srch E s a i) (hi:a<=i) (x:GN):x∈a↔Reach E s x:=by
 refine⟨h.sound x,λr=>r.closed (·∈a) h.head λe he h1=>?_⟩;exact mcg
theorem z9b {α:Type}:∀{a L:List α},a.Nodup->(∀e∈a,e∈L)->a<=L.length
 | [],_,_,_=>Nat.zero_le _
 | k::a,L,hn,hs=>by
  obtain⟨g,h⟩:=nodup_cons.1 hn;obtain⟨f,b,rfl⟩:=append_of_mem (hs k (mem_cons_self ..));have j:=z9b (L:=f++b) h λe d=>by
   have:=hs e (zmc _ d);simp only[mem_append,qLcx] at this⊢;rcases this with c|rfl|c
   ·exact .inl c
   ·exact absurd d g
   ·exact .inr c
  simp only[qLax,length_cons] at j⊢;omega
theorem zS7 {ns a:List GN} {s:GN} (hn:a.Nodup) (hs:∀x∈a,x=s\/x∈ns):a<=ns.length+1:=by
 have:=z9b hn (L:=s::ns) (λx d=>by
  rcases hs x d with rfl|c
  ·exact mem_cons_self ..
  ·exact zmc _ c)
 simpa using this
section
open Go.RowKit Go.Deep Go.ChangeShapes Go.WideShapes
section
variable {H:Type} {enc:TypeId×Value->H} {P:Program} {w:World} {base:Nat} {spare:Nat->Bool} {z56:Bool} {fuel:Nat} {t:TypeId} {v:Value} {x:DataW H×List MemPlace} {r:Go.Reach} {b0:Nat}
theorem zW2 {α:Type} {e:TypeId} {sz:Nat} {R:Rp α} (f:P.underlying t=some (.slice e)) (c:Rd P w t (rSl sz R)) (g:Value.okWide P w r b0 t v) (d:DataW.trod enc P w base spare z56 fuel t v.cells.toList=some x) (hz:zAf P t x.1):∃l,Sl sz R (λ_=>True) w v l:=by
 obtain⟨A,n,a,rfl⟩:=okWide_slice f g;exact zP9 c (v:= .slice A n a) d hz
end
end
structure ShortF (f:Folder):Prop where
 name:f.name.size<=20
 man:∀x∈f.manifests,x.parent.size<=20/\x.members.length<=20/\∀y∈x.members,y.name.size<=20
 ep:∀x∈f.epochs,x.chain.length<=20/\∀y∈x.chain,y.name.size<=20
 item:∀x∈f.items,x.name.size<=20/\x.versions.length<=64
 wrap:∀x∈f.wraps,x.name.size<=20
 link:∀x∈f.links,x.to.size<=20
def z88 (f:Folder):Nat:=f.manifests.length+f.epochs.length+f.items.length+f.wraps.length+f.links.length
def z5e:List Folder->Nat
 | []=>0
 | f::l=>z88 f+z5e l
theorem zF1:∀(l:List Folder) (f:Folder),f∈l->z88 f<=z5e l
 | [],f,a=>by simp at a
 | x::l,f,a=>by
  rcases mem_cons.1 a with rfl|a
  ·simp[z5e]
  ·have:=zF1 l f a;simp[z5e];omega
structure Small (st:State):Prop where
 users:∀x∈st.users,x.name.size<=20
 pairs:∀x∈st.deposits,x.frm.size<=20/\x.to.size<=20
 few8:st.folders.length<=64
 all:st.users.length+st.deposits.length+z5e st.folders<=1000
 short:∀f∈st.folders,ShortF f
section
open Go.RowKit Go.Deep
def z7x (c:Nat):Bool:=(decide (97<=c)&&decide (c<=122))||(decide (48<=c)&&decide (c<=57))
def z60:List UInt8->Bool
 | []=>true
 | c::l=>if z7x c.toNat then z60 l else false
def Z1 (s:ByteArray):Bool:=if s.size<1 then false else if 12<s.size then false else z60 s.data.toList
theorem zUq {s:ByteArray} (h:k<s.size):s.data.toList.drop k=s[k]::s.data.toList.drop (k+1):=by
 have a:k<s.data.toList:=by simpa using h
 rw[drop_eq_getElem_cons a];rfl
theorem zFu {s:ByteArray} (h:k<s.size):z60 (s.data.toList.drop k)=if z7x s[k].toNat then z60 (s.data.toList.drop (k+1)) else false:=by
 rw[zUq h,z60]
theorem zFv (c:Nat):(c<48/\z7x c=false)\/((48<=c/\c<=57)/\z7x c=true)\/((57<c/\c<97)/\z7x c=false)\/((97<=c/\c<=122)/\z7x c=true)\/(122<c/\z7x c=false):=by
 simp only[z7x,Bool.or_eq_true,Bool.or_eq_false_iff,qBqx,Bool.and_eq_false_iff,decide_eq_true_eq,decide_eq_false_iff_not];omega
theorem zK0 (s:ByteArray):s.data.toList.drop s.size=[]:=drop_of_length_le sm
theorem maO (h:p:=by
 go_round
 case rel=>exact⟨k+1,om,gn,EH.o⟩
 case measure=>simp[intOf];omega):p:=h
theorem maV (h:p:=by
 go_ret;exact⟨ZM (by rw[F.o,<-EH.o];simp),rfl⟩):p:=h
theorem zAn (s:ByteArray) (hs:s.size<=()) (w:World):Calls prog 51 #[s] w λe w'=>e= .returned (.bool (Z1 s))/\w=w':=by
 have F:Hid (Z1 s=(decide (1<=s.size)&&(decide (s.size<=12)&&z60 s.data.toList))):=by
  unfold Z1;show _=_
  by_cases c:s.size<1
  ·rw[if_pos c,η];rfl
  ·by_cases d:12<s.size
   ·rw[if_neg c,if_pos d,Δ (by omega:1<=s.size),Γ (by omega:¬s.size<=12)];rfl
   ·rw[if_neg c,if_neg d,Δ (by omega:1<=s.size),Δ (by omega:s.size<=12)];rfl
 go_enter func51,ntmps51
 go_wp2;go_loop [7] (λi=>∃k:Nat,k<=s.size/\i= .int .i64 k/\z60 (s.data.toList.drop k)=z60 s.data.toList) (λi=>s.size-(intOf i).toNat)
 case atStart=>exact⟨0,om,gn,sm⟩
 obtain⟨k,_,rfl,E⟩:=hrel;by_cases f:k<s.size
 rotate_left
 ·obtain rfl:k=s.size:=om
  rw[zK0] at E;have EH:=zh E;clear E;go_wp2;all_goals
   go_ret;exact⟨ZM (by rw[F.o,<-EH.o,Bool.eq_iff_iff];simp[z60];omega),rfl⟩
 rw[zFu f] at E;rcases zFv s[k].toNat with ⟨a,o⟩|⟨a,o⟩|⟨a,o⟩|⟨a,o⟩|⟨a,o⟩
 all_goals
  rw[o] at E;have EH:=zh E;clear E o
 ·go_wp2;exact maV
 ·go_wp2;exact maO
 ·go_wp2;exact maV
 ·go_wp2;exact maO
 go_wp2;exact maV
theorem mcs (h:p:=by
 have d2:decide ((48:Int)<=(s[k].toNat:Int))=true:=(θ);have d3:decide ((s[k].toNat:Int)<=57)=false:=(η);go_wp2;all_goals
  exact maV):p:=h
theorem yW (s:ByteArray) (hs:s.size<=()) (w:World):Calls prog 69 #[s] w λe w'=>e= .returned (.bool (Z1 s))/\w=w':=by
 by_cases f:s.size<1
 ·have F:=zh (by unfold Z1;rw[if_pos f]:Z1 s=false);go_enter func69,ntmps69
  go_wp2;go_ret;exact⟨ZM F.o.symm,rfl⟩
 by_cases g:12<s.size
 ·have F:=zh (by unfold Z1;rw[if_neg f,if_pos g]:Z1 s=false);go_enter func69,ntmps69
  go_wp2;go_ret;exact⟨ZM F.o.symm,rfl⟩
 have F:=zh (by unfold Z1;rw[if_neg f,if_neg g]:Z1 s=z60 s.data.toList);go_enter func69,ntmps69
 go_wp2;go_loop [3] (λi=>∃k:Nat,k<=s.size/\i= .int .i64 k/\z60 (s.data.toList.drop k)=z60 s.data.toList) (λi=>s.size-(intOf i).toNat)
 case atStart=>exact⟨0,om,gn,sm⟩
 obtain⟨k,_,rfl,E⟩:=hrel;by_cases h:k<s.size
 rotate_left
 ·obtain rfl:k=s.size:=om
  rw[zK0] at E;have EH:=zh E;clear E;go_wp2;go_ret;exact⟨ZM (by rw[F.o,<-EH.o];rfl),rfl⟩
 rw[zFu h] at E;rcases zFv s[k].toNat with ⟨d,o⟩|⟨d,o⟩|⟨d,o⟩|⟨d,o⟩|⟨d,o⟩
 all_goals
  rw[o] at E;have EH:=zh E;clear E o
 ·have a:decide ((97:Int)<=(s[k].toNat:Int))=false:=(η);have c:decide ((s[k].toNat:Int)<=122)=true:=(θ);have d2:decide ((48:Int)<=(s[k].toNat:Int))=false:=(η);have d3:decide ((s[k].toNat:Int)<=57)=true:=(θ);go_wp2;all_goals
   exact maV
 ·have a:decide ((97:Int)<=(s[k].toNat:Int))=false:=(η);have c:decide ((s[k].toNat:Int)<=122)=true:=(θ);have d2:decide ((48:Int)<=(s[k].toNat:Int))=true:=(θ);have d3:decide ((s[k].toNat:Int)<=57)=true:=(θ);go_wp2;all_goals
   exact maO
 ·have a:decide ((97:Int)<=(s[k].toNat:Int))=false:=(η);have c:decide ((s[k].toNat:Int)<=122)=true:=(θ);exact mcs
 ·have a:decide ((97:Int)<=(s[k].toNat:Int))=true:=(θ);have c:decide ((s[k].toNat:Int)<=122)=true:=(θ);have d2:decide ((48:Int)<=(s[k].toNat:Int))=true:=(θ);have d3:decide ((s[k].toNat:Int)<=57)=false:=(η);go_wp2;all_goals
   exact maO
 have a:decide ((97:Int)<=(s[k].toNat:Int))=true:=(θ);have c:decide ((s[k].toNat:Int)<=122)=false:=(η);exact mcs
end
section
open Go.RowKit Go.Deep
theorem yS {n:Nat} {w w':World} (h:Below n w w'):∀q,Below n w (w'.drewN q)
 | 0=>h
 | q+1=>(yS h q).drew
theorem maq (h:p:=by
 go_wp2_with fail
 go_quiet (fail)
 go_wp2;go_roundw
 case rel=>exact⟨k+1,om,gn,yS hbel _⟩
 case measure=>exact qMx):p:=h
theorem zD2 (l:List Int) (v u:Value) (w:World) (S S':Nat->Prop) (h:Sl 1 Y1 S w v l) (k:Sl 1 Y1 S' w u l):
  (kB 30 #[v,u] w true:Prop):=by
 obtain⟨_,_,rfl,_,q,_,C⟩:=h;obtain⟨_,_,rfl,_,y,_,D⟩:=k;unfold maxLen at q y;go_enter func30,ntmps30
 go_wp2;go_loopw [5] (λi wr=>∃k:Nat,k<=l/\i= .int .i64 k/\bW w wr) (λi _=>l.length-(intOf i).toNat)
 case atStart=>exact⟨0,om,gn,gg⟩
 obtain⟨k,_,rfl,hbel⟩:=hrel;by_cases z:k<l
 rotate_left
 ·obtain rfl:k=l:=om
  go_wp2;go_ret;exact⟨rfl,hbel⟩
 obtain⟨x,a⟩:∃x,l[k]? =some x:=⟨_,qLgx z⟩;obtain⟨b,o,_,rfl,_,_,f,rfl,_⟩:=C k x a;obtain⟨j,G,_,rfl,_,_,g,rfl,_⟩:=D k x a;have c:=f 0 _ rfl;have d:=g 0 _ rfl;rw[show k*1+0=k by omega] at c d;have I:(cL wr b (o+k) (.int .u8 x):Prop):=zy hbel c;have J:(cL wr j (G+k) (.int .u8 x):Prop):=zy hbel d;clear a c d f g;exact maq
theorem zEg (l:List Member) (v u:Value) (w:World) (S S':Nat->Prop) (h:Sl 2 zZ S w v l) (k:Sl 2 zZ S' w u l):
  (kB 31 #[v,u] w true:Prop):=by
 obtain⟨_,_,rfl,_,f,_,j⟩:=h;obtain⟨_,_,rfl,_,g,_,q⟩:=k;unfold maxLen at f g;have z:prog.eqGuardType prog.depth 87=false:=kr
 have C:prog.stoodInHeld 87=false:=kr
 have D:=underlying87;go_enter func31,ntmps31
 go_wp2;go_loopw [5] (λi wr=>∃k:Nat,k<=l/\i= .int .i64 k/\bW w wr) (λi _=>l.length-(intOf i).toNat)
 case atStart=>exact⟨0,om,gn,gg⟩
 obtain⟨k,_,rfl,hbel⟩:=hrel;by_cases a:k<l
 ·obtain⟨x,_,_,c,_,_,rfl,_⟩:=yT j a (zK hbel);obtain⟨y,_,_,d,_,_,rfl,_⟩:=yT q a (zK hbel);obtain rfl:x=y:=zsi (c.symm.trans d);clear c d;exact maq
 obtain rfl:k=l:=om
 go_wp2;go_ret;exact⟨rfl,hbel⟩
end
end Go.Proofs.YtdggplhnfhcieaaGreatDoor
namespace Go.Proofs.YtdggplhnfhcieaaGreatDoor.Bd
open Go.Proofs.Tryz Cd Ce List
open Go.RowKit Go.Deep
theorem zP3 (f:Folder) (cs:List Value) (w:World) (S:Nat->Prop) (h:Z6 S w cs f) (hb:f.items.length+f.wraps.length+f.links.length<=1000000):
  (kB 184 #[.agg cs.toArray] w (.int .i64 ((f.items.length+f.wraps.length+f.links.length:Nat):Int)):Prop):=by
 obtain⟨_,_,_,_,_,_,_,_,_,_,rfl,_⟩:=Z9 h;go_enter func184,ntmps184
 go_wp2;go_ret;exact⟨sm,gg⟩
def verCount:List Item->Nat
 | []=>0
 | x::l=>x.versions.length+verCount l
def large1 (f:Folder):Nat:=f.manifests.length+f.epochs.length+verCount f.items
theorem zP4 (f:Folder) (cs:List Value) (w:World) (S:Nat->Prop) (h:Z6 S w cs f) (hb:large1 f<=1000000):
  (kB 185 #[.agg cs.toArray] w (.int .i64 ((large1 f:Nat):Int)):Prop):=by
 obtain⟨_,_,_,_,_,_,_,_,_,_,rfl,_,_,_,_,_,_,_,_,_,_,_,_,_,g,_⟩:=Z9 h;unfold large1 at hb;go_enter func185,ntmps185
 go_wp2;go_loopw [3,16] (λn i wr=>∃k m:Nat,k<=f.items/\i= .int .i64 k/\n= .int .i64 m/\m+verCount (f.items.drop k)=large1 f/\bW w wr) (λn i _=>f.items.length-(intOf i).toNat)
 case atStart=>
  exact⟨0,f.manifests.length+f.epochs.length,om,gn,gn,by simp[large1],gg⟩
 obtain⟨k,m,_,rfl,rfl,E,c⟩:=hrel;have y:=c.size;by_cases j:k<f.items
 ·obtain⟨x,_,_,_,_,q,d,_,rfl,_⟩:=z0w g j (zK c);rw[d,verCount] at E;have u:m+x.versions.length<=1000000:=by unfold large1 at E;omega
  have a:=zh E;clear q d E;go_wp2;go_roundw
  case rel=>exact⟨k+1,m+x.versions.length,om,gn,gn,by rw[<-a.o];omega,gg⟩
  case measure=>simp[intOf];omega
 obtain rfl:k=f.items:=om
 rw[drop_length] at E;have a:=zh E;clear E;go_wp2;go_ret;exact⟨by rw[<-a.o];simp[verCount],c⟩
end Go.Proofs.YtdggplhnfhcieaaGreatDoor.Bd
namespace Go.Proofs.YtdggplhnfhcieaaGreatDoor.Bd
open Go.Proofs.Tryz Cd Ce List
open Go.RowKit Go.Deep
def sumOf (g:Folder->Nat):List Folder->Nat
 | []=>0
 | f::l=>g f+sumOf g l
theorem zDd (g:Folder->Nat):∀(l:List Folder) (f:Folder),f∈l->g f<=sumOf g l
 | [],f,a=>by simp at a
 | x::l,f,a=>by
  rcases mem_cons.1 a with rfl|a
  ·simp[sumOf]
  ·have:=zDd g l f a;simp[sumOf];omega
def zDx (c:FuncId) (g:Folder->Nat) (l:List Folder):Prop:=
 ∀(a:Folder) (cs:List Value) (w:World) (S:Nat->Prop),Z6 S w cs a->a∈l->Calls prog c #[.agg cs.toArray] w λe w'=>e= .returned (.int .i64 ((g a:Nat):Int))/\bW w w'
theorem zNa (a:FuncId) (j:a=184\/a=185) (g:Folder->Nat) (st:State) (hg:zDx a g st.folders) (hb:sumOf g st.folders<=1000000)
  (cs:List Value) (w:World) (S:Nat->Prop) (h:Z5 S w cs st):
  (kB 183 #[.agg cs.toArray,.func (.func a) #[] #[]] w (.int .i64 ((sumOf g st.folders:Nat):Int)):Prop):=by
 obtain⟨_,_,_,_,_,_,rfl,_,_,_,_,_,_,_,_,_,_,_,_,z⟩:=ZF h;have u:Hid (zDx a g st.folders):=hg;clear hg;rcases j with rfl|rfl
 all_goals
  go_enter func183,ntmps183
  go_wp2;go_loopw [5,11] (λn i wr=>∃k m:Nat,k<=st.folders/\i= .int .i64 k/\n= .int .i64 m/\m+sumOf g (st.folders.drop k)=sumOf g st.folders/\bW w wr) (λn i _=>st.folders.length-(intOf i).toNat)
  case atStart=>
   exact⟨0,0,om,gn,gn,sm,gg⟩
  case round=>
   obtain⟨k,m,_,rfl,rfl,E,d⟩:=hrel;have J:=d.size;by_cases y:k<st.folders
   ·obtain⟨x,_,_,_,_,_,_,_,_,_,_,_,_,D,f,G,rfl,_,_,_,_,_,_,_,_,_,C,_⟩:=yP z y (zK d);rw[f,sumOf] at E;have I:m+g x<=1000000:=om
    have c:=zh E;clear D f E;go_wp2_with fail
    refine(u.o x _ _ S (zV C (Kept.below gg λ_ h=>h)) G).mono ?_;rintro e _ ⟨rfl,q⟩;go_wp2;go_roundw
    case rel=>exact⟨k+1,m+g x,om,gn,gn,by rw[<-c.o];omega,zD gg q⟩
    case measure=>simp[intOf];omega
   ·obtain rfl:k=st.folders:=om
    rw[drop_length] at E;have c:=zh E;clear E;go_wp2;go_ret;exact⟨by rw[<-c.o];simp[sumOf],d⟩
def small1 (f:Folder):Nat:=f.items.length+f.wraps.length+f.links.length
theorem zX4 (l:List Folder) (h:sumOf small1 l<=1000000):zDx 184 small1 l:=λf cs w S a hm=>
 zP3 f cs w S a (by have:=zDd small1 l f hm;unfold small1 at this h;omega)
theorem zX5 (l:List Folder) (h:sumOf large1 l<=1000000):zDx 185 large1 l:=λf cs w S a hm=>
 zP4 f cs w S a (oh (zDd large1 l f hm))
end Go.Proofs.YtdggplhnfhcieaaGreatDoor.Bd
namespace Go.Proofs.YtdggplhnfhcieaaGreatDoor
open Go.Proofs.Tryz Cd Ce List
section
open Go.RowKit Go.Deep
theorem zO9 (x:Answer) (cs aH:List Value) (w:World) (S S':Nat->Prop) (h:yJ S w cs x) (k:yJ S' w aH x):
  (kB 11 #[.agg cs.toArray,.agg aH.toArray] w true:Prop):=by
 obtain⟨_,_,_,_,rfl,_,_,_,Y,aB,Z,aG⟩:=h;obtain⟨_,_,_,_,rfl,_,_,_,aa,aI,ab,aJ⟩:=k;obtain⟨af,an,rfl,_⟩:=id Y;obtain⟨ag,ao,rfl,_,a7,_,ba⟩:=id aB;obtain⟨ah,ap,rfl,_⟩:=id Z;obtain⟨ai,aq,rfl,_,a8,_,bb⟩:=id aG;obtain⟨c,au,rfl,_⟩:=id aa;obtain⟨J,av,rfl,_,bc,_,be⟩:=id aI;obtain⟨al,aw,rfl,_⟩:=id ab;obtain⟨am,ax,rfl,_,bd,_,bf⟩:=id aJ;unfold maxLen at a7 a8 bc bd;have a0:=zh Y;have D5:=zh Z;have a1:=zh aa;have a2:=zh ab;clear Y aB Z aG aa aI ab aJ;obtain⟨X,z,ay,a5,aj,M⟩:=zP w (aA x af an ag ao ah ap ai aq) 49;obtain⟨a,K,az,a6,V,O⟩:=zP X (aA x c au J av al aw am ax) 49;have bq:=aj.size;have br:=V.size;have aO:∀(g:Nat) (v:Value),((aA x af an ag ao ah ap ai aq):Array Value)[g]? =some v->∀W,((bW a W:Prop))->(cL W w g v:Prop):=λg v ad W ac=>
  zy (zD V ac) (ay g v ad)
 have aP:∀(g:Nat) (v:Value),((aA x c au J av al aw am ax):Array Value)[g]? =some v->∀W,((bW a W:Prop))->(cL W X g v:Prop):=λg v ad W ac=>
  zy ac (az g v ad)
 have d:=zh aO;have f:=zh aP;have C:X=w.heap.size+1:=by rw[<-z];simp
 clear aO aP ay az a5 a6;have q:=zD aj V;have bg:=d.o 0 _ rfl a zbr;have bh:=d.o 1 _ rfl a zbr;have bi:=d.o 2 _ rfl a zbr;have bj:=d.o 3 _ rfl a zbr;have aT:=f.o 0 _ rfl a zbr;have aU:=f.o 1 _ rfl a zbr;have aV:=f.o 2 _ rfl a zbr;have aW:=f.o 3 _ rfl a zbr;rw[C] at aT aU aV aW;have bp:prog.eqGuardType prog.depth 99=false:=kr
 have bs:prog.stoodInHeld 99=false:=kr
 have bt:=underlying99;have a3:=zh z;have a4:=zh K;clear z K;go_enter func11,ntmps11
 have z:=a3.o;have K:=a4.o;go_wp2_with fail
 refine zcb (zD2 x.data _ _ a S S' (a0.o.keep rByte_ok dc (zK q)) (a1.o.keep rByte_ok dc (zK q))) λG c=>?_;clear z K bg bh bi bj aT aU aV aW;have ae:=d.o 4 _ rfl G c;have bk:=d.o 5 _ rfl G c;have D:=f.o 4 _ rfl G c;have aX:=f.o 5 _ rfl G c;rw[C] at D aX;have ak:=zD q c;go_wp2_with fail
 refine zcb (zEg x.members _ _ G S S' (D5.o.keep ZA dc (zK ak)) (a2.o.keep ZA dc (zK ak))) λaY J=>?_;have I:=zD c J;have bo:=zD q I;clear ae bk D aX;have aR:=d.o 6 _ rfl aY I;have U:=f.o 6 _ rfl aY I;rw[C] at U;go_wp2;clear aR U;go_loopw [5] (λi wr=>∃k:Nat,k<=x.names/\i= .int .i64 k/\bW a wr) (λi _=>x.names.length-(intOf i).toNat)
 case atStart=>exact⟨0,om,gn,I⟩
 obtain⟨k,a9,rfl,hbel⟩:=hrel;have ae:=d.o 4 _ rfl wr hbel;have D:=f.o 4 _ rfl wr hbel;rw[C] at D;have y:=zD q hbel;by_cases L:k<x.names
 ·obtain⟨j,u⟩:∃j,x.names[k]? =some j:=⟨_,qLgx L⟩;obtain⟨b,o,_,rfl,_,_,aK,rfl,_⟩:=ba k j u;obtain⟨ar,aQ,_,rfl,_,_,aL,rfl,_⟩:=be k j u;have M:=aK 0 _ rfl;have O:=aL 0 _ rfl;rw[show k*1+0=k by omega] at M O;have bl:(cL wr b (o+k) j:Prop):=zy y M;have bm:(cL wr ar (aQ+k) j:Prop):=zy y O;clear u M O aK aL;exact maq
 obtain rfl:k=x.names:=om
 go_wp2;obtain⟨aZ,rfl⟩:∃aZ:World,aZ=wr:=⟨_,rfl⟩;clear ae D;go_loopw [6] (λi wr=>∃k:Nat,k<=x.history/\i= .int .i64 k/\bW a wr) (λi _=>x.history.length-(intOf i).toNat)
 case atStart=>exact⟨0,om,gn,hbel⟩
 obtain⟨k,a9,rfl,hbel⟩:=hrel;have aR:=d.o 6 _ rfl wr hbel;have U:=f.o 6 _ rfl wr hbel;rw[C] at U;have y:=zD q hbel;by_cases L:k<x.history
 ·obtain⟨j,b,o,u,_,_,rfl,_,_,_,bl,bm,_⟩:=zJo bb L (zK y);obtain⟨bn,ar,aQ,aN,_,_,rfl,_⟩:=zJo bf L (zK y);obtain rfl:j=bn:=zsi (u.symm.trans aN);clear u aN;exact maq
 obtain rfl:k=x.history:=om
 go_wp2;go_ret;exact⟨rfl,zD q hbel⟩
end
end Go.Proofs.YtdggplhnfhcieaaGreatDoor
namespace Go.Proofs.YtdggplhnfhcieaaGreatDoor.Bd
open Go.Proofs.Tryz Cd Ce List
open Go.RowKit Go.Deep
def smallOf (st:State):Nat:=min st.folders.length 1+2*st.users.length+st.deposits.length+st.folders.length+sumOf small1 st.folders
def largeOf (st:State):Nat:=sumOf large1 st.folders
def z2r:List Folder->Nat->Nat
 | [],m=>m
 | f::l,m=>z2r l (m+1+f.items.length+f.wraps.length+f.links.length)
theorem z5z:∀(l:List Folder) (m:Nat),z2r l m=m+l.length+sumOf small1 l
 | [],m=>by simp[z2r,sumOf]
 | f::l,m=>by rw[z2r,z5z l];simp[sumOf,small1];omega
def z80:List Item->Nat->Nat
 | [],m=>m
 | x::l,m=>z80 l (m+x.versions.length)
theorem z81:∀(l:List Item) (m:Nat),z80 l m=m+verCount l
 | [],m=>by simp[z80,verCount]
 | f::l,m=>by rw[z80,z81 l];simp[verCount];omega
def z5j:List Folder->Nat->Nat
 | [],m=>m
 | f::l,m=>z5j l (z80 f.items (m+f.manifests.length+f.epochs.length))
theorem z7o:∀(l:List Folder) (m:Nat),z5j l m=m+sumOf large1 l
 | [],m=>by simp[z5j,sumOf]
 | f::l,m=>by rw[z5j,z7o l,z81];simp[sumOf,large1];omega
theorem maN {p:Prop} (h:p:=by
 obtain rfl:k=st.folders:=om
 rw[drop_length] at E;have EH:=zh E;clear E;go_wp2;go_ret;exact⟨Z8 (by rw[<-G.o,<-EH.o];rfl),zD Bw0 hbel⟩):p:=h
theorem z82 (st:State) (h1:smallOf st<=1000000) (cs:List Value) (w:World) (S:Nat->Prop) (h:Z5 S w cs st):
  (kB 65 #[.agg cs.toArray] w (.int .i64 ((smallOf st:Nat):Int)):Prop):=by
 obtain⟨y,D,z,I,C,J,rfl,_,_,_,_,_,_,_,_,_,_,_,_,K⟩:=ZF h;have a5:min st.folders.length 1+2*st.users.length+st.deposits.length+st.folders.length+sumOf small1 st.folders<=1000000:=h1;have M:=zh h1;clear h1;by_cases u:0<st.folders.length
 rotate_left
 ·obtain⟨j,aa,c,O,Bw0,ac⟩:=zP w (aS st y D z I C J) 34;obtain⟨ad,ae,af,ag⟩:=TC4 c;clear c;have a3:=Bw0.size;go_enter func65,ntmps65
  have G:=zh (show z2r st.folders (2*st.users.length+st.deposits.length)=smallOf st from by rw[z5z];unfold smallOf;omega);have Z:=u;go_wp2;go_loopw [3,4] (λg i wr=>∃(k:Nat) (m:Nat),k<=st.folders.length/\m<=9223372036854775807/\i= .int .i64 k/\g= .int .i64 m/\z2r (st.folders.drop k) m=z2r st.folders (2*st.users.length+st.deposits.length)/\bW j wr) (λ_ i _=>st.folders.length-(intOf i).toNat)
  case atStart=>exact⟨0,2*st.users.length+st.deposits.length,om,om,gn,(by first|rfl|go_num),sm,gg⟩
  obtain⟨k,m,Y,U,rfl,rfl,E,hbel⟩:=hrel;have ab:=hbel.size;obtain⟨V,X⟩:=z1q hbel;by_cases f:k<st.folders.length
  ·obtain⟨x,ax,aX,ao,ay,ap,az,aq,aA,ar,aB,au,aC,L,d,aQ,rfl,aL,aw,ah,ai,aj,ak,al,am,an,av,aW,aY,aR,aT,aU,aV,aD,aE,aF,aG,aH,aI,aJ,aK,aZ,a0,a1,a2,aM,aN,aO,aP⟩:=yP K f (zK (zD Bw0 hbel));rw[d,z2r] at E;exfalso;omega
  exact maN
 obtain⟨j,aa,c,O,Bw0,ac⟩:=zP w (aS st y D z I C J) 34;obtain⟨ad,ae,af,ag⟩:=TC4 c;clear c;have a3:=Bw0.size;go_enter func65,ntmps65
 have G:=zh (show z2r st.folders (2*st.users.length+st.deposits.length+1)=smallOf st from by rw[z5z];unfold smallOf;omega);have Z:=u;go_wp2;go_loopw [3,4] (λg i wr=>∃(k:Nat) (m:Nat),k<=st.folders.length/\m<=9223372036854775807/\i= .int .i64 k/\g= .int .i64 m/\z2r (st.folders.drop k) m=z2r st.folders (2*st.users.length+st.deposits.length+1)/\bW j wr) (λ_ i _=>st.folders.length-(intOf i).toNat)
 case atStart=>exact⟨0,2*st.users.length+st.deposits.length+1,om,om,gn,(by first|rfl|go_num),sm,gg⟩
 obtain⟨k,m,Y,U,rfl,rfl,E,hbel⟩:=hrel;have ab:=hbel.size;obtain⟨V,X⟩:=z1q hbel;by_cases f:k<st.folders.length
 ·obtain⟨x,ax,aX,ao,ay,ap,az,aq,aA,ar,aB,au,aC,L,d,aQ,rfl,aL,aw,ah,ai,aj,ak,al,am,an,av,aW,aY,aR,aT,aU,aV,aD,aE,aF,aG,aH,aI,aJ,aK,aZ,a0,a1,a2,aM,aN,aO,aP⟩:=yP K f (zK (zD Bw0 hbel));rw[d,z2r] at E;have q:=E;rw[z5z,z5z] at q;have EH:=zh E;have a4:m+1+x.items.length+x.wraps.length+x.links.length<=1000000:=by have:=M.o;unfold smallOf at this;omega
  clear L d E q;go_wp2;go_roundw
  case rel=>exact⟨k+1,m+1+x.items.length+x.wraps.length+x.links.length,om,om,gn,(by first|rfl|go_num|(congr 1;omega)),EH.out,gg⟩
  case measure=>simp[intOf];omega
 exact maN
theorem z83 (st:State) (h1:largeOf st<=1000000) (cs:List Value) (w:World) (S:Nat->Prop) (h:Z5 S w cs st):
  (kB 66 #[.agg cs.toArray] w (.int .i64 ((largeOf st:Nat):Int)):Prop):=by
 obtain⟨O,X,U,Y,V,Z,rfl,_,_,_,_,_,_,_,_,_,_,_,_,aa⟩:=ZF h;have K:=zh h1;clear h1;obtain⟨ab,_,z,_,Bw0,_⟩:=zP w (aS st O X U Y V Z) 34;obtain⟨aw,ax,ay,az⟩:=TC4 z;clear z;have aN:=Bw0.size;go_enter func66,ntmps66
 have G:=zh (by rw[z7o];unfold largeOf;omega:z5j st.folders 0=largeOf st);go_wp2;go_loopw [3,4] (λj i wr=>∃(k:Nat) (m:Nat),k<=st.folders/\m<=9223372036854775807/\i= .int .i64 k/\j= .int .i64 m/\z5j (st.folders.drop k) m=z5j st.folders 0/\bW ab wr) (λ_ i _=>st.folders.length-(intOf i).toNat)
 case atStart=>exact⟨0,0,om,om,gn,(by first|rfl|go_num),sm,gg⟩
 obtain⟨k,m,_,_,rfl,rfl,E,hbel⟩:=hrel;have au:=hbel.size;obtain⟨_,_⟩:=z1q hbel;by_cases L:k<st.folders
 rotate_left
 ·exact maN
 obtain⟨x,_,_,ad,ai,ae,aj,af,ak,ag,al,ah,am,ao,D,_,rfl,_,_,_,_,_,_,_,_,_,_,_,_,_,_,_,_,_,_,_,_,_,_,_,an,_⟩:=yP aa L (zK (zD Bw0 hbel));rw[D,z5j] at E;have u:=E;rw[z7o,z7o,z81] at u;have EH:=zh E;have aq:m+x.manifests.length+x.epochs.length+verCount x.items<=1000000:=by have:=K.o;unfold largeOf at this;omega
 clear ao D E u;obtain⟨ac,_,C,_,q,_⟩:=zP wr (aF x ad ai ae aj af ak ag al ah am) 74;obtain⟨aB,aG,aH,aI,aJ,aK,aL⟩:=TC7 C;clear C;have aO:=q.size;go_wp2;go_loopw [3,6] (λj i wr=>∃(c:Nat) (d:Nat),c<=x.items/\d<=9223372036854775807/\i= .int .i64 c/\j= .int .i64 d/\z80 (x.items.drop c) d=z80 x.items (m+x.manifests.length+x.epochs.length)/\bW ac wr) (λ_ i _=>x.items.length-(intOf i).toNat)
 case atStart=>exact⟨0,m+x.manifests.length+x.epochs.length,om,om,gn,(by first|rfl|go_num),sm,gg⟩
 obtain⟨c,d,_,_,rfl,rfl,a,f⟩:=hrel;have av:=f.size;obtain⟨_,_⟩:=z1q f;by_cases M:c<x.items
 ·obtain⟨I,_,_,_,_,ap,J,_,rfl,_⟩:=z0w an M (zK (zD q f));rw[J,z80] at a;have y:=a;rw[z81,z81] at y;have ar:d+I.versions.length<=1000000:=om
  have g:=zh a;clear ap J a y;go_wp2;go_roundw
  case rel=>exact⟨c+1,d+I.versions.length,om,om,gn,(by first|rfl|go_num|(congr 1;omega)),g.o,gg⟩
  case measure=>simp[intOf];omega
 obtain rfl:c=x.items:=om
 rw[drop_length] at a;have g:=zh a;clear a;go_wp2;go_roundw
 case rel=>exact⟨k+1,d,om,om,gn,(by first|rfl|go_num|(congr 1;omega)),by rw[<-EH.o,<-g.o];rfl,zD hbel (zD gg f)⟩
 case measure=>simp[intOf];omega
end Go.Proofs.YtdggplhnfhcieaaGreatDoor.Bd
namespace Go.Proofs.YtdggplhnfhcieaaGreatDoor.Ro
open Go.Proofs.Tryz Cd Ce List
open Go.RowKit Go.Deep
def eqS (a b:ByteArray):Bool:=a.toList==b.toList
def z61 {α:Type} (p:α->Bool):List α->Nat->Int
 | [],_=> -1
 | x::l,k=>if p x then k else z61 p l (k+1)
theorem zLx (name:ByteArray) (B:Nat) (x:Member) (cs:List Value) (w:World) (S:Nat->Prop) (h:zZ S w cs x) (a:(cL w B 0 name:Prop)):
  (kB 193 #[.agg cs.toArray,pT B] w (eqS x.name name):Prop):=by
 obtain⟨rfl,_⟩:=z5t h;have c:=zF a;go_enter func193,ntmps193
 go_wp2;go_ret;exact⟨rfl,gg⟩
theorem zQ2 (name:ByteArray) (B:Nat) (l:List Member) (v:Value) (w:World) (S:Nat->Prop) (h:Sl 2 zZ S w v l) (f:(cL w B 0 name:Prop)):
  (kB 192 #[v,.func (.func 193) #[] #[pT B]] w (z61 (λm=>eqS m.name name) l 0):Prop):=by
 have u:=zh f;clear f;obtain⟨_,_,rfl,_,y,_,C⟩:=h;unfold maxLen at y;go_enter func192,ntmps192
 go_wp2;go_loopw [8] (λi wr=>∃(k:Nat),k<=l/\i= .int .i64 k/\z61 (λm=>eqS m.name name) (l.drop k) k=z61 (λm=>eqS m.name name) l 0/\bW w wr) (λi _=>l.length-(intOf i).toNat)
 case atStart=>exact⟨0,om,gn,sm,gg⟩
 obtain⟨k,_,rfl,E,a⟩:=hrel;have I:=a.size;by_cases z:k<l
 rotate_left
 ·obtain rfl:k=l:=om
  rw[drop_length] at E;have c:=zh E;clear E;go_wp2;go_ret;exact⟨by rw[<-c.o];rfl,a⟩
 obtain⟨x,_,_,G,q,_,rfl,_,_,_,_,D,_⟩:=yT C z (zK a);rw[q,z61] at E;have d:=zh E;clear G q E;go_wp2_with fail
 refine zcb (zLx name B x _ _ S D (zy a u)) λ_ g=>?_;cases j:eqS x.name name
 ·have c:=zh (by rw[<-d.o,j];rfl:z61 (λm=>eqS m.name name) (l.drop (k+1)) (k+1)=z61 (λm=>eqS m.name name) l 0);clear d;go_wp2;go_roundw
  case rel=>exact⟨k+1,om,gn,c.o,zD a g⟩
  case measure=>simp[intOf];omega
 have c:=zh (by rw[<-d.o,j];rfl:(k:Int)=z61 (λm=>eqS m.name name) l 0);clear d;go_wp2;go_ret;exact⟨by rw[<-c.o];rfl,zD a g⟩
def z3k (l:List Member) (name:ByteArray):Int:=z61 (λm=>eqS m.name name) l 0
theorem zK1:∀(c:Fn) (first a:Array Value) (w:World),(Instr.makeFunc c first a).run prog w= .ok (.func c first a) w:=λ_ _ _ _=>rfl
theorem z5u (name:ByteArray) (l:List Member) (v:Value) (w:World) (S:Nat->Prop) (h:Sl 2 zZ S w v l):
  (kB 170 #[v,name] w (z3k l name):Prop):=by
 have g:=zK1;obtain⟨_,_,c,_,a,_⟩:=zP w #[name] 9;have f:=c 0 _ rfl;have H:=zh h;clear h c;go_enter func170,ntmps170
 go_wp2_with fail
 refine zcb (zQ2 name w l v _ S (H.keep ZA dc (zK a)) f) λ_ d=>?_;go_wp2;go_ret;exact⟨rfl,zD a d⟩
def ofOf:List Member->ByteArray->Int
 | [],_=>0
 | m::l,name=>if eqS m.name name then m.role else ofOf l name
theorem atOf_cases (name:ByteArray):∀(l:List Member) (k:Nat),(z61 (λm=>eqS m.name name) l k= -1/\ofOf l name=0)\/∃(i:Nat) (m:Member),z61 (λm=>eqS m.name name) l k=((k+i:Nat):Int)/\l[i]? =some m/\ofOf l name=m.role/\eqS m.name name=true
 | [],k=> .inl ⟨rfl,rfl⟩
 | m::l,k=>by
  rw[z61,ofOf];cases a:eqS m.name name
  ·rcases atOf_cases name l (k+1) with ⟨c,d⟩|⟨i,h,c,d,f,g⟩
   ·exact .inl ⟨by simpa[a] using c,by simpa[a] using d⟩
   ·exact .inr ⟨i+1,h,by simp only[Bool.false_eq_true,if_false];rw[c];congr 1;omega,by simpa using d,by simpa[a] using f,g⟩
  ·exact .inr ⟨0,m,sm,sm,sm,a⟩
theorem of_any (name:ByteArray) (l:List Member) (v:Value) (w:World) (S:Nat->Prop) (h:Sl 2 zZ S w v l):
  (kB 157 #[v,name] w (ofOf l name):Prop):=by
 have H:=zh h;rcases atOf_cases name l 0 with ⟨c,a⟩|⟨i,m,c,a,j,_⟩
 ·have f:=ζ (z3k l name= -1) c;have g:=zh a;clear h c a;go_enter func157,ntmps157
  go_wp2_with fail
  refine zcb (z5u name l v _ S H) λw1 d=>?_;rw[f.o];go_wp2;go_ret;exact⟨by rw[g.o];rfl,d⟩
 obtain⟨_,_,rfl,_,z,_,D⟩:=h;unfold maxLen at z;have C:i<l:=(zge a).1;have f:=zh (by rw[z3k,c];simp:z3k l name=(i:Int));have g:=zh j;have u:=zh a;clear c a j;go_enter func157,ntmps157
 go_wp2_with fail
 refine zcb (z5u name l _ _ S H) λw1 d=>?_;rw[f.o];obtain⟨x,_,_,q,G,_,rfl,_⟩:=yT D C (zK d);have y:x=m:=zsi (q.symm.trans u.o);subst y;clear q G;go_wp2;go_ret;exact⟨by rw[g.o];rfl,d⟩
end Go.Proofs.YtdggplhnfhcieaaGreatDoor.Ro
namespace Go.Proofs.YtdggplhnfhcieaaGreatDoor
open Go.Proofs.Tryz Cd Ce List
variable {B:Nat->Prop} {l:List (List Value)} {p:Prop} {v:Value} {w w':World}
section
open Go.RowKit Go.Deep
theorem z0n {s:ByteArray} (h:s≠⟨#[]⟩):s.toList.isEmpty=false:=by
 cases c:s.toList with
 | nil=>
  refine absurd ?_ h;obtain⟨⟨l⟩⟩:=s;rw[Lib.toList_data] at c;have d:l=[]:=c;subst d
  rfl
 | cons a l=>rfl
theorem zTb (s:ByteArray) (hs:s.size<=()) (b:Bool) (w:World):Calls prog 52 #[s,b] w λe w'=>e= .returned (.bool (txt Z1 s b))/\w=w':=by
 cases b with
 | true=>
  have d:=zh (zAn s hs w);go_enter func52,ntmps52
  go_wp2_with (go_at_call 51;refine zcm d ?_;rintro e _ ⟨rfl,rfl⟩)
  go_ret
  exact⟨rfl,rfl⟩
 | false=>
  by_cases a:s=⟨#[]⟩
  ·subst a;go_enter func52,ntmps52
   go_wp2;go_ret;exact⟨rfl,rfl⟩
  have c:=zh (by unfold txt z3d;simp[a]:txt Z1 s false=false);have f:s.toList.isEmpty=false:=z0n a;clear a;go_enter func52,ntmps52
  go_wp2;go_ret;exact⟨by rw[c.o];rfl,rfl⟩
theorem mbC (h:p:=by
 go_enter func53,ntmps53
 go_wp2;go_ret;exact⟨by rw[HE.o];rfl,rfl⟩):p:=h
theorem zOq (n a b:Int) (h:Bool) (w:World):Calls prog 53 #[n,a,b,h] w λe w'=>e= .returned (.bool (num n a b h))/\w=w':=by
 cases h with
 | true=>
  by_cases c:a<=n
  rotate_left
  ·have HE:=zh (by unfold num;simp[c]:num n a b true=false);have f:decide (a<=n)=false:=Γ c;clear c;exact mbC
  by_cases d:n<=b
  ·have HE:=zh (by unfold num;simp[c,d]:num n a b true=true);have f:decide (a<=n)=true:=Δ c;have g:decide (n<=b)=true:=Δ d;clear c d;exact mbC
  have HE:=zh (by unfold num;simp[c,d]:num n a b true=false);have f:decide (a<=n)=true:=Δ c;have g:decide (n<=b)=false:=Γ d;clear c d;go_enter func53,ntmps53
  go_wp2;go_ret
  exact⟨by rw[HE.o];rfl,rfl⟩
 | false=>
  by_cases c:n=0
  ·subst c;go_enter func53,ntmps53
   go_wp2;go_ret;exact⟨rfl,rfl⟩
  have HE:=zh (by unfold num;simp[c]:num n a b false=false);have f:(n==0)=false:=beq_eq_false_iff_ne.2 c;clear c;exact mbC
end
section
open Go.RowKit Go.Deep
theorem zTl:∀k:Fin 17,∀m:Fin 65,m.val∈[1,2,4,8,16,32,64]->(bits BinOp.and IntKind.i64 ((z1d k.val:Nat):Int) (m.val:Int) !=0)=z57 (k.val:Int) m.val:=by decide+kernel
def z1i (a:Bool) (w:World) (e:Ending) (w':World):Prop:=e= .returned (.bool a)/\bW w w'
def zLg (k:Int) (c g j b8 f h q:Bool) (u d name a:ByteArray) (role y n:Int):Bool:=
 txt Z1 d c&&txt Z1 name g&&txt Z1 a (j||b8&&!a.toList.isEmpty)&&!(!c&&(a.toList==u.toList))&&!(decide (k=2)&&(a.toList==d.toList))&&num role 1 4 f&&num y 0 1099511627776 h&&num n 0 512 q
theorem zTm (k:Nat) (hk:1<=k) (ar:k<=16) (F:Nat) (hF:F<=67) (g u z b8 q y C:Bool)
  (X:(bits BinOp.and IntKind.i64 (F:Int) 1 !=0)=g) (aa:(bits BinOp.and IntKind.i64 (F:Int) 2 !=0)=u) (ac:(bits BinOp.and IntKind.i64 (F:Int) 4 !=0)=z) (ae:(bits BinOp.and IntKind.i64 (F:Int) 8 !=0)=b8) (Y:(bits BinOp.and IntKind.i64 (F:Int) 16 !=0)=q) (ab:(bits BinOp.and IntKind.i64 (F:Int) 32 !=0)=y) (ad:(bits BinOp.and IntKind.i64 (F:Int) 64 !=0)=C) (Z:(bits BinOp.and IntKind.i64 (F:Int) 1==0)=!g)
 (a d name f:ByteArray) (role h:Int) (A:Option Addr) (n c:Nat) (hu:a.size<=()) (aq:d.size<=()) (av:name.size<=()) (aw:f.size<=()) (O:Z1 a=true) (w:World) (h0:0<w.heap.size) (L:(cL w 0 k F:Prop)):
   Calls prog 33 #[.agg #[.int .i64 k,.string a,.string d,.string name,.string f,.int .i64 role,.int .i64 h,.slice A n c]] w (z1i (zLg k g u z b8 q y C a d name f role h n) w):=by
  obtain⟨J,D⟩:=Ξ (zLg k g u z b8 q y C a d name f role h n);rw[D];have I:=zh D;clear D;obtain⟨an,_,K,U,G,_⟩:=zP w #[k,a,d,name,f,role,h,.slice A n c] 41;obtain⟨af,ag,ah,ai,aj,ak,al,am⟩:=TC8 K;have V:=zy G L;have j:=zh (zAn a hu an);rw[O] at j;have au:(k:Int)<17:=om
  have ao:decide ((k:Int)<1)=false:=η;have ap:decide ((16:Int)<k)=false:=η;clear K U L O;go_enter func33,ntmps33
  go_wp2_with (first
   | (go_at_call 51;refine zcm j ?_;rintro e w1 ⟨rfl,rfl⟩)
   | (go_at_call 52;refine zcm (zTb _ (by assumption) _ _) ?_;rintro e w1 ⟨rfl,rfl⟩)
   | (go_at_call 53;refine zcm (zOq _ _ _ _ _) ?_;rintro e w1 ⟨rfl,rfl⟩))
  all_goals
   go_ret;refine⟨congrArg (λb=>Ending.returned (.bool b)) ?_,G⟩;have M:=I.o;clear I j af ag ah ai aj ak al am V X aa ac ae Y ab ad Z;unfold zLg at M;subst M;simp_all
theorem eqC {a b:ByteArray}:(a.toList==b.toList)=decide (a=b):=by
 by_cases c:a=b
 ·subst c;simp
 rw[Γ c,<-Bool.not_eq_true,beq_iff_eq];intro e;refine c ?_;obtain⟨⟨l⟩⟩:=a;obtain⟨⟨r⟩⟩:=b;rw[Lib.toList_data,Lib.toList_data] at e;have d:l=r:=e;rw[d]
theorem z2m {a:ByteArray}:a.toList.isEmpty=z3d a:=by
 by_cases c:a=⟨#[]⟩
 ·subst c;rw[Lib.toList_data];rfl
 rw[z0n c];unfold z3d;exact(Γ c).symm
theorem zVp {k:Int} (h1:1<=k) (h2:k<=16) {a c name d:ByteArray} (hu:Z1 a=true) (role f n:Int):
  zLg k (z57 k 1) (z57 k 2) (z57 k 4) (z57 k 8) (z57 k 16) (z57 k 32) (z57 k 64) a c name d role f n=z58 Z1 k a c name d role f n:=by
 unfold zLg z58;rw[eqC,eqC,z2m,Δ h1,Δ h2,hu];rfl
theorem z6i {k m:Nat} (hk:k<=16) (hm:m∈[1,2,4,8,16,32,64]):(bits BinOp.and IntKind.i64 ((z1d k:Nat):Int) (m:Int) !=0)=z57 (k:Int) m:=by
 have a:m<65:=by simp at hm;omega
 exact zTl ⟨k,om⟩ ⟨m,a⟩ hm
theorem zMl:∀k:Nat,z1d k<=67:=by
 intro k;by_cases a:k<17
 ·have:∀k:Fin 17,z1d k.val<=67:=dc
  exact this ⟨k,a⟩
 unfold z1d;rw[getD_eq_getElem?_getD,getElem?_eq_none (by simp;omega)];decide
theorem zHg (a:Int) (d f name g:ByteArray) (role h:Int) (A:Option Addr) (n c:Nat) (hu:d.size<=()) (U:f.size<=()) (V:name.size<=()) (X:g.size<=()) (w:World) (h0:0<w.heap.size) (J:∀r:Nat,r<17->(cL w 0 r (.int .i64 (z1d r:Nat)):Prop)):
  (kB 33 #[.agg #[.int .i64 a,.string d,.string f,.string name,.string g,.int .i64 role,.int .i64 h,.slice A n c]] w (z58 Z1 a d f name g role h n):Prop):=by
 obtain⟨Y,_,I,O,D,_⟩:=zP w #[a,d,f,name,g,role,h,.slice A n c] 41;obtain⟨Z,aa⟩:=TC2 I;have z:=zh D;have G:=zh (zAn d hu Y);have K:=zh J;clear I O D J;by_cases q:a<1
 ·have j:=zh (by unfold z58;simp[show ¬1<=a by omega]:z58 Z1 a d f name g role h n=false);have L:decide (a<1)=true:=Δ q;clear q;go_enter func33,ntmps33
  go_wp2;go_ret;exact⟨by rw[j.o];rfl,z⟩
 have L:decide (a<1)=false:=Γ q;by_cases y:16<a
 ·have j:=zh (by unfold z58;simp[show ¬a<=16 by omega]:z58 Z1 a d f name g role h n=false);have M:decide (16<a)=true:=Δ y;clear q y;go_enter func33,ntmps33
  go_wp2;go_ret;exact⟨by rw[j.o];rfl,z⟩
 have M:decide (16<a)=false:=Γ y
 cases u:Z1 d with
 | false=>
  have j:=zh (by unfold z58;simp[u]:z58 Z1 a d f name g role h n=false);rw[u] at G;clear q y u;go_enter func33,ntmps33
  go_wp2_with (go_at_call 51;refine zcm G ?_;rintro e _ ⟨rfl,rfl⟩)
  go_ret
  exact⟨by rw[j.o];rfl,z⟩
 | true=>
  obtain⟨k,rfl⟩:∃k:Nat,a=(k:Int):=⟨a.toNat,om⟩;refine zcm (zTm k om om (z1d k) (zMl k) _ _ _ _ _ _ _ (z6i om sm) (z6i om sm) (z6i om sm) (z6i om sm) (z6i om sm) (z6i om sm) (z6i om sm) ?_ d f name g role h A n c hu U V X u w h0 (K.o k om)) ?_
  ·have:=z6i (k:=k) (m:=1) om sm;rw[<-this];cases C:(bits BinOp.and IntKind.i64 ((z1d k:Nat):Int) 1==0)<;>simp[bne,C]
  rintro e w' ⟨rfl,C⟩;exact⟨congrArg (λb=>Ending.returned (.bool b)) (zVp om om u role h n),C⟩
end
section
open Go.RowKit Go.Deep
theorem z8w {b:Nat} {T:TypeId}:∀(a:List Value) (w:World) (o:Nat) (cs:Array Value),w.heap[b]? =some (.cells cs T (0,0))->o+a.length<=cs.size->
  ∃cs',(w.setCells b o a).heap[b]? =some (.cells cs' T (0,0))/\cs'.size=cs.size/\(∀j,j<a.length->cs'[o+j]? =a[j]?)/\∀j,(j<o\/o+a.length<=j)->cs'[j]? =cs[j]?
 | [],w,o,cs,h,_=>⟨cs,h,rfl,λj c=>by simp at c,λj _=>rfl⟩
 | v::a,w,o,cs,h,hl=>by
  simp only[length_cons] at hl;obtain⟨cs',f,g,q,d⟩:=z8w a (w.setCell (aD b o) v) (o+1) (cs.setIfInBounds o v) (zH v h rfl) (by rw[Array.size_setIfInBounds];omega);refine⟨cs',by simpa only[World.setCells] using f,by rw[g,Array.size_setIfInBounds],λj c=>?_,λj c=>?_⟩
  ·rcases j with _|j
   ·rw[Nat.add_zero,d o (.inl om),Array.getElem?_setIfInBounds,if_pos rfl,if_pos om];rfl
   ·simp only[length_cons] at c;have:=q j om;rw[show o+(j+1)=o+1+j by omega,this];rfl
  ·simp only[length_cons] at c;rw[d j om,Array.getElem?_setIfInBounds,if_neg om]
theorem z1f (b:Nat):∀(a:List Value) (w:World) (o:Nat),(w.setCells b o a).os=w.os/\(w.setCells b o a).tape=w.tape/\(w.setCells b o a).output=w.output/\(w.setCells b o a).heap.size=w.heap.size/\∀k,k≠b->(w.setCells b o a).heap[k]? =w.heap[k]?
 | [],w,o=>⟨rfl,rfl,rfl,rfl,λ_ _=>rfl⟩
 | v::a,w,o=>by
  have c:=z1f b a (w.setCell (aD b o) v) (o+1);have e:w.setCells b o (v::a)=(w.setCell (aD b o) v).setCells b (o+1) a:=rfl;have B:=(Below.refl 0 w).setCell (p:=aD b o) (Nat.zero_le _) v;rw[e];exact⟨c.1.trans B.os,c.2.1.trans B.tape,c.2.2.1.trans B.output,c.2.2.2.1.trans sm,λk d=>(c.2.2.2.2 k d).trans (Below.heap_setCell _ _ _ _ d)⟩
theorem z69 {sz:Nat}:∀{l:List (List Value)},(∀x∈l,x=sz)->l.flatten.length=l.length*sz
 | [],_=>sm
 | x::l,h=>by
  have:=z69 (sz:=sz) (l:=l) λc a=>h c (zmc _ a)
  rw[flatten_cons,qLax,this,h x (mem_cons_self ..),length_cons,Nat.add_mul];omega
def RowC (e:TypeId) (sz:Nat) (w:World) (v:Value) (l:List (List Value)):Prop:=
 (∀x∈l,x=sz/\∀c∈x,c.oneCell'=true)/\((v= .slice none 0 0/\l=[])\/∃g f a d,v= .slice (some ⟨g,f,none⟩) l a/\w.heap[g]? =some (.cells d e (0,0))/\l.length<=a/\a<=maxLen/\f+a*sz<=d.size/\∀h c,l.flatten[h]? =some c->d[f+h]? =some c)
section
variable {e:TypeId} {sz:Nat}
theorem RowC.nil (w:World):RowC e sz w () []:=⟨λx a=>by simp at a,.inl ⟨rfl,rfl⟩⟩
theorem RowC.keep {w:World} (h:RowC e sz w v l) (k:∀b,v.ownBlock=some b->w'.heap[b]? =w.heap[b]?):RowC e sz w' v l:=by
 obtain⟨g,h⟩:=h;refine⟨g,?_⟩;rcases h with h|⟨a,q,d,f,c,j,r⟩
 ·exact .inl h
 exact .inr ⟨a,q,d,f,c,(k a (by rw[c];rfl)).trans j,r⟩
theorem RowC.lt {l:List (List Value)} (h:RowC e sz w v l):∀b,v.ownBlock=some b->b<w.heap.size:=by
 rcases h.2 with ⟨rfl,_⟩|⟨c,j,f,g,rfl,d,r⟩
 ·intro b a;cases a
 intro b a;obtain rfl:c=b:=zsi a;exact zI d
theorem RowC.shape {w:World} (h:RowC e sz w v l):∃A c,v= .slice A l c/\(l≠[]->∃g o,A=some ⟨g,o,none⟩):=by
 rcases h.2 with ⟨rfl,rfl⟩|⟨g,f,a,d,rfl,_⟩
 ·exact⟨_,_,rfl,λh=>absurd rfl h⟩
 exact⟨_,_,rfl,λ_=>⟨_,_,rfl⟩⟩
theorem RowC.tail {g off a:Nat} {x:List Value} (h:RowC e sz w (.slice (some ⟨g,off,none⟩) (l.length+1) a) (x::l)):
  RowC e sz w (.slice (if a=1 then some ⟨g,off,none⟩ else some ⟨g,off+sz,none⟩) l (a-1)) l/\(∀j u,x[j]? =some u->(cL w g (off+j) u:Prop))/\l+1<=a/\a<=maxLen:=by
 obtain⟨z,h⟩:=h;rcases h with ⟨h,_⟩|⟨V,Y,U,q,J,y,C,K,X,D⟩
 ·cases h
 simp only[length_cons,Value.slice.injEq,Option.some.injEq,Addr.mk.injEq,and_true,true_and] at J;obtain⟨⟨rfl,rfl⟩,rfl⟩:=J;simp only[length_cons] at C;have O:=(z x (mem_cons_self ..)).1;have L:∀j u,x[j]? =some u->(cL w g (off+j) u:Prop):=by
  intro j u I;rw[cell_of_row w g _ q _ (0,0) y];refine D j u ?_;rw[flatten_cons,qLlx (zge I).1];exact I
 refine⟨⟨λf c=>z f (zmc _ c),.inr ?_⟩,L,C,K⟩;by_cases G:a=1
 ·have M:l=[]:=eq_nil_of_length_eq_zero om;subst M;subst G;exact⟨g,off,0,q,by rw[if_pos rfl],y,sm,om,om,λd f c=>by simp at c⟩
 refine⟨g,off+sz,a-1,q,by rw[if_neg G],y,om,om,?_,λd f c=>?_⟩
 ·have:a*sz=(a-1)*sz+sz:=by
   rw[<-Nat.succ_mul];congr 1;omega
  omega
 have:=D (sz+d) f (by rw[flatten_cons,qLrx om,O,Nat.add_sub_cancel_left];exact c);rw[show off+sz+d=off+(sz+d) by omega];exact this
theorem maG (h:p:=by
 rcases r2.2 with ⟨_,h0⟩|⟨g,cap,cur,hv,hb,hg,hnc,hcm,hcs,htk⟩
 ·omega
 refine .inr ⟨g,0,cap,cur,by simpa using hv,hg,by simpa using hnc,hcm,om,λj y hy=>?_⟩;rw[hflat] at hy;have hy':x[j]? =some y:=by simpa using hy
 have hj:=(zge hy').1;have h3:(cur.toList.take ((0+1)*sz))[j]? =some y:=by rw[htk];simpa using hy'
 rw[getElem?_take,if_pos om] at h3;simpa using h3):p:=h
theorem maP (h:p:=by
 simp only[Array.size_append,size_toArray,size_zeroCells,hzs,hfl,hx];rw[Nat.zero_add];generalize grownCap _ _ _ _=G at hge⊢;obtain⟨d,rfl⟩:∃d,G=l.length+1+d:=⟨G-(l.length+1),om⟩;rw[Nat.add_sub_cancel_left,Nat.add_mul,Nat.add_mul,Nat.one_mul];exact znl _):p:=h
theorem maS (h:p:=by
 rw[hflat] at hy;by_cases hjl:q<l.length*sz
 ·rw[qLlx om] at hy;rw[k4 _ (.inl om)];exact hcell q y hy
 rw[qLrx om,hfl] at hy;have hq:=(zge hy).1;have:=k3 (q-l.length*sz) hq;rw[show off+l.length*sz+(q-l.length*sz)=off+q by omega] at this;rw[this];exact hy):p:=h
theorem maT (h:p:=by
 have hj1:=(zge hy).1;rw[hflat] at hy hj1;rw[qLax] at hj1;rw[Nat.zero_add,Array.getElem?_append_left (by simp only[Array.size_append,size_toArray];omega)];rw[show l.flatten.toArray++x.toArray=(l.flatten++x).toArray by simp];simpa using hy):p:=h
theorem mbT (h:p:=by
 intro y hy;rcases zmb hy with hy|hy
 ·exact h.1 y hy
 ·obtain rfl:y=x:=by simpa using hy
  exact⟨hx,hx1⟩):p:=h
theorem zLn {P:Program} {t:TypeId} (i:TypeInfo) (C:Value) (D:Nat) (M:P.underlying t=some (.slice e)) (hi:P.info? e=some i) (hz:i.zero=some C) (h1:i.size=sz) (h2:i.bytes=D) (hzs:C.cells.size=sz) (Z:0<sz) (U:D<=1000) (z:TypeId) {W:World} (h:RowC e sz W v l) (hl:l.length<=10000) (x:List Value) (hx:x=sz) (hx1:∀u∈x,u.oneCell'=true) (c:Nat):
  ∃v' w',(Builtin.append_ #[t,t] z #[v,.slice (some ⟨W,0,none⟩) 1 c]).run P (W.alloc (.cells x.toArray e))= .ok v' w'/\RowC e sz w' v' (l++[x])/\W.grownBy w' v.ownBlock/\(v'.ownBlock=v.ownBlock\/∃k,v'.ownBlock=some k/\W.heap.size<=k):=by
 have K:∀(j:Nat) (u:Value),x[j]? =some u->(W.alloc (.cells x.toArray e)).cell? ((⟨W,0,none⟩:Addr).add j)=some u:=by
  intro j u hj;rw[Addr.add_lit];rw[cell_of_row _ W _ x.toArray _ (0,0) (heap_alloc_new W _)];simpa using hj
 have I:=World.grownBy_alloc W (.cells x.toArray e) v.ownBlock;have J:∀y∈l++[x],y=sz/\∀u∈y,u.oneCell'=true:=by
  exact mbT
 have hflat:(l++[x]).flatten=l.flatten++x:=sm
 have hfl:l.flatten.length=l.length*sz:=z69 λy hy=>(h.1 y hy).1
 rcases h.2 with ⟨rfl,rfl⟩|⟨g,off,cap,cur,rfl,hg,ak,hcm,an,hcell⟩
 ·obtain⟨v',w',ag,r2,ah,_,ai⟩:=run_append_own_at (P:=P) (W.alloc (.cells x.toArray e)) W t z e i C sz D M hi hz h1 h2 hzs Z () 0 [] (World.ownsRow_nil _ _ _ _) ⟨W,0,none⟩ 1 c x (by rw[hx];omega) K hx1 (by simp only[maxLen];omega) om sm;refine⟨v',w',ag,⟨J,?_⟩,z3w I ah,?_⟩
  ·exact maG
  rcases ai with h|h
  ·exact .inl h
  exact .inr ⟨_,h,sm⟩
 have am:=zI hg;have a:(W.alloc (.cells x.toArray e)).heap[g]? =some (.cells cur e (0,0)):=zR _ hg;by_cases L:l+1<=cap
 rotate_left
 ·have al:l=cap:=om
  have X:∀j u,l.flatten[j]? =some u->(W.alloc (.cells x.toArray e)).cell? ((⟨g,off,none⟩:Addr).add j)=some u:=by
   intro j u hj;rw[Addr.add_lit,cell_of_row _ g _ cur _ (0,0) a];exact hcell j u hj
  have f:=run_append_grow (P:=P) (W.alloc (.cells x.toArray e)) t z e i C M hi hz ⟨g,off,none⟩ l cap l.flatten (by rw[h1];exact hfl) X ⟨W,0,none⟩ 1 c x (by rw[h1,hx];omega) K om om (growslice_fits om (by rw[h2];have:=Nat.mul_le_mul (by omega:l.length+1<=10001) U;omega));have hge:=grownCap_ge (W.alloc (.cells x.toArray e)) (l.length+1) cap e;refine⟨_,_,f,⟨J,.inr ⟨_,0,grownCap (W.alloc (.cells x.toArray e)) (l.length+1) cap e,_,sm,heap_alloc_new _ _,by simpa using hge,grownCap_le_maxLen _ _ _ _ (by simp only[maxLen];omega),?_,λj y hy=>?_⟩⟩,?_,.inr ⟨_,rfl,sm⟩⟩
  ·exact maP
  ·exact maT
  exact z3w I ⟨rfl,rfl,rfl,sm,λq hq _=>Below.heap_alloc _ _ q hq⟩
 have aj:off+l.length*sz+sz<=cur.size:=by
  have:=Nat.mul_le_mul_right sz L;rw[Nat.add_mul,Nat.one_mul] at this;omega
 have Y:∀j,j<x.length->((W.alloc (.cells x.toArray e)).cell? ⟨g,off+l.length*i.size+j,none⟩).isSome=true:=by
  intro j hj;rw[h1,cell_of_row _ g _ cur _ (0,0) a,Array.getElem?_eq_getElem om];rfl
 have V:∀j,j<x.length->(W.alloc (.cells x.toArray e)).frozen? (aD g (off+l.length*i.size+j))=false:=λj _=>(zB a).2 _
 have f:=run_append_room_cells (P:=P) (W.alloc (.cells x.toArray e)) t z e i M hi g off l cap ⟨W,0,none⟩ 1 c x (by rw[h1,hx];omega) K hx1 L Y V;rw[h1] at f;obtain⟨O,aa,_,k3,k4⟩:=z8w x _ (off+l.length*sz) cur a om;obtain⟨ab,ac,ad,ae,af⟩:=z1f g x (W.alloc (.cells x.toArray e)) (off+l.length*sz);refine⟨_,_,f,⟨J,.inr ⟨g,off,cap,O,sm,aa,by simpa using L,hcm,om,λq y hy=>?_⟩⟩,?_,.inl rfl⟩
 ·exact maS
 exact z3w I ⟨ab,ac,ad,by rw[ae];exact znl _,λq _ hq=>af q λe=>hq (by rw[e];rfl)⟩
theorem mci (h:p:=by
 exact Lib.wpList_append_run _ hgd s xo t t ho _ _ hs hxo v' w' r1 (hK v' w' r2 r3 r4)):p:=h
theorem YD {P:Program} (W:World) (x:List Value) {ops:Array Oper} {rest:List Oper} {o:Oper} {a:Act} {Q:Exit->Act->World->Prop} (hgd:o.guard=none) (s xo:Operand) (t:TypeId)
  (ho:o.op= .call { callee:= .builtin .append,args:=#[s,xo],argTypes:=#[t,t] })
  (i:TypeInfo) (f:Value) (d:Nat) (y:P.underlying t=some (.slice e)) (hi:P.info? e=some i) (hz:i.zero=some f) (h1:i.size=sz) (h2:i.bytes=d) (C:f.cells.size=sz) (q:0<sz) (j:d<=1000)
  (v:Value) (l:List (List Value)) (hs:a.eval s=v) (h:RowC e sz W v l) (hl:l.length<=10000) (hx:x=sz) (z:∀u∈x,u.oneCell'=true) (N c:Nat) (hxo:a.eval xo= .slice (some ⟨N,0,none⟩) 1 c) (g:N=W)
  (hK:∀v' w',RowC e sz w' v' (l++[x])->W.grownBy w' v.ownBlock->(v'.ownBlock=v.ownBlock\/∃k,v'.ownBlock=some k/\W.heap.size<=k)->wpList P ops Q rest (a.put o.dst v') w'):wpList P ops Q (o::rest) a (W.alloc (.cells x.toArray e)):=by
 subst g;obtain⟨v',w',r1,r2,r3,r4⟩:=zLn (P:=P) i f d y hi hz h1 h2 C q j o.type h hl x hx z c;exact mci
end
end
section
open Go.RowKit
structure ButB (B:Nat->Prop) (w w':World):Prop where
 os:w'.os=w.os
 tape:w'.tape=w.tape
 output:w'.output=w.output
 size:w<=w'.heap.size
 block:∀k,k<w.heap.size->¬B k->w'.heap[k]? =w.heap[k]?
section
variable {B:Nat->Prop} {w w1 w':World}
theorem ButB.refl (B:Nat->Prop) (w:World):ButB B w w:=⟨rfl,rfl,rfl,znl _,λ_ _ _=>rfl⟩
theorem ButB.of (h:(bW w w':Prop)):ButB B w w':=⟨h.os,h.tape,h.output,h.size,λk a _=>h.block k a⟩
theorem ButB.grown {m:Nat} (h:w.grownBy w' (some m)) (a:B m):ButB B w w':=⟨h.os,h.tape,h.output,h.size,λk hk hb=>h.block k hk λe=>hb (by cases e;exact a)⟩
theorem ButB.set (h:ButB B w w') (a:Addr) (v:Value) (ha:B a.block):ButB B w (w'.setCell a v):=have b:=(Below.refl 0 w').setCell (p:=a) (Nat.zero_le _) v
 ⟨b.os.trans h.os,b.tape.trans h.tape,b.output.trans h.output,by simpa using h.size,λk hk c=>(Below.heap_setCell _ _ _ _ (λe=>c (by rw[e];exact ha))).trans (h.block k hk c)⟩
theorem ButB.trans (h:ButB B w w1) (k:ButB B w1 w'):ButB B w w':=⟨k.os.trans h.os,k.tape.trans h.tape,k.output.trans h.output,qNtx h.size k.size,λb hb a=>(k.block b (zll hb h.size) a).trans (h.block b hb a)⟩
theorem ButB.below {n:Nat} {a:World} (h:Below n a w) (hn:n<=w) (c:∀k,B k->n<=k) (k:ButB B w w'):Below n a w':=
 ⟨k.os.trans h.os,k.tape.trans h.tape,k.output.trans h.output,qNtx h.size k.size,λb d=>(k.block b om λf=>by have:=c b f;omega).trans (h.block b d)⟩
end
theorem ButB.mono {B':Nat->Prop} (h:ButB B w w') (k:∀x,B x->B' x):ButB B' w w':=⟨h.os,h.tape,h.output,h.size,λx hx hb=>h.block x hx λe=>hb (k x e)⟩
theorem ButB.fresh (h:ButB B w w') (k:∀x,B x->w.heap.size<=x):(bW w w':Prop):=⟨h.os,h.tape,h.output,h.size,λx a=>h.block x a λe=>by have:=k x e;omega⟩
theorem ButB.kept {S S':Nat->Prop} (h:ButB B w w') (a:∀x,S x->S' x/\¬B x):Go.Proofs.YtdggplhnfhcieaaGreatDoor.Kept S S' w w':=λx hx hl=>⟨(a x hx).1,h.block x hl (a x hx).2⟩
end
section
open Go.RowKit Go.Deep
section
variable {P:Program} {α:Type} {e:TypeId} {sz:Nat} {R:Rp α} {B B':Nat->Prop} {w w':World} {base:Nat} {v:Value} {l:List α}
theorem z7v (w:World) {ops:Array Oper} {o:Oper} {a:Act} {u:Act->World->Prop} {Q:Exit->Act->World->Prop} {E:Prop} (I:o.guard=none) (s x:Operand) (t:TypeId)
  (K:o.op= .call { callee:= .builtin .append,args:=#[s,x],argTypes:=#[t,t] })
  (e:TypeId) (i:TypeInfo) (q:Value) (sz f:Nat) (V:P.underlying t=some (.slice e)) (hi:P.info? e=some i) (hz:i.zero=some q)
  (M:i.size=sz) (D:i.bytes=f) (Y:q.cells.size=sz) (U:0<sz) (y:RpOk sz R) (base:Nat) (C:base<=w) (v:Value) (l:List α) (hs:a.eval s=v) (L:Grow e sz R B w base v l)
  (A:Option Addr) (m c:Nat) (hx:a.eval x= .slice A m c) (g:List α) (hm:m=g) (O:SlAt sz R (z21 B w v) w A g) (G:(l.length+m)*f<=140737488355328) (z:0<f)
  (h:∀v' w',Grow e sz R B w' base v' (l++g)->w.grownBy w' v.ownBlock->u (a.put o.dst v') w'):if Region.wanted o (yielded ops a.tmps)=true then Oper.wp P o a w u Q else E:=by
 have X:Region.wanted o (yielded ops a.tmps)=true:=by simp[Region.wanted,I]
 rw[if_pos X];obtain⟨v',w',Z,aa,ab,ac⟩:=zA0 (P:=P) w t o.type e i q sz f V hi hz M D Y U y base C v l L A m c g hm O G z;refine Lib.wp_append_run w s x t t K _ _ hs hx v' w' Z (h v' w' ?_ ab);refine Own.keep (S':=z21 B w' v') y aa (λb _=>rfl) (λb d J=>⟨⟨J,d.2.1,?_⟩,rfl⟩) λb d=>⟨d.1,d.2.2⟩
 rcases ac with j|j
 ·rw[j];exact d.2.2
 rw[j];have:=d.1;simp only[ne_eq,Option.some.injEq];omega
theorem Grow.one {g:Nat} {cs:Array Value} {x:α} (u:RpOk sz R) (hg:w.heap[g]? =some (.cells cs e (0,0))) (hb:base<=g) (a:cs.size=sz) (f:R (z21 B w (.slice (some ⟨g,0,none⟩) 1 1)) w cs.toList x):Grow e sz R B w base (.slice (some ⟨g,0,none⟩) 1 1) [x]:=by
 refine⟨sm,λb c=>⟨c.1,c.2.2⟩,cs.toList,⟨by simp[a],.inr ⟨g,1,cs,rfl,hb,hg,znl _,dc,by simp[a],take_of_length_le (by simp[a])⟩⟩,λi j d=>?_⟩;rcases i with _|i
 ·obtain rfl:x=j:=by simpa using d
  exact⟨cs.toList,by simp[a],λq y h=>by rw[Nat.zero_mul,Nat.zero_add];exact h,f⟩
 simp at d
end
end
end Go.Proofs.YtdggplhnfhcieaaGreatDoor
