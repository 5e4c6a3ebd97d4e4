/- Part 3 of the proof of vaultStays_holds. No condition. -/
import Derived.ArgAppend
import Derived.Test.YtdggplhnfhcieaaGreatDoorZ01
set_option linter.unusedVariables false
set_option linter.unusedSimpArgs false
set_option linter.unusedSectionVars false
set_option maxRecDepth 100000
namespace Go.Proofs.YtdggplhnfhcieaaGreatDoor
section
open Go.RowKit Go.Deep
section
variable {w w':World} {b:Nat} {cs:Array Value} {T:TypeId} {o:Obj}
theorem zD (h:w.heap[b]? =some (.cells cs T (0,0))):(∀j v,cs[j]? =some v->w.cell? ⟨b,j,none⟩=some v)/\(∀j,w.frozen? ⟨b,j,none⟩=false):=
 ⟨fun j v hj=>by rw [cell_of_row w b j cs T (0,0) h];exact hj,fun j=>by unfold World.frozen?;rw [h];simp⟩
theorem zM (h:w.heap[b]? =some o):b < w.heap.size:=by
 rcases Nat.lt_or_ge b w.heap.size with h1 | h1
 ·exact h1
 ·rw [Array.getElem?_eq_none h1] at h;cases h
theorem Z1 (o':Obj) (h:w.heap[b]? =some o):(w.alloc o').heap[b]? =some o:=by rw [heap_alloc_old _ _ (zM h)];exact h
theorem zH (o:Obj) (h:b=w.heap.size):(w.alloc o).heap[b]? =some o:=by subst h;exact heap_alloc_new _ _
theorem zR {a:Addr} (u:Value) (h:w.heap[b]? =some o) (hne:b≠a.block):(w.setCell a u).heap[b]? =some o:=by rw [Below.heap_setCell _ _ _ _ hne];exact h
theorem zI {i:Nat} {cs':Array Value} (u:Value) (h:w.heap[b]? =some (.cells cs T (0,0))) (hc:cs.setIfInBounds i u=cs'):(w.setCell ⟨b,i,none⟩ u).heap[b]? =some (.cells cs' T (0,0)):=by
 subst hc
 exact heap_setCell_same w b i cs T u h
theorem ZG (h:w.heap[b]? =some o):w.drew.heap[b]? =some o:=h
end
def z1e (B:Nat->Prop) (w:World) (v:Value):Nat->Prop:=fun b=>b < w.heap.size/\¬B b/\v.ownBlock≠some b
def Grow {α:Type} (e:TypeId) (sz:Nat) (R:Rp α) (B:Nat->Prop) (w:World) (base:Nat) (v:Value) (l:List α):Prop:=Own e sz R (z1e B w v) w base v l
section
variable {P:Program} {α:Type} {e:TypeId} {sz:Nat} {R:Rp α} {B B':Nat->Prop} {w w':World} {base:Nat} {v:Value} {l:List α}
theorem Grow.nil:Grow e sz R B w base (.slice none 0 0) ([]:List α):=Own.nil fun b h=>h.1
theorem Grow.empty {g:Nat} (hg:w.heap[g]? =some (.cells #[] e (0,0))) (hb:base<=g):Grow e sz R B w base (.slice (some ⟨g,0,none⟩) 0 0) ([]:List α):=
 Own.empty hg hb fun b h=>⟨h.1,fun e=>h.2.2 (by rw [e];rfl)⟩
theorem Grow.base_le (h:Grow e sz R B w base v l):∀b,v.ownBlock=some b->base<=b/\b < w.heap.size:=Own.base_le h
theorem Grow.shape (h:Grow e sz R B w base v l):∃A c,v= .slice A l.length c:=Own.shape h
theorem Grow.shape' (h:Grow e sz R B w base v l):∃A n c,v= .slice A n c/\n=l.length:=by
 obtain ⟨A,c,h⟩:=h.shape
 exact ⟨A,_,c,h,rfl⟩
theorem Grow.keep (ok:RpOk sz R) (h:Grow e sz R B w base v l) (hz:w.heap.size<=w'.heap.size) (hB:∀b,b < w.heap.size->B' b->B b) (hk:∀b,b < w.heap.size->¬B b->w'.heap[b]? =w.heap[b]?) (hv:∀b,v.ownBlock=some b->w'.heap[b]? =w.heap[b]?):
  Grow e sz R B' w' base v l:=by
 refine Own.keep ok h hv (fun b hb hl=>⟨⟨by omega,fun h'=>hb.2.1 (hB b hl h'),hb.2.2⟩,hk b hl hb.2.1⟩) fun b hb=>⟨hb.1,hb.2.2⟩
theorem Grow.alloc (ok:RpOk sz R) (h:Grow e sz R B w base v l) (o:Obj):Grow e sz R B (w.alloc o) base v l:=
 h.keep ok (by simp) (fun _ _ h=>h) (fun b hl _=>heap_alloc_old _ _ hl) fun b hv=>heap_alloc_old _ _ (h.base_le b hv).2
theorem Grow.below (ok:RpOk sz R) (h:Grow e sz R B w base v l) (hb:Below w.heap.size w w'):Grow e sz R B w' base v l:=
 h.keep ok hb.size (fun _ _ h=>h) (fun b hl _=>hb.block b hl) fun b hv=>hb.block b (h.base_le b hv).2
theorem Grow.sl (ok:RpOk sz R) (h:Grow e sz R B w base v l) {S:Nat->Prop} (hS:∀b,b < w.heap.size->¬B b->S b) (hv:∀b,v.ownBlock=some b->S b):Sl sz R S w v l:=by
 obtain ⟨A,c,hv',h1,h2,h3,_⟩:=Own.sl ok h
 obtain ⟨_,_,_,⟨_,h4'⟩,h5⟩:=h
 refine ⟨A,c,hv',h1,h2,h3,fun i x hx=>?_⟩
 rcases h4' with ⟨hv0,hn⟩ | ⟨g,cap,cur,hvg,hb,hg,hnc,hcm,hcs,htk⟩
 ·have:l=[]:=List.eq_nil_of_length_eq_zero hn
  subst this
  simp at hx
 ·obtain ⟨ys,y1,y2,y3⟩:=h5 i x hx
  have hA:A=some ⟨g,0,none⟩:=by rw [hvg] at hv';cases hv';rfl
  refine ⟨g,0,ys,hA,hv g (by rw [hvg];rfl),y1,fun j y hj=>?_,ok.keep y3 fun b hb' hl=>⟨?_,rfl⟩⟩
  ·have hx':=y2 j y hj
   rw [cell_of_row w g _ cur e (0,0) hg]
   rw [<-htk,List.getElem?_take] at hx'
   split at hx'
   ·simpa using hx'
   ·cases hx'
  ·exact hS b hl hb'.2.1
theorem yT (w:World) {ops:Array Oper} {rest:List Oper} {o:Oper} {a:Act} {Q:Exit->Act->World->Prop} (hgd:o.guard=none) (s x:Operand) (t:TypeId)
  (ho:o.op= .call { callee:= .builtin .append,args:=#[s,x],argTypes:=#[t,t] })
  (e:TypeId) (i:TypeInfo) (z:Value) (sz bytes:Nat) (ht:P.underlying t=some (.slice e)) (hi:P.info? e=some i) (hz:i.zero=some z)
  (hsize:i.size=sz) (hby:i.bytes=bytes) (hzs:z.cells.size=sz) (hsz:0 < sz) (ok:RpOk sz R) (base:Nat) (hbase:base<=w.heap.size) (v:Value) (l:List α) (hs:a.eval s=v) (hown:Grow e sz R B w base v l)
  (A:Option Addr) (m c:Nat) (hx:a.eval x= .slice A m c) (l2:List α) (hm:m=l2.length) (hsl:SlAt sz R (z1e B w v) w A l2) (hbytes:(l.length+m)*bytes<=140737488355328) (hb0:0 < bytes)
  (h:∀v' w',Grow e sz R B w' base v' (l++l2)->w.grownBy w' v.ownBlock->(v'.ownBlock=v.ownBlock\/v'.ownBlock=some w.heap.size)->wpList P ops Q rest (a.put o.dst v') w'):wpList P ops Q (o :: rest) a w:=by
 refine z8u w hgd s x t ho e i z sz bytes ht hi hz hsize hby hzs hsz ok base hbase v l hs hown A m c hx l2 hm hsl hbytes hb0 fun v' w' g1 g2 g3=>h v' w' ?_ g2 g3
 refine Own.keep (S':=z1e B w' v') ok g1 (fun b _=>rfl) (fun b hb hl=>⟨⟨hl,hb.2.1,?_⟩,rfl⟩) fun b hb=>⟨hb.1,hb.2.2⟩
 rcases g3 with g3 | g3
 ·rw [g3];exact hb.2.2
 ·rw [g3];have:=hb.1;simp only [ne_eq,Option.some.injEq];omega
theorem zLu {S:Nat->Prop} {b o:Nat} {x:α} (ys:List Value) (hS:S b) (hl:ys.length=sz) (hc:∀j y,ys[j]? =some y->w.cell? ⟨b,o+j,none⟩=some y) (hR:R S w ys x):SlAt sz R S w (some ⟨b,o,none⟩) [x]:=by
 intro i z hi
 rcases i with _ | i
 ·simp at hi
  subst hi
  exact ⟨b,o,ys,rfl,hS,hl,fun j y hj=>by rw [Nat.zero_mul,Nat.zero_add];exact hc j y hj,hR⟩
 ·simp at hi
end
theorem zHn {B:Nat->Prop} {w:World} {v:Value} (o:Obj):Kept (z1e B w v) (z1e B (w.alloc o) v) w (w.alloc o):=fun b hb hl=>
 ⟨⟨by simp;omega,hb.2.1,hb.2.2⟩,heap_alloc_old _ _ hl⟩
theorem zFt {w w' w'':World} {row:Option Nat} (h:w.grownBy w' row) (k:w'.grownBy w'' row):w.grownBy w'' row:=
 ⟨k.os.trans h.os,k.tape.trans h.tape,k.output.trans h.output,Nat.le_trans h.size k.size,fun b hl hne=>(k.block b (Nat.lt_of_lt_of_le hl h.size) hne).trans (h.block b hl hne)⟩
section
variable {P:Program} {α:Type} {e:TypeId} {sz:Nat} {R:Rp α} {B B':Nat->Prop} {base:Nat} {v:Value} {l:List α}
theorem z15 (W:World) (ys:List Value) {ops:Array Oper} {rest:List Oper} {o:Oper} {a:Act} {Q:Exit->Act->World->Prop} (hgd:o.guard=none) (s x:Operand) (t:TypeId)
  (ho:o.op= .call { callee:= .builtin .append,args:=#[s,x],argTypes:=#[t,t] })
  (e:TypeId) (i:TypeInfo) (z:Value) (sz bytes:Nat) (ht:P.underlying t=some (.slice e)) (hi:P.info? e=some i) (hz:i.zero=some z)
  (hsize:i.size=sz) (hby:i.bytes=bytes) (hzs:z.cells.size=sz) (hsz:0 < sz) (ok:RpOk sz R) (base:Nat) (hbase:base<=W.heap.size) (v:Value) (l:List α) (hs:a.eval s=v) (hown:Grow e sz R B W base v l)
  (c N:Nat) (hx:a.eval x= .slice (some ⟨N,0,none⟩) 1 c) (hN:N=W.heap.size) (x0:α) (hB:∀b,B b->b < W.heap.size) (hR:R (z1e B W v) W ys x0) (hbytes:(l.length+1)*bytes<=140737488355328) (hb0:0 < bytes)
  (h:∀v' w',Grow e sz R B w' base v' (l++[x0])->W.grownBy w' v.ownBlock->(v'.ownBlock=v.ownBlock\/v'.ownBlock=some (W.heap.size+1))->wpList P ops Q rest (a.put o.dst v') w'):wpList P ops Q (o :: rest) a (W.alloc (.cells ys.toArray e)):=by
 subst hN
 refine yT (B:=B) (W.alloc (.cells ys.toArray e)) hgd s x t ho e i z sz bytes ht hi hz hsize hby hzs hsz ok base (by simp;omega) v l hs (hown.alloc ok _) _ 1 c hx [x0] rfl ?_ hbytes hb0 ?_
 ·refine zLu ys ⟨by simp,fun h=>?_,fun h=>?_⟩ (ok.len hR) (fun j y hj=>?_) (ok.keep hR (zHn _))
  ·have:=hB _ h;omega
  ·have:=(hown.base_le _ h).2;omega
  ·rw [cell_of_row _ W.heap.size _ ys.toArray e (0,0) (heap_alloc_new W _)]
   simpa using hj
 ·intro v' w' g1 g2 g3
  refine h v' w' g1 (zFt (World.grownBy_alloc W _ _) g2) ?_
  simpa using g3
end
end
section
open Go.RowKit Go.Deep
theorem z7o {b:Nat} {T:TypeId}:∀(vs:List Value) (w:World) (o:Nat) (cs:Array Value),w.heap[b]? =some (.cells cs T (0,0))->o+vs.length<=cs.size->
  ∃cs',(w.setCells b o vs).heap[b]? =some (.cells cs' T (0,0))/\cs'.size=cs.size/\(∀j,j < vs.length->cs'[o+j]? =vs[j]?)/\∀j,(j < o\/o+vs.length<=j)->cs'[j]? =cs[j]?
 | [],w,o,cs,h,_=>⟨cs,h,rfl,fun j hj=>by simp at hj,fun j _=>rfl⟩
 | v :: vs,w,o,cs,h,hl=>by
  simp only [List.length_cons] at hl
  obtain ⟨cs',h1,h2,h3,h4⟩:=z7o vs (w.setCell ⟨b,o,none⟩ v) (o+1) (cs.setIfInBounds o v) (zI v h rfl) (by rw [Array.size_setIfInBounds];omega)
  refine ⟨cs',by simpa only [World.setCells] using h1,by rw [h2,Array.size_setIfInBounds],fun j hj=>?_,fun j hj=>?_⟩
  ·rcases j with _ | j
   ·rw [Nat.add_zero,h4 o (.inl (by omega)),Array.getElem?_setIfInBounds,if_pos rfl,if_pos (by omega)]
    rfl
   ·simp only [List.length_cons] at hj
    have:=h3 j (by omega)
    rw [show o+(j+1)=o+1+j by omega,this]
    rfl
  ·simp only [List.length_cons] at hj
   rw [h4 j (by omega),Array.getElem?_setIfInBounds,if_neg (by omega)]
theorem z10 (b:Nat):∀(vs:List Value) (w:World) (o:Nat),(w.setCells b o vs).os=w.os/\(w.setCells b o vs).tape=w.tape/\(w.setCells b o vs).output=w.output/\(w.setCells b o vs).heap.size=w.heap.size/\∀k,k≠b->(w.setCells b o vs).heap[k]? =w.heap[k]?
 | [],w,o=>⟨rfl,rfl,rfl,rfl,fun _ _=>rfl⟩
 | v :: vs,w,o=>by
  have h:=z10 b vs (w.setCell ⟨b,o,none⟩ v) (o+1)
  have e:w.setCells b o (v :: vs)=(w.setCell ⟨b,o,none⟩ v).setCells b (o+1) vs:=rfl
  have B:=(Below.refl 0 w).setCell (p:=⟨b,o,none⟩) (Nat.zero_le _) v
  rw [e]
  exact ⟨h.1.trans B.os,h.2.1.trans B.tape,h.2.2.1.trans B.output,h.2.2.2.1.trans (by simp),fun k hk=>(h.2.2.2.2 k hk).trans (Below.heap_setCell _ _ _ _ hk)⟩
theorem z47 {sz:Nat}:∀{l:List (List Value)},(∀x∈l,x.length=sz)->l.flatten.length=l.length*sz
 | [],_=>by simp
 | x :: l,h=>by
  have:=z47 (sz:=sz) (l:=l) fun y hy=>h y (List.mem_cons_of_mem _ hy)
  rw [List.flatten_cons,List.length_append,this,h x (List.mem_cons_self ..),List.length_cons,Nat.add_mul]
  omega
def RowC (e:TypeId) (sz:Nat) (w:World) (v:Value) (l:List (List Value)):Prop:=
 (∀x∈l,x.length=sz/\∀u∈x,u.oneCell'=true)/\((v= .slice none 0 0/\l=[])\/∃g off cap cur,v= .slice (some ⟨g,off,none⟩) l.length cap/\w.heap[g]? =some (.cells cur e (0,0))/\l.length<=cap/\cap<=maxLen/\off+cap*sz<=cur.size/\∀q u,l.flatten[q]? =some u->cur[off+q]? =some u)
section
variable {e:TypeId} {sz:Nat}
theorem RowC.nil (w:World):RowC e sz w (.slice none 0 0) []:=⟨fun x hx=>by simp at hx,.inl ⟨rfl,rfl⟩⟩
theorem RowC.keep {w w':World} {v:Value} {l:List (List Value)} (h:RowC e sz w v l) (k:∀b,v.ownBlock=some b->w'.heap[b]? =w.heap[b]?):RowC e sz w' v l:=by
 obtain ⟨h0,h⟩:=h
 refine ⟨h0,?_⟩
 rcases h with h | ⟨g,off,cap,cur,hv,hg,r⟩
 ·exact .inl h
 ·exact .inr ⟨g,off,cap,cur,hv,(k g (by rw [hv];rfl)).trans hg,r⟩
theorem RowC.lt {w:World} {v:Value} {l:List (List Value)} (h:RowC e sz w v l):∀b,v.ownBlock=some b->b < w.heap.size:=by
 rcases h.2 with ⟨rfl,_⟩ | ⟨g,off,cap,cur,rfl,hg,r⟩
 ·intro b hb;cases hb
 ·intro b hb
  obtain rfl:g=b:=Option.some.inj hb
  exact zM hg
theorem RowC.shape {w:World} {v:Value} {l:List (List Value)} (h:RowC e sz w v l):∃A c,v= .slice A l.length c/\(l≠[]->∃g o,A=some ⟨g,o,none⟩):=by
 rcases h.2 with ⟨rfl,rfl⟩ | ⟨g,off,cap,cur,rfl,_⟩
 ·exact ⟨_,_,rfl,fun h=>absurd rfl h⟩
 ·exact ⟨_,_,rfl,fun _=>⟨_,_,rfl⟩⟩
end
end
section
open Go.RowKit
structure ButB (B:Nat->Prop) (w w':World):Prop where
 os:w'.os=w.os
 tape:w'.tape=w.tape
 output:w'.output=w.output
 size:w.heap.size<=w'.heap.size
 block:∀k,k < w.heap.size->¬B k->w'.heap[k]? =w.heap[k]?
section
variable {B:Nat->Prop} {w w1 w':World}
theorem ButB.refl (B:Nat->Prop) (w:World):ButB B w w:=⟨rfl,rfl,rfl,Nat.le_refl _,fun _ _ _=>rfl⟩
theorem ButB.of (h:Below w.heap.size w w'):ButB B w w':=⟨h.os,h.tape,h.output,h.size,fun k hk _=>h.block k hk⟩
theorem ButB.grown {m:Nat} (h:w.grownBy w' (some m)) (hB:B m):ButB B w w':=⟨h.os,h.tape,h.output,h.size,fun k hk hb=>h.block k hk fun e=>hb (by cases e;exact hB)⟩
theorem ButB.set (h:ButB B w w') (a:Addr) (v:Value) (ha:B a.block):ButB B w (w'.setCell a v):=have b:=(Below.refl 0 w').setCell (p:=a) (Nat.zero_le _) v
 ⟨b.os.trans h.os,b.tape.trans h.tape,b.output.trans h.output,by simpa using h.size,fun k hk hc=>(Below.heap_setCell _ _ _ _ (fun e=>hc (by rw [e];exact ha))).trans (h.block k hk hc)⟩
theorem ButB.trans (h:ButB B w w1) (k:ButB B w1 w'):ButB B w w':=⟨k.os.trans h.os,k.tape.trans h.tape,k.output.trans h.output,Nat.le_trans h.size k.size,fun b hb hc=>(k.block b (Nat.lt_of_lt_of_le hb h.size) hc).trans (h.block b hb hc)⟩
theorem ButB.below {n:Nat} {w0:World} (h:Below n w0 w) (hn:n<=w.heap.size) (hB:∀k,B k->n<=k) (k:ButB B w w'):Below n w0 w':=
 ⟨k.os.trans h.os,k.tape.trans h.tape,k.output.trans h.output,Nat.le_trans h.size k.size,fun b hb=>(k.block b (by omega) fun hb'=>by have:=hB b hb';omega).trans (h.block b hb)⟩
end
theorem ButB.mono {B B':Nat->Prop} {w w':World} (h:ButB B w w') (k:∀x,B x->B' x):ButB B' w w':=⟨h.os,h.tape,h.output,h.size,fun x hx hb=>h.block x hx fun e=>hb (k x e)⟩
theorem ButB.kept {B S S':Nat->Prop} {w w':World} (h:ButB B w w') (hS:∀x,S x->S' x/\¬B x):Go.Proofs.YtdggplhnfhcieaaGreatDoor.Kept S S' w w':=fun x hx hl=>⟨(hS x hx).1,h.block x hl (hS x hx).2⟩
end
section
abbrev GN:=Bool×Nm×Int
def uN (s:Nm):GN:=(false,s,0)
def eN (s:Nm) (e:Int):GN:=(true,s,e)
inductive Reach (E:List (GN×GN)) (a:GN):GN->Prop
 | refl:Reach E a a
 | step {b c:GN}:Reach E a b->(b,c)∈E->Reach E a c
theorem Reach.trans {E:List (GN×GN)} {a b c:GN} (r:Reach E a b) (s:Reach E b c):Reach E a c:=by
 induction s with
 | refl=>exact r
 | step _ hm ih=>exact .step ih hm
theorem Reach.closed {E:List (GN×GN)} {a:GN} (S:GN->Prop) (h0:S a) (hS:∀x∈E,S x.1->S x.2) {b:GN} (r:Reach E a b):S b:=by
 induction r with
 | refl=>exact h0
 | step _ hm ih=>exact hS _ hm ih
instance memDec (s:Nm) (l:List Nm):Decidable (s∈l):=decidable_of_iff (∃y∈l,y=s) (by simp)
def z4x {α:Type} (key:α->Nm) (out:List α) (x:α):List α:=if key x∈out.map key then out else out++[x]
def ZV {α:Type} (key:α->Nm) (l:List α):List α:=l.foldl (z4x key) []
theorem z5f {α:Type} {p:List α->Prop} (h0:p []) (hs:∀l x,p l->p (l++[x])) (l:List α):p l:=by
 have:∀r:List α,p r.reverse:=by
  intro r
  induction r with
  | nil=>exact h0
  | cons x r ih=>rw [List.reverse_cons];exact hs _ _ ih
 have h:=this l.reverse
 rwa [List.reverse_reverse] at h
section
variable {α:Type} (key:α->Nm)
theorem z9x (l:List α) (x:α):ZV key (l++[x])=z4x key (ZV key l) x:=by simp [ZV,List.foldl_append]
theorem z8x (l:List α) (s:Nm):s∈(ZV key l).map key↔s∈l.map key:=by
 induction l using z5f with
 | h0=>simp [ZV]
 | hs l x ih=>
  rw [z9x,z4x,List.map_append,List.mem_append,<-ih]
  split
  ·rename_i h
   constructor
   ·exact .inl
   ·rintro (h2 | h2)
    ·exact h2
    ·obtain rfl:s=key x:=by simpa using h2
     exact h
  ·rw [List.map_append,List.mem_append]
theorem z34 (l:List α) (x:α):ZV key (l++[x])=if key x∈l.map key then ZV key l else ZV key l++[x]:=by
 rw [z9x,z4x]
 by_cases h:key x∈l.map key
 ·rw [if_pos h,if_pos ((z8x key l _).2 h)]
 ·rw [if_neg h,if_neg fun e=>h ((z8x key l _).1 e)]
theorem z4y (l:List α):(ZV key l).length<=l.length:=by
 induction l using z5f with
 | h0=>simp [ZV]
 | hs l x ih=>
  rw [z34]
  split
  ·rw [List.length_append];omega
  ·rw [List.length_append,List.length_append];simpa using ih
theorem z9y (l:List α) (x:α) (h:x∈ZV key l):x∈l:=by
 induction l using z5f with
 | h0=>simp [ZV] at h
 | hs l y ih=>
  rw [z34] at h
  split at h
  ·exact List.mem_append_left _ (ih h)
  ·rcases List.mem_append.1 h with h | h
   ·exact List.mem_append_left _ (ih h)
   ·exact List.mem_append_right _ h
end
def zP (st:State) (s:Nm):Option Folder:=st.folders.find? fun f=>decide (f.name=s)
theorem z24 {st:State} {s:Nm} {f:Folder} (h:zP st s=some f):f.name=s:=by simpa using List.find?_some h
theorem z1i {st:State} {s:Nm} {f:Folder} (h:zP st s=some f):f∈st.folders:=List.mem_of_find?_eq_some h
def z2c:List Epoch->Int->Int
 | [],e=>e
 | x :: l,e=>if x.place=1 then e else z2c l (e+1)
theorem zBw:∀(l:List Epoch) (e:Int),e<=z2c l e/\z2c l e<=e+l.length
 | [],e=>by simp [z2c]
 | x :: l,e=>by
  rw [z2c]
  have:=zBw l (e+1)
  split
  ·simp only [List.length_cons];omega
  ·simp only [List.length_cons];omega
def z0e (l:List Epoch) (e:Int):Int:=if 1<=e/\e<=l.length then z2c (l.drop e.toNat) e else e
theorem zJu {l:List Epoch} {e:Int} (h1:1<=e) (h2:e<=l.length):e<=z0e l e/\z0e l e<=l.length:=by
 rw [z0e,if_pos ⟨h1,h2⟩]
 have:=zBw (l.drop e.toNat) e
 rw [List.length_drop] at this
 omega
theorem z9z {l:List Epoch} {e:Int} (h:¬(1<=e/\e<=l.length)):z0e l e=e:=by rw [z0e,if_neg h]
def z4z (l:List Epoch) (w:Wrap):Int:=if w.seed then z0e l w.epoch else w.epoch
def z02 (f:Folder) (l:List Wrap):List (GN×GN):=l.map fun w=>(uN w.name,eN f.name (z4z f.epochs w))
def z2d (f:Folder) (l:List Link):List (GN×GN):=l.map fun x=>(eN x.to x.seq,eN f.name x.epoch)
def z2o (s:Nm) (n:Nat):List (GN×GN):=(List.range n).map fun i:Nat=>(eN s ((i:Int)+2),eN s ((i:Int)+1))
def z0t (f:Folder):List (GN×GN):=z2o f.name (f.epochs.length - 1)++(z02 f (ZV Wrap.name f.wraps)++z2d f f.links)
def z03 (l:List Pair):List (GN×GN):=l.map fun p=>(uN p.to,uN p.frm)
def z5p (st:State):List (GN×GN):=z03 st.deposits++(ZV Folder.name st.folders).flatMap z0t
def zJv (st:State) (u fo:Nm) (e:Int):Prop:=Reach (z5p st) (uN u) (eN fo e)
def IsMost (p:Int->Prop) (len:Nat) (n:Int):Prop:=0<=n/\n<=len/\(n=0\/p n)/\∀e:Int,1<=e->e<=len->p e->e<=n
theorem IsMost.one {p q:Int->Prop} {len:Nat} {n m:Int} (h:IsMost p len n) (k:IsMost q len m) (e:∀x,p x↔q x):n=m:=by
 obtain ⟨a1,a2,a3,a4⟩:=h
 obtain ⟨b1,b2,b3,b4⟩:=k
 have h1:n<=m:=by
  rcases a3 with rfl | h
  ·exact b1
  ·by_cases h0:1<=n
   ·exact b4 n h0 a2 ((e _).1 h)
   ·omega
 have h2:m<=n:=by
  rcases b3 with rfl | h
  ·exact a1
  ·by_cases h0:1<=m
   ·exact a4 m h0 b2 ((e _).2 h)
   ·omega
 omega
def IsReach (st:State) (u fo:Nm) (n:Int):Prop:=(zP st fo=none/\n=0)\/∃f,zP st fo=some f/\IsMost (zJv st u fo) f.epochs.length n
theorem IsReach.one {st:State} {u fo:Nm} {n m:Int} (h:IsReach st u fo n) (k:IsReach st u fo m):n=m:=by
 rcases h with ⟨h1,rfl⟩ | ⟨f,h1,h2⟩
 ·rcases k with ⟨k1,rfl⟩ | ⟨g,k1,k2⟩
  ·rfl
  ·rw [h1] at k1;cases k1
 ·rcases k with ⟨k1,rfl⟩ | ⟨g,k1,k2⟩
  ·rw [h1] at k1;cases k1
  ·obtain rfl:f=g:=Option.some.inj (h1.symm.trans k1)
   exact h2.one k2 fun _=>Iff.rfl
def z2p (nm:Nm) (len:Nat) (o:Int) (n:GN):Int:=if n.1=true/\n.2.1=nm/\1<=n.2.2/\n.2.2<=len then max o n.2.2 else o
def z0f (nm:Nm) (len:Nat) (l:List GN):Int:=l.foldl (z2p nm len) 0
theorem z8y (nm:Nm) (len:Nat) (l:List GN) (x:GN):z0f nm len (l++[x])=z2p nm len (z0f nm len l) x:=by simp [z0f,List.foldl_append]
theorem zJw (nm:Nm) (len:Nat) (l:List GN):IsMost (fun e=>eN nm e∈l) len (z0f nm len l):=by
 induction l using z5f with
 | h0=>exact ⟨by simp [z0f],by simp [z0f],.inl rfl,fun e _ _ h=>by simp at h⟩
 | hs l x ih=>
  obtain ⟨a1,a2,a3,a4⟩:=ih
  rw [z8y,z2p]
  split
  ·rename_i h
   obtain ⟨h1,h2,h3,h4⟩:=h
   obtain ⟨x1,x2,x3⟩:=x
   dsimp only at h1 h2 h3 h4⊢
   subst h1 h2
   refine ⟨by omega,by omega,?_,fun e h5 h6 h7=>?_⟩
   ·rcases Int.le_total (z0f x2 len l) x3 with h9 | h9
    ·rw [Int.max_eq_right h9];exact .inr (List.mem_append_right _ (by simp [eN]))
    ·rw [Int.max_eq_left h9]
     exact a3.imp id fun h=>List.mem_append_left _ h
   ·rcases List.mem_append.1 h7 with h8 | h8
    ·have:=a4 e h5 h6 h8;omega
    ·have:eN x2 e=(true,x2,x3):=by simpa using h8
     simp only [eN,Prod.mk.injEq,true_and] at this
     omega
  ·rename_i h
   refine ⟨a1,a2,a3.imp id fun h=>List.mem_append_left _ h,fun e h5 h6 h7=>?_⟩
   rcases List.mem_append.1 h7 with h8 | h8
   ·exact a4 e h5 h6 h8
   ·have h9:eN nm e=x:=by simpa using h8
    subst h9
    exact absurd ⟨rfl,rfl,h5,h6⟩ h
theorem zHl {st:State} {u fo:Nm} {f:Folder} (hf:zP st fo=some f) {l:List GN} (h:∀x,x∈l↔Reach (z5p st) (uN u) x):IsReach st u fo (z0f f.name f.epochs.length l):=by
 refine .inr ⟨f,hf,?_⟩
 obtain ⟨a1,a2,a3,a4⟩:=zJw f.name f.epochs.length l
 rw [z24 hf] at a1 a2 a3 a4⊢
 exact ⟨a1,a2,a3.imp id fun k=>(h _).1 k,fun e h1 h2 h3=>a4 e h1 h2 ((h _).2 h3)⟩
structure GRep (E:List (GN×GN)) (m:Nat) (ns:List GN) (adj:List (List Nat)):Prop where
 nodup:ns.Nodup
 len:adj.length=ns.length
 lt:∀(i:Nat) (l:List Nat) (j:Nat),adj[i]? =some l->j∈l->j < ns.length
 edge:∀a b,(a,b)∈E↔∃(i j:Nat) (l:List Nat),ns[i]? =some a/\ns[j]? =some b/\adj[i]? =some l/\j∈l
 small:ns.length<=m
 deg:∀(i:Nat) (l:List Nat),adj[i]? =some l->l.length<=m
theorem z9e {α:Type} {l:List α} (h:l.Nodup) {i j:Nat} {x:α} (hi:l[i]? =some x) (hj:l[j]? =some x):i=j:=by
 have h1:=(List.getElem?_eq_some_iff.1 hi)
 have h2:=(List.getElem?_eq_some_iff.1 hj)
 rcases Nat.lt_trichotomy i j with k | k | k
 ·exact absurd (h1.2.trans h2.2.symm) (List.pairwise_iff_getElem.1 h i j h1.1 h2.1 k)
 ·exact k
 ·exact absurd (h2.2.trans h1.2.symm) (List.pairwise_iff_getElem.1 h j i h2.1 h1.1 k)
section
variable {E:List (GN×GN)} {m:Nat} {ns:List GN} {adj:List (List Nat)}
theorem GRep.start:GRep [] 0 [] []:=⟨List.nodup_nil,rfl,fun i l j h=>by simp at h,fun a b=>by simp,Nat.le_refl _,fun i l h=>by simp at h⟩
theorem GRep.mono (h:GRep E m ns adj) {m':Nat} (hm:m<=m'):GRep E m' ns adj:=⟨h.nodup,h.len,h.lt,h.edge,Nat.le_trans h.small hm,fun i l e=>Nat.le_trans (h.deg i l e) hm⟩
theorem GRep.again (h:GRep E m ns adj) {x:GN×GN} (hx:x∈E):GRep (E++[x]) m ns adj:=⟨h.nodup,h.len,h.lt,fun a b=>by
 rw [<-h.edge,List.mem_append]
 constructor
 ·rintro (k | k)
  ·exact k
  ·rw [List.mem_singleton.1 k];exact hx
 ·exact .inl,h.small,h.deg⟩
theorem GRep.node (h:GRep E m ns adj) {k:GN} (hk:k∉ns):GRep E (m+1) (ns++[k]) (adj++[[]]):=by
 have hlt:∀i l j,(adj++[[]])[i]? =some l->j∈l->adj[i]? =some l/\j < ns.length:=fun i l j hi hj=>by
  rcases Nat.lt_or_ge i adj.length with hl | hl
  ·rw [List.getElem?_append_left hl] at hi
   exact ⟨hi,h.lt i l j hi hj⟩
  ·rw [List.getElem?_append_right hl] at hi
   have:l=[]:=by
    rcases hq:i - adj.length with _ | q
    ·rw [hq] at hi;exact (by simpa using hi:[]=l).symm
    ·rw [hq] at hi;simp at hi
   subst this
   cases hj
 refine ⟨?_,by simp [h.len],fun i l j hi hj=>?_,fun a b=>?_,by have:=h.small;simp;omega,fun i l hi=>?_⟩
 ·refine List.nodup_append.2 ⟨h.nodup,by simp,fun a ha b hb=>?_⟩
  obtain rfl:b=k:=by simpa using hb
  exact fun e=>hk (e▸ha)
 ·have:=(hlt i l j hi hj).2
  simp;omega
 ·rw [h.edge]
  constructor
  ·rintro ⟨i,j,l,h1,h2,h3,h4⟩
   refine ⟨i,j,l,?_,?_,?_,h4⟩
   ·rw [List.getElem?_append_left (List.getElem?_eq_some_iff.1 h1).1];exact h1
   ·rw [List.getElem?_append_left (List.getElem?_eq_some_iff.1 h2).1];exact h2
   ·rw [List.getElem?_append_left (List.getElem?_eq_some_iff.1 h3).1];exact h3
  ·rintro ⟨i,j,l,h1,h2,h3,h4⟩
   obtain ⟨h5,h6⟩:=hlt i l j h3 h4
   have h7:i < ns.length:=by rw [<-h.len];exact (List.getElem?_eq_some_iff.1 h5).1
   rw [List.getElem?_append_left h7] at h1
   rw [List.getElem?_append_left h6] at h2
   exact ⟨i,j,l,h1,h2,h5,h4⟩
 ·rcases Nat.lt_or_ge i adj.length with hl | hl
  ·rw [List.getElem?_append_left hl] at hi
   have:=h.deg i l hi
   omega
  ·rw [List.getElem?_append_right hl] at hi
   have:l=[]:=by
    rcases hq:i - adj.length with _ | q
    ·rw [hq] at hi;exact (by simpa using hi:[]=l).symm
    ·rw [hq] at hi;simp at hi
   subst this
   simp
theorem GRep.link (h:GRep E m ns adj) {a b:GN} {i j:Nat} {l:List Nat} (ha:ns[i]? =some a) (hb:ns[j]? =some b) (hl:adj[i]? =some l):GRep (E++[(a,b)]) (m+1) ns (adj.set i (l++[j])):=by
 have hil:=(List.getElem?_eq_some_iff.1 hl).1
 have hjl:=(List.getElem?_eq_some_iff.1 hb).1
 refine ⟨h.nodup,by rw [List.length_set];exact h.len,fun i' l' j' h1 h2=>?_,fun a' b'=>?_,by have:=h.small;omega,fun i' l' h1=>?_⟩
 ·rw [List.getElem?_set] at h1
  split at h1
  ·rename_i e
   subst e
   try rw [if_pos hil] at h1
   obtain rfl:=Option.some.inj h1
   rcases List.mem_append.1 h2 with h2 | h2
   ·exact h.lt _ _ _ hl h2
   ·obtain rfl:j'=j:=by simpa using h2
    exact hjl
  ·exact h.lt _ _ _ h1 h2
 ·rw [List.mem_append,h.edge]
  constructor
  ·rintro (⟨i',j',l',h1,h2,h3,h4⟩ | h9)
   ·by_cases e:i=i'
    ·subst e
     obtain rfl:l'=l:=Option.some.inj (h3.symm.trans hl)
     exact ⟨i,j',l'++[j],h1,h2,by rw [List.getElem?_set_self hil],List.mem_append_left _ h4⟩
    ·exact ⟨i',j',l',h1,h2,by rw [List.getElem?_set_ne e];exact h3,h4⟩
   ·have h9:(a',b')=(a,b):=by simpa using h9
    rw [Prod.mk.injEq] at h9
    obtain ⟨rfl,rfl⟩:=h9
    exact ⟨i,j,l++[j],ha,hb,by rw [List.getElem?_set_self hil],List.mem_append_right _ (by simp)⟩
  ·rintro ⟨i',j',l',h1,h2,h3,h4⟩
   rw [List.getElem?_set] at h3
   split at h3
   ·rename_i e
    subst e
    try rw [if_pos hil] at h3
    obtain rfl:=Option.some.inj h3
    rcases List.mem_append.1 h4 with h4 | h4
    ·exact .inl ⟨i,j',l,h1,h2,hl,h4⟩
    ·obtain rfl:j'=j:=by simpa using h4
     obtain rfl:=Option.some.inj (h1.symm.trans ha)
     obtain rfl:=Option.some.inj (h2.symm.trans hb)
     exact .inr (by simp)
   ·exact .inl ⟨i',j',l',h1,h2,h3,h4⟩
 ·rw [List.getElem?_set] at h1
  split at h1
  ·rename_i e
   subst e
   try rw [if_pos hil] at h1
   obtain rfl:=Option.some.inj h1
   have:=h.deg _ _ hl
   simp;omega
  ·have:=h.deg _ _ h1
   omega
end
structure Srch (E:List (GN×GN)) (s:GN) (all:List GN) (i:Nat):Prop where
 nodup:all.Nodup
 head:s∈all
 sound:∀x∈all,Reach E s x
 done:∀(k:Nat) (x:GN),k < i->all[k]? =some x->∀y,(x,y)∈E->y∈all
theorem Srch.start (E:List (GN×GN)) (s:GN):Srch E s [s] 0:=⟨by simp,by simp,fun x hx=>by rw [List.mem_singleton.1 hx];exact .refl,fun k x hk=>by omega⟩
theorem Srch.add {E:List (GN×GN)} {s:GN} {all:List GN} {i:Nat} (h:Srch E s all i) {x y:GN} (hx:x∈all) (he:(x,y)∈E) (hy:y∉all) (hi:i<=all.length):Srch E s (all++[y]) i:=by
 refine ⟨List.nodup_append.2 ⟨h.nodup,by simp,fun a ha b hb=>?_⟩,List.mem_append_left _ h.head,fun z hz=>?_,fun k z hk hz v hv=>?_⟩
 ·obtain rfl:b=y:=by simpa using hb
  exact fun e=>hy (e▸ha)
 ·rcases List.mem_append.1 hz with hz | hz
  ·exact h.sound z hz
  ·rw [List.mem_singleton.1 hz]
   exact .step (h.sound x hx) he
 ·rw [List.getElem?_append_left (by omega)] at hz
  exact List.mem_append_left _ (h.done k z hk hz v hv)
theorem Srch.next {E:List (GN×GN)} {s:GN} {all:List GN} {i:Nat} (h:Srch E s all i) {x:GN} (hx:all[i]? =some x) (hd:∀y,(x,y)∈E->y∈all):Srch E s all (i+1):=
 ⟨h.nodup,h.head,h.sound,fun k z hk hz y hy=>by
  rcases Nat.lt_or_ge k i with h1 | h1
  ·exact h.done k z h1 hz y hy
  ·obtain rfl:k=i:=by omega
   obtain rfl:=Option.some.inj (hx.symm.trans hz)
   exact hd y hy⟩
theorem Srch.all {E:List (GN×GN)} {s:GN} {all:List GN} {i:Nat} (h:Srch E s all i) (hi:all.length<=i) (x:GN):x∈all↔Reach E s x:=by
 refine ⟨h.sound x,fun r=>r.closed (·∈all) h.head fun e he h1=>?_⟩
 obtain ⟨k,hk⟩:=List.getElem?_of_mem h1
 have:=(List.getElem?_eq_some_iff.1 hk).1
 exact h.done k _ (by omega) hk _ he
theorem z7n {α:Type}:∀{ks L:List α},ks.Nodup->(∀e∈ks,e∈L)->ks.length<=L.length
 | [],_,_,_=>Nat.zero_le _
 | k :: ks,L,hn,hs=>by
  obtain ⟨h1,h2⟩:=List.nodup_cons.1 hn
  obtain ⟨a,b,rfl⟩:=List.append_of_mem (hs k (List.mem_cons_self ..))
  have h3:=z7n (L:=a++b) h2 fun e he=>by
   have:=hs e (List.mem_cons_of_mem _ he)
   simp only [List.mem_append,List.mem_cons] at this⊢
   rcases this with h | rfl | h
   ·exact .inl h
   ·exact absurd he h1
   ·exact .inr h
  simp only [List.length_append,List.length_cons] at h3⊢
  omega
theorem zLt {ns all:List GN} {s:GN} (hn:all.Nodup) (hs:∀x∈all,x=s\/x∈ns):all.length<=ns.length+1:=by
 have:=z7n hn (L:=s :: ns) (fun x hx=>by
  rcases hs x hx with rfl | h
  ·exact List.mem_cons_self ..
  ·exact List.mem_cons_of_mem _ h)
 simpa using this
end
end Go.Proofs.YtdggplhnfhcieaaGreatDoor
