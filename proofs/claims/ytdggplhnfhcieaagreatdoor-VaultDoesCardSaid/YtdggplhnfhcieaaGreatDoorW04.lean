/- No condition. -/
import Derived.Test.YtdggplhnfhcieaaGreatDoorW03
set_option linter.all false
set_option maxRecDepth 100000
namespace Go.Proofs.YtdggplhnfhcieaaGreatDoor
open Go.Proofs.Tryz Cd Ce List
section
open Go.RowKit Go.Deep
def All2 {α β:Type} (p:α->β->Prop) (a:List α) (b:List β):Prop:=a.length=b.length/\∀(i:Nat) (x:α) (y:β),a[i]? =some x->b[i]? =some y->p x y
section
variable {α β:Type} {p q:α->β->Prop}
theorem All2.nil:All2 p [] []:=⟨rfl,λi b c a=>by simp at a⟩
theorem All2.imp {a:List α} {b:List β} (h:All2 p a b) (k:∀x y,p x y->q x y):All2 q a b:=⟨h.1,λi x y hx hy=>k x y (h.2 i x y hx hy)⟩
theorem All2.at {a:List α} {b:List β} (h:All2 p a b) {i:Nat} {y:β} (hy:b[i]? =some y):∃x,a[i]? =some x/\p x y:=by
 have d:=(zge hy).1;have c:a[i]? =some (a[i]'(by rw[h.1];exact d)):=qLgx _;exact⟨_,c,h.2 i _ y c hy⟩
theorem All2.snoc {a:List α} {b:List β} (h:All2 p a b) {x:α} {y:β} (k:p x y):All2 p (a++[x]) (b++[y]):=by
 refine⟨by simp[h.1],λi j l c e=>?_⟩;rcases Nat.lt_trichotomy i a with d|d|d
 ·rw[qLlx d] at c;rw[qLlx (by rw[<-h.1];exact d)] at e;exact h.2 i j l c e
 ·subst d;rw[qLrx (znl _),Nat.sub_self] at c;rw[qLrx (by rw[h.1];exact znl _),h.1,Nat.sub_self] at e;obtain rfl:=zsi c;obtain rfl:=zsi e;exact k
 rw[getElem?_eq_none (by simp;omega)] at c;cases c
theorem All2.set {a:List α} {b:List β} (h:All2 p a b) (i:Nat) {x:α} {y:β} (k:p x y):All2 p (a.set i x) (b.set i y):=by
 refine⟨by simp[h.1],λj l m c d=>?_⟩;rw[getElem?_set] at c d;by_cases e:i=j
 ·rw[if_pos e] at c d;split at c
  ·split at d
   ·obtain rfl:=zsi c;obtain rfl:=zsi d;exact k
   cases d
  cases c
 rw[if_neg e] at c d;exact h.2 j l m c d
end
inductive RK where
 | us|de|fo
 | ma (i:Nat)|ep (i:Nat)|it (i:Nat)|wr (i:Nat)|li (i:Nat)
 | ve (i j:Nat)
 deriving DecidableEq
def RK.ty:RK->TypeId
 | .us=>91
 | .de=>126
 | .fo=>74
 | .ma _=>84
 | .ep _=>130
 | .it _=>78
 | .wr _=>149
 | .li _=>151
 | .ve _ _=>80
def RK.sz:RK->Nat
 | .us=>2
 | .de=>2
 | .fo=>7
 | .ma _=>8
 | .ep _=>5
 | .it _=>2
 | .wr _=>3
 | .li _=>3
 | .ve _ _=>4
structure Row where
 v:Value
 cells:List (List Value)
abbrev RM:=RK->Row
def zO (R:RM) (k:RK) (r:Row):RM:=λa=>if a=k then r else R a
theorem YQ (R:RM) (k:RK) (r:Row):zO R k r k=r:=by unfold zO;rw[if_pos rfl]
theorem yB (R:RM) {k x:RK} (r:Row) (h:x≠k):zO R k r x=R x:=by unfold zO;rw[if_neg h]
def z01 (R:RM) (b:Nat):Prop:=∃k,(R k).v.ownBlock=some b
structure OS (base:Nat) (W:World) (R:RM):Prop where
 row:∀k,RowC k.ty k.sz W (R k).v (R k).cells
 inj:∀k k' b,(R k).v.ownBlock=some b->(R k').v.ownBlock=some b->k=k'
 low:∀k b,(R k).v.ownBlock=some b->base<=b
 len:∀k,(R k).cells.length<=10000
def Imm (X:Nat->Prop) (bw:Nat) (R:RM) (W:World):Nat->Prop:=λa=>a<W/\a≠bw/\¬z01 R a/\¬X a
structure Mut (bw:Nat) (R:RM) (W:World) (R':RM) (W':World):Prop where
 but:ButB (λb=>b=bw\/z01 R b) W W'
 fresh:∀b,z01 R' b->z01 R b\/W.heap.size<=b
section
variable {bw base:Nat} {R R' R2:RM} {W W' W2:World}
theorem Mut.refl (bw:Nat) (R:RM) (W:World):Mut bw R W R W:=⟨ButB.refl _ _,λ_ a=> .inl a⟩
theorem Mut.below (h:(bW W W':Prop)):Mut bw R W R W':=⟨ButB.of h,λ_ h=> .inl h⟩
theorem Mut.trans (h:Mut bw R W R' W') (k:Mut bw R' W' R2 W2):Mut bw R W R2 W2:=by
 refine⟨⟨k.but.os.trans h.but.os,k.but.tape.trans h.but.tape,k.but.output.trans h.but.output,qNtx h.but.size k.but.size,λb c d=>?_⟩,λb c=>?_⟩
 ·refine(k.but.block b (zll c h.but.size) λa=>?_).trans (h.but.block b c d);rcases a with a|a
  ·exact d (.inl a)
  rcases h.fresh b a with a|a
  ·exact d (.inr a)
  omega
 rcases k.fresh b c with a|a
 ·exact h.fresh b a
 exact .inr (qNtx h.but.size a)
theorem Mut.tail (h:Mut bw R W R' W') (k:ButB (λx=>W<=x) W' W2):Mut bw R W R' W2:=
 ⟨⟨k.os.trans h.but.os,k.tape.trans h.but.tape,k.output.trans h.but.output,qNtx h.but.size k.size,λa b c=>(k.block a (zll b h.but.size) om).trans (h.but.block a b c)⟩,h.fresh⟩
theorem Mut.kept {X:Nat->Prop} (h:Mut bw R W R' W'):Kept (Imm X bw R W) (Imm X bw R' W') W W':=λb k l=>by
 obtain⟨c,d,e,j⟩:=k;refine⟨⟨zll c h.but.size,d,λa=>?_,j⟩,h.but.block b c λa=>a.elim d e⟩;rcases h.fresh b a with a|a
 ·exact e a
 ·omega
theorem OS.to (h:OS base W R) (hb:∀b,z01 R b->W'.heap[b]? =W.heap[b]?):OS base W' R:=
 ⟨λa=>(h.row a).keep λb c=>hb b ⟨a,c⟩,h.inj,h.low,h.len⟩
theorem OS.below (h:OS base W R) (hb:(bW W W':Prop)):OS base W' R:=
 h.to λa ⟨c,b⟩=>hb.block a ((h.row c).lt a b)
theorem OS.lt (h:OS base W R) {b:Nat} (hb:z01 R b):b<W:=by
 obtain⟨c,a⟩:=hb;exact(h.row c).lt b a
theorem OS.put (h:OS base W R) (s:base<=W) (k:RK) (r:Row) (hb:ButB (λb=>(R k).v.ownBlock=some b) W W') (hr:RowC k.ty k.sz W' r.v r.cells) (hl:r.cells.length<=10000) (n:∀b,r.v.ownBlock=some b->(R k).v.ownBlock=some b\/W.heap.size<=b):
  OS base W' (zO R k r)/\Mut bw R W (zO R k r) W':=by
 refine⟨⟨λa=>?_,λa l b c j=>?_,λa b c=>?_,λa=>?_⟩,⟨hb.mono λb d=> .inr ⟨k,d⟩,λb ⟨a,c⟩=>?_⟩⟩
 ·by_cases e:a=k
  ·subst e;rw[YQ];exact hr
  rw[yB R r e];refine(h.row a).keep λb d=>hb.block b ((h.row a).lt b d) λo=>e (h.inj a k b d o)
 ·by_cases e:a=k
  ·subst e;rw[YQ] at c;by_cases m:l=a
   ·exact m.symm
   rw[yB R r m] at j;rcases n b c with d|d
   ·exact h.inj a l b d j
   have:=(h.row l).lt b j;omega
  rw[yB R r e] at c;by_cases m:l=k
  ·subst m;rw[YQ] at j;rcases n b j with d|d
   ·exact h.inj a l b c d
   have:=(h.row a).lt b c;omega
  rw[yB R r m] at j;exact h.inj a l b c j
 ·by_cases e:a=k
  ·subst e;rw[YQ] at c;rcases n b c with d|d
   ·exact h.low a b d
   omega
  rw[yB R r e] at c;exact h.low a b c
 ·by_cases e:a=k
  ·subst e;rw[YQ];exact hl
  rw[yB R r e];exact h.len a
 by_cases e:a=k
 ·subst e;rw[YQ] at c;exact(n b c).imp (λd=>⟨a,d⟩) id
 rw[yB R r e] at c;exact .inl ⟨a,c⟩
end
def hdr (R:RM) (i:Nat) (f:Folder):List Value:=[.string f.name,.int .i64 f.turn,(R (.ma i)).v,(R (.ep i)).v,(R (.it i)).v,(R (.wr i)).v,(R (.li i)).v]
structure IsFo (S:Nat->Prop) (W:World) (R:RM) (i:Nat) (f:Folder):Prop where
 name:f.name.size<=()
 turn:I64 f.turn
 man:All2 (ZL S W) (R (.ma i)).cells f.manifests
 ep:All2 (YE S W) (R (.ep i)).cells f.epochs
 itl:(R (.it i)).cells.length=f.items.length
 it:∀j x,f.items[j]? =some x->(R (.it i)).cells[j]? =some [.string x.name,(R (.ve i j)).v]/\x.name.size<=140737488355328/\All2 (yM S W) (R (.ve i j)).cells x.versions
 wr:All2 (yL S W) (R (.wr i)).cells f.wraps
 li:All2 (z0g S W) (R (.li i)).cells f.links
structure IsSt (S:Nat->Prop) (W:World) (R:RM) (st:State):Prop where
 turn:I64 st.turn
 users:All2 (z0z S W) (R .us).cells st.users
 deps:All2 (z10 S W) (R .de).cells st.deposits
 fol:(R .fo).cells.length=st.folders.length
 fo:∀i f,st.folders[i]? =some f->(R .fo).cells[i]? =some (hdr R i f)/\IsFo S W R i f
section
variable {S S':Nat->Prop} {R R':RM} {W W':World} {i:Nat} {f:Folder} {st:State}
theorem IsFo.keep (h:IsFo S W R i f) (k:Kept S S' W W'):IsFo S' W' R i f:=
 ⟨h.name,h.turn,h.man.imp λ_ _ h=>yF h k,h.ep.imp λ_ _ h=>z2a h k,h.itl,λb c a=>⟨(h.it b c a).1,(h.it b c a).2.1,(h.it b c a).2.2.imp λ_ _ h=>z0q h k⟩,
  h.wr.imp λ_ _ h=>z4k h k,h.li.imp λ_ _ h=>z6o h k⟩
theorem IsSt.keep (h:IsSt S W R st) (k:Kept S S' W W'):IsSt S' W' R st:=
 ⟨h.turn,h.users.imp λ_ _ h=>z29 h k,h.deps.imp λ_ _ h=>z3o h k,h.fol,λi f a=>⟨(h.fo i f a).1,(h.fo i f a).2.keep k⟩⟩
theorem z1h {α:Type} {e:TypeId} {sz:Nat} {Q:Rp α} (n:RpOk sz Q) {v:Value} {cells:List (List Value)} {l:List α} (h:RowC e sz W v cells) (hl:cells.length<=10000) (k:All2 (Q S W) cells l):Sl sz Q (λ_=>True) W v l:=by
 obtain⟨o,c,b,_⟩:=h.shape;have d:cells<=c/\c<=maxLen:=by
  rcases h.2 with ⟨a,s⟩|⟨g,m,r,C,a,F,D,E,_⟩
  ·rw[b] at a;simp only[Value.slice.injEq] at a;subst s;exact⟨sm,om⟩
  ·rw[b] at a;simp only[Value.slice.injEq] at a;omega
 refine⟨o,c,by rw[<-k.1];exact b,by rw[<-k.1];exact d.1,d.2,by rw[<-k.1];omega,λi G y=>?_⟩;obtain⟨B,x,j⟩:=k.at y;obtain⟨g,m,r,a,_,_,_,t,_⟩:=h.at x;rw[b] at a;simp only[Value.slice.injEq] at a;exact⟨g,m,B,a.1,trivial,n.len j,λz A u=>by rw[<-Nat.add_assoc];exact t z A u,n.keep j (Kept.refl _ λ_ _=>trivial)⟩
theorem IsFo.folder {base:Nat} (a:OS base W R) (h:IsFo S W R i f):Z6 (λ_=>True) W (hdr R i f) f:=by
 refine⟨_,_,_,_,_,rfl,h.name,h.turn,z1h z16 (a.row (.ma i)) (a.len _) h.man,z1h z2e (a.row (.ep i)) (a.len _) h.ep,?_,z1h z08 (a.row (.wr i)) (a.len _) h.wr,z1h z1b (a.row (.li i)) (a.len _) h.li⟩;refine z1h (S:=λ_=>True) z20 (a.row (.it i)) (a.len _) ⟨h.itl,λc m l b k=>?_⟩;obtain⟨d,e,j⟩:=h.it c l k;rw[d] at b;obtain rfl:=zsi b;exact⟨_,rfl,e,z1h z2z (a.row (.ve i c)) (a.len _) j⟩
theorem IsSt.state {base:Nat} (a:OS base W R) (h:IsSt S W R st):Z5 (λ_=>True) W [st.turn,(R .us).v,(R .de).v,(R .fo).v] st:=by
 refine⟨_,_,_,rfl,h.turn,z1h z1a (a.row .us) (a.len _) h.users,z1h z1r (a.row .de) (a.len _) h.deps,?_⟩;refine z1h (S:=λ_=>True) rFolder_ok (a.row .fo) (a.len _) ⟨h.fol,λj l k b e=>?_⟩;obtain⟨c,d⟩:=h.fo j k e;rw[c] at b;obtain rfl:=zsi b;exact d.folder a
theorem mbc {p:Prop} (h:p:=by
 exact⟨g2.name,g2.turn,by rw[a1];exact g2.man,by rw[a2];exact g2.ep,by rw[a3];exact g2.itl,λq x hx=>by rw[a3,a6 q];exact g2.it q x hx,by rw[a4];exact g2.wr,by rw[a5];exact g2.li⟩):p:=h
theorem IsSt.setF (h:IsSt S W R st) (s:st.folders[i]? =some f) {f':Folder} (k:Kept S S' W W') (r:R' .us=R .us) (n:R' .de=R .de)
  (o:∀a,a≠i->R' (.ma a)=R (.ma a)/\R' (.ep a)=R (.ep a)/\R' (.it a)=R (.it a)/\R' (.wr a)=R (.wr a)/\R' (.li a)=R (.li a)/\∀j,R' (.ve a j)=R (.ve a j))
  (e:(R' .fo).cells=(R .fo).cells.set i (hdr R' i f')) (hF:IsFo S' W' R' i f'):IsSt S' W' R' { st with folders:=st.folders.set i f' }:=by
 have d:=h.keep k;refine⟨h.turn,by rw[r];exact d.users,by rw[n];exact d.deps,by rw[e];simp[h.fol],λj g b=>?_⟩;rw[getElem?_set] at b;by_cases c:i=j
 ·subst c;rw[if_pos rfl] at b;split at b
  ·obtain rfl:=zsi b;refine⟨?_,hF⟩;rw[e,getElem?_set_self (by rw[h.fol];assumption)]
  cases b
 rw[if_neg c] at b;obtain⟨m,g2⟩:=d.fo j g b;obtain⟨a1,a2,a3,a4,a5,a6⟩:=o j (λl=>c l.symm);refine⟨?_,?_⟩
 ·rw[e,getElem?_set_ne c,m];unfold hdr;rw[a1,a2,a3,a4,a5]
 exact mbc
end
end
end Go.Proofs.YtdggplhnfhcieaaGreatDoor
namespace Go.Proofs.YtdggplhnfhcieaaGreatDoor.Ro
open Go.Proofs.Tryz Cd Ce List
open Go.RowKit Go.Deep
variable {g:Nat} {w:World}
instance memberInh:Inhabited Member:=⟨⟨⟨#[]⟩,0⟩⟩
def z1l (x:Member):List Value:=[.string x.name,.int .i64 x.role]
def zH1 (a b:Member):Int:=cmpOf a.name b.name
theorem ltM (a b:Member):Go.Proofs.ltOf zH1 a b=ltS a.name b.name:=by
 unfold Go.Proofs.ltOf zH1 cmpOf;cases c:ltS a.name b.name
 ·cases d:ltS b.name a.name<;>simp
 simp
theorem zX8:Go.Sort.SWO (Go.Proofs.ltOf zH1) where
 irrefl x:=by rw[ltM];exact z07 _
 trans x y z h k:=by rw[ltM] at*;exact z0e h k
 ntrans x y z h k:=by
  rw[ltM] at*;cases b:ltS x.name z.name
  ·rfl
  ·exfalso;rcases z1e x.name y.name with a|a|a
   ·rw[h] at a;cases a
   ·rw[a,k] at b;cases b
   ·have:=z0e a b;rw[k] at this;cases this
theorem zG0 (x y:Member) (w:World):Calls prog 173 #[.agg (z1l x).toArray,.agg (z1l y).toArray] w λe w'=>e= .returned (.int .i64 (zH1 x y))/\∃q b,w'=Go.Sort.grow (w.drewN q) b:=by
 have a:=λW=>cmp_any x.name y.name W
 unfold zH1;generalize cmpOf x.name y.name=c at a⊢;show Calls prog 173 #[.agg #[.string x.name,.int .i64 x.role],.agg #[.string y.name,.int .i64 y.role]] w _
 go_enter func173,ntmps173
 go_wp2_with (go_at_call 161;refine(a _).mono ?_;rintro e w' ⟨rfl,rfl⟩)
 go_ret;exact⟨rfl,0,_,by rw[Go.Sort.alloc_eq_grow,Go.Sort.alloc_eq_grow,Go.Sort.grow_grow];rfl⟩
theorem zM2 (n:Nat) (W:World) (h:n<=12):Calls prog 181 #[.int .u64 n] W λe w'=>(∃l:Int,e= .returned (.int .i64 l))/\w'=W:=
 (Go.Proofs.Any.bits_Len zUr n W om om).mono λ_ _ ⟨a,b⟩=>⟨⟨_,a⟩,b⟩
theorem z6c (d:Array Member) (i j:Nat) (hi:i<d.size) (hj:j<2):(Go.Sort.flatK z1l 2 d)[i*2+j]! =(z1l d[i]!)[j]! :=by
 rw[Go.Sort.get_flatK _ _ _ _ om,show(i*2+j) / 2=i by omega,show(i*2+j) % 2=j by omega]
theorem zSq {l:List Member} (h:∀i x,l[i]? =some x->∀j y,(z1l x)[j]? =some y->(cL w g (i*2+j) y:Prop)) (d:∀j,w.frozen? (aD g j)=false):Go.Sort.HoldsK z1l 2 w g 0 l.toArray:=by
 intro j b;rw[Go.Sort.size_flatK] at b;have k:j<l.length*2:=by simpa using b
 refine⟨?_,d _⟩;obtain⟨x,c⟩:∃x,l[j / 2]? =some x:=⟨_,qLgx (by omega:j / 2<l.length)⟩;have e:l.toArray[j / 2]! =x:=by simp[c]
 have a:=z6c l.toArray (j / 2) (j % 2) (by simp;omega) om;rw[show j / 2*2+j % 2=j by omega] at a;show (cL w g (0+j) (id _):Prop)
 rw[Nat.zero_add,id,a,e];have:=h _ x c (j % 2);rw[show j / 2*2+j % 2=j by omega] at this;refine this _ ?_;rcases(by omega:j % 2=0\/j % 2=1) with h|h<;>rw[h]<;>rfl
theorem zUs {d:Array Member} (h:Go.Sort.HoldsK z1l 2 w g 0 d) (k:∀x∈d.toList,x.name.size<=()/\I64 x.role):SlAt 2 zZ (λ_=>True) w (some ⟨g,0,none⟩) d.toList:=by
 intro i x b;have c:i<d.size:=by have:=(zge b).1;simpa using this
 have m:d[i]! =x:=by
  have:=(zge b).2;simp only[Array.getElem_toList] at this;rw[getElem!_pos d i c,this]
 refine⟨g,0,z1l x,rfl,trivial,rfl,λa n e=>?_,rfl,k x (zmg b)⟩;have l:a<2:=(zge e).1;have j:=(h (i*2+a) (by rw[Go.Sort.size_flatK];omega)).1;rw[j,z6c d i a c l,m];rcases(by omega:a=0\/a=1) with h|h<;>subst h<;>simpa[z1l] using e
theorem zO4 {n m:Nat} (hg:n<=g) (hn:n<=w) (d:Array Member) (os:Array Obj):Below n w (Go.Proofs.sortWorldK z1l 2 w g 0 m d os):=by
 unfold Go.Proofs.sortWorldK;refine⟨rfl,rfl,rfl,?_,λa b=>?_⟩
 ·simp[Go.Sort.putRowK,Go.Sort.putRow,Go.Sort.mapBlock,Go.Sort.ahead]
 rw[Go.Sort.heap_grow_old _ _ (by simp[Go.Sort.putRowK,Go.Sort.putRow,Go.Sort.mapBlock,Go.Sort.ahead];omega)];simp only[Go.Sort.putRowK,Go.Sort.putRow,Go.Sort.mapBlock,Go.Sort.ahead,Array.getElem?_modify];rw[if_neg om]
theorem zSr (l:List Member) (g b base:Nat) (w:World) (o:Array Value) (T:TypeId) (hg:w.heap[g]? =some (.cells o T (0,0))) (hb:base<=g) (G:l.length<=12) (H:l<=b) (I:b<=maxLen)
  (hl:∀x∈l,x.name.size<=()/\I64 x.role) (J:∀i x,l[i]? =some x->∀j y,(z1l x)[j]? =some y->o[i*2+j]? =some y):
  Calls prog 172 #[.slice (some ⟨g,0,none⟩) l b,.func (.func 173) #[] #[]] w λe w'=>
   e= .returned (.tuple #[])/\Below base w w'/\∃k,k.Perm l/\(∀(i j:Nat) (x y:Member),i<j->k[i]? =some x->k[j]? =some y->ltS y.name x.name=false)/\Sl 2 zZ (λ_=>True) w' (.slice (some ⟨g,0,none⟩) l b) k:=by
 have u:g<w:=zI hg;obtain⟨D,F⟩:=zB hg;have r:Go.Sort.HoldsK z1l 2 w g 0 l.toArray:=zSq (λi x c j y h=>D _ _ (J i x c j y h)) F;have E:∀n w,(callFunc 173 n).run prog w= .ok (.enter 173 n) w:=enters_of func173 kr rfl;have s:=Go.Proofs.AnyQ.slices_SortFunc_small_sorted zO3 2 isAgg87 sizeOf87 z1l (λ_=>rfl) (λx V B=>by simp[z1l] at B;rcases B with rfl|rfl<;>rfl) zH1 173 #[] zX8 g 0 b l.toArray w E
  (λU C Q _ x y=>by simpa using zG0 x y _) r u (by simpa using G) zM2
 change Calls prog 172 _ _ _ at s;refine s.mono ?_;rintro e w' ⟨rfl,a,P,C,⟨A,_,v⟩,M,rfl⟩;have z:a.toList.Perm l:=by
  rw[Array.extract_eq_self_of_le om,Array.extract_eq_self_of_le om] at v;simpa using v
 have d:a.size=l:=by simpa using A
 refine⟨rfl,zO4 hb om _ _,a.toList,z,λi j x y K c h=>?_,?_⟩
 ·have t:=(zge h).1;have m:=M i j (Nat.zero_le _) K (by simpa[d] using t);rw[ltM] at m;have N:a[i]! =x:=by
   have:=(zge c).2;have L:=(zge c).1;simp only[Array.getElem_toList] at this;rw[getElem!_pos a i (by simpa using L),this]
  have O:a[j]! =y:=by
   have:=(zge h).2;simp only[Array.getElem_toList] at this;rw[getElem!_pos a j (by simpa using t),this]
  rw[N,O] at m;exact m
 refine⟨_,b,by simp[d],by simpa[d] using H,I,by simp[d];omega,zUs (Go.Proofs.holdsK_sortWorldK_c z1l 2 w g 0 l.toArray a P C r u A) λx c=>hl x (z.mem_iff.1 c)⟩
end Go.Proofs.YtdggplhnfhcieaaGreatDoor.Ro
