/- No condition. -/
import Derived.Test.YtdggplhnfhcieaaGreatDoorW12
set_option linter.all false
set_option maxRecDepth 100000
namespace Go.Proofs.YtdggplhnfhcieaaGreatDoor
open Go.Proofs.Tryz Cd Ce List
open Go.RowKit Go.Deep
variable {S:Nat->Prop} {j k:Nat} {w:World} {x:Item}
structure CopyOk (st:State):Prop where
 us:st.users.length<=10000
 de:st.deposits.length<=10000
 fo:st.folders.length<=10000
 fl:∀f∈st.folders,f.manifests.length<=10000/\f.epochs.length<=10000/\f.items.length<=10000/\f.wraps.length<=10000/\f.links.length<=10000
 ma:∀f∈st.folders,∀m∈f.manifests,m.members.length<=10000
 ep:∀f∈st.folders,∀e∈f.epochs,e.chain.length<=10000
 it:∀f∈st.folders,∀x∈f.items,x.versions.length<=10000/\∀v∈x.versions,v.data.length<=10000
def zWo (w:World) (S:Nat->Prop) (st:State) (e:Ending) (w':World):Prop:=
 ∃R,e= .returned (.agg #[st.turn,(R .us).v,(R .de).v,(R .fo).v])/\bW w w'/\OS w w' R/\IsSt (λa=>a<w'/\¬z01 R a/\(a<w->S a)) w' R st
def XC (S:Nat->Prop) (w:World):Nat->Prop:=λb=>b=w+1\/(b<w/\¬S b)
theorem Kept.refl' {S':Nat->Prop} (h:∀b,S b->S' b):Kept S S' w w:=λb a _=>⟨h b a,rfl⟩
section
variable {X:Nat->Prop} {bc base:Nat} {W W':World} {R R':RM} {st:State} {md:Nat->Option Nat} {p q:Nat} {f:Folder}
theorem z52 {b i:Nat} {u v:Value} (h:(cL w b j v:Prop)) (c:j≠i):(w.setCell (aD b i) u).cell? ⟨b,j,none⟩=some v:=by
 rw[World.cell?_setCell_other _ _ _ _ (λa=>c (by have:=congrArg Addr.off a;first|exact this|exact this.symm))];exact h
theorem CP.start {w1 w2 m d n:World} {h i l:Value} {r s t:List (List Value)} (hz:w1=w.heap.size+2)
  (D:(bW w1 w2:Prop)) (Q:RowC 91 2 w2 h r) (a1:All2 (z0z (λb=>b<w/\S b) w2) r st.users) (N:∀b,h.ownBlock=some b->w1.heap.size<=b)
  (y:(bW w2 m:Prop)) (T:RowC 126 2 m i s) (a2:All2 (z10 (λb=>b<w.heap.size/\S b) m) s st.deposits) (O:∀b,i.ownBlock=some b->w2.heap.size<=b)
  (o:(bW m d:Prop)) (U:RowC 74 7 d l t) (a3:All2 (Z6 (λb=>b<w.heap.size/\S b) d) t st.folders) (P:∀b,l.ownBlock=some b->m.heap.size<=b)
  (A:CopyOk st) (E:n=((d.setCell (aD w 1) h).setCell (aD w 2) i).setCell (aD w 3) l):
  ∃R,CP (XC S w) w w n R st (λ_=>none)/\(R .us).v=h/\(R .de).v=i/\(R .fo).v=l:=by
 have V:ST w w w1 (λ_=>⟨.slice none 0 0,[]⟩) w1 (λ_=>⟨.slice none 0 0,[]⟩):=⟨⟨λk=>RowC.nil _,λ_ _ _ u=>(by cases u),λ_ _ u=>(by cases u),λ_=>(sm)⟩,Mut.refl _ _ _,om⟩;have Y:=V.row D .us ⟨h,r⟩ Q (by rw[a1.1];exact A.us) N;have Z:=Y.row y .de ⟨i,s⟩ T (by rw[a2.1];exact A.de) O;have B:=Z.row o .fo ⟨l,t⟩ U (by rw[a3.1];exact A.fo) P;generalize G:zO _ _ _=R at B;have e:R .us=⟨h,r⟩/\R .de=⟨i,s⟩/\R .fo=⟨l,t⟩:=by rw[<-G];simp[zO]
 clear G;have ac:=D.size;have ad:=y.size;have ae:=o.size;have v:∀b,z01 R b->w.heap.size+2<=b:=λb c=>(B.m.fresh b c).elim (λ⟨k,a⟩=>by cases a) λu=>om
 have aa:n=d.heap.size:=by rw[E];simp
 have F:∀b,b≠w.heap.size->n.heap[b]? =d.heap[b]? :=λb c=>by rw[E,Below.heap_setCell _ _ _ _ c,Below.heap_setCell _ _ _ _ c,Below.heap_setCell _ _ _ _ c]
 have z:∀C,(∀b,b<w.heap.size->d.heap[b]? =C.heap[b]?)->Kept (λb=>b<w.heap.size/\S b) (Imm (XC S w) w R n) C n:=λC M b c _=>by
  obtain⟨I,L⟩:=c;exact⟨⟨om,om,λa=>by have:=v b a;omega,λa=>a.elim (λa=>om) λa=>a.2 L⟩,(F b om).trans (M b I)⟩
 have H:=zD y o;refine⟨R,⟨B.os.to λb c=>F b (oh (v b c)),λa=>by have:=v _ a;omega,om,znl _,λb a g=>?_,λb g=>g.elim (λa=>om) λa=>by have:=a.1;omega,?_,?_,?_,λab f J=>?_⟩,by rw[e.1],by rw[e.2.1],by rw[e.2.2]⟩
 ·rcases a with a|a
  ·have:=v b a;exact g.elim (λa=>om) λa=>by have:=a.1;omega
  exact g.elim (λa=>om) λa=>by have:=a.1;omega
 ·rw[e.1];exact a1.imp λ_ _ a=>z29 a (z w2 λb c=>H.block b om)
 ·rw[e.2.1];exact a2.imp λ_ _ a=>z3o a (z m λb c=>o.block b om)
 ·rw[e.2.2];exact a3.1
 obtain⟨x,g,K⟩:=a3.at J;rw[e.2.2];exact⟨x,g,zV K (z d λb _=>rfl)⟩
theorem CP.foAt (h:CP X bc base W R st md) (n:st.folders[p]? =some f):∃a off cp,(R .fo).v= .slice (some ⟨a,off,none⟩) st.folders cp/\st.folders.length<=cp/\cp<=9223372036854775807/\a<W.heap.size/\a≠bc/\base<=a/\(∀q,W.frozen? (aD a q)=false)/\∀x,(R .fo).cells[p]? =some x->∀j u,x[j]? =some u->(cL W a (off+p*7+j) u:Prop):=by
 obtain⟨x,c⟩:∃x,(R .fo).cells[p]? =some x:=⟨_,qLgx (by rw[h.fol];exact(zge n).1)⟩;obtain⟨a,off,cp,b,e,g,l,m,o⟩:=(h.os.row .fo).at c;rw[h.fol] at b e;unfold maxLen at g;exact⟨a,off,cp,b,e,g,l,λi=>h.nb ⟨.fo,by rw[b,<-i];rfl⟩,h.os.low .fo a (by rw[b];rfl),o,λr d=>by rw[c] at d;obtain rfl:=zsi d;exact m⟩
theorem CP.old (h:CP X bc base W R st md) (z:st.folders[p]? =some f) (hp:md p=none):∃a g b i c l d m e n,(R .fo).cells[p]? =some [.string f.name,.int .i64 f.turn,.slice a f.manifests g,.slice b f.epochs i,.slice c f.items l,.slice d f.wraps m,.slice e f.links n]/\f.name.size<=()/\I64 f.turn/\
  Sl 8 ZL (Imm X bc R W) W (.slice a f.manifests g) f.manifests/\Sl 5 YE (Imm X bc R W) W (.slice b f.epochs i) f.epochs/\Sl 2 YG (Imm X bc R W) W (.slice c f.items l) f.items/\Sl 3 yL (Imm X bc R W) W (.slice d f.wraps m) f.wraps/\Sl 3 z0g (Imm X bc R W) W (.slice e f.links n) f.links:=by
 have o:=h.fo p f z;rw[hp] at o;obtain⟨_,y,_,_,_,_,_,rfl,A,B,r,s,t,u,v⟩:=o;obtain⟨a,g,rfl,_⟩:=id r;obtain⟨b,i,rfl,_⟩:=id s;obtain⟨c,l,rfl,_⟩:=id t;obtain⟨d,m,rfl,_⟩:=id u;obtain⟨e,n,rfl,_⟩:=id v;exact⟨_,_,_,_,_,_,_,_,_,_,y,A,B,r,s,t,u,v⟩
theorem CP.hdrAt (h:CP X bc base W R st md) (n:st.folders[p]? =some f) (hp:md p=some q):∃a e2 b e3 c d o r,(R .fo).cells[p]? =some [.string f.name,.int .i64 f.turn,.slice a f.manifests e2,.slice b f.epochs e3,.slice c f.items d,o,r]/\(R (.ma p)).v= .slice a f.manifests e2/\(R (.ep p)).v= .slice b f.epochs e3/\(R (.it p)).v= .slice c f.items d:=by
 have m:=h.fo p f n;rw[hp] at m;obtain⟨e,hF⟩:=m;obtain⟨a,e2,g,_⟩:=(h.os.row (.ma p)).shape;obtain⟨b,e3,i,_⟩:=(h.os.row (.ep p)).shape;obtain⟨c,d,l,_⟩:=(h.os.row (.it p)).shape;rw[hF.man.1] at g;rw[hF.ep.1] at i;rw[hF.itl] at l;unfold hdr at e;rw[g,i,l] at e;exact⟨_,_,_,_,_,_,_,_,e,g,i,l⟩
theorem CP.maAt (h:CP X bc base W R st md) (s:st.folders[p]? =some f) (hp:md p=some q) {m:Manifest} (hm:f.manifests[k]? =some m):∃g b c a d,(R (.ma p)).v= .slice (some ⟨g,b,none⟩) f.manifests c/\f.manifests.length<=c/\c<=9223372036854775807/\cL W g (b+k*8+4) (.slice a m.members d)/\(∀q,W.frozen? (aD g q)=false)/\Sl 2 zZ (Imm X bc R W) W (.slice a m.members d) m.members:=by
 have e:=h.fo p f s;rw[hp] at e;obtain⟨_,u,t⟩:=e.2.man.at hm;obtain⟨g,b,c,i,l,n,_,r,v⟩:=(h.os.row (.ma p)).at u;rw[e.2.man.1] at i l;unfold maxLen at n;obtain⟨_,_,rfl,_,_,_,_,o,_⟩:=t;obtain⟨a,d,rfl,_⟩:=id o;exact⟨g,b,c,a,d,i,l,n,r 4 _ rfl,v,o⟩
theorem CP.epAt (h:CP X bc base W R st md) (s:st.folders[p]? =some f) (hp:md p=some q) {m:Epoch} (hm:f.epochs[k]? =some m):∃g b c a d,(R (.ep p)).v= .slice (some ⟨g,b,none⟩) f.epochs c/\f.epochs.length<=c/\c<=9223372036854775807/\cL W g (b+k*5+3) (.slice a m.chain d)/\(∀q,W.frozen? (aD g q)=false)/\Sl 2 rAt (Imm X bc R W) W (.slice a m.chain d) m.chain:=by
 have e:=h.fo p f s;rw[hp] at e;obtain⟨_,u,t⟩:=e.2.ep.at hm;obtain⟨g,b,c,i,l,n,_,r,v⟩:=(h.os.row (.ep p)).at u;rw[e.2.ep.1] at i l;unfold maxLen at n;obtain⟨_,rfl,_,_,_,o,_⟩:=t;obtain⟨a,d,rfl,_⟩:=id o;exact⟨g,b,c,a,d,i,l,n,r 3 _ rfl,v,o⟩
theorem CP.itOld (h:CP X bc base W R st md) (t:st.folders[p]? =some f) (hp:md p=some j) (hx:f.items[j]? =some x):∃g b c a d,(R (.it p)).v= .slice (some ⟨g,b,none⟩) f.items c/\f.items.length<=c/\c<=9223372036854775807/\cL W g (b+j*2+1) (.slice a x.versions d)/\(∀q,W.frozen? (aD g q)=false)/\Sl 4 yM (Imm X bc R W) W (.slice a x.versions d) x.versions:=by
 have e:=h.fo p f t;rw[hp] at e;have l:=e.2.it j x hx;rw[if_neg om] at l;obtain⟨_,s,_,rfl,_,o⟩:=l;obtain⟨g,b,c,i,m,n,_,r,u⟩:=(h.os.row (.it p)).at s;rw[e.2.itl] at i m;unfold maxLen at n;obtain⟨a,d,rfl,_⟩:=id o;exact⟨g,b,c,a,d,i,m,n,r 1 _ rfl,u,o⟩
theorem CP.itNew (h:CP X bc base W R st md) (t:st.folders[p]? =some f) (hp:md p=some q) (hj:j<q) (hx:f.items[j]? =some x):∃g b c a d,(R (.it p)).v= .slice (some ⟨g,b,none⟩) f.items c/\f.items.length<=c/\c<=9223372036854775807/\cL W g (b+j*2+1) (.slice a x.versions d)/\(R (.ve p j)).v= .slice a x.versions d:=by
 have e:=h.fo p f t;rw[hp] at e;have l:=e.2.it j x hx;rw[if_pos hj] at l;obtain⟨s,_,o⟩:=l;obtain⟨g,b,c,i,m,n,_,r,_⟩:=(h.os.row (.it p)).at s;rw[e.2.itl] at i m;unfold maxLen at n;obtain⟨a,d,k,_⟩:=(h.os.row (.ve p j)).shape;rw[o.1] at k;exact⟨g,b,c,a,d,i,m,n,by rw[<-k];exact r 1 _ rfl,k⟩
theorem CP.veAt (h:CP X bc base W R st md) (t:st.folders[p]? =some f) (hp:md p=some q) (hj:j<q) (hx:f.items[j]? =some x) {v:Version} (hv:x.versions[k]? =some v):∃g b c a d,(R (.ve p j)).v= .slice (some ⟨g,b,none⟩) x.versions c/\x.versions.length<=c/\c<=9223372036854775807/\cL W g (b+k*4+3) (.slice a v.data d)/\(∀q,W.frozen? (aD g q)=false)/\Sl 1 Y1 (Imm X bc R W) W (.slice a v.data d) v.data:=by
 have m:=h.fo p f t;rw[hp] at m;have l:=m.2.it j x hx;rw[if_pos hj] at l;obtain⟨_,_,i⟩:=l;obtain⟨_,y,u⟩:=i.at hv;obtain⟨g,b,c,e,n,o,_,s,z⟩:=(h.os.row (.ve p j)).at y;rw[i.1] at e n;unfold maxLen at o;obtain⟨_,rfl,_,_,r⟩:=u;obtain⟨a,d,rfl,_⟩:=id r;exact⟨g,b,c,a,d,e,n,o,s 3 _ rfl,z,r⟩
theorem CP.cellAt (h:CP X bc base W R st md) (d:st.folders[p]? =some f) {a off n cp:Nat} (hv:(R .fo).v= .slice (some ⟨a,off,none⟩) n cp) {x:List Value} (hx:(R .fo).cells[p]? =some x):∀j u,x[j]? =some u->(cL W a (off+p*7+j) u:Prop):=by
 obtain⟨_,_,_,b,_,_,_,_,_,_,c⟩:=h.foAt d;rw[hv] at b;simp only[Value.slice.injEq,Option.some.injEq,Addr.mk.injEq,and_true] at b;obtain⟨⟨rfl,rfl⟩,_⟩:=b;exact c x hx
theorem CP.full (h:CP X bc base W R st md) (e:st.folders[p]? =some f) (hp:md p=some q) (g:f.items<=q) {q':Nat} (l:f.items<=q'):CP X bc base W R st (λi=>if i=p then some q' else md i):=
 ⟨h.os,h.nb,h.lt,h.bb,h.nx,h.xl,h.us,h.de,h.fol,λi d b=>by
  have a:=h.fo i d b;by_cases c:i=p
  ·subst c;rw[e] at b;obtain rfl:=zsi b;rw[hp] at a;simp only[if_true];exact⟨a.1,a.2.full g l⟩
  ·simp only[c,if_false];exact a⟩
theorem z2q {w2 wr:World} {b g i:Nat} {u:Value} {c:Obj} (d:(bW wr w2:Prop)) (h:wr.heap[b]? =some c) (hb:b≠g):(w2.setCell (aD g i) u).heap[b]? =some c:=by
 rw[Below.heap_setCell _ _ _ _ hb,d.block b (by
  rcases Nat.lt_or_ge b wr with a|a
  ·exact a
  ·rw[Array.getElem?_eq_none a] at h;cases h)]
 exact h
theorem zRp {pb:Nat} {T:TypeId} {o e d c:Value} (h:w.heap[pb]? =some (.cells #[o,e,d,c] T (0,0))) (a0 a1 a2 a3:Value):
  ((((w.setCell (aD pb 0) a0).setCell (aD pb 1) a1).setCell (aD pb 2) a2).setCell (aD pb 3) a3).heap[pb]? =some (.cells #[a0,a1,a2,a3] T (0,0))/\∀b,b≠pb->((((w.setCell (aD pb 0) a0).setCell (aD pb 1) a1).setCell (aD pb 2) a2).setCell (aD pb 3) a3).heap[b]? =w.heap[b]? :=by
 have g:=zH (i:=0) (cs':=#[a0,e,d,c]) a0 h rfl;have l:=zH (i:=1) (cs':=#[a0,a1,d,c]) a1 g rfl;have m:=zH (i:=2) (cs':=#[a0,a1,a2,c]) a2 l rfl;have n:=zH (i:=3) (cs':=#[a0,a1,a2,a3]) a3 m rfl;exact⟨n,λb a=>by rw[Below.heap_setCell _ _ _ _ a,Below.heap_setCell _ _ _ _ a,Below.heap_setCell _ _ _ _ a,Below.heap_setCell _ _ _ _ a]⟩
theorem zDc {i:Type} {Q:Rp i} {sz:Nat} {e:TypeId} (n:RpOk sz Q) {d:Nat->Prop} {v:Value} {cells:List (List Value)} {l:List i} (h:CP X bc base W R st md) (o:(bW W W':Prop)) (hr:RowC e sz W' v cells) (hl:l.length<=10000) (ha:All2 (Q d W') cells l) (m:∀S g x,Q d W' g x->Q S W' g x) (c:∀b,v.ownBlock=some b->W.heap.size<=b):
  Sl sz Q (λb=>b<W'.heap.size/\b≠bc/\¬z01 R b/\¬X b) W' v l:=
 z3b n hr (by rw[ha.1];exact hl) (ha.imp λ_ _ e=>m _ _ _ e) λb a=>⟨hr.lt b a,λe=>by have:=c b a;have:=h.lt;omega,λe=>by have:=c b a;have:=h.os.lt e;omega,λe=>by have:=c b a;have:=h.xl b e;omega⟩
theorem IsSt.stateS (a:OS base W R) (h:IsSt S W R st):Z5 (λb=>z01 R b\/S b) W [st.turn,(R .us).v,(R .de).v,(R .fo).v] st:=by
 have e:=h.keep (S':=λb=>z01 R b\/S b) (Kept.refl' λ_ h=> .inr h);have c:∀k b,(R k).v.ownBlock=some b->z01 R b\/S b:=λk b m=> .inl ⟨k,m⟩
 refine⟨_,_,_,rfl,e.turn,z3b z1a (a.row .us) (a.len _) e.users (c .us),z3b z1r (a.row .de) (a.len _) e.deps (c .de),?_⟩;refine z3b rFolder_ok (a.row .fo) (a.len _) ⟨e.fol,λj l x g t=>?_⟩ (c .fo);obtain⟨s,d⟩:=e.fo j x t;rw[s] at g;obtain rfl:=zsi g;refine⟨_,_,_,_,_,rfl,d.name,d.turn,z3b z16 (a.row (.ma j)) (a.len _) d.man (c _),z3b z2e (a.row (.ep j)) (a.len _) d.ep (c _),?_,z3b z08 (a.row (.wr j)) (a.len _) d.wr (c _),z3b z1b (a.row (.li j)) (a.len _) d.li (c _)⟩;refine z3b z20 (a.row (.it j)) (a.len _) ⟨d.itl,λi l v g u=>?_⟩ (c _);obtain⟨n,o,r⟩:=d.it i v u;rw[n] at g;obtain rfl:=zsi g;exact⟨_,rfl,o,z3b z2z (a.row (.ve j i)) (a.len _) r (c _)⟩
end
theorem maC {p:Prop} (h:p:=by
 have HB':=zh (HB.trans (Mut.low m2 HC.os (znl _) (qNtx HC.bb (Nat.le_of_lt HC.lt))));have HV':=zh (by rw[q1,q2,q3];exact HV:(R2 .us).v= .slice E1 n1 p1/\(R2 .de).v= .slice E2 n2 p2/\(R2 .fo).v= .slice (some ⟨a,off,none⟩) st.folders p3);have HC':=zh hC2;clear hC2 m2 q1 q2 q3 y4 yz;generalize World.setCell w2 _ _=w3 at*;go_wp2;go_roundw
 case rel=>exact⟨k+1,R2,om,gn,HC',HB',HX',HX2',HV'⟩
 case measure=>exact qMx):p:=h
set_option maxHeartbeats 16000000 in
theorem zGq (st:State) (cs:List Value) (w:World) (S:Nat->Prop) (h:Z5 S w cs st) (ok:CopyOk st):
  Calls Tryz.prog 47 #[.agg cs.toArray] w (zWo w S st):=by
 have hT:Z5 (fun b=>b < w.heap.size/\S b) w cs st:=zM h fun b hb hl=>⟨⟨hl,hb⟩,rfl⟩
 obtain ⟨v1,v2,v3,rfl,ht,hu,hd,hf⟩:=hT;obtain ⟨A1,c1,rfl,_⟩:=id hu;obtain ⟨A2,c2,rfl,_⟩:=id hd;obtain ⟨A3,c3,rfl,_⟩:=id hf;have HU:=zh hu;have HD:=zh hd;have HF:=zh hf;have HT:=zh ht;have HOK:=zh ok;obtain ⟨w0,hw0,cw0,fw0,Bw0,qw0⟩:=zP w #[.int .i64 st.turn,.slice A1 st.users.length c1,.slice A2 st.deposits.length c2,.slice A3 st.folders.length c3] 34;obtain ⟨w1,hw1,cw1,fw1,Bw1,qw1⟩:=zP w0 #[.int .i64 0,.slice none 0 0,.slice none 0 0,.slice none 0 0] 34;have hz0:w0.heap.size=w.heap.size+1:=by rw [<-hw0,World.size_alloc]
 have HZ1:=zh (show w1.heap.size=w.heap.size+2 from by rw [<-hw1,World.size_alloc,hz0]);have HB1:=zh (zD Bw0 Bw1);have HX0:=zh (show w1.heap[w.heap.size]? =some (.cells #[.int .i64 st.turn,.slice A1 st.users.length c1,.slice A2 st.deposits.length c2,.slice A3 st.folders.length c3] 34 (0,0)) from (Bw1.block _ qw0).trans (by rw [<-hw0];exact zJ _ rfl));have HX1:=zh (show w1.heap[w.heap.size+1]? =some (.cells #[.int .i64 0,.slice none 0 0,.slice none 0 0,.slice none 0 0] 34 (0,0)) from by rw [<-hz0,<-hw1];exact zJ _ rfl);have s1:=(zB HX0.out).1 1 _ rfl;have s2:=(zB HX0.out).1 2 _ rfl;have s3:=(zB HX0.out).1 3 _ rfl;clear h ok hu hd hf ht cw0 fw0 Bw0 cw1 fw1 Bw1 qw1;go_enter Tryz.func47,Tryz.ntmps47
 go_upto_region 1 with fail
 have HSQ:=zh (show ∀W':World,Below w1.heap.size w1 W'->(fun W':World=>Below w1.heap.size w1 W'/\W'.cell? ⟨w.heap.size,1,none⟩=some (.slice A1 st.users.length c1)/\W'.cell? ⟨w.heap.size,2,none⟩=some (.slice A2 st.deposits.length c2)/\W'.cell? ⟨w.heap.size,3,none⟩=some (.slice A3 st.folders.length c3)) W' from fun W' hW=>⟨hW,(hW.cell (p:=⟨w.heap.size,1,none⟩) (zF s1)).trans s1,(hW.cell (p:=⟨w.heap.size,2,none⟩) (zF s2)).trans s2,(hW.cell (p:=⟨w.heap.size,3,none⟩) (zF s3)).trans s3⟩);refine Z0 (S:=fun W':World=>Below w1.heap.size w1 W'/\W'.cell? ⟨w.heap.size,1,none⟩=some (.slice A1 st.users.length c1)/\W'.cell? ⟨w.heap.size,2,none⟩=some (.slice A2 st.deposits.length c2)/\W'.cell? ⟨w.heap.size,3,none⟩=some (.slice A3 st.folders.length c3)) 10 [] (by kernel_rfl) (HSQ.out _ zbr.drew) (fun hHeld=>?_);refine ziU 0 ?_;iterate 2 (refine ztU hHeld ?_;simp only [zA])
 refine zoU ?_;refine ziU 3 ?_;iterate 2 (refine ztU hHeld ?_;simp only [zA])
 refine zoU ?_;refine ziU 6 ?_;iterate 2 (refine ztU hHeld ?_;simp only [zA])
 refine zoU ?_;refine zQ (i:=2) (by kernel_rfl) rfl (fun K hK=>?_);go_simp;go_at_call 70
 refine zcm (zNv st.users _ _ (fun b=>b < w.heap.size/\S b) (HU.out.keep z1a (by decide) (zK (zD HB1.out (zbr.drew)))) HOK.out.us) ?_;rintro e3 w2 ⟨⟨v1,d1,rfl,r1,a1,l1⟩,b3⟩;have Bw2:Below w1.heap.size w1 w2:=zD (zbr.drew) b3;have HSw2:=zh b3;clear b3 hHeld;refine hK.out _ _ (HSQ.out _ Bw2) (fun hHeld=>?_);clear hK K;try simp only [zA]
 refine zU 9 hHeld ?_;simp only [zA];refine zQ (i:=5) (by kernel_rfl) rfl (fun K hK=>?_);go_simp;go_at_call 71
 refine zcm (zNw st.deposits _ _ (fun b=>b < w.heap.size/\S b) (HD.out.keep z1r (by decide) (zK (zD HB1.out (Bw2)))) HOK.out.de) ?_;rintro e3 w3 ⟨⟨v2,d2,rfl,r2,a2,l2⟩,b3⟩;have Bw3:Below w1.heap.size w1 w3:=zD (Bw2) b3;have HSw3:=zh b3;clear b3 hHeld;refine hK.out _ _ (HSQ.out _ Bw3) (fun hHeld=>?_);clear hK K;try simp only [zA]
 refine zQ (i:=8) (by kernel_rfl) rfl (fun K hK=>?_);go_simp;go_at_call 72
 refine zcm (zK3 st.folders _ _ (fun b=>b < w.heap.size/\S b) (HF.out.keep rFolder_ok (by decide) (zK (zD HB1.out (Bw3)))) HOK.out.fo) ?_;rintro e3 w4 ⟨⟨v3,d3,rfl,r3,a3,l3⟩,b3⟩;have Bw4:Below w1.heap.size w1 w4:=zD (Bw3) b3;have HSw4:=zh b3;clear b3 hHeld;refine hK.out _ _ (HSQ.out _ Bw4) (fun hHeld=>?_);clear hK K;try simp only [zA]
 obtain ⟨E1,n1,p1,rfl⟩:=r1.shape3;obtain ⟨E2,n2,p2,rfl⟩:=r2.shape3;obtain ⟨E3,n3,p3,rfl⟩:=r3.shape3;have hX4:=(Bw4.block _ (by rw [HZ1.out];omega)).trans HX0.out;have x1:=(zB hX4).1 1 _ rfl;have x2:=(zB hX4).1 2 _ rfl;have x3:=(zB hX4).1 3 _ rfl;have xz:=(zB hX4).2;have HX4:=zh hX4;have R1:=zh r1;have R2:=zh r2;have R3:=zh r3;have AA1:=zh a1;have AA2:=zh a2;have AA3:=zh a3;have LL1:=zh l1;have LL2:=zh l2;have LL3:=zh l3;have HBw4:=zh Bw4;have HBw2:=zh Bw2;clear hX4 r1 r2 r3 a1 a2 a3 l1 l2 l3 Bw2 Bw3 Bw4 s1 s2 s3;refine zN (i:=10) (by kernel_rfl) rfl (fun K hK=>?_);go_simp;refine hK.out _ _ ?_;clear hK K;try simp only [zA]
 refine zN (i:=11) (by kernel_rfl) rfl (fun K hK=>?_);go_simp;refine hK.out _ _ ?_;clear hK K;try simp only [zA]
 refine zN (i:=12) (by kernel_rfl) rfl (fun K hK=>?_);go_simp;refine hK.out _ _ ?_;clear hK K;try simp only [zA]
 refine zN (i:=13) (by kernel_rfl) rfl (fun K hK=>?_);go_simp;refine hK.out _ _ ?_;clear hK K;try simp only [zA]
 refine zN (i:=14) (by kernel_rfl) rfl (fun K hK=>?_);go_simp;refine hK.out _ _ ?_;clear hK K;try simp only [zA]
 refine Z7 (by kernel_rfl) ?_ _;generalize hw5:World.setCell _ _ _=w5;have hX5:w5.heap[w.heap.size]? =some (.cells #[.int .i64 st.turn,.slice E1 n1 p1,.slice E2 n2 p2,.slice E3 n3 p3] 34 (0,0)):=by
  rw [<-hw5];exact zH _ (zH _ (zH _ HX4.out rfl) rfl) rfl
 obtain ⟨R,hC,hv1,hv2,hv3⟩:=CP.start HZ1.out HBw2.out R1.out AA1.out (fun b hb=>LL1.out b hb) HSw3.out R2.out AA2.out LL2.out HSw4.out R3.out AA3.out LL3.out HOK.out hw5.symm;have HX5:=zh hX5;have HC0:=zh hC;have HV0:=zh (show (R .us).v= .slice E1 n1 p1/\(R .de).v= .slice E2 n2 p2/\(R .fo).v= .slice E3 n3 p3 from ⟨hv1,hv2,hv3⟩);have HB5:=zh (show Below w.heap.size w w5 from by
  rw [<-hw5];exact (((zD HB1.out HBw4.out).setCell (znl _) _).setCell (znl _) _).setCell (znl _) _)
 obtain rfl:n3=st.folders.length:=by
  obtain ⟨A,c,e,_⟩:=(HC0.out.os.row .fo).shape;rw [hv3,HC0.out.fol] at e;simp only [Value.slice.injEq] at e;exact e.2.1
 have y3:=(zB HX5.out).1 3 _ rfl;clear hX5 hC hv1 hv2 hv3 x1 x2 x3 xz;have HX6:=zh (show w5.heap[w.heap.size+1]? =some (.cells #[.int .i64 0,.slice none 0 0,.slice none 0 0,.slice none 0 0] 34 (0,0)) from by
  rw [<-hw5,Below.heap_setCell _ _ _ _ (by simp),Below.heap_setCell _ _ _ _ (by simp),Below.heap_setCell _ _ _ _ (by simp),HBw4.out.block _ (by rw [HZ1.out];omega)];exact HX1.out)
 clear hw5;go_wp2_with fail
 clear y3;go_loopw [25] (fun i wr=>∃(p:Nat) (R:RM),p<=st.folders.length/\i= .int .i64 p/\Hid (CP (XC S w) w.heap.size w.heap.size wr R st (fun i=>if i < p then some 100000 else none))/\Hid (Below w.heap.size w wr)/\Hid (wr.heap[w.heap.size]? =some (.cells #[.int .i64 st.turn,.slice E1 n1 p1,.slice E2 n2 p2,.slice E3 st.folders.length p3] 34 (0,0)))/\Hid (wr.heap[w.heap.size+1]? =some (.cells #[.int .i64 0,.slice none 0 0,.slice none 0 0,.slice none 0 0] 34 (0,0)))/\Hid ((R .us).v= .slice E1 n1 p1/\(R .de).v= .slice E2 n2 p2/\(R .fo).v= .slice E3 st.folders.length p3)) (fun i _=>st.folders.length - (intOf i).toNat)
 case atStart=>exact ⟨0,R,by omega,by go_num,zh (HC0.out.mode fun i _=>by simp),HB5,HX5,HX6,HV0⟩
 obtain ⟨p,R,_,rfl,HC,HB,HX,HX2,HV⟩:=hrel;by_cases hlt:p < st.folders.length
 rotate_left
 ·obtain rfl:p=st.folders.length:=by omega
  have y0:=(zB HX.out).1 0 _ rfl;have y1:=(zB HX.out).1 1 _ rfl;have y2:=(zB HX.out).1 2 _ rfl;have y3:=(zB HX.out).1 3 _ rfl;have b0:=(zB HX2.out).1 0 _ rfl;have b1:=(zB HX2.out).1 1 _ rfl;have b2:=(zB HX2.out).1 2 _ rfl;have b3:=(zB HX2.out).1 3 _ rfl;have bz:=(zB HX2.out).2;go_wp2;try simp only [Exit.inBlock,Exit.then]
  obtain ⟨F1,F2⟩:=zRp HX2.out (.int .i64 st.turn) (.slice E1 n1 p1) (.slice E2 n2 p2) (.slice E3 st.folders.length p3);refine bodyPost_ret (results_cell_row rfl _ _ (w.heap.size+1) 34 _ (0,0) _ rfl F1 Tryz.underlying34 rfl (by kernel_rfl)) rfl ?_;have hN:∀b,z01 R b->b≠w.heap.size+1:=fun b hb e=>HC.out.nx b (.inl hb) (.inl e)
  refine ⟨R,by rw [HV.out.1,HV.out.2.1,HV.out.2.2],(((HB.out.setCell (by simp) _).setCell (by simp) _).setCell (by simp) _).setCell (by simp) _,HC.out.os.to fun b hb=>F2 b (hN b hb),?_⟩;have hI:=HC.out.done HT.out fun i f hf=>⟨100000,by simp [(zge hf).1],by have:=(HOK.out.fl f (zmg hf)).2.2.1;omega⟩
  exact hI.keep fun b ⟨h1,h2,h3,h4⟩ _=>⟨⟨by simpa using h1,h3,fun hl=>Classical.byContradiction fun hs=>h4 (.inr ⟨hl,hs⟩)⟩,F2 b fun e=>h4 (.inl e)⟩
 obtain ⟨f,hff⟩:∃f,st.folders[p]? =some f:=⟨_,qLgx hlt⟩;have HFF:=zh hff;have HFM:=zh (zmg hff);have HL:=zh (HOK.out.fl f HFM.out);obtain ⟨a,off,_,e1,l1,m1,ga,na,ba,fz,hcell⟩:=HC.out.foAt HFF.out;have e2:=HV.out.2.2.symm.trans e1;simp only [Value.slice.injEq] at e2;obtain ⟨rfl,_,rfl⟩:=e2;have HV3:=zh e1;obtain ⟨B2,d2,B3,d3,B4,d4,B5,d5,B6,d6,hcs,hn,ht,t2,t3,t4,t5,t6⟩:=HC.out.old HFF.out (by simp);have g2:=hcell _ hcs 2 _ rfl;have g3:=hcell _ hcs 3 _ rfl;have g4:=hcell _ hcs 4 _ rfl;have g5:=hcell _ hcs 5 _ rfl;have g6:=hcell _ hcs 6 _ rfl;have T2:=zh t2;have T3:=zh t3;have T4:=zh t4;have T5:=zh t5;have T6:=zh t6;have HCS:=zh hcs;have HN:=zh hn;have HTT:=zh ht;have HNA:=zh na;have HGA:=zh ga;have HROW:=zh (show ∀b,Imm (XC S w) w.heap.size R wr b->b≠a from fun b hb e=>hb.2.2.1 ⟨.fo,by rw [HV3.out,e];rfl⟩);have HNA2:=zh (show w.heap.size+1≠a from fun e=>HC.out.nx (w.heap.size+1) (.inl ⟨.fo,by rw [HV3.out,<-e];rfl⟩) (.inl rfl));have y3:=(zB HX.out).1 3 _ rfl;clear hcell hcs hn ht t2 t3 t4 t5 t6 na ba e1 hff g5 g6;go_upto_region 6 with fail
 have HSQ:=zh (show ∀W':World,Below wr.heap.size wr W'->(fun W':World=>Below wr.heap.size wr W'/\W'.cell? ⟨a,off+p*7+2,none⟩=some (.slice B2 f.manifests.length d2)/\W'.cell? ⟨a,off+p*7+3,none⟩=some (.slice B3 f.epochs.length d3)/\W'.cell? ⟨a,off+p*7+4,none⟩=some (.slice B4 f.items.length d4)) W' from fun W' hW=>⟨hW,(hW.cell (p:=⟨a,off+p*7+2,none⟩) (zF g2)).trans g2,(hW.cell (p:=⟨a,off+p*7+3,none⟩) (zF g3)).trans g3,(hW.cell (p:=⟨a,off+p*7+4,none⟩) (zF g4)).trans g4⟩);refine Z0 (S:=fun W':World=>Below wr.heap.size wr W'/\W'.cell? ⟨a,off+p*7+2,none⟩=some (.slice B2 f.manifests.length d2)/\W'.cell? ⟨a,off+p*7+3,none⟩=some (.slice B3 f.epochs.length d3)/\W'.cell? ⟨a,off+p*7+4,none⟩=some (.slice B4 f.items.length d4)) 18 [1,2] (by kernel_rfl) (HSQ.out _ zbr.drew) (fun hHeld=>?_);refine z9u (i:=1) (oi:=?_) (v:=?_) ?_ (by kernel_rfl) ?_ (Or.inl ⟨?_,?_⟩) ?_;rotate_left 2
 ·simp only [List.getElem?_toArray,List.getElem?_cons_succ,List.getElem?_cons_zero];exact rfl
 ·exact fun _ _ _ h=>h
 ·rfl
 ·(intro W' hSw;clear hSw;go_simp;try with_reducible rfl)
 try simp only [zA]
 refine z9u (i:=2) (oi:=?_) (v:=?_) ?_ (by kernel_rfl) ?_ (Or.inl ⟨?_,?_⟩) ?_;rotate_left 2
 ·simp only [List.getElem?_toArray,List.getElem?_cons_succ,List.getElem?_cons_zero];exact rfl
 ·exact fun _ _ _ h=>h
 ·rfl
 ·(intro W' hSw;clear hSw;go_simp;try with_reducible rfl)
 try simp only [zA]
 refine zU 0 hHeld ?_;simp only [zA];refine ziU 3 ?_;iterate 4 (refine ztU hHeld ?_;simp only [zA])
 refine zoU ?_;refine ziU 8 ?_;iterate 4 (refine ztU hHeld ?_;simp only [zA])
 refine zoU ?_;refine ziU 13 ?_;iterate 4 (refine ztU hHeld ?_;simp only [zA])
 refine zoU ?_;refine zQ (i:=7) (by kernel_rfl) rfl (fun K hK=>?_);go_simp;go_at_call 73
 refine zcm (zGz f.manifests _ _ (Imm (XC S w) w.heap.size R wr) (T2.out.keep z16 (by decide) (zK (zbr.drew))) HL.out.1) ?_;rintro e3 wa ⟨⟨v1,d1,rfl,r1,a1,l1⟩,b3⟩;have Bwa:Below wr.heap.size wr wa:=zD (zbr.drew) b3;clear b3 hHeld;refine hK.out _ _ (HSQ.out _ Bwa) (fun hHeld=>?_);clear hK K;try simp only [zA]
 refine zQ (i:=12) (by kernel_rfl) rfl (fun K hK=>?_);go_simp;go_at_call 74
 refine zcm (zLz f.epochs _ _ (Imm (XC S w) w.heap.size R wr) (T3.out.keep z2e (by decide) (zK (Bwa))) HL.out.2.1) ?_;rintro e3 wb ⟨⟨v2,d2,rfl,r2,a2,l2⟩,b3⟩;have Bwb:Below wr.heap.size wr wb:=zD (Bwa) b3;have HSwb:=zh b3;clear b3 hHeld;refine hK.out _ _ (HSQ.out _ Bwb) (fun hHeld=>?_);clear hK K;try simp only [zA]
 refine zQ (i:=17) (by kernel_rfl) rfl (fun K hK=>?_);go_simp;go_at_call 75
 refine zcm (zNy f.items _ _ (Imm (XC S w) w.heap.size R wr) (T4.out.keep z20 (by decide) (zK (Bwb))) HL.out.2.2.1) ?_;rintro e3 wc ⟨⟨v3,d3,rfl,r3,a3,l3⟩,b3⟩;have Bwc:Below wr.heap.size wr wc:=zD (Bwb) b3;have HSwc:=zh b3;clear b3 hHeld;refine hK.out _ _ (HSQ.out _ Bwc) (fun hHeld=>?_);clear hK K;try simp only [zA]
 obtain ⟨F1,k1,j1,rfl⟩:=r1.shape3;obtain ⟨F2,k2,j2,rfl⟩:=r2.shape3;obtain ⟨_,k3,_,rfl⟩:=r3.shape3;have x2:=(Bwc.cell (p:=⟨a,off+p*7+2,none⟩) HGA.out).trans g2;have x3:=(Bwc.cell (p:=⟨a,off+p*7+3,none⟩) HGA.out).trans g3;have x4:=(Bwc.cell (p:=⟨a,off+p*7+4,none⟩) HGA.out).trans g4;have xz:∀q,wc.frozen? ⟨a,q,none⟩=false:=fun q=>(Bwc.frozen (p:=⟨a,q,none⟩) HGA.out).trans (fz q)
 have R1:=zh r1;have AA1:=zh a1;have LL1:=zh l1;have R2:=zh r2;have AA2:=zh a2;have LL2:=zh l2;have R3:=zh r3;have AA3:=zh a3;have LL3:=zh l3;have HBwa:=zh Bwa;have HBwc:=zh Bwc;clear r1 r2 r3 a1 a2 a3 l1 l2 l3 Bwa Bwb Bwc g2 g3 g4;refine zN (i:=18) (by kernel_rfl) rfl (fun K hK=>?_);go_simp;refine hK.out _ _ ?_;clear hK K;try simp only [zA]
 refine zN (i:=19) (by kernel_rfl) rfl (fun K hK=>?_);go_simp;refine hK.out _ _ ?_;clear hK K;try simp only [zA]
 refine zN (i:=20) (by kernel_rfl) rfl (fun K hK=>?_);go_simp;refine hK.out _ _ ?_;clear hK K;try simp only [zA]
 refine zN (i:=21) (by kernel_rfl) rfl (fun K hK=>?_);go_simp;refine hK.out _ _ ?_;clear hK K;try simp only [zA]
 refine zN (i:=22) (by kernel_rfl) rfl (fun K hK=>?_);go_simp;refine hK.out _ _ ?_;clear hK K;try simp only [zA]
 refine zN (i:=23) (by kernel_rfl) rfl (fun K hK=>?_);go_simp;refine hK.out _ _ ?_;clear hK K;try simp only [zA]
 refine zN (i:=24) (by kernel_rfl) rfl (fun K hK=>?_);go_simp;refine hK.out _ _ ?_;clear hK K;try simp only [zA]
 refine zN (i:=25) (by kernel_rfl) rfl (fun K hK=>?_);go_simp;refine hK.out _ _ ?_;clear hK K;try simp only [zA]
 refine zN (i:=26) (by kernel_rfl) rfl (fun K hK=>?_);go_simp;refine hK.out _ _ ?_;clear hK K;try simp only [zA]
 refine Z7 (by kernel_rfl) ?_ _;generalize hwd:World.setCell _ _ _=wd;have HWD:=zh hwd;obtain ⟨_,_,_,_,_,_,_,_,_,_,hcs',_⟩:=HC.out.old HFF.out (by simp);have hcq:=HCS.out.symm.trans hcs';clear hcs' hcq;have hcell:=HC.out.cellAt HFF.out HV3.out HCS.out;have g5:wd.cell? ⟨a,off+p*7+5,none⟩=some (.slice B5 f.wraps.length d5):=by
  rw [<-hwd];exact z52 (z52 (z52 ((HBwc.out.cell (p:=⟨a,off+p*7+5,none⟩) HGA.out).trans (hcell 5 _ rfl)) (by omega)) (by omega)) (by omega)
 have g6:wd.cell? ⟨a,off+p*7+6,none⟩=some (.slice B6 f.links.length d6):=by
  rw [<-hwd];exact z52 (z52 (z52 ((HBwc.out.cell (p:=⟨a,off+p*7+6,none⟩) HGA.out).trans (hcell 6 _ rfl)) (by omega)) (by omega)) (by omega)
 have hzd:wd.heap.size=wc.heap.size:=by rw [<-hwd];simp
 have KD:=zh (show Kept (Imm (XC S w) w.heap.size R wr) (Imm (XC S w) w.heap.size R wr) wr wd from fun b hb hl=>⟨hb,by
  rw [<-hwd,Below.heap_setCell _ _ _ _ (HROW.out b hb),Below.heap_setCell _ _ _ _ (HROW.out b hb),Below.heap_setCell _ _ _ _ (HROW.out b hb)];exact HBwc.out.block b hl⟩)
 have dz:∀q,wd.frozen? ⟨a,q,none⟩=false:=fun q=>by rw [<-hwd];simp [xz]
 have HGD:=zh (show a < wd.heap.size from by rw [hzd];exact zll HGA.out HBwc.out.size);have HZD:=zh hzd;clear hwd hcell x2 x3 x4 xz fz y3 hzd;go_upto_region 7 with fail
 have HSQ:=zh (show ∀W':World,Below wd.heap.size wd W'->(fun W':World=>Below wd.heap.size wd W'/\W'.cell? ⟨a,off+p*7+5,none⟩=some (.slice B5 f.wraps.length d5)/\W'.cell? ⟨a,off+p*7+6,none⟩=some (.slice B6 f.links.length d6)) W' from fun W' hW=>⟨hW,(hW.cell (p:=⟨a,off+p*7+5,none⟩) (zF g5)).trans g5,(hW.cell (p:=⟨a,off+p*7+6,none⟩) (zF g6)).trans g6⟩);refine Z0 (S:=fun W':World=>Below wd.heap.size wd W'/\W'.cell? ⟨a,off+p*7+5,none⟩=some (.slice B5 f.wraps.length d5)/\W'.cell? ⟨a,off+p*7+6,none⟩=some (.slice B6 f.links.length d6)) 12 [1] (by kernel_rfl) (HSQ.out _ zbr.drew) (fun hHeld=>?_);refine z9u (i:=1) (oi:=?_) (v:=?_) ?_ (by kernel_rfl) ?_ (Or.inl ⟨?_,?_⟩) ?_;rotate_left 2
 ·simp only [List.getElem?_toArray,List.getElem?_cons_succ,List.getElem?_cons_zero];exact rfl
 ·exact fun _ _ _ h=>h
 ·rfl
 ·(intro W' hSw;clear hSw;go_simp;try with_reducible rfl)
 try simp only [zA]
 refine zU 0 hHeld ?_;simp only [zA];refine ziU 2 ?_;iterate 4 (refine ztU hHeld ?_;simp only [zA])
 refine zoU ?_;refine ziU 7 ?_;iterate 4 (refine ztU hHeld ?_;simp only [zA])
 refine zoU ?_;refine zQ (i:=6) (by kernel_rfl) rfl (fun K hK=>?_);go_simp;go_at_call 76
 refine zcm (zNz f.wraps _ _ (Imm (XC S w) w.heap.size R wr) ((T5.out.keep z08 (by decide) KD.out).keep z08 (by decide) (zK (zbr.drew))) HL.out.2.2.2.1) ?_;rintro e3 we ⟨⟨_,d4,rfl,r4,a4,l4⟩,b3⟩;have Bwe:Below wd.heap.size wd we:=zD (zbr.drew) b3;clear b3 hHeld;refine hK.out _ _ (HSQ.out _ Bwe) (fun hHeld=>?_);clear hK K;try simp only [zA]
 refine zQ (i:=11) (by kernel_rfl) rfl (fun K hK=>?_);go_simp;go_at_call 77
 refine zcm (zO0 f.links _ _ (Imm (XC S w) w.heap.size R wr) ((T6.out.keep z1b (by decide) KD.out).keep z1b (by decide) (zK (Bwe))) HL.out.2.2.2.2) ?_;rintro e3 wf ⟨⟨_,d5,rfl,r5,a5,l5⟩,b3⟩;have Bwf:Below wd.heap.size wd wf:=zD (Bwe) b3;have HSwf:=zh b3;clear b3 hHeld;refine hK.out _ _ (HSQ.out _ Bwf) (fun hHeld=>?_);clear hK K;try simp only [zA]
 obtain ⟨_,k4,_,rfl⟩:=r4.shape3;obtain ⟨_,_,_,rfl⟩:=r5.shape3;have x5:=(Bwf.cell (p:=⟨a,off+p*7+5,none⟩) HGD.out).trans g5;have x6:=(Bwf.cell (p:=⟨a,off+p*7+6,none⟩) HGD.out).trans g6;have xz:∀q,wf.frozen? ⟨a,q,none⟩=false:=fun q=>(Bwf.frozen (p:=⟨a,q,none⟩) HGD.out).trans (dz q)
 have R4:=zh r4;have AA4:=zh a4;have LL4:=zh l4;have R5:=zh r5;have AA5:=zh a5;have LL5:=zh l5;have HBwe:=zh Bwe;have HBwf:=zh Bwf;clear r4 r5 a4 a5 l4 l5 Bwe Bwf g5 g6;refine zN (i:=12) (by kernel_rfl) rfl (fun K hK=>?_);go_simp;refine hK.out _ _ ?_;clear hK K;try simp only [zA]
 refine zN (i:=13) (by kernel_rfl) rfl (fun K hK=>?_);go_simp;refine hK.out _ _ ?_;clear hK K;try simp only [zA]
 refine zN (i:=14) (by kernel_rfl) rfl (fun K hK=>?_);go_simp;refine hK.out _ _ ?_;clear hK K;try simp only [zA]
 refine zN (i:=15) (by kernel_rfl) rfl (fun K hK=>?_);go_simp;refine hK.out _ _ ?_;clear hK K;try simp only [zA]
 refine zN (i:=16) (by kernel_rfl) rfl (fun K hK=>?_);go_simp;refine hK.out _ _ ?_;clear hK K;try simp only [zA]
 refine zN (i:=17) (by kernel_rfl) rfl (fun K hK=>?_);go_simp;refine hK.out _ _ ?_;clear hK K;try simp only [zA]
 refine Z7 (by kernel_rfl) ?_ _;generalize hwg:World.setCell _ _ _=wg;have HH:=zh (HC.out.head HFF.out HCS.out HN.out HTT.out HV3.out HBwa.out R1.out AA1.out (fun b hb=>LL1.out b hb) rfl HSwb.out R2.out AA2.out LL2.out rfl HSwc.out R3.out AA3.out LL3.out rfl HWD.out.symm HBwe.out R4.out AA4.out (fun b hb=>LL4.out b hb) rfl HSwf.out R5.out AA5.out LL5.out rfl HL.out);obtain ⟨Rg,hC1,mg,q1,q2,q3⟩:=HH.out;rw [hwg] at hC1 mg;have HC1:=zh hC1;have HB1':=zh (HB.out.trans (Mut.low mg HC.out.os (znl _) (qNtx HC.out.bb (Nat.le_of_lt HC.out.lt))));have HXg:=zh (show wg.heap[w.heap.size]? =some (.cells #[.int .i64 st.turn,.slice E1 n1 p1,.slice E2 n2 p2,.slice (some ⟨a,off,none⟩) st.folders.length p3] 34 (0,0)) from by rw [<-hwg,Below.heap_setCell _ _ _ _ HNA.out.symm];exact z2q (g:=a) HBwf.out (by rw [<-HWD.out,Below.heap_setCell _ _ _ _ HNA.out.symm,Below.heap_setCell _ _ _ _ HNA.out.symm];exact z2q (g:=a) HBwc.out HX.out HNA.out.symm) HNA.out.symm);have HXg2:=zh (show wg.heap[w.heap.size+1]? =some (.cells #[.int .i64 0,.slice none 0 0,.slice none 0 0,.slice none 0 0] 34 (0,0)) from by rw [<-hwg,Below.heap_setCell _ _ _ _ HNA2.out];exact z2q (g:=a) HBwf.out (by rw [<-HWD.out,Below.heap_setCell _ _ _ _ HNA2.out,Below.heap_setCell _ _ _ _ HNA2.out];exact z2q (g:=a) HBwc.out HX2.out HNA2.out) HNA2.out);have HVg:=zh (show (Rg .us).v= .slice E1 n1 p1/\(Rg .de).v= .slice E2 n2 p2/\(Rg .fo).v= .slice (some ⟨a,off,none⟩) st.folders.length p3 from by rw [q1,q2,q3];exact HV.out);clear hC1 mg q1 q2 q3 hwg x5 x6 xz dz HH R1 R2 R3 R4 R5 AA1 AA2 AA3 AA4 AA5 LL1 LL2 LL3 LL4 LL5 HBwa HBwc HBwe HBwf HSwb HSwc HSwf HWD KD HZD HGD T2 T3 T4 T5 T6 HCS HROW;obtain ⟨D2,e2,D3,e3,D4,e4,u5,u6,hh,k2,k3,k4⟩:=HC1.out.hdrAt (q:=0) HFF.out (by simp);have g2:=HC1.out.cellAt HFF.out HVg.out.2.2 hh 2 _ rfl;clear hh k2 k3 k4;go_wp2_with fail
 clear g2;go_loopw [77] (fun i wr=>∃(k:Nat) (R:RM),k<=f.manifests.length/\i= .int .i64 k/\Hid (CP (XC S w) w.heap.size w.heap.size wr R st (fun i=>if i=p then some 0 else if i < p then some 100000 else none))/\Hid (Below w.heap.size w wr)/\Hid (wr.heap[w.heap.size]? =some (.cells #[.int .i64 st.turn,.slice E1 n1 p1,.slice E2 n2 p2,.slice (some ⟨a,off,none⟩) st.folders.length p3] 34 (0,0)))/\Hid (wr.heap[w.heap.size+1]? =some (.cells #[.int .i64 0,.slice none 0 0,.slice none 0 0,.slice none 0 0] 34 (0,0)))/\Hid ((R .us).v= .slice E1 n1 p1/\(R .de).v= .slice E2 n2 p2/\(R .fo).v= .slice (some ⟨a,off,none⟩) st.folders.length p3)) (fun i _=>f.manifests.length - (intOf i).toNat)
 case atStart=>exact ⟨0,Rg,by omega,by go_num,HC1,HB1',HXg,HXg2,HVg⟩
 obtain ⟨k,R,hk,rfl,HC,HB,HX,HX2,HV⟩:=hrel;by_cases hlt2:k < f.manifests.length
 ·obtain ⟨m,hm⟩:∃m,f.manifests[k]? =some m:=⟨_,qLgx hlt2⟩;have HM:=zh hm;have HMM:=zh (HOK.out.ma f HFM.out m (zmg hm));obtain ⟨g,o,cc,A,d,e1,l1,m1,x4,fz,sl⟩:=HC.out.maAt (q:=0) HFF.out (by simp) hm;obtain ⟨D2,e2,D3,e3,D4,e4,u5,u6,hh,k2,k3,k4⟩:=HC.out.hdrAt (q:=0) HFF.out (by simp);have g2:=HC.out.cellAt HFF.out HV.out.2.2 hh 2 _ rfl;have ee:=k2.symm.trans e1;simp only [Value.slice.injEq] at ee;obtain ⟨rfl,_,rfl⟩:=ee;have HE1:=zh e1;have HSL:=zh sl;have hk2:(k:Int) < (f.manifests.length:Int):=by omega
  have HG1:=zh (show w.heap.size≠g from fun e=>HC.out.nb ⟨.ma p,by rw [HE1.out,<-e];rfl⟩);have HG2:=zh (show w.heap.size+1≠g from fun e=>HC.out.nx (w.heap.size+1) (.inl ⟨.ma p,by rw [HE1.out,<-e];rfl⟩) (.inl rfl));clear e1 sl hh k2 k3 k4 hm;go_upto_region 11 with fail
  have HSQ:=zh (show ∀W':World,Below wr.heap.size wr W'->(fun W':World=>Below wr.heap.size wr W'/\W'.cell? ⟨a,off+p*7+2,none⟩=some (.slice (some ⟨g,o,none⟩) f.manifests.length e2)/\W'.cell? ⟨g,o+k*8+4,none⟩=some (.slice A m.members.length d)) W' from fun W' hW=>⟨hW,(hW.cell (p:=⟨a,off+p*7+2,none⟩) (zF g2)).trans g2,(hW.cell (p:=⟨g,o+k*8+4,none⟩) (zF x4)).trans x4⟩);refine Z0 (S:=fun W':World=>Below wr.heap.size wr W'/\W'.cell? ⟨a,off+p*7+2,none⟩=some (.slice (some ⟨g,o,none⟩) f.manifests.length e2)/\W'.cell? ⟨g,o+k*8+4,none⟩=some (.slice A m.members.length d)) 14 [] (by kernel_rfl) (HSQ.out _ zbr.drew) (fun hHeld=>?_);refine ziU 0 ?_;iterate 13 (refine ztU hHeld ?_;simp only [zA])
  refine zoU ?_;refine zQ (i:=13) (by kernel_rfl) rfl (fun K hK=>?_);go_simp;go_at_call 78
  refine zcm (zD0 m.members _ _ _ (HSL.out.keep ZA (by decide) (zK (zbr.drew))) HMM.out) ?_;rintro e3 w2 ⟨⟨v1,d1,rfl,r1,a1,l1⟩,b3⟩;have Bw2:Below wr.heap.size wr w2:=zD (zbr.drew) b3;have HSw2:=zh b3;clear b3 hHeld;refine hK.out _ _ (HSQ.out _ Bw2) (fun hHeld=>?_);clear hK K;try simp only [zA]
  obtain ⟨F1,k1,j1,rfl⟩:=r1.shape3;have y4:=(Bw2.cell (p:=⟨g,o+k*8+4,none⟩) (zF x4)).trans x4;have yz:∀q,w2.frozen? ⟨g,q,none⟩=false:=fun q=>(Bw2.frozen (p:=⟨g,q,none⟩) (show g < wr.heap.size from zF x4)).trans (fz q)
  have HS:=zh (HC.out.maSet (q:=0) HFF.out (by simp) Bw2 HM.out HE1.out (zDc ZA HC.out Bw2 r1 HMM.out a1 (fun _ _ _ e=>e) (fun b hb=>l1 b hb)));have HBw2:=zh Bw2;clear r1 a1 l1 Bw2 g2 x4 fz;refine zN (i:=14) (by kernel_rfl) rfl (fun K hK=>?_);go_simp;refine hK.out _ _ ?_;clear hK K;try simp only [zA]
  refine zN (i:=15) (by kernel_rfl) rfl (fun K hK=>?_);go_simp;refine hK.out _ _ ?_;clear hK K;try simp only [zA]
  refine zN (i:=16) (by kernel_rfl) rfl (fun K hK=>?_);go_simp;refine hK.out _ _ ?_;clear hK K;try simp only [zA]
  refine Z7 (by kernel_rfl) ?_ _;obtain ⟨R2,hC2,m2,q1,q2,q3⟩:=HS.out;have HX':=zh (z2q (i:=o+k*8+4) (u:= .slice F1 k1 j1) HBw2.out HX.out HG1.out);have HX2':=zh (z2q (i:=o+k*8+4) (u:= .slice F1 k1 j1) HBw2.out HX2.out HG2.out);have HB':=zh (HB.out.trans (Mut.low m2 HC.out.os (znl _) (qNtx HC.out.bb (Nat.le_of_lt HC.out.lt))));have HV':=zh (show (R2 .us).v= .slice E1 n1 p1/\(R2 .de).v= .slice E2 n2 p2/\(R2 .fo).v= .slice (some ⟨a,off,none⟩) st.folders.length p3 from by rw [q1,q2,q3];exact HV.out);have HC':=zh hC2;clear hC2 m2 q1 q2 q3 y4 yz;generalize World.setCell w2 _ _=w3 at*;go_wp2;go_roundw
  case rel=>exact ⟨k+1,R2,by omega,by go_num,HC',HB',HX',HX2',HV'⟩
  case measure=>exact qMx
 obtain rfl:k=f.manifests.length:=by omega
 obtain ⟨w6,rfl⟩:∃w6:World,w6=wr:=⟨_,rfl⟩;obtain ⟨Rm,rfl⟩:∃Rm:RM,Rm=R:=⟨_,rfl⟩;obtain ⟨D2,e2,D3,e3,D4,e4,u5,u6,hh,k2,k3,k4⟩:=HC.out.hdrAt (q:=0) HFF.out (by simp);have g3:=HC.out.cellAt HFF.out HV.out.2.2 hh 3 _ rfl;clear hh k2 k3 k4;go_wp2_with fail
 clear g3;go_loopw [102] (fun i wr=>∃(k:Nat) (R:RM),k<=f.epochs.length/\i= .int .i64 k/\Hid (CP (XC S w) w.heap.size w.heap.size wr R st (fun i=>if i=p then some 0 else if i < p then some 100000 else none))/\Hid (Below w.heap.size w wr)/\Hid (wr.heap[w.heap.size]? =some (.cells #[.int .i64 st.turn,.slice E1 n1 p1,.slice E2 n2 p2,.slice (some ⟨a,off,none⟩) st.folders.length p3] 34 (0,0)))/\Hid (wr.heap[w.heap.size+1]? =some (.cells #[.int .i64 0,.slice none 0 0,.slice none 0 0,.slice none 0 0] 34 (0,0)))/\Hid ((R .us).v= .slice E1 n1 p1/\(R .de).v= .slice E2 n2 p2/\(R .fo).v= .slice (some ⟨a,off,none⟩) st.folders.length p3)) (fun i _=>f.epochs.length - (intOf i).toNat)
 case atStart=>exact ⟨0,Rm,by omega,by go_num,HC,HB,HX,HX2,HV⟩
 obtain ⟨k,R,hk,rfl,HC,HB,HX,HX2,HV⟩:=hrel;by_cases hlt2:k < f.epochs.length
 ·obtain ⟨m,hm⟩:∃m,f.epochs[k]? =some m:=⟨_,qLgx hlt2⟩;have HM:=zh hm;have HMM:=zh (HOK.out.ep f HFM.out m (zmg hm));obtain ⟨g,o,cc,A,d,e1,l1,m1,x4,fz,sl⟩:=HC.out.epAt (q:=0) HFF.out (by simp) hm;obtain ⟨D2,e2,D3,e3,D4,e4,u5,u6,hh,k2,k3,k4⟩:=HC.out.hdrAt (q:=0) HFF.out (by simp);have g3:=HC.out.cellAt HFF.out HV.out.2.2 hh 3 _ rfl;have ee:=k3.symm.trans e1;simp only [Value.slice.injEq] at ee;obtain ⟨rfl,_,rfl⟩:=ee;have HE1:=zh e1;have HSL:=zh sl;have hk2:(k:Int) < (f.epochs.length:Int):=by omega
  have HG1:=zh (show w.heap.size≠g from fun e=>HC.out.nb ⟨.ep p,by rw [HE1.out,<-e];rfl⟩);have HG2:=zh (show w.heap.size+1≠g from fun e=>HC.out.nx (w.heap.size+1) (.inl ⟨.ep p,by rw [HE1.out,<-e];rfl⟩) (.inl rfl));clear e1 sl hh k2 k3 k4 hm;go_upto_region 16 with fail
  have HSQ:=zh (show ∀W':World,Below wr.heap.size wr W'->(fun W':World=>Below wr.heap.size wr W'/\W'.cell? ⟨a,off+p*7+3,none⟩=some (.slice (some ⟨g,o,none⟩) f.epochs.length e3)/\W'.cell? ⟨g,o+k*5+3,none⟩=some (.slice A m.chain.length d)) W' from fun W' hW=>⟨hW,(hW.cell (p:=⟨a,off+p*7+3,none⟩) (zF g3)).trans g3,(hW.cell (p:=⟨g,o+k*5+3,none⟩) (zF x4)).trans x4⟩);refine Z0 (S:=fun W':World=>Below wr.heap.size wr W'/\W'.cell? ⟨a,off+p*7+3,none⟩=some (.slice (some ⟨g,o,none⟩) f.epochs.length e3)/\W'.cell? ⟨g,o+k*5+3,none⟩=some (.slice A m.chain.length d)) 14 [] (by kernel_rfl) (HSQ.out _ zbr.drew) (fun hHeld=>?_);refine ziU 0 ?_;iterate 13 (refine ztU hHeld ?_;simp only [zA])
  refine zoU ?_;refine zQ (i:=13) (by kernel_rfl) rfl (fun K hK=>?_);go_simp;go_at_call 79
  refine zcm (zSp m.chain _ _ _ (HSL.out.keep ZE (by decide) (zK (zbr.drew))) HMM.out) ?_;rintro e3 w2 ⟨⟨v1,d1,rfl,r1,a1,l1⟩,b3⟩;have Bw2:Below wr.heap.size wr w2:=zD (zbr.drew) b3;have HSw2:=zh b3;clear b3 hHeld;refine hK.out _ _ (HSQ.out _ Bw2) (fun hHeld=>?_);clear hK K;try simp only [zA]
  obtain ⟨F1,k1,j1,rfl⟩:=r1.shape3;have y4:=(Bw2.cell (p:=⟨g,o+k*5+3,none⟩) (zF x4)).trans x4;have yz:∀q,w2.frozen? ⟨g,q,none⟩=false:=fun q=>(Bw2.frozen (p:=⟨g,q,none⟩) (show g < wr.heap.size from zF x4)).trans (fz q)
  have HS:=zh (HC.out.epSet (q:=0) HFF.out (by simp) Bw2 HM.out HE1.out (zDc ZE HC.out Bw2 r1 HMM.out a1 (fun _ _ _ e=>e) (fun b hb=>l1 b hb)));have HBw2:=zh Bw2;clear r1 a1 l1 Bw2 g3 x4 fz;refine zN (i:=14) (by kernel_rfl) rfl (fun K hK=>?_);go_simp;refine hK.out _ _ ?_;clear hK K;try simp only [zA]
  refine zN (i:=15) (by kernel_rfl) rfl (fun K hK=>?_);go_simp;refine hK.out _ _ ?_;clear hK K;try simp only [zA]
  refine zN (i:=16) (by kernel_rfl) rfl (fun K hK=>?_);go_simp;refine hK.out _ _ ?_;clear hK K;try simp only [zA]
  refine Z7 (by kernel_rfl) ?_ _;obtain ⟨R2,hC2,m2,q1,q2,q3⟩:=HS.out;have HX':=zh (z2q (i:=o+k*5+3) (u:= .slice F1 k1 j1) HBw2.out HX.out HG1.out);have HX2':=zh (z2q (i:=o+k*5+3) (u:= .slice F1 k1 j1) HBw2.out HX2.out HG2.out);have HB':=zh (HB.out.trans (Mut.low m2 HC.out.os (znl _) (qNtx HC.out.bb (Nat.le_of_lt HC.out.lt))));have HV':=zh (show (R2 .us).v= .slice E1 n1 p1/\(R2 .de).v= .slice E2 n2 p2/\(R2 .fo).v= .slice (some ⟨a,off,none⟩) st.folders.length p3 from by rw [q1,q2,q3];exact HV.out);have HC':=zh hC2;clear hC2 m2 q1 q2 q3 y4 yz;generalize World.setCell w2 _ _=w3 at*;go_wp2;go_roundw
  case rel=>exact ⟨k+1,R2,by omega,by go_num,HC',HB',HX',HX2',HV'⟩
  case measure=>exact qMx
 obtain rfl:k=f.epochs.length:=by omega
 obtain ⟨w7,rfl⟩:∃w7:World,w7=wr:=⟨_,rfl⟩;obtain ⟨Re,rfl⟩:∃Re:RM,Re=R:=⟨_,rfl⟩;obtain ⟨D2,e2,D3,e3,D4,e4,u5,u6,hh,k2,k3,k4⟩:=HC.out.hdrAt (q:=0) HFF.out (by simp);have g4:=HC.out.cellAt HFF.out HV.out.2.2 hh 4 _ rfl;clear hh k2 k3 k4;go_wp2_with fail
 clear g4;go_loopw [127] (fun i wr=>∃(k:Nat) (R:RM),k<=f.items.length/\i= .int .i64 k/\Hid (CP (XC S w) w.heap.size w.heap.size wr R st (fun i=>if i=p then some k else if i < p then some 100000 else none))/\Hid (Below w.heap.size w wr)/\Hid (wr.heap[w.heap.size]? =some (.cells #[.int .i64 st.turn,.slice E1 n1 p1,.slice E2 n2 p2,.slice (some ⟨a,off,none⟩) st.folders.length p3] 34 (0,0)))/\Hid (wr.heap[w.heap.size+1]? =some (.cells #[.int .i64 0,.slice none 0 0,.slice none 0 0,.slice none 0 0] 34 (0,0)))/\Hid ((R .us).v= .slice E1 n1 p1/\(R .de).v= .slice E2 n2 p2/\(R .fo).v= .slice (some ⟨a,off,none⟩) st.folders.length p3)) (fun i _=>f.items.length - (intOf i).toNat)
 case atStart=>exact ⟨0,Re,by omega,by go_num,HC,HB,HX,HX2,HV⟩
 obtain ⟨k,R,hk,rfl,HC,HB,HX,HX2,HV⟩:=hrel;by_cases hlt2:k < f.items.length
 rotate_left
 ·obtain rfl:k=f.items.length:=by omega
  have HCF:=zh (show CP (XC S w) w.heap.size w.heap.size wr R st (fun i=>if i < p+1 then some 100000 else none) from (HC.out.full (q:=f.items.length) HFF.out (q':=100000) (by simp) (znl _) (by have:=HL.out.2.2.1;omega)).mode fun i _=>by
   by_cases e:i=p
   ·simp [e]
   ·simp [e,show i < p+1↔i < p from by omega])
  go_wp2;go_roundw
  case rel=>exact ⟨p+1,R,by omega,by go_num,HCF,HB,HX,HX2,HV⟩
  case measure=>exact qMx
 obtain ⟨x,hx⟩:∃x,f.items[k]? =some x:=⟨_,qLgx hlt2⟩;have HXI:=zh hx;have HXM:=zh (HOK.out.it f HFM.out x (zmg hx));obtain ⟨g,o,c,A,d,e1,l1,m1,x4,fz,sl⟩:=HC.out.itOld HFF.out (by simp) hx;obtain ⟨D2,e2,D3,e3,D4,e4,u5,u6,hh,k2,k3,k4⟩:=HC.out.hdrAt (q:=k) HFF.out (by simp);have g4:=HC.out.cellAt HFF.out HV.out.2.2 hh 4 _ rfl;have ee:=k4.symm.trans e1;simp only [Value.slice.injEq] at ee;obtain ⟨rfl,_,rfl⟩:=ee;have HE1:=zh e1;have HSL:=zh sl;have hk2:(k:Int) < (f.items.length:Int):=by omega
 have HG1:=zh (show w.heap.size≠g from fun e=>HC.out.nb ⟨.it p,by rw [HE1.out,<-e];rfl⟩);have HG2:=zh (show w.heap.size+1≠g from fun e=>HC.out.nx (w.heap.size+1) (.inl ⟨.it p,by rw [HE1.out,<-e];rfl⟩) (.inl rfl));clear e1 sl hh k2 k3 k4 hx;go_wp2_with fail
 refine zcm (zIy x.versions _ _ _ HSL.out HXM.out.1) ?_;rintro e2 w2 ⟨⟨v1,d1,rfl,r1,a1,l1⟩,Bw2⟩;obtain ⟨F1,k1,j1,rfl⟩:=r1.shape3;have y4:=(Bw2.cell (p:=⟨g,o+k*2+1,none⟩) (zF x4)).trans x4;have yz:∀q,w2.frozen? ⟨g,q,none⟩=false:=fun q=>(Bw2.frozen (p:=⟨g,q,none⟩) (show g < wr.heap.size from zF x4)).trans (fz q)
 have HS:=zh (HC.out.veSet HFF.out (by simp) Bw2 HXI.out HE1.out r1 a1 l1 rfl HXM.out.1);have HBw2:=zh Bw2;clear r1 a1 l1 Bw2 g4 x4 fz;go_upto_region 23 with fail
 obtain ⟨R2,hC2,m2,q1,q2,q3,q4,q5⟩:=HS.out;have HX':=zh (z2q (i:=o+k*2+1) (u:= .slice F1 k1 j1) HBw2.out HX.out HG1.out);have HX2':=zh (z2q (i:=o+k*2+1) (u:= .slice F1 k1 j1) HBw2.out HX2.out HG2.out);have HB':=zh (HB.out.trans (Mut.low m2 HC.out.os (znl _) (qNtx HC.out.bb (Nat.le_of_lt HC.out.lt))));have HV':=zh (show (R2 .us).v= .slice E1 n1 p1/\(R2 .de).v= .slice E2 n2 p2/\(R2 .fo).v= .slice (some ⟨a,off,none⟩) st.folders.length p3 from by rw [q1,q2,q3];exact HV.out);have HC':=zh (show CP (XC S w) w.heap.size w.heap.size _ R2 st (fun i=>if i=p then some (k+1) else if i < p then some 100000 else none) from hC2.mode fun i _=>by by_cases e:i=p<;>simp [e]);have HI':=zh (show (R2 (.it p)).v= .slice (some ⟨g,o,none⟩) f.items.length e4 from by rw [q4];exact HE1.out);clear hC2 m2 q1 q2 q3 q4 q5 y4 yz HS HE1 HSL HBw2;generalize World.setCell w2 _ _=w3 at*;obtain ⟨g',o',c',A2',dd,e1,l1,m1,x4,_⟩:=HC'.out.itNew (q:=k+1) HFF.out (by simp) (Nat.lt_succ_self k) HXI.out;have ee:=HI'.out.symm.trans e1;simp only [Value.slice.injEq,Option.some.injEq,Addr.mk.injEq,and_true] at ee;obtain ⟨⟨rfl,rfl⟩,_,rfl⟩:=ee;clear e1;go_wp2_with fail
 clear x4;go_loopw [149] (fun i wr=>∃(n:Nat) (R:RM),n<=x.versions.length/\i= .int .i64 n/\Hid ((R (.it p)).v= .slice (some ⟨g,o,none⟩) f.items.length e4)/\Hid (CP (XC S w) w.heap.size w.heap.size wr R st (fun i=>if i=p then some (k+1) else if i < p then some 100000 else none))/\Hid (Below w.heap.size w wr)/\Hid (wr.heap[w.heap.size]? =some (.cells #[.int .i64 st.turn,.slice E1 n1 p1,.slice E2 n2 p2,.slice (some ⟨a,off,none⟩) st.folders.length p3] 34 (0,0)))/\Hid (wr.heap[w.heap.size+1]? =some (.cells #[.int .i64 0,.slice none 0 0,.slice none 0 0,.slice none 0 0] 34 (0,0)))/\Hid ((R .us).v= .slice E1 n1 p1/\(R .de).v= .slice E2 n2 p2/\(R .fo).v= .slice (some ⟨a,off,none⟩) st.folders.length p3)) (fun i _=>x.versions.length - (intOf i).toNat)
 case atStart=>exact ⟨0,R2,by omega,by go_num,HI',HC',HB',HX',HX2',HV'⟩
 obtain ⟨n,R,hn,rfl,HI,HC,HB,HX,HX2,HV⟩:=hrel;by_cases hlt3:n < x.versions.length
 rotate_left
 ·obtain rfl:n=x.versions.length:=by omega
  go_wp2;go_roundw
  case rel=>exact ⟨k+1,R,by omega,by go_num,HC,HB,HX,HX2,HV⟩
  case measure=>exact qMx
 obtain ⟨v,hv⟩:∃v,x.versions[n]? =some v:=⟨_,qLgx hlt3⟩;have HVE:=zh hv;have HVM:=zh (HXM.out.2 v (zmg hv));obtain ⟨g',o',c',A2',dd,e1,l1,m1,x4,e5⟩:=HC.out.itNew (q:=k+1) HFF.out (by simp) (Nat.lt_succ_self k) HXI.out;have ee:=HI.out.symm.trans e1;simp only [Value.slice.injEq,Option.some.injEq,Addr.mk.injEq,and_true] at ee;obtain ⟨⟨rfl,rfl⟩,_,rfl⟩:=ee;obtain ⟨vg,vo,_,A,d,e6,_,_,x5,fz,sl⟩:=HC.out.veAt (q:=k+1) HFF.out (by simp) (Nat.lt_succ_self k) HXI.out hv;have ee:=e5.symm.trans e6;simp only [Value.slice.injEq] at ee;obtain ⟨rfl,_,rfl⟩:=ee;have HE6:=zh e6;have HSL:=zh sl;have hk3:(n:Int) < (x.versions.length:Int):=by omega
 have HG1:=zh (show w.heap.size≠vg from fun e=>HC.out.nb ⟨.ve p k,by rw [HE6.out,<-e];rfl⟩);have HG2:=zh (show w.heap.size+1≠vg from fun e=>HC.out.nx (w.heap.size+1) (.inl ⟨.ve p k,by rw [HE6.out,<-e];rfl⟩) (.inl rfl));clear e1 e5 e6 sl hv;go_upto_region 26 with fail
 have HSQ:=zh (show ∀W':World,Below wr.heap.size wr W'->(fun W':World=>Below wr.heap.size wr W'/\W'.cell? ⟨g,o+k*2+1,none⟩=some (.slice (some ⟨vg,vo,none⟩) x.versions.length dd)/\W'.cell? ⟨vg,vo+n*4+3,none⟩=some (.slice A v.data.length d)) W' from fun W' hW=>⟨hW,(hW.cell (p:=⟨g,o+k*2+1,none⟩) (zF x4)).trans x4,(hW.cell (p:=⟨vg,vo+n*4+3,none⟩) (zF x5)).trans x5⟩);refine Z0 (S:=fun W':World=>Below wr.heap.size wr W'/\W'.cell? ⟨g,o+k*2+1,none⟩=some (.slice (some ⟨vg,vo,none⟩) x.versions.length dd)/\W'.cell? ⟨vg,vo+n*4+3,none⟩=some (.slice A v.data.length d)) 14 [] (by kernel_rfl) (HSQ.out _ zbr.drew) (fun hHeld=>?_);refine ziU 0 ?_;iterate 13 (refine ztU hHeld ?_;simp only [zA])
 refine zoU ?_;refine zQ (i:=13) (by kernel_rfl) rfl (fun K hK=>?_);go_simp;go_at_call 40
 refine zcm (zGe v.data _ _ _ (HSL.out.keep rByte_ok (by decide) (zK (zbr.drew))) HVM.out) ?_;rintro e3 w4 ⟨⟨v1,d1,rfl,r1,a1,l1⟩,b3⟩;have Bw4:Below wr.heap.size wr w4:=zD (zbr.drew) b3;have HSw4:=zh b3;clear b3 hHeld;refine hK.out _ _ (HSQ.out _ Bw4) (fun hHeld=>?_);clear hK K;try simp only [zA]
 obtain ⟨F2,k2,j2,rfl⟩:=r1.shape3;have y4:=(Bw4.cell (p:=⟨vg,vo+n*4+3,none⟩) (zF x5)).trans x5;have yz:∀q,w4.frozen? ⟨vg,q,none⟩=false:=fun q=>(Bw4.frozen (p:=⟨vg,q,none⟩) (show vg < wr.heap.size from zF x5)).trans (fz q)
 have HS:=zh (HC.out.vdSet (q:=k+1) HFF.out (by simp) (Nat.lt_succ_self k) Bw4 HXI.out HVE.out HE6.out (zDc rByte_ok HC.out Bw4 r1 HVM.out a1 (fun _ _ _ e=>e) (fun b hb=>l1 b hb)));have HBw4:=zh Bw4;clear r1 a1 l1 Bw4 x4 x5 fz;refine zN (i:=14) (by kernel_rfl) rfl (fun K hK=>?_);go_simp;refine hK.out _ _ ?_;clear hK K;try simp only [zA]
 refine zN (i:=15) (by kernel_rfl) rfl (fun K hK=>?_);go_simp;refine hK.out _ _ ?_;clear hK K;try simp only [zA]
 refine zN (i:=16) (by kernel_rfl) rfl (fun K hK=>?_);go_simp;refine hK.out _ _ ?_;clear hK K;try simp only [zA]
 refine Z7 (by kernel_rfl) ?_ _;obtain ⟨R3,hC2,m2,q1,q2,q3,q4⟩:=HS.out;have HX':=zh (z2q (i:=vo+n*4+3) (u:= .slice F2 k2 j2) HBw4.out HX.out HG1.out);have HX2':=zh (z2q (i:=vo+n*4+3) (u:= .slice F2 k2 j2) HBw4.out HX2.out HG2.out);have HB':=zh (HB.out.trans (Mut.low m2 HC.out.os (znl _) (qNtx HC.out.bb (Nat.le_of_lt HC.out.lt))));have HV':=zh (show (R3 .us).v= .slice E1 n1 p1/\(R3 .de).v= .slice E2 n2 p2/\(R3 .fo).v= .slice (some ⟨a,off,none⟩) st.folders.length p3 from by rw [q1,q2,q3];exact HV.out);have HC':=zh hC2;have HI':=zh (show (R3 (.it p)).v= .slice (some ⟨g,o,none⟩) f.items.length e4 from by rw [q4];exact HI.out);clear hC2 m2 q1 q2 q3 q4 y4 yz HS;generalize World.setCell w4 _ _=w5 at*;go_wp2;go_roundw
 case rel=>exact ⟨n+1,R3,by omega,by go_num,HI',HC',HB',HX',HX2',HV'⟩
 case measure=>exact qMx
end Go.Proofs.YtdggplhnfhcieaaGreatDoor
