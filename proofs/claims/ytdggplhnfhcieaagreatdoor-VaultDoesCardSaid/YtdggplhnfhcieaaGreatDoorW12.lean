/- No condition. -/
import Derived.Test.YtdggplhnfhcieaaGreatDoorW10
set_option linter.all false
set_option maxRecDepth 100000
namespace Go.Proofs.YtdggplhnfhcieaaGreatDoor
open Go.Proofs.Tryz Cd Ce List
variable {W1:World} {cp j n p:Nat} {u:Value}
section
open Go.RowKit Go.Deep
theorem z3b {r:Type} {S:Nat->Prop} {W:World} {e:TypeId} {sz:Nat} {Q:Rp r} (o:RpOk sz Q) {v:Value} {cells:List (List Value)} {l:List r} (h:RowC e sz W v cells) (hl:cells.length<=10000) (k:All2 (Q S W) cells l) (C:∀b,v.ownBlock=some b->S b):Sl sz Q S W v l:=by
 obtain⟨s,t,e,w,x,y,B⟩:=z1h o h hl k;refine⟨s,t,e,w,x,y,λi G m=>?_⟩;obtain⟨d,E,_,c,_⟩:=B i G m;obtain⟨F,D,g⟩:=k.at m;obtain⟨_,_,_,a,_,_,_,z,_⟩:=h.at D;rw[e] at a;simp only[Value.slice.injEq] at a;rw[c] at a;simp only[Option.some.injEq,Addr.mk.injEq,and_true] at a;obtain⟨⟨rfl,rfl⟩,_⟩:=a;refine⟨d,E,F,c,C d (by rw[e,c];rfl),o.len g,λj u A=>?_,g⟩;rw[<-Nat.add_assoc];exact z j u A
theorem zT9 (w:World) (a:Option Addr) (n c:Nat):(binOp .eql 39 (.slice a n c) ()).run prog w= .ok a.isNone w:=by
 simp only[binOp];simp[run_equal_slice_nil w _ _ a n c underlying39]
theorem zGe (l:List Int) (v:Value) (w:World) (S:Nat->Prop) (h:Sl 1 Y1 S w v l) (C:l.length<=10000):
  Calls prog 40 #[v] w (z2n 5 1 Y1 S l w):=by
 obtain⟨A,s,z,g,k⟩:=info_parts (show(prog.info? 5).map (λi=>(i.zero,i.size,i.bytes))=some (some (.int .u8 0),1,1) from kr);obtain⟨d,_,rfl,c,o,_,hs⟩:=h;unfold maxLen at o;have D:=zT9;rcases d with _|e
 ·obtain rfl:l=[]:=by
   exact mZ1
  clear hs;go_enter func40,ntmps40
  exact man
 have y:SlAt 1 Y1 (z21 (λb=>¬S b) (w.alloc (.cells #[] 5)) (.slice (some ⟨w,0,none⟩) 0 0)) (w.alloc (.cells #[] 5)) (some e) l:=
  hs.keep rByte_ok dc (λb hb c=>⟨⟨by simp;omega,λh=>h hb,λm=>by simp only[Value.ownBlock,Option.some.injEq] at m;omega⟩,heap_alloc_old _ _ c⟩)
 clear hs;go_enter func40,ntmps40
 go_wp2_with (at_builtin;go_loud (refine YP (R:=Y1) _ rfl (.tmp 5) (.tmp 6) 39 rfl 5 A _ 1 1 underlying39 s z g k rfl dc rByte_ok w (by go_size) _ _ rfl (Grow.empty (heap_alloc_new _ _) (znl _)) _ _ _ rfl _ rfl y (by simp;omega) dc ?_);intro E F a gg1 B;rw[nil_append] at a;obtain⟨_,_,_,rfl,t⟩:=a.shape';clear t)
 go_ret;obtain⟨cells,k1,k2,k3⟩:=Grow.toRow rByte_ok dc a λb hb=>Classical.byContradiction hb
 exact maj
end
section
open Go.RowKit Go.Deep
structure IsFoQ (S:Nat->Prop) (W:World) (R:RM) (i:Nat) (f:Folder) (q:Nat):Prop where
 name:f.name.size<=()
 turn:I64 f.turn
 man:All2 (ZL S W) (R (.ma i)).cells f.manifests
 ep:All2 (YE S W) (R (.ep i)).cells f.epochs
 itl:(R (.it i)).cells.length=f.items.length
 it:∀j x,f.items[j]? =some x->if j<q then(R (.it i)).cells[j]? =some [.string x.name,(R (.ve i j)).v]/\x.name.size<=140737488355328/\All2 (yM S W) (R (.ve i j)).cells x.versions else ∃cs,(R (.it i)).cells[j]? =some cs/\YG S W cs x
 wr:All2 (yL S W) (R (.wr i)).cells f.wraps
 li:All2 (z0g S W) (R (.li i)).cells f.links
structure CP (X:Nat->Prop) (bc base:Nat) (W:World) (R:RM) (st:State) (md:Nat->Option Nat):Prop where
 os:OS base W R
 nb:¬z01 R bc
 lt:bc<W
 bb:base<=bc
 nx:∀b,z01 R b\/b=bc->¬X b
 xl:∀b,X b->b<W.heap.size
 us:All2 (z0z (Imm X bc R W) W) (R .us).cells st.users
 de:All2 (z10 (Imm X bc R W) W) (R .de).cells st.deposits
 fol:(R .fo).cells.length=st.folders.length
 fo:∀i f,st.folders[i]? =some f->match md i with
  | none=>∃cs,(R .fo).cells[i]? =some cs/\Z6 (Imm X bc R W) W cs f
  | some q=>(R .fo).cells[i]? =some (hdr R i f)/\IsFoQ (Imm X bc R W) W R i f q
section
variable {X:Nat->Prop} {bc base:Nat} {W W':World} {R R':RM} {st:State} {md:Nat->Option Nat} {S S':Nat->Prop} {i q:Nat} {f:Folder}
theorem IsFoQ.keep (h:IsFoQ S W R i f q) (k:Kept S S' W W'):IsFoQ S' W' R i f q:=
 ⟨h.name,h.turn,h.man.imp λ_ _ h=>yF h k,h.ep.imp λ_ _ h=>z2a h k,h.itl,λj g e=>by
  have:=h.it j g e;split
  ·rename_i a;rw[if_pos a] at this;exact⟨this.1,this.2.1,this.2.2.imp λ_ _ h=>z0q h k⟩
  ·rename_i a;rw[if_neg a] at this;obtain⟨b,c,d⟩:=this;exact⟨b,c,z4j d k⟩,h.wr.imp λ_ _ h=>z4k h k,h.li.imp λ_ _ h=>z6o h k⟩
theorem IsFoQ.rows (h:IsFoQ S W R i f q) (a:R' (.ma i)=R (.ma i)) (e2:R' (.ep i)=R (.ep i)) (e3:R' (.it i)=R (.it i)) (b:R' (.wr i)=R (.wr i)) (c:R' (.li i)=R (.li i)) (d:∀j,R' (.ve i j)=R (.ve i j)):IsFoQ S W R' i f q:=
 ⟨h.name,h.turn,by rw[a];exact h.man,by rw[e2];exact h.ep,by rw[e3];exact h.itl,λj g e=>by rw[e3,d j];exact h.it j g e,by rw[b];exact h.wr,by rw[c];exact h.li⟩
theorem IsFoQ.full (h:IsFoQ S W R i f q) (d:f.items<=q) {q':Nat} (e:f.items<=q'):IsFoQ S W R i f q':=
 ⟨h.name,h.turn,h.man,h.ep,h.itl,λj b a=>by
  have c:=(zge a).1;have:=h.it j b a;rw[if_pos om] at this;rw[if_pos om];exact this,h.wr,h.li⟩
theorem CP.turn (h:CP X bc base W R st md) (A:st.folders[p]? =some f) (m:Mut bc R W R' W') (os:OS base W' R') (I:R' .us=R .us) (G:R' .de=R .de)
  (H:∀b,b≠p->R' (.ma b)=R (.ma b)/\R' (.ep b)=R (.ep b)/\R' (.it b)=R (.it b)/\R' (.wr b)=R (.wr b)/\R' (.li b)=R (.li b)/\∀j,R' (.ve b j)=R (.ve b j))
  (s:(R' .fo).cells=(R .fo).cells.set p (hdr R' p f)) (hF:IsFoQ (Imm X bc R' W') W' R' p f q):CP X bc base W' R' st (λi=>if i=p then some q else md i):=by
 have k:=m.kept (X:=X);refine⟨os,λa=>(m.fresh bc a).elim h.nb λJ=>by have:=h.lt;omega,zll h.lt m.but.size,h.bb,λc a d=>?_,λc d=>zll (h.xl c d) m.but.size,by rw[I];exact h.us.imp λ_ _ a=>z29 a k,by rw[G];exact h.de.imp λ_ _ a=>z3o a k,by rw[s];simp[h.fol],λi E t=>?_⟩
 ·rcases a with a|a
  ·rcases m.fresh c a with a|a
   ·exact h.nx c (.inl a) d
   have:=h.xl c d;omega
  exact h.nx c (.inr a) d
 by_cases e:i=p
 ·subst e;rw[A] at t;obtain rfl:=zsi t;simp only[if_true];refine⟨?_,hF⟩;rw[s,getElem?_set_self (by rw[h.fol];exact(zge A).1)]
 have g:=h.fo i E t;simp only[e,if_false];obtain⟨v,w,x,y,z,C⟩:=H i e;have F:(R' .fo).cells[i]? =(R .fo).cells[i]? :=by rw[s,getElem?_set_ne λa=>e a.symm]
 rw[F]
 cases B:md i with
 | none=>
  rw[B] at g;obtain⟨D,o,r⟩:=g
  exact⟨D,o,zV r k⟩
 | some q'=>
  rw[B] at g;obtain⟨o,r⟩:=g;refine⟨?_,(r.keep k).rows v w x y z C⟩;rw[o];unfold hdr;rw[v,w,x,y,z]
theorem CP.mode (h:CP X bc base W R st md) {b:Nat->Option Nat} (e:∀i,i<st.folders.length->b i=md i):CP X bc base W R st b:=
 ⟨h.os,h.nb,h.lt,h.bb,h.nx,h.xl,h.us,h.de,h.fol,λi f a=>by rw[e i (zge a).1];exact h.fo i f a⟩
theorem CP.below (h:CP X bc base W R st md) (hb:(bW W W':Prop)):CP X bc base W' R st md:=by
 have s:Mut bc R W R W':=Mut.below hb;have b:=s.kept (X:=X);refine⟨h.os.below hb,h.nb,zll h.lt hb.size,h.bb,h.nx,λe r=>zll (h.xl e r) hb.size,h.us.imp λ_ _ c=>z29 c b,h.de.imp λ_ _ c=>z3o c b,h.fol,λi f o=>?_⟩;have a:=h.fo i f o
 cases d:md i with
 | none=>
  rw[d] at a;obtain⟨g,k,m⟩:=a
  exact⟨g,k,zV m b⟩
 | some q'=>
  rw[d] at a;exact⟨a.1,a.2.keep b⟩
theorem CP.done (h:CP X bc base W R st md) (g:I64 st.turn) (hm:∀i f,st.folders[i]? =some f->∃q,md i=some q/\f.items.length<=q):IsSt (Imm X bc R W) W R st:=
 ⟨g,h.us,h.de,h.fol,λi f b=>by
  obtain⟨q,e,_⟩:=hm i f b;have d:=h.fo i f b;rw[e] at d;obtain⟨k,a⟩:=d;refine⟨k,a.name,a.turn,a.man,a.ep,a.itl,λj m c=>?_,a.wr,a.li⟩;have:=a.it j m c;rwa [if_pos (oh ((zge c).1))] at this⟩
theorem Mut.low (m:Mut bc R W R' W') (os:OS base W R) (hb:base<=bc) (d:base<=W):Below base W W':=
 ⟨m.but.os,m.but.tape,m.but.output,m.but.size,λb c=>m.but.block b (zll c d) λa=>by
  rcases a with a|⟨e,a⟩
  ·omega
  ·have:=os.low e b a;omega⟩
structure ST (bc base:Nat) (W0:World) (R0:RM) (W:World) (R:RM):Prop where
 os:OS base W R
 m:Mut bc R0 W0 R W
 hb:base<=W
theorem CP.stage (h:CP X bc base W R st md):ST bc base W R W R:=⟨h.os,Mut.refl _ _ _,qNtx h.bb (Nat.le_of_lt h.lt)⟩
theorem ST.row {W0:World} {a:RM} (h:ST bc base W0 a W R) (c:(bW W W1:Prop)) (k:RK) (r:Row) (hr:RowC k.ty k.sz W1 r.v r.cells) (hl:r.cells.length<=10000) (e:∀b,r.v.ownBlock=some b->W.heap.size<=b):ST bc base W0 a W1 (zO R k r):=by
 obtain⟨m,g⟩:=h.os.put (bw:=bc) (W':=W1) h.hb k r (ButB.of c) hr hl λb d=> .inr (e b d)
 exact⟨m,h.m.trans g,qNtx h.hb c.size⟩
theorem ST.cell {W0:World} {b:RM} (h:ST bc base W0 b W R) (k:RK) {a off:Nat} (hv:(R k).v= .slice (some ⟨a,off,none⟩) n cp) {i:Nat} {x:List Value} (hx:(R k).cells[i]? =some x) (hj:j<k.sz) (hu:u.oneCell'=true):
  ST bc base W0 b (W.setCell (aD a (off+i*k.sz+j)) u) (zO R k ⟨(R k).v,(R k).cells.set i (x.set j u)⟩):=by
 have c:=h.os.row k;rw[hv] at c;have e:=c.write om hx hj u hu;obtain⟨m,g⟩:=h.os.put (bw:=bc) (W':=W.setCell (aD a (off+i*k.sz+j)) u) h.hb k ⟨(R k).v,(R k).cells.set i (x.set j u)⟩ ((ButB.refl _ W).set ⟨a,off+i*k.sz+j,none⟩ u (by rw[hv];rfl)) (by rw[hv];exact e) (by have:=h.os.len k;simpa using this) (λo d=> .inl d);exact⟨m,h.m.trans g,by rw[World.size_setCell];exact h.hb⟩
theorem Kept.shift {S S':Nat->Prop} {W a c:World} (e:(bW W a:Prop)) (d:∀b,S b->b<W.heap.size) (k:Kept S S' W c):Kept S S' a c:=λb hb _=>by
 obtain⟨h1,h2⟩:=k b hb (d b hb);exact⟨h1,h2.trans (e.block b (d b hb)).symm⟩
theorem CP.head (h:CP X bc base W R st md) (ah:st.folders[p]? =some f) {w2 Z M F z:Value} (hx:(R .fo).cells[p]? =some [.string f.name,.int .i64 f.turn,w2,Z,M,F,z]) (hn:f.name.size<=()) (az:I64 f.turn)
  {a off n cp:Nat} (hv:(R .fo).v= .slice (some ⟨a,off,none⟩) n cp) {A B C t v w:World} {d g m o s:Value} {G H I J K:List (List Value)}
  (N:(bW W A:Prop)) (aV:RowC 84 8 A d G) (a1:All2 (ZL (Imm X bc R W) A) G f.manifests) (aI:∀b,d.ownBlock=some b->W.heap.size<=b) (aO:d.oneCell'=true)
  (aa:(bW A B:Prop)) (aW:RowC 130 5 B g H) (a2:All2 (YE (Imm X bc R W) B) H f.epochs) (aJ:∀b,g.ownBlock=some b->A.heap.size<=b) (aP:g.oneCell'=true)
  (ab:(bW B C:Prop)) (aX:RowC 78 2 C m I) (a3:All2 (YG (Imm X bc R W) C) I f.items) (aK:∀b,m.ownBlock=some b->B.heap.size<=b) (aQ:m.oneCell'=true)
  (P:t=((C.setCell (aD a (off+p*7+2)) d).setCell (aD a (off+p*7+3)) g).setCell (aD a (off+p*7+4)) m)
  (O:(bW t v:Prop)) (aY:RowC 149 3 v o J) (ad:All2 (yL (Imm X bc R W) v) J f.wraps) (aL:∀b,o.ownBlock=some b->t.heap.size<=b) (aR:o.oneCell'=true)
  (ac:(bW v w:Prop)) (aZ:RowC 151 3 w s K) (ae:All2 (z0g (Imm X bc R W) w) K f.links) (aN:∀b,s.ownBlock=some b->v.heap.size<=b) (aT:s.oneCell'=true)
  (hl:f.manifests.length<=10000/\f.epochs.length<=10000/\f.items.length<=10000/\f.wraps.length<=10000/\f.links.length<=10000):
  ∃R',CP X bc base ((w.setCell (aD a (off+p*7+5)) o).setCell (aD a (off+p*7+6)) s) R' st (λi=>if i=p then some 0 else md i)/\Mut bc R W R' ((w.setCell (aD a (off+p*7+5)) o).setCell (aD a (off+p*7+6)) s)/\R' .us=R .us/\R' .de=R .de/\(R' .fo).v=(R .fo).v:=by
 have L:p<(R .fo).cells.length:=by rw[h.fol];exact(zge ah).1
 have am:=h.stage.row N (.ma p) ⟨d,G⟩ aV (by rw[a1.1];exact hl.1) aI;have an:=am.row aa (.ep p) ⟨g,H⟩ aW (by rw[a2.1];exact hl.2.1) aJ;have ao:=an.row ab (.it p) ⟨m,I⟩ aX (by rw[a3.1];exact hl.2.2.1) aK;have ap:=ao.cell .fo (a:=a) (off:=off) (n:=n) (cp:=cp) (i:=p) (j:=2) (u:=d) (x:=[.string f.name,.int .i64 f.turn,w2,Z,M,F,z]) (by simpa[zO] using hv) (by simpa[zO] using hx) dc aO;have aq:=ap.cell .fo (a:=a) (off:=off) (n:=n) (cp:=cp) (i:=p) (j:=3) (u:=g) (x:=[.string f.name,.int .i64 f.turn,d,Z,M,F,z]) (by simpa[zO] using hv) (by simp[zO,L]) dc aP;have Y:=aq.cell .fo (a:=a) (off:=off) (n:=n) (cp:=cp) (i:=p) (j:=4) (u:=m) (x:=[.string f.name,.int .i64 f.turn,d,g,M,F,z]) (by simpa[zO] using hv) (by simp[zO,L]) dc aQ;rw[show((C.setCell (aD a (off+p*RK.fo.sz+2)) d).setCell (aD a (off+p*RK.fo.sz+3)) g).setCell (aD a (off+p*RK.fo.sz+4)) m=t from P.symm] at Y;have ar:=Y.row O (.wr p) ⟨o,J⟩ aY (by rw[ad.1];exact hl.2.2.2.1) aL;have au:=ar.row ac (.li p) ⟨s,K⟩ aZ (by rw[ae.1];exact hl.2.2.2.2) aN;have av:=au.cell .fo (a:=a) (off:=off) (n:=n) (cp:=cp) (i:=p) (j:=5) (u:=o) (x:=[.string f.name,.int .i64 f.turn,d,g,m,F,z]) (by simpa[zO] using hv) (by simp[zO,L]) dc aR;have E:=av.cell .fo (a:=a) (off:=off) (n:=n) (cp:=cp) (i:=p) (j:=6) (u:=s) (x:=[.string f.name,.int .i64 f.turn,d,g,m,o,z]) (by simpa[zO] using hv) (by simp[zO,L]) dc aT;clear am an ao ap aq Y ar au av;generalize y:zO _ _ _=R' at E;have aj:R' .us=R .us:=by rw[<-y];simp[zO]
 have ak:R' .de=R .de:=by rw[<-y];simp[zO]
 have al:R' .fo=⟨(R .fo).v,(R .fo).cells.set p [f.name,f.turn,d,g,m,o,s]⟩:=by rw[<-y];simp[zO]
 have k:R' (.ma p)=⟨d,G⟩/\R' (.ep p)=⟨g,H⟩/\R' (.it p)=⟨m,I⟩/\R' (.wr p)=⟨o,J⟩/\R' (.li p)=⟨s,K⟩:=by rw[<-y];simp[zO]
 have aU:∀c,c≠p->R' (.ma c)=R (.ma c)/\R' (.ep c)=R (.ep c)/\R' (.it c)=R (.it c)/\R' (.wr c)=R (.wr c)/\R' (.li c)=R (.li c)/\∀j,R' (.ve c j)=R (.ve c j):=λc aw=>by
  rw[<-y];simp[zO,aw]
 clear y;have af:=zD N aa;have U:=zD af ab;have D:=E.m.kept (X:=X);have ag:∀b,Imm X bc R W b->t.heap[b]? =W.heap[b]? :=λb e=>by
  have V:b≠a:=λr=>e.2.2.1 ⟨.fo,by rw[hv,r];rfl⟩
  rw[P,Below.heap_setCell _ _ _ _ V,Below.heap_setCell _ _ _ _ V,Below.heap_setCell _ _ _ _ V];exact U.block b e.1
 have ai:W<=t.heap.size:=by rw[P];simpa using U.size
 have aG:Kept (Imm X bc R W) (Imm X bc R' _) v _:=λb e _=>by
  obtain⟨Q,T⟩:=D b e e.1;exact⟨Q,T.trans ((O.block b (zll e.1 ai)).trans (ag b e)).symm⟩
 have aH:Kept (Imm X bc R W) (Imm X bc R' _) w _:=λb e _=>by
  obtain⟨Q,T⟩:=D b e e.1;exact⟨Q,T.trans (((zD O ac).block b (zll e.1 ai)).trans (ag b e)).symm⟩
 refine⟨R',h.turn ah E.m E.os aj ak aU ?_ ?_,E.m,aj,ak,by rw[al]⟩
 ·rw[al];unfold hdr;rw[k.1,k.2.1,k.2.2.1,k.2.2.2.1,k.2.2.2.2]
 refine⟨hn,az,?_,?_,?_,λj a4 ax=>?_,?_,?_⟩
 ·rw[k.1];exact a1.imp λ_ _ r=>yF r (D.shift N λ_ h=>h.1)
 ·rw[k.2.1];exact a2.imp λ_ _ r=>z2a r (D.shift af λ_ h=>h.1)
 ·rw[k.2.2.1];exact a3.1
 ·rw[if_neg om,k.2.2.1];obtain⟨a0,aB,ay⟩:=a3.at ax;exact⟨a0,aB,z4j ay (D.shift U λ_ h=>h.1)⟩
 ·rw[k.2.2.2.1];exact ad.imp λ_ _ r=>z4k r aG
 rw[k.2.2.2.2];exact ae.imp λ_ _ r=>z6o r aH
theorem zHh {md:Nat->Option Nat} {q:Nat} (h:md p=some q) (i:Nat):md i=(if i=p then some q else md i):=by
 split
 ·rename_i a;rw[a,h]
 rfl
theorem mbY {p:Prop} (h:p:=by
 have e1:hdr R' p f=hdr R p f:=by unfold hdr;rw[q1.2,q34,q35,q36,q37]
 rw[e1,q33,lSq hc]):p:=h
theorem CP.maSet (h:CP X bc base W R st md) (z:st.folders[p]? =some f) (hp:md p=some q) (w:(bW W W1:Prop)) {m:Manifest} (hm:f.manifests[j]? =some m) {a off:Nat} (hv:(R (.ma p)).v= .slice (some ⟨a,off,none⟩) n cp) (hu:Sl 2 zZ (λb=>b<W1/\b≠bc/\¬z01 R b/\¬X b) W1 u m.members):
  ∃R',CP X bc base (W1.setCell (aD a (off+j*8+4)) u) R' st md/\Mut bc R W R' (W1.setCell (aD a (off+j*8+4)) u)/\R' .us=R .us/\R' .de=R .de/\(R' .fo).v=(R .fo).v:=by
 have s:=h.below w;have A:=s.fo p f z;rw[hp] at A;obtain⟨hc,hF⟩:=A;obtain⟨k,t,M⟩:=hF.man.at hm;obtain⟨o,r,rfl,_⟩:=id hu;have e:=s.stage.cell (.ma p) hv t (by decide:4<8) (u:= .slice o m.members r) rfl;generalize g:zO _ _ _=R' at e;have q1:(R' (.ma p)).cells=(R (.ma p)).cells.set j (k.set 4 (.slice o m.members r))/\(R' (.ma p)).v=(R (.ma p)).v:=by rw[<-g];simp[zO]
 have O:R' .us=R .us/\R' .de=R .de/\R' .fo=R .fo/\R' (.ep p)=R (.ep p)/\R' (.it p)=R (.it p)/\R' (.wr p)=R (.wr p)/\R' (.li p)=R (.li p)/\∀j,R' (.ve p j)=R (.ve p j):=by rw[<-g];simp[zO]
 have Q:∀c,c≠p->R' (.ma c)=R (.ma c)/\R' (.ep c)=R (.ep c)/\R' (.it c)=R (.it c)/\R' (.wr c)=R (.wr c)/\R' (.li c)=R (.li c)/\∀j,R' (.ve c j)=R (.ve c j):=λc L=>by
  rw[<-g];simp[zO,L]
 clear g;obtain⟨D,E,q33,q34,q35,q36,q37,P⟩:=O;have v:=e.m.kept (X:=X);refine⟨R',(s.turn z e.m e.os D E Q ?_ ?_).mode λi _=>zHh hp i,(Mut.below w).trans e.m,D,E,by rw[q33]⟩
 ·exact mbY
 have d:=hF.keep v;have N:=yF M v;have K:=hu.keep ZA dc v;have B:=d.man.set j (x:=k.set 4 (.slice o m.members r)) (y:=m) (by
  obtain⟨T,_,rfl,F,G,H,I,_,J⟩:=N;exact⟨T,_,rfl,F,G,H,I,K,J⟩)
 rw[lSq hm,<-q1.1] at B;exact⟨d.name,d.turn,B,by rw[q34];exact d.ep,by rw[q35];exact d.itl,λC k t=>by rw[q35,P C];exact d.it C k t,by rw[q36];exact d.wr,by rw[q37];exact d.li⟩
theorem CP.epSet (h:CP X bc base W R st md) (z:st.folders[p]? =some f) (hp:md p=some q) (w:(bW W W1:Prop)) {m:Epoch} (hm:f.epochs[j]? =some m) {a off:Nat} (hv:(R (.ep p)).v= .slice (some ⟨a,off,none⟩) n cp) (hu:Sl 2 rAt (λb=>b<W1/\b≠bc/\¬z01 R b/\¬X b) W1 u m.chain):
  ∃R',CP X bc base (W1.setCell (aD a (off+j*5+3)) u) R' st md/\Mut bc R W R' (W1.setCell (aD a (off+j*5+3)) u)/\R' .us=R .us/\R' .de=R .de/\(R' .fo).v=(R .fo).v:=by
 have s:=h.below w;have A:=s.fo p f z;rw[hp] at A;obtain⟨hc,hF⟩:=A;obtain⟨k,t,L⟩:=hF.ep.at hm;obtain⟨o,r,rfl,_⟩:=id hu;have e:=s.stage.cell (.ep p) hv t (by decide:3<5) (u:= .slice o m.chain r) rfl;generalize g:zO _ _ _=R' at e;have q1:(R' (.ep p)).cells=(R (.ep p)).cells.set j (k.set 3 (.slice o m.chain r))/\(R' (.ep p)).v=(R (.ep p)).v:=by rw[<-g];simp[zO]
 have N:R' .us=R .us/\R' .de=R .de/\R' .fo=R .fo/\R' (.ma p)=R (.ma p)/\R' (.it p)=R (.it p)/\R' (.wr p)=R (.wr p)/\R' (.li p)=R (.li p)/\∀j,R' (.ve p j)=R (.ve p j):=by rw[<-g];simp[zO]
 have P:∀c,c≠p->R' (.ma c)=R (.ma c)/\R' (.ep c)=R (.ep c)/\R' (.it c)=R (.it c)/\R' (.wr c)=R (.wr c)/\R' (.li c)=R (.li c)/\∀j,R' (.ve c j)=R (.ve c j):=λc K=>by
  rw[<-g];simp[zO,K]
 clear g;obtain⟨D,E,q33,q34,q35,q36,q37,O⟩:=N;have v:=e.m.kept (X:=X);refine⟨R',(s.turn z e.m e.os D E P ?_ ?_).mode λi _=>zHh hp i,(Mut.below w).trans e.m,D,E,by rw[q33]⟩
 ·exact mbY
 have d:=hF.keep v;have M:=z2a L v;have J:=hu.keep ZE dc v;have B:=d.ep.set j (x:=k.set 3 (.slice o m.chain r)) (y:=m) (by
  obtain⟨_,rfl,F,G,H,_,I⟩:=M;exact⟨_,rfl,F,G,H,J,I⟩)
 rw[lSq hm,<-q1.1] at B;exact⟨d.name,d.turn,by rw[q34];exact d.man,B,by rw[q35];exact d.itl,λC k t=>by rw[q35,O C];exact d.it C k t,by rw[q36];exact d.wr,by rw[q37];exact d.li⟩
theorem CP.veSet (h:CP X bc base W R st md) (y:st.folders[p]? =some f) (hp:md p=some j) (w:(bW W W1:Prop)) {it:Item} (hm:f.items[j]? =some it) {a off:Nat} (hv:(R (.it p)).v= .slice (some ⟨a,off,none⟩) n cp) {v:Value} {cells:List (List Value)} (hr:RowC 80 4 W1 v cells) (ha:All2 (yM (Imm X bc R W) W1) cells it.versions) (K:∀b,v.ownBlock=some b->W.heap.size<=b) (N:v.oneCell'=true) (hl:it.versions.length<=10000):
  ∃R',CP X bc base (W1.setCell (aD a (off+j*2+1)) v) R' st (λi=>if i=p then some (j+1) else md i)/\Mut bc R W R' (W1.setCell (aD a (off+j*2+1)) v)/\R' .us=R .us/\R' .de=R .de/\(R' .fo).v=(R .fo).v/\(R' (.it p)).v=(R (.it p)).v/\(R' (.ve p j)).v=v:=by
 have B:=h.fo p f y;rw[hp] at B;obtain⟨F,hF⟩:=B;have z:=hF.it j it hm;rw[if_neg om] at z;obtain⟨_,G,T,rfl,M,_⟩:=z;have Q:=h.stage.row w (.ve p j) ⟨v,cells⟩ hr (by rw[ha.1];exact hl) K;have m:=Q.cell (.it p) (a:=a) (off:=off) (n:=n) (cp:=cp) (i:=j) (j:=1) (u:=v) (x:=[.string it.name,T]) (by simpa[zO] using hv) (by simpa[zO] using G) (by decide:1<2) N;generalize k:zO _ _ _=R' at m;have D:R' (.ve p j)=⟨v,cells⟩:=by rw[<-k];simp[zO]
 have o:R' (.it p)=⟨(R (.it p)).v,(R (.it p)).cells.set j [it.name,v]⟩:=by rw[<-k];simp[zO]
 have d:R' .us=R .us/\R' .de=R .de/\R' .fo=R .fo/\R' (.ma p)=R (.ma p)/\R' (.ep p)=R (.ep p)/\R' (.wr p)=R (.wr p)/\R' (.li p)=R (.li p):=by rw[<-k];simp[zO]
 have O:∀e,e≠j->R' (.ve p e)=R (.ve p e):=λe I=>by rw[<-k];simp[zO,I]
 have P:∀c,c≠p->R' (.ma c)=R (.ma c)/\R' (.ep c)=R (.ep c)/\R' (.it c)=R (.it c)/\R' (.wr c)=R (.wr c)/\R' (.li c)=R (.li c)/\∀j,R' (.ve c j)=R (.ve c j):=λc H=>by
  rw[<-k];simp[zO,H]
 clear k;have C:=m.m.kept (X:=X);refine⟨R',h.turn y m.m m.os d.1 d.2.1 P ?_ ?_,m.m,d.1,d.2.1,by rw[d.2.2.1],by rw[o],by rw[D]⟩
 ·have E:hdr R' p f=hdr R p f:=by unfold hdr;rw[d.2.2.2.1,d.2.2.2.2.1,o,d.2.2.2.2.2.1,d.2.2.2.2.2.2]
  rw[E,d.2.2.1,lSq F]
 have g:=hF.keep C;refine⟨g.name,g.turn,by rw[d.2.2.2.1];exact g.man,by rw[d.2.2.2.2.1];exact g.ep,by rw[o];simpa using g.itl,λe U t=>?_,by rw[d.2.2.2.2.2.1];exact g.wr,by rw[d.2.2.2.2.2.2];exact g.li⟩;have J:=(zge hm).1;rw[o];dsimp only;rw[getElem?_set];by_cases s:j=e
 ·subst s;rw[hm] at t;obtain rfl:=zsi t;rw[if_pos om,if_pos rfl,if_pos (by rw[hF.itl];exact J),D];exact⟨rfl,M,ha.imp λ_ _ r=>z0q r (C.shift w λ_ h=>h.1)⟩
 have L:e≠j:=λr=>s r.symm
 have YO:=g.it e U t;rw[if_neg s,O e L];by_cases A:e<j
 ·rw[if_pos om];rwa [if_pos A] at YO
 rw[if_neg om];rwa [if_neg A] at YO
theorem CP.vdSet (h:CP X bc base W R st md) (B:st.folders[p]? =some f) (hp:md p=some q) (E:j<q) (A:(bW W W1:Prop)) {it:Item} (hi:f.items[j]? =some it) {k:Nat} {m:Version} (hm:it.versions[k]? =some m) {a off:Nat} (hv:(R (.ve p j)).v= .slice (some ⟨a,off,none⟩) n cp) (hu:Sl 1 Y1 (λb=>b<W1/\b≠bc/\¬z01 R b/\¬X b) W1 u m.data):
  ∃R',CP X bc base (W1.setCell (aD a (off+k*4+3)) u) R' st md/\Mut bc R W R' (W1.setCell (aD a (off+k*4+3)) u)/\R' .us=R .us/\R' .de=R .de/\(R' .fo).v=(R .fo).v/\(R' (.it p)).v=(R (.it p)).v:=by
 have v:=h.below A;have F:=v.fo p f B;rw[hp] at F;obtain⟨M,hF⟩:=F;have C:=hF.it j it hi;rw[if_pos E] at C;obtain⟨_,_,L⟩:=C;obtain⟨G,Q,O⟩:=L.at hm;obtain⟨o,r,rfl,_⟩:=id hu;have t:=v.stage.cell (.ve p j) hv Q (by decide:3<4) (u:= .slice o m.data r) rfl;generalize s:zO _ _ _=R' at t;have T:R' (.ve p j)=⟨(R (.ve p j)).v,(R (.ve p j)).cells.set k (G.set 3 (.slice o m.data r))⟩:=by rw[<-s];simp[zO]
 have c:R' .us=R .us/\R' .de=R .de/\R' .fo=R .fo/\R' (.ma p)=R (.ma p)/\R' (.ep p)=R (.ep p)/\R' (.wr p)=R (.wr p)/\R' (.li p)=R (.li p)/\R' (.it p)=R (.it p):=by rw[<-s];simp[zO]
 have U:∀g,g≠j->R' (.ve p g)=R (.ve p g):=λg N=>by rw[<-s];simp[zO,N]
 have V:∀d,d≠p->R' (.ma d)=R (.ma d)/\R' (.ep d)=R (.ep d)/\R' (.it d)=R (.it d)/\R' (.wr d)=R (.wr d)/\R' (.li d)=R (.li d)/\∀j,R' (.ve d j)=R (.ve d j):=λd hi=>by
  rw[<-s];simp[zO,hi]
 clear s;have z:=t.m.kept (X:=X);refine⟨R',(v.turn B t.m t.os c.1 c.2.1 V ?_ ?_).mode λi _=>zHh hp i,(Mut.below A).trans t.m,c.1,c.2.1,by rw[c.2.2.1],by rw[c.2.2.2.2.2.2.2]⟩
 ·have H:hdr R' p f=hdr R p f:=by unfold hdr;rw[c.2.2.2.1,c.2.2.2.2.1,c.2.2.2.2.2.1,c.2.2.2.2.2.2.1,c.2.2.2.2.2.2.2]
  rw[H,c.2.2.1,lSq M]
 have e:=hF.keep z;refine⟨e.name,e.turn,by rw[c.2.2.2.1];exact e.man,by rw[c.2.2.2.2.1];exact e.ep,by rw[c.2.2.2.2.2.2.2];exact e.itl,λg Y w=>?_,by rw[c.2.2.2.2.2.1];exact e.wr,by rw[c.2.2.2.2.2.2.1];exact e.li⟩;have YO:=e.it g Y w;rw[c.2.2.2.2.2.2.2];by_cases D:g=j
 ·subst D;rw[hi] at w;obtain rfl:=zsi w;rw[if_pos E] at YO⊢;rw[T];refine⟨YO.1,YO.2.1,?_⟩;have P:=z0q O z;have K:=hu.keep rByte_ok dc (S':=Imm X bc R' (W1.setCell (aD a (off+k*4+3)) (.slice o m.data r))) (w':=W1.setCell (aD a (off+k*4+3)) (.slice o m.data r)) z;have:=YO.2.2.set k (x:=G.set 3 (.slice o m.data r)) (y:=m) (by
   obtain⟨_,rfl,I,J,_⟩:=P;exact⟨_,rfl,I,J,K⟩)
  rwa [lSq hm] at this
 rwa [U g D]
end
end
end Go.Proofs.YtdggplhnfhcieaaGreatDoor
namespace Go.Proofs.YtdggplhnfhcieaaGreatDoor.Ro
open Go.Proofs.Tryz Cd Ce List
open Go.RowKit Go.Deep
variable {l:List Member} {by_ name:ByteArray}
def shareD (l:List Member) (by_ name:ByteArray) (n:Int):Int:=if (rightOf l&&(Z1 name&&isOf n))=false then 2 else shareE (ofOf l by_) (ofOf l name) n l
def changeD (l:List Member) (by_ name:ByteArray) (n:Int):Int:=if (rightOf l&&(Z1 name&&isOf n))=false then 2 else changeE (ofOf l by_) (ofOf l name) n (own4 l)
def revokeD (l:List Member) (by_ name:ByteArray):Int:=if (rightOf l&&Z1 name)=false then 2 else revokeE (eqS by_ name) (ofOf l by_) (ofOf l name) (own4 l)
theorem tf:¬(true=false):=λa=>by cases a
theorem mbL {p:Prop} (h:p:=by
 rcases of_pos (λm hm=>(hR.each m hm).2) name with ⟨a1,a2⟩|⟨a1,a2,a3⟩
 all_goals ((repeat' split)<;>omega)):p:=h
theorem share_err (l:List Member) (by_ name:ByteArray) (n:Int):z91 (rightOf l&&(Z1 name&&isOf n)) (ofOf l by_) (z3k l name) n l=shareD l by_ name n:=by
 unfold z91 shareD;cases a:rightOf l&&(Z1 name&&isOf n)
 ·simp
 simp only[qBqx] at a;have hR:=(right_iff l).1 a.1;have b:=hR.few;rw[if_neg tf,if_neg tf];unfold shareE;exact mbL
theorem change_err (l:List Member) (by_ name:ByteArray) (n:Int):z8o (rightOf l&&(Z1 name&&isOf n)) (ofOf l by_) (z3k l name) (ofOf l name) n (z0x l)=changeD l by_ name n:=by
 unfold z8o changeD;cases a:rightOf l&&(Z1 name&&isOf n)
 ·simp
 simp only[qBqx] at a;have hR:=(right_iff l).1 a.1;rw[if_neg tf,if_neg tf,hR.owners];unfold changeE;exact mbL
theorem revoke_err (l:List Member) (by_ name:ByteArray):z8p (rightOf l&&Z1 name) (eqS by_ name) (ofOf l by_) (z3k l name) (ofOf l name) (z0x l)=revokeD l by_ name:=by
 unfold z8p revokeD;cases a:rightOf l&&Z1 name
 ·simp
 simp only[qBqx] at a;have b:=(right_iff l).1 a.1;rw[if_neg tf,if_neg tf,b.owners];unfold revokeE;generalize eqS by_ name=sm;rcases of_pos (λg e=>(b.each g e).2) name with ⟨c,d⟩|⟨c,d,h⟩
 all_goals
  cases sm
  ·simp only[true_and]
   (repeat' split)<;>omega
  ·simp only[Bool.true_eq_false,false_and,if_false]
   (repeat' split)<;>omega
theorem shareD_zero {n:Int} (h:shareD l by_ name n=0):RightL l/\Z1 name=true/\isOf n=true/\ofOf l name<=0/\3<=ofOf l by_/\(2<n->4<=ofOf l by_)/\l.length≠8:=by
 unfold shareD at h;cases a:rightOf l&&(Z1 name&&isOf n)
 ·rw[a] at h;simp at h
 rw[a,if_neg tf] at h;simp only[qBqx] at a;unfold shareE at h;refine⟨(right_iff l).1 a.1,a.2.1,a.2.2,?_⟩;split at h
 ·cases h
 split at h
 ·cases h
 split at h
 ·cases h
 split at h
 ·cases h
 exact⟨om,om,om,om⟩
theorem zK9 {n:Int} (h:changeD l by_ name n=0):RightL l/\Z1 name=true/\isOf n=true/\ofOf l name≠0/\3<=ofOf l by_/\(2<n\/2<ofOf l name->4<=ofOf l by_)/\¬(ofOf l name=4/\n<4/\own4 l=1):=by
 unfold changeD at h;cases a:rightOf l&&(Z1 name&&isOf n)
 ·rw[a] at h;simp at h
 rw[a,if_neg tf] at h;simp only[qBqx] at a;unfold changeE at h;refine⟨(right_iff l).1 a.1,a.2.1,a.2.2,?_⟩;split at h
 ·cases h
 split at h
 ·cases h
 split at h
 ·cases h
 split at h
 ·cases h
 exact⟨om,om,om,by assumption⟩
theorem revokeD_zero (h:revokeD l by_ name=0):RightL l/\Z1 name=true/\ofOf l name≠0/\(eqS by_ name=false->3<=ofOf l by_/\(2<ofOf l name->4<=ofOf l by_))/\¬(ofOf l name=4/\own4 l=1):=by
 unfold revokeD at h;cases a:rightOf l&&Z1 name
 ·rw[a] at h;simp at h
 rw[a,if_neg tf] at h;simp only[qBqx] at a;unfold revokeE at h;refine⟨(right_iff l).1 a.1,a.2,?_⟩;split at h
 ·cases h
 rename_i c;split at h
 ·cases h
 split at h
 ·cases h
 rename_i d;split at h
 ·cases h
 refine⟨by assumption,λb=>⟨?_,λe=>?_⟩,by assumption⟩
 ·by_cases h:ofOf l by_<3
  ·exact absurd ⟨b,h⟩ c
  omega
 by_cases h:ofOf l by_<4
 ·exact absurd ⟨b,e,h⟩ d
 omega
end Go.Proofs.YtdggplhnfhcieaaGreatDoor.Ro
namespace Go.Proofs.YtdggplhnfhcieaaGreatDoor.Ro
open Go.Proofs.Tryz Cd Ce List
open Go.RowKit Go.Deep
variable {cur l:List Member} {by_ name:ByteArray} {n role:Int}
theorem zA4 {name x:ByteArray} {role:Int} (h:eqS name x=false):∀(l:List Member) (d:Bool),ofOf (withR name role d l) x=ofOf l x
 | [],d=>by cases d<;>simp[withR,ofOf,h]
 | m::r,d=>by
  have a:=zA4 (role:=role) h r (d||leS name m.name);have b:ofOf ((if eqS m.name name then[] else[m])++withR name role (d||leS name m.name) r) x=ofOf (m::r) x:=by
   cases c:eqS m.name name
   ·show ofOf (m::withR name role (d||leS name m.name) r) x=_
    rw[ofOf,ofOf,a]
   ·show ofOf (withR name role (d||leS name m.name) r) x=_
    rw[ofOf,a,Y9.1 c,h];rfl
  rw[withR];cases e:!d&&leS name m.name
  ·exact b
  ·show ofOf (⟨name,role⟩::((if eqS m.name name then[] else[m])++withR name role (d||leS name m.name) r)) x=_
   rw[ofOf,h];exact b
theorem z63 {name:ByteArray} {role:Int}:∀(l:List Member) (d:Bool),ofOf (withR name role d l) name=if d then 0 else role
 | [],d=>by cases d<;>simp[withR,ofOf,Y9.2]
 | m::r,d=>by
  rw[withR];cases d
  ·cases b:leS name m.name
   ·have a:eqS m.name name=false:=by
     cases c:eqS m.name name
     ·rfl
     ·rw[Y9.1 c,zF4 (z07 _)] at b;cases b
    rw[a];show ofOf (m::withR name role (false||false) r) name=_
    rw[ofOf,a];exact z63 r _
   ·show ofOf (⟨name,role⟩::_) name=_
    rw[ofOf,Y9.2 rfl];rfl
  ·show ofOf ((if eqS m.name name then[] else[m])++withR name role true r) name=0
   cases a:eqS m.name name
   ·show ofOf (m::withR name role true r) name=0
    rw[ofOf,a];exact z63 r true
   ·exact z63 r true
theorem z84 {x:ByteArray} (h:eqS name x=false):ofOf (withOf l name role) x=ofOf l x:=zA4 h l _
theorem of_with_same:ofOf (withOf l name role) name=role:=by
 rw[withOf,z63];cases a:role==0
 ·rfl
 exact(beq_iff_eq.1 a).symm
theorem zAt:∀l:List Member,own4 l=l.countP λm=>m.role==4
 | []=>rfl
 | m::r=>by
  rw[own4,zAt r,countP_cons];cases a:m.role==4<;>simp<;>omega
theorem zQb {r:List Member} (h:l.Perm r):own4 l=own4 r:=by
 rw[zAt,zAt];exact h.countP_eq _
theorem zKa:∀(l:List Member) (i:Nat) (x y:Member),l[i]? =some x->own4 (l.set i y)+(if x.role==4 then 1 else 0)=own4 l+(if y.role==4 then 1 else 0)
 | [],i,x,y,h=>by simp at h
 | m::r,0,x,y,h=>by
  simp at h;subst h;rw[set_cons_zero,own4,own4]
  omega
 | m::r,i+1,x,y,h=>by
  have:=zKa r i x y (by simpa using h);rw[set_cons_succ,own4,own4];omega
theorem zG1:∀(l:List Member) (i:Nat) (x:Member),l[i]? =some x->own4 (l.eraseIdx i)+(if x.role==4 then 1 else 0)=own4 l
 | [],i,x,h=>by simp at h
 | m::r,0,x,h=>by
  simp at h;subst h;rw[eraseIdx_cons_zero,own4]
  omega
 | m::r,i+1,x,h=>by
  have:=zG1 r i x (by simpa using h);rw[eraseIdx_cons_succ,own4,own4];omega
theorem zKb {name:ByteArray} {n:Int}:∀{l:List Member},(∀x∈l,eqS x.name name=false)->(withR name n false l).Perm (⟨name,n⟩::l)
 | [],_=>by simp[withR]
 | m::r,hd=>by
  have b:=hd m sm;have c:=zKb (n:=n) λx a=>hd x (zmc m a)
  rw[withR,b];cases d:leS name m.name
  ·show(m::withR name n (false||false) r).Perm _
   exact(Perm.cons m c).trans (Perm.swap _ _ _)
  ·show(⟨name,n⟩::m::withR name n (false||true) r).Perm _
   rw[show(false||true)=true from rfl,z6e,z7m λx a=>hd x (by simp[a])]
theorem right_share {by_:ByteArray} (h:shareD cur by_ name n=0):RightL (withOf cur name n):=by
 obtain⟨R,t,e,_,a,_⟩:=shareD_zero h;have k:=λb a=>(R.each b a).2
 obtain⟨_,_⟩:=z7y e;have s:ofOf cur name=0:=by rcases of_pos k name with ⟨_,o⟩|⟨_,o,_⟩<;>omega
 have d:=of_none k s;have r:withOf cur name n=withR name n false cur:=by rw[withOf,show(n==0)=false from ν]
 have z:ofOf (withOf cur name n) name=n:=of_with_same;have y:∀c,eqS name c=false->ofOf (withOf cur name n) c=ofOf cur c:=λc v=>z84 v
 obtain⟨w,x⟩:=zF5 (n:=n) R.sorted d;have g:=zKb (n:=n) d;have m:RightL (withOf cur name n):=by
  rw[r];refine⟨λb a=>?_,w,?_,?_⟩
  ·rcases(x b).1 a with rfl|a
   ·exact⟨t,e⟩
   ·exact R.each b a
  ·rw[g.length_eq,length_cons];have:=R.few;omega
  ·rw[zQb g,own4];have:=R.own;omega
 exact m
theorem mbM {p:Prop} (h:p:=by
 rcases atOf_cases name cur 0 with ⟨_,h2⟩|⟨i,x,_,h2,h3,h4⟩
 ·exact absurd h2 h0
 ·exact⟨i,x,h2,h4,h3⟩):p:=h
theorem right_change {by_:ByteArray} (h:changeD cur by_ name n=0):RightL (withOf cur name n):=by
 obtain⟨R,y,g,h0,a,_⟩:=zK9 h;have C:=λc a=>(R.each c a).2
 obtain⟨_,_⟩:=z7y g;have D:ofOf (withOf cur name n) name=n:=of_with_same;have B:∀x,eqS name x=false->ofOf (withOf cur name n) x=ofOf cur x:=λx b=>z84 b
 obtain⟨i,x,b,o,_⟩:∃(i:Nat) (x:Member),cur[i]? =some x/\eqS x.name name=true/\ofOf cur name=x.role:=by
  exact mbM
 have v:=set_with (name:=name) (n:=n) om R.sorted b o;have z:(cur.set i ⟨x.name,n⟩).Pairwise LtM:=by
  have A:(cur.set i ⟨x.name,n⟩).map (·.name)=cur.map (·.name):=by
   rw[map_set];apply ext_getElem?;intro j;rw[getElem?_set];by_cases k:i=j
   ·subst k;have w:=(zge b).1;rw[if_pos rfl,if_pos (by simpa using w),getElem?_map,b];rfl
   ·rw[if_neg k]
  have d:(cur.map (·.name)).Pairwise λs t=>ltS s t=true:=pairwise_map.2 R.sorted
  rw[<-A] at d;exact(pairwise_map (f:=λc:Member=>c.name)).1 d
 have r:RightL (withOf cur name n):=by
  rw[<-v];refine⟨λc a=>?_,z,by rw[length_set];exact R.few,?_⟩
  ·rcases mem_or_eq_of_mem_set a with a|rfl
   ·exact R.each c a
   ·exact⟨by rw[Y9.1 o];exact y,g⟩
  ·have:=zKa cur i x ⟨x.name,n⟩ b;have d:=R.own;by_cases e:x.role=4
   ·by_cases m:n=4
    ·subst m;simp[e] at this;omega
    ·simp[e,m] at this;omega
   ·simp[e] at this;omega
 exact r
theorem right_revoke {by_:ByteArray} (h:revokeD cur by_ name=0):RightL (withOf cur name 0):=by
 obtain⟨R,_,h0,b,_⟩:=revokeD_zero h;have s:ofOf (withOf cur name 0) name=0:=of_with_same;have r:∀x,eqS name x=false->ofOf (withOf cur name 0) x=ofOf cur x:=λx a=>z84 a
 obtain⟨i,x,a,k,_⟩:∃(i:Nat) (x:Member),cur[i]? =some x/\eqS x.name name=true/\ofOf cur name=x.role:=by
  exact mbM
 have e:=erase_with (name:=name) R.sorted a k;have g:=(zge a).1;have d:RightL (withOf cur name 0):=by
  rw[<-e];refine⟨λm b=>R.each m (mem_of_mem_eraseIdx b),R.sorted.sublist (eraseIdx_sublist _ _),?_,?_⟩
  ·rw[length_eraseIdx_of_lt g];have:=R.few;omega
  ·have:=zG1 cur i x a;have o:=R.own;by_cases c:x.role=4
   ·simp[c] at this;omega
   ·simp[c] at this;omega
 exact d
end Go.Proofs.YtdggplhnfhcieaaGreatDoor.Ro
