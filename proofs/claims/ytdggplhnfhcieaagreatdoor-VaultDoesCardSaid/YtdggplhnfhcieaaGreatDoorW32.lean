/- No condition. -/
import Derived.Test.YtdggplhnfhcieaaGreatDoorW30
set_option linter.all false
set_option maxRecDepth 100000
set_option maxHeartbeats 16000000
namespace Go.Proofs.YtdggplhnfhcieaaGreatDoor
open Go.Proofs.Tryz Cd Ce List
open Go.RowKit Go.Deep
variable {T:TypeId} {S Y:Nat->Prop} {b b4 b5:Nat} {cs:List Value} {n:Int} {p:Prop} {st:State} {v:Value} {W W0 w wr:World}
theorem zB3 {st':State} {g:World} (hs:Z5 (New (New (Old S w) wr) W0) g cs st') (h3:w<=wr.heap.size) (h0:wr<=W0.heap.size) (e:∀f,Y f->w.heap.size<=f/\f<wr.heap.size) (h:ButB Y g W):Z5 (New S w) W cs st':=
 zM hs (h.kept λb a=>by
  rcases a with (a|a)|a
  ·exact⟨.inl a.1,λd=>by have:=a.2;have:=e b d;omega⟩
  ·exact⟨.inr (qNtx h3 a),λd=>by have:=e b d;omega⟩
  ·exact⟨.inr (qNtx (qNtx h3 h0) a),λd=>by have:=e b d;omega⟩)
theorem Ret3.drew {r:Res} {e:Ending} (h:Ret3 S r w e W):Ret3 S r w e W.drew:=by
 obtain⟨⟨cs,d,i,f,g⟩,a⟩:=h;exact⟨⟨cs,d,i,zM f λb a _=>⟨a,rfl⟩,yY g λb a _=>⟨a,rfl⟩⟩,a.drew⟩
theorem zOi {r:Res} {e:Ending} {x y:Array Value} {U:TypeId} (h:W.heap[b4]? =some (.cells x T (0,0))/\W.heap[b5]? =some (.cells y U (0,0))/\Ret3 S r w e W):W.drew.heap[b4]? =some (.cells x T (0,0))/\W.drew.heap[b5]? =some (.cells y U (0,0))/\Ret3 S r w e W.drew:=⟨h.1,h.2.1,h.2.2.drew⟩
theorem zFc {a b c d:Value} (h:Z5 S w [a,b,c,d] st) (hn:I64 n):Z5 S w [n,b,c,d] { st with turn:=n }:=by
 obtain⟨_,_,_,e,_,f,g,i⟩:=h;simp only[cons.injEq,and_true] at e;obtain⟨rfl,rfl,rfl,rfl⟩:=e;exact⟨_,_,_,rfl,hn,f,g,i⟩
theorem zT5 {m:Manifest} {d e:Value} (h:ZL S w [m.folder,m.seq,d,m.parent,e,m.cut,m.gone,m.who] m):ZL S w [m.folder,m.seq,d,m.parent,e,m.cut,true,m.who] { m with gone:=true }:=by
 obtain⟨_,_,a,f,g,i,j,l,o,q⟩:=h;simp only[cons.injEq,and_true] at a;obtain⟨-,-,rfl,-,rfl,-⟩:=a;exact⟨_,_,rfl,f,g,i,j,l,o,q⟩
abbrev StandY (Y:Nat->Prop) (w:World) (b:Nat) (cs:Array Value) (T:TypeId):Prop:=∀W,ButB Y w W->W.heap[b]? =some (.cells cs T (0,0))
theorem z4c {cs:Array Value} (h:w.heap[b]? =some (.cells cs T (0,0))) (hn:¬Y b):StandY Y w b cs T:=λ_ hb=>(hb.block _ (zI h) hn).trans h
theorem StandY.at {cs:Array Value} (h:StandY Y w b cs T) (j:Nat) (hj:cs[j]? =some v):∀W,ButB Y w W->(cL W b j v:Prop):=λW hb=>(zB (h W hb)).1 j _ hj
theorem StandY.a {cs:Array Value} (h:StandY Y w b cs T) (j:Nat) (v:Value) (hj:cs[j]? =some v):∀W,ButB Y w W->(cL W b j v:Prop):=h.at j hj
theorem zWu {j:Nat} (h:(cL w b j v:Prop)) (hn:¬Y b):∀W,ButB Y w W->(cL W b j v:Prop):=λ_ a=>a.cellq h hn
theorem z9k {a d U:World} (h3:(bW w a:Prop)) (e:(bW w d:Prop)):Kept (Old S w) (New (Old S w) U) a d:=λb hs _=>⟨.inl hs,(e.block b hs.2).trans (h3.block b hs.2).symm⟩
theorem zWa (w:World) (S C:Array Value) (T:TypeId):∃d w1 w2 a,w.alloc (.cells S 34)=d/\d.alloc (.cells C T)=w1/\w1.alloc (.cells z6t 34)=w2/\w2.alloc (.cells z59 49)=a/\
  bW w a/\Stand a w S 34/\Stand a d.heap.size C T/\Stand a w1.heap.size z6t 34/\Stand a w2.heap.size z59 49/\w1.heap.size≠w2.heap.size:=by
 exact maL
def z8k (f:Folder) (name:Nm):Option Nat->List Item
 | some _=>f.items
 | none=>f.items++[⟨name,[]⟩]
def zDs (f:Folder):Option Nat->Nat
 | some j=>j
 | none=>f.items.length
def zB4 (f:Folder) (name:Nm) (i:Option Nat) (y:Item) (v:Version):Folder:={ f with items:=(z8k f name i).set (zDs f i) { y with versions:=y.versions++[{ v with epoch:=f.epochs.length }] },turn:=f.turn+1 }
theorem zVc {k:Nat} {f:Folder} (d:fo st k=f) {i:Option Nat} {name:Nm} {y:Item} (hy:(z8k f name i)[zDs f i]? =some y) (v:Version):z3z st k i name v=(setF st k (zB4 f name i y v),y.versions.length+1):=by
 cases i with
 | some j=>
  have a:ZY f j=y:=by unfold ZY;rw[show f.items[j]? =some y from hy];rfl
  unfold z3z zB4 z8k zDs;rw[d];dsimp only
  rw[a]
 | none=>
  have a:y=⟨name,[]⟩:=by
   unfold z8k zDs at hy;simpa using hy.symm
  subst a;unfold z3z zB4 z8k zDs;rw[d];dsimp only;rw[set_append_right _ _ (znl _),Nat.sub_self];rfl
theorem zQp {f:Folder} {l:List Item} {a b e g i j m u:Value} (h:Z6 S w [a,b,e,g,u,j,m] f) (hn:I64 n) (h4:Sl 2 YG S w i l):Z6 S w [a,n,e,g,i,j,m] { f with items:=l,turn:=n }:=by
 obtain⟨_,_,_,_,_,d,o,_,q,r,_,s,t⟩:=h;simp only[cons.injEq,and_true] at d;obtain⟨rfl,rfl,rfl,rfl,rfl,rfl,rfl⟩:=d;exact⟨_,_,_,_,_,rfl,o,hn,q,r,h4,s,t⟩
theorem zWb {v:Version} {a b c d:Value} (h:yM S w [a,b,c,d] v) (hn:I64 n):yM S w [n,b,c,d] { v with epoch:=n }:=by
 obtain⟨_,e,_,f,g⟩:=h;simp only[cons.injEq,and_true] at e;obtain⟨rfl,rfl,rfl,rfl⟩:=e;exact⟨_,rfl,hn,f,g⟩
theorem zGb (st:State) (k:Nat) (hk:k<st.folders) (hl:st.folders.length<=10000) (i:Option Nat) (name:Nm) (v:Version) (hi:∀j,i=some j->j<(fo st k).items.length) (hn:name.size<=()) (dU:(fo st k).items.length<=5000) (bd:∀x∈(fo st k).items,x.versions.length<=5000)
  (dY:0<=(fo st k).turn/\(fo st k).turn<=1000000) (dT:(fo st k).epochs.length<=5000) (cs b7:List Value) (w:World) (S:Nat->Prop) (h:Z5 S w cs st) (hv:yM S w b7 v):
  Calls prog 117 #[.agg cs.toArray,k,.int .i64 (iOf i),name,.agg b7.toArray] w (Ret3 S ((z3z st k i name v).1,Y2 (z3z st k i name v).2,true) w):=by
 have dr:=zh h;have dA:=zh hv;obtain⟨d,aw⟩:=Ξ (fo st k);have co:st.folders[k]? =some d:=aw▸ZT hk;rw[aw] at hi dU bd dY dT;have da:=zh aw;have dg:=zh hi;have dB:=zh bd;have dl:=zh hn;obtain⟨ea,ed,eb,ee,ec,ef,rfl,_,_,_,_,eh,_,_,_,eg,_,_,_,cY⟩:=ZF h;obtain⟨aH,aI,rfl,_,_,_,_,_,ej⟩:=z6n hv;obtain⟨cF,ck,cD,cd,cf⟩:=info_parts (show(prog.info? 78).map (λi=>(i.zero,i.size,i.bytes))=some (some (.agg #["",()]),2,40) from kr);obtain⟨cH,cl,cE,ce,cg⟩:=info_parts (show(prog.info? 80).map (λi=>(i.zero,i.size,i.bytes))=some (some (.agg #['0',false,"",()]),4,56) from kr);obtain⟨ah,m,ai,u,cy,cz,cA,dZ,bC,aZ,bY,bZ,b0,ba⟩:=zWa w (aS st ea ed eb ee ec ef) #[v.epoch,v.gone,v.who,.slice aH v.data aI] 80;have L:=zh bC;have bM:=zh aZ;have dk:=zh bY;have bN:=zh bZ;have aQ:=zh b0;have aT:=zh ba;have s:=zh (by rw[<-cA,<-cz,<-cy];simp:w<ah.heap.size/\ah<m.heap.size/\m<ai.heap.size);have I:=ζ (ai<u.heap.size) (zI (aQ.o _ zbr));have dE:=Below.refl u u;have cV:=aZ.at 3 rfl;have eT:(k:Int)<(st.folders:Int):=om
 obtain⟨x,_,_,bs,bw,bt,bx,c0,c2,bu,bz,bv,bA,c4,ev,eB,rfl,_,_,eo,ep,eq,er,es,et,eu,c1,_,_,_,_,_,eC,_,_,_,ew,ex,ey,ez,c3,_,_,_,eD,_,_,_,eA⟩:=yP cY hk (YL L);obtain rfl:d=x:=zsi (co.symm.trans c4);have dC:=zh c1;have dx:=ζ (Sl 2 YG (Old S w) u (.slice c0 d.items c2) d.items) ⟨_,_,rfl,ex,ey,ez,c3⟩;obtain⟨cZ,cB,dI,dM,aj,d8⟩:=zP u (aF d bs bw bt bx c0 c2 bu bz bv bA) 74;have aR:=zh (ZJ (zbx cB));have bF:=zh (zD L aj);have M:=zh aj;have aG:=dk.o _ aj;have dm:=zh aG;have d6:=ψ aG 0 _ rfl;have d7:=(zB aG).2;have dO:=aR.at 3 rfl _ zbr;clear h hv aw hi bd hn c4 ev eB c1 co eC ew c3 eD eA eh eg cY ej aZ bY bZ b0 ba bC dI dM d8 aG aj;go_enter func117,ntmps117
 go_upto_region 3 with fail
 generalize bg:World.setCell _ _ _=o;have bX:o.heap[ah.heap.size]? =some (.cells #[d.epochs.length,v.gone,v.who,.slice aH v.data aI] 80 (0,0)):=by
  rw[<-bg];exact zH (i:=0) _ dm rfl
 have b5:ButB (·=ah) cZ o:=by rw[<-bg];exact(ButB.refl (·=ah) cZ).set _ _ rfl
 have z:=zh (ButB.below bF bF.size (λa bi=>by have:=s.o;omega) b5);have bJ:=zh (ZJ ((b5.block _ (zI (bM.o _ M)) (oh s.o)).trans (bM.o _ M)));have di:=zh (ZJ bX);have bK:=zh (ZJ ((b5.block _ (zI (bN.o _ M)) (oh s.o)).trans (bN.o _ M)));have bL:=zh (ZJ ((b5.block _ (zI (aQ.o _ M)) (oh s.o)).trans (aQ.o _ M)));have ao:=zh (ZJ ((b5.block _ (zI (aR.o _ zbr)) (oh2 s.o I.o)).trans (aR.o _ zbr)));have dw:=zh (dx.keep z20 dc (z23 L z));have E:=ζ (u<o.heap.size) (zI (ao.o _ zbr));have dP:=ao.at 4 rfl;have dF:=Below.refl o o;clear bg bX b5 d6 d7 dO cy cz cA dZ cB cV dE eo ep eq er es et eu;go_upto_region 5 with (at_builtin;refine z1n o rfl (.tmp 25) (.tmp 27) 70 rfl cF _ 40 underlying70 ck cD cd cf rfl dc dc dc z20 rfl _ d.items rfl (λb g=>zll g.2 z.size) dw om ?_;intro eZ el au bk a0 bD cN)
 obtain⟨az,a8⟩:=Ξ (iOf i);rw[a8];obtain⟨_,_,rfl,dQ⟩:=bk.shape;have bI:=zh a8;have aW:=zh bk;have aO:=zh a0;have aU:=zh cN;have V:=zh bD;have a7:au=d.items.length:=a0.1;have bH:=zh (by cases i;exact .inl rfl;exact .inr ⟨_,rfl⟩:i=none\/∃j,i=some j);rw[a7];have C:=zh a7;obtain⟨r,cn⟩:=Ξ (zDs d i);obtain⟨q,cm⟩:=Ξ (z8k d name i);have an:=zh cn;have H:=zh cm;clear bk a0 bD cN a8 a7 dQ cn cm;go_upto_if 30 with fail
 go_cut [2,14] from 31 to 37 (λcU d9 br=>∃(e:Item) (l t F:Nat) (Q:Option Addr) (ac:Nat) (ad:List (List Value)),cU= .int .i64 r/\d9= .slice (some ⟨l,t,none⟩) q F/\Hid (q[r]? =some e)/\Hid (ad[r]? =some [.string e.name,.slice Q e.versions ac])/\Hid (RowC 78 2 br (.slice (some ⟨l,t,none⟩) q F) ad)/\Hid (All2 (YG (Old S w) br) ad q)/\Hid (o<=l)/\Hid (e.versions.length<=5000/\q.length<=5001)/\bW o br)
 case first=>
  rcases bH with hi|⟨j,hi⟩
  ·subst hi;obtain rfl:(-1:Int)=az:=bI;have dh:=zh (by rw[<-H.o];simp[z8k,C.o]:(au++[[Value.string name,()]]).length=q.length);go_wp2_with (at_builtin;refine YD el [name,()] rfl (.tmp 33) (.tmp 36) 70 rfl cF _ 40 underlying70 ck cD cd cf rfl dc dc _ _ rfl (C.o▸aW) (by rw[C.o];omega) rfl (λei ag=>by simp at ag;rcases ag with rfl|rfl<;>rfl) _ _ rfl rfl ?_;intro e0 em bl cc cO;obtain⟨_,dH,cw,ci⟩:=bl.shape;obtain⟨l,t,rfl⟩:=ci sm;rw[dh.o] at cw;subst cw;have ds:=zh bl;have de:=zh cc;have dn:=zh cO;clear bl cc cO ci)
   go_meet
   have af:r=d.items:=an.symm;have b3:(bW o em:Prop):=Below.grown V de V.size (λb g=>aU.o b (by rw[C.o];exact g));refine⟨⟨name,[]⟩,l,t,dH,none,0,au++[[Value.string name,()]],by rw[af],rfl,zh (by rw[<-H.o,af];simp[z8k]),zh (by rw[af,<-C.o];simp),ds,zh ?_,zh ?_,zh ⟨sm,by rw[<-H.o];simp[z8k];omega⟩,b3⟩
   ·rw[<-H.o];exact(aO.imp λ_ _ f=>z4j f (z23 (zD z V) (zD z b3))).snoc ⟨_,rfl,dl,y9⟩
   rcases dn with t|⟨bj,bb,hl⟩
   ·exact aU.o _ (by rw[C.o];exact t.symm)
   obtain rfl:bj=l:=zsi (bb.symm.trans rfl);exact qNtx V.size hl
  subst hi;obtain rfl:(j:Int)=az:=bI;have a9:=dg.o j rfl;have eR:decide ((j:Int)<0)=false:=η;go_wp2;go_meet
  have dV:q=d.items:=H.symm;have af:r=j:=an.symm;obtain⟨e,bh⟩:∃e,d.items[j]? =some e:=⟨_,qLgx a9⟩;obtain⟨x,cC,d1⟩:=aO.at bh;obtain⟨ek,rfl,_,d0⟩:=d1;obtain⟨Q,ac,rfl,_⟩:=d0;obtain⟨l,t,F,ax,_⟩:=aW.at cC;rw[dV,af];have cu:=aW.o;rw[ax,C.o] at cu;rw[C.o] at ax;exact⟨e,l,t,F,Q,ac,au,rfl,ax,zh bh,zh cC,zh cu,zh aO,zh (aU.o l (by rw[C.o,ax];rfl)),zh ⟨dB.o e (zmg bh),om⟩,V⟩
 case rest=>
 obtain⟨e,l,t,F,Q,ac,ad,rfl,rfl,ap,N,Z,ak,D,X,bE⟩:=hcut;obtain⟨bq,rfl⟩:∃a:World,a=wc:=⟨_,rfl⟩;have G:=zh bE;have a9:r<q:=(zge ap).1;have eS:(r:Int)<(q:Int):=om
 obtain⟨cj,_,_,cK,d4⟩:=Z.here N;have d3:=cK 1 _ rfl;have dz:=zh (show Sl 4 yM (Old S w) bq (.slice Q e.versions ac) e.versions by
  obtain⟨ek,f,_,dX⟩:=ak.2 r _ _ N ap;simp only[cons.injEq,and_true] at f;obtain⟨_,rfl⟩:=f;exact dX)
 have c8:=zh cj;clear cK d4 bH cj bE;go_upto_region 10 with (at_builtin;refine z1n bq rfl (.tmp 38) (.tmp 43) 76 rfl cH _ 56 underlying76 cl cE ce cg rfl dc dc dc z2z rfl _ e.versions rfl (λb g=>zll g.2 (zD z G).size) dz (oh X.o) ?_;intro e1 bo b6 bm a1 aN cP)
 obtain⟨_,_,rfl,dR⟩:=bm.shape;have dt:=zh bm;have c6:=zh a1;have bP:=zh cP;have al:=zh aN;have av:b6=e.versions.length:=a1.1;rw[av];have am:=zh av;have bO:=zh (by rw[qLax,av];rfl:(b6++[[Value.int .i64 d.epochs,.bool v.gone,.string v.who,.slice aH v.data aI]]).length=e.versions.length+1);have cM:=di.on (zD G aN);obtain⟨dJ,dK,dL,b9⟩:=TC4 cM.a;have dG:=Below.refl bo bo;clear bm a1 aN cP av dR d3 cM dP dF;go_upto_region 11 with (at_builtin;refine YD bo [d.epochs.length,v.gone,v.who,.slice aH v.data aI] rfl (.tmp 47) (.tmp 49) 76 rfl cH _ 56 underlying76 cl cE ce cg rfl dc dc _ _ rfl (am.o▸dt) (by rw[am.o];have:=X.o;omega) rfl (λei ag=>by simp at ag;rcases ag with rfl|rfl|rfl|rfl<;>rfl) _ _ rfl rfl ?_;intro e2 bp bn a5 cQ;obtain⟨aK,a4,cx,dS⟩:=bn.shape;rw[bO.o] at cx;subst cx;have du:=zh bn;have eF:=zh a5;have dp:=zh cQ;have ar:=Below.grown al a5 al.size (λb g=>bP.o b (by rw[am.o];exact g));have bG:=zh ar;have aB:=((Z.below ar).here N).2.2.2.1 1 _ rfl;have d5:=((Z.below ar).here N).2.2.2.2;clear bn a5 cQ dS)
 generalize be:World.setCell _ _ _=aJ;have cT:RowC 78 2 aJ (.slice (some ⟨l,t,none⟩) q F) (ad.set r [e.name,.slice aK (e.versions.length+1) a4]):=by
  rw[<-be];exact(Z.below bG).write (i:=r) (j:=1) dc N dc (.slice aK (e.versions.length+1) a4) rfl
 have a2:ButB (·=l) bp aJ:=by rw[<-be];exact(ButB.refl (·=l) bp).set _ _ rfl
 have aV:=zh cT;have B:=zh (zD G bG);have U:=(a2.block _ (zI (ao.o _ B)) (oh2 D.o E.o)).trans (ao.o _ B);have db:=zh U;have c7:=zh a2;have cb:=ψ U 4 _ rfl;have ca:=ψ U 1 _ rfl;have dN:=(zB U).2;have eV:IntKind.i64.wrap (d.turn+1)=d.turn+1:=IntWalk.i64_in _ om;clear be cT a2 U aB d5 ar dJ dK dL b9 dG;go_upto_region 13 with fail
 generalize bf:World.setCell _ _ _=A;have bV:A.heap[u.heap.size]? =some (.cells #[d.name,.int .i64 (d.turn+1),.slice bs d.manifests bw,.slice bt d.epochs bx,.slice (some ⟨l,t,none⟩) q F,.slice bu d.wraps bz,.slice bv d.links bA] 74 (0,0)):=by
  rw[<-bf];exact zH (i:=1) _ (zH (i:=4) _ db rfl) rfl
 have b1:ButB (·=u) aJ A:=by rw[<-bf];exact((ButB.refl (·=u) aJ).set _ _ rfl).set _ _ rfl
 have dj:=zh bV;have aP:=zh b1;clear bf bV b1 cb ca dN;have a3:ButB (λa=>a=l\/a=u) bp A:=(c7.mono λ_ f=> .inl f).trans (aP.mono λ_ f=> .inr f);have aa:=zh a3;have aL:=zD z B;have bB:=ButB.below aL aL.size (λa bi=>by have:=D.o;have:=z.size;have:=L.size;omega) a3;have K:=zh bB;have ct:∀b,(Value.slice aK (e.versions.length+1) a4).ownBlock=some b->bq.heap.size<=b:=λb g=>by
  rcases dp with f|⟨bj,bb,hl⟩
  ·exact bP.o b (by rw[am.o];exact f.symm.trans g)
  ·obtain rfl:bj=b:=zsi (bb.symm.trans g);exact qNtx al.size hl
 have bQ:=zh ct;have df:=zh (Z.lt l rfl);have dd:=zh (show Z6 (New (Old S w) o) A [d.name,.int .i64 (d.turn+1),.slice bs d.manifests bw,.slice bt d.epochs bx,.slice (some ⟨l,t,none⟩) q F,.slice bu d.wraps bz,.slice bv d.links bA] (zB4 d name i e v) by
  unfold zB4;rw[H.o,an.o];have dW:=aV.keep (w':=A) λb g=>aP.block b (aV.lt b g) (by have f:l=b:=zsi (show some l=some b from g);have:=D.o;have:=E.o;omega)
  refine zQp (zV dC (z9k L K)) (by constructor<;>omega) (z34 z20 dW (by rw[length_set,ak.o.1];have:=X.o;omega) ((ak.imp λ_ _ f=>z4j f (z9k (zD z G) K)).set r ⟨_,rfl,?_,?_⟩) λb g=> .inr ((zsi (show some l=some b from g))▸D))
  ·obtain⟨_,f,d2,_⟩:=ak.2 r _ _ N ap;exact d2
  ·have cv:=du.o;refine z34 z2z (cv.keep λb g=>aa.block b (cv.lt b g) ?_) (by rw[bO.o];have:=X.o;omega) ((c6.imp λ_ _ f=>z0q f (z9k (zD z (zD G al)) K)).snoc (zWb (z0q dA λb g hl=>⟨.inl ⟨g,hl⟩,K.block b hl⟩) (by constructor<;>omega))) λb g=> .inr (qNtx G.size (bQ.o b g))
   have eM:=bQ.o b g;have eO:=df.o;have eP:=G.size;have eQ:=E.o;omega)
 have cJ:=(aa.block _ (zI (bJ.o _ B)) (by have:=D.o;have:=z.size;have:=L.size;have:=s.o;have:=I.o;have:=E.o;omega)).trans (bJ.o _ B);have cR:=(aa.block _ (zI (bK.o _ B)) (by have:=D.o;have:=s.o;have:=I.o;have:=E.o;omega)).trans (bK.o _ B);have cS:=(aa.block _ (zI (bL.o _ B)) (by have:=D.o;have:=s.o;have:=I.o;have:=E.o;omega)).trans (bL.o _ B);have bR:=zh cR;have bS:=zh cS;have aB:=(aP.cellq ((aV.here (getElem?_set_self (by rw[c8.o.symm];exact a9))).2.2.2.1 1 _ rfl) (oh2 D.o E.o));have cp:¬(·=m.heap.size) w.heap.size:=by intro f;have b8:w=m.heap.size:=f;have:=s.o;omega
 have cq:¬(·=m.heap.size) u.heap.size:=by intro f;have b8:u=m.heap.size:=f;have:=s.o;have:=I.o;omega
 have cr:¬(·=m.heap.size) l:=by intro f;have b8:l=m:=f;have:=s.o;have:=I.o;have:=E.o;have:=D.o;omega
 have bU:=z4c (Y:=λa=>a=m) cJ cp;have bT:=z4c (Y:=λa=>a=m) dj.o cq;obtain⟨eX,eY,cU,cV⟩:=TC4 bU.a;obtain⟨eH,ca,eI,eJ,cb,eK,eL⟩:=TC7 bT.a;have e3:=zWu (Y:=λa=>a=m) aB cr;have O:=zh (show w<=m.heap.size/\w<=ai.heap.size/\m<o.heap.size/\ai<o.heap.size/\w<=o.heap.size/\o.heap.size<=A.heap.size by
  have:=s.o;have:=I.o;have:=E.o;have:=B.size;have:=aa.size;have:=z.size;omega)
 have dy:=zh λW (a6:(bW A W:Prop))=>(zM dr λb g hl=>⟨.inl ⟨g,hl⟩,(zD K a6).block b hl⟩:Z5 (New (Old S w) o) W _ st)
 have c9:=zh (zVc da (i:=i) (name:=name) (y:=e) (by rw[H.o,an.o];exact ap) v);clear cJ cR cS aB bU bT cp cq cr aL bB a3 ct;have aX:=ζ (∀J:World,ButB (·=m) A J->(λJ:World=>ButB (·=m) A J) J) (λJ a6=>a6);refine Z0 (S:=λJ:World=>ButB (·=m) A J) 12 [] kr (aX.o _ (ButB.of zbr.drew)) (λP=>?_);refine ziU 0 ?_;iterate 3 (refine ztU P ?_;simp only[zA])
 refine zoU ?_;refine ziU 4 ?_;iterate 7 (refine ztU P ?_;simp only[zA])
 refine zoU ?_;refine tQa 3 λaY ae=>?_;go_simp;go_at_call 107
 refine zcm (refwith_any st k hk hl (zB4 d name i e v) _ _ _ (New (Old S w) o) (dy.o _ (zbr.drew)) (zV dd (Kept.refl _ λ_ h=>h))) ?_;rintro b9 en ⟨⟨_,rfl,ay⟩,b2⟩;have R:(bW A en:Prop):=zD (zbr.drew) b2;clear b2 P;refine ae.o _ _ (aX.o _ (ButB.of R)) (λP=>?_);clear ae aY;try simp only[zA]
 obtain⟨cX,bc⟩:=Ξ (setF st k (zB4 d name i e v));rw[bc] at ay;have dD:=zh (by rw[c9.o,bc]:((cX,Y2 ((e.versions.length+1:Nat):Int),true):Res)=((z3z st k i name v).1,Y2 (z3z st k i name v).2,true));have dv:=zh ay;obtain⟨_,_,_,_,_,_,rfl⟩:=ZN ay;have ab:=(R.block _ (zI bR)).trans bR;have aq:=(R.block _ (zI bS)).trans bS;have dq:=zh ab;have HFIN:=zh (z4b (b:=true) (S:=S) (st':=cX) (n:=((e.versions.length+1:Nat):Int)) ab aq aT (zD K R) O.1 O.2.1 (by have:=X.o;constructor<;>omega) (λW c5 eE=>zB3 (Y:=λa=>a=m\/a=ai) dv.o O.2.2.2.2.1 (by first|exact O.2.2.2.2.2|(have:=O.2.2.2.2.2;exact this)) (λa bi=>by have:=O.o;rcases bi with f|f<;>omega) c5));rw[dD.o] at HFIN;obtain⟨_,_⟩:=zC4 (zB ab).1;have eW:=(zB ab).2;obtain⟨_,_⟩:=zC7 (zB aq).1;have eG:=(zB aq).2;have ba:=aT.o;have eU:=Ne.symm aT;clear ab aq ay bc;refine tQa 11 λaY ae=>?_;go_simp;clear P;refine ae.o _ _ (aX.o _ ((ButB.of R).trans (z2o dq _ _ _ _).2)) (λP=>?_);clear ae aY;try simp only[zA]
 refine tNc 12 ?_
 refine tNc 13 ?_
 refine Z7 kr ?_ _;exact mcJ
theorem maD (h:p:=by
 refine Z7 kr ?_ _;have HFD:=zh (zOi HFIN);go_wp2_with ((try simp only[φ]);exact YN rfl rfl HFD.1 rfl HFD.2.1 rfl rfl rfl HFD.2.2)):p:=h
theorem mcd (h:p:=by
 go_upto_region 3 with fail
 have bz:=b35;exact xER):p:=h
theorem zJa (st:State) (c:Call) (k:Nat) (hk:ZB st c.folder=some k) (hkl:k<st.folders) (hl:st.folders.length<=10000) (c7:z6v st 5 c.folder) (bF:∀x∈(fo st k).items,0<x.versions.length) (c3:(fo st k).items.length<=5000)
  (bH:0<=(fo st k).turn/\(fo st k).turn<=1000000) (aQ:0<=(zL (fo st k)).seq/\(zL (fo st k)).seq<=1000000) (hml:(fo st k).manifests.length<=9000) (bI:0<=st.turn/\st.turn<=1000000) (cs bB:List Value) (w:World) (S:Nat->Prop) (h:Z5 S w cs st) (bD:z09 S w bB c):
  Calls prog 60 #[.agg cs.toArray,.agg bB.toArray] w (Ret3 S (z04 st c k) w):=by
 have HR:=zh h;have ci:=zh hk;have cg:=zh bF;have cv:=zh bH;have cq:=zh aQ;have cm:=zh hml;have bl:=zh bI;obtain⟨dD,dG,dE,dH,dF,dI,rfl,_,_,_,_,dL,_,_,_,dJ,_,_,_,dK⟩:=ZF h;obtain⟨cD,cE,rfl,_,cH,_,_,_,_,_,_,_,_,cF⟩:=yG bD;obtain⟨bU,q,a5,w3,bJ,bK,bL,c9,a8,av,aw,br,bs,aP⟩:=z8h w (aS st dD dG dE dH dF dI) (aC c cD cE);have HB3:=zh a8;have ao:=zh av;have co:=zh aw;have HN2:=zh br;have HN3:=zh bs;have HNE:=zh aP;have HZ:=zh (by rw[<-bL,<-bK,<-bJ];simp:w<bU.heap.size/\bU<q.heap.size/\q<a5.heap.size);have cj:=ζ (a5<w3.heap.size) (zI (HN3.o _ zbr));have Z:=zh λW (t:(bW w3 W:Prop))=>zM HR (YL (zD HB3 t))
 have cz:=Below.refl w3 w3;obtain⟨s0,s1,s2,s3⟩:=TC4 av.a;obtain⟨_,cA,cC⟩:=TC3 aw.a;clear av aw br bs aP a8;have cb:=zh cH;have d9:(k:Int)<(st.folders:Int):=om
 clear dL dJ cF h bD hk bF c3 bH aQ hml bI;go_enter func60,ntmps60
 go_wp2_with fail
 refine zcb (z17 st c.folder _ _ _ (Z.o _ cz)) λ_ ai=>?_;have b9:=zh ai;rw[ci.o,show iOf (some k)=(k:Int) from rfl];clear bJ bK bL c9;go_wp2_with fail
 refine zcb (z5w st k hkl c.user _ _ _ (Z.o _ ai)) λdN a9=>?_;have b35:=zD b9 a9;have U:=zh b35;clear ai a9;by_cases G:ZS st k c.user<4
 ·have HE:=zh (by unfold z04;rw[if_pos G]:z04 st c k=(st,ZD 40,false));have c1:decide (ZS st k c.user<4)=true:=Δ G;clear G;exact mcd
 have c1:decide (ZS st k c.user<4)=false:=Γ G;have bi:=zh G;obtain⟨e,aL⟩:=Ξ (fo st k);have bG:st.folders[k]? =some e:=aL▸ZT hkl;have z:=zh aL;obtain⟨x,_,_,dQ,dV,dR,dW,dS,dX,dT,dY,dU,dZ,b0,d0,d3,rfl,_,_,_,_,_,_,_,_,_,bY,_,_,_,_,_,d4,_,_,_,d1,_,_,_,bZ,_,_,_,d5,_,_,_,d2⟩:=yP dK hkl (YL (zD HB3 U));obtain rfl:e=x:=zsi (bG.symm.trans b0);have bo:=zh bY;obtain⟨dO,bM,cK,cR,b6,dt⟩:=zP dN (aF e dQ dV dR dW dS dX dT dY dU dZ) 74;have bf:=zh (ZJ (zbx bM));have bA:=zD U b6;have ca:=zh bA;clear G aL b0 d0 d3 bY bG d4 d1 d5 d2 cK cR dt;go_wp2_with fail
 refine zcb (z9y st 5 om c.folder c7 _ _ _ (Z.o _ bA)) λef b1=>?_;obtain⟨c2,aN⟩:=Ξ (yV st 5 c.folder);rw[aN];have bd:=zh aN;clear aN bM;go_wp2_with fail
 go_loopw [9,10] (λdM aW dP=>∃(m:Nat) (b:Bool),m<=e.items/\dM= .bool b/\aW= .int .i64 m/\Hid (b=(decide (1<c2)||(e.items.take m).any yX))/\bW dO dP) (λ_ aW _=>e.items.length-(intOf aW).toNat)
 case atStart=>exact⟨0,_,om,rfl,gn,zh (by simp;omega),b1⟩
 obtain⟨a7,rfl⟩:=ξ wr;obtain⟨m,b,aQ,rfl,rfl,E,P⟩:=hrel;have ay:=zD ca P;have ab:=bf.on P;have cT:=ab.at 4 rfl;have d7:=Below.refl a7 a7;by_cases c4:m<e.items
 ·obtain⟨f,_,_,_,_,az,cP,cQ,rfl,_,_,_,_,bC,_⟩:=z0w bZ c4 (z23 (zD HB3 U) (zD HB3 ay));have bm:=zh (show((e.items.take (m+1)).any yX)=((e.items.take m).any yX||yX f) by
   rw[qLtx,az,Option.toList,any_append];simp)
  have eb:(m:Int)<(e.items:Int):=om
  have ce:=ζ (0<f.versions.length) (cg.o f (by rw[z.o];exact zmg az));have cd:=zh bC;clear az cP cQ bC ab
  cases b with
  | true=>
   go_wp2;go_roundw
   case rel=>exact⟨m+1,true,om,rfl,gn,zh (by rw[bm.o,<-Bool.or_assoc,<-E.o];rfl),P⟩
   case measure=>exact qMx
  | false=>
   go_wp2_with fail
   refine zcb (z9t f ce _ _ _ cd) λR b2=>?_;have X:=zh (zD P b2);go_wp2;go_roundw
   case rel=>exact⟨m+1,yX f,om,rfl,gn,zh (by rw[bm.o,<-Bool.or_assoc,<-E.o];rfl),X⟩
   case measure=>exact qMx
 obtain rfl:m=e.items:=om
 rw[qLnx] at E
 cases b with
 | true=>
  have HE:=zh (show z04 st c k=(st,ZD 47,false) by
   unfold z04;rw[if_neg (oh bi.o),if_pos];have:=E.symm;rw[Bool.or_eq_true,decide_eq_true_eq] at this;rw[bd.o,z.o];exact this)
  go_upto_region 11 with fail
  have bz:=ay;exact xER
 | false=>
  have cc:=zh (show ¬(1<yV st 5 c.folder\/(fo st k).items.any yX=true) by
   rw[bd.o,z.o];have:=E.symm;rw[Bool.or_eq_false_iff,decide_eq_false_iff_not] at this;rintro(f|f)
   ·exact this.1 f
   ·rw[this.2] at f;cases f)
  obtain⟨aB,aG,aH,aI,_,aJ,aK⟩:=TC7 ab.a;have bb:=zh ay;have bn:=zh (zD HB3 U);clear ab bZ E;go_wp2_with fail
  refine zcm (YW e _ a7 (Old S w) (zV bo (z23 bn (zD HB3 bb)))) ?_;rintro _ y ⟨⟨_,rfl,ad⟩,aj⟩;obtain⟨g,aO⟩:=Ξ (zL e);rw[aO] at ad;have an:=zh aO;have ck:=zh ad;obtain⟨bQ,bS,bR,bT,rfl,_,_,_,_,_,dk,_,_,_,_,dj,_⟩:=ZO ad;obtain⟨R,bN,cM,cS,ba,du⟩:=zP y (aM g bQ bS bR bT) 84;have bg:=zh (ZJ (zbx bN));have V:=zh (zD bb aj);have X:=zh (zD V ba);have a4:=bg.o R zbr;have aZ:=ψ a4 6 _ rfl;have ds:=(zB a4).2;have bc:=zh (zD aj ba);clear ad aO dk dj cM cS du a4 aB aG aH aI cT aJ aK;go_upto_region 14 with fail
  generalize aT:World.setCell _ _ _=u;have bp:u.heap[y.heap.size]? =some (.cells #[g.folder,g.seq,.slice bQ g.prev bS,g.parent,.slice bR g.members bT,g.cut,true,g.who] 84 (0,0)):=by
   rw[<-aT];exact zH (i:=6) _ (bg.o R zbr) rfl
  have ax:ButB (·=y) R u:=by rw[<-aT];exact(ButB.refl (·=y) R).set _ _ rfl
  have r:=zh (ButB.below X X.size (λd ag=>by have:=V.size;omega) ax);have cr:=zh (ButB.below bc bc.size (λd ag=>by have:=aj.size;omega) ax);have am:=zh bp;clear aT ax aZ ds bN;have cw:=zh (by rw[<-z.o];exact cv:0<=e.turn/\e.turn<=1000000);have ar:=zh (by rw[<-z.o];exact cq:0<=(zL e).seq/\(zL e).seq<=1000000);have cn:=zh (by rw[<-z.o];exact cm:e.manifests.length<=9000);have bv:=ao.on r;obtain⟨dw,dy,dA,dC⟩:=TC4 bv.a;have bt:=bf.on (zD P cr);obtain⟨aB,aG,aH,aI,cU,aJ,aK⟩:=TC7 bt.a;have bu:=ZJ am;obtain⟨dl,aY,dm,dn,dp,dq,aZ,dr⟩:=TC8 bu.a;have cB:=(co.on r).at 1 rfl;clear bv bt bu s0 s1 s2 s3 cA cC bp;refine zEC 8 λo=>?_;refine ziU 0 ?_;iterate 6 (refine ztU o ?_;simp only[zA])
  refine zoU ?_;refine tQa 6 λM s=>?_;go_simp;go_at_call 109
  refine zcm (z7a e { g with gone:=true } c.user cb cw ar cn _ _ _ (Old S w) (zV bo (z23 bn (zD HB3 (zD r (zbr.drew))))) (zT5 (yF ck (z23 (zD HB3 V) (zD HB3 (zD r (zbr.drew))))))) ?_;rintro cO bX ⟨⟨cJ,rfl,bE⟩,O⟩;have K:(bW u bX:Prop):=zD (zbr.drew) O;clear O o;refine s.o _ _ K (λo=>?_);clear s M;try simp only[zA]
  have cf:=ζ (Z6 (New (Old S w) u) bX cJ _) (zV bE (Kept.refl _ λb cV=>cV.imp id λh=>qNtx (Below.refl u u).drew.size h));clear bE;refine tQa 7 λM s=>?_;go_simp;go_at_call 107
  refine zcm (refwith_any st k hkl hl (YJ e { g with gone:=true } c.user) _ _ _ (New (Old S w) u) (zM (Z.o _ (zD r (K))) (Kept.refl _ λ_ h=> .inl h)) cf) ?_;rintro cO a6 ⟨⟨_,rfl,af⟩,O⟩;have L:(bW u a6:Prop):=zD (K) O;clear O o;refine s.o _ _ L (λo=>?_);clear s M;try simp only[zA]
  obtain⟨a,aR⟩:=Ξ (setF st k (YJ e { g with gone:=true } c.user));rw[aR] at af;have bk:=zh aR;clear aR;have cu:=zh af;have b7:=zh K.size;obtain⟨B,H,C,I,D,J,rfl⟩:=ZN af;have aX:=ao.o _ (zD r L);obtain⟨bO,db,dd,de⟩:=zC4 (zB aX).1;have bP:=(zB aX).2;clear af aX;refine tNc 8 ?_
  refine Z7 kr ?_ _;have bh:=zh (z2o (ao.o _ (zD r L)) a.turn (.slice B a.users H) (.slice C a.deposits I) (.slice D a.folders J));generalize aU:World.setCell _ _ _=bV;have aa:bV.heap[w.heap.size]? =some (.cells (aS a B H C I D J) 34 (0,0)):=by rw[<-aU];exact bh.1
  have bx:ButB (·=w) a6 bV:=by rw[<-aU];exact bh.2
  have bO:=ψ aa 0 _ rfl;have bP:=(zB aa).2;have c8:a.turn=st.turn:=by rw[<-bk.o];rfl
  have ed:IntKind.i64.wrap (a.turn+1)=a.turn+1:=IntWalk.i64_in _ (oh bl.o);have cx:=zh (by have:=bl.o;constructor<;>omega:I64 (a.turn+1));have ak:=zh L;have cl:=zh aa;have b8:=zh bx;clear aU db dd de c8 dw dy dA dC aB aG aH aI cU aJ aK dl aY dm dn dp dq aZ dr cB aa bx L K o;go_upto_region 16 with fail
  generalize aV:World.setCell _ _ _=Q;have bq:Q.heap[w.heap.size]? =some (.cells #[.int .i64 (a.turn+1),.slice B a.users H,.slice C a.deposits I,.slice D a.folders J] 34 (0,0)):=by rw[<-aV];exact zH (i:=0) _ cl rfl
  have F:ButB (·=w) a6 Q:=by rw[<-aV];exact b8.set _ _ rfl
  have HE:=zh (show z04 st c k=({ a with turn:=a.turn+1 },Y2 (g.seq+1),true) by
   unfold z04;rw[if_neg (oh bi.o),if_neg cc.o,z.o,an.o,<-bk.o])
  have da:=HZ.o;have c5:=cj.o;have cY:=HB3.size;have cX:=r.size;have cZ:=V.size;have c0:=ak.size;have A:=zD r ak;have N:=(F.block _ (zI (HN2.o _ A)) om).trans (HN2.o _ A);have ac:=(F.block _ (zI (HN3.o _ A)) om).trans (HN3.o _ A);have au:=(ak.block _ (zI am)).trans am;have aY:=(zB ((F.block _ (zI au) om).trans au)).1 1 _ rfl;obtain⟨df,dg,dh,di⟩:=zC4 (zB bq).1;have ec:IntKind.i64.wrap (g.seq+1)=g.seq+1:=IntWalk.i64_in _ (by have:=ar.o;rw[an.o] at this;omega);have bw:=ButB.below (zD HB3 A) (zD HB3 A).size (λd ag=>om) F;have HFIN:=zh (z4b (b:=true) (S:=S) (st':={ a with turn:=a.turn+1 }) (n:=g.seq+1) N ac HNE bw om om (by have:=ar.o;rw[an.o] at this;constructor<;>omega) (a0:= .int .i64 (a.turn+1)) (a1:= .slice B a.users H) (a2:= .slice C a.deposits I) (a3:= .slice D a.folders J) (λW b3 d6=>zFc (zB3 (Y:=λd=>d=w\/d=q\/d=a5) cu om (by first|exact znl _|exact b7.o) (λd ag=>by rcases ag with f|f|f<;>omega) ((F.mono λ_ f=> .inl f).trans (b3.mono λ_ f=> .inr f))) cx));rw[<-HE.o] at HFIN;have ae:¬(·=q.heap.size) w.heap.size:=by intro f;have cN:w=q.heap.size:=f;omega
  have c6:¬(·=q.heap.size) y.heap.size:=by intro f;have cN:y=q.heap.size:=f;omega
  have cp:=zh N;obtain⟨_,_⟩:=zC4 (zB N).1;have ee:=(zB N).2;obtain⟨_,_⟩:=zC7 (zB ac).1;have d8:=(zB ac).2;have aP:=HNE.o;have ea:=Ne.symm HNE;clear au bq F bw N ac bO bP aV da c5 cY cX cZ c0 A;have bj:=ζ (∀j:World,ButB (·=q) Q j->(λj:World=>ButB (·=q) Q j/\cL j w 0 (a.turn+1:Int)/\cL j w 1 (.slice B a.users H)/\cL j w 2 (.slice C a.deposits I)/\cL j w 3 (.slice D a.folders J)/\cL j y 1 g.seq) j) (λj t=>⟨t,t.cellq df ae,t.cellq dg ae,t.cellq dh ae,t.cellq di ae,t.cellq aY c6⟩);refine Z0 (S:=λj:World=>ButB (·=q) Q j/\cL j w 0 (a.turn+1:Int)/\cL j w 1 (.slice B a.users H)/\cL j w 2 (.slice C a.deposits I)/\cL j w 3 (.slice D a.folders J)/\cL j y 1 g.seq) 6 [] kr (bj.o _ (ButB.of zbr.drew)) (λo=>?_);refine ziU 0 ?_;iterate 5 (refine ztU o ?_;simp only[zA])
  refine zoU ?_;refine tQa 5 λM s=>?_;go_simp;clear o;refine s.o _ _ (bj.o _ ((z2o cp _ _ _ _).2.trans (ButB.of zbr.drew))) (λo=>?_);clear s M;try simp only[zA]
  refine tNc 6 ?_
  refine tNc 7 ?_
  exact maD
abbrev zKz (W:World) (b4 b5:Nat) (a0 a1 a2 a3 a d e f g h i:Value):World:=(((((((((((W.setCell (aD b4 0) a0).setCell (aD b4 1) a1).setCell (aD b4 2) a2).setCell (aD b4 3) a3).setCell (aD b5 0) a).setCell (aD b5 1) d).setCell (aD b5 2) e).setCell (aD b5 3) f).setCell (aD b5 4) g).setCell (aD b5 5) h).setCell (aD b5 6) i)
theorem z1c {st':State} {a:Answer} {b:Bool} (y:W.heap[b4]? =some (.cells z6t 34 (0,0))) (u:W.heap[b5]? =some (.cells z59 49 (0,0))) (x:b4≠b5) (B:(bW w W:Prop)) (h4:w<=b4) (h5:w<=b5) {a0 a1 a2 a3 d e f g i j l:Value}
  (h:∀W',ButB (λm=>m=b4\/m=b5) W W'->((bW w W':Prop))->Z5 (New S w) W' [a0,a1,a2,a3] st'/\yJ (New S w) W' [d,e,f,g,i,j,l] a):
  (zKz W b4 b5 a0 a1 a2 a3 d e f g i j l).heap[b4]? =some (.cells #[a0,a1,a2,a3] 34 (0,0))/\(zKz W b4 b5 a0 a1 a2 a3 d e f g i j l).heap[b5]? =some (.cells #[d,e,f,g,i,j,l] 49 (0,0))/\Ret3 S (st',a,b) w (.returned (.tuple #[.agg #[a0,a1,a2,a3],.agg #[d,e,f,g,i,j,l],b])) (zKz W b4 b5 a0 a1 a2 a3 d e f g i j l):=by
 have q:=z2o y a0 a1 a2 a3;have r:=ZC ((q.2.block _ (zI u) (Ne.symm x)).trans u) d e f g i j l;have s:ButB (λm=>m=b4\/m=b5) W (zKz W b4 b5 a0 a1 a2 a3 d e f g i j l):=(q.2.mono λ_ o=> .inl o).trans (r.2.mono λ_ o=> .inr o);have t:=ButB.below B B.size (λm z=>by rcases z with o|o<;>omega) s;obtain⟨A,C⟩:=h _ s t;exact⟨(r.2.block _ (zI q.1) x).trans q.1,r.1,⟨⟨[a0,a1,a2,a3],[d,e,f,g,i,j,l],rfl,A,C⟩,t⟩⟩
theorem Y8 {S:Nat->Prop} {w:World} {a:Answer} (h:yJ S w cs a):∃d i e j f l g m,cs=[.int .i64 a.err,.int .i64 a.number,.string a.who,.slice d a.data i,.slice e a.names j,.slice f a.members l,.slice g a.history m]:=by
 obtain⟨_,_,_,_,t,_,_,_,o,q,r,s⟩:=h;obtain⟨d,i,rfl,_⟩:=o;obtain⟨e,j,rfl,_⟩:=q;obtain⟨f,l,rfl,_⟩:=r;obtain⟨g,m,rfl,_⟩:=s;exact⟨d,i,e,j,f,l,g,m,t⟩
theorem z28 {a:Answer} {f:World} (hs:yJ (New (Old S w) wr) f cs a) (h3:w<=wr.heap.size) (h4:w<=b4/\b4<wr) (h5:w<=b5/\b5<wr) (h:ButB (λg=>g=b4\/g=b5) f W):yJ (New S w) W cs a:=
 yY hs (h.kept λb d=>by
  rcases d with d|d
  ·exact⟨.inl d.1,by have:=d.2;rintro(e|e)<;>omega⟩
  ·exact⟨.inr (qNtx h3 d),by rintro(e|e)<;>omega⟩)
theorem z3c (hz:wr<=W0.heap.size) (W:World):Kept (New (New (Old S w) wr) W0) (New (Old S w) wr) W W:=Kept.refl _ λb hb=>by
 rcases hb with hb|hb
 ·exact hb
 ·exact .inr (qNtx hz hb)
theorem zQw {e:Option Addr} {m c g:Nat} {l:List Int} (h:Sl 1 Y1 S w (.slice e m c) l) (B:(bW w W:Prop)) (hg:w<=g):SlAt 1 Y1 (z21 (λb=>¬Old S w b) W (.slice (some ⟨g,0,none⟩) 0 0)) W e l:=by
 obtain⟨_,_,a,_,_,_,f⟩:=h;simp only[Value.slice.injEq] at a;obtain⟨rfl,_⟩:=a;exact f.keep rByte_ok dc λb i d=>⟨⟨zll d B.size,λh=>h ⟨i,d⟩,λa=>by have j:g=b:=zsi (show some g=some b from a);omega⟩,B.block b d⟩
theorem zQx {T:World} {base:Nat} {l:List Int} (h:Grow 5 1 Y1 (λb=>¬Old S w b) W base v l) (hl:l.length<=10000) (f:T<=base):Sl 1 Y1 (New (Old S w) T) W v l:=by
 obtain⟨_,g,d,i⟩:=h.toRow (S:=Old S w) rByte_ok dc (λb a=>Classical.byContradiction a);exact z34 rByte_ok g (by rw[d.1];exact hl) (d.imp λ_ _ e=>rByte_ok.keep e (Kept.refl _ λ_ h=> .inl h)) λb a=> .inr (qNtx f (i b a))
theorem zL0 {e f i:World} {N g:Nat} (hs:Z5 (New (λb=>New (Old S w) e b/\b<N) W0) f cs st) (h1:e<=W0.heap.size) (l:N<=g) (hg:g<W0\/f<=g) (hb:ButB (λx=>some g=some x) f i):Z5 (New (Old S w) e) i cs st:=
 zM hs λb j h=>by
  rcases j with ⟨d,m⟩|d
  ·exact⟨d,hb.block b h (by intro a;have:=zsi a;omega)⟩
  ·exact⟨.inr (qNtx h1 d),hb.block b h (by intro a;have:=zsi a;omega)⟩
noncomputable def pdR (st:State) (c:Call) (k:Nat):Bool->Res
 | true=>z1j st c k
 | false=>z3l st c k
def z65 (f:Folder) (gone:Bool):Option Nat->Bool
 | none=>gone
 | some j=>gone&&!yX (ZY f j)
def z6w (f:Folder):Option Nat->Bool
 | none=>decide (32<=f.items.length)
 | some j=>decide (256<=(ZY f j).versions.length)
section
variable {st:State} {c:Call} {k:Nat} {gone:Bool} {io:Option Nat}
theorem zVf (h:ZS st k c.user<2):pdR st c k gone=(st,ZD 40,false):=by
 cases gone
 ·show z3l st c k=_
  unfold z3l;rw[if_pos h]
 show z1j st c k=_
 unfold z1j;rw[if_pos h]
theorem zVg (h:¬ZS st k c.user<2) (hi:z00 (fo st k) c.name=io) (hg:z65 (fo st k) gone io=true):pdR st c k gone=(st,ZD 35,false):=by
 obtain rfl:gone=true:=by
  cases io
  ·exact hg
  ·unfold z65 at hg;rw[qBqx] at hg;exact hg.1
 show z1j st c k=_
 unfold z1j;rw[if_neg h,hi]
 cases io with
 | none=>rfl
 | some j=>
  dsimp only;rw[if_pos];simpa[z65] using hg
theorem zVh (h:¬ZS st k c.user<2) (hi:z00 (fo st k) c.name=io) (hg:z65 (fo st k) gone io=false) (a:z6w (fo st k) io=true):pdR st c k gone=(st,ZD 3,false):=by
 cases gone
 ·show z3l st c k=_
  unfold z3l;rw[if_neg h,hi]
  cases io with
  | none=>dsimp only;rw[if_pos (of_decide_eq_true a)]
  | some j=>dsimp only;rw[if_pos (of_decide_eq_true a)]
 show z1j st c k=_
 unfold z1j;rw[if_neg h,hi]
 cases io with
 | none=>cases hg
 | some j=>
  dsimp only;rw[if_neg,if_pos (of_decide_eq_true a)];simpa[z65] using hg
theorem zVi (h:¬ZS st k c.user<2) (hi:z00 (fo st k) c.name=io) (hg:z65 (fo st k) true io=false) (a:z6w (fo st k) io=false):pdR st c k true=((z3z st k io c.name ⟨0,true,c.user,[]⟩).1,Y2 (z3z st k io c.name ⟨0,true,c.user,[]⟩).2,true):=by
 show z1j st c k=_
 unfold z1j;rw[if_neg h,hi]
 cases io with
 | none=>cases hg
 | some j=>
  dsimp only;rw[if_neg,if_neg (of_decide_eq_false a)];simpa[z65] using hg
theorem zWc (h:¬ZS st k c.user<2) (hi:z00 (fo st k) c.name=io) (a:z6w (fo st k) io=false):pdR st c k false=((z5q st c k).1,Y2 (z5q st c k).2,true):=by
 show z3l st c k=_
 unfold z3l;rw[if_neg h,hi]
 cases io with
 | none=>dsimp only;rw[if_neg (of_decide_eq_false a)]
 | some j=>dsimp only;rw[if_neg (of_decide_eq_false a)]
end
theorem mb6 (h:p:=by
 go_wp2;go_meet
 case rel=>exact⟨by rw[HX2.o],HB6d⟩):p:=h
theorem mcM (h:p:=by
 clear g9 gg9;clear hHeld;refine hK.o _ _ (HB9) (λhHeld=>?_);clear hK K;try simp only[zA]
 have BwD:=HB9.o;refine zU 13 hHeld ?_;simp only[zA];refine tQa 14 λK hK=>?_;go_simp;go_at_call 117
 refine zcm (HAD.o wD _ _ HS9 ⟨_,rfl,(show I64 0 from⟨om,om⟩),HCL.1,HSD⟩) ?_;rintro e3 wE ⟨⟨cs8,ca8,rfl,hs8,ha8⟩,b3⟩;have BwE:(bW wf wE:Prop):=zD (BwD) b3;have HSwE:=zh b3;clear b3 hHeld;refine hK.o _ _ BwE (λhHeld=>?_);clear hK K;try simp only[zA]
 rw[show(pdR st c k false).2.2=b1 from by rw[HRR.o]];rw[HRR.o] at hs8 ha8;have hs9:=zM hs8 (z3c (qNtx HB3f BwD.size) _);have ha9:=yY ha8 (z3c (qNtx HB3f BwD.size) _);clear hs8 ha8;dsimp only at hs9 ha9;have HSP:=zh hs9;have HAP:=zh ha9;obtain⟨E1,u1,E2,u2,E3,u3,rfl⟩:=ZN hs9;obtain⟨A3,a3,A4,a4,A5,a5,A6,a6,rfl⟩:=Y8 ha9;have PB:=((BwE.block _ (zI HP0)).trans HP0);have QB:=((BwE.block _ (zI HQ0)).trans HQ0);have HLE:=zh (by have hle:w3<=w3.heap.size:=(znl _);have:=HZ.o;have:=HLT.o;have:=HB3.size;omega:w<=w3.heap.size/\(w<=w1.heap.size/\w1<w3.heap.size)/\(w<=w2.heap.size/\w2<w3.heap.size));have HFIN:=zh (z1c (b:=b1) (S:=S) (st':=st1) (a:=a1) PB QB HNE (zD HB0f BwE) HLE.2.1.1 HLE.2.2.1 (λW BB BF=>⟨z27 HSP HLE.1 HLE.2.1 HLE.2.2 BB,z28 HAP HLE.1 HLE.2.1 HLE.2.2 BB⟩));obtain⟨q0,q1,q2,q3⟩:=zC4 (zB PB).1;have qz:=(zB PB).2;obtain⟨d0,d1,d2,d3,d4,d5,d6⟩:=zC7 (zB QB).1;have dz:=(zB QB).2;have hne:=HNE.o;have hne':=Ne.symm HNE;clear PB QB hs9 ha9;rw[<-HRR.o] at HFIN;refine ziU 15 ?_;iterate 3 (refine ztU hHeld ?_;simp only[zA])
 refine zoU ?_;refine tNc 18 ?_
 refine tNc 19 ?_
 refine tNc 20 ?_
 refine Z7 kr ?_ _;exact mcJ):p:=h
theorem zGf {n:Nat} (st:State) (c:Call) (gone:Bool) (k:Nat) (ag:VInv n st) (hn:n<=40) (hk:ZB st c.folder=some k) (b0:c.data.length<=10000) (cs bO:List Value) (w:World) (S:Nat->Prop) (h:Z5 S w cs st) (D:z09 S w bO c):
  Calls prog 62 #[.agg cs.toArray,.agg bO.toArray,gone] w (Ret3 S (pdR st c k gone) w):=by
 have HR:=zh h;have cO:=zh hk;have l:=zh (z0l (yO hk));have P:=zh ag;obtain⟨d,ah⟩:=Ξ (fo st k);have b7:st.folders[k]? =some d:=ah▸ZT l;have g:=zh ah;have ac:=zh (by rw[<-ah];exact ag.atF l:FInv n (st.users.map User.name) d);have a2:=z5r ag om l;rw[ah] at a2;have L:=zh a2;have ao:=zh (by have:=ag.few;omega:st.folders.length<=10000);have ey:(k:Int)<(st.folders:Int):=by have:=l.o;omega
 obtain⟨cn,cp,co,cq,dR,cr,rfl,_,_,_,_,dU,_,_,_,dS,_,_,_,dT⟩:=ZF h;obtain⟨bL,bM,rfl,_,dd,_,db,_,_,_,c8,c9,da,bN⟩:=yG D;obtain⟨bn,w1,w2,w3,cc,cd,ce,dJ,bq,aV,aW,bH,bI,hne⟩:=z8h w (aS st cn cp co cq dR cr) (aC c bL bM);have HB3:=zh bq;have bC:=zh aV;have bD:=zh aW;have HN2:=zh bH;have HN3:=zh bI;have HNE:=zh hne;have HZ:=zh (by rw[<-ce,<-cd,<-cc];simp:w<bn.heap.size/\bn<w1.heap.size/\w1<w2.heap.size);have HLT:=ζ (w2<w3.heap.size) (zI (HN3.o _ zbr));have O:=zh λW (a7:(bW w3 W:Prop))=>zM HR (YL (zD HB3 a7))
 have cZ:=Below.refl w3 w3;obtain⟨s0,s1,s2,s3⟩:=TC4 aV.a;obtain⟨_,c3,c4,c5,_,_,_,c6⟩:=TC8 aW.a;clear aV aW bH bI hne bq;have HCL:=ζ (c.user.size<=()/\c.name.size<=()) ⟨dd,db⟩;have bx:=ζ (Sl 1 Y1 S w (.slice bL c.data bM) c.data) ⟨_,_,rfl,c8,c9,da,bN⟩;have am:=zh b0;clear dU dS bN h D hk ag ah a2 b0;go_enter func62,ntmps62
 go_wp2_with fail
 refine zcb (z17 st c.folder _ _ _ (O.o _ cZ)) λ_ ay=>?_;have cB:=zh ay;rw[cO.o,show iOf (some k)=(k:Int) from rfl];clear cc cd ce dJ;go_wp2_with fail
 refine zcb (z5w st k l c.user _ _ _ (O.o _ ay)) λdZ br=>?_;have b35:=zD cB br;have Z:=zh b35;clear ay br;by_cases t:ZS st k c.user<2
 ·have HE:=zh (zVf (gone:=gone) t);have dA:decide (ZS st k c.user<2)=true:=Δ t;clear t;exact mcd
 have dA:decide (ZS st k c.user<2)=false:=Γ t;have aq:=zh t;obtain⟨aj,_,_,ee,ej,ef,ek,eg,el,eh,em,ei,en,cv,eo,er,rfl,_,_,d7,d8,d9,ea,eb,ec,ed,ct,_,_,_,_,_,es,_,_,_,ep,_,_,_,cu,_,_,_,et,_,_,_,eq⟩:=yP dT l (YL (zD HB3 Z));obtain rfl:d=aj:=zsi (b7.symm.trans cv);have cX:=zh ct;obtain⟨ai,cf,df,du,bs,dN⟩:=zP dZ (aF d ee ej ef ek eg el eh em ei en) 74;have cQ:=zh (ZJ (zbx cf));have c1:=zD Z bs;have al:=zh c1;have c0:=Below.refl ai ai;obtain⟨bP,bQ,bR,bS,bT,bU,bV⟩:=TC7 cQ.a;clear t cv eo er ct b7 es ep et eq df du dN;go_wp2_with fail
 refine zcb (zEf d c.name _ ai (Old S w) (zV cX (z23 (zD HB3 Z) (zD HB3 al)))) λ_ ak=>?_;obtain⟨io,bd⟩:=Ξ (z00 d c.name);rw[bd];obtain⟨G,bc⟩:=Ξ (iOf io);rw[bc];have N:=zh bd;have M:=zh bc;have bA:=zh (by cases io;exact .inl rfl;exact .inr ⟨_,rfl⟩:io=none\/∃e,io=some e);have bv:=zh ak;clear bd bc cf d7 d8 d9 ea eb ec ed c0 bs;go_upto_region 6 with fail
 go_cut [46] from 33 to 46 (λbm I=>bm= .bool (z65 d gone io)/\bW ai I)
 case first=>
  cases gone with
  | false=>
   go_wp2;go_meet
   case rel=>exact⟨by cases io<;>rfl,ak⟩
  | true=>
   rcases bA with E|⟨e,E⟩
   ·subst E;obtain rfl:(-1:Int)=G:=M;go_wp2;go_meet
    case rel=>exact⟨rfl,ak⟩
   subst E;obtain rfl:(e:Int)=G:=M;have C:=zh (z3n N);have be:e<d.items:=(zge C.1).1;have dE:(e:Int)<(d.items:Int):=om
   have dB:decide ((e:Int)<0)=false:=η;obtain⟨s,dk,dp,di,dl,af,aY,aZ,rfl,dm,dj,dg,dh,av,dn,dq,dr,ds,dt⟩:=z0w cu be (z23 (zD HB3 Z) (zD HB3 (zD al bv)));obtain rfl:s=ZY d e:=zsi (af.symm.trans C.1);have cD:=zh av;have cE:=ζ (0<(ZY d e).versions.length) (length_pos_iff.2 (ac.it _ (zmg C.1)).1);clear af aY aZ av;go_wp2_with fail
   refine zcb (z9t (ZY d e) cE _ _ _ cD) λbp V=>?_;have HB9:=zh (zD bv V);go_wp2;go_meet
   case rel=>exact⟨rfl,HB9.o⟩
 case rest=>
 obtain⟨rfl,az⟩:=hcut;obtain⟨bl,bf⟩:=Ξ (z65 d gone io);rw[bf];have aO:=zh bf;obtain⟨_,rfl⟩:∃A:World,A=wc:=⟨_,rfl⟩;have aX:=zD al az;clear bf ak
 cases bl with
 | true=>
  have HE:=zh (zVg (oh aq.o) (by rw[g.o];exact N:z00 (fo st k) c.name=io) (by rw[g.o];exact aO:z65 (fo st k) gone io=true));go_upto_region 7 with fail
  have bz:=aX;exact xER
 | false=>
 have HB6d:=zh az;go_upto_region 8 with fail
 go_cut [70] from 49 to 70 (λbm I=>bm= .bool (z6w d io)/\bW ai I)
 case first=>
  rcases bA with E|⟨e,E⟩
  ·subst E;obtain rfl:(-1:Int)=G:=M;by_cases D:32<=d.items.length
   ·have dy:decide (32<=(d.items:Int))=true:=θ;have HX2:=ζ (z6w d none=true) (Δ D);clear D;exact mb6
   have dy:decide (32<=(d.items:Int))=false:=η;have HX2:=ζ (z6w d none=false) (Γ D);clear D;exact mb6
  subst E;obtain rfl:(e:Int)=G:=M;have C:=zh (z3n N);have be:e<d.items:=(zge C.1).1;have dE:(e:Int)<(d.items:Int):=om
  have dB:decide ((e:Int)<0)=false:=η;have bG:=ζ ((ZY d e).versions.length<=40) (qNtx (ac.it _ (zmg C.1)).2.1 om);have ex:decide (256<=((ZY d e).versions.length:Int))=false:=Γ (oh bG.o);have HX2:=ζ (z6w d (some e)=false) (Γ (oh bG.o));obtain⟨s,dk,dp,di,dl,af,aY,aZ,rfl,dm,dj,dg,dh,av,dn,dq,dr,ds,dt⟩:=z0w cu be (z23 (zD HB3 Z) (zD HB3 aX));obtain rfl:s=ZY d e:=zsi (af.symm.trans C.1);clear af aY aZ av;exact mb6
 case rest=>
 obtain⟨rfl,bt⟩:=hcut;obtain⟨a0,a8⟩:=Ξ (z6w d io);rw[a8];have aK:=zh a8;obtain⟨U,rfl⟩:∃A:World,A=wc:=⟨_,rfl⟩;have ae:=zD al bt;have X:=zh ae;clear a8 aX az
 cases a0 with
 | true=>
  have HE:=zh (zVh (oh aq.o) (by rw[g.o];exact N:z00 (fo st k) c.name=io) (by rw[g.o];exact aO:z65 (fo st k) gone io=false) (by rw[g.o];exact aK:z6w (fo st k) io=true));go_upto_region 9 with fail
  have bz:=ae;exact xER
 | false=>
 have cY:=zh (show w<=w1.heap.size/\w1<w3.heap.size/\w<=w2.heap.size/\w2<w3.heap.size/\w.heap.size<=w3.heap.size by
  have:=HZ.o;have:=HLT.o;have:=HB3.size;omega)
 have bB:=zh (show ∀e,io=some e->e<d.items.length from λe s=>by
  have:=z3n (N.trans s);exact(zge this.1).1)
 have bF:=ζ (∀aj∈d.items,aj.versions.length<=5000) (λaj dK=>qNtx (ac.it aj dK).2.1 om);have aL:=zh (by rw[g.o];exact N:z00 (fo st k) c.name=io)
 cases gone with
 | true=>
  have HE:=zh (zVi (oh aq.o) aL (by rw[g.o];exact aO:z65 (fo st k) true io=false) (by rw[g.o];exact aK:z6w (fo st k) io=false));have HAD:=zh (zGb st k l ao io c.name ⟨0,true,c.user,[]⟩ (by rw[g.o];exact bB) HCL.2 (by rw[g.o];have:=L.o;omega) (by rw[g.o];exact bF) (by rw[g.o];have:=L.o;omega) (by rw[g.o];have:=L.o;omega) _ ['0',true,c.user,()] U _ (O.o _ ae) ⟨_,rfl,(show I64 0 from⟨om,om⟩),HCL.1,y9⟩);have aG:=HAD.o;rw[M.o] at aG;have cA:=zh aG;clear aG bP bQ bR bS bT bU bV;go_wp2_with fail
  refine zcm cA ?_;rintro eu bo ⟨⟨cs8,ca8,rfl,hs8,ha8⟩,J⟩;obtain⟨y,t⟩:=Ξ (pdR st c k true);have bh:=HE.symm.trans t;rw[bh] at hs8 ha8;obtain⟨st1,a1,b1⟩:=y;have HRR:=zh t;have dx:true=b1:=congrArg (λy:Res=>y.2.2) bh;subst dx;clear bh t;dsimp only at hs8 ha8;have HSP:=zh hs8;have HAP:=zh ha8;obtain⟨E1,u1,E2,u2,E3,u3,rfl⟩:=ZN hs8;obtain⟨A3,a3,A4,a4,A5,a5,A6,a6,rfl⟩:=Y8 ha8;have PB:=(HN2.o _ (zD X J));have QB:=(HN3.o _ (zD X J));have HLE:=zh (by have hle:w3<=U.heap.size:=X.size;have:=HZ.o;have:=HLT.o;have:=HB3.size;omega:w<=U.heap.size/\(w<=w1.heap.size/\w1<U.heap.size)/\(w<=w2.heap.size/\w2<U.heap.size));have HFIN:=zh (z1c (b:=true) (S:=S) (st':=st1) (a:=a1) PB QB HNE (zD HB3 (zD X J)) HLE.2.1.1 HLE.2.2.1 (λW BB BF=>⟨z27 HSP HLE.1 HLE.2.1 HLE.2.2 BB,z28 HAP HLE.1 HLE.2.1 HLE.2.2 BB⟩));obtain⟨q0,q1,q2,q3⟩:=zC4 (zB PB).1;have qz:=(zB PB).2;obtain⟨d0,d1,d2,d3,d4,d5,d6⟩:=zC7 (zB QB).1;have dz:=(zB QB).2;have hne:=HNE.o;have hne':=Ne.symm HNE;clear PB QB hs8 ha8;rw[<-HRR.o] at HFIN
  exact mcJ
 | false=>
  have cR:=zh (zWc (oh aq.o) aL (by rw[g.o];exact aK:z6w (fo st k) io=false));go_wp2_with fail
  refine zcb (zBv st c.folder _ U _ (O.o _ ae)) λbo J=>?_;have c2:=zD X J;have m:=zh c2;obtain⟨ax,bi⟩:=Ξ (yH st c.folder);rw[bi];obtain⟨s1,cb⟩:=Ξ (if ax=true then z1g st k c.user else st);have ad:=zh cb;have aT:=zh bi;clear bi cb J bP bQ bR bS bT bU bV bt ae;go_upto_if 89 with fail
  go_cut [] from 90 to 94 (λI=>∃(E1:Option Addr) (u1:Nat) (E2:Option Addr) (u2:Nat) (E3:Option Addr) (u3:Nat),Hid (I.heap[w.heap.size]? =some (.cells (aS s1 E1 u1 E2 u2 E3 u3) 34 (0,0)))/\Hid (Z5 (New (Old S w) w3) I (lS s1 E1 u1 E2 u2 E3 u3) s1)/\Hid (ButB (·=w) bo I))
  case first=>
   cases ax with
   | true=>
    obtain rfl:z1g st k c.user=s1:=ad;go_wp2_with fail
    refine zcm (zKv st k l ao (P.smF om) (by rw[g.o];exact ac.wr) (by rw[g.o];have:=L.o;omega) (by rw[g.o];exact ac.ep) (by rw[g.o];have:=L.o;omega) c.user HCL.1 _ _ _ (O.o _ m)) ?_;rintro ev bp ⟨⟨_,rfl,hs9⟩,V⟩;have HS9:=zh (zM hs9 (Kept.refl _ λb q=>q.imp id λs=>qNtx m.size s:Kept (New (Old S w) bo) (New (Old S w) w3) bp bp));obtain⟨E1,u1,E2,u2,E3,u3,rfl⟩:=ZN hs9;generalize z1g st k c.user=s1 at*;have ar:=bC.o _ (zD m V);have aQ:=zh (z2o ar s1.turn (.slice E1 s1.users u1) (.slice E2 s1.deposits u2) (.slice E3 s1.folders u3));have cC:=zh V;obtain⟨_,_⟩:=zC4 (zB ar).1;have eA:=(zB ar).2;clear hs9 ar V;go_wp2;go_meet
    case rel=>exact⟨E1,u1,E2,u2,E3,u3,zh aQ.1,zh (zM HS9 (aQ.2.kept λb q=>⟨q,by have:=HB3.size;have:=cY.o;have:=HZ.o;rcases q with q|q;(have:=q.2;intro s;omega);(intro s;omega)⟩)),zh ((ButB.of cC).trans aQ.2)⟩
   | false=>
    obtain rfl:st=s1:=ad;go_wp2;go_meet
    case rel=>exact⟨cn,cp,co,cq,_,cr,zh (bC.o _ m),zh (zM (O.o _ m) (Kept.refl _ λ_ h=> .inl h)),zh (ButB.refl _ _)⟩
  case rest=>
  obtain⟨E1,u1,E2,u2,E3,u3,cP,cS,aa⟩:=hcut;obtain⟨wf,rfl⟩:∃A:World,A=wc:=⟨_,rfl⟩;obtain⟨Q,a9,ba,bb,dC,b2,dD⟩:=zKy P l c.folder c.user;rw[aT.o,ad.o] at a9;have cM:=zh a9;have aU:=zh (P.put l ba (b2.mono (Nat.le_succ _) λ_ s=>s) om (by rw[z35 bb]) (by rw[z35 bb]));have aN:=zh (by rw[z0m];exact l:k<(setF st k Q).folders.length);have cF:=zh (z24 (f:=Q) l);have cK:=zh (by rw[z4i P.o.names l.o ba,if_pos rfl]:Z4 (setF st k Q) Q.name=some Q);have bu:=zh (z5r aU om aN);have cJ:=zh (aU.atF aN);obtain⟨R,cj,dL,dM,ck,cl,cm⟩:=zKq (c:=c) P l;have bg:=cj c.user rfl;rw[aT.o,ad.o] at bg;have bE:=zh bg;have aJ:=zh (by rw[ck,g.o]:R.items=d.items);have cH:=zh cl;have cU:=zh cm;have ab:=zh (z24 (f:=R) l);have bw:=zh (show ∀W,((bW wf W:Prop))->Calls prog 106 #[.agg (aS s1 E1 u1 E2 u2 E3 u3),k] W (zAu (λb=>New (Old S w) w3 b/\b<wf) (setF st k R) W) from λW a7=>by
   rw[<-bE.o];have b9:=zM cS (show Kept (New (Old S w) w3) (λb=>New (Old S w) w3 b/\b<wf) wf W from λb q b8=>⟨⟨q,b8⟩,a7.block b b8⟩);rw[cM.o] at b9⊢;exact z93 (setF st k Q) k aN (by rw[z0m];exact ao) (by rw[cF.o];exact cK) (aU.smF om) cJ.wr (oh bu.o) (oh bu.o) _ _ _ b9)
  have HAD:=zh (show ∀W cs au,Z5 (New (Old S w) w3) W cs (setF st k R)->yM (New (Old S w) w3) W au ⟨0,false,c.user,c.data⟩->Calls prog 117 #[.agg cs.toArray,k,G,c.name,.agg au.toArray] W (Ret3 (New (Old S w) w3) (pdR st c k false) W) from λW cs au dH dI=>by
   have bZ:=zGb (setF st k R) k (by rw[z0m];exact l) (by rw[z0m];exact ao) io c.name ⟨0,false,c.user,c.data⟩ (by rw[ab.o,aJ.o];exact bB) HCL.2 (by rw[ab.o,aJ.o];have:=L.o;omega) (by rw[ab.o,aJ.o];exact bF) (by rw[ab.o];have:=cH.tn;omega) (by
    rw[ab.o];have dv:=cU.o;have dw:=z4q (z2u l);have ew:=P.sum;unfold yA at dv dw;omega) cs au W _ dH dI
   rw[M.o] at bZ;rw[cR.o];have dG:z5q st c k=z3z (setF st k R) k io c.name ⟨0,false,c.user,c.data⟩:=by
    unfold z5q;dsimp only;rw[aL.o,aT.o,ad.o,bE.o]
   rw[dG];exact bZ)
  have bK:=ZJ cP;obtain⟨eE,eF,eG,eH⟩:=TC4 bK.a;have dF:¬bn=w.heap.size:=by have:=HZ.o;omega
  have bJ:=ZJ ((aa.block _ (zI (bD.o _ m)) dF).trans (bD.o _ m));obtain⟨_,eB,_,eC,_,_,_,eD⟩:=TC8 bJ.a;have HP0:=zh ((aa.block _ (zI (HN2.o _ m)) (oh HZ.o)).trans (HN2.o _ m));have HQ0:=zh ((aa.block _ (zI (HN3.o _ m)) (oh HZ.o)).trans (HN3.o _ m));have HB0f:=zh (ButB.below (zD HB3 m) (zD HB3 m).size (λA ez=>om) aa);have HB3f:=ζ (w3<=wf.heap.size) (qNtx m.size aa.size);obtain⟨ci,b6,cg,bX,bY⟩:=info_parts (show(prog.info? 5).map (λbk=>(bk.zero,bk.size,bk.bytes))=some (some (.int .u8 0),1,1) from kr);clear a9 ba bb dC b2 dD cj dL dM ck cl cm bg bK bJ s0 s2 s3 c3 c4 c5 c6;obtain⟨y,ca⟩:=Ξ (pdR st c k false);obtain⟨st1,a1,b1⟩:=y;have HRR:=zh ca;clear ca;go_upto_region 14 with fail
  refine zEC 18 λhHeld=>?_;refine ziU 0 ?_;iterate 2 (refine ztU hHeld ?_;simp only[zA])
  refine zoU ?_;refine ziU 3 ?_;iterate 6 (refine ztU hHeld ?_;simp only[zA])
  refine zoU ?_;refine ziU 10 ?_;iterate 2 (refine ztU hHeld ?_;simp only[zA])
  refine zoU ?_;refine z4p (i:=2) (j:=9) kr rfl rfl (λK hK=>?_) (λK hK=>?_)
  ·go_simp;go_at_call 106
   refine zcm (bw.o _ (zbr.drew)) ?_;rintro e3 H ⟨⟨de,rfl,F⟩,b3⟩;have u:(bW wf H:Prop):=zD (zbr.drew) b3;clear b3 hHeld;refine hK.o _ _ u (λhHeld=>?_);clear hK K;try simp only[zA]
   obtain⟨cx,dV,cy,dW,cz,dX,rfl⟩:=ZN F;have aR:=zh F;clear F;refine tQa 9 λK hK=>?_;go_simp;generalize aw:World.alloc _ _=z;have r:=(by rw[<-aw];exact Below.alloc (u) (u).size _:(bW wf z:Prop));clear hHeld;refine hK.o _ _ r (λhHeld=>?_);clear hK K;try simp only[zA]
   have aI:=zh (zbx aw);have aB:=zh (by rw[<-aw];exact zbr.alloc (znl _) _:(bW H z:Prop));have x:=ζ (wf<=H.heap.size) u.size;clear aw;refine tQa 12 λK hK=>?_;refine z7v z rfl (.tmp 104) (.tmp 106) 39 rfl 5 ci _ 1 1 underlying39 b6 cg bX bY rfl dc rByte_ok wf r.size _ ([]:List Int) rfl (Grow.empty (B:=λb=>¬Old S w b) aI x) _ _ _ rfl c.data rfl (zQw bx (zD HB0f r) (qNtx HB0f.size x)) (by have:=am.o;simp;omega) dc ?_;intro dY wD g9 gg9;rw[nil_append] at g9;obtain⟨cw,c7,rfl⟩:=g9.shape;have HB9:=zh (Below.grown r gg9 r.size (λb q=>(zsi (show some H.heap.size=some b from q))▸x));have HSD:=zh (zQx (T:=w3) g9 (oh am.o) HB3f);have HS9:=zh (zL0 aR (by first|exact HB3f|exact qNtx HB3f (Below.refl wf wf).drew.size) x (.inr (znl _)) (ButB.row gg9 aB));exact mcM
  go_simp;generalize bj:World.drew (World.alloc _ _)=H;have u:=(by rw[<-bj];exact(Below.alloc zbr (znl _) _).drew:(bW wf H:Prop));clear hHeld;refine hK.o _ _ u (λhHeld=>?_);clear hK K;try simp only[zA]
  have aH:=zh (by rw[<-bj];exact ZQ (zJ _ rfl):H.heap[wf.heap.size]? =some (.cells #[] 5 (0,0)));have cN:=zh (zI aH);clear bj;refine tQa 2 λK hK=>?_;go_simp;go_at_call 106
  refine zcm (bw.o _ (u)) ?_;rintro e3 z ⟨⟨de,rfl,F⟩,b3⟩;have r:(bW wf z:Prop):=zD (u) b3;have cV:=zh b3;clear b3 hHeld;refine hK.o _ _ r (λhHeld=>?_);clear hK K;try simp only[zA]
  obtain⟨cx,dV,cy,dW,cz,dX,rfl⟩:=ZN F;have aR:=zh F;have aI:=zh ((cV.block _ (zI aH)).trans aH);have aB:=zh (Below.refl z z);clear F;have x:=zh (znl wf);refine tQa 12 λK hK=>?_;refine z7v z rfl (.tmp 104) (.tmp 106) 39 rfl 5 ci _ 1 1 underlying39 b6 cg bX bY rfl dc rByte_ok wf r.size _ ([]:List Int) rfl (Grow.empty (B:=λb=>¬Old S w b) aI x) _ _ _ rfl c.data rfl (zQw bx (zD HB0f r) (qNtx HB0f.size x)) (by have:=am.o;simp;omega) dc ?_;intro dY wD g9 gg9;rw[nil_append] at g9;obtain⟨cw,c7,rfl⟩:=g9.shape;have HB9:=zh (Below.grown r gg9 r.size (λb q=>(zsi (show some wf.heap.size=some b from q))▸x));have HSD:=zh (zQx (T:=w3) g9 (oh am.o) HB3f);have HS9:=zh (zL0 aR (qNtx HB3f u.size) x (.inl cN) (ButB.row gg9 aB));exact mcM
end Go.Proofs.YtdggplhnfhcieaaGreatDoor
