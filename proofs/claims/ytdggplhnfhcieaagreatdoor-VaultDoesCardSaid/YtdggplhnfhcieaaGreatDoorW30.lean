/- No condition. -/
import Derived.Deep.CutBlock
import Derived.Test.YtdggplhnfhcieaaGreatDoorW28
import Derived.Test.YtdggplhnfhcieaaGreatDoorW29
set_option linter.all false
set_option maxRecDepth 100000
set_option maxHeartbeats 16000000
namespace Go.Proofs.YtdggplhnfhcieaaGreatDoor
open Go.Proofs.Tryz Cd Ce List
open Go.RowKit Go.Deep
section
variable {X:Nat->Prop} {base bw:Nat} {W W':World} {R R':RM} {c:Call} {dv:Value} {st:State} {done late:Bool}
theorem zEn (c:Call) (l:List Member):0<=yD c l/\yD c l<=46:=by
 unfold yD Ro.shareE Ro.changeE Ro.revokeE
 (repeat' split)<;>omega
def zWd (L:Nat) (h:World) (c:Call) (l:List Member) (f:World):Prop:=
 ∃a e b d,cL f L 0 (.slice a e b)/\Sl 2 zZ (λg=>h<=g) f (.slice a e b) d/\(yD c l=0->d=Ro.withOf l c.other c.role)
theorem zFe {L:Nat} {a d:World} {c:Call} {l h:List Member} {e:Option Addr} {g f:Nat} {k:Value} (n:L<a) (hb:(bW a d:Prop)) (h0:(cL d L 0 k:Prop)) (hs:Sl 2 zZ (λb=>a<=b) d (.slice e g f) h) (j:yD c l=0->h=Ro.withOf l c.other c.role):
  zWd L a c l (d.setCell (aD L 0) (.slice e g f))/\ButB (·=L) a (d.setCell (aD L 0) (.slice e g f)):=
 ⟨⟨e,g,f,h,World.cell?_setCell_same d ⟨L,0,none⟩ _ h0,hs.keep ZA dc λb hb o=>⟨hb,Below.heap_setCell _ _ _ _ λi=>by
  have i:b=L:=i;have hb:a<=b:=hb;omega⟩,j⟩,(ButB.of hb).set ⟨L,0,none⟩ _ rfl⟩
theorem zVk (e:CallOk c) (h5:5<=c.kind/\c.kind<=7) (f g:Folder):(if (decide (2<=c.role)||(c.kind==5))=true then f else g)=if c.kind=5\/(c.kind=6/\2<=c.role) then f else g:=by
 have d:=e.rol0;by_cases a:c.kind=5\/(c.kind=6/\2<=c.role)
 ·rw[if_pos a,if_pos];rcases a with a|a
  ·simp[a]
  simp[a.2]
 rw[if_neg a,if_neg];simp only[Bool.or_eq_true,decide_eq_true_eq,beq_iff_eq];rintro(b|b)
 ·have:c.kind=7:=om
  have:=d this;omega
 exact a (.inl b)
theorem maw {p:Prop} (h:p:=by
 rintro e4 w4 ⟨⟨v',l',rfl,hs4,h04⟩,B4⟩;obtain⟨A',n',e',hs'⟩:=id hs4;subst e';have L4:=zy B4 L0;have hz4:∀q,w4.frozen? (aD w2 q)=false:=λq=>((z1q B4).2 _ q qw3).trans (hzL q)
 have HRL:=zh (zFe qw3 B4 L4 hs4 h04);clear B4 hs4 h04 hs';go_wp2;go_meet
 case rel=>exact⟨rfl,HRL.1,HRL.2⟩):p:=h
theorem z94 (h:WK X base bw W R c dv st false late) {n k:Nat} (ar:VInv n st) (hn:n<=40) (hk:ZB st c.folder=some k) (br:CallOk c) (bv:5<=c.kind/\c.kind<=7):
  Calls prog 91 #[pT bw] W (Did X base bw W R c dv late (yR st c k)):=by
 have HK:=zh hk;have m:=zh (z0l (yO hk));have p:=zh (ar.atF m);have K:=zh (z5r ar om m);have v:=zh br;have O:=zh bv;obtain⟨o,bB⟩:=Ξ (W.alloc (.cells Z3 49));have bn:=yQ W;rw[bB] at bn;obtain⟨s,aO,a6,aN⟩:=bn;have j:=s R h;have r:=zh j;have am:=zh a6;have HB0:=zh aO;have dq:=j.lt;clear s aO a6;have a4:=zh (by obtain⟨_,_,_,_,_,_,_,_,q,_⟩:=yG j.call;exact q:I64 c.role);obtain⟨aa,ao,be,cN,bA,bs,bx,bz,cQ,cS,cB,dn,cC,cD⟩:=yG j.call;obtain rfl:dv= .slice aa c.data ao:=by simpa[z4m] using be
 obtain⟨cZ,c0,c1,c2,c3,c4,c5,aL⟩:=TC8 j.cells.1;obtain⟨bM,cT,cA,cE,ac,aK⟩:=zP o (aC c aa ao) 41;have a0:=zh (zbx cT);have cu:=ζ (c.user.size<=()/\c.folder.size<=()/\c.name.size<=()/\c.other.size<=()) ⟨bA,bs,bx,bz⟩;have b0:=zh ac;have a5:=zh (j.below ac);have b8:=ζ (Imm (λb=>X b\/b=W) bw R bM o) ⟨aK,λd=>by have:=j.lt;omega,λd=>by have:=j.os.lt d;omega,λd=>by have:=j.xl _ d;omega⟩;clear be cN bA bs bx bz cQ cS cB cC cD cA cE ac;clear h hk j ar br bv;unfold Z3 at bB;go_enter func91,ntmps91
 have cY:=ψ a0 2 _ rfl;go_wp2_with fail
 refine zcm (YK a5 c.folder) ?_;rintro _ H ⟨⟨hno,rfl⟩|⟨cV,cF,du,bu,ay,rfl⟩,ab⟩
 ·exact ma6
 obtain rfl:_=cV:=zsi (HK.symm.trans bu);have bY:=zh ab;have J:=zh ay;have aT:=zh (a5.below ab);obtain⟨_,_,_,_,_,_,_,_,_,_,bf,hF,bE,bF,bG,bH,bI,bJ,bK,cM,_⟩:=aT.fold (ZT m) ay;have b1:=zh bf;clear ab bu ay bf hF;clear cZ c0 c1 c2 c3 c4 c5 aL cY;obtain⟨_,_,A,F,bo,aw⟩:=z7c aT m J p.man;have P:=zh bo;have au:=aw H zbr;have co:=zh aw;rw[b1.o] at au;have cj:=zh au;have dw:=z2d;clear bo aw au;go_wp2_with fail
 refine zcb cj λw2 i=>?_;have ag:=zh (zD bY i);have aV:=zh i;have c7:=zy i bE;have c8:=zy i bF;have c9:=zy i bG;have da:=zy i bH;have db:=zy i bI;have dd:=zy i bJ;have de:=zy i bK;have dp:cF<w2:=zll cM i.size;clear i bE bF bG bH bI bJ bK;obtain⟨y,_,bc,bh,aR,qw3⟩:=zP w2 #[()] 46;have M:=zh (zD ag aR);have ae:=zh (zD aV aR);have aX:=zh (zD b0 M);have ai:=zh ((M.block _ aK).trans a0);obtain⟨aB,cX⟩:=zC2 (zB ai).1;obtain⟨_,_,_,_,bC,bD⟩:=TC6 (zB ai).1;have L0:=bc 0 _ rfl;have hzL:=bh;clear bc bh;have al:=zh (show Sl 2 zZ (Imm (λb=>X b\/b=W) bw R y) y (.slice A (zL (fo st k)).members.length F) (zL (fo st k)).members from by
  obtain⟨aG,aH,aI,aJ,_⟩:=P.o;have cR:Sl 2 zZ (Imm (λb=>X b\/b=W) bw R H) H (.slice A (zL (fo st k)).members.length F) (zL (fo st k)).members:=⟨A,F,rfl,aG,by unfold maxLen;exact aH,aI,aJ⟩;exact cR.keep ZA dc (Mut.below (bw:=bw) (R:=R) ae).kept)
 have ci:=zh (show Sl 2 zZ (Imm (λb=>X b\/b=W) bw R H) H (.slice A (zL (fo st k)).members.length F) (zL (fo st k)).members from by
  obtain⟨aG,aH,aI,aJ,_⟩:=P.o;exact⟨A,F,rfl,aG,by unfold maxLen;exact aH,aI,aJ⟩)
 have ak:=zh (by have:=K.o;omega:(zL (fo st k)).members.length<=100000);have dt:w2<y.heap.size:=qw3;have ds:o<w2.heap.size:=zll aK ag.size;go_upto_block 0 with fail
 go_cut [7] from 21 to 57 (λaL z=>aL= .int .i64 (yD c (zL (fo st k)).members)/\Hid (zWd w2 y c (zL (fo st k)).members z)/\ButB (·=w2) y z)
 case first=>
  have g:c.kind=5\/c.kind=6\/c.kind=7:=by have:=O.o;omega
  rcases g with g|g|g
  ·have E:=zh g;have bp:(c.kind==5)=true:=beq_iff_eq.2 g;clear g;go_wp2_with fail
   refine zcm (zQz v E a4 p.mem al ak) ?_;exact maw
  ·have E:=zh g;have bp:(c.kind==5)=false:=ν;have V:(c.kind==6)=true:=beq_iff_eq.2 g;clear g;go_wp2_with fail
   refine zcm (zOo v E a4 p.mem al ak) ?_;exact maw
  have E:=zh g;have bp:(c.kind==5)=false:=ν;have V:(c.kind==6)=false:=ν;clear g;go_wp2_with fail
  refine zcm (zOp v E p.mem al ak) ?_;exact maw
 obtain⟨rfl,cd,G⟩:=hcut;have aY:=zh (ButB.below aX (oh aX.size) (λZ t=>om) G);have a3:=zh ((G.block _ om om).trans ai);have aW:=zh (ButB.below ae ae.size (λZ t=>by have:=aV.size;omega) G);have bj:=zEn c (zL (fo st k)).members;have b2:=Ξ (yD c (zL (fo st k)).members);obtain⟨l,s⟩:=b2;have w:=zh s;rw[s] at bj;rw[s];clear s aB cX bC bD L0 hzL;by_cases t:l=0
 rotate_left
 ·have cP:(l==0)=false:=beq_eq_false_iff_ne.2 t;go_wp2_with fail
  refine zcb (ZU l wc) λ_ aQ=>?_;obtain⟨BW,H2,cv,bN,bO,bP,bQ,bR,bS,bT,bU⟩:=zW aY aQ r aN am;clear aQ;unfold ZV;go_wp2;try simp only[φ]
  obtain⟨B,F2⟩:=ZC cv.o l '0' "" () () () ();refine zrt B ?_;rw[show(yR st c k)=(st,ZD l,false) from by unfold yR;dsimp only;rw[w.o,if_pos t]];exact mai
 have cP:(l==0)=true:=beq_iff_eq.2 t;subst t;obtain⟨A',n',bb,l',bk,ax,bl⟩:=cd;have aj:=zh (bl w);have ct:=zh ax;have cg:=zh (ci.keep ZA dc (Mut.below (bw:=bw) (R:=R) aW).kept);have dr:bM<=w2.heap.size:=ag.size;have cs:=zh (show Sl 2 zZ (Imm (λb=>X b\/b=W) bw R wc) wc (.slice A' n' bb) l' from ax.keep ZA dc λb V cO=>by
  have V:y<=b:=V;exact⟨⟨cO,λd=>om,λd=>by have:=r.os.lt d;omega,λd=>by have:=r.xl _ d;omega⟩,rfl⟩)
 have ca:=ζ (Imm (λb=>X b\/b=W) bw R wc w2) ⟨zll qw3 G.size,λd=>om,λd=>by have:=r.os.lt d;omega,λd=>by have:=r.xl _ d;omega⟩;have b9:=zh (Mut.block (Mut.below (ButB.below M M.size (λZ t=>om) G)) b8).2;clear bl ax bj;go_wp2_with fail
 refine zcm (zR0 l' (zL (fo st k)).members _ _ wc _ _ ct cg) ?_;rintro _ bL ⟨⟨cz,rfl,bq⟩,u⟩;have aZ:=zh bq;have L:=zh (zD aY u);have I:=zh (r.below L);have bZ:=zh (zD aW u);have ah:=zh u;have cb:=zh ((u.block _ (zI a3)).trans a3);have cw:=zy u bk;clear bq u bk c7 c8 c9 da db dd de
 cases cz with
 | true=>
  obtain⟨_,_,_,_,_,_,_,_,_,_,bg,cK,dg,dh,di,dj,dk,dl,dm,_,cH⟩:=I.fold (ZT m) J;have av:=co.o bL bZ;rw[bg] at av;have ck:=zh av;have dx:=z8g;clear bg cK cH av;go_wp2_with fail
  refine zcb ck λdf aP=>?_;have af:=zh (zD L aP);have ad:=zh (r.below af);have D:=zh ((af.block _ aN).trans am);have T:=D.o;unfold Z3 at T;obtain⟨bN,bO,bP,bQ,bR,bS,bT⟩:=zC7 (zB T).1;have bU:=(zB T).2;clear T aP dg dh di dj dk dl dm;go_wp2;try simp only[φ]
  obtain⟨B,F2⟩:=ZC D '0' (.int .i64 (zL (fo st k)).seq) "" () () () ();refine zrt B ?_;rw[show yR st c k=(st,Y2 (zL (fo st k)).seq,false) from by
   unfold yR;dsimp only;rw[w.o,if_neg sm,if_pos ((zL1 v.o O.o p.o.mem w.o).1 (aj.o.symm.trans (by have:=aZ.o;simpa using this)))]]
  exact ZI ad (Mut.below (zD HB0 af)) (znl _) F2 (z33 P.2.2.2.2.1)
 | false=>
  have cn:=zh (show ¬Ro.ofOf (zL (fo st k)).members c.other=c.role from λd=>by
   have cJ:=aj.trans ((zL1 v O p.mem w).2 d);have U:=aZ.o;simp[cJ] at U)
  obtain⟨aB,_,_,_,bC,bD⟩:=TC6 (zB cb).1;go_upto_region 16 with fail
  go_cut [80] from 73 to 79 (λc6 z=>c6= .bool (decide (2<=c.role)||(c.kind==5))/\z=bL)
  case first=>
   by_cases U:2<=c.role
   ·have az:decide (2<=c.role)=true:=Δ U;have C:=zh (by rw[az];rfl:(decide (2<=c.role)||(c.kind==5))=true);go_wp2;go_meet
    case rel=>exact⟨by rw[C.o],rfl⟩
   have az:decide (2<=c.role)=false:=Γ U;have C:=zh (by rw[az];rfl:(decide (2<=c.role)||(c.kind==5))=(c.kind==5));go_wp2;go_meet
   case rel=>exact⟨by rw[C.o],rfl⟩
  obtain⟨rfl,cU⟩:=hcut;subst cU;generalize bt:(decide (2<=c.role)||(c.kind==5))=ap;have C:=zh bt;clear bt;go_upto_if 80 with fail
  go_cut [] from 81 to 87 (λz=>Hid (Wrote (λb=>X b\/b=W) base bw wc R c (.slice aa c.data ao) late (setF st k (if ap=true then YZ (fo st k) c.other (decide (2<=c.role)) else fo st k)) false z))
  case first=>
   cases ap with
   | true=>
    go_wp2_with fail
    refine zcb (z9h I m J p.wr (oh K.o) (oh K.o) c.other cu.2.2.2 (decide (2<=c.role))) λdf hWr=>?_;exact mca
   | false=>
    go_wp2;go_meet
    case rel=>exact zh (by rw[if_neg sm,z8r];exact Wrote.refl I)
  have a1:=zh (zVk v O (YZ (fo st k) c.other (decide (2<=c.role))) (fo st k));rw[C.o] at a1;obtain⟨e,Y⟩:=Ξ (if ap=true then YZ (fo st k) c.other (decide (2<=c.role)) else fo st k);have Q:=zh (by rw[<-Y];split<;>exact⟨rfl,rfl⟩:e.manifests=(fo st k).manifests/\e.turn=(fo st k).turn);rw[Y] at hcut;have b3:=zh (Y.symm.trans a1);obtain⟨_,aq,x,bd⟩:=hcut.o;have ad:=zh aq;have cf:=zh x;have bX:=zh (J.keep bd);have cc:=zh (by rw[z0m];exact m:k<(setF st k e).folders.length);have N:=zh (z24 (f:=e) m);have cm:=zh (by rw[N.o];exact z35 Q.1:zL (fo (setF st k e) k)=zL (fo st k));have b5:=zh (Mut.block (Mut.below ah) b9).2;have b6:=zh (Mut.block (Mut.below ah) ca).2;have D:=zh ((Mut.own I x (.inr rfl)).trans ((L.block _ aN).trans am));have bm:(cL wc w2 0 (.slice A' n' bb):Prop):=(World.cell?_of_block (a:=⟨w2,0,none⟩) (Mut.block x b6).1).trans cw;have bi:(cL wc o 0 c.kind:Prop):=(World.cell?_of_block (a:=⟨o,0,none⟩) (Mut.block x b5).1).trans aB;have cr:=zh ((cs.keep ZA dc (Mut.below ah).kept).keep ZA dc x.kept);obtain⟨a7,cx,cy,a8,a9,ba,_⟩:=K;have cp:=zh (zH3 aq cc bX cm a7 om a8 (by rw[N.o,Q.o.2];exact a9) (by rw[N.o,Q.o.1];exact ba) om P.2.2.2.2.2.1 w2 o _ l' c.kind bm bi cr);have b7:=ζ (I64 ((zL (fo st k)).seq+1)) ⟨om,om⟩;have cq:=zh (show yR st c k=(setF (setF st k e) k { fo (setF st k e) k with manifests:=(fo (setF st k e) k).manifests++[{ zL (fo st k) with seq:=(zL (fo st k)).seq+1,who:=c.user,members:=l',cut:=if c.kind=7 then(zL (fo st k)).seq+1 else(zL (fo st k)).cut }],turn:=(fo (setF st k e) k).turn+1 },Y2 ((zL (fo st k)).seq+1),true) from by
   unfold yR;dsimp only;rw[w.o,if_neg sm,if_neg cn.o,<-b3.o,N.o,z2k,aj.o];unfold YJ;rw[show zL e=zL (fo st k) from z35 Q.o.1])
  clear hcut aq x bd a7 cx cy a8 a9 ba bm bi Y;go_wp2_with fail
  have cl:=zh (λd=>ad.nx W d (.inr rfl));refine zcm (cp) ?_;rintro _ _ ⟨rfl,_,aU,an,bV⟩;have a2:=zh ((an.but.block _ (zI D) (λd=>cl.o (d.symm.imp id id))).trans D);have S:=a2.o;unfold Z3 at S;obtain⟨bN,bO,bP,bQ,bR,bS,bT⟩:=zC7 (zB S).1;have bU:=(zB S).2;have b4:=zh aU;have ce:=zh an;clear aU an S bV;unfold ZV;go_wp2;try simp only[φ]
  obtain⟨B,F2⟩:=ZC a2 '0' ((zL (fo st k)).seq+1:Int) "" () () () ();refine zrt B ?_;rw[show yR st c k=(setF (setF st k e) k { fo (setF st k e) k with manifests:=(fo (setF st k e) k).manifests++[{ zL (fo st k) with seq:=(zL (fo st k)).seq+1,who:=c.user,members:=l',cut:=if c.kind=7 then(zL (fo st k)).seq+1 else(zL (fo st k)).cut }],turn:=(fo (setF st k e) k).turn+1 },Y2 ((zL (fo st k)).seq+1),true) from by exact cq.o];exact ZI b4 (((Mut.below (zD HB0 L)).trans cf).trans ce) (znl _) F2 (z33 b7)
end
theorem z27 {S:Nat->Prop} {st':State} {w wr g W:World} {f:List Value} {b d:Nat} (hs:Z5 (New (Old S w) wr) g f st') (h3:w<=wr.heap.size) (h4:w<=b/\b<wr) (h5:w<=d/\d<wr) (i:ButB (λh=>h=b\/h=d) g W):Z5 (New S w) W f st':=
 zM hs (i.kept λj a=>by
  rcases a with a|a
  ·exact⟨.inl a.1,by have:=a.2;rintro(e|e)<;>omega⟩
  ·exact⟨.inr (qNtx h3 a),by rintro(e|e)<;>omega⟩)
theorem zH9 (st:State) (c:Call) (hk:c.kind=15) (u:Nat) (hu:yU st c.user=some u) (hl:st.users.length<=1000) (x v:List Value) (w:World) (S:Nat->Prop) (h:Z5 S w x st) (y:z09 S w v c):
  Calls prog 63 #[.agg x.toArray,.agg v.toArray] w (Ret3 S (z8f st c) w):=by
 have I:=zh h;have L:=zh hu;obtain⟨aa,ad,ab,ae,ac,af,rfl,_,_,_,_,ai,_,_,_,ag,_,_,_,ah⟩:=ZF h;obtain⟨N,O,rfl,_,_,_,_,_,_,_,_,_,_,P⟩:=yG y;obtain⟨C,D,E,g,z,A,B,T,m,q,r,s,t,l⟩:=z8h w (aS st aa ad ab ae ac af) (aC c N O);have i:=zh m;have H:=zh s;have p:=zh t;have j:=zh l;have a:=zh (by rw[<-B,<-A,<-z];simp:w<C.heap.size/\C<D.heap.size/\D<E.heap.size);have o:=ζ (E<g.heap.size) (zI (p.o _ zbr));have K:=zh λW (Q:(bW g W:Prop))=>zM I (YL (zD i Q))
 have M:=Below.refl g g;obtain⟨U,V,Y,Z⟩:=TC4 q.a;obtain⟨ak,al⟩:=TC2 r.a;clear q r s t l m;have an:(c.kind==1)=false:=by rw[hk];rfl
 have ao:(c.kind==15)=true:=by rw[hk];rfl
 clear ai ag ah P h y hk hu;go_enter func63,ntmps63
 go_wp2_with fail
 refine zcm (zEm st c.user true u L hl _ _ _ (K.o _ M)) ?_;rintro _ _ ⟨⟨_,rfl,k⟩,d⟩;have J:=zh k;obtain⟨_,_,_,_,_,_,rfl⟩:=ZN k;have G:=zh (zD i d);have e:=H.o _ d;have f:=p.o _ d;have HFIN:=zh (z4b (b:=true) (S:=S) (st':=lostS st c.user true) (n:=0) e f j G (Nat.le_of_lt (Nat.lt_trans a.1 a.2.1)) (Nat.le_of_lt (Nat.lt_trans a.1 (Nat.lt_trans a.2.1 a.2.2))) ⟨om,om⟩ (λW F aj=>z27 J i.size (oh2 a.o o.o) (oh2 a.o o.o) F));obtain⟨_,_⟩:=zC4 (zB e).1;have aq:=(zB e).2;obtain⟨_,_⟩:=zC7 (zB f).1;have am:=(zB f).2;have l:=j.o;have ap:=Ne.symm j;clear e f k z A B T U V Y Z d;exact mcJ
theorem zT4 {S:Nat->Prop} {w:World} {st:State} {l:List Pair} {a b c d v:Value} (h:Z5 S w [a,b,c,d] st) (hl:Sl 2 z10 S w v l):Z5 S w [a,b,v,d] { st with deposits:=l }:=by
 obtain⟨_,_,_,e,f,g,_,i⟩:=h;simp only[cons.injEq,and_true] at e;obtain⟨rfl,rfl,rfl,rfl⟩:=e;exact⟨_,v,_,rfl,f,g,hl,i⟩
noncomputable def z64 (st:State) (c:Call):Res:=if c.kind=14 then z1v st c else z0k st c
theorem zJ5 (st:State) (c:Call) (hk:c.kind=14\/c.kind=16) (u bp:Nat) (hu:yU st c.user=some u) (bg:yU st c.other=some bp) (hl:st.users.length<=1000) (cS:st.deposits.length<=1000) (a8 a7:List Value) (w:World) (S:Nat->Prop) (h:Z5 S w a8 st) (bd:z09 S w a7 c):
  Calls prog 63 #[.agg a8.toArray,.agg a7.toArray] w (Ret3 S (z64 st c) w):=by
 have HR:=zh h;have bQ:=zh hu;have ae:=zh bg;obtain⟨ay,aB,bm,bn,az,aG,rfl,_,_,_,_,cv,cr,cs,ct,bo,_,_,_,cu⟩:=ZF h;obtain⟨bU,bV,rfl,_,bZ,_,_,bY,_,_,_,_,_,bX⟩:=yG bd;obtain⟨bj,be,bi,ba,bb⟩:=info_parts (show(prog.info? 126).map (λl=>(l.zero,l.size,l.bytes))=some (some (.agg #["",""]),2,32) from kr);obtain⟨br,bs,bt,w3,an,ao,ap,bh,aI,af,ag,aU,aV,K⟩:=z8h w (aS st ay aB bm bn az aG) (aC c bU bV);have HB3:=zh aI;have B:=zh af;have bK:=zh ag;have HN2:=zh aU;have HN3:=zh aV;have HNE:=zh K;have HZ:=zh (by rw[<-ap,<-ao,<-an];simp:w<br.heap.size/\br<bs.heap.size/\bs<bt.heap.size);have ac:=ζ (bt<w3.heap.size) (zI (HN3.o _ zbr));have aR:=zh λW (cb:(bW w3 W:Prop))=>zM HR (YL (zD HB3 cb))
 have bS:=Below.refl w3 w3;obtain⟨s0,s1,s2,s3⟩:=TC4 af.a;obtain⟨cJ,cK,_,_,cM⟩:=TC5 ag.a;clear af ag aU aV K aI;have f:(c.kind==1)=false:=by rcases hk with d|d<;>rw[d]<;>rfl
 have cR:(c.kind==15)=false:=by rcases hk with d|d<;>rw[d]<;>rfl
 have bI:=zh hk;have bH:=ζ (c.user.size<=()/\c.other.size<=()) ⟨bZ,bY⟩;have bO:=ζ (Sl 2 z10 S w (.slice bm st.deposits bn) st.deposits) ⟨_,_,rfl,cr,cs,ct,bo⟩;clear cu bX h bd hk hu bg;go_enter func63,ntmps63
 go_wp2;go_loopw [8,9] (λcw l cy=>∃(q:Nat) (a:Bool),q<=st.deposits/\cw= .bool a/\l= .int .i64 q/\Hid (a=(st.deposits.take q).any λy=>decide (y.frm=c.user)&&decide (y.to=c.other))/\bW w3 cy) (λ_ l _=>st.deposits.length-(intOf l).toNat)
 case atStart=>exact⟨0,false,om,rfl,gn,rfl,bS⟩
 obtain⟨T,rfl⟩:=ξ wr;obtain⟨q,a,_,rfl,rfl,D,bq⟩:=hrel;by_cases cd:q<st.deposits
 ·obtain⟨d,_,_,a9,b9,ca,rfl,_,_,_,_,b8,_⟩:=zAg bo cd (YL (zD HB3 bq));have HE:=zh (show((st.deposits.take (q+1)).any λy=>decide (y.frm=c.user)&&decide (y.to=c.other))=(a||(decide (d.frm=c.user)&&decide (d.to=c.other))) by
   rw[qLtx,a9,Option.toList,any_append,<-D.o];simp)
  have cT:(q:Int)<(st.deposits:Int):=om
  clear a9 b9 ca b8 an ao ap bh
  cases a with
  | true=>
   go_upto_region 16 with fail
   exact mba
  | false=>
   by_cases k:d.frm=c.user
   rotate_left
   ·have al:(d.frm.toList==c.user.toList)=false:=YX k;have HT:=zh (by rw[Γ k];rfl:(false||(decide (d.frm=c.user)&&decide (d.to=c.other)))=false);clear k;go_upto_region 16 with fail
    exact maz
   have al:(d.frm.toList==c.user.toList)=true:=by rw[k];simp
   by_cases r:d.to=c.other
   ·have cc:(d.to.toList==c.other.toList)=true:=by rw[r];simp
    have HT:=zh (by rw[Δ k,Δ r];rfl:(false||(decide (d.frm=c.user)&&decide (d.to=c.other)))=true);clear k r;go_upto_region 16 with fail
    exact mbf
   have cc:(d.to.toList==c.other.toList)=false:=YX r;have HT:=zh (by rw[Γ r];simp:(false||(decide (d.frm=c.user)&&decide (d.to=c.other)))=false);clear k r;go_upto_region 16 with fail
   exact maz
 obtain rfl:q=st.deposits:=om
 rw[qLnx] at D;have v:=ζ (z9d st c=a) D.symm;have aX:=B.on bq;obtain⟨bB,bC,bD,bE⟩:=TC4 aX.a;have aW:=bK.on bq;obtain⟨_,p0,_,_,bA⟩:=TC5 aW.a;have ab:=zh (zD HB3 bq);have bT:=Below.refl T T;clear aX aW D an ao ap bh;rcases bI with hk|hk
 ·have al:(c.kind==14)=true:=by rw[hk];rfl
  have p:=zh (by unfold z64;rw[if_pos hk]:z64 st c=z1v st c);clear hk
  cases a with
  | true=>
   have HE:=zh (by rw[p.o];unfold z1v;rw[v.o,if_pos rfl]:z64 st c=(st,ZD 42,false));go_upto_region 19 with fail
   have bz:=bq;exact xER
  | false=>
   have HE:=zh (by rw[p.o];unfold z1v;rw[v.o,if_neg dc]:z64 st c=({ st with deposits:=st.deposits++[⟨c.user,c.other⟩] },Y2 0,true));have bP:=zh (bO.keep z1r dc (YL ab));clear bB bC bE p0 bA s0 s1 s2 s3;go_upto_region 22 with (at_builtin;refine z1n T rfl (.tmp 84) (.tmp 86) 31 rfl bj _ 32 underlying31 be bi ba bb rfl dc dc dc z1r rfl _ st.deposits rfl (λa f=>zll f.2 ab.size) bP om ?_;intro cX cx cN aw aY aJ bk)
   obtain⟨_,_,_,rfl⟩:=aw.shape3;have bM:=zh aw;have aa:=zh aY;have aN:=zh bk;have a5:=zD bq aJ;have A:=zh a5;clear aw aY aJ bk;go_upto_region 23 with (at_builtin;refine YD cx [c.user,c.other] rfl (.tmp 88) (.tmp 94) 31 rfl bj _ 32 underlying31 be bi ba bb rfl dc dc _ _ rfl bM (by rw[aa.o.1];omega) rfl (λu hu=>by simp at hu;rcases hu with rfl|rfl<;>rfl) _ _ rfl rfl ?_;intro cY Q ax aj bl;obtain⟨U,av,ai,rfl⟩:=ax.shape3;have aQ:=zh ax;have cH:=zh aj;have bL:=zh bl;have ah:=Below.grown A aj A.size (λa f=>qNtx bq.size (aN.o a f));have j:=zh ah;have au:=B.o _ ah;have cj:=ψ au 2 _ rfl;have ck:=(zB au).2;clear ax aj bl au)
   generalize aq:World.setCell _ _ _=bu;have x:ButB (·=w) Q bu:=by rw[<-aq];exact(ButB.refl (·=w) Q).set _ _ rfl
   have aT:bu.heap[w.heap.size]? =some (.cells #[st.turn,.slice ay st.users aB,.slice U av ai,.slice az st.folders aG] 34 (0,0)):=by
    rw[<-aq];exact zH (i:=2) _ (B.o _ j) rfl
   have F:=(x.block _ (zI (HN2.o _ j)) (oh HZ.o)).trans (HN2.o _ j);have H:=(x.block _ (zI (HN3.o _ j)) (oh HZ.o)).trans (HN3.o _ j);have aZ:=ButB.below (zD HB3 j) (zD HB3 j).size (λt cV=>om) x;have bF:=zh (zD HB3 A);have aK:=zh x;have aO:=zh (show ∀a,(Value.slice U av ai).ownBlock=some a->w3.heap.size<=a from λa f=>by
    rcases bL with cl|⟨ci,hk,hl⟩
    ·exact qNtx bq.size (aN.o a (cl▸f))
    ·obtain rfl:ci=a:=zsi (hk.symm.trans f);exact qNtx A.size hl)
   have HFIN:=zh (z4b (b:=true) (S:=S) (st':={ st with deposits:=st.deposits++[⟨c.user,c.other⟩] }) (n:=0) F H HNE aZ (Nat.le_of_lt (Nat.lt_trans HZ.1 HZ.2.1)) (Nat.le_of_lt (Nat.lt_trans HZ.1 (Nat.lt_trans HZ.2.1 HZ.2.2))) ⟨om,om⟩ (a0:= .int .i64 st.turn) (a1:= .slice ay st.users aB) (a2:= .slice U av ai) (a3:= .slice az st.folders aG) (λW V Y=>by
    refine zT4 (zM HR (z4o Y)) (z34 z1r (aQ.keep λa f=>?_) (by simp[aa.o.1];omega) ((aa.imp λ_ _ d=>z3o d (zKe bF Y)).snoc ⟨rfl,bH.o⟩) λa f=> .inr (qNtx HB3.size (aO.o a f)));have bf:=aQ.lt a f;have cQ:=aO.o a f;have cP:=ac.o;have cO:=HZ.o;exact(V.block _ (zll bf aK.size) om).trans (aK.block _ bf om)))
   rw[<-HE.o] at HFIN;obtain⟨_,_⟩:=zC4 (zB aT).1;obtain⟨cm,cn,co,cp⟩:=zC4 (zB F).1;have cq:=(zB F).2;obtain⟨b0,b1,b2,b3,b4,b5,b6⟩:=zC7 (zB H).1;have b7:=(zB H).2;have K:=HNE.o;have ce:=Ne.symm HNE;clear aq x aT F H aZ cj ck bD ah a5 bq;exact mcJ
 have al:(c.kind==14)=false:=by rw[hk];rfl
 have p:=zh (by unfold z64;rw[if_neg (by rw[hk];decide)]:z64 st c=z0k st c);clear hk
 cases a with
 | false=>
  have HE:=zh (by rw[p.o];unfold z0k;rw[v.o];rfl:z64 st c=(st,ZD 35,false));go_upto_region 25 with fail
  have bz:=bq;exact xER
 | true=>
  obtain⟨aH,L,cg⟩:=zA8 ae;have cf:=(zge L).1;obtain⟨cz,_,_,bx,cD,cF,cE,_,_,cB,bv,cC,_⟩:=z71 cv cf (YL ab);obtain rfl:aH=cz:=zsi (L.symm.trans bx);cases cE
  have cA:=YO bv;have cU:(bp:Int)<(st.users:Int):=om
  have bJ:=zh (by unfold zBx;rw[ae.o];simp only[];rw[L];rfl:zBx st c.other=aH.lost);clear bx cD cF cC cB bv L cg s0 s1 s2 s3;go_upto_region 26 with fail
  refine zEC 6 λJ=>?_;refine ziU 0 ?_;iterate 5 (refine ztU J ?_;simp only[zA])
  refine zoU ?_;refine tQa 5 λbR bc=>?_;go_simp;go_at_call 103
  refine zcb (z5v st c.other _ _ _ (aR.o _ (zD bq (zbr.drew)))) λQ a4=>?_;have Z:(bW T Q:Prop):=zD (zbr.drew) a4;clear a4 J;refine bc.o _ _ Z (λJ=>?_);clear bc bR;try simp only[zA]
  rw[ae.o];unfold iOf;refine tNc 6 ?_
  refine tNc 7 ?_
  refine tNc 8 ?_
  refine Z7 kr ?_ _;have I:=zD bq Z;have m:=zh I;obtain⟨s0,s1,s2,s3⟩:=TC4 B.a;clear bB bC bD bE p0 bA cA bT J;obtain⟨ar,am⟩:=Ξ aH.lost;rw[am];have aL:=zh (bJ.trans am);clear am
  cases ar with
  | true=>
   have HE:=zh (by rw[p.o];unfold z0k;rw[v.o,aL.o];rfl:z64 st c=(st,ZD 20,false));go_upto_region 27 with fail
   have bz:=I;exact xER
  | false=>
   have HE:=zh (by rw[p.o];unfold z0k;rw[v.o,aL.o];rfl:z64 st c=(lostS st c.user false,Y2 0,true));go_wp2_with fail
   refine zcm (zEm st c.user false u bQ hl _ _ _ (aR.o _ I)) ?_;rintro _ _ ⟨⟨_,rfl,ak⟩,z⟩;have bN:=zh ak;obtain⟨_,_,_,_,_,_,rfl⟩:=ZN ak;have bG:=zh (zD HB3 (zD m z));have E:=HN2.o _ (zD m z);have G:=HN3.o _ (zD m z);have HFIN:=zh (z4b (b:=true) (S:=S) (st':=lostS st c.user false) (n:=0) E G HNE bG (Nat.le_of_lt (Nat.lt_trans HZ.1 HZ.2.1)) (Nat.le_of_lt (Nat.lt_trans HZ.1 (Nat.lt_trans HZ.2.1 HZ.2.2))) ⟨om,om⟩ (λW V Y=>z27 bN (qNtx HB3.size m.size) (oh3 HZ.o ac.o m.size) (oh3 HZ.o ac.o m.size) V));rw[<-HE.o] at HFIN;obtain⟨cm,cn,co,cp⟩:=zC4 (zB E).1;have cq:=(zB E).2;obtain⟨b0,b1,b2,b3,b4,b5,b6⟩:=zC7 (zB G).1;have b7:=(zB G).2;have K:=HNE.o;have ce:=Ne.symm HNE;clear E G ak s0 s1 s2 s3 z I bq Z;exact mcJ
end Go.Proofs.YtdggplhnfhcieaaGreatDoor
