/- No condition. -/
import Derived.Test.YtdggplhnfhcieaaGreatDoorW30
set_option linter.all false
set_option maxRecDepth 100000
set_option maxHeartbeats 16000000
namespace Go.Proofs.YtdggplhnfhcieaaGreatDoor
open Go.Proofs.Tryz Cd Ce List
open Go.RowKit Go.Deep
variable {c:Call} {f:Folder} {j k n:Nat} {st:State}
section
variable {X:Nat->Prop} {base bw:Nat} {W W':World} {R R':RM} {c:Call} {dv:Value} {st:State} {done late:Bool}
def thP (g off:Nat):Option Nat->Value
 | none=> .pointer none
 | some k=> .pointer (some ⟨g,off+k*7,none⟩)
theorem zN5 (h:WK X base bw W R c dv st done late) {g off e:Nat} (hv:(R .fo).v= .slice (some ⟨g,off,none⟩) n e) (s:Nm):
  (kB 86 #[pT bw,s] W (thP g off (ZB st s)):Prop):=by
 refine(YK h s).mono ?_;rintro i l ⟨⟨a,rfl⟩|⟨_,_,_,a,⟨_,_,_,b,rfl⟩,rfl⟩,d⟩
 ·exact⟨by rw[a];rfl,d⟩
 rw[hv] at b;simp only[Value.slice.injEq,Option.some.injEq,Addr.mk.injEq,and_true] at b;obtain⟨⟨rfl,rfl⟩,_⟩:=b;exact⟨by rw[a];rfl,d⟩
theorem zN6 {g off a:Nat} (hv:(R .fo).v= .slice (some ⟨g,off,none⟩) n a) (k:Nat):foAt R k g (off+k*7):=⟨n,a,off,hv,rfl⟩
theorem WK.foV (h:WK X base bw W R c dv st done late) {k:Nat} (hk:k<st.folders):∃g off n a,(R .fo).v= .slice (some ⟨g,off,none⟩) n a:=by
 obtain⟨g,_,⟨n,a,off,b,_⟩,_⟩:=h.fat (ZT hk);exact⟨g,off,n,a,b⟩
theorem zN7 {st:State} (h:SmF st) (b:f.name.size<=1000/\(zL f).members.length<=100/\f.manifests≠[]/\f.epochs.length<=1000000):SmF (setF st k f):=λd a=>by
 rcases mem_or_eq_of_mem_set a with a|rfl
 ·exact h d a
 ·exact b
end
theorem zD9 {a:Type} {p:a->Bool} {f:a->Nat} {N:Nat} (b:∀x,f x<=N):∀(l:List a) (m:Nat),m<=N->l.foldl (λm x=>if p x then max m (f x) else m) m<=N
 | [],m,h=>h
 | x::l,m,h=>by
  rw[foldl_cons];refine zD9 b l _ ?_;split
  ·exact Nat.max_le.2 ⟨h,b x⟩
  ·exact h
theorem zL4 (st:State):∀(n:Nat) (s:Nm),yV st n s<=n+1
 | 0,s=>znl _
 | n+1,s=>by
  unfold yV;have:=zD9 (p:=inB s) (f:=λf=>yV st n f.name) (N:=n+1) (λf=>zL4 st n f.name) st.folders 0 (Nat.zero_le _);omega
def z9l (st:State) (k:Nat) (a b:Nm):Bool:=decide (ZS st k a<4)||(match ZB st b with
 | none=>false
 | some q=>decide (ZS st q a<2))
theorem zMb {n:Nat} (h:VInv n st):ZB st ⟨#[]⟩=none:=by
 unfold ZB;have:foI st ⟨#[]⟩=none:=zAv.2 (by
  have:=h.top;exact this)
 rw[this]
theorem zN8 {n:Nat} (h:VInv n st) (k:Nat) (c:Call):z9l st k c.user c.other=true↔ZS st k c.user<4\/(!isE c.other&&(match ZB st c.other with|some q=>decide (ZS st q c.user<2)|none=>false))=true:=by
 unfold z9l isE;by_cases a:c.other=⟨#[]⟩
 ·rw[a,zMb h];simp
 cases b:ZB st c.other with
 | none=>simp
 | some q=>simp[a]
theorem zOr {n:Nat} (h:VInv n st) (a:z9l st k c.user c.other=true):z0t st c k=(st,ZD 40,false):=by
 unfold z0t;exact if_pos ((zN8 h k c).1 a)
theorem zTc (h:VInv n st) (a:z9l st k c.user c.other=false):z0t st c k=if (zL (fo st k)).parent=c.other then(st,Y2 (zL (fo st k)).seq,false)
 else if (zY st 4 c.other).any (isA c.folder) then(st,ZD 43,false)
 else if 4<(zY st 4 c.other).length+yV st 5 c.folder then(st,ZD 3,false)
 else(zAo st k c,Y2 ((zL (fo st k)).seq+1),true):=by
 unfold z0t;exact if_neg λb=>by rw[(zN8 h k c).2 b] at a;cases a
section
variable {X:Nat->Prop} {base bw:Nat} {W W':World} {R R':RM} {c:Call} {dv:Value} {st:State} {done late:Bool}
theorem mbI {p:Prop} (h:p:=by
 simp only[thP];go_wp2;go_meet
 case rel=>exact⟨by rw[HX.o],HB3⟩):p:=h
theorem zR2 (h:WK X base bw W R c dv st false late) (x:VInv n st) (hn:n<=40) (hk:ZB st c.folder=some k) (b0:CallOk c):
  Calls prog 89 #[pT bw] W (Did X base bw W R c dv late (z0t st c k)):=by
 have cB:=zh hk;have r:=zh (z0l (yO hk));have bt:=zh (x.atF r);have cn:=zh (z5r x om r);have ag:=zh x;have bu:=zh (z32 (yO hk));have br:=zh b0;have cy:=zh (z8t x.names x.tree 5 c.folder om);have aW:=ζ (0<=st.turn/\st.turn<=1000000) ⟨x.turn.1,by have:=x.turn.2;omega⟩;obtain⟨F,b7⟩:=Ξ (W.alloc (.cells Z3 49));have bY:=yQ W;rw[b7] at bY;obtain⟨bX,bd,bF,Y⟩:=bY;have C:=bX R h;have t:=zh C;have K:=zh bF;have HB0:=zh bd;have dM:=C.lt;clear bX bd bF;obtain⟨bb,bO,bQ,de,b6,b2,b3,b4,df,dg,c5,dE,c6,c7⟩:=yG C.call;obtain rfl:dv= .slice bb c.data bO:=by simpa[z4m] using bQ
 obtain⟨dT,dU,dV,dW,b9,ca,dX,dY⟩:=TC8 C.cells.1;obtain⟨V,dh,c4,c8,aO,T⟩:=zP F (aC c bb bO) 41;have D:=zh (zbx dh);have cT:=ζ (c.user.size<=()/\c.folder.size<=()/\c.name.size<=()/\c.other.size<=()) ⟨b6,b2,b3,b4⟩;have cp:=zh aO;have aY:=zh (C.below aO);clear bQ de b6 b2 b3 b4 df dg c5 c6 c7 c4 c8 aO;obtain⟨aj,ap,_,_,P⟩:=aY.foV r;have cZ:=zh P;have H:=zh (zN6 P k);have cU:=zh (show ∀W':World,((bW V W':Prop))->Calls prog 86 #[pT bw,c.folder] W' λi a7=>i= .returned (pO aj (ap+k*7))/\bW W' a7 from λW' O=>by
  have g:=zN5 (aY.below O) P c.folder;rw[cB.o] at g;exact g)
 generalize a5:ZB st c.other=Q;have aX:=zh a5;have cV:=zh (show ∀W':World,((bW V W':Prop))->Calls prog 86 #[pT bw,c.other] W' λi a7=>i= .returned (thP aj ap Q)/\bW W' a7 from λW' O=>by
  have g:=zN5 (aY.below O) P c.other;rw[a5] at g;exact g)
 clear h hk C x b0 P a5;unfold Z3 at b7;obtain⟨_,_,E,_,y⟩:=TC5 (zB D).1;go_enter func89,ntmps89
 go_upto_region 2 with fail
 go_cut [4,5] from 12 to 19 (λb9 ca ba=>b9= .pointer (some ⟨aj,ap+k*7,none⟩)/\ca=thP aj ap Q/\Hid (bW V ba))
 case first=>
  have o:=zh (HQb2 (zyB E) (zyB y));refine zE kr o (λd=>?_);refine zi 0 ?_;iterate 3 (refine zt d ?_;simp only[zA])
  refine zo ?_;refine zi 4 ?_;iterate 3 (refine zt d ?_;simp only[zA])
  refine zo ?_;refine zr 3 λA q=>?_
  go_simp;go_at_call 86
  refine zcb (cU.o _ (zbr.drew)) λci p=>?_;have aa:(bW V ci:Prop):=zD (zbr.drew) p;clear p d;refine q.o _ _ (o.o _ aa) (λd=>?_);clear q A;refine zr 7 λA q=>?_
  go_simp;go_at_call 86
  refine zcb (cV.o _ (aa)) λcj p=>?_;have aP:(bW V cj:Prop):=zD (aa) p;clear p d;refine q.o _ _ (o.o _ aP) (λd=>?_);clear q A;refine zi 8 ?_;iterate 2 (refine zt d ?_;simp only[zA])
  refine zo ?_;have aT:=zh aP;refine wpAnyH_done kr ?_ _;clear d o;clear aa aP;go_wp2;go_meet
  case rel=>exact⟨rfl,rfl,aT⟩
 obtain⟨rfl,rfl,aU⟩:=hcut;have bk:=zh (zD cp aU);have bg:=zh (t.below bk);have cF:=zh ((aU.block _ T).trans D);obtain⟨_,_,_,_,_,_,_,_,cd,ce,cb,cc⟩:=TC12 bg.cells.1;replace y:=ψ cF 4 _ rfl;clear E;go_upto_region 3 with fail
 have o:=zh (HQb5 (zyB cd) (zyB ce) (zyB cb) (zyB cc) (zyB y));refine zE kr o (λd=>?_);refine zi 0 ?_;iterate 6 (refine zt d ?_;simp only[zA])
 refine zo ?_;refine zr 6 λA q=>?_
 go_simp;go_at_call 67
 refine zcm (z3s st c.other cT.2.2.2 _ _ (λ_=>True) (bg.below (zbr.drew)).state) ?_;rintro dF a8 ⟨⟨cf,rfl,⟨bc,bP,rfl,b5⟩⟩,p⟩;have Z:(bW wc a8:Prop):=zD (zbr.drew) p;clear p d;refine q.o _ _ (o.o _ Z) (λd=>?_);clear q A;refine zT 7 d ?_;simp only[zA];have cu:=ζ (Sl 2 rAt (λw=>wc.drew<=w) a8 (.slice bc (zY st 4 c.other).length bP) (zY st 4 c.other)) ⟨bc,bP,rfl,b5⟩;clear b5;refine wpAnyH_done kr ?_ _;clear d o;have bl:=zh (zD bk Z);have cq:=zh (zD aU Z);have H2:=zh (t.below bl);clear Z cd ce cb cc y;have cO:=ζ (∀g,Q=some g->g<st.folders.length) (λg i=>z0l (yO (aX.trans i)));generalize b1:z9l st k c.user c.other=M;have I:=zh b1;clear b1;go_upto_region 4 with fail
 go_cut [27] from 28 to 41 (λdj ba=>dj= .bool M/\Hid (bW a8 ba))
 case first=>
  go_wp2_with fail
  refine zcb (z6g H2 r H) λci be=>?_;have HB3:=zh be;clear be;by_cases an:ZS st k c.user<4
  ·have al:decide (ZS st k c.user<4)=true:=Δ an;have HX:=zh (by rw[<-I.o];unfold z9l;rw[al];rfl:M=true);clear an
   cases Q with
   | none=>
    exact mbI
   | some g=>
    exact mbI
  have al:decide (ZS st k c.user<4)=false:=Γ an;clear an
  cases Q with
  | none=>
   have HX:=zh (by rw[<-I.o];unfold z9l;rw[al,aX.o];rfl:M=false);exact mbI
  | some g=>
   have HX:=zh (by rw[<-I.o];unfold z9l;rw[al,aX.o];rfl:M=decide (ZS st g c.user<2));simp only[thP];go_wp2_with fail
   refine zcb (z6g (H2.below HB3) (cO.o g rfl) (zN6 cZ g)) λcj bf=>?_;have aT:=zh (zD HB3 bf);clear bf;go_wp2;go_meet
   case rel=>exact⟨by rw[HX.o],aT⟩
 obtain⟨rfl,aR⟩:=hcut;have HB3:=zh (zD bl aR);have bo:=zh (zD cq aR);have bi:=zh (t.below HB3);have cH:=zh ((bo.block _ T).trans D);have cv:=zh (cu.keep ZE dc (S':=λ_=>True) λw O a4=>⟨trivial,aR.block w a4⟩)
 cases M with
 | true=>
  go_wp2_with fail
  refine zcb (ZU _ _) λcl u=>?_;obtain⟨BW,H2,L,az,aB,aG,aH,aI,aJ,aK,aL⟩:=zW HB3 u t Y K;clear u;unfold ZV;go_wp2;try simp only[φ]
  obtain⟨s,F2⟩:=ZC L.o (.int .i64 40) '0' "" () () () ();refine zrt s ?_;rw[show(z0t st c k)=(st,ZD 40,false) from by exact zOr ag.o I.o]
  exact mai
 | false=>
  have af:=zh (zTc ag I);obtain⟨dt,dG,du,dH,dw,dI,D5,dJ,dx,dK,bS,hF,aq,ar,au,av,aw,ax,ay,dL,c9⟩:=bi.fold (ZT r) H;obtain⟨_,_,_,_,bZ,a0⟩:=z7c bi r H bt.man;rw[bS] at a0;have cR:=zh bZ;have bC:=zh a0;have dR:=zIx;replace y:=ψ cH 4 _ rfl;clear bS hF c9 bZ a0;go_upto_region 6 with fail
  have o:=zh (HQb8 (zyB aq) (zyB ar) (zyB au) (zyB av) (zyB aw) (zyB ax) (zyB ay) (zyB y));refine zE kr o (λd=>?_);refine zi 0 ?_;iterate 3 (refine zt d ?_;simp only[zA])
  refine zo ?_;refine zi 5 ?_;iterate 2 (refine zt d ?_;simp only[zA])
  refine zo ?_;refine zr 3 λA q=>?_
  go_simp;go_at_call 120
  refine zcb (bC.o _ (zbr.drew)) λdr p=>?_;have l:(bW wc dr:Prop):=zD (zbr.drew) p;clear p d;refine q.o _ _ (o.o _ l) (λd=>?_);clear q A;refine zT 4 d ?_;simp only[zA];refine zi 7 ?_;iterate 2 (refine zt d ?_;simp only[zA])
  refine zo ?_;refine wpAnyH_done kr ?_ _;clear d o;have bm:=zh l;have bn:=zh (zD HB3 l);have bp:=zh (zD bo l);have cJ:=zh ((bp.block _ T).trans D);have cw:=zh (cv.keep ZE dc (S':=λ_=>True) λw O a4=>⟨trivial,bm.block w a4⟩);have bE:=zh (Y9 (a:=(zL (fo st k)).parent) (b:=c.other))
  cases am:((zL (fo st k)).parent.toList==c.other.toList) with
  | true=>
   have J:=ζ ((zL (fo st k)).parent=c.other) (of_decide_eq_true (bE.symm.trans am));have dk:=zy l aq;have dl:=zy l ar;have dm:=zy l au;have dn:=zy l av;have cf:=zy l aw;have dp:=zy l ax;have dq:=zy l ay;have dS:=z8g;clear aq ar au av aw ax ay l y am;go_wp2_with fail
   refine zcb (bC.o _ bm) λck B=>?_;have z:=zh (zD bn B);have aQ:=zh (t.below z);have bA:=zh ((z.block _ Y).trans K);have ai:=bA.o;unfold Z3 at ai;obtain⟨az,aB,aG,aH,aI,aJ,aK⟩:=zC7 (zB ai).1;have aL:=(zB ai).2;clear ai B dk dl dm dn cf dp dq;go_wp2;try simp only[φ]
   obtain⟨s,F2⟩:=ZC bA '0' (.int .i64 (zL (fo st k)).seq) "" () () () ();refine zrt s ?_;rw[show z0t st c k=(st,Y2 (zL (fo st k)).seq,false) from by
    rw[af.o,if_pos J.o]]
   exact ZI aQ (Mut.below (zD HB0 z)) (znl _) F2 (z33 cR.2.2.2.2.1)
  | false=>
   have J:=ζ (¬(zL (fo st k)).parent=c.other) (of_decide_eq_false (bE.symm.trans am));replace E:=ψ cJ 2 _ rfl;clear aq ar au av aw ax ay l y am;have ct:=zh (zV4 c.folder F _ _ _ _ cw E);go_wp2_with fail
   refine zcb ct λck B=>?_;have z:=zh (zD bn B);have bq:=zh (zD bp B);have aQ:=zh (t.below z);have cK:=zh ((bq.block _ T).trans D);replace E:=ψ cK 2 _ rfl;clear B
   cases a2:(zY st 4 c.other).any (isA c.folder) with
   | true=>
    go_wp2_with fail
    refine zcb (ZU _ _) λcl u=>?_;obtain⟨BW,H2,L,az,aB,aG,aH,aI,aJ,aK,aL⟩:=zW z u t Y K;clear u;unfold ZV;go_wp2;try simp only[φ]
    obtain⟨s,F2⟩:=ZC L.o (.int .i64 43) '0' "" () () () ();refine zrt s ?_;rw[show(z0t st c k)=(st,ZD 43,false) from by rw[af.o,if_neg J.o,if_pos a2]]
    exact mai
   | false=>
    have bs:=zh (by rw[a2];simp:¬(zY st 4 c.other).any (isA c.folder)=true);clear a2;go_wp2_with fail
    refine zcb (zIe 5 om c.folder ck aQ cy) λds aN=>?_;have ac:=zh (zD z aN);have cr:=zh (zD bq aN);have bj:=zh (t.below ac);have cM:=zh ((cr.block _ T).trans D);have da:(zY st 4 c.other).length<=4:=z2c st 4 c.other;have dd:=zL4 st 5 c.folder;have dP:IntKind.i64.wrap (((zY st 4 c.other).length:Int)+(yV st 5 c.folder:Int))=((zY st 4 c.other).length:Int)+(yV st 5 c.folder:Int):=by rw[IntKind.wrap_i64];omega
    clear aN E;by_cases a3:4<(zY st 4 c.other).length+yV st 5 c.folder
    ·have db:decide (4<((zY st 4 c.other).length:Int)+(yV st 5 c.folder:Int))=true:=θ;have aV:=zh a3;clear a3;go_wp2_with fail
     refine zcb (ZU _ _) λcl u=>?_;obtain⟨BW,H2,L,az,aB,aG,aH,aI,aJ,aK,aL⟩:=zW ac u t Y K;clear u;unfold ZV;go_wp2;try simp only[φ]
     obtain⟨s,F2⟩:=ZC L.o (.int .i64 3) '0' "" () () () ();refine zrt s ?_;rw[show(z0t st c k)=(st,ZD 3,false) from by rw[af.o,if_neg J.o,if_neg bs.o,if_pos aV.o]];exact mai
    have db:decide (4<((zY st 4 c.other).length:Int)+(yV st 5 c.folder:Int))=false:=η;have aV:=zh (by omega:(zY st 4 c.other).length+yV st 5 c.folder<=4);clear a3 da dd;have bV:(cL ds F 4 c.other:Prop):=ψ cM 4 _ rfl;have cD:=zh ((ac.block _ Y).trans K);obtain⟨bG,bI,c2,bJ,bK,bL,bM,c3,bN,bH⟩:=cn;have bD:=zh (zM3 bj r H (m:=zL (fo st k)) rfl bG om bJ bK bL F c.other bV (oh br.o20));obtain⟨e,ak⟩:=Ξ ({ fo st k with manifests:=(fo st k).manifests++[{ zL (fo st k) with seq:=(zL (fo st k)).seq+1,who:=c.user,parent:=c.other,cut:=(zL (fo st k)).seq+1 }],turn:=(fo st k).turn+1 }:Folder);have c0:=ζ (e=YJ (fo st k) { zL (fo st k) with parent:=c.other,cut:=(zL (fo st k)).seq+1 } c.user) ak.symm;have v:=zh (show e.name=c.folder/\e.wraps=(fo st k).wraps/\e.links=(fo st k).links/\e.epochs=(fo st k).epochs/\e.manifests≠[]/\(zL e).members=(zL (fo st k)).members from by
     rw[<-ak];refine⟨bu.2.1,rfl,rfl,rfl,sm,?_⟩;unfold zL;simp)
    rw[ak] at bD;have cA:=ζ (I64 ((zL (fo st k)).seq+1)) ⟨om,om⟩;have ae:=ζ ((fo st k).wraps.length<=16/\(fo st k).links.length<=5000/\(fo st k).epochs.length<=5000/\(zL (fo st k)).members.length<=20) ⟨bH,bN,bM,bI⟩;clear bV bG bI c2 bJ bK bL bM c3 bN bH ak;go_wp2_with fail
    refine zcb bD λU a1=>?_;obtain⟨c1,bU,b8,bR⟩:=a1;have co:=zh (H.keep bR);have bB:=zh b8;have G:=zh bU;have cN:=zh (by rw[z0m];exact r:k<(setF st k e).folders.length);have ad:=zh (z24 (f:=e) r);have cx:=zh (by rw[z4i ag.o.names r.o (v.o.1.trans bu.o.2.1.symm),if_pos rfl]:Z4 (setF st k e) e.name=some e);have cS:=zh (zN7 (ag.smF om) (k:=k) (f:=e) ⟨by rw[v.o.1];have:=br.f20;omega,by rw[v.o.2.2.2.2.2];have:=ae.o;omega,v.2.2.2.2.1,by rw[v.o.2.2.2.1];have:=ae.o;omega⟩);clear bU b8 bR;unfold ZV;go_wp2_with fail
    generalize ao:World.alloc U _=a9;have ab:(bW U a9:Prop):=by rw[<-ao];exact Below.alloc zbr (znl _) _
    have di:U<a9.heap.size:=by rw[<-ao,World.size_alloc];omega
    have cX:=zh (zbx ao);have bv:=zh (G.below ab);have cs:=zh ab;have bx:=ζ (Imm (λw=>X w\/w=W) bw c1 a9 U) ⟨di,λi=>by have:=G.lt;omega,λi=>by have:=G.os.lt i;omega,λi=>by have:=G.xl _ i;omega⟩;have cE:=zh ((ab.block _ (by have:=G.xl _ (.inr rfl);exact this)).trans ((Mut.own bj bB (.inr rfl)).trans cD));clear ao ab;refine zcm (zAz bv cN co (by rw[ad.o];exact cx) cS (by rw[ad.o,v.o.2.1];exact bt.wr) (by rw[ad.o,v.o.2.1];have:=ae.o;omega) (by rw[ad.o,v.o.2.2.1];have:=ae.o;omega)) ?_;rintro _ cg ⟨rfl,a1⟩;obtain⟨_,N,S,_⟩:=a1;have cP:=zh S;have bh:=zh N;have cY:=zh ((Mut.block S bx).1.trans cX);have cz:=zh (Mut.block S bx).2;have bz:=zh ((Mut.own bv S (.inr rfl)).trans cE);have dZ:(cL cg bw 8 st.turn:Prop):=N.cells.1 8 _ rfl;have d0:∀g,cg.frozen? (aD bw g)=false:=N.cells.2;have dQ:IntKind.i64.wrap (st.turn+1)=st.turn+1:=by rw[IntKind.wrap_i64];have:=aW.o;omega
    obtain⟨bT,a6⟩:=N.setTurn (st.turn+1) ⟨by have:=aW.o;omega,by have:=aW.o;omega⟩;have cm:=zh bT;have cQ:=zh a6;have cC:=zh ((Mut.own bh a6 (.inr rfl)).trans bz);have dN:¬(bw=U):=λi=>cz.2.1 i.symm
    have dO:¬(bw=W):=λi=>bh.nx W (.inr i.symm) (.inr rfl)
    have aZ:=cY.o;unfold ZV at aZ;obtain⟨dy,dz,dA,p,dB,dC,dD⟩:=zC7 (zB aZ).1;have ah:=bz.o;unfold Z3 at ah;obtain⟨az,aB,aG,aH,aI,aJ,aK⟩:=zC7 (zB ah).1;have aL:=(zB ah).2;clear ah aZ N S bT a6;go_wp2;try simp only[φ]
    obtain⟨s,F2⟩:=ZC cC '0' ((zL (fo st k)).seq+1:Int) "" () () () ();refine zrt s ?_;rw[show z0t st c k=({ yN (setF st k e) k with turn:=st.turn+1 },Y2 ((zL (fo st k)).seq+1),true) from by
     rw[af.o,if_neg J.o,if_neg bs.o,if_neg (oh aV.o)];unfold zAo;dsimp only;rw[<-c0.o];rfl]
    exact ZI cm (((Mut.below (zD HB0 ac)).trans bB).trans ((Mut.below cs).trans (cP.trans cQ))) (znl _) F2 (z33 cA)
end
def Y4 (st:State) (f:Folder):State:={ st with folders:=st.folders++[f] }
theorem z1x:fo (Y4 st f) st.folders=f:=by
 unfold fo Y4;dsimp only;rw[qLrx (znl _),Nat.sub_self];rfl
theorem z7e:st.folders.length<(Y4 st f).folders.length:=by unfold Y4;simp
theorem z6h {g:Folder}:setF (Y4 st f) st.folders g=Y4 st g:=by
 unfold setF Y4;simp
theorem zB7 {s:Nm} (h:foI st s=none) (a:f.name=s):foI (Y4 st f) s=some st.folders.length:=by
 unfold foI at h⊢;unfold Y4;dsimp only;rw[findIdx?_append,h];simp[isF,a,findIdx?_cons]
def z13 (c:Call):Folder:=⟨c.folder,1,[⟨c.folder,1,[],c.other,[⟨c.user,4⟩],0,false,c.user⟩],[],[],[],[]⟩
def zDu (c:Call) (ch:List At):Folder:={ z13 c with epochs:=[⟨1,1,1,ch,c.user⟩] }
theorem zTe:z4z st c={ yN (Y4 st (YZ (zDu c (zY (Y4 st (z13 c)) 4 c.folder)) c.user true)) st.folders with turn:=st.turn+1 }:=by
 have b:zY (Y4 st (z02 st c)) 4 c.folder=zY (Y4 st (z13 c)) 4 c.folder:=by
  have a:=zG3 (st:=Y4 st (z13 c)) (k:=st.folders.length) (f:=z13 c) (f':=z02 st c) (by rw[ZT z7e,z1x]) rfl rfl rfl;rw[z6h] at a;exact a.chain 4 c.folder
 unfold z4z;dsimp only;rw[show({ st with folders:=st.folders++[z02 st c] }:State)=Y4 st (z02 st c) from rfl,z6h,b];rfl
theorem z8l (h:foI st c.folder=none) (hm:z11 st c≠0):YR st c=(st,ZD (z11 st c),false):=by
 unfold YR;rw[h];simp[hm]
theorem zGg (h:foI st c.folder=none) (hm:z11 st c=0) (hl:4<=(zY st 4 c.other).length):YR st c=(st,ZD 3,false):=by
 unfold YR;rw[h];simp[hm,hl]
theorem zIf (h:foI st c.folder=none) (hm:z11 st c=0) (hl:¬4<=(zY st 4 c.other).length) (a:¬64<=st.folders.length):YR st c=(z4z st c,Y2 1,true):=by
 unfold YR;rw[h];simp[hm,hl,a]
theorem zL7 (h:SmF st) (d:f.name.size<=1000/\(zL f).members.length<=100/\f.manifests≠[]/\f.epochs.length<=1000000):SmF (Y4 st f):=λb a=>by
 rcases zmb a with a|a
 ·exact h b a
 ·rw[zml a];exact d
section
variable {X:Nat->Prop} {base bw:Nat} {W W':World} {R R':RM} {c:Call} {dv:Value} {st:State} {done late:Bool}
theorem mbV {p:Prop} (h:p:=by
 have HO:=zh ho;clear ho;go_wp2;go_meet
 case rel=>exact⟨⟨_,rfl,zh (by have:=HO.o;simp[this])⟩,rfl⟩):p:=h
theorem zMd (h:WK X base bw W R c dv st false late) (az:VInv n st) (hn:n<=40) (co:CallOk c):
  Calls prog 88 #[pT bw] W (Did X base bw W R c dv late (YR st c)):=by
 obtain⟨ea,d2,d9,dX,dY⟩:=info_parts (show(prog.info? 74).map (λbx=>(bx.zero,bx.size,bx.bytes))=some (some (.agg oF),7,144) from kr);have dK:=zh az;have c5:=zh co;have bn:=ζ (0<=st.turn/\st.turn<=1000000) ⟨az.turn.1,by have:=az.turn.2;omega⟩;have bh:=zh (by have:=az.few;omega:st.folders.length<=41);obtain⟨B,cv⟩:=Ξ (W.alloc (.cells Z3 49));have cl:=yQ W;rw[cv] at cl;obtain⟨cj,bN,cb,ao⟩:=cl;have D:=cj R h;have H:=zh D;have af:=zh cb;have HB0:=zh bN;have eO:=D.lt;clear cj bN cb;obtain⟨ba,bp,ce,d3,cu,cp,cr,ct,d6,d7,dS,eA,dT,dU⟩:=yG D.call;obtain rfl:dv= .slice ba c.data bp:=by simpa[z4m] using ce
 obtain⟨ef,eg,ei,ej,cM,ek,el,em⟩:=TC8 D.cells.1;obtain⟨ep,d8,dQ,dW,bc,bF⟩:=zP B (aC c ba bp) 41;have bV:=zh (zbx d8);have y:=ζ (c.user.size<=()/\c.folder.size<=()/\c.name.size<=()/\c.other.size<=()) ⟨cu,cp,cr,ct⟩;have bR:=zh bc;have dL:=zh (D.below bc);have bY:=ζ (Imm (λd=>X d\/d=W) bw R ep B) ⟨bF,λg=>by have:=D.lt;omega,λg=>by have:=D.os.lt g;omega,λg=>by have:=D.xl _ g;omega⟩;clear ce d3 cu cp cr ct d6 d7 dS dT dU dQ dW bc;have cZ:=zh (zDn dL c.folder);obtain⟨o,s,bv,_⟩:=(h.os.row .fo).shape;rw[h.is.fol] at bv;have G:=zh bv;clear h D az co bv;unfold Z3 at cv;go_enter func88,ntmps88
 have t:=ψ bV 2 _ rfl;go_wp2_with fail
 refine zcm cZ ?_;clear ef eg ei ej cM ek el em;rintro eB en ⟨⟨cs,rfl⟩|⟨k,aQ,cy,aB,Q,rfl⟩,ap⟩;rotate_left
 ·have U:=zh (zD bR ap);have dh:=zh aB;clear ap Q aB t;go_wp2_with fail
  refine zcb (ZU _ _) λbL v=>?_;obtain⟨BW,H2,Y,a2,a3,a4,a5,a6,a7,a8,a9⟩:=zW U v H ao af;clear v;unfold ZV;go_wp2;try simp only[φ]
  obtain⟨C,F2⟩:=ZC Y.o (.int .i64 42) '0' "" () () () ();refine zrt C ?_;rw[show(YR st c)=(st,ZD 42,false) from by unfold YR;rw[dh.o];rfl];exact mai
 have V:=zh cs;have U:=zh (zD bR ap);have cT:=zh (H.below U);have bi:=zh ((ap.block _ bF).trans bV);have ab:=ψ bi 4 _ rfl;clear ap cs t;go_upto_region 4 with fail
 go_cut [19] from 17 to 19 (λeh bM=>(∃d:Bool,eh= .bool d/\Hid (d=true↔c.other≠⟨#[]⟩))/\bM=en)
 case first=>
   by_cases ho:c.other=⟨#[]⟩
   ·have dZ:c.other.toList.isEmpty=true:=by rw[ho];exact z0o
    exact mbV
   ·have dZ:c.other.toList.isEmpty=false:=z0n ho;exact mbV
 obtain⟨⟨bo,rfl,cn⟩,rfl⟩:=hcut;rename_i dN ck;refine ck _ _ ?_;clear ck dN;go_cut [4] from 20 to 33 (λcM bM=>Hid (bW wc bM)/\Hid (z11 st c=0))
 case first=>
  by_cases ho:c.other=⟨#[]⟩
  ·obtain rfl:bo=false:=by cases bo with|false=>rfl|true=>exact absurd ho (cn.o.1 rfl)
   have u:=zh (by unfold z11;rw[if_pos (by simp[isE,ho])]:z11 st c=0);clear ho;go_wp2;go_meet
   case rel=>exact⟨zh zbr,u⟩
  obtain rfl:bo=true:=cn.o.2 ho;have HO:=zh (by simp[isE,ho]:isE c.other=false);clear ho;have dI:=zh (YK cT c.other);go_wp2_with fail
  refine zcm dI ?_;rintro eF eT ⟨⟨aW,rfl⟩|⟨bz,aQ,cy,bu,Q,rfl⟩,aq⟩
  ·have N:=zh (zD U aq);have u:=zh (by unfold z11;rw[HO.o,aW];rfl:z11 st c=41);clear aq aW ab;go_wp2_with fail
   refine zcb (ZU _ _) λbL v=>?_;obtain⟨BW,H2,Y,a2,a3,a4,a5,a6,a7,a8,a9⟩:=zW N v H ao af;clear v;unfold ZV;go_wp2;try simp only[φ]
   obtain⟨C,F2⟩:=ZC Y.o (.int .i64 41) '0' "" () () () ();refine zrt C ?_;rw[show(YR st c)=(st,ZD 41,false) from by rw[z8l V.o (by rw[u.o];decide),u]];exact mai
  have N:=zh (zD U aq);have c1:=zh aq;have H2:=zh (H.below N);have aL:=zh Q;have b1:=zh bu;have aN:=zh (z0l (yO bu));clear aq Q bu ab;go_wp2_with fail
  refine zcb (z6g H2 aN aL) λa bb=>?_;have O:=zh (zD N bb);have c2:=zh (zD c1 bb);clear bb;by_cases ag:ZS st bz c.user<2
  rotate_left
  ·have d1:decide (ZS st bz c.user<2)=false:=Γ ag;have u:=zh (by unfold z11;rw[HO.o,b1.o];simp only[ag];rfl:z11 st c=0);clear ag;go_wp2;go_meet
   case rel=>exact⟨c2,u⟩
  have d1:decide (ZS st bz c.user<2)=true:=Δ ag;have u:=zh (by unfold z11;rw[HO.o,b1.o];simp only[ag];rfl:z11 st c=40);clear ag;go_wp2_with fail
  refine zcb (ZU _ _) λbL v=>?_;obtain⟨BW,H2,Y,a2,a3,a4,a5,a6,a7,a8,a9⟩:=zW O v H ao af;clear v;unfold ZV;go_wp2;try simp only[φ]
  obtain⟨C,F2⟩:=ZC Y.o (.int .i64 40) '0' "" () () () ();refine zrt C ?_;rw[show(YR st c)=(st,ZD 40,false) from by rw[z8l V.o (by rw[u.o];decide),u]];exact mai
 obtain⟨bT,u⟩:=hcut;have N:=zh (zD U bT);have H2:=zh (H.below N);have bj:=zh ((bT.block _ (by have:=bF;have:=U.size;exact zI bi)).trans bi);obtain⟨_,_,_,_,_,_,_,_,ak,al,aj⟩:=TC11 H2.cells.1;have A:(cL wc bw 11 (.slice o st.folders s):Prop):=by rw[<-G.o];exact H2.cells.1 11 _ rfl
 have b4:=ζ (∀bH,((bW wc bH:Prop))->Z5 (λ_=>True) bH [st.turn,(R .us).v,(R .de).v,.slice o st.folders s] st) (λbH K=>by rw[<-G.o];exact(H2.below K).state);replace ab:=ψ bj 4 _ rfl;by_cases aU:4<=(zY st 4 c.other).length
 ·have d0:decide (4<=((zY st 4 c.other).length:Int))=true:=θ;have bg:=zh aU;clear aU;go_upto_region 10 with fail
  have m:=zh (HQb5 (zyB ak) (zyB al) (zyB aj) (zyB A) (zyB ab));refine zE kr m (λb=>?_);refine zi 0 ?_;iterate 6 (refine zt b ?_;simp only[zA])
  refine zo ?_;refine zr 6 λq i=>?_
  go_simp;go_at_call 67
  refine zcm (z3s st c.other y.2.2.2 _ _ (λ_=>True) (b4.o _ (zbr.drew))) ?_;rintro cd a ⟨⟨cP,rfl,⟨cS,dP,rfl,ah⟩⟩,P⟩;have M:(bW wc a:Prop):=zD (zbr.drew) P;clear P b;refine i.o _ _ (m.o _ M) (λb=>?_);clear i q;refine zi 7 ?_;iterate 3 (refine zt b ?_;simp only[zA])
  refine zo ?_;refine zX 10 b ?_;simp only[zA];refine zX 11 b ?_;simp only[zA];refine zX 12 b ?_;simp only[zA];refine zX 13 b ?_;simp only[zA];refine zX 14 b ?_;simp only[zA];refine zX 15 b ?_;simp only[zA];refine zX 16 b ?_;simp only[zA];refine zT 17 b ?_;simp only[zA];refine wpAnyH_done kr ?_ _;clear b m;have O:=zh (zD N M);clear M ah;go_wp2_with fail
  refine zcb (ZU _ _) λbL v=>?_;obtain⟨BW,H2,Y,a2,a3,a4,a5,a6,a7,a8,a9⟩:=zW O v H ao af;clear v;unfold ZV;go_wp2;try simp only[φ]
  obtain⟨C,F2⟩:=ZC Y.o (.int .i64 3) '0' "" () () () ();refine zrt C ?_;rw[show(YR st c)=(st,ZD 3,false) from by rw[zGg V.o u.o bg.o]];exact mai
 have d0:decide (4<=((zY st 4 c.other).length:Int))=false:=η;have eM:decide (64<=(st.folders:Int))=false:=Γ (oh bh.o);have c7:=zh aU;clear aU;go_upto_region 10 with fail
 have m:=zh (HQb5 (zyB ak) (zyB al) (zyB aj) (zyB A) (zyB ab));refine zE kr m (λb=>?_);refine zi 0 ?_;iterate 6 (refine zt b ?_;simp only[zA])
 refine zo ?_;refine zr 6 λq i=>?_
 go_simp;go_at_call 67
 refine zcm (z3s st c.other y.2.2.2 _ _ (λ_=>True) (b4.o _ (zbr.drew))) ?_;rintro cd a ⟨⟨cP,rfl,⟨cS,dP,rfl,ah⟩⟩,P⟩;have M:(bW wc a:Prop):=zD (zbr.drew) P;clear P b;refine i.o _ _ (m.o _ M) (λb=>?_);clear i q;refine zi 7 ?_;iterate 11 (refine zt b ?_;simp only[zA])
 refine zo ?_;refine wpAnyH_done kr ?_ _;clear b m;have O:=zh (zD N M);have aK:=zh (H.below O);have bk:=zh ((M.block _ (zI bj)).trans bj);obtain⟨_,aa,t⟩:=TC3 (zB bk).1;replace ab:=ψ bk 4 _ rfl;have d5:B<a.heap.size:=zF aa;clear M ah ak al aj A;go_upto_region 13 with fail
 generalize a0:World.alloc a _=bK;generalize aG:World.alloc bK _=e;have br:bK=a.heap.size+1:=by rw[<-a0,World.size_alloc]
 have bd:(bW a bK:Prop):=by rw[<-a0];exact Below.alloc zbr (znl _) _
 have ae:(bW a e:Prop):=by rw[<-aG];exact Below.alloc bd bd.size _
 have b6:e.heap[a.heap.size]? =some (.cells #[c.user,.int .i64 4] 87 (0,0)):=by rw[<-aG,heap_alloc_old _ _ om,<-a0];exact zJ _ rfl
 have ca:e.heap[a.heap.size+1]? =some (.cells #[c.folder,'1',(),c.other,.slice (some ⟨a,0,none⟩) 1 1,'0',false,c.user] 84 (0,0)):=by rw[<-aG,<-br];exact zJ _ rfl
 have dM:=zh (by rw[<-aG,World.size_alloc,br]:e=a.heap.size+2);have bS:=zh (zD O ae);have c4:=zh (zD HB0 bS);have I:=zh (H.below bS);have ds:=zh b6;have da:=zh I.cells.2;have dj:=zh ((ae.block _ (zF t)).trans bk);have bZ:=ζ (Imm (λd=>X d\/d=W) bw R e B) ⟨zll (zF t) ae.size,bY.2⟩;have dg:=ζ (Imm (λd=>X d\/d=W) bw R e a) ⟨by rw[dM.o];omega,λg=>by have:=aK.lt;omega,λg=>by have:=aK.os.lt g;omega,λg=>by have:=aK.xl _ g;omega⟩;have dn:=zh ((ae.block _ (zI ((O.block _ ao).trans af))).trans ((O.block _ ao).trans af));obtain⟨cA,cB,cC,cD,cE,cF,cH,cJ⟩:=zC8 (zB ca).1;replace t:=zy ae t;have A:(cL e bw 11 (.slice o st.folders s):Prop):=by rw[<-G.o];exact I.cells.1 11 _ rfl
 have aT:¬(Value.slice o st.folders s).ownBlock=some bw:=λg=>I.nb ⟨.fo,by rw[G.o];exact g⟩
 have cm:¬(Value.slice o st.folders s).ownBlock=some B.heap.size:=λg=>bY.2.2.1 ⟨.fo,by rw[G.o];exact g⟩
 have L:¬(Value.slice o st.folders s).ownBlock=some (a.heap.size+1):=λg=>by have:=aK.os.lt ⟨.fo,by rw[G.o];exact g⟩;omega
 clear a0 aG br bd ae b6 ca aa ab;have m:=ζ (∀W':World,ButB (λaI=>(Value.slice o st.folders s).ownBlock=some aI) e W'->(λW':World=>ButB (λaI=>(Value.slice o st.folders s).ownBlock=some aI) e W'/\cL W' bw 11 (.slice o st.folders s)/\cL W' B 2 c.folder/\cL W' (a.heap.size+1) 0 c.folder/\cL W' (a.heap.size+1) 1 '1'/\cL W' (a.heap.size+1) 2 ()/\cL W' (a.heap.size+1) 3 c.other/\cL W' (a.heap.size+1) 4 (.slice (some ⟨a,0,none⟩) 1 1)/\cL W' (a.heap.size+1) 5 '0'/\cL W' (a.heap.size+1) 6 false/\cL W' (a.heap.size+1) 7 c.user) W') (λW' w=>⟨w,w.cellq A aT,w.cellq t cm,w.cellq cA L,w.cellq cB L,w.cellq cC L,w.cellq cD L,w.cellq cE L,w.cellq cF L,w.cellq cH L,w.cellq cJ L⟩);refine Z0 (S:=λW':World=>ButB (λaI=>(Value.slice o st.folders s).ownBlock=some aI) e W'/\cL W' bw 11 (.slice o st.folders s)/\cL W' B 2 c.folder/\cL W' (a.heap.size+1) 0 c.folder/\cL W' (a.heap.size+1) 1 '1'/\cL W' (a.heap.size+1) 2 ()/\cL W' (a.heap.size+1) 3 c.other/\cL W' (a.heap.size+1) 4 (.slice (some ⟨a,0,none⟩) 1 1)/\cL W' (a.heap.size+1) 5 '0'/\cL W' (a.heap.size+1) 6 false/\cL W' (a.heap.size+1) 7 c.user) 13 [] kr (m.o _ (ButB.of zbr.drew)) (λb=>?_);refine ziU 0 ?_;iterate 9 (refine ztU b ?_;simp only[zA])
 refine zoU ?_;refine tQa 9 λq i=>?_;go_simp;generalize aY:World.drew (World.alloc _ _)=bJ;have be:=(by rw[<-aY];exact(Below.alloc zbr (znl _) _).drew:(bW e bJ:Prop));clear b;refine i.o _ _ (m.o _ (ButB.of be)) (λb=>?_);clear i q;try simp only[zA]
 have b7:bJ.heap[e.heap.size]? =some (.cells #[c.folder,'1',(),c.other,.slice (some ⟨a,0,none⟩) 1 1,'0',false,c.user] 84 (0,0)):=by rw[<-aY];exact ZQ (zJ _ rfl)
 have zE:bJ=e.heap.size+1:=by rw[<-aY,World.size_drew,World.size_alloc]
 clear aY;refine zU 10 b ?_;simp only[zA];refine tQa 11 λq i=>?_;go_simp;generalize aZ:World.alloc _ _=ac;have bf:=(by rw[<-aZ];exact Below.alloc (be) (be).size _:(bW e ac:Prop));clear b;refine i.o _ _ (m.o _ (ButB.of bf)) (λb=>?_);clear i q;try simp only[zA]
 have b9:ac.heap[e.heap.size+1]? =some (.cells #[c.folder,'1',.slice (some ⟨e,0,none⟩) 1 1,(),(),(),()] 74 (0,0)):=by rw[<-aZ,<-zE];exact zJ _ rfl
 have b8:ac.heap[e.heap.size]? =some (.cells #[c.folder,'1',(),c.other,.slice (some ⟨a,0,none⟩) 1 1,'0',false,c.user] 84 (0,0)):=by rw[<-aZ,heap_alloc_old _ _ om];exact b7
 have dC:=zh b8;have dD:=zh b9;have dH:=zh (by rw[<-G.o];exact(I.below bf).os.row .fo:RowC 74 7 ac (.slice o st.folders s) (R .fo).cells);have dr:=ζ ((R .fo).cells.length<=10000) (I.os.len .fo);have av:=zh bf;clear aZ b7 b8 b9;refine tQa 12 λq i=>?_;refine z1y ac ac [c.folder,'1',.slice (some ⟨e,0,none⟩) 1 1,(),(),(),()] rfl (.tmp 69) (.tmp 75) 32 rfl ea _ 144 underlying32 d2 d9 dX dY rfl dc dc (.slice o st.folders s) (R .fo).cells rfl (e.heap.size+1) _ rfl dH zbr dr rfl (by intro cN T;simp at T;rcases T with rfl|rfl|rfl|rfl|rfl|rfl|rfl<;>rfl) dD ?_;intro eQ bI bG cK cz;obtain⟨cR,ec,dR,rfl⟩:=bG.shape3;have dG:=zh bG;have aO:=zh cK;have dF:=zh cz;clear bG cK cz;clear b;refine i.o _ _ (m.o _ ((ButB.of av).trans aO)) (λb=>?_);clear i q;try simp only[zA]
 have eb:=aO.cellq (zy av A) aT;have et:∀z,bI.frozen? (aD bw z)=false:=(λz=>by unfold World.frozen?;rw[aO.o.block bw (zll I.o.lt av.o.size) aT,av.o.block bw I.o.lt];exact da.o z);refine tNc 13 ?_
 refine tNc 14 ?_
 refine tNc 15 ?_
 refine tNc 16 ?_
 refine Z7 kr ?_ _;generalize cx:World.setCell bI _ _=eq;have bX:=zh (I.foMore (W1:=ac) (w1:=bI) (v8:= .slice cR ec dR) (f:=z13 c) (ma:=⟨.slice (some ⟨e,0,none⟩) 1 1,[[c.folder,'1',(),c.other,.slice (some ⟨a,0,none⟩) 1 1,'0',false,c.user]]⟩) av (zL6 dC rfl (by intro cN T;simp at T;rcases T with rfl|rfl|rfl|rfl|rfl|rfl|rfl|rfl<;>rfl)) (λd K=>by simp[Value.ownBlock] at K;omega) (oh bh.o) dG (by rw[G.o];exact aO) (by rw[G.o];exact dF) y.2.1 ⟨by show(_:Int)<=1;omega,by show(1:Int)<=_;omega⟩ ⟨rfl,rfl,rfl,rfl⟩
  (All2.snoc All2.nil (show ZL (Imm (λd=>X d\/d=W) bw R e) e [c.folder,'1',(),c.other,.slice (some ⟨a,0,none⟩) 1 1,'0',false,c.user] ⟨c.folder,1,[],c.other,[⟨c.user,4⟩],0,false,c.user⟩ from⟨_,_,rfl,y.2.1,(show I64 1 from⟨om,om⟩),y9,y.2.2.2,zDa (x:=(⟨c.user,4⟩:Member)) ds dg rfl ⟨rfl,y.1,(show I64 4 from⟨om,om⟩)⟩,(show I64 0 from⟨om,om⟩),y.1⟩)) (by simp[z13]))
 obtain⟨Z,bs,ai,dV⟩:=bX.o;rw[cx] at bs ai;have b5:=ζ (WK (λd=>X d\/d=W) base bw eq Z c (.slice ba c.data bp) (Y4 st (z13 c)) false late) bs;have dz:=zh ai;have bm:=zh ((Mut.block ai bZ).1.trans dj);have b0:=zh (Mut.block ai bZ).2;have b3:=zh ((Mut.own I ai (.inr rfl)).trans dn);clear bs ai dV cx bX eb et cA cB cC cD cE cF cH cJ t A aT cm L d5;have t:=ψ bm 2 _ rfl;have c0:=zh (zDn b5 c.folder);go_wp2_with fail
 refine zcm c0 ?_;rintro eG am ⟨⟨aW,rfl⟩|⟨k,aQ,cy,aB,Q,rfl⟩,ad⟩
 ·exact absurd (aW.symm.trans (zB7 V rfl)) sm
 obtain rfl:st.folders=k:=zsi ((zB7 V rfl).symm.trans aB);have aL:=zh Q;have E:=zh (b5.below ad);have bl:=zh ((ad.block _ (zI bm)).trans bm);have dp:=zh ((ad.block _ (zI b3)).trans b3);have de:=ζ (Imm (λd=>X d\/d=W) bw Z am B) ⟨zll b0.1 ad.size,b0.2⟩;have dA:=zh (dz.trans (Mut.below ad));have aN:=zh (z7e (st:=st) (f:=z13 c));obtain⟨eu,eH,ev,eI,ew,eJ,D5,eK,ex,eL,_,_,_,_,_,cO,_,_,_,cq,cg⟩:=E.fold (ZT aN) Q;have dd:=zh cg;have aa:=ψ bl 1 _ rfl;replace t:=ψ bl 2 _ rfl;have ak:(cL am bw 8 st.turn:Prop):=E.cells.1 8 _ rfl;obtain⟨_,_,_,_,_,_,_,_,_,al,aj,A⟩:=TC12 E.cells.1;clear aB Q ad cg;go_upto_region 15 with fail
 have m:=zh (HQb6 (zyB ak) (zyB al) (zyB aj) (zyB A) (zyB t) (zyB aa));refine zET 12 m.o λb=>?_;refine ziU 0 ?_;iterate 7 (refine ztU b ?_;simp only[zA])
 refine zoU ?_;refine ziU 8 ?_;iterate 2 (refine ztU b ?_;simp only[zA])
 refine zoU ?_;refine tQa 7 λq i=>?_;go_simp;go_at_call 67
 refine zcm (z3s (Y4 st (z13 c)) c.folder y.2.1 _ _ (λ_=>True) (show Z5 (λ_=>True) _ [st.turn,(Z .us).v,(Z .de).v,(Z .fo).v] (Y4 st (z13 c)) from(E.below (zbr.drew)).state)) ?_;rintro cd an ⟨⟨cP,rfl,⟨au,aw,rfl,ah⟩⟩,P⟩;have ar:(bW am an:Prop):=zD (zbr.drew) P;clear P b;refine i.o _ _ (m.o _ ar) (λb=>?_);clear i q;try simp only[zA]
 have bg:=ζ (Sl 2 rAt (λd=>am.drew<=d) an (.slice au (zY (Y4 st (z13 c)) 4 c.folder).length aw) (zY (Y4 st (z13 c)) 4 c.folder)) ⟨au,aw,rfl,ah⟩;have bU:=zh ar;clear ah;refine zU 10 b ?_;simp only[zA];refine tQa 11 λq i=>?_;go_simp;generalize aX:World.alloc _ _=aH;have aJ:=(by rw[<-aX];exact Below.alloc (ar) (ar).size _:(bW am aH:Prop));clear b;refine i.o _ _ (m.o _ aJ) (λb=>?_);clear i q;try simp only[zA]
 have c3:=zh (by rw[<-aX];exact Below.alloc zbr (znl _) _:(bW an aH:Prop));have dB:=zh (zbx aX);have ed:=zy aJ cO;have ee:∀z,aH.frozen? (aD aQ z)=false:=λz=>(aJ.frozen (p:=aD aQ z) cq).trans (dd.o z)
 clear aX ar aJ ak al aj A aa t cO;refine tNc 12 ?_
 refine tNc 13 ?_
 refine tNc 14 ?_
 refine Z7 kr ?_ _;generalize cw:World.setCell aH _ _=eo;have cX:=zh (E.below bU);have df:=ζ (Sl 2 rAt (Imm (λd=>X d\/d=W) bw Z an) an (.slice au (zY (Y4 st (z13 c)) 4 c.folder).length aw) (zY (Y4 st (z13 c)) 4 c.folder)) (bg.keep ZE dc λd K d4=>⟨⟨d4,λg=>by have:=E.lt;simp at K;omega,λg=>by have:=E.os.lt g;simp at K;omega,λg=>by have:=E.xl _ g;simp at K;omega⟩,rfl⟩);obtain⟨dO,ay,bE,cf⟩:=cX.epPut aN aL (w1:=aH) (r:=⟨.slice (some ⟨an,0,none⟩) 1 1,[['1','1','1',.slice au (zY (Y4 st (z13 c)) 4 c.folder).length aw,c.user]]⟩) (l:=[⟨1,1,1,zY (Y4 st (z13 c)) 4 c.folder,c.user⟩]) sm (zL6 dB rfl (by intro cN T;simp at T;rcases T with rfl|rfl|rfl|rfl|rfl<;>rfl)) c3 (λd K=>by simp[Value.ownBlock] at K;omega) rfl (All2.snoc All2.nil (show YE _ _ ['1','1','1',.slice au (zY (Y4 st (z13 c)) 4 c.folder).length aw,c.user] ⟨1,1,1,zY (Y4 st (z13 c)) 4 c.folder,c.user⟩ from⟨_,rfl,(show I64 1 from⟨om,om⟩),(show I64 1 from⟨om,om⟩),(show I64 1 from⟨om,om⟩),df,y.1⟩));rw[z1x,z6h,show({ z13 c with epochs:=[⟨1,1,1,zY (Y4 st (z13 c)) 4 c.folder,c.user⟩] }:Folder)=zDu c (zY (Y4 st (z13 c)) 4 c.folder) from rfl] at ay;rw[cw] at ay bE;obtain⟨ch,bt⟩:=Ξ (zY (Y4 st (z13 c)) 4 c.folder);have c6:=zh bt;rw[bt] at ay;have bP:=zh ay;have a1:Mut bw Z am dO eo:=(Mut.below bU).trans bE;have dy:=zh (dA.trans a1);have bQ:=zh (aL.keep cf);have di:=zh ((Mut.block a1 de).1.trans bl);have dq:=zh ((Mut.own E a1 (.inr rfl)).trans dp);clear ay bE cf a1 cw ed ee bt cq;have aa:=ψ di 1 _ rfl;have db:=zh (z9h bP (z7e (st:=st)) bQ (by rw[z1x];exact Pairwise.nil) (by rw[z1x];simp[zDu,z13]) (by rw[z1x];simp[zDu,z13]) c.user y.1 true);go_wp2_with fail
 refine zcm db ?_;rintro eC eR ⟨rfl,ey,aR,bA,cc⟩;rw[z1x,z6h] at aR;obtain⟨J,aV⟩:=Ξ (YZ (zDu c ch) c.user true);have c9:=zh aV;rw[aV] at aR;have F:=zh (by rw[<-aV];exact⟨rfl,rfl,rfl,rfl,by simp[YZ,zDu,z13],rfl⟩:J.name=c.folder/\J.wraps=[⟨c.user,1,true⟩]/\J.links=[]/\J.epochs.length=1/\J.manifests≠[]/\(zL J).members.length=1);have bO:=zh aR;have dt:=zh (dy.trans bA);have cY:=zh (bQ.keep cc);have dk:=zh ((Mut.own bP bA (.inr rfl)).trans dq);clear aR bA cc aV aa;have c8:=zh (zAz bO (z7e (st:=st)) cY (by rw[z1x,F.o.1,z41 (zB7 V.o F.o.1),z1x]) (zL7 (dK.smF om) ⟨by rw[F.o.1];have:=c5.f20;omega,by rw[F.o.2.2.2.2.2];omega,F.2.2.2.2.1,by rw[F.o.2.2.2.1];omega⟩) (by rw[z1x,F.o.2.1];exact pairwise_singleton _ _) (by rw[z1x,F.o.2.1];simp) (by rw[z1x,F.o.2.2.1];simp));go_wp2_with fail
 refine zcm c8 ?_;rintro eD cQ ⟨rfl,ez,ax,bB,_⟩;have cU:=zh ax;have du:=zh (dt.trans bB);have dl:=zh ((Mut.own bO bB (.inr rfl)).trans dk);have er:(cL cQ bw 8 st.turn:Prop):=ax.cells.1 8 _ rfl;have es:∀z,cQ.frozen? (aD bw z)=false:=ax.cells.2;have eP:IntKind.i64.wrap (st.turn+1)=st.turn+1:=by rw[IntKind.wrap_i64];have:=bn.o;omega
 obtain⟨bq,bC⟩:=ax.setTurn (st.turn+1) ⟨by have:=bn.o;omega,by have:=bn.o;omega⟩;have dw:=zh (du.trans bC);have dm:=zh ((Mut.own cU bC (.inr rfl)).trans dl);have dE:=zh (z40 bq 1);have dJ:=zh bq;clear ax bB bq bC;go_wp2_with fail
 refine zcm dE ?_;rintro eE eS ⟨rfl,ci,bD⟩;have cV:=zh ci;have dx:=zh (dw.trans bD);have b2:=zh ((Mut.own dJ bD (.inr rfl)).trans dm);have aP:=b2.o;unfold Z3 at aP;obtain⟨a2,a3,a4,a5,a6,a7,a8⟩:=zC7 (zB aP).1;have a9:=(zB aP).2;clear aP ci bD er es;unfold ZV;go_wp2;try simp only[φ]
 obtain⟨C,F2⟩:=ZC b2 '0' '1' "" () () () ();refine zrt C ?_;rw[show YR st c=({ yN (Y4 st J) st.folders with turn:=st.turn+1 },Y2 1,true) from by
  rw[zIf V.o u.o c7.o (oh bh.o),zTe,c6.o,c9.o]]
 exact ZI cV ((Mut.below c4).trans dx) (znl _) F2 (z33 ⟨om,om⟩)
end
section
variable {X:Nat->Prop} {base bw:Nat} {W W':World} {R R':RM} {c:Call} {dv:Value} {st:State} {done late:Bool}
theorem WK.verAt (h:WK X base bw W R c dv st done late) (hk:k<st.folders) {q:Nat} {it:Item} {v:Version} (D:(fo st k).items[j]? =some it) (F:it.versions[q]? =some v):
  ∃g oi d a b e i l,(R (.it k)).v= .slice (some ⟨g,oi,none⟩) (fo st k).items.length d/\(fo st k).items.length<=d/\d<=9223372036854775807/\g<W.heap.size/\cL W g (oi+j*2+1) (.slice (some ⟨a,b,none⟩) it.versions e)/\
   it.versions.length<=e/\e<=9223372036854775807/\a<W.heap.size/\cL W a (b+q*4) v.epoch/\cL W a (b+q*4+1) v.gone/\cL W a (b+q*4+2) v.who/\cL W a (b+q*4+3) (.slice i v.data l)/\
   Sl 1 Y1 (Imm X bw R W) W (.slice i v.data l) v.data/\v.who.size<=():=by
 obtain⟨A,_,r⟩:=(h.is.fo k _ (ZT hk)).2.it j it D;obtain⟨g,oi,d,o,t,w,y,B,_⟩:=(h.os.row (.it k)).at A;obtain⟨_,H,E⟩:=r.at F;obtain⟨a,b,e,p,u,x,z,m,_⟩:=(h.os.row (.ve k j)).at H;obtain⟨_,rfl,_,G,s⟩:=E;obtain⟨i,l,rfl,_⟩:=id s;have C:=(h.is.fo k _ (ZT hk)).2.itl;rw[C] at o t;rw[r.1] at p u;unfold maxLen at w x;refine⟨g,oi,d,a,b,e,i,l,o,t,w,y,?_,u,x,z,m 0 _ rfl,m 1 _ rfl,m 2 _ rfl,m 3 _ rfl,s,G⟩;rw[<-p];exact B 1 _ rfl
def z7f (st:State) (c:Call) (k j:Nat):Int:=if c.version=0 then(ZY (fo st k) j).versions.length else c.version
theorem zLa (hi:z00 (fo st k) c.name=none):z54 st c k=ZD 35:=by unfold z54;rw[hi]
theorem zLb {j:Nat} (hi:z00 (fo st k) c.name=some j) (h:((ZY (fo st k) j).versions.length:Int)<z7f st c k j):z54 st c k=ZD 35:=by
 unfold z54;rw[hi];unfold z7f at h;dsimp only;rw[getElem?_eq_none om]
theorem zR9 {q:Nat} {v:Version} (hi:z00 (fo st k) c.name=some j) (h:z7f st c k j=(q:Int)+1) (a:(ZY (fo st k) j).versions[q]? =some v):
  z54 st c k=if v.gone then ZD 35 else if !grantedB st c.user c.folder c.name ((q:Int)+1) then ZD 40 else⟨0,(q:Int)+1,v.who,v.data,[],[],[]⟩:=by
 unfold z54;rw[hi];unfold z7f at h;dsimp only;rw[h,show((q:Int)+1-1).toNat=q by omega,a]
open Classical in
theorem grB_is {u f it:Nm} {n:Int} {b:Bool} (h:b=true↔z0j st u f it n):grantedB st u f it n=b:=by
 unfold grantedB;cases b
 ·exact Γ λk=>by have:=h.2 k;cases this
 exact Δ (h.1 rfl)
theorem zLc {S:Nat->Prop} {w:World} {n:Int} {s:Nm} {v:Value} {l:List Int} (hn:I64 n) (hs:s.size<=()) (h:Sl 1 Y1 S w v l):yJ S w ['0',n,s,v,(),(),()] ⟨0,n,s,l,[],[],[]⟩:=
 ⟨_,_,_,_,rfl,(show I64 0 from⟨om,om⟩),hn,hs,h,y9,y9,y9⟩
theorem zTf (h:WK X base bw W R c dv st false late) (ah:VInv n st) (hn:n<=41) (a2:CallOk c) (hk:ZB st c.folder=some k):
  Calls prog 93 #[pT bw] W (Did X base bw W R c dv late (st,z54 st c k,false)):=by
 have HK:=zh hk;have G:=zh (z0l (yO hk));have az:=zh (ah.atF G);have bo:=zh (zJy (ah.small hn));have ay:=zh a2;obtain⟨ao,a5⟩:=Ξ (W.alloc (.cells Z3 49));have aY:=yQ W;rw[a5] at aY;obtain⟨aV,ar,aN,B⟩:=aY;have s:=aV R h;have t:=zh s;have y:=zh aN;have HB0:=zh ar;have cu:=s.lt;clear aV ar aN;obtain⟨aq,aP,aT,bJ,bO,bH,bK,bL,bN,bP,bA,cf,bB,bC⟩:=yG s.call;obtain rfl:dv= .slice aq c.data aP:=by simpa[z4m] using aT
 obtain⟨bT,bU,bV,bY,bZ,b0,an,b1⟩:=TC8 s.cells.1;obtain⟨cM,bQ,bz,bE,T,a9⟩:=zP ao (aC c aq aP) 41;have Y:=zh (zbx bQ);have bk:=zh T;have aL:=zh (s.below T);clear aT bJ bO bH bK bL bN bP bA bB bC bz bE T;clear h hk s ah a2;unfold Z3 at a5;go_enter func93,ntmps93
 have K:=ψ Y 2 _ rfl;go_wp2_with fail
 refine zcm (YK aL c.folder) ?_;rintro af cJ ⟨⟨hno,rfl⟩|⟨bR,bG,cD,a3,ai,rfl⟩,S⟩
 ·exact ma6
 obtain rfl:_=bR:=zsi (HK.symm.trans a3);have av:=zh S;have bj:=zh ai;have au:=zh (aL.below S);obtain⟨b8,ci,b9,cj,ca,ck,D5,cl,cb,cm,aU,hF,b2,b3,b4,b5,be,b6,b7,bI,cp⟩:=au.fold (ZT G) ai;have bm:=zh aU;clear S a3 ai aU hF;clear bT bU bV bY bZ b0 an b1 K;have bn:=zh ((av.block _ a9).trans Y);have L:=ψ bn 3 _ rfl;go_wp2_with fail
 refine zcb (z9e au G bj c.name) λbg C=>?_;have ax:=zh (zD av C);have w:=zh (zD bk ax);have H2:=zh (t.below w);have bf:=zy C be;have cq:bG<bg:=zll bI C.size;have aH:=zh ((ax.block _ a9).trans Y);clear C b2 b3 b4 b5 be b6 b7 L
 cases J:z00 (fo st k) c.name with
 | none=>
  have E:=zh J;simp only[iOf];go_wp2_with fail
  refine zcb (ZU _ _) λap e=>?_;obtain⟨BW,H2,m,p,l,q,r,M,N,O,P⟩:=zW w e t B y;clear e;unfold ZV;go_wp2;try simp only[φ]
  obtain⟨i,F2⟩:=ZC m.o (.int .i64 35) '0' "" () () () ();refine zrt i ?_;rw[show(st,z54 st c k,false)=(st,ZD 35,false) from by rw[zLa E.o]]
  exact mai
 | some j=>
  simp only[iOf];have E:=zh J;have F:=zh (z3n J);have ac:=ζ ((ZY (fo st k) j).versions≠[]/\(ZY (fo st k) j).versions.length<=41) ⟨(az.it _ (zmg F.1)).1,qNtx (az.it _ (zmg F.1)).2.1 hn⟩;have aK:=zh (length_pos_iff.2 ac.1);obtain⟨a,ak⟩:=Ξ (z7f st c k j);have aJ:=zh (show 1<=a from by
    rw[<-ak];unfold z7f;have:=ay.ver;have:=aK.o;split<;>omega)
  have x:=zh ak;have ct:(j:Int)<((fo st k).items.length:Int):=by have:=(zge F.1).1;omega
  have bS:=ψ aH 6 _ rfl;obtain⟨b,al⟩:∃b:Nat,b<(ZY (fo st k) j).versions.length/\(a<=(ZY (fo st k) j).versions.length->a=(b:Int)+1):=by
    by_cases aj:a<=(ZY (fo st k) j).versions.length
    ·exact⟨(a-1).toNat,by have:=aJ.o;omega,λ_=>by have:=aJ.o;omega⟩
    ·exact⟨0,aK,λh=>absurd h aj⟩
  have H:=zh al;obtain⟨d,am⟩:∃d,(ZY (fo st k) j).versions[b]? =some d:=⟨_,qLgx al.1⟩;have bs:=zh am;obtain⟨cn,cE,cd,co,cF,ce,Q,ae,af,cz,cB,cr,a7,cA,cC,cs,p,l,q,r,a4,a6⟩:=H2.verAt G F.1 am;have bq:=zh a4;have bt:=zh a6;have ag:=bm.o;simp only[hdr,cons.injEq] at ag;have aR:=ag.2.2.2.2.1.symm.trans af;simp only[Value.slice.injEq] at aR;obtain⟨rfl,_,rfl⟩:=aR;clear ag af J ak al am a4 a6;generalize aZ:(ZY (fo st k) j).versions=z at*;have ad:=zh aZ;clear aZ;go_upto_region 7 with fail
  go_cut [26] from 25 to 26 (λbX v=>(∃o:Bool,bX= .bool o/\Hid (o=true↔c.version=0))/\v=bg)
  case first=>
    go_wp2;go_meet
    case rel=>exact⟨⟨_,rfl,zh sm⟩,rfl⟩
  obtain⟨⟨bx,rfl,a1⟩,rfl⟩:=hcut;rename_i bv aX;refine aX _ _ ?_;clear aX bv;go_cut [6] from 27 to 35 (λan v=>an= .int .i64 a/\v=wc)
  case first=>
   have cc:=x
   cases bx with
   | true=>
    have Z:=zh (by rw[<-x.o];unfold z7f;rw[if_pos (a1.o.1 rfl),ad.o]:(z:Int)=a);go_wp2;go_meet
    case rel=>exact⟨by rw[Z.o],rfl⟩
   | false=>
    have Z:=zh (show c.version=a from by rw[<-x.o];unfold z7f;rw[if_neg λbD=>by have:=a1.o.2 bD;cases this]);go_wp2;go_meet
    case rel=>exact⟨by rw[Z.o],rfl⟩
  obtain⟨rfl,rfl⟩:=hcut;by_cases aj:a<=(z:Int)
  rotate_left
  ·have bM:decide ((z:Int)<a)=true:=θ;have bp:=zh (by rw[ad.o,x.o];omega:((ZY (fo st k) j).versions.length:Int)<z7f st c k j);go_wp2_with fail
   refine zcb (ZU _ _) λap e=>?_;obtain⟨BW,H2,m,p,l,q,r,M,N,O,P⟩:=zW w e t B y;clear e;unfold ZV;go_wp2;try simp only[φ]
   obtain⟨i,F2⟩:=ZC m.o (.int .i64 35) '0' "" () () () ();refine zrt i ?_;rw[show(st,z54 st c k,false)=(st,ZD 35,false) from by rw[zLb E.o bp.o]];exact mai
  obtain rfl:a=(b:Int)+1:=H.2 aj;have bM:decide ((z:Int)<(b:Int)+1)=false:=η;have cw:IntKind.i64.wrap ((b:Int)+1-1)=b:=by rw[IntKind.wrap_i64];have:=H.1;have:=ac.2;omega
  have cv:(b:Int)<(z:Int):=by have:=H.1;omega
  have aa:=zh (zR9 E x (by rw[ad.o];exact bs))
  cases u:d.gone with
  | true=>
   rw[u] at l;have D:=zh u;clear u;go_wp2_with fail
   refine zcb (ZU _ _) λap e=>?_;obtain⟨BW,H2,m,p,l,q,r,M,N,O,P⟩:=zW w e t B y;clear e;unfold ZV;go_wp2;try simp only[φ]
   obtain⟨i,F2⟩:=ZC m.o (.int .i64 35) '0' "" () () () ();refine zrt i ?_;rw[show(st,z54 st c k,false)=(st,ZD 35,false) from by rw[aa.o,D.o];rfl]
   exact mai
  | false=>
   rw[u] at l;have D:=zh u;obtain⟨_,_,_,_,_,_,_,_,bc,bd,ba,bb⟩:=TC12 H2.cells.1;obtain⟨_,a8,K,L⟩:=TC4 (zB aH).1;have aG:=ζ (I64 ((b:Int)+1)) ⟨om,by have:=H.1;have:=ac.2;omega⟩;clear u bS;go_upto_region 11 with fail
   have ab:=zh (HQb7 (zyB bc) (zyB bd) (zyB ba) (zyB bb) (zyB a8) (zyB K) (zyB L));refine zE kr ab (λA=>?_);refine zi 0 ?_;iterate 11 (refine zt A ?_;simp only[zA])
   refine zo ?_;refine zr 11 λbu aW=>?_
   go_simp;go_at_call 147
   refine zcm (zLv st c.user c.folder c.name ((b:Int)+1) _ _ (λ_=>True) (H2.below (zbr.drew)).state bo (oh ay.u20) aG) ?_;rintro cg bh ⟨⟨o,rfl,a0⟩,aO⟩;have g:(bW wc bh:Prop):=zD (zbr.drew) aO;clear aO A;refine aW.o _ _ (ab.o _ g) (λA=>?_);clear aW bu;refine zT 12 A ?_;simp only[zA];refine wpAnyH_done kr ?_ _;clear A ab;have aB:=zh (grB_is a0);have aw:=zh (zD w g);have cK:=zy g bf;have cy:=zy g a7;have cP:=zy g p;have cQ:=zy g l;have cR:=zy g q;have cS:=zy g r;have bl:=zh g;clear a0 g bc bd ba bb a8 K L bf a7 p l q r
   cases o with
   | false=>
    go_wp2_with fail
    refine zcb (ZU _ _) λap e=>?_;obtain⟨BW,H2,m,p,l,q,r,M,N,O,P⟩:=zW aw e t B y;clear e;unfold ZV;go_wp2;try simp only[φ]
    obtain⟨i,F2⟩:=ZC m.o (.int .i64 40) '0' "" () () () ();refine zrt i ?_;rw[show(st,z54 st c k,false)=(st,ZD 40,false) from by rw[aa.o,D.o,aB.o];rfl]
    exact mai
   | true=>
    obtain⟨v,cx,aQ,bF,U,cH⟩:=zP bh #[d.epoch,false,d.who,.slice Q d.data ae] 80;obtain⟨_,_,cN,cO⟩:=TC4 aQ;have V:=zh (zD aw U);have aI:=zh ((V.block _ B).trans y);have bi:=zh (t.below V);have br:=ζ (Sl 1 Y1 (Imm (λo=>X o\/o=W) bw R v) v (.slice Q d.data ae) d.data) (bq.keep rByte_ok dc (Mut.below (bw:=bw) (R:=R) (zD bl U)).kept);have I:=aI.o;unfold Z3 at I;obtain⟨p,l,q,r,M,N,O⟩:=zC7 (zB I).1;have P:=(zB I).2;clear I aQ bF U;go_wp2;try simp only[φ]
    obtain⟨i,F2⟩:=ZC aI '0' (.int .i64 ((b:Int)+1)) d.who (.slice Q d.data ae) () () ();refine zrt i ?_;rw[show z54 st c k=⟨0,(b:Int)+1,d.who,d.data,[],[],[]⟩ from by rw[aa.o,D.o,aB.o];rfl];exact ZI bi (Mut.below (zD HB0 V)) (znl _) F2 (zLc aG bt br)
end
end Go.Proofs.YtdggplhnfhcieaaGreatDoor
