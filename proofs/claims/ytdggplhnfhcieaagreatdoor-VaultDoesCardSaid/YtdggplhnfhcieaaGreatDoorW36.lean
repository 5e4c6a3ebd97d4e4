/- No condition. -/
import Derived.Test.YtdggplhnfhcieaaGreatDoorW31
import Derived.Test.YtdggplhnfhcieaaGreatDoorW34
set_option linter.all false
set_option maxRecDepth 100000
namespace Go.Proofs.YtdggplhnfhcieaaGreatDoor
open Go.Proofs.Tryz Cd Ce List
open Go.RowKit Go.Deep
def z3e (st:State) (c:Call) (k:Nat):Bool:=decide (ZS st k c.user<4)||(!isE c.other&&(match ZB st c.other with|some q=>decide (ZS st q c.user<2)|none=>false))
def zFf (c:Call) (m:Manifest):Manifest:={ m with parent:=c.other,cut:=m.seq+1 }
section
variable {st:State} {c:Call} {k:Nat} {f:Folder} {m:Manifest} {ch:List At}
theorem zL5:(z3e st c k=true)↔(ZS st k c.user<4\/(!isE c.other&&(match ZB st c.other with|some q=>decide (ZS st q c.user<2)|none=>false))=true):=by
 unfold z3e;rw[Bool.or_eq_true,decide_eq_true_eq]
theorem zDt (h:z3e st c k=false):¬(ZS st k c.user<4\/(!isE c.other&&(match ZB st c.other with|some q=>decide (ZS st q c.user<2)|none=>false))=true):=λa=>by rw[zL5.2 a] at h;cases h
theorem zVm (h:z3e st c k=true):z0t st c k=(st,ZD 40,false):=by
 unfold z0t;exact if_pos (zL5.1 h)
theorem zR3 (h:z3e st c k=false) (a:fo st k=f) (hm:zL f=m) (hp:m.parent=c.other):z0t st c k=(st,Y2 m.seq,false):=by
 unfold z0t;refine(if_neg (zDt h)).trans ?_;rw[a,hm,if_pos hp]
theorem zR4 (h:z3e st c k=false) (b:fo st k=f) (hm:zL f=m) (hp:¬m.parent=c.other) (a:zY st 4 c.other=ch) (ha:(ch.any λx=>decide (x.name=c.folder))=true):z0t st c k=(st,ZD 43,false):=by
 unfold z0t;refine(if_neg (zDt h)).trans ?_;rw[b,hm,if_neg hp,a,if_pos ha]
theorem zR5 (h:z3e st c k=false) (d:fo st k=f) (hm:zL f=m) (hp:¬m.parent=c.other) (a:zY st 4 c.other=ch) (ha:(ch.any λx=>decide (x.name=c.folder))=false) (b:4<ch.length+yV st 5 c.folder):z0t st c k=(st,ZD 3,false):=by
 unfold z0t;refine(if_neg (zDt h)).trans ?_;rw[d,hm,if_neg hp,a,if_neg (by rw[ha];decide),if_pos b]
theorem zTd (h:z3e st c k=false) (a:fo st k=f) (hm:zL f=m) (hp:¬m.parent=c.other) (b:zY st 4 c.other=ch) (ha:(ch.any λx=>decide (x.name=c.folder))=false) (d:¬4<ch.length+yV st 5 c.folder):
  z0t st c k=({ yN (setF st k (YJ f (zFf c m) c.user)) k with turn:=st.turn+1 },Y2 (m.seq+1),true):=by
 unfold z0t;refine(if_neg (zDt h)).trans ?_;rw[a,hm,if_neg hp,b,if_neg (by rw[ha];decide),if_neg d];unfold zAo;dsimp only;rw[a,hm];rfl
theorem zVn {S:Nat->Prop} {w:World} {n:Int} {s:Nm} {a b i d j e g h:Value} (hm:ZL S w [a,b,i,d,j,e,g,h] m) (hs:s.size<=()) (hn:I64 n):ZL S w [a,b,i,s,j,n,g,h] { m with parent:=s,cut:=n }:=by
 obtain⟨_,_,e,l,o,p,_,q,_,r⟩:=hm;simp only[cons.injEq,and_true] at e;obtain⟨rfl,rfl,rfl,rfl,rfl,rfl,rfl,rfl⟩:=e;exact⟨_,_,rfl,l,o,p,hs,q,hn,r⟩
end
theorem mb5 {p:Prop} (h:p:=by
 refine wpAnyH_done kr ?_ _;clear hHeld;go_wp2;go_meet
 case rel=>exact⟨by rw[<-HNM.o,HX.o],Bw5⟩):p:=h
set_option maxHeartbeats 16000000 in
theorem zMc {n:Nat} (st:State) (c:Call) (k:Nat) (C:VInv n st) (hn:n<=40) (bY:CallOk c) (hk:ZB st c.folder=some k) (cM:c.other≠⟨#[]⟩->∃q,ZB st c.other=some q) (av cB:List Value) (w:World) (S:Nat->Prop) (h:Z5 S w av st) (cH:z09 S w cB c):
  Calls prog 59 #[.agg av.toArray,.agg cB.toArray] w (Ret3 S (z0t st c k) w):=by
 have HR:=zh h;have dG:=zh hk;have x:=zh (z0l (yO hk));have bP:=zh C;have dI:=zh cM;have ck:=zh (z32 (yO hk));have dF:=zh (z8t C.names C.tree 5 c.folder om);have cp:=ζ (0<=st.turn/\st.turn<=1000000) ⟨C.turn.1,by have:=C.turn.2;omega⟩;have dy:=ζ (c.folder.size<=20/\c.other.size<=20) ⟨bY.f20,bY.o20⟩;obtain⟨f,aw⟩:=Ξ (fo st k);have cK:st.folders[k]? =some f:=aw▸ZT x;have X:=zh aw;have dA:=zh (by rw[<-aw];exact C.atF x:FInv n (st.users.map User.name) f);have bX:=z5r C om x;rw[aw] at bX;have V:=zh bX;have cm:=zh (by have:=C.few;omega:st.folders.length<=10000);have fm:(k:Int)<(st.folders:Int):=by have:=x.o;omega
 obtain⟨c7,c9,c8,da,eY,db,rfl,_,_,_,_,e1,_,_,_,eZ,_,_,_,e0⟩:=ZF h;obtain⟨eb,ec,rfl,_,ef,_,_,ee,_,_,_,_,_,ed⟩:=yG cH;obtain⟨bu,j,ay,w3,cV,cX,cY,eA,cc,z,A,ct,cu,be⟩:=z8h w (aS st c7 c9 c8 da eY db) (aC c eb ec);have HB3:=zh cc;have al:=zh z;have bI:=zh A;have HN2:=zh ct;have HN3:=zh cu;have HNE:=zh be;have HZ:=zh (by rw[<-cY,<-cX,<-cV];simp:w<bu.heap.size/\bu<j.heap.size/\j<ay.heap.size);have dJ:=ζ (ay<w3.heap.size) (zI (HN3.o _ zbr));have aa:=zh λd (e:(bW w3 d:Prop))=>zM HR (YL (zD HB3 e))
 have d1:=Below.refl w3 w3;obtain⟨s0,s1,s2,s3⟩:=TC4 z.a;obtain⟨_,d8,d9,_,ea⟩:=TC5 A.a;clear z A ct cu be cc;have ci:=ζ (c.user.size<=()/\c.other.size<=()) ⟨ef,ee⟩;clear e1 eZ ed h cH bY hk cM C aw bX;go_enter func59,ntmps59
 go_wp2_with fail
 refine zcb (z17 st c.folder _ _ _ (aa.o _ d1)) λy aI=>?_;have L:=zh aI;rw[dG.o,show iOf (some k)=(k:Int) from rfl];obtain⟨aG,e6,fd,_,_,_,_,_,_,_,_,_,_,dp,e7,fb,rfl,_,_,dg,dh,di,dj,dk,dl,dm,dn,_,_,_,_,_,fc,_,_,_,e8,_,_,_,e9,_,_,_,fe,_,_,_,fa⟩:=yP e0 x (YL (zD HB3 L));obtain rfl:f=aG:=zsi (cK.symm.trans dp);have cq:=zh dn;have bk:=z1z dg;have bl:=z1z dh;have bm:=z1z di;have bn:=z1z dj;have bo:=z1z dk;have bp:=z1z dl;have bq:=z1z dm;have N:=ζ (_/\_/\_/\_/\_/\_/\_) ⟨bk,bl,bm,bn,bo,bp,bq⟩;have z:=al.on aI;have A:=bI.on aI;obtain⟨G,H,I,J⟩:=TC4 z.a;obtain⟨_,ag,T,_,aH⟩:=TC5 A.a;have d2:=Below.refl y y;have bN:=zh λd (e:(bW y d:Prop))=>z5w st k x c.user _ d _ (aa.o _ (zD L e))
 clear cV cX cY eA aI dp e7 fb dn cK fc e8 e9 fe fa dg dh di dj dk dl dm z A;obtain⟨bj,cO⟩:=Ξ (z3e st c k);have HNM:=zh cO;clear cO;go_upto_region 2 with fail
 go_cut [36] from 15 to 36 (λeX e5=>eX= .bool bj/\bW y e5)
 case first=>
  by_cases ax:ZS st k c.user<4
  ·have a6:decide (ZS st k c.user<4)=true:=Δ ax;have HX:=zh (by unfold z3e;rw[a6];rfl:z3e st c k=true);clear ax;refine zEB λhHeld=>?_;refine zi 0 ?_;iterate 4 (refine zt hHeld ?_;simp only[zA])
   refine zo ?_;refine zr 4 λK hK=>?_
   go_simp;go_at_call 105
   refine zcb (bN.o _ (zbr.drew)) λR g=>?_;have Bw5:(bW y R:Prop):=zD (zbr.drew) g;clear g hHeld;refine hK.o _ _ Bw5 (λhHeld=>?_);clear hK K;refine zi 5 ?_;iterate 2 (refine zt hHeld ?_;simp only[zA])
   refine zo ?_;refine zX 7 hHeld ?_;simp only[zA];refine zX 8 hHeld ?_;simp only[zA];refine zX 9 hHeld ?_;simp only[zA];refine zX 10 hHeld ?_;simp only[zA];refine zX 11 hHeld ?_;simp only[zA];refine zX 12 hHeld ?_;simp only[zA];refine zX 13 hHeld ?_;simp only[zA];refine zX 14 hHeld ?_;simp only[zA];refine zX 15 hHeld ?_;simp only[zA];refine zX 16 hHeld ?_;simp only[zA];refine zX 17 hHeld ?_;simp only[zA];refine zX 18 hHeld ?_;simp only[zA];refine zX 19 hHeld ?_;simp only[zA];refine zX 20 hHeld ?_;simp only[zA];refine zT 21 hHeld ?_;simp only[zA];exact mb5
  have a6:decide (ZS st k c.user<4)=false:=Γ ax;by_cases Q:c.other=⟨#[]⟩
  ·have ev:c.other.toList.isEmpty=true:=by rw[Q];exact z0o
   have HX:=zh (by unfold z3e;rw[a6,show isE c.other=true from Δ Q];rfl:z3e st c k=false);clear Q ax;refine zEB λhHeld=>?_;refine zi 0 ?_;iterate 4 (refine zt hHeld ?_;simp only[zA])
   refine zo ?_;refine zr 4 λK hK=>?_
   go_simp;go_at_call 105
   refine zcb (bN.o _ (zbr.drew)) λR g=>?_;have Bw5:(bW y R:Prop):=zD (zbr.drew) g;clear g hHeld;refine hK.o _ _ Bw5 (λhHeld=>?_);clear hK K;refine zi 5 ?_;iterate 6 (refine zt hHeld ?_;simp only[zA])
   refine zo ?_;refine zX 11 hHeld ?_;simp only[zA];refine zX 12 hHeld ?_;simp only[zA];refine zX 13 hHeld ?_;simp only[zA];refine zX 14 hHeld ?_;simp only[zA];refine zX 15 hHeld ?_;simp only[zA];refine zX 16 hHeld ?_;simp only[zA];refine zX 17 hHeld ?_;simp only[zA];refine zX 18 hHeld ?_;simp only[zA];refine zX 19 hHeld ?_;simp only[zA];refine zi 20 ?_;iterate 2 (refine zt hHeld ?_;simp only[zA])
   refine zo ?_;exact mb5
  have ev:c.other.toList.isEmpty=false:=z0n Q;obtain⟨q,bf⟩:=dI.o Q;have co:=zh bf;have HX:=zh (by unfold z3e;rw[a6,show isE c.other=false from Γ Q,bf];simp:z3e st c k=decide (ZS st q c.user<2));have dS:=zh λd (e:(bW y d:Prop))=>z5w st q (z0l (yO co)) c.user _ d _ (aa.o _ (zD L e))
  clear Q ax bf;refine zEB λhHeld=>?_;refine zi 0 ?_;iterate 4 (refine zt hHeld ?_;simp only[zA])
  refine zo ?_;refine zr 4 λK hK=>?_
  go_simp;go_at_call 105
  refine zcb (bN.o _ (zbr.drew)) λR g=>?_;have Bw5:(bW y R:Prop):=zD (zbr.drew) g;clear g hHeld;refine hK.o _ _ Bw5 (λhHeld=>?_);clear hK K;refine zi 5 ?_;iterate 10 (refine zt hHeld ?_;simp only[zA])
  refine zo ?_;refine zi 16 ?_;iterate 2 (refine zt hHeld ?_;simp only[zA])
  refine zo ?_;refine zr 15 λK hK=>?_
  go_simp;go_at_call 104
  refine zcb (z17 st c.other _ _ _ (aa.o _ (zD L (Bw5)))) λu g=>?_;have bx:(bW y u:Prop):=zD (Bw5) g;clear g hHeld;refine hK.o _ _ bx (λhHeld=>?_);clear hK K;rw[co.o];unfold iOf;refine zr 18 λK hK=>?_
  go_simp;go_at_call 105
  refine zcb (dS.o _ (bx)) λr g=>?_;have U:(bW y r:Prop):=zD (bx) g;clear g hHeld;refine hK.o _ _ U (λhHeld=>?_);clear hK K;refine zi 19 ?_;iterate 3 (refine zt hHeld ?_;simp only[zA])
  refine zo ?_;refine wpAnyH_done kr ?_ _;clear hHeld;go_wp2;go_meet
  case rel=>exact⟨by rw[<-HNM.o,HX.o],U⟩
 case rest=>
 obtain⟨rfl,aJ⟩:=hcut;obtain⟨R,rfl⟩:∃a:World,a=wc:=⟨_,rfl⟩;have bB:=zh (zD L aJ);have b35:=bB.o
 cases bj with
 | true=>
  have HE:=zh (zVm HNM);exact mcd
 | false=>
 go_wp2_with fail
 refine zcm (YW f _ R (Old S w) (zV cq (z23 (zD HB3 L) (zD HB3 bB)))) ?_;rintro _ u ⟨⟨_,rfl,ba⟩,aK⟩;obtain⟨m,bb⟩:=Ξ (zL f);rw[bb] at ba;have ak:=zh bb;have dK:=zh ba;obtain⟨b6,b8,b7,b9,rfl,_,_,_,_,_,eP,_,_,_,_,eO,_⟩:=ZO ba;obtain⟨r,cZ,eg,es,U,c2⟩:=zP u (aM m b6 b8 b7 b9) 84;have bK:=zh (ZJ (zbx cZ));have cg:=zh (zD aJ (zD aK U));have bC:=zh (zD bB aK);have dr:=zh (zD aJ aK).size;have bD:=zh (zD bC U);have dR:=zh c2;have aT:=zh (by have:=V.o;rw[bb] at this;omega:0<=m.seq/\m.seq<=1000000);have d3:=Below.refl r r;have O:=bD.o;have am:=zh (show w<bu.heap.size/\bu<j.heap.size/\j<ay.heap.size/\ay<w3.heap.size/\w3<=u.heap.size/\u<r.heap.size/\w.heap.size<=w3.heap.size from
  ⟨HZ.1,HZ.2.1,HZ.2.2,dJ,bC.size,dR,HB3.size⟩)
 have ao:=bK.o;obtain⟨_,bh,_,bi⟩:=TC4 ao.a;have z:=al.on O;have A:=bI.on O;clear G H I J ag T aH d2;obtain⟨G,H,I,J⟩:=TC4 z.a;obtain⟨_,ag,T,_,aH⟩:=TC5 A.a;clear ba bb eP eO eg es c2 aJ aK U ao z A bk bl bm bn bo bp bq;go_upto_region 5 with fail
 clear cZ;by_cases ae:m.parent=c.other
 ·have cP:(m.parent.toList==c.other.toList)=true:=by rw[ae];simp
  have bR:=zh (zR3 HNM X ak ae);have ap:=HN2.o _ O;have aX:=HN3.o _ O;have bc:¬(·=j.heap.size) w.heap.size:=by intro l;have bU:w=j.heap.size:=l;have:=am.o;omega
  have bd:¬(·=j.heap.size) u.heap.size:=by intro l;have bU:u=j.heap.size:=l;have:=am.o;omega
  have au:=z4c (Y:=λa=>a=j) (al.o _ O) bc;have ar:=z4c (Y:=λa=>a=j) (bK.o _ d3) bd;obtain⟨G,H,I,J⟩:=TC4 au.a;have e2:=ar.at 1 rfl;have HFIN:=zh (z4b (b:=false) (S:=S) (st':=st) (n:=m.seq) ap aX HNE (zD HB3 O) (Nat.le_of_lt (Nat.lt_trans HZ.1 HZ.2.1)) (Nat.le_of_lt (Nat.lt_trans HZ.1 (Nat.lt_trans HZ.2.1 HZ.2.2))) (by have:=aT.o;constructor<;>omega) (a0:= .int .i64 st.turn) (a1:= .slice c7 st.users c9) (a2:= .slice c8 st.deposits da) (a3:= .slice (some ⟨e6,fd,none⟩) st.folders db) (λd ce cf=>zM HR (z4o cf)));rw[<-bR.o] at HFIN;have HPA:=zh ap;go_upto_region 6 with fail
  obtain⟨eS,eT,eU,eV⟩:=zC4 (zB ap).1;have eW:=(zB ap).2;obtain⟨eh,ei,ej,ek,el,em,en⟩:=zC7 (zB aX).1;have eo:=(zB aX).2;have be:=HNE.o;have ey:=Ne.symm HNE;clear ap aX au ar ae cP s0 s1 s2 s3 bh bi ag T aH;have HSQ:=ζ (∀s:World,ButB (·=j) r s->(λs:World=>ButB (·=j) r s) s) (λs e=>e);refine Z0 (S:=λs:World=>ButB (·=j) r s) 5 [] kr (HSQ.o _ (ButB.of zbr.drew)) (λhHeld=>?_);exact mco
 have cP:(m.parent.toList==c.other.toList)=false:=YX ae;have bL:=zh ae;clear ae;go_wp2_with fail
 refine zcm (z8z st c.other _ r _ (aa.o _ O)) ?_;rintro _ e3 ⟨⟨_,rfl,cR⟩,dq⟩;obtain⟨ch,a5⟩:=Ξ (zY st 4 c.other);rw[a5] at cR;have bG:=zh a5;have dv:=zh (by rw[<-a5];have:=z2c st 4 c.other;omega:ch.length<=8);obtain⟨cb,cA,rfl,_,eM,_,cC⟩:=cR;have ds:=zh dq;have dP:=ζ ((cb,cA)=(cb,cA)) rfl;unfold maxLen at eM;clear a5 bh bi dP;go_wp2_with fail
 go_loopw [10] (λb4 bv=>∃q:Nat,q<=ch/\b4= .int .i64 q/\Hid (((ch.take q).any λaG=>decide (aG.name=c.folder))=false)/\bW e3 bv) (λb4 _=>ch.length-(intOf b4).toNat)
 case atStart=>exact⟨0,om,gn,zh rfl,Below.refl _ _⟩
 obtain⟨bv,rfl⟩:=ξ wr;obtain⟨q,bf,rfl,aV,bT⟩:=hrel;have B:=zD ds bT;have cy:=zD bD B;by_cases ex:q<ch
 ·obtain⟨l,_,_,bV,eq,er,rfl,_,_,_,_,ep,_⟩:=zFj cC ex (zK bT);have HX:=zh (show((ch.take (q+1)).any λaG=>decide (aG.name=c.folder))=decide (l.name=c.folder) by
   rw[qLtx,bV,Option.toList,any_append,aV.o];simp)
  have fn:(q:Int)<(ch:Int):=om
  have dx:=zh (zmg bV);clear bV eq er ep;by_cases ac:l.name=c.folder
  rotate_left
  ·have ew:(l.name.toList==c.folder.toList)=false:=YX ac;have dZ:=zh (Γ ac);have bw:=T _ B;clear ac;go_upto_region 11 with fail
   go_quiet (fail)
   go_wp2;go_roundw
   case rel=>exact⟨q+1,om,gn,zh (by rw[HX.o,dZ.o]),Below.trans bT ⟨rfl,rfl,rfl,znl _,λ_ _=>rfl⟩⟩
   case measure=>exact qMx
  have ew:(l.name.toList==c.folder.toList)=true:=by rw[ac];simp
  have HE:=zh (zR4 HNM X ak bL bG (by rw[any_eq_true];exact⟨l,dx,Δ ac⟩));have bw:=T _ B;clear ac;go_upto_region 11 with fail
  go_quiet (fail)
  clear bw;generalize c0:World.drewN _ _=e4;have d7:(bW w3 e4:Prop):=by rw[<-c0];exact Below.trans cy ⟨rfl,rfl,rfl,znl _,λ_ _=>rfl⟩
  clear c0;go_upto_region 12 with fail
  have bz:=d7;exact xER
 obtain rfl:q=ch:=om
 rw[qLnx] at aV;have d4:=Below.refl bv bv;clear cC;have bw:=T _ B;have fg:=G _ B;have fh:=H _ B;have fi:=I _ B;have fj:=J _ B;go_wp2_with fail
 refine zcb (z9y st 5 om c.folder dF _ _ _ (aa.o _ cy)) λdd cd=>?_;have W:=zh (zD B cd);have bE:=zh (zD bD W);have d6:=bE.o;obtain⟨ad,a9⟩:=Ξ (yV st 5 c.folder);rw[a9];have dE:=zh (by rw[<-a9];exact zHa st 5 c.folder:ad<=6);have cl:=zh a9;have fp:IntKind.i64.wrap ((ch:Int)+(ad:Int))=(ch:Int)+(ad:Int):=IntWalk.i64_in _ (oh2 dv.o dE.o);clear a9 cd bw fg fh fi fj d4;by_cases a7:4<ch.length+ad
 ·have HE:=zh (zR5 HNM X ak bL bG aV (by rw[cl.o];exact a7));have eu:decide (4<(ch:Int)+(ad:Int))=true:=θ;clear a7;go_upto_region 14 with fail
  have bz:=d6;exact xER
 have bR:=zh (zTd HNM X ak bL bG aV (by rw[cl.o];exact a7));have eu:decide (4<(ch:Int)+(ad:Int))=false:=η;have aW:=bK.o _ W;have dL:=zh aW;obtain⟨_,bh,_,bi,_,eQ⟩:=TC6 (zB aW).1;have eR:=(zB aW).2;have ff:=aH _ W;have fq:IntKind.i64.wrap (m.seq+1)=m.seq+1:=IntWalk.i64_in _ (oh aT.o);clear a7 aW;go_upto_region 17 with fail
 generalize bZ:World.setCell _ _ _=o;have cr:o.heap[u.heap.size]? =some (.cells #[m.folder,m.seq,.slice b6 m.prev b8,c.other,.slice b7 m.members b9,.int .i64 (m.seq+1),m.gone,m.who] 84 (0,0)):=by
  rw[<-bZ];exact zH (i:=5) _ (zH (i:=3) _ dL rfl) rfl
 have a4:ButB (·=u) dd o:=by rw[<-bZ];exact((ButB.refl (·=u) dd).set _ _ rfl).set _ _ rfl
 have bH:=zh cr;have dt:=zh a4;have aj:=zh (ButB.below bE bE.size (λa af=>by have:=am.o;omega) a4);have M:=zh (ButB.below (zD cg W) (zD cg W).size (λa af=>by have:=am.o;have:=dr.o;omega) a4);have bA:=zh (zD HB3 aj);clear bZ cr a4 bh bi eQ eR ff G H I J ag T aH s0 s1 s2 s3 d8 d9 ea;have cw:=al.on aj;have cv:=bI.on aj;have ao:=ZJ bH;obtain⟨G,H,I,J⟩:=TC4 cw.a;have ag:=cv.at 1 rfl;obtain⟨eE,eF,eG,eH,eI,eJ,eK,eL⟩:=TC8 ao.a;have bk:=λd (e:(bW o d:Prop))=>N.1 d (zD M e)
 have bl:=λd (e:(bW o d:Prop))=>N.2.1 d (zD M e)
 have bm:=λd (e:(bW o d:Prop))=>N.2.2.1 d (zD M e)
 have bn:=λd (e:(bW o d:Prop))=>N.2.2.2.1 d (zD M e)
 have bo:=λd (e:(bW o d:Prop))=>N.2.2.2.2.1 d (zD M e)
 have bp:=λd (e:(bW o d:Prop))=>N.2.2.2.2.2.1 d (zD M e)
 have bq:=λd (e:(bW o d:Prop))=>N.2.2.2.2.2.2 d (zD M e)
 have dC:=ζ (Z6 (New (Old S w) r) o _ f) (zV cq (z9k (zD HB3 L) bA));have dO:=zh (show ZL (New (Old S w) r) o [m.folder,m.seq,.slice b6 m.prev b8,c.other,.slice b7 m.members b9,.int .i64 (m.seq+1),m.gone,m.who] (zFf c m) from by
  unfold zFf;exact zVn (yF dK (z9k (zD HB3 bC) bA)) ci.2 (by have:=aT.o;constructor<;>omega))
 have dX:=zh λd (e:(bW o d:Prop))=>(zM HR λd5 et cN=>⟨.inl ⟨et,cN⟩,(zD bA e).block d5 cN⟩:Z5 (New (Old S w) r) d _ st)
 have bQ:=zh (show(0<=f.turn/\f.turn<=1000000)/\(0<=(zL f).seq/\(zL f).seq<=1000000)/\f.manifests.length<=9000 by
  have cE:=V.o;have cF:=z4q (z2u x);have fl:=bP.sum;rw[X.o] at cF;unfold yA at cF;exact⟨cE.2.2.2.2.1,cE.2.2.2.1,om⟩)
 obtain⟨p,a8⟩:=Ξ (YJ f (zFf c m) c.user);have D:=zh (show p.name=c.folder/\p.wraps=f.wraps/\p.links=f.links/\p.epochs=f.epochs/\p.manifests≠[]/\(zL p).members=m.members from by
  rw[<-a8];refine⟨by rw[<-X.o];exact ck.2.1,rfl,rfl,rfl,by simp[YJ],?_⟩;unfold zL YJ zFf;simp)
 have dN:=zh (by have:=V.o;rw[ak.o] at this;omega:m.members.length<=20);have dH:=zh (by rw[z0m];exact x:k<(setF st k p).folders.length);have aR:=zh (z24 (f:=p) x);have dB:=zh (by rw[z4i bP.o.names x.o (D.o.1.trans ck.o.2.1.symm),if_pos rfl]:Z4 (setF st k p) p.name=some p);have dW:=zh (zN7 (bP.smF om) (k:=k) (f:=p) ⟨by rw[D.o.1];have:=dy.o;omega,by rw[D.o.2.2.2.2.2];have:=dN.o;omega,D.2.2.2.2.1,by rw[D.o.2.2.2.1];have:=V.o;omega⟩);have dw:=zh λ(d:World) (av:List Value) (ez:Z5 (New (Old S w) r) d av (setF st k p))=>z93 (setF st k p) k dH (by rw[z0m];exact cm) (by rw[aR.o];exact dB) dW (by rw[aR.o,D.o.2.1];exact dA.wr) (by rw[aR.o,D.o.2.1];have:=V.o;omega) (by rw[aR.o,D.o.2.2.1];have:=V.o;omega) av d _ ez
 have dD:=zh (by rw[a8]:zG5 (New (Old S w) r) (YJ f (zFf c m) c.user)=zG5 (New (Old S w) r) p);have b2:=bR.o;rw[a8] at b2;have d0:=zh b2;have ai:=ζ (r<=o.heap.size) (qNtx W.size dt.size);have fk:=Below.refl o o;obtain⟨t,cT⟩:=Ξ (yN (setF st k p) k);have bO:=zh cT;clear b2 a8 cw cv ao cT;refine zEC 14 λhHeld=>?_;refine ziU 0 ?_;iterate 10 (refine ztU hHeld ?_;simp only[zA])
 refine zoU ?_;refine zU 12 hHeld ?_;simp only[zA];refine tQa 10 λK hK=>?_;go_simp;go_at_call 109
 refine zcm (dD.o▸z7a f (zFf c m) c.user ci.1 bQ.1 bQ.2.1 bQ.2.2 _ _ _ (New (Old S w) r) (zV dC (Kept.below (zbr.drew) λ_ h=>h)) (yF dO (Kept.below (zbr.drew) λ_ h=>h))) ?_;rintro cD de ⟨⟨_,rfl,cJ⟩,g⟩;have ah:(bW o de:Prop):=zD (zbr.drew) g;clear g hHeld;refine hK.o _ _ ah (λhHeld=>?_);clear hK K;try simp only[zA]
 have dz:=zh (zV cJ (z3c (by first|exact ai|exact qNtx ai (Below.refl o o).drew.size) de));clear cJ;refine tQa 11 λK hK=>?_;go_simp;go_at_call 107
 refine zcm (refwith_any st k x cm p _ _ _ (New (Old S w) r) (dX.o _ (ah)) dz) ?_;rintro cD ca ⟨⟨_,rfl,cQ⟩,g⟩;have aL:(bW o ca:Prop):=zD (ah) g;clear g hHeld;refine hK.o _ _ aL (λhHeld=>?_);clear hK K;try simp only[zA]
 have dU:=zh (zM cQ (z3c (qNtx ai ah.size) ca));clear cQ;refine tQa 13 λK hK=>?_;go_simp;go_at_call 106
 refine zcm (dw.o ca _ dU) ?_;rintro cD az ⟨⟨_,rfl,cS⟩,g⟩;have aN:(bW o az:Prop):=zD (aL) g;clear g hHeld;refine hK.o _ _ aN (λhHeld=>?_);clear hK K;try simp only[zA]
 have bg:=zM cS (z3c (qNtx ai aL.size) az);rw[bO.o] at bg;have dT:=zh bg;obtain⟨aO,br,aP,bs,aQ,bt,rfl⟩:=ZN bg;have aZ:=al.o _ (zD aj aN);have dV:=zh aZ;obtain⟨b5,eB,eC,eD⟩:=zC4 (zB aZ).1;have c1:=(zB aZ).2;clear cS bg aZ;refine tNc 14 ?_
 refine Z7 kr ?_ _;have cn:=zh (z2o dV t.turn (.slice aO t.users br) (.slice aP t.deposits bs) (.slice aQ t.folders bt));generalize b0:World.setCell _ _ _=df;have an:df.heap[w.heap.size]? =some (.cells (aS t aO br aP bs aQ bt) 34 (0,0)):=by rw[<-b0];exact cn.1
 have cz:ButB (·=w) az df:=by rw[<-b0];exact cn.2
 have b5:=ψ an 0 _ rfl;have c1:=(zB an).2;have cU:t.turn=st.turn:=by rw[<-bO.o];rfl
 rw[cU] at an b5;have fr:IntKind.i64.wrap (st.turn+1)=st.turn+1:=IntWalk.i64_in _ (oh cp.o);have dY:=zh (by have:=cp.o;constructor<;>omega:I64 (st.turn+1));have bF:=zh aN;have dM:=zh an;have du:=zh cz;clear b0 eB eC eD cU G H I J ag eE eF eG eH eI eJ eK eL bk bl bm bn bo bp bq an cz aN aL ah hHeld;go_upto_region 19 with fail
 generalize b1:World.setCell _ _ _=aB;have cs:aB.heap[w.heap.size]? =some (.cells #[.int .i64 (st.turn+1),.slice aO t.users br,.slice aP t.deposits bs,.slice aQ t.folders bt] 34 (0,0)):=by rw[<-b1];exact zH (i:=0) _ dM rfl
 have ab:ButB (·=w) az aB:=by rw[<-b1];exact du.set _ _ rfl
 have P:=zD aj bF;have af:=am.o;have aq:=(ab.block _ (zI (HN2.o _ P)) om).trans (HN2.o _ P);have aY:=(ab.block _ (zI (HN3.o _ P)) om).trans (HN3.o _ P);have bS:=(bF.block _ (zI bH)).trans bH;have bc:¬(·=j.heap.size) w.heap.size:=by intro l;have bU:w=j.heap.size:=l;omega
 have bd:¬(·=j.heap.size) u.heap.size:=by intro l;have bU:u=j.heap.size:=l;omega
 have au:=z4c (Y:=λa=>a=j) cs bc;have ar:=z4c (Y:=λa=>a=j) ((ab.block _ (zI bS) om).trans bS) bd;obtain⟨G,H,I,J⟩:=TC4 au.a;have e2:=ar.at 1 rfl;have cx:=ButB.below (zD HB3 P) (zD HB3 P).size (λa af=>om) ab;have b3:=d0.o;rw[bO.o] at b3;have HFIN:=zh (z4b (b:=true) (S:=S) (st':={ t with turn:=st.turn+1 }) (n:=m.seq+1) aq aY HNE cx om om (by have:=aT.o;constructor<;>omega) (a0:= .int .i64 (st.turn+1)) (a1:= .slice aO t.users br) (a2:= .slice aP t.deposits bs) (a3:= .slice aQ t.folders bt) (λd ce cf=>zFc (zB3 (Y:=λa=>a=w\/a=j\/a=ay) (W0:=az) (zM dT (Kept.refl _ λ_ h=> .inl h)) om (oh2 ai.o bF.size) (λa af=>by rcases af with l|l|l<;>omega) ((ab.mono λ_ l=> .inl l).trans (ce.mono λ_ l=> .inr l))) dY));rw[<-b3] at HFIN;have dQ:=zh aq;obtain⟨eS,eT,eU,eV⟩:=zC4 (zB aq).1;have eW:=(zB aq).2;obtain⟨eh,ei,ej,ek,el,em,en⟩:=zC7 (zB aY).1;have eo:=(zB aY).2;have be:=HNE.o;have ey:=Ne.symm HNE;clear bS cs ab cx aq aY b5 c1 b1 af P au ar bc bd b3;have HSQ:=ζ (∀s:World,ButB (·=j) aB s->(λs:World=>ButB (·=j) aB s) s) (λs e=>e);refine Z0 (S:=λs:World=>ButB (·=j) aB s) 6 [] kr (HSQ.o _ (ButB.of zbr.drew)) (λhHeld=>?_);refine ziU 0 ?_;iterate 5 (refine ztU hHeld ?_;simp only[zA])
 refine zoU ?_;refine tQa 5 λK hK=>?_;go_simp;clear hHeld;refine hK.o _ _ (HSQ.o _ ((z2o dQ _ _ _ _).2.trans (ButB.of zbr.drew))) (λhHeld=>?_);clear hK K;try simp only[zA]
 refine tNc 6 ?_
 refine tNc 7 ?_
 exact maD
end Go.Proofs.YtdggplhnfhcieaaGreatDoor
