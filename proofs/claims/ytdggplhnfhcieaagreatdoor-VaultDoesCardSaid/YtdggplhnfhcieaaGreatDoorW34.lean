/- No condition. -/
import Derived.Test.YtdggplhnfhcieaaGreatDoorW32
set_option linter.all false
set_option maxRecDepth 100000
namespace Go.Proofs.YtdggplhnfhcieaaGreatDoor
open Go.Proofs.Tryz Cd Ce List
open Go.RowKit Go.Deep
variable {c:Call} {f:Folder} {k:Nat} {m:Manifest} {p:Prop} {st:State}
def z85 (c:Call):Bool:=decide (c.kind=5)||(decide (c.kind=6)&&decide (2<=c.role))
def zHb (c:Call) (f:Folder):List Wrap:=if z85 c=true then YI f.epochs c.other (decide (2<=c.role)) f.wraps else f.wraps
def zHc (c:Call) (m:Manifest):Manifest:={ m with members:=Ro.withOf m.members c.other c.role,cut:=if c.kind=7 then m.seq+1 else m.cut }
theorem zL2 {f:Folder} {m:Manifest} (d:fo st k=f) (hm:zL f=m) {a:Int} (b:yD c m.members=a) (h:a≠0):yR st c k=(st,ZD a,false):=by
 unfold yR;dsimp only;rw[d,hm,b,if_pos h]
theorem zJ6 {f:Folder} (b:fo st k=f) (hm:zL f=m) (a:yD c m.members=0) (h:Ro.ofOf m.members c.other=c.role):yR st c k=(st,Y2 m.seq,false):=by
 unfold yR;dsimp only;rw[b,hm,a,if_neg dc,if_pos h]
theorem zL3 (g:fo st k=f) (hm:zL f=m) (e:yD c m.members=0) (h:¬Ro.ofOf m.members c.other=c.role):yR st c k=(setF st k (YJ { f with wraps:=zHb c f } (zHc c m) c.user),Y2 (m.seq+1),true):=by
 unfold yR;dsimp only;rw[g,hm,e,if_neg dc,if_neg h];have b:(if c.kind=5\/c.kind=6/\2<=c.role then YZ f c.other (decide (2<=c.role)) else f)={ f with wraps:=zHb c f }:=by
  unfold zHb;have d:z85 c=true↔(c.kind=5\/c.kind=6/\2<=c.role):=by simp[z85]
  by_cases a:c.kind=5\/c.kind=6/\2<=c.role
  ·rw[if_pos a,if_pos (d.2 a)];rfl
  ·rw[if_neg a,if_neg λb=>a (d.1 b)]
 rw[b];rfl
theorem zVl {S:Nat->Prop} {w:World} {l:List Member} {n:Int} {a b i d j u e g h:Value} (hm:ZL S w [a,b,i,d,u,e,g,h] m) (h4:Sl 2 zZ S w j l) (hn:I64 n):ZL S w [a,b,i,d,j,n,g,h] { m with members:=l,cut:=n }:=by
 obtain⟨_,_,e,o,q,r,s,_,_,t⟩:=hm;simp only[cons.injEq,and_true] at e;obtain⟨rfl,rfl,rfl,rfl,rfl,rfl,rfl,rfl⟩:=e;exact⟨_,_,rfl,o,q,r,s,h4,hn,t⟩
theorem mcN (h:p:=by
 rintro e8 w8 ⟨rfl,rfl⟩;rw[<-HX.o,HE.o];go_wp2;go_meet
 case rel=>exact⟨rfl,rfl⟩):p:=h
theorem mbp (h:p:=by
 go_wp2;go_meet
 case rel=>exact⟨by rw[<-HGB.o,HX.o],rfl⟩):p:=h
theorem mco (h:p:=by
 refine ziU 0 ?_;iterate 4 (refine ztU hHeld ?_;simp only[zA])
 refine zoU ?_;refine tQa 4 λK hK=>?_;go_simp;clear hHeld;refine hK.o _ _ (HSQ.o _ ((z2o HPA _ _ _ _).2.trans (ButB.of zbr.drew))) (λhHeld=>?_);clear hK K;try simp only[zA]
 refine tNc 5 ?_
 refine tNc 6 ?_
 exact maD):p:=h
set_option maxHeartbeats 16000000 in
theorem zHd {n:Nat} (st:State) (c:Call) (k:Nat) (au:VInv n st) (hn:n<=40) (hk:ZB st c.folder=some k) (c0:5<=c.kind/\c.kind<=7) (cF cE:List Value) (w:World) (S:Nat->Prop) (h:Z5 S w cF st) (cV:z09 S w cE c):
  Calls prog 61 #[.agg cF.toArray,.agg cE.toArray] w (Ret3 S (yR st c k) w):=by
 have aP:=zh h;have dY:=zh hk;have R:=zh (z0l (yO hk));have ei:=zh au;have dZ:=zh c0;obtain⟨f,av⟩:=Ξ (fo st k);have c1:st.folders[k]? =some f:=av▸ZT R;have aN:=zh av;have dV:=zh (by rw[<-av];exact au.atF R:FInv n (st.users.map User.name) f);have bI:=z5r au om R;rw[av] at bI;have bo:=zh bI;have d0:=zh (by have:=au.few;omega:st.folders.length<=10000);have fY:(k:Int)<(st.folders:Int):=by have:=R.o;omega
 obtain⟨dA,dC,dB,dD,e7,dE,rfl,gm,go,gp,gq,fb,ge,gf,gh,e9,gi,gj,gl,fa⟩:=ZF h;obtain⟨ev,ew,rfl,fH,eA,fG,fI,ey,ez,fJ,fD,fE,fF,ex⟩:=yG cV;obtain⟨M,e,bd,ab,c7,c8,c9,eX,b7,bA,bB,cz,cA,aw⟩:=z8h w (aS st dA dC dB dD e7 dE) (aC c ev ew);have q:=zh b7;have cj:=zh bA;have ck:=zh bB;have cl:=zh cz;have bu:=zh cA;have I:=zh aw;have r:=zh (by rw[<-c9,<-c8,<-c7];simp:w<M.heap.size/\M<e.heap.size/\e<bd.heap.size);have d1:=ζ (bd<ab.heap.size) (zI (bu.o _ zbr));have ee:=zh λV (Z:(bW ab V:Prop))=>zM aP (YL (zD q Z))
 have en:=Below.refl ab ab;obtain⟨dv,dw,dx,dy⟩:=TC4 bA.a;obtain⟨eq,er,es,_,et,ae⟩:=TC6 bB.a;clear bA bB cz cA aw b7;have aK:=ζ (c.user.size<=()/\c.other.size<=()/\I64 c.role) ⟨eA,ey,ez⟩;clear fb e9 ex h cV hk au av bI c0;go_enter func61,ntmps61
 go_wp2_with fail
 refine zcb (z17 st c.folder _ _ _ (ee.o _ en)) λx bj=>?_;have ac:=zh bj;rw[dY.o,show iOf (some k)=(k:Int) from rfl];obtain⟨fd,fl,ft,bU,bZ,bV,b0,bX,b1,bY,b2,bg,bh,dI,fm,fr,rfl,gD,gw,fe,ff,fg,fh,fi,fj,fk,dH,gK,gL,gH,gI,gJ,fs,gx,gy,gz,fn,gA,gB,gC,fp,fu,fv,fw,dJ,gE,gF,gG,fq⟩:=yP fa R (YL (zD q ac));obtain rfl:f=fd:=zsi (c1.symm.trans dI);have bz:=zh dH;obtain⟨ay,da,eB,eI,b8,ds⟩:=zP x (aF f bU bZ bV b0 bX b1 bY b2 bg bh) 74;have cm:=zh (ZJ (zbx da));have ak:=zh (zD bj b8);have d8:=zh ds;have eo:=Below.refl ay ay;have eg:=ζ (Sl 3 yL (Old S w) x (.slice bY f.wraps b2) f.wraps) ⟨_,_,rfl,fu,fv,fw,dJ⟩;obtain⟨aV,aW,aX,aY,aZ,a4,a5⟩:=TC7 cm.a;clear c7 c8 c9 eX b8 dI fm fr dH c1 fs fn fp dJ fq eB eI ds;go_wp2_with fail
 refine zcm (YW f _ ay (Old S w) (zV bz (z23 (zD q ac) (zD q ak)))) ?_;rintro fN o ⟨⟨fM,rfl,a7⟩,bk⟩;obtain⟨m,a8⟩:=Ξ (zL f);rw[a8] at a7;have bt:=zh a8;have d2:=zh a7;obtain⟨bb,bc,di,dj,rfl,f7,gc,f9,ga,gb,e2,f8,eZ,e0,e1,dk,eY,gd⟩:=ZO a7;obtain⟨E,db,eC,eJ,b9,dt⟩:=zP o (aM m bb bc di dj) 84;have cn:=zh (ZJ (zbx db));have cc:=zh (zD bk b9);have ad:=zh (zD ak cc);have aJ:=zh bk;have d9:=zh dt;have cw:=ζ (Sl 2 zZ (Old S w) o (.slice di m.members dj) m.members) ⟨_,_,rfl,eZ,e0,e1,dk⟩;have aQ:=zh (cw.keep ZA dc (z23 (zD q (zD ak aJ)) (zD q ad)));have al:=zh (by have:=bo.o;rw[a8] at this;omega:m.members.length<=1000/\(0<=m.seq/\m.seq<=1000000));have dP:=zh eY;have ep:=Below.refl E E;obtain⟨_,dl,_,_,dm⟩:=TC5 cn.a;have bF:=ad.o;have l:c.kind=5\/c.kind=6\/c.kind=7:=by have:=dZ.o;omega
 have cf:=zh l;obtain⟨G,bJ⟩:=Ξ (yD c m.members);have HE:=zh bJ;have dQ:=zh (by rw[<-bJ];exact zEn c m.members:0<=G/\G<=46);clear a7 a8 e2 dk eC eJ dt bj bk b9 da eo l bJ fe ff fg fh fi fj fk;go_upto_region 5 with fail
 clear db;go_upto_if 24 with fail
 go_cut [10] from 22 to 52 (λe6 F=>e6= .int .i64 G/\E=F)
 case first=>
  rcases cf with l|l|l
  ·have HX:=zh (by unfold yD;rw[if_pos l]:yD c m.members=Ro.shareE (Ro.ofOf m.members c.user) (Ro.ofOf m.members c.other) c.role m.members);have aa:(c.kind==5)=true:=beq_iff_eq.2 l;clear l;go_wp2_with fail
   refine zcm (Ro.refshare_any c.user c.other c.role m.members _ E _ aQ) ?_;exact mcN
  ·have HX:=zh (by unfold yD;rw[if_neg om,if_pos l]:yD c m.members=Ro.changeE (Ro.ofOf m.members c.user) (Ro.ofOf m.members c.other) c.role (Ro.own4 m.members));have aa:(c.kind==5)=false:=ν;have bK:(c.kind==6)=true:=beq_iff_eq.2 l;clear l;go_wp2_with fail
   refine zcm (Ro.refchange_any c.user c.other c.role m.members _ E _ aQ) ?_;exact mcN
  have HX:=zh (by unfold yD;rw[if_neg om,if_neg om]:yD c m.members=Ro.revokeE (Ro.eqS c.user c.other) (Ro.ofOf m.members c.user) (Ro.ofOf m.members c.other) (Ro.own4 m.members));have aa:(c.kind==5)=false:=ν;have bK:(c.kind==6)=false:=ν;clear l;go_wp2_with fail
  refine zcm (Ro.refrevoke_any c.user c.other m.members _ E _ aQ) ?_;exact mcN
 case rest=>
 obtain⟨rfl,bQ⟩:=hcut;subst bQ;have cx:=cj.on bF;have cy:=ck.on bF;obtain⟨b3,b4,b5,b6⟩:=TC4 cx.a;obtain⟨_,_,_,_,fy,fz⟩:=TC6 cy.a;clear cx cy;by_cases ah:G=0
 rotate_left
 ·have am:=zh (zL2 aN bt HE ah);have c3:(G !=0)=true:=bne_iff_ne.2 ah;clear ah;have bD:=cl.o _ ad;have bE:=bu.o _ ad;go_upto_region 11 with fail
  refine zEC 3 λhHeld=>?_;refine ziU 0 ?_;iterate 2 (refine ztU hHeld ?_;simp only[zA])
  refine zoU ?_;refine tQa 2 λK hK=>?_;go_simp;go_at_call 38
  refine zcb (ZZ G _) λj v=>?_;have z:(bW E j:Prop):=zD (zbr.drew) v;have eh:=zh v;clear v hHeld;refine hK.o _ _ z (λhHeld=>?_);clear hK K;try simp only[zA]
  unfold ZV;have B:=(z.block _ (zI bD)).trans bD;have C:=(z.block _ (zI bE)).trans bE;have HFIN:=zh (z1c (b:=false) (S:=S) (st':=st) (a:=ZD G) B C I (zD q (zD ad z)) (Nat.le_of_lt (Nat.lt_trans r.1 r.2.1)) (Nat.le_of_lt (Nat.lt_trans r.1 (Nat.lt_trans r.2.1 r.2.2))) (λV bm aB=>⟨zM aP (z4o aB),ZW (by have:=dQ.o;constructor<;>omega)⟩));rw[<-am.o] at HFIN;obtain⟨dn,dp,dq,dr⟩:=zC4 (zB B).1;have du:=(zB B).2;obtain⟨cH,cJ,cK,cM,cN,cO,cP⟩:=zC7 (zB C).1;have cQ:=(zB C).2;have aw:=I.o;have c2:=Ne.symm I;clear B C bD bE;refine tNc 3 ?_
  refine tNc 4 ?_
  refine tNc 5 ?_
  refine Z7 kr ?_ _;exact mcJ
 subst ah;have c3:((0:Int) !=0)=false:=rfl;go_upto_region 12 with fail
 refine zEC 7 λhHeld=>?_;refine ziU 0 ?_;iterate 4 (refine ztU hHeld ?_;simp only[zA])
 refine zoU ?_;refine ziU 5 ?_;iterate 2 (refine ztU hHeld ?_;simp only[zA])
 refine zoU ?_;refine tQa 4 λK hK=>?_;go_simp;go_at_call 114
 refine zcb (zN2 c.other m.members _ _ (Old S w) (aQ.keep ZA dc (Kept.below (zbr.drew) λ_ h=>h))) λj v=>?_;have z:(bW E j:Prop):=zD (zbr.drew) v;have eh:=zh v;clear v hHeld;refine hK.o _ _ z (λhHeld=>?_);clear hK K;try simp only[zA]
 refine tNc 7 ?_
 refine Z7 kr ?_ _;clear b3 b4 b5 b6 fy fz;have H:=zh (zD ad z);have D:=Below.refl j j;have bC:=cm.on (zD cc z);have P:=cn.on z;have T:=cj.on H;have O:=ck.on H;have bw:=zh bC;have co:=zh P;have cp:=zh T;have bv:=zh O;have B:=cl.o _ H;have C:=bu.o _ H;have HPA:=zh B;have cs:=zh C;have g:=zh (show w<M.heap.size/\M<e.heap.size/\e<bd.heap.size/\bd<ab.heap.size/\ab<=x.heap.size/\x<ay.heap.size/\ay<=o.heap.size/\o<E.heap.size/\E<=j.heap.size/\w.heap.size<=ab.heap.size from
  ⟨r.1,r.2.1,r.2.2,d1,ac.size,d8,aJ.size,d9,z.size,q.size⟩)
 by_cases ag:Ro.ofOf m.members c.other=c.role
 ·have am:=zh (zJ6 aN bt HE ag);have c4:(Ro.ofOf m.members c.other==c.role)=true:=beq_iff_eq.2 ag;have eO:¬(·=e.heap.size) w.heap.size:=by intro s;have aq:w=e.heap.size:=s;have:=g.o;omega
  have eV:¬(·=e.heap.size) o.heap.size:=by intro s;have aq:o=e.heap.size:=s;have:=g.o;omega
  have ap:=z4c (Y:=λd=>d=e) (T _ D) eO;have ao:=z4c (Y:=λd=>d=e) (P _ D) eV;obtain⟨b3,b4,b5,b6⟩:=TC4 ap.a;have fx:=ao.at 1 rfl;have HFIN:=zh (z4b (b:=false) (S:=S) (st':=st) (n:=m.seq) B C I (zD q H) (Nat.le_of_lt (Nat.lt_trans r.1 r.2.1)) (Nat.le_of_lt (Nat.lt_trans r.1 (Nat.lt_trans r.2.1 r.2.2))) (by have:=al.o;constructor<;>omega) (a0:= .int .i64 st.turn) (a1:= .slice dA st.users dC) (a2:= .slice dB st.deposits dD) (a3:= .slice (some ⟨fl,ft,none⟩) st.folders dE) (λV bm aB=>zM aP (z4o aB)));rw[<-am.o] at HFIN;obtain⟨dn,dp,dq,dr⟩:=zC4 (zB B).1;have du:=(zB B).2;obtain⟨cH,cJ,cK,cM,cN,cO,cP⟩:=zC7 (zB C).1;have cQ:=(zB C).2;have aw:=I.o;have c2:=Ne.symm I;clear B C bC P T O ap ao ag dv dw dx dy dl dm aV aW aX aY aZ a4 a5 z;go_upto_region 13 with fail
  have HSQ:=ζ (∀t:World,ButB (·=e) j t->(λt:World=>ButB (·=e) j t) t) (λt Z=>Z);refine Z0 (S:=λt:World=>ButB (·=e) j t) 5 [] kr (HSQ.o _ (ButB.of zbr.drew)) (λhHeld=>?_);exact mco
 have am:=zh (zL3 aN bt HE ag);have c4:(Ro.ofOf m.members c.other==c.role)=false:=beq_eq_false_iff_ne.2 ag;try rw[c4]
 try rw[c3]
 obtain⟨a6,cZ⟩:=Ξ (z85 c);have HGB:=zh cZ;obtain⟨bS,_,_,_,_,ax⟩:=TC6 O.a;clear ag cZ B C bC P T O aV aW aX aY aZ a4 a5 dl dm dv dw dx dy eq er es et ae z;go_upto_region 14 with fail
 go_cut [82] from 70 to 82 (λe5 F=>e5= .bool a6/\j=F)
 case first=>
  rcases cf with l|l|l
  ·have HX:=zh (by unfold z85;rw[Δ l];rfl:z85 c=true);have aa:(c.kind==5)=true:=beq_iff_eq.2 l;clear l;exact mbp
  ·have aa:(c.kind==5)=false:=ν;have bK:(c.kind==6)=true:=beq_iff_eq.2 l;by_cases L:2<=c.role
   ·have HX:=zh (by unfold z85;rw[Δ l,Δ L];simp:z85 c=true);have eM:decide (2<=c.role)=true:=Δ L;clear l L;exact mbp
   have HX:=zh (by unfold z85;rw[Γ (by omega:¬c.kind=5),Γ L];simp:z85 c=false);have eM:decide (2<=c.role)=false:=Γ L;clear l L;exact mbp
  have HX:=zh (by unfold z85;rw[Γ (by omega:¬c.kind=5),Γ (by omega:¬c.kind=6)];rfl:z85 c=false);have aa:(c.kind==5)=false:=ν;have bK:(c.kind==6)=false:=ν;clear l;exact mbp
 case rest=>
 obtain⟨rfl,bQ⟩:=hcut;subst bQ;rename_i em cT;refine cT _ _ ?_;clear cT em bS ax;obtain⟨A,cU⟩:=Ξ (zHb c f);have br:=zh cU;clear cU;go_cut [] from 83 to 90 (λF=>∃(az:Option Addr) (ae:Nat),Hid (F.heap[x.heap.size]? =some (.cells #[f.name,f.turn,.slice bU f.manifests bZ,.slice bV f.epochs b0,.slice bX f.items b1,.slice az A ae,.slice bg f.links bh] 74 (0,0)))/\Hid (Sl 3 yL (New (Old S w) j) F (.slice az A ae) A)/\Hid (ButB (·=x) j F))
 case first=>
  cases a6 with
  | true=>
   have bs:=zh (by rw[<-br.o];unfold zHb;rw[if_pos HGB.o]:A=YI f.epochs c.other (decide (2<=c.role)) f.wraps);obtain⟨aV,aW,aX,aY,aZ,a4,a5⟩:=TC7 bw.a;obtain⟨_,_,_,_,bT,ax⟩:=TC6 bv.a;go_wp2_with fail
   refine zcm (z9v f dV.wr c.other aK.2.1 (decide (2<=c.role)) (oh bo.o) _ j (Old S w) (zV bz (z23 (zD q ac) (zD q H)))) ?_;rintro fO fc ⟨⟨gu,rfl,ba⟩,bl⟩;rw[<-bs.o] at ba;obtain⟨dK,eu,rfl,_⟩:=id ba;have aH:=bw.o fc bl;have dU:=zh aH;have eb:=zh ba;have dL:=zh bl;have eH:=ψ aH 5 _ rfl;have fW:=(zB aH).2;clear ba bl aH aV aW aX aY aZ a4 a5 bT ax;go_wp2;go_meet
   case rel=>exact⟨dK,eu,zh (zH (i:=5) _ dU rfl),zh (eb.keep z08 dc λW u bM=>⟨.inr u,Below.heap_setCell _ _ _ _ λs=>by have s:W=x:=s;have u:j<=W:=u;have:=g.o;omega⟩),zh ((ButB.of dL).set _ _ rfl)⟩
  | false=>
   have bs:=zh (by rw[<-br.o];unfold zHb;rw[if_neg (by rw[HGB.o];decide)]:A=f.wraps);go_wp2;go_meet
   rw[bs.o];exact⟨bY,b2,zh (bw.o _ D),zh (eg.keep z08 dc (z9k (zD q ac) (zD q H))),zh (ButB.refl _ _)⟩
 case rest=>
 obtain⟨az,ae,dS,ej,Q⟩:=hcut;obtain⟨ai,rfl⟩:∃d:World,d=wc:=⟨_,rfl⟩;have bq:=zh (ButB.below (zD q H) (zD q H).size (λd ah=>by have:=g.o;omega) Q);have cv:=ζ (j<=ai.heap.size) Q.size;have eW:¬o=x.heap.size:=by have:=g.o;omega
 have eQ:¬w=x.heap.size:=by have:=g.o;omega
 have eT:¬M=x.heap.size:=by have:=g.o;omega
 have P:=ZJ ((Q.block _ (zI (co.o _ D)) eW).trans (co.o _ D));have T:=ZJ ((Q.block _ (zI (cp.o _ D)) eQ).trans (cp.o _ D));have O:=ZJ ((Q.block _ (zI (bv.o _ D)) eT).trans (bv.o _ D));have d5:=zh P;have ci:=zh T;have aO:=zh O;have cq:=zh ((Q.block _ (zI HPA) (oh g.o)).trans HPA);have ct:=zh ((Q.block _ (zI cs) (oh g.o)).trans cs);have HFD:=zh (ZJ dS);have ed:=zh (cw.keep ZA dc (z23 (zD q (zD ak aJ)) bq));have J:=Below.refl ai ai;have dh:=P.at 4 rfl;obtain⟨_,_,_,_,bT,ax⟩:=TC6 O.a;clear P T O;go_wp2_with fail
 refine zcm (Ro.refwith_any m.members c.other c.role aK.2.1 aK.2.2 _ ai (Old S w) ed (oh al.o)) ?_;rintro fP be ⟨⟨gv,rfl,bN⟩,bn⟩;obtain⟨bi,bH,rfl,_⟩:=id bN;have aR:=d5.o be bn;have d3:=zh aR;have ec:=zh bN;have dM:=zh bn;have e3:=ψ aR 4 _ rfl;have e4:=(zB aR).2;clear bN bn aR dh bT ax;go_upto_region 17 with fail
 generalize bP:World.setCell _ _ _=bf;have aT:bf.heap[o.heap.size]? =some (.cells #[m.folder,m.seq,.slice bb m.prev bc,m.parent,.slice bi (Ro.withOf m.members c.other c.role).length bH,m.cut,m.gone,m.who] 84 (0,0)):=by
  rw[<-bP];exact zH (i:=4) _ d3 rfl
 have bG:ButB (·=o) be bf:=by rw[<-bP];exact(ButB.refl (·=o) be).set _ _ rfl
 have cg:=zh aT;have cd:=ζ (ButB (·=o) ai bf) ((ButB.of dM).trans bG);have dN:=zh bG;have eR:¬M=o.heap.size:=by have:=g.o;omega
 have cS:=(cd.block _ (zI (aO.o _ J)) eR).trans (aO.o _ J);have bS:=ψ cS 0 _ rfl;obtain⟨_,eD,_,_,_,eF⟩:=TC6 (zB aT).1;have eG:=(zB aT).2;obtain⟨X,cX⟩:=Ξ (if c.kind=7 then m.seq+1 else m.cut);have aL:=zh cX;have fZ:IntKind.i64.wrap (m.seq+1)=m.seq+1:=IntWalk.i64_in _ (oh al.o);clear bP aT bG cS cX e3 e4;go_upto_if 101 with fail
 go_cut [] from 99 to 105 (λF=>Hid (F.heap[o.heap.size]? =some (.cells #[m.folder,m.seq,.slice bb m.prev bc,m.parent,.slice bi (Ro.withOf m.members c.other c.role).length bH,X,m.gone,m.who] 84 (0,0)))/\Hid (ButB (·=o) bf F))
 case first=>
  by_cases af:c.kind=7
  ·have aa:(c.kind==7)=true:=beq_iff_eq.2 af;have HX:=zh (by rw[<-aL.o,if_pos af]:m.seq+1=X);clear af;go_wp2;go_meet
   rw[<-HX.o];exact⟨zh (zH (i:=5) _ cg rfl),zh ((ButB.refl _ _).set _ _ rfl)⟩
  have aa:(c.kind==7)=false:=beq_eq_false_iff_ne.2 af;have HX:=zh (by rw[<-aL.o,if_neg af]:m.cut=X);clear af;go_wp2;go_meet
  rw[<-HX.o];exact⟨cg,zh (ButB.refl _ _)⟩
 case rest=>
 obtain⟨d4,ce⟩:=hcut;obtain⟨y,rfl⟩:∃d:World,d=wc:=⟨_,rfl⟩;have N:=zh (cd.trans ce);have aI:=zh (ButB.below bq bq.size (λd ah=>by have:=g.o;omega) N);have eS:¬M=o.heap.size:=by have:=g.o;omega
 have eP:¬w=o.heap.size:=by have:=g.o;omega
 have eU:¬x=o.heap.size:=by have:=g.o;omega
 have cB:=(N.block _ (zI (ci.o _ J)) eP).trans (ci.o _ J);have ca:=(N.block _ (zI (aO.o _ J)) eS).trans (aO.o _ J);have cb:=(N.block _ (zI (HFD.o _ J)) eU).trans (HFD.o _ J);have cr:=zh ((N.block _ (zI cq) (oh g.o)).trans cq);have cu:=zh ((N.block _ (zI ct) (oh g.o)).trans ct);have dO:=zh (by rw[<-aL.o];split;(have:=al.o;constructor<;>omega);exact dP:I64 X);have dR:=ζ (ButB (·=o) be y) (dN.trans ce);have dW:=zh (show Z6 (New (Old S w) j) y [f.name,f.turn,.slice bU f.manifests bZ,.slice bV f.epochs b0,.slice bX f.items b1,.slice az A ae,.slice bg f.links bh] { f with wraps:=A } from by
  have c5:=zV bz (z9k (U:=j) (zD q ac) aI);have eK:Sl 3 z0g (New (Old S w) j) y (.slice bg f.links bh) f.links:=by
   obtain⟨_,_,_,_,_,s,_,_,_,_,_,_,eL⟩:=c5;simp only[cons.injEq,and_true] at s;obtain⟨_,_,_,_,_,_,rfl⟩:=s;exact eL
  exact z9i c5 (ej.keep z08 dc (N.kept λW u=>⟨u,λs=>by
   have:=g.o;rcases u with u|u
   ·have:=u.2;omega
   ·omega⟩)) eK)
 have d6:=zh (show ZL (New (Old S w) j) y [m.folder,m.seq,.slice bb m.prev bc,m.parent,.slice bi (Ro.withOf m.members c.other c.role).length bH,X,m.gone,m.who] (zHc c m) from by
  unfold zHc;rw[aL.o];exact zVl (yF d2 (z9k (zD q (zD ak aJ)) aI)) (ec.keep ZA dc (dR.kept λW u=>by
   have u:ai<=W:=u;have:=cv.o;have:=g.o;exact⟨.inr om,om⟩)) dO)
 have dd:¬(·=e.heap.size) w.heap.size:=by intro s;have aq:w=e.heap.size:=s;have:=g.o;omega
 have de:¬(·=e.heap.size) M.heap.size:=by intro s;have aq:M=e.heap.size:=s;have:=g.o;omega
 have df:¬(·=e.heap.size) x.heap.size:=by intro s;have aq:x=e.heap.size:=s;have:=g.o;omega
 have dg:¬(·=e.heap.size) o.heap.size:=by intro s;have aq:o=e.heap.size:=s;have:=g.o;omega
 have ap:=z4c (Y:=λd=>d=e) cB dd;have cC:=z4c (Y:=λd=>d=e) ca de;have cD:=z4c (Y:=λd=>d=e) cb df;have ao:=z4c (Y:=λd=>d=e) d4.o dg;obtain⟨b3,b4,b5,b6⟩:=TC4 ap.a;have fx:=cC.at 1 rfl;obtain⟨fQ,fR,fS,fT,fU,eH,fV⟩:=TC7 cD.a;obtain⟨f0,f1,f2,f3,dh,f4,f5,f6⟩:=TC8 ao.a;have ef:=zh λV (Z:(bW y V:Prop))=>(zM aP λW u bM=>⟨.inl ⟨u,bM⟩,(zD aI Z).block W bM⟩:Z5 (New (Old S w) j) V _ st)
 have bp:=ζ (j<=y.heap.size) (qNtx cv N.size);have bx:=zh (show(0<=f.turn/\f.turn<=1000000)/\(0<=(zL f).seq/\(zL f).seq<=1000000)/\f.manifests.length<=9000 by
  have cR:=bo.o;have L:=z4q (z2u R);have fX:=ei.sum;rw[aN.o] at L;unfold yA at L;exact⟨cR.2.2.2.2.1,cR.2.2.2.1,om⟩)
 obtain⟨ar,bL⟩:=Ξ (YJ { f with wraps:=A } (zHc c m) c.user);have dX:=zh (by rw[bL]:zG5 (New (Old S w) j) (YJ { f with wraps:=A } (zHc c m) c.user)=zG5 (New (Old S w) j) ar);have bR:=am.o;rw[br.o,bL] at bR;have ek:=zh bR;clear bR bL cB ca cb ap cC cD ao dd de df dg bS eD eF eG J D ep bF;go_upto_region 19 with fail
 have HSQ:=ζ (∀t:World,ButB (·=e) y t->(λt:World=>ButB (·=e) y t) t) (λt Z=>Z);refine Z0 (S:=λt:World=>ButB (·=e) y t) 13 [] kr (HSQ.o _ (ButB.of zbr.drew)) (λhHeld=>?_);refine ziU 0 ?_;iterate 6 (refine ztU hHeld ?_;simp only[zA])
 refine zoU ?_;refine ziU 8 ?_;iterate 4 (refine ztU hHeld ?_;simp only[zA])
 refine zoU ?_;refine tQa 6 λK hK=>?_;go_simp;go_at_call 109
 refine zcm (dX.o▸z7a { f with wraps:=A } (zHc c m) c.user aK.1 bx.1 bx.2.1 bx.2.2 _ _ _ (New (Old S w) j) (zV dW (Kept.below (zbr.drew) λ_ h=>h)) (yF d6 (Kept.below (zbr.drew) λ_ h=>h))) ?_;rintro eE dF ⟨⟨fK,rfl,cY⟩,v⟩;have aG:(bW y dF:Prop):=zD (zbr.drew) v;clear v hHeld;refine hK.o _ _ (HSQ.o _ (ButB.of aG)) (λhHeld=>?_);clear hK K;try simp only[zA]
 have dT:=zh (zV cY (z3c (by first|exact bp|exact qNtx bp (Below.refl y y).drew.size) dF));clear cY;refine tQa 7 λK hK=>?_;go_simp;go_at_call 107
 refine zcm (refwith_any st k R d0 ar _ _ _ (New (Old S w) j) (ef.o _ (aG)) dT) ?_;rintro eE dG ⟨⟨fL,rfl,c6⟩,v⟩;have aj:(bW y dG:Prop):=zD (aG) v;clear v hHeld;refine hK.o _ _ (HSQ.o _ (ButB.of aj)) (λhHeld=>?_);clear hK K;try simp only[zA]
 have a9:=zM c6 (z3c (qNtx bp aG.size) dG);clear c6;obtain⟨dz,bO⟩:=Ξ (setF st k ar);rw[bO] at a9;have ea:=zh a9;obtain⟨fA,gr,fB,gs,fC,gt,rfl⟩:=ZN a9;have el:=zh (by rw[ek.o,bO]:yR st c k=(dz,Y2 (m.seq+1),true));have an:=(aj.block _ (zI cr)).trans cr;have aU:=(aj.block _ (zI cu)).trans cu;have d7:=zh an;have HFIN:=zh (z4b (b:=true) (S:=S) (st':=dz) (n:=m.seq+1) an aU I (zD aI aj) (Nat.le_of_lt (Nat.lt_trans r.1 r.2.1)) (Nat.le_of_lt (Nat.lt_trans r.1 (Nat.lt_trans r.2.1 r.2.2))) (by have:=al.o;constructor<;>omega) (λV bm aB=>z27 ea (oh g.o) (oh g.o) (oh g.o) bm));rw[<-el.o] at HFIN;obtain⟨dn,dp,dq,dr⟩:=zC4 (zB an).1;have du:=(zB an).2;obtain⟨cH,cJ,cK,cM,cN,cO,cP⟩:=zC7 (zB aU).1;have cQ:=(zB aU).2;have aw:=I.o;have c2:=Ne.symm I;clear an aU a9 bO;refine tQa 12 λK hK=>?_;go_simp;clear hHeld;refine hK.o _ _ (HSQ.o _ ((ButB.of aj).trans (z2o d7 _ _ _ _).2)) (λhHeld=>?_);clear hK K;try simp only[zA]
 refine tNc 13 ?_
 refine tNc 14 ?_
 refine Z7 kr ?_ _;exact mcJ
end Go.Proofs.YtdggplhnfhcieaaGreatDoor
