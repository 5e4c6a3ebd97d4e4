/- No condition. -/
import Derived.Test.YtdggplhnfhcieaaGreatDoorW24
set_option linter.all false
set_option maxRecDepth 100000
namespace Go.Proofs.YtdggplhnfhcieaaGreatDoor
open Go.Proofs.Tryz Cd Ce List
open Go.RowKit Go.Deep
variable {S:Nat->Prop} {p:Prop} {w:World}
def z2x (eps:List Epoch) (b:Member->Bool) (L:List Wrap) (a:List Member):List Wrap:=a.foldl (λl m=>YI eps m.name (b m) l) L
theorem zFa (a:Member->Bool) (f:Folder):∀(b:List Member) (L:List Wrap),Y5 a { f with wraps:=L } b={ f with wraps:=z2x f.epochs a L b }
 | [],L=>rfl
 | m::r,L=>by
  show Y5 a { f with wraps:=YI f.epochs m.name (a m) L } r=_
  rw[zFa a f r];rfl
theorem zG8 (eps:List Epoch) (a:Member->Bool) (L:List Wrap) (b:List Member) (m:Member):z2x eps a L (b++[m])=YI eps m.name (a m) (z2x eps a L b):=by unfold z2x;simp
theorem zB0 (eps:List Epoch) (a:Member->Bool):∀(b:List Member) {L:List Wrap},z0v L->z0v (z2x eps a L b)/\(z2x eps a L b).length<=L.length+b.length
 | [],L,h=>⟨h,by simp[z2x]⟩
 | m::r,L,h=>by
  obtain⟨d,c⟩:=zB0 eps a r (z6u eps m.name (a m) h);have:=zD4 eps m.name (a m) L;exact⟨d,by simp only[length_cons];unfold z2x at c⊢;simp only[foldl_cons] at c⊢;omega⟩
theorem YO {p:Addr} {v:Value} (h:w.cell? p=some v):∀W,((bW w W:Prop))->W.cell? p=some v:=λ_ hb=>(hb.cell (zF h)).trans h
abbrev Two (S:Nat->Prop) (w:World) (g:Nat):Nat->Prop:=λa=>Old S w a\/g<a
theorem ZN {S:Nat->Prop} {w:World} {g:List Value} {st:State} (h:Z5 S w g st):∃a d b e c f,g=[.int .i64 st.turn,.slice a st.users d,.slice b st.deposits e,.slice c st.folders f]:=by
 obtain⟨a,d,b,e,c,f,i,_⟩:=ZF h;exact⟨a,d,b,e,c,f,i⟩
theorem zQk {S:Nat->Prop} {w:World} {g b:Nat} (hg:w<g) (hb:Two S w g b):¬b=g:=by
 rcases hb with hb|hb
 ·have:=hb.2;omega
 omega
theorem zN0 {a w1 wr:World} {b:Nat} (hz:w<a.heap.size/\a<w1.heap.size) (h1:w<=w1.heap.size) (h2:w1<=wr.heap.size) (h3:w<=wr.heap.size) (hb:New (Two S w w1) wr b):New S w b/\¬b=a:=by
 rcases hb with (hb|hb)|hb
 ·exact⟨.inl hb.1,by have:=hb.2;omega⟩
 ·exact⟨.inr om,om⟩
 exact⟨.inr om,om⟩
theorem zT1 (a b:Int) (s:Nm):∀u∈([a,s,b]:List Value),u.oneCell'=true:=λu c=>by
 simp at c;rcases c with rfl|rfl|rfl<;>rfl
theorem zI6 {st':State} {b w1 wr c d:World} {a:List Value} (hz:w<b.heap.size/\b<w1.heap.size) (h1:w<=w1.heap.size) (h2:w1<=wr.heap.size) (h3:w<=wr.heap.size) (hs:Z5 (New (Two S w w1) wr) c a st') (hb:(bW w c:Prop)) (hp:ButB (·=b) c d):zAu S st' w (.returned (.agg a.toArray)) d:=
 ⟨⟨a,rfl,zM hs (hp.kept λe hb=>zN0 hz h1 h2 h3 hb)⟩,ButB.below hb hb.size (λg f=>om) hp⟩
theorem z9i {f:Folder} {L:List Wrap} {c:List Link} {a b e g i j k s t:Value} (h:Z6 S w [a,b,e,g,i,s,t] f) (h5:Sl 3 yL S w j L) (r:Sl 3 z0g S w k c):Z6 S w [a,b,e,g,i,j,k] { f with wraps:=L,links:=c }:=by
 obtain⟨_,_,_,_,_,d,l,m,n,o,q,_⟩:=h;simp only[cons.injEq,and_true] at d;obtain⟨rfl,rfl,rfl,rfl,rfl,rfl,rfl⟩:=d;exact⟨_,_,_,_,_,rfl,l,m,n,o,q,h5,r⟩
theorem maz (h:p:=by
 go_quiet (fail)
 go_wp2;go_roundw
 case rel=>exact⟨q+1,false,om,rfl,gn,(by rw[HE.o,HT.o];exact zh rfl),Below.trans bq ⟨rfl,rfl,rfl,znl _,λ_ _=>rfl⟩⟩
 case measure=>exact qMx):p:=h
theorem mba (h:p:=by
 go_quiet (fail)
 go_wp2;go_roundw
 case rel=>exact⟨q+1,true,om,rfl,gn,(by rw[HE.o,Bool.true_or];exact zh rfl),Below.trans bq ⟨rfl,rfl,rfl,znl _,λ_ _=>rfl⟩⟩
 case measure=>exact qMx):p:=h
theorem mbf (h:p:=by
 go_quiet (fail)
 go_wp2;go_roundw
 case rel=>exact⟨q+1,true,om,rfl,gn,(by rw[HE.o,HT.o];exact zh rfl),Below.trans bq ⟨rfl,rfl,rfl,znl _,λ_ _=>rfl⟩⟩
 case measure=>exact qMx):p:=h
theorem mbl (h:p:=by
 go_wp2_with ((try simp only[φ]);exact zKf rfl rfl HP.1 rfl HFIN)):p:=h
set_option maxHeartbeats 16000000 in
theorem z93 (st:State) (k:Nat) (hk:k<st.folders) (hl:st.folders.length<=10000) (c4:Z4 st (fo st k).name=some (fo st k)) (dd:SmF st) (hr:z0v (fo st k).wraps) (e8:(fo st k).wraps.length<=2000) (c9:(fo st k).links.length<=5000) (cQ:List Value) (w:World) (S:Nat->Prop) (h:Z5 S w cQ st):
  Calls prog 106 #[.agg cQ.toArray,k] w (zAu S (yN st k) w):=by
 have ea:=zh h;have ef:=zh dd;have dT:=zh c4;have cy:=zh hl;obtain⟨dl,dp,dm,dq,dn,dr,rfl,_,_,_,_,fr,_,_,_,fq,gt,gu,gv,ds⟩:=ZF h;obtain⟨b,bG⟩:=Ξ (fo st k);have c7:st.folders[k]? =some b:=bG▸ZT hk;rw[bG] at hr e8 c9;have bm:=zh bG;have ed:=zh hr;obtain⟨b5,de,eu,eF,cm,di⟩:=zP w (aS st dl dp dm dq dn dr) 34;obtain⟨d,bN,ev,eG,cn,dj⟩:=zP b5 z6t 34;have bu:=ZJ (by rw[<-bN,<-de];exact zR _ (zJ _ rfl):d.heap[w.heap.size]? =some (.cells (aS st dl dp dm dq dn dr) 34 (0,0)));have cH:=ZJ (zbx bN);have cg:=zD cm cn;have B:=zh cg;have d4:=zh bu;have cA:=zh cH;have am:=zh λer (eR:(bW d er:Prop))=>zM ea (YL (zD B eR))
 have ep:=Below.refl d d;obtain⟨fk,fl,fm,fn⟩:=TC4 bu.a;have aL:=ζ (w<b5.heap.size/\b5<d.heap.size) ⟨di,dj⟩;have gm:(k:Int)<(st.folders:Int):=om
 obtain⟨fO,_,_,U,Y,V,Z,W,aa,b6,b7,X,ab,dF,fX,f3,rfl,_,_,fQ,fR,fS,fT,fU,fV,fW,dE,_,_,_,_,_,f4,_,_,_,fY,_,_,_,fZ,f5,f6,f7,dH,f0,f1,f2,dG⟩:=yP ds hk (YL B);obtain rfl:b=fO:=zsi (c7.symm.trans dF);have bt:=zh dE;obtain⟨t,c1⟩:=Ξ (zY st 4 b.name);have al:=zh c1;obtain⟨fL,df,cR,eH,co,dk⟩:=zP d (aF b U Y V Z W aa b6 b7 X ab) 74;have d5:=zh (zbx df);have ew:=cR 0 _ rfl;have dL:=zh co;have d9:=zh dk;have el:=ζ (Sl 3 yL (Old S w) d (.slice b6 b.wraps b7) b.wraps) ⟨_,_,rfl,f5,f6,f7,dH⟩;have aZ:=ζ (Sl 3 z0g (Old S w) d (.slice X b.links ab) b.links) ⟨_,_,rfl,f0,f1,f2,dG⟩;clear bu cH eu eF ev eG cR eH cm cn di dj dF fX f3 dE c7 dd hr c4 hl cg h c1 f4 fY fZ dH dG fr fq;go_enter func106,ntmps106
 go_wp2_with fail
 refine zcm (z4v st b.name _ fL _ (am.o _ co)) ?_;rintro e fM ⟨⟨_,rfl,a4⟩,ci⟩;rw[al.o] at a4;obtain⟨_,_,rfl,_,e0,_,a4⟩:=a4;unfold maxLen at e0;have bg:=zh (zD dL ci);have d6:=zh ((ci.block _ dk).trans d5);have dO:=zh (z2c st 4 b.name);have c3:=z1u dT 3;clear fQ fR fS fT fU fV fW ew de bN df ep;go_wp2_with fail
 have eU:1<=t.length:=by rw[<-al.o,<-bm.o,c3];simp
 have gj:t.length<=4:=by rw[<-al.o];exact dO
 have ek:=zh (el.keep (S':=Two S w d) z08 dc λf l _=>⟨.inl l,bg.block f (zll l.2 B.size)⟩);clear c3;go_loopw [7] (λy wr=>∃(o:Nat) (g:List Wrap) (H:Option Addr) (I:Nat),1<=o/\o<=t/\y= .int .i64 o/\g.length<=2000+100*o/\Hid (z0v g)/\Hid (YA st (t.drop o) { b with wraps:=g }=YA st (t.drop 1) b)/\Hid (wr.heap[d.heap.size]? =some (.cells #[b.name,b.turn,.slice U b.manifests Y,.slice V b.epochs Z,.slice W b.items aa,.slice H g I,.slice X b.links ab] 74 (0,0)))/\Hid (Sl 3 yL (Two S w d) wr (.slice H g I) g)/\ButB (·=d) fM wr) (λy _=>t.length-(intOf y).toNat)
 case atStart=>exact⟨1,b.wraps,b6,b7,om,eU,gn,om,ed,rfl,d6,ek,ButB.refl _ _⟩
 obtain⟨E,rfl⟩:=ξ wr;obtain⟨o,g,H,I,_,_,rfl,_,cE,bl,bj,a0,bE⟩:=hrel;have G:=ButB.below bg bg.size (λr aj=>om) bE;have af:=zh (zD B G);obtain⟨ao,ap,aq,N,ar,au,O⟩:=zC7 (zB bj).1;obtain⟨_,_,cS,_⟩:=a0.o;simp only[Value.slice.injEq,true_and] at cS;obtain⟨rfl,rfl⟩:=cS;have cx:=ζ (Kept (Old S w) (Two S w d) d E) (λf l _=>⟨.inl l,G.block f (zll l.2 B.size)⟩);have dU:=zh (show Z6 (Two S w d) E [b.name,b.turn,.slice U b.manifests Y,.slice V b.epochs Z,.slice W b.items aa,.slice H g I,.slice X b.links ab] { b with wraps:=g } from by
  exact z9i (zV bt cx) a0 (aZ.keep z1b dc cx))
 by_cases eZ:o<t
 rotate_left
 ·obtain rfl:o=t:=om
  have HE:=zh (by unfold yN;rw[bm.o,al.o,<-bl.o,drop_length];rfl:yN st k=setF st k { b with wraps:=g });go_wp2_with fail
  refine zcm (refwith_any st k hk cy { b with wraps:=g } _ _ E (Two S w d) (zM (am.o _ G) (Kept.refl _ λ_ h=> .inl h)) dU) ?_;rintro e J ⟨⟨et,rfl,P⟩,R⟩;rw[<-HE.o] at P;have bs:=zh P;obtain⟨bd,aO,be,aP,bf,ah,rfl⟩:=ZN P;have L:=cA.o J (zD G R);have bo:=zh L;obtain⟨ff,fg,fh,fi⟩:=zC4 (zB L).1;have fj:=(zB L).2;have aV:=zh (zD af R);clear L P ao ap aq N ar au O;go_wp2;try simp only[φ]
  obtain⟨aH,ak⟩:=z2o bo (.int .i64 (yN st k).turn) (.slice bd (yN st k).users.length aO) (.slice be (yN st k).deposits.length aP) (.slice bf (yN st k).folders.length ah);exact zKf rfl rfl aH rfl ⟨⟨_,rfl,zM bs (ak.kept λf l=>zN0 aL B.size G.size af.size l)⟩,ButB.below aV aV.size (λr aj=>by have:=aL.o;omega) ak⟩
 obtain⟨u,a6⟩:∃u,t[o]? =some u:=⟨_,qLgx eZ⟩;obtain⟨cM,fe,_,rfl,_,_,bF,cZ⟩:=a4 o u a6;obtain⟨rfl,gz,_⟩:=z48 cZ;have dt:=(World.cell?_of_block (a:=⟨cM,fe+o*2,none⟩) (bE.block cM (zF (bF 0 _ rfl)) (oh d9.o))).trans (bF 0 _ rfl);obtain⟨c,bH⟩:=z3y (st:=st) (n:=4) (s:=b.name) (x:=u) (by rw[al.o];exact zmg a6);obtain⟨e9,c6,a3⟩:=z2w bH;have eW:=(zge a3).1;obtain⟨ft,_,_,bU,b0,bV,b1,bX,b2,bY,b3,bZ,b4,dC,fB,fG,fC,_,_,du,dv,dw,dx,dy,dz,dA,dB,fI,_,_,_,_,fH,_,_,_,fD,_,_,_,fE,_,_,_,fJ,_,_,_,fF⟩:=yP ds eW (YL af);cases fC
 obtain rfl:c=ft:=zsi (a3.symm.trans dC);have cp:=zh c6;have bn:=zh bH;have dX:=zh a3;have eh:=zh dB;have cv:=zh (show t.drop o=u::t.drop (o+1) by
  obtain⟨eM,eO⟩:=zge a6;rw[drop_eq_getElem_cons eM,eO])
 have gl:(e9:Int)<(st.folders:Int):=om
 have go:(o:Int)<(t:Int):=om
 have cJ:=d4.on G;obtain⟨f9,ga,gb,gc⟩:=TC4 cJ.a;have fs:=YO dt;have fu:=YO du;have fv:=YO dv;have fw:=YO dw;have fx:=YO dx;have fy:=YO dy;have fz:=YO dz;have fA:=YO dA;clear cJ bF cZ bH c6 a3 dC fB fG dB a6 fH fD fE fJ fF dt du dv dw dx dy dz dA;go_upto_region 6 with fail
 go_cut [8] from 23 to 115 (λfp az=>∃a2,fp= .pointer (some ⟨a2,0,none⟩)/\E.heap.size<=a2/\Hid (az.heap[a2]? =some (.cells (aF c bU b0 bV b1 bX b2 bY b3 bZ b4) 74 (0,0)))/\Hid (bW E az))
 case first=>
  refine zEC 12 λv=>?_;refine ziU 0 ?_;iterate 8 (refine ztU v ?_;simp only[zA])
  refine zoU ?_;refine z4p (i:=8) (j:=11) kr rfl rfl (λm A=>?_) (λm A=>?_)
  ·go_simp;go_at_call 21
   refine zcb (z18 st u.name _ _ _ (am.o _ (zD G (zbr.drew)))) λay M=>?_;have K:(bW E ay:Prop):=zD (zbr.drew) M;clear M v;refine A.o _ _ K (λv=>?_);clear A m;try simp only[zA]
   rw[cp.o];refine ziU 9 ?_;iterate 2 (refine ztU v ?_;simp only[zA])
   refine zoU ?_;refine tQa 11 λm A=>?_;go_simp;generalize bP:World.alloc _ _=J;have ae:=(by rw[<-bP];exact Below.alloc (K) (K).size _:(bW E J:Prop));clear v;refine A.o _ _ ae (λv=>?_);clear A m;try simp only[zA]
   have ct:=zh (zbx bP);have F:=ct.o;obtain⟨b8,b9,ca,cb,cc,cd,ce⟩:=zC7 (zB F).1;have cf:=(zB F).2;clear bP;refine tNc 12 ?_
   refine Z7 kr ?_ _;obtain⟨aH,ak⟩:=ZC ct c.name c.turn (.slice bU c.manifests b0) (.slice bV c.epochs b1) (.slice bX c.items b2) (.slice bY c.wraps b3) (.slice bZ c.links b4);have bi:=zh (ButB.below ae ae.size (λr aj=>by have:=K.size;have e:r=ay:=aj;omega) ak);have d2:=ζ (E<=ay.heap.size) K.size;clear b8 b9 ca cb cc cd ce cf F;go_wp2;go_meet
   case rel=>exact⟨ay,rfl,d2,aH,bi⟩
  go_simp;generalize bO:World.drew (World.alloc _ _)=ay;have K:=(by rw[<-bO];exact(Below.alloc zbr (znl _) _).drew:(bW E ay:Prop));clear v;refine A.o _ _ K (λv=>?_);clear A m;try simp only[zA]
  have cs:=zh (zbd bO);clear bO;refine tQa 8 λm A=>?_;go_simp;go_at_call 21
  refine zcb (z18 st u.name _ _ _ (am.o _ (zD G (K)))) λJ M=>?_;have ae:(bW E J:Prop):=zD (K) M;have eg:=zh M;clear M v;refine A.o _ _ ae (λv=>?_);clear A m;try simp only[zA]
  rw[cp.o];refine ziU 9 ?_;iterate 2 (refine ztU v ?_;simp only[zA])
  refine zoU ?_;have F:=zh ((eg.block _ (zI cs)).trans cs);obtain⟨b8,b9,ca,cb,cc,cd,ce⟩:=zC7 (zB F).1;have cf:=(zB F).2;refine tNc 12 ?_
  refine Z7 kr ?_ _;obtain⟨aH,ak⟩:=ZC F c.name c.turn (.slice bU c.manifests b0) (.slice bV c.epochs b1) (.slice bX c.items b2) (.slice bY c.wraps b3) (.slice bZ c.links b4);have bi:=zh (ButB.below ae ae.size (λr aj=>by have e:r=E:=aj;omega) ak);clear b8 b9 ca cb cc cd ce cf;go_wp2;go_meet
  case rel=>exact⟨E,rfl,znl _,aH,bi⟩
 obtain⟨a2,rfl,_,bh,en⟩:=hcut;have bv:=en.o;have aY:=ζ (c.name=u.name) (z2v bn);have av:=ψ bh 0 _ rfl;clear fs fu fv fw fx fy fz fA ao ap aq N ar au O;go_wp2_with fail
 refine zcb (zBv st c.name _ wc _ (am.o _ (zD G bv))) λba ck=>?_;rw[aY.o];have ad:=zD bv ck;have aX:=zh ((ck.block _ (zI bh)).trans bh);have aJ:=zh ((ad.block _ (zI bj)).trans bj);clear av
 cases a5:yH st u.name with
 | true=>
  have aI:=zh (show YA st (t.drop o) { b with wraps:=g }=YA st (t.drop (o+1)) { b with wraps:=z2x b.epochs (λ_=>false) g (zL c).members } by
   rw[cv.o,YA,if_pos a5,bn.o,Option.getD_some,zFa])
  clear a5;obtain⟨av,aO,aP,ah,eJ,eK,aQ⟩:=zC7 (zB aX).1;have gr:=z2d;go_wp2_with fail
  refine zcm (YW c _ ba (Old S w) (zV eh (z23 af (zD af ad)))) ?_;rintro e fN ⟨⟨_,rfl,bK⟩,cl⟩;obtain⟨z,bL⟩:=Ξ (zL c);rw[bL] at bK aI;have cz:=ζ (z.members.length<=100) (bL▸(ef.o c (zmg dX)).2.1);obtain⟨_,_,_,_,rfl,_,_,_,_,_,fb,_,_,_,_,fa,_⟩:=ZO bK;have aU:=zD ad cl;have dK:=zh (zD af aU);have dS:=zh ((cl.block _ (zI aJ)).trans aJ);have ee:=zh (a0.keep (S':=Two S w d) z08 dc (Kept.below aU λ_ h=>h));clear av aO aP ah eJ eK aQ bL bK fb;go_wp2_with fail
  go_loopw [13] (λy aT=>∃(q:Nat) (H:Option Addr) (I:Nat),q<=z.members/\y= .int .i64 q/\Hid (aT.heap[d.heap.size]? =some (.cells #[b.name,b.turn,.slice U b.manifests Y,.slice V b.epochs Z,.slice W b.items aa,.slice H (z2x b.epochs (λ_=>false) g (z.members.take q)).length I,.slice X b.links ab] 74 (0,0)))/\Hid (Sl 3 yL (Two S w d) aT (.slice H (z2x b.epochs (λ_=>false) g (z.members.take q)).length I) (z2x b.epochs (λ_=>false) g (z.members.take q)))/\ButB (·=d) fN aT) (λy _=>z.members.length-(intOf y).toNat)
  case atStart=>exact⟨0,H,I,om,gn,dS,ee,ButB.refl _ _⟩
  obtain⟨T,rfl⟩:=ξ wr;obtain⟨q,R,ax,e4,rfl,D,br,bD⟩:=hrel;have cK:=zD G aU;have bq:=ButB.below cK cK.size (λr aj=>om) bD;have aW:=zh (zD B bq);obtain⟨C,Q⟩:=Ξ (z2x b.epochs (λ_=>false) g (z.members.take q));rw[Q] at D br;have aK:=zh Q;obtain⟨bM,bI⟩:=zB0 b.epochs (λ_=>false) (z.members.take q) cE;rw[Q] at bM bI;have eX:C.length<=4500:=by have:=cz.o;rw[length_take] at bI;omega
  have cF:=zh bM;clear Q bM bI;by_cases bJ:q<z.members
  rotate_left
  ·obtain rfl:q=z.members:=om
   have Q:=aK.o;have c8:=(zB0 b.epochs (λ_=>false) z.members cE).2;rw[qLnx] at Q;rw[Q] at c8;have dQ:=zh (by rw[<-Q,<-aI.o,bl.o]:YA st (t.drop (o+1)) { b with wraps:=C }=YA st (t.drop 1) b);have dM:=zh (bE.trans ((ButB.of aU).trans bD));have eY:C.length<=2000+100*(o+1):=by have:=cz.o;omega
   clear Q c8;go_wp2;go_roundw
   case rel=>exact⟨o+1,C,R,ax,om,om,gn,eY,cF,dQ,D,br,dM⟩
   case measure=>exact qMx
  obtain⟨e,ez,eC,aN,bA,bC,bB,eA,ey,bx,cU,bz,eB,_⟩:=yT fa bJ (z23 dK aW);subst bB;have cB:=zh (by rw[qLtx,aN,Option.toList,zG8,aK.o]:z2x b.epochs (λ_=>false) g (z.members.take (q+1))=YI b.epochs e.name false C);have ao:=YO (ψ D 0 _ rfl);have ap:=YO (ψ D 1 _ rfl);have aq:=YO (ψ D 2 _ rfl);have N:=YO (ψ D 3 _ rfl);have ar:=YO (ψ D 4 _ rfl);have au:=YO (ψ D 5 _ rfl);have O:=YO (ψ D 6 _ rfl);have ex:=YO bx;have ag:=zh (show Z6 (Two S w d) T [b.name,b.turn,.slice U b.manifests Y,.slice V b.epochs Z,.slice W b.items aa,.slice R C ax,.slice X b.links ab] { b with wraps:=C } from by
   have m:Kept (Old S w) (Two S w d) d T:=λf l _=>⟨.inl l,bq.block f (zll l.2 B.size)⟩
   exact z9i (zV bt m) br (aZ.keep z1b dc m))
  have e5:(q:Int)<(z.members:Int):=om
  have dR:=zh eB;clear aN bA bC bz bx cU;go_upto_region 22 with fail
  refine zEC 7 λv=>?_;refine ziU 0 ?_;iterate 6 (refine ztU v ?_;simp only[zA])
  refine zoU ?_;refine tQa 6 λm A=>?_;go_simp;go_at_call 115
  refine zcm (z9v { b with wraps:=C } cF e.name dR false eX _ _ _ (zV ag (Kept.below (zbr.drew) λ_ h=>h))) ?_;rintro gf bb ⟨⟨_,rfl,e7⟩,M⟩;have bc:(bW T bb:Prop):=zD (zbr.drew) M;clear M v;refine A.o _ _ bc (λv=>?_);clear A m;try simp only[zA]
  obtain⟨aB,bS,rfl,e3,e1,e2,db⟩:=e7;have ei:=ζ (Sl 3 yL _ bb (.slice aB (YI b.epochs e.name false C).length bS) (YI b.epochs e.name false C)) ⟨_,_,rfl,e3,e1,e2,db⟩;have F:=zh ((bc.block _ (zI D)).trans D);have fP:=ψ F 5 _ rfl;have f8:=(zB F).2;clear db;refine tNc 7 ?_
  refine tNc 8 ?_
  refine Z7 kr ?_ _;generalize bQ:World.setCell _ _ _=dD;have eo:=zh (by rw[<-bQ];exact zH (i:=5) _ F rfl:dD.heap[d.heap.size]? =some (.cells #[b.name,b.turn,.slice U b.manifests Y,.slice V b.epochs Z,.slice W b.items aa,.slice aB (YI b.epochs e.name false C).length bS,.slice X b.links ab] 74 (0,0)));have bw:ButB (·=d) bb dD:=by rw[<-bQ];exact(ButB.refl (·=d) bb).set _ _ rfl
  have ej:=zh (ei.keep (S':=Two S w d) z08 dc (bw.kept λf l=>by have gi:T<=f:=l;have eL:=zI D;exact⟨.inr (zll eL l),om⟩));have dN:=zh (bD.trans ((ButB.of bc).trans bw));clear bQ fP f8 bw ao ap aq N ar au O ex;go_wp2;go_roundw
  case rel=>exact⟨q+1,aB,bS,om,gn,(by rw[cB.o];exact eo),(by rw[cB.o];exact ej),dN⟩
  case measure=>exact qMx
 | false=>
  obtain⟨_,_,_,N,_,_,O⟩:=TC7 (zB aJ).1;obtain⟨av,_,_,ah⟩:=TC4 (zB aX).1;have eq:=Below.refl ba ba;have eD:=YO N;have eE:=YO O;have eI:=YO av;have cr:=zh (zD af ad);have aI:=zh (show YA st (t.drop o) { b with wraps:=g }=if zA3 { b with wraps:=g } u.name then { b with wraps:=g } else { b with wraps:=g,links:=b.links++[(⟨b.epochs,u.name,c.epochs⟩:Link)] } by
   rw[cv.o,YA,a5,if_neg dc,bn.o,Option.getD_some])
  obtain⟨_,_,cT,_,_,_,e6⟩:=aZ.o;simp only[Value.slice.injEq,true_and] at cT;obtain⟨rfl,rfl⟩:=cT;clear a5 N O av;go_wp2_with fail
  go_loopw [9,10] (λfK y aT=>∃(q:Nat) (f:Bool),q<=b.links/\fK= .bool f/\y= .int .i64 q/\Hid (f=(b.links.take q).any λaR=>decide (aR.epoch=(b.epochs:Int))&&decide (aR.to=u.name))/\bW ba aT) (λ_ y _=>b.links.length-(intOf y).toNat)
  case atStart=>exact⟨0,false,om,rfl,gn,rfl,Below.refl _ _⟩
  obtain⟨T,rfl⟩:=ξ wr;obtain⟨q,f,e4,rfl,rfl,bp,bq⟩:=hrel;by_cases bJ:q<b.links
  ·obtain⟨e,ez,eC,aN,bA,bC,bB,eA,ey,bx,cU,_,bz,_⟩:=zAh e6 bJ (z23 B (zD cr bq));subst bB;have HE:=zh (show((b.links.take (q+1)).any λaR=>decide (aR.epoch=(b.epochs:Int))&&decide (aR.to=u.name))=(f||(decide (e.epoch=(b.epochs:Int))&&decide (e.to=u.name))) by
    rw[qLtx,aN,Option.toList,any_append,<-bp.o];simp)
   have e5:(q:Int)<(b.links:Int):=om
   clear aN bA bC bz
   cases f with
   | true=>
    go_upto_region 12 with fail
    exact mba
   | false=>
    by_cases ai:e.epoch=(b.epochs:Int)
    rotate_left
    ·have eS:(e.epoch==(b.epochs:Int))=false:=beq_eq_false_iff_ne.2 ai;have HT:=zh (by rw[Γ ai];rfl:(false||(decide (e.epoch=(b.epochs:Int))&&decide (e.to=u.name)))=false);clear ai;go_upto_region 12 with fail
     exact maz
    have eS:(e.epoch==(b.epochs:Int))=true:=beq_iff_eq.2 ai;by_cases aw:e.to=u.name
    ·have eT:(e.to.toList==c.name.toList)=true:=by rw[aY.o,aw];simp
     have HT:=zh (by rw[Δ ai,Δ aw];rfl:(false||(decide (e.epoch=(b.epochs:Int))&&decide (e.to=u.name)))=true);clear ai aw;go_upto_region 12 with fail
     exact mbf
    have eT:(e.to.toList==c.name.toList)=false:=YX λh=>aw (h.trans aY)
    have HT:=zh (by rw[Γ aw];simp:(false||(decide (e.epoch=(b.epochs:Int))&&decide (e.to=u.name)))=false);clear ai aw;go_upto_region 12 with fail
    exact maz
  obtain rfl:q=b.links:=om
  rw[qLnx] at bp;have cD:=ζ (zA3 { b with wraps:=g } u.name=f) bp.symm;have c0:=zD (zD G ad) bq;have aW:=zh (zD cr bq);have ag:=zh ((bq.block _ (zI aJ)).trans aJ);have dY:=zh ((bq.block _ (zI aX)).trans aX);go_upto_if 77 with fail
  go_cut [11] from 23 to 115 (λgs az=>∃(m:List Link) (ac:Option Addr) (a8:Nat),Hid (az.heap[d.heap.size]? =some (.cells #[b.name,b.turn,.slice U b.manifests Y,.slice V b.epochs Z,.slice W b.items aa,.slice H g I,.slice ac m a8] 74 (0,0)))/\Hid (Sl 3 z0g (Two S w d) az (.slice ac m a8) m)/\Hid (YA st (t.drop o) { b with wraps:=g }={ b with wraps:=g,links:=m })/\ButB (·=d) T az)
  case first=>
   have aK:=zh (aZ.keep z1b dc (z23 B aW));have cV:=ψ dY 3 _ rfl
   cases f with
   | true=>
    go_wp2;go_meet
    case rel=>exact⟨b.links,X,ab,ag,aK.keep z1b dc (Kept.refl _ λ_ h=> .inl h),(by rw[aI.o,cD.o,if_pos rfl];exact zh rfl),ButB.refl _ _⟩
   | false=>
    obtain⟨dh,c5,dg,cX,cY⟩:=info_parts (show(prog.info? 151).map (λy=>(y.zero,y.size,y.bytes))=some (some (.agg #['0',"",'0']),3,32) from kr);go_upto_region 16 with (at_builtin;refine z1n T rfl (.tmp 78) (.tmp 80) 72 rfl dh _ 32 underlying72 c5 dg cX cY rfl dc dc dc z1b rfl _ b.links rfl (λf l=>zll l.2 aW.size) aK om ?_;intro gw J cP bT a1 aG ax)
    obtain⟨aB,fc,es,rfl⟩:=bT.shape3;have gd:=zD bq aG;have gh:=YO cV J aG;have c2:(cP++[([.int .i64 b.epochs,.string c.name,.int .i64 c.epochs]:List Value)]).length=(b.links++[(⟨b.epochs,c.name,c.epochs⟩:Link)]).length:=by rw[qLax,qLax,a1.1];rfl
    have cu:=zh c2;have eb:=zh bT;have dJ:=zh a1;have cC:=zh ax;have bk:=zh aG;have d3:=zh (by rw[a1.1];exact c9:cP.length<=5000);have cw:=zh ((aG.block _ (zI ag)).trans ag);have d8:=ζ ((Value.slice aB fc es).ownBlock≠some d.heap.size) (λe=>by have:=ax _ e;have:=zI ag;omega);clear bT a1 ax aG cV c2;go_wp2_with (at_builtin;refine YD J [b.epochs.length,c.name,c.epochs.length] rfl (.tmp 82) (.tmp 92) 72 rfl dh _ 32 underlying72 c5 dg cX cY rfl dc dc _ _ rfl eb (qNtx d3 dc) rfl (zT1 _ _ _) _ _ rfl rfl ?_;intro gx gy a9 aQ bR;obtain⟨ac,cO,rfl,_⟩:=a9.shape;rw[cu.o] at a9 bR⊢;have ec:=zh a9;have dW:=zh aQ;have d7:=zh bR;have a7:=(aQ.block _ (zI cw) d8.symm).trans cw;have d1:=zh a7;have gp:=ψ a7 6 _ rfl;have gq:=(zB a7).2;clear a9 aQ bR a7)
    go_meet
    have da:∀f,(Value.slice ac (b.links++[(⟨b.epochs,c.name,c.epochs⟩:Link)]).length cO).ownBlock=some f->T.heap.size<=f:=λf l=>by
     rcases d7 with fd|⟨k,hk,hl⟩
     ·exact cC.o f (fd▸l)
     ·obtain rfl:k=f:=zsi (hk.symm.trans l);exact qNtx bk.size hl
    have eV:=zI ag;have eP:I64 (b.epochs:Int):=by constructor<;>omega
    have eQ:I64 (c.epochs:Int):=by constructor<;>omega
    refine⟨b.links++[(⟨b.epochs,c.name,c.epochs⟩:Link)],ac,cO,zH (i:=6) _ d1 (by rw[show(b.links++[(⟨b.epochs,c.name,c.epochs⟩:Link)]).length=b.links.length+1 from qLax];rfl),z34 z1b (ec.keep λf l=>Below.heap_setCell _ _ _ _ λe=>?_) (by rw[cu.o,qLax];simp;omega) ((dJ.imp λ_ _ e=>e).snoc ⟨rfl,eP,fI,eQ⟩) (λf l=> .inr (zll eV (da f l))),(by rw[aI.o,cD.o,if_neg dc,<-aY.o];exact zh rfl),(ButB.of (Below.grown bk dW bk.size cC)).set _ _ rfl⟩;have:=da f l;have ge:f=d:=e;omega
  obtain⟨m,ac,a8,em,dZ,dP,cj⟩:=hcut;have an:=ButB.below c0 c0.size (λr aj=>om) cj;have cq:=zh (zD B an);have HE:=zh (by unfold yN;rw[bm.o,al.o,<-bl.o,dP.o]:yN st k=setF st k { b with wraps:=g,links:=m });have d0:=ζ (Kept (Old S w) (Two S w d) d wc) (λf l _=>⟨.inl l,an.block f (zll l.2 B.size)⟩);have cN:=ButB.trans (ButB.of (zD ad bq)) cj;have dV:=ζ (Z6 (Two S w d) wc [b.name,b.turn,.slice U b.manifests Y,.slice V b.epochs Z,.slice W b.items aa,.slice H g I,.slice ac m a8] { b with wraps:=g,links:=m }) (z9i (zV bt d0) (a0.keep z08 dc (cN.kept λf l=>⟨l,zQk (Nat.lt_trans aL.1 aL.2) l⟩)) dZ);obtain⟨ao,ap,aq,N,ar,au,O⟩:=zC7 (zB em).1;clear eD eE eI ah cN;go_wp2_with fail
  refine zcm (refwith_any st k hk cy { b with wraps:=g,links:=m } _ _ wc (Two S w d) (zM (am.o _ an) (Kept.refl _ λ_ h=> .inl h)) dV) ?_;rintro e J ⟨⟨et,rfl,P⟩,R⟩;rw[<-HE.o] at P;have bs:=zh P;obtain⟨bd,aO,be,aP,bf,ah,rfl⟩:=ZN P;have L:=cA.o J (zD an R);have bo:=zh L;obtain⟨ff,fg,fh,fi⟩:=zC4 (zB L).1;have fj:=(zB L).2;have aV:=zh (zD cq R);have dI:=zh an;clear L P ao ap aq N ar au O fk fl fm fn f9 ga gb gc an ad bq bv eq;have HP:=zh (z2o bo (.int .i64 (yN st k).turn) (.slice bd (yN st k).users.length aO) (.slice be (yN st k).deposits.length aP) (.slice bf (yN st k).folders.length ah));have HFIN:=zh (zI6 (st':=yN st k) aL B.size dI.o.size cq.size bs aV HP.2);exact mbl
end Go.Proofs.YtdggplhnfhcieaaGreatDoor
