/- No condition. -/
import Derived.Test.YtdggplhnfhcieaaGreatDoorW24
set_option linter.all false
set_option maxRecDepth 100000
set_option maxHeartbeats 16000000
namespace Go.Proofs.YtdggplhnfhcieaaGreatDoor
open Go.Proofs.Tryz Cd Ce List
open Go.RowKit Go.Deep
theorem zN2 (name:Nm) (l:List Member) (v:Value) (w:World) (S:Nat->Prop) (h:Sl 2 zZ S w v l):(kB 114 #[v,name] w (Ro.ofOf l name):Prop):=
 (Ro.refof_any name l v w S h).mono λb d a=>⟨a.1,a.2▸Below.refl _ _⟩
theorem z56 {w:World} {p:Addr} {v:Value} (h:w.cell? p=some v):∀W,((bW w W:Prop))->W.cell? p=some v:=λ_ hb=>(hb.cell (zF h)).trans h
theorem ma5 {p:Prop} (h:p:=by
 go_upto_region 8 with fail
 go_quiet (fail)
 go_wp2;go_roundw
 case rel=>exact⟨q+1,om,gn,(by rw[HE.o,HT.o];exact zh rfl),Below.trans bq ⟨rfl,rfl,rfl,znl _,λ_ _=>rfl⟩⟩
 case measure=>exact qMx):p:=h
theorem zM8 (f:Folder) (frm:Int) (bC:I64 frm) (N:List Value) (w:World) (S:Nat->Prop) (h:Z6 S w N f):
  (kB 155 #[.agg N.toArray,frm] w (z5m f frm):Prop):=by
 have ah:=zh h;obtain⟨az,aJ,aB,aK,aG,aL,aH,aN,aI,aO,rfl,_,_,_,_,_,aT,_,_,_,aP,_,_,_,aQ,_,_,_,aU,_,_,_,aR⟩:=Z9 h;obtain⟨bo,T,aj,aV,G,_⟩:=zP w (aF f az aJ aB aK aG aL aH aN aI aO) 74;have A:=ZJ (zbx T);have n:=zh G;have ag:=zh A;have bn:=A.at 2 rfl;clear aj aV G A aP aQ aU aR h;go_enter func155,ntmps155
 go_wp2_with fail
 clear T;go_loopw [5] (λi wr=>∃g:Nat,g<=f.manifests/\i= .int .i64 g/\Hid ((f.manifests.take g).all (λa=>a.members.all λd=>!(decide (frm<=a.seq)&&(decide (2<=d.role)&&decide (Ro.ofOf (zL f).members d.name=0))))=true)/\bW bo wr) (λi _=>f.manifests.length-(intOf i).toNat)
 case atStart=>exact⟨0,om,gn,rfl,Below.refl _ _⟩
 obtain⟨bs,rfl⟩:=ξ wr;obtain⟨g,_,rfl,u,r⟩:=hrel;by_cases aZ:g<f.manifests
 rotate_left
 ·obtain rfl:g=f.manifests:=om
  have HE:=zh (by rw[qLnx] at u;exact u:z5m f frm=true);go_wp2;go_ret;exact⟨ZM HE.symm,zD n r⟩
 obtain⟨a,_,_,a8,bb,a9,bc,V,bd,be,rfl,_,_,a0,a1,a2,a3,a4,a5,a6,a7,ba,_,_,_,_,_,bg,_,_,_,_,bf,_⟩:=z6m aT aZ (YL (zD n r));obtain⟨E,U,ak,aW,H,_⟩:=zP bs (aM a a8 bb a9 bc) 84;have K:=zh (ZJ (zbx U));have al:=K.at 4 rfl;have B:=zD r H;have Z:=zh (zD n B);have J:=zh V;have ab:=zh (zD n r);have ai:=Below.refl E E;clear V bd be ba bg ak aW H;go_wp2_with fail
 clear U a0 a1 a2 a3 a4 a5 a6 a7;go_loopw [7] (λi br=>∃q:Nat,q<=a.members/\i= .int .i64 q/\Hid ((a.members.take q).all (λd:Member=>!(decide (frm<=a.seq)&&(decide (2<=d.role)&&decide (Ro.ofOf (zL f).members d.name=0))))=true)/\bW E br) (λi _=>a.members.length-(intOf i).toNat)
 case atStart=>exact⟨0,om,gn,rfl,ai⟩
 obtain⟨s,rfl⟩:=ξ wr;obtain⟨q,_,rfl,x,bq⟩:=hrel;have v:=zh (zD Z bq);by_cases aY:q<a.members
 rotate_left
 ·obtain rfl:q=a.members:=om
  rw[qLnx] at x;have y:=zh (show(f.manifests.take (g+1)).all (λa=>a.members.all λd=>!(decide (frm<=a.seq)&&(decide (2<=d.role)&&decide (Ro.ofOf (zL f).members d.name=0))))=true by
   rw[qLtx,J.o,Option.toList,all_append,u.o,Bool.true_and];simpa using x.o)
  have ac:=zh (zD B bq);go_wp2;go_roundw
  case rel=>exact⟨g+1,om,gn,y,ac⟩
  case measure=>exact qMx
 obtain⟨b,_,_,C,an,ap,ao,_,_,O,P,am,_⟩:=yT bf aY (z23 ab v);cases ao
 have HE:=zh (show(a.members.take (q+1)).all (λd:Member=>!(decide (frm<=a.seq)&&(decide (2<=d.role)&&decide (Ro.ofOf (zL f).members d.name=0))))=!(decide (frm<=a.seq)&&(decide (2<=b.role)&&decide (Ro.ofOf (zL f).members b.name=0))) by
  rw[qLtx,C,Option.toList,all_append,x.o];simp)
 have ae:=zh (zmg C);have L:=K.on bq;obtain⟨_,bv,_,_,bx⟩:=TC5 L.a;have bD:(q:Int)<(a.members:Int):=om
 have bu:=Below.refl s s;clear C an ap am L al bn;by_cases m:frm<=a.seq
 rotate_left
 ·have o:decide (frm<=a.seq)=false:=Γ m;have HT:=zh (by rw[o];rfl:(!(decide (frm<=a.seq)&&(decide (2<=b.role)&&decide (Ro.ofOf (zL f).members b.name=0))))=true);clear m;exact ma5
 have o:decide (frm<=a.seq)=true:=Δ m;by_cases p:2<=b.role
 rotate_left
 ·have D:decide (2<=b.role)=false:=Γ p;have HT:=zh (by rw[o,D];rfl:(!(decide (frm<=a.seq)&&(decide (2<=b.role)&&decide (Ro.ofOf (zL f).members b.name=0))))=true);clear m p;exact ma5
 have D:decide (2<=b.role)=true:=Δ p;have HT:=zh (by rw[o,D];rfl:(!(decide (frm<=a.seq)&&(decide (2<=b.role)&&decide (Ro.ofOf (zL f).members b.name=0))))=!decide (Ro.ofOf (zL f).members b.name=0));have M:=ag.on (zD B bq);obtain⟨aq,ar,au,av,aw,ax,ay⟩:=TC7 M.a;have bz:=z56 O;have bA:=z56 P;have bE:=z2d;clear M m p O P;go_upto_region 8 with fail
 refine zEC 25 λe=>?_;refine ziU 0 ?_;iterate 15 (refine ztU e ?_;simp only[zA])
 refine zoU ?_;refine ziU 17 ?_;iterate 6 (refine ztU e ?_;simp only[zA])
 refine zoU ?_;refine tQa 15 λz l=>?_;go_simp;go_at_call 25
 refine zcm (YW f _ _ S (zV ah (Kept.below (zD v (zbr.drew)) λ_ h=>h))) ?_;rintro bB F ⟨⟨_,rfl,Q⟩,k⟩;have I:(bW s F:Prop):=zD (zbr.drew) k;clear k e;refine l.o _ _ I (λe=>?_);clear l z;try simp only[zA]
 obtain⟨_,_,bh,bi,rfl,_,_,_,_,_,bm,_,bj,bk,bl,Y,_⟩:=ZO Q;have af:=ζ (Sl 2 zZ S F (.slice bh (zL f).members.length bi) (zL f).members) ⟨_,_,rfl,bj,bk,bl,Y⟩;clear Q bm Y;refine zU 16 e ?_;simp only[zA];refine tQa 23 λz l=>?_;go_simp;go_at_call 114
 refine zcb (zN2 b.name (zL f).members _ F S af) λbp k=>?_;have t:(bW s bp:Prop):=zD (I) k;clear k e;refine l.o _ _ t (λe=>?_);clear l z;try simp only[zA]
 refine zU 24 e ?_;simp only[zA];refine tNc 25 ?_
 refine Z7 kr ?_ _;clear aq ar au av aw ax ay;by_cases j:Ro.ofOf (zL f).members b.name=0
 ·have aX:(Ro.ofOf (zL f).members b.name==0)=true:=beq_iff_eq.2 j;have y:=zh (show z5m f frm=false by
   unfold z5m;rw[all_eq_false];refine⟨a,zmg J,?_⟩;rw[Bool.not_eq_true,all_eq_false];exact⟨b,ae,by rw[HT.o,Δ j];decide⟩)
  have aa:=zh (zD v t);clear j;go_wp2;go_ret;exact⟨ZM y.symm,aa⟩
 have aX:(Ro.ofOf (zL f).members b.name==0)=false:=beq_eq_false_iff_ne.2 j;have ad:=zh (Γ j);clear j;go_wp2;go_roundw
 case rel=>exact⟨q+1,om,gn,(by rw[HE.o,HT.o,ad.o];exact zh rfl),zD bq t⟩
 case measure=>exact qMx
section
variable {X:Nat->Prop} {base bw:Nat} {W:World} {R:RM} {c:Call} {dv:Value} {st:State} {done late:Bool}
theorem zA9 {w:World} {pb:Nat} {T:TypeId} {n f e d b:Value} (h:w.heap[pb]? =some (.cells #[n,f,e,d,b] T (0,0))) (a0 a1 a2 a3 a:Value):
  (((((w.setCell (aD pb 0) a0).setCell (aD pb 1) a1).setCell (aD pb 2) a2).setCell (aD pb 3) a3).setCell (aD pb 4) a).heap[pb]? =some (.cells #[a0,a1,a2,a3,a] T (0,0))/\ButB (·=pb) w (((((w.setCell (aD pb 0) a0).setCell (aD pb 1) a1).setCell (aD pb 2) a2).setCell (aD pb 3) a3).setCell (aD pb 4) a):=by
 have g:=zH (i:=0) (cs':=#[a0,f,e,d,b]) a0 h rfl;have j:=zH (i:=1) (cs':=#[a0,a1,e,d,b]) a1 g rfl;have k:=zH (i:=2) (cs':=#[a0,a1,a2,d,b]) a2 j rfl;have l:=zH (i:=3) (cs':=#[a0,a1,a2,a3,b]) a3 k rfl;have m:=zH (i:=4) (cs':=#[a0,a1,a2,a3,a]) a l rfl;exact⟨m,(((((ButB.refl (·=pb) w).set _ _ rfl).set _ _ rfl).set _ _ rfl).set _ _ rfl).set _ _ rfl⟩
theorem WK.epTo (h:WK X base bw W R c dv st done late) {k g d:Nat} (hk:k<st.folders) (ha:foAt R k g d) {w1:World} {v':Value} {x:List Value} {e:Epoch} (t:(fo st k).epochs.length<=9999) (hr:RowC 130 5 w1 v' ((R (.ep k)).cells++[x])) (hb:ButB (λq=>(R (.ep k)).v.ownBlock=some q) W w1)
  (m:v'.ownBlock=(R (.ep k)).v.ownBlock\/∃k,v'.ownBlock=some k/\W.heap.size<=k) (n:v'.oneCell'=true) (hx:YE (Imm X bw R W) W x e):
  Wrote X base bw W R c dv late (setF st k { fo st k with epochs:=(fo st k).epochs++[e] }) done (w1.setCell (aD g (d+3)) v'):=by
 have a:=ZT hk;have s:(R (.ep k)).cells.length=(fo st k).epochs.length:=(h.is.fo k _ a).2.ep.1;obtain⟨p,o,i,_⟩:=h.put (W':=w1) (.ep k) ⟨v',(R (.ep k)).cells++[x]⟩ hb hr (by simp;omega) (λf hb=>m.imp (λe=>by rw[<-e];exact hb) λ⟨v,e,l⟩=>by
  rw[show v'.ownBlock=some f from hb] at e;obtain rfl:=zsi e;exact l)
 obtain⟨h8,m8⟩:=h.sub a ha (k:= .ep k) (j:=3) (u:=v') (f':={ fo st k with epochs:=(fo st k).epochs++[e] }) ⟨sm,sm,sm⟩ om p o i n λb=>h.is.epRow (r:=⟨v',(R (.ep k)).cells++[x]⟩) a b (((h.is.fo k _ a).2.keep b).ep.snoc (z2a hx b))
 exact mb1
theorem mao {p:Prop} (h:p:=by
 have d0:(cL w5 wc 0 '0':Prop):=ψ HT5 0 _ rfl;have d1:(cL w5 wc 1 '0':Prop):=ψ HT5 1 _ rfl;have d2:(cL w5 wc 2 '0':Prop):=ψ HT5 2 _ rfl;have d3:(cL w5 wc 3 ():Prop):=ψ HT5 3 _ rfl;have d4:(cL w5 wc 4 "":Prop):=ψ HT5 4 _ rfl;have dz:∀q,w5.frozen? (aD wc q)=false:=(zB HT5).2;refine zr 10 λK hK=>?_
 go_simp;obtain⟨F1,F2⟩:=zA9 (pb:=wc.heap.size) HT5 e.place e.frm e.seq (.slice e_A3 e.chain e_c3) e.who;generalize hW6:World.setCell _ _ _=w6 at F1 F2⊢;have B6:(bW wc w6:Prop):=ButB.below HB5 (oh HB5.size) (λz hz=>om) F2;refine hK.o _ _ (HS _ (B6)) (λhHeld=>?_);clear hK K;refine wpAnyH_done kr ?_ _;go_wp2;go_meet
 case rel=>exact⟨wc,rfl,znl _,F1,B6⟩):p:=h
theorem zOl (h:WK X base bw W R c dv st done late) {k g ac:Nat} (hk:k<st.folders) (ha:foAt R k g ac) (eo:Z4 st (fo st k).name=some (fo st k)) (aQ:SmF st) (hr:z0v (fo st k).wraps) (dh:(fo st k).wraps.length<=5000) (bO:(fo st k).epochs≠[]) (em:(fo st k).epochs.length<=5000) (hml:∀m∈(fo st k).manifests,m.members.length<=1000000):
  Calls prog 145 #[pT bw,pO g ac] W λe w'=>e= .returned (.tuple #[])/\Wrote X base bw W R c dv late (z1g st k c.user) done w':=by
 obtain⟨dm,c5,dl,cX,cY⟩:=info_parts (show(prog.info? 130).map (λab=>(ab.zero,ab.size,ab.bytes))=some (some (.agg oE),5,64) from kr);obtain⟨dU,eb,cO,c7,de,_⟩:=yG h.call;clear cO c7;have bA:=zh de;have aO:=zh h;have L:=zh ha;have cn:=zh hr;have da:=(aQ _ (z2u hk)).2.2.1;have c9:=(aQ _ (z2u hk)).2.1;have ew:=(aQ _ (z2u hk)).1;obtain⟨m,a7⟩:=Ξ (zL (fo st k));have aJ:=zh a7;obtain⟨dP,dW,dQ,dX,dR,dY,dS,dZ,dT,ea,A,hF,bY,dC,dD,dE,dF,dG,dH,ep,ag⟩:=h.fold (ZT hk) ha;obtain⟨bd,be,aR,aT,⟨dr,eK,ds,bf,aU,dt,du⟩,aN⟩:=z7c h hk ha da;rw[a7] at aN dr ds bf aU dt du c9;rw[A] at aN;have ci:=zh (aN W zbr);have cm:=zh bf;have cg:=zh hml;have ek:=h.lt;have cx:=zh bY;clear h ha aQ hr A hF ag bf aN a7 hml;go_enter func145,ntmps145
 go_wp2_with fail
 refine zcb ci λs aW=>?_;obtain⟨H,bV,cF,cU,bo,dw⟩:=zP s oM 84;have x:H.heap[s.heap.size]? =some (.cells oM 84 (0,0)):=by rw[<-bV];exact zJ _ rfl
 have d0:(cL H s 0 "":Prop):=ψ x 0 _ rfl;have d1:(cL H s 1 '0':Prop):=ψ x 1 _ rfl;have d2:(cL H s 2 ():Prop):=ψ x 2 _ rfl;have d3:(cL H s 3 "":Prop):=ψ x 3 _ rfl;have d4:(cL H s 4 ():Prop):=ψ x 4 _ rfl;have cJ:(cL H s 5 '0':Prop):=ψ x 5 _ rfl;have cK:(cL H s 6 false:Prop):=ψ x 6 _ rfl;have cM:(cL H s 7 "":Prop):=ψ x 7 _ rfl;have dz:=(zB x).2;have b3:=zh x;have b4:=zh bo;clear cF cU x bo bY dC dD dE dF dG dH;go_upto_region 1 with fail
 obtain⟨P,Q⟩:=z7w b3 m.folder m.seq (.slice bd m.prev be) m.parent (.slice aR m.members aT) m.cut m.gone m.who;generalize cZ:World.setCell _ _ _=d at P Q⊢;have aY:(bW W d:Prop):=zD aW (ButB.below b4 om (λy hz=>om) Q);have ad:=zh aY;have bx:=zh P;have an:=zh (aO.below aY);have eC:=aW.size;have dj:s<d.heap.size:=zI P;clear cZ P Q aY aW d0 d1 d2 d3 d4 cJ cK cM dz bV dw;have cs:=zh (show ∀j:World,((bW d j:Prop))->(λj:World=>cL j s 1 m.seq/\cL j bw 8 st.turn/\j.cell? ⟨bw,9,none⟩=some (R .us).v/\j.cell? ⟨bw,10,none⟩=some (R .de).v/\j.cell? ⟨bw,11,none⟩=some (R .fo).v/\cL j bw 1 c.user/\cL j g ac ((fo st k).name)) j from λj C=>by
  have N:=an.below C;exact⟨zy C (ψ bx 1 _ rfl),N.cells.1 8 _ rfl,N.cells.1 9 _ rfl,N.cells.1 10 _ rfl,N.cells.1 11 _ rfl,N.cells.1 1 _ rfl,zy (zD ad C) cx⟩)
 go_cut [5] from 13 to 31 (λbh D=>∃f o p,bh= .pointer (some ⟨f,0,none⟩)/\d.heap.size<=f/\Hid (D.heap[f]? =some (.cells #['1',m.seq,m.seq,.slice o (zY st 4 (fo st k).name).length p,c.user] 130 (0,0)))/\Hid (Sl 2 rAt (λl=>d<=l/\l≠f) D (.slice o (zY st 4 (fo st k).name).length p) (zY st 4 (fo st k).name))/\bW d D)
 case first=>
  have HS:=cs.o;refine zE kr HS (λn=>?_);refine zi 0 ?_;iterate 12 (refine zt n ?_;simp only[zA])
  refine zo ?_;refine zi 13 ?_;iterate 5 (refine zt n ?_;simp only[zA])
  refine zo ?_;refine wpAnyH_ready (rs:=[12,19]) kr sm ?_;refine AllReadyH.cons rfl (λK hK=>?_) (AllReadyH.cons rfl (λK hK=>?_) AllReadyH.nil)
  ·go_simp;go_at_call 67
   refine zcm (z3s st (fo st k).name om _ _ (λ_=>True) (an.below (zbr.drew)).state) ?_;rintro cN r ⟨⟨aI,rfl,Z⟩,av⟩;obtain⟨o,p,rfl,a9⟩:=Z;have J:=ζ (bW d r:Prop) (zD (zbr.drew) av);clear av n;refine hK.o _ _ (HS _ (J.o)) (λn=>?_);clear hK K;refine zT 18 n ?_;simp only[zA];refine zr 19 λK hK=>?_
   obtain⟨w5,aa,U,V,E,bg⟩:=zP r oE 130;have t:w5.heap[(r).heap.size]? =some (.cells oE 130 (0,0)):=by rw[<-aa];exact zJ _ rfl
   go_simp;have HB5:=zh (zD J.o E);refine hK.o _ _ (HS _ (HB5)) (λn=>?_);clear hK K;have d0:(w5).cell? ⟨r,0,none⟩=some (.int .i64 0):=ψ t 0 _ rfl;have d1:(w5).cell? ⟨r,1,none⟩=some (.int .i64 0):=ψ t 1 _ rfl;have d2:(w5).cell? ⟨r,2,none⟩=some (.int .i64 0):=ψ t 2 _ rfl;have d3:(w5).cell? ⟨r,3,none⟩=some (.slice none 0 0):=ψ t 3 _ rfl;have d4:(w5).cell? ⟨r,4,none⟩=some (.string ⟨#[]⟩):=ψ t 4 _ rfl;have dz:=(zB t).2;have HT5:=zh t;clear t U V;refine zr 20 λK hK=>?_
   go_simp;obtain⟨F1,F2⟩:=zA9 HT5 '1' m.seq m.seq (.slice o (zY st 4 (fo st k).name).length p) c.user;generalize hW6:World.setCell _ _ _=w6 at F1 F2⊢;have B6:(bW d w6:Prop):=ButB.below HB5 (oh HB5.size) (λy hz=>by have:=J.o.size;omega) F2;refine hK.o _ _ (HS _ (B6)) (λn=>?_);clear hK K;refine wpAnyH_done kr ?_ _;go_wp2;go_meet
   refine⟨r,o,p,rfl,J.o.size,F1,?_,B6⟩;have Z:Sl 2 rAt (λl=>d.drew<=l) r (.slice o (zY st 4 (fo st k).name).length p) (zY st 4 (fo st k).name):=⟨o,p,rfl,a9⟩;exact Z.keep ZE dc λl ah az=>⟨⟨ah,om⟩,(F2.block l (oh E.size) om).trans (E.block l az)⟩
  obtain⟨w5,aa,U,V,E,bg⟩:=zP d.drew oE 130;have t:w5.heap[(d.drew).heap.size]? =some (.cells oE 130 (0,0)):=by rw[<-aa];exact zJ _ rfl
  go_simp;have HB5:=ζ (bW d w5:Prop) (zD zbr.drew E);refine hK.o _ _ (HS _ (HB5)) (λn=>?_);clear hK K;have HT5:=zh t;clear t U V;refine zr 12 λK hK=>?_
  go_simp;go_at_call 67
  refine zcm (z3s st (fo st k).name om _ _ (λ_=>True) (an.below (HB5)).state) ?_;rintro cN r ⟨⟨aI,rfl,Z⟩,av⟩;obtain⟨o,p,rfl,a9⟩:=Z;have J:=ζ (bW d r:Prop) (zD (HB5) av);have S:=zh ((av.block _ (zI HT5)).trans HT5);have ey:d<w5.heap.size:=zI HT5;clear n;refine hK.o _ _ (HS _ (J.o)) (λn=>?_);clear hK K;refine zT 18 n ?_;simp only[zA];have d0:(r).cell? ⟨d,0,none⟩=some (.int .i64 0):=ψ S 0 _ rfl;have d1:(r).cell? ⟨d,1,none⟩=some (.int .i64 0):=ψ S 1 _ rfl;have d2:(r).cell? ⟨d,2,none⟩=some (.int .i64 0):=ψ S 2 _ rfl;have d3:(r).cell? ⟨d,3,none⟩=some (.slice none 0 0):=ψ S 3 _ rfl;have d4:(r).cell? ⟨d,4,none⟩=some (.string ⟨#[]⟩):=ψ S 4 _ rfl;have dz:∀q,r.frozen? (aD d q)=false:=(zB S).2;refine zr 20 λK hK=>?_
  go_simp;obtain⟨F1,F2⟩:=zA9 (pb:=d.heap.size) S '1' m.seq m.seq (.slice o (zY st 4 (fo st k).name).length p) c.user;generalize hW6:World.setCell _ _ _=w6 at F1 F2⊢;have B6:(bW d w6:Prop):=ButB.below J.o (oh J.o.size) (λy hz=>om) F2;refine hK.o _ _ (HS _ (B6)) (λn=>?_);clear hK K;refine wpAnyH_done kr ?_ _;go_wp2;go_meet
  refine⟨d,o,p,rfl,znl _,F1,?_,B6⟩;have Z:Sl 2 rAt (λl=>w5<=l) r (.slice o (zY st 4 (fo st k).name).length p) (zY st 4 (fo st k).name):=⟨o,p,rfl,a9⟩;exact Z.keep ZE dc λl ah az=>⟨⟨om,om⟩,F2.block l az om⟩
 obtain⟨f,o,p,rfl,eh,a0,cp,a4⟩:=hcut;obtain⟨u,a8⟩:∃u,(fo st k).epochs.length=u+1:=⟨(fo st k).epochs.length-1,by have:=length_pos_iff.2 bO;omega⟩;obtain⟨e,a6⟩:∃e,(fo st k).epochs[u]? =some e:=⟨_,qLgx om⟩;have a1:=zh (by rw[getLast?_eq_getElem?,a8,Nat.add_sub_cancel,a6];rfl:(fo st k).epochs.getLast?.getD zDm=e);have T:=zh (an.below a4);have b8:=zh a4;have eD:=a4.size;obtain⟨ed,bN,bM⟩:=(T.is.fo k _ (ZT hk)).2.ep.at a6;obtain⟨af,ak,bE,bU,c0,c1,er,aj,_⟩:=(T.os.row (.ep k)).at bN;obtain⟨e_A3,e_c3,rfl,bG,cP,ef,_⟩:=z3p bM;obtain⟨b0,cQ,z,B,b1,cR,D5,cS,b2,cT,A,hF,bi,bj,bk,aH,aI,bl,bm,eq,ag⟩:=T.fold (ZT hk) L;have G:(R (.ep k)).v= .slice z (fo st k).epochs.length B:=by
  simp only[hdr,cons.injEq] at A;exact A.2.2.2.1
 have a5:(R (.ep k)).cells.length=(fo st k).epochs.length:=(T.is.fo k _ (ZT hk)).2.ep.1;rw[bU] at G;simp only[Value.slice.injEq] at G;obtain⟨rfl,_,rfl⟩:=G;have bQ:((fo st k).epochs.length:Int)=(u:Int)+1:=om
 unfold maxLen at c1;have el:u+1<=bE:=om
 have es:u<=5000:=om
 have eA:IntKind.i64.wrap (u:Int)=(u:Int):=IntWalk.i64_in _ om;have ev:(u:Int)<(u:Int)+1:=om
 rw[a8] at aH;have ct:=zh (show ∀j:World,((bW wc j:Prop))->(λj:World=>cL j g (ac+3) (.slice (some ⟨af,ak,none⟩) (u+1) bE)/\cL j af (ak+u*5) e.place/\cL j af (ak+u*5+1) e.frm/\cL j af (ak+u*5+2) e.seq/\cL j af (ak+u*5+3) (.slice e_A3 e.chain e_c3)/\cL j af (ak+u*5+4) e.who) j from λj C=>
  ⟨zy C aH,zy C (aj 0 _ rfl),zy C (aj 1 _ rfl),zy C (aj 2 _ rfl),zy C (aj 3 _ rfl),zy C (aj 4 _ rfl)⟩)
 clear bN bM aj A hF bi bj bk aH aI bl bm ag bU a6 a5 c0 bO a8;obtain⟨b,bJ⟩:=Ξ (z79 st (fo st k) c.user);have aK:=zh bJ;clear bJ;go_upto_region 2 with fail
 go_cut [6] from 32 to 40 (λdB aV=>∃F,dB= .pointer (some ⟨F,0,none⟩)/\wc.heap.size<=F/\Hid (aV.heap[F]? =some (.cells (aE e e_A3 e_c3) 130 (0,0)))/\bW wc aV)
 case first=>
  have HS:=ct.o;refine zE kr HS (λn=>?_);refine zi 0 ?_;iterate 5 (refine zt n ?_;simp only[zA])
  refine zo ?_;refine wpAnyH_ready (rs:=[5,9]) kr sm ?_;refine AllReadyH.cons rfl (λK hK=>?_) (AllReadyH.cons rfl (λK hK=>?_) AllReadyH.nil)
  ·go_simp;go_at_call 158
   refine zcb (z3t (T.below (zbr.drew)) hk L) λv Y=>?_;replace Y:=Y.symm;subst Y;rw[bQ];refine hK.o _ _ (HS _ (zbr.drew)) (λn=>?_);clear hK K;refine zi 6 ?_;iterate 3 (refine zt n ?_;simp only[zA])
   refine zo ?_;refine zr 9 λK hK=>?_
   obtain⟨w5,aa,U,V,E,bg⟩:=zP wc.drew oE 130;have t:w5.heap[wc.drew.heap.size]? =some (.cells oE 130 (0,0)):=by rw[<-aa];exact zJ _ rfl
   go_simp;have HB5:=ζ (bW wc w5:Prop) (zD zbr.drew E);refine hK.o _ _ (HS _ (HB5)) (λn=>?_);clear hK K;have HT5:=zh t;clear t U V;exact mao
  obtain⟨w5,aa,U,V,E,bg⟩:=zP wc.drew oE 130;have t:w5.heap[wc.drew.heap.size]? =some (.cells oE 130 (0,0)):=by rw[<-aa];exact zJ _ rfl
  go_simp;have HB5:=ζ (bW wc w5:Prop) (zD zbr.drew E);refine hK.o _ _ (HS _ (HB5)) (λn=>?_);clear hK K;have HT5:=zh t;clear t U V;refine zr 5 λK hK=>?_
  go_simp;go_at_call 158
  refine zcb (z3t (T.below (HB5)) hk L) λv Y=>?_;replace Y:=Y.symm;subst Y;rw[bQ];refine hK.o _ _ (HS _ (HB5)) (λn=>?_);clear hK K;refine zi 6 ?_;iterate 3 (refine zt n ?_;simp only[zA])
  refine zo ?_;exact mao
 obtain⟨F,rfl,ej,br,ax⟩:=hcut;have cA:=zh (T.below ax);have b9:=zh (zD b8 ax);have bH:(cL wc F 0 e.place:Prop):=ψ br 0 _ rfl;have bI:(cL wc F 1 e.frm:Prop):=ψ br 1 _ rfl;have bq:=zh ((ax.block _ (zI a0)).trans a0);have ei:f<F:=by have:=zI a0;omega
 have cr:=zh (cp.keep ZE dc (zK ax));obtain⟨ae,bL⟩:=Ξ (decide (e.place<4)&&z5m (fo st k) e.frm);have ao:=zh bL;clear ax bL;go_upto_region 3 with fail
 go_cut [49] from 41 to 48 (λdA aV=>dA= .bool ae/\bW wc aV)
 case first=>
  by_cases bR:e.place<4
  ·have a2:=zh (by rw[<-ao.o,Δ bR];rfl:z5m (fo st k) e.frm=ae);go_wp2_with fail
   refine zcb (zQq cA hk L e.frm cg) λeO bn=>?_;have b5:=zh bn;clear bn;rw[a2.o];go_wp2;go_meet
   case rel=>exact⟨rfl,b5.o⟩
  have a2:=zh (by rw[<-ao.o,Γ bR];rfl:ae=false);go_wp2_with fail
  go_meet
  case rel=>exact⟨by rw[a2.o],Below.refl _ _⟩
 obtain⟨rfl,ai⟩:=hcut;have aZ:=zh (zD b9 ai);have aq:=zh ((ai.block _ (zI bq)).trans bq);have bv:=zh (cr.keep ZE dc (zK ai));have eG:=zy ai bH;have eH:=zy ai bI;have eE:(cL wc f 0 '1':Prop):=ψ aq 0 _ rfl;have eF:(cL wc f 1 m.seq:Prop):=ψ aq 1 _ rfl;have eI:∀q,wc.frozen? (aD f q)=false:=(zB aq).2;have et:¬(f=F):=om
 have eu:¬(F=f):=om
 clear bH bI ai;go_upto_if 49 with fail
 go_cut [5] from 50 to 56 (λbh D=>bh= .pointer (some ⟨f,0,none⟩)/\Hid (D.heap[f]? =some (.cells (aE b o p) 130 (0,0)))/\Hid (Sl 2 rAt (λl=>d<=l/\l≠f) D (.slice o b.chain p) b.chain)/\bW d D)
 case first=>
  cases ae
  ·have cl:=zh (show b=⟨1,m.seq,m.seq,zY st 4 (fo st k).name,c.user⟩ by
    rw[<-aK.o];unfold z79;rw[a1.o,ao.o,if_neg dc,aJ.o])
   go_wp2;go_meet
   rw[cl.o];exact⟨rfl,aq,bv,aZ⟩
  have cD:=zh (show b=⟨e.place+1,e.frm,m.seq,zY st 4 (fo st k).name,c.user⟩ by
   rw[<-aK.o];unfold z79;rw[a1.o,ao.o,if_pos rfl,aJ.o])
  have ce:=zh (show e.place<4 by
   have aw:=ao.o;simp only[qBqx,decide_eq_true_eq] at aw;exact aw.1)
  have eB:IntKind.i64.wrap (e.place+1)=e.place+1:=by
   have:=bG.1;have:=ce.o;rw[IntKind.wrap_i64];omega
  have bC:=zH (i:=1) e.frm (zH (i:=0) (e.place+1:Int) aq rfl) rfl;have bD:ButB (·=f) wc ((wc.setCell (aD f 0) (e.place+1:Int)).setCell (aD f 1) e.frm):=((ButB.refl (·=f) wc).set _ _ rfl).set _ _ rfl;have cu:=zh bC;have x:=zh bD;clear bC bD;go_wp2_with fail
  go_region
  all_goals
   go_wp2;go_meet
   case rel=>
    rw[cD.o];exact⟨rfl,cu,bv.keep ZE dc (x.drew.kept λl ah=>⟨ah,ah.2⟩),(ButB.below aZ (oh aZ.size) (λy hz=>om) x.drew)⟩
 obtain⟨rfl,ap,cq,aP⟩:=hcut;have ar:=zh (an.below aP);have b7:=zh aP;have aL:=zh (show I64 b.place/\I64 b.frm/\I64 b.seq/\b.who.size<=140737488355328 by
  rw[<-aK.o];unfold z79;rw[a1.o,aJ.o];split
  ·rename_i bK;have bP:e.place<4:=by
    simp only[qBqx,decide_eq_true_eq] at bK;exact bK.1
   exact⟨(show I64 (e.place+1) from⟨by have:=bG.1;omega,om⟩),cP,aU,bA⟩
  ·exact⟨(show I64 1 from⟨dc,dc⟩),aU,aU,bA⟩)
 have cB:=zh (show YE (Imm X bw R wc) wc (lE b o p) b from by
  refine⟨_,rfl,aL.1,aL.2.1,aL.2.2.1,?_,aL.2.2.2⟩;refine cq.keep ZE dc λl ah az=>⟨⟨az,?_,λe=>?_,λe=>?_⟩,rfl⟩
  ·have:=ad.size;omega
  ·have:=aO.os.lt e;have:=ad.size;omega
  ·have:=aO.xl l e;have:=ad.size;omega)
 obtain⟨b0,cQ,z,B,b1,cR,D5,cS,b2,cT,A,hF,bi,bj,bk,aH,aI,bl,bm,c3,ag⟩:=ar.fold (ZT hk) L;have G:(R (.ep k)).v= .slice z (fo st k).epochs.length B:=by
  simp only[hdr,cons.injEq] at A;exact A.2.2.2.1
 have a5:(R (.ep k)).cells.length=(fo st k).epochs.length:=(ar.is.fo k _ (ZT hk)).2.ep.1;have co:=zh (by rw[<-G];exact ar.os.row (.ep k):RowC 130 5 wc (.slice z (fo st k).epochs.length B) (R (.ep k)).cells);have cj:=zh (show(Value.slice z (fo st k).epochs.length B).ownBlock≠some g from λe=>by
  rw[<-G] at e;obtain⟨eJ,ec,aB,df,_⟩:=L.o;have:=ar.os.inj (.ep k) .fo g e (by rw[df];rfl);cases this)
 have bS:∀l,(Value.slice z (fo st k).epochs.length B).ownBlock=some l->l<W.heap.size:=λl e=>aO.os.lt ⟨.ep k,by rw[G];exact e⟩
 have ck:=ζ ((Value.slice z (fo st k).epochs.length B).ownBlock≠some s.heap.size) (λe=>by have:=bS _ e;omega);have c4:¬(s=g):=om
 have bs:=zh G;have bz:=zh ((aP.block _ dj).trans bx);have d5:(cL wc f 0 b.place:Prop):=ψ ap 0 _ rfl;have d6:(cL wc f 1 b.frm:Prop):=ψ ap 1 _ rfl;have d7:(cL wc f 2 b.seq:Prop):=ψ ap 2 _ rfl;have d8:(cL wc f 3 (.slice o b.chain p):Prop):=ψ ap 3 _ rfl;have d9:(cL wc f 4 b.who:Prop):=ψ ap 4 _ rfl;have cb:=zh (show ∀(I:Option Addr) (O M:Nat) (v:World),RowC 130 5 v (.slice I O M) ((R (.ep k)).cells++[[.int .i64 b.place,.int .i64 b.frm,.int .i64 b.seq,.slice o b.chain p,.string b.who]])->ButB (λy=>(Value.slice z (fo st k).epochs.length B).ownBlock=some y) wc v->((Value.slice I O M).ownBlock=(Value.slice z (fo st k).epochs.length B).ownBlock\/∃k,(Value.slice I O M).ownBlock=some k/\wc.heap.size<=k)->
   Wrote X base bw d R c dv late (setF st k { fo st k with epochs:=(fo st k).epochs++[b] }) done (v.setCell (aD g (ac+3)) (.slice I O M))/\(v.setCell (aD g (ac+3)) (.slice I O M)).heap[s.heap.size]? =some (.cells (aM m bd be aR aT) 84 (0,0)) from λI O M v aG al aB=>by
  refine⟨?_,Z2 _ ((al.block _ (zI bz) ck).trans bz) c4⟩;have bP:=ar.epTo hk L (v':= .slice I O M) om aG (by rw[bs.o];exact al) (by rw[bs.o];exact aB) rfl cB;exact bP.pre b7)
 have cc:=zh ag;have en:(R (.ep k)).cells.length<=10000:=om
 clear A hF bi bj bk aI bl bm ag G a5 aP bS;go_upto_region 5 with fail
 go_cut [4] from 57 to 66 (λdy D=>dy= .pointer (some ⟨s,0,none⟩)/\Hid (Wrote X base bw d R c dv late (setF st k { fo st k with epochs:=(fo st k).epochs++[b] }) done D)/\Hid (D.heap[s.heap.size]? =some (.cells (aM m bd be aR aT) 84 (0,0))))
 case first=>
  have dk:∀q,wc.frozen? (aD g q)=false:=cc;go_region_law (refine z1y wc _ (lE b o p) rfl (.tmp 61) (.tmp 63) 69 rfl dm _ 64 underlying69 c5 dl cX cY rfl dc dc (.slice z (fo st k).epochs.length B) (R (.ep k)).cells rfl _ _ rfl co gg om rfl (by intro eL bT;simp at bT;rcases bT with rfl|rfl|rfl|rfl|rfl<;>rfl) (by repeat' first|with_reducible assumption|((with_reducible first|refine Z2 _ ?_ ?_|apply zJ);rotate_left;first|with_reducible rfl|((try dsimp only);first|with_reducible assumption|omega|(simp only[zS];done)|(simp only[zS];omega)))|with_reducible apply zH|with_reducible refine zR _ ?_|with_reducible refine ZQ ?_|refine(rfl:(_:Array Value)=_)) ?_;intro eM v aG al aB;obtain⟨I,O,M,rfl⟩:=aG.shape3;have bu:=zh (cb.o _ _ _ _ aG al aB);have bb:=al.block g c3 cj;have eg:=(World.cell?_of_block (a:=⟨g,ac+3,none⟩) bb).trans aH;have eX:∀q,v.frozen? (aD g q)=false:=(λq=>by unfold World.frozen?;rw[bb];exact dk q);clear bb aG al aB)
  all_goals
   go_wp2;go_meet
   case rel=>exact⟨rfl,bu.1,bu.2⟩
 obtain⟨rfl,cy,cw⟩:=hcut;have eP:(cL wc s 4 (.slice aR m.members aT):Prop):=ψ cw 4 _ rfl;go_wp2_with fail
 go_loopw [70] (λab dK=>∃q:Nat,q<=m.members/\ab= .int .i64 q/\Hid (Wrote X base bw d R c dv late (setF st k (Y5 (λw=>decide (2<=w.role)) { fo st k with epochs:=(fo st k).epochs++[b] } (m.members.take q))) done dK)) (λab _=>m.members.length-(intOf ab).toNat)
 case atStart=>exact⟨0,om,gn,cy⟩
 obtain⟨q,ex,rfl,bB⟩:=hrel;by_cases db:q<m.members
 rotate_left
 ·obtain rfl:q=m.members:=om
  have ca:=zh (show Wrote X base bw W R c dv late (z1g st k c.user) done wr from by
   unfold z1g;rw[aK.o,aJ.o];have aw:=bB.o;rw[qLnx] at aw;exact aw.pre ad)
  go_wp2;go_end0
  exact⟨rfl,ca.o⟩
 have ez:(q:Int)<(m.members:Int):=om
 obtain⟨dV,N,bc,bF⟩:=bB;obtain⟨am,eT,eV,bZ,dM,dN,rfl,eU,eS,eQ,eR,dL,dO,eW⟩:=yT cm db (Mut.kept ((Mut.below ad).trans bc));have cC:=zh bZ;clear bZ dM dN dL;obtain⟨v,bX,cH,cV,bp,dx⟩:=zP wr #["",'0'] 87;have au:v.heap[wr.heap.size]? =some (.cells #["",'0'] 87 (0,0)):=by rw[<-bX];exact zJ _ rfl
 have d0:(cL v wr 0 "":Prop):=ψ au 0 _ rfl;have d1:(cL v wr 1 '0':Prop):=ψ au 1 _ rfl;have dz:=(zB au).2;have cv:=zh au;have b6:=zh bp;have cd:=zh N;have cf:=zh bc;have bt:=zh bF;clear N bc bF cH cV au bp;go_wp2_with fail
 have P:=zH (i:=1) am.role (zH (i:=0) am.name cv rfl) rfl;have Q:ButB (·=wr) v ((v.setCell (aD wr 0) am.name).setCell (aD wr 1) am.role):=((ButB.refl (·=wr) v).set _ _ rfl).set _ _ rfl;generalize dg:World.setCell _ _ _=dI at P Q⊢;have aX:(bW wr dI:Prop):=ButB.below b6 om (λy hz=>om) Q;have c6:k<(setF st k (Y5 (λw=>decide (2<=w.role)) { fo st k with epochs:=(fo st k).epochs++[b] } (m.members.take q))).folders.length:=by rw[z0m];exact hk
 have ay:fo (setF st k (Y5 (λw=>decide (2<=w.role)) { fo st k with epochs:=(fo st k).epochs++[b] } (m.members.take q))) k=Y5 (λw=>decide (2<=w.role)) { fo st k with epochs:=(fo st k).epochs++[b] } (m.members.take q):=z24 hk;have a3:=zAx (λw=>decide (2<=w.role)) (m.members.take q) { fo st k with epochs:=(fo st k).epochs++[b] };have c8:=z8j (λw=>decide (2<=w.role)) (m.members.take q) { fo st k with epochs:=(fo st k).epochs++[b] };have dd:(m.members.take q).length<=100:=by rw[length_take];omega
 have di:({ fo st k with epochs:=(fo st k).epochs++[b] }:Folder).wraps.length<=5000:=dh;have c2:({ fo st k with epochs:=(fo st k).epochs++[b] }:Folder).epochs.length<=5001:=by
  show((fo st k).epochs++[b]).length<=5001
  rw[qLax];simp;omega
 refine zcm (z9h (cd.below aX) c6 (L.keep bt) (by rw[ay];exact a3.wr cn) (by rw[ay];omega) (by rw[ay,a3.ep];omega) am.name dO (decide (2<=am.role))) ?_;clear dg P Q d0 d1 dz bX dx a3 c8 dd di c2;rintro ee dJ ⟨rfl,ba⟩;have cz:=zh (show Wrote X base bw d R c dv late (setF st k (Y5 (λw=>decide (2<=w.role)) { fo st k with epochs:=(fo st k).epochs++[b] } (m.members.take (q+1)))) done dJ from by
  rw[ay,z2k] at ba;rw[zEk cC.o];obtain⟨cE,dn,dp,dq⟩:=ba;exact⟨cE,dn,(cf.trans (Mut.below aX)).trans dp,dq.trans bt⟩)
 clear ba ay aX;go_wp2;go_roundw
 case rel=>exact⟨q+1,om,gn,cz⟩
 case measure=>exact qMx
end
end Go.Proofs.YtdggplhnfhcieaaGreatDoor
