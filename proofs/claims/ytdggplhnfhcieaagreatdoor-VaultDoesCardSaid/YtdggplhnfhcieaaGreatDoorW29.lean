/- No condition. -/
import Derived.Test.YtdggplhnfhcieaaGreatDoorW21
import Derived.Test.YtdggplhnfhcieaaGreatDoorW26
import Derived.Test.YtdggplhnfhcieaaGreatDoorW27
set_option linter.all false
set_option maxRecDepth 100000
set_option maxHeartbeats 16000000
namespace Go.Proofs.YtdggplhnfhcieaaGreatDoor
open Go.Proofs.Tryz Cd Ce List
open Go.RowKit Go.Deep
variable {S:Nat->Prop} {w:World}
theorem zKt {st:State} {l:List User} {a b c d v:Value} (h:Z5 S w [a,b,c,d] st) (hl:Sl 2 z0z S w v l):Z5 S w [a,v,c,d] { st with users:=l }:=by
 obtain⟨_,_,_,e,f,_,g,i⟩:=h;simp only[cons.injEq,and_true] at e;obtain⟨rfl,rfl,rfl,rfl⟩:=e;exact⟨v,_,_,rfl,f,hl,g,i⟩
theorem zEm (st:State) (name:Nm) (b:Bool) (u:Nat) (hu:yU st name=some u) (hl:st.users.length<=1000) (ac:List Value) (w:World) (S:Nat->Prop) (h:Z5 S w ac st):
  Calls prog 119 #[.agg ac.toArray,name,b] w (zAu S (lostS st name b) w):=by
 have W:=zh h;obtain⟨o,g,_⟩:=zA8 hu;have au:=zh (zFb hu g b);have aB:=zh hu;have aY:=(zge g).1;obtain⟨N,O,z,B,A,C,rfl,_,a4,a5,a6,ap,_,_,_,a2,_,_,_,a3⟩:=ZF h;obtain⟨a1,aW,a0,aP,aQ⟩:=info_parts (show(prog.info? 91).map (λM=>(M.zero,M.size,M.bytes))=some (some (.agg #["",false]),2,24) from kr);obtain⟨l,aZ,aI,aK,Q,ai⟩:=zP w (aS st N O z B A C) 34;obtain⟨m,ag,aJ,aL,R,aj⟩:=zP l z6t 34;have J:=ZJ (by rw[<-ag,<-aZ];exact zR _ (zJ _ rfl):m.heap[w.heap.size]? =some (.cells (aS st N O z B A C) 34 (0,0)));have aa:=ZJ (zbx ag);have d:=zh (zD Q R);have aw:=zh J;have ax:=zh aa;have aG:=Below.refl m m;have H:=ζ (w<l.heap.size/\l<m.heap.size) ⟨ai,aj⟩;obtain⟨al,am,an,ao⟩:=TC4 J.a;have az:=zh (Sl.keep z1a dc (show Sl 2 z0z S w (.slice N st.users O) st.users from⟨_,_,rfl,a4,a5,a6,ap⟩) (YL d));clear J aa aI aK aJ aL Q R ai aj ap a2 a3 h hu;go_enter func119,ntmps119
 go_upto_region 3 with (at_builtin;refine z1n m rfl (.tmp 8) (.tmp 10) 30 rfl a1 _ 24 underlying30 aW a0 aP aQ rfl dc dc dc z1a rfl _ st.users rfl (λb aT=>zll aT.2 d.size) az om ?_;intro bj a7 K y e ar ah)
 obtain⟨P,v⟩:∃P,K[u]? =some P:=⟨_,qLgx (by rw[e.1];exact aY)⟩;have aR:=e.2 u P o v g;obtain⟨rfl,a8⟩:=aR;obtain⟨c,x,s,rfl,aU,_,_,af,aV⟩:=y.at v;have ae:K=st.users.length:=e.1;rw[ae] at y⊢;have X:=zh y;have T:=zh e;have Z:=zh v;have G:=zh (ah c rfl);have D:=zh ar;have bc:(u:Int)<(st.users:Int):=om
 have g:=zh g;clear y e v ae ah aU;go_wp2_with fail
 refine zcb (z5v st name _ a7 _ (zM W (YL (zD d D)))) λaq p=>?_;rw[aB.o,show iOf (some u)=(u:Int) from rfl];have aN:=zy p (af 1 _ rfl);obtain⟨-,-,-,-,aO⟩:=(X.below p).here Z;have ay:=zh (X.below p);have E:=zh (zD D p);have aH:=E.o;clear af aV aG al am an ao;go_upto_region 4 with fail
 generalize L:World.setCell _ _ _=n;have ak:RowC 91 2 n (.slice (some ⟨c,x,none⟩) st.users s) (K.set u [o.name,b]):=by
  rw[<-L,Nat.add_assoc];have:=ay.write (i:=u) (j:=1) dc Z dc b rfl;rwa [Nat.add_assoc] at this
 have ab:ButB (·=c) aq n:=by rw[<-L];exact(ButB.refl (·=c) aq).set _ _ rfl
 have F:=zh (ButB.below E E.size (λa k=>by have:=G.o;omega) ab);have U:=zh (zD d F);have Y:=zh ak;have I:=aw.o n F;have r:=zh (ax.o n F);obtain⟨al,am,an,ao⟩:=zC4 (zB I).1;have bi:=(zB I).2;obtain⟨bd,be,bf,bg⟩:=zC4 (zB r).1;have bh:=(zB r).2;have aX:¬l=w.heap.size:=by have:=H.o;omega
 have av:=zh (zI r);have t:=(ButB.refl (·=w) n).set ⟨w,1,none⟩ (.slice (some ⟨c,x,none⟩) st.users s) rfl;have V:=zh t;have HP:=zh (z2o ((t.block _ av aX).trans r) st.turn (.slice (some ⟨c,x,none⟩) st.users s) (.slice z st.deposits B) (.slice A st.folders C));have q:=ButB.below U U.size (λa (k:a=w\/a=l)=>by have:=H.o;omega) ((t.mono λ_ f=> .inl f).trans (HP.2.mono λ_ f=> .inr f));have HFIN:=zh (show zAu S (lostS st name b) w (.returned (.agg _)) _ from⟨⟨(lS st (some ⟨c,x,none⟩) s z B A C),rfl,by
  rw[au.o];refine zKt (zM W (z4o q)) ?_;have bb:(st.users.set u { o with lost:=b }).length=st.users.length:=length_set;refine z34 z1a (Y.keep λa k=>?_) (by rw[length_set,T.o.1];omega) ((T.imp λ_ _ f=>z29 f (zKe (zD d D) q)).set u ⟨rfl,a8⟩) λa k=> .inr ?_
  ·obtain rfl:c=a:=by simpa[Value.ownBlock] using k
   have ad:=Y.lt c rfl;have a9:=G.o;have ba:=H.o;exact(HP.2.block _ (zll ad V.size) om).trans (V.block _ ad om)
  ·obtain rfl:c=a:=by simpa[Value.ownBlock] using k
   exact qNtx d.size G⟩,q⟩)
 clear I L ak ab t q aN aO aH;exact mbl
abbrev zXf:Array Value:=#[.int .i64 0,.int .i64 0,.int .i64 0,(),.string ⟨#[]⟩]
theorem zQr (a b c:Int) (s:Nm) {e:Option Addr} {n p:Nat}:∀u∈([a,b,c,.slice e n p,s]:List Value),u.oneCell'=true:=λu d=>by
 simp at d;rcases d with rfl|rfl|rfl|rfl|rfl<;>rfl
theorem zQs {f:Folder} {L:List Wrap} {c:List Epoch} {a b e g i j k q r:Value} (h:Z6 S w [a,b,e,q,i,r,k] f) (h3:Sl 5 YE S w g c) (h5:Sl 3 yL S w j L):Z6 S w [a,b,e,g,i,j,k] { f with epochs:=c,wraps:=L }:=by
 obtain⟨_,_,_,_,_,d,l,m,n,_,o,_,p⟩:=h;simp only[cons.injEq,and_true] at d;obtain⟨rfl,rfl,rfl,rfl,rfl,rfl,rfl⟩:=d;exact⟨_,_,_,_,_,rfl,l,m,n,h3,o,h5,p⟩
theorem zKv (st:State) (k:Nat) (hk:k<st.folders) (hl:st.folders.length<=10000) (cR:SmF st) (hr:z0v (fo st k).wraps) (eO:(fo st k).wraps.length<=2000) (bP:(fo st k).epochs≠[]) (cN:(fo st k).epochs.length<=5000) (who:Nm) (eM:who.size<=()) (cC:List Value) (w:World) (S:Nat->Prop) (h:Z5 S w cC st):
  Calls prog 118 #[.agg cC.toArray,k,who] w (zAu S (z1g st k who) w):=by
 have dW:=zh h;have dP:=zh hl;have d5:=zh eM;obtain⟨c8,db,c9,dd,da,de,rfl,gz,gA,gB,gC,e7,gt,gu,gv,e5,gw,gx,gy,e6⟩:=ZF h;obtain⟨a,bQ⟩:=Ξ (fo st k);have bR:st.folders[k]? =some a:=bQ▸ZT hk;rw[bQ] at hr eO bP cN;have dL:=zh bQ;have dZ:=zh hr;obtain⟨b9,cS,ed,ez,ck,c5⟩:=zP w (aS st c8 db c9 dd da de) 34;obtain⟨e,bX,ee,eA,cl,c6⟩:=zP b9 z6t 34;have bA:=ZJ (by rw[<-bX,<-cS];exact zR _ (zJ _ rfl):e.heap[w.heap.size]? =some (.cells (aS st c8 db c9 dd da de) 34 (0,0)));have cA:=ZJ (zbx bX);have cj:=zD ck cl;have v:=zh cj;have bt:=zh bA;have dR:=zh cA;have bu:=zh λeb (eJ:(bW e eb:Prop))=>zM dW (YL (zD v eJ))
 have fH:=Below.refl e e;obtain⟨b5,b6,b7,b8⟩:=TC4 bA.a;have bz:=ζ (w<b9.heap.size/\b9<e.heap.size) ⟨c5,c6⟩;have f5:(k:Int)<(st.folders:Int):=om
 obtain⟨t,gH,gT,aq,av,fm,dj,ar,aw,bh,bi,au,ax,dl,fn,fu,rfl,gL,gG,ff,fg,fh,fi,fj,fk,fl,di,gS,gU,gP,gQ,gR,fv,fp,fq,fr,dk,gI,gJ,gK,fs,fw,fx,fy,fz,gM,gN,gO,ft⟩:=yP e6 hk (YL v);obtain rfl:a=t:=zsi (bR.symm.trans dl);have bx:=zh di;have cv:=ζ ((zL a).members.length<=100) ((cR a (zmg bR)).2.1);obtain⟨ao,cQ⟩:∃ao,a.epochs.length=ao+1:=⟨a.epochs.length-1,by have:=length_pos_iff.2 bP;omega⟩;have aL:=zh cQ;clear cQ;obtain⟨bf,cT,ef,eB,aB,c7⟩:=zP e (aF a aq av fm dj ar aw bh bi au ax) 74;have bB:=ZJ (zbx cT);have aK:=zh bB;have ad:=zh (zD v aB);have aP:=zh c7;have fI:=Below.refl bf bf;obtain⟨ei,ej,ek,el,em,en,eo⟩:=TC7 bB.a;have l:=bt.on aB;obtain⟨e0,e1,e3,e4⟩:=TC4 l.a;have ae:=ζ (bW e bf:Prop) aB;clear l bA cA bB ed ez ee eA ef eB ck cl aB c5 c6 c7 dl fn fu di bR cR hr bP hl cj h fv fs ft e7 e5;go_enter func118,ntmps118
 go_wp2_with fail
 refine zcm (YW a _ bf (Old S w) (zV bx (z23 v ad))) ?_;rintro f bg ⟨⟨fL,rfl,bT⟩,bk⟩;obtain⟨d,bU⟩:=Ξ (zL a);rw[bU] at bT cv;have cu:=zh bU;obtain⟨cZ,c1,c0,c2,rfl,gd,c3,gj,gl,gm,eT,gi,ge,gf,gh,eS,gc,go⟩:=ZO bT;obtain⟨e8,cU,eg,eC,dp,gr⟩:=zP bg (aM d cZ c1 c0 c2) 84;have cw:=zh (ZJ (zbx cU));have bE:=zD bk dp;have dv:=zh (zD ad bE);have du:=zh (zD ad bk);obtain⟨f,ev,ey,eu,ew,ak,bI,bK,bJ,fU,fO,aX,aY,er,es,et,bH,cF,cE,fX,fR,fS,fT,ex,fY⟩:=zBn dk (by rw[aL.o];exact Nat.lt_succ_self _:ao<a.epochs) (z23 v dv);subst bJ;have dF:=zh (by rw[getLast?_eq_getElem?,aL.o,Nat.add_sub_cancel,ak];rfl:a.epochs.getLast?.getD zDm=f);obtain⟨q,cV,eh,eD,aG,gs⟩:=zP e8 (aE f eu ew) 130;have dS:=zh (ZJ (zbx cV));have ga:IntKind.i64.wrap ((a.epochs:Int)-1)=(ao:Int):=by rw[IntWalk.i64_in _ om];have:=aL.o;omega
 have f7:(ao:Int)<(a.epochs:Int):=by have:=aL.o;omega
 have G:=zD bE aG;clear bT bU eT ak bI bK bH ex;go_upto_region 4 with fail
 obtain⟨n,cM⟩:=Ξ (zY st 4 a.name);have bq:=zh cM;have ay:=bt.on (zD ae G);obtain⟨fB,fC,fD,fE⟩:=TC4 ay.a;have fF:=(aK.on G).at 0 rfl;have fG:=(cw.on aG).at 1 rfl;clear ay cM ei ej ek el em en eo b5 b6 b7 b8 e0 e1 e3 e4 ff fg fh fi fj fk fl aX aY er es et eg eC eh eD cS bX cT cU cV;go_cut [10] from 28 to 89 (λe2 ab=>∃(C:Nat) (o:Option Addr) (p:Nat),e2= .pointer (some ⟨C,0,none⟩)/\q<=C/\Hid (ab.heap[C]? =some (.cells #['1',d.seq,d.seq,.slice o n p,who] 130 (0,0)))/\Hid (Sl 2 rAt (λb=>q<=b/\b≠C) ab (.slice o n p) n)/\Hid (bW q ab))
 case first=>
  refine zEC 11 λr=>?_;refine ziU 0 ?_;iterate 7 (refine ztU r ?_;simp only[zA])
  refine zoU ?_;refine zU 8 r ?_;simp only[zA];refine z4p (i:=7) (j:=10) kr rfl rfl (λF u=>?_) (λF u=>?_)
  ·go_simp;go_at_call 45
   refine zcm (z4v st a.name _ _ _ (bu.o _ (zD (zD ae G) (zbr.drew)))) ?_;rintro cD x ⟨⟨df,rfl,R⟩,H⟩;have E:(bW q x:Prop):=zD (zbr.drew) H;clear H r;refine u.o _ _ E (λr=>?_);clear u F;try simp only[zA]
   rw[bq.o] at R;obtain⟨o,p,rfl,an,al,am,K⟩:=R;have ai:=ζ (Sl 2 rAt _ x (.slice o n p) n) ⟨_,_,rfl,an,al,am,K⟩;clear K;refine zU 9 r ?_;simp only[zA];refine tQa 10 λF u=>?_;go_simp;generalize a9:World.alloc _ _=I;have M:=(by rw[<-a9];exact Below.alloc (E) (E).size _:(bW q I:Prop));clear r;refine u.o _ _ M (λr=>?_);clear u F;try simp only[zA]
   have co:=zh (zbx a9);have A:=co.o;obtain⟨cb,cc,cd,ce,cf⟩:=zC5 (zB A).1;have cg:=(zB A).2;have cm:=zh (by rw[<-a9];exact Below.alloc zbr (znl _) _:(bW x I:Prop));clear a9;refine tNc 11 ?_
   refine Z7 kr ?_ _;obtain⟨bm,ac⟩:=zA9 co '1' d.seq d.seq (.slice o n p) who;have bn:=zh (ButB.below M M.size (λl Z=>by have:=E.size;have f:l=x:=Z;omega) ac);have dO:=ζ (q<=x.heap.size) E.size;have bv:=zh ((ai.keep (S':=λb=>q<=b/\b<x) ZE dc λb c hl=>⟨⟨c,hl⟩,rfl⟩).keep (S':=λb=>q<=b/\b≠x) ZE dc λb c _=>⟨⟨c.1,by have:=c.2;omega⟩,(ac.block b (zll c.2 cm.size) (oh c.2)).trans (cm.block b c.2)⟩);clear cb cc cd ce cf cg A;go_wp2;go_meet
   case rel=>exact⟨x,o,p,rfl,dO,bm,bv,bn⟩
  go_simp;generalize bY:World.drew (World.alloc _ _)=x;have E:=(by rw[<-bY];exact(Below.alloc zbr (znl _) _).drew:(bW q x:Prop));clear r;refine u.o _ _ E (λr=>?_);clear u F;try simp only[zA]
  have bp:=zh (zbd bY);clear bY;refine tQa 7 λF u=>?_;go_simp;go_at_call 45
  refine zcm (z4v st a.name _ _ _ (bu.o _ (zD (zD ae G) (E)))) ?_;rintro cD I ⟨⟨df,rfl,R⟩,H⟩;have M:(bW q I:Prop):=zD (E) H;have d2:=zh H;clear H r;refine u.o _ _ M (λr=>?_);clear u F;try simp only[zA]
  rw[bq.o] at R;obtain⟨o,p,rfl,an,al,am,K⟩:=R;have ai:=ζ (Sl 2 rAt _ I (.slice o n p) n) ⟨_,_,rfl,an,al,am,K⟩;clear K;refine zU 9 r ?_;simp only[zA];have A:=zh ((d2.block _ (zI bp)).trans bp);obtain⟨cb,cc,cd,ce,cf⟩:=zC5 (zB A).1;have cg:=(zB A).2;refine tNc 11 ?_
  refine Z7 kr ?_ _;obtain⟨bm,ac⟩:=zA9 A '1' d.seq d.seq (.slice o n p) who;have bn:=zh (ButB.below M M.size (λl Z=>by have f:l=q:=Z;omega) ac);have bv:=zh (ai.keep (S':=λb=>q<=b/\b≠q) ZE dc (ac.kept λb c=>by have bM:=zI bp;have f0:x<=b:=c;exact⟨⟨om,om⟩,om⟩));clear cb cc cd ce cf cg;go_wp2;go_meet
  case rel=>exact⟨q,o,p,rfl,znl _,bm,bv,bn⟩
 obtain⟨C,o,p,rfl,f2,br,dB,bw⟩:=hcut;rename_i d9 cK;refine cK _ _ ?_;clear cK d9;obtain⟨ap,rfl⟩:=ξ wc;have aR:=bw.o;obtain⟨m,bO⟩:=Ξ (z79 st a who);have aN:=zh (by rw[<-bO];unfold z79;rw[dF.o,cu.o,bq.o]:m=if decide (f.place<4)&&z5m a f.frm then⟨f.place+1,f.frm,d.seq,n,who⟩ else⟨1,d.seq,d.seq,n,who⟩);have dD:=zh bO;have dx:=zh (zD G aR);obtain⟨b0,eQ⟩:=TC2 dS.a;clear bO fB fC fD fE fF fG;go_step
 go_cut [] from 28 to 89 (λab=>Hid (ab.heap[C]? =some (.cells #[m.place,m.frm,d.seq,.slice o n p,who] 130 (0,0)))/\ButB (·=C) ap ab)
 case first=>
  by_cases Y:f.place<4
  rotate_left
  ·have Q:decide (f.place<4)=false:=Γ Y;have ah:=zh (by rw[aN.o,Q];rfl:m=⟨1,d.seq,d.seq,n,who⟩);clear Y;go_wp2;go_meet
   case rel=>exact⟨by rw[ah.o];exact br,ButB.refl _ _⟩
  have Q:decide (f.place<4)=true:=Δ Y;have aj:=aK.on (zD G aR);have fK:=Below.refl ap ap;obtain⟨aZ,a0,a1,X,a2,a3,a4⟩:=TC7 aj.a;have gb:IntKind.i64.wrap (f.place+1)=f.place+1:=IntWalk.i64_in _ (oh cF.1);clear aj;go_wp2_with fail
  refine zcb (zM8 a f.frm cE _ ap (Old S w) (zV bx (z23 v (zD ad dx)))) λz az=>?_;have aJ:=zh ((az.block _ (zI br)).trans br);have gF:=zD aR az;clear aZ a0 a1 X a2 a3 a4
  cases a8:z5m a f.frm with
  | false=>
   have ah:=zh (by rw[aN.o,Q,a8];rfl:m=⟨1,d.seq,d.seq,n,who⟩);have V:=zh az;clear a8 Y;go_wp2;go_meet
   case rel=>exact⟨by rw[ah.o];exact aJ,ButB.of V⟩
  | true=>
   have ah:=zh (by rw[aN.o,Q,a8];rfl:m=⟨f.place+1,f.frm,d.seq,n,who⟩);have V:=zh az;obtain⟨eX,eY⟩:=zC2 (zB aJ).1;have eZ:=(zB aJ).2;clear a8 Y;go_wp2;go_meet
   case rel=>exact⟨by rw[ah.o];exact zH (i:=1) _ (zH (i:=0) _ aJ rfl) rfl,((ButB.of V:ButB (·=C) ap z).set _ _ rfl).set _ _ rfl⟩
 obtain⟨cp,U⟩:=hcut;have aW:=ButB.below bw bw.size (λl Z=>om) U;have J:=zD G aW;have aI:=zh (zD ad J);have dC:=zh (dB.keep (S':=λb=>q<=b/\b≠C) ZE dc (U.kept λb c=>⟨c,c.2⟩));have aj:=aK.on J;have fJ:=Below.refl wc wc;have X:=aj.at 3 rfl;have dI:=ζ (Sl 5 YE (Old S w) wc (.slice (some ⟨ev,ey,none⟩) a.epochs dj) a.epochs) (Sl.keep z2e dc (show Sl 5 YE (Old S w) e _ a.epochs from⟨_,_,rfl,fp,fq,fr,dk⟩) (z23 v aI));obtain⟨cY,cP,cX,cH,cJ⟩:=info_parts (show(prog.info? 130).map (λT=>(T.zero,T.size,T.bytes))=some (some (.agg oE),5,64) from kr);obtain⟨g,cO⟩:=Ξ (a.epochs++[m]);have af:=zh cO;clear aj b0 eQ cO;go_upto_region 10 with (at_builtin;refine z1n wc rfl (.tmp 54) (.tmp 56) 69 rfl cY _ 64 underlying69 cP cX cH cJ rfl dc dc dc z2e rfl _ a.epochs rfl (λb c=>zll c.2 aI.size) dI om ?_;intro gD I bG b4 aT aH b1)
 obtain⟨dm,eU,ec,rfl⟩:=b4.shape3;have dA:=zh (by rw[<-af.o,qLax,qLax,aT.1];rfl:(bG++[([.int .i64 m.place,.int .i64 m.frm,.int .i64 d.seq,.slice o n p,.string who]:List Value)]).length=g.length);have dX:=zh b4;have dt:=zh aT;have aO:=zh b1;have W:=zh aH;have cs:=zh (by rw[aT.1];exact cN:bG.length<=5000);have dE:=zh ((aH.block _ (zI cp)).trans cp);have cB:=aK.on (zD J aH);have cq:=zh (cB _ zbr);have dV:=ζ ((Value.slice dm eU ec).ownBlock≠some e.heap.size) (λf=>by have:=b1 _ f;have:=aP.o;have:=J.size;omega);obtain⟨e9,fa,fb,fc,fd⟩:=zC5 (zB dE).1;clear b4 aT b1 aH cB X;go_upto_region 11 with (at_builtin;refine YD I [m.place,m.frm,d.seq,.slice o n p,who] rfl (.tmp 58) (.tmp 60) 69 rfl cY _ 64 underlying69 cP cX cH cJ rfl dc dc _ _ rfl dX (qNtx cs dc) rfl (zQr _ _ _ _) _ _ rfl rfl ?_;intro gE dg bd bL b2;obtain⟨L,P,rfl,_⟩:=bd.shape;rw[dA.o] at bd b2⊢;have dY:=zh bd;have ag:=zh bL;have dU:=zh b2;have bb:=(bL.block _ (zI cq) dV.symm).trans cq;have dM:=zh bb;have b0:=ψ bb 3 _ rfl;have eR:=(zB bb).2;clear bd bL b2 bb)
 generalize ba:World.setCell _ _ _=z;have dN:=zh (by rw[<-ba];exact zH (i:=3) _ dM rfl:z.heap[e.heap.size]? =some (.cells #[a.name,a.turn,.slice aq a.manifests av,.slice L g P,.slice ar a.items aw,.slice bh a.wraps bi,.slice au a.links ax] 74 (0,0)));have aV:ButB (·=e) dg z:=by rw[<-ba];exact(ButB.refl (·=e) dg).set _ _ rfl
 have cy:=zh (show ∀b,(Value.slice L g P).ownBlock=some b->wc.heap.size<=b from λb c=>by
  rcases dU with eV|⟨k,hk,hl⟩
  ·exact aO.o b (eV▸c)
  ·obtain rfl:k=b:=zsi (hk.symm.trans c);exact qNtx W.size hl)
 have aU:=zD (zD ae J) W;have bC:=Below.grown aU ag aU.size λb c=>qNtx (zD ae J).size (aO.o b c)
 have bD:=ButB.below bC bC.size (λl Z=>om) aV;have V:=zh (zD v bD);have dw:=zh (zD v aU);have N:=zh (show m.seq=d.seq/\m.chain=n/\m.who=who/\I64 m.place/\I64 m.frm by
  rw[aN.o];split
  ·rename_i Q;have Y:f.place<4:=by rw[qBqx,decide_eq_true_eq] at Q;exact Q.1
   have:=cF.1;exact⟨rfl,rfl,rfl,by constructor<;>dsimp only<;>omega,cE⟩
  ·exact⟨rfl,rfl,rfl,by constructor<;>dsimp only<;>omega,c3⟩)
 have f4:e<wc.heap.size:=by have:=aP.o;have:=J.size;omega
 have f3:e<q.heap.size:=by have:=aP.o;have:=G.size;omega
 have dH:=zh (show Sl 5 YE (Two S w e) z (.slice L g P) g from by
  have d7:Kept (Old S w) (Two S w e) I z:=λb c _=>⟨.inl c,(V.block b c.2).trans (dw.block b c.2).symm⟩
  have d8:Kept (λb=>q<=b/\b≠C) (Two S w e) wc z:=λb c hl=>⟨.inr om,(aV.block b (zll hl (qNtx W.size ag.size)) om).trans ((ag.block b (zll hl W.size) (λf=>by have:=aO.o b f.symm;omega)).trans (W.block b hl))⟩
  rw[<-af.o];have eP:YE (Two S w e) z [m.place,m.frm,d.seq,.slice o n p,who] m:=⟨.slice o n p,by rw[N.o.1,N.o.2.2.1],N.2.2.2.1,N.2.2.2.2,by rw[N.o.1];exact c3,by rw[N.o.2.1];exact dC.keep ZE dc d8,by rw[N.o.2.2.1];exact d5⟩;have hr:=(show RowC 130 5 z (.slice L g P) (bG++[[.int .i64 m.place,.int .i64 m.frm,.int .i64 d.seq,.slice o n p,.string who]]) from dY.keep λb c=>by have:=cy.o b c;rw[<-ba];exact Below.heap_setCell _ _ _ _ λf=>by have fN:b=e:=f;omega);rw[<-af.o] at hr;exact z34 z2e hr (by rw[qLax];have:=cs.o;simp;omega) ((dt.imp λ_ _ f=>z2a f d7).snoc eP) λb c=> .inr (oh (cy.o b (by rw[<-af.o];exact c))))
 have d4:=ζ (Sl 3 yL (Two S w e) z (.slice bh a.wraps bi) a.wraps) (Sl.keep z08 dc (show Sl 3 yL (Old S w) e _ a.wraps from⟨_,_,rfl,fw,fx,fy,fz⟩) λb c _=>⟨.inl c,(V.block b c.2).trans (v.block b c.2).symm⟩);have f6:e<bg.heap.size/\bg<wc.heap.size:=by have:=aP.o;have:=bk.size;have:=aW.size;have:=aG.size;omega
 have bs:=zh (show z.heap[bg.heap.size]? =some (.cells (aM d cZ c1 c0 c2) 84 (0,0)) from by
  have bN:=cw.o I (zD (zD aG aW) W);exact(aV.block _ (zll (zI bN) ag.size) om).trans ((ag.block _ (zI bN) λf=>by have:=aO.o _ f.symm;omega).trans bN))
 have bc:=ψ bs 4 _ rfl;have cn:=zh bD;clear ba b0 eR e9 fa fb fc fd aV aU bC bD aW J bE G aR U;go_wp2_with fail
 clear bc;go_loopw [12] (λT ca=>∃(s:Nat) (ci:Option Addr) (c4:Nat),s<=d.members/\T= .int .i64 s/\Hid (ca.heap[e.heap.size]? =some (.cells #[a.name,a.turn,.slice aq a.manifests av,.slice L g P,.slice ar a.items aw,.slice ci (z2x g (λt=>decide (2<=t.role)) a.wraps (d.members.take s)).length c4,.slice au a.links ax] 74 (0,0)))/\Hid (Sl 3 yL (Two S w e) ca (.slice ci (z2x g (λt=>decide (2<=t.role)) a.wraps (d.members.take s)).length c4) (z2x g (λt=>decide (2<=t.role)) a.wraps (d.members.take s)))/\ButB (·=e) z ca) (λT _=>d.members.length-(intOf T).toNat)
 case atStart=>exact⟨0,bh,bi,om,gn,dN,d4,ButB.refl _ _⟩
 obtain⟨aa,rfl⟩:=ξ wr;obtain⟨s,dn,eW,f8,rfl,B,cz,a7⟩:=hrel;have O:=ButB.below cn cn.size (λl Z=>om) a7;have bo:=zh (zD v O);obtain⟨y,a6⟩:=Ξ (z2x g (λt=>decide (2<=t.role)) a.wraps (d.members.take s));rw[a6] at B cz;have ct:=zh a6;obtain⟨bV,bS⟩:=zB0 g (λt=>decide (2<=t.role)) (d.members.take s) dZ;rw[a6] at bV bS;have eK:y.length<=4500:=by have:=cv.o;rw[length_take] at bS;omega
 have d0:=zh bV;have dQ:=zh ((a7.block _ (zI bs) om).trans bs);have dJ:=zh (dH.keep (S':=Two S w e) z2e dc (a7.kept λb c=>⟨c,zQk (Nat.lt_trans bz.1 bz.2) c⟩));have cr:=ζ (Z6 (Two S w e) aa [a.name,a.turn,.slice aq a.manifests av,.slice L g P,.slice ar a.items aw,.slice dn y eW,.slice au a.links ax] { a with epochs:=g,wraps:=y }) (zQs (zV bx λb c _=>⟨.inl c,O.block b (zll c.2 v.size)⟩) dJ cz);have bc:=YO (ψ dQ 4 _ rfl);have ea:=Below.refl aa aa;have aZ:=YO (ψ B 0 _ rfl);have a0:=YO (ψ B 1 _ rfl);have a1:=YO (ψ B 2 _ rfl);have X:=YO (ψ B 3 _ rfl);have a2:=YO (ψ B 4 _ rfl);have a3:=YO (ψ B 5 _ rfl);have a4:=YO (ψ B 6 _ rfl);clear a6 bV bS;by_cases eL:s<d.members
 rotate_left
 ·obtain rfl:s=d.members:=om
  have dK:=zh (show z1g st k who=setF st k { a with epochs:=g,wraps:=y } by
   have bM:=ct.o;rw[qLnx] at bM;unfold z1g;rw[dL.o,dD.o,af.o,cu.o,<-bM];exact congrArg (setF st k) (zFa (λt=>decide (2<=t.role)) { a with epochs:=g } d.members a.wraps))
  have ay:=bt.on O;obtain⟨b5,b6,b7,b8⟩:=TC4 ay.a;clear ay;go_wp2_with fail
  refine zcm (refwith_any st k hk dP { a with epochs:=g,wraps:=y } _ _ aa (Two S w e) (zM (bu.o _ O) (Kept.refl _ λ_ h=> .inl h)) cr) ?_;rintro f x ⟨⟨fM,rfl,a5⟩,U⟩;rw[<-dK.o] at a5;have d1:=zh a5;obtain⟨dq,eE,dr,eF,ds,eG,rfl⟩:=ZN a5;have aQ:=dR.o x (zD O U);have dT:=zh aQ;obtain⟨eX,eY,gp,gq⟩:=zC4 (zB aQ).1;have eZ:=(zB aQ).2;have aI:=zh (zD bo U);have dz:=zh O;clear aQ a5 aZ a0 a1 X a2 a3 a4 bc O ea b5 b6 b7 b8;have HP:=zh (z2o dT (.int .i64 (z1g st k who).turn) (.slice dq (z1g st k who).users.length eE) (.slice dr (z1g st k who).deposits.length eF) (.slice ds (z1g st k who).folders.length eG));have HFIN:=zh (zI6 (st':=z1g st k who) bz v.size dz.size bo.size d1 aI HP.2);exact mbl
 obtain⟨D,fQ,fW,ak,bI,bK,bJ,fV,fP,aX,aY,bH,eH,fZ⟩:=yT eS eL (z23 du bo);cases bJ
 have cx:=zh (by rw[qLtx,ak,Option.toList,zG8,ct.o]:z2x g (λt=>decide (2<=t.role)) a.wraps (d.members.take (s+1))=YI g D.name (decide (2<=D.role)) y);have ep:=YO aX;have eq:=YO aY;have f9:(s:Int)<(d.members:Int):=om
 have dG:=zh eH;clear ak bI bK bH aX aY;go_upto_region 14 with fail
 refine zEC 15 λr=>?_;refine ziU 0 ?_;iterate 14 (refine ztU r ?_;simp only[zA])
 refine zoU ?_;refine tQa 14 λF u=>?_;go_simp;go_at_call 115
 refine zcm (z9v { a with epochs:=g,wraps:=y } d0 D.name dG (decide (2<=D.role)) eK _ _ _ (zV cr (Kept.below (zbr.drew) λ_ h=>h))) ?_;rintro cD be ⟨⟨df,rfl,R⟩,H⟩;have bl:(bW aa be:Prop):=zD (zbr.drew) H;clear H r;refine u.o _ _ bl (λr=>?_);clear u F;try simp only[zA]
 obtain⟨bj,b3,rfl,an,al,am,K⟩:=R;have ai:=ζ (Sl 3 yL _ be (.slice bj (YI g D.name (decide (2<=D.role)) y).length b3) (YI g D.name (decide (2<=D.role)) y)) ⟨_,_,rfl,an,al,am,K⟩;have A:=zh ((bl.block _ (zI B)).trans B);have fe:=ψ A 5 _ rfl;have fA:=(zB A).2;clear K;refine tNc 15 ?_
 refine tNc 16 ?_
 refine Z7 kr ?_ _;generalize bZ:World.setCell _ _ _=dh;have d6:=zh (by rw[<-bZ];exact zH (i:=5) _ A rfl:dh.heap[e.heap.size]? =some (.cells #[a.name,a.turn,.slice aq a.manifests av,.slice L g P,.slice ar a.items aw,.slice bj (YI g D.name (decide (2<=D.role)) y).length b3,.slice au a.links ax] 74 (0,0)));have bF:ButB (·=e) be dh:=by rw[<-bZ];exact(ButB.refl (·=e) be).set _ _ rfl
 have d3:=zh (ai.keep (S':=Two S w e) z08 dc (bF.kept λb c=>by have f1:aa<=b:=c;have eI:=zI B;exact⟨.inr (zll eI c),om⟩));have dy:=zh (a7.trans ((ButB.of bl).trans bF));clear bZ fe fA bF aZ a0 a1 X a2 a3 a4 ep eq bc;go_wp2;go_roundw
 case rel=>exact⟨s+1,bj,b3,om,gn,(by rw[cx.o];exact d6),(by rw[cx.o];exact d3),dy⟩
 case measure=>exact qMx
abbrev zOh (W:World) (b a:Nat) (a0 a1 a2 a3:Value) (n:Int):World:=(((((((((((W.setCell (aD b 0) a0).setCell (aD b 1) a1).setCell (aD b 2) a2).setCell (aD b 3) a3).setCell (aD a 0) '0').setCell (aD a 1) n).setCell (aD a 2) "").setCell (aD a 3) ()).setCell (aD a 4) ()).setCell (aD a 5) ()).setCell (aD a 6) ())
theorem z4b {st':State} {n:Int} {b:Bool} {W:World} {a c:Nat} (m:W.heap[a]? =some (.cells z6t 34 (0,0))) (k:W.heap[c]? =some (.cells z59 49 (0,0))) (l:a≠c) (B:(bW w W:Prop)) (h4:w<=a) (h5:w<=c) (hn:I64 n) {a0 a1 a2 a3:Value}
  (h:∀W',ButB (λd=>d=a\/d=c) W W'->((bW w W':Prop))->Z5 (New S w) W' [a0,a1,a2,a3] st'):
  (zOh W a c a0 a1 a2 a3 n).heap[a]? =some (.cells #[a0,a1,a2,a3] 34 (0,0))/\(zOh W a c a0 a1 a2 a3 n).heap[c]? =some (.cells (ZV 0 n) 49 (0,0))/\Ret3 S (st',Y2 n,b) w (.returned (.tuple #[.agg #[a0,a1,a2,a3],.agg (ZV 0 n),b])) (zOh W a c a0 a1 a2 a3 n):=by
 have f:=z2o m a0 a1 a2 a3;have g:=ZC ((f.2.block _ (zI k) (Ne.symm l)).trans k) '0' n "" () () () ();have i:ButB (λd=>d=a\/d=c) W (zOh W a c a0 a1 a2 a3 n):=(f.2.mono λ_ e=> .inl e).trans (g.2.mono λ_ e=> .inr e);have j:=ButB.below B B.size (λd o=>by rcases o with e|e<;>omega) i;exact⟨(g.2.block _ (zI f.1) l).trans f.1,g.1,⟨⟨[a0,a1,a2,a3],(ZV 0 n).toList,rfl,h _ i j,z33 hn⟩,j⟩⟩
theorem z3h {st:State} {b:World} {a:List Value} {n:Int} {r:Res} (c:r=(st,ZD n,false)) (h:Z5 S w a st) (B:(bW w b:Prop)) (hn:I64 n):Ret3 S r w (.returned (.tuple #[.agg a.toArray,.agg (ZV n 0),false])) b:=c▸zX9 h B hn
theorem mcJ {p:Prop} (h:p:=by
 go_wp2_with ((try simp only[φ]);exact YN rfl rfl HFIN.1 rfl HFIN.2.1 rfl rfl rfl HFIN.2.2)):p:=h
theorem zJ4 (st:State) (c:Call) (hk:c.kind=1) (hl:st.users.length<=1000) (al ak:List Value) (w:World) (S:Nat->Prop) (h:Z5 S w al st) (ao:z09 S w ak c):
  Calls prog 63 #[.agg al.toArray,.agg ak.toArray] w (Ret3 S (YB st c) w):=by
 have HR:=zh h;obtain⟨aH,aI,L,N,M,O,rfl,_,bl,bm,bn,aJ,_,_,_,bj,_,_,_,bk⟩:=ZF h;obtain⟨a5,a6,rfl,_,a8,_,_,_,_,_,_,_,_,a7⟩:=yG ao;obtain⟨az,aq,ay,am,an⟩:=info_parts (show(prog.info? 91).map (λG=>(G.zero,G.size,G.bytes))=some (some (.agg #["",false]),2,24) from kr);obtain⟨aL,aN,aO,w3,av,aw,ax,ba,P,A,ae,af,ag,E⟩:=z8h w (aS st aH aI L N M O) (aC c a5 a6);have HB3:=zh P;have W:=zh A;have HN2:=zh af;have HN3:=zh ag;have HNE:=zh E;have HZ:=zh (show w<aL.heap.size/\aL<aN.heap.size/\aN.heap.size<aO.heap.size by
  rw[<-ax,<-aw,<-av];simp)
 have aZ:=zh a8;have aX:=ζ (Sl 2 z0z S w (.slice aH st.users aI) st.users) ⟨_,_,rfl,bl,bm,bn,aJ⟩;have br:=Below.refl w3 w3;obtain⟨s0,s1,s2,s3⟩:=TC4 A.a;obtain⟨bt,bu⟩:=TC2 ae.a;have d:(c.kind==1)=true:=by simpa using hk
 clear A ae af ag E P aJ bj bk a7 h ao hk;go_enter func63,ntmps63
 go_wp2_with fail
 refine zcb (z5v st c.user _ _ _ (zM HR (YL HB3))) λbo Q=>?_;have U:=zh (zD HB3 Q);have k:=zh Q;clear av aw ax ba
 cases g:yU st c.user with
 | some aK=>
  have HE:=zh (by unfold YB;rw[g];rfl:YB st c=(st,ZD 42,false));have ap:decide (0<=(aK:Int))=true:=θ;clear g;unfold iOf;have q:=k.o;go_upto_region 3 with fail
  have bz:=q;exact xER
 | none=>
  have ac:=zh g;clear g;unfold iOf;have q:=k.o;by_cases r:16<=st.users.length
  ·have HE:=zh (by unfold YB;rw[ac.o,if_neg dc,if_pos r]:YB st c=(st,ZD 3,false));have ap:decide (16<=(st.users:Int))=true:=θ;clear r;go_upto_region 5 with fail
   have bz:=q;exact xER
  have HE:=zh (by unfold YB;rw[ac.o,if_neg dc,if_neg r]:YB st c=({ st with users:=st.users++[⟨c.user,false⟩] },Y2 0,true));have ap:decide (16<=(st.users:Int))=false:=η;have aY:=zh (aX.keep z1a dc (YL U));clear r;go_upto_region 8 with (at_builtin;refine z1n bo rfl (.tmp 27) (.tmp 29) 30 rfl az _ 24 underlying30 aq ay am an rfl dc dc dc z1a rfl _ st.users rfl (λa d=>zll d.2 U.size) aY om ?_;intro bE bp bv J ah R aB)
  obtain⟨_,_,_,rfl⟩:=J.shape3;have aW:=zh J;have v:=zh ah;have Y:=zh aB;have aj:=zD k R;have m:=zh aj;clear J ah R aB;go_upto_region 9 with (at_builtin;refine YD bp [c.user,false] rfl (.tmp 31) (.tmp 35) 30 rfl az _ 24 underlying30 aq ay am an rfl dc dc _ _ rfl aW (by rw[v.o.1];omega) rfl (λaK g=>by simp at g;rcases g with rfl|rfl<;>rfl) _ _ rfl rfl ?_;intro bF aP K D aG;obtain⟨u,I,C,rfl⟩:=K.shape3;have ab:=zh K;have bq:=zh D;have aV:=zh aG;have B:=Below.grown m D m.size (λa d=>qNtx k.size (Y.o a d));have f:=zh B;have H:=W.o _ B;have bc:=ψ H 1 _ rfl;have bd:=(zB H).2;clear K D aG H)
  generalize F:World.setCell _ _ _=aQ;have l:ButB (·=w) aP aQ:=by rw[<-F];exact(ButB.refl (·=w) aP).set _ _ rfl
  have ad:aQ.heap[w.heap.size]? =some (.cells #[st.turn,.slice u I C,.slice L st.deposits N,.slice M st.folders O] 34 (0,0)):=by
   rw[<-F];exact zH (i:=1) _ (W.o _ f) rfl
  have o:=(l.block _ (zI (HN2.o _ f)) (oh HZ.o)).trans (HN2.o _ f);have p:=(l.block _ (zI (HN3.o _ f)) (oh HZ.o)).trans (HN3.o _ f);have ai:=ButB.below (zD HB3 f) (zD HB3 f).size (λt bC=>om) l;have aT:=zh (zD HB3 m);have V:=zh l;have au:∀a,(Value.slice u I C).ownBlock=some a->w3.heap.size<=a:=λa d=>by
   rcases aV with be|⟨bb,hk,hl⟩
   ·exact qNtx k.size (Y.o a (be▸d))
   ·obtain rfl:bb=a:=zsi (hk.symm.trans d);exact qNtx m.size hl
  have Z:=zh au;have aU:=ζ (aO<w3.heap.size) (zI (HN3.o _ zbr));have HFIN:=zh (z4b (b:=true) (S:=S) (st':={ st with users:=st.users++[⟨c.user,false⟩] }) (n:=0) o p HNE ai (Nat.le_of_lt (Nat.lt_trans HZ.1 HZ.2.1)) (Nat.le_of_lt (Nat.lt_trans HZ.1 (Nat.lt_trans HZ.2.1 HZ.2.2))) ⟨om,om⟩ (a0:= .int .i64 st.turn) (a1:= .slice u I C) (a2:= .slice L st.deposits N) (a3:= .slice M st.folders O) (λbs aR T=>by
   refine zKt (zM HR (z4o T)) (z34 z1a (ab.keep λa d=>?_) (by simp[v.o.1];omega) ((v.imp λ_ _ a9=>z29 a9 (zKe aT T)).snoc ⟨rfl,aZ.o⟩) λa d=> .inr (qNtx HB3.size (Z.o a d)));have ar:=ab.lt a d;have bA:=Z.o a d;have p0:=aU.o;have bx:=HZ.o;exact(aR.block _ (zll ar V.size) om).trans (V.block _ ar om)))
  rw[<-HE.o] at HFIN;obtain⟨_,_⟩:=zC4 (zB ad).1;obtain⟨_,_⟩:=zC4 (zB o).1;have bD:=(zB o).2;obtain⟨_,_⟩:=zC7 (zB p).1;have bw:=(zB p).2;have E:=HNE.o;have bB:=Ne.symm HNE;clear F l ad o p ai au bc bd s0 s1 s2 s3 B aj q;exact mcJ
end Go.Proofs.YtdggplhnfhcieaaGreatDoor
