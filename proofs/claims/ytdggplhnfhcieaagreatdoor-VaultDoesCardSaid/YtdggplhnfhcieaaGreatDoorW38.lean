/- No condition. -/
import Derived.Test.YtdggplhnfhcieaaGreatDoorW36
set_option linter.all false
set_option maxRecDepth 100000
set_option maxHeartbeats 16000000
namespace Go.Proofs.YtdggplhnfhcieaaGreatDoor
open Go.Proofs.Tryz Cd Ce List
open Go.RowKit Go.Deep
variable {S:Nat->Prop} {f:Folder} {p:Prop} {s:Nm} {st:State} {w:World}
theorem zWe {st:State} {s:Nm} {i:Int} (h:foI st s=none) (hi:AtI (isF s) st.folders i):i= -1:=by
 rcases hi with ⟨k,g,_,e,d⟩|⟨b,_⟩
 ·unfold foI at h;rw[findIdx?_eq_none_iff] at h;have:=h g (zmg e);have a:=find?_some d;rw[this] at a;cases a
 exact b
theorem zWf {st:State} {s:Nm} {i:Int} {k:Nat} (h:foI st s=some k) (hi:AtI (isF s) st.folders i):0<=i:=by
 rcases hi with ⟨e,g,rfl,_,_⟩|⟨_,a⟩
 ·omega
 unfold foI at h;obtain⟨b,d,_⟩:=findIdx?_eq_some_iff_getElem.1 h;have:=find?_eq_none.1 a _ (getElem_mem b);exact absurd d this
abbrev z95 (S:Nat->Prop) (w a:World) (g:Nat):Nat->Prop:=λb=>New (Old S w) a b/\¬b=g
def zJe (st:State) (c:Call):Folder:={ z02 st c with epochs:=[⟨1,1,1,zY (Y4 st (z02 st c)) 4 c.folder,c.user⟩] }
theorem zOs (st:State) (c:Call):z4z st c={ yN (Y4 st (zJe st c)) st.folders with turn:=st.turn+1 }:=by
 unfold z4z;dsimp only;rw[show({ st with folders:=st.folders++[z02 st c] }:State)=Y4 st (z02 st c) from rfl,z6h];rfl
theorem zMe {c:Call} {k:Nat} (h:foI st c.folder=some k):YR st c=(st,ZD 42,false):=by
 unfold YR;rw[h];rfl
theorem zR6 {l:List Epoch} {a b e g i j m v:Value} (h:Z6 S w [a,b,e,v,i,j,m] f) (h3:Sl 5 YE S w g l):Z6 S w [a,b,e,g,i,j,m] { f with epochs:=l }:=by
 obtain⟨_,_,_,_,_,d,n,o,q,_,r,t,u⟩:=h;simp only[cons.injEq,and_true] at d;obtain⟨rfl,rfl,rfl,rfl,rfl,rfl,rfl⟩:=d;exact⟨_,_,_,_,_,rfl,n,o,q,h3,r,t,u⟩
theorem zJ8 {n:Nat} (st:State) (c:Call) (aq:VInv n st) (hn:n<=40) (bS:CallOk c) (ao c6:List Value) (w:World) (S:Nat->Prop) (h:Z5 S w ao st) (de:z09 S w c6 c):
  Calls prog 58 #[.agg ao.toArray,.agg c6.toArray] w (Ret3 S (YR st c) w):=by
 have HR:=zh h;have eA:=zh aq;have d5:=ζ (c.folder.size<=20/\c.other.size<=20) ⟨bS.f20,bS.o20⟩;have cQ:=ζ (0<=st.turn/\st.turn<=1000000) ⟨aq.turn.1,by have:=aq.turn.2;omega⟩;have H:=zh (by have:=aq.few;omega:st.folders.length<=40);obtain⟨cc,ce,cd,cf,dJ,dK,rfl,_,_,_,_,fw,_,_,_,fs,ft,fu,fv,dL⟩:=ZF h;obtain⟨eH,eI,rfl,_,eM,eK,_,eL,_,_,_,_,_,eJ⟩:=yG de;obtain⟨dz,di,dy,da,db⟩:=info_parts (show(prog.info? 74).map (λaa=>(aa.zero,aa.size,aa.bytes))=some (some (.agg oF),7,144) from kr);obtain⟨aw,N,O,w3,dt,du,dv,fa,cp,bE,bF,cU,cV,bX⟩:=z8h w (aS st cc ce cd cf dJ dK) (aC c eH eI);have HB3:=zh cp;have bs:=zh bE;have aL:=zh bF;have HN2:=zh cU;have HN3:=zh cV;have HNE:=zh bX;have HZ:=zh (by rw[<-dv,<-du,<-dt];simp:w<aw.heap.size/\aw<N.heap.size/\N<O.heap.size);have eb:=ζ (O<w3.heap.size) (zI (HN3.o _ zbr));have aP:=zh λam (e5:(bW w3 am:Prop))=>zM HR (YL (zD HB3 e5))
 have aU:=Below.refl w3 w3;obtain⟨s0,s1,s2,s3⟩:=TC4 bE.a;obtain⟨_,fE,fF,_,fG⟩:=TC5 bF.a;clear bE bF cU cV bX cp;have G:=ζ (c.user.size<=()/\c.folder.size<=()/\c.other.size<=()) ⟨eM,eK,eL⟩;have et:=ζ (Sl 7 Z6 S w (.slice dJ st.folders dK) st.folders) ⟨_,_,rfl,ft,fu,fv,dL⟩;clear fw fs dL eJ h de bS aq;go_enter func58,ntmps58
 go_wp2_with fail
 refine zcm (zBt st c.folder _ _ _ (aP.o _ aU)) ?_;rintro _ cg ⟨⟨aa,rfl,dh⟩,bg⟩;have cs:=zh bg;have cq:=zh dh;clear dt du dv fa dh
 cases V:foI st c.folder with
 | some k=>
  have HE:=zh (zMe V);have df:decide (0<=aa)=true:=Δ (zWf V cq);clear V;go_upto_region 2 with fail
  have bz:=bg;exact xER
 | none=>
 have aj:=zh V;obtain rfl:aa= -1:=zWe V cq;have cZ:=Below.refl cg cg;clear V;go_upto_if 21 with fail
 obtain⟨bL,bV⟩:=Ξ c.other.toList.isEmpty;rw[bV];have cA:=zh bV;clear bV;go_cut [7] from 19 to 35 (λfS fy=>Hid (z11 st c=0)/\bW cg fy)
 case first=>
  cases bL with
  | true=>
   have Z:c.other=⟨#[]⟩:=Classical.byContradiction λZ=>by
    have K:=cA.o;rw[z0n Z] at K;cases K
   have bB:=zh (by unfold z11;rw[if_pos (show isE c.other=true from Δ Z)]:z11 st c=0);clear Z;go_wp2;go_meet
   case rel=>exact⟨bB,cZ⟩
  | false=>
  have bu:=zh (show ¬isE c.other=true by
   intro t;have Z:c.other=⟨#[]⟩:=of_decide_eq_true t;have K:=cA.o;rw[Z,z0o] at K;cases K)
  go_wp2_with fail
  refine zcb (z17 st c.other _ _ _ (aP.o _ bg)) λdN ab=>?_;have I:=zD cs ab;have bo:=zh ab
  cases a4:ZB st c.other with
  | none=>
   have HE:=zh (show YR st c=(st,ZD 41,false) by
    have au:z11 st c=41:=by unfold z11;rw[if_neg bu.o,a4]
    rw[z8l aj.o (by rw[au];decide),au])
   clear a4;unfold iOf;go_upto_region 6 with fail
   have bz:=I;exact xER
  | some M=>
   have dl:decide ((M:Int)<0)=false:=η;have bA:=zh a4;have dU:=zh I;clear a4;unfold iOf;go_wp2_with fail
   refine zcb (z5w st M (z0l (yO bA)) c.user _ _ _ (aP.o _ I)) λx ac=>?_;have J:=zD dU ac;have dV:=zh (zD bo ac);by_cases W:ZS st M c.user<2
   ·have HE:=zh (show YR st c=(st,ZD 40,false) by
     have au:z11 st c=40:=by unfold z11;rw[if_neg bu.o,bA.o];exact if_pos W
     rw[z8l aj.o (by rw[au];decide),au])
    have df:decide (ZS st M c.user<2)=true:=Δ W;clear W;go_upto_region 8 with fail
    have bz:=J;exact xER
   have bB:=zh (by unfold z11;rw[if_neg bu.o,bA.o];exact if_neg W:z11 st c=0);have df:decide (ZS st M c.user<2)=false:=Γ W;clear W;go_wp2;go_meet
   case rel=>exact⟨bB,dV⟩
 case rest=>
 obtain⟨cE,ab⟩:=hcut;obtain⟨dN,rfl⟩:∃g:World,g=wc:=⟨_,rfl⟩;have I:=zD cs ab;have bo:=zh I;clear cZ;go_wp2_with fail
 refine zcm (z8z st c.other _ dN _ (aP.o _ I)) ?_;rintro fK x ⟨⟨_,rfl,dn⟩,ac⟩;obtain⟨ch,bU⟩:=Ξ (zY st 4 c.other);rw[bU] at dn;have cy:=zh bU;obtain⟨_,_,rfl,fg,fh,fi,c9⟩:=dn;have J:=zD bo ac;have ct:=zh J;have fM:decide (64<=(st.folders:Int))=false:=Γ (oh H.o);clear c9 fg fh fi bU ab ac I;by_cases aW:4<=ch.length
 ·have HE:=zh (zGg aj cE (by rw[cy.o];exact aW));have e6:decide (3<(ch:Int))=true:=θ;clear aW;go_upto_region 10 with fail
  have bz:=J;exact xER
 have eC:=zh (zIf aj cE (by rw[cy.o];exact aW) (oh H.o));have e6:decide (3<(ch:Int))=false:=η;obtain⟨cj,dw,eO,eU,ad,dE⟩:=zP x #[c.user,.int .i64 4] 87;obtain⟨o,fb,c8,eV,Q,dF⟩:=zP cj #[c.folder,'1',(),c.other,.slice (some ⟨x,0,none⟩) 1 1,'0',false,c.user] 84;obtain⟨u,dx,eQ,eX,bk,dH⟩:=zP o #[c.folder,'1',(),c.other,.slice (some ⟨x,0,none⟩) 1 1,'0',false,c.user] 84;obtain⟨wr,a6,eR,eY,bl,dI⟩:=zP u #[c.user,'1',true] 149;obtain⟨r,b4,eP,eW,ay,dG⟩:=zP wr #[c.folder,'1',.slice (some ⟨o,0,none⟩) 1 1,(),(),.slice (some ⟨u,0,none⟩) 1 1,()] 74;have eh:=zh (ZJ (zbx dw));have ei:=zh (ZJ (zbx dx));have ej:=zh (ZJ (zbx a6));have cJ:=zh (ZJ (zbx b4));have cw:=zh (zD bk (zD bl ay));have dW:=zh (zD ad (zD Q cw));have dZ:=zh (zD bl ay);have dY:=zh (zD Q cw);have d0:=zh ay;have F:=zh (zD ct dW);have j:=zh (show w<aw.heap.size/\aw<N.heap.size/\N<O.heap.size/\O<w3.heap.size/\w3<=x.heap.size/\x<cj.heap.size/\cj<o.heap.size/\o<u.heap.size/\u<wr.heap.size/\wr<r.heap.size/\w.heap.size<=w3.heap.size from
  ⟨HZ.1,HZ.2.1,HZ.2.2,eb,ct.size,dE,dF,dH,dI,dG,HB3.size⟩)
 have al:=aL.on J;obtain⟨_,ck,cl,_,fB⟩:=TC5 al.a;obtain⟨fj,fk,fl,fm,fn,fp,fq,fr⟩:=TC8 c8;have eE:=Below.refl x x;have fz:=(aL.on (zD J (zD ad Q))).at 1 rfl o zbr;have fA:=(aL.on (zD J (zD ad Q))).at 2 rfl o zbr;have cb:=(bs.on F).at 3 rfl r zbr;have c2:=zD ad Q;have eG:=zD c2 bk;clear aW al eO eU dE c8 eV dF eQ eX dH eR eY dI eP eW dG Q bk bl ay;have eB:=zh b4;clear b4;go_upto_region 12 with fail
 go_upto_region 13 with fail
 rw[eB.o];go_upto_region 14 with fail
 clear dw fb dx a6 fj fk fl fm fn fp fq fr ck cl fB fz fA eE ad c2 eG;have eu:=zh (et.keep rFolder_ok dc (YL (zD HB3 F)));go_upto_region 16 with (at_builtin;refine z1n r rfl (.tmp 75) (.tmp 77) 32 rfl dz _ 144 underlying32 di dy da db rfl dc dc dc rFolder_ok rfl _ st.folders rfl (λa d=>zll d.2 (zD HB3 F).size) eu (oh H.o) ?_;intro fT bb c7 b9 bH bh dC)
 obtain⟨_,_,rfl,_⟩:=b9.shape;have bT:c7=st.folders.length:=bH.1;rw[bT];have U:=zh bT;have eo:=zh b9;have dT:=zh bH;have bv:=zh dC;have R:=zh bh;have cX:=cJ.on bh;obtain⟨bM,bN,m,ap,bO,bP,bQ⟩:=TC7 cX.a;have eF:=Below.refl bb bb;have dj:∀dM∈([c.folder,'1',.slice (some ⟨o,0,none⟩) 1 1,(),(),.slice (some ⟨u,0,none⟩) 1 1,()]:List Value),dM.oneCell'=true:=λdM dr=>by
  simp at dr;rcases dr with rfl|rfl|rfl|rfl|rfl|rfl<;>rfl
 have el:=zh dj;have cH:=zh (by unfold Y4;rw[qLax,qLax,U.o];rfl:(c7++[[Value.string c.folder,'1',.slice (some ⟨o,0,none⟩) 1 1,(),(),.slice (some ⟨u,0,none⟩) 1 1,()]]).length=(Y4 st (z02 st c)).folders.length);clear b9 bH bh dC bT cX cb dj;go_upto_region 17 with (at_builtin;refine YD bb [c.folder,'1',.slice (some ⟨o,0,none⟩) 1 1,(),(),.slice (some ⟨u,0,none⟩) 1 1,()] rfl (.tmp 79) (.tmp 81) 32 rfl dz _ 144 underlying32 di dy da db rfl dc dc _ _ rfl (U.o▸eo) (by rw[U.o];have:=H.o;omega) rfl el _ _ rfl rfl ?_;intro fU ci ca bR dD;obtain⟨bf,bK,ds,_⟩:=ca.shape;rw[cH.o] at ds;subst ds;have ep:=zh ca;have d8:=zh bR;have ek:=zh dD;have bI:=Below.grown (zD F R) bR (zD F R).size (λa d=>qNtx F.size (bv.o a (by rw[U.o];exact d)));have T:=zh bI;have b8:=bs.o _ bI;have cb:=ψ b8 3 _ rfl;have fx:=(zB b8).2;clear ca bR dD b8)
 generalize b1:World.setCell _ _ _=l;have cS:l.heap[w.heap.size]? =some (.cells #[st.turn,.slice cc st.users ce,.slice cd st.deposits cf,.slice bf (Y4 st (z02 st c)).folders.length bK] 34 (0,0)):=by
  rw[<-b1];exact zH (i:=3) _ (bs.o _ T) rfl
 have c3:ButB (·=w) ci l:=by rw[<-b1];exact(ButB.refl (·=w) ci).set _ _ rfl
 have cD:=zh cS;have af:=zh c3;have dd:(bW r ci:Prop):=Below.grown R d8 R.size (λa d=>bv.o a (by rw[U.o];exact d));have cx:=zh dd;clear b1 cS c3 fx cb bM bN m ap bO bP bQ eF bI dd;have aJ:=zh (ButB.below (zD HB3 T) (zD HB3 T).size (λg B=>om) af);have bn:=ζ (∀a,a<w3.heap.size->¬a=w.heap.size->l.heap[a]? =w3.heap[a]?) (λa d hn=>(af.block a (zll d T.size) hn).trans (T.block a d));have dk:∀a,(Value.slice bf (Y4 st (z02 st c)).folders.length bK).ownBlock=some a->r.heap.size<=a:=λa d=>by
  rcases ek with t|⟨M,dl,v⟩
  ·exact bv.o a (by rw[U.o];exact t.symm.trans d)
  ·obtain rfl:M=a:=zsi (dl.symm.trans d);exact qNtx R.size v
 have cK:=zh dk;have e7:∀a,r.heap.size<=a\/a<r.heap.size:=λa=>om
 have aK:=ζ (∀a,a<r.heap.size->¬a=w.heap.size->l.heap[a]? =r.heap[a]?) (λa d hn=>(af.block a (zll d cx.size) hn).trans (cx.block a d));have cB:=zh (show Z6 (z95 S w w3 wr) l [c.folder,'1',.slice (some ⟨o,0,none⟩) 1 1,(),(),.slice (some ⟨u,0,none⟩) 1 1,()] (z02 st c) from by
  have B:=j.o;have e1:=(aK.o x om om).trans (eh.o r dY);have e3:=(aK.o o om om).trans (ei.o r dZ);have e4:=(aK.o u om om).trans (ej.o r d0);have e9:Sl 2 zZ (z95 S w w3 wr) l (.slice (some ⟨x,0,none⟩) 1 1) [⟨c.user,4⟩]:=zDa e1 ⟨.inr om,om⟩ rfl ⟨rfl,G.1,(show I64 4 from⟨om,om⟩)⟩;have e8:Sl 8 ZL (z95 S w w3 wr) l (.slice (some ⟨o,0,none⟩) 1 1) [⟨c.folder,1,[],c.other,[⟨c.user,4⟩],0,false,c.user⟩]:=zDa e3 ⟨.inr om,om⟩ rfl ⟨_,_,rfl,G.2.1,(show I64 1 from⟨om,om⟩),y9,G.2.2,e9,(show I64 0 from⟨om,om⟩),G.1⟩;have a6:Sl 3 yL (z95 S w w3 wr) l (.slice (some ⟨u,0,none⟩) 1 1) [⟨c.user,1,true⟩]:=zDa e4 ⟨.inr om,om⟩ rfl ⟨rfl,G.1,(show I64 1 from⟨om,om⟩)⟩;exact⟨_,_,_,_,_,rfl,G.2.1,(show I64 1 from⟨om,om⟩),e8,y9,y9,a6,y9⟩)
 have er:=zh (show Z5 (z95 S w w3 wr) l [st.turn,.slice cc st.users ce,.slice cd st.deposits cf,.slice bf (Y4 st (z02 st c)).folders.length bK] (Y4 st (z02 st c)) from by
  have dm:=ep.o;unfold Y4;refine zKg (zM HR λa d v=>⟨⟨.inl ⟨d,v⟩,by have:=j.o;omega⟩,aJ.block a v⟩) (z34 rFolder_ok (dm.keep λa d=>af.block a (dm.lt a d) ?_) (by rw[cH.o];unfold Y4;rw[qLax];have:=H.o;simp;omega) ((dT.imp λ_ _ t=>zV t (show Kept (Old S w) (z95 S w w3 wr) bb l from λa X _=>⟨⟨.inl X,by have:=X.2;have:=j.o;omega⟩,(aJ.block a X.2).trans ((zD HB3 (zD F R)).block a X.2).symm⟩)).snoc cB) λa d=>?_)
  ·have K:=cK.o a d;have e0:=j.o;omega
  ·have K:=cK.o a d;have e0:=j.o;exact⟨.inr om,om⟩)
 have bm:=(aK.o wr (oh j.o) (oh j.o)).trans (cJ.o r zbr);have br:=zh bm;have d2:=zh ((bn.o aw (oh j.o) (oh j.o)).trans (aL.o w3 aU));have em:=zh ((bn.o N (oh j.o) (oh j.o)).trans (HN2.o w3 aU));have en:=zh ((bn.o O (oh j.o) (oh j.o)).trans (HN3.o w3 aU));have cY:=ZJ cD;have al:=ZJ d2;obtain⟨cm,cn,co,be⟩:=TC4 cY.a;obtain⟨_,ck,cl⟩:=TC3 al.a;have ak:=ζ (w3<=l.heap.size/\wr<l.heap.size) ⟨qNtx T.size af.size,zI bm⟩;obtain⟨fI,aV⟩:=Ξ (zY (Y4 st (z02 st c)) 4 c.folder);have d1:=zh aV;obtain⟨s1,L⟩:=Ξ (Y4 st (z02 st c));have bw:=zh L;rw[L];have bZ:=er.o;rw[L] at bZ;have cO:=zh bZ;rw[L] at aV;have d4:=zh aV;have ec:=zh (L▸cD);rw[L] at be;clear bm cY al dk e7 L bZ aV;have dS:=br.o;refine zEC 8 λA=>?_;refine ziU 0 ?_;iterate 3 (refine ztU A ?_;simp only[zA])
 refine zoU ?_;refine ziU 4 ?_;iterate 2 (refine ztU A ?_;simp only[zA])
 refine zoU ?_;refine tQa 3 λbD ar=>?_;go_simp;go_at_call 45
 refine zcm (z4v s1 c.folder _ _ (z95 S w w3 wr) (zM cO (Kept.below (zbr.drew) λ_ h=>h))) ?_;rintro eS ax ⟨⟨_,rfl,aX⟩,c1⟩;have ae:(bW l ax:Prop):=zD (zbr.drew) c1;clear c1 A;refine ar.o _ _ ae (λA=>?_);clear ar bD;try simp only[zA]
 rw[d4.o] at aX;obtain⟨fC,fH,rfl,_⟩:=id aX;have es:=zh aX;clear aX;refine zU 6 A ?_;simp only[zA];refine tQa 7 λbD ar=>?_;go_simp;generalize a5:World.alloc _ _=bc;have az:=(by rw[<-a5];exact Below.alloc (ae) (ae).size _:(bW l bc:Prop));clear A;refine ar.o _ _ az (λA=>?_);clear ar bD;try simp only[zA]
 have cz:=zh (zbx a5);have cC:=zh (by rw[<-a5];exact zbr.alloc (znl _) _:(bW ax bc:Prop));have aI:=(az.block _ (zI br)).trans br;have d7:=zh aI;have ap:=ψ aI 3 _ rfl;have eZ:=(zB aI).2;clear a5 aI;refine tNc 8 ?_
 refine tNc 9 ?_
 refine Z7 kr ?_ _;generalize b5:World.setCell _ _ _=P;have cT:P.heap[wr.heap.size]? =some (.cells #[c.folder,'1',.slice (some ⟨o,0,none⟩) 1 1,.slice (some ⟨ax,0,none⟩) 1 1,(),.slice (some ⟨u,0,none⟩) 1 1,()] 74 (0,0)):=by
  rw[<-b5];exact zH (i:=3) _ d7 rfl
 have c5:ButB (·=wr) bc P:=by rw[<-b5];exact(ButB.refl (·=wr) bc).set _ _ rfl
 have ed:=zh cT;have ah:=zh c5;have ag:=zh az;have cu:=zh ae.size;clear b5 cT c5 ap eZ az ae A cm cn co be ck cl dS;have ai:=ζ (∀a,a<l.heap.size->¬a=wr.heap.size->P.heap[a]? =l.heap[a]?) (λa d hn=>(ah.block a (zll d ag.size) hn).trans (ag.block a d));have cr:=zh (ButB.below (zD aJ ag) (zD aJ ag).size (λg B=>by have:=j.o;omega) ah);have ev:=ζ (Z5 (New (Old S w) w3) P _ s1) (zM cO λa d v=>⟨d.1,ai.o a v d.2⟩);obtain⟨m,dg⟩:=Ξ (zJe st c);have bq:=zh dg;have d6:=zh (show Z6 (New (Old S w) w3) P [c.folder,'1',.slice (some ⟨o,0,none⟩) 1 1,.slice (some ⟨ax,0,none⟩) 1 1,(),.slice (some ⟨u,0,none⟩) 1 1,()] m from by
  rw[<-bq.o];unfold zJe;rw[d1.o];have B:=j.o;have fL:=ak.o;have e2:=(ah.block ax (zI cz) (oh cu.o)).trans cz;refine zR6 (zV cB λa d v=>⟨d.1,ai.o a v d.2⟩) (zDa e2 (.inr (oh cu.o)) rfl ⟨_,rfl,(show I64 1 from⟨om,om⟩),(show I64 1 from⟨om,om⟩),(show I64 1 from⟨om,om⟩),?_,G.1⟩);refine es.keep ZE dc λa d v=>?_
  have d:l<=a:=d;exact⟨.inr om,(ah.block a (zll v cC.size) om).trans (cC.block a v)⟩)
 have bG:=(ai.o w (oh2 j.o ak.o) (oh j.o)).trans ec;have cP:=zh bG;have aN:=zh ((ai.o N (oh2 j.o ak.o) (oh j.o)).trans em);have aO:=zh ((ai.o O (oh2 j.o ak.o) (oh j.o)).trans en);obtain⟨cm,cn,co,be⟩:=zC4 (zB bG).1;obtain⟨bM,bN,eT,ap,bO,bP,bQ⟩:=zC7 (zB ed).1;have d9:=zh (by rw[<-bw.o];exact z7e:st.folders<s1.folders.length);have ea:=zh (by rw[<-bw.o];unfold Y4;simp;have:=H.o;omega:s1.folders.length<=10000);have p0:=ζ (w3<=P.heap.size) (qNtx ak.1 (qNtx ag.size ah.size));obtain⟨s2,bY⟩:=Ξ (Y4 st m);have bx:=zh bY;have y:=zh (show m.name=c.folder/\m.wraps=[⟨c.user,1,true⟩]/\m.links=[]/\m.epochs.length=1/\m.manifests≠[]/\(zL m).members.length=1 from by
  rw[<-bq.o];exact⟨rfl,rfl,rfl,rfl,by simp[zJe,z02],rfl⟩)
 have d3:=zh λ(am:World) (ao:List Value) (X:Z5 (New (Old S w) w3) am ao (Y4 st m))=>z93 (Y4 st m) st.folders z7e (by unfold Y4;simp;have:=H.o;omega) (by rw[z1x,y.o.1,z41 (zB7 aj.o y.o.1),z1x]) (zL7 (eA.smF om) ⟨by rw[y.o.1];have:=d5.o;omega,by rw[y.o.2.2.2.2.2];omega,y.2.2.2.2.1,by rw[y.o.2.2.2.1];omega⟩) (by rw[z1x,y.o.2.1];exact pairwise_singleton _ _) (by rw[z1x,y.o.2.1];simp) (by rw[z1x,y.o.2.2.1];simp) ao am _ X
 have b6:=eC.o;rw[zOs,bq.o,bY] at b6;have eD:=zh b6;clear bG dg bY b6;go_wp2_with fail
 refine zcm (refwith_any s1 st.folders d9 ea m _ _ P (New (Old S w) w3) ev d6) ?_;rintro _ dQ ⟨⟨_,rfl,dp⟩,bi⟩;have av:=zM dp (z3c p0 dQ);rw[<-bw.o,z6h] at av;have ew:=zh av;rw[bx.o] at av;obtain⟨_,_,_,_,_,eS,rfl⟩:=ZN av;have cv:=zh bi;have z:=(bi.block _ (zI cP)).trans cP;clear dp av bi cm cn co be bM bN eT ap bO bP bQ;go_wp2_with fail
 refine zcm (d3.o dQ _ ew) ?_;rintro _ bd ⟨⟨_,rfl,b0⟩,bj⟩;rw[bx.o] at b0;obtain⟨q,aZ⟩:=Ξ (yN s2 st.folders);have aY:=zM b0 (z3c (qNtx p0 cv.size) bd);rw[aZ] at aY;have ex:=zh aY;obtain⟨aB,a8,aG,a9,aH,ba,rfl⟩:=ZN aY;have dq:q.turn=st.turn:=by rw[<-aZ,<-bx.o];rfl
 have eq:=zh aZ;have aQ:=(bj.block _ (zI z)).trans z;have ef:=zh aQ;have E:=zh (zD cv bj);obtain⟨dA,fc,fd,fe⟩:=zC4 (zB aQ).1;have dB:=(zB aQ).2;have ez:=zh dq;clear b0 aY aZ bj z aQ dq;go_upto_region 19 with fail
 have cM:=zh (z2o ef q.turn (.slice aB q.users a8) (.slice aG q.deposits a9) (.slice aH q.folders ba));generalize b2:World.setCell _ _ _=dO;have z:dO.heap[w.heap.size]? =some (.cells (aS q aB a8 aG a9 aH ba) 34 (0,0)):=by rw[<-b2];exact cM.1
 have c4:ButB (·=w) bd dO:=by rw[<-b2];exact cM.2
 rw[ez.o] at z;have dA:=ψ z 0 _ rfl;have dB:=(zB z).2;have fO:IntKind.i64.wrap (st.turn+1)=st.turn+1:=IntWalk.i64_in _ (oh cQ.o);have ey:=zh (by have:=cQ.o;constructor<;>omega:I64 (st.turn+1));have ee:=zh z;have dX:=zh c4;clear b2 fc fd fe z c4;go_upto_region 20 with fail
 generalize b3:World.setCell _ _ _=dP;have cR:dP.heap[w.heap.size]? =some (.cells #[.int .i64 (st.turn+1),.slice aB q.users a8,.slice aG q.deposits a9,.slice aH q.folders ba] 34 (0,0)):=by rw[<-b3];exact zH (i:=0) _ ee rfl
 have an:ButB (·=w) bd dP:=by rw[<-b3];exact dX.set _ _ rfl
 have B:=j.o;have aR:=(an.block _ (zI ((E.block _ (zI aN)).trans aN)) om).trans ((E.block _ (zI aN)).trans aN);have aT:=(an.block _ (zI ((E.block _ (zI aO)).trans aO)) om).trans ((E.block _ (zI aO)).trans aO);have c0:=ButB.below (zD cr E) (zD cr E).size (λg B=>om) an;have b7:=eD.o;rw[eq.o] at b7;have HFIN:=zh (z4b (b:=true) (S:=S) (st':={ q with turn:=st.turn+1 }) (n:=1) aR aT HNE c0 om om (by constructor<;>omega) (a0:= .int .i64 (st.turn+1)) (a1:= .slice aB q.users a8) (a2:= .slice aG q.deposits a9) (a3:= .slice aH q.folders ba) (λam dR fD=>zFc (zB3 (Y:=λg=>g=w\/g=N\/g=O) (W0:=bd) (zM ex (Kept.refl _ λ_ h=> .inl h)) om (qNtx p0 E.size) (λg B=>by rcases B with t|t|t<;>omega) ((an.mono λ_ t=> .inl t).trans (dR.mono λ_ t=> .inr t))) ey));rw[<-b7] at HFIN;obtain⟨_,_⟩:=zC4 (zB cR).1;obtain⟨_,_⟩:=zC4 (zB aR).1;have fP:=(zB aR).2;obtain⟨_,_,_,_,_,_,c9⟩:=zC7 (zB aT).1;have fJ:=(zB aT).2;have bX:=HNE.o;have fN:=Ne.symm HNE;clear b3 cR an c0 aR aT dA dB B b7;exact mcJ
def zUc (S:Nat->Prop) (a:Answer) (w:World) (e:Ending) (w':World):Prop:=(∃b:List Value,e= .returned (.agg b.toArray)/\yJ (New S w) w' b a)/\bW w w'
noncomputable def z3j (st:State) (c:Call) (k:Nat):Answer:=if c.kind=13 then z8e st k else if c.kind=9 then z54 st c k else if c.kind=10 then z5n st c k else z0y st c k
abbrev zWg (W:World) (a:Nat) (b d e g h i j:Value):World:=((((((W.setCell (aD a 0) b).setCell (aD a 1) d).setCell (aD a 2) e).setCell (aD a 3) g).setCell (aD a 4) h).setCell (aD a 5) i).setCell (aD a 6) j
theorem z5y {a:Answer} {W:World} {m:Nat} (r:W.heap[m]? =some (.cells z59 49 (0,0))) (B:(bW w W:Prop)) (h5:w<=m) {b d e g i j l:Value}
  (h:∀W',ButB (·=m) W W'->((bW w W':Prop))->yJ (New S w) W' [b,d,e,g,i,j,l] a):
  (zWg W m b d e g i j l).heap[m]? =some (.cells #[b,d,e,g,i,j,l] 49 (0,0))/\zUc S a w (.returned (.agg #[b,d,e,g,i,j,l])) (zWg W m b d e g i j l):=by
 have n:=ZC r b d e g i j l;have o:=ButB.below B B.size (λq t=>om) n.2;exact⟨n.1,⟨⟨[b,d,e,g,i,j,l],rfl,h _ n.2 o⟩,o⟩⟩
theorem z7h {b:Func} {p:Tmp} (h:b.results=#[.cell p 49]) {tmps:Array Value} {g:Nat} {a:Array Value}
  (hp:tmps.getD p undef= .pointer (some ⟨g,0,none⟩)) (hg:w.heap[g]? =some (.cells a 49 (0,0))) (hs:a.size=7) {R:Ending->World->Prop} (d:R (.returned (.agg a)) w):bodyPost prog b R .ret { tmps:=tmps,defers:=[] } w:=
 bodyPost_ret (results_cell_row h tmps w g _ a (0,0) _ hp hg underlying49 rfl (by rw[hs];kernel_rfl)) rfl d
section
variable {st:State} {c:Call} {k:Nat}
theorem zRe (h:c.kind=13):z3j st c k=z8e st k:=if_pos h
theorem zTk (h:c.kind=9):z3j st c k=z54 st c k:=by
 unfold z3j;rw[if_neg om,if_pos h]
theorem zIl (h:c.kind=10):z3j st c k=z5n st c k:=by
 unfold z3j;rw[if_neg om,if_neg om,if_pos h]
theorem zIm (h:c.kind=12):z3j st c k=z0y st c k:=by
 unfold z3j;rw[if_neg om,if_neg om,if_neg om]
theorem zGp (s:Nm):∀l:List Nm,z62 s l=z47 s l
 | []=>rfl
 | x::r=>by rw[z62,z47,zGp s r]
end
theorem zVo {v:Value} {L:List Nm} (h:RowC 9 1 w v (z4d L)) (hl:L.length<=10000) (hs:∀s∈L,s.size<=20) (hv:∀b,v.ownBlock=some b->S b):Sl 1 z3u S w v L:=
 z34 z0r h (by rw[z7g];exact hl) ⟨z7g L,λi j g e d=>by
  have a:=z97 d;rw[e] at a;exact⟨zsi a,qNtx (hs g (zmg d)) dc⟩⟩ hv
def z0u (f:Folder) (q:Nat):List Nm:=z8d (((f.items.take q).filter yX).map Item.name)
theorem zIn (f:Folder) (q:Nat):(z0u f q).length<=f.items.length:=by
 unfold z0u;rw[(z6x _).1.length_eq,qLmx];exact qNtx (length_filter_le _ _) (by rw[length_take];omega)
theorem zRf {q:Nat} (h:s∈z0u f q):∃x∈f.items,x.name=s:=by
 unfold z0u at h;have b:=(z6x _).1.subset h;obtain⟨x,d,a⟩:=mem_map.1 b;exact⟨x,mem_of_mem_take (mem_filter.1 d).1,a⟩
theorem zP1 {q:Nat} {x:Item} (hx:f.items[q]? =some x):z0u f (q+1)=if yX x=true then z47 x.name (z0u f q) else z0u f q:=by
 unfold z0u;rw[zB9 hx]
 cases yX x with
 | true=>rw[if_pos rfl,if_pos rfl,zOt,zGp]
 | false=>rw[if_neg dc,if_neg dc,append_nil]
theorem mas (h:p:=by
 go_wp2_with ((try simp only[φ]);exact z7h rfl rfl HFIN.1 rfl HFIN.2)):p:=h
theorem mcn (h:p:=by
 rw[<-HE.o] at HFIN;obtain⟨d0,d1,d2,d3,d4,d5,d6⟩:=zC7 (zB QE).1;have dz:=(zB QE).2;clear QE BE;unfold ZV;exact mas):p:=h
theorem mct (h:p:=by
 obtain⟨d0,d1,d2,d3,d4,d5,d6⟩:=zC7 (zB QE).1;have dz:=(zB QE).2;clear QE;exact mas):p:=h
theorem mcy (h:p:=by
 rw[<-HE.o] at HFIN;obtain⟨d0,d1,d2,d3,d4,d5,d6⟩:=zC7 (zB QE).1;have dz:=(zB QE).2;clear QE BE;unfold ZV
 exact mas):p:=h
theorem mcG (h:p:=by
 go_wp2_with fail
 refine zcb (ZZ 35 _) λwE BE=>?_;have QE:=HQ4.o _ (zD (HB5) BE);have HFIN:=zh (z5y (S:=S) (a:=ZD 35) QE (zD HB0 (zD (HB5) BE)) HLE (λW BB BF=>HES.o _ wE _ (ZW ⟨om,om⟩) W BB));exact mcn):p:=h
theorem zMk {n:Nat} (st:State) (c:Call) (k:Nat) (bj:VInv n st) (hn:n<=40) (cD:CallOk c) (hk:ZB st c.folder=some k) (hkd:c.kind=9\/c.kind=10\/c.kind=12\/c.kind=13) (dP A:List Value) (w:World) (S:Nat->Prop) (h:Z5 S w dP st) (dZ:z09 S w A c):
  Calls prog 64 #[.agg dP.toArray,.agg A.toArray] w (zUc S (z3j st c k) w):=by
 have eT:=zh h;have ds:=zh hk;have aT:=zh (z0l (yO hk));have e0:=zh bj;have eM:=zh hkd;have dE:=zh (bj.small om);have b9:=ζ (c.user.size<=20/\0<=c.version) ⟨cD.u20,cD.ver.1⟩;obtain⟨f,bl⟩:=Ξ (fo st k);have d7:st.folders[k]? =some f:=bl▸ZT aT;have au:=zh bl;have bz:=zh (by rw[<-bl];exact bj.atF aT:FInv n (st.users.map User.name) f);have dX:=z5r bj om aT;rw[bl] at dX;have fF:(k:Int)<(st.folders:Int):=by have:=aT.o;omega
 obtain⟨ei,el,ej,em,ek,en,rfl,hc,hd,he,hf,f8,g6,g7,g8,f7,g9,ha,hb,eo⟩:=ZF h;obtain⟨dN,dO,rfl,gF,gJ,gE,gG,gH,gI,gK,gB,gC,gD,fl⟩:=yG dZ;obtain⟨bQ,ec,fm,fq,db,ef⟩:=zP w (aS st ei el ej em ek en) 34;obtain⟨ap,cQ,fn,fr,dd,eg⟩:=zP bQ (aC c dN dO) 41;obtain⟨z,bq,fp,fs,de,eh⟩:=zP ap z59 49;have cd:=zh (ZJ (by rw[<-bq,<-cQ,<-ec];exact zR _ (zR _ (zJ _ rfl)):z.heap[w.heap.size]? =some (.cells (aS st ei el ej em ek en) 34 (0,0))));have bB:=zh (ZJ (by rw[<-bq,<-cQ];exact zR _ (zJ _ rfl):z.heap[bQ.heap.size]? =some (.cells (aC c dN dO) 41 (0,0))));have eO:=zh (ZJ (zbx bq));have U:=zh (zD (zD db dd) de);have cj:=ζ (w<bQ.heap.size/\bQ<ap.heap.size/\ap<z.heap.size) ⟨ef,eg,eh⟩;have cg:=zh λW (bk:(bW z W:Prop))=>zM eT (YL (zD U bk))
 have fa:=Below.refl z z;obtain⟨f1,f2,f3,f4⟩:=TC4 cd.a;obtain⟨fg,fh,fi,fj,_,_,fk⟩:=TC7 bB.a;obtain⟨c2,hi,hw,c3,c7,c4,c8,bS,bT,c5,c9,c6,da,eC,go,gu,rfl,ho,hh,et,eu,ev,ew,ex,ey,ez,eA,hv,hx,hs,ht,hu,gv,hj,hl,hm,gp,gq,gr,gs,eB,hy,hz,hA,gw,hp,hq,hr,gt⟩:=yP eo aT (YL U);obtain rfl:f=c2:=zsi (d7.symm.trans eC);have e7:=zh eA;have f9:=z1z et;have ga:=z1z eu;have gb:=z1z ev;have gc:=z1z ew;have gd:=z1z ex;have ge:=z1z ey;have gf:=z1z ez;have HES:=zh (show ∀(a:Answer) (W:World) (K:List Value),yJ (New (Old S w) z) W K a->∀cl,ButB (·=ap) W cl->yJ (New S w) cl K a from λa W K fz cl g=>yY fz (g.kept λd bm=>by
  have:=cj.o;rcases bm with bm|bm
  ·exact⟨.inl bm.1,by have:=bm.2;omega⟩
  ·exact⟨.inr om,om⟩))
 have fG:(k:Int)<(st.folders:Int):=fF;clear h dZ cD hk hkd bj bl dX d7 eC go gu eA gv gp gw gt f8 f7 eo fl fm fn fp fq fr fs db dd de ef eg eh fG et eu ev ew ex ey ez;unfold z59 at bq;go_enter func64,ntmps64
 go_upto_region 1 with fail
 clear ec cQ bq;go_cut [5] from 13 to 20 (λf5 bR=>∃d:Nat,f5= .pointer (some ⟨d,0,none⟩)/\Hid (z<=d)/\Hid (bR.heap[d]? =some (.cells (aF f c3 c7 c4 c8 bS bT c5 c9 c6 da) 74 (0,0)))/\Hid (bW z bR))
 case first=>
  refine zEC 9 λo=>?_;refine ziU 0 ?_;iterate 5 (refine ztU o ?_;simp only[zA])
  refine zoU ?_;refine z4p (i:=5) (j:=8) kr rfl rfl (λE x=>?_) (λE x=>?_)
  ·go_simp;go_at_call 104
   refine zcb (z17 st c.folder _ _ _ (cg.o _ (zbr.drew))) λF v=>?_;have G:(bW z F:Prop):=zD (zbr.drew) v;have eW:=zh v;clear v o;refine x.o _ _ G (λo=>?_);clear x E;try simp only[zA]
   rw[ds.o,show iOf (some k)=(k:Int) from rfl];refine ziU 6 ?_;iterate 2 (refine ztU o ?_;simp only[zA])
   refine zoU ?_;refine tQa 8 λE x=>?_;go_simp;generalize M:World.alloc _ _=C;have I:=(by rw[<-M];exact Below.alloc (G) (G).size _:(bW z C:Prop));clear o;refine x.o _ _ I (λo=>?_);clear x E;try simp only[zA]
   have Z:=(zbx M);have bx:=zh I;have eF:=zh G.size;obtain⟨co,cp,bD,v,bf,cq,bg⟩:=zC7 (zB Z).1;have az:=(zB Z).2;have a5:=zh (ZC Z f.name f.turn (.slice c3 f.manifests c7) (.slice c4 f.epochs c8) (.slice bS f.items bT) (.slice c5 f.wraps c9) (.slice c6 f.links da));have ai:=zh (ButB.below I I.size (λe aL=>by have:=G.size;omega) a5.2);clear M Z;refine tNc 9 ?_
   refine Z7 kr ?_ _;clear co cp bD v bf cq bg az;go_wp2;go_meet
   case rel=>exact⟨F,rfl,eF,zh a5.1,ai⟩
  go_simp;generalize cR:World.drew (World.alloc _ _)=F;have G:=(by rw[<-cR];exact(Below.alloc zbr (znl _) _).drew:(bW z F:Prop));clear o;refine x.o _ _ G (λo=>?_);clear x E;try simp only[zA]
  have dJ:=(by rw[<-cR];exact ZQ (zJ _ rfl):F.heap[z.heap.size]? =some (.cells oF 74 (0,0)));have dy:=zh dJ;clear cR dJ;refine tQa 5 λE x=>?_;go_simp;go_at_call 104
  refine zcb (z17 st c.folder _ _ _ (cg.o _ (G))) λC v=>?_;have I:(bW z C:Prop):=zD (G) v;have dG:=zh v;clear v o;refine x.o _ _ I (λo=>?_);clear x E;try simp only[zA]
  rw[ds.o,show iOf (some k)=(k:Int) from rfl];refine ziU 6 ?_;iterate 2 (refine ztU o ?_;simp only[zA])
  refine zoU ?_;have Z:=(dG.block _ (zI dy)).trans dy;obtain⟨co,cp,bD,v,bf,cq,bg⟩:=zC7 (zB Z).1;have az:=(zB Z).2;have a5:=zh (ZC Z f.name f.turn (.slice c3 f.manifests c7) (.slice c4 f.epochs c8) (.slice bS f.items bT) (.slice c5 f.wraps c9) (.slice c6 f.links da));have ai:=zh (ButB.below I I.size (λe aL=>om) a5.2);clear Z;refine tNc 9 ?_
  refine Z7 kr ?_ _;clear co cp bD v bf cq bg az;go_wp2;go_meet
  case rel=>exact⟨z,rfl,zh (znl _),zh a5.1,ai⟩
 case rest=>
 obtain⟨bF,rfl,gx,ai,O⟩:=hcut;obtain⟨aq,rfl⟩:∃e:World,e=wc:=⟨_,rfl⟩;have bE:=O.o;have bd:=ZJ ai;have dM:=Below.refl aq aq;obtain⟨cv,cw,cx,cy,bI,cz,cA⟩:=TC7 bd.a;have bc:=bB.on bE;obtain⟨bU,bV,bX,bY,_,_,bZ⟩:=TC7 bc.a;have be:=cd.on bE;obtain⟨b0,b1,b2,b3⟩:=TC4 be.a;have dF:=zh λW (bk:(bW aq W:Prop))=>cg.o W (zD O bk)
 have ca:=zh λW (bk:(bW aq W:Prop))=>(zV e7 (z23 U (zD U (zD O bk))):Z6 (Old S w) W _ f)
 have HQ4:=zh (eO.on bE);have HB0:=zh (zD U O);have HLE:=zh (by have:=cj.o;omega:w<=ap.heap.size);clear bd bc be f1 f2 f3 f4 fg fh fi fj fk fa bE;go_wp2_with fail
 refine zcb (zEf f c.name _ aq (Old S w) (ca.o _ dM)) λR a4=>?_;obtain⟨aN,bJ⟩:=Ξ (z00 f c.name);rw[bJ];obtain⟨a1,cH⟩:=Ξ (iOf aN);rw[cH];have dp:=zh bJ;have bA:=zh cH;have a7:=zh (by rw[au.o];exact bJ:z00 (fo st k) c.name=aN);have dm:=zh (by cases aN;exact .inl rfl;exact .inr ⟨_,rfl⟩:aN=none\/∃y,aN=some y);have HB5:=zh a4;have dq:=ζ (Sl 2 YG (Old S w) z (.slice bS f.items bT) f.items) ⟨_,_,rfl,gq,gr,gs,eB⟩;clear bJ cH eB f9 ga gb gc gd ge gf dM cv cw cx cy bI cz cA bU bV bX bY bZ b0 b1 b2 b3;have bd:=(ZJ ai).on a4;obtain⟨cv,cw,cx,cy,bI,cz,cA⟩:=TC7 bd.a;have bc:=bB.on (zD O a4);obtain⟨bU,bV,bX,bY,_,_,bZ⟩:=TC7 bc.a;have be:=cd.on (zD O a4);obtain⟨b0,b1,b2,b3⟩:=TC4 be.a;clear bd bc be;have gy:=Below.refl R R;clear a4;have eE:=zh (zD U (zD O HB5));rcases(by have:=eM.o;omega:c.kind=13\/c.kind=9\/(c.kind=10\/c.kind=12)) with hkd|hkd|hkd
 ·have dY:(c.kind==13)=true:=beq_iff_eq.2 hkd;have J:=zh (zRe (st:=st) (k:=k) hkd);have g5:=z8g;have g4:=z2d;clear hkd;go_upto_region 4 with fail
  refine zEC 7 λo=>?_;refine zU 0 o ?_;simp only[zA];refine zU 3 o ?_;simp only[zA];refine tQa 1 λE x=>?_;go_simp;go_at_call 25
  refine zcm (YW f _ _ (Old S w) (ca.o _ (zD HB5 (zbr.drew)))) ?_;rintro cr F ⟨⟨gL,rfl,cM⟩,v⟩;have G:(bW R F:Prop):=zD (zbr.drew) v;have eW:=zh v;clear v o;refine x.o _ _ G (λo=>?_);clear x E;try simp only[zA]
  obtain⟨aO,cN⟩:=Ξ (zL f);have dv:=zh cN;rw[cN] at cM;obtain⟨gY,g0,gZ,g1,rfl,fH⟩:=ZO cM;clear cN cM fH;refine zU 2 o ?_;simp only[zA];refine tQa 4 λE x=>?_;go_simp;go_at_call 25
  refine zcm (YW f _ _ (Old S w) (ca.o _ (zD HB5 (G)))) ?_;rintro cr C ⟨⟨gM,rfl,cO⟩,v⟩;have I:(bW R C:Prop):=zD (G) v;have dG:=zh v;clear v o;refine x.o _ _ I (λo=>?_);clear x E;try simp only[zA]
  rw[dv.o] at cO;obtain⟨g2,g3,ed,ee,rfl,d8⟩:=ZO cO;have aU:=zh (by obtain⟨_,fV,_,_,_,_,_,fW,a2,fY,fZ,_⟩:=d8;exact⟨fV,⟨_,_,rfl,fW,a2,fY,fZ⟩⟩:I64 aO.seq/\Sl 2 zZ (Old S w) C (.slice ed aO.members ee) aO.members);clear cO d8;refine ziU 5 ?_;iterate 2 (refine ztU o ?_;simp only[zA])
  refine zoU ?_;have QE:=HQ4.o _ (zD HB5 I);have HFIN:=zh (z5y (S:=S) (a:=z8e st k) QE (zD HB0 (zD HB5 I)) HLE (λW BB BF=>HES.o (z8e st k) C ['0',aO.seq,"",(),(),.slice ed aO.members ee,()] (by unfold z8e;rw[au.o,dv.o];exact⟨_,_,_,_,rfl,(show I64 0 from⟨om,om⟩),aU.1,(by decide:(⟨#[]⟩:Nm).size<=140737488355328),y9,y9,aU.2.keep ZA dc (Kept.refl _ λ_ h=> .inl h),y9⟩) W BB));rw[<-J.o] at HFIN;obtain⟨d0,d1,d2,d3,d4,d5,d6⟩:=zC7 (zB QE).1;have dz:=(zB QE).2;clear QE;refine tNc 7 ?_
  refine Z7 kr ?_ _;exact mas
 ·have dY:(c.kind==13)=false:=ν;have fB:(c.kind==9)=true:=beq_iff_eq.2 hkd;have J:=zh (zTk (st:=st) (k:=k) hkd);clear hkd;rcases dm with aH|⟨y,aH⟩
  ·subst aH;obtain rfl:(-1:Int)=a1:=bA;have HE:=zh (by rw[J.o,zLa a7.o]:z3j st c k=ZD 35);exact mcG
  subst aH;obtain rfl:(y:Int)=a1:=bA;have aw:=ζ (f.items[y]? =some (ZY f y)) ((z3n dp).1);have cJ:y<f.items:=(zge aw).1;have fE:(y:Int)<(f.items:Int):=om
  have fC:decide ((y:Int)<0)=false:=η;obtain⟨l,ac⟩:=Ξ (ZY f y);have aR:=zh (by rw[au.o];exact ac:ZY (fo st k) y=l);obtain⟨_,_,al,_,_,_,aI⟩:=dq.o;simp only[Value.slice.injEq,true_and] at al;obtain⟨rfl,rfl⟩:=al;obtain⟨r,aX,bH,cs,cu,ab,bh,bi,rfl,dR,ct,aB,am,aW,dS,dT,dU,dV,aY⟩:=z0w aI cJ (z23 U eE);obtain rfl:l=r:=by
   have b:=aw.symm.trans ab;rw[ac] at b;exact zsi b
  have cS:=z1z am;have V:=zh (show l.versions≠[]/\l.versions.length<=40 by
   have:=bz.it l (zmg (by rw[aw.o,ac]));exact⟨this.1,qNtx this.2.1 om⟩)
  have dI:=zh (length_pos_iff.2 V.1);obtain⟨B,bo⟩:=Ξ (z7f st c k y);have dw:=zh bo;have dx:=zh (show 1<=B from by
   rw[<-bo];unfold z7f;have:=b9.2;have:=dI.o;rw[aR.o];split<;>omega)
  have e4:=ζ (c.version=0->(l.versions:Int)=B) (λQ=>by rw[<-bo];unfold z7f;rw[if_pos Q,aR.o]);have e1:=ζ (c.version≠0->c.version=B) (λQ=>by rw[<-bo];unfold z7f;rw[if_neg Q]);obtain⟨b,cP⟩:∃b:Nat,b<l.versions/\(B<=l.versions->B=(b:Int)+1):=by
   by_cases bn:B<=l.versions
   ·exact⟨(B-1).toNat,by have:=dx.o;omega,λ_=>by have:=dx.o;omega⟩
   ·exact⟨0,dI,λh=>absurd h bn⟩
  have bC:=zh cP;have d9:=cP.1;obtain⟨t,gj,gm,bN,bO,bt,cZ,c0,rfl,gl,gi,cT,cU,cV,cX,cY,es,c1,ep,eq,er,bP⟩:=z3v aY d9 (Kept.refl (S':=Old S w) R λ_ h=>h);have eX:=zh bt;have eY:=ζ (Sl 1 Y1 (Old S w) R (.slice bN t.data bO) t.data) ⟨_,_,rfl,ep,eq,er,bP⟩;have fu:=z1z cT;have cC:=z1z cU;have fv:=z1z cV;have fw:=z1z cX;have gT:(b:Int)<(l.versions:Int):=om
  clear bo cP d9 ac ab bh bi aW aB am bt cZ c0 cY cT cU cV cX bP aY aI;go_upto_if 44 with fail
  go_cut [7] from 43 to 51 (λf6 bR=>f6= .int .i64 B/\R=bR)
  case first=>
   by_cases Q:c.version=0
   ·have fL:(c.version==0)=true:=beq_iff_eq.2 Q;have ci:=zh (e4.o Q);clear Q;go_wp2;go_meet
    case rel=>exact⟨by rw[ci.o],rfl⟩
   have fL:(c.version==0)=false:=beq_eq_false_iff_ne.2 Q;have ci:=zh (e1.o Q);clear Q;go_wp2;go_meet
   case rel=>exact⟨by rw[ci.o],rfl⟩
  case rest=>
  obtain⟨rfl,fM⟩:=hcut;subst fM;by_cases bn:B<=(l.versions:Int)
  rotate_left
  ·have fI:decide ((l.versions:Int)<B)=true:=θ;have HE:=zh (by rw[J.o,zLb a7.o (by rw[aR.o,dw.o];omega)]:z3j st c k=ZD 35);clear bn;exact mcG
  obtain rfl:B=(b:Int)+1:=bC.2 bn;have fI:decide ((l.versions:Int)<(b:Int)+1)=false:=η;have fN:IntKind.i64.wrap ((b:Int)+1-1)=b:=by rw[IntKind.wrap_i64];have:=bC.1;have:=V.2;omega
  have av:=zh (zR9 a7 dw (by rw[aR.o];exact eX));clear bn
  cases a0:t.gone with
  | true=>
   rw[a0] at cC;have HE:=zh (by rw[J.o,av.o,a0];rfl:z3j st c k=ZD 35);clear a0;go_wp2_with fail
   refine zcb (ZZ 35 _) λwE BE=>?_;have QE:=HQ4.o _ (zD (HB5) BE);have HFIN:=zh (z5y (S:=S) (a:=ZD 35) QE (zD HB0 (zD (HB5) BE)) HLE (λW BB BF=>HES.o _ wE _ (ZW ⟨om,om⟩) W BB));exact mcy
  | false=>
   rw[a0] at cC;have dk:=zh a0;clear a0;go_wp2_with fail
   refine zcm (zHf st dE c.user c.folder c.name ((b:Int)+1) (oh b9.1) (by have:=bC.1;have:=V.2;constructor<;>omega) _ R _ (dF.o _ HB5)) ?_;rintro gN m ⟨⟨d,rfl,g⟩,ad⟩;have dj:=zh (grB_is g);have af:=zh ad;have b8:=zh (zD HB5 ad);clear g
   cases d with
   | false=>
    have HE:=zh (by rw[J.o,av.o,dk.o,dj.o];rfl:z3j st c k=ZD 40);go_wp2_with fail
    refine zcb (ZZ 40 _) λwE BE=>?_;have QE:=HQ4.o _ (zD (b8) BE);have HFIN:=zh (z5y (S:=S) (a:=ZD 40) QE (zD HB0 (zD (b8) BE)) HLE (λW BB BF=>HES.o _ wE _ (ZW ⟨om,om⟩) W BB));exact mcy
   | true=>
    obtain⟨q,br,bG,cB,ae,bL⟩:=zP m #[t.epoch,false,t.who,.slice bN t.data bO] 80;obtain⟨_,_,bD,v⟩:=TC4 bG;have ag:=zh (zD b8 ae);have eZ:=zh (eY.keep rByte_ok dc (show Kept (Old S w) (New (Old S w) z) R q from λd g an=>⟨.inl g,(zD af ae).block d an⟩));have QE:=HQ4.o _ ag;have eL:=zh (by have:=bC.1;have:=V.2;constructor<;>omega:I64 ((b:Int)+1));have e6:=zh c1;have HFIN:=zh (z5y (S:=S) (a:=⟨0,(b:Int)+1,t.who,t.data,[],[],[]⟩) QE (zD HB0 ag) HLE (λW BB BF=>HES.o _ q _ (zLc eL e6 eZ) W BB));have HE:=zh (by rw[J.o,av.o,dk.o,dj.o];rfl:z3j st c k=⟨0,(b:Int)+1,t.who,t.data,[],[],[]⟩);rw[<-HE.o] at HFIN;have gO:=fu _ ad;have gP:=cC _ ad;have gQ:=fv _ ad;have gR:=fw _ ad;have gU:=cS _ ad;have gX:=bI _ ad;clear bG cB bL ae b0 b1 b2 b3 bU bV bX bY bZ;exact mct
 have dY:(c.kind==13)=false:=ν;have fB:(c.kind==9)=false:=ν;have dt:=zh hkd;clear hkd;go_upto_region 17 with fail
 refine zEC 9 λo=>?_;refine ziU 0 ?_;iterate 5 (refine ztU o ?_;simp only[zA])
 refine zoU ?_;refine ziU 6 ?_;iterate 3 (refine ztU o ?_;simp only[zA])
 refine zoU ?_;refine tQa 5 λE x=>?_;go_simp;go_at_call 28
 refine zcm (zAa st dE c.user c.folder (oh b9.1) _ _ _ (dF.o _ (zD HB5 (zbr.drew)))) ?_;rintro cr m ⟨⟨bM,rfl,aJ⟩,v⟩;have b4:(bW R m:Prop):=zD (zbr.drew) v;clear v o;refine x.o _ _ b4 (λo=>?_);clear x E;try simp only[zA]
 have eU:=zh (zIg aJ);clear aJ;refine tNc 9 ?_
 refine Z7 kr ?_ _;have af:=zh (zD HB5 b4);have aV:=zh (by unfold z3a;rw[eU.o,au.o]:z3a st c k=decide ((f.epochs:Int)<=bM));have dL:=(ZJ ai).on af;have ck:=bB.on (zD O af);have gV:=ck.at 0 rfl;clear b4 o b0 b1 b2 b3 bU bV bX bY bZ cv cw cx cy bI cz cA;by_cases aJ:bM<(f.epochs:Int)
 ·have cE:decide (bM<(f.epochs:Int))=true:=Δ aJ;rw[cE];have HE:=zh (show z3j st c k=ZD 40 by
   have ea:z3a st c k=false:=by rw[aV.o];exact η
   rcases dt with hkd|hkd
   ·rw[zIl hkd,zEo ea]
   ·rw[zIm hkd,zN9 ea])
  clear aJ;go_wp2_with fail
  refine zcb (ZZ 40 _) λwE BE=>?_;have QE:=HQ4.o _ (zD (af) BE);have HFIN:=zh (z5y (S:=S) (a:=ZD 40) QE (zD HB0 (zD (af) BE)) HLE (λW BB BF=>HES.o _ wE _ (ZW ⟨om,om⟩) W BB));exact mcn
 have cE:decide (bM<(f.epochs:Int))=false:=Γ aJ;rw[cE];have cf:=zh (by rw[aV.o];exact θ:z3a st c k=true);clear aJ;obtain⟨q,br,bG,cB,ae,bL⟩:=zP m z59 49;have dg:=zh (zbx br);have ag:=zh (zD af ae);have ak:=ζ (m<q.heap.size/\aq<=m.heap.size/\z<=aq.heap.size/\bF<aq) ⟨bL,af.size,O.size,zI ai⟩;have e9:=dL.on ae;have e8:=ck.on ae;have dA:=zh (e9 q zbr);have gW:=e8.at 0 rfl;have gA:=Below.refl q q;have gz:=Below.refl m m;have dr:=zh (dq.keep z20 dc (z23 U (zD U (zD O ag))));clear bG cB bL ae dL ck;unfold z59 at br;have e5:=zh br;clear br;have ax:=ζ (∀W,ButB (·=m) q W->∀d,d<m.heap.size->W.heap[d]? =q.heap[d]?) (λW g d an=>g.block d (oh ak.o) om);have X:=zh (by have:=cj.o;have:=ak.o;omega:w<=m.heap.size/\ap<m.heap.size/\bF<m);have dC:=zh (HQ4.o q ag);have bw:=zh (zD HB0 ag);have dn:=zh (show f.items.length<=200 by
  have dW:=z4q (z2u aT);have gS:=e0.sum;rw[au.o] at dW;unfold yA at dW;omega)
 go_upto_region 20 with fail
 rw[e5.o];rcases dt with hkd|hkd
 ·have fA:(c.kind==10)=true:=beq_iff_eq.2 hkd;have J:=zh (zIl (st:=st) (k:=k) hkd);clear hkd;obtain⟨_,_,al,_,_,_,aI⟩:=dr.o;simp only[Value.slice.injEq,true_and] at al;obtain⟨rfl,rfl⟩:=al;go_wp2_with fail
  go_loopw [10] (λN u=>∃(b:Nat) (D:Option Addr) (A:Nat),b<=f.items/\N= .int .i64 b/\Hid (u.heap[m.heap.size]? =some (.cells #['0','0',"",(),.slice D (z0u f b).length A,(),()] 49 (0,0)))/\Hid (RowC 9 1 u (.slice D (z0u f b).length A) (z4d (z0u f b)))/\Hid (∀d,(Value.slice D (z0u f b).length A).ownBlock=some d->q.heap.size<=d)/\Hid (ButB (·=m) q u)) (λN _=>f.items.length-(intOf N).toNat)
  case atStart=>exact⟨0,none,0,om,gn,dg,zh (RowC.nil _),zh (λd g=>by cases g),zh (ButB.refl _ _)⟩
  obtain⟨u,rfl⟩:=ξ wr;obtain⟨b,D,A,fJ,rfl,ar,ba,P,H⟩:=hrel;have a6:=zh ((ax.o u H bF X.2.2).trans dA);have a2:=ψ a6 4 _ rfl;by_cases cK:b<f.items
  rotate_left
  ·obtain rfl:b=f.items:=om
   obtain⟨fb,fc,fd,fe,cm,ff,cn⟩:=zC7 (zB ar).1;have QE:=(ax.o u H ap X.2.1).trans dC;have cb:=ζ (z5n st c k=⟨0,0,⟨#[]⟩,[],z0u f f.items,[],[]⟩) (zGl cf (by unfold z0u;rw[qLnx,au.o]));have eQ:=ζ (Sl 1 z3u (New (Old S w) z) u (.slice D (z0u f f.items).length A) (z0u f f.items)) (zVo ba (oh2 (zIn f f.items) dn.o) (λs aK=>by obtain⟨c2,fP,r⟩:=zRf aK;rw[<-r];exact(bz.it c2 fP).2.2) λd g=> .inr (oh2 (P.o d g) ak.o));have b7:=zh (ButB.below bw bw.size (λe aL=>by have:=X.o;omega) H);have HFIN:=zh (z5y (S:=S) (a:=⟨0,0,⟨#[]⟩,[],z0u f f.items,[],[]⟩) QE b7 HLE (λW BB BF=>HES.o _ u _ (zIj eQ) W BB));rw[<-cb.o,<-J.o] at HFIN;exact mct
  obtain⟨r,aX,bH,cs,cu,ab,bh,bi,rfl,dR,ct,aB,am,aW,dS,dT,dU,dV,aY⟩:=z0w aI cK (show Kept (Old S w) (Old S w) q u from λd aK an=>⟨aK,ax.o u H d (zll aK.2 X.1)⟩);have dB:=zh (zP1 ab);have eK:=ζ (0<r.versions.length) (length_pos_iff.2 (bz.it r (zmg ab)).1);have eJ:=zh aW;have fK:(b:Int)<(f.items:Int):=om
  have B:=z1z aB;clear ab bh bi aW;go_wp2_with fail
  refine zcb (z9t r eK _ _ _ eJ) λaP aQ=>?_;have ah:=ζ (ButB (·=m) q aP) (H.trans (ButB.of aQ));have bv:=zh ((aQ.block _ (zI ar)).trans ar);have dD:=zh (ba.below aQ);obtain⟨g,cF⟩:=Ξ (yX r);rw[cF];have dl:=zh cF;clear cF
  cases g with
  | false=>
   have aj:=zh (by rw[dB.o,dl.o];rfl:z0u f (b+1)=z0u f b);clear a2 aB am;go_wp2;go_roundw
   case rel=>exact⟨b+1,D,A,om,gn,by rw[aj.o];exact bv,by rw[aj.o];exact dD,by rw[aj.o];exact P,ah⟩
   case measure=>exact qMx
  | true=>
   have aj:=zh (by rw[dB.o,dl.o];rfl:z0u f (b+1)=z47 r.name (z0u f b));have dK:=ZJ bv;have cm:=dK.at 4 rfl;have df:=ZJ ((aQ.block _ (zI a6)).trans a6);have fX:=df.at 4 rfl;have fS:=z1z (B _ aQ);have eG:=zh (zJ9 (dD.below (Below.refl aP aP).drew) (oh2 (zIn f b) dn.o) (z6x _).2 r.name);clear a2 aB am B dK df aQ;go_upto_region 25 with fail
   refine zEC 8 λo=>?_;refine ziU 0 ?_;iterate 8 (refine ztU o ?_;simp only[zA])
   refine zoU ?_;refine zN (i:=8) kr rfl (λE x=>?_);go_simp;go_at_call 81
   refine zcm eG ?_;rintro cr F ⟨gh,rfl,ao,aG,bs⟩;obtain⟨T,aa,bp,_⟩:=ao.shape;rw[z7g,<-aj.o] at bp;rw[<-aj.o] at ao;subst bp;have a9:=zh ao;have av:=zh aG;have ce:=zh bs;have bK:¬some m.heap.size=(Value.slice D (z0u f b).length A).ownBlock:=λr=>(oh2 (P.o _ r.symm) ak.o)
   have Y:=(aG.block m (show m.heap.size<aP.drew.heap.size from zI bv) bK).trans bv;have cc:=zh Y;have bf:=ψ Y 4 _ rfl;have az:=(zB Y).2;clear ao aG bs Y;refine x.o _ _ ?_;clear x E;try simp only[zA]
   refine tNc 9 ?_
   refine tNc 10 ?_
   refine Z7 kr ?_ _;generalize M:World.setCell _ _ _=C;have bb:C.heap[m.heap.size]? =some (.cells #['0','0',"",(),.slice T (z0u f (b+1)).length aa,(),()] 49 (0,0)):=by rw[<-M];exact zH (i:=4) _ cc rfl
   have ay:ButB (·=m) F C:=by rw[<-M];exact(ButB.refl (·=m) F).set _ _ rfl
   have a8:=zh (show ∀d,(Value.slice T (z0u f (b+1)).length aa).ownBlock=some d->q.heap.size<=d from λd g=>by
    rcases ce with r|⟨e,aL,an⟩
    ·exact P.o d (r.symm.trans g)
    ·obtain rfl:e=d:=zsi (aL.symm.trans g);exact qNtx ah.size an)
   have aV:=ζ (RowC 9 1 C (.slice T (z0u f (b+1)).length aa) (z4d (z0u f (b+1)))) (a9.keep λd g=>ay.block d (a9.lt d g) (oh2 (a8.o d g) ak.o));have bx:=zh (show ButB (·=m) q C from by
    refine ButB.trans ?_ ay;have L:ButB (λe=>(Value.slice D (z0u f b).length A).ownBlock=some e) aP F:=ButB.row av (Below.refl aP aP).drew;exact⟨L.os.trans ah.os,L.tape.trans ah.tape,L.output.trans ah.output,qNtx ah.size L.size,λd g hn=>(L.block d (zll g ah.size) (λr=>by have:=P.o d r;omega)).trans (ah.block d g hn)⟩)
   have aU:=zh bb;clear M bb ay bf az cm fX fS;go_wp2;go_roundw
   case rel=>exact⟨b+1,T,aa,om,gn,aU,aV,a8,bx⟩
   case measure=>exact qMx
 have fA:(c.kind==10)=false:=ν;have J:=zh (zIm (st:=st) (k:=k) hkd);clear hkd;rcases dm with aH|⟨y,aH⟩
 ·subst aH;obtain rfl:(-1:Int)=a1:=bA;have HE:=zh (by rw[J.o,zIh cf.o a7.o]:z3j st c k=ZD 35);go_wp2_with fail
  refine zcb (ZZ 35 _) λwE BE=>?_;have QE:=HQ4.o _ (zD (ag) BE);have HFIN:=zh (z5y (S:=S) (a:=ZD 35) QE (zD HB0 (zD (ag) BE)) HLE (λW BB BF=>HES.o _ wE _ (ZW ⟨om,om⟩) W BB));exact mcn
 subst aH;obtain rfl:(y:Int)=a1:=bA;have aw:=ζ (f.items[y]? =some (ZY f y)) ((z3n dp).1);have cJ:y<f.items:=(zge aw).1;have fE:(y:Int)<(f.items:Int):=om
 have fC:decide ((y:Int)<0)=false:=η;obtain⟨l,ac⟩:=Ξ (ZY f y);have aR:=zh (by rw[au.o];exact ac:ZY (fo st k) y=l);obtain⟨_,_,al,_,_,_,aI⟩:=dr;simp only[Value.slice.injEq,true_and] at al;obtain⟨rfl,rfl⟩:=al;obtain⟨r,aX,bH,cs,cu,ab,bh,bi,rfl,dR,ct,aB,am,aW,dS,dT,dU,dV,aY⟩:=z0w aI cJ (Kept.refl (S':=Old S w) q λ_ h=>h);obtain rfl:l=r:=by
  have b:=aw.symm.trans ab;rw[ac] at b;exact zsi b
 have V:=zh (show l.versions.length<=40 by
  have:=bz.it l (zmg (by rw[aw.o,ac]));exact qNtx this.2.1 om)
 have eH:=zh am;have e3:=zh aY;obtain⟨fR,fD,fQ,fx,fy⟩:=info_parts (show(prog.info? 99).map (λN=>(N.zero,N.size,N.bytes))=some (some (.agg #['0','0',false,""]),4,40) from kr);clear ac ab bh bi aW aB am aI aY;go_wp2_with fail
 go_loopw [11] (λN u=>∃(b:Nat) (D:Option Addr) (A:Nat) (K:List (List Value)),b<=l.versions/\N= .int .i64 b/\Hid (u.heap[m.heap.size]? =some (.cells #['0','0',"",(),(),(),.slice D b A] 49 (0,0)))/\Hid (RowC 99 4 u (.slice D b A) K)/\Hid (All2 (z3q (λ_=>True) q) K (z05 (l.versions.take b) 1))/\Hid (∀d,(Value.slice D b A).ownBlock=some d->q.heap.size<=d)/\Hid (ButB (·=m) q u)) (λN _=>l.versions.length-(intOf N).toNat)
 case atStart=>exact⟨0,none,0,[],om,gn,dg,zh (RowC.nil _),zh All2.nil,zh (λd g=>by cases g),zh (ButB.refl _ _)⟩
 obtain⟨u,rfl⟩:=ξ wr;obtain⟨b,D,A,K,fJ,rfl,ar,ba,b5,P,H⟩:=hrel;have a6:=zh ((ax.o u H bF X.2.2).trans dA);have a2:=ψ a6 4 _ rfl;have eI:=ζ (aX<m) (zll ct.2 X.1);have cS:(cL u aX (bH+y*2+1) (.slice cs l.versions cu):Prop):=(World.cell?_of_block (a:=⟨aX,bH+y*2+1,none⟩) (ax.o u H aX eI)).trans eH;by_cases cK:b<l.versions
 rotate_left
 ·obtain rfl:b=l.versions:=om
  obtain⟨fb,fc,fd,fe,cm,ff,cn⟩:=zC7 (zB ar).1;have QE:=(ax.o u H ap X.2.1).trans dC;have dh:=zh (by have:=b5.o;rwa [qLnx] at this:All2 (z3q (λ_=>True) q) K (z05 l.versions 1));have cb:=ζ (z0y st c k=⟨0,0,⟨#[]⟩,[],[],[],z05 l.versions 1⟩) (zIi cf a7 (by rw[aR.o]));have eR:=ζ (Sl 4 z3q (New (Old S w) z) u (.slice D l.versions A) (z05 l.versions 1)) (z34 z72 ba (by rw[dh.o.1,z9m];have:=V.o;omega) (dh.imp λ_ _ r=>r) λd g=> .inr (oh2 (P.o d g) ak.o));have b7:=zh (ButB.below bw bw.size (λe aL=>by have:=X.o;omega) H);have HFIN:=zh (z5y (S:=S) (a:=⟨0,0,⟨#[]⟩,[],[],[],z05 l.versions 1⟩) QE b7 HLE (λW BB BF=>HES.o _ u _ (zL8 eR) W BB));rw[<-cb.o,<-J.o] at HFIN;exact mct
 obtain⟨t,gj,gm,bN,bO,bt,cZ,c0,rfl,gl,gi,cT,cU,cV,cX,cY,es,c1,ep,eq,er,bP⟩:=z3v e3 cK (show Kept (Old S w) (Old S w) q u from λd aK an=>⟨aK,ax.o u H d (zll aK.2 X.1)⟩);have eS:=zh (zGk bt);have dH:=ζ (I64 t.epoch/\t.who.size<=()) ⟨es,c1⟩;have fK:(b:Int)<(l.versions:Int):=om
 have du:=zh (by rw[b5.o.1,z9m,length_take];omega:K=b);have fN:IntKind.i64.wrap ((b:Int)+1)=(b:Int)+1:=IntWalk.i64_in _ (oh V.o);obtain⟨a3,fO,dQ,ft,bu,f0⟩:=zP u #[t.epoch,t.gone,t.who,.slice bN t.data bO] 80;obtain⟨B,fT,fU⟩:=TC3 dQ;have b6:=zh ((bu.block _ (zI ar)).trans ar);have eV:=zh (ba.below bu);have di:=zh bu;have cn:=ψ b6 6 _ rfl;clear bt cZ c0 cY bP dQ ft f0 bu;go_upto_region 33 with fail
 clear fO a2 cS;have bK:¬some m.heap.size=(Value.slice D b A).ownBlock:=λr=>by have:=P.o _ r.symm;have:=ak.o;omega
 have eP:=zh bK;have aj:=zh (by rw[qLax,du.o];rfl:(K++[[Value.int .i64 ((b:Int)+1),.int .i64 t.epoch,.bool t.gone,.string t.who]]).length=b+1);clear bK;go_upto_region 31 with (at_builtin;refine YD a3 [.int .i64 ((b:Int)+1),t.epoch,t.gone,t.who] rfl (.tmp 165) (.tmp 175) 47 rfl fR _ 40 underlying47 fD fQ fx fy rfl dc dc _ _ rfl eV (by rw[du.o];have:=V.o;omega) rfl (λhg eb=>by simp at eb;rcases eb with rfl|rfl|rfl|rfl<;>rfl) _ _ rfl rfl ?_;intro gh F ao aG bs;obtain⟨T,aa,bp,_⟩:=ao.shape;rw[aj.o] at bp;subst bp;have a9:=zh ao;have av:=zh aG;have ce:=zh bs;have Y:=(aG.block m (zI b6) eP).trans b6;have cc:=zh Y;have bg:=ψ Y 6 _ rfl;have az:=(zB Y).2;clear ao aG bs Y)
 generalize M:World.setCell _ _ _=C;have bb:C.heap[m.heap.size]? =some (.cells #['0','0',"",(),(),(),.slice T (b+1) aa] 49 (0,0)):=by rw[<-M];exact zH (i:=6) _ cc rfl
 have ay:ButB (·=m) F C:=by rw[<-M];exact(ButB.refl (·=m) F).set _ _ rfl
 have e2:=ζ (q<=a3.heap.size) (qNtx H.size di.size);have a8:=zh (show ∀d,(Value.slice T (b+1) aa).ownBlock=some d->q.heap.size<=d from λd g=>by
  rcases ce with r|⟨e,aL,an⟩
  ·exact P.o d (r.symm.trans g)
  ·obtain rfl:e=d:=zsi (aL.symm.trans g);exact qNtx e2 an)
 have aV:=ζ (RowC 99 4 C (.slice T (b+1) aa) _) (a9.keep λd g=>ay.block d (a9.lt d g) (oh2 (a8.o d g) ak.o));have bx:=zh (show ButB (·=m) q C from by
  refine ButB.trans ?_ ay;have L:ButB (λe=>(Value.slice D b A).ownBlock=some e) a3 F:=ButB.row av (Below.refl a3 a3);have aZ:ButB (·=m) q a3:=H.trans (ButB.of di);exact⟨L.os.trans aZ.os,L.tape.trans aZ.tape,L.output.trans aZ.output,qNtx aZ.size L.size,λd g hn=>(L.block d (zll g aZ.size) (λr=>by have:=P.o d r;omega)).trans (aZ.block d g hn)⟩)
 have eD:=zh (show All2 (z3q (λ_=>True) q) (K++[[.int .i64 ((b:Int)+1),.int .i64 t.epoch,.bool t.gone,.string t.who]]) (z05 (l.versions.take (b+1)) 1) from by
  rw[eS.o];exact b5.snoc ⟨rfl,(by have:=V.o;constructor<;>omega:I64 ((b:Int)+1)),dH.1,dH.2⟩)
 have aU:=zh bb;clear M bb ay bg az cn B fT fU;go_wp2;go_roundw
 case rel=>exact⟨b+1,T,aa,_,om,gn,aU,aV,eD,a8,bx⟩
 case measure=>exact qMx
end Go.Proofs.YtdggplhnfhcieaaGreatDoor
