/- No condition. -/
import Derived.Test.YtdggplhnfhcieaaGreatDoorW10
import Derived.Test.YtdggplhnfhcieaaGreatDoorW15
set_option linter.all false
set_option maxRecDepth 100000
set_option maxHeartbeats 16000000
namespace Go.Proofs.YtdggplhnfhcieaaGreatDoor
open Go.Proofs.Tryz Cd Ce List
variable {f f':Folder} {m:Manifest} {g i k n:Nat} {p:Prop} {b st:State} {S l us:List Nm} {w:World} {x:Wrap} {name s y:Nm} {α:Type}
section
open Go.RowKit Go.Deep
def z0s (st:State) (s:Nm):Int:=match st.folders.findIdx? (isF s) with
 | some k=>k
 | none=> -1
theorem z8a {x:Folder} (h:∀y∈st.folders.take k,isF s y=false) (hx:st.folders[k]? =some x) (hp:isF s x=true):z0s st s=k:=by
 have a:=zge hx;have j:=a.1;have:st.folders.findIdx? (isF s)=some k:=by
  rw[findIdx?_eq_some_iff_getElem];refine⟨a.1,by rw[a.2];exact hp,λe d=>?_⟩;rw[Bool.not_eq_true];refine h _ ?_;exact zmg (i:=e) (by rw[getElem?_take,if_pos d,qLgx om])
 rw[z0s,this]
theorem zJz (h:∀y∈st.folders,isF s y=false):z0s st s= -1:=by
 have:st.folders.findIdx? (isF s)=none:=by rw[findIdx?_eq_none_iff];exact h
 rw[z0s,this]
theorem z2w (h:Z4 st s=some f):∃k:Nat,z0s st s=k/\st.folders[k]? =some f:=by
 obtain⟨q,a,_,e,o⟩:=find?_eq_some_iff_append.1 h;have d:st.folders[a.length]? =some f:=by rw[e,qLrx (znl _),Nat.sub_self];rfl
 refine⟨a,z8a (λy j=>?_) d q,d⟩;rw[e,take_left] at j;simpa[isF] using o y j
theorem z6r (h:Z4 st s=none):z0s st s= -1:=zJz λy a=>by
 have:=find?_eq_none.1 h y a;simpa[isF] using this
theorem z18 (st:State) (s:Nm) (j:List Value) (w:World) (S:Nat->Prop) (h:Z5 S w j st):(kB 21 #[.agg j.toArray,s] w (z0s st s):Prop):=by
 obtain⟨B,F,C,G,D,H,rfl,_,_,_,_,K,_,_,_,I,_,_,_,J⟩:=ZF h;obtain⟨_,z,o,r,e,_⟩:=zP w (aS st B F C G D H) 34;have a:=zh e;have T:=o 3 _ rfl;clear o r e K I;go_enter func21,ntmps21
 go_wp2;clear z;go_loop [5] (λi=>∃k:Nat,k<=st.folders/\i= .int .i64 k/\Hid (∀y∈st.folders.take k,isF s y=false)) (λi=>st.folders.length-(intOf i).toNat)
 case atStart=>exact⟨0,om,gn,λy A=>by simp at A⟩
 obtain⟨k,_,rfl,HN⟩:=hrel;by_cases v:k<st.folders
 rotate_left
 ·obtain rfl:k=st.folders:=om
  rw[qLnx] at HN;go_wp2;go_ret;exact⟨by rw[zJz HN.o];rfl,a⟩
 obtain⟨x,d⟩:∃x,st.folders[k]? =some x:=⟨_,qLgx v⟩;obtain⟨_,_,_,t,_,u,q⟩:=SlAt.elem J d dc a;obtain⟨_,_,_,_,_,_,_,_,_,_,rfl,_,_,_,_,_,P,_,_,_,M,_,_,_,N,_,_,_,Q,_,_,_,O⟩:=Z9 u;have L:=q 0 _ rfl;rw[Nat.add_zero] at L;subst t;have U:(k:Int)<(st.folders:Int):=om
 have HX:=zh d;clear q d P M N Q O;by_cases hnm:x.name=s
 ·have hse:(x.name.toList==s.toList)=true:=by rw[hnm];simp
  have HF:=zh (z8a HN HX (by unfold isF;exact Δ hnm:isF s x=true));clear hnm;go_wp2;go_ret;exact⟨by rw[HF.o];rfl,a⟩
 exact maX
theorem z7w {pb:Nat} {T:TypeId} {ad O v u t r o j:Value} (h:w.heap[pb]? =some (.cells #[ad,O,v,u,t,r,o,j] T (0,0))) (a0 a1 a2 a3 a d e q:Value):
  ((((((((w.setCell (aD pb 0) a0).setCell (aD pb 1) a1).setCell (aD pb 2) a2).setCell (aD pb 3) a3).setCell (aD pb 4) a).setCell (aD pb 5) d).setCell (aD pb 6) e).setCell (aD pb 7) q).heap[pb]? =some (.cells #[a0,a1,a2,a3,a,d,e,q] T (0,0))/\ButB (·=pb) w ((((((((w.setCell (aD pb 0) a0).setCell (aD pb 1) a1).setCell (aD pb 2) a2).setCell (aD pb 3) a3).setCell (aD pb 4) a).setCell (aD pb 5) d).setCell (aD pb 6) e).setCell (aD pb 7) q):=by
 have P:ButB (·=pb) w w:=ButB.refl _ _;have H:=zH (i:=0) (cs':=#[a0,O,v,u,t,r,o,j]) a0 h rfl;have z:=P.set ⟨pb,0,none⟩ a0 rfl;generalize w.setCell (aD pb 0) a0=V at H z⊢;have I:=zH (i:=1) (cs':=#[a0,a1,v,u,t,r,o,j]) a1 H rfl;have A:=z.set ⟨pb,1,none⟩ a1 rfl;generalize V.setCell (aD pb 1) a1=Y at I A⊢;have J:=zH (i:=2) (cs':=#[a0,a1,a2,u,t,r,o,j]) a2 I rfl;have B:=A.set ⟨pb,2,none⟩ a2 rfl;generalize Y.setCell (aD pb 2) a2=Z at J B⊢;have K:=zH (i:=3) (cs':=#[a0,a1,a2,a3,t,r,o,j]) a3 J rfl;have C:=B.set ⟨pb,3,none⟩ a3 rfl;generalize Z.setCell (aD pb 3) a3=aa at K C⊢;have L:=zH (i:=4) (cs':=#[a0,a1,a2,a3,a,r,o,j]) a K rfl;have D:=C.set ⟨pb,4,none⟩ a rfl;generalize aa.setCell (aD pb 4) a=ab at L D⊢;have M:=zH (i:=5) (cs':=#[a0,a1,a2,a3,a,d,o,j]) d L rfl;have F:=D.set ⟨pb,5,none⟩ d rfl;generalize ab.setCell (aD pb 5) d=ac at M F⊢;have N:=zH (i:=6) (cs':=#[a0,a1,a2,a3,a,d,e,j]) e M rfl;have G:=F.set ⟨pb,6,none⟩ e rfl;generalize ac.setCell (aD pb 6) e=ae at N G⊢;have U:=zH (i:=7) (cs':=#[a0,a1,a2,a3,a,d,e,q]) q N rfl;have Q:=G.set ⟨pb,7,none⟩ q rfl;exact⟨U,Q⟩
theorem zBu {S:Nat->Prop} {w:World} {a:List Value} (h:ZL S w a m):∃d j e o,a=[.string m.folder,.int .i64 m.seq,.slice d m.prev j,.string m.parent,.slice e m.members o,.int .i64 m.cut,.bool m.gone,.string m.who]:=by
 obtain⟨_,_,_,_,rfl,_⟩:=ZO h;exact⟨_,_,_,_,rfl⟩
theorem mcB (h:p:=by
 go_wp2_with fail
 go_quiet (fail)
 go_wp2;go_ret;exact⟨by rw[HEND.o];rfl,y8 (zD HB0 (zD B0r.o HBE)) _⟩):p:=h
theorem mak (h:p:=by
 obtain⟨cT,fT⟩:=zB TA;obtain⟨c_0,c_1,c_2,c_3,c_4,c_5,c_6,c_7⟩:=TC8 cT;have HTA:=zh TA;clear cT TA;refine zr 13 λK hK=>?_
 go_simp;clear c_0 c_1 c_2 c_3 c_4 c_5 c_6 c_7 fT hHeld;obtain⟨E1,E2⟩:=z7w HTA m.folder m.seq (.slice m_A2 m.prev m_c2) m.parent (.slice m_A4 m.members m_c4) m.cut m.gone m.who;have BE:=ButB.below B8 B8.size (λz hz=>by rw[hz];exact hpb) E2;generalize hW:World.setCell _ _ _=W at E1 E2 BE⊢;clear hW;refine hK.out _ _ (HS _ BE) (λhHeld=>?_);clear hK K;refine wpAnyH_done kr ?_ _;clear hHeld HS;have bcut:=ψ E1 5 _ rfl;have HBE:=zh BE;have t0:=(World.cell?_of_block (a:=⟨bw,ow+k*2,none⟩) (BE.block _ (zF HV0))).trans HV0;have t1:=(World.cell?_of_block (a:=⟨bw,ow+k*2+1,none⟩) (BE.block _ (zF HV1))).trans HV1;have t2:=(World.cell?_of_block (a:=⟨bx,ox+k*2,none⟩) (BE.block _ (zF HU0))).trans HU0;clear BE E1 E2;by_cases hne:y.name=x.name
 rotate_left
 ·have HEND:=zh (by rw[<-HG.o,HST2.o,if_neg hne]:yH st name=true);have hse:(y.name.toList==x.name.toList)=false:=YX hne;clear hne;exact mcB
 have hse:(y.name.toList==x.name.toList)=true:=by rw[hne];simp
 have HNE:=zh hne;clear hne;by_cases hct:y.seq<m.cut
 ·have hcd:decide (y.seq<m.cut)=true:=Δ hct;have HEND:=zh (by rw[<-HG.o,HST2.o,if_pos HNE.o,HCUT2.o,if_pos hct]:yH st name=true);clear hct;exact mcB
 have hcd:decide (y.seq<m.cut)=false:=Γ hct;have HEND:=zh (by rw[<-HG.o,HST2.o,if_pos HNE.o,HCUT2.o,if_neg hct]:z0h st (e.chain.drop (k+1)) (now.drop (k+1))=yH st name);clear hct;go_wp2_with fail
 go_quiet (fail)
 go_wp2;go_roundw
 case rel=>
  have HF:∃j':Nat,j'<=now/\Value.int .i64 ((k:Int)+1)= .int .i64 j'/\Hid (z0h st (e.chain.drop j') (now.drop j')=yH st name)/\Below w5 w5 (W.drewN nq):=⟨k+1,om,gn,HEND,y8 (zD hbel HBE) _⟩;first|exact HF|((repeat apply Exists.intro);refine⟨HF,?_⟩;first|rfl|((repeat' apply And.intro)<;>rfl)|(simp;(repeat' apply And.intro)<;>first|rfl|(have:=HLEN.o;omega)))
 case measure=>exact qMx):p:=h
theorem zBv (st:State) (name:Nm) (aw:List Value) (w:World) (S:Nat->Prop) (h:Z5 S w aw st):(kB 23 #[.agg aw.toArray,name] w (yH st name):Prop):=by
 have bd:=zh h;obtain⟨aY,a0,aZ,a1,ck,a2,rfl,_,_,_,_,cm,_,_,_,cl,_,_,_,a3⟩:=ZF h;obtain⟨a7,b9,ac,bE,an,cH⟩:=zP w (aS st aY a0 aZ a1 ck a2) 34;have HB0:=zh an;have Z:=zh ac;have O:=zh λW (hW:(bW a7 W:Prop))=>zM bd (zK (zD HB0 hW))
 obtain⟨cc,ce,cg,al⟩:=TC4 ac;clear ac bE an cm cl;go_enter func23,ntmps23
 go_wp2_with fail
 clear b9 cc ce cg al;refine zcb (z18 st name _ a7 S (O.o _ zbr)) λct H=>?_;have N:=zh H;have al:=zy H (Z.o 3 _ rfl)
 cases hF:Z4 st name with
 | none=>
  have HE:=zh (z7k hF);rw[z6r hF];clear hF H;go_wp2;go_ret
  exact⟨by rw[HE.o];rfl,zD HB0 N⟩
 | some f=>
 have ao:=zh hF;obtain⟨aX,aU,af⟩:=z2w hF;rw[aU];have cA:decide ((aX:Int)<0)=false:=η;have cx:=(zge af).1;have cw:(aX:Int)<(st.folders:Int):=om
 obtain⟨r,z,_,bX,_,b3,aO⟩:=SlAt.elem a3 af dc (zD HB0 H);obtain⟨bm,bq,_,br,bn,bs,bo,bt,bp,bu,rfl,_,_,_,_,_,bC,_,_,bv,bz,_,_,_,bA,_,_,_,bD,_,_,_,bB⟩:=Z9 b3;obtain⟨B,cn,co,a4,cp,cq,cr⟩:=TC7 aO;rw[Nat.add_zero] at B;subst bX;clear hF aU af aO H bC bA bD bB;rcases Nat.eq_zero_or_pos f.epochs with hz|hz
 ·have HE:=zh (z89 ao hz);have aW:((f.epochs:Int)==0)=true:=by simp[hz]
  clear hz;go_wp2;go_ret;exact⟨by rw[HE.o];rfl,zD HB0 N⟩
 have aW:((f.epochs:Int)==0)=false:=ν;obtain⟨n,aj⟩:∃n,f.epochs.length=n+1:=⟨f.epochs.length-1,om⟩;obtain⟨e,ae⟩:∃e,f.epochs[n]? =some e:=⟨_,qLgx om⟩;have HSB:=zh (z7l ao aj ae);obtain⟨bf,cb,_,bV,_,b2,aT⟩:=SlAt.elem bz ae dc (zD HB0 N);obtain⟨bh,bi,rfl,_,_,_,bj,bk,aB,bl,_⟩:=z3p b2;have a6:=aT 3 _ rfl;subst bV;have cF:IntKind.i64.wrap (n:Int)=(n:Int):=IntWalk.i64_in _ (oh bv);have cE:(n:Int)<(n:Int)+1:=om
 obtain⟨cu,aV,ax,bF,Y,_⟩:=zP ct (aF f bm bq (some ⟨bf,cb,none⟩) br bn bs bo bt bp bu) 74;have HB3:=zh (zD N Y);have ay:=ax 3 _ rfl;have cs:=zy Y a6;have a9:=zh (Sl.keep ZE dc (show Sl 2 rAt S w (.slice bh e.chain bi) e.chain from⟨_,_,rfl,bj,bk,aB,bl⟩) (zK (zD HB0 HB3)));have cv:e.chain.length<=():=aB;have au:=λd M F=>zy HB3 (Z.o d M F)
 obtain⟨cd,cf,ci,cj⟩:=TC4 au;rw[aj] at aV ay a4;clear au hz ae aT ax bF Y;go_wp2_with fail
 clear aj aW aV ay a6 cs B cn co a4 cp cq cr al cd cf ci cj;refine zcm (z8z st name _ cu S (O.o _ HB3)) ?_;rintro _ w5 ⟨⟨_,rfl,Q⟩,ar⟩;have aq:=zh Q;have B5:=zh ar;clear Q ar;obtain⟨now,P⟩:=Ξ (zY st 4 name);have bc:=zh P;rw[P] at aq HSB;have cD:now.length<=4:=by rw[<-P];exact z2c _ _ _
 clear P;obtain⟨_,_,rfl,_,b6,_,Q⟩:=aq;unfold maxLen at b6;by_cases hlen:e.chain=now.length
 rotate_left
 ·exact mbe
 rw[if_pos hlen] at HSB;have HLEN:=zh hlen;have hld:((e.chain:Int)==(now:Int))=true:=beq_iff_eq.2 om;have ba:=zh (a9.keep ZE dc (zK B5.o));have a8:=zh (zD HB3 B5.o);clear hlen;go_wp2;clear hld;go_loopw [9] (λi wr=>∃k:Nat,k<=now/\i= .int .i64 k/\Hid (z0h st (e.chain.drop k) (now.drop k)=yH st name)/\bW w5 wr) (λi _=>now.length-(intOf i).toNat)
 case atStart=>exact⟨0,om,gn,(by show _=_;rw[HSB.o];rfl),Below.refl _ _⟩
 obtain⟨k,_,rfl,HG,hbel⟩:=hrel;have B0r:=zh (zD a8.o hbel);by_cases b7:k<now
 rotate_left
 ·exact mbr
 obtain⟨x,T⟩:∃x,now[k]? =some x:=⟨_,qLgx b7⟩;obtain⟨y,ak⟩:∃y,e.chain[k]? =some y:=⟨_,qLgx (oh HLEN.o)⟩;have HST2:=zh (zFt (st:=st) ak T);obtain⟨g,ag⟩:=z3y (st:=st) (x:=x) (by rw[bc.o];exact zmg T);have bb:=zh (by rw[z7j,ag];rfl:z7j st x.name=(zL g).cut);obtain⟨m,ai⟩:=Ξ (zL g);have ab:=zh ai;have HCUT2:=zh (by rw[bb.o,ai]:z7j st x.name=m.cut);clear ai;obtain⟨d,F,ah⟩:=z2w ag;have ap:=zh F;have cz:=(zge ah).1;have cy:(d:Int)<(st.folders:Int):=om
 obtain⟨bx,ox,_,b1,_,b5,aR⟩:=SlAt.elem Q T dc hbel;obtain⟨_,_,b0,-,-,-,b8⟩:=ba;cases b0
 obtain⟨bw,ow,_,bZ,_,b4,aQ⟩:=SlAt.elem b8 ak dc hbel;obtain⟨_,_,_,bY,_,aN,aP⟩:=SlAt.elem a3 ah dc (zD HB0 B0r.o);cases bY
 have aa:=zh aN;obtain⟨rfl,_⟩:=z48 b5;obtain⟨rfl,_⟩:=z48 b4;obtain⟨bG,bL,bH,bM,bI,bN,bJ,bO,bK,bP,rfl,_,_,_,_,_,bT,_,_,_,bQ,_,_,_,bR,_,_,_,bU,_,_,_,bS⟩:=Z9 aN;have B:=aR 0 _ rfl;obtain⟨am,a5⟩:=TC2 aQ;obtain⟨ad,aG,aH,aI,aJ,aK,aL⟩:=TC7 aP;rw[Nat.add_zero] at B am ad;subst b1;subst bZ;have cB:(k:Int)<(now:Int):=om
 have cC:(k:Int)<(e.chain:Int):=by have:=HLEN.o;omega
 have be:=zh (show ∀W:World,((bW wr W:Prop))->(λW:World=>(cL W w 0 st.turn/\cL W w 1 (.slice aY st.users a0)/\cL W w 2 (.slice aZ st.deposits a1)/\cL W w 3 (.slice (some ⟨r,z,none⟩) st.folders a2))/\cL W bx (ox+k*2) x.name/\cL W r (z+d*7) g.name/\cL W r (z+d*7+1) g.turn/\cL W r (z+d*7+2) (.slice bG g.manifests bL)/\cL W r (z+d*7+3) (.slice bH g.epochs bM)/\cL W r (z+d*7+4) (.slice bI g.items bN)/\cL W r (z+d*7+5) (.slice bJ g.wraps bO)/\cL W r (z+d*7+6) (.slice bK g.links bP)) W from λW hW=>by
  have c:=λd M F=>zy (zD B0r.o hW) (Z.o d M F)
  have A:=λ(ca:Nat) M (h:(cL wr r ca M:Prop))=>zy hW h
  exact⟨⟨c 0 _ rfl,c 1 _ rfl,c 2 _ rfl,c 3 _ rfl⟩,zy hW B,A _ _ ad,A _ _ aG,A _ _ aH,A _ _ aI,A _ _ aJ,A _ _ aK,A _ _ aL⟩)
 have HU0:=zh B;have HV0:=zh am;have HV1:=zh a5;clear T ak ag F ah aR aQ aP B am a5 ad aG aH aI aJ aK aL bT bQ bR bU bS;go_wp2;have HS:=be.o;refine zE kr HS (λhHeld=>?_);refine zi 0 ?_;iterate 8 (refine zt hHeld ?_;simp only[zA])
 refine zo ?_;have V:Below wr wr wr.drew:=zbr.drew;refine wpAnyH_ready (rs:=[8,12]) kr sm ?_;refine AllReadyH.cons rfl (λK hK=>?_) (AllReadyH.cons rfl (λK hK=>?_) AllReadyH.nil)
 ·go_simp;go_at_call 21
  refine zcm (z18 st x.name _ _ S (O.o _ (zD B0r.o V))) ?_;rw[ap.o];rintro bg G ⟨rfl,D⟩;have q:=zD V D;clear D;clear hHeld;refine hK.out _ _ (HS _ q) (λhHeld=>?_);clear hK K;refine zi 9 ?_;iterate 2 (refine zt hHeld ?_;simp only[zA])
  refine zo ?_;refine wpAnyH_ready (rs:=[11,12]) kr sm ?_;refine AllReadyH.cons rfl (λK hK=>?_) (AllReadyH.cons rfl (λK hK=>?_) AllReadyH.nil)
  ·go_simp;go_at_call 25
   refine zcm (YW g _ _ S (zV aa (zK (zD HB0 (zD B0r.o q))))) ?_;rw[ab.o];rintro az C ⟨⟨av,rfl,u⟩,o⟩;obtain⟨m_A2,m_c2,m_A4,m_c4,rfl⟩:=zBu u;have j:=zD q o;clear o u;clear hHeld;refine hK.out _ _ (HS _ j) (λhHeld=>?_);clear hK K;obtain⟨U,v,I,J,t,L⟩:=zP C oM 84;have B8:(bW wr U:Prop):=zD j t;have TA:U.heap[C.heap.size]? =some (.cells oM 84 (0,0)):=by rw[<-v];exact zJ _ rfl
   have hpb:wr<=C.heap.size:=j.size;refine zr 12 λK hK=>?_
   go_simp;clear hHeld;refine hK.out _ _ (HS _ B8) (λhHeld=>?_);clear hK K;clear v I J t L;exact mak
  obtain⟨C,v,I,J,t,L⟩:=zP G oM 84;have j:(bW wr C:Prop):=zD q t;have TA:C.heap[G.heap.size]? =some (.cells oM 84 (0,0)):=by rw[<-v];exact zJ _ rfl
  have hpb:wr<=G.heap.size:=q.size;go_simp;clear hHeld;refine hK.out _ _ (HS _ j) (λhHeld=>?_);clear hK K;clear v I J t;refine zr 11 λK hK=>?_
  go_simp;go_at_call 25
  refine zcm (YW g _ _ S (zV aa (zK (zD HB0 (zD B0r.o j))))) ?_;rw[ab.o];rintro az U ⟨⟨av,rfl,u⟩,o⟩;obtain⟨m_A2,m_c2,m_A4,m_c4,rfl⟩:=zBu u;have B8:=zD j o;replace TA:=(o.block _ (zI TA)).trans TA;clear o u L;clear hHeld;refine hK.out _ _ (HS _ B8) (λhHeld=>?_);clear hK K;exact mak
 obtain⟨G,v,I,J,t,L⟩:=zP wr.drew oM 84;have q:(bW wr G:Prop):=zD V t;have TA:G.heap[wr.heap.size]? =some (.cells oM 84 (0,0)):=by rw[<-v];exact zJ _ rfl
 have hpb:wr<=wr.heap.size:=znl _;go_simp;clear hHeld;refine hK.out _ _ (HS _ q) (λhHeld=>?_);clear hK K;clear v I J t;refine zr 8 λK hK=>?_
 go_simp;go_at_call 21
 refine zcm (z18 st x.name _ _ S (O.o _ (zD B0r.o q))) ?_;rw[ap.o];rintro bg C ⟨rfl,D⟩;have j:=zD q D;replace TA:=(D.block _ (zI TA)).trans TA;clear D L;clear hHeld;refine hK.out _ _ (HS _ j) (λhHeld=>?_);clear hK K;refine zi 9 ?_;iterate 2 (refine zt hHeld ?_;simp only[zA])
 refine zo ?_;refine zr 11 λK hK=>?_
 go_simp;go_at_call 25
 refine zcm (YW g _ _ S (zV aa (zK (zD HB0 (zD B0r.o j))))) ?_;rw[ab.o];rintro az U ⟨⟨av,rfl,u⟩,o⟩;obtain⟨m_A2,m_c2,m_A4,m_c4,rfl⟩:=zBu u;have B8:=zD j o;replace TA:=(o.block _ (zI TA)).trans TA;clear o u;clear hHeld;refine hK.out _ _ (HS _ B8) (λhHeld=>?_);clear hK K;exact mak
end
def zDm:Epoch:=⟨0,0,0,[],⟨#[]⟩⟩
def iOf:Option Nat->Int
 | some k=>k
 | none=> -1
def isU (s:Nm) (u:User):Bool:=decide (u.name=s)
def yU (st:State) (s:Nm):Option Nat:=st.users.findIdx? (isU s)
def foI (st:State) (s:Nm):Option Nat:=st.folders.findIdx? (isF s)
def fo (st:State) (k:Nat):Folder:=(st.folders[k]?).getD z0b
def ZB (st:State) (s:Nm):Option Nat:=match foI st s with
 | some k=>if (zL (fo st k)).gone then none else some k
 | none=>none
def ZS (st:State) (k:Nat) (s:Nm):Int:=Ro.ofOf (zL (fo st k)).members s
def setF (st:State) (k:Nat) (f:Folder):State:={ st with folders:=st.folders.set k f }
def z19 (eps:List Epoch) (w:Wrap) (seed:Bool):Bool:=(w.seed&&decide (z0d eps w.epoch=z0d eps eps))||(!seed&&decide (w.epoch=(eps:Int)))
def YI (eps:List Epoch) (name:Nm) (seed:Bool):List Wrap->List Wrap
 | []=>[⟨name,eps,seed⟩]
 | w::r=>if w.name=name then(if z19 eps w seed then w else⟨name,eps,seed⟩)::r
  else if ltS name w.name then⟨name,eps,seed⟩::w::r else w::YI eps name seed r
def YZ (f:Folder) (name:Nm) (seed:Bool):Folder:={ f with wraps:=YI f.epochs name seed f.wraps }
def Y5 (d:Member->Bool) (f:Folder) (a:List Member):Folder:=a.foldl (λf m=>YZ f m.name (d m)) f
def zA3 (f:Folder) (s:Nm):Bool:=f.links.any λl=>decide (l.epoch=(f.epochs:Int))&&decide (l.to=s)
def YA (st:State):List At->Folder->Folder
 | [],f=>f
 | x::r,f=>if yH st x.name then YA st r (Y5 (λ_=>false) f (zL ((Z4 st x.name).getD z0b)).members)
  else if zA3 f x.name then f else { f with links:=f.links++[⟨f.epochs,x.name,((Z4 st x.name).getD z0b).epochs.length⟩] }
def yN (st:State) (k:Nat):State:=setF st k (YA st ((zY st 4 (fo st k).name).drop 1) (fo st k))
def z5m (f:Folder) (frm:Int):Bool:=f.manifests.all λm=>m.members.all λx=>!(decide (frm<=m.seq)&&(decide (2<=x.role)&&decide (Ro.ofOf (zL f).members x.name=0)))
def z79 (st:State) (f:Folder) (who:Nm):Epoch:=
 if decide ((f.epochs.getLast?.getD zDm).place<4)&&z5m f (f.epochs.getLast?.getD zDm).frm then⟨(f.epochs.getLast?.getD zDm).place+1,(f.epochs.getLast?.getD zDm).frm,(zL f).seq,zY st 4 f.name,who⟩
 else⟨1,(zL f).seq,(zL f).seq,zY st 4 f.name,who⟩
def z1g (st:State) (k:Nat) (who:Nm):State:=
 setF st k (Y5 (λx=>decide (2<=x.role)) { fo st k with epochs:=(fo st k).epochs++[z79 st (fo st k) who] } (zL (fo st k)).members)
def YJ (f:Folder) (m:Manifest) (who:Nm):Folder:={ f with manifests:=f.manifests++[{ m with seq:=(zL f).seq+1,who:=who }],turn:=f.turn+1 }
def inB (s:Nm) (f:Folder):Bool:=!(zL f).gone&&decide ((zL f).parent=s)
def yV (st:State):Nat->Nm->Nat
 | 0,_=>1
 | n+1,s=>st.folders.foldl (λm f=>if inB s f then max m (yV st n f.name) else m) 0+1
def yX (x:Item):Bool:=match x.versions.getLast? with
 | some v=>!v.gone
 | none=>false
def z00 (f:Folder) (s:Nm):Option Nat:=f.items.findIdx? (isI s)
def ZY (f:Folder) (j:Nat):Item:=(f.items[j]?).getD ⟨⟨#[]⟩,[]⟩
abbrev Res:=State×Answer×Bool
def ZD (e:Int):Answer:=⟨e,0,⟨#[]⟩,[],[],[],[]⟩
def Y2 (n:Int):Answer:=⟨0,n,⟨#[]⟩,[],[],[],[]⟩
def isE (s:Nm):Bool:=decide (s=⟨#[]⟩)
def ZR (st:State) (c:Call) (late:Bool):Int:=
 if c.kind=1 then 0 else match yU st c.user with
 | none=>41
 | some u=>if (((st.users[u]?).map User.lost).getD false&&decide (c.kind≠16))&&!late then 20
  else if (!isE c.folder&&decide (c.kind≠2))&&(ZB st c.folder).isNone then 41
  else if !isE c.other&&decide (c.kind=3)&&(ZB st c.other).isNone then 41
  else if !isE c.other&&decide (3<c.kind)&&(yU st c.other).isNone then 41 else 0
def YB (st:State) (c:Call):Res:=if (yU st c.user).isSome then(st,ZD 42,false) else if 16<=st.users.length then(st,ZD 3,false) else({ st with users:=st.users++[⟨c.user,false⟩] },Y2 0,true)
def z02 (st:State) (c:Call):Folder:=⟨c.folder,1,[⟨c.folder,1,[],c.other,[⟨c.user,4⟩],0,false,c.user⟩],[],[],[⟨c.user,1,true⟩],[]⟩
def z4z (st:State) (c:Call):State:=
 let a:State:={ st with folders:=st.folders++[z02 st c] }
 let e:=setF a st.folders { z02 st c with epochs:=[⟨1,1,1,zY a 4 c.folder,c.user⟩] }
 let d:=yN e st.folders
 { d with turn:=d.turn+1 }
def z11 (st:State) (c:Call):Int:=if isE c.other then 0 else match ZB st c.other with
 | none=>41
 | some p=>if ZS st p c.user<2 then 40 else 0
def YR (st:State) (c:Call):Res:=
 if (foI st c.folder).isSome then(st,ZD 42,false) else if z11 st c≠0 then(st,ZD (z11 st c),false)
 else if 4<=(zY st 4 c.other).length\/64<=st.folders.length then(st,ZD 3,false) else(z4z st c,Y2 1,true)
def zAo (st:State) (k:Nat) (c:Call):State:=
 let f:=fo st k
 let d:=setF st k (YJ f { zL f with parent:=c.other,cut:=(zL f).seq+1 } c.user)
 let a:=yN d k
 { a with turn:=a.turn+1 }
def z0t (st:State) (c:Call) (k:Nat):Res:=
 if ZS st k c.user<4\/(!isE c.other&&(match ZB st c.other with|some q=>decide (ZS st q c.user<2)|none=>false))=true then(st,ZD 40,false)
 else if (zL (fo st k)).parent=c.other then(st,Y2 (zL (fo st k)).seq,false)
 else if (zY st 4 c.other).any (λx=>decide (x.name=c.folder)) then(st,ZD 43,false)
 else if 4<(zY st 4 c.other).length+yV st 5 c.folder then(st,ZD 3,false)
 else(zAo st k c,Y2 ((zL (fo st k)).seq+1),true)
def z04 (st:State) (c:Call) (k:Nat):Res:=
 if ZS st k c.user<4 then(st,ZD 40,false)
 else if 1<yV st 5 c.folder\/(fo st k).items.any yX=true then(st,ZD 47,false)
 else
  let a:=setF st k (YJ (fo st k) { zL (fo st k) with gone:=true } c.user)
  ({ a with turn:=a.turn+1 },Y2 ((zL (fo st k)).seq+1),true)
def yD (c:Call) (l:List Member):Int:=
 if c.kind=5 then Ro.shareE (Ro.ofOf l c.user) (Ro.ofOf l c.other) c.role l
 else if c.kind=6 then Ro.changeE (Ro.ofOf l c.user) (Ro.ofOf l c.other) c.role (Ro.own4 l)
 else Ro.revokeE (Ro.eqS c.user c.other) (Ro.ofOf l c.user) (Ro.ofOf l c.other) (Ro.own4 l)
def yR (st:State) (c:Call) (k:Nat):Res:=
 let f:=fo st k
 let m:=zL f
 if yD c m.members≠0 then(st,ZD (yD c m.members),false)
 else if Ro.ofOf m.members c.other=c.role then(st,Y2 m.seq,false)
 else
  let a:=if c.kind=5\/(c.kind=6/\2<=c.role) then YZ f c.other (decide (2<=c.role)) else f
  (setF st k (YJ a { m with members:=Ro.withOf m.members c.other c.role,cut:=if c.kind=7 then m.seq+1 else m.cut } c.user),Y2 (m.seq+1),true)
def z3z (st:State) (k:Nat) (i:Option Nat) (name:Nm) (v:Version):State×Nat:=
 let f:=fo st k
 match i with
 | some j=>(setF st k { f with items:=f.items.set j { ZY f j with versions:=(ZY f j).versions++[{ v with epoch:=f.epochs.length }] },turn:=f.turn+1 },(ZY f j).versions.length+1)
 | none=>(setF st k { f with items:=f.items++[⟨name,[{ v with epoch:=f.epochs.length }]⟩],turn:=f.turn+1 },1)
def z5q (st:State) (c:Call) (k:Nat):State×Nat:=
 let i:=z00 (fo st k) c.name
 let a:=if yH st c.folder then z1g st k c.user else st
 z3z (yN a k) k i c.name ⟨0,false,c.user,c.data⟩
def z3l (st:State) (c:Call) (k:Nat):Res:=
 if ZS st k c.user<2 then(st,ZD 40,false) else match z00 (fo st k) c.name with
 | none=>if 32<=(fo st k).items.length then(st,ZD 3,false) else((z5q st c k).1,Y2 (z5q st c k).2,true)
 | some j=>if 256<=(ZY (fo st k) j).versions.length then(st,ZD 3,false) else((z5q st c k).1,Y2 (z5q st c k).2,true)
def z1j (st:State) (c:Call) (k:Nat):Res:=
 if ZS st k c.user<2 then(st,ZD 40,false) else match z00 (fo st k) c.name with
 | none=>(st,ZD 35,false)
 | some j=>if !yX (ZY (fo st k) j) then(st,ZD 35,false) else if 256<=(ZY (fo st k) j).versions.length then(st,ZD 3,false)
  else((z3z st k (some j) c.name ⟨0,true,c.user,[]⟩).1,Y2 (z3z st k (some j) c.name ⟨0,true,c.user,[]⟩).2,true)
open Classical in
noncomputable def grantedB (st:State) (u f it:Nm) (n:Int):Bool:=decide (z0j st u f it n)
open Classical in
noncomputable def reachN (st:State) (u f:Nm):Int:=if a:∃n,IsReach st u f n then Classical.choose a else 0
def z62 (s:Nm):List Nm->List Nm
 | []=>[s]
 | x::r=>if ltS s x then s::x::r else x::z62 s r
def z8d (l:List Nm):List Nm:=l.foldl (λa s=>z62 s a) []
noncomputable def z54 (st:State) (c:Call) (k:Nat):Answer:=match z00 (fo st k) c.name with
 | none=>ZD 35
 | some j=>
  let x:=ZY (fo st k) j
  let n:Int:=if c.version=0 then x.versions.length else c.version
  match x.versions[(n-1).toNat]? with
  | none=>ZD 35
  | some v=>if v.gone then ZD 35 else if !grantedB st c.user c.folder c.name n then ZD 40 else⟨0,n,v.who,v.data,[],[],[]⟩
def z05:List Version->Int->List Past
 | [],_=>[]
 | v::r,n=>⟨n,v.epoch,v.gone,v.who⟩::z05 r (n+1)
noncomputable def z3a (st:State) (c:Call) (k:Nat):Bool:=decide (((fo st k).epochs.length:Int)<=reachN st c.user c.folder)
noncomputable def z5n (st:State) (c:Call) (k:Nat):Answer:=if !z3a st c k then ZD 40 else⟨0,0,⟨#[]⟩,[],z8d (((fo st k).items.filter yX).map Item.name),[],[]⟩
noncomputable def z0y (st:State) (c:Call) (k:Nat):Answer:=if !z3a st c k then ZD 40 else match z00 (fo st k) c.name with
 | none=>ZD 35
 | some j=>⟨0,0,⟨#[]⟩,[],[],[],z05 (ZY (fo st k) j).versions 1⟩
def z8e (st:State) (k:Nat):Answer:=⟨0,(zL (fo st k)).seq,⟨#[]⟩,[],[],(zL (fo st k)).members,[]⟩
def z9d (st:State) (c:Call):Bool:=st.deposits.any λp=>decide (p.frm=c.user)&&decide (p.to=c.other)
def z1v (st:State) (c:Call):Res:=if z9d st c then(st,ZD 42,false) else({ st with deposits:=st.deposits++[⟨c.user,c.other⟩] },Y2 0,true)
def lostS (st:State) (s:Nm) (b:Bool):State:=match yU st s with
 | none=>st
 | some u=>{ st with users:=st.users.modify u λx=>{ x with lost:=b } }
def z8f (st:State) (c:Call):Res:=(lostS st c.user true,Y2 0,true)
def zBx (st:State) (s:Nm):Bool:=match yU st s with
 | none=>false
 | some u=>((st.users[u]?).map User.lost).getD false
def z0k (st:State) (c:Call):Res:=if !z9d st c then(st,ZD 35,false) else if zBx st c.other then(st,ZD 20,false) else(lostS st c.user false,Y2 0,true)
noncomputable def doR (st:State) (c:Call):Res:=
 let k:=(ZB st c.folder).getD 0
 if c.kind=1 then YB st c
 else if c.kind=2 then YR st c
 else if c.kind=3 then z0t st c k
 else if c.kind=4 then z04 st c k
 else if c.kind=5\/c.kind=6\/c.kind=7 then yR st c k
 else if c.kind=8 then z3l st c k
 else if c.kind=9 then(st,z54 st c k,false)
 else if c.kind=10 then(st,z5n st c k,false)
 else if c.kind=11 then z1j st c k
 else if c.kind=12 then(st,z0y st c k,false)
 else if c.kind=14 then z1v st c
 else if c.kind=15 then z8f st c
 else if c.kind=16 then z0k st c
 else(st,z8e st k,false)
noncomputable def z12 (st:State) (c:Call) (late:Bool):Res:=if ZR st c late≠0 then(st,ZD (ZR st c late),false) else doR st c
inductive ClR {α:Type} (E:List (α×α)) (S:List α):α->Prop
 | seed {x:α}:x∈S->ClR E S x
 | step {a b:α}:ClR E S a->(a,b)∈E->ClR E S b
theorem ClR.closed {α:Type} {E:List (α×α)} {S:List α} (P:α->Prop) (h0:∀x∈S,P x) (a:∀e∈E,P e.1->P e.2) {x:α} (r:ClR E S x):P x:=by
 induction r with
 | seed h=>exact h0 _ h
 | step _ hm ih=>exact a _ hm ih
structure Cl {α:Type} (E:List (α×α)) (S l:List α) (i:Nat):Prop where
 ext:∃x,l=S++x/\x.Nodup/\∀y∈x,y∈E.map (·.2)
 sound:∀y∈l,ClR E S y
 done:∀(k:Nat) y,k<i->l[k]? =some y->∀z,(y,z)∈E->z∈l
section
variable {α:Type} {E:List (α×α)} {S l:List α} {i:Nat}
theorem Cl.start (E:List (α×α)) (S:List α):Cl E S S 0:=⟨⟨[],sm,nodup_nil,λy a=>by cases a⟩,λy a=> .seed a,λk y d=>om⟩
theorem Cl.len (h:Cl E S l i):l.length<=S.length+E.length:=by
 obtain⟨_,rfl,a,d⟩:=h.ext;have:=z9b a d;rw[qLmx] at this;rw[qLax];omega
theorem Cl.add (h:Cl E S l i) {y e:α} (hy:y∈l) (q:(y,e)∈E) (hz:e∉l) (hi:i<=l):Cl E S (l++[e]) i:=by
 obtain⟨x,o,t,u⟩:=h.ext;refine⟨⟨x++[e],by rw[o,append_assoc],nodup_append.2 ⟨t,sm,λd a b j=>?_⟩,λd a=>?_⟩,λd a=>?_,λk d v a b j=>?_⟩
 ·obtain rfl:b=e:=by simpa using j
  exact λr=>hz (by rw[o];exact mem_append_right _ (r▸a))
 ·rcases zmb a with a|a
  ·exact u d a
  rw[zml a];exact mem_map.2 ⟨_,q,rfl⟩
 ·rcases zmb a with a|a
  ·exact h.sound d a
  rw[zml a];exact .step (h.sound y hy) q
 rw[qLlx om] at a;exact mem_append_left _ (h.done k d v a b j)
theorem Cl.next (h:Cl E S l i) {y:α} (hy:l[i]? =some y) (q:∀j,(y,j)∈E->j∈l):Cl E S l (i+1):=
 ⟨h.ext,h.sound,λk o r d b e=>by
  rcases Nat.lt_or_ge k i with a|a
  ·exact h.done k o a d b e
  ·obtain rfl:k=i:=om
   obtain rfl:=zsi (hy.symm.trans d);exact q b e⟩
theorem Cl.all (h:Cl E S l i) (hi:l<=i) (x:α):x∈l↔ClR E S x:=by
 refine⟨h.sound x,λd=>d.closed (·∈l) (λy a=>?_) λe he h1=>?_⟩
 ·obtain⟨_,rfl,_⟩:=h.ext;exact mem_append_left _ a
 exact mcg
end
def z96 (l:List Pair):List (Nm×Nm):=l.map λp=>(p.to,p.frm)
theorem zFg (l:List Pair):(z96 l).length=l.length:=by simp[z96]
theorem zBa {l:List Pair} {a b:Nm}:(a,b)∈z96 l↔∃p∈l,p.to=a/\p.frm=b:=by
 unfold z96;rw[mem_map];simp only[Prod.mk.injEq]
section
open Go.RowKit Go.Deep
def z4d (l:List Nm):List (List Value):=l.map λs=>[.string s]
theorem z7g (l:List Nm):(z4d l).length=l.length:=qLmx _
theorem z97 {x:Nm} (h:l[i]? =some x):(z4d l)[i]? =some [.string x]:=by unfold z4d;rw[getElem?_map,h];rfl
theorem zBb {s:Nm}:∀{a b:List Nm},(∀x∈a,ltS s x=false)->(∀x∈b,ltS s x=true)->z47 s (a++b)=a++s::b
 | [],[],_,_=>rfl
 | [],x::b,_,h=>by rw[nil_append,z47,if_pos (h x (mem_cons_self ..))];rfl
 | x::a,b,h,k=>by
  have d:=h x (mem_cons_self ..);rw[cons_append,z47,d];rw[zBb (λy e=>h y (zmc _ e)) k];rfl
theorem zOv (hp:l.Pairwise (λa b=>ltS b a=false)) {y:Nm} (hy:l[k]? =some y) (h:ltS s y=false):∀x∈l.take (k+1),ltS s x=false:=by
 intro x v;obtain⟨i,e⟩:=getElem?_of_mem v;have u:i<k+1:=by
  have:=(zge e).1;rw[length_take] at this;omega
 rw[getElem?_take,if_pos u] at e;by_cases r:i=k
 ·subst r;rw[hy] at e;rw[<-zsi e];exact h
 have o:=(zge e);have q:=(zge hy);have t:ltS y x=false:=by
  have:=pairwise_iff_getElem.1 hp i k o.1 q.1 om;rw[o.2,q.2] at this;exact this
 rw[<-Bool.not_eq_true];intro j;rcases z1e x y with d|d|d
 ·rw[z0e j d] at h;cases h
 ·rw[<-d,j] at h;cases h
 rw[t] at d;cases d
theorem zRb {x:Nm} (hx:l[k]? =some x):(l.take (k+1)++y::l.drop (k+1)).set (k+1) x=l.take k++x::l.drop k:=by
 have e:=(zge hx).1;have a:l.take (k+1)=l.take k++[x]:=by rw[qLtx,hx];rfl
 have d:l.drop k=x::l.drop (k+1):=by
  have:=drop_eq_getElem_cons e;rw[(zge hx).2] at this;exact this
 rw[set_append_right _ _ (by rw[length_take];omega)];rw[show k+1-(l.take (k+1)).length=0 by rw[length_take];omega];rw[set_cons_zero,a,d];simp
theorem zTg (hk:k<=l):(l.take k++y::l.drop k).set k s=l.take k++s::l.drop k:=by
 rw[set_append_right _ _ (by rw[length_take];omega)];rw[show k-(l.take k).length=0 by rw[length_take];omega];rfl
theorem zLd (l:List Nm) (k:Nat) (x:Nm):(z4d l).set k [x]=z4d (l.set k x):=by unfold z4d;rw[map_set]
theorem z9z (w:World) (g a:Nat) (u:Value):w.grownBy (w.setCell (aD g a) u) (some g):=by
 have b:=(Below.refl 0 w).setCell (p:=aD g a) (Nat.zero_le _) u;exact⟨b.os,b.tape,b.output,sm,λk _ e=>Below.heap_setCell _ _ _ _ λd=>e (by rw[d])⟩
theorem zEp {w1 w':World} {d:Option Nat} {g:Nat} (h:w.grownBy w1 d) (k:w1.grownBy w' (some g)) (a:some g=d\/∃q,some g=some q/\w.heap.size<=q):w.grownBy w' d:=by
 refine⟨k.os.trans h.os,k.tape.trans h.tape,k.output.trans h.output,qNtx h.size k.size,λb j o=>(k.block b (zll j h.size) λe=>?_).trans (h.block b j o)⟩;rcases a with a|⟨q,r,t⟩
 ·exact o (e.trans a)
 have:=zsi (e.trans r);omega
theorem zTh {x:Nm} (hi:i<k) (hk:k<=l) (hx:l[i]? =some x):(l.take k++y::l.drop k)[i]? =some x:=by
 rw[qLlx (by rw[length_take];omega),getElem?_take,if_pos hi];exact hx
theorem zJ9 {v:Value} (h:RowC 9 1 w v (z4d l)) (hl:l.length<=2000) (hp:l.Pairwise (λa b=>ltS b a=false)) (s:Nm):Calls prog 81 #[v,s] w λe w'=>∃v',e= .returned v'/\RowC 9 1 w' v' (z4d (z47 s l))/\w.grownBy w' v.ownBlock/\(v'.ownBlock=v.ownBlock\/∃k,v'.ownBlock=some k/\w.heap.size<=k):=by
 obtain⟨_,_,rfl,_⟩:=h.shape;rw[z7g] at h⊢;have ae:=zh h;obtain⟨aq,an,ap,ag,ai⟩:=info_parts (show(prog.info? 9).map (λi=>(i.zero,i.size,i.bytes))=some (some (.string ⟨#[]⟩),1,16) from kr);clear h;go_enter func81,ntmps81
 go_wp2_with (at_builtin;(refine YD w [s] rfl (.tmp 8) (.tmp 10) 45 rfl aq _ 16 underlying45 an ap ag ai rfl dc dc _ _ rfl ae (by rw[z7g];omega) rfl (by intro aG Y;simp at Y;subst Y;rfl) _ _ rfl rfl ?_);intro au ac ab J aa;have H:=zh J;have z:=zh aa;have I:=zh (by rw[show z4d (l++[s])=z4d l++[[.string s]] by simp[z4d]];exact ab:RowC 9 1 ac au (z4d (l++[s])));clear ab J aa)
 obtain⟨_,t,Z,L⟩:=I.shape;obtain⟨g,d,rfl⟩:=L (by simp[z4d]);rw[z7g,qLax,length_singleton] at Z;subst Z;clear L;go_loopw [5] (λi wr=>∃(k:Nat) (y:Nm),k<=l/\i= .int .i64 k/\Hid (RowC 9 1 wr (.slice (some ⟨g,d,none⟩) (l.length+1) t) (z4d (l.take k++y::l.drop k)))/\Hid (∀x∈l.drop k,ltS s x=true)/\Hid (ac.grownBy wr (some g))) (λi _=>(intOf i).toNat)
 case atStart=>
  refine⟨l,s,znl _,gn,?_,λx o=>by simp at o,World.grownBy.refl _ _⟩;show RowC _ _ _ _ _
  rw[qLnx,drop_length];exact I
 obtain⟨k,y,U,rfl,r,A,C⟩:=hrel;by_cases K:k=0
 ·subst K;have B:=zh (show RowC 9 1 (wr.setCell (aD g d) s) (.slice (some ⟨g,d,none⟩) (l.length+1) t) (z4d (z47 s l)) by
   have:=r.write (i:=0) (j:=0) (x:=[.string y]) dc rfl dc s rfl;rw[show d+0*1+0=d by omega] at this;have e:z47 s l=s::l:=by have:=zBb (s:=s) (a:=[]) (b:=l) (λx o=>by simp at o) (λx o=>A.o x o);simpa using this
   rw[e];exact this)
  obtain⟨-,ao,aj,N,am⟩:=r.here (i:=0) (x:=[.string y]) rfl;have F:=N 0 _ rfl;rw[show d+0*1+0=d by omega] at F;have aw:(0:Int)<(l:Int)+1:=om
  clear N;go_wp2;go_ret;refine⟨.slice (some ⟨g,d,none⟩) (l.length+1) t,?_,B,zEp H (z3w C (z9z wr g d _)) z,z⟩;rfl
 obtain⟨k,rfl⟩:∃ar,k=ar+1:=⟨k-1,om⟩;obtain⟨x,o⟩:∃x,l[k]? =some x:=⟨_,qLgx om⟩;have Q:=zTh (y:=y) (by omega:k<k+1) U o;have T:(l.take (k+1)++y::l.drop (k+1))[k+1]? =some y:=by
  rw[qLrx (by rw[length_take];omega),show k+1-(l.take (k+1)).length=0 by rw[length_take];omega];rfl
 obtain⟨-,ao,aj,O,am⟩:=r.here (z97 Q);obtain⟨-,-,-,P,-⟩:=r.here (z97 T);have F:=O 0 _ rfl;have av:=P 0 _ rfl;rw[show d+k*1+0=d+k by omega] at F;rw[show d+(k+1)*1+0=d+(k+1) by omega] at av;have ax:(k:Int)<(l:Int)+1:=om
 have ay:(k:Int)+1<(l:Int)+1:=om
 have az:(0:Int)<(k:Int)+1:=om
 have aB:IntKind.i64.wrap ((k:Int)+1-1)=(k:Int):=by rw[show(k:Int)+1-1=k by omega];exact IntWalk.i64_in _ om
 clear O P Q T K;simp only[Int.natCast_add,Int.natCast_one]
 cases q:ltS s x with
 | true=>
  have M:Op.bytesLess x.toList s.toList=false:=z2y q;have al:=YX (Ne.symm (z4u q));have af:=zh (show RowC 9 1 (wr.setCell (aD g (d+(k+1))) x) (.slice (some ⟨g,d,none⟩) (l.length+1) t) (z4d (l.take k++x::l.drop k)) by
   have:=r.write (i:=k+1) (j:=0) (x:=[.string y]) dc (z97 (by rw[qLrx (by rw[length_take];omega),show k+1-(l.take (k+1)).length=0 by rw[length_take];omega];rfl)) dc x rfl;rw[show d+(k+1)*1+0=d+(k+1) by omega] at this;rw[show[Value.string y].set 0 x=[.string x] from rfl,zLd,zRb o] at this;exact this)
  have ad:=zh (show ∀G∈l.drop k,ltS s G=true by
   have ah:l.drop k=x::l.drop (k+1):=by
    have V:=(zge o);have:=drop_eq_getElem_cons V.1;rw[V.2] at this;exact this
   rw[ah];intro G D;rcases mem_cons.1 D with rfl|D
   ·exact q
   ·exact A.o G D)
  clear q o;go_wp2;go_roundw
  case rel=>exact⟨k,x,om,gn,af,ad,z3w C (z9z wr g _ _)⟩
  case measure=>simp[intOf]
 | false=>
  have B:=zh (show RowC 9 1 (wr.setCell (aD g (d+(k+1))) s) (.slice (some ⟨g,d,none⟩) (l.length+1) t) (z4d (z47 s l)) by
   have:=r.write (i:=k+1) (j:=0) (x:=[.string y]) dc (z97 (by rw[qLrx (by rw[length_take];omega),show k+1-(l.take (k+1)).length=0 by rw[length_take];omega];rfl)) dc s rfl;rw[show d+(k+1)*1+0=d+(k+1) by omega] at this;rw[show[Value.string y].set 0 s=[.string s] from rfl,zLd,zTg U] at this;have e:z47 s l=l.take (k+1)++s::l.drop (k+1):=by
    have:=zBb (s:=s) (a:=l.take (k+1)) (b:=l.drop (k+1)) (zOv hp o q) A;rwa [take_append_drop] at this
   rw[e];exact this)
  have ak:Op.bytesLess x.toList s.toList=true\/(Op.bytesLess x.toList s.toList=false/\(x.toList==s.toList)=true):=by
   rcases z1e s x with u|u|u
   ·rw[q] at u;cases u
   ·subst u;exact .inr ⟨q,sm⟩
   ·exact .inl u
  clear q o;rcases ak with M|⟨M,al⟩
  all_goals
   go_wp2;go_ret;exact⟨.slice (some ⟨g,d,none⟩) (l.length+1) t,rfl,B,zEp H (z3w C (z9z wr g _ _)) z,z⟩
end
section
open Go.RowKit Go.Deep
theorem z4l {α:Type} {p:α->Bool} {l:List α} {x:α} (h:∀y∈l.take k,p y=false) (hx:l[k]? =some x) (hp:p x=true):l.findIdx? p=some k:=by
 obtain⟨d,rfl⟩:=zge hx;refine findIdx?_eq_some_iff_getElem.2 ⟨d,hp,λa e=>?_⟩;have:=h l[a] (mem_take_iff_getElem.2 ⟨a,om,rfl⟩);simp[this]
theorem z6s {p:α->Bool} {l:List α} (h:∀y∈l,p y=false):l.findIdx? p=none:=findIdx?_eq_none_iff.2 h
theorem z5g {a:Option Nat} (h:a=some k):iOf a=(k:Int):=by rw[h];rfl
theorem z5h {a:Option Nat} (h:a=none):iOf a= -1:=by rw[h];rfl
theorem zQ4 (s:Nm) (B:Nat) (x:User) (d:List Value) (w:World) (S:Nat->Prop) (h:z0z S w d x) (e:(cL w B 0 s:Prop)):
  (kB 124 #[.agg d.toArray,pT B] w (isU s x):Prop):=by
 obtain⟨rfl,_⟩:=zBk h;have j:=zF e;have E:=zh (Y9 (a:=x.name) (b:=s));go_enter func124,ntmps124
 exact mbs
theorem maF (h:p:=by
 have EH:=zh (z5g (z4l HN HX hpx));go_wp2;go_ret;exact⟨Z8 EH.o.symm,zD hbel hb1⟩):p:=h
theorem mbb (h:p:=by
 go_wp2;go_ret;exact⟨Z8 EH.o.symm,hbel⟩):p:=h
theorem zNt (s:Nm) (B:Nat) (l:List User) (v:Value) (w:World) (S:Nat->Prop) (h:Sl 2 z0z S w v l) (a:(cL w B 0 s:Prop)):
  (kB 123 #[v,.func (.func 124) #[] #[pT B]] w (iOf (l.findIdx? (isU s))):Prop):=by
 have e:=zh a;clear a;obtain⟨_,_,rfl,_,j,_,q⟩:=h;unfold maxLen at j;go_enter func123,ntmps123
 go_wp2;go_loopw [8] (λi wr=>∃(k:Nat),k<=l/\i= .int .i64 k/\Hid (∀y∈l.take k,isU s y=false)/\bW w wr) (λi _=>l.length-(intOf i).toNat)
 case atStart=>exact⟨0,om,gn,(λy r=>by simp at r),gg⟩
 obtain⟨k,_,rfl,HN,hbel⟩:=hrel;have z:=hbel.size;by_cases o:k<l
 rotate_left
 ·obtain rfl:k=l:=om
  have EH:=zh (z5h (z6s (p:=isU s) (l:=l) (by have:=HN.o;rwa [qLnx] at this)));exact mbb
 obtain⟨x,_,_,d,u,_,rfl,_,_,_,_,t,_⟩:=z71 q o (zK hbel);have HX:=zh d;clear d u;go_wp2_with fail
 refine zcb (zQ4 s B x _ _ S t (zy hbel e)) λ_ hb1=>?_;cases hpx:isU s x
 ·exact mar
 exact maF
theorem zQ5 (s:Nm) (B:Nat) (x:Folder) (d:List Value) (w:World) (S:Nat->Prop) (h:Z6 S w d x) (e:(cL w B 0 s:Prop)):
  (kB 156 #[.agg d.toArray,pT B] w (isF s x):Prop):=by
 obtain⟨_,_,_,_,_,_,_,_,_,_,rfl,_⟩:=Z9 h;have j:=zF e;have E:=zh (Y9 (a:=x.name) (b:=s));go_enter func156,ntmps156
 exact mbs
theorem zK2 (s:Nm) (B:Nat) (l:List Folder) (v:Value) (w:World) (S:Nat->Prop) (h:Sl 7 Z6 S w v l) (a:(cL w B 0 s:Prop)):
  (kB 121 #[v,.func (.func 156) #[] #[pT B]] w (iOf (l.findIdx? (isF s))):Prop):=by
 have e:=zh a;clear a;obtain⟨_,_,rfl,_,j,_,q⟩:=h;unfold maxLen at j;go_enter func121,ntmps121
 go_wp2;go_loopw [8] (λi wr=>∃(k:Nat),k<=l/\i= .int .i64 k/\Hid (∀y∈l.take k,isF s y=false)/\bW w wr) (λi _=>l.length-(intOf i).toNat)
 case atStart=>exact⟨0,om,gn,(λy r=>by simp at r),gg⟩
 obtain⟨k,_,rfl,HN,hbel⟩:=hrel;have z:=hbel.size;by_cases o:k<l
 rotate_left
 ·obtain rfl:k=l:=om
  have EH:=zh (z5h (z6s (p:=isF s) (l:=l) (by have:=HN.o;rwa [qLnx] at this)));exact mbb
 obtain⟨x,_,_,_,_,_,_,_,_,_,_,_,_,d,u,_,rfl,_,_,_,_,_,_,_,_,_,t,_⟩:=yP q o (zK hbel);have HX:=zh d;clear d u;go_wp2_with fail
 refine zcb (zQ5 s B x _ _ S t (zy hbel e)) λ_ hb1=>?_;cases hpx:isF s x
 ·exact mar
 exact maF
theorem zQ6 (s:Nm) (B:Nat) (x:Item) (d:List Value) (w:World) (S:Nat->Prop) (h:YG S w d x) (e:(cL w B 0 s:Prop)):
  (kB 176 #[.agg d.toArray,pT B] w (isI s x):Prop):=by
 obtain⟨_,_,rfl,_⟩:=z4f h;have j:=zF e;have E:=zh (Y9 (a:=x.name) (b:=s));go_enter func176,ntmps176
 exact mbs
theorem zNu (s:Nm) (B:Nat) (l:List Item) (v:Value) (w:World) (S:Nat->Prop) (h:Sl 2 YG S w v l) (a:(cL w B 0 s:Prop)):
  (kB 167 #[v,.func (.func 176) #[] #[pT B]] w (iOf (l.findIdx? (isI s))):Prop):=by
 have e:=zh a;clear a;obtain⟨_,_,rfl,_,j,_,q⟩:=h;unfold maxLen at j;go_enter func167,ntmps167
 go_wp2;go_loopw [8] (λi wr=>∃(k:Nat),k<=l/\i= .int .i64 k/\Hid (∀y∈l.take k,isI s y=false)/\bW w wr) (λi _=>l.length-(intOf i).toNat)
 case atStart=>exact⟨0,om,gn,(λy r=>by simp at r),gg⟩
 obtain⟨k,_,rfl,HN,hbel⟩:=hrel;have z:=hbel.size;by_cases o:k<l
 rotate_left
 ·obtain rfl:k=l:=om
  have EH:=zh (z5h (z6s (p:=isI s) (l:=l) (by have:=HN.o;rwa [qLnx] at this)));exact mbb
 obtain⟨x,_,_,_,_,d,u,_,rfl,_,_,_,_,t,_⟩:=z0w q o (zK hbel);have HX:=zh d;clear d u;go_wp2_with fail
 refine zcb (zQ6 s B x _ _ S t (zy hbel e)) λ_ hb1=>?_;cases hpx:isI s x
 ·exact mar
 exact maF
end
section
open Go.RowKit Go.Deep
theorem zBc {l:List Pair} {q:Nat} {p:Pair} (hp:l[q]? =some p) {P:Nm->Prop} (h:∀r∈l.take q,r.to=y->P r.frm) (k:p.to=y->P p.frm):∀r∈l.take (q+1),r.to=y->P r.frm:=by
 rw[qLtx,hp];intro r a d;rcases zmb a with a|a
 ·exact h r a d
 obtain rfl:r=p:=by simpa using a
 exact k d
def zBd (l:List At) (s:Nm) (n:Int):Bool:=l.any λx=>decide (x.name=s)&&decide (x.seq=n)
theorem z5i {l:List At} {n:Int}:zBd l s n=true↔(⟨s,n⟩:At)∈l:=by
 unfold zBd;rw[any_eq_true];constructor
 ·rintro⟨x,d,a⟩;obtain⟨_,_⟩:=x;simp only[qBqx,decide_eq_true_eq] at a;obtain⟨rfl,rfl⟩:=a;exact d
 intro a;exact⟨_,a,sm⟩
theorem zHe (l:List At) (v:Value) (s:Nm) (n:Int) (w:World) (S:Nat->Prop) (h:Sl 2 rAt S w v l):Calls prog 84 #[v,s,n] w λe w'=>e= .returned (.bool (zBd l s n))/\w'=w:=by
 obtain⟨_,_,rfl,_,B,_,D⟩:=h;unfold maxLen at B;go_enter func84,ntmps84
 go_wp2;go_loop [7] (λi=>∃k:Nat,k<=l/\i= .int .i64 k/\Hid ((⟨s,n⟩:At)∉l.take k)) (λi=>l.length-(intOf i).toNat)
 case atStart=>exact⟨0,om,gn,by simp[Hid]⟩
 obtain⟨k,_,rfl,r⟩:=hrel;by_cases C:k<l
 rotate_left
 ·obtain rfl:k=l:=om
  have M:=zh (by rw[<-Bool.not_eq_true,z5i];have:=r.o;rwa [qLnx] at this:zBd l s n=false);exact mbQ
 obtain⟨x,o⟩:∃x,l[k]? =some x:=⟨_,qLgx C⟩;obtain⟨b,_,_,z,_,A,t⟩:=SlAt.elem D o dc zbr;obtain⟨rfl,_⟩:=z48 A;obtain⟨G,I⟩:=TC2 t;rw[Nat.add_zero] at G;subst z;have H:(k:Int)<(l:Int):=om
 have u:=zh o;have j:(⟨s,n⟩:At)≠x->Hid ((⟨s,n⟩:At)∉l.take (k+1)):=λq=>by
  show _∉_
  rw[qLtx,o,mem_append];rintro(h|h)
  ·exact r.o h
  ·exact q (by simpa using h)
 clear o t;by_cases a:x.name=s
 rotate_left
 ·have F:(x.name.toList==s.toList)=false:=YX a;have HK2:=j λe=>a (by rw[<-e])
  clear a j;exact ma2
 have F:(x.name.toList==s.toList)=true:=by rw[a];simp
 by_cases d:x.seq=n
 ·have q:(x.seq==n)=true:=by rw[d];simp
  have M:=ζ (zBd l s n=true) (z5i.2 (by have:=zmg u;obtain⟨_,b⟩:=x;dsimp only at a d;rw[<-a,<-d];exact this));clear a d j;exact mbQ
 have q:(x.seq==n)=false:=beq_eq_false_iff_ne.2 d;have HK2:=j λe=>d (by rw[<-e])
 clear a d j;exact ma2
theorem mbE (h:p:=by
 go_wp2;go_roundw
 case rel=>exact⟨d+1,L',om,gn,hqL,HY,(HG.below z0r (y8 zbr _)),HCL,HQ2,y8 hbel _⟩
 case measure=>exact qMx):p:=h
theorem zMf (st:State) (af:Small st) (u:Nm) (hu:u.size<=1000) (Z:List Value) (w:World) (S:Nat->Prop) (h:Z5 S w Z st):Calls prog 82 #[.agg Z.toArray,u] w λe w'=>(∃(v:Value) (L:List Nm),e= .returned v/\Sl 1 z3u (λ_=>True) w' v L/\(∀x,x∈L↔ClR (z96 st.deposits) [u] x)/\L.length<=1001)/\bW w w':=by
 have aG:=zh af;clear af;obtain⟨ba,bd,bb,be,bc,bf,rfl,bQ,bR,bS,bT,bi,bK,bL,bM,bg,bN,bO,bP,bh⟩:=ZF h;obtain⟨j,a4,aa,aK,Q,bH⟩:=zP w (aS st ba bd bb be bc bf) 34;obtain⟨O,ag,aH,aL,T,bI⟩:=zP j #[u] 9;have U:=zh Q;have au:=zh aa;have ad:O.heap[j.heap.size]? =some (.cells #[u] 9 (0,0)):=by rw[<-ag];exact zJ _ rfl
 have HG:=ζ (Grow 9 1 z3u (λ_=>False) O j (.slice (some ⟨j,0,none⟩) 1 1) [u]) (Grow.one z0r ad (znl _) rfl ⟨rfl,om⟩);have bv:st.deposits.length<=1000:=by have:=aG.all;omega
 have HCL:=zh (Cl.start (z96 st.deposits) [u]);have bs:[u].length<=80:=sm
 have hbel:(bW j O:Prop):=T;clear aa aK Q aH aL T ad bi bh;obtain⟨a7,aV,a6,aO,aP⟩:=info_parts (show(prog.info? 9).map (λi=>(i.zero,i.size,i.bytes))=some (some (.string ⟨#[]⟩),1,16) from kr);go_enter func82,ntmps82
 go_wp2;clear a4 ag;go_loopw [5,6] (λN i wr=>∃(a:Nat) (L:List Nm),a<=L/\i= .int .i64 a/\Hid (Grow 9 1 z3u (λ_=>False) wr j N L)/\Hid (Cl (z96 st.deposits) [u] L a)/\bW j wr) (λ_ i _=>1200-(intOf i).toNat)
 case atStart=>exact⟨0,_,om,gn,HG,HCL,hbel⟩
 clear HG HCL hbel;obtain⟨bY,rfl⟩:=ξ wr;obtain⟨a,L,a0,rfl,HG,HCL,hbel⟩:=hrel;have z:=zh (hbel);obtain⟨bl,bC,bp,rfl,aY⟩:=HG.shape';have ac:L.length<=1080:=by have:=HCL.len;rw[zFg] at this;omega
 have ak:=hbel.size;subst aY;by_cases J:a<L
 rotate_left
 ·obtain rfl:a=L:=om
  have aq:=zh (HCL.all (znl _));have ax:=zh (by have:=HCL.len;rw[zFg,length_singleton] at this;omega:L.length<=1001);have G:=zh (Own.sl z0r HG);have ar:=zh (zD U z.o);clear HG;go_wp2;go_ret;exact⟨⟨_,L,rfl,G,aq,ax⟩,ar⟩
 obtain⟨y,ai⟩:∃y,L[a]? =some y:=⟨_,qLgx J⟩;have q:=ζ (∀o∈st.deposits.take 0,o.to=y->o.frm∈L) (λo K=>by simp at K);have HY:=zh ai;clear ai;go_wp2;go_loopw [5,7] (λN i wr=>∃(d:Nat) (L':List Nm),d<=st.deposits/\i= .int .i64 d/\a<L'/\Hid (L'[a]? =some y)/\Hid (Grow 9 1 z3u (λ_=>False) wr j N L')/\Hid (Cl (z96 st.deposits) [u] L' a)/\Hid (∀o∈st.deposits.take d,o.to=y->o.frm∈L')/\bW j wr) (λ_ i _=>st.deposits.length-(intOf i).toNat)
 case atStart=>exact⟨0,L,om,gn,J,HY,HG,HCL,q,hbel⟩
 clear q HG HCL hbel ac J ak z a0 HY;obtain⟨F,rfl⟩:=ξ wr;obtain⟨d,L',bu,rfl,hqL,HY,HG,HCL,q,hbel⟩:=hrel;have z:=zh (hbel);have ac:L'.length<=1080:=by have:=HCL.len;rw[zFg] at this;omega
 have ak:=hbel.size;have am:=zy z (au.o 2 _ rfl);obtain⟨bm,bq,a3,bz,aU,bA,a1⟩:=Own.sl z0r HG;subst a3;unfold maxLen at aU;by_cases aW:d<st.deposits
 rotate_left
 ·obtain rfl:d=st.deposits:=om
  have ay:=zh (HCL.next HY λb0 a5=>by
   obtain⟨p,B,aI,aJ⟩:=zBa.1 a5;subst aJ;exact q.o p (by rw[qLnx];exact B) aI)
  go_wp2;go_roundw
  case rel=>exact⟨a+1,L',om,gn,HG,ay,hbel⟩
  case measure=>exact qMx
 obtain⟨p,B⟩:∃p,st.deposits[d]? =some p:=⟨_,qLgx aW⟩;obtain⟨b,bE,bZ,aQ,bt,aT,ae⟩:=SlAt.elem bg B dc (zD U z.o);obtain⟨bk,bo,bF,aj,_,_,aR,a9⟩:=zGy a1 hqL (Kept.refl F λ_ h=>h);obtain rfl:y=bk:=zsi (HY.symm.trans aj);obtain⟨rfl,a8,bG⟩:=zBl aT;obtain⟨M,bj⟩:=TC2 ae;rw[Nat.add_zero] at M;subst aQ;subst aR;have bx:(d:Int)<(st.deposits:Int):=om
 have bB:(a:Int)<(L':Int):=om
 have aB:=zh a8;have D:=zh B;have G:=zh (Own.sl z0r HG);clear B aj ae;by_cases t:p.to=y
 rotate_left
 ·have a2:(p.to.toList==y.toList)=false:=YX t;have HQ2:=zh (zBc D (P:=λx=>x∈L') q.o λe=>absurd e t);clear t;go_wp2_with fail
  go_quiet (fail)
  exact mbE
 have a2:(p.to.toList==y.toList)=true:=by rw[t];simp
 have C:=zh (λnq=>zPy L' _ p.frm (F.drewN nq) _ (G.keep z0r dc (zK (y8 zbr nq))));have aw:=zh t;clear t
 cases r:zF2 L' p.frm with
 | true=>
  have HQ2:=zh (zBc D (P:=λx=>x∈L') q.o λ_=>z3x.1 r);rw[r] at C;clear r;go_wp2_with fail
  go_quiet ((go_at_call 49;refine Calls.quiet_of_same (C.o _)))
  exact mbE
 | false=>
  have az:=ζ (p.frm∉L') (λaX=>by rw[z3x.2 aX] at r;cases r);have av:=ζ ((y,p.frm)∈z96 st.deposits) (zBa.2 ⟨p,zmg D,aw,rfl⟩);rw[r] at C;clear r;go_wp2_with fail
  go_quiet ((go_at_call 49;refine Calls.quiet_of_same (C.o _)))
  generalize ah:F.drewN nq=an;have A:(bW F an:Prop):=by rw[<-ah];exact y8 zbr _
  have Y:=zh (HG.below z0r A);have bU:=zy A M;have bJ:=zy A am;have V:=zh (zD hbel A);have al:j<=an.heap.size:=V.size;clear ah A M bj am a9;go_wp2_with (at_builtin;go_loud (refine yZ (R:=z3u) _ _ rfl (.tmp 45) (.tmp 52) 45 rfl 9 a7 _ 1 16 underlying45 aV a6 aO aP rfl dc z0r j al _ _ rfl Y _ _ rfl (by simp only[zS]) _ (by intro b I;exact I.elim) ⟨rfl,aB.o⟩ om dc ?_);intro bV bX H ab aN;obtain⟨bn,bD,br,rfl,aZ⟩:=H.shape';have ao:=zh H;have ap:=zh ab;clear aZ H ab aN)
  go_roundw
  case rel=>exact⟨d+1,L'++[p.frm],om,gn,by rw[qLax];omega,(zh (by rw[qLlx hqL];exact HY)),ao,(zh (HCL.add (zmg HY) av az om)),(zh (zBc D (P:=λx=>x∈L'++[p.frm]) (λo K e=>mem_append_left _ (q.o o K e)) λ_=>mem_append_right _ sm)),Below.grown V ap.o al λb I=>(Y.base_le b I).1⟩
  case measure=>exact qMx
end
section
open Go.RowKit Go.Deep
section
variable {X:Nat->Prop} {base bw:Nat} {W:World} {R:RM} {c:Call} {dv:Value} {st:State} {done late:Bool}
theorem WK.usSl (h:WK X base bw W R c dv st done late):Sl 2 z0z (λ_=>True) W (R .us).v st.users:=z1h z1a (h.os.row .us) (h.os.len _) h.is.users
theorem WK.deSl (h:WK X base bw W R c dv st done late):Sl 2 z10 (λ_=>True) W (R .de).v st.deposits:=z1h z1r (h.os.row .de) (h.os.len _) h.is.deps
theorem WK.foSl (h:WK X base bw W R c dv st done late):Sl 7 Z6 (λ_=>True) W (R .fo).v st.folders:=by
 obtain⟨_,_,_,a,_,_,_,d⟩:=h.state;simp only[cons.injEq] at a;obtain⟨_,_,_,rfl,_⟩:=a;exact d
theorem z2j (h:WK X base bw W R c dv st done late) (s:Nm):(kB 85 #[pT bw,s] W (iOf (yU st s)):Prop):=by
 obtain⟨u,_,e,r,a,_⟩:=zP W #[s] 9;have d:=zh (zNt s W st.users _ u _ (h.usSl.keep z1a dc (zK a)) (e 0 _ rfl));obtain⟨_,_,j,_⟩:=(h.os.row .us).shape;have t:=zy a (h.cells.1 9 _ rfl);rw[j] at t d;have q:=zh a;clear h j e r a;go_enter func85,ntmps85
 go_wp2_with fail
 refine zcb d λ_ o=>?_;go_wp2;go_ret;exact⟨rfl,zD q o⟩
theorem WK.fold (h:WK X base bw W R c dv st done late) {d:Nat} (F:st.folders[i]? =some f) (ha:foAt R i g d):
  ∃(e:Option Addr) (u:Nat) (j:Option Addr) (v:Nat) (o:Option Addr) (z:Nat) (r:Option Addr) (A:Nat) (t:Option Addr) (B:Nat),
   hdr R i f=[.string f.name,.int .i64 f.turn,.slice e f.manifests u,.slice j f.epochs v,.slice o f.items z,.slice r f.wraps A,.slice t f.links B]/\
   Z6 (λ_=>True) W (lF f e u j v o z r A t B) f/\
   cL W g d f.name/\cL W g (d+1) f.turn/\cL W g (d+2) (.slice e f.manifests u)/\cL W g (d+3) (.slice j f.epochs v)/\
   cL W g (d+4) (.slice o f.items z)/\cL W g (d+5) (.slice r f.wraps A)/\cL W g (d+6) (.slice t f.links B)/\g<W/\∀q,W.frozen? (aD g q)=false:=by
 have hF:=(h.is.fo i f F).2.folder h.os;obtain⟨_,_,G,_,H,a,J⟩:=h.fat F;obtain⟨_,_,_,I,rfl⟩:=ha;obtain⟨_,_,_,C,rfl⟩:=G;rw[I] at C;simp only[Value.slice.injEq,Option.some.injEq,Addr.mk.injEq] at C;obtain⟨⟨rfl,rfl,_⟩,_⟩:=C;obtain⟨e,u,j,v,o,z,r,A,t,B,D,_⟩:=Z9 hF;rw[D] at hF a;exact⟨e,u,j,v,o,z,r,A,t,B,D,hF,a 0 _ rfl,a 1 _ rfl,a 2 _ rfl,a 3 _ rfl,a 4 _ rfl,a 5 _ rfl,a 6 _ rfl,H,J⟩
theorem zDn (h:WK X base bw W R c dv st done late) (s:Nm):Calls prog 125 #[pT bw,s] W λe w'=>
  ((foI st s=none/\e= .returned (.pointer none))\/∃k g r,foI st s=some k/\foAt R k g r/\e= .returned (pO g r))/\bW W w':=by
 obtain⟨B,_,v,G,a,_⟩:=zP W #[s] 9;have u:=zh (zK2 s W st.folders _ B _ (h.foSl.keep rFolder_ok dc (zK a)) (v 0 _ rfl));obtain⟨_,_,o,_⟩:=(h.os.row .fo).shape;have A:=zy a (h.cells.1 11 _ rfl);rw[o,h.is.fol] at A u;have t:=zh a;have F:=zh h;have D:=zh o;have I:=h.lt;have J:bw<B:=by have:=a.size;omega
 clear h v G a o;go_enter func125,ntmps125
 go_wp2_with fail
 refine zcb u λ_ j=>?_;have K:=zy j A
 cases d:foI st s with
 | none=>
  rw[show st.folders.findIdx? (isF s)=none from d];unfold iOf;go_wp2;go_ret
  exact⟨.inl ⟨d,rfl⟩,zD t j⟩
 | some k=>
  have H:k<st.folders:=(findIdx?_eq_some_iff_getElem.1 d).1;rw[show st.folders.findIdx? (isF s)=some k from d];unfold iOf;obtain⟨g,r,z,_⟩:=F.fat (qLgx H);have C:=zh z;obtain⟨_,_,_,q,rfl⟩:=z;rw[D.o] at q;simp only[Value.slice.injEq] at q;obtain⟨rfl,rfl,rfl⟩:=q;go_wp2;go_ret;exact⟨.inr ⟨k,_,_,d,C,rfl⟩,zD t j⟩
theorem zBy {st:State} (h:foI st s=some k):ZB st s=if (zL (fo st k)).gone then none else some k:=by unfold ZB;rw[h]
theorem zEd {st:State} (h:foI st s=none):ZB st s=none:=by unfold ZB;rw[h]
theorem z0l {st:State} (h:foI st s=some k):k<st.folders:=(findIdx?_eq_some_iff_getElem.1 h).1
theorem ZT {st:State} (h:k<st.folders):st.folders[k]? =some (fo st k):=by unfold fo;rw[qLgx h];rfl
theorem z8g (a b c:Nm) (x y:Int) (g:Bool) (v u:Value) (w:World):(Instr.field 84 (.agg #[a,x,v,b,u,y,g,c]) 1).run prog w= .ok x w:=kr
theorem zIx (a b c:Nm) (x y:Int) (g:Bool) (v u:Value) (w:World):(Instr.field 84 (.agg #[a,x,v,b,u,y,g,c]) 3).run prog w= .ok b w:=kr
theorem z2d (a b c:Nm) (x y:Int) (g:Bool) (v u:Value) (w:World):(Instr.field 84 (.agg #[a,x,v,b,u,y,g,c]) 4).run prog w= .ok (u) w:=kr
theorem zEe (a b c:Nm) (x y:Int) (g:Bool) (v u:Value) (w:World):(Instr.field 84 (.agg #[a,x,v,b,u,y,g,c]) 6).run prog w= .ok g w:=kr
theorem YK (h:WK X base bw W R c dv st done late) (s:Nm):Calls prog 86 #[pT bw,s] W λe w'=>
  ((ZB st s=none/\e= .returned (.pointer none))\/∃k g j,ZB st s=some k/\foAt R k g j/\e= .returned (pO g j))/\bW W w':=by
 have A:=zh (zDn h s);have C:=zh h;clear h;go_enter func86,ntmps86
 go_wp2_with fail
 refine zcm A ?_;rintro e F ⟨⟨a,rfl⟩|⟨k,g,j,a,o,rfl⟩,d⟩
 ·go_wp2;go_ret;exact⟨.inl ⟨zEd a,rfl⟩,d⟩
 have D:=z0l a;have u:=C.below d;obtain⟨_,_,_,_,_,_,_,_,_,_,_,hF,_⟩:=u.fold (ZT D) o;have z:=zh o;have B:=zh (z75 (fo st k) _ F _ hF);have t:=zh d;have G:=zEe;clear u hF o d;go_wp2_with fail
 refine zcm B ?_;rintro e _ ⟨⟨_,rfl,q⟩,r⟩;obtain⟨_,_,_,_,rfl,q⟩:=ZO q;clear q;cases v:(zL (fo st k)).gone
 ·go_wp2;go_ret;exact⟨.inr ⟨k,g,j,by rw[zBy a,v];rfl,z,rfl⟩,zD t r⟩
 go_wp2;go_ret;exact⟨.inl ⟨by rw[zBy a,v];rfl,rfl⟩,zD t r⟩
end
end
section
variable {β:Type} {g:Folder->β} {p:Folder->Bool} {f f':Folder}
theorem zD3 (hp:p f'=p f) (hg:g f'=g f):∀{l:List Folder} {k:Nat},l[k]? =some f->((l.set k f').find? p).map g=(l.find? p).map g
 | [],k,h=>by simp at h
 | x::l,0,h=>by
  obtain rfl:x=f:=by simpa using h
  rw[set_cons_zero,find?_cons,find?_cons,hp];cases p x
  ·rfl
  ·simp[hg]
 | x::l,k+1,h=>by
  rw[set_cons_succ,find?_cons,find?_cons];cases p x
  ·exact zD3 hp hg (by simpa using h)
  ·rfl
end
def Alike (st st':State):Prop:=∀s,(Z4 st s).map (λf=>(f.manifests,f.epochs))=(Z4 st' s).map λf=>(f.manifests,f.epochs)
theorem Alike.refl (st:State):Alike st st:=λ_=>rfl
theorem Alike.symm {a:State} (h:Alike a b):Alike b a:=λs=>(h s).symm
theorem Alike.trans {a c:State} (h:Alike a b) (k:Alike b c):Alike a c:=λs=>(h s).trans (k s)
theorem Alike.miss {a:State} (h:Alike a b) (k:Z4 a s=none):Z4 b s=none:=by
 have:=h s;rw[k] at this
 cases d:Z4 b s with
 | none=>rfl
 | some f=>rw[d] at this;cases this
theorem Alike.hit {a:State} (h:Alike a b) (k:Z4 a s=some f):∃f',Z4 b s=some f'/\f'.manifests=f.manifests/\f'.epochs=f.epochs:=by
 have:=h s;rw[k] at this
 cases d:Z4 b s with
 | none=>rw[d] at this;cases this
 | some f'=>
  rw[d] at this;simp only[Option.map_some,Option.some.injEq,Prod.mk.injEq] at this;exact⟨f',rfl,this.1.symm,this.2.symm⟩
theorem z35 (h:f'.manifests=f.manifests):zL f'=zL f:=by unfold zL;rw[h]
theorem Alike.now {a:State} (h:Alike a b) (s:Nm):zL ((Z4 b s).getD z0b)=zL ((Z4 a s).getD z0b):=by
 cases k:Z4 a s with
 | none=>rw[h.miss k]
 | some f=>
  obtain⟨_,e,d,_⟩:=h.hit k;rw[e];exact z35 d
theorem Alike.eps {a:State} (h:Alike a b) (s:Nm):((Z4 b s).getD z0b).epochs=((Z4 a s).getD z0b).epochs:=by
 cases k:Z4 a s with
 | none=>rw[h.miss k]
 | some f=>
  obtain⟨_,e,_,d⟩:=h.hit k;rw[e];exact d
theorem Alike.chain {a b:State} (h:Alike a b):∀(n:Nat) (s:Nm),zY b n s=zY a n s
 | 0,s=>rfl
 | n+1,s=>by
  cases k:Z4 a s with
  | none=>rw[z38 k,z38 (h.miss k)]
  | some f=>
   obtain⟨_,e,d,_⟩:=h.hit k;rw[z1u k,z1u e,z35 d,h.chain n]
theorem Alike.cut {a:State} (h:Alike a b) (s:Nm):z7j b s=z7j a s:=by unfold z7j;rw[h.now s]
theorem Alike.go {a b:State} (h:Alike a b):∀(x y:List At),z0h b x y=z0h a x y
 | [],y=>by cases y<;>rfl
 | x::r,[]=>rfl
 | x::r,y::q=>by unfold z0h;rw[h.cut,h.go r q]
theorem Alike.stale {a:State} (h:Alike a b) (s:Nm):yH b s=yH a s:=by
 cases k:Z4 a s with
 | none=>rw[z7k k,z7k (h.miss k)]
 | some f=>
  obtain⟨_,q,_,e⟩:=h.hit k;rcases Nat.eq_zero_or_pos f.epochs with d|d
  ·rw[z89 k d,z89 q (by rw[e];exact d)]
  obtain⟨n,j⟩:∃n,f.epochs.length=n+1:=⟨f.epochs.length-1,om⟩;have o:f.epochs[n]? =some (f.epochs[n]'(om)):=qLgx _;rw[z7l k j o,z7l q (by rw[e];exact j) (by rw[e];exact o),h.chain,h.go]
theorem zG3 (h:st.folders[k]? =some f) (hn:f'.name=f.name) (hm:f'.manifests=f.manifests) (a:f'.epochs=f.epochs):Alike st (setF st k f'):=λs=>by
 unfold setF Z4;exact(zD3 (by rw[hn]) (by rw[hm,a]) h).symm
theorem z24 (h:k<st.folders):fo (setF st k f) k=f:=by
 unfold fo setF;dsimp only;rw[getElem?_set_self h];rfl
theorem z2k {g:Folder}:setF (setF st k f) k g=setF st k g:=by
 unfold setF;simp
theorem z8r:setF st k (fo st k)=st:=by
 unfold setF fo
 cases a:st.folders[k]? with
 | none=>
  have:st.folders<=k:=List.getElem?_eq_none_iff.1 a
  rw[set_eq_of_length_le this]
 | some f=>
  have:=lSq a;rw[Option.getD_some,this]
theorem z0m:(setF st k f).folders.length=st.folders.length:=by unfold setF;simp
theorem z41 (h:foI st s=some k):Z4 st s=some (fo st k):=by
 unfold foI at h;obtain⟨a,j,e⟩:=findIdx?_eq_some_iff_getElem.1 h;have d:=fo_at' a;rw[<-z74];exact z7t (k:=k) (λy o=>by
  obtain⟨q,_,rfl⟩:=mem_take_iff_getElem.1 o;have:=e q om;simpa using this) d (by rw[<-j];unfold fo;rw[qLgx a];rfl)
where fo_at' {st:State} {k:Nat} (h:k<st.folders):st.folders[k]? =some (fo st k):=by unfold fo;rw[qLgx h];rfl
theorem zAv:foI st s=none↔Z4 st s=none:=by
 unfold foI;rw[findIdx?_eq_none_iff,<-z74,find?_eq_none];simp
def z0f (name:Nm) (l:List Wrap):Nat:=(l.takeWhile λw=>ltS w.name name).length
def z0v (l:List Wrap):Prop:=l.Pairwise λa b=>ltS a.name b.name=true
theorem zKh {a b:Nm} (h:a≠b) (k:ltS a b=false):ltS b a=true:=by
 rcases z1e a b with d|d|d
 ·rw[d] at k;cases k
 ·exact absurd d h
 exact d
theorem zF7 (eps:List Epoch) (name:Nm) (seed:Bool):∀(l:List Wrap),YI eps name seed l=match l[z0f name l]? with
  | some w=>if w.name=name then l.set (z0f name l) (if z19 eps w seed then w else⟨name,eps,seed⟩) else l.take (z0f name l)++⟨name,eps,seed⟩::l.drop (z0f name l)
  | none=>l++[⟨name,eps,seed⟩]
 | []=>rfl
 | w::r=>by
  unfold YI z0f;by_cases a:w.name=name
  ·rw[if_pos a,takeWhile_cons];have:ltS w.name name=false:=by rw[a];exact z07 _
   simp only[this,Bool.false_eq_true,if_false];simp[a]
  ·rw[if_neg a,takeWhile_cons];cases d:ltS w.name name
   ·rw[if_pos (zKh a d)];simp[a]
   ·rw[if_neg (by rw[z2y d];decide)];have e:=zF7 eps name seed r;unfold z0f at e;rw[e];simp only[if_true,length_cons,getElem?_cons_succ,set_cons_succ,take_succ_cons,drop_succ_cons,cons_append];split
    ·split<;>rfl
    ·rfl
theorem z9f {eps:List Epoch} {name:Nm} {seed:Bool}:∀{l:List Wrap} {x:Wrap},x∈YI eps name seed l->x=⟨name,eps,seed⟩\/x∈l
 | [],x,a=>by simpa[YI] using a
 | w::r,x,a=>by
  unfold YI at a;split at a
  ·split at a
   ·exact .inr a
   ·rcases mem_cons.1 a with a|a
    ·exact .inl a
    ·exact .inr (zmc _ a)
  ·split at a
   ·rcases mem_cons.1 a with a|a
    ·exact .inl a
    ·exact .inr a
   ·rcases mem_cons.1 a with a|a
    ·exact .inr (by rw[a];exact mem_cons_self ..)
    ·exact(z9f a).imp id λa=>zmc _ a
theorem z6u (eps:List Epoch) (name:Nm) (seed:Bool):∀{l:List Wrap},z0v l->z0v (YI eps name seed l)
 | [],_=>by unfold YI z0v;simp
 | w::r,h=>by
  unfold z0v at h⊢;obtain⟨j,q⟩:=pairwise_cons.1 h;unfold YI;split
  ·rename_i e;split
   ·exact h
   ·exact pairwise_cons.2 ⟨λb a=>by rw[<-e];exact j b a,q⟩
  ·split
   ·rename_i o d;exact pairwise_cons.2 ⟨λb a=>by
     rcases mem_cons.1 a with rfl|a
     ·exact d
     ·exact z0e d (j b a),h⟩
   ·rename_i o d;refine pairwise_cons.2 ⟨λb a=>?_,z6u eps name seed q⟩;rcases z9f a with rfl|a
    ·exact zKh (λe=>o e.symm) (by simpa using d)
    ·exact j b a
def z43 (eps:List Epoch) (name:Nm) (seed:Bool):Bool->List Wrap->List Wrap
 | done,[]=>if done then[] else[⟨name,eps,seed⟩]
 | done,w::r=>if w.name=name then(if z19 eps w seed then w else⟨name,eps,seed⟩)::z43 eps name seed true r
  else if !done&&ltS name w.name then⟨name,eps,seed⟩::w::z43 eps name seed true r
  else w::z43 eps name seed done r
theorem zAw (eps:List Epoch) (name:Nm) (seed:Bool):∀{l:List Wrap},(∀w∈l,w.name≠name)->z43 eps name seed true l=l
 | [],_=>rfl
 | w::r,h=>by
  unfold z43;rw[if_neg (h w (mem_cons_self ..)),zAw eps name seed λx a=>h x (zmc _ a)];rfl
theorem zG4 (eps:List Epoch) (name:Nm) (seed:Bool):∀{l:List Wrap},z0v l->z43 eps name seed false l=YI eps name seed l
 | [],_=>rfl
 | w::r,h=>by
  obtain⟨j,q⟩:=pairwise_cons.1 h;unfold z43 YI;by_cases a:w.name=name
  ·rw[if_pos a,if_pos a,zAw eps name seed λx e d=>by
    have:=j x e;rw[a,d,z07] at this;cases this]
  ·rw[if_neg a,if_neg a];cases o:ltS name w.name
   ·simp only[Bool.not_false,Bool.and_false,Bool.false_eq_true,if_false];rw[zG4 eps name seed q]
   ·simp only[Bool.not_false,Bool.and_true,if_true];rw[zAw eps name seed λx e d=>by
     have:=z0e o (j x e);rw[d,z07] at this;cases this]
structure Gv (f f':Folder):Prop where
 name:f'.name=f.name
 turn:f'.turn=f.turn
 man:f'.manifests=f.manifests
 ep:f'.epochs=f.epochs
 it:f'.items=f.items
 wr:z0v f.wraps->z0v f'.wraps
theorem Gv.refl (f:Folder):Gv f f:=⟨rfl,rfl,rfl,rfl,rfl,id⟩
theorem Gv.trans {a b c:Folder} (h:Gv a b) (k:Gv b c):Gv a c:=⟨k.name.trans h.name,k.turn.trans h.turn,k.man.trans h.man,k.ep.trans h.ep,k.it.trans h.it,λx=>k.wr (h.wr x)⟩
theorem Gv.now (h:Gv f f'):zL f'=zL f:=z35 h.man
theorem zUu (f:Folder) (name:Nm) (seed:Bool):Gv f (YZ f name seed):=⟨rfl,rfl,rfl,rfl,rfl,λa=>z6u _ _ _ a⟩
theorem zAx (a:Member->Bool):∀(d:List Member) (f:Folder),Gv f (Y5 a f d)
 | [],f=>Gv.refl f
 | m::r,f=>(zUu f m.name (a m)).trans (zAx a r (YZ f m.name (a m)))
theorem zAy (st:State):∀(l:List At) (f:Folder),Gv f (YA st l f)
 | [],f=>Gv.refl f
 | x::r,f=>by
  unfold YA;split
  ·exact(zAx _ _ f).trans (zAy st r _)
  ·split
   ·exact Gv.refl f
   ·exact⟨rfl,rfl,rfl,rfl,rfl,id⟩
theorem zM4 (a:Member->Bool) (f:Folder) (d:List Member) (m:Member):Y5 a f (d++[m])=YZ (Y5 a f d) m.name (a m):=by unfold Y5;simp
theorem Alike.gv (hk:k<st.folders) (h:Gv (fo st k) f'):Alike st (setF st k f'):=
 zG3 (by unfold fo;rw[qLgx hk];rfl) h.name h.man h.ep
section
open Go.RowKit Go.Deep
section
variable {X:Nat->Prop} {base bw:Nat} {W:World} {R:RM} {c:Call} {dv:Value} {st:State} {done late:Bool}
def ZV (e n:Int):Array Value:=#[e,n,.string ⟨#[]⟩,(),(),(),()]
theorem z40 (h:WK X base bw W R c dv st done late) (n:Int):Calls prog 126 #[pT bw,n] W λe w'=>
  e= .returned (.agg (ZV 0 n))/\WK X base bw w' R c dv st true late/\Mut bw R W R w':=by
 have q:=h.lt;have r:=h.cells.1 12 _ rfl;have o:=h.cells.2;have a:=zh h;clear h;go_enter func126,ntmps126
 go_wp2;try simp only[φ]
 refine bodyPost_ret (results_cell_row rfl _ _ W 49 _ (0,0) _ rfl (zJ _ (World.size_setCell _ _ _).symm) underlying49 rfl kr) rfl ?_;obtain⟨d,j⟩:=a.setDone true;exact⟨rfl,d.below (Below.alloc zbr (znl _) _),j.trans (Mut.below (Below.alloc zbr (znl _) _))⟩
theorem mbh (h:p:=by
 go_wp2;try simp only[φ]
 refine bodyPost_ret (results_cell_row rfl _ _ w 49 _ (0,0) _ rfl (zJ _ rfl) underlying49 rfl kr) rfl ?_;exact⟨rfl,gg⟩):p:=h
theorem ZU (n:Int) (w:World):(kB 32 #[n] w (.agg (ZV n 0)):Prop):=by
 go_enter func32,ntmps32
 exact mbh
theorem z3t (h:WK X base bw W R c dv st done late) {a:Nat} (hk:k<st.folders) (ha:foAt R k g a):Calls prog 158 #[pO g a] W λe w'=>
  e= .returned (.int .i64 (fo st k).epochs.length)/\w'=W:=by
 obtain⟨_,_,_,_,_,_,_,_,_,_,_,hF,_⟩:=h.fold (ZT hk) ha;clear h hF ha;go_enter func158,ntmps158
 go_wp2;go_ret;exact⟨rfl,rfl⟩
theorem z9e (h:WK X base bw W R c dv st done late) {q:Nat} (hk:k<st.folders) (ha:foAt R k g q) (s:Nm):Calls prog 143 #[pO g q,s] W λe w'=>
  e= .returned (.int .i64 (iOf (z00 (fo st k) s)))/\bW W w':=by
 obtain⟨_,_,_,_,u,A,_,_,_,_,_,hF,C,D,F,G,r,H,I,P,_⟩:=h.fold (ZT hk) ha;obtain⟨J,_,j,B,a,_⟩:=zP W #[s] 9;obtain⟨_,_,d,_,_,_,_,_,_,_,e,_,_,_,_,_,O,_,_,_,K,L,M,N,t,_⟩:=Z9 hF;simp only[cons.injEq,Value.slice.injEq,and_true,true_and] at e;obtain⟨⟨rfl,rfl⟩,⟨rfl,rfl⟩,⟨rfl,rfl⟩,⟨rfl,rfl⟩,⟨rfl,rfl⟩⟩:=e;have o:Sl 2 YG (λ_=>True) W (.slice u (fo st k).items.length A) (fo st k).items:=⟨_,_,rfl,L,M,N,t⟩;have z:=zh (zNu s W (fo st k).items _ J _ (o.keep z20 dc (zK a)) (j 0 _ rfl));have Q:=zy a r;have v:=zh a;clear h hF ha j B a o t O K C D F G r H I;go_enter func143,ntmps143
 go_wp2_with fail
 refine zcb z λ_ d=>?_;go_wp2;go_ret;exact⟨rfl,zD v d⟩
theorem zBz (x:Item) (hx:0<x.versions.length) (d:List Value) (w:World) (S:Nat->Prop) (h:YG S w d x):Calls prog 136 #[.agg d.toArray] w λe w'=>
  e= .returned (.bool (yX x))/\bW w w':=by
 obtain⟨B,C,rfl,_,_,_,_,q⟩:=z4f h;obtain⟨n,o⟩:∃n,x.versions.length=n+1:=⟨x.versions.length-1,om⟩;obtain⟨_,z,j,v,a,_⟩:=zP w #[x.name,.slice B x.versions C] 78;obtain⟨y,_,_,_,_,r,F,_,rfl,_,_,_,_,_,_,D,G⟩:=z3v q (by omega:n<x.versions) (zK a);have u:=zh (show yX x=!y.gone by
  unfold yX;rw[getLast?_eq_getElem?,o,show n+1-1=n from rfl,r])
 have A:=j 1 _ rfl;rw[o] at A z;have t:=zh a;clear q j v a r F D G h;go_enter func136,ntmps136
 go_wp2;go_ret;exact⟨ZM u.symm,t⟩
end
end
section
open Go.RowKit Go.Deep
section
variable {X:Nat->Prop} {base bw:Nat} {W:World} {R:RM} {c:Call} {dv:Value} {st:State} {done late:Bool}
theorem z6g (h:WK X base bw W R c dv st done late) {j:Nat} (hk:k<st.folders) (ha:foAt R k g j):Calls prog 127 #[pT bw,pO g j] W λe w'=>
  e= .returned (.int .i64 (ZS st k c.user))/\bW W w':=by
 obtain⟨T,af,U,ag,V,ah,Y,ai,Z,aj,_,hF,J,K,L,M,N,O,P,au,_⟩:=h.fold (ZT hk) ha;have aa:=zh hF;have I:=h.cells.1 1 _ rfl;have ae:=zh (show ∀a:World,((bW W a:Prop))->(λa:World=>cL a g j ((fo st k).name)/\cL a g (j+1) (.int .i64 (fo st k).turn)/\cL a g (j+2) (.slice T (fo st k).manifests.length af)/\cL a g (j+3) (.slice U (fo st k).epochs.length ag)/\cL a g (j+4) (.slice V (fo st k).items.length ah)/\cL a g (j+5) (.slice Y (fo st k).wraps.length ai)/\cL a g (j+6) (.slice Z (fo st k).links.length aj)/\cL a bw 1 c.user) a from λa o=>by
  refine⟨zy o J,zy o K,zy o L,zy o M,zy o N,zy o O,zy o P,zy o I⟩)
 have av:=z2d;have ab:=zh (λD (w':World) (t:ZL (λ_=>True) w' D (zL (fo st k)))=>t);clear h hF ha J K L M N O P I;go_enter func127,ntmps127
 go_wp2;have r:=ae.o;refine zE kr r (λd=>?_);refine zi 0 ?_;iterate 3 (refine zt d ?_;simp only[zA])
 refine zo ?_;refine zi 5 ?_;iterate 5 (refine zt d ?_;simp only[zA])
 refine zo ?_;refine zr 3 λu q=>?_
 go_simp;go_at_call 120
 refine zcm (z75 (fo st k) _ _ (λ_=>True) (zV aa (zK zbr.drew))) ?_;rintro _ Q ⟨⟨D,rfl,t⟩,B⟩;have z:=ζ (bW W Q:Prop) (zD zbr.drew B);clear B d;obtain⟨m,v⟩:=Ξ (zL (fo st k));rw[v] at t;have ac:=zh v;clear v ab;obtain⟨ak,al,F,G,rfl,_,_,_,_,_,ap,_,am,an,ao,H,_⟩:=ZO t;have ad:=ζ (Sl 2 zZ (λ_=>True) Q (.slice F m.members G) m.members) ⟨_,_,rfl,am,an,ao,H⟩;have ar:=z2d m.folder m.parent m.who m.seq m.cut m.gone (.slice ak m.prev al) (.slice F m.members G);refine q.out _ _ (r _ z.o) (λd=>?_);clear q u ap H;refine zT 4 d ?_;simp only[zA];refine zr 10 λu q=>?_
 go_simp;go_at_call 157
 refine zcb (Ro.of_any c.user m.members _ _ (λ_=>True) ad) λaq C=>?_;have A:=ζ (bW W aq:Prop) (zD z.o C);clear C d;refine q.out _ _ (r _ A.o) (λd=>?_);clear q u;refine zT 11 d ?_;simp only[zA];refine wpAnyH_done kr ?_ _;clear d r;go_wp2;go_ret;exact⟨Z8 (by unfold ZS;rw[ac.o]),A.o⟩
end
end
def z98 (f:Folder):List (At×At):=(range (f.epochs.length-1)).map λi:Nat=>(⟨f.name,(i:Int)+2⟩,⟨f.name,(i:Int)+1⟩)
def z99 (f:Folder):List (At×At):=f.links.map λx=>(⟨x.to,x.seq⟩,⟨f.name,x.epoch⟩)
def z2l (st:State):List (At×At):=(ZP Folder.name st.folders).flatMap λf=>z98 f++z99 f
def z3f (S:List Nm) (f:Folder) (l:List Wrap):List At:=((ZP Wrap.name l).filter λx=>zF2 S x.name).map λx=>⟨f.name,z3r f.epochs x⟩
def z0p (S:List Nm) (l:List Folder):List At:=(ZP Folder.name l).flatMap λf=>z3f S f f.wraps
def zTi (st:State) (S:List Nm) (x:At):Prop:=ClR (z2l st) (z0p S st.folders) x
theorem z6y {a b:At}:(a,b)∈z98 f↔a.name=f.name/\2<=a.seq/\a.seq<=f.epochs/\b=⟨f.name,a.seq-1⟩:=by
 obtain⟨_,o⟩:=a;unfold z98;rw[mem_map];constructor
 ·rintro⟨_,q,h⟩;rw[mem_range] at q;rw[Prod.mk.injEq,At.mk.injEq] at h;obtain⟨⟨d,j⟩,e⟩:=h;refine⟨d.symm,by dsimp only;omega,by dsimp only;omega,?_⟩;rw[<-e];congr 1;dsimp only;omega
 rintro⟨d,j,e,rfl⟩;dsimp only at d j e⊢;refine⟨(o-2).toNat,by rw[mem_range];omega,?_⟩;rw[Prod.mk.injEq,At.mk.injEq,At.mk.injEq];exact⟨⟨d.symm,om⟩,rfl,om⟩
theorem z6z {a b:At}:(a,b)∈z99 f↔∃x∈f.links,x.to=a.name/\x.seq=a.seq/\b=⟨f.name,x.epoch⟩:=by
 obtain⟨_,_⟩:=a;unfold z99;rw[mem_map];constructor
 ·rintro⟨x,e,d⟩;rw[Prod.mk.injEq,At.mk.injEq] at d;exact⟨x,e,d.1.1,d.1.2,d.2.symm⟩
 rintro⟨x,e,h,j,rfl⟩;exact⟨x,e,by rw[Prod.mk.injEq,At.mk.injEq];exact⟨⟨h,j⟩,rfl⟩⟩
theorem z4r {a b:At}:(a,b)∈z2l st↔∃f∈ZP Folder.name st.folders,(a,b)∈z98 f\/(a,b)∈z99 f:=by
 unfold z2l;rw[mem_flatMap];simp only[mem_append]
theorem zGm {l:List Folder} {x:At}:x∈z0p S l↔∃f∈ZP Folder.name l,∃y∈ZP Wrap.name f.wraps,y.name∈S/\x=⟨f.name,z3r f.epochs y⟩:=by
 unfold z0p z3f;rw[mem_flatMap];refine exists_congr λf=>and_congr_right λ_=>?_
 rw[mem_map];constructor
 ·rintro⟨y,a,rfl⟩;rw[mem_filter,z3x] at a;exact⟨y,a.1,a.2,rfl⟩
 rintro⟨y,a,d,rfl⟩;exact⟨y,by rw[mem_filter,z3x];exact⟨a,d⟩,rfl⟩
theorem zRc {u:Nm} (r:∀x,x∈S↔ClR (z96 st.deposits) [u] x) (s:Nm) (n:Int):zTi st S ⟨s,n⟩↔z8v st u s n:=by
 have G:∀x,ClR (z96 st.deposits) [u] x->Reach (z5k st) (uN u) (uN x):=λx z=>z.closed (λx=>Reach (z5k st) (uN u) (uN x)) (λx h=>by rw[zml h];exact .refl) λe q a=> .step a (by
  obtain⟨p,t,C,D⟩:=zBa.1 (show(e.1,e.2)∈_ from q);exact z7s.2 (.inl ⟨p,t,by rw[C],by rw[D]⟩))
 constructor
 ·intro a;refine a.closed (λx=>z8v st u x.name x.seq) (λx h=>?_) λe q k=>?_
  ·obtain⟨f,d,y,v,H,rfl⟩:=zGm.1 h;exact .step (G _ ((r _).1 H)) (z7s.2 (.inr ⟨f,d,.inr (.inl ⟨y,v,rfl,rfl⟩)⟩))
  obtain⟨A,b⟩:=e;obtain⟨f,d,a|a⟩:=z4r.1 q
  ·obtain⟨j,o,F,rfl⟩:=z6y.1 a;exact .step k (z7s.2 (.inr ⟨f,d,.inl ⟨A.seq,o,F,by dsimp only;rw[j],rfl⟩⟩))
  obtain⟨x,h,j,o,rfl⟩:=z6z.1 a;exact .step k (z7s.2 (.inr ⟨f,d,.inr (.inr ⟨x,h,by dsimp only;rw[j,o],rfl⟩)⟩))
 intro a;have B:∀g:GN,Reach (z5k st) (uN u) g->(g.1=false->g.2.2=0/\g.2.1∈S)/\(g.1=true->zTi st S ⟨g.2.1,g.2.2⟩):=λg z=>by
  refine z.closed (λg=>(g.1=false->g.2.2=0/\g.2.1∈S)/\(g.1=true->zTi st S ⟨g.2.1,g.2.2⟩)) ⟨λ_=>⟨rfl,(r _).2 (.seed (by simp[uN]))⟩,λa=>by simp[uN] at a⟩ λe q k=>?_
  obtain⟨A,b⟩:=e;dsimp only at k⊢;rcases z7s.1 q with ⟨p,t,rfl,rfl⟩|⟨f,d,⟨e,j,o,rfl,rfl⟩|⟨y,v,rfl,rfl⟩|⟨x,h,rfl,rfl⟩⟩
  ·refine⟨λ_=>⟨rfl,(r _).2 ?_⟩,λa=>by simp[uN] at a⟩;exact .step ((r _).1 (k.1 rfl).2) (zBa.2 ⟨p,t,rfl,rfl⟩)
  ·refine⟨λa=>by simp[eN] at a,λ_=>?_⟩;exact .step (k.2 rfl) (z4r.2 ⟨f,d,.inl (z6y.2 ⟨rfl,j,o,rfl⟩)⟩)
  ·refine⟨λa=>by simp[eN] at a,λ_=>?_⟩;exact .seed (zGm.2 ⟨f,d,y,v,(k.1 rfl).2,rfl⟩)
  ·refine⟨λa=>by simp[eN] at a,λ_=>?_⟩;exact .step (k.2 rfl) (z4r.2 ⟨f,d,.inr (z6z.2 ⟨x,h,rfl,rfl,rfl⟩)⟩)
 exact(B _ a).2 rfl
theorem zGn (S:List Nm) (f:Folder) (l:List Wrap):(z3f S f l).length<=l.length:=by
 unfold z3f;rw[qLmx];exact qNtx (length_filter_le _ _) (z6p _ _)
theorem z5x {st:State} (hs:Small st) (d:f∈st.folders):f.wraps.length<=1000/\f.epochs.length<=1000/\f.links.length<=1000:=by
 have a:=zF1 _ _ d;have e:=hs.all;unfold z88 at a;omega
theorem zTj {l r:List Folder} (h:l.Sublist r):z5e l<=z5e r:=by
 induction h with
 | slnil=>exact znl _
 | cons a _ ih=>rw[z5e];omega
 | cons_cons a _ ih=>rw[z5e,z5e];omega
theorem zIk {β:Type} (g:Folder->List β) (hg:∀f,(g f).length<=z88 f) (l:List Folder):((ZP Folder.name l).flatMap g).length<=z5e l:=by
 refine qNtx (zE8 g l) ?_
 induction l with
 | nil=>simp
 | cons f l ih=>rw[flatMap_cons,qLax,z5e];have:=hg f;omega
theorem zGo {st:State} (hs:Small st) (S:List Nm) (l:List Folder) (hl:l.Sublist st.folders):(z0p S l).length<=1000:=by
 have a:=zIk (λf=>z3f S f f.wraps) (λf=>by have:=zGn S f f.wraps;unfold z88;omega) l;have d:=zTj hl;have e:=hs.all;unfold z0p;omega
theorem zOw (hs:Small st):(z2l st).length<=1000:=by
 have a:=zIk (λf=>z98 f++z99 f) (λf=>by rw[qLax,z98,z99,qLmx,qLmx,length_range];unfold z88;omega) st.folders;have d:=hs.all;unfold z2l;omega
theorem zLe (B:st.folders[k]? =some f):(z0s st f.name=k↔f.name∉(st.folders.take k).map Folder.name):=by
 constructor
 ·intro o F;obtain⟨g,q,u⟩:=mem_map.1 F;obtain⟨d,e⟩:=getElem?_of_mem q;have D:d<k:=by
   have:=(zge e).1;rw[length_take] at this;omega
  have A:∃i,i<=d/\z0s st f.name=(i:Nat):=by
   cases hF:Z4 st f.name with
   | none=>
    have:=find?_eq_none.1 hF g (mem_of_mem_take q)
    simp[u] at this
   | some x=>
    obtain⟨i,t,_⟩:=z2w hF;refine⟨i,?_,t⟩;rcases Nat.lt_or_ge d i with J|C
    ·obtain⟨G,j,_,h,v⟩:=find?_eq_some_iff_append.1 hF;have H:z0s st f.name=(j.length:Nat):=z8a (x:=x) (λy a=>by
      rw[h,take_left] at a;simpa[isF] using v y a) (by rw[h,qLrx (znl _),Nat.sub_self];rfl) (by simpa[isF] using G)
     have I:i=j:=om
     have r:st.folders[d]? =some g:=by rw[getElem?_take,if_pos D] at e;exact e
     rw[h,qLlx om] at r;have:=v g (zmg r);simp[u] at this
    ·exact C
  obtain⟨i,t,_⟩:=A;omega
 intro o;refine z8a (λy a=>?_) B (by simp[isF]);simp only[isF,decide_eq_false_iff_not];exact λz=>o (mem_map.2 ⟨y,a,z⟩)
theorem zMg (a:st.folders[k]? =some f) (h:z0s st f.name=k):z0p S (st.folders.take (k+1))=z0p S (st.folders.take k)++z3f S f f.wraps:=by
 unfold z0p;rw[qLtx,a];show(ZP Folder.name (_++[f])).flatMap _=_
 rw[z1m,if_neg ((zLe a).1 h),flatMap_append];simp
theorem zMh {f:Folder} (a:st.folders[k]? =some f) (h:z0s st f.name≠k):z0p S (st.folders.take (k+1))=z0p S (st.folders.take k):=by
 unfold z0p;rw[qLtx,a];show(ZP Folder.name (_++[f])).flatMap _=_
 rw[z1m,if_pos (Decidable.not_not.1 λd=>h ((zLe a).2 d))]
theorem zMi {l:List Wrap} {j:Nat} (hx:l[j]? =some x) (h1:x.name∉(l.take j).map Wrap.name) (h2:x.name∈S):z3f S f (l.take (j+1))=z3f S f (l.take j)++[⟨f.name,z3r f.epochs x⟩]:=by
 unfold z3f;rw[qLtx,hx];show((ZP Wrap.name (_++[x])).filter _).map _=_
 rw[z1m,if_neg h1,filter_append,map_append];congr 1;rw[filter_cons,if_pos (by rw[z3x];exact h2)];rfl
theorem zEq {l:List Wrap} {j:Nat} {x:Wrap} (hx:l[j]? =some x) (h:x.name∈(l.take j).map Wrap.name\/x.name∉S):z3f S f (l.take (j+1))=z3f S f (l.take j):=by
 unfold z3f;rw[qLtx,hx];show((ZP Wrap.name (_++[x])).filter _).map _=_
 rw[z1m];split
 ·rfl
 rename_i a;have d:=h.resolve_left a;rw[filter_append,filter_cons,if_neg (by rw[z3x];exact d)];simp
theorem z9a:f∈ZP Folder.name st.folders↔∃k:Nat,st.folders[k]? =some f/\z0s st f.name=k:=by
 constructor
 ·intro e;obtain⟨k,a,d⟩:=z2w ((z7i Folder.name st.folders f.name f).2 ⟨e,rfl⟩);exact⟨k,d,a⟩
 rintro⟨k,a,d⟩
 cases hF:Z4 st f.name with
 | none=>rw[z6r hF] at d;omega
 | some g=>
  obtain⟨j,_,h⟩:=z2w hF;obtain rfl:k=j:=om
  obtain rfl:=zsi (a.symm.trans h);exact((z7i Folder.name st.folders f.name f).1 hF).1
section
open Go.RowKit Go.Deep
theorem zG6 (x:Wrap) (name:Nm) (a:List Value) (w:World) (S:Nat->Prop) (h:yL S w a x):(kB 160 #[.agg a.toArray,name] w (Ro.cmpOf x.name name):Prop):=by
 obtain⟨rfl,_⟩:=z4g h;have d:=zh λw=>Ro.cmp_any x.name name w
 go_enter func160,ntmps160
 go_wp2_with fail
 refine zcm (d.o _) ?_;rintro e _ ⟨rfl,rfl⟩;go_wp2;go_ret;exact⟨rfl,gg⟩
theorem zMw {a b:Nm}:(Ro.cmpOf a b<0)↔ltS a b=true:=by
 unfold Ro.cmpOf;rw[show Ro.ltS a b=ltS a b from rfl,show Ro.ltS b a=ltS b a from rfl];cases ltS a b
 ·cases ltS b a<;>simp
 simp
theorem zSw {a b:Nm}:(Ro.cmpOf a b=0)↔a=b:=by
 unfold Ro.cmpOf;rw[show Ro.ltS a b=ltS a b from rfl,show Ro.ltS b a=ltS b a from rfl];constructor
 ·intro e;rcases z1e a b with d|d|d
  ·rw[if_pos d] at e;cases e
  ·exact d
  rw[if_neg (by rw[z2y d];decide),if_pos d] at e;cases e
 rintro rfl;rw[z07];rfl
theorem zEi {α:Type} {p:α->Bool}:∀{l:List α} {i:Nat},i<=l->(∀y∈l.take i,p y=true)->(∀y∈l.drop i,p y=false)->(l.takeWhile p).length=i
 | [],i,h,_,_=>by simp at h;simp[h]
 | x::r,0,_,_,h2=>by
  rw[takeWhile_cons,h2 x sm]
  rfl
 | x::r,i+1,h,h1,h2=>by
  rw[takeWhile_cons,h1 x sm,if_pos rfl,length_cons,zEi (by simpa using h) (λy a=>h1 y (by simp[a])) (λy a=>h2 y (by simpa using a))]
theorem zUw {l:List Wrap} (h:z0v l) (hx:l[k]? =some x) (hl:ltS x.name name=true):∀y∈l.take (k+1),ltS y.name name=true:=λy hy=>by
 obtain⟨j,_,rfl⟩:=mem_take_iff_getElem.1 hy;obtain⟨hk,rfl⟩:=zge hx;rcases Nat.lt_or_eq_of_le (by omega:j<=k) with e|e
 ·exact z0e (pairwise_iff_getElem.1 h j k om hk e) hl
 ·subst e;exact hl
theorem zUx {l:List Wrap} (h:z0v l) (hx:l[k]? =some x) (hl:ltS x.name name=false):∀y∈l.drop k,ltS y.name name=false:=λy hy=>by
 obtain⟨j,hj,e⟩:=mem_iff_getElem.1 hy;rw[getElem_drop] at e;obtain⟨hk,rfl⟩:=zge hx;cases a:ltS y.name name
 ·rfl
 ·subst e;rcases Nat.eq_zero_or_pos j with e|e
  ·subst e;simp only[Nat.add_zero] at a;rw[a] at hl;cases hl
  ·have:=z0e (pairwise_iff_getElem.1 h k (k+j) hk (by simp at hj;omega) om) a;rw[this] at hl;cases hl
def z9w (name:Nm) (l:List Wrap):Bool:=match l[z0f name l]? with
 | some w=>decide (w.name=name)
 | none=>false
theorem zUy (l:List Wrap) (hr:z0v l) (ah:l.length<=1000000) (name:Nm) (v:Value) (w:World) (S:Nat->Prop) (h:Sl 3 yL S w v l):
  (kB 159 #[v,.string name,.func (.func 160) #[] #[]] w (.tuple #[.int .i64 (z0f name l),(z9w name l)]):Prop):=by
 obtain⟨_,_,rfl,_,O,_,K⟩:=h;unfold maxLen at O;have H:=zh hr;clear hr;go_enter func159,ntmps159
 go_wp2;go_loopw [9,10] (λi F wr=>∃a b:Nat,a<=b/\b<=l/\i= .int .i64 a/\F= .int .i64 b/\Hid ((∀y∈l.take a,ltS y.name name=true)/\∀y∈l.drop b,ltS y.name name=false)/\bW w wr) (λi F _=>(intOf F).toNat-(intOf i).toNat)
 case atStart=>exact⟨0,l,om,om,gn,gn,⟨λy D=>by simp at D,λy D=>by simp at D⟩,gg⟩
 obtain⟨a,b,_,N,rfl,rfl,u,j⟩:=hrel;have aj:=j.size;by_cases ai:a<b
 rotate_left
 ·obtain rfl:a=b:=om
  have t:=ζ (z0f name l=a) (zEi N u.1 u.2);by_cases L:a<l
  rotate_left
  ·have C:=zh (by unfold z9w;rw[t.o,getElem?_eq_none om]:z9w name l=false);have M:¬((a:Int)<(l:Int)):=om
   go_wp2;go_ret2
   exact⟨by rw[t.o,C.o];rfl,j⟩
  have M:(a:Int)<(l:Int):=om
  obtain⟨x,aa,af,q,G,ad,rfl,ac,Z,U,V,Y,o,ae,ab⟩:=z8u K L (zK j);have C:=zh (by unfold z9w;rw[t.o,q]:z9w name l=decide (x.name=name));clear q G;go_wp2_with fail
  refine zcb (zG6 x name _ wr S o) λT A=>?_;have r:=zh (zD j A);obtain⟨e,d⟩:=Ξ (Ro.cmpOf x.name name);have z:=zh (show decide (x.name=name)=(e==0) by
   rw[<-d,Bool.eq_iff_iff,decide_eq_true_eq,beq_iff_eq,zSw])
  rw[d];clear d o;go_wp2;go_ret2
  exact⟨by rw[t.o,C.o,z.o];rfl,r⟩
 have ag:(a:Int)<(b:Int):=om
 have Q:(a+b) / 2<l.length:=om
 obtain⟨x,aa,af,q,G,ad,rfl,ac,Z,U,V,Y,o,ae,ab⟩:=z8u K Q (zK j);have I:=zh q;clear q G;go_wp2_with fail
 refine zcb (zG6 x name _ wr S o) λT A=>?_;have r:=zh (zD j A);obtain⟨e,d⟩:=Ξ (Ro.cmpOf x.name name);have z:=zh d;rw[d];clear d o;by_cases J:e<0
 ·have B:=ζ ((∀y∈l.take ((a+b) / 2+1),ltS y.name name=true)/\∀y∈l.drop b,ltS y.name name=false) ⟨zUw H I (zMw.1 (by rw[z.o];exact J)),u.2⟩;go_wp2;go_roundw
  case rel=>exact⟨(a+b) / 2+1,b,om,om,gn,gn,B,r⟩
  case measure=>simp[intOf];omega
 have B:=zh (show(∀y∈l.take a,ltS y.name name=true)/\∀y∈l.drop ((a+b) / 2),ltS y.name name=false from⟨u.1,zUx H I (by
  cases P:ltS x.name name
  ·rfl
  ·exact absurd (by rw[<-z.o];exact zMw.2 P) J)⟩)
 go_wp2;go_roundw
 case rel=>exact⟨a,(a+b) / 2,om,om,gn,gn,B,r⟩
 case measure=>simp[intOf];omega
end
def Y3 (st:State):Fs:=λs=>(Z4 st s).map λf=>((zL f).parent,(zL f).gone)
def z5a (st:State):Prop:=(st.folders.map Folder.name).Nodup
theorem z7d (h:z5a st) (e:f∈st.folders):Z4 st f.name=some f:=by
 unfold Z4 z5a at*;generalize st.folders=l at*
 induction l with
 | nil=>simp at e
 | cons x r ih=>
  rw[map_cons,nodup_cons] at h;rw[find?_cons];by_cases d:x.name=f.name
  ·have j:f=x:=by
    rcases mem_cons.1 e with a|a
    ·exact a
    ·exact absurd (by rw[d];exact mem_map.2 ⟨f,a,rfl⟩:x.name∈r.map Folder.name) h.1
   rw[<-j];simp
  rw[Γ d];refine ih h.2 ?_;rcases mem_cons.1 e with a|a
  ·exact absurd (by rw[a]) d
  exact a
theorem zQh (h:z5a st) (a:f∈st.folders):Y3 st f.name=some ((zL f).parent,(zL f).gone):=by unfold Y3;rw[z7d h a];rfl
theorem zMz:ZX (Y3 st) s=true↔∃f,Z4 st s=some f/\(zL f).gone=false:=by
 unfold ZX Y3
 cases a:Z4 st s with
 | none=>simp
 | some f=>simp
theorem zQi (h:Z4 st s=some f):z1k (Y3 st) s=(zL f).parent:=by unfold z1k Y3;rw[h];rfl
theorem zOd:(ZB st s).isSome=ZX (Y3 st) s:=by
 unfold ZB
 cases a:foI st s with
 | none=>
  have:=zAv.1 a;unfold ZX Y3;rw[this]
  rfl
 | some k=>
  have:=z41 a;unfold ZX Y3;rw[this];dsimp only[Option.map_some];cases (zL (fo st k)).gone<;>rfl
theorem z92 (h:ZB st s=some k):foI st s=some k/\(zL (fo st k)).gone=false:=by
 unfold ZB at h
 cases d:foI st s with
 | none=>rw[d] at h;cases h
 | some j=>
  rw[d] at h;dsimp only at h;cases a:(zL (fo st j)).gone
  ·rw[a] at h;simp only[Bool.false_eq_true,if_false,Option.some.injEq] at h;subst h;exact⟨rfl,a⟩
  rw[a] at h;simp at h
theorem z2u (h:k<st.folders):fo st k∈st.folders:=by
 unfold fo;rw[qLgx h];exact getElem_mem h
theorem zT0 (h:foI st s=some k):(fo st k).name=s:=z2v (z41 h)
theorem zV7 (h:foI st s=some k):k<st.folders:=(findIdx?_eq_some_iff_getElem.1 h).1
theorem zDq (h:z5a st) (a:f∈st.folders) (s:Nm):inB s f=true↔ZX (Y3 st) f.name=true/\z1k (Y3 st) f.name=s:=by
 have d:=z7d h a;rw[zQi d];unfold inB ZX;rw[zQh h a];simp
def z6v (st:State):Nat->Nm->Prop
 | 0,s=>∀f∈st.folders,inB s f=false
 | n+1,s=>∀f∈st.folders,inB s f=true->z6v st n f.name
theorem z8t {st:State} (o:z5a st) (a:Inv (Y3 st)):∀(n:Nat) (s:Nm),4<=(ch (Y3 st) s).length+n->z6v st n s
 | 0,s,h=>λf r=>by
  cases q:inB s f
  ·rfl
  ·obtain⟨d,e⟩:=(zDq o r s).1 q;have j:=z4t a d;rw[e] at j;have:=a.deep f.name
   omega
 | n+1,s,h=>λf r q=>by
  obtain⟨d,e⟩:=(zDq o r s).1 q;have j:=z4t a d;rw[e] at j;exact z8t o a n f.name om
theorem zH7 {α:Type} (p:α->Bool) (g:α->Nat):∀(l:List α) (m:Nat),m<=l.foldl (λm f=>if p f then max m (g f) else m) m/\(∀f∈l,p f=true->g f<=l.foldl (λm f=>if p f then max m (g f) else m) m)/\
  (l.foldl (λm f=>if p f then max m (g f) else m) m=m\/∃f∈l,p f=true/\l.foldl (λm f=>if p f then max m (g f) else m) m=g f)
 | [],m=>⟨znl _,λf e=>by simp at e,.inl rfl⟩
 | x::l,m=>by
  rw[foldl_cons];cases r:p x
  ·simp only[Bool.false_eq_true,if_false];obtain⟨j,q,d⟩:=zH7 p g l m;refine⟨j,λf e h=>?_,d.imp id λ⟨f,o,b⟩=>⟨f,zmc _ o,b⟩⟩;rcases mem_cons.1 e with a|a
   ·rw[a,r] at h;cases h
   ·exact q f a h
  ·simp only[if_true];obtain⟨j,q,d⟩:=zH7 p g l (max m (g x));have u:m<=max m (g x):=Nat.le_max_left ..;have t:g x<=max m (g x):=Nat.le_max_right ..;refine⟨qNtx u j,λf e h=>?_,?_⟩
   ·rcases mem_cons.1 e with a|a
    ·rw[a];exact qNtx t j
    ·exact q f a h
   ·rcases d with d|⟨f,o,b,c⟩
    ·rcases Nat.le_total (g x) m with a|a
     ·exact .inl (d.trans (Nat.max_eq_left a))
     ·exact .inr ⟨x,mem_cons_self ..,r,d.trans (Nat.max_eq_right a)⟩
    ·exact .inr ⟨f,zmc _ o,b,c⟩
theorem zDr {st:State} (o:z5a st) (d:Inv (Y3 st)):∀(n:Nat) (s:Nm),ZX (Y3 st) s=true->4<=(ch (Y3 st) s).length+n->IsHigh (Y3 st) s (yV st n s)
 | 0,s,hs,h=>by
  refine IsHigh.up (m:=0) d hs (λc a e=>?_) (.inl rfl);have j:=z4t d a;rw[e] at j;have:=d.deep c
  omega
 | n+1,s,hs,h=>by
  obtain⟨_,z,A⟩:=zH7 (inB s) (λf=>yV st n f.name) st.folders 0;refine IsHigh.up d hs (λc a e=>?_) ?_
  ·obtain⟨f,r,_⟩:=zMz.1 a;have t:=z30 r;have u:=z2v r;have j:=z4t d a;rw[e] at j;refine⟨_,zDr o d n c a om,?_⟩;have:=z f t ((zDq o t s).2 (by rw[u];exact⟨a,e⟩));rw[u] at this;exact this
  ·rcases A with q|⟨f,v,b,q⟩
   ·exact .inl q
   ·obtain⟨a,e⟩:=(zDq o v s).1 b;have j:=z4t d a;rw[e] at j;refine .inr ⟨f.name,a,e,?_⟩;rw[q];exact zDr o d n f.name a om
theorem zF9 {st:State} (a:Inv (Y3 st)) (h:Z4 st Top=none):∀(n:Nat) (s:Nm),s=Top\/ZX (Y3 st) s=true->(ch (Y3 st) s).length<=n->(zY st n s).map At.name=ch (Y3 st) s
 | n,s,e,hn=>by
  by_cases d:ZX (Y3 st) s=true
  ·obtain⟨f,j,_⟩:=zMz.1 d;have q:=z4t a d
   cases n with
   | zero=>omega
   | succ n=>
    rw[z1u j,z6j a d,map_cons];have r:=zQi j;have o:=a.up s d;rw[r] at q o⊢;rw[zF9 a h n (zL f).parent o om]
  ·rcases e with rfl|e
   ·rw[zP8 a a.no,z38 h];rfl
   ·exact absurd e d
theorem zI5 (a:Inv (Y3 st)) (d:Z4 st Top=none) (hs:s=Top\/ZX (Y3 st) s=true):(zY st 4 s).length=(ch (Y3 st) s).length:=by
 rw[<-zF9 a d 4 s hs (a.deep s),qLmx]
theorem zQj (d:Inv (Y3 st)) (e:Z4 st Top=none) (hs:s=Top\/ZX (Y3 st) s=true) (x:Nm):(zY st 4 s).any (λa=>decide (a.name=x))=true↔x∈ch (Y3 st) s:=by
 rw[<-zF9 d e 4 s hs (d.deep s),any_eq_true];simp
section
open Go.RowKit Go.Deep
theorem zQ7 (st:State) (s:Nm):z0s st s=iOf (foI st s):=by
 unfold z0s foI iOf;cases st.folders.findIdx? (isF s)<;>rfl
theorem ZZ (n:Int) (w:World):(kB 38 #[n] w (.agg (ZV n 0)):Prop):=by
 go_enter func38,ntmps38
 exact mbh
theorem mbo (h:p:=by
 have hse:(x.name.toList==s.toList)=false:=E.o.trans hpx;have EH:=zh (z0i HN HX hpx);go_wp2;go_round
 case rel=>exact⟨k+1,om,gn,EH⟩
 case measure=>exact qMx):p:=h
theorem mbx (h:p:=by
 have hse:(x.name.toList==s.toList)=true:=E.o.trans hpx;have EH:=zh (z5g (z4l HN HX hpx));go_wp2;go_ret;exact⟨Z8 EH.o.symm,HB0⟩):p:=h
theorem z5v (st:State) (s:Nm) (e:List Value) (w:World) (S:Nat->Prop) (h:Z5 S w e st):(kB 103 #[.agg e.toArray,s] w (iOf (yU st s)):Prop):=by
 obtain⟨v,B,z,C,A,D,rfl,_,_,_,_,H,_,_,_,F,_,_,_,G⟩:=ZF h;obtain⟨_,t,j,q,d,_⟩:=zP w (aS st v B z C A D) 34;have HB0:=zh d;have J:=j 1 _ rfl;clear j q d G F;go_enter func103,ntmps103
 go_wp2;clear t;go_loop [5] (λi=>∃k:Nat,k<=st.users/\i= .int .i64 k/\Hid (∀y∈st.users.take k,isU s y=false)) (λi=>st.users.length-(intOf i).toNat)
 case atStart=>exact⟨0,om,gn,λy u=>by simp at u⟩
 obtain⟨k,_,rfl,HN⟩:=hrel;by_cases r:k<st.users
 rotate_left
 ·obtain rfl:k=st.users:=om
  have EH:=zh (z5h (z6s (p:=isU s) (l:=st.users) (by have:=HN.o;rwa [qLnx] at this)));go_wp2;go_ret;exact⟨Z8 EH.o.symm,HB0⟩
 obtain⟨x,_,_,o,I,_,rfl,_⟩:=z71 H r (zK HB0);have HX:=zh o;have E:=zh (Y9 (a:=x.name) (b:=s));clear o I;cases hpx:isU s x
 ·exact mbo
 exact mbx
theorem zEf (f:Folder) (s:Nm) (e:List Value) (w:World) (S:Nat->Prop) (h:Z6 S w e f):(kB 22 #[.agg e.toArray,s] w (iOf (z00 f s)):Prop):=by
 obtain⟨q,z,r,A,t,B,u,C,v,D,rfl,_,_,_,_,_,I,_,_,_,F,_,_,_,G,_,_,_,J,_,_,_,H⟩:=Z9 h;obtain⟨_,M,j,K,d,_⟩:=zP w (aF f q z r A t B u C v D) 74;have HB0:=zh d;have Q:=j 4 _ rfl;clear j K d I F J H;go_enter func22,ntmps22
 go_wp2;clear M;go_loop [5] (λi=>∃k:Nat,k<=f.items/\i= .int .i64 k/\Hid (∀y∈f.items.take k,isI s y=false)) (λi=>f.items.length-(intOf i).toNat)
 case atStart=>exact⟨0,om,gn,λy N=>by simp at N⟩
 obtain⟨k,_,rfl,HN⟩:=hrel;by_cases L:k<f.items
 rotate_left
 ·obtain rfl:k=f.items:=om
  have EH:=zh (z5h (z6s (p:=isI s) (l:=f.items) (by have:=HN.o;rwa [qLnx] at this)));go_wp2;go_ret;exact⟨Z8 EH.o.symm,HB0⟩
 obtain⟨x,_,_,_,_,o,O,_,rfl,_,_,_,_,_,_,_,_,_,P⟩:=z0w G L (zK HB0);have HX:=zh o;have E:=zh (Y9 (a:=x.name) (b:=s));clear o O P;cases hpx:isI s x
 ·exact mbo
 exact mbx
theorem z9t (x:Item) (hx:0<x.versions.length) (d:List Value) (w:World) (S:Nat->Prop) (h:YG S w d x):Calls prog 110 #[.agg d.toArray] w λe w'=>
  e= .returned (.bool (yX x))/\bW w w':=by
 obtain⟨B,C,rfl,_,_,_,_,q⟩:=z4f h;obtain⟨n,o⟩:∃n,x.versions.length=n+1:=⟨x.versions.length-1,om⟩;obtain⟨_,z,j,v,a,_⟩:=zP w #[x.name,.slice B x.versions C] 78;obtain⟨y,_,_,_,_,r,F,_,rfl,_,_,_,_,_,_,D,_,_,_,_,_,G⟩:=z3v q (by omega:n<x.versions) (zK a);have u:=zh (show yX x=!y.gone by
  unfold yX;rw[getLast?_eq_getElem?,o,show n+1-1=n from rfl,r])
 have A:=j 1 _ rfl;rw[o] at A z;have t:=zh a;clear q j v a r F D G;go_enter func110,ntmps110
 go_wp2;go_ret;exact⟨ZM u.symm,t⟩
theorem z17 (st:State) (s:Nm) (v:List Value) (w:World) (S:Nat->Prop) (h:Z5 S w v st):(kB 104 #[.agg v.toArray,s] w (iOf (ZB st s)):Prop):=by
 have I:=zh h;obtain⟨O,T,P,U,Q,V,rfl,_,_,_,_,aa,_,_,_,Y,_,_,_,Z⟩:=ZF h;obtain⟨ab,_,j,N,t,an⟩:=zP w (aS st O T P U Q V) 34;have u:=zh t;have F:=zh j;obtain⟨J,K,L,M⟩:=TC4 j;clear j N t aa Y;go_enter func104,ntmps104
 go_wp2_with fail
 refine zcb (z18 st s _ ab S (zM I (zK u))) λac e=>?_;rw[zQ7];have aj:=zy e (F.o 3 _ rfl);have d:=zh (zD u e)
 cases o:foI st s with
 | none=>
  have a:=zh (zEd o);unfold iOf;go_wp2;go_ret
  exact⟨Z8 (by rw[a.o];rfl),d⟩
 | some k=>
  have B:=z0l o;have al:(k:Int)<(st.folders:Int):=om
  have G:=zh (ZT B);obtain⟨x,_,_,_,_,_,_,_,_,_,_,_,_,D,ad,_,rfl,_,_,_,_,_,_,_,_,_,C,_,_,_,_,_,ah,_,_,_,ae,_,_,_,af,_,_,_,ai,_,_,_,ag⟩:=yP Z B (zK d);have z:fo st k=x:=zsi (G.symm.trans D);have a:=zh (by rw[zBy o,z]:ZB st s=if (zL x).gone then none else some k);have H:=zh (YW x _ ac S C);have am:=zEe;clear e J K L M D ad C z ah ae af ai ag;unfold iOf;go_wp2_with fail
  refine zcm H ?_;rintro ak _ ⟨⟨_,rfl,q⟩,r⟩;obtain⟨_,_,_,_,rfl,q⟩:=ZO q;clear q;cases A:(zL x).gone
  ·go_wp2;go_ret;exact⟨Z8 (by rw[a.o,A];rfl),zD d r⟩
  go_wp2;go_ret;exact⟨Z8 (by rw[a.o,A];rfl),zD d r⟩
theorem z5w (st:State) (k:Nat) (hk:k<st.folders) (s:Nm) (o:List Value) (w:World) (S:Nat->Prop) (h:Z5 S w o st):(kB 105 #[.agg o.toArray,k,s] w (ZS st k s):Prop):=by
 obtain⟨O,T,P,U,Q,V,rfl,_,_,_,_,aa,_,_,_,Y,_,_,_,Z⟩:=ZF h;obtain⟨ab,_,q,H,a,_⟩:=zP w (aS st O T P U Q V) 34;have B:=zh a;have ai:=q 3 _ rfl;have ak:(k:Int)<(st.folders:Int):=om
 have D:=zh (ZT hk);obtain⟨x,_,_,_,_,_,_,_,_,_,_,_,_,A,ac,_,rfl,_,_,_,_,_,_,_,_,_,z,_,_,_,_,_,ag,_,_,_,ad,_,_,_,ae,_,_,_,ah,_,_,_,af⟩:=yP Z hk (zK a);have r:fo st k=x:=zsi (D.symm.trans A);have j:=zh (by unfold ZS;rw[r]:ZS st k s=Ro.ofOf (zL x).members s);have G:=zh (YW x _ ab S z);have al:=z2d;clear q H a aa Y A ac z r ag ad ae ah af;go_enter func105,ntmps105
 go_wp2_with fail
 refine zcm G ?_;rintro aj v ⟨⟨_,rfl,t⟩,e⟩;have C:=zh (zD B e);clear e;obtain⟨m,d⟩:=Ξ (zL x);rw[d] at t;rw[d] at j;clear d;obtain⟨_,_,I,J,rfl,_,_,_,_,_,N,_,K,L,M,u,_⟩:=ZO t;have F:=zh (Ro.refof_any s m.members _ v S (show Sl 2 zZ S v (.slice I m.members J) m.members from⟨_,_,rfl,K,L,M,u⟩));clear N u;go_wp2_with fail
 refine zcm F ?_;rintro _ _ ⟨rfl,rfl⟩;go_wp2;go_ret;exact⟨Z8 j.o.symm,C⟩
end
section
open Go.RowKit Go.Deep
section
variable {X:Nat->Prop} {base bw:Nat} {W:World} {R:RM} {c:Call} {dv:Value} {st:State} {done late:Bool}
def zH2 (X:Nat->Prop) (a b:Nat):Nat->Prop:=λx=>(X x\/x=a)\/x=b
def zAr (m:Manifest) (n:Int) (d a:Value) (s:Nm):Array Value:=#[m.folder,n,d,m.parent,a,m.cut,m.gone,s]
theorem ZC {pb:Nat} {T:TypeId} {G u t r q j d:Value} (h:w.heap[pb]? =some (.cells #[G,u,t,r,q,j,d] T (0,0))) (a0 a1 a2 a3 a e o:Value):
  (((((((w.setCell (aD pb 0) a0).setCell (aD pb 1) a1).setCell (aD pb 2) a2).setCell (aD pb 3) a3).setCell (aD pb 4) a).setCell (aD pb 5) e).setCell (aD pb 6) o).heap[pb]? =some (.cells #[a0,a1,a2,a3,a,e,o] T (0,0))/\ButB (·=pb) w (((((((w.setCell (aD pb 0) a0).setCell (aD pb 1) a1).setCell (aD pb 2) a2).setCell (aD pb 3) a3).setCell (aD pb 4) a).setCell (aD pb 5) e).setCell (aD pb 6) o):=by
 have v:=zH (i:=0) (cs':=#[a0,u,t,r,q,j,d]) a0 h rfl;have z:=zH (i:=1) (cs':=#[a0,a1,t,r,q,j,d]) a1 v rfl;have A:=zH (i:=2) (cs':=#[a0,a1,a2,r,q,j,d]) a2 z rfl;have B:=zH (i:=3) (cs':=#[a0,a1,a2,a3,q,j,d]) a3 A rfl;have C:=zH (i:=4) (cs':=#[a0,a1,a2,a3,a,j,d]) a B rfl;have D:=zH (i:=5) (cs':=#[a0,a1,a2,a3,a,e,d]) e C rfl;have F:=zH (i:=6) (cs':=#[a0,a1,a2,a3,a,e,o]) o D rfl;exact⟨F,((((((((ButB.refl (·=pb) w).set _ _ rfl).set _ _ rfl).set _ _ rfl).set _ _ rfl).set _ _ rfl).set _ _ rfl).set _ _ rfl)⟩
theorem WK.writ (h:WK X base bw W R c dv st done late) {o:Nat} (hk:k<st.folders) (ha:foAt R k g o) (T:0<=(fo st k).turn/\(fo st k).turn<=1000000) (hl:(fo st k).manifests.length<=9999) {q:World} {a:Option Addr} {e d:Nat} {x:List Value}
  (O:RowC 84 8 q (.slice a e d) ((R (.ma k)).cells++[x])) (N:ButB (λP=>(R (.ma k)).v.ownBlock=some P) W q) (M:(Value.slice a e d).ownBlock=(R (.ma k)).v.ownBlock\/∃k,(Value.slice a e d).ownBlock=some k/\W.heap.size<=k) (hx:ZL (Imm X bw R W) W x m):
  ∃v,WK X base bw ((q.setCell (aD g (o+2)) (.slice a e d)).setCell (aD g (o+1)) ((fo st k).turn+1:Int)) v c dv (setF st k { fo st k with manifests:=(fo st k).manifests++[m],turn:=(fo st k).turn+1 }) done late/\
   Mut bw R W v ((q.setCell (aD g (o+2)) (.slice a e d)).setCell (aD g (o+1)) ((fo st k).turn+1:Int))/\(v .fo).v=(R .fo).v:=by
 have t:=ZT hk;have Q:(R (.ma k)).cells.length=(fo st k).manifests.length:=(h.is.fo k _ t).2.man.1;obtain⟨L,I,C,_⟩:=h.put (W':=q) (.ma k) ⟨.slice a e d,(R (.ma k)).cells++[x]⟩ N O (by simp;omega) (λb B=>M.imp (λr=>by rw[<-r];exact B) λ⟨U,r,H⟩=>by
  rw[show(Value.slice a e d).ownBlock=some b from B] at r;obtain rfl:=zsi r;exact H)
 obtain⟨F,J⟩:=h.sub t ha (k:= .ma k) (j:=2) (u:= .slice a e d) (f':={ fo st k with manifests:=(fo st k).manifests++[m] }) ⟨sm,sm,sm⟩ om L I C rfl λz=>h.is.maRow t z (((h.is.fo k _ t).2.keep z).man.snoc (yF hx z))
 have A:((zO (zO R (.ma k) ⟨.slice a e d,(R (.ma k)).cells++[x]⟩) .fo (yI R k ((hdr R k (fo st k)).set 2 (.slice a e d)))) .fo).v=(R .fo).v:=by rw[YQ];rfl
 obtain⟨G,K⟩:=F.fturn (i:=k) (f:={ fo st k with manifests:=(fo st k).manifests++[m] }) (n:=(fo st k).turn+1) (by dsimp only;rw[getElem?_set_self hk]) (ha.keep A) (by unfold I64;omega);refine⟨_,?_,J.trans K,?_⟩
 ·have D:({ { st with folders:=st.folders.set k { fo st k with manifests:=(fo st k).manifests++[m] } } with folders:=(st.folders.set k { fo st k with manifests:=(fo st k).manifests++[m] }).set k { { fo st k with manifests:=(fo st k).manifests++[m] } with turn:=(fo st k).turn+1 } }:State)=setF st k { fo st k with manifests:=(fo st k).manifests++[m],turn:=(fo st k).turn+1 }:=by
   unfold setF;simp
  rw[<-D];exact G
 rw[YQ];exact A
theorem zAs (h:WK X base bw W R c dv st done late) {k g o:Nat} (hk:k<st.folders.length) (ha:foAt R k g o) {m m':Manifest} (hm:zL (fo st k)=m) (hpv:m.prev=[]/\m'.prev=[]/\m'.folder=m.folder) (hml:m.members.length<=10000)
  (hn:0<=m.seq/\m.seq<=1000000) (ht:0<=(fo st k).turn/\(fo st k).turn<=1000000) (hl:(fo st k).manifests.length<=9999) (hp':m'.parent.size<=140737488355328) (hcut:I64 m'.cut) (fn:FuncId) (caps:Array Value) (hent:∀(args:Array Value) (w:World),(callFunc fn args).run prog w= .ok (.enter fn args) w)
  (HC:∀(w1:World) (B:Nat) (pv mv:Value),Below W.heap.size W w1->W.heap.size<B->w1.heap[B]? =some (.cells (zAr m (m.seq+1) pv mv c.user) 84 (0,0))->Sl 2 zZ (Imm (zH2 X W.heap.size B) bw R w1) w1 mv m.members->
   Calls prog fn (#[.pointer (some ⟨B,0,none⟩)]++caps) w1 λe w2=>e= .returned (.tuple #[])/\ButB (λx=>x=B) w1 w2/\∃mv',w2.heap[B]? =some (.cells (zAr m' (m.seq+1) pv mv' c.user) 84 (0,0))/\Sl 2 zZ (Imm (zH2 X W.heap.size B) bw R w2) w2 mv' m'.members):
  Calls prog 133 #[.pointer (some ⟨bw,0,none⟩),.pointer (some ⟨g,o,none⟩),.func (.func fn) #[] caps] W λe w'=>e= .returned (.agg (ZV 0 (m.seq+1)))/\
   ∃R',WK X base bw w' R' c dv (setF st k { fo st k with manifests:=(fo st k).manifests++[{ m' with seq:=m.seq+1,who:=c.user }],turn:=(fo st k).turn+1 }) true late/\Mut bw R W R' w'/\(R' .fo).v=(R .fo).v:=by
 obtain⟨iManifest,hiManifest,hzManifest,h1Manifest,h2Manifest⟩:=info_parts (show(prog.info? 84).map (λi=>(i.zero,i.size,i.bytes))=some (some (.agg #[.string ⟨#[]⟩,.int .i64 0,(),.string ⟨#[]⟩,(),.int .i64 0,.bool false,.string ⟨#[]⟩]),8,120) from kr);have hc:=h.call;obtain⟨_,_,e7,_,hus,_⟩:=yG hc;obtain⟨w0,hw0,cw0,fw0,Bw0,qw0⟩:=zP W #[.int .i64 0,.int .i64 0,.string ⟨#[]⟩,(),(),(),()] 49;have H0:=zh (h.enter Bw0 qw0);have HB0:=zh Bw0;have HW:=zh h;have HA:=zh ha;have hbwl:=h.lt;obtain⟨_,_,_,_,_,_,_,_,_,_,_,hF,u0,u1,u2,u3,u4,u5,u6,_,_⟩:=H0.fold (ZT hk) ha;have HN:=zh (z75 (fo st k) _ w0 _ hF);clear h hF ha hc e7 cw0 fw0 Bw0;go_enter func133,ntmps133
 go_wp2_with fail
 refine zcm HN ?_;rintro _ w1 ⟨⟨_,rfl,hmr⟩,B1⟩;rw[hm] at hmr;obtain⟨m_A2,m_c2,m_A4,m_c4,rfl,m_folder_le,_,_,_,_,m_prev_s,_,m_members_l,m_members_m,m_members_n,m_members_s,_,_⟩:=ZO hmr;obtain⟨w2,hw2,cw2,fw2,Bw2,_⟩:=zP w1 #[.string ⟨#[]⟩,.int .i64 0,(),.string ⟨#[]⟩,(),.int .i64 0,.bool false,.string ⟨#[]⟩] 84;have HT2:w2.heap[w1.heap.size]? =some (.cells #[.string ⟨#[]⟩,.int .i64 0,(),.string ⟨#[]⟩,(),.int .i64 0,.bool false,.string ⟨#[]⟩] 84 (0,0)):=by rw[<-hw2];exact zJ _ rfl
 have d0:w2.cell? ⟨w1.heap.size,0,none⟩=some (.string ⟨#[]⟩):=(zB HT2).1 0 _ rfl;have d1:w2.cell? ⟨w1.heap.size,1,none⟩=some (.int .i64 0):=(zB HT2).1 1 _ rfl;have d2:w2.cell? ⟨w1.heap.size,2,none⟩=some (.slice none 0 0):=(zB HT2).1 2 _ rfl;have d3:w2.cell? ⟨w1.heap.size,3,none⟩=some (.string ⟨#[]⟩):=(zB HT2).1 3 _ rfl;have d4:w2.cell? ⟨w1.heap.size,4,none⟩=some (.slice none 0 0):=(zB HT2).1 4 _ rfl;have d5:w2.cell? ⟨w1.heap.size,5,none⟩=some (.int .i64 0):=(zB HT2).1 5 _ rfl;have d6:w2.cell? ⟨w1.heap.size,6,none⟩=some (.bool false):=(zB HT2).1 6 _ rfl;have d7:w2.cell? ⟨w1.heap.size,7,none⟩=some (.string ⟨#[]⟩):=(zB HT2).1 7 _ rfl;have dz:=(zB HT2).2;have H2:=zh HT2;have HB1:=zh B1;have HB2:=zh Bw2;have hml2:m.members.length<=m_c4:=m_members_l;have HMS:=zh (show Sl 2 zZ (λ_=>True) w1 (.slice m_A4 m.members.length m_c4) m.members from⟨_,_,rfl,m_members_l,m_members_m,m_members_n,m_members_s⟩);clear cw2 fw2 HT2 m_prev_s m_members_s hmr B1 Bw2;go_wp2_with fail
 obtain⟨E1,E2⟩:=z7w H2 (.string m.folder) (.int .i64 m.seq) (.slice m_A2 0 m_c2) (.string m.parent) (.slice m_A4 m.members.length m_c4) (.int .i64 m.cut) (.bool m.gone) (.string m.who);generalize hW3:World.setCell _ _ _=w3 at E1 E2⊢;have B3:Below w1.heap.size w1 w3:=ButB.below HB2 om (λz hz=>by rw[hz];exact znl _) E2;have BW1:=zD HB0 HB1;have BW3:=zD BW1 B3;clear hW3 d0 d1 d2 d3 d4 d5 d6 d7 dz E2;refine zcm (zD0 m.members _ w3 (λ_=>True) (HMS.keep ZA dc (zK B3)) hml) ?_;rintro e4 w4 ⟨⟨_,cells4,rfl,r4,a4,o4⟩,B4⟩;obtain⟨A4',n4,c4',rfl⟩:=r4.shape3;have hz1:=BW1.size;have hz01:=HB1.size;have hz3:=B3.size;have hz31:=zI E1;have hz4:=B4.size;have HT4:=zh ((B4.block _ (zI E1)).trans E1);have f1:w4.cell? ⟨w1.heap.size,1,none⟩=some (.int .i64 m.seq):=(zB HT4).1 1 _ rfl;have f4:w4.cell? ⟨w1.heap.size,4,none⟩=some (.slice m_A4 m.members.length m_c4):=(zB HT4).1 4 _ rfl;have f7:w4.cell? ⟨w1.heap.size,7,none⟩=some (.string m.who):=(zB HT4).1 7 _ rfl;have fz:=(zB HT4).2;have BW4:=zD BW3 B4;have s1:=zy BW4 (HW.cells.1 1 _ rfl);have hne1:¬(bw=w1.heap.size):=om
 have hne2:¬(w1.heap.size=bw):=om
 have hwr:IntKind.i64.wrap (m.seq+1)=m.seq+1:=by rw[IntKind.wrap_i64];omega
 have HR4:=zh r4;have HA4:=zh a4;have HO4:=zh o4;have HBW4:=zh BW4;have HB34:=zh (zD B3 B4);clear r4 a4 o4 BW1 BW3 BW4 B3 B4 E1;go_wp2_with fail
 have T1:=zH (i:=4) (.slice A4' n4 c4') HT4 rfl;have T2:=zH (i:=1) (.int .i64 (m.seq+1)) T1 rfl;have T3:=zH (i:=7) (.string c.user) T2 rfl;have S3:ButB (λx=>x=w1.heap.size) w4 (((w4.setCell ⟨w1.heap.size,4,none⟩ (.slice A4' n4 c4')).setCell ⟨w1.heap.size,1,none⟩ (.int .i64 (m.seq+1))).setCell ⟨w1.heap.size,7,none⟩ (.string c.user)):=(((ButB.refl (λx=>x=w1.heap.size) w4).set _ _ rfl).set _ _ rfl).set _ _ rfl;generalize hW5:World.setCell _ _ _=w5 at T3 S3⊢;clear hW5 f1 f4 f7 fz T1 T2 s1;have hl4:cells4.length<=10000:=by have:=HA4.1;omega
 have hlt4:∀b,(Value.slice A4' n4 c4').ownBlock=some b->b≠w1.heap.size/\b<w4.heap.size/\W.heap.size<b/\b≠bw:=λb hb=>by
  have h1:=HR4.lt b hb;have h2:=HO4.o b hb;omega
 have SL5:Sl 2 zZ (Imm (zH2 X W.heap.size w1.heap.size) bw R w5) w5 (.slice A4' n4 c4') m.members:=by
  refine Ro.slM_new (z1h ZA (HR4.keep λb hb=>S3.block b (hlt4 b hb).2.1 (hlt4 b hb).1) hl4 (S:=λ_=>True) (HA4.imp λ_ _ hr=>hr)) λb hb=>?_
  obtain⟨b1,b2,_,b4⟩:=hlt4 b hb;refine⟨zll b2 S3.size,b4,λe=>?_,λe=>?_⟩
  ·have:=HW.os.lt e;omega
  ·rcases e with (e|e)|e
   ·have:=HW.xl b e;omega
   ·omega
   ·exact b1 e
 have H1:=H0.below HB1;have H4:=zh (WK.enter H1 HB34 om);have H5:=zh (WK.leave H4 (S3.mono λx hx=> .inr hx) λb hb=>hb);have B5:Below W.heap.size W w5:=ButB.below HBW4 om (λz hz=>om) S3;have HB5:=zh B5;clear H1;refine zcm (HC w5 w1.heap.size (.slice m_A2 0 m_c2) (.slice A4' n4 c4') B5 om T3 SL5) ?_;rintro e6 w6 ⟨rfl,S6,mv',T6,SL6⟩;obtain⟨Am,cmv,hmv,_⟩:=id SL6;subst hmv;have H6:=zh (WK.leave H5 (S6.mono λx hx=> .inr hx) λb hb=>hb);have B6:Below W.heap.size W w6:=ButB.below B5 (oh HB5.size) (λz hz=>om) S6;have HB6:=zh B6;have HT6:=zh T6;obtain⟨D2,e2,_,_,_,e4,_,_,_,e6,eh,_,u0,u1,u2,u3,u4,u5,u6,hg6,gz⟩:=H6.fold (ZT hk) HA;have hma:(R (.ma k)).v= .slice D2 (fo st k).manifests.length e2:=by
  simp only[hdr,List.cons.injEq] at eh;exact eh.2.2.1
 have HROW:=zh (show RowC 84 8 w6 (.slice D2 (fo st k).manifests.length e2) (R (.ma k)).cells from by rw[<-hma];exact H6.os.row (.ma k));have x1:w6.cell? ⟨w1.heap.size,1,none⟩=some (.int .i64 (m.seq+1)):=(zB T6).1 1 _ rfl;have HGZ:=zh gz;have HNG:=zh (show(Value.slice D2 (fo st k).manifests.length e2).ownBlock≠some g from λe=>by
  rw[<-hma] at e;obtain⟨_,_,_,hv9,_⟩:=HA;have:=H6.os.inj (.ma k) .fo g e (by rw[hv9];rfl);cases this)
 have hg1:¬(g=w1.heap.size):=λe=>by
  have:=HW.os.lt HA.row;omega
 have hg2:¬(w1.heap.size=g):=λe=>hg1 e.symm
 have hrow:∀b,(Value.slice D2 (fo st k).manifests.length e2).ownBlock=some b->b<W.heap.size:=λb e=>HW.os.lt ⟨.ma k,by rw[hma];exact e⟩
 have HNB:=zh (show(Value.slice D2 (fo st k).manifests.length e2).ownBlock≠some w1.heap.size from λe=>by have:=hrow _ e;omega);have HNW:=zh (show(Value.slice D2 (fo st k).manifests.length e2).ownBlock≠some W.heap.size from λe=>by have:=hrow _ e;omega);have HK6:=zh (show w6.heap[W.heap.size]? =some (.cells #[.int .i64 0,.int .i64 0,.string ⟨#[]⟩,(),(),(),()] 49 (0,0)) from by
  have k0:w0.heap[W.heap.size]? =some (.cells #[.int .i64 0,.int .i64 0,.string ⟨#[]⟩,(),(),(),()] 49 (0,0)):=by rw[<-hw0];exact zJ _ rfl
  have k1:=(HB1.block _ qw0).trans k0;have k4:=(HB34.block _ (zI k1)).trans k1;have k5:=(S3.block _ (zI k4) om).trans k4;exact(S6.block _ (zI k5) om).trans k5)
 have HX:=zh (show ZL (Imm (zH2 X W.heap.size w1.heap.size) bw R w6) w6 [m.folder,.int .i64 (m.seq+1),.slice m_A2 0 m_c2,m'.parent,.slice Am m'.members.length cmv,m'.cut,m'.gone,c.user] { m' with seq:=m.seq+1,who:=c.user } from by
  refine⟨_,_,by rw[<-hpv.2.2],by rw[hpv.2.2];exact m_folder_le,(show I64 (m.seq+1) from⟨om,om⟩),?_,hp',SL6,hcut,hus⟩;rw[hpv.2.1];exact⟨m_A2,m_c2,rfl,Nat.zero_le _,by unfold maxLen;omega,Nat.zero_le _,λi x hx=>by simp at hx⟩)
 have HSQ:=zh (show 0<=(fo st k).turn/\(fo st k).turn<=1000000 from ht);have hwt:IntKind.i64.wrap ((fo st k).turn+1)=(fo st k).turn+1:=by rw[IntKind.wrap_i64];omega
 have hmaO:=zh hma;have hgw:¬(g=W.heap.size):=λe=>by
  have:=HW.os.lt HA.row;omega
 clear SL5 B5 B6 S3 S6 T3 T6 SL6 HC gz x1 hma hrow;have x1:w6.cell? ⟨w1.heap.size,1,none⟩=some (.int .i64 (m.seq+1)):=(zB HT6).1 1 _ rfl;have c0:w6.cell? ⟨w1.heap.size,0,none⟩=some (.string m'.folder):=(zB HT6).1 0 _ rfl;have c2':w6.cell? ⟨w1.heap.size,2,none⟩=some (.slice m_A2 0 m_c2):=(zB HT6).1 2 _ rfl;have c3':w6.cell? ⟨w1.heap.size,3,none⟩=some (.string m'.parent):=(zB HT6).1 3 _ rfl;have c4'':w6.cell? ⟨w1.heap.size,4,none⟩=some (.slice Am m'.members.length cmv):=(zB HT6).1 4 _ rfl;have c5':w6.cell? ⟨w1.heap.size,5,none⟩=some (.int .i64 m'.cut):=(zB HT6).1 5 _ rfl;have c6':w6.cell? ⟨w1.heap.size,6,none⟩=some (.bool m'.gone):=(zB HT6).1 6 _ rfl;have c7':w6.cell? ⟨w1.heap.size,7,none⟩=some (.string c.user):=(zB HT6).1 7 _ rfl;go_wp2_with fail
 go_region_law (refine z1y w6 _ [m.folder,.int .i64 (m.seq+1),.slice m_A2 0 m_c2,m'.parent,.slice Am m'.members.length cmv,m'.cut,m'.gone,c.user] rfl (.tmp 32) (.tmp 34) 68 rfl iManifest _ 120 underlying68 hiManifest hzManifest h1Manifest h2Manifest rfl dc dc (.slice D2 (fo st k).manifests.length e2) (R (.ma k)).cells rfl _ _ rfl HROW gg (H6.os.len _) rfl (by intro u hu;simp at hu;rcases hu with rfl|rfl|rfl|rfl|rfl|rfl|rfl|rfl<;>rfl) (by repeat' first|with_reducible assumption|((with_reducible first|refine Z2 _ ?_ ?_|apply zJ);rotate_left;first|with_reducible rfl|((try dsimp only);first|with_reducible assumption|omega|(simp only[zS];done)|(simp only[zS];omega)))|with_reducible apply zH|with_reducible refine zR _ ?_|with_reducible refine ZQ ?_|refine(rfl:(_:Array Value)=_)) ?_;intro v8 w8 r8 p8 o8;obtain⟨A8,n8,cp8,rfl⟩:=r8.shape3;have HR8:=zh r8;have HP8:=zh p8;have HO8:=zh o8;have k8:=p8.block g hg6 HNG;have g82:=(World.cell?_of_block (a:=⟨g,o+2,none⟩) k8).trans u2;have g81:=(World.cell?_of_block (a:=⟨g,o+1,none⟩) k8).trans u1;have z8:∀q,w8.frozen? ⟨g,q,none⟩=false:=(λq=>by unfold World.frozen?;rw[k8];exact HGZ.o q);clear k8;have x18:=(World.cell?_of_block (a:=⟨w1.heap.size,1,none⟩) (p8.block _ (zF x1) HNB)).trans x1;have HK8:=zh ((p8.block _ (zI HK6) HNW).trans HK6);clear r8 p8 o8)
 all_goals
  have HWR:=zh (H6.writ hk HA HSQ hl HR8 (by rw[hmaO.out];exact HP8) (by rw[hmaO.out];exact HO8) HX);go_wp2_with fail
  obtain⟨R3,H9,M9,E9⟩:=HWR;have HM9:=zh M9;have HE9:=zh E9;have HN9:=zh (λe=>H9.nx W.heap.size e (.inl (.inr rfl)));have K9:=Z2 (a:=⟨g,o+1,none⟩) (.int .i64 ((fo st k).turn+1)) (Z2 (a:=⟨g,o+2,none⟩) (.slice A8 n8 cp8) HK8 (λe=>hgw e.symm)) (λe=>hgw e.symm);have HK9:=zh K9;refine zcm (z40 H9 (m.seq+1)) ?_;clear H9 M9 E9 K9;rintro _ w10 ⟨rfl,H10,M10⟩;have K10:=(M10.but.block _ (zI HK9) (λe=>HN9.o (e.symm.imp id id))).trans HK9;have HK10:=zh K10;have y0:w10.cell? ⟨W.heap.size,0,none⟩=some (.int .i64 0):=(zB K10).1 0 _ rfl;have y1:w10.cell? ⟨W.heap.size,1,none⟩=some (.int .i64 0):=(zB K10).1 1 _ rfl;have y2:w10.cell? ⟨W.heap.size,2,none⟩=some (.string ⟨#[]⟩):=(zB K10).1 2 _ rfl;have y3:w10.cell? ⟨W.heap.size,3,none⟩=some (.slice none 0 0):=(zB K10).1 3 _ rfl;have y4:w10.cell? ⟨W.heap.size,4,none⟩=some (.slice none 0 0):=(zB K10).1 4 _ rfl;have y5:w10.cell? ⟨W.heap.size,5,none⟩=some (.slice none 0 0):=(zB K10).1 5 _ rfl;have y6:w10.cell? ⟨W.heap.size,6,none⟩=some (.slice none 0 0):=(zB K10).1 6 _ rfl;have yz:=(zB K10).2;have HH10:=zh H10;have HM10:=zh M10;clear H10 M10 K10;unfold ZV;go_wp2;try simp only[Exit.inBlock,Exit.then]
  obtain⟨F1,F2⟩:=ZC HK10 (.int .i64 0) (.int .i64 (m.seq+1)) (.string ⟨#[]⟩) (.slice none 0 0) (.slice none 0 0) (.slice none 0 0) (.slice none 0 0);refine bodyPost_ret (results_cell_row rfl _ _ W.heap.size 49 _ (0,0) _ rfl F1 underlying49 rfl kr) rfl ?_;refine⟨rfl,R3,HH10.leave (F2.mono λx hx=> .inl (.inr hx)) λb hb=> .inl (.inl hb),(((Mut.below HB6).trans HM9).trans HM10).tail (F2.mono λx hx=>by rw[hx];exact znl _),HE9⟩
end
end
section
open Go.RowKit Go.Deep
theorem zH6 {α:Type} (p:α->Bool) (l:List α):decide (0<=iOf (l.findIdx? p))=l.any p:=by
 cases a:l.findIdx? p with
 | none=>
  rw[findIdx?_eq_none_iff] at a;rw[show iOf none= -1 from rfl,η];symm;rw[any_eq_false]
  exact λx h=>by rw[a x h];decide
 | some k=>
  obtain⟨d,e,_⟩:=findIdx?_eq_some_iff_getElem.1 a;rw[show iOf (some k)=(k:Int) from rfl,θ];symm;rw[any_eq_true];exact⟨l[k],getElem_mem d,e⟩
def isL (e:Int) (s:Nm) (l:Link):Bool:=decide (l.epoch=e)&&decide (l.to=s)
theorem zQf (a:Int) (s:Nm) (E B:Nat) (x:Link) (e:List Value) (w:World) (S:Nat->Prop) (h:z0g S w e x) (o:(cL w E 0 a:Prop)) (j:(cL w B 0 s:Prop)):
  (kB 165 #[.agg e.toArray,pT E,pT B] w (isL a s x):Prop):=by
 obtain⟨rfl,_⟩:=z7r h;have r:=zF j;have t:=zF o;by_cases d:x.epoch=a
 ·have q:(x.epoch==a)=true:=by simp[d]
  have E:=zh (by unfold isL;rw[Δ d,Y9];rfl:isL a s x=(x.to.toList==s.toList));clear d;go_enter func165,ntmps165
  go_wp2;go_ret;exact⟨ZM E.o.symm,gg⟩
 have q:(x.epoch==a)=false:=by simp[d]
 have E:=zh (by unfold isL;rw[Γ d];rfl:isL a s x=false);clear d;go_enter func165,ntmps165
 go_wp2;go_ret;exact⟨ZM E.o.symm,gg⟩
def isA (s:Nm) (x:At):Bool:=decide (x.name=s)
theorem zQg (s:Nm) (C:Nat) (x:At) (d:List Value) (w:World) (S:Nat->Prop) (h:rAt S w d x) (e:(cL w C 2 s:Prop)):
  (kB 131 #[.agg d.toArray,pT C] w (isA s x):Prop):=by
 obtain⟨rfl,_⟩:=z48 h;have j:=zF e;have E:=zh (Y9 (a:=x.name) (b:=s));go_enter func131,ntmps131
 exact mbs
theorem zV1 (a:Int) (s:Nm) (E B:Nat) (l:List Link) (v:Value) (w:World) (S:Nat->Prop) (h:Sl 3 z0g S w v l) (e:(cL w E 0 a:Prop)) (d:(cL w B 0 s:Prop)):
  (kB 191 #[v,.func (.func 165) #[] #[pT E,pT B]] w (iOf (l.findIdx? (isL a s))):Prop):=by
 have q:=zh e;have o:=zh d;clear e d;obtain⟨_,_,rfl,_,r,_,u⟩:=h;unfold maxLen at r;go_enter func191,ntmps191
 go_wp2;go_loopw [8] (λi wr=>∃(k:Nat),k<=l/\i= .int .i64 k/\Hid (∀y∈l.take k,(isL a s) y=false)/\bW w wr) (λi _=>l.length-(intOf i).toNat)
 case atStart=>exact⟨0,om,gn,(λy z=>by simp at z),gg⟩
 obtain⟨k,_,rfl,HN,hbel⟩:=hrel;have F:=hbel.size;by_cases t:k<l
 rotate_left
 ·obtain rfl:k=l:=om
  have EH:=zh (z5h (z6s (p:=(isL a s)) (l:=l) (by have:=HN.o;rwa [qLnx] at this)));exact mbb
 obtain⟨x,_,_,j,C,D,rfl,_,_,_,_,_,A,_⟩:=zAh u t (zK hbel);have HX:=zh j;clear j C D;go_wp2_with fail
 refine zcb (zQf a s E B x _ _ S A (zy hbel q) (zy hbel o)) λ_ hb1=>?_;cases hpx:(isL a s) x
 ·exact mar
 exact maF
theorem zV2 (a:Int) (s:Nm) (E B:Nat) (l:List Link) (v:Value) (w:World) (S:Nat->Prop) (h:Sl 3 z0g S w v l) (q:(cL w E 0 a:Prop)) (o:(cL w B 0 s:Prop)):
  (kB 164 #[v,.func (.func 165) #[] #[pT E,pT B]] w (l.any (isL a s)):Prop):=by
 have j:=zh (zV1 a s E B l v w S h q o);have d:=zh (zH6 (isL a s) l);obtain⟨_,_,rfl,_⟩:=h;go_enter func164,ntmps164
 go_wp2_with fail
 refine zcb j λ_ e=>?_;generalize iOf (l.findIdx? (isL a s))=r at d⊢;go_wp2;go_ret;exact⟨ZM d,e⟩
theorem zV3 (s:Nm) (C:Nat) (l:List At) (v:Value) (w:World) (S:Nat->Prop) (h:Sl 2 rAt S w v l) (a:(cL w C 2 s:Prop)):
  (kB 166 #[v,.func (.func 131) #[] #[pT C]] w (iOf (l.findIdx? (isA s))):Prop):=by
 have e:=zh a;clear a;obtain⟨_,_,rfl,_,j,_,q⟩:=h;unfold maxLen at j;go_enter func166,ntmps166
 go_wp2;go_loopw [8] (λi wr=>∃(k:Nat),k<=l/\i= .int .i64 k/\Hid (∀y∈l.take k,(isA s) y=false)/\bW w wr) (λi _=>l.length-(intOf i).toNat)
 case atStart=>exact⟨0,om,gn,(λy r=>by simp at r),gg⟩
 obtain⟨k,_,rfl,HN,hbel⟩:=hrel;have A:=hbel.size;by_cases o:k<l
 rotate_left
 ·obtain rfl:k=l:=om
  have EH:=zh (z5h (z6s (p:=(isA s)) (l:=l) (by have:=HN.o;rwa [qLnx] at this)));exact mbb
 obtain⟨x,_,_,d,u,z,rfl,_,_,_,_,t,_⟩:=zFj q o (zK hbel);have HX:=zh d;clear d u z;go_wp2_with fail
 refine zcb (zQg s C x _ _ S t (zy hbel e)) λ_ hb1=>?_;cases hpx:(isA s) x
 ·exact mar
 exact maF
theorem zV4 (s:Nm) (C:Nat) (l:List At) (v:Value) (w:World) (S:Nat->Prop) (h:Sl 2 rAt S w v l) (j:(cL w C 2 s:Prop)):
  (kB 130 #[v,.func (.func 131) #[] #[pT C]] w (l.any (isA s)):Prop):=by
 have e:=zh (zV3 s C l v w S h j);have a:=zh (zH6 (isA s) l);obtain⟨_,_,rfl,_⟩:=h;go_enter func130,ntmps130
 go_wp2_with fail
 refine zcb e λ_ d=>?_;generalize iOf (l.findIdx? (isA s))=o at a⊢;go_wp2;go_ret;exact⟨ZM a,d⟩
theorem zV5 (l:List Item) (v:Value) (w:World) (S:Nat->Prop) (h:Sl 2 YG S w v l) (hv:∀x∈l,0<x.versions.length):
  (kB 167 #[v,.func (.func 136) #[] #[]] w (iOf (l.findIdx? (yX))):Prop):=by
 have e:=zh hv;clear hv;obtain⟨_,_,rfl,_,o,_,r⟩:=h;unfold maxLen at o;go_enter func167,ntmps167
 go_wp2;go_loopw [8] (λi wr=>∃(k:Nat),k<=l/\i= .int .i64 k/\Hid (∀y∈l.take k,(yX) y=false)/\bW w wr) (λi _=>l.length-(intOf i).toNat)
 case atStart=>exact⟨0,om,gn,(λy t=>by simp at t),gg⟩
 obtain⟨k,_,rfl,HN,hbel⟩:=hrel;have A:=hbel.size;by_cases q:k<l
 rotate_left
 ·obtain rfl:k=l:=om
  have EH:=zh (z5h (z6s (p:=(yX)) (l:=l) (by have:=HN.o;rwa [qLnx] at this)));exact mbb
 obtain⟨x,_,_,_,_,a,z,d,rfl,_,_,_,_,u,_⟩:=z0w r q (zK hbel);have HX:=zh a;have j:=zh d;clear a z d;go_wp2_with fail
 refine zcb (zBz x (e.o x j) _ _ S u) λ_ hb1=>?_;cases hpx:(yX) x
 ·exact mar
 exact maF
theorem zV6 (l:List Item) (v:Value) (w:World) (S:Nat->Prop) (h:Sl 2 YG S w v l) (hv:∀x∈l,0<x.versions.length):
  (kB 135 #[v,.func (.func 136) #[] #[]] w (l.any (yX)):Prop):=by
 have e:=zh (zV5 l v w S h hv);have a:=zh (zH6 (yX) l);obtain⟨_,_,rfl,_⟩:=h;go_enter func135,ntmps135
 go_wp2_with fail
 refine zcb e λ_ d=>?_;generalize iOf (l.findIdx? (yX))=j at a⊢;go_wp2;go_ret;exact⟨ZM a,d⟩
end
section
open Go.RowKit Go.Deep
section
variable {X:Nat->Prop} {base bw:Nat} {W:World} {R:RM} {c:Call} {dv:Value} {st:State} {done late:Bool}
theorem WK.user (h:WK X base bw W R c dv st done late) {u:User} (hu:st.users[i]? =some u):∃g off a,(R .us).v= .slice (some ⟨g,off,none⟩) st.users a/\st.users.length<=a/\a<=9223372036854775807/\g≠bw/\g<W.heap.size/\cL W g (off+i*2) u.name/\cL W g (off+i*2+1) u.lost/\∀q,W.frozen? (aD g q)=false:=by
 obtain⟨_,z,r⟩:=h.is.users.at hu;obtain⟨g,off,a,d,j,t,v,e,A⟩:=(h.os.row .us).at z;obtain⟨rfl,_⟩:=zBk r;rw[h.is.users.1] at d j;exact⟨g,off,a,d,j,t,λo=>h.nb ⟨.us,by rw[d,<-o];rfl⟩,v,e 0 _ rfl,e 1 _ rfl,A⟩
theorem z0o:(⟨#[]⟩:ByteArray).toList.isEmpty=true:=by rw[Lib.toList_data];rfl
def ZK (st:State) (c:Call):Int:=if !isE c.other&&decide (c.kind=3)&&(ZB st c.other).isNone then 41 else if !isE c.other&&decide (3<c.kind)&&(yU st c.other).isNone then 41 else 0
def z0c (st:State) (c:Call):Int:=if (!isE c.folder&&decide (c.kind≠2))&&(ZB st c.folder).isNone then 41
  else if !isE c.other&&decide (c.kind=3)&&(ZB st c.other).isNone then 41
  else if !isE c.other&&decide (3<c.kind)&&(yU st c.other).isNone then 41 else 0
theorem mcl (h:p:=by
 have h3:(c.kind==3)=false:=by simp[hk3]
 have hgt:3<c.kind:=om
 go_wp2_with fail
 refine zcb (z2j H1 c.other) λw4 B4=>?_
 cases hq:yU st c.other with
 | none=>
  have E3:=zh (E2.o.trans (by unfold ZK;simp[isE,ho,hk3,hq,hgt]:ZK st c=41));unfold iOf;go_wp2_with fail
  go_ret
  exact⟨Z8 E3.o.symm,zD HB1 B4⟩
 | some q=>
  have E3:=zh (E2.o.trans (by unfold ZK;simp[isE,ho,hk3,hq,hgt]:ZK st c=0));unfold iOf;go_wp2_with fail
  go_ret;exact⟨Z8 E3.o.symm,zD HB1 B4⟩):p:=h
theorem mcp (h:p:=by
 have hoe:c.other.toList.isEmpty=true:=by rw[ho];exact z0o
 have E3:=zh (E2.o.trans (by unfold ZK;simp[isE,ho]:ZK st c=0));cases h3:(c.kind==3)
 ·go_wp2_with fail
  go_ret;exact⟨Z8 E3.o.symm,HB1⟩
 go_wp2_with fail
 go_ret;exact⟨Z8 E3.o.symm,HB1⟩):p:=h
theorem mcq (h:p:=by
 have hoe:c.other.toList.isEmpty=true:=by rw[ho];exact z0o
 have E3:=zh (E2.o.trans (by unfold ZK;simp[isE,ho]:ZK st c=0));cases h3:(c.kind==3)
 ·go_wp2_with fail
  go_ret;exact⟨Z8 E3.o.symm,HB3⟩
 go_wp2_with fail
 go_ret;exact⟨Z8 E3.o.symm,HB3⟩):p:=h
theorem mcu (h:p:=by
 have E3:=zh (E2.o.trans (by unfold ZK;simp[isE,ho,hk3,hq,hgt]:ZK st c=41));unfold iOf;go_wp2_with fail
 go_ret
 exact⟨Z8 E3.o.symm,zD HB3 B4⟩):p:=h
theorem mcw (h:p:=by
 have E3:=zh (E.o.trans (by unfold z0c;simp[isE,hf,h2,ht0]:z0c st c=41));go_wp2_with fail
 go_ret;exact⟨Z8 E3.o.symm,zD HB1 B3⟩):p:=h
theorem mcA (h:p:=by
 go_wp2_with fail
 go_ret;exact⟨Z8 E3.o.symm,zD HB3 B4⟩):p:=h
theorem mcF (h:p:=by
 by_cases h2:c.kind=2
 ·have hd2:(c.kind==2)=true:=by simp[h2]
  have E2:=zh (E.o.trans (by unfold z0c;simp[h2]:z0c st c=0));go_wp2_with fail
  go_ret;exact⟨Z8 E2.o.symm,HB1⟩
 have hd2:(c.kind==2)=false:=by simp[h2]
 by_cases h15':c.kind=15
 ·have hd15:(c.kind==15)=true:=by simp[h15']
  have E2:=zh (E.o.trans (by unfold z0c;rw[(h15 h15').1,(h15 h15').2];simp[isE]:z0c st c=0));go_wp2_with fail
  go_ret;exact⟨Z8 E2.o.symm,HB1⟩
 have hd15:(c.kind==15)=false:=by simp[h15']
 by_cases hf:c.folder=⟨#[]⟩
 ·have hfe:c.folder.toList.isEmpty=true:=by rw[hf];exact z0o
  have E2:=zh (E.o.trans (by unfold z0c ZK;simp[isE,hf]:z0c st c=ZK st c));by_cases ho:c.other=⟨#[]⟩
  ·exact mcp
  have hoe:c.other.toList.isEmpty=false:=z0n ho;by_cases hk3:c.kind=3
  ·have h3:(c.kind==3)=true:=by simp[hk3]
   go_wp2_with fail
   refine zcm (YK H1 c.other) ?_;rintro e w4 ⟨⟨ht,rfl⟩|⟨k,g,o,ht,ha,rfl⟩,B4⟩
   ·have E3:=zh (E2.o.trans (by unfold ZK;simp[isE,ho,hk3,ht]:ZK st c=41));go_wp2_with fail
    go_ret;exact⟨Z8 E3.o.symm,zD HB1 B4⟩
   have E3:=zh (E2.o.trans (by unfold ZK;simp[isE,ho,hk3,ht]:ZK st c=0));go_wp2_with fail
   go_ret;exact⟨Z8 E3.o.symm,zD HB1 B4⟩
  exact mcl
 have hfe:c.folder.toList.isEmpty=false:=z0n hf;go_wp2_with fail
 refine zcm (YK H1 c.folder) ?_;rintro e w3 ⟨⟨ht0,rfl⟩|⟨k0,g0,o0,ht0,ha0,rfl⟩,B3⟩
 ·exact mcw
 have E2:=zh (E.o.trans (by unfold z0c ZK;simp[isE,hf,ht0]:z0c st c=ZK st c));have H3:=zh (H1.below B3);have HB3:=zh (zD HB1 B3);have hq1:W<w1.heap.size:=by have:=B1.size;omega
 have p0:=zy B3 z0;have p4:=zy B3 z4;by_cases ho:c.other=⟨#[]⟩
 ·exact mcq
 have hoe:c.other.toList.isEmpty=false:=z0n ho;by_cases hk3:c.kind=3
 ·have h3:(c.kind==3)=true:=by simp[hk3]
  go_wp2_with fail
  refine zcm (YK H3 c.other) ?_;rintro e w4 ⟨⟨ht,rfl⟩|⟨k,g,o,ht,ha,rfl⟩,B4⟩
  ·have E3:=zh (E2.o.trans (by unfold ZK;simp[isE,ho,hk3,ht]:ZK st c=41));exact mcA
  have E3:=zh (E2.o.trans (by unfold ZK;simp[isE,ho,hk3,ht]:ZK st c=0));exact mcA
 have h3:(c.kind==3)=false:=by simp[hk3]
 have hgt:3<c.kind:=om
 go_wp2_with fail
 refine zcb (z2j H3 c.other) λw4 B4=>?_
 cases hq:yU st c.other with
 | none=>
  exact mcu
 | some q=>
  have E3:=zh (E2.o.trans (by unfold ZK;simp[isE,ho,hk3,hq,hgt]:ZK st c=0));unfold iOf;go_wp2_with fail
  go_ret;exact⟨Z8 E3.o.symm,zD HB3 B4⟩):p:=h
theorem zMa (h:WK X base bw W R c dv st done late) (V:1<=c.kind) (h15:c.kind=15->c.folder=⟨#[]⟩/\c.other=⟨#[]⟩):Calls prog 54 #[pT bw] W λe w'=>
  e= .returned (.int .i64 (ZR st c late))/\bW W w':=by
 have C:=h.call;obtain⟨G,J,B,_⟩:=yG C;simp only[z4m,cons.injEq,and_true,true_and] at B;subst B;obtain⟨ab,ac,ad,ae,af,ag,ah,ai⟩:=TC8 h.cells.1;obtain⟨_,_,t,K,r,aa⟩:=zP W (aC c G J) 41;have A:=zh t;have aj:=t 0 _ rfl;have z:=zh (h.below r);have H:=zh r;clear h C t K r;by_cases a:c.kind=1
 ·have L:(c.kind==1)=true:=by simp[a]
  have E:=zh (by unfold ZR;rw[if_pos a]:ZR st c late=0);go_enter func54,ntmps54
  go_wp2;go_ret;exact⟨Z8 E.o.symm,gg⟩
 have L:(c.kind==1)=false:=by simp[a]
 have ak:=A.o 1 _ rfl;go_enter func54,ntmps54
 go_wp2_with fail
 refine zcb (z2j z c.user) λw1 B1=>?_;have H1:=zh (z.below B1);have HB1:=zh (zD H B1);have I:=zh (λP U M=>zy B1 (A.o P U M));obtain⟨z0,al,am,_,z4⟩:=TC5 I.o;have Q:=H1.cells.1 13 _ rfl;have T:=H1.cells.1 9 _ rfl
 cases v:yU st c.user with
 | none=>
  have E:=zh (by unfold ZR;rw[if_neg a,v]:ZR st c late=41);unfold iOf;go_wp2;go_ret
  exact⟨Z8 E.o.symm,HB1⟩
 | some u=>
  have N:u<st.users:=(findIdx?_eq_some_iff_getElem.1 v).1;obtain⟨x,F⟩:∃x,st.users[u]? =some x:=⟨_,qLgx N⟩;obtain⟨_,_,_,O,_,_,_,_,_,j,_⟩:=H1.user F;rw[O] at T;unfold iOf;have Y:(u:Int)<(st.users:Int):=om
  have d:ZR st c late=if (x.lost&&decide (c.kind≠16))&&!late then 20 else z0c st c:=by
   unfold ZR z0c;rw[if_neg a,v];dsimp only;rw[F];rfl
  rcases(show(x.lost=true/\(c.kind==16)=false/\late=false)\/x.lost=false\/(x.lost=true/\(c.kind==16)=true)\/(x.lost=true/\(c.kind==16)=false/\late=true) by
   cases x.lost<;>cases (c.kind==16)<;>cases late<;>simp) with ⟨hl,h16,hla⟩|hl|⟨hl,h16⟩|⟨hl,h16,hla⟩
  ·have E:=zh (show ZR st c late=20 by
    rw[d,hl,hla,if_pos];have:c.kind≠16:=by simpa using h16
    simp[this])
   rw[hl] at j;subst hla;have D:(c.kind !=16)=true:=by rw[bne,h16];rfl
   go_wp2_with fail
   go_ret;exact⟨Z8 E.o.symm,HB1⟩
  ·have E:=zh (by rw[d,hl];simp:ZR st c late=z0c st c);rw[hl] at j;exact mcF
  ·have E:=zh (show ZR st c late=z0c st c by
    have:c.kind=16:=by simpa using h16
    rw[d,hl,this];simp)
   rw[hl] at j;have Z:c.kind=16:=by simpa using h16
   have D:(c.kind !=16)=false:=by rw[bne,h16];rfl
   by_cases h2:c.kind=2
   ·omega
   have hd2:(c.kind==2)=false:=by simp[h2]
   by_cases h15':c.kind=15
   ·omega
   have hd15:(c.kind==15)=false:=by simp[h15']
   by_cases hf:c.folder=⟨#[]⟩
   ·have hfe:c.folder.toList.isEmpty=true:=by rw[hf];exact z0o
    have E2:=zh (E.o.trans (by unfold z0c ZK;simp[isE,hf]:z0c st c=ZK st c));by_cases ho:c.other=⟨#[]⟩
    ·exact mcp
    have hoe:c.other.toList.isEmpty=false:=z0n ho;by_cases hk3:c.kind=3
    ·omega
    exact mcl
   have hfe:c.folder.toList.isEmpty=false:=z0n hf;go_wp2_with fail
   refine zcm (YK H1 c.folder) ?_;rintro e w3 ⟨⟨ht0,rfl⟩|⟨k0,g0,o0,ht0,ha0,rfl⟩,B3⟩
   ·exact mcw
   have E2:=zh (E.o.trans (by unfold z0c ZK;simp[isE,hf,ht0]:z0c st c=ZK st c));have H3:=zh (H1.below B3);have HB3:=zh (zD HB1 B3);have hq1:W<w1.heap.size:=by have:=B1.size;omega
   have p0:=zy B3 z0;have p4:=zy B3 z4;by_cases ho:c.other=⟨#[]⟩
   ·exact mcq
   have hoe:c.other.toList.isEmpty=false:=z0n ho;by_cases hk3:c.kind=3
   ·omega
   have h3:(c.kind==3)=false:=by simp[hk3]
   have hgt:3<c.kind:=om
   go_wp2_with fail
   refine zcb (z2j H3 c.other) λw4 B4=>?_
   cases hq:yU st c.other with
   | none=>
    exact mcu
   | some q=>
    have E3:=zh (E2.o.trans (by unfold ZK;simp[isE,ho,hk3,hq,hgt]:ZK st c=0));unfold iOf;exact mcA
  have E:=zh (by rw[d,hla];simp:ZR st c late=z0c st c);rw[hl] at j;rw[hla] at Q;have D:(c.kind !=16)=true:=by rw[bne,h16];rfl
  exact mcF
end
end
structure FInv (n:Nat) (us:List Nm) (f:Folder):Prop where
 nm:f.name.size<=20
 man:f.manifests≠[]
 ep:f.epochs≠[]
 wr:z0v f.wraps
 wn:∀w∈f.wraps,w.name∈us
 it:∀x∈f.items,x.versions≠[]/\x.versions<=n/\x.name.size<=20
 mem:Ro.rightOf (zL f).members=true
 mn:∀m∈f.manifests,m.parent.size<=20/\m.members.length<=20/\∀x∈m.members,x.name∈us
 lk:∀l∈f.links,l.to.size<=20
 ec:∀e∈f.epochs,e.chain.length<=20/\∀y∈e.chain,y.name.size<=20
 tn:0<=f.turn/\f.turn<=n
 sq:0<=(zL f).seq/\(zL f).seq<=n
 pv:∀m∈f.manifests,m.prev=[]
theorem FInv.mono {m:Nat} {e:List Nm} (h:FInv n us f) (hn:n<=m) (hu:∀x∈us,x∈e):FInv m e f:=
 ⟨h.nm,h.man,h.ep,h.wr,λw j=>hu _ (h.wn w j),λx a=>⟨(h.it x a).1,qNtx (h.it x a).2.1 hn,(h.it x a).2.2⟩,h.mem,λm d=>⟨(h.mn m d).1,(h.mn m d).2.1,λx a=>hu _ ((h.mn m d).2.2 x a)⟩,h.lk,h.ec,
  ⟨h.tn.1,by have:=h.tn.2;omega⟩,⟨h.sq.1,by have:=h.sq.2;omega⟩,h.pv⟩
def yA (f:Folder):Nat:=f.manifests.length+f.epochs.length+f.items.length+f.links.length
def z1w:List Folder->Nat
 | []=>0
 | f::l=>yA f+z1w l
theorem zI7:∀(l:List Folder) (f:Folder),z1w (l++[f])=z1w l+yA f
 | [],f=>by simp[z1w]
 | x::l,f=>by rw[cons_append,z1w,z1w,zI7 l f];omega
theorem zKj:∀{l:List Folder} {k:Nat} {f f':Folder},l[k]? =some f->z1w (l.set k f')+yA f=z1w l+yA f'
 | [],k,f,f',h=>by simp at h
 | x::l,0,f,f',h=>by
  obtain rfl:x=f:=by simpa using h
  rw[set_cons_zero,z1w,z1w]
  omega
 | x::l,k+1,f,f',h=>by
  have:=zKj (f':=f') (l:=l) (k:=k) (f:=f) (by simpa using h);rw[set_cons_succ,z1w,z1w];omega
structure VInv (n:Nat) (st:State):Prop where
 names:z5a st
 top:Z4 st Top=none
 tree:Inv (Y3 st)
 fol:∀f∈st.folders,FInv n (st.users.map User.name) f
 us20:∀u∈st.users,u.name.size<=20
 u16:st.users.length<=16
 ds20:∀p∈st.deposits,p.frm.size<=20/\p.to.size<=20
 few:st.users.length+st.deposits.length+st.folders.length<=n
 sum:z1w st.folders<=3*n
 turn:0<=st.turn/\st.turn<=n
theorem VInv.start:VInv 0 ⟨0,[],[],[]⟩ where
 names:=nodup_nil
 top:=rfl
 tree:=Inv.start
 fol:=λf a=>by simp at a
 us20:=λf a=>by simp at a
 u16:=sm
 ds20:=λf a=>by simp at a
 few:=sm
 sum:=by simp[z1w]
 turn:=sm
theorem VInv.mono {m:Nat} (h:VInv n st) (hn:n<=m):VInv m st where
 names:=h.names
 top:=h.top
 tree:=h.tree
 fol:=λf a=>(h.fol f a).mono hn λx hx=>hx
 us20:=h.us20
 u16:=h.u16
 ds20:=h.ds20
 few:=qNtx h.few hn
 sum:=by have:=h.sum;omega
 turn:=⟨h.turn.1,by have:=h.turn.2;omega⟩
theorem VInv.atF (h:VInv n st) (hk:k<st.folders):FInv n (st.users.map User.name) (fo st k):=h.fol _ (z2u hk)
theorem zKk {l:List Wrap} (h:z0v l):(l.map Wrap.name).Nodup:=pairwise_map.2 (h.imp λh=>z4u h)
theorem zI8 {n:Nat} (h:FInv n us f):f.wraps<=us.length:=by
 rw[<-length_map (f:=Wrap.name)];exact z9b (zKk h.wr) λe a=>by
  obtain⟨w,d,rfl⟩:=mem_map.1 a;exact h.wn w d
theorem zN1 {n k:Nat} {us:List Nm} (hu:us<=k):∀(l:List Folder),(∀f∈l,FInv n us f)->z5e l<=z1w l+k*l.length
 | [],_=>by simp[z5e,z1w]
 | f::l,h=>by
  have d:=zI8 (h f (mem_cons_self ..));have e:=zN1 hu l λx a=>h x (zmc _ a)
  rw[z5e,z1w,length_cons,Nat.mul_succ];unfold z88 yA;omega
theorem VInv.small (h:VInv n st) (hn:n<=41):Small st where
 users:=h.us20
 pairs:=h.ds20
 few8:=by have:=h.few;omega
 all:=by
  have v:=zN1 (n:=n) (k:=16) (us:=st.users.map User.name) (by rw[qLmx];exact h.u16) st.folders h.fol;have z:=h.sum;have A:=h.few;omega
 short:=λf j=>by
  have hF:=h.fol f j;have d:∀s∈st.users.map User.name,s.size<=20:=λs o=>by
   obtain⟨u,q,rfl⟩:=mem_map.1 o;exact h.us20 u q
  exact⟨hF.nm,λm a=>⟨(hF.mn m a).1,(hF.mn m a).2.1,λy t=>d _ ((hF.mn m a).2.2 y t)⟩,hF.ec,λx e=>⟨(hF.it x e).2.2,by have:=(hF.it x e).2.1;omega⟩,λw r=>d _ (hF.wn w r),hF.lk⟩
theorem zG9 (hk:k<st.folders) (hn:f'.name=(fo st k).name):(setF st k f').folders.map Folder.name=st.folders.map Folder.name:=by
 unfold setF;dsimp only;rw[map_set,hn];have:st.folders[k]? =some (fo st k):=by unfold fo;rw[qLgx hk];rfl
 rw[lSq (by rw[getElem?_map,this];rfl)]
theorem z4i (u:z5a st) (hk:k<st.folders) (hn:f'.name=(fo st k).name) (s:Nm):Z4 (setF st k f') s=if s=f'.name then some f' else Z4 st s:=by
 have j:z5a (setF st k f'):=by unfold z5a;rw[zG9 hk hn];exact u
 have B:f'∈(setF st k f').folders:=by
  unfold setF;exact zmg (i:=k) (by rw[getElem?_set_self hk])
 split
 ·rename_i a;rw[a];exact z7d j B
 rename_i a
 cases d:Z4 st s with
 | none=>
  unfold Z4;rw[find?_eq_none];intro x e;unfold setF at e;rcases mem_or_eq_of_mem_set e with e|t
  ·unfold Z4 at d;exact find?_eq_none.1 d x e
  rw[t]
  simpa using λh:f'.name=s=>a h.symm
 | some g=>
  have v:=z30 d;have o:=z2v d;rw[<-o];refine z7d j ?_;obtain⟨r,z,q⟩:=mem_iff_getElem.1 v;have A:k≠r:=λh=>by
   subst h;refine a ?_;rw[hn,<-o,<-q];unfold fo;rw[qLgx hk];rfl
  unfold setF;exact zmg (i:=r) (by dsimp only;rw[getElem?_set_ne A,qLgx z,q])
theorem zV8 (a:z5a st) (hk:k<st.folders) (hn:f'.name=(fo st k).name):Y3 (setF st k f')=upd (Y3 st) f'.name ((zL f').parent,(zL f').gone):=by
 funext s
 unfold Y3 upd;rw[z4i a hk hn];split<;>rfl
theorem zT2 {a:Fs} {v:Nm×Bool} (h:a s=some v):upd a s v=a:=by
 funext x
 unfold upd;split
 ·rename_i d;rw[d,h]
 rfl
theorem zWt (a:z5a st) (hk:k<st.folders):Y3 st (fo st k).name=some ((zL (fo st k)).parent,(zL (fo st k)).gone):=zQh a (z2u hk)
theorem VInv.turnF (h:VInv n st) (hk:k<st.folders) (hn:f'.name=(fo st k).name) (hF:FInv (n+1) (st.users.map User.name) f') (hs:yA f'<=yA (fo st k)+3)
  (r:Inv (upd (Y3 st) f'.name ((zL f').parent,(zL f').gone))) (t:Int) (v:0<=t/\t<=n+1):VInv (n+1) { setF st k f' with turn:=t } where
 names:=by unfold z5a;exact(zG9 hk hn).symm▸h.names
 top:=by
  have d:=z4i h.names hk hn Top;have a:Z4 { setF st k f' with turn:=t } Top=Z4 (setF st k f') Top:=rfl;rw[a,d,if_neg,h.top];intro o;have:=z7d h.names (z2u hk);rw[<-hn,<-o,h.top] at this;cases this
 tree:=by
  have a:Y3 { setF st k f' with turn:=t }=Y3 (setF st k f'):=rfl;rw[a,zV8 h.names hk hn];exact r
 fol:=λf u=>by
  rcases mem_or_eq_of_mem_set u with e|rfl
  ·exact(h.fol f e).mono om λx e=>e
  ·exact hF
 us20:=h.us20
 u16:=h.u16
 ds20:=h.ds20
 few:=by
  have:=h.few;have a:(setF st k f').folders.length=st.folders.length:=z0m;dsimp only;have j:(setF st k f').users=st.users:=rfl;have q:(setF st k f').deposits=st.deposits:=rfl;rw[a,j,q];omega
 sum:=by
  have d:st.folders[k]? =some (fo st k):=by unfold fo;rw[qLgx hk];rfl
  have a:=zKj (f':=f') d;have j:=h.sum;show z1w (st.folders.set k f')<=3*(n+1)
  omega
 turn:=v
end Go.Proofs.YtdggplhnfhcieaaGreatDoor
