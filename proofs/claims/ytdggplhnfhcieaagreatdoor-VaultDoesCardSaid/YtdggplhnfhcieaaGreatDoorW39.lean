/- No condition. -/
import Derived.SevenTiedAt
import Derived.Stop.Joined
import Derived.Test.YtdggplhnfhcieaaGreatDoorCards
import Derived.Test.YtdggplhnfhcieaaGreatDoorW37
import Derived.Test.YtdggplhnfhcieaaGreatDoorW38
set_option linter.all false
set_option maxRecDepth 100000
set_option maxHeartbeats 16000000
namespace Go.Proofs.YtdggplhnfhcieaaGreatDoor
open Go.Proofs.Tryz Cd Ce List
variable {S:Nat->Prop} {a1:Answer} {c:Call} {late:Bool} {p:Prop} {q r:Int} {st st1:State} {w:World}
section
open Go.RowKit Go.Deep
noncomputable def z14 (st:State) (c:Call) (late:Bool):Res:=if z5s c=true then z12 st c late else(st,ZD 13,false)
section
variable {st:State} {c:Call} {late:Bool}
theorem zU3 (h:z5s c=false):z14 st c late=(st,ZD 13,false):=by unfold z14;rw[h];rfl
theorem zRv (h:z5s c=true) (hb:ZR st c late≠0):z14 st c late=(st,ZD (ZR st c late),false):=by
 unfold z14 z12;rw[if_pos h,if_pos hb]
theorem zU4 (h:z5s c=true) (hb:ZR st c late=0):z14 st c late=doR st c:=by
 unfold z14 z12;rw[if_pos h,if_neg (by rw[hb];decide)]
theorem zX6 (a:CallOk c):c.kind=1\/c.kind=2\/c.kind=3\/c.kind=4\/(5<=c.kind/\c.kind<=7)\/c.kind=8\/c.kind=11\/(c.kind=9\/c.kind=10\/c.kind=12\/c.kind=13)\/c.kind=15\/(c.kind=14\/c.kind=16):=by
 have:=a.k1;have:=a.k16;omega
end
theorem maa (h:p:=by
 clear hkd;go_wp2_with fail
 refine zcm HCON ?_;rintro e8 w8 ⟨⟨cs8,ca8,rfl,hs8,ha8⟩,B8⟩;rw[<-HX.o,<-HDO.o] at hs8 ha8⊢;obtain⟨r,hr⟩:=Ξ (z14 st c late);rw[hr] at hs8 ha8⊢;obtain⟨st1,a1,b1⟩:=r;dsimp only at hs8 ha8⊢;have HRN:=zh hr;clear hr;have HSP:=zh hs8;have HAP:=zh ha8;obtain⟨E1,u1,E2,u2,E3,u3,rfl⟩:=ZN hs8;obtain⟨A3,a3,A4,a4,A5,a5,A6,a6,rfl⟩:=Y8 ha8;have PB:=(HN2.o _ (zD HB5 B8));have QB:=(HN3.o _ (zD HB5 B8));have HLE:=zh (by have hle:w3<=w5.heap.size:=HB5.size;have:=HZ.o;have:=HLT.o;have:=HB3.size;omega:w<=w5.heap.size/\(w<=w1.heap.size/\w1<w5.heap.size)/\(w<=w2.heap.size/\w2<w5.heap.size));have HFIN:=zh (z1c (b:=b1) (S:=S) (st':=st1) (a:=a1) PB QB HNE (zD HB3 (zD HB5 B8)) HLE.2.1.1 HLE.2.2.1 (λW BB BF=>⟨z27 HSP HLE.1 HLE.2.1 HLE.2.2 BB,z28 HAP HLE.1 HLE.2.1 HLE.2.2 BB⟩));obtain⟨q0,q1,q2,q3⟩:=zC4 (zB PB).1;have qz:=(zB PB).2;obtain⟨d0,d1,d2,d3,d4,d5,d6⟩:=zC7 (zB QB).1;have dz:=(zB QB).2;have hne:=HNE.o;have hne':=Ne.symm HNE;clear PB QB hs8 ha8;rw[<-HRN.o] at HFIN;go_wp2_with ((try simp only[φ]);exact YN rfl rfl HFIN.1 rfl HFIN.2.1 rfl rfl rfl HFIN.2.2)):p:=h
theorem zMm {n:Nat} (st:State) (c:Call) (late:Bool) (av:VInv n st) (hn:n<=40) (hs:z7p c) (au ar:List Value) (w:World) (S:Nat->Prop) (h:Z5 S w au st) (ad:z09 S w ar c):
  Calls prog 36 #[.agg au.toArray,.agg ar.toArray,late] w (Ret3 S (z14 st c late) w):=by
 have HR:=zh h;have aN:=zh ad;have f:=zh av;have T:=zh hs;obtain⟨bl,bo,bm,bp,bn,bq,rfl,_,_,_,_,bt,_,_,_,br,_,_,_,bs⟩:=ZF h;obtain⟨ap,aq,rfl,_,a9,a2,a7,a8,_,_,_,_,_,a0⟩:=yG ad;obtain⟨aB,w1,w2,w3,ax,ay,az,bf,ag,ab,ac,an,ao,hne⟩:=z8h w (aS st bl bo bm bp bn bq) (aC c ap aq);have HB3:=zh ag;have aK:=zh ab;have aL:=zh ac;have HN2:=zh an;have HN3:=zh ao;have HNE:=zh hne;have HZ:=zh (by rw[<-az,<-ay,<-ax];simp:w<aB.heap.size/\aB<w1.heap.size/\w1<w2.heap.size);have HLT:=ζ (w2<w3.heap.size) (zI (HN3.o _ zbr));have l:=zh λB (G:(bW w3 B:Prop))=>zM HR (YL (zD HB3 G))
 have bA:=Below.refl w3 w3;obtain⟨s0,s1,s2,s3⟩:=TC4 ab.a;obtain⟨aR,aT,aU,aV,aW,aX,aY,aZ⟩:=TC8 ac.a;clear ab ac an ao hne ag;have O:=ζ (c.user.size<=()/\c.folder.size<=()/\c.name.size<=()/\c.other.size<=()) ⟨a9,a2,a7,a8⟩;have j:=zh λB (G:(bW w3 B:Prop))=>YH aN (YL (zD HB3 G))
 clear bt br bs a0 h ad av hs;go_enter func36,ntmps36
 go_wp2_with fail
 refine zcb (zP2 c.kind c.user c.folder c.name c.other c.role c.version ap c.data aq O.1 O.2.1 O.2.2.1 O.2.2.2 w3) λbu H=>?_;rw[show z58 Z1 c.kind c.user c.folder c.name c.other c.role c.version (c.data:Int)=z5s c from rfl];have aH:=zh H;clear ax ay az bf
 cases K:z5s c with
 | false=>
  have HE:=zh (zU3 (st:=st) (late:=late) K);clear K;go_upto_region 2 with fail
  have bz:=H;exact xER
 | true=>
 have ak:=zh K;have ai:=zh (zAb K T.1 T.2.1 T.2.2.1 T.2.2.2);clear K;go_wp2_with fail
 refine zcb (zJ7 st c late _ _ bu _ (l.o _ H) (j.o _ H)) λw5 ah=>?_;have d:=zD aH ah;have HB5:=zh d;have al:=aK.on d;have am:=aL.on d;obtain⟨bM,bN,bO,bP⟩:=TC4 al.a;obtain⟨bE,bF,bG,bH,bI,bJ,bK,bL⟩:=TC8 am.a;have bB:=Below.refl w5 w5;clear al am;obtain⟨C,V⟩:=Ξ (ZR st c late);rw[V];have N:=zh V;have aI:=zh (by rw[<-V];exact zGs st c late:I64 C);clear V H ah s0 s1 s2 s3 aR aT aU aV aW aX aY aZ;by_cases W:C=0
 rotate_left
 ·have bd:(C !=0)=true:=bne_iff_ne.2 W;have aQ:=zh (by rw[zRv ak.o (by rw[N.o];exact W),N]:z14 st c late=(st,ZD C,false));clear W;have D:=HN2.o _ HB5;have E:=HN3.o _ HB5;go_upto_region 5 with fail
  refine zEC 3 λF=>?_;refine ziU 0 ?_;iterate 2 (refine ztU F ?_;simp only[zA])
  refine zoU ?_;refine tQa 2 λaa J=>?_;go_simp;go_at_call 38
  refine zcb (ZZ C _) λbv I=>?_;have L:(bW w5 bv:Prop):=zD (zbr.drew) I;clear I F;refine J.o _ _ L (λF=>?_);clear J aa;try simp only[zA]
  unfold ZV;have s:=(L.block _ (zI D)).trans D;have t:=(L.block _ (zI E)).trans E;have HFIN:=zh (z1c (b:=false) (S:=S) (st':=st) (a:=ZD C) s t HNE (zD HB3 (zD HB5 L)) (Nat.le_of_lt (Nat.lt_trans HZ.1 HZ.2.1)) (Nat.le_of_lt (Nat.lt_trans HZ.1 (Nat.lt_trans HZ.2.1 HZ.2.2))) (λB BB BF=>⟨zM HR (z4o BF),ZW aI⟩));rw[<-aQ.o] at HFIN;obtain⟨q0,q1,q2,q3⟩:=zC4 (zB s).1;have qz:=(zB s).2;obtain⟨d0,d1,d2,d3,d4,d5,d6⟩:=zC7 (zB t).1;have dz:=(zB t).2;have hne:=HNE.o;have hne':=Ne.symm HNE;clear s t D E;refine tNc 3 ?_
  refine tNc 4 ?_
  refine tNc 5 ?_
  refine Z7 kr ?_ _;exact mcJ
 subst W;have bd:((0:Int) !=0)=false:=rfl;have HDO:=zh (zU4 (st:=st) ak N);have i:=zh ai.1;have aj:=zh ai.2;have m:=zh λ(ba:c.kind≠1)=>zD7 i.o ba N
 go_upto_region 6 with fail
 rcases zX6 i with hkd|hkd|hkd|hkd|hkd|hkd|hkd|hkd|hkd|hkd
 ·have z:(c.kind==2)=false:=ν;have o:(c.kind==3)=false:=ν;have A:(c.kind==4)=false:=ν;have e8:(c.kind==8)=false:=ν;have y:(c.kind==11)=false:=ν;have x:(c.kind==1)=true:=beq_iff_eq.2 om;have d5:decide (5<=c.kind)=false:=η;have v:decide (c.kind<=7)=true:=θ;have u:decide (14<=c.kind)=false:=η;have HX:=zh (by unfold doR;dsimp only;simp only[hkd];rfl:doR st c=YB st c);have HCON:=zh (zJ4 st c hkd (oh f.u16) _ _ w5 _ (l.o _ d) (j.o _ d));exact maa
 ·have z:(c.kind==2)=true:=beq_iff_eq.2 om;have o:(c.kind==3)=false:=ν;have A:(c.kind==4)=false:=ν;have e8:(c.kind==8)=false:=ν;have y:(c.kind==11)=false:=ν;have x:(c.kind==1)=false:=ν;have d5:decide (5<=c.kind)=false:=η;have v:decide (c.kind<=7)=true:=θ;have u:decide (14<=c.kind)=false:=η;have HX:=zh (by unfold doR;dsimp only;simp only[hkd];rfl:doR st c=YR st c);have HCON:=zh (zJ8 st c f hn i _ _ w5 _ (l.o _ d) (j.o _ d));exact maa
 ·obtain⟨e,g⟩:=(m.o om).2.1 (z3m (i.fol om om)) om;have k:=zh g;have z:(c.kind==2)=false:=ν;have o:(c.kind==3)=true:=beq_iff_eq.2 om;have A:(c.kind==4)=false:=ν;have e8:(c.kind==8)=false:=ν;have y:(c.kind==11)=false:=ν;have x:(c.kind==1)=false:=ν;have d5:decide (5<=c.kind)=false:=η;have v:decide (c.kind<=7)=true:=θ;have u:decide (14<=c.kind)=false:=η;have HX:=zh (by unfold doR;dsimp only;rw[g];simp only[hkd];rfl:doR st c=z0t st c e);have HCON:=zh (zMc st c e f hn i k (λbc=>(m.o om).2.2.1 bc hkd) _ _ w5 _ (l.o _ d) (j.o _ d));exact maa
 ·obtain⟨e,g⟩:=(m.o om).2.1 (z3m (i.fol om om)) om;have k:=zh g;have R:=zh (z0l (yO g));have X:=zh (z5r f om R);have aJ:=zh (by have bb:=z4q (z2u R);have bD:=f.sum;unfold yA at bb;omega:(fo st e).manifests.length<=9000);have z:(c.kind==2)=false:=ν;have o:(c.kind==3)=false:=ν;have A:(c.kind==4)=true:=beq_iff_eq.2 om;have e8:(c.kind==8)=false:=ν;have y:(c.kind==11)=false:=ν;have x:(c.kind==1)=false:=ν;have d5:decide (5<=c.kind)=false:=η;have v:decide (c.kind<=7)=true:=θ;have u:decide (14<=c.kind)=false:=η;have HX:=zh (by unfold doR;dsimp only;rw[g];simp only[hkd];rfl:doR st c=z04 st c e);have HCON:=zh (zJa st c e k R (oh f.few) (z8t f.names f.tree 5 c.folder om) (λbx bg=>length_pos_iff.2 ((f.atF R).it bx bg).1) (oh X.o) X.2.2.2.2.1 X.2.2.2.1 aJ ⟨f.turn.1,by have:=f.turn.2;omega⟩ _ _ w5 _ (l.o _ d) (j.o _ d));exact maa
 ·obtain⟨e,g⟩:=(m.o om).2.1 (z3m (i.fol om om)) om;have k:=zh g;have z:(c.kind==2)=false:=ν;have o:(c.kind==3)=false:=ν;have A:(c.kind==4)=false:=ν;have e8:(c.kind==8)=false:=ν;have y:(c.kind==11)=false:=ν;have x:(c.kind==1)=false:=ν;have d5:decide (5<=c.kind)=true:=θ;have v:decide (c.kind<=7)=true:=θ;have u:decide (14<=c.kind)=false:=η;have HX:=zh (by unfold doR;dsimp only;rw[g,if_neg om,if_neg om,if_neg om,if_neg om,if_pos om];rfl:doR st c=yR st c e);have HCON:=zh (zHd st c e f hn k hkd _ _ w5 _ (l.o _ d) (j.o _ d));exact maa
 ·obtain⟨e,g⟩:=(m.o om).2.1 (z3m (i.fol om om)) om;have k:=zh g;have z:(c.kind==2)=false:=ν;have o:(c.kind==3)=false:=ν;have A:(c.kind==4)=false:=ν;have e8:(c.kind==8)=true:=beq_iff_eq.2 om;have y:(c.kind==11)=false:=ν;have x:(c.kind==1)=false:=ν;have d5:decide (5<=c.kind)=true:=θ;have v:decide (c.kind<=7)=false:=η;have u:decide (14<=c.kind)=false:=η;have HX:=zh (by unfold doR;dsimp only;rw[g];simp only[hkd];rfl:doR st c=pdR st c e false);have HCON:=zh (zGf st c false e f hn k (oh aj.o) _ _ w5 _ (l.o _ d) (j.o _ d));exact maa
 ·obtain⟨e,g⟩:=(m.o om).2.1 (z3m (i.fol om om)) om;have k:=zh g;have z:(c.kind==2)=false:=ν;have o:(c.kind==3)=false:=ν;have A:(c.kind==4)=false:=ν;have e8:(c.kind==8)=false:=ν;have y:(c.kind==11)=true:=beq_iff_eq.2 om;have x:(c.kind==1)=false:=ν;have d5:decide (5<=c.kind)=true:=θ;have v:decide (c.kind<=7)=false:=η;have u:decide (14<=c.kind)=false:=η;have HX:=zh (by unfold doR;dsimp only;rw[g];simp only[hkd];rfl:doR st c=pdR st c e true);have HCON:=zh (zGf st c true e f hn k (oh aj.o) _ _ w5 _ (l.o _ d) (j.o _ d));exact maa
 ·obtain⟨e,g⟩:=(m.o om).2.1 (z3m (i.fol om om)) om;have k:=zh g;have z:(c.kind==2)=false:=ν;have o:(c.kind==3)=false:=ν;have A:(c.kind==4)=false:=ν;have e8:(c.kind==8)=false:=ν;have y:(c.kind==11)=false:=ν;have x:(c.kind==1)=false:=ν;have d5:decide (5<=c.kind)=true:=θ;have v:decide (c.kind<=7)=false:=η;have u:decide (14<=c.kind)=false:=η;have HX:=zh (by unfold doR z3j;dsimp only;rw[g];rcases hkd with hkd|hkd|hkd|hkd<;>simp only[hkd]<;>rfl:doR st c=(st,z3j st c e,false));have HCON:=zh λB (G:(bW w3 B:Prop))=>zMk st c e f hn i k hkd _ _ B _ (l.o _ G) (j.o _ G)
  have D:=HN2.o _ d;have E:=HN3.o _ d;clear hkd;go_upto_region 19 with fail
  refine zEC 4 λF=>?_;refine ziU 0 ?_;iterate 3 (refine ztU F ?_;simp only[zA])
  refine zoU ?_;refine tQa 3 λaa J=>?_;go_simp;go_at_call 64
  refine zcm (HCON.o _ (zD HB5 (zbr.drew))) ?_;rintro o bw ⟨⟨_,rfl,U⟩,I⟩;have M:(bW w5 bw:Prop):=zD (zbr.drew) I;clear I F;refine J.o _ _ M (λF=>?_);clear J aa;try simp only[zA]
  obtain⟨a1,aw⟩:=Ξ (z3j st c e);rw[aw] at U;have aG:=zh U;obtain⟨A3,a3,A4,a4,A5,a5,A6,a6,rfl⟩:=Y8 U;have s:=(M.block _ (zI D)).trans D;have t:=(M.block _ (zI E)).trans E;have HLE:=zh (by have:=HB5.size;have:=HZ.o;have:=HLT.o;have:=HB3.size;omega:w<=w5.heap.size/\(w<=w1.heap.size/\w1<w5.heap.size)/\(w<=w2.heap.size/\w2<w5.heap.size));have HFIN:=zh (z1c (b:=false) (S:=S) (st':=st) (a:=a1) s t HNE (zD HB3 (zD HB5 M)) HLE.2.1.1 HLE.2.2.1 (λB BB BF=>⟨zM HR (z4o BF),z28 aG HLE.1 HLE.2.1 HLE.2.2 BB⟩));have aO:=(by rw[HDO.o,HX.o,aw]:z14 st c late=(st,a1,false));rw[<-aO] at HFIN;obtain⟨q0,q1,q2,q3⟩:=zC4 (zB s).1;have qz:=(zB s).2;obtain⟨d0,d1,d2,d3,d4,d5,d6⟩:=zC7 (zB t).1;have dz:=(zB t).2;have hne:=HNE.o;have hne':=Ne.symm HNE;clear s t D E U;refine tNc 4 ?_
  refine tNc 5 ?_
  refine tNc 6 ?_
  refine Z7 kr ?_ _;exact mcJ
 ·obtain⟨af,ae⟩:=(m.o om).1;have Z:=zh ae;have z:(c.kind==2)=false:=ν;have o:(c.kind==3)=false:=ν;have A:(c.kind==4)=false:=ν;have e8:(c.kind==8)=false:=ν;have y:(c.kind==11)=false:=ν;have x:(c.kind==1)=false:=ν;have d5:decide (5<=c.kind)=true:=θ;have v:decide (c.kind<=7)=false:=η;have u:decide (14<=c.kind)=true:=θ;have HX:=zh (by unfold doR;dsimp only;simp only[hkd];rfl:doR st c=z8f st c);have HCON:=zh (zH9 st c hkd af Z (oh f.u16) _ _ w5 _ (l.o _ d) (j.o _ d));exact maa
 obtain⟨af,ae⟩:=(m.o om).1;have Z:=zh ae;obtain⟨u2,be⟩:=(m.o om).2.2.2 (z3m (i.dep hkd)) om;have aP:=zh be;have z:(c.kind==2)=false:=ν;have o:(c.kind==3)=false:=ν;have A:(c.kind==4)=false:=ν;have e8:(c.kind==8)=false:=ν;have y:(c.kind==11)=false:=ν;have x:(c.kind==1)=false:=ν;have d5:decide (5<=c.kind)=true:=θ;have v:decide (c.kind<=7)=false:=η;have u:decide (14<=c.kind)=true:=θ;have HX:=zh (by unfold doR z64;dsimp only;rcases hkd with hkd|hkd<;>simp only[hkd]<;>rfl:doR st c=z64 st c);have HCON:=zh (zJ5 st c hkd af u2 Z aP (oh f.u16) (oh f.few) _ _ w5 _ (l.o _ d) (j.o _ d));exact maa
end
section
open Go.RowKit Go.Deep
section
variable {P:Program} {ops:Array Oper} {Q:Exit->Act->World->Prop} {md:Region.Mode} {S:World->Prop} {n:Nat} {fr:List Nat}
theorem zLj {i j k:Nat} {oi g h:Oper} {fuel:Nat} {listed:Array Bool} {a:Act} (hr:Region.ready md ops listed=[i,j,k]) (hi:ops[i]? =some oi) (hj:ops[j]? =some g) (hk:ops[k]? =some h)
  (h1:∀b:Act->World->Prop,Shut (∀a w,S w->(S w->YU P md ops Q S n fr fuel (listed.setIfInBounds i true) a w)->b a w)->if Region.wanted oi (yielded ops a.tmps)=true then Oper.wp P oi a w b Q else b (a.put oi.dst undef) w)
  (h2:∀b:Act->World->Prop,Shut (∀a w,S w->(S w->YU P md ops Q S n fr fuel (listed.setIfInBounds j true) a w)->b a w)->if Region.wanted g (yielded ops a.tmps)=true then Oper.wp P g a w b Q else b (a.put g.dst undef) w)
  (h3:∀b:Act->World->Prop,Shut (∀a w,S w->(S w->YU P md ops Q S n fr fuel (listed.setIfInBounds k true) a w)->b a w)->if Region.wanted h (yielded ops a.tmps)=true then Oper.wp P h a w b Q else b (a.put h.dst undef) w):
  YU P md ops Q S n fr (fuel+1) listed a w:=by
 refine⟨λo=>(by rw[o] at hr;cases hr),λl m=>?_⟩;rw[hr] at m;rcases(by simpa using m:l=i\/l=j\/l=k) with rfl|rfl|rfl
 ·exact wpOp_step hi (λb e=>h1 b (λa w d f=>e a w ⟨λ_=>d,f d⟩))
 ·exact wpOp_step hj (λb e=>h2 b (λa w d f=>e a w ⟨λ_=>d,f d⟩))
 exact wpOp_step hk (λb e=>h3 b (λa w d f=>e a w ⟨λ_=>d,f d⟩))
end
def DV (h:Nat) (S:Nat->Prop) (w:World) (st:State) (q r:Int):Prop:=∃a e b f d g,w.heap[h]? =some (.cells #[st.turn,.slice a st.users e,.slice b st.deposits f,.slice d st.folders g,q,r] 36 (0,0))/\
 Z5 S w (lS st a e b f d g) st
noncomputable def doX (st:State) (q r:Int) (c:Call) (late:Bool):State×Answer:=if z5s c=true then doV st q r c late else(st,ZD 13)
theorem zVu {st1:State} (h:z14 st c late=(st1,a1,false)):doX st q r c late=(st,a1):=by
 unfold z14 at h;unfold doX;split at h
 ·rename_i a;rw[if_pos a];unfold doV;rw[h];rfl
 rename_i a;rw[if_neg a];simp only[Prod.mk.injEq] at h;rw[<-h.2.1]
theorem zVv (h:z14 st c late=(st1,a1,true)) (hm:z5s c=true):doX st q r c late=if c.kind≠15/\c.kind≠16/\Bd.fitsOf st1 q r≠0 then(st,ZD (Bd.fitsOf st1 q r)) else(st1,a1):=by
 unfold z14 at h;rw[if_pos hm] at h;unfold doX doV;rw[if_pos hm,h];rfl
theorem zRw {st:State} {late:Bool} {st1:State} {a1:Answer} (h:z14 st c late=(st1,a1,true)):z5s c=true:=by
 cases a:z5s c with
 | true=>rfl
 | false=>
  unfold z14 at h;rw[a] at h;simp at h
def zP5 (S:Nat->Prop) (w w1:World) (st1:State) (a1:Answer) (l b8:Nat) (W:World):Prop:=w1.heap.size<=l/\w1<=b8/\∃f m g o h s a a3 b i d j e k,W.heap[l]? =some (.cells (aS st1 f m g o h s) 34 (0,0))/\
 W.heap[b8]? =some (.cells (aA a1 a a3 b i d j e k) 49 (0,0))/\
 Z5 (New (Old S w) w1) W (lS st1 f m g o h s) st1/\
 yJ (New (Old S w) w1) W (lA a1 a a3 b i d j e k) a1/\bW w1 W
theorem zAc {w1 W6 e g:World} {d b8:Nat} {m:Option Addr} {y:Nat} {o:Option Addr} {z:Nat} {s:Option Addr} {A:Nat} {i:Option Addr} {a3:Nat} {j:Option Addr} {u:Nat} {k:Option Addr} {v:Nat} {l:Option Addr} {x:Nat}
  (hs:Z5 (New (Old S w) W6) e (lS st1 m y o z s A) st1) (ha:yJ (New (Old S w) W6) e (lA a1 i a3 j u k v l x) a1)
  (R:w<=w1.heap.size) (K:w1<=W6.heap.size) (M:w1<=d) (N:w1<=b8) (O:d<W6\/e<=d) (h8:b8<W6\/e<=b8) (I:d≠b8)
  (J:g.heap[d]? =some (.cells z6t 34 (0,0))) (G:g.heap[b8]? =some (.cells z59 49 (0,0))) (D:(bW e g:Prop)) (C:(bW w1 g:Prop)):
  zP5 S w w1 st1 a1 d b8 (zKz g d b8 st1.turn (.slice m st1.users y) (.slice o st1.deposits z) (.slice s st1.folders A) a1.err a1.number a1.who (.slice i a1.data a3) (.slice j a1.names u) (.slice k a1.members v) (.slice l a1.history x)):=by
 have h:=z2o J st1.turn (.slice m st1.users y) (.slice o st1.deposits z) (.slice s st1.folders A);have t:=ZC ((h.2.block _ (zI G) (Ne.symm I)).trans G) a1.err a1.number a1.who (.slice i a1.data a3) (.slice j a1.names u) (.slice k a1.members v) (.slice l a1.history x);have E:=(h.2.mono (B':=λB=>B=d\/B=b8) λ_ a=> .inl a).trans (t.2.mono λ_ a=> .inr a);have F:=λf (b:New (Old S w) W6 f) (H:f<e)=>(show New (Old S w) w1 f/\_ from⟨b.imp id λa=>qNtx K a,(E.block f (zll H D.size) (by
  have:=b;rintro(a|a)<;>subst a
  ·rcases b with b|b
   ·have:=b.2;omega
   ·omega
  ·rcases b with b|b
   ·have:=b.2;omega
   ·omega)).trans (D.block f H)⟩)
 exact⟨M,N,_,_,_,_,_,_,_,_,_,_,_,_,_,_,(t.2.block _ (zI h.1) I).trans h.1,t.1,zM hs F,yY ha F,ButB.below C C.size (λB L=>by rcases L with a|a<;>omega) E⟩
theorem zAd {S:Nat->Prop} {w w1:World} {st1:State} {a1:Answer} {d b8:Nat} {a:World} (h:zP5 S w w1 st1 a1 d b8 a):(bW w1 a:Prop):=by
 obtain⟨_,_,_,_,_,_,_,_,_,_,_,_,_,_,_,_,_,_,_,_,b⟩:=h;exact b
theorem zX7 {pb:Nat} {T:TypeId} {l f e d a b:Value} (h:w.heap[pb]? =some (.cells #[l,f,e,d,a,b] T (0,0))) (a0 a1 a2 a3:Value):
  ((((w.setCell (aD pb 0) a0).setCell (aD pb 1) a1).setCell (aD pb 2) a2).setCell (aD pb 3) a3).heap[pb]? =some (.cells #[a0,a1,a2,a3,a,b] T (0,0))/\ButB (·=pb) w ((((w.setCell (aD pb 0) a0).setCell (aD pb 1) a1).setCell (aD pb 2) a2).setCell (aD pb 3) a3):=by
 have g:=zH (i:=0) (cs':=#[a0,f,e,d,a,b]) a0 h rfl;have j:=zH (i:=1) (cs':=#[a0,a1,e,d,a,b]) a1 g rfl;have k:=zH (i:=2) (cs':=#[a0,a1,a2,d,a,b]) a2 j rfl;have h3:=zH (i:=3) (cs':=#[a0,a1,a2,a3,a,b]) a3 k rfl;exact mb9
def zJf (S:Nat->Prop) (b:Nat) (st':State) (q r:Int) (a:Answer) (w:World) (e:Ending) (w':World):Prop:=∃d:List Value,e= .returned (.agg d.toArray)/\DV b (New S w) w' st' q r/\yJ (New S w) w' d a/\ButB (·=b) w w'
theorem mbm (h:p:=by
 go_wp2_with ((try simp only[φ]);exact z7h rfl rfl HG.1 rfl HFIN)):p:=h
theorem zRx {n:Nat} (st:State) (q r:Int) (c:Call) (late:Bool) (L:Nat) (b1:VInv n st) (hn:n<=40) (b8:z7p c) (bU:List Value) (w:World) (S:Nat->Prop) (b2:¬S L) (h:DV L S w st q r) (bs:z09 S w bU c):
  Calls prog 13 #[pT L,.agg bU.toArray,late] w (zJf S L (doX st q r c late).1 q r (doX st q r c late).2 w):=by
 obtain⟨_,c8,_,_,_,_,b5,b9⟩:=h;have bp:=zh b9;have cr:=zh bs;have bN:=zh b1;have ai:=zh b8;have aX:=zh b5;have cs:=zh b2;obtain⟨bS,bT,rfl,_,_,_,_,_,_,_,_,_,_,cA⟩:=yG bs;obtain⟨ay,ca,cB,cN,bB,cd⟩:=zP w (aC c bS bT) 41;obtain⟨b,bk,cC,cO,bC,ce⟩:=zP ay z59 49;have bJ:=zh (ZJ (by rw[<-bk,<-ca];exact zR _ (zJ _ rfl):b.heap[w.heap.size]? =some (.cells (aC c bS bT) 41 (0,0))));have cq:=zh (ZJ (zbx bk));have bb:=zh (zD bB bC);have bK:=zh (ZJ ((bb.block _ (zI aX)).trans aX));have aL:=zh (zI aX);have G:=ζ (w<ay.heap.size/\ay<b.heap.size) ⟨cd,ce⟩;have aN:=zh λaO (b3:(bW b aO:Prop))=>zMm st c late bN hn ai _ _ aO (Old S w) (zM bp (YL (zD bb b3))) (YH cr (YL (zD bb b3)))
 obtain⟨bx,bw⟩:=Ξ (z14 st c late);rw[bw] at aN;obtain⟨st1,a1,bV⟩:=bx;have bd:=zh bw;have c3:=Below.refl b b;obtain⟨cf,cg,ci,cj⟩:=TC4 bK.a;obtain⟨bR,ct,cu,cv,cw,cx,cy,cz⟩:=TC8 bJ.a;clear b5 b9 bs b1 b8 b2 bw cA cB cC cN cO bB bC cd ce;unfold z59 at bk;go_enter func13,ntmps13
 go_upto_region 1 with fail
 clear ca bk;go_cut [7,8,9] from 11 to 21 (λcX cY cZ bz=>∃aP aQ:Nat,cX= .pointer (some ⟨aP,0,none⟩)/\cY= .pointer (some ⟨aQ,0,none⟩)/\cZ= .bool bV/\Hid (zP5 S w b st1 a1 aP aQ bz))
 case first=>
  refine zEC 15 λd=>?_;refine ziU 0 ?_;iterate 6 (refine ztU d ?_;simp only[zA])
  refine zoU ?_;refine zLj (i:=6) (j:=11) (k:=12) kr rfl rfl rfl (λf a=>?_) (λf a=>?_) (λf a=>?_)
  ·go_simp;go_at_call 36
   refine zcm (aN.o _ (zbr.drew)) ?_;rintro aR m ⟨⟨bi,bh,rfl,I,H⟩,D⟩;have v:(bW b m:Prop):=zD (zbr.drew) D;have N:=zh D;clear D d;refine a.o _ _ v (λd=>?_);clear a f;try simp only[zA]
   obtain⟨aI,aT,aJ,aU,aK,aV,rfl⟩:=ZN I;obtain⟨O,V,R,W,T,X,U,Y,rfl⟩:=Y8 H;have ae:=zh I;have aa:=zh H;clear I H;refine ziU 7 ?_;iterate 4 (refine ztU d ?_;simp only[zA])
   refine zoU ?_;have M:=N.o;have ad:=zh (by first|exact N.size|exact M.size:b<=m.heap.size);refine z4p (i:=11) (j:=12) kr rfl rfl (λf a=>?_) (λf a=>?_)
   ·go_simp;generalize z:World.alloc _ _=s;have x:=(by rw[<-z];exact Below.alloc (v) (v).size _:(bW b s:Prop));clear d;refine a.o _ _ x (λd=>?_);clear a f;try simp only[zA]
    have g:=zh (zbx z);have af:=zh (by rw[<-z];exact Below.alloc zbr (znl _) _:(bW m s:Prop));have be:=zh v.size;clear z;have ab:=zh (zI g);refine tQa 12 λf a=>?_;go_simp;generalize A:World.alloc _ _=o;have y:=(by rw[<-A];exact Below.alloc (x) (x).size _:(bW b o:Prop));clear d;refine a.o _ _ y (λd=>?_);clear a f;try simp only[zA]
    have l:=zh (zbx A);have ag:=zh (by rw[<-A];exact Below.alloc zbr (znl _) _:(bW s o:Prop));have bf:=zh x.size;have J:=(ag.block _ (zI g)).trans g;clear g;have g:=zh J;clear J;clear A;have ac:=zh (zI l);have e:=ζ (b<=m.heap.size/\m<s.heap.size/\s<o.heap.size/\w<=b.heap.size) ⟨ad,ab,ac,Nat.le_of_lt (Nat.lt_trans G.1 G.2)⟩;have Z:¬m=s.heap.size:=by have:=e.o;omega
    have a3:¬s=m.heap.size:=by have:=e.o;omega
    have E:=zh (zAc (S:=S) (w:=w) (w1:=b) (W6:=b) ae aa e.2.2.2 (oh e.o) (oh e.o) (oh e.o) (.inr (oh e.o)) (.inr (oh e.o)) Z g l (zD (af) ag) y);have B:=g.o;have C:=l.o;obtain⟨a4,a5,a6,a7⟩:=zC4 (zB B).1;have a8:=(zB B).2;obtain⟨an,ao,ap,aq,ar,au,av⟩:=zC7 (zB C).1;have aw:=(zB C).2;clear B C;refine tQa 13 λf a=>?_;go_simp;clear d;refine a.o _ _ (ButB.below y y.size (λt F=>by have u:t=m:=F;have:=e.o;omega) (z2o g _ _ _ _).2) (λd=>?_);clear a f;try simp only[zA]
    refine tQa 14 λf a=>?_;go_simp;clear d;refine a.o _ _ (zAd E) (λd=>?_);clear a f;try simp only[zA]
    refine tNc 15 ?_
    refine Z7 kr ?_ _;go_wp2;go_meet
    case rel=>exact⟨m,s,rfl,rfl,rfl,E⟩
   go_simp;generalize A:World.alloc _ _=o;have y:=(by rw[<-A];exact Below.alloc (v) (v).size _:(bW b o:Prop));clear d;refine a.o _ _ y (λd=>?_);clear a f;try simp only[zA]
   have l:=zh (zbx A);have ag:=zh (by rw[<-A];exact Below.alloc zbr (znl _) _:(bW m o:Prop));have bf:=zh v.size;clear A;have ac:=zh (zI l);refine tQa 11 λf a=>?_;go_simp;generalize z:World.alloc _ _=s;have x:=(by rw[<-z];exact Below.alloc (y) (y).size _:(bW b s:Prop));clear d;refine a.o _ _ x (λd=>?_);clear a f;try simp only[zA]
   have g:=zh (zbx z);have af:=zh (by rw[<-z];exact Below.alloc zbr (znl _) _:(bW o s:Prop));have be:=zh y.size;have K:=(af.block _ (zI l)).trans l;clear l;have l:=zh K;clear K;clear z;have ab:=zh (zI g);have e:=ζ (b<=m.heap.size/\m<o.heap.size/\o<s.heap.size/\w<=b.heap.size) ⟨ad,ac,ab,Nat.le_of_lt (Nat.lt_trans G.1 G.2)⟩;have Z:¬o=m.heap.size:=by have:=e.o;omega
   have a3:¬m=o.heap.size:=by have:=e.o;omega
   have E:=zh (zAc (S:=S) (w:=w) (w1:=b) (W6:=b) ae aa e.2.2.2 (oh e.o) (oh e.o) (oh e.o) (.inr (oh e.o)) (.inr (oh e.o)) Z g l (zD (ag) af) x);have B:=g.o;have C:=l.o;obtain⟨a4,a5,a6,a7⟩:=zC4 (zB B).1;have a8:=(zB B).2;obtain⟨an,ao,ap,aq,ar,au,av⟩:=zC7 (zB C).1;have aw:=(zB C).2;clear B C;refine tQa 13 λf a=>?_;go_simp;clear d;refine a.o _ _ (ButB.below x x.size (λt F=>by have u:t=o:=F;have:=e.o;omega) (z2o g _ _ _ _).2) (λd=>?_);clear a f;try simp only[zA]
   refine tQa 14 λf a=>?_;go_simp;clear d;refine a.o _ _ (zAd E) (λd=>?_);clear a f;try simp only[zA]
   refine tNc 15 ?_
   refine Z7 kr ?_ _;go_wp2;go_meet
   case rel=>exact⟨o,m,rfl,rfl,rfl,E⟩
  ·go_simp;generalize z:World.drew (World.alloc _ _)=s;have x:=(by rw[<-z];exact(Below.alloc zbr (znl _) _).drew:(bW b s:Prop));clear d;refine a.o _ _ x (λd=>?_);clear a f;try simp only[zA]
   have g:=zh (by rw[<-z];exact ZQ (zJ _ rfl):s.heap[b.heap.size]? =some (.cells #['0',(),(),()] 34 (0,0)));have af:=zh (by rw[<-z];exact(Below.alloc zbr (znl _) _).drew:(bW b s:Prop));have be:=zh (znl b);clear z;have ab:=zh (zI g);refine z4p (i:=6) (j:=12) kr rfl rfl (λf a=>?_) (λf a=>?_)
   ·go_simp;go_at_call 36
    refine zcm (aN.o _ (x)) ?_;rintro aR m ⟨⟨bi,bh,rfl,I,H⟩,D⟩;have v:(bW b m:Prop):=zD (x) D;have N:=zh D;clear D d;refine a.o _ _ v (λd=>?_);clear a f;try simp only[zA]
    obtain⟨aI,aT,aJ,aU,aK,aV,rfl⟩:=ZN I;obtain⟨O,V,R,W,T,X,U,Y,rfl⟩:=Y8 H;have ae:=zh I;have aa:=zh H;clear I H;refine ziU 7 ?_;iterate 4 (refine ztU d ?_;simp only[zA])
    refine zoU ?_;have M:=N.o;have J:=(M.block _ (zI g)).trans g;clear g;have g:=zh J;clear J;have ad:=zh (by first|exact N.size|exact M.size:s<=m.heap.size);refine tQa 12 λf a=>?_;go_simp;generalize A:World.alloc _ _=o;have y:=(by rw[<-A];exact Below.alloc (v) (v).size _:(bW b o:Prop));clear d;refine a.o _ _ y (λd=>?_);clear a f;try simp only[zA]
    have l:=zh (zbx A);have ag:=zh (by rw[<-A];exact Below.alloc zbr (znl _) _:(bW m o:Prop));have bf:=zh v.size;have J:=(ag.block _ (zI g)).trans g;clear g;have g:=zh J;clear J;clear A;have ac:=zh (zI l);have e:=ζ (b<s.heap.size/\s<=m.heap.size/\m<o.heap.size/\w<=b.heap.size) ⟨ab,ad,ac,Nat.le_of_lt (Nat.lt_trans G.1 G.2)⟩;have Z:¬b=m.heap.size:=by have:=e.o;omega
    have a3:¬m=b.heap.size:=by have:=e.o;omega
    have E:=zh (zAc (S:=S) (w:=w) (w1:=b) (W6:=s) ae aa e.2.2.2 (oh e.o) (oh e.o) (oh e.o) (.inl (oh e.o)) (.inr (oh e.o)) Z g l (ag) y);have B:=g.o;have C:=l.o;obtain⟨a4,a5,a6,a7⟩:=zC4 (zB B).1;have a8:=(zB B).2;obtain⟨an,ao,ap,aq,ar,au,av⟩:=zC7 (zB C).1;have aw:=(zB C).2;clear B C;refine tQa 13 λf a=>?_;go_simp;clear d;refine a.o _ _ (ButB.below y y.size (λt F=>by have u:t=b:=F;have:=e.o;omega) (z2o g _ _ _ _).2) (λd=>?_);clear a f;try simp only[zA]
    refine tQa 14 λf a=>?_;go_simp;clear d;refine a.o _ _ (zAd E) (λd=>?_);clear a f;try simp only[zA]
    refine tNc 15 ?_
    refine Z7 kr ?_ _;go_wp2;go_meet
    case rel=>exact⟨b,m,rfl,rfl,rfl,E⟩
   go_simp;generalize A:World.alloc _ _=o;have y:=(by rw[<-A];exact Below.alloc (x) (x).size _:(bW b o:Prop));clear d;refine a.o _ _ y (λd=>?_);clear a f;try simp only[zA]
   have l:=zh (zbx A);have ag:=zh (by rw[<-A];exact Below.alloc zbr (znl _) _:(bW s o:Prop));have bf:=zh x.size;have J:=(ag.block _ (zI g)).trans g;clear g;have g:=zh J;clear J;clear A;have ac:=zh (zI l);refine tQa 6 λf a=>?_;go_simp;go_at_call 36
   refine zcm (aN.o _ (y)) ?_;rintro aR m ⟨⟨bi,bh,rfl,I,H⟩,D⟩;have v:(bW b m:Prop):=zD (y) D;have N:=zh D;clear D d;refine a.o _ _ v (λd=>?_);clear a f;try simp only[zA]
   obtain⟨aI,aT,aJ,aU,aK,aV,rfl⟩:=ZN I;obtain⟨O,V,R,W,T,X,U,Y,rfl⟩:=Y8 H;have ae:=zh I;have aa:=zh H;clear I H;refine ziU 7 ?_;iterate 4 (refine ztU d ?_;simp only[zA])
   refine zoU ?_;have M:=N.o;have J:=(M.block _ (zI g)).trans g;clear g;have g:=zh J;clear J;have K:=(M.block _ (zI l)).trans l;clear l;have l:=zh K;clear K;have ad:=zh (by first|exact N.size|exact M.size:o<=m.heap.size);have e:=ζ (b<s.heap.size/\s<o.heap.size/\o<=m.heap.size/\w<=b.heap.size) ⟨ab,ac,ad,Nat.le_of_lt (Nat.lt_trans G.1 G.2)⟩;have Z:¬b=s.heap.size:=by have:=e.o;omega
   have a3:¬s=b.heap.size:=by have:=e.o;omega
   have E:=zh (zAc (S:=S) (w:=w) (w1:=b) (W6:=o) ae aa e.2.2.2 (oh e.o) (oh e.o) (oh e.o) (.inl (oh e.o)) (.inl (oh e.o)) Z g l zbr v);have B:=g.o;have C:=l.o;obtain⟨a4,a5,a6,a7⟩:=zC4 (zB B).1;have a8:=(zB B).2;obtain⟨an,ao,ap,aq,ar,au,av⟩:=zC7 (zB C).1;have aw:=(zB C).2;clear B C;refine tQa 13 λf a=>?_;go_simp;clear d;refine a.o _ _ (ButB.below v v.size (λt F=>by have u:t=b:=F;have:=e.o;omega) (z2o g _ _ _ _).2) (λd=>?_);clear a f;try simp only[zA]
   refine tQa 14 λf a=>?_;go_simp;clear d;refine a.o _ _ (zAd E) (λd=>?_);clear a f;try simp only[zA]
   refine tNc 15 ?_
   refine Z7 kr ?_ _;go_wp2;go_meet
   case rel=>exact⟨b,s,rfl,rfl,rfl,E⟩
  go_simp;generalize A:World.drew (World.alloc _ _)=o;have y:=(by rw[<-A];exact(Below.alloc zbr (znl _) _).drew:(bW b o:Prop));clear d;refine a.o _ _ y (λd=>?_);clear a f;try simp only[zA]
  have l:=zh (by rw[<-A];exact ZQ (zJ _ rfl):o.heap[b.heap.size]? =some (.cells oA 49 (0,0)));have ag:=zh (by rw[<-A];exact(Below.alloc zbr (znl _) _).drew:(bW b o:Prop));have bf:=zh (znl b);clear A;have ac:=zh (zI l);refine z4p (i:=6) (j:=11) kr rfl rfl (λf a=>?_) (λf a=>?_)
  ·go_simp;go_at_call 36
   refine zcm (aN.o _ (y)) ?_;rintro aR m ⟨⟨bi,bh,rfl,I,H⟩,D⟩;have v:(bW b m:Prop):=zD (y) D;have N:=zh D;clear D d;refine a.o _ _ v (λd=>?_);clear a f;try simp only[zA]
   obtain⟨aI,aT,aJ,aU,aK,aV,rfl⟩:=ZN I;obtain⟨O,V,R,W,T,X,U,Y,rfl⟩:=Y8 H;have ae:=zh I;have aa:=zh H;clear I H;refine ziU 7 ?_;iterate 4 (refine ztU d ?_;simp only[zA])
   refine zoU ?_;have M:=N.o;have K:=(M.block _ (zI l)).trans l;clear l;have l:=zh K;clear K;have ad:=zh (by first|exact N.size|exact M.size:o<=m.heap.size);refine tQa 11 λf a=>?_;go_simp;generalize z:World.alloc _ _=s;have x:=(by rw[<-z];exact Below.alloc (v) (v).size _:(bW b s:Prop));clear d;refine a.o _ _ x (λd=>?_);clear a f;try simp only[zA]
   have g:=zh (zbx z);have af:=zh (by rw[<-z];exact Below.alloc zbr (znl _) _:(bW m s:Prop));have be:=zh v.size;have K:=(af.block _ (zI l)).trans l;clear l;have l:=zh K;clear K;clear z;have ab:=zh (zI g);have e:=ζ (b<o.heap.size/\o<=m.heap.size/\m<s.heap.size/\w<=b.heap.size) ⟨ac,ad,ab,Nat.le_of_lt (Nat.lt_trans G.1 G.2)⟩;have Z:¬m=b.heap.size:=by have:=e.o;omega
   have a3:¬b=m.heap.size:=by have:=e.o;omega
   have E:=zh (zAc (S:=S) (w:=w) (w1:=b) (W6:=o) ae aa e.2.2.2 (oh e.o) (oh e.o) (oh e.o) (.inr (oh e.o)) (.inl (oh e.o)) Z g l (af) x);have B:=g.o;have C:=l.o;obtain⟨a4,a5,a6,a7⟩:=zC4 (zB B).1;have a8:=(zB B).2;obtain⟨an,ao,ap,aq,ar,au,av⟩:=zC7 (zB C).1;have aw:=(zB C).2;clear B C;refine tQa 13 λf a=>?_;go_simp;clear d;refine a.o _ _ (ButB.below x x.size (λt F=>by have u:t=m:=F;have:=e.o;omega) (z2o g _ _ _ _).2) (λd=>?_);clear a f;try simp only[zA]
   refine tQa 14 λf a=>?_;go_simp;clear d;refine a.o _ _ (zAd E) (λd=>?_);clear a f;try simp only[zA]
   refine tNc 15 ?_
   refine Z7 kr ?_ _;go_wp2;go_meet
   case rel=>exact⟨m,b,rfl,rfl,rfl,E⟩
  go_simp;generalize z:World.alloc _ _=s;have x:=(by rw[<-z];exact Below.alloc (y) (y).size _:(bW b s:Prop));clear d;refine a.o _ _ x (λd=>?_);clear a f;try simp only[zA]
  have g:=zh (zbx z);have af:=zh (by rw[<-z];exact Below.alloc zbr (znl _) _:(bW o s:Prop));have be:=zh y.size;have K:=(af.block _ (zI l)).trans l;clear l;have l:=zh K;clear K;clear z;have ab:=zh (zI g);refine tQa 6 λf a=>?_;go_simp;go_at_call 36
  refine zcm (aN.o _ (x)) ?_;rintro aR m ⟨⟨bi,bh,rfl,I,H⟩,D⟩;have v:(bW b m:Prop):=zD (x) D;have N:=zh D;clear D d;refine a.o _ _ v (λd=>?_);clear a f;try simp only[zA]
  obtain⟨aI,aT,aJ,aU,aK,aV,rfl⟩:=ZN I;obtain⟨O,V,R,W,T,X,U,Y,rfl⟩:=Y8 H;have ae:=zh I;have aa:=zh H;clear I H;refine ziU 7 ?_;iterate 4 (refine ztU d ?_;simp only[zA])
  refine zoU ?_;have M:=N.o;have K:=(M.block _ (zI l)).trans l;clear l;have l:=zh K;clear K;have J:=(M.block _ (zI g)).trans g;clear g;have g:=zh J;clear J;have ad:=zh (by first|exact N.size|exact M.size:s<=m.heap.size);have e:=ζ (b<o.heap.size/\o<s.heap.size/\s<=m.heap.size/\w<=b.heap.size) ⟨ac,ab,ad,Nat.le_of_lt (Nat.lt_trans G.1 G.2)⟩;have Z:¬o=b.heap.size:=by have:=e.o;omega
  have a3:¬b=o.heap.size:=by have:=e.o;omega
  have E:=zh (zAc (S:=S) (w:=w) (w1:=b) (W6:=s) ae aa e.2.2.2 (oh e.o) (oh e.o) (oh e.o) (.inl (oh e.o)) (.inl (oh e.o)) Z g l zbr v);have B:=g.o;have C:=l.o;obtain⟨a4,a5,a6,a7⟩:=zC4 (zB B).1;have a8:=(zB B).2;obtain⟨an,ao,ap,aq,ar,au,av⟩:=zC7 (zB C).1;have aw:=(zB C).2;clear B C;refine tQa 13 λf a=>?_;go_simp;clear d;refine a.o _ _ (ButB.below v v.size (λt F=>by have u:t=o:=F;have:=e.o;omega) (z2o g _ _ _ _).2) (λd=>?_);clear a f;try simp only[zA]
  refine tQa 14 λf a=>?_;go_simp;clear d;refine a.o _ _ (zAd E) (λd=>?_);clear a f;try simp only[zA]
  refine tNc 15 ?_
  refine Z7 kr ?_ _;go_wp2;go_meet
  case rel=>exact⟨o,b,rfl,rfl,rfl,E⟩
 case rest=>
 obtain⟨aP,aQ,rfl,rfl,rfl,E⟩:=hcut;obtain⟨az,rfl⟩:∃t:World,t=wc:=⟨_,rfl⟩;obtain⟨cb,cc,aI,aT,aJ,aU,aK,aV,O,V,R,W,T,X,U,Y,bO,al,b7,b4,a9⟩:=E.o;have bL:=zh b7;have bD:=zh b4;have ck:=zh a9;have bI:=zh (ZJ bO);have bH:=ζ (b<=aP/\b<=aQ) ⟨cb,cc⟩;have aW:=zh (zD bb a9);have bo:=zh (cq.on a9);have bM:=zh (bK.on a9);have bq:=Below.refl az az;have cD:=(ZJ al).at 0 rfl;have cE:=(ZJ al).at 1 rfl;have cF:=(ZJ al).at 2 rfl;have aR:=(ZJ al).at 3 rfl;have cH:=(ZJ al).at 4 rfl;have cJ:=(ZJ al).at 5 rfl;have cK:=(ZJ al).at 6 rfl;have bG:=zh (show ∀aO (br:Nat->Prop),ButB br az aO->(∀t,br t->t=L\/t=ay.heap.size)->∀am,New (Old S w) b am->am<az.heap.size->New S w am/\aO.heap[am]? =az.heap[am]? from λaO br cQ cP am ak cT=>by
  have F:=G.o;have c6:=aL.o;refine⟨ak.elim (λu=> .inl u.1) (λu=> .inr om),cQ.block am cT λcV=>?_⟩;rcases cP am cV with u|u
  ·subst u;rcases ak with ak|ak
   ·exact cs.o ak.1
   ·omega
  ·subst u;rcases ak with ak|ak
   ·have:=ak.2;omega
   ·omega)
 clear bO al b7 b4 cb cc E cf cg ci cj ct cu cv cw cx cy cz
 cases bV with
 | false=>
  have a0:=zh (zVu (q:=q) (r:=r) bd);have aj:=bo.o az bq;have HG:=zh (ZC aj a1.err a1.number a1.who (.slice O a1.data V) (.slice R a1.names W) (.slice T a1.members X) (.slice U a1.history Y));have aG:=zh (ButB.below aW aW.size (λt F=>by have:=G.o;omega) HG.2);have HFIN:=zh (show zJf S L (doX st q r c late).1 q r (doX st q r c late).2 w (.returned (.agg (aA a1 O V R W T X U Y))) _ from by
   rw[a0.o];exact⟨(lA a1 O V R W T X U Y),rfl,⟨_,_,_,_,_,_,(aG.block _ aL).trans aX,zM bp (z4o aG)⟩,yY bD (bG.o _ _ HG.2 λt u=> .inr u),ButB.of aG⟩)
  obtain⟨an,ao,ap,aq,ar,au,av⟩:=zC7 (zB aj).1;have aw:=(zB aj).2;clear aj bR
  exact mbm
 | true=>
 have bc:=zh (zRw bd);have a0:=zh (zVv (q:=q) (r:=r) bd bc);have bE:=zh (show Bd.smallOf st1<=1000000/\Bd.largeOf st1<=1000000 from by
  have bj:=(zAb bc ai.1 ai.2.1 ai.2.2.1 ai.2.2.2).1;have ax:=zIs (zB2 (late:=late) bN bj) om;have bu:=bd.o;unfold z14 at bu;rw[if_pos bc.o] at bu;rw[bu] at ax;exact ax)
 have co:=zh (show 1<=c.kind/\c.kind<=16 from by
  have bj:=(zAb bc ai.1 ai.2.1 ai.2.2.1 ai.2.2.2).1;exact⟨bj.k1,bj.k16⟩)
 have cm:=zh (bJ.on ck);have cM:=cm.at 0 rfl;obtain⟨ah,b6⟩:=Ξ (Bd.fitsOf st1 q r);have aY:=zh b6;clear b6 bR;go_upto_if 27 with fail
 go_cut [] from 25 to 41 (λbz=>Hid (doX st q r c late=(st1,a1))/\bW az bz)
 case first=>
  by_cases ax:c.kind<15
  rotate_left
  ·have bt:decide (c.kind<15)=false:=Γ ax;rw[bt];have aH:=zh (by rw[a0.o,if_neg];have:=co.o;omega:doX st q r c late=(st1,a1));clear ax;go_wp2;go_meet
   case rel=>exact⟨aH,bq⟩
  have bt:decide (c.kind<15)=true:=Δ ax;rw[bt];have cp:=zh ax;obtain⟨bX,bY,bZ,b0⟩:=TC4 bI.a;obtain⟨_,_,_,_,c0,c1⟩:=TC6 bM.a;clear ax cD cE cF aR cH cJ cK;go_upto_region 5 with fail
  refine zEC 10 λd=>?_;refine ziU 0 ?_;iterate 9 (refine ztU d ?_;simp only[zA])
  refine zoU ?_;refine tQa 9 λf a=>?_;go_simp;go_at_call 37
  refine zcb (Bd.reffits_any st1 q r bE.1 bE.2 _ _ (New (Old S w) b) (zM bL (Kept.below (zbr.drew) λ_ h=>h))) λbl D=>?_;have bn:(bW az bl:Prop):=zD (zbr.drew) D;clear D d;refine a.o _ _ bn (λd=>?_);clear a f;try simp only[zA]
  rw[aY.o];refine tNc 10 ?_
  refine Z7 kr ?_ _;have aB:=zh bn;clear bn bX bY bZ b0 c0 c1 d;by_cases F:ah=0
  ·subst F;have cU:((0:Int) !=0)=false:=rfl;have aH:=zh (by rw[a0.o,if_neg];rw[aY.o];simp:doX st q r c late=(st1,a1));go_wp2;go_meet
   case rel=>exact⟨aH,aB⟩
  have cU:(ah !=0)=true:=bne_iff_ne.2 F;have aH:=zh (by rw[a0.o,if_pos (by rw[aY.o];have:=cp.o;omega),aY]:doX st q r c late=(st,ZD ah));have cn:=zh (by rw[<-aY.o];unfold Bd.fitsOf;repeat' split;all_goals exact⟨om,om⟩:I64 ah);clear F;go_wp2_with fail
  refine zcb (ZZ ah _) λc2 ba=>?_;have aj:=bo.o c2 (zD aB ba);have HG:=zh (ZC aj ah '0' "" () () () ());have aG:=zh (ButB.below (zD aW (zD aB ba)) (zD aW (zD aB ba)).size (λt F=>by have:=G.o;omega) HG.2);have HFIN:=zh (show zJf S L (doX st q r c late).1 q r (doX st q r c late).2 w (.returned (.agg #[ah,'0',"",(),(),(),()])) _ from by
   rw[aH.o];exact⟨[ah,'0',"",(),(),(),()],rfl,⟨_,_,_,_,_,_,(aG.block _ aL).trans aX,zM bp (z4o aG)⟩,ZW cn,ButB.of aG⟩)
  obtain⟨an,ao,ap,aq,ar,au,av⟩:=zC7 (zB aj).1;have aw:=(zB aj).2;clear aj ba;unfold ZV;exact mbm
 case rest=>
 obtain⟨aH,bm⟩:=hcut;obtain⟨bl,rfl⟩:∃t:World,t=wc:=⟨_,rfl⟩;have aB:=zh bm;have bg:=bM.o bl bm;have a2:=bo.o bl bm;have bv:¬ay=L:=by have:=aL.o;have:=G.o;omega
 have aZ:=zh (zX7 bg st1.turn (.slice aI st1.users aT) (.slice aJ st1.deposits aU) (.slice aK st1.folders aV));have bP:=(aZ.2.block _ (zI a2) bv).trans a2;have HG:=zh (ZC bP a1.err a1.number a1.who (.slice O a1.data V) (.slice R a1.names W) (.slice T a1.members X) (.slice U a1.history Y));have bQ:=(HG.2.block _ (zI aZ.1) (λu=>bv u.symm)).trans aZ.1;have bA:=(aZ.2.mono (B':=λt=>t=L\/t=ay) λ_ u=> .inl u).trans (HG.2.mono λ_ u=> .inr u);have bF:=zh (bG.o _ _ ((ButB.of aB).trans bA) λt u=>u);have cl:=ζ (ButB (·=L) w _) (zDh ((ButB.of (zD aW aB)).trans aZ.2) HG.2 (λt F=>by have:t=ay:=F;have:=G.o;omega));have HFIN:=zh (show zJf S L (doX st q r c late).1 q r (doX st q r c late).2 w (.returned (.agg (aA a1 O V R W T X U Y))) _ from by
  rw[aH.o];exact⟨(lA a1 O V R W T X U Y),rfl,⟨_,_,_,_,_,_,bQ,zM bL bF⟩,yY bD bF,cl⟩)
 obtain⟨cf,cg,ci,cj⟩:=zC4 (zB bg).1;have c9:=(zB bg).2;obtain⟨an,ao,ap,aq,ar,au,av⟩:=zC7 (zB a2).1;have aw:=(zB a2).2;obtain⟨bX,bY,bZ,b0⟩:=TC4 bI.a;have c7:¬L=ay:=λu=>bv u.symm
 have cR:¬aP=L:=by have:=bH.o;have:=aL.o;have:=G.o;omega
 have cS:¬aQ=L:=by have:=bH.o;have:=aL.o;have:=G.o;omega
 have c4:¬L=aP:=λu=>cR u.symm
 have c5:¬L=aQ:=λu=>cS u.symm
 clear bg a2 bP bQ bA bq cM;exact mbm
end
section
open Go.RowKit Go.Deep
theorem mbO (h:p:=by
 clear h hq;go_enter func10,ntmps10
 go_wp2;refine bodyPost_ret (results_tmp2 rfl _ _ _) rfl ?_;exact⟨rfl,gg⟩):p:=h
theorem zMn (w:World) (q r:Int) (h:q<0\/r<0):(kB 10 #[q,r] w (.tuple #[.pointer none,.int .i64 2]):Prop):=by
 by_cases hq:q<0
 ·have a:decide (q<0)=true:=Δ hq;exact mbO
 have a:decide (q<0)=false:=Γ hq;have b:decide (r<0)=true:=θ;exact mbO
theorem DV.keep {a:Nat} {S T Y:Nat->Prop} {w w':World} (h:DV a S w st q r) (hb:ButB Y w w') (t:¬Y a) (f:∀b,S b->b<w.heap.size->T b/\¬Y b):DV a T w' st q r:=by
 obtain⟨i,l,j,m,k,o,e,s⟩:=h;exact⟨i,l,j,m,k,o,(hb.block _ (zI e) t).trans e,zM s λb g d=>⟨(f b g d).1,hb.block b d (f b g d).2⟩⟩
theorem VS.but {P Y:Nat->Prop} {a:Nat} {w w':World} (h:VS P a w st q r) (hb:ButB Y w w') (hv:¬Y a) (i:∀b,Y b->P b):VS P a w' st q r:=by
 obtain⟨k,l,m,f,g⟩:=h.box;exact⟨⟨k,l,m,(hb.block a h.lt hv).trans f,zM g λb e j=>⟨e,hb.block b j λd=>e (i b d)⟩⟩,h.pb,λb d=>zll (h.pl b d) hb.size⟩
theorem walkD (w:World) (q r:Int) (x:I64 q) (hr:I64 r) (l:List Call) (v:Value) (h:Sl 8 z09 (λ_=>True) w v l) (hm:MayOk w):
  (kB 5 #[q,r,v] w true:Prop):=by
 have a3:=zh h;have am:=zh hm;obtain⟨_,c,rfl,aI,bD,_,bF⟩:=h;unfold maxLen at bD;clear hm x hr;go_enter func5,ntmps5
 go_wp2_with fail
 refine zcb (zS1 w am) λbR ad=>?_;have ar:=zh ad;clear ad;go_wp2_with fail
 refine zcb (zVw l _ bR (λ_=>True) (a3.keep zJp dc (zK ar))) λd ae=>?_;have K:=zh (zD ar ae);clear ae
 cases F:zDi l with
 | false=>
  clear F;go_wp2;go_ret
  exact⟨rfl,K.o⟩
 | true=>
 have W:=zh (zU6 F);clear F;by_cases M:q<0\/r<0
 ·go_wp2_with fail
  refine zcb (zMn d q r M) λe A=>?_;have L:=zh (zD K A);clear A;by_cases x:q<0
  ·have ay:decide (q<0)=true:=Δ x;clear M x;go_wp2;go_ret;exact⟨rfl,L.o⟩
  have ay:decide (q<0)=false:=Γ x;have bC:decide (r<0)=true:=θ;clear M x;go_wp2;go_ret;exact⟨rfl,L.o⟩
 have b8:decide (q<0)=false:=η;have b9:decide (r<0)=false:=η;have bf:=zh (by omega:0<=q/\0<=r);clear M;go_wp2_with fail
 refine zcm (zLi d q r bf) ?_;rintro bz e ⟨rfl,Z,A⟩;have L:=zh (zD K A);obtain⟨bS,aN,bt,bA,N,bQ⟩:=zP e #['0',(),(),(),q,r] 36;have bc:=zh (zbx aN);have bn:=zh (zD L N);have bi:=zh (Z.more N (Q:=λa=>a=e) λa b=>by have:a=e:=b;omega);have I:=ζ (w<=d.heap.size/\d<e.heap.size) ⟨K.size,Z.lt⟩;have a5:=ζ (DV e (λa=>¬(a=d\/a=e)) bS ⟨0,[],[],[]⟩ q r) ⟨none,0,none,0,none,0,bc,_,_,_,rfl,⟨by show(_:Int)<=0;omega,by show(0:Int)<=_;omega⟩,y9,y9,y9⟩;clear Z A bt bA N bQ;go_wp2_with fail
 clear aN;go_loopw [41] (λac wr=>∃(o:Nat) (st:State),o<=l/\ac= .int .i64 o/\Hid (VS (λa=>a=d\/a=e) d wr st q r)/\Hid (DV e (λa=>¬(a=d\/a=e)) wr st q r)/\Hid (VInv o st)/\Hid (YY st)/\Hid (bW w wr)) (λac _=>l.length-(intOf ac).toNat)
 case atStart=>exact⟨0,⟨0,[],[],[]⟩,om,gn,bi,a5,zh VInv.start,zh iA0,bn⟩
 obtain⟨t,rfl⟩:=ξ wr;obtain⟨o,st,_,rfl,J,aj,D,V,R⟩:=hrel;by_cases bE:o<l
 rotate_left
 ·obtain rfl:o=l:=om
  have a4:=zh (zHk D (oh W.1) V);have be:=ζ (∀aa∈st.folders,∀bP∈aa.manifests,bP.prev=[]) (λaa F=>(D.fol aa F).pv);obtain⟨aT,bv,aU,bw,aV,bx,aG,aH⟩:=aj.o;have a9:=zh aH;have au:=ZJ aG;obtain⟨cb,cc,cd,ce⟩:=TC4 au.a;clear aG aH au;go_upto_region 15 with fail
  refine zEC 11 λk=>?_;refine ziU 0 ?_;iterate 4 (refine ztU k ?_;simp only[zA])
  refine zoU ?_;refine ziU 5 ?_;iterate 4 (refine ztU k ?_;simp only[zA])
  refine zoU ?_;refine tQa 4 λs j=>?_;go_simp;go_at_call 19
  refine zcm (zGr (J.below (zbr.drew)) a4) ?_;rintro bz y ⟨bs,rfl,aL,E⟩;have O:(bW t y:Prop):=zD (zbr.drew) E;clear E k;refine j.o _ _ O (λk=>?_);clear j s;try simp only[zA]
  have bh:=zh aL;clear aL;refine tQa 9 λs j=>?_;go_simp;go_at_call 18
  refine zcb (zJc st be bs (lS st aT bv aU bw aV bx) y _ _ bh (zM a9 (zK O))) λbT E=>?_;have ah:(bW t bT:Prop):=zD (O) E;clear E k;refine j.o _ _ ah (λk=>?_);clear j s;try simp only[zA]
  refine zU 10 k ?_;simp only[zA];refine tNc 11 ?_
  refine Z7 kr ?_ _;have aZ:=zh (zD R ah);go_wp2;go_ret;exact⟨rfl,aZ.o⟩
 obtain⟨z,a,_,aR,bp,bG,_,aP,rfl,f,_,bV,bX,bY,bZ,b0,b1,b2,b3,aK,_⟩:=zJq (S':=λa=>¬(a=d\/a=e)) bF bE (λa _ aI=>⟨λb=>by have:=I.o;rcases b with b|b<;>omega,R.block a aI⟩);have X:=zh (W.2 z aP);have b6:o<=39:=by have:=W.1;omega
 have ak:=zh (by omega:o<=40);have b7:(o:Int)<(l:Int):=om
 obtain⟨m,aO,bu,bB,B,_⟩:=zP t (aC z aR bp) 41;have an:=zh (zbx aO);have H:=zh (zD R B);have bm:=zh (J.below B);have ba:=zh (aj.keep (T:=λa=>¬(a=d\/a=e)) (Y:=λ_=>False) (ButB.of B) id λa f _=>⟨f,id⟩);have ao:=zh (YH aK (zK B));have aq:=ζ (d<t.heap.size/\e<t.heap.size) ⟨J.pl _ (.inl rfl),J.pl _ (.inr rfl)⟩;have aJ:¬(·=d.heap.size) t.heap.size:=by intro b;have ax:t=d.heap.size:=b;have:=aq.o;omega
 have aw:=z4c (Y:=λg=>g=d) an.o aJ;obtain⟨bH,bI,bJ,bK,bL,bM,bN,bO⟩:=TC8 aw.a;have bb:=zh λbo (ab:(bW w bo:Prop))=>am.below ab
 clear bG aP aK bu bB B f aw aJ;go_upto_region 12 with fail
 clear aO bV bX bY bZ b0 b1 b2 b3;have ap:=ζ (∀u:World,ButB (·=d) m u->(λu:World=>ButB (·=d) m u) u) (λu ab=>ab);refine Z0 (S:=λu:World=>ButB (·=d) m u) 5 [] kr (ap.o _ (ButB.of zbr.drew)) (λk=>?_);refine ziU 0 ?_;iterate 2 (refine ztU k ?_;simp only[zA])
 refine zoU ?_;refine ziU 3 ?_;iterate 2 (refine ztU k ?_;simp only[zA])
 refine zoU ?_;refine tQa 2 λs j=>?_;go_simp;go_at_call 12
 refine zcm (zIt (c:=z) (bm.below (Below.refl m m).drew) (YH ao (zK (Below.refl m m).drew)) D ak V (bb.o _ (zD H (Below.refl m m).drew)) X) ?_;rintro _ y ⟨bq,rfl,av,az,af⟩;have bj:=zh av;have aW:=zh az;have C:=ζ (ButB (·=d) m y) ((ButB.of (Below.refl m m).drew).trans af);have bg:=zh (YH ao (C.kept λa f=>⟨f,λb=>f (.inl b)⟩));have a6:=zh (ba.keep (T:=λa=>¬(a=d\/a=e)) C (by intro b;have ax:e=d.heap.size:=b;have:=I.o;omega) λa f _=>⟨f,λb=>f (.inl b)⟩);clear av az af;clear k;refine j.o _ _ (ap.o _ (C)) (λk=>?_);clear j s;try simp only[zA]
 refine zN (i:=5) kr rfl (λs j=>?_);go_simp;go_at_call 13
 refine zcm (zRx st q r z false e D ak X _ y (λa=>¬(a=d\/a=e)) (λb=>b (.inr rfl)) a6 bg) ?_;rintro _ aQ ⟨br,rfl,ai,aB,G⟩;have bd:=ζ (∀a,New (λa=>¬(a=d.heap.size\/a=e.heap.size)) y a->¬(a=d.heap.size\/a=e.heap.size)) (λa f=>f.elim id λb=>by have ay:=aq.o;have bC:=C.size;have b4:=H.size;have b5:t<m.heap.size:=zI an;rintro(b|b)<;>omega);have bk:=zh (bj.but G (by intro b;have ax:d=e.heap.size:=b;have:=I.o;omega) λa b=> .inr b);have a7:=zh (ai.keep (T:=λa=>¬(a=d\/a=e)) (Y:=λ_=>False) (ButB.refl _ aQ) id λa f _=>⟨bd.o a f,id⟩);have aY:=zh aB;have aX:=zh (yY aW (G.kept (S':=λa=>¬(a=d\/a=e)) λa f=>⟨f,λb=>f (.inr b)⟩));have a0:=zh G;clear ai aB G;refine j.o _ _ ?_;clear j s;try simp only[zA]
 refine zN (i:=6) kr rfl (λs j=>?_);go_simp;go_at_call 11
 refine zcb (zO9 (YT st q r z).2 bq.toList br aQ _ _ aX aY) λbU ag=>?_;have U:=zh ag;clear ag;refine j.o _ _ ?_;clear j s;try simp only[zA]
 refine tNc 7 ?_
 refine Z7 kr ?_ _;have al:=zh (z7q (q:=q) (r:=r) D V X);have bl:=zh (bk.below U);have a8:=zh (a7.keep (T:=λa=>¬(a=d\/a=e)) (Y:=λ_=>False) (ButB.of U) id λa f _=>⟨f,id⟩);have a2:=ζ (bW w bU:Prop) (zD (ButB.below H H.size (λg (ca:g=d\/g=e)=>by have:=I.o;omega) ((C.mono λ_ b=> .inl b).trans (a0.mono λ_ b=> .inr b))) U);clear bH bI bJ bK bL bM bN bO k;go_wp2;go_roundw
 case rel=>exact⟨o+1,(YT st q r z).1,om,gn,bl,a8,zh al.1,zh al.2,a2⟩
 case measure=>exact qMx
end
section
open Go.ChangeShapes Go.WideShapes Go.ChangeAt Go.RowKit Go.Deep Go.Maps
theorem zHp (w:World) (q:Int) (a:(Lit.int .i64 q).wf=true) (r:Int) (hr:(Lit.int .i64 r).wf=true) (l:List Call) (v:Value) (h:Sl 8 z09 (λ_=>True) w v l) (b:laidMetH prog Rows.vaultDoesRow.laid w):
  (kB 5 #[q,r,v] w true:Prop):=walkD w q r (by simp only[Lit.wf,qBqx,decide_eq_true_eq] at a;exact⟨a.1,a.2⟩) (by simp only[Lit.wf,qBqx,decide_eq_true_eq] at hr;exact⟨hr.1,hr.2⟩) l v h (laid_cells b)
theorem zFi (os:Os) (V:os.Started) (o:Type) (enc:TypeId×Value->o):
  ReturnsInHanded {} checked os 5 .any (λw a=>(Rows.vaultDoesSpec.pre enc prog f5 Rows.vaultDoesRow.domain false w a/\laidMetH prog Rows.vaultDoesRow.laid w)/\sizedMet enc prog f5 (OpenSpec.ofChange Rows.vaultDoesSpec) false w a) (Rows.vaultDoesSpec.post enc prog f5 false true false false):=by
 refine returnsInHanded_of_change_and (C:=checked) (X:=λw _=>laidMetH prog Rows.vaultDoesRow.laid w) (λ_ _ _ K x=>x.of_heap K) zUj V kr func5
  (ChangeSpec.witness_shaped (enc:=enc) (C:=checked) (os:=os) (X:=λw _=>laidMetH prog Rows.vaultDoesRow.laid w) false (World.laidAll prog os Rows.vaultDoesRow.laid) #['0','0',()] 8 (World.laidAll_os _ _ _)
   (World.shaped_of_ZipB kr kr) kr kr kr
   (by rw[MakeChecks.laidMetH_plain _ _ _ kr];exact laidMet_laidAll _ kr kr)) ?_
 intro d u a v ac aa N f ad M D _;have b:∀(g:Nat) h i,f5.params[g]? =some h->a[g]? =some i->Value.okWide prog d .any u h i:=N;have F:=f;obtain⟨p,q,B,E,rfl,_⟩:=f;have e:DataW.TrodAll enc prog d 0 (λ_=>true) true f5.params.toList a.toList v p:=B;rw[params5] at e b;obtain⟨k,_,_,_,_,_,G,rfl,rfl,y,R⟩:=trodAll_cons e;obtain⟨l,_,_,_,_,_,rfl,rfl,rfl,z,T⟩:=trodAll_cons R;obtain⟨m,_,_,_,_,_,rfl,rfl,rfl,A,U⟩:=trodAll_cons T;obtain⟨rfl,rfl,rfl⟩:=trodAll_nil U;obtain rfl:a=#[k,l,m]:=by cases a;simp_all
 obtain⟨rfl,rfl⟩:=trodVars_none E;clear G;obtain⟨s,rfl,rfl,rfl,W⟩:=open_int underlying3 (b 0 3 k rfl rfl) y;obtain⟨a1,rfl,rfl,rfl,Y⟩:=open_int underlying3 (b 1 3 l rfl rfl) z;obtain⟨_,I⟩:=A;obtain⟨t,O⟩:=zW2 underlying63 (zJk underlying63 kr (of_decide_eq_true kr) dc zVz (zJp).len) (b 2 63 m rfl rfl) I (λq L=>by simpa using all_eq_true.1 M q (DataW.weights_mem_each (j:=2) rfl rfl q L));refine(zHp d s W a1 Y t _ O D).mono λab Z ⟨H,J⟩=>?_
 subst H;exact⟨_,rfl,zS8 F rfl rfl rfl underlying4 zJs kr J⟩
theorem zBj:Rows.VaultDoesSaid:=
 OpenClaim.holds_of_wide 5 f5 rfl rfl rfl rfl rfl rfl rfl ⟨rfl,rfl,rfl,rfl,rfl⟩ rfl rfl rfl rfl rfl kr func5 kr
  (of_decide_eq_true kr) (by unfold Func.isWrapper;first|(rw[if_pos (by decide+kernel)];kernel_rfl)|(rw[if_neg (by decide+kernel)];exact⟨rfl,rfl⟩))
  (λd e a b _=>zFi d e a b)
theorem vaultDoes_holds:Rows.VaultDoesCardSaid:=
 Claim7.holds_tied_plain_at .later [] [.data] true (true, "0a5bf4cfdda4f0b6f93d0f43be3f98d9f32645af79d4df54a64809a6d578d50f") false zBj (λ_ a=>by cases a) kr (λ_ a=>by cases a) vaultDoes_row_tie rfl ⟨rfl,rfl⟩ kr rfl
  (λe f h i=>by
   obtain rfl:e=5:=zsi ((by kernel_rfl:prog.funcNamed Rows.vaultDoesRow.func=some 5).symm.trans h) |>.symm
   obtain rfl:f=f5:=(zsi (func5.symm.trans i)).symm;exact⟨kr,λl b d=>by
    rw[params5] at d;have j:b∈[3,3,63]:=by simpa using Array.mem_of_getElem? d
    have g:([3,3,63].all λk=>!prog.wantsStandIn k)=true:=kr
    exact(by simpa using all_eq_true.1 g b j:prog.wantsStandIn b=false)⟩)
  kr
end
end Go.Proofs.YtdggplhnfhcieaaGreatDoor
