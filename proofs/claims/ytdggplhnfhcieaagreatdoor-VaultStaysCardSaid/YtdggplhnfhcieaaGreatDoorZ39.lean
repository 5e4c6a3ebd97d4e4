/- Part 39 of the proof of vaultStays_holds. No condition. -/
import Derived.SevenTiedAt
import Derived.Stop.Joined
import Derived.Test.YtdggplhnfhcieaaGreatDoorCards
import Derived.Test.YtdggplhnfhcieaaGreatDoorZ19
import Derived.Test.YtdggplhnfhcieaaGreatDoorZ38
set_option linter.unusedVariables false
set_option linter.unusedSimpArgs false
set_option linter.unusedSectionVars false
set_option maxRecDepth 100000
namespace Go.Proofs.YtdggplhnfhcieaaGreatDoor
section
open Go.RowKit Go.Deep
theorem zNb {l:List Call} (h:z8d l=true):l.length<=40/\∀x∈l,z58 x:=by
 unfold z8d at h
 rw [Bool.and_eq_true,decide_eq_true_eq,List.all_eq_true] at h
 exact ⟨h.2,fun x hx=>by obtain ⟨h1,h2,h3,h4,_⟩:=z9u.1 (h.1 x hx);exact ⟨h1,h2,h3,h4⟩⟩
def z1u (k:Int):Bool:=decide (k=9) || decide (k=10) || decide (k=12) || decide (k=13)
set_option maxHeartbeats 8000000 in
theorem walk0 (w:World) (n:Int) (hn:0<=n/\n < 4294967296) (l:List Call) (v:Value) (h:Sl 8 z01 (fun _=>True) w v l) (hm:MayOk w):
  Calls Tryz.prog 4 #[.int .u32 n,v] w fun e w'=>e= .returned (.bool true)/\Below w.heap.size w w':=by
 have HC:=zh h
 have HM:=zh hm
 have HN:=zh hn
 obtain ⟨_,c,rfl,hl,hc,_,hs⟩:=h
 unfold maxLen at hc
 have qf:=zAz
 have qu:=zFp
 have hwr:IntKind.i64.wrap n=n:=IntWalk.i64_in _ (by omega)
 clear hm
 go_enter Tryz.func4,Tryz.ntmps4
 go_wp2_with fail
 refine Calls.mono (zLn w HM.out) ?_
 rintro e1 w1 ⟨rfl,B1⟩
 have HB1:=zh B1
 obtain ⟨x1,hx1,cx1,fx1,Bx1,_⟩:=zQ w1 #[.int .i64 1,.string ⟨#[97]⟩,.string ⟨#[]⟩,.string ⟨#[]⟩,.string ⟨#[]⟩,.int .i64 0,.int .i64 0,.slice none 0 0] 41
 have HX1:=zh (zB B1 Bx1)
 have HN1:=zh (show x1.heap[w1.heap.size]? =some (.cells #[.int .i64 1,.string ⟨#[97]⟩,.string ⟨#[]⟩,.string ⟨#[]⟩,.string ⟨#[]⟩,.int .i64 0,.int .i64 0,.slice none 0 0] 41 (0,0)) from by rw [<-hx1];exact zH _ rfl)
 obtain ⟨k0,k1,k2,k3,k4,k5,k6,k7⟩:=zC8 (zD HN1.out).1
 have GX1:=zh hx1
 clear B1 cx1 fx1 Bx1 hx1
 go_wp2_with fail
 rw [GX1.out]
 refine Calls.mono (zGu (c:=cA1) x1 none 0 0) ?_
 rintro e2 w2 ⟨rfl,B2⟩
 obtain ⟨x2,hx2,cx2,fx2,Bx2,_⟩:=zQ w2 #[.int .i64 1,.int .i64 0,.string ⟨#[]⟩,.slice none 0 0,.slice none 0 0,.slice none 0 0,.slice none 0 0] 49
 have HX2:=zh (zB HX1.out (zB B2 Bx2))
 have HN2:=zh (show x2.heap[w2.heap.size]? =some (.cells #[.int .i64 1,.int .i64 0,.string ⟨#[]⟩,.slice none 0 0,.slice none 0 0,.slice none 0 0,.slice none 0 0] 49 (0,0)) from by rw [<-hx2];exact zH _ rfl)
 have BB:=zB B2 Bx2
 replace k0:=(BB.cell (p:=⟨w1.heap.size,0,none⟩) (zM HN1.out)).trans k0
 replace k1:=(BB.cell (p:=⟨w1.heap.size,1,none⟩) (zM HN1.out)).trans k1
 replace k2:=(BB.cell (p:=⟨w1.heap.size,2,none⟩) (zM HN1.out)).trans k2
 replace k3:=(BB.cell (p:=⟨w1.heap.size,3,none⟩) (zM HN1.out)).trans k3
 replace k4:=(BB.cell (p:=⟨w1.heap.size,4,none⟩) (zM HN1.out)).trans k4
 replace k5:=(BB.cell (p:=⟨w1.heap.size,5,none⟩) (zM HN1.out)).trans k5
 replace k6:=(BB.cell (p:=⟨w1.heap.size,6,none⟩) (zM HN1.out)).trans k6
 replace k7:=(BB.cell (p:=⟨w1.heap.size,7,none⟩) (zM HN1.out)).trans k7
 have a0:=(zD HN2.out).1 0 _ rfl
 have GX2:=zh hx2
 clear B2 cx2 fx2 Bx2 BB hx2
 unfold ZK
 go_upto_region 6 with fail
 rw [GX2.out]
 go_wp2_with fail
 refine Calls.mono (zLi (c:=cA1) x2 none 0 0) ?_
 rintro e3 w3 ⟨rfl,B3⟩
 replace a0:=(B3.cell (p:=⟨w2.heap.size,0,none⟩) (zM HN2.out)).trans a0
 have HX3:=zh (zB HX2.out B3)
 clear B3 k0 k1 k2 k3 k4 k5 k6 k7
 unfold ZK
 go_wp2_with fail
 refine Calls.mono (z8b (bv:=0) w3 none (fun _ h=>by cases h)) ?_
 rintro _ w4 ⟨rfl,B4⟩
 have HX4:=zh (zB HX3.out B4)
 clear B4
 unfold ZK
 go_wp2_with fail
 refine Calls.mono (zFn w4) ?_
 rintro e5 w5 ⟨rfl,B5⟩
 have HX5:=zh (zB HX4.out B5)
 clear B5
 cases hf:z8d l with
 | false=>
  have HF:=zh hf
  clear hf
  go_wp2_with fail
  refine Calls.mono (zHi l _ w5 (fun _=>True) (HC.out.keep z9d (by decide) (zJ HX5.out))) ?_
  rw [HF.out]
  rintro e6 w6 ⟨rfl,B6⟩
  have HX6:=zh (zB HX5.out B6)
  clear B6
  go_wp2
  go_ret
  exact ⟨rfl,HX6.out⟩
 | true=>
  have HF:=zh hf
  have HL:=zh (zNb hf)
  clear hf
  go_wp2_with fail
  refine Calls.mono (zHi l _ w5 (fun _=>True) (HC.out.keep z9d (by decide) (zJ HX5.out))) ?_
  rw [HF.out]
  rintro e6 w6 ⟨rfl,B6⟩
  have HX6:=zh (zB HX5.out B6)
  clear B6
  go_wp2_with fail
  refine Calls.mono (zFl w6 n 3000 ⟨HN.out.1,by omega⟩) ?_
  rintro _ w7 ⟨rfl,V7,B7⟩
  have HX7:=zh (zB HX6.out B7)
  have HV7:=zh V7
  have HLT:=zh (show w.heap.size<=w6.heap.size from HX6.out.size)
  clear V7 B7
  obtain ⟨_,_,_,hb7,_⟩:=HV7.out.box
  have hd6:=(zD hb7).1 6 _ rfl
  clear hb7
  go_wp2_with fail
  refine Calls.mono (z8b (bv:=w6.heap.size) w7 _ (fun a ha=>by obtain rfl:=Option.some.inj ha;exact ⟨rfl,hd6⟩)) ?_
  rintro e8 _ ⟨rfl,B8⟩
  have HX8:=zh (zB HX7.out B8)
  have HV8:=zh (HV7.out.below B8)
  clear B8 hd6
  unfold ZK
  go_wp2_with fail
  go_loopw [71] (fun i wr=>∃(k:Nat) (st:State),k<=l.length/\i= .int .i64 k/\Hid (VS (fun b=>b=w6.heap.size) w6.heap.size wr st n 3000)/\Hid (VInv k st)/\Hid (yQ st)/\Hid (Below w.heap.size w wr)) (fun i _=>l.length - (RowKit.intOf i).toNat)
  case atStart=>exact ⟨0,⟨0,[],[],[]⟩,by omega,by go_num,HV8,zh VInv.start,zh iA0,HX8⟩
  obtain ⟨k,st,_,rfl,HV,HI,HD,HB⟩:=hrel
  by_cases hlt:k < l.length
  rotate_left
  ·obtain rfl:k=l.length:=by omega
   go_wp2
   go_ret
   exact ⟨rfl,HB.out⟩
  obtain ⟨x,b,_,A7,c7,hx,_,hxm,rfl,hb,_,_,x1,x2,_,_,_,_,_,hrc,_⟩:=zE9 (S':=fun b=>¬b=w6.heap.size) hs hlt (fun b _ hl=>⟨fun e=>by have:=HLT.out;omega,HB.out.block b hl⟩)
  have HS:=zh (HL.out.2 x hxm)
  have hk40:k<=39:=by have:=HL.out.1;omega
  have HCK:=zh (zBm HI.out (by omega) HD.out)
  have HPV:=zh (show ∀f∈st.folders,∀m∈f.manifests,m.prev=[] from fun f hf=>(HI.out.fol f hf).pv)
  obtain ⟨wb,hwb,cwb,fwb,Bwb,_⟩:=zQ wr #[.int .i64 x.kind,.string x.user,.string x.folder,.string x.name,.string x.other,.int .i64 x.role,.int .i64 x.version,.slice A7 x.data.length c7] 41
  have HNB:=zh (show wb.heap[wr.heap.size]? =some (.cells #[.int .i64 x.kind,.string x.user,.string x.folder,.string x.name,.string x.other,.int .i64 x.role,.int .i64 x.version,.slice A7 x.data.length c7] 41 (0,0)) from by rw [<-hwb];exact zH _ rfl)
  have HBb:=zh (zB HB.out Bwb)
  have HVb:=zh (HV.out.below Bwb)
  have HRC:=zh hrc
  have HWB:=zh Bwb
  clear hx hxm hrc cwb fwb Bwb hb
  go_wp2_with fail
  refine Calls.mono (z43 HVb.out HCK.out) ?_
  rintro e1 z1 ⟨_,rfl,hst,C1⟩
  have HSA:=zh hst
  obtain ⟨A1,c1,A2,c2,A3,c3,hcs,_⟩:=y8 hst
  subst hcs
  obtain ⟨y1,hy1,cy1,fy1,By1,_⟩:=zQ z1 #[.int .i64 st.turn,.slice A1 st.users.length c1,.slice A2 st.deposits.length c2,.slice A3 st.folders.length c3] 34
  have HNS:=zh (show y1.heap[z1.heap.size]? =some (.cells #[.int .i64 st.turn,.slice A1 st.users.length c1,.slice A2 st.deposits.length c2,.slice A3 st.folders.length c3] 34 (0,0)) from by rw [<-hy1];exact zH _ rfl)
  have HB1':=zh (zB C1 By1)
  have HBy:=zh (zB HBb.out (zB C1 By1))
  have HVy:=zh (HVb.out.below HB1'.out)
  have HSY:=zh (Z7 HSA.out (zJ By1))
  have HNC:=zh ((HB1'.out.block _ (zM HNB.out)).trans HNB.out)
  obtain ⟨k0,k1,k2,k3,k4,k5,k6,k7⟩:=zC8 (zD HNC.out).1
  have HC1:=zh C1
  clear hst C1 cy1 fy1 By1
  go_wp2_with fail
  refine Calls.mono (zLj (c:=x) HVy.out (yJ HRC.out (zJ (zB HWB.out HB1'.out))) HI.out (by omega) HD.out (HM.out.below HBy.out) HS.out) ?_
  rintro e2 z2 ⟨C2,pv,_,rfl,_⟩
  have HC2:=zh C2
  have HBz:=zh (zB HBy.out C2)
  have HVz:=zh (HVy.out.below C2)
  have HNS2:=zh ((C2.block _ (zM HNS.out)).trans HNS.out)
  have HNC2:=zh ((C2.block _ (zM HNC.out)).trans HNC.out)
  have HSZ:=zh (Z7 HSY.out (zJ C2))
  obtain ⟨s0,s1,s2,s3⟩:=zC4 (zD HNS2.out).1
  clear C2 k0 k1 k2 k3 k4 k5 k6 k7
  go_upto_region 18 with fail
  have HSQ:=zh (show ∀W':World,Below z2.heap.size z2 W'->(fun W':World=>Below z2.heap.size z2 W'/\W'.cell? ⟨z1.heap.size,0,none⟩=some (.int .i64 st.turn)/\W'.cell? ⟨z1.heap.size,1,none⟩=some (.slice A1 st.users.length c1)/\W'.cell? ⟨z1.heap.size,2,none⟩=some (.slice A2 st.deposits.length c2)/\W'.cell? ⟨z1.heap.size,3,none⟩=some (.slice A3 st.folders.length c3)) W' from fun W' hW=>⟨hW,(hW.cell (p:=⟨z1.heap.size,0,none⟩) (zF s0)).trans s0,(hW.cell (p:=⟨z1.heap.size,1,none⟩) (zF s1)).trans s1,(hW.cell (p:=⟨z1.heap.size,2,none⟩) (zF s2)).trans s2,(hW.cell (p:=⟨z1.heap.size,3,none⟩) (zF s3)).trans s3⟩)
  refine zE (by kernel_rfl) HSQ.out (fun hHeld=>?_)
  refine zT 0 _ rfl (by kernel_rfl) rfl (fun _ _ _ h=>h) hHeld (by intro W' h;go_simp;try with_reducible rfl) ?_
  simp only [zA]
  refine zT 2 _ rfl (by kernel_rfl) rfl (fun _ _ _ h=>h) hHeld (by intro W' h;go_simp;try with_reducible rfl) ?_
  simp only [zA]
  refine wpAnyH_ready (rs:=[1]) (by kernel_rfl) (by simp) ?_
  refine AllReadyH.cons rfl (fun K hK=>?_) AllReadyH.nil
  go_simp
  go_at_call 19
  refine Calls.mono (z43 (HVz.out.below ((Below.refl _ _).drew)) HCK.out) ?_
  rintro e3 z3 ⟨cs3,rfl,hst3,b3⟩
  have Bz3:Below z2.heap.size z2 z3:=zB ((Below.refl _ _).drew) b3
  clear b3 hHeld
  refine hK.out _ _ (HSQ.out _ Bz3) (fun hHeld=>?_)
  clear hK K
  have HS3:=zh hst3
  clear hst3
  refine wpAnyH_ready (rs:=[3]) (by kernel_rfl) (by simp) ?_
  refine AllReadyH.cons rfl (fun K hK=>?_) AllReadyH.nil
  go_simp
  go_at_call 18
  refine Calls.mono (z4v st HPV.out cs3 [.int .i64 st.turn,.slice A1 st.users.length c1,.slice A2 st.deposits.length c2,.slice A3 st.folders.length c3] z3 _ _ HS3.out (Z7 HSZ.out (zJ (Bz3)))) ?_
  rintro e3 z4 ⟨rfl,b3⟩
  have Bz4:Below z2.heap.size z2 z4:=zB (Bz3) b3
  clear b3 hHeld
  refine hK.out _ _ (HSQ.out _ Bz4) (fun hHeld=>?_)
  clear hK K
  refine zT 4 _ rfl (by kernel_rfl) rfl (fun _ _ _ h=>h) hHeld (by intro W' h;go_simp;try with_reducible rfl) ?_
  simp only [zA]
  refine wpAnyH_done (by kernel_rfl) ?_ _
  clear hHeld HSQ
  have HB4:=zh Bz4
  have HBw4:=zh (zB HBz.out Bz4)
  have HV4:=zh (HVz.out.below Bz4)
  have HNS4:=zh ((Bz4.block _ (zM HNS2.out)).trans HNS2.out)
  have HNC4:=zh ((Bz4.block _ (zM HNC2.out)).trans HNC2.out)
  have HS4:=zh (Z7 HSZ.out (zJ Bz4))
  obtain ⟨k0,k1,k2,k3,k4,k5,k6,k7⟩:=zC8 (zD HNC4.out).1
  clear Bz3 Bz4 s0 s1 s2 s3
  go_wp2_with fail
  refine Calls.mono (zDo (c:=x) HV4.out (yJ HRC.out (zJ (zB HWB.out (zB HB1'.out (zB HC2.out HB4.out))))) HI.out (by omega) HD.out (HM.out.below HBw4.out) HS.out) ?_
  rintro e5 z5 ⟨_,rfl,V5,ha5,C5⟩
  have HKV:=zh (z4o (q:=n) (r:=3000) HI.out HD.out HS.out)
  have HER:=zh (zLb st n 3000 x)
  have HRD:=zh (zGt st n 3000 x)
  generalize ZN st n 3000 x=y at V5 ha5 HKV HER HRD
  obtain ⟨st5,a⟩:=y
  obtain ⟨P3,p3,P4,p4,P5,p5,P6,p6,rfl⟩:=ZZ ha5
  obtain ⟨y5,hy5,cy5,fy5,By5,_⟩:=zQ z5 #[.int .i64 a.err,.int .i64 a.number,.string a.who,.slice P3 a.data.length p3,.slice P4 a.names.length p4,.slice P5 a.members.length p5,.slice P6 a.history.length p6] 49
  have HNA:=zh (show y5.heap[z5.heap.size]? =some (.cells #[.int .i64 a.err,.int .i64 a.number,.string a.who,.slice P3 a.data.length p3,.slice P4 a.names.length p4,.slice P5 a.members.length p5,.slice P6 a.history.length p6] 49 (0,0)) from by rw [<-hy5];exact zH _ rfl)
  have HC5:=zh C5
  have HB5:=zh (zB (ButB.below HBw4.out HBw4.out.size (fun z hz=>by have:z=w6.heap.size:=hz;have:=HLT.out;omega) C5) By5)
  have HV5:=zh (V5.below By5)
  have HA5:=zh (Y8 ha5 (zJ By5))
  have HNS5:=zh ((By5.block _ (Nat.lt_of_lt_of_le (zM HNS4.out) C5.size)).trans ((C5.block _ (zM HNS4.out) (fun e=>by have e':z1.heap.size=w6.heap.size:=e;have:=HV.out.lt;have:=HWB.out.size;have:=HC1.out.size;omega)).trans HNS4.out))
  have HNC5:=zh ((By5.block _ (Nat.lt_of_lt_of_le (zM HNC4.out) C5.size)).trans ((C5.block _ (zM HNC4.out) (fun e=>by have e':wr.heap.size=w6.heap.size:=e;have:=HV.out.lt;omega)).trans HNC4.out))
  have HS5:=zh (Z7 HS4.out (S':=fun b=>¬b=w6.heap.size) (fun b hb hl=>⟨hb,(By5.block _ (Nat.lt_of_lt_of_le hl C5.size)).trans (C5.block _ hl hb)⟩))
  have k0:=(zD HNC5.out).1 0 _ rfl
  have a0:=(zD HNA.out).1 0 _ rfl
  clear V5 ha5 C5 By5 cy5 fy5 k1 k2 k3 k4 k5 k6 k7
  go_upto_region 21 with fail
  go_cut [15] from 88 to 105 (fun s15 wx=>s15= .bool (z1u x.kind)/\y5=wx)
  case first=>
   by_cases e9:x.kind=9
   ·have g9:(x.kind==9)=true:=by simp [e9]
    have d9:decide (x.kind=9)=true:=decide_eq_true e9
    have HR:=zh (show z1u x.kind=true from by unfold z1u;rw [e9];rfl)
    clear e9
    go_wp2
    go_meet
    case rel=>exact ⟨by rw [HR.out],rfl⟩
   have g9:(x.kind==9)=false:=by simp [e9]
   have d9:decide (x.kind=9)=false:=decide_eq_false e9
   by_cases e10:x.kind=10
   ·have g10:(x.kind==10)=true:=by simp [e10]
    have d10:decide (x.kind=10)=true:=decide_eq_true e10
    have HR:=zh (show z1u x.kind=true from by unfold z1u;rw [e10];rfl)
    clear e9 e10
    go_wp2
    go_meet
    case rel=>exact ⟨by rw [HR.out],rfl⟩
   have g10:(x.kind==10)=false:=by simp [e10]
   have d10:decide (x.kind=10)=false:=decide_eq_false e10
   by_cases e12:x.kind=12
   ·have g12:(x.kind==12)=true:=by simp [e12]
    have d12:decide (x.kind=12)=true:=decide_eq_true e12
    have HR:=zh (show z1u x.kind=true from by unfold z1u;rw [e12];rfl)
    clear e9 e10 e12
    go_wp2
    go_meet
    case rel=>exact ⟨by rw [HR.out],rfl⟩
   have g12:(x.kind==12)=false:=by simp [e12]
   have d12:decide (x.kind=12)=false:=decide_eq_false e12
   by_cases e13:x.kind=13
   ·have g13:(x.kind==13)=true:=by simp [e13]
    have d13:decide (x.kind=13)=true:=decide_eq_true e13
    have HR:=zh (show z1u x.kind=true from by unfold z1u;rw [e13];rfl)
    clear e9 e10 e12 e13
    go_wp2
    go_meet
    case rel=>exact ⟨by rw [HR.out],rfl⟩
   have g13:(x.kind==13)=false:=by simp [e13]
   have d13:decide (x.kind=13)=false:=decide_eq_false e13
   have HR:=zh (show z1u x.kind=false from by unfold z1u;rw [d9,d10,d12,d13];rfl)
   clear e9 e10 e12 e13
   go_wp2
   go_meet
   case rel=>exact ⟨by rw [HR.out],rfl⟩
  obtain ⟨rfl,rfl⟩:=hcut
  obtain ⟨s0,s1,s2,s3⟩:=zC4 (zD HNS5.out).1
  by_cases he:a.err=0
  rotate_left
  ·have g1:(a.err !=0)=true:=by simp [he]
   obtain ⟨he1,he2⟩:=HER.out he
   obtain rfl:st=st5:=he1.symm
   have HE2:=zh (show a=ZA a.err from he2)
   clear he he2
   go_upto_region 22 with fail
   have HSQ:=zh (show ∀W':World,Below y5.heap.size y5 W'->(fun W':World=>Below y5.heap.size y5 W'/\W'.cell? ⟨z5.heap.size,0,none⟩=some (.int .i64 a.err)/\W'.cell? ⟨z1.heap.size,0,none⟩=some (.int .i64 st.turn)/\W'.cell? ⟨z1.heap.size,1,none⟩=some (.slice A1 st.users.length c1)/\W'.cell? ⟨z1.heap.size,2,none⟩=some (.slice A2 st.deposits.length c2)/\W'.cell? ⟨z1.heap.size,3,none⟩=some (.slice A3 st.folders.length c3)) W' from fun W' hW=>⟨hW,(hW.cell (p:=⟨z5.heap.size,0,none⟩) (zF a0)).trans a0,(hW.cell (p:=⟨z1.heap.size,0,none⟩) (zF s0)).trans s0,(hW.cell (p:=⟨z1.heap.size,1,none⟩) (zF s1)).trans s1,(hW.cell (p:=⟨z1.heap.size,2,none⟩) (zF s2)).trans s2,(hW.cell (p:=⟨z1.heap.size,3,none⟩) (zF s3)).trans s3⟩)
   refine zE (by kernel_rfl) HSQ.out (fun hHeld=>?_)
   refine zT 0 _ rfl (by kernel_rfl) rfl (fun _ _ _ h=>h) hHeld (by intro W' h;go_simp;try with_reducible rfl) ?_
   simp only [zA]
   refine zT 1 _ rfl (by kernel_rfl) rfl (fun _ _ _ h=>h) hHeld (by intro W' h;go_simp;try with_reducible rfl) ?_
   simp only [zA]
   refine zT 2 _ rfl (by kernel_rfl) rfl (fun _ _ _ h=>h) hHeld (by intro W' h;go_simp;try with_reducible rfl) ?_
   simp only [zA]
   refine zT 3 _ rfl (by kernel_rfl) rfl (fun _ _ _ h=>h) hHeld (by intro W' h;go_simp;try with_reducible rfl) ?_
   simp only [zA]
   refine zX 4 rfl (by kernel_rfl) rfl (fun _ _ _ h=>h) hHeld ?_
   simp only [zA]
   refine zT 5 _ rfl (by kernel_rfl) rfl (fun _ _ _ h=>h) hHeld (by intro W' h;go_simp;try with_reducible rfl) ?_
   simp only [zA]
   refine zT 6 _ rfl (by kernel_rfl) rfl (fun _ _ _ h=>h) hHeld (by intro W' h;go_simp;try with_reducible rfl) ?_
   simp only [zA]
   refine zT 7 _ rfl (by kernel_rfl) rfl (fun _ _ _ h=>h) hHeld (by intro W' h;go_simp;try with_reducible rfl) ?_
   simp only [zA]
   refine zT 9 _ rfl (by kernel_rfl) rfl (fun _ _ _ h=>h) hHeld (by intro W' h;go_simp;try with_reducible rfl) ?_
   simp only [zA]
   refine wpAnyH_ready (rs:=[8]) (by kernel_rfl) (by simp) ?_
   refine AllReadyH.cons rfl (fun K hK=>?_) AllReadyH.nil
   go_simp
   go_at_call 19
   refine Calls.mono (z43 (HV5.out.below ((Below.refl _ _).drew)) HCK.out) ?_
   rintro e3 z6 ⟨cs6,rfl,hst6,b3⟩
   have Bz6:Below y5.heap.size y5 z6:=zB ((Below.refl _ _).drew) b3
   clear b3 hHeld
   refine hK.out _ _ (HSQ.out _ Bz6) (fun hHeld=>?_)
   clear hK K
   have HS6:=zh hst6
   clear hst6
   refine wpAnyH_ready (rs:=[10]) (by kernel_rfl) (by simp) ?_
   refine AllReadyH.cons rfl (fun K hK=>?_) AllReadyH.nil
   go_simp
   go_at_call 18
   refine Calls.mono (z4v st HPV.out cs6 [.int .i64 st.turn,.slice A1 st.users.length c1,.slice A2 st.deposits.length c2,.slice A3 st.folders.length c3] z6 _ _ HS6.out (Z7 HS5.out (zJ (Bz6)))) ?_
   rintro e3 z7 ⟨rfl,b3⟩
   have Bz7:Below y5.heap.size y5 z7:=zB (Bz6) b3
   clear b3 hHeld
   refine hK.out _ _ (HSQ.out _ Bz7) (fun hHeld=>?_)
   clear hK K
   refine zT 11 _ rfl (by kernel_rfl) rfl (fun _ _ _ h=>h) hHeld (by intro W' h;go_simp;try with_reducible rfl) ?_
   simp only [zA]
   refine zT 12 _ rfl (by kernel_rfl) rfl (fun _ _ _ h=>h) hHeld (by intro W' h;go_simp;try with_reducible rfl) ?_
   simp only [zA]
   refine wpAnyH_done (by kernel_rfl) ?_ _
   clear hHeld HSQ
   have HB7:=zh (zB HB5.out Bz7)
   have HV7:=zh (HV5.out.below Bz7)
   have HNA7:=zh ((Bz7.block _ (zM HNA.out)).trans HNA.out)
   have HA7:=zh (Y8 HA5.out (zJ Bz7))
   obtain ⟨a0,a1,a2,a3,a4,a5,a6⟩:=zC7 (zD HNA7.out).1
   clear Bz6 Bz7 s0 s1 s2 s3
   have HAZ:=zh (show yS (fun _=>True) z7 [.int .i64 a.err,.int .i64 0,.string ⟨#[]⟩,.slice none 0 0,.slice none 0 0,.slice none 0 0,.slice none 0 0] a from by
    obtain ⟨_,_,_,_,_,i0,_⟩:=HA7.out
    have h1:=ZP (S:=fun _=>True) (w:=z7) (e:=a.err) i0
    rw [<-HE2.out] at h1
    exact h1)
   go_wp2_with fail
   refine Calls.mono (zIi a _ _ z7 _ _ HA7.out HAZ.out) ?_
   rintro e8 _ ⟨rfl,B8⟩
   have HB8:=zh (zB HB7.out B8)
   have HV8:=zh (HV7.out.below B8)
   clear B8 a0 a1 a2 a3 a4 a5 a6
   go_wp2
   go_roundw
   case rel=>exact ⟨k+1,st,by omega,by go_num,HV8,zh HKV.out.1,zh HKV.out.2,HB8⟩
   case measure=>simp [RowKit.intOf];omega
  have g1:(a.err !=0)=false:=by simp [he]
  have HE:=zh he
  cases hrb:z1u x.kind with
  | true=>
   obtain rfl:st=st5:=Eq.symm (HRD.out (by
    unfold z1u at hrb
    simp only [Bool.or_eq_true,decide_eq_true_eq] at hrb
    rcases hrb with ((h | h) | h) | h
    ·exact .inl h
    ·exact .inr (.inl h)
    ·exact .inr (.inr (.inl h))
    ·exact .inr (.inr (.inr h))))
   clear hrb he
   go_upto_region 22 with fail
   have HSQ:=zh (show ∀W':World,Below y5.heap.size y5 W'->(fun W':World=>Below y5.heap.size y5 W'/\W'.cell? ⟨z5.heap.size,0,none⟩=some (.int .i64 a.err)/\W'.cell? ⟨z1.heap.size,0,none⟩=some (.int .i64 st.turn)/\W'.cell? ⟨z1.heap.size,1,none⟩=some (.slice A1 st.users.length c1)/\W'.cell? ⟨z1.heap.size,2,none⟩=some (.slice A2 st.deposits.length c2)/\W'.cell? ⟨z1.heap.size,3,none⟩=some (.slice A3 st.folders.length c3)) W' from fun W' hW=>⟨hW,(hW.cell (p:=⟨z5.heap.size,0,none⟩) (zF a0)).trans a0,(hW.cell (p:=⟨z1.heap.size,0,none⟩) (zF s0)).trans s0,(hW.cell (p:=⟨z1.heap.size,1,none⟩) (zF s1)).trans s1,(hW.cell (p:=⟨z1.heap.size,2,none⟩) (zF s2)).trans s2,(hW.cell (p:=⟨z1.heap.size,3,none⟩) (zF s3)).trans s3⟩)
   refine zE (by kernel_rfl) HSQ.out (fun hHeld=>?_)
   refine zT 0 _ rfl (by kernel_rfl) rfl (fun _ _ _ h=>h) hHeld (by intro W' h;go_simp;try with_reducible rfl) ?_
   simp only [zA]
   refine zT 1 _ rfl (by kernel_rfl) rfl (fun _ _ _ h=>h) hHeld (by intro W' h;go_simp;try with_reducible rfl) ?_
   simp only [zA]
   refine zT 2 _ rfl (by kernel_rfl) rfl (fun _ _ _ h=>h) hHeld (by intro W' h;go_simp;try with_reducible rfl) ?_
   simp only [zA]
   refine zT 3 _ rfl (by kernel_rfl) rfl (fun _ _ _ h=>h) hHeld (by intro W' h;go_simp;try with_reducible rfl) ?_
   simp only [zA]
   refine zT 4 _ rfl (by kernel_rfl) rfl (fun _ _ _ h=>h) hHeld (by intro W' h;go_simp;try with_reducible rfl) ?_
   simp only [zA]
   refine zT 5 _ rfl (by kernel_rfl) rfl (fun _ _ _ h=>h) hHeld (by intro W' h;go_simp;try with_reducible rfl) ?_
   simp only [zA]
   refine zT 6 _ rfl (by kernel_rfl) rfl (fun _ _ _ h=>h) hHeld (by intro W' h;go_simp;try with_reducible rfl) ?_
   simp only [zA]
   refine zT 7 _ rfl (by kernel_rfl) rfl (fun _ _ _ h=>h) hHeld (by intro W' h;go_simp;try with_reducible rfl) ?_
   simp only [zA]
   refine zT 9 _ rfl (by kernel_rfl) rfl (fun _ _ _ h=>h) hHeld (by intro W' h;go_simp;try with_reducible rfl) ?_
   simp only [zA]
   refine wpAnyH_ready (rs:=[8]) (by kernel_rfl) (by simp) ?_
   refine AllReadyH.cons rfl (fun K hK=>?_) AllReadyH.nil
   go_simp
   go_at_call 19
   refine Calls.mono (z43 (HV5.out.below ((Below.refl _ _).drew)) HCK.out) ?_
   rintro e3 z6 ⟨cs6,rfl,hst6,b3⟩
   have Bz6:Below y5.heap.size y5 z6:=zB ((Below.refl _ _).drew) b3
   clear b3 hHeld
   refine hK.out _ _ (HSQ.out _ Bz6) (fun hHeld=>?_)
   clear hK K
   have HS6:=zh hst6
   clear hst6
   refine wpAnyH_ready (rs:=[10]) (by kernel_rfl) (by simp) ?_
   refine AllReadyH.cons rfl (fun K hK=>?_) AllReadyH.nil
   go_simp
   go_at_call 18
   refine Calls.mono (z4v st HPV.out cs6 [.int .i64 st.turn,.slice A1 st.users.length c1,.slice A2 st.deposits.length c2,.slice A3 st.folders.length c3] z6 _ _ HS6.out (Z7 HS5.out (zJ (Bz6)))) ?_
   rintro e3 z7 ⟨rfl,b3⟩
   have Bz7:Below y5.heap.size y5 z7:=zB (Bz6) b3
   clear b3 hHeld
   refine hK.out _ _ (HSQ.out _ Bz7) (fun hHeld=>?_)
   clear hK K
   refine zT 11 _ rfl (by kernel_rfl) rfl (fun _ _ _ h=>h) hHeld (by intro W' h;go_simp;try with_reducible rfl) ?_
   simp only [zA]
   refine zT 12 _ rfl (by kernel_rfl) rfl (fun _ _ _ h=>h) hHeld (by intro W' h;go_simp;try with_reducible rfl) ?_
   simp only [zA]
   refine wpAnyH_done (by kernel_rfl) ?_ _
   clear hHeld HSQ
   have HB7:=zh (zB HB5.out Bz7)
   have HV7:=zh (HV5.out.below Bz7)
   have a1:=(Bz7.cell (p:=⟨z5.heap.size,0,none⟩) (zM HNA.out)).trans a0
   clear Bz6 Bz7 a0 s0 s1 s2 s3
   go_wp2
   go_roundw
   case rel=>exact ⟨k+1,st,by omega,by go_num,HV7,zh HKV.out.1,zh HKV.out.2,HB7⟩
   case measure=>simp [RowKit.intOf];omega
  | false=>
   clear hrb he
   go_upto_region 22 with fail
   have HSQ:=zh (show ∀W':World,Below y5.heap.size y5 W'->(fun W':World=>Below y5.heap.size y5 W'/\W'.cell? ⟨z5.heap.size,0,none⟩=some (.int .i64 a.err)/\W'.cell? ⟨z1.heap.size,0,none⟩=some (.int .i64 st.turn)/\W'.cell? ⟨z1.heap.size,1,none⟩=some (.slice A1 st.users.length c1)/\W'.cell? ⟨z1.heap.size,2,none⟩=some (.slice A2 st.deposits.length c2)/\W'.cell? ⟨z1.heap.size,3,none⟩=some (.slice A3 st.folders.length c3)) W' from fun W' hW=>⟨hW,(hW.cell (p:=⟨z5.heap.size,0,none⟩) (zF a0)).trans a0,(hW.cell (p:=⟨z1.heap.size,0,none⟩) (zF s0)).trans s0,(hW.cell (p:=⟨z1.heap.size,1,none⟩) (zF s1)).trans s1,(hW.cell (p:=⟨z1.heap.size,2,none⟩) (zF s2)).trans s2,(hW.cell (p:=⟨z1.heap.size,3,none⟩) (zF s3)).trans s3⟩)
   refine zE (by kernel_rfl) HSQ.out (fun hHeld=>?_)
   refine zT 0 _ rfl (by kernel_rfl) rfl (fun _ _ _ h=>h) hHeld (by intro W' h;go_simp;try with_reducible rfl) ?_
   simp only [zA]
   refine zT 1 _ rfl (by kernel_rfl) rfl (fun _ _ _ h=>h) hHeld (by intro W' h;go_simp;try with_reducible rfl) ?_
   simp only [zA]
   refine zT 2 _ rfl (by kernel_rfl) rfl (fun _ _ _ h=>h) hHeld (by intro W' h;go_simp;try with_reducible rfl) ?_
   simp only [zA]
   refine zT 3 _ rfl (by kernel_rfl) rfl (fun _ _ _ h=>h) hHeld (by intro W' h;go_simp;try with_reducible rfl) ?_
   simp only [zA]
   refine zT 4 _ rfl (by kernel_rfl) rfl (fun _ _ _ h=>h) hHeld (by intro W' h;go_simp;try with_reducible rfl) ?_
   simp only [zA]
   refine zT 5 _ rfl (by kernel_rfl) rfl (fun _ _ _ h=>h) hHeld (by intro W' h;go_simp;try with_reducible rfl) ?_
   simp only [zA]
   refine zT 6 _ rfl (by kernel_rfl) rfl (fun _ _ _ h=>h) hHeld (by intro W' h;go_simp;try with_reducible rfl) ?_
   simp only [zA]
   refine zX 7 rfl (by kernel_rfl) rfl (fun _ _ _ h=>h) hHeld ?_
   simp only [zA]
   refine zX 8 rfl (by kernel_rfl) rfl (fun _ _ _ h=>h) hHeld ?_
   simp only [zA]
   refine zX 9 rfl (by kernel_rfl) rfl (fun _ _ _ h=>h) hHeld ?_
   simp only [zA]
   refine zX 10 rfl (by kernel_rfl) rfl (fun _ _ _ h=>h) hHeld ?_
   simp only [zA]
   refine zX 11 rfl (by kernel_rfl) rfl (fun _ _ _ h=>h) hHeld ?_
   simp only [zA]
   refine zT 12 _ rfl (by kernel_rfl) rfl (fun _ _ _ h=>h) hHeld (by intro W' h;go_simp;try with_reducible rfl) ?_
   simp only [zA]
   refine wpAnyH_done (by kernel_rfl) ?_ _
   clear hHeld HSQ
   have HBD:=(Below.refl y5.heap.size y5).drew
   have HB7:=zh (zB HB5.out HBD)
   have HV7:=zh (HV5.out.below HBD)
   have a1:=(HBD.cell (p:=⟨z5.heap.size,0,none⟩) (zM HNA.out)).trans a0
   clear HBD a0 s0 s1 s2 s3
   go_wp2
   go_roundw
   case rel=>exact ⟨k+1,st5,by omega,by go_num,HV7,zh HKV.out.1,zh HKV.out.2,HB7⟩
   case measure=>simp [RowKit.intOf];omega
end
section
open Go.ChangeShapes Go.WideShapes Go.ChangeAt Go.RowKit Go.Deep Go.Maps
theorem zB0 (w:World) (n:Int) (hn:(Lit.int .u32 n).wf=true) (l:List Call) (v:Value) (h:Sl 8 z01 (fun _=>True) w v l) (hL:laidMetH Tryz.prog Rows.vaultStaysRow.laid w):
  Calls Tryz.prog 4 #[.int .u32 n,v] w fun e w'=>e= .returned (.bool true)/\Below w.heap.size w w':=walk0 w n (by simp only [Lit.wf,Bool.and_eq_true,decide_eq_true_eq] at hn;exact ⟨hn.1,Int.lt_of_le_of_lt hn.2 (by decide)⟩) l v h (laid_cells hL)
theorem z8v (os:Os) (started:os.Started) (H:Type) (enc:TypeId×Value->H):
  ReturnsInHanded {} Tryz.checked os 4 .any (fun w args=>(Rows.vaultStaysSpec.pre enc Tryz.prog Tryz.f4 Rows.vaultStaysRow.domain false w args/\laidMetH Tryz.prog Rows.vaultStaysRow.laid w)/\sizedMet enc Tryz.prog Tryz.f4 (OpenSpec.ofChange Rows.vaultStaysSpec) false w args) (Rows.vaultStaysSpec.post enc Tryz.prog Tryz.f4 false true false false):=by
 refine returnsInHanded_of_change_and (C:=Tryz.checked) (X:=fun w _=>laidMetH Tryz.prog Rows.vaultStaysRow.laid w) (fun _ _ _ hh h=>h.of_heap hh) zNj started (by kernel_rfl) Tryz.func4
  (ChangeSpec.witness_shaped (enc:=enc) (C:=Tryz.checked) (os:=os) (X:=fun w _=>laidMetH Tryz.prog Rows.vaultStaysRow.laid w) false (World.laidAll Tryz.prog os Rows.vaultStaysRow.laid) #[.int .u32 0,.slice none 0 0] 8 (World.laidAll_os _ _ _)
   (World.shaped_of_ZipB (by kernel_rfl) (by kernel_rfl)) (by kernel_rfl) (by kernel_rfl) (by kernel_rfl)
   (by rw [MakeChecks.laidMetH_plain _ _ _ (by kernel_rfl)];exact laidMet_laidAll _ (by kernel_rfl) (by kernel_rfl))) ?_
 intro W base args ds gs before hval0 hW hcnd hsz0 hL _
 have hval:∀(j:Nat) t v,Tryz.f4.params[j]? =some t->args[j]? =some v->Value.okWide Tryz.prog W .any base t v:=hval0
 have hW':=hW
 obtain ⟨p,q,hA0,hV,rfl,_,_⟩:=hW
 have hA:DataW.TrodAll enc Tryz.prog W 0 (fun _=>true) true Tryz.f4.params.toList args.toList ds p:=hA0
 rw [Tryz.params4] at hA hval
 obtain ⟨v0,_,_,_,_,_,hargs,rfl,rfl,h0,r0⟩:=trodAll_cons hA
 obtain ⟨v1,_,_,_,_,_,rfl,rfl,rfl,h1,r1⟩:=trodAll_cons r0
 obtain ⟨rfl,rfl,rfl⟩:=trodAll_nil r1
 obtain rfl:args=#[v0,v1]:=by cases args;simp_all
 obtain ⟨rfl,rfl⟩:=trodVars_none hV
 clear hargs
 obtain ⟨a0,rfl,rfl,rfl,w0⟩:=open_int Tryz.underlying62 (hval 0 62 v0 rfl rfl) h0
 obtain ⟨_,hf1⟩:=h1
 obtain ⟨a1,hx1⟩:=zOt Tryz.underlying63 (zE4 Tryz.underlying63 (by kernel_rfl) (of_decide_eq_true (by kernel_rfl)) (by decide) zOq (z9d).len) (hval 1 63 v1 rfl rfl) hf1 (fun q hq=>by simpa using List.all_eq_true.1 hsz0 q (DataW.weights_mem_each (j:=1) rfl rfl q hq))
 refine (zB0 W a0 w0 a1 _ hx1 hL).mono fun e W' ⟨he,hg⟩=>?_
 subst he
 exact ⟨_,rfl,zLv hW' rfl rfl rfl Tryz.underlying4 zEb (by kernel_rfl) hg⟩
theorem z7g:Rows.VaultStaysSaid:=
 OpenClaim.holds_of_wide 4 Tryz.f4 rfl rfl rfl rfl rfl rfl rfl ⟨rfl,rfl,rfl,rfl,rfl⟩ rfl rfl rfl rfl rfl (by kernel_rfl) Tryz.func4 (by kernel_rfl)
  (of_decide_eq_true (by kernel_rfl)) (by unfold Func.isWrapper;first | (rw [if_pos (by decide+kernel)];kernel_rfl) | (rw [if_neg (by decide+kernel)];exact ⟨rfl,rfl⟩))
  (fun os started H enc _=>z8v os started H enc)
theorem vaultStays_holds:Rows.VaultStaysCardSaid:=
 Claim7.holds_tied_plain_at .later [] [.data] true (true, "0a5bf4cfdda4f0b6f93d0f43be3f98d9f32645af79d4df54a64809a6d578d50f") false z7g (fun _ h=>by cases h) (by kernel_rfl) (fun _ h=>by cases h) vaultStays_row_tie rfl ⟨rfl,rfl⟩ (by kernel_rfl) rfl
  (fun f fn hf hfn=>by
   obtain rfl:f=4:=Option.some.inj ((show Tryz.prog.funcNamed Rows.vaultStaysRow.func=some 4 by kernel_rfl).symm.trans hf) |>.symm
   obtain rfl:fn=Tryz.f4:=(Option.some.inj (Tryz.func4.symm.trans hfn)).symm
   exact ⟨by kernel_rfl,fun j t ht=>by
    rw [Tryz.params4] at ht
    have hm:t∈[62,63]:=by simpa using Array.mem_of_getElem? ht
    have hall:([62,63].all fun u=>!Tryz.prog.wantsStandIn u)=true:=by kernel_rfl
    exact (show Tryz.prog.wantsStandIn t=false by simpa using List.all_eq_true.1 hall t hm)⟩)
  (by kernel_rfl)
end
end Go.Proofs.YtdggplhnfhcieaaGreatDoor
