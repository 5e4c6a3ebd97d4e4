/- Part 10 of the proof of vaultStays_holds. No condition. -/
import Derived.Deep.CutRange
import Derived.Test.YtdggplhnfhcieaaGreatDoorZ06
set_option linter.unusedVariables false
set_option linter.unusedSimpArgs false
set_option linter.unusedSectionVars false
set_option maxRecDepth 100000
namespace Go.Proofs.YtdggplhnfhcieaaGreatDoor
open Go.RowKit Go.Deep
set_option maxHeartbeats 8000000 in
theorem zBq (x:Folder) (hpv:∀m∈x.manifests,m.prev=[]) (cs ds:List Value) (w:World) (S S':Nat->Prop) (h:ZE S w cs x) (k:ZE S' w ds x):
  Calls Tryz.prog 46 #[.agg cs.toArray,.agg ds.toArray] w fun e w'=>e= .returned (.bool true)/\Below w.heap.size w w':=by
 have HPV:=zh hpv
 obtain ⟨A2,a2,A3,a3,A4,a4,A5,a5,A6,a6,rfl,_,_,_,_,_,s2,_,_,_,s3,_,_,_,s4,_,_,_,s5,_,_,_,s6⟩:=ZB h
 obtain ⟨B2,b2,B3,b3,B4,b4,B5,b5,B6,b6,rfl,_,_,_,_,_,t2,_,_,_,t3,_,_,_,t4,_,_,_,t5,_,_,_,t6⟩:=ZB k
 obtain ⟨W1,hW1,c1,f1,BW1,_⟩:=zQ w #[.string x.name,.int .i64 x.turn,.slice A2 x.manifests.length a2,.slice A3 x.epochs.length a3,.slice A4 x.items.length a4,.slice A5 x.wraps.length a5,.slice A6 x.links.length a6] 74
 obtain ⟨W2,hW2,c2,f2,BW2,_⟩:=zQ W1 #[.string x.name,.int .i64 x.turn,.slice B2 x.manifests.length b2,.slice B3 x.epochs.length b3,.slice B4 x.items.length b4,.slice B5 x.wraps.length b5,.slice B6 x.links.length b6] 74
 have hz1:=BW1.size
 have hz2:=BW2.size
 have hWs:W1.heap.size=w.heap.size+1:=by rw [<-hW1];simp
 have KA:=zh (show ∀(j:Nat) (v:Value),(#[.string x.name,.int .i64 x.turn,.slice A2 x.manifests.length a2,.slice A3 x.epochs.length a3,.slice A4 x.items.length a4,.slice A5 x.wraps.length a5,.slice A6 x.links.length a6]:Array Value)[j]? =some v->∀W,Below W2.heap.size W2 W->W.cell? ⟨w.heap.size,j,none⟩=some v from fun j v hj W hW=>((zB BW2 hW).cell (p:=⟨w.heap.size,j,none⟩) (by dsimp only;omega)).trans (c1 j v hj))
 have KB:=zh (show ∀(j:Nat) (v:Value),(#[.string x.name,.int .i64 x.turn,.slice B2 x.manifests.length b2,.slice B3 x.epochs.length b3,.slice B4 x.items.length b4,.slice B5 x.wraps.length b5,.slice B6 x.links.length b6]:Array Value)[j]? =some v->∀W,Below W2.heap.size W2 W->W.cell? ⟨w.heap.size+1,j,none⟩=some v from fun j v hj W hW=>by rw [<-hWs];exact (hW.cell (p:=⟨W1.heap.size,j,none⟩) (by dsimp only;omega)).trans (c2 j v hj))
 have HB12:=zh (zB BW1 BW2)
 have SA2:=zh s2
 have SB2:=zh t2
 have SA3:=zh s3
 have SB3:=zh t3
 have SA4:=zh s4
 have SB4:=zh t4
 have SA5:=zh s5
 have SB5:=zh t5
 have SA6:=zh s6
 have SB6:=zh t6
 clear h k s2 s3 s4 s5 s6 t2 t3 t4 t5 t6 c1 c2 f1 f2 BW1 BW2
 have egAt:Tryz.prog.eqGuardType Tryz.prog.depth 124=false:=by kernel_rfl
 have shAt:Tryz.prog.stoodInHeld 124=false:=by kernel_rfl
 have ufAt:=Tryz.underlying124
 have egWrap:Tryz.prog.eqGuardType Tryz.prog.depth 149=false:=by kernel_rfl
 have shWrap:Tryz.prog.stoodInHeld 149=false:=by kernel_rfl
 have ufWrap:=Tryz.underlying149
 have egLink:Tryz.prog.eqGuardType Tryz.prog.depth 151=false:=by kernel_rfl
 have shLink:Tryz.prog.stoodInHeld 151=false:=by kernel_rfl
 have ufLink:=Tryz.underlying151
 have r0:=KA.out 0 _ rfl W2 (Below.refl _ _)
 have z0:=KB.out 0 _ rfl W2 (Below.refl _ _)
 have r1:=KA.out 1 _ rfl W2 (Below.refl _ _)
 have z1:=KB.out 1 _ rfl W2 (Below.refl _ _)
 have r2:=KA.out 2 _ rfl W2 (Below.refl _ _)
 have z2:=KB.out 2 _ rfl W2 (Below.refl _ _)
 have r3:=KA.out 3 _ rfl W2 (Below.refl _ _)
 have z3:=KB.out 3 _ rfl W2 (Below.refl _ _)
 have r4:=KA.out 4 _ rfl W2 (Below.refl _ _)
 have z4:=KB.out 4 _ rfl W2 (Below.refl _ _)
 have r5:=KA.out 5 _ rfl W2 (Below.refl _ _)
 have z5:=KB.out 5 _ rfl W2 (Below.refl _ _)
 have r6:=KA.out 6 _ rfl W2 (Below.refl _ _)
 have z6:=KB.out 6 _ rfl W2 (Below.refl _ _)
 go_enter Tryz.func46,Tryz.ntmps46
 go_wp2_with fail
 clear r0 z0 r1 z1 r2 z2 r3 z3 r4 z4 r5 z5 r6 z6 hW1 hW2
 go_loopw [5] (fun i wr=>∃k:Nat,k<=x.manifests.length/\i= .int .i64 k/\Below W2.heap.size W2 wr) (fun i _=>x.manifests.length - (RowKit.intOf i).toNat)
 case atStart=>exact ⟨0,by omega,by go_num,Below.refl _ _⟩
 obtain ⟨k,hk,rfl,hbel⟩:=hrel
 have rr:=KA.out 2 _ rfl wr hbel
 have zz:=KB.out 2 _ rfl wr hbel
 have BB:=zB HB12.out hbel
 by_cases hlt:k < x.manifests.length
 ·as_aux_lemma=>
   obtain ⟨m,m_b,m_o,m_A2,m_c2,m_A4,m_c4,m_k,m_d,m_m,rfl,m_l,m_S,m_0,m_1,m_2,m_3,m_4,_,_,_,m_R,_,m_seq_ok,_,_,_,m_prev_s,_,m_members_l,m_members_m,m_members_n,m_members_s,_,m_who_le⟩:=z5d SA2.out hlt (zJ BB)
   obtain ⟨y,y_b,y_o,y_A2,y_c2,y_A4,y_c4,y_k,y_d,y_m,rfl,y_l,y_S,y_0,y_1,y_2,y_3,y_4,y_5,y_6,y_7,y_R,_,y_seq_ok,_,_,_,y_prev_s,_,y_members_l,y_members_m,y_members_n,y_members_s,_,y_who_le⟩:=z5d SB2.out hlt (zJ BB)
   obtain rfl:m=y:=Option.some.inj (m_k.symm.trans y_k)
   have hk2:(k:Int) < (x.manifests.length:Int):=by omega
   have hpl:m.prev.length=0:=by rw [HPV.out m m_m];rfl
   rw [hpl] at m_2 y_2
   clear hpl
   obtain ⟨v1,hv1,cv1,fv1,Bv1,qv1⟩:=zQ wr #[.string m.folder,.int .i64 m.seq,.slice m_A2 0 m_c2,.string m.parent,.slice m_A4 m.members.length m_c4,.int .i64 m.cut,.bool m.gone,.string m.who] 84
   obtain ⟨v2,hv2,cv2,fv2,Bv2,qv2⟩:=zQ v1 #[.string m.folder,.int .i64 m.seq,.slice y_A2 0 y_c2,.string m.parent,.slice y_A4 m.members.length y_c4,.int .i64 m.cut,.bool m.gone,.string m.who] 84
   have hvs:v1.heap.size=wr.heap.size+1:=by rw [<-hv1,World.size_alloc]
   have e0:=cv1 0 _ rfl
   have e1:=cv1 1 _ rfl
   have e2:=cv1 2 _ rfl
   have e3:=cv1 3 _ rfl
   have e4:=cv1 4 _ rfl
   have e5:=cv1 5 _ rfl
   have e6:=cv1 6 _ rfl
   have e7:=cv1 7 _ rfl
   have zz':=(Bv1.cell (p:=⟨w.heap.size+1,2,none⟩) (zF zz)).trans zz
   have d0:=(Bv1.cell (p:=⟨y_b,y_o+k*8,none⟩) (zF y_0)).trans y_0
   have d1:=(Bv1.cell (p:=⟨y_b,y_o+k*8+1,none⟩) (zF y_1)).trans y_1
   have d2:=(Bv1.cell (p:=⟨y_b,y_o+k*8+2,none⟩) (zF y_2)).trans y_2
   have d3:=(Bv1.cell (p:=⟨y_b,y_o+k*8+3,none⟩) (zF y_3)).trans y_3
   have d4:=(Bv1.cell (p:=⟨y_b,y_o+k*8+4,none⟩) (zF y_4)).trans y_4
   have d5:=(Bv1.cell (p:=⟨y_b,y_o+k*8+5,none⟩) (zF y_5)).trans y_5
   have d6:=(Bv1.cell (p:=⟨y_b,y_o+k*8+6,none⟩) (zF y_6)).trans y_6
   have d7:=(Bv1.cell (p:=⟨y_b,y_o+k*8+7,none⟩) (zF y_7)).trans y_7
   have x0:=(Bv2.cell (p:=⟨wr.heap.size,0,none⟩) qv1).trans e0
   have x1:=(Bv2.cell (p:=⟨wr.heap.size,1,none⟩) qv1).trans e1
   have x2:=(Bv2.cell (p:=⟨wr.heap.size,2,none⟩) qv1).trans e2
   have x3:=(Bv2.cell (p:=⟨wr.heap.size,3,none⟩) qv1).trans e3
   have x4:=(Bv2.cell (p:=⟨wr.heap.size,4,none⟩) qv1).trans e4
   have x5:=(Bv2.cell (p:=⟨wr.heap.size,5,none⟩) qv1).trans e5
   have x6:=(Bv2.cell (p:=⟨wr.heap.size,6,none⟩) qv1).trans e6
   have x7:=(Bv2.cell (p:=⟨wr.heap.size,7,none⟩) qv1).trans e7
   have w0:=cv2 0 _ rfl
   rw [hvs] at w0
   have w1:=cv2 1 _ rfl
   rw [hvs] at w1
   have w2:=cv2 2 _ rfl
   rw [hvs] at w2
   have w3:=cv2 3 _ rfl
   rw [hvs] at w3
   have w4:=cv2 4 _ rfl
   rw [hvs] at w4
   have w5:=cv2 5 _ rfl
   rw [hvs] at w5
   have w6:=cv2 6 _ rfl
   rw [hvs] at w6
   have w7:=cv2 7 _ rfl
   rw [hvs] at w7
   have HM1:=zh (show Sl 2 zV S wr (.slice m_A4 m.members.length m_c4) m.members from ⟨m_A4,m_c4,rfl,m_members_l,by unfold maxLen;exact m_members_m,m_members_n,m_members_s⟩)
   have HM2:=zh (show Sl 2 zV S' wr (.slice y_A4 m.members.length y_c4) m.members from ⟨y_A4,y_c4,rfl,y_members_l,by unfold maxLen;exact y_members_m,y_members_n,y_members_s⟩)
   have HV12:=zh (zB Bv1 Bv2)
   have hq2:wr.heap.size+1 < v2.heap.size:=by rw [<-hvs];exact qv2
   clear e0 e1 e2 e3 e4 e5 e6 e7 cv1 fv1 Bv1 cv2 fv2 Bv2 m_k y_k m_d y_d m_R y_R m_prev_s y_prev_s m_members_s y_members_s qv2
   go_wp2_with fail
   refine Calls.mono (z93 m.members _ _ v2 _ _ (HM1.out.keep Z8 (by decide) (zJ HV12.out)) (HM2.out.keep Z8 (by decide) (zJ HV12.out))) ?_
   rintro e _ ⟨rfl,B3⟩
   replace x5:=(B3.cell (p:=⟨wr.heap.size,5,none⟩) (zF x5)).trans x5
   replace w5:=(B3.cell (p:=⟨wr.heap.size+1,5,none⟩) hq2).trans w5
   replace x6:=(B3.cell (p:=⟨wr.heap.size,6,none⟩) (zF x6)).trans x6
   replace w6:=(B3.cell (p:=⟨wr.heap.size+1,6,none⟩) hq2).trans w6
   replace x7:=(B3.cell (p:=⟨wr.heap.size,7,none⟩) (zF x7)).trans x7
   replace w7:=(B3.cell (p:=⟨wr.heap.size+1,7,none⟩) hq2).trans w7
   have HB3:=zh (zB hbel (zB HV12.out B3))
   clear B3 hv1 hv2
   go_wp2
   go_roundw
   case rel=>exact ⟨k+1,by omega,by go_num,HB3.out⟩
   case measure=>simp [RowKit.intOf];omega
 obtain rfl:k=x.manifests.length:=by omega
 go_wp2
 clear rr zz
 obtain ⟨wp,rfl⟩:∃wp:World,wp=wr:=⟨_,rfl⟩
 go_loopw [8] (fun i wr=>∃k:Nat,k<=x.epochs.length/\i= .int .i64 k/\Below W2.heap.size W2 wr) (fun i _=>x.epochs.length - (RowKit.intOf i).toNat)
 case atStart=>exact ⟨0,by omega,by go_num,hbel⟩
 obtain ⟨k,hk,rfl,hbel⟩:=hrel
 have rr:=KA.out 3 _ rfl wr hbel
 have zz:=KB.out 3 _ rfl wr hbel
 have BB:=zB HB12.out hbel
 by_cases hlt:k < x.epochs.length
 ·as_aux_lemma=>
   obtain ⟨m,m_b,m_o,m_A3,m_c3,m_k,m_d,m_m,rfl,m_l,m_S,m_0,m_1,m_2,m_3,m_4,m_R,_,_,m_seq_ok,_,_,_,m_chain_s,m_who_le⟩:=zBu SA3.out hlt (zJ BB)
   obtain ⟨y,y_b,y_o,y_A3,y_c3,y_k,y_d,y_m,rfl,y_l,y_S,y_0,y_1,y_2,y_3,y_4,y_R,_,_,y_seq_ok,_,_,_,y_chain_s,y_who_le⟩:=zBu SB3.out hlt (zJ BB)
   obtain rfl:m=y:=Option.some.inj (m_k.symm.trans y_k)
   have hk2:(k:Int) < (x.epochs.length:Int):=by omega
   obtain ⟨v1,hv1,cv1,fv1,Bv1,qv1⟩:=zQ wr #[.int .i64 m.place,.int .i64 m.frm,.int .i64 m.seq,.slice m_A3 m.chain.length m_c3,.string m.who] 130
   obtain ⟨v2,hv2,cv2,fv2,Bv2,qv2⟩:=zQ v1 #[.int .i64 m.place,.int .i64 m.frm,.int .i64 m.seq,.slice y_A3 m.chain.length y_c3,.string m.who] 130
   have hvs:v1.heap.size=wr.heap.size+1:=by rw [<-hv1,World.size_alloc]
   have e0:=cv1 0 _ rfl
   have e1:=cv1 1 _ rfl
   have e2:=cv1 2 _ rfl
   have e3:=cv1 3 _ rfl
   have e4:=cv1 4 _ rfl
   have zz':=(Bv1.cell (p:=⟨w.heap.size+1,3,none⟩) (zF zz)).trans zz
   have d0:=(Bv1.cell (p:=⟨y_b,y_o+k*5,none⟩) (zF y_0)).trans y_0
   have d1:=(Bv1.cell (p:=⟨y_b,y_o+k*5+1,none⟩) (zF y_1)).trans y_1
   have d2:=(Bv1.cell (p:=⟨y_b,y_o+k*5+2,none⟩) (zF y_2)).trans y_2
   have d3:=(Bv1.cell (p:=⟨y_b,y_o+k*5+3,none⟩) (zF y_3)).trans y_3
   have d4:=(Bv1.cell (p:=⟨y_b,y_o+k*5+4,none⟩) (zF y_4)).trans y_4
   have x0:=(Bv2.cell (p:=⟨wr.heap.size,0,none⟩) qv1).trans e0
   have x1:=(Bv2.cell (p:=⟨wr.heap.size,1,none⟩) qv1).trans e1
   have x2:=(Bv2.cell (p:=⟨wr.heap.size,2,none⟩) qv1).trans e2
   have x3:=(Bv2.cell (p:=⟨wr.heap.size,3,none⟩) qv1).trans e3
   have x4:=(Bv2.cell (p:=⟨wr.heap.size,4,none⟩) qv1).trans e4
   have w0:=cv2 0 _ rfl
   rw [hvs] at w0
   have w1:=cv2 1 _ rfl
   rw [hvs] at w1
   have w2:=cv2 2 _ rfl
   rw [hvs] at w2
   have w3:=cv2 3 _ rfl
   rw [hvs] at w3
   have w4:=cv2 4 _ rfl
   rw [hvs] at w4
   have HM1:=zh m_chain_s
   have HM2:=zh y_chain_s
   have HV12:=zh (zB Bv1 Bv2)
   have hq1:wr.heap.size < v2.heap.size:=zF x3
   have hq2:wr.heap.size+1 < v2.heap.size:=zF w3
   have HX3:=zh x3
   have HW3:=zh w3
   have HBL:=zh hbel
   clear e0 e1 e2 e3 e4 cv1 fv1 Bv1 cv2 fv2 Bv2 m_k y_k m_d y_d m_R y_R m_chain_s y_chain_s qv2
   go_wp2_with fail
   clear rr zz zz' hv1 hv2 x0 w0 d0 m_0 y_0 x1 w1 d1 m_1 y_1 x2 w2 d2 m_2 y_2 x3 w3 d3 m_3 y_3 x4 w4 d4 m_4 y_4
   obtain ⟨we,rfl⟩:∃we:World,we=wr:=⟨_,rfl⟩
   have hkk:=hk2
   clear hbel BB
   go_loopw [11] (fun i wr=>∃n:Nat,n<=m.chain.length/\i= .int .i64 n/\Below v2.heap.size v2 wr) (fun i _=>m.chain.length - (RowKit.intOf i).toNat)
   case atStart=>exact ⟨0,by omega,by go_num,Below.refl _ _⟩
   obtain ⟨n,hn2,rfl,hb2⟩:=hrel
   have x3:=(hb2.cell (p:=⟨we.heap.size,3,none⟩) hq1).trans HX3.out
   have w3:=(hb2.cell (p:=⟨we.heap.size+1,3,none⟩) hq2).trans HW3.out
   have BC:=zB HV12.out hb2
   by_cases hlt2:n < m.chain.length
   ·as_aux_lemma=>
     obtain ⟨c,c_b,c_o,c_k,c_d,c_m,rfl,c_l,c_S,c_0,c_1,c_R,_,_⟩:=z9v HM1.out hlt2 (zJ BC)
     obtain ⟨z,z_b,z_o,z_k,z_d,z_m,rfl,z_l,z_S,z_0,z_1,z_R,_,_⟩:=z9v HM2.out hlt2 (zJ BC)
     obtain rfl:c=z:=Option.some.inj (c_k.symm.trans z_k)
     have hk3:(n:Int) < (m.chain.length:Int):=by omega
     clear c_k z_k c_d z_d c_R z_R
     go_wp2_with fail
     go_quiet (fail)
     go_wp2
     go_roundw
     case rel=>exact ⟨n+1,by omega,by go_num,ZY hb2 _⟩
     case measure=>simp [RowKit.intOf];omega
   obtain rfl:n=m.chain.length:=by omega
   go_wp2
   go_roundw
   case rel=>exact ⟨k+1,by omega,by go_num,zB HBL.out (zB HV12.out hb2)⟩
   case measure=>simp [RowKit.intOf];omega
 obtain rfl:k=x.epochs.length:=by omega
 go_wp2
 clear rr zz
 obtain ⟨wp,rfl⟩:∃wp:World,wp=wr:=⟨_,rfl⟩
 go_loopw [12] (fun i wr=>∃k:Nat,k<=x.items.length/\i= .int .i64 k/\Below W2.heap.size W2 wr) (fun i _=>x.items.length - (RowKit.intOf i).toNat)
 case atStart=>exact ⟨0,by omega,by go_num,hbel⟩
 obtain ⟨k,hk,rfl,hbel⟩:=hrel
 have rr:=KA.out 4 _ rfl wr hbel
 have zz:=KB.out 4 _ rfl wr hbel
 have BB:=zB HB12.out hbel
 by_cases hlt:k < x.items.length
 rotate_left
 ·obtain rfl:k=x.items.length:=by omega
  go_wp2
  clear rr zz
  obtain ⟨wp,rfl⟩:∃wp:World,wp=wr:=⟨_,rfl⟩
  go_loopw [16] (fun i wr=>∃k:Nat,k<=x.wraps.length/\i= .int .i64 k/\Below W2.heap.size W2 wr) (fun i _=>x.wraps.length - (RowKit.intOf i).toNat)
  case atStart=>exact ⟨0,by omega,by go_num,hbel⟩
  obtain ⟨k,hk,rfl,hbel⟩:=hrel
  have rr:=KA.out 5 _ rfl wr hbel
  have zz:=KB.out 5 _ rfl wr hbel
  have BB:=zB HB12.out hbel
  by_cases hlt:k < x.wraps.length
  ·as_aux_lemma=>
    obtain ⟨m,m_b,m_o,m_k,m_d,m_m,rfl,m_l,m_S,m_0,m_1,m_2,m_R,m_name_le,m_epoch_ok⟩:=z6l SA5.out hlt (zJ BB)
    obtain ⟨y,y_b,y_o,y_k,y_d,y_m,rfl,y_l,y_S,y_0,y_1,y_2,y_R,y_name_le,y_epoch_ok⟩:=z6l SB5.out hlt (zJ BB)
    obtain rfl:m=y:=Option.some.inj (m_k.symm.trans y_k)
    have hk2:(k:Int) < (x.wraps.length:Int):=by omega
    clear m_k y_k m_d y_d m_R y_R
    go_wp2_with fail
    go_quiet (fail)
    go_wp2
    go_roundw
    case rel=>exact ⟨k+1,by omega,by go_num,ZY hbel _⟩
    case measure=>simp [RowKit.intOf];omega
  obtain rfl:k=x.wraps.length:=by omega
  go_wp2
  clear rr zz
  obtain ⟨wp,rfl⟩:∃wp:World,wp=wr:=⟨_,rfl⟩
  go_loopw [17] (fun i wr=>∃k:Nat,k<=x.links.length/\i= .int .i64 k/\Below W2.heap.size W2 wr) (fun i _=>x.links.length - (RowKit.intOf i).toNat)
  case atStart=>exact ⟨0,by omega,by go_num,hbel⟩
  obtain ⟨k,hk,rfl,hbel⟩:=hrel
  have rr:=KA.out 6 _ rfl wr hbel
  have zz:=KB.out 6 _ rfl wr hbel
  have BB:=zB HB12.out hbel
  by_cases hlt:k < x.links.length
  ·as_aux_lemma=>
    obtain ⟨m,m_b,m_o,m_k,m_d,m_m,rfl,m_l,m_S,m_0,m_1,m_2,m_R,m_epoch_ok,_,m_seq_ok⟩:=z9c SA6.out hlt (zJ BB)
    obtain ⟨y,y_b,y_o,y_k,y_d,y_m,rfl,y_l,y_S,y_0,y_1,y_2,y_R,y_epoch_ok,_,y_seq_ok⟩:=z9c SB6.out hlt (zJ BB)
    obtain rfl:m=y:=Option.some.inj (m_k.symm.trans y_k)
    have hk2:(k:Int) < (x.links.length:Int):=by omega
    clear m_k y_k m_d y_d m_R y_R
    go_wp2_with fail
    go_quiet (fail)
    go_wp2
    go_roundw
    case rel=>exact ⟨k+1,by omega,by go_num,ZY hbel _⟩
    case measure=>simp [RowKit.intOf];omega
  obtain rfl:k=x.links.length:=by omega
  go_wp2
  go_ret
  exact ⟨rfl,zB HB12.out hbel⟩
 as_aux_lemma=>
  obtain ⟨m,m_b,m_o,_,_,m_k,m_d,m_m,rfl,m_l,m_S,m_0,m_1,m_R,m_name_le,_,_,_,m_versions_s⟩:=z2n SA4.out hlt (zJ BB)
  obtain ⟨y,y_b,y_o,_,_,y_k,y_d,y_m,rfl,y_l,y_S,y_0,y_1,y_R,y_name_le,_,_,_,y_versions_s⟩:=z2n SB4.out hlt (zJ BB)
  obtain rfl:m=y:=Option.some.inj (m_k.symm.trans y_k)
  have hk2:(k:Int) < (x.items.length:Int):=by omega
  have HM1:=zh m_versions_s
  have HM2:=zh y_versions_s
  have HBL:=zh hbel
  clear m_k y_k m_d y_d m_R y_R m_versions_s y_versions_s
  go_wp2_with fail
  go_quiet (fail)
  go_wp2
  generalize hwe:World.drewN _ _=wf
  have HWF:=zh (show Below wr.heap.size wr wf from by rw [<-hwe];exact ZY (Below.refl _ _) _)
  clear rr zz m_0 m_1 y_0 y_1 hwe
  obtain ⟨we,rfl⟩:∃we:World,we=wr:=⟨_,rfl⟩
  clear hbel BB
  go_loopw [15] (fun i wr=>∃n:Nat,n<=m.versions.length/\i= .int .i64 n/\Below we.heap.size we wr) (fun i _=>m.versions.length - (RowKit.intOf i).toNat)
  case atStart=>exact ⟨0,by omega,by go_num,HWF.out⟩
  obtain ⟨n,hn2,rfl,hb2⟩:=hrel
  by_cases hlt2:n < m.versions.length
  rotate_left
  ·obtain rfl:n=m.versions.length:=by omega
   go_wp2
   go_roundw
   case rel=>exact ⟨k+1,by omega,by go_num,zB HBL.out hb2⟩
   case measure=>simp [RowKit.intOf];omega
  as_aux_lemma=>
   obtain ⟨c,c_b,c_o,c_A3,c_c3,c_k,c_d,c_m,rfl,c_l,c_S,c_0,c_1,c_2,c_3,c_R,_,_,c_data_l,c_data_m,c_data_n,c_data_s⟩:=z4i HM1.out hlt2 (zJ hb2)
   obtain ⟨z,z_b,z_o,z_A3,z_c3,z_k,z_d,z_m,rfl,z_l,z_S,z_0,z_1,z_2,z_3,z_R,_,_,z_data_l,z_data_m,z_data_n,z_data_s⟩:=z4i HM2.out hlt2 (zJ hb2)
   obtain rfl:c=z:=Option.some.inj (c_k.symm.trans z_k)
   have hk3:(n:Int) < (m.versions.length:Int):=by omega
   have HD1:=zh (show Sl 1 yI S wr (.slice c_A3 c.data.length c_c3) c.data from ⟨c_A3,c_c3,rfl,c_data_l,by unfold maxLen;exact c_data_m,c_data_n,c_data_s⟩)
   have HD2:=zh (show Sl 1 yI S' wr (.slice z_A3 c.data.length z_c3) c.data from ⟨z_A3,z_c3,rfl,z_data_l,by unfold maxLen;exact z_data_m,z_data_n,z_data_s⟩)
   clear c_k z_k c_d z_d c_R z_R c_data_s z_data_s
   go_upto_region 32 with fail
   have HSQ:=zh (show ∀W':World,Below wr.heap.size wr W'->(fun W':World=>Below wr.heap.size wr W'/\W'.cell? ⟨c_b,c_o+n*4,none⟩=some (.int .i64 c.epoch)/\W'.cell? ⟨c_b,c_o+n*4+1,none⟩=some (.bool c.gone)/\W'.cell? ⟨c_b,c_o+n*4+2,none⟩=some (.string c.who)/\W'.cell? ⟨c_b,c_o+n*4+3,none⟩=some (.slice c_A3 c.data.length c_c3)/\W'.cell? ⟨z_b,z_o+n*4,none⟩=some (.int .i64 c.epoch)/\W'.cell? ⟨z_b,z_o+n*4+1,none⟩=some (.bool c.gone)/\W'.cell? ⟨z_b,z_o+n*4+2,none⟩=some (.string c.who)/\W'.cell? ⟨z_b,z_o+n*4+3,none⟩=some (.slice z_A3 c.data.length z_c3)) W' from fun W' hW=>⟨hW,(hW.cell (p:=⟨c_b,c_o+n*4,none⟩) (zF c_0)).trans c_0,(hW.cell (p:=⟨c_b,c_o+n*4+1,none⟩) (zF c_1)).trans c_1,(hW.cell (p:=⟨c_b,c_o+n*4+2,none⟩) (zF c_2)).trans c_2,(hW.cell (p:=⟨c_b,c_o+n*4+3,none⟩) (zF c_3)).trans c_3,(hW.cell (p:=⟨z_b,z_o+n*4,none⟩) (zF z_0)).trans z_0,(hW.cell (p:=⟨z_b,z_o+n*4+1,none⟩) (zF z_1)).trans z_1,(hW.cell (p:=⟨z_b,z_o+n*4+2,none⟩) (zF z_2)).trans z_2,(hW.cell (p:=⟨z_b,z_o+n*4+3,none⟩) (zF z_3)).trans z_3⟩)
   refine wp_region_held_drew (S:=fun W':World=>Below wr.heap.size wr W'/\W'.cell? ⟨c_b,c_o+n*4,none⟩=some (.int .i64 c.epoch)/\W'.cell? ⟨c_b,c_o+n*4+1,none⟩=some (.bool c.gone)/\W'.cell? ⟨c_b,c_o+n*4+2,none⟩=some (.string c.who)/\W'.cell? ⟨c_b,c_o+n*4+3,none⟩=some (.slice c_A3 c.data.length c_c3)/\W'.cell? ⟨z_b,z_o+n*4,none⟩=some (.int .i64 c.epoch)/\W'.cell? ⟨z_b,z_o+n*4+1,none⟩=some (.bool c.gone)/\W'.cell? ⟨z_b,z_o+n*4+2,none⟩=some (.string c.who)/\W'.cell? ⟨z_b,z_o+n*4+3,none⟩=some (.slice z_A3 c.data.length z_c3)) (by as_aux_lemma=>kernel_rfl) (HSQ.out _ (Below.refl _ _).drew) (fun hHeld=>?_)
   refine zT 0 _ rfl (by as_aux_lemma=>kernel_rfl) rfl (fun _ _ _ h=>h) hHeld (by intro W' h;go_simp;try with_reducible rfl) ?_
   simp only [zA]
   refine zT 1 _ rfl (by as_aux_lemma=>kernel_rfl) rfl (fun _ _ _ h=>h) hHeld (by intro W' h;go_simp;try with_reducible rfl) ?_
   simp only [zA]
   refine zT 2 _ rfl (by as_aux_lemma=>kernel_rfl) rfl (fun _ _ _ h=>h) hHeld (by intro W' h;go_simp;try with_reducible rfl) ?_
   simp only [zA]
   refine zT 3 _ rfl (by as_aux_lemma=>kernel_rfl) rfl (fun _ _ _ h=>h) hHeld (by intro W' h;go_simp;try with_reducible rfl) ?_
   simp only [zA]
   refine zT 4 _ rfl (by as_aux_lemma=>kernel_rfl) rfl (fun _ _ _ h=>h) hHeld (by intro W' h;go_simp;try with_reducible rfl) ?_
   simp only [zA]
   refine zT 5 _ rfl (by as_aux_lemma=>kernel_rfl) rfl (fun _ _ _ h=>h) hHeld (by intro W' h;go_simp;try with_reducible rfl) ?_
   simp only [zA]
   refine zT 6 _ rfl (by as_aux_lemma=>kernel_rfl) rfl (fun _ _ _ h=>h) hHeld (by intro W' h;go_simp;try with_reducible rfl) ?_
   simp only [zA]
   refine zT 7 _ rfl (by as_aux_lemma=>kernel_rfl) rfl (fun _ _ _ h=>h) hHeld (by intro W' h;go_simp;try with_reducible rfl) ?_
   simp only [zA]
   refine zT 8 _ rfl (by as_aux_lemma=>kernel_rfl) rfl (fun _ _ _ h=>h) hHeld (by intro W' h;go_simp;try with_reducible rfl) ?_
   simp only [zA]
   refine zT 9 _ rfl (by as_aux_lemma=>kernel_rfl) rfl (fun _ _ _ h=>h) hHeld (by intro W' h;go_simp;try with_reducible rfl) ?_
   simp only [zA]
   refine zT 10 _ rfl (by as_aux_lemma=>kernel_rfl) rfl (fun _ _ _ h=>h) hHeld (by intro W' h;go_simp;try with_reducible rfl) ?_
   simp only [zA]
   refine zT 11 _ rfl (by as_aux_lemma=>kernel_rfl) rfl (fun _ _ _ h=>h) hHeld (by intro W' h;go_simp;try with_reducible rfl) ?_
   simp only [zA]
   refine zT 12 _ rfl (by as_aux_lemma=>kernel_rfl) rfl (fun _ _ _ h=>h) hHeld (by intro W' h;go_simp;try with_reducible rfl) ?_
   simp only [zA]
   refine zT 13 _ rfl (by as_aux_lemma=>kernel_rfl) rfl (fun _ _ _ h=>h) hHeld (by intro W' h;go_simp;try with_reducible rfl) ?_
   simp only [zA]
   refine zT 14 _ rfl (by as_aux_lemma=>kernel_rfl) rfl (fun _ _ _ h=>h) hHeld (by intro W' h;go_simp;try with_reducible rfl) ?_
   simp only [zA]
   refine zT 15 _ rfl (by as_aux_lemma=>kernel_rfl) rfl (fun _ _ _ h=>h) hHeld (by intro W' h;go_simp;try with_reducible rfl) ?_
   simp only [zA]
   refine zT 16 _ rfl (by as_aux_lemma=>kernel_rfl) rfl (fun _ _ _ h=>h) hHeld (by intro W' h;go_simp;try with_reducible rfl) ?_
   simp only [zA]
   refine zT 17 _ rfl (by as_aux_lemma=>kernel_rfl) rfl (fun _ _ _ h=>h) hHeld (by intro W' h;go_simp;try with_reducible rfl) ?_
   simp only [zA]
   refine zT 18 _ rfl (by as_aux_lemma=>kernel_rfl) rfl (fun _ _ _ h=>h) hHeld (by intro W' h;go_simp;try with_reducible rfl) ?_
   simp only [zA]
   refine zT 19 _ rfl (by as_aux_lemma=>kernel_rfl) rfl (fun _ _ _ h=>h) hHeld (by intro W' h;go_simp;try with_reducible rfl) ?_
   simp only [zA]
   refine zT 20 _ rfl (by as_aux_lemma=>kernel_rfl) rfl (fun _ _ _ h=>h) hHeld (by intro W' h;go_simp;try with_reducible rfl) ?_
   simp only [zA]
   refine zT 21 _ rfl (by as_aux_lemma=>kernel_rfl) rfl (fun _ _ _ h=>h) hHeld (by intro W' h;go_simp;try with_reducible rfl) ?_
   simp only [zA]
   refine zT 22 _ rfl (by as_aux_lemma=>kernel_rfl) rfl (fun _ _ _ h=>h) hHeld (by intro W' h;go_simp;try with_reducible rfl) ?_
   simp only [zA]
   refine zT 23 _ rfl (by as_aux_lemma=>kernel_rfl) rfl (fun _ _ _ h=>h) hHeld (by intro W' h;go_simp;try with_reducible rfl) ?_
   simp only [zA]
   refine zT 24 _ rfl (by as_aux_lemma=>kernel_rfl) rfl (fun _ _ _ h=>h) hHeld (by intro W' h;go_simp;try with_reducible rfl) ?_
   simp only [zA]
   refine zT 25 _ rfl (by as_aux_lemma=>kernel_rfl) rfl (fun _ _ _ h=>h) hHeld (by intro W' h;go_simp;try with_reducible rfl) ?_
   simp only [zA]
   refine zT 26 _ rfl (by as_aux_lemma=>kernel_rfl) rfl (fun _ _ _ h=>h) hHeld (by intro W' h;go_simp;try with_reducible rfl) ?_
   simp only [zA]
   refine zT 27 _ rfl (by as_aux_lemma=>kernel_rfl) rfl (fun _ _ _ h=>h) hHeld (by intro W' h;go_simp;try with_reducible rfl) ?_
   simp only [zA]
   refine zT 28 _ rfl (by as_aux_lemma=>kernel_rfl) rfl (fun _ _ _ h=>h) hHeld (by intro W' h;go_simp;try with_reducible rfl) ?_
   simp only [zA]
   refine zT 29 _ rfl (by as_aux_lemma=>kernel_rfl) rfl (fun _ _ _ h=>h) hHeld (by intro W' h;go_simp;try with_reducible rfl) ?_
   simp only [zA]
   refine zT 30 _ rfl (by as_aux_lemma=>kernel_rfl) rfl (fun _ _ _ h=>h) hHeld (by intro W' h;go_simp;try with_reducible rfl) ?_
   simp only [zA]
   refine zT 31 _ rfl (by as_aux_lemma=>kernel_rfl) rfl (fun _ _ _ h=>h) hHeld (by intro W' h;go_simp;try with_reducible rfl) ?_
   simp only [zA]
   refine zT 32 _ rfl (by as_aux_lemma=>kernel_rfl) rfl (fun _ _ _ h=>h) hHeld (by intro W' h;go_simp;try with_reducible rfl) ?_
   simp only [zA]
   refine zT 33 _ rfl (by as_aux_lemma=>kernel_rfl) rfl (fun _ _ _ h=>h) hHeld (by intro W' h;go_simp;try with_reducible rfl) ?_
   simp only [zA]
   refine zT 34 _ rfl (by as_aux_lemma=>kernel_rfl) rfl (fun _ _ _ h=>h) hHeld (by intro W' h;go_simp;try with_reducible rfl) ?_
   simp only [zA]
   refine zT 35 _ rfl (by as_aux_lemma=>kernel_rfl) rfl (fun _ _ _ h=>h) hHeld (by intro W' h;go_simp;try with_reducible rfl) ?_
   simp only [zA]
   refine zT 36 _ rfl (by as_aux_lemma=>kernel_rfl) rfl (fun _ _ _ h=>h) hHeld (by intro W' h;go_simp;try with_reducible rfl) ?_
   simp only [zA]
   refine zT 37 _ rfl (by as_aux_lemma=>kernel_rfl) rfl (fun _ _ _ h=>h) hHeld (by intro W' h;go_simp;try with_reducible rfl) ?_
   simp only [zA]
   refine zT 38 _ rfl (by as_aux_lemma=>kernel_rfl) rfl (fun _ _ _ h=>h) hHeld (by intro W' h;go_simp;try with_reducible rfl) ?_
   simp only [zA]
   refine zT 39 _ rfl (by as_aux_lemma=>kernel_rfl) rfl (fun _ _ _ h=>h) hHeld (by intro W' h;go_simp;try with_reducible rfl) ?_
   simp only [zA]
   refine zT 40 _ rfl (by as_aux_lemma=>kernel_rfl) rfl (fun _ _ _ h=>h) hHeld (by intro W' h;go_simp;try with_reducible rfl) ?_
   simp only [zA]
   refine zT 41 _ rfl (by as_aux_lemma=>kernel_rfl) rfl (fun _ _ _ h=>h) hHeld (by intro W' h;go_simp;try with_reducible rfl) ?_
   simp only [zA]
   refine zT 42 _ rfl (by as_aux_lemma=>kernel_rfl) rfl (fun _ _ _ h=>h) hHeld (by intro W' h;go_simp;try with_reducible rfl) ?_
   simp only [zA]
   refine zT 43 _ rfl (by as_aux_lemma=>kernel_rfl) rfl (fun _ _ _ h=>h) hHeld (by intro W' h;go_simp;try with_reducible rfl) ?_
   simp only [zA]
   refine zT 44 _ rfl (by as_aux_lemma=>kernel_rfl) rfl (fun _ _ _ h=>h) hHeld (by intro W' h;go_simp;try with_reducible rfl) ?_
   simp only [zA]
   refine zT 45 _ rfl (by as_aux_lemma=>kernel_rfl) rfl (fun _ _ _ h=>h) hHeld (by intro W' h;go_simp;try with_reducible rfl) ?_
   simp only [zA]
   refine zT 46 _ rfl (by as_aux_lemma=>kernel_rfl) rfl (fun _ _ _ h=>h) hHeld (by intro W' h;go_simp;try with_reducible rfl) ?_
   simp only [zA]
   refine zT 47 _ rfl (by as_aux_lemma=>kernel_rfl) rfl (fun _ _ _ h=>h) hHeld (by intro W' h;go_simp;try with_reducible rfl) ?_
   simp only [zA]
   refine wpAnyH_ready (rs:=[48]) (by as_aux_lemma=>kernel_rfl) (by simp) ?_
   refine AllReadyH.cons rfl (fun K hK=>?_) AllReadyH.nil
   go_simp
   go_at_call 30
   refine Calls.mono (z7y c.data _ _ _ S S' (HD1.out.keep rByte_ok (by decide) (zJ ((Below.refl _ _).drew))) (HD2.out.keep rByte_ok (by decide) (zJ ((Below.refl _ _).drew)))) ?_
   rintro e3 v5 ⟨rfl,b3⟩
   have Bv5:Below wr.heap.size wr v5:=zB ((Below.refl _ _).drew) b3
   clear b3 hHeld
   refine hK.out _ _ (HSQ.out _ Bv5) (fun hHeld=>?_)
   clear hK K
   refine zT 49 _ rfl (by as_aux_lemma=>kernel_rfl) rfl (fun _ _ _ h=>h) hHeld (by intro W' h;go_simp;try with_reducible rfl) ?_
   simp only [zA]
   refine zT 50 _ rfl (by as_aux_lemma=>kernel_rfl) rfl (fun _ _ _ h=>h) hHeld (by intro W' h;go_simp;try with_reducible rfl) ?_
   simp only [zA]
   have HB5:=zh (hb2.trans (Bv5.mono hb2.size))
   refine wpAnyH_done (by as_aux_lemma=>kernel_rfl) ?_ _
   clear hHeld HSQ
   clear Bv5
   go_wp2
   go_roundw
   case rel=>exact ⟨n+1,by omega,by go_num,HB5.out⟩
   case measure=>simp [RowKit.intOf];omega
end Go.Proofs.YtdggplhnfhcieaaGreatDoor
