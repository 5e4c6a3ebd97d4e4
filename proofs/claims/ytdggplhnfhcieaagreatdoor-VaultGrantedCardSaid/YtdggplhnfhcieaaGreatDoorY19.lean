/- Part 19 of the proof of vaultGranted_holds. No condition. -/
import Derived.Test.YtdggplhnfhcieaaGreatDoorY03
set_option linter.unusedVariables false
set_option linter.unusedSimpArgs false
set_option linter.unusedSectionVars false
set_option maxRecDepth 100000
namespace Go.Proofs.YtdggplhnfhcieaaGreatDoor
open Go.RowKit Go.Deep
set_option maxHeartbeats 8000000 in
theorem zF3 (x:State) (hpv:∀f∈x.folders,∀m∈f.manifests,m.prev=[]) (cs ds:List Value) (w:World) (S S':Nat->Prop) (h:ZX S w cs x) (k:ZX S' w ds x):
  Calls Tryz.prog 18 #[.agg cs.toArray,.agg ds.toArray] w fun e w'=>e= .returned (.bool true)/\Below w.heap.size w w':=by
 have HPV:=zh hpv
 obtain ⟨A1,a1,A2,a2,A3,a3,rfl,_,_,_,_,s1,_,_,_,s2,_,_,_,s3⟩:=ZL h
 obtain ⟨B1,b1,B2,b2,B3,b3,rfl,_,_,_,_,t1,_,_,_,t2,_,_,_,t3⟩:=ZL k
 obtain ⟨W1,hW1,c1,f1,BW1,_⟩:=zO w #[.int .i64 x.turn,.slice A1 x.users.length a1,.slice A2 x.deposits.length a2,.slice A3 x.folders.length a3] 34
 obtain ⟨W2,hW2,c2,f2,BW2,_⟩:=zO W1 #[.int .i64 x.turn,.slice B1 x.users.length b1,.slice B2 x.deposits.length b2,.slice B3 x.folders.length b3] 34
 have hz1:=BW1.size
 have hz2:=BW2.size
 have hWs:W1.heap.size=w.heap.size+1:=by rw [<-hW1];simp
 have KA:=zh (show ∀(j:Nat) (v:Value),(#[.int .i64 x.turn,.slice A1 x.users.length a1,.slice A2 x.deposits.length a2,.slice A3 x.folders.length a3]:Array Value)[j]? =some v->∀W,Below W2.heap.size W2 W->W.cell? ⟨w.heap.size,j,none⟩=some v from fun j v hj W hW=>((zB BW2 hW).cell (p:=⟨w.heap.size,j,none⟩) (by dsimp only;omega)).trans (c1 j v hj))
 have KB:=zh (show ∀(j:Nat) (v:Value),(#[.int .i64 x.turn,.slice B1 x.users.length b1,.slice B2 x.deposits.length b2,.slice B3 x.folders.length b3]:Array Value)[j]? =some v->∀W,Below W2.heap.size W2 W->W.cell? ⟨w.heap.size+1,j,none⟩=some v from fun j v hj W hW=>by rw [<-hWs];exact (hW.cell (p:=⟨W1.heap.size,j,none⟩) (by dsimp only;omega)).trans (c2 j v hj))
 have HB12:=zh (zB BW1 BW2)
 have SA1:=zh s1
 have SB1:=zh t1
 have SA2:=zh s2
 have SB2:=zh t2
 have SA3:=zh s3
 have SB3:=zh t3
 clear h k s1 s2 s3 t1 t2 t3 c1 c2 f1 f2 BW1 BW2
 have egUser:Tryz.prog.eqGuardType Tryz.prog.depth 91=false:=by kernel_rfl
 have shUser:Tryz.prog.stoodInHeld 91=false:=by kernel_rfl
 have ufUser:=Tryz.underlying91
 have egPair:Tryz.prog.eqGuardType Tryz.prog.depth 126=false:=by kernel_rfl
 have shPair:Tryz.prog.stoodInHeld 126=false:=by kernel_rfl
 have ufPair:=Tryz.underlying126
 have r0:=KA.out 0 _ rfl W2 zbr
 have z0:=KB.out 0 _ rfl W2 zbr
 have r1:=KA.out 1 _ rfl W2 zbr
 have z1:=KB.out 1 _ rfl W2 zbr
 have r2:=KA.out 2 _ rfl W2 zbr
 have z2:=KB.out 2 _ rfl W2 zbr
 have r3:=KA.out 3 _ rfl W2 zbr
 have z3:=KB.out 3 _ rfl W2 zbr
 go_enter Tryz.func18,Tryz.ntmps18
 go_wp2_with fail
 clear r0 z0 r1 z1 r2 z2 r3 z3 hW1 hW2
 go_loopw [5] (fun i wr=>∃k:Nat,k<=x.users.length/\i= .int .i64 k/\Below W2.heap.size W2 wr) (fun i _=>x.users.length - (RowKit.intOf i).toNat)
 case atStart=>exact ⟨0,by omega,by go_num,Below.refl _ _⟩
 obtain ⟨k,hk,rfl,hbel⟩:=hrel
 have rr:=KA.out 1 _ rfl wr hbel
 have zz:=KB.out 1 _ rfl wr hbel
 have BB:=zB HB12.out hbel
 by_cases hlt:k < x.users.length
 ·skip
  obtain ⟨m,m_b,m_o,m_k,m_d,m_m,rfl,m_l,m_S,m_0,m_1,m_R,m_name_le⟩:=z5w SA1.out hlt (zH BB)
  obtain ⟨y,y_b,y_o,y_k,y_d,y_m,rfl,y_l,y_S,y_0,y_1,y_R,y_name_le⟩:=z5w SB1.out hlt (zH BB)
  obtain rfl:m=y:=zsi (m_k.symm.trans y_k)
  have hk2:(k:Int) < (x.users.length:Int):=by omega
  clear m_k y_k m_d y_d m_R y_R
  go_wp2_with fail
  go_quiet (fail)
  go_wp2
  go_roundw
  case rel=>exact ⟨k+1,by omega,by go_num,yC hbel _⟩
  case measure=>simp [RowKit.intOf];omega
 obtain rfl:k=x.users.length:=by omega
 go_wp2
 clear rr zz
 obtain ⟨wp,rfl⟩:∃wp:World,wp=wr:=⟨_,rfl⟩
 go_loopw [6] (fun i wr=>∃k:Nat,k<=x.deposits.length/\i= .int .i64 k/\Below W2.heap.size W2 wr) (fun i _=>x.deposits.length - (RowKit.intOf i).toNat)
 case atStart=>exact ⟨0,by omega,by go_num,hbel⟩
 obtain ⟨k,hk,rfl,hbel⟩:=hrel
 have rr:=KA.out 2 _ rfl wr hbel
 have zz:=KB.out 2 _ rfl wr hbel
 have BB:=zB HB12.out hbel
 by_cases hlt:k < x.deposits.length
 ·skip
  obtain ⟨m,m_b,m_o,m_k,m_d,m_m,rfl,m_l,m_S,m_0,m_1,m_R,_,_⟩:=zA9 SA2.out hlt (zH BB)
  obtain ⟨y,y_b,y_o,y_k,y_d,y_m,rfl,y_l,y_S,y_0,y_1,y_R,_,_⟩:=zA9 SB2.out hlt (zH BB)
  obtain rfl:m=y:=zsi (m_k.symm.trans y_k)
  have hk2:(k:Int) < (x.deposits.length:Int):=by omega
  clear m_k y_k m_d y_d m_R y_R
  go_wp2_with fail
  go_quiet (fail)
  go_wp2
  go_roundw
  case rel=>exact ⟨k+1,by omega,by go_num,yC hbel _⟩
  case measure=>simp [RowKit.intOf];omega
 obtain rfl:k=x.deposits.length:=by omega
 go_wp2
 clear rr zz
 obtain ⟨wp,rfl⟩:∃wp:World,wp=wr:=⟨_,rfl⟩
 go_loopw [7] (fun i wr=>∃k:Nat,k<=x.folders.length/\i= .int .i64 k/\Below W2.heap.size W2 wr) (fun i _=>x.folders.length - (RowKit.intOf i).toNat)
 case atStart=>exact ⟨0,by omega,by go_num,hbel⟩
 obtain ⟨k,hk,rfl,hbel⟩:=hrel
 have rr:=KA.out 3 _ rfl wr hbel
 have zz:=KB.out 3 _ rfl wr hbel
 have BB:=zB HB12.out hbel
 by_cases hlt:k < x.folders.length
 rotate_left
 ·obtain rfl:k=x.folders.length:=by omega
  go_wp2
  go_ret
  exact ⟨rfl,zB HB12.out hbel⟩
 skip
 obtain ⟨m,m_b,m_o,m_A2,m_c2,m_A3,m_c3,m_A4,m_c4,m_A5,m_c5,m_A6,m_c6,m_k,m_d,m_m,rfl,m_l,m_S,m_0,m_1,m_2,m_3,m_4,m_5,m_6,m_R,m_name_le,_,_,_,_,m_manifests_s,_,_,_,m_epochs_s,_,_,_,m_items_s,_,_,_,m_wraps_s,_,_,_,m_links_s⟩:=z1r SA3.out hlt (zH BB)
 obtain ⟨y,y_b,y_o,y_A2,y_c2,y_A3,y_c3,y_A4,y_c4,y_A5,y_c5,y_A6,y_c6,y_k,y_d,y_m,rfl,y_l,y_S,y_0,y_1,y_2,y_3,y_4,y_5,y_6,y_R,y_name_le,_,_,_,_,y_manifests_s,_,_,_,y_epochs_s,_,_,_,y_items_s,_,_,_,y_wraps_s,_,_,_,y_links_s⟩:=z1r SB3.out hlt (zH BB)
 obtain rfl:m=y:=zsi (m_k.symm.trans y_k)
 have hk2:(k:Int) < (x.folders.length:Int):=by omega
 have HR1:=zh m_R
 have HR2:=zh y_R
 have HMM:=zh (HPV.out m m_m)
 clear m_manifests_s y_manifests_s
 clear m_epochs_s y_epochs_s
 clear m_items_s y_items_s
 clear m_wraps_s y_wraps_s
 clear m_links_s y_links_s
 clear m_k y_k m_d y_d m_R y_R
 go_upto_region 16 with fail
 have HSQ:=zh (show ∀W':World,Below wr.heap.size wr W'->(fun W':World=>Below wr.heap.size wr W'/\W'.cell? ⟨w.heap.size,3,none⟩=some (.slice (some ⟨m_b,m_o,none⟩) x.folders.length a3)/\W'.cell? ⟨w.heap.size+1,3,none⟩=some (.slice (some ⟨y_b,y_o,none⟩) x.folders.length b3)/\W'.cell? ⟨m_b,m_o+k*7,none⟩=some (.string m.name)/\W'.cell? ⟨m_b,m_o+k*7+1,none⟩=some (.int .i64 m.turn)/\W'.cell? ⟨m_b,m_o+k*7+2,none⟩=some (.slice m_A2 m.manifests.length m_c2)/\W'.cell? ⟨m_b,m_o+k*7+3,none⟩=some (.slice m_A3 m.epochs.length m_c3)/\W'.cell? ⟨m_b,m_o+k*7+4,none⟩=some (.slice m_A4 m.items.length m_c4)/\W'.cell? ⟨m_b,m_o+k*7+5,none⟩=some (.slice m_A5 m.wraps.length m_c5)/\W'.cell? ⟨m_b,m_o+k*7+6,none⟩=some (.slice m_A6 m.links.length m_c6)/\W'.cell? ⟨y_b,y_o+k*7,none⟩=some (.string m.name)/\W'.cell? ⟨y_b,y_o+k*7+1,none⟩=some (.int .i64 m.turn)/\W'.cell? ⟨y_b,y_o+k*7+2,none⟩=some (.slice y_A2 m.manifests.length y_c2)/\W'.cell? ⟨y_b,y_o+k*7+3,none⟩=some (.slice y_A3 m.epochs.length y_c3)/\W'.cell? ⟨y_b,y_o+k*7+4,none⟩=some (.slice y_A4 m.items.length y_c4)/\W'.cell? ⟨y_b,y_o+k*7+5,none⟩=some (.slice y_A5 m.wraps.length y_c5)/\W'.cell? ⟨y_b,y_o+k*7+6,none⟩=some (.slice y_A6 m.links.length y_c6)) W' from fun W' hW=>⟨hW,(hW.cell (p:=⟨w.heap.size,3,none⟩) (zF rr)).trans rr,(hW.cell (p:=⟨w.heap.size+1,3,none⟩) (zF zz)).trans zz,(hW.cell (p:=⟨m_b,m_o+k*7,none⟩) (zF m_0)).trans m_0,(hW.cell (p:=⟨m_b,m_o+k*7+1,none⟩) (zF m_1)).trans m_1,(hW.cell (p:=⟨m_b,m_o+k*7+2,none⟩) (zF m_2)).trans m_2,(hW.cell (p:=⟨m_b,m_o+k*7+3,none⟩) (zF m_3)).trans m_3,(hW.cell (p:=⟨m_b,m_o+k*7+4,none⟩) (zF m_4)).trans m_4,(hW.cell (p:=⟨m_b,m_o+k*7+5,none⟩) (zF m_5)).trans m_5,(hW.cell (p:=⟨m_b,m_o+k*7+6,none⟩) (zF m_6)).trans m_6,(hW.cell (p:=⟨y_b,y_o+k*7,none⟩) (zF y_0)).trans y_0,(hW.cell (p:=⟨y_b,y_o+k*7+1,none⟩) (zF y_1)).trans y_1,(hW.cell (p:=⟨y_b,y_o+k*7+2,none⟩) (zF y_2)).trans y_2,(hW.cell (p:=⟨y_b,y_o+k*7+3,none⟩) (zF y_3)).trans y_3,(hW.cell (p:=⟨y_b,y_o+k*7+4,none⟩) (zF y_4)).trans y_4,(hW.cell (p:=⟨y_b,y_o+k*7+5,none⟩) (zF y_5)).trans y_5,(hW.cell (p:=⟨y_b,y_o+k*7+6,none⟩) (zF y_6)).trans y_6⟩)
 refine zE (by kernel_rfl) HSQ.out (fun hHeld=>?_)
 refine zi 0 ?_
 iterate 10 (refine zt _ rfl (by kernel_rfl) rfl (fun _ _ _ h=>h) hHeld (by intro W' h;go_simp;try with_reducible rfl) ?_;simp only [zA])
 refine zo ?_
 refine zr 10 (by kernel_rfl) rfl (fun K hK=>?_)
 go_simp
 go_at_call 46
 refine zcm (zDq m HMM.out _ _ _ S S' (Z0 HR1.out (zH (zbr.drew))) (Z0 HR2.out (zH (zbr.drew)))) ?_
 rintro _ v5 ⟨rfl,b3⟩
 have Bv5:Below wr.heap.size wr v5:=zB (zbr.drew) b3
 clear b3 hHeld
 refine hK.out _ _ (HSQ.out _ Bv5) (fun hHeld=>?_)
 clear hK K
 refine zT 11 _ rfl (by kernel_rfl) rfl (fun _ _ _ h=>h) hHeld (by intro W' h;go_simp;try with_reducible rfl) ?_
 simp only [zA]
 have HB5:=zh (zB hbel Bv5)
 refine wpAnyH_done (by kernel_rfl) ?_ _
 clear hHeld HSQ
 clear Bv5
 go_wp2
 go_roundw
 case rel=>exact ⟨k+1,by omega,by go_num,HB5.out⟩
 case measure=>simp [RowKit.intOf];omega
end Go.Proofs.YtdggplhnfhcieaaGreatDoor
