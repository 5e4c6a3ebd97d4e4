/- Part 11 of the proof of vaultGranted_holds. No condition. -/
import Derived.Test.YtdggplhnfhcieaaGreatDoorY10
set_option linter.unusedVariables false
set_option linter.unusedSimpArgs false
set_option linter.unusedSectionVars false
set_option maxRecDepth 100000
namespace Go.Proofs.YtdggplhnfhcieaaGreatDoor
open Go.RowKit Go.Deep
set_option maxHeartbeats 16000000 in
theorem zBw (st:State) (cs:List Value) (w:World) (S:Nat->Prop) (h:ZX S w cs st) (ok:CopyOk st):
  Calls Tryz.prog 47 #[.agg cs.toArray] w (zQb w S st):=by
 have hT:ZX (fun b=>b < w.heap.size/\S b) w cs st:=zR h fun b hb hl=>⟨⟨hl,hb⟩,rfl⟩
 obtain ⟨v1,v2,v3,rfl,ht,hu,hd,hf⟩:=hT
 obtain ⟨A1,c1,rfl,_⟩:=id hu
 obtain ⟨A2,c2,rfl,_⟩:=id hd
 obtain ⟨A3,c3,rfl,_⟩:=id hf
 have HU:=zh hu
 have HD:=zh hd
 have HF:=zh hf
 have HT:=zh ht
 have HOK:=zh ok
 obtain ⟨w0,hw0,cw0,fw0,Bw0,qw0⟩:=zO w #[.int .i64 st.turn,.slice A1 st.users.length c1,.slice A2 st.deposits.length c2,.slice A3 st.folders.length c3] 34
 obtain ⟨w1,hw1,cw1,fw1,Bw1,qw1⟩:=zO w0 #[.int .i64 0,.slice none 0 0,.slice none 0 0,.slice none 0 0] 34
 have hz0:w0.heap.size=w.heap.size+1:=by rw [<-hw0,World.size_alloc]
 have HZ1:=zh (show w1.heap.size=w.heap.size+2 from by rw [<-hw1,World.size_alloc,hz0])
 have HB1:=zh (zB Bw0 Bw1)
 have HX0:=zh (show w1.heap[w.heap.size]? =some (.cells #[.int .i64 st.turn,.slice A1 st.users.length c1,.slice A2 st.deposits.length c2,.slice A3 st.folders.length c3] 34 (0,0)) from (Bw1.block _ qw0).trans (by rw [<-hw0];exact zJ _ rfl))
 have HX1:=zh (show w1.heap[w.heap.size+1]? =some (.cells #[.int .i64 0,.slice none 0 0,.slice none 0 0,.slice none 0 0] 34 (0,0)) from by rw [<-hz0,<-hw1];exact zJ _ rfl)
 have s1:=(zD HX0.out).1 1 _ rfl
 have s2:=(zD HX0.out).1 2 _ rfl
 have s3:=(zD HX0.out).1 3 _ rfl
 clear h ok hu hd hf ht cw0 fw0 Bw0 cw1 fw1 Bw1 qw1
 go_enter Tryz.func47,Tryz.ntmps47
 go_upto_region 1 with fail
 have HSQ:=zh (show ∀W':World,Below w1.heap.size w1 W'->(fun W':World=>Below w1.heap.size w1 W'/\W'.cell? ⟨w.heap.size,1,none⟩=some (.slice A1 st.users.length c1)/\W'.cell? ⟨w.heap.size,2,none⟩=some (.slice A2 st.deposits.length c2)/\W'.cell? ⟨w.heap.size,3,none⟩=some (.slice A3 st.folders.length c3)) W' from fun W' hW=>⟨hW,(hW.cell (p:=⟨w.heap.size,1,none⟩) (zF s1)).trans s1,(hW.cell (p:=⟨w.heap.size,2,none⟩) (zF s2)).trans s2,(hW.cell (p:=⟨w.heap.size,3,none⟩) (zF s3)).trans s3⟩)
 refine yH (S:=fun W':World=>Below w1.heap.size w1 W'/\W'.cell? ⟨w.heap.size,1,none⟩=some (.slice A1 st.users.length c1)/\W'.cell? ⟨w.heap.size,2,none⟩=some (.slice A2 st.deposits.length c2)/\W'.cell? ⟨w.heap.size,3,none⟩=some (.slice A3 st.folders.length c3)) 10 [] (by kernel_rfl) (HSQ.out _ zbr.drew) (fun hHeld=>?_)
 refine ziU 0 ?_
 iterate 2 (refine ztU _ rfl (by kernel_rfl) rfl (fun _ _ _ h=>h) hHeld (by intro W' h;go_simp;try with_reducible rfl) ?_;simp only [zA])
 refine zoU ?_
 refine ziU 3 ?_
 iterate 2 (refine ztU _ rfl (by kernel_rfl) rfl (fun _ _ _ h=>h) hHeld (by intro W' h;go_simp;try with_reducible rfl) ?_;simp only [zA])
 refine zoU ?_
 refine ziU 6 ?_
 iterate 2 (refine ztU _ rfl (by kernel_rfl) rfl (fun _ _ _ h=>h) hHeld (by intro W' h;go_simp;try with_reducible rfl) ?_;simp only [zA])
 refine zoU ?_
 refine yA (i:=2) (by kernel_rfl) rfl (fun K hK=>?_)
 go_simp
 go_at_call 70
 refine zcm (zJe st.users _ _ (fun b=>b < w.heap.size/\S b) (HU.out.keep YG (by decide) (zH (zB HB1.out (zbr.drew)))) HOK.out.us) ?_
 rintro e3 w2 ⟨⟨v1,d1,rfl,r1,a1,l1⟩,b3⟩
 have Bw2:Below w1.heap.size w1 w2:=zB (zbr.drew) b3
 have HSw2:=zh b3
 clear b3 hHeld
 refine hK.out _ _ (HSQ.out _ Bw2) (fun hHeld=>?_)
 clear hK K
 try simp only [zA]
 refine zU 9 _ rfl (by kernel_rfl) rfl (fun _ _ _ h=>h) hHeld (by intro W' h;go_simp;try with_reducible rfl) ?_
 simp only [zA]
 refine yA (i:=5) (by kernel_rfl) rfl (fun K hK=>?_)
 go_simp
 go_at_call 71
 refine zcm (zJf st.deposits _ _ (fun b=>b < w.heap.size/\S b) (HD.out.keep z19 (by decide) (zH (zB HB1.out (Bw2)))) HOK.out.de) ?_
 rintro e3 w3 ⟨⟨v2,d2,rfl,r2,a2,l2⟩,b3⟩
 have Bw3:Below w1.heap.size w1 w3:=zB (Bw2) b3
 have HSw3:=zh b3
 clear b3 hHeld
 refine hK.out _ _ (HSQ.out _ Bw3) (fun hHeld=>?_)
 clear hK K
 try simp only [zA]
 refine yA (i:=8) (by kernel_rfl) rfl (fun K hK=>?_)
 go_simp
 go_at_call 72
 refine zcm (zFw st.folders _ _ (fun b=>b < w.heap.size/\S b) (HF.out.keep z02 (by decide) (zH (zB HB1.out (Bw3)))) HOK.out.fo) ?_
 rintro e3 w4 ⟨⟨v3,d3,rfl,r3,a3,l3⟩,b3⟩
 have Bw4:Below w1.heap.size w1 w4:=zB (Bw3) b3
 have HSw4:=zh b3
 clear b3 hHeld
 refine hK.out _ _ (HSQ.out _ Bw4) (fun hHeld=>?_)
 clear hK K
 try simp only [zA]
 obtain ⟨E1,n1,p1,rfl⟩:=r1.shape3
 obtain ⟨E2,n2,p2,rfl⟩:=r2.shape3
 obtain ⟨E3,n3,p3,rfl⟩:=r3.shape3
 have hX4:=(Bw4.block _ (by rw [HZ1.out];omega)).trans HX0.out
 have x1:=(zD hX4).1 1 _ rfl
 have x2:=(zD hX4).1 2 _ rfl
 have x3:=(zD hX4).1 3 _ rfl
 have xz:=(zD hX4).2
 have HX4:=zh hX4
 have R1:=zh r1
 have R2:=zh r2
 have R3:=zh r3
 have AA1:=zh a1
 have AA2:=zh a2
 have AA3:=zh a3
 have LL1:=zh l1
 have LL2:=zh l2
 have LL3:=zh l3
 have HBw4:=zh Bw4
 have HBw2:=zh Bw2
 clear hX4 r1 r2 r3 a1 a2 a3 l1 l2 l3 Bw2 Bw3 Bw4 s1 s2 s3
 refine Z2 (i:=10) (by kernel_rfl) rfl (fun K hK=>?_)
 go_simp
 refine hK.out _ _ ?_
 clear hK K
 try simp only [zA]
 refine Z2 (i:=11) (by kernel_rfl) rfl (fun K hK=>?_)
 go_simp
 refine hK.out _ _ ?_
 clear hK K
 try simp only [zA]
 refine Z2 (i:=12) (by kernel_rfl) rfl (fun K hK=>?_)
 go_simp
 refine hK.out _ _ ?_
 clear hK K
 try simp only [zA]
 refine Z2 (i:=13) (by kernel_rfl) rfl (fun K hK=>?_)
 go_simp
 refine hK.out _ _ ?_
 clear hK K
 try simp only [zA]
 refine Z2 (i:=14) (by kernel_rfl) rfl (fun K hK=>?_)
 go_simp
 refine hK.out _ _ ?_
 clear hK K
 try simp only [zA]
 refine YO (by kernel_rfl) ?_ _
 generalize hw5:World.setCell _ _ _=w5
 have hX5:w5.heap[w.heap.size]? =some (.cells #[.int .i64 st.turn,.slice E1 n1 p1,.slice E2 n2 p2,.slice E3 n3 p3] 34 (0,0)):=by
  rw [<-hw5]
  exact zI _ (zI _ (zI _ HX4.out rfl) rfl) rfl
 obtain ⟨R,hC,hv1,hv2,hv3⟩:=CP.start HZ1.out HBw2.out R1.out AA1.out (fun b hb=>LL1.out b hb) HSw3.out R2.out AA2.out LL2.out HSw4.out R3.out AA3.out LL3.out HOK.out hw5.symm
 have HX5:=zh hX5
 have HC0:=zh hC
 have HV0:=zh (show (R .us).v= .slice E1 n1 p1/\(R .de).v= .slice E2 n2 p2/\(R .fo).v= .slice E3 n3 p3 from ⟨hv1,hv2,hv3⟩)
 have HB5:=zh (show Below w.heap.size w w5 from by
  rw [<-hw5]
  exact (((zB HB1.out HBw4.out).setCell (znl _) _).setCell (znl _) _).setCell (znl _) _)
 obtain rfl:n3=st.folders.length:=by
  obtain ⟨A,c,e,_⟩:=(HC0.out.os.row .fo).shape
  rw [hv3,HC0.out.fol] at e
  simp only [Value.slice.injEq] at e
  exact e.2.1
 have y3:=(zD HX5.out).1 3 _ rfl
 clear hX5 hC hv1 hv2 hv3 x1 x2 x3 xz
 have HX6:=zh (show w5.heap[w.heap.size+1]? =some (.cells #[.int .i64 0,.slice none 0 0,.slice none 0 0,.slice none 0 0] 34 (0,0)) from by
  rw [<-hw5,Below.heap_setCell _ _ _ _ (by simp),Below.heap_setCell _ _ _ _ (by simp),Below.heap_setCell _ _ _ _ (by simp),HBw4.out.block _ (by rw [HZ1.out];omega)]
  exact HX1.out)
 clear hw5
 go_wp2_with fail
 clear y3
 go_loopw [25] (fun i wr=>∃(p:Nat) (R:RM),p<=st.folders.length/\i= .int .i64 p/\Hid (CP (XC S w) w.heap.size w.heap.size wr R st (fun i=>if i < p then some 100000 else none))/\Hid (Below w.heap.size w wr)/\Hid (wr.heap[w.heap.size]? =some (.cells #[.int .i64 st.turn,.slice E1 n1 p1,.slice E2 n2 p2,.slice E3 st.folders.length p3] 34 (0,0)))/\Hid (wr.heap[w.heap.size+1]? =some (.cells #[.int .i64 0,.slice none 0 0,.slice none 0 0,.slice none 0 0] 34 (0,0)))/\Hid ((R .us).v= .slice E1 n1 p1/\(R .de).v= .slice E2 n2 p2/\(R .fo).v= .slice E3 st.folders.length p3)) (fun i _=>st.folders.length - (RowKit.intOf i).toNat)
 case atStart=>exact ⟨0,R,by omega,by go_num,zh (HC0.out.mode fun i _=>by simp),HB5,HX5,HX6,HV0⟩
 obtain ⟨p,R,_,rfl,HC,HB,HX,HX2,HV⟩:=hrel
 have HFL:=zh HOK.out.fo
 by_cases hlt:p < st.folders.length
 rotate_left
 ·obtain rfl:p=st.folders.length:=by omega
  have y0:=(zD HX.out).1 0 _ rfl
  have y1:=(zD HX.out).1 1 _ rfl
  have y2:=(zD HX.out).1 2 _ rfl
  have y3:=(zD HX.out).1 3 _ rfl
  have b0:=(zD HX2.out).1 0 _ rfl
  have b1:=(zD HX2.out).1 1 _ rfl
  have b2:=(zD HX2.out).1 2 _ rfl
  have b3:=(zD HX2.out).1 3 _ rfl
  have bz:=(zD HX2.out).2
  go_wp2
  try simp only [Exit.inBlock,Exit.then]
  obtain ⟨F1,F2⟩:=zGm HX2.out (.int .i64 st.turn) (.slice E1 n1 p1) (.slice E2 n2 p2) (.slice E3 st.folders.length p3)
  refine bodyPost_ret (results_cell_row rfl _ _ (w.heap.size+1) 34 _ (0,0) _ rfl F1 Tryz.underlying34 rfl (by kernel_rfl)) rfl ?_
  have hN:∀b,yS R b->b≠w.heap.size+1:=fun b hb e=>HC.out.nx b (.inl hb) (.inl e)
  refine ⟨R,by rw [HV.out.1,HV.out.2.1,HV.out.2.2],(((HB.out.setCell (by simp) _).setCell (by simp) _).setCell (by simp) _).setCell (by simp) _,HC.out.os.to fun b hb=>F2 b (hN b hb),?_⟩
  have hI:=HC.out.done HT.out fun i f hf=>⟨100000,by simp [(zge hf).1],by have:=(HOK.out.fl f (zmg hf)).2.2.1;omega⟩
  exact hI.keep fun b ⟨h1,h2,h3,h4⟩ _=>⟨⟨by simpa using h1,h3,fun hl=>Classical.byContradiction fun hs=>h4 (.inr ⟨hl,hs⟩)⟩,F2 b fun e=>h4 (.inl e)⟩
 obtain ⟨f,hff⟩:∃f,st.folders[p]? =some f:=⟨_,List.getElem?_eq_getElem hlt⟩
 have HFF:=zh hff
 have HFM:=zh (zmg hff)
 have HL:=zh (HOK.out.fl f HFM.out)
 obtain ⟨a,off,_,e1,l1,m1,ga,na,ba,fz,hcell⟩:=HC.out.foAt HFF.out
 have e2:=HV.out.2.2.symm.trans e1
 simp only [Value.slice.injEq] at e2
 obtain ⟨rfl,_,rfl⟩:=e2
 have HV3:=zh e1
 obtain ⟨B2,d2,B3,d3,B4,d4,B5,d5,B6,d6,hcs,hn,ht,t2,t3,t4,t5,t6⟩:=HC.out.old HFF.out (by simp)
 have g2:=hcell _ hcs 2 _ rfl
 have g3:=hcell _ hcs 3 _ rfl
 have g4:=hcell _ hcs 4 _ rfl
 have g5:=hcell _ hcs 5 _ rfl
 have g6:=hcell _ hcs 6 _ rfl
 have T2:=zh t2
 have T3:=zh t3
 have T4:=zh t4
 have T5:=zh t5
 have T6:=zh t6
 have HCS:=zh hcs
 have HN:=zh hn
 have HTT:=zh ht
 have HNA:=zh na
 have HGA:=zh ga
 have HBA:=zh ba
 have HROW:=zh (show ∀b,Imm (XC S w) w.heap.size R wr b->b≠a from fun b hb e=>hb.2.2.1 ⟨.fo,by rw [HV3.out,e];rfl⟩)
 have HNA2:=zh (show w.heap.size+1≠a from fun e=>HC.out.nx (w.heap.size+1) (.inl ⟨.fo,by rw [HV3.out,<-e];rfl⟩) (.inl rfl))
 have y3:=(zD HX.out).1 3 _ rfl
 clear hcell hcs hn ht t2 t3 t4 t5 t6 na ba e1 hff g5 g6
 go_upto_region 6 with fail
 have HSQ:=zh (show ∀W':World,Below wr.heap.size wr W'->(fun W':World=>Below wr.heap.size wr W'/\W'.cell? ⟨a,off+p*7+2,none⟩=some (.slice B2 f.manifests.length d2)/\W'.cell? ⟨a,off+p*7+3,none⟩=some (.slice B3 f.epochs.length d3)/\W'.cell? ⟨a,off+p*7+4,none⟩=some (.slice B4 f.items.length d4)) W' from fun W' hW=>⟨hW,(hW.cell (p:=⟨a,off+p*7+2,none⟩) (zF g2)).trans g2,(hW.cell (p:=⟨a,off+p*7+3,none⟩) (zF g3)).trans g3,(hW.cell (p:=⟨a,off+p*7+4,none⟩) (zF g4)).trans g4⟩)
 refine yH (S:=fun W':World=>Below wr.heap.size wr W'/\W'.cell? ⟨a,off+p*7+2,none⟩=some (.slice B2 f.manifests.length d2)/\W'.cell? ⟨a,off+p*7+3,none⟩=some (.slice B3 f.epochs.length d3)/\W'.cell? ⟨a,off+p*7+4,none⟩=some (.slice B4 f.items.length d4)) 18 [1,2] (by kernel_rfl) (HSQ.out _ zbr.drew) (fun hHeld=>?_)
 refine z72 (i:=1) (oi:=?_) (v:=?_) ?_ (by kernel_rfl) ?_ (Or.inl ⟨?_,?_⟩) ?_
 rotate_left 2
 ·simp only [List.getElem?_toArray,List.getElem?_cons_succ,List.getElem?_cons_zero];exact rfl
 ·exact fun _ _ _ h=>h
 ·rfl
 ·(intro W' hSw;clear hSw;go_simp;try with_reducible rfl)
 try simp only [zA]
 refine z72 (i:=2) (oi:=?_) (v:=?_) ?_ (by kernel_rfl) ?_ (Or.inl ⟨?_,?_⟩) ?_
 rotate_left 2
 ·simp only [List.getElem?_toArray,List.getElem?_cons_succ,List.getElem?_cons_zero];exact rfl
 ·exact fun _ _ _ h=>h
 ·rfl
 ·(intro W' hSw;clear hSw;go_simp;try with_reducible rfl)
 try simp only [zA]
 refine zU 0 _ rfl (by kernel_rfl) rfl (fun _ _ _ h=>h) hHeld (by intro W' h;go_simp;try with_reducible rfl) ?_
 simp only [zA]
 refine ziU 3 ?_
 iterate 4 (refine ztU _ rfl (by kernel_rfl) rfl (fun _ _ _ h=>h) hHeld (by intro W' h;go_simp;try with_reducible rfl) ?_;simp only [zA])
 refine zoU ?_
 refine ziU 8 ?_
 iterate 4 (refine ztU _ rfl (by kernel_rfl) rfl (fun _ _ _ h=>h) hHeld (by intro W' h;go_simp;try with_reducible rfl) ?_;simp only [zA])
 refine zoU ?_
 refine ziU 13 ?_
 iterate 4 (refine ztU _ rfl (by kernel_rfl) rfl (fun _ _ _ h=>h) hHeld (by intro W' h;go_simp;try with_reducible rfl) ?_;simp only [zA])
 refine zoU ?_
 refine yA (i:=7) (by kernel_rfl) rfl (fun K hK=>?_)
 go_simp
 go_at_call 73
 refine zcm (zDa f.manifests _ _ (Imm (XC S w) w.heap.size R wr) (T2.out.keep z1a (by decide) (zH (zbr.drew))) HL.out.1) ?_
 rintro e3 wa ⟨⟨v1,d1,rfl,r1,a1,l1⟩,b3⟩
 have Bwa:Below wr.heap.size wr wa:=zB (zbr.drew) b3
 have HSwa:=zh b3
 clear b3 hHeld
 refine hK.out _ _ (HSQ.out _ Bwa) (fun hHeld=>?_)
 clear hK K
 try simp only [zA]
 refine yA (i:=12) (by kernel_rfl) rfl (fun K hK=>?_)
 go_simp
 go_at_call 74
 refine zcm (zHd f.epochs _ _ (Imm (XC S w) w.heap.size R wr) (T3.out.keep z36 (by decide) (zH (Bwa))) HL.out.2.1) ?_
 rintro e3 wb ⟨⟨v2,d2,rfl,r2,a2,l2⟩,b3⟩
 have Bwb:Below wr.heap.size wr wb:=zB (Bwa) b3
 have HSwb:=zh b3
 clear b3 hHeld
 refine hK.out _ _ (HSQ.out _ Bwb) (fun hHeld=>?_)
 clear hK K
 try simp only [zA]
 refine yA (i:=17) (by kernel_rfl) rfl (fun K hK=>?_)
 go_simp
 go_at_call 75
 refine zcm (zJh f.items _ _ (Imm (XC S w) w.heap.size R wr) (T4.out.keep z1z (by decide) (zH (Bwb))) HL.out.2.2.1) ?_
 rintro e3 wc ⟨⟨v3,d3,rfl,r3,a3,l3⟩,b3⟩
 have Bwc:Below wr.heap.size wr wc:=zB (Bwb) b3
 have HSwc:=zh b3
 clear b3 hHeld
 refine hK.out _ _ (HSQ.out _ Bwc) (fun hHeld=>?_)
 clear hK K
 try simp only [zA]
 obtain ⟨F1,k1,j1,rfl⟩:=r1.shape3
 obtain ⟨F2,k2,j2,rfl⟩:=r2.shape3
 obtain ⟨_,k3,_,rfl⟩:=r3.shape3
 have x2:=(Bwc.cell (p:=⟨a,off+p*7+2,none⟩) HGA.out).trans g2
 have x3:=(Bwc.cell (p:=⟨a,off+p*7+3,none⟩) HGA.out).trans g3
 have x4:=(Bwc.cell (p:=⟨a,off+p*7+4,none⟩) HGA.out).trans g4
 have xz:∀q,wc.frozen? ⟨a,q,none⟩=false:=fun q=>(Bwc.frozen (p:=⟨a,q,none⟩) HGA.out).trans (fz q)
 have R1:=zh r1
 have AA1:=zh a1
 have LL1:=zh l1
 have R2:=zh r2
 have AA2:=zh a2
 have LL2:=zh l2
 have R3:=zh r3
 have AA3:=zh a3
 have LL3:=zh l3
 have HBwa:=zh Bwa
 have HBwc:=zh Bwc
 clear r1 r2 r3 a1 a2 a3 l1 l2 l3 Bwa Bwb Bwc g2 g3 g4
 refine Z2 (i:=18) (by kernel_rfl) rfl (fun K hK=>?_)
 go_simp
 refine hK.out _ _ ?_
 clear hK K
 try simp only [zA]
 refine Z2 (i:=19) (by kernel_rfl) rfl (fun K hK=>?_)
 go_simp
 refine hK.out _ _ ?_
 clear hK K
 try simp only [zA]
 refine Z2 (i:=20) (by kernel_rfl) rfl (fun K hK=>?_)
 go_simp
 refine hK.out _ _ ?_
 clear hK K
 try simp only [zA]
 refine Z2 (i:=21) (by kernel_rfl) rfl (fun K hK=>?_)
 go_simp
 refine hK.out _ _ ?_
 clear hK K
 try simp only [zA]
 refine Z2 (i:=22) (by kernel_rfl) rfl (fun K hK=>?_)
 go_simp
 refine hK.out _ _ ?_
 clear hK K
 try simp only [zA]
 refine Z2 (i:=23) (by kernel_rfl) rfl (fun K hK=>?_)
 go_simp
 refine hK.out _ _ ?_
 clear hK K
 try simp only [zA]
 refine Z2 (i:=24) (by kernel_rfl) rfl (fun K hK=>?_)
 go_simp
 refine hK.out _ _ ?_
 clear hK K
 try simp only [zA]
 refine Z2 (i:=25) (by kernel_rfl) rfl (fun K hK=>?_)
 go_simp
 refine hK.out _ _ ?_
 clear hK K
 try simp only [zA]
 refine Z2 (i:=26) (by kernel_rfl) rfl (fun K hK=>?_)
 go_simp
 refine hK.out _ _ ?_
 clear hK K
 try simp only [zA]
 refine YO (by kernel_rfl) ?_ _
 generalize hwd:World.setCell _ _ _=wd
 have HWD:=zh hwd
 obtain ⟨_,_,_,_,_,_,_,_,_,_,hcs',_⟩:=HC.out.old HFF.out (by simp)
 have hcq:=HCS.out.symm.trans hcs'
 clear hcs' hcq
 have hcell:=HC.out.cellAt HFF.out HV3.out HCS.out
 have g5:wd.cell? ⟨a,off+p*7+5,none⟩=some (.slice B5 f.wraps.length d5):=by
  rw [<-hwd]
  exact z32 (z32 (z32 ((HBwc.out.cell (p:=⟨a,off+p*7+5,none⟩) HGA.out).trans (hcell 5 _ rfl)) (by omega)) (by omega)) (by omega)
 have g6:wd.cell? ⟨a,off+p*7+6,none⟩=some (.slice B6 f.links.length d6):=by
  rw [<-hwd]
  exact z32 (z32 (z32 ((HBwc.out.cell (p:=⟨a,off+p*7+6,none⟩) HGA.out).trans (hcell 6 _ rfl)) (by omega)) (by omega)) (by omega)
 have hzd:wd.heap.size=wc.heap.size:=by rw [<-hwd];simp
 have KD:=zh (show Kept (Imm (XC S w) w.heap.size R wr) (Imm (XC S w) w.heap.size R wr) wr wd from fun b hb hl=>⟨hb,by
  rw [<-hwd,Below.heap_setCell _ _ _ _ (HROW.out b hb),Below.heap_setCell _ _ _ _ (HROW.out b hb),Below.heap_setCell _ _ _ _ (HROW.out b hb)]
  exact HBwc.out.block b hl⟩)
 have dz:∀q,wd.frozen? ⟨a,q,none⟩=false:=fun q=>by rw [<-hwd];simp [xz]
 have HGD:=zh (show a < wd.heap.size from by rw [hzd];exact zll HGA.out HBwc.out.size)
 have HZD:=zh hzd
 clear hwd hcell x2 x3 x4 xz fz y3 hzd
 go_upto_region 7 with fail
 have HSQ:=zh (show ∀W':World,Below wd.heap.size wd W'->(fun W':World=>Below wd.heap.size wd W'/\W'.cell? ⟨a,off+p*7+5,none⟩=some (.slice B5 f.wraps.length d5)/\W'.cell? ⟨a,off+p*7+6,none⟩=some (.slice B6 f.links.length d6)) W' from fun W' hW=>⟨hW,(hW.cell (p:=⟨a,off+p*7+5,none⟩) (zF g5)).trans g5,(hW.cell (p:=⟨a,off+p*7+6,none⟩) (zF g6)).trans g6⟩)
 refine yH (S:=fun W':World=>Below wd.heap.size wd W'/\W'.cell? ⟨a,off+p*7+5,none⟩=some (.slice B5 f.wraps.length d5)/\W'.cell? ⟨a,off+p*7+6,none⟩=some (.slice B6 f.links.length d6)) 12 [1] (by kernel_rfl) (HSQ.out _ zbr.drew) (fun hHeld=>?_)
 refine z72 (i:=1) (oi:=?_) (v:=?_) ?_ (by kernel_rfl) ?_ (Or.inl ⟨?_,?_⟩) ?_
 rotate_left 2
 ·simp only [List.getElem?_toArray,List.getElem?_cons_succ,List.getElem?_cons_zero];exact rfl
 ·exact fun _ _ _ h=>h
 ·rfl
 ·(intro W' hSw;clear hSw;go_simp;try with_reducible rfl)
 try simp only [zA]
 refine zU 0 _ rfl (by kernel_rfl) rfl (fun _ _ _ h=>h) hHeld (by intro W' h;go_simp;try with_reducible rfl) ?_
 simp only [zA]
 refine ziU 2 ?_
 iterate 4 (refine ztU _ rfl (by kernel_rfl) rfl (fun _ _ _ h=>h) hHeld (by intro W' h;go_simp;try with_reducible rfl) ?_;simp only [zA])
 refine zoU ?_
 refine ziU 7 ?_
 iterate 4 (refine ztU _ rfl (by kernel_rfl) rfl (fun _ _ _ h=>h) hHeld (by intro W' h;go_simp;try with_reducible rfl) ?_;simp only [zA])
 refine zoU ?_
 refine yA (i:=6) (by kernel_rfl) rfl (fun K hK=>?_)
 go_simp
 go_at_call 76
 refine zcm (zJi f.wraps _ _ (Imm (XC S w) w.heap.size R wr) ((T5.out.keep z2o (by decide) KD.out).keep z2o (by decide) (zH (zbr.drew))) HL.out.2.2.2.1) ?_
 rintro e3 we ⟨⟨_,d4,rfl,r4,a4,l4⟩,b3⟩
 have Bwe:Below wd.heap.size wd we:=zB (zbr.drew) b3
 have HSwe:=zh b3
 clear b3 hHeld
 refine hK.out _ _ (HSQ.out _ Bwe) (fun hHeld=>?_)
 clear hK K
 try simp only [zA]
 refine yA (i:=11) (by kernel_rfl) rfl (fun K hK=>?_)
 go_simp
 go_at_call 77
 refine zcm (zJj f.links _ _ (Imm (XC S w) w.heap.size R wr) ((T6.out.keep z2p (by decide) KD.out).keep z2p (by decide) (zH (Bwe))) HL.out.2.2.2.2) ?_
 rintro e3 wf ⟨⟨_,d5,rfl,r5,a5,l5⟩,b3⟩
 have Bwf:Below wd.heap.size wd wf:=zB (Bwe) b3
 have HSwf:=zh b3
 clear b3 hHeld
 refine hK.out _ _ (HSQ.out _ Bwf) (fun hHeld=>?_)
 clear hK K
 try simp only [zA]
 obtain ⟨_,k4,_,rfl⟩:=r4.shape3
 obtain ⟨_,_,_,rfl⟩:=r5.shape3
 have x5:=(Bwf.cell (p:=⟨a,off+p*7+5,none⟩) HGD.out).trans g5
 have x6:=(Bwf.cell (p:=⟨a,off+p*7+6,none⟩) HGD.out).trans g6
 have xz:∀q,wf.frozen? ⟨a,q,none⟩=false:=fun q=>(Bwf.frozen (p:=⟨a,q,none⟩) HGD.out).trans (dz q)
 have R4:=zh r4
 have AA4:=zh a4
 have LL4:=zh l4
 have R5:=zh r5
 have AA5:=zh a5
 have LL5:=zh l5
 have HBwe:=zh Bwe
 have HBwf:=zh Bwf
 clear r4 r5 a4 a5 l4 l5 Bwe Bwf g5 g6
 refine Z2 (i:=12) (by kernel_rfl) rfl (fun K hK=>?_)
 go_simp
 refine hK.out _ _ ?_
 clear hK K
 try simp only [zA]
 refine Z2 (i:=13) (by kernel_rfl) rfl (fun K hK=>?_)
 go_simp
 refine hK.out _ _ ?_
 clear hK K
 try simp only [zA]
 refine Z2 (i:=14) (by kernel_rfl) rfl (fun K hK=>?_)
 go_simp
 refine hK.out _ _ ?_
 clear hK K
 try simp only [zA]
 refine Z2 (i:=15) (by kernel_rfl) rfl (fun K hK=>?_)
 go_simp
 refine hK.out _ _ ?_
 clear hK K
 try simp only [zA]
 refine Z2 (i:=16) (by kernel_rfl) rfl (fun K hK=>?_)
 go_simp
 refine hK.out _ _ ?_
 clear hK K
 try simp only [zA]
 refine Z2 (i:=17) (by kernel_rfl) rfl (fun K hK=>?_)
 go_simp
 refine hK.out _ _ ?_
 clear hK K
 try simp only [zA]
 refine YO (by kernel_rfl) ?_ _
 generalize hwg:World.setCell _ _ _=wg
 have HH:=zh (HC.out.head HFF.out HCS.out HN.out HTT.out HV3.out HBwa.out R1.out AA1.out (fun b hb=>LL1.out b hb) rfl HSwb.out R2.out AA2.out LL2.out rfl HSwc.out R3.out AA3.out LL3.out rfl HWD.out.symm HBwe.out R4.out AA4.out (fun b hb=>LL4.out b hb) rfl HSwf.out R5.out AA5.out LL5.out rfl HL.out)
 obtain ⟨Rg,hC1,mg,q1,q2,q3⟩:=HH.out
 rw [hwg] at hC1 mg
 have HC1:=zh hC1
 have HB1':=zh (HB.out.trans (Mut.low mg HC.out.os (znl _) (Nat.le_trans HC.out.bb (Nat.le_of_lt HC.out.lt))))
 have HXg:=zh (show wg.heap[w.heap.size]? =some (.cells #[.int .i64 st.turn,.slice E1 n1 p1,.slice E2 n2 p2,.slice (some ⟨a,off,none⟩) st.folders.length p3] 34 (0,0)) from by rw [<-hwg,Below.heap_setCell _ _ _ _ HNA.out.symm];exact z0y (g:=a) HBwf.out (by rw [<-HWD.out,Below.heap_setCell _ _ _ _ HNA.out.symm,Below.heap_setCell _ _ _ _ HNA.out.symm];exact z0y (g:=a) HBwc.out HX.out HNA.out.symm) HNA.out.symm)
 have HXg2:=zh (show wg.heap[w.heap.size+1]? =some (.cells #[.int .i64 0,.slice none 0 0,.slice none 0 0,.slice none 0 0] 34 (0,0)) from by rw [<-hwg,Below.heap_setCell _ _ _ _ HNA2.out];exact z0y (g:=a) HBwf.out (by rw [<-HWD.out,Below.heap_setCell _ _ _ _ HNA2.out,Below.heap_setCell _ _ _ _ HNA2.out];exact z0y (g:=a) HBwc.out HX2.out HNA2.out) HNA2.out)
 have HVg:=zh (show (Rg .us).v= .slice E1 n1 p1/\(Rg .de).v= .slice E2 n2 p2/\(Rg .fo).v= .slice (some ⟨a,off,none⟩) st.folders.length p3 from by rw [q1,q2,q3];exact HV.out)
 clear hC1 mg q1 q2 q3 hwg x5 x6 xz dz HH R1 R2 R3 R4 R5 AA1 AA2 AA3 AA4 AA5 LL1 LL2 LL3 LL4 LL5 HBwa HBwc HBwe HBwf HSwb HSwc HSwf HWD KD HZD HGD T2 T3 T4 T5 T6 HCS HROW
 obtain ⟨D2,e2,D3,e3,D4,e4,u5,u6,hh,k2,k3,k4⟩:=HC1.out.hdrAt (q:=0) HFF.out (by simp)
 have g2:=HC1.out.cellAt HFF.out HVg.out.2.2 hh 2 _ rfl
 clear hh k2 k3 k4
 go_wp2_with fail
 clear g2
 go_loopw [77] (fun i wr=>∃(k:Nat) (R:RM),k<=f.manifests.length/\i= .int .i64 k/\Hid (CP (XC S w) w.heap.size w.heap.size wr R st (fun i=>if i=p then some 0 else if i < p then some 100000 else none))/\Hid (Below w.heap.size w wr)/\Hid (wr.heap[w.heap.size]? =some (.cells #[.int .i64 st.turn,.slice E1 n1 p1,.slice E2 n2 p2,.slice (some ⟨a,off,none⟩) st.folders.length p3] 34 (0,0)))/\Hid (wr.heap[w.heap.size+1]? =some (.cells #[.int .i64 0,.slice none 0 0,.slice none 0 0,.slice none 0 0] 34 (0,0)))/\Hid ((R .us).v= .slice E1 n1 p1/\(R .de).v= .slice E2 n2 p2/\(R .fo).v= .slice (some ⟨a,off,none⟩) st.folders.length p3)) (fun i _=>f.manifests.length - (RowKit.intOf i).toNat)
 case atStart=>exact ⟨0,Rg,by omega,by go_num,HC1,HB1',HXg,HXg2,HVg⟩
 obtain ⟨k,R,hk,rfl,HC,HB,HX,HX2,HV⟩:=hrel
 by_cases hlt2:k < f.manifests.length
 ·obtain ⟨m,hm⟩:∃m,f.manifests[k]? =some m:=⟨_,List.getElem?_eq_getElem hlt2⟩
  have HM:=zh hm
  have HMM:=zh (HOK.out.ma f HFM.out m (zmg hm))
  obtain ⟨g,o,cc,A,d,e1,l1,m1,x4,fz,sl⟩:=HC.out.maAt (q:=0) HFF.out (by simp) hm
  obtain ⟨D2,e2,D3,e3,D4,e4,u5,u6,hh,k2,k3,k4⟩:=HC.out.hdrAt (q:=0) HFF.out (by simp)
  have g2:=HC.out.cellAt HFF.out HV.out.2.2 hh 2 _ rfl
  have ee:=k2.symm.trans e1
  simp only [Value.slice.injEq] at ee
  obtain ⟨rfl,_,rfl⟩:=ee
  have HE1:=zh e1
  have HSL:=zh sl
  have hk2:(k:Int) < (f.manifests.length:Int):=by omega
  have HG1:=zh (show w.heap.size≠g from fun e=>HC.out.nb ⟨.ma p,by rw [HE1.out,<-e];rfl⟩)
  have HG2:=zh (show w.heap.size+1≠g from fun e=>HC.out.nx (w.heap.size+1) (.inl ⟨.ma p,by rw [HE1.out,<-e];rfl⟩) (.inl rfl))
  clear e1 sl hh k2 k3 k4 hm
  go_upto_region 11 with fail
  have HSQ:=zh (show ∀W':World,Below wr.heap.size wr W'->(fun W':World=>Below wr.heap.size wr W'/\W'.cell? ⟨a,off+p*7+2,none⟩=some (.slice (some ⟨g,o,none⟩) f.manifests.length e2)/\W'.cell? ⟨g,o+k*8+4,none⟩=some (.slice A m.members.length d)) W' from fun W' hW=>⟨hW,(hW.cell (p:=⟨a,off+p*7+2,none⟩) (zF g2)).trans g2,(hW.cell (p:=⟨g,o+k*8+4,none⟩) (zF x4)).trans x4⟩)
  refine yH (S:=fun W':World=>Below wr.heap.size wr W'/\W'.cell? ⟨a,off+p*7+2,none⟩=some (.slice (some ⟨g,o,none⟩) f.manifests.length e2)/\W'.cell? ⟨g,o+k*8+4,none⟩=some (.slice A m.members.length d)) 14 [] (by kernel_rfl) (HSQ.out _ zbr.drew) (fun hHeld=>?_)
  refine ziU 0 ?_
  iterate 13 (refine ztU _ rfl (by kernel_rfl) rfl (fun _ _ _ h=>h) hHeld (by intro W' h;go_simp;try with_reducible rfl) ?_;simp only [zA])
  refine zoU ?_
  refine yA (i:=13) (by kernel_rfl) rfl (fun K hK=>?_)
  go_simp
  go_at_call 78
  refine zcm (z8t m.members _ _ _ (HSL.out.keep ZC (by decide) (zH (zbr.drew))) HMM.out) ?_
  rintro e3 w2 ⟨⟨v1,d1,rfl,r1,a1,l1⟩,b3⟩
  have Bw2:Below wr.heap.size wr w2:=zB (zbr.drew) b3
  have HSw2:=zh b3
  clear b3 hHeld
  refine hK.out _ _ (HSQ.out _ Bw2) (fun hHeld=>?_)
  clear hK K
  try simp only [zA]
  obtain ⟨F1,k1,j1,rfl⟩:=r1.shape3
  have y4:=(Bw2.cell (p:=⟨g,o+k*8+4,none⟩) (zF x4)).trans x4
  have yz:∀q,w2.frozen? ⟨g,q,none⟩=false:=fun q=>(Bw2.frozen (p:=⟨g,q,none⟩) (show g < wr.heap.size from zF x4)).trans (fz q)
  have HS:=zh (HC.out.maSet (q:=0) HFF.out (by simp) Bw2 HM.out HE1.out (z92 ZC HC.out Bw2 r1 HMM.out a1 (fun _ _ _ e=>e) (fun b hb=>l1 b hb)))
  have HBw2:=zh Bw2
  clear r1 a1 l1 Bw2 g2 x4 fz
  refine Z2 (i:=14) (by kernel_rfl) rfl (fun K hK=>?_)
  go_simp
  refine hK.out _ _ ?_
  clear hK K
  try simp only [zA]
  refine Z2 (i:=15) (by kernel_rfl) rfl (fun K hK=>?_)
  go_simp
  refine hK.out _ _ ?_
  clear hK K
  try simp only [zA]
  refine Z2 (i:=16) (by kernel_rfl) rfl (fun K hK=>?_)
  go_simp
  refine hK.out _ _ ?_
  clear hK K
  try simp only [zA]
  refine YO (by kernel_rfl) ?_ _
  obtain ⟨R2,hC2,m2,q1,q2,q3⟩:=HS.out
  have HX':=zh (z0y (i:=o+k*8+4) (u:= .slice F1 k1 j1) HBw2.out HX.out HG1.out)
  have HX2':=zh (z0y (i:=o+k*8+4) (u:= .slice F1 k1 j1) HBw2.out HX2.out HG2.out)
  have HB':=zh (HB.out.trans (Mut.low m2 HC.out.os (znl _) (Nat.le_trans HC.out.bb (Nat.le_of_lt HC.out.lt))))
  have HV':=zh (show (R2 .us).v= .slice E1 n1 p1/\(R2 .de).v= .slice E2 n2 p2/\(R2 .fo).v= .slice (some ⟨a,off,none⟩) st.folders.length p3 from by rw [q1,q2,q3];exact HV.out)
  have HC':=zh hC2
  clear hC2 m2 q1 q2 q3 y4 yz
  generalize World.setCell w2 _ _=w3 at*
  go_wp2
  go_roundw
  case rel=>exact ⟨k+1,R2,by omega,by go_num,HC',HB',HX',HX2',HV'⟩
  case measure=>simp [RowKit.intOf];omega
 obtain rfl:k=f.manifests.length:=by omega
 obtain ⟨w6,rfl⟩:∃w6:World,w6=wr:=⟨_,rfl⟩
 obtain ⟨Rm,rfl⟩:∃Rm:RM,Rm=R:=⟨_,rfl⟩
 obtain ⟨D2,e2,D3,e3,D4,e4,u5,u6,hh,k2,k3,k4⟩:=HC.out.hdrAt (q:=0) HFF.out (by simp)
 have g3:=HC.out.cellAt HFF.out HV.out.2.2 hh 3 _ rfl
 clear hh k2 k3 k4
 go_wp2_with fail
 clear g3
 go_loopw [102] (fun i wr=>∃(k:Nat) (R:RM),k<=f.epochs.length/\i= .int .i64 k/\Hid (CP (XC S w) w.heap.size w.heap.size wr R st (fun i=>if i=p then some 0 else if i < p then some 100000 else none))/\Hid (Below w.heap.size w wr)/\Hid (wr.heap[w.heap.size]? =some (.cells #[.int .i64 st.turn,.slice E1 n1 p1,.slice E2 n2 p2,.slice (some ⟨a,off,none⟩) st.folders.length p3] 34 (0,0)))/\Hid (wr.heap[w.heap.size+1]? =some (.cells #[.int .i64 0,.slice none 0 0,.slice none 0 0,.slice none 0 0] 34 (0,0)))/\Hid ((R .us).v= .slice E1 n1 p1/\(R .de).v= .slice E2 n2 p2/\(R .fo).v= .slice (some ⟨a,off,none⟩) st.folders.length p3)) (fun i _=>f.epochs.length - (RowKit.intOf i).toNat)
 case atStart=>exact ⟨0,Rm,by omega,by go_num,HC,HB,HX,HX2,HV⟩
 obtain ⟨k,R,hk,rfl,HC,HB,HX,HX2,HV⟩:=hrel
 by_cases hlt2:k < f.epochs.length
 ·obtain ⟨m,hm⟩:∃m,f.epochs[k]? =some m:=⟨_,List.getElem?_eq_getElem hlt2⟩
  have HM:=zh hm
  have HMM:=zh (HOK.out.ep f HFM.out m (zmg hm))
  obtain ⟨g,o,cc,A,d,e1,l1,m1,x4,fz,sl⟩:=HC.out.epAt (q:=0) HFF.out (by simp) hm
  obtain ⟨D2,e2,D3,e3,D4,e4,u5,u6,hh,k2,k3,k4⟩:=HC.out.hdrAt (q:=0) HFF.out (by simp)
  have g3:=HC.out.cellAt HFF.out HV.out.2.2 hh 3 _ rfl
  have ee:=k3.symm.trans e1
  simp only [Value.slice.injEq] at ee
  obtain ⟨rfl,_,rfl⟩:=ee
  have HE1:=zh e1
  have HSL:=zh sl
  have hk2:(k:Int) < (f.epochs.length:Int):=by omega
  have HG1:=zh (show w.heap.size≠g from fun e=>HC.out.nb ⟨.ep p,by rw [HE1.out,<-e];rfl⟩)
  have HG2:=zh (show w.heap.size+1≠g from fun e=>HC.out.nx (w.heap.size+1) (.inl ⟨.ep p,by rw [HE1.out,<-e];rfl⟩) (.inl rfl))
  clear e1 sl hh k2 k3 k4 hm
  go_upto_region 16 with fail
  have HSQ:=zh (show ∀W':World,Below wr.heap.size wr W'->(fun W':World=>Below wr.heap.size wr W'/\W'.cell? ⟨a,off+p*7+3,none⟩=some (.slice (some ⟨g,o,none⟩) f.epochs.length e3)/\W'.cell? ⟨g,o+k*5+3,none⟩=some (.slice A m.chain.length d)) W' from fun W' hW=>⟨hW,(hW.cell (p:=⟨a,off+p*7+3,none⟩) (zF g3)).trans g3,(hW.cell (p:=⟨g,o+k*5+3,none⟩) (zF x4)).trans x4⟩)
  refine yH (S:=fun W':World=>Below wr.heap.size wr W'/\W'.cell? ⟨a,off+p*7+3,none⟩=some (.slice (some ⟨g,o,none⟩) f.epochs.length e3)/\W'.cell? ⟨g,o+k*5+3,none⟩=some (.slice A m.chain.length d)) 14 [] (by kernel_rfl) (HSQ.out _ zbr.drew) (fun hHeld=>?_)
  refine ziU 0 ?_
  iterate 13 (refine ztU _ rfl (by kernel_rfl) rfl (fun _ _ _ h=>h) hHeld (by intro W' h;go_simp;try with_reducible rfl) ?_;simp only [zA])
  refine zoU ?_
  refine yA (i:=13) (by kernel_rfl) rfl (fun K hK=>?_)
  go_simp
  go_at_call 79
  refine zcm (zNe m.chain _ _ _ (HSL.out.keep Z8 (by decide) (zH (zbr.drew))) HMM.out) ?_
  rintro e3 w2 ⟨⟨v1,d1,rfl,r1,a1,l1⟩,b3⟩
  have Bw2:Below wr.heap.size wr w2:=zB (zbr.drew) b3
  have HSw2:=zh b3
  clear b3 hHeld
  refine hK.out _ _ (HSQ.out _ Bw2) (fun hHeld=>?_)
  clear hK K
  try simp only [zA]
  obtain ⟨F1,k1,j1,rfl⟩:=r1.shape3
  have y4:=(Bw2.cell (p:=⟨g,o+k*5+3,none⟩) (zF x4)).trans x4
  have yz:∀q,w2.frozen? ⟨g,q,none⟩=false:=fun q=>(Bw2.frozen (p:=⟨g,q,none⟩) (show g < wr.heap.size from zF x4)).trans (fz q)
  have HS:=zh (HC.out.epSet (q:=0) HFF.out (by simp) Bw2 HM.out HE1.out (z92 Z8 HC.out Bw2 r1 HMM.out a1 (fun _ _ _ e=>e) (fun b hb=>l1 b hb)))
  have HBw2:=zh Bw2
  clear r1 a1 l1 Bw2 g3 x4 fz
  refine Z2 (i:=14) (by kernel_rfl) rfl (fun K hK=>?_)
  go_simp
  refine hK.out _ _ ?_
  clear hK K
  try simp only [zA]
  refine Z2 (i:=15) (by kernel_rfl) rfl (fun K hK=>?_)
  go_simp
  refine hK.out _ _ ?_
  clear hK K
  try simp only [zA]
  refine Z2 (i:=16) (by kernel_rfl) rfl (fun K hK=>?_)
  go_simp
  refine hK.out _ _ ?_
  clear hK K
  try simp only [zA]
  refine YO (by kernel_rfl) ?_ _
  obtain ⟨R2,hC2,m2,q1,q2,q3⟩:=HS.out
  have HX':=zh (z0y (i:=o+k*5+3) (u:= .slice F1 k1 j1) HBw2.out HX.out HG1.out)
  have HX2':=zh (z0y (i:=o+k*5+3) (u:= .slice F1 k1 j1) HBw2.out HX2.out HG2.out)
  have HB':=zh (HB.out.trans (Mut.low m2 HC.out.os (znl _) (Nat.le_trans HC.out.bb (Nat.le_of_lt HC.out.lt))))
  have HV':=zh (show (R2 .us).v= .slice E1 n1 p1/\(R2 .de).v= .slice E2 n2 p2/\(R2 .fo).v= .slice (some ⟨a,off,none⟩) st.folders.length p3 from by rw [q1,q2,q3];exact HV.out)
  have HC':=zh hC2
  clear hC2 m2 q1 q2 q3 y4 yz
  generalize World.setCell w2 _ _=w3 at*
  go_wp2
  go_roundw
  case rel=>exact ⟨k+1,R2,by omega,by go_num,HC',HB',HX',HX2',HV'⟩
  case measure=>simp [RowKit.intOf];omega
 obtain rfl:k=f.epochs.length:=by omega
 obtain ⟨w7,rfl⟩:∃w7:World,w7=wr:=⟨_,rfl⟩
 obtain ⟨Re,rfl⟩:∃Re:RM,Re=R:=⟨_,rfl⟩
 obtain ⟨D2,e2,D3,e3,D4,e4,u5,u6,hh,k2,k3,k4⟩:=HC.out.hdrAt (q:=0) HFF.out (by simp)
 have g4:=HC.out.cellAt HFF.out HV.out.2.2 hh 4 _ rfl
 clear hh k2 k3 k4
 go_wp2_with fail
 clear g4
 go_loopw [127] (fun i wr=>∃(k:Nat) (R:RM),k<=f.items.length/\i= .int .i64 k/\Hid (CP (XC S w) w.heap.size w.heap.size wr R st (fun i=>if i=p then some k else if i < p then some 100000 else none))/\Hid (Below w.heap.size w wr)/\Hid (wr.heap[w.heap.size]? =some (.cells #[.int .i64 st.turn,.slice E1 n1 p1,.slice E2 n2 p2,.slice (some ⟨a,off,none⟩) st.folders.length p3] 34 (0,0)))/\Hid (wr.heap[w.heap.size+1]? =some (.cells #[.int .i64 0,.slice none 0 0,.slice none 0 0,.slice none 0 0] 34 (0,0)))/\Hid ((R .us).v= .slice E1 n1 p1/\(R .de).v= .slice E2 n2 p2/\(R .fo).v= .slice (some ⟨a,off,none⟩) st.folders.length p3)) (fun i _=>f.items.length - (RowKit.intOf i).toNat)
 case atStart=>exact ⟨0,Re,by omega,by go_num,HC,HB,HX,HX2,HV⟩
 obtain ⟨k,R,hk,rfl,HC,HB,HX,HX2,HV⟩:=hrel
 by_cases hlt2:k < f.items.length
 rotate_left
 ·obtain rfl:k=f.items.length:=by omega
  have HCF:=zh (show CP (XC S w) w.heap.size w.heap.size wr R st (fun i=>if i < p+1 then some 100000 else none) from (HC.out.full (q:=f.items.length) HFF.out (q':=100000) (by simp) (znl _) (by have:=HL.out.2.2.1;omega)).mode fun i _=>by
   by_cases e:i=p
   ·simp [e]
   ·simp [e,show i < p+1↔i < p from by omega])
  go_wp2
  go_roundw
  case rel=>exact ⟨p+1,R,by omega,by go_num,HCF,HB,HX,HX2,HV⟩
  case measure=>simp [RowKit.intOf];omega
 obtain ⟨x,hx⟩:∃x,f.items[k]? =some x:=⟨_,List.getElem?_eq_getElem hlt2⟩
 have HXI:=zh hx
 have HXM:=zh (HOK.out.it f HFM.out x (zmg hx))
 obtain ⟨g,o,c,A,d,e1,l1,m1,x4,fz,sl⟩:=HC.out.itOld HFF.out (by simp) hx
 obtain ⟨D2,e2,D3,e3,D4,e4,u5,u6,hh,k2,k3,k4⟩:=HC.out.hdrAt (q:=k) HFF.out (by simp)
 have g4:=HC.out.cellAt HFF.out HV.out.2.2 hh 4 _ rfl
 have ee:=k4.symm.trans e1
 simp only [Value.slice.injEq] at ee
 obtain ⟨rfl,_,rfl⟩:=ee
 have HE1:=zh e1
 have HSL:=zh sl
 have hk2:(k:Int) < (f.items.length:Int):=by omega
 have HG1:=zh (show w.heap.size≠g from fun e=>HC.out.nb ⟨.it p,by rw [HE1.out,<-e];rfl⟩)
 have HG2:=zh (show w.heap.size+1≠g from fun e=>HC.out.nx (w.heap.size+1) (.inl ⟨.it p,by rw [HE1.out,<-e];rfl⟩) (.inl rfl))
 clear e1 sl hh k2 k3 k4 hx
 go_wp2_with fail
 refine zcm (zEz x.versions _ _ _ HSL.out HXM.out.1) ?_
 rintro e2 w2 ⟨⟨v1,d1,rfl,r1,a1,l1⟩,Bw2⟩
 obtain ⟨F1,k1,j1,rfl⟩:=r1.shape3
 have y4:=(Bw2.cell (p:=⟨g,o+k*2+1,none⟩) (zF x4)).trans x4
 have yz:∀q,w2.frozen? ⟨g,q,none⟩=false:=fun q=>(Bw2.frozen (p:=⟨g,q,none⟩) (show g < wr.heap.size from zF x4)).trans (fz q)
 have HS:=zh (HC.out.veSet HFF.out (by simp) Bw2 HXI.out HE1.out r1 a1 l1 rfl HXM.out.1)
 have HBw2:=zh Bw2
 clear r1 a1 l1 Bw2 g4 x4 fz
 go_upto_region 23 with fail
 obtain ⟨R2,hC2,m2,q1,q2,q3,q4,q5⟩:=HS.out
 have HX':=zh (z0y (i:=o+k*2+1) (u:= .slice F1 k1 j1) HBw2.out HX.out HG1.out)
 have HX2':=zh (z0y (i:=o+k*2+1) (u:= .slice F1 k1 j1) HBw2.out HX2.out HG2.out)
 have HB':=zh (HB.out.trans (Mut.low m2 HC.out.os (znl _) (Nat.le_trans HC.out.bb (Nat.le_of_lt HC.out.lt))))
 have HV':=zh (show (R2 .us).v= .slice E1 n1 p1/\(R2 .de).v= .slice E2 n2 p2/\(R2 .fo).v= .slice (some ⟨a,off,none⟩) st.folders.length p3 from by rw [q1,q2,q3];exact HV.out)
 have HC':=zh (show CP (XC S w) w.heap.size w.heap.size _ R2 st (fun i=>if i=p then some (k+1) else if i < p then some 100000 else none) from hC2.mode fun i _=>by by_cases e:i=p<;>simp [e])
 have HI':=zh (show (R2 (.it p)).v= .slice (some ⟨g,o,none⟩) f.items.length e4 from by rw [q4];exact HE1.out)
 clear hC2 m2 q1 q2 q3 q4 q5 y4 yz HS HE1 HSL HBw2
 generalize World.setCell w2 _ _=w3 at*
 obtain ⟨g',o',c',A2',dd,e1,l1,m1,x4,_⟩:=HC'.out.itNew (q:=k+1) HFF.out (by simp) (Nat.lt_succ_self k) HXI.out
 have ee:=HI'.out.symm.trans e1
 simp only [Value.slice.injEq,Option.some.injEq,Addr.mk.injEq,and_true] at ee
 obtain ⟨⟨rfl,rfl⟩,_,rfl⟩:=ee
 clear e1
 go_wp2_with fail
 clear x4
 go_loopw [149] (fun i wr=>∃(n:Nat) (R:RM),n<=x.versions.length/\i= .int .i64 n/\Hid ((R (.it p)).v= .slice (some ⟨g,o,none⟩) f.items.length e4)/\Hid (CP (XC S w) w.heap.size w.heap.size wr R st (fun i=>if i=p then some (k+1) else if i < p then some 100000 else none))/\Hid (Below w.heap.size w wr)/\Hid (wr.heap[w.heap.size]? =some (.cells #[.int .i64 st.turn,.slice E1 n1 p1,.slice E2 n2 p2,.slice (some ⟨a,off,none⟩) st.folders.length p3] 34 (0,0)))/\Hid (wr.heap[w.heap.size+1]? =some (.cells #[.int .i64 0,.slice none 0 0,.slice none 0 0,.slice none 0 0] 34 (0,0)))/\Hid ((R .us).v= .slice E1 n1 p1/\(R .de).v= .slice E2 n2 p2/\(R .fo).v= .slice (some ⟨a,off,none⟩) st.folders.length p3)) (fun i _=>x.versions.length - (RowKit.intOf i).toNat)
 case atStart=>exact ⟨0,R2,by omega,by go_num,HI',HC',HB',HX',HX2',HV'⟩
 obtain ⟨n,R,hn,rfl,HI,HC,HB,HX,HX2,HV⟩:=hrel
 by_cases hlt3:n < x.versions.length
 rotate_left
 ·obtain rfl:n=x.versions.length:=by omega
  go_wp2
  go_roundw
  case rel=>exact ⟨k+1,R,by omega,by go_num,HC,HB,HX,HX2,HV⟩
  case measure=>simp [RowKit.intOf];omega
 obtain ⟨v,hv⟩:∃v,x.versions[n]? =some v:=⟨_,List.getElem?_eq_getElem hlt3⟩
 have HVE:=zh hv
 have HVM:=zh (HXM.out.2 v (zmg hv))
 obtain ⟨g',o',c',A2',dd,e1,l1,m1,x4,e5⟩:=HC.out.itNew (q:=k+1) HFF.out (by simp) (Nat.lt_succ_self k) HXI.out
 have ee:=HI.out.symm.trans e1
 simp only [Value.slice.injEq,Option.some.injEq,Addr.mk.injEq,and_true] at ee
 obtain ⟨⟨rfl,rfl⟩,_,rfl⟩:=ee
 obtain ⟨vg,vo,_,A,d,e6,_,_,x5,fz,sl⟩:=HC.out.veAt (q:=k+1) HFF.out (by simp) (Nat.lt_succ_self k) HXI.out hv
 have ee:=e5.symm.trans e6
 simp only [Value.slice.injEq] at ee
 obtain ⟨rfl,_,rfl⟩:=ee
 have HE6:=zh e6
 have HSL:=zh sl
 have hk3:(n:Int) < (x.versions.length:Int):=by omega
 have HG1:=zh (show w.heap.size≠vg from fun e=>HC.out.nb ⟨.ve p k,by rw [HE6.out,<-e];rfl⟩)
 have HG2:=zh (show w.heap.size+1≠vg from fun e=>HC.out.nx (w.heap.size+1) (.inl ⟨.ve p k,by rw [HE6.out,<-e];rfl⟩) (.inl rfl))
 clear e1 e5 e6 sl hv
 go_upto_region 26 with fail
 have HSQ:=zh (show ∀W':World,Below wr.heap.size wr W'->(fun W':World=>Below wr.heap.size wr W'/\W'.cell? ⟨g,o+k*2+1,none⟩=some (.slice (some ⟨vg,vo,none⟩) x.versions.length dd)/\W'.cell? ⟨vg,vo+n*4+3,none⟩=some (.slice A v.data.length d)) W' from fun W' hW=>⟨hW,(hW.cell (p:=⟨g,o+k*2+1,none⟩) (zF x4)).trans x4,(hW.cell (p:=⟨vg,vo+n*4+3,none⟩) (zF x5)).trans x5⟩)
 refine yH (S:=fun W':World=>Below wr.heap.size wr W'/\W'.cell? ⟨g,o+k*2+1,none⟩=some (.slice (some ⟨vg,vo,none⟩) x.versions.length dd)/\W'.cell? ⟨vg,vo+n*4+3,none⟩=some (.slice A v.data.length d)) 14 [] (by kernel_rfl) (HSQ.out _ zbr.drew) (fun hHeld=>?_)
 refine ziU 0 ?_
 iterate 13 (refine ztU _ rfl (by kernel_rfl) rfl (fun _ _ _ h=>h) hHeld (by intro W' h;go_simp;try with_reducible rfl) ?_;simp only [zA])
 refine zoU ?_
 refine yA (i:=13) (by kernel_rfl) rfl (fun K hK=>?_)
 go_simp
 go_at_call 40
 refine zcm (zBn v.data _ _ _ (HSL.out.keep rByte_ok (by decide) (zH (zbr.drew))) HVM.out) ?_
 rintro e3 w4 ⟨⟨v1,d1,rfl,r1,a1,l1⟩,b3⟩
 have Bw4:Below wr.heap.size wr w4:=zB (zbr.drew) b3
 have HSw4:=zh b3
 clear b3 hHeld
 refine hK.out _ _ (HSQ.out _ Bw4) (fun hHeld=>?_)
 clear hK K
 try simp only [zA]
 obtain ⟨F2,k2,j2,rfl⟩:=r1.shape3
 have y4:=(Bw4.cell (p:=⟨vg,vo+n*4+3,none⟩) (zF x5)).trans x5
 have yz:∀q,w4.frozen? ⟨vg,q,none⟩=false:=fun q=>(Bw4.frozen (p:=⟨vg,q,none⟩) (show vg < wr.heap.size from zF x5)).trans (fz q)
 have HS:=zh (HC.out.vdSet (q:=k+1) HFF.out (by simp) (Nat.lt_succ_self k) Bw4 HXI.out HVE.out HE6.out (z92 rByte_ok HC.out Bw4 r1 HVM.out a1 (fun _ _ _ e=>e) (fun b hb=>l1 b hb)))
 have HBw4:=zh Bw4
 clear r1 a1 l1 Bw4 x4 x5 fz
 refine Z2 (i:=14) (by kernel_rfl) rfl (fun K hK=>?_)
 go_simp
 refine hK.out _ _ ?_
 clear hK K
 try simp only [zA]
 refine Z2 (i:=15) (by kernel_rfl) rfl (fun K hK=>?_)
 go_simp
 refine hK.out _ _ ?_
 clear hK K
 try simp only [zA]
 refine Z2 (i:=16) (by kernel_rfl) rfl (fun K hK=>?_)
 go_simp
 refine hK.out _ _ ?_
 clear hK K
 try simp only [zA]
 refine YO (by kernel_rfl) ?_ _
 obtain ⟨R3,hC2,m2,q1,q2,q3,q4⟩:=HS.out
 have HX':=zh (z0y (i:=vo+n*4+3) (u:= .slice F2 k2 j2) HBw4.out HX.out HG1.out)
 have HX2':=zh (z0y (i:=vo+n*4+3) (u:= .slice F2 k2 j2) HBw4.out HX2.out HG2.out)
 have HB':=zh (HB.out.trans (Mut.low m2 HC.out.os (znl _) (Nat.le_trans HC.out.bb (Nat.le_of_lt HC.out.lt))))
 have HV':=zh (show (R3 .us).v= .slice E1 n1 p1/\(R3 .de).v= .slice E2 n2 p2/\(R3 .fo).v= .slice (some ⟨a,off,none⟩) st.folders.length p3 from by rw [q1,q2,q3];exact HV.out)
 have HC':=zh hC2
 have HI':=zh (show (R3 (.it p)).v= .slice (some ⟨g,o,none⟩) f.items.length e4 from by rw [q4];exact HI.out)
 clear hC2 m2 q1 q2 q3 q4 y4 yz HS
 generalize World.setCell w4 _ _=w5 at*
 go_wp2
 go_roundw
 case rel=>exact ⟨n+1,R3,by omega,by go_num,HI',HC',HB',HX',HX2',HV'⟩
 case measure=>simp [RowKit.intOf];omega
end Go.Proofs.YtdggplhnfhcieaaGreatDoor
