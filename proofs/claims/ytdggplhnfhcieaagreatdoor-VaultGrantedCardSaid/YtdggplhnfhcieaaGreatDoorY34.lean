/- Part 34 of the proof of vaultGranted_holds. No condition. -/
import Derived.Test.YtdggplhnfhcieaaGreatDoorY33
set_option linter.unusedVariables false
set_option linter.unusedSimpArgs false
set_option linter.unusedSectionVars false
set_option maxRecDepth 100000
namespace Go.Proofs.YtdggplhnfhcieaaGreatDoor
open Go.RowKit Go.Deep
section
def YS (st:State) (f:Folder):State:={ st with folders:=st.folders++[f] }
theorem z2e {st:State} {f:Folder}:fo (YS st f) st.folders.length=f:=by
 unfold fo YS
 dsimp only
 rw [List.getElem?_append_right (znl _),Nat.sub_self]
 rfl
theorem z86 {st:State} {f:Folder}:st.folders.length < (YS st f).folders.length:=by unfold YS;simp
theorem z6o {st:State} {f g:Folder}:setF (YS st f) st.folders.length g=YS st g:=by
 unfold setF YS
 simp
theorem zAv {st:State} {s:Nm} {f:Folder} (h:foI st s=none) (hf:f.name=s):foI (YS st f) s=some st.folders.length:=by
 unfold foI at h⊢
 unfold YS
 dsimp only
 rw [List.findIdx?_append,h]
 simp [isF,hf,List.findIdx?_cons]
def YJ (c:Call):Folder:=⟨c.folder,1,[⟨c.folder,1,[],c.other,[⟨c.user,4⟩],0,false,c.user⟩],[],[],[],[]⟩
def z9j (c:Call) (ch:List At):Folder:={ YJ c with epochs:=[⟨1,1,1,ch,c.user⟩] }
theorem zNu {st:State} {c:Call}:z47 st c={ z05 (YS st (yZ (z9j c (zN (YS st (YJ c)) 4 c.folder)) c.user true)) st.folders.length with turn:=st.turn+1 }:=by
 have e:zN (YS st (z0g st c)) 4 c.folder=zN (YS st (YJ c)) 4 c.folder:=by
  have h:=zBf (st:=YS st (YJ c)) (k:=st.folders.length) (f:=YJ c) (f':=z0g st c) (by rw [ZK z86,z2e]) rfl rfl rfl
  rw [z6o] at h
  exact h.chain 4 c.folder
 unfold z47
 dsimp only
 rw [show ({ st with folders:=st.folders++[z0g st c] }:State)=YS st (z0g st c) from rfl,z6o,e]
 rfl
theorem zBq {st:State} {c:Call} (h:foI st c.folder=none) (hm:z1v st c≠0):YL st c=(st,ZD (z1v st c),false):=by
 unfold YL
 rw [h]
 simp [hm]
theorem zJz {st:State} {c:Call} (h:foI st c.folder=none) (hm:z1v st c=0) (hl:4<=(zN st 4 c.other).length):YL st c=(st,ZD 3,false):=by
 unfold YL
 rw [h]
 simp [hm,hl]
theorem zM0 {st:State} {c:Call} (h:foI st c.folder=none) (hm:z1v st c=0) (hl:¬4<=(zN st 4 c.other).length) (hf:¬64<=st.folders.length):YL st c=(z47 st c,YF 1,true):=by
 unfold YL
 rw [h]
 simp [hm,hl,hf]
theorem zNv {st:State} {f:Folder} (h:SmF st) (hf:f.name.size<=1000/\(zL f).members.length<=100/\f.manifests≠[]/\f.epochs.length<=1000000):SmF (YS st f):=fun g hg=>by
 rcases zmb hg with hg | hg
 ·exact h g hg
 ·rw [zml hg]
  exact hf
section
variable {X:Nat->Prop} {base bw:Nat} {W W':World} {R R':RM} {c:Call} {dv:Value} {st:State} {done late:Bool}
set_option maxHeartbeats 16000000 in
theorem zHq (h:WK X base bw W R c dv st false late) {n:Nat} (hI:VInv n st) (hn:n<=40) (hc:CallOk c):
  Calls Tryz.prog 88 #[.pointer (some ⟨bw,0,none⟩)] W (Did X base bw W R c dv late (YL st c)):=by
 obtain ⟨iFolder,hiFolder,hzFolder,h1Folder,h2Folder⟩:=info_parts (show (Tryz.prog.info? 74).map (fun i=>(i.zero,i.size,i.bytes))=some (some (.agg #[.string ⟨#[]⟩,.int .i64 0,.slice none 0 0,.slice none 0 0,.slice none 0 0,.slice none 0 0,.slice none 0 0]),7,144) from by kernel_rfl)
 have HVI:=zh hI
 have HC:=zh hc
 have HTN:=zh (show 0<=st.turn/\st.turn<=1000000 from ⟨hI.turn.1,by have:=hI.turn.2;omega⟩)
 have HFL:=zh (show st.folders.length<=41 from by have:=hI.few;omega)
 have HHO:=zh (z9f hI.names hI.tree 5 c.folder (by omega))
 obtain ⟨w0,hw0⟩:∃w0,W.alloc (.cells zQ 49)=w0:=⟨_,rfl⟩
 have hN:=ZV W
 rw [hw0] at hN
 obtain ⟨hE,B0,T0,z0⟩:=hN
 have H0:=hE R h
 have HW:=zh H0
 have HT0:=zh T0
 have HB0:=zh B0
 have hlt:=H0.lt
 clear hE B0 T0
 obtain ⟨A7,c7,e7,hkind,hus,hfol,hnam,hoth,hrol,hver,d1,d2,d3,d4⟩:=Y7 H0.call
 obtain rfl:dv= .slice A7 c.data.length c7:=by simpa [z26] using e7
 have s0:=H0.cells.1 0 _ rfl
 have s1:=H0.cells.1 1 _ rfl
 have s2:=H0.cells.1 2 _ rfl
 have s3:=H0.cells.1 3 _ rfl
 have s4:=H0.cells.1 4 _ rfl
 have s5:=H0.cells.1 5 _ rfl
 have s6:=H0.cells.1 6 _ rfl
 have s7:=H0.cells.1 7 _ rfl
 obtain ⟨wA,hwA,cA,fA,BA,qA⟩:=zO w0 #[.int .i64 c.kind,.string c.user,.string c.folder,.string c.name,.string c.other,.int .i64 c.role,.int .i64 c.version,.slice A7 c.data.length c7] 41
 have HCB:=zh (zbx hwA)
 have HD:=zh (show Sl 1 yN (Imm (fun b=>X b\/b=W.heap.size) bw R w0) w0 (.slice A7 c.data.length c7) c.data from ⟨A7,c7,rfl,d1,by unfold maxLen;exact d2,d3,d4⟩)
 have HSZ:=zh (show c.user.size<=140737488355328/\c.folder.size<=140737488355328/\c.name.size<=140737488355328/\c.other.size<=140737488355328 from ⟨hus,hfol,hnam,hoth⟩)
 have HBA:=zh BA
 have HWA:=zh (H0.below BA)
 have HIA:=zh (show Imm (fun b=>X b\/b=W.heap.size) bw R wA w0.heap.size from ⟨qA,fun e=>by have:=H0.lt;omega,fun e=>by have:=H0.os.lt e;omega,fun e=>by have:=H0.xl _ e;omega⟩)
 clear e7 hkind hus hfol hnam hoth hrol hver d1 d3 d4 cA fA BA
 have HAT:=zh (z9d HWA.out c.folder)
 obtain ⟨D6,f6,hv6,_⟩:=(h.os.row .fo).shape
 rw [h.is.fol] at hv6
 have HV6:=zh hv6
 clear h H0 hI hc hv6
 unfold zQ at hw0
 go_enter Tryz.func88,Tryz.ntmps88
 have k2:=(zD HCB.out).1 2 _ rfl
 go_wp2_with fail
 refine zcm HAT.out ?_
 clear s0 s1 s2 s3 s4 s5 s6 s7
 rintro e1 w1 ⟨⟨hno,rfl⟩ | ⟨k,g,o,hk,ha,rfl⟩,B1⟩
 rotate_left
 ·have HB1:=zh (zB HBA.out B1)
  have HK:=zh hk
  clear B1 ha hk k2
  go_wp2_with fail
  refine zcm (ZG 42 w1) ?_
  rintro eq wq ⟨rfl,Bq⟩
  obtain ⟨BW,H2,K2,y0,y1,y2,y3,y4,y5,y6,yz⟩:=zW HB1.out Bq HW.out z0 HT0.out
  clear Bq
  unfold ZW
  go_wp2
  try simp only [Exit.inBlock,Exit.then]
  obtain ⟨F1,F2⟩:=Z4 K2.out (.int .i64 42) (.int .i64 0) (.string ⟨#[]⟩) (.slice none 0 0) (.slice none 0 0) (.slice none 0 0) (.slice none 0 0)
  refine bodyPost_ret (zq rfl rfl F1 rfl) rfl ?_
  rw [show (YL st c)=(st,ZD 42,false) from by unfold YL;rw [HK.out];rfl]
  exact Z6 H2.out (Mut.below (zB HB0.out BW.out)) (znl _) F2 (ZU ⟨by omega,by omega⟩)
 have HNO:=zh hno
 have HB1:=zh (zB HBA.out B1)
 have H1:=zh (HW.out.below HB1.out)
 have HKB1:=zh ((B1.block _ qA).trans HCB.out)
 have k4:=(zD HKB1.out).1 4 _ rfl
 clear B1 hno k2
 go_upto_region 4 with fail
 go_cut [19] from 17 to 19 (fun s19 wx=>(∃b:Bool,s19= .bool b/\Hid (b=true↔c.other≠⟨#[]⟩))/\wx=w1)
 case first=>
   by_cases ho:c.other=⟨#[]⟩
   ·have he:c.other.toList.isEmpty=true:=by rw [ho];exact z16
    have HO:=zh ho
    clear ho
    go_wp2
    go_meet
    case rel=>exact ⟨⟨_,rfl,zh (by have:=HO.out;simp [this])⟩,rfl⟩
   ·have he:c.other.toList.isEmpty=false:=z0x ho
    have HO:=zh ho
    clear ho
    go_wp2
    go_meet
    case rel=>exact ⟨⟨_,rfl,zh (by have:=HO.out;simp [this])⟩,rfl⟩
 obtain ⟨⟨bo,rfl,hbo⟩,rfl⟩:=hcut
 rename_i KK hKK
 refine hKK _ _ ?_
 clear hKK KK
 go_cut [4] from 20 to 33 (fun s4 wx=>Hid (Below wc.heap.size wc wx)/\Hid (z1v st c=0))
 case first=>
  by_cases ho:c.other=⟨#[]⟩
  ·obtain rfl:bo=false:=by cases bo with | false=>rfl | true=>exact absurd ho (hbo.out.1 rfl)
   have HM:=zh (show z1v st c=0 from by unfold z1v;rw [if_pos (by simp [isE,ho])])
   clear ho
   go_wp2
   go_meet
   case rel=>exact ⟨zh zbr,HM⟩
  obtain rfl:bo=true:=hbo.out.2 ho
  have HO:=zh (show isE c.other=false from by simp [isE,ho])
  clear ho
  have HTH:=zh (yG H1.out c.other)
  go_wp2_with fail
  refine zcm HTH.out ?_
  rintro e2 w2 ⟨⟨hno2,rfl⟩ | ⟨kp,g,o,hkp,ha,rfl⟩,B2⟩
  ·have HB2:=zh (zB HB1.out B2)
   have HM:=zh (show z1v st c=41 from by unfold z1v;rw [HO.out,hno2];rfl)
   clear B2 hno2 k4
   go_wp2_with fail
   refine zcm (ZG 41 w2) ?_
   rintro eq wq ⟨rfl,Bq⟩
   obtain ⟨BW,H2,K2,y0,y1,y2,y3,y4,y5,y6,yz⟩:=zW HB2.out Bq HW.out z0 HT0.out
   clear Bq
   unfold ZW
   go_wp2
   try simp only [Exit.inBlock,Exit.then]
   obtain ⟨F1,F2⟩:=Z4 K2.out (.int .i64 41) (.int .i64 0) (.string ⟨#[]⟩) (.slice none 0 0) (.slice none 0 0) (.slice none 0 0) (.slice none 0 0)
   refine bodyPost_ret (zq rfl rfl F1 rfl) rfl ?_
   rw [show (YL st c)=(st,ZD 41,false) from by rw [zBq HNO.out (by rw [HM.out];decide),HM.out]]
   exact Z6 H2.out (Mut.below (zB HB0.out BW.out)) (znl _) F2 (ZU ⟨by omega,by omega⟩)
  have HB2:=zh (zB HB1.out B2)
  have HB12:=zh B2
  have H2:=zh (HW.out.below HB2.out)
  have HA:=zh ha
  have HKP:=zh hkp
  have HKL:=zh (z1g (Y2 hkp))
  clear B2 ha hkp k4
  go_wp2_with fail
  refine zcm (z49 H2.out HKL.out HA.out) ?_
  rintro e3 w3 ⟨rfl,B3⟩
  have HB3:=zh (zB HB2.out B3)
  have HB13:=zh (zB HB12.out B3)
  clear B3
  by_cases hr:yM st kp c.user < 2
  rotate_left
  ·have hgd:decide (yM st kp c.user < 2)=false:=decide_eq_false hr
   have HM:=zh (show z1v st c=0 from by unfold z1v;rw [HO.out,HKP.out];simp only [hr];rfl)
   clear hr
   go_wp2
   go_meet
   case rel=>exact ⟨HB13,HM⟩
  have hgd:decide (yM st kp c.user < 2)=true:=decide_eq_true hr
  have HM:=zh (show z1v st c=40 from by unfold z1v;rw [HO.out,HKP.out];simp only [hr];rfl)
  clear hr
  go_wp2_with fail
  refine zcm (ZG 40 w3) ?_
  rintro eq wq ⟨rfl,Bq⟩
  obtain ⟨BW,H2,K2,y0,y1,y2,y3,y4,y5,y6,yz⟩:=zW HB3.out Bq HW.out z0 HT0.out
  clear Bq
  unfold ZW
  go_wp2
  try simp only [Exit.inBlock,Exit.then]
  obtain ⟨F1,F2⟩:=Z4 K2.out (.int .i64 40) (.int .i64 0) (.string ⟨#[]⟩) (.slice none 0 0) (.slice none 0 0) (.slice none 0 0) (.slice none 0 0)
  refine bodyPost_ret (zq rfl rfl F1 rfl) rfl ?_
  rw [show (YL st c)=(st,ZD 40,false) from by rw [zBq HNO.out (by rw [HM.out];decide),HM.out]]
  exact Z6 H2.out (Mut.below (zB HB0.out BW.out)) (znl _) F2 (ZU ⟨by omega,by omega⟩)
 obtain ⟨HBc,HM⟩:=hcut
 have HB2:=zh (zB HB1.out HBc.out)
 have H2:=zh (HW.out.below HB2.out)
 have HKB2:=zh ((HBc.out.block _ (by have:=qA;have:=HB1.out.size;exact zM HKB1.out)).trans HKB1.out)
 have t8:=H2.out.cells.1 8 _ rfl
 have t9:=H2.out.cells.1 9 _ rfl
 have t10:=H2.out.cells.1 10 _ rfl
 have t11:wc.cell? ⟨bw,11,none⟩=some (.slice D6 st.folders.length f6):=by rw [<-HV6.out];exact H2.out.cells.1 11 _ rfl
 have HST:=zh (show ∀w',Below wc.heap.size wc w'->ZX (fun _=>True) w' [.int .i64 st.turn,(R .us).v,(R .de).v,.slice D6 st.folders.length f6] st from fun w' hb=>by rw [<-HV6.out];exact (H2.out.below hb).state)
 replace k4:=(zD HKB2.out).1 4 _ rfl
 by_cases hch:4<=(zN st 4 c.other).length
 ·have hgc:decide (4<=((zN st 4 c.other).length:Int))=true:=decide_eq_true (by omega)
  have HCH:=zh hch
  clear hch
  go_upto_region 10 with fail
  have HSQ:=zh (show ∀W':World,Below wc.heap.size wc W'->(fun W':World=>Below wc.heap.size wc W'/\W'.cell? ⟨bw,8,none⟩=some (.int .i64 st.turn)/\W'.cell? ⟨bw,9,none⟩=some ((R .us).v)/\W'.cell? ⟨bw,10,none⟩=some ((R .de).v)/\W'.cell? ⟨bw,11,none⟩=some (.slice D6 st.folders.length f6)/\W'.cell? ⟨w0.heap.size,4,none⟩=some (.string c.other)) W' from fun W' hW=>⟨hW,(hW.cell (p:=⟨bw,8,none⟩) (zF t8)).trans t8,(hW.cell (p:=⟨bw,9,none⟩) (zF t9)).trans t9,(hW.cell (p:=⟨bw,10,none⟩) (zF t10)).trans t10,(hW.cell (p:=⟨bw,11,none⟩) (zF t11)).trans t11,(hW.cell (p:=⟨w0.heap.size,4,none⟩) (zF k4)).trans k4⟩)
  refine zE (by kernel_rfl) HSQ.out (fun hHeld=>?_)
  refine zi 0 ?_
  iterate 6 (refine zt _ rfl (by kernel_rfl) rfl (fun _ _ _ h=>h) hHeld (by intro W' h;go_simp;try with_reducible rfl) ?_;simp only [zA])
  refine zo ?_
  refine zr 6 (by kernel_rfl) rfl (fun K hK=>?_)
  go_simp
  go_at_call 67
  refine zcm (z1u st c.other HSZ.out.2.2.2 _ _ (fun _=>True) (HST.out _ (zbr.drew))) ?_
  rintro e3 w3 ⟨⟨v4,rfl,⟨A9,c9,rfl,hs4⟩⟩,b3⟩
  have Bw3:Below wc.heap.size wc w3:=zB (zbr.drew) b3
  clear b3 hHeld
  refine hK.out _ _ (HSQ.out _ Bw3) (fun hHeld=>?_)
  clear hK K
  refine zi 7 ?_
  iterate 3 (refine zt _ rfl (by kernel_rfl) rfl (fun _ _ _ h=>h) hHeld (by intro W' h;go_simp;try with_reducible rfl) ?_;simp only [zA])
  refine zo ?_
  refine zX 10 rfl (by kernel_rfl) rfl (fun _ _ _ h=>h) hHeld ?_
  simp only [zA]
  refine zX 11 rfl (by kernel_rfl) rfl (fun _ _ _ h=>h) hHeld ?_
  simp only [zA]
  refine zX 12 rfl (by kernel_rfl) rfl (fun _ _ _ h=>h) hHeld ?_
  simp only [zA]
  refine zX 13 rfl (by kernel_rfl) rfl (fun _ _ _ h=>h) hHeld ?_
  simp only [zA]
  refine zX 14 rfl (by kernel_rfl) rfl (fun _ _ _ h=>h) hHeld ?_
  simp only [zA]
  refine zX 15 rfl (by kernel_rfl) rfl (fun _ _ _ h=>h) hHeld ?_
  simp only [zA]
  refine zX 16 rfl (by kernel_rfl) rfl (fun _ _ _ h=>h) hHeld ?_
  simp only [zA]
  refine zT 17 _ rfl (by kernel_rfl) rfl (fun _ _ _ h=>h) hHeld (by intro W' h;go_simp;try with_reducible rfl) ?_
  simp only [zA]
  refine wpAnyH_done (by kernel_rfl) ?_ _
  clear hHeld HSQ
  have HB3:=zh (zB HB2.out Bw3)
  clear Bw3 hs4
  go_wp2_with fail
  refine zcm (ZG 3 w3) ?_
  rintro eq wq ⟨rfl,Bq⟩
  obtain ⟨BW,H2,K2,y0,y1,y2,y3,y4,y5,y6,yz⟩:=zW HB3.out Bq HW.out z0 HT0.out
  clear Bq
  unfold ZW
  go_wp2
  try simp only [Exit.inBlock,Exit.then]
  obtain ⟨F1,F2⟩:=Z4 K2.out (.int .i64 3) (.int .i64 0) (.string ⟨#[]⟩) (.slice none 0 0) (.slice none 0 0) (.slice none 0 0) (.slice none 0 0)
  refine bodyPost_ret (zq rfl rfl F1 rfl) rfl ?_
  rw [show (YL st c)=(st,ZD 3,false) from by rw [zJz HNO.out HM.out HCH.out]]
  exact Z6 H2.out (Mut.below (zB HB0.out BW.out)) (znl _) F2 (ZU ⟨by omega,by omega⟩)
 have hgc:decide (4<=((zN st 4 c.other).length:Int))=false:=decide_eq_false (by omega)
 have hgf:decide (64<=(st.folders.length:Int))=false:=decide_eq_false (by have:=HFL.out;omega)
 have HCH':=zh hch
 clear hch
 go_upto_region 10 with fail
 have HSQ:=zh (show ∀W':World,Below wc.heap.size wc W'->(fun W':World=>Below wc.heap.size wc W'/\W'.cell? ⟨bw,8,none⟩=some (.int .i64 st.turn)/\W'.cell? ⟨bw,9,none⟩=some ((R .us).v)/\W'.cell? ⟨bw,10,none⟩=some ((R .de).v)/\W'.cell? ⟨bw,11,none⟩=some (.slice D6 st.folders.length f6)/\W'.cell? ⟨w0.heap.size,4,none⟩=some (.string c.other)) W' from fun W' hW=>⟨hW,(hW.cell (p:=⟨bw,8,none⟩) (zF t8)).trans t8,(hW.cell (p:=⟨bw,9,none⟩) (zF t9)).trans t9,(hW.cell (p:=⟨bw,10,none⟩) (zF t10)).trans t10,(hW.cell (p:=⟨bw,11,none⟩) (zF t11)).trans t11,(hW.cell (p:=⟨w0.heap.size,4,none⟩) (zF k4)).trans k4⟩)
 refine zE (by kernel_rfl) HSQ.out (fun hHeld=>?_)
 refine zi 0 ?_
 iterate 6 (refine zt _ rfl (by kernel_rfl) rfl (fun _ _ _ h=>h) hHeld (by intro W' h;go_simp;try with_reducible rfl) ?_;simp only [zA])
 refine zo ?_
 refine zr 6 (by kernel_rfl) rfl (fun K hK=>?_)
 go_simp
 go_at_call 67
 refine zcm (z1u st c.other HSZ.out.2.2.2 _ _ (fun _=>True) (HST.out _ (zbr.drew))) ?_
 rintro e3 w3 ⟨⟨v4,rfl,⟨A9,c9,rfl,hs4⟩⟩,b3⟩
 have Bw3:Below wc.heap.size wc w3:=zB (zbr.drew) b3
 clear b3 hHeld
 refine hK.out _ _ (HSQ.out _ Bw3) (fun hHeld=>?_)
 clear hK K
 refine zi 7 ?_
 iterate 11 (refine zt _ rfl (by kernel_rfl) rfl (fun _ _ _ h=>h) hHeld (by intro W' h;go_simp;try with_reducible rfl) ?_;simp only [zA])
 refine zo ?_
 refine wpAnyH_done (by kernel_rfl) ?_ _
 clear hHeld HSQ
 have HBc3:=zh Bw3
 have HB3:=zh (zB HB2.out Bw3)
 have H3:=zh (HW.out.below HB3.out)
 have HKB3:=zh ((Bw3.block _ (zM HKB2.out)).trans HKB2.out)
 have k1:=(zD HKB3.out).1 1 _ rfl
 have k2:=(zD HKB3.out).1 2 _ rfl
 replace k4:=(zD HKB3.out).1 4 _ rfl
 have hqA:w0.heap.size < w3.heap.size:=zF k1
 clear Bw3 hs4 t8 t9 t10 t11
 go_upto_region 13 with fail
 generalize hwM:World.alloc w3 _=wM
 generalize hwB:World.alloc wM _=wB
 have hMz:wM.heap.size=w3.heap.size+1:=by rw [<-hwM,World.size_alloc]
 have BM:Below w3.heap.size w3 wM:=by rw [<-hwM];exact Below.alloc zbr (znl _) _
 have BB:Below w3.heap.size w3 wB:=by rw [<-hwB];exact Below.alloc BM BM.size _
 have M1:wB.heap[w3.heap.size]? =some (.cells #[.string c.user,.int .i64 4] 87 (0,0)):=by rw [<-hwB,heap_alloc_old _ _ (by omega),<-hwM];exact zJ _ rfl
 have P0:wB.heap[w3.heap.size+1]? =some (.cells #[.string c.folder,.int .i64 1,.slice none 0 0,.string c.other,.slice (some ⟨w3.heap.size,0,none⟩) 1 1,.int .i64 0,.bool false,.string c.user] 84 (0,0)):=by rw [<-hwB,<-hMz];exact zJ _ rfl
 have HZB:=zh (show wB.heap.size=w3.heap.size+2 from by rw [<-hwB,World.size_alloc,hMz])
 have HBB:=zh (zB HB3.out BB)
 have HBB0:=zh (zB HB0.out HBB.out)
 have HWB:=zh (HW.out.below HBB.out)
 have HM1:=zh M1
 have HFZ:=zh HWB.out.cells.2
 have HKBB:=zh ((BB.block _ (zF k2)).trans HKB3.out)
 have HIB:=zh (show Imm (fun b=>X b\/b=W.heap.size) bw R wB w0.heap.size from ⟨zll (zF k2) BB.size,HIA.out.2⟩)
 have HIM:=zh (show Imm (fun b=>X b\/b=W.heap.size) bw R wB w3.heap.size from ⟨by rw [HZB.out];omega,fun e=>by have:=H3.out.lt;omega,fun e=>by have:=H3.out.os.lt e;omega,fun e=>by have:=H3.out.xl _ e;omega⟩)
 have HKW3:=zh ((BB.block _ (zM ((HB3.out.block _ z0).trans HT0.out))).trans ((HB3.out.block _ z0).trans HT0.out))
 obtain ⟨p0,p1,p2,p3,p4,p5,p6,p7⟩:=zC8 (zD P0).1
 replace k2:=(BB.cell (p:=⟨w0.heap.size,2,none⟩) hqA).trans k2
 have t11:wB.cell? ⟨bw,11,none⟩=some (.slice D6 st.folders.length f6):=by rw [<-HV6.out];exact HWB.out.cells.1 11 _ rfl
 have hb1:¬(Value.slice D6 st.folders.length f6).ownBlock=some bw:=fun e=>HWB.out.nb ⟨.fo,by rw [HV6.out];exact e⟩
 have hb2:¬(Value.slice D6 st.folders.length f6).ownBlock=some w0.heap.size:=fun e=>HIA.out.2.2.1 ⟨.fo,by rw [HV6.out];exact e⟩
 have hb3:¬(Value.slice D6 st.folders.length f6).ownBlock=some (w3.heap.size+1):=fun e=>by have:=H3.out.os.lt ⟨.fo,by rw [HV6.out];exact e⟩;omega
 clear hwM hwB hMz BM BB M1 P0 k1 k4
 have HSQ:=zh (show ∀W':World,ButB (fun z=>(Value.slice D6 st.folders.length f6).ownBlock=some z) wB W'->(fun W':World=>ButB (fun z=>(Value.slice D6 st.folders.length f6).ownBlock=some z) wB W'/\W'.cell? ⟨bw,11,none⟩=some (.slice D6 st.folders.length f6)/\W'.cell? ⟨w0.heap.size,2,none⟩=some (.string c.folder)/\W'.cell? ⟨w3.heap.size+1,0,none⟩=some (.string c.folder)/\W'.cell? ⟨w3.heap.size+1,1,none⟩=some (.int .i64 1)/\W'.cell? ⟨w3.heap.size+1,2,none⟩=some (.slice none 0 0)/\W'.cell? ⟨w3.heap.size+1,3,none⟩=some (.string c.other)/\W'.cell? ⟨w3.heap.size+1,4,none⟩=some (.slice (some ⟨w3.heap.size,0,none⟩) 1 1)/\W'.cell? ⟨w3.heap.size+1,5,none⟩=some (.int .i64 0)/\W'.cell? ⟨w3.heap.size+1,6,none⟩=some (.bool false)/\W'.cell? ⟨w3.heap.size+1,7,none⟩=some (.string c.user)) W' from fun W' hW=>⟨hW,hW.cellq t11 hb1,hW.cellq k2 hb2,hW.cellq p0 hb3,hW.cellq p1 hb3,hW.cellq p2 hb3,hW.cellq p3 hb3,hW.cellq p4 hb3,hW.cellq p5 hb3,hW.cellq p6 hb3,hW.cellq p7 hb3⟩)
 refine yH (S:=fun W':World=>ButB (fun z=>(Value.slice D6 st.folders.length f6).ownBlock=some z) wB W'/\W'.cell? ⟨bw,11,none⟩=some (.slice D6 st.folders.length f6)/\W'.cell? ⟨w0.heap.size,2,none⟩=some (.string c.folder)/\W'.cell? ⟨w3.heap.size+1,0,none⟩=some (.string c.folder)/\W'.cell? ⟨w3.heap.size+1,1,none⟩=some (.int .i64 1)/\W'.cell? ⟨w3.heap.size+1,2,none⟩=some (.slice none 0 0)/\W'.cell? ⟨w3.heap.size+1,3,none⟩=some (.string c.other)/\W'.cell? ⟨w3.heap.size+1,4,none⟩=some (.slice (some ⟨w3.heap.size,0,none⟩) 1 1)/\W'.cell? ⟨w3.heap.size+1,5,none⟩=some (.int .i64 0)/\W'.cell? ⟨w3.heap.size+1,6,none⟩=some (.bool false)/\W'.cell? ⟨w3.heap.size+1,7,none⟩=some (.string c.user)) 13 [] (by kernel_rfl) (HSQ.out _ (ButB.of zbr.drew)) (fun hHeld=>?_)
 refine ziU 0 ?_
 iterate 9 (refine ztU _ rfl (by kernel_rfl) rfl (fun _ _ _ h=>h) hHeld (by intro W' h;go_simp;try with_reducible rfl) ?_;simp only [zA])
 refine zoU ?_
 refine yA (i:=9) (by kernel_rfl) rfl (fun K hK=>?_)
 go_simp
 generalize hwE:World.drew (World.alloc _ _)=wE
 have BwE:=(show Below wB.heap.size wB wE from by rw [<-hwE];exact (Below.alloc zbr (znl _) _).drew)
 clear hHeld
 refine hK.out _ _ (HSQ.out _ (ButB.of BwE)) (fun hHeld=>?_)
 clear hK K
 try simp only [zA]
 have NE:wE.heap[wB.heap.size]? =some (.cells #[.string c.folder,.int .i64 1,.slice none 0 0,.string c.other,.slice (some ⟨w3.heap.size,0,none⟩) 1 1,.int .i64 0,.bool false,.string c.user] 84 (0,0)):=by rw [<-hwE];exact ZH (zJ _ rfl)
 have zE:wE.heap.size=wB.heap.size+1:=by rw [<-hwE,World.size_drew,World.size_alloc]
 clear hwE
 refine zU 10 _ rfl (by kernel_rfl) rfl (fun _ _ _ h=>h) hHeld (by intro W' h;go_simp;try with_reducible rfl) ?_
 simp only [zA]
 refine yA (i:=11) (by kernel_rfl) rfl (fun K hK=>?_)
 go_simp
 generalize hwF:World.alloc _ _=wF
 have BwF:=(show Below wB.heap.size wB wF from by rw [<-hwF];exact Below.alloc (BwE) (BwE).size _)
 clear hHeld
 refine hK.out _ _ (HSQ.out _ (ButB.of BwF)) (fun hHeld=>?_)
 clear hK K
 try simp only [zA]
 have NF:wF.heap[wB.heap.size+1]? =some (.cells #[.string c.folder,.int .i64 1,.slice (some ⟨wB.heap.size,0,none⟩) 1 1,.slice none 0 0,.slice none 0 0,.slice none 0 0,.slice none 0 0] 74 (0,0)):=by rw [<-hwF,<-zE];exact zJ _ rfl
 have NE2:wF.heap[wB.heap.size]? =some (.cells #[.string c.folder,.int .i64 1,.slice none 0 0,.string c.other,.slice (some ⟨w3.heap.size,0,none⟩) 1 1,.int .i64 0,.bool false,.string c.user] 84 (0,0)):=by rw [<-hwF,heap_alloc_old _ _ (by omega)];exact NE
 have HNE:=zh NE2
 have HNF:=zh NF
 have HROW:=zh (show RowC 74 7 wF (.slice D6 st.folders.length f6) (R .fo).cells from by rw [<-HV6.out];exact (HWB.out.below BwF).os.row .fo)
 have HLF:=zh (show (R .fo).cells.length<=10000 from HWB.out.os.len .fo)
 have HBF:=zh BwF
 clear hwF NE NE2 NF
 refine yA (i:=12) (by kernel_rfl) rfl (fun K hK=>?_)
 refine z0b wF wF [.string c.folder,.int .i64 1,.slice (some ⟨wB.heap.size,0,none⟩) 1 1,.slice none 0 0,.slice none 0 0,.slice none 0 0,.slice none 0 0] rfl (.tmp 69) (.tmp 75) 32 rfl iFolder _ 144 Tryz.underlying32 hiFolder hzFolder h1Folder h2Folder rfl (by decide) (by decide) (.slice D6 st.folders.length f6) (R .fo).cells rfl (wB.heap.size+1) _ rfl HROW.out zbr HLF.out rfl (by intro u hu;simp at hu;rcases hu with rfl | rfl | rfl | rfl | rfl | rfl | rfl<;>rfl) HNF.out ?_
 intro v8 w8 r8 p8 o8
 obtain ⟨A8,n8,cp8,rfl⟩:=r8.shape3
 have HR8:=zh r8
 have HP8:=zh p8
 have HO8:=zh o8
 clear r8 p8 o8
 clear hHeld
 refine hK.out _ _ (HSQ.out _ ((ButB.of HBF.out).trans HP8.out)) (fun hHeld=>?_)
 clear hK K
 try simp only [zA]
 have k8:=HP8.out.cellq ((HBF.out.cell (p:=⟨bw,11,none⟩) (zF t11)).trans t11) hb1
 have z8:∀q,w8.frozen? ⟨bw,q,none⟩=false:=(fun q=>by unfold World.frozen?;rw [HP8.out.block bw (zll HWB.out.lt HBF.out.size) hb1,HBF.out.block bw HWB.out.lt];exact HFZ.out q)
 refine Z2 (i:=13) (by kernel_rfl) rfl (fun K hK=>?_)
 go_simp
 refine hK.out _ _ ?_
 clear hK K
 try simp only [zA]
 refine Z2 (i:=14) (by kernel_rfl) rfl (fun K hK=>?_)
 go_simp
 refine hK.out _ _ ?_
 clear hK K
 try simp only [zA]
 refine Z2 (i:=15) (by kernel_rfl) rfl (fun K hK=>?_)
 go_simp
 refine hK.out _ _ ?_
 clear hK K
 try simp only [zA]
 refine Z2 (i:=16) (by kernel_rfl) rfl (fun K hK=>?_)
 go_simp
 refine hK.out _ _ ?_
 clear hK K
 try simp only [zA]
 refine YO (by kernel_rfl) ?_ _
 generalize hwu:World.setCell w8 _ _=wu
 have HFM:=zh (HWB.out.foMore (W1:=wF) (w1:=w8) (v8:= .slice A8 n8 cp8) (f:=YJ c) (ma:=⟨.slice (some ⟨wB.heap.size,0,none⟩) 1 1,[[.string c.folder,.int .i64 1,.slice none 0 0,.string c.other,.slice (some ⟨w3.heap.size,0,none⟩) 1 1,.int .i64 0,.bool false,.string c.user]]⟩) HBF.out (zGd HNE.out rfl (by intro u hu;simp at hu;rcases hu with rfl | rfl | rfl | rfl | rfl | rfl | rfl | rfl<;>rfl)) (fun b hb=>by simp [Value.ownBlock] at hb;omega) (by have:=HFL.out;omega) HR8.out (by rw [HV6.out];exact HP8.out) (by rw [HV6.out];exact HO8.out) HSZ.out.2.1 ⟨by show (_:Int)<=1;omega,by show (1:Int)<=_;omega⟩ ⟨rfl,rfl,rfl,rfl⟩
  (All2.snoc All2.nil (show ZO (Imm (fun b=>X b\/b=W.heap.size) bw R wB) wB [.string c.folder,.int .i64 1,.slice none 0 0,.string c.other,.slice (some ⟨w3.heap.size,0,none⟩) 1 1,.int .i64 0,.bool false,.string c.user] ⟨c.folder,1,[],c.other,[⟨c.user,4⟩],0,false,c.user⟩ from ⟨_,_,rfl,HSZ.out.2.1,(show I64 1 from ⟨by omega,by omega⟩),yF,HSZ.out.2.2.2,zQ1 (x:=(⟨c.user,4⟩:Member)) HM1.out HIM.out rfl ⟨rfl,HSZ.out.1,(show I64 4 from ⟨by omega,by omega⟩)⟩,(show I64 0 from ⟨by omega,by omega⟩),HSZ.out.1⟩)) (by simp [YJ]))
 obtain ⟨R8,hU,mU,eU⟩:=HFM.out
 rw [hwu] at hU mU
 have HU:=zh (show WK (fun b=>X b\/b=W.heap.size) base bw wu R8 c (.slice A7 c.data.length c7) (YS st (YJ c)) false late from hU)
 have HMU:=zh mU
 have HKBu:=zh ((Mut.block mU HIB.out).1.trans HKBB.out)
 have HIu:=zh (Mut.block mU HIB.out).2
 have HKWu:=zh ((Mut.own HWB.out mU (.inr rfl)).trans HKW3.out)
 clear hU mU eU hwu HFM k8 z8 p0 p1 p2 p3 p4 p5 p6 p7 k2 t11 hb1 hb2 hb3 hqA
 have k2:=(zD HKBu.out).1 2 _ rfl
 have HAT2:=zh (z9d HU.out c.folder)
 go_wp2_with fail
 refine zcm HAT2.out ?_
 rintro e5 w5 ⟨⟨hno2,rfl⟩ | ⟨k,g,o,hk,ha,rfl⟩,B5⟩
 ·exact absurd (hno2.symm.trans (zAv HNO.out rfl)) (by simp)
 obtain rfl:st.folders.length=k:=zsi ((zAv HNO.out rfl).symm.trans hk)
 have HA:=zh ha
 have H5:=zh (HU.out.below B5)
 have HKB5:=zh ((B5.block _ (zM HKBu.out)).trans HKBu.out)
 have HKW5:=zh ((B5.block _ (zM HKWu.out)).trans HKWu.out)
 have HI5:=zh (show Imm (fun b=>X b\/b=W.heap.size) bw R8 w5 w0.heap.size from ⟨zll HIu.out.1 B5.size,HIu.out.2⟩)
 have HMU5:=zh (HMU.out.trans (Mut.below B5))
 have HKL:=zh (z86 (st:=st) (f:=YJ c))
 obtain ⟨D2,f2,D3,f3,D4,f4,D5,f5,D7,f7,_,_,_,_,_,u3,_,_,_,hg,gz⟩:=H5.out.fold (ZK HKL.out) ha
 have HGZ:=zh gz
 have k1:=(zD HKB5.out).1 1 _ rfl
 replace k2:=(zD HKB5.out).1 2 _ rfl
 have t8:w5.cell? ⟨bw,8,none⟩=some (.int .i64 st.turn):=H5.out.cells.1 8 _ rfl
 have t9:=H5.out.cells.1 9 _ rfl
 have t10:=H5.out.cells.1 10 _ rfl
 have t11:=H5.out.cells.1 11 _ rfl
 clear hk ha B5 gz
 go_upto_region 15 with fail
 have HSQ:=zh (show ∀W':World,Below w5.heap.size w5 W'->(fun W':World=>Below w5.heap.size w5 W'/\W'.cell? ⟨bw,8,none⟩=some (.int .i64 st.turn)/\W'.cell? ⟨bw,9,none⟩=some ((R8 .us).v)/\W'.cell? ⟨bw,10,none⟩=some ((R8 .de).v)/\W'.cell? ⟨bw,11,none⟩=some ((R8 .fo).v)/\W'.cell? ⟨w0.heap.size,2,none⟩=some (.string c.folder)/\W'.cell? ⟨w0.heap.size,1,none⟩=some (.string c.user)) W' from fun W' hW=>⟨hW,(hW.cell (p:=⟨bw,8,none⟩) (zF t8)).trans t8,(hW.cell (p:=⟨bw,9,none⟩) (zF t9)).trans t9,(hW.cell (p:=⟨bw,10,none⟩) (zF t10)).trans t10,(hW.cell (p:=⟨bw,11,none⟩) (zF t11)).trans t11,(hW.cell (p:=⟨w0.heap.size,2,none⟩) (zF k2)).trans k2,(hW.cell (p:=⟨w0.heap.size,1,none⟩) (zF k1)).trans k1⟩)
 refine yH (S:=fun W':World=>Below w5.heap.size w5 W'/\W'.cell? ⟨bw,8,none⟩=some (.int .i64 st.turn)/\W'.cell? ⟨bw,9,none⟩=some ((R8 .us).v)/\W'.cell? ⟨bw,10,none⟩=some ((R8 .de).v)/\W'.cell? ⟨bw,11,none⟩=some ((R8 .fo).v)/\W'.cell? ⟨w0.heap.size,2,none⟩=some (.string c.folder)/\W'.cell? ⟨w0.heap.size,1,none⟩=some (.string c.user)) 12 [] (by kernel_rfl) (HSQ.out _ zbr.drew) (fun hHeld=>?_)
 refine ziU 0 ?_
 iterate 7 (refine ztU _ rfl (by kernel_rfl) rfl (fun _ _ _ h=>h) hHeld (by intro W' h;go_simp;try with_reducible rfl) ?_;simp only [zA])
 refine zoU ?_
 refine ziU 8 ?_
 iterate 2 (refine ztU _ rfl (by kernel_rfl) rfl (fun _ _ _ h=>h) hHeld (by intro W' h;go_simp;try with_reducible rfl) ?_;simp only [zA])
 refine zoU ?_
 refine yA (i:=7) (by kernel_rfl) rfl (fun K hK=>?_)
 go_simp
 go_at_call 67
 refine zcm (z1u (YS st (YJ c)) c.folder HSZ.out.2.1 _ _ (fun _=>True) (show ZX (fun _=>True) _ [.int .i64 st.turn,(R8 .us).v,(R8 .de).v,(R8 .fo).v] (YS st (YJ c)) from (H5.out.below (zbr.drew)).state)) ?_
 rintro e3 w6 ⟨⟨v4,rfl,⟨E9,e9,rfl,hs4⟩⟩,b3⟩
 have Bw6:Below w5.heap.size w5 w6:=zB (zbr.drew) b3
 have HSw6:=zh b3
 clear b3 hHeld
 refine hK.out _ _ (HSQ.out _ Bw6) (fun hHeld=>?_)
 clear hK K
 try simp only [zA]
 have HCH:=zh (show Sl 2 rAt (fun b=>w5.drew.heap.size<=b) w6 (.slice E9 (zN (YS st (YJ c)) 4 c.folder).length e9) (zN (YS st (YJ c)) 4 c.folder) from ⟨E9,e9,rfl,hs4⟩)
 have HBw6:=zh Bw6
 clear hs4
 refine zU 10 _ rfl (by kernel_rfl) rfl (fun _ _ _ h=>h) hHeld (by intro W' h;go_simp;try with_reducible rfl) ?_
 simp only [zA]
 refine yA (i:=11) (by kernel_rfl) rfl (fun K hK=>?_)
 go_simp
 generalize hw7:World.alloc _ _=w7
 have Bw7:=(show Below w5.heap.size w5 w7 from by rw [<-hw7];exact Below.alloc (Bw6) (Bw6).size _)
 clear hHeld
 refine hK.out _ _ (HSQ.out _ Bw7) (fun hHeld=>?_)
 clear hK K
 try simp only [zA]
 have HB67:=zh (show Below w6.heap.size w6 w7 from by rw [<-hw7];exact Below.alloc zbr (znl _) _)
 have HN7:=zh (zbx hw7)
 have q3:=(Bw7.cell (p:=⟨g,o+3,none⟩) hg).trans u3
 have qz:∀q,w7.frozen? ⟨g,q,none⟩=false:=fun q=>(Bw7.frozen (p:=⟨g,q,none⟩) hg).trans (HGZ.out q)
 clear hw7 Bw6 Bw7 t8 t9 t10 t11 k1 k2 u3
 refine Z2 (i:=12) (by kernel_rfl) rfl (fun K hK=>?_)
 go_simp
 refine hK.out _ _ ?_
 clear hK K
 try simp only [zA]
 refine Z2 (i:=13) (by kernel_rfl) rfl (fun K hK=>?_)
 go_simp
 refine hK.out _ _ ?_
 clear hK K
 try simp only [zA]
 refine Z2 (i:=14) (by kernel_rfl) rfl (fun K hK=>?_)
 go_simp
 refine hK.out _ _ ?_
 clear hK K
 try simp only [zA]
 refine YO (by kernel_rfl) ?_ _
 generalize hw9:World.setCell w7 _ _=w9
 have H6:=zh (H5.out.below HBw6.out)
 have HIE:=zh (show Sl 2 rAt (Imm (fun b=>X b\/b=W.heap.size) bw R8 w6) w6 (.slice E9 (zN (YS st (YJ c)) 4 c.folder).length e9) (zN (YS st (YJ c)) 4 c.folder) from HCH.out.keep Z8 (by decide) fun b hb hl=>⟨⟨hl,fun e=>by have:=H5.out.lt;simp at hb;omega,fun e=>by have:=H5.out.os.lt e;simp at hb;omega,fun e=>by have:=H5.out.xl _ e;simp at hb;omega⟩,rfl⟩)
 obtain ⟨R9,h9,m9,e9'⟩:=H6.out.epPut HKL.out HA.out (w1:=w7) (r:=⟨.slice (some ⟨w6.heap.size,0,none⟩) 1 1,[[.int .i64 1,.int .i64 1,.int .i64 1,.slice E9 (zN (YS st (YJ c)) 4 c.folder).length e9,.string c.user]]⟩) (l:=[⟨1,1,1,zN (YS st (YJ c)) 4 c.folder,c.user⟩]) (by simp) (zGd HN7.out rfl (by intro u hu;simp at hu;rcases hu with rfl | rfl | rfl | rfl | rfl<;>rfl)) HB67.out (fun b hb=>by simp [Value.ownBlock] at hb;omega) rfl (All2.snoc All2.nil (show Y6 _ _ [.int .i64 1,.int .i64 1,.int .i64 1,.slice E9 (zN (YS st (YJ c)) 4 c.folder).length e9,.string c.user] ⟨1,1,1,zN (YS st (YJ c)) 4 c.folder,c.user⟩ from ⟨_,rfl,(show I64 1 from ⟨by omega,by omega⟩),(show I64 1 from ⟨by omega,by omega⟩),(show I64 1 from ⟨by omega,by omega⟩),HIE.out,HSZ.out.1⟩))
 rw [z2e,z6o,show ({ YJ c with epochs:=[⟨1,1,1,zN (YS st (YJ c)) 4 c.folder,c.user⟩] }:Folder)=z9j c (zN (YS st (YJ c)) 4 c.folder) from rfl] at h9
 rw [hw9] at h9 m9
 obtain ⟨ch,hch9⟩:∃ch,zN (YS st (YJ c)) 4 c.folder=ch:=⟨_,rfl⟩
 have HCE:=zh hch9
 rw [hch9] at h9
 have H9:=zh h9
 have m59:Mut bw R8 w5 R9 w9:=(Mut.below HBw6.out).trans m9
 have HM9:=zh (HMU5.out.trans m59)
 have HA9:=zh (HA.out.keep e9')
 have HI9:=zh (Mut.block m59 HI5.out).2
 have HKB9:=zh ((Mut.block m59 HI5.out).1.trans HKB5.out)
 have HKW9:=zh ((Mut.own H5.out m59 (.inr rfl)).trans HKW5.out)
 clear h9 m9 e9' m59 hw9 q3 qz hch9 hg
 have k1:=(zD HKB9.out).1 1 _ rfl
 have HG:=zh (z6m H9.out (z86 (st:=st)) HA9.out (by rw [z2e];exact List.Pairwise.nil) (by rw [z2e];simp [z9j,YJ]) (by rw [z2e];simp [z9j,YJ]) c.user HSZ.out.1 true)
 go_wp2_with fail
 refine zcm HG.out ?_
 rintro e10 w10 ⟨rfl,R10,h10,m10,e10'⟩
 rw [z2e,z6o] at h10
 obtain ⟨f1,hf1⟩:∃f1,yZ (z9j c ch) c.user true=f1:=⟨_,rfl⟩
 have HF1:=zh hf1
 rw [hf1] at h10
 have HP1:=zh (show f1.name=c.folder/\f1.wraps=[⟨c.user,1,true⟩]/\f1.links=[]/\f1.epochs.length=1/\f1.manifests≠[]/\(zL f1).members.length=1 from by rw [<-hf1];exact ⟨rfl,rfl,rfl,rfl,by simp [yZ,z9j,YJ],rfl⟩)
 have H10:=zh h10
 have HM10:=zh (HM9.out.trans m10)
 have HA10:=zh (HA9.out.keep e10')
 have HKW10:=zh ((Mut.own H9.out m10 (.inr rfl)).trans HKW9.out)
 clear h10 m10 e10' hf1 k1
 have HCV:=zh (z84 H10.out (z86 (st:=st)) HA10.out (by rw [z2e,HP1.out.1,z2t (zAv HNO.out HP1.out.1),z2e]) (zNv (HVI.out.smF (by omega)) ⟨by rw [HP1.out.1];have:=HC.out.f20;omega,by rw [HP1.out.2.2.2.2.2];omega,HP1.out.2.2.2.2.1,by rw [HP1.out.2.2.2.1];omega⟩) (by rw [z2e,HP1.out.2.1];exact List.pairwise_singleton _ _) (by rw [z2e,HP1.out.2.1];simp) (by rw [z2e,HP1.out.2.2.1];simp))
 go_wp2_with fail
 refine zcm HCV.out ?_
 rintro e11 w11 ⟨rfl,R11,h11,m11,_⟩
 have H11:=zh h11
 have HM11:=zh (HM10.out.trans m11)
 have HKW11:=zh ((Mut.own H10.out m11 (.inr rfl)).trans HKW10.out)
 have x8:w11.cell? ⟨bw,8,none⟩=some (.int .i64 st.turn):=h11.cells.1 8 _ rfl
 have xz:∀q,w11.frozen? ⟨bw,q,none⟩=false:=h11.cells.2
 have hwt:IntKind.i64.wrap (st.turn+1)=st.turn+1:=by rw [IntKind.wrap_i64];have:=HTN.out;omega
 obtain ⟨h12,m12⟩:=h11.setTurn (st.turn+1) ⟨by have:=HTN.out;omega,by have:=HTN.out;omega⟩
 have HM12:=zh (HM11.out.trans m12)
 have HKW12:=zh ((Mut.own H11.out m12 (.inr rfl)).trans HKW11.out)
 have HNU:=zh (z23 h12 1)
 have HV12:=zh h12
 clear h11 m11 h12 m12
 go_wp2_with fail
 refine zcm HNU.out ?_
 rintro e13 w13 ⟨rfl,h13,m13⟩
 have H13:=zh h13
 have HM13:=zh (HM12.out.trans m13)
 have HKW13:=zh ((Mut.own HV12.out m13 (.inr rfl)).trans HKW12.out)
 have K13:=HKW13.out
 unfold zQ at K13
 obtain ⟨y0,y1,y2,y3,y4,y5,y6⟩:=zC7 (zD K13).1
 have yz:=(zD K13).2
 clear K13 h13 m13 x8 xz
 unfold ZW
 go_wp2
 try simp only [Exit.inBlock,Exit.then]
 obtain ⟨F1,F2⟩:=Z4 HKW13.out (.int .i64 0) (.int .i64 1) (.string ⟨#[]⟩) (.slice none 0 0) (.slice none 0 0) (.slice none 0 0) (.slice none 0 0)
 refine bodyPost_ret (zq rfl rfl F1 rfl) rfl ?_
 rw [show YL st c=({ z05 (YS st f1) st.folders.length with turn:=st.turn+1 },YF 1,true) from by
  rw [zM0 HNO.out HM.out HCH'.out (by have:=HFL.out;omega),zNu,HCE.out,HF1.out]]
 exact Z6 H13.out ((Mut.below HBB0.out).trans HM13.out) (znl _) F2 (z1o ⟨by omega,by omega⟩)
end
end
end Go.Proofs.YtdggplhnfhcieaaGreatDoor
