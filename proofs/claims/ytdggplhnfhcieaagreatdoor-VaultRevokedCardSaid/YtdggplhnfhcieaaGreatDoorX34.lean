/- No condition. -/
import Derived.Test.YtdggplhnfhcieaaGreatDoorX32
set_option linter.all false
set_option maxRecDepth 100000
namespace Go.Proofs.YtdggplhnfhcieaaGreatDoor
open Go.RowKit Go.Deep
section
section
variable {X:Nat->Prop} {base bw:Nat} {W W':World} {R R':RM} {c:Call} {dv:Value} {st:State} {done late:Bool}
set_option maxHeartbeats 16000000 in
theorem zOz (h:WK X base bw W R c dv st false late) {n k:Nat} (hI:VInv n st) (hn:n<=40) (hk:Z3 st c.folder=some k) (hc:CallOk c):
  Calls Tryz.prog 89 #[.pointer (some ⟨bw,0,none⟩)] W (Did X base bw W R c dv late (z2o st c k)):=by
 have HK:=zh hk;have HKL:=zh (z2i (YI hk));have HFI:=zh (hI.atF HKL.out);have HA2:=zh (z8j hI (by omega) HKL.out);have HVI:=zh hI;have HFS:=zh (Y9 (YI hk));have HC:=zh hc;have HHO:=zh (zB4 hI.names hI.tree 5 c.folder (by omega));have HTN:=zh (show 0<=st.turn/\st.turn<=1000000 from ⟨hI.turn.1,by have:=hI.turn.2;omega⟩);obtain ⟨w0,hw0⟩:∃w0,W.alloc (.cells zV 49)=w0:=⟨_,rfl⟩;have hN:=yA W;rw [hw0] at hN;obtain ⟨hE,B0,T0,z0⟩:=hN;have H0:=hE R h;have HW:=zh H0;have HT0:=zh T0;have HB0:=zh B0;have hlt:=H0.lt;clear hE B0 T0;obtain ⟨A7,c7,e7,hkind,hus,hfol,hnam,hoth,hrol,hver,d1,d2,d3,d4⟩:=YQ H0.call;obtain rfl:dv= .slice A7 c.data.length c7:=by simpa [z3v] using e7
 have s0:=H0.cells.1 0 _ rfl;have s1:=H0.cells.1 1 _ rfl;have s2:=H0.cells.1 2 _ rfl;have s3:=H0.cells.1 3 _ rfl;have s4:=H0.cells.1 4 _ rfl;have s5:=H0.cells.1 5 _ rfl;have s6:=H0.cells.1 6 _ rfl;have s7:=H0.cells.1 7 _ rfl;obtain ⟨wA,hwA,cA,fA,BA,qA⟩:=zQ w0 #[.int .i64 c.kind,.string c.user,.string c.folder,.string c.name,.string c.other,.int .i64 c.role,.int .i64 c.version,.slice A7 c.data.length c7] 41;have HCB:=zh (zbx hwA);have HSZ:=zh (show c.user.size<=140737488355328/\c.folder.size<=140737488355328/\c.name.size<=140737488355328/\c.other.size<=140737488355328 from ⟨hus,hfol,hnam,hoth⟩);have HBA:=zh BA;have HWA:=zh (H0.below BA);clear e7 hkind hus hfol hnam hoth hrol hver d1 d3 d4 cA fA BA;obtain ⟨g,off,_,_,hv⟩:=HWA.out.foV HKL.out;have HV:=zh hv;have HA:=zh (zL6 hv k);have HT1:=zh (show ∀W':World,Below wA.heap.size wA W'->Calls Tryz.prog 86 #[.pointer (some ⟨bw,0,none⟩),.string c.folder] W' fun e w'=>e= .returned (.pointer (some ⟨g,off+k*7,none⟩))/\Below W'.heap.size W' w' from fun W' hb=>by
  have q:=zL5 (HWA.out.below hb) hv c.folder;rw [HK.out] at q;exact q)
 generalize hto:Z3 st c.other=io;have HTO:=zh hto;have HT2:=zh (show ∀W':World,Below wA.heap.size wA W'->Calls Tryz.prog 86 #[.pointer (some ⟨bw,0,none⟩),.string c.other] W' fun e w'=>e= .returned (thP g off io)/\Below W'.heap.size W' w' from fun W' hb=>by
  have q:=zL5 (HWA.out.below hb) hv c.other;rw [hto] at q;exact q)
 clear h hk H0 hI hc hv hto;unfold zV at hw0;have k2:=(zD HCB.out).1 2 _ rfl;have k4:=(zD HCB.out).1 4 _ rfl;go_enter Tryz.func89,Tryz.ntmps89
 go_upto_region 2 with fail
 go_cut [4,5] from 12 to 19 (fun s4 s5 wx=>s4= .pointer (some ⟨g,off+k*7,none⟩)/\s5=thP g off io/\Hid (Below wA.heap.size wA wx))
 case first=>
  have HSQ:=zh (show ∀W':World,Below wA.heap.size wA W'->(fun W':World=>Below wA.heap.size wA W'/\W'.cell? ⟨w0.heap.size,2,none⟩=some (.string c.folder)/\W'.cell? ⟨w0.heap.size,4,none⟩=some (.string c.other)) W' from fun W' hW=>⟨hW,(hW.cell (p:=⟨w0.heap.size,2,none⟩) (zF k2)).trans k2,(hW.cell (p:=⟨w0.heap.size,4,none⟩) (zF k4)).trans k4⟩);refine zE (by kernel_rfl) HSQ.out (fun hHeld=>?_);refine zi 0 ?_;iterate 3 (refine zt hHeld ?_;simp only [zA])
  refine zo ?_;refine zi 4 ?_;iterate 3 (refine zt hHeld ?_;simp only [zA])
  refine zo ?_;refine zr 3 fun K hK=>?_
  go_simp;go_at_call 86
  refine zcm (HT1.out _ (zbr.drew)) ?_;rintro e3 w3 ⟨rfl,b3⟩;have Bw3:Below wA.heap.size wA w3:=zB (zbr.drew) b3;clear b3 hHeld;refine hK.out _ _ (HSQ.out _ Bw3) (fun hHeld=>?_);clear hK K;refine zr 7 fun K hK=>?_
  go_simp;go_at_call 86
  refine zcm (HT2.out _ (Bw3)) ?_;rintro e3 w4 ⟨rfl,b3⟩;have Bw4:Below wA.heap.size wA w4:=zB (Bw3) b3;clear b3 hHeld;refine hK.out _ _ (HSQ.out _ Bw4) (fun hHeld=>?_);clear hK K;refine zi 8 ?_;iterate 2 (refine zt hHeld ?_;simp only [zA])
  refine zo ?_;have HB4:=zh Bw4;refine wpAnyH_done (by kernel_rfl) ?_ _;clear hHeld HSQ;clear Bw3 Bw4;go_wp2;go_meet
  case rel=>exact ⟨rfl,rfl,HB4⟩
 obtain ⟨rfl,rfl,HBA1⟩:=hcut;have HB1:=zh (zB HBA.out HBA1.out);have H1:=zh (HW.out.below HB1.out);have HKB1:=zh ((HBA1.out.block _ qA).trans HCB.out);have t8:=H1.out.cells.1 8 _ rfl;have t9:=H1.out.cells.1 9 _ rfl;have t10:=H1.out.cells.1 10 _ rfl;have t11:=H1.out.cells.1 11 _ rfl;replace k4:=(zD HKB1.out).1 4 _ rfl;clear k2;go_upto_region 3 with fail
 have HSQ:=zh (show ∀W':World,Below wc.heap.size wc W'->(fun W':World=>Below wc.heap.size wc W'/\W'.cell? ⟨bw,8,none⟩=some (.int .i64 st.turn)/\W'.cell? ⟨bw,9,none⟩=some ((R .us).v)/\W'.cell? ⟨bw,10,none⟩=some ((R .de).v)/\W'.cell? ⟨bw,11,none⟩=some ((R .fo).v)/\W'.cell? ⟨w0.heap.size,4,none⟩=some (.string c.other)) W' from fun W' hW=>⟨hW,(hW.cell (p:=⟨bw,8,none⟩) (zF t8)).trans t8,(hW.cell (p:=⟨bw,9,none⟩) (zF t9)).trans t9,(hW.cell (p:=⟨bw,10,none⟩) (zF t10)).trans t10,(hW.cell (p:=⟨bw,11,none⟩) (zF t11)).trans t11,(hW.cell (p:=⟨w0.heap.size,4,none⟩) (zF k4)).trans k4⟩);refine zE (by kernel_rfl) HSQ.out (fun hHeld=>?_);refine zi 0 ?_;iterate 6 (refine zt hHeld ?_;simp only [zA])
 refine zo ?_;refine zr 6 fun K hK=>?_
 go_simp;go_at_call 67
 refine zcm (z2x st c.other HSZ.out.2.2.2 _ _ (fun _=>True) (H1.out.below (zbr.drew)).state) ?_;rintro e3 w2 ⟨⟨v4,rfl,⟨A9,c9,rfl,hs4⟩⟩,b3⟩;have Bw2:Below wc.heap.size wc w2:=zB (zbr.drew) b3;clear b3 hHeld;refine hK.out _ _ (HSQ.out _ Bw2) (fun hHeld=>?_);clear hK K;refine zT 7 hHeld ?_;simp only [zA];have HCH:=zh (show Sl 2 rAt (fun b=>wc.drew.heap.size<=b) w2 (.slice A9 (zN st 4 c.other).length c9) (zN st 4 c.other) from ⟨A9,c9,rfl,hs4⟩);clear hs4;refine wpAnyH_done (by kernel_rfl) ?_ _;clear hHeld HSQ;have HB2:=zh (zB HB1.out Bw2);have HBA2:=zh (zB HBA1.out Bw2);have H2:=zh (HW.out.below HB2.out);clear Bw2 t8 t9 t10 t11 k4;have HKQ:=zh (show ∀q,io=some q->q < st.folders.length from fun q e=>z2i (YI (HTO.out.trans e)));generalize hdb:z86 st k c.user c.other=db;have HDB:=zh hdb;clear hdb;go_upto_region 4 with fail
 go_cut [27] from 28 to 41 (fun s27 wx=>s27= .bool db/\Hid (Below w2.heap.size w2 wx))
 case first=>
  go_wp2_with fail
  refine zcm (z5k H2.out HKL.out HA.out) ?_;rintro e3 w3 ⟨rfl,B3⟩;have HB3:=zh B3;clear B3;by_cases hr:yW st k c.user < 4
  ·have hgd:decide (yW st k c.user < 4)=true:=decide_eq_true hr;have HX:=zh (show db=true from by rw [<-HDB.out];unfold z86;rw [hgd];rfl);clear hr
   cases io with
   | none=>
    simp only [thP];go_wp2;go_meet
    case rel=>exact ⟨by rw [HX.out],HB3⟩
   | some q=>
    simp only [thP];go_wp2;go_meet
    case rel=>exact ⟨by rw [HX.out],HB3⟩
  have hgd:decide (yW st k c.user < 4)=false:=decide_eq_false hr;clear hr
  cases io with
  | none=>
   have HX:=zh (show db=false from by rw [<-HDB.out];unfold z86;rw [hgd,HTO.out];rfl);simp only [thP];go_wp2;go_meet
   case rel=>exact ⟨by rw [HX.out],HB3⟩
  | some q=>
   have HX:=zh (show db=decide (yW st q c.user < 2) from by rw [<-HDB.out];unfold z86;rw [hgd,HTO.out];rfl);simp only [thP];go_wp2_with fail
   refine zcm (z5k (H2.out.below HB3.out) (HKQ.out q rfl) (zL6 HV.out q)) ?_;rintro _ w4 ⟨rfl,B4⟩;have HB4:=zh (zB HB3.out B4);clear B4;go_wp2;go_meet
   case rel=>exact ⟨by rw [HX.out],HB4⟩
 obtain ⟨rfl,HB23⟩:=hcut;have HB3:=zh (zB HB2.out HB23.out);have HBA3:=zh (zB HBA2.out HB23.out);have H3:=zh (HW.out.below HB3.out);have HKB3:=zh ((HBA3.out.block _ qA).trans HCB.out);have HCH3:=zh (HCH.out.keep Z1 (by decide) (S':=fun _=>True) fun b hb hl=>⟨trivial,HB23.out.block b hl⟩)
 cases db with
 | true=>
  go_wp2_with fail
  refine zcm (ZK 40 wc) ?_;rintro eq wq ⟨rfl,Bq⟩;obtain ⟨BW,H2,K2,y0,y1,y2,y3,y4,y5,y6,yz⟩:=zW HB3.out Bq HW.out z0 HT0.out;clear Bq;unfold yD;go_wp2;try simp only [Exit.inBlock,Exit.then]
  obtain ⟨F1,F2⟩:=Z6 K2.out (.int .i64 40) (.int .i64 0) (.string ⟨#[]⟩) (.slice none 0 0) (.slice none 0 0) (.slice none 0 0) (.slice none 0 0);refine bodyPost_ret (zq rfl rfl F1 rfl) rfl ?_;rw [show (z2o st c k)=(st,ZF 40,false) from by exact zMp HVI.out HDB.out]
  exact Z7 H2.out (Mut.below (zB HB0.out BW.out)) (znl _) F2 (y8 ⟨by omega,by omega⟩)
 | false=>
  have HMR:=zh (zR4 HVI.out HDB.out);obtain ⟨D2,f2,D3,f3,D4,f4,D5,f5,D6,f6,eh,hF,u0,u1,u2,u3,u4,u5,u6,hg,gz⟩:=H3.out.fold (ZO HKL.out) HA.out;obtain ⟨_,_,_,_,hNC,hNow⟩:=z6a H3.out HKL.out HA.out HFI.out.man;rw [eh] at hNow;have HNC:=zh hNC;have HNW:=zh hNow;have qp:=zH9;replace k4:=(zD HKB3.out).1 4 _ rfl;clear eh hF gz hNC hNow;go_upto_region 6 with fail
  have HSQ:=zh (show ∀W':World,Below wc.heap.size wc W'->(fun W':World=>Below wc.heap.size wc W'/\W'.cell? ⟨g,off+k*7,none⟩=some (.string (fo st k).name)/\W'.cell? ⟨g,off+k*7+1,none⟩=some (.int .i64 (fo st k).turn)/\W'.cell? ⟨g,off+k*7+2,none⟩=some (.slice D2 (fo st k).manifests.length f2)/\W'.cell? ⟨g,off+k*7+3,none⟩=some (.slice D3 (fo st k).epochs.length f3)/\W'.cell? ⟨g,off+k*7+4,none⟩=some (.slice D4 (fo st k).items.length f4)/\W'.cell? ⟨g,off+k*7+5,none⟩=some (.slice D5 (fo st k).wraps.length f5)/\W'.cell? ⟨g,off+k*7+6,none⟩=some (.slice D6 (fo st k).links.length f6)/\W'.cell? ⟨w0.heap.size,4,none⟩=some (.string c.other)) W' from fun W' hW=>⟨hW,(hW.cell (p:=⟨g,off+k*7,none⟩) (zF u0)).trans u0,(hW.cell (p:=⟨g,off+k*7+1,none⟩) (zF u1)).trans u1,(hW.cell (p:=⟨g,off+k*7+2,none⟩) (zF u2)).trans u2,(hW.cell (p:=⟨g,off+k*7+3,none⟩) (zF u3)).trans u3,(hW.cell (p:=⟨g,off+k*7+4,none⟩) (zF u4)).trans u4,(hW.cell (p:=⟨g,off+k*7+5,none⟩) (zF u5)).trans u5,(hW.cell (p:=⟨g,off+k*7+6,none⟩) (zF u6)).trans u6,(hW.cell (p:=⟨w0.heap.size,4,none⟩) (zF k4)).trans k4⟩);refine zE (by kernel_rfl) HSQ.out (fun hHeld=>?_);refine zi 0 ?_;iterate 3 (refine zt hHeld ?_;simp only [zA])
  refine zo ?_;refine zi 5 ?_;iterate 2 (refine zt hHeld ?_;simp only [zA])
  refine zo ?_;refine zr 3 fun K hK=>?_
  go_simp;go_at_call 120
  refine zcm (HNW.out _ (zbr.drew)) ?_;rintro e3 w5 ⟨rfl,b3⟩;have Bw5:Below wc.heap.size wc w5:=zB (zbr.drew) b3;clear b3 hHeld;refine hK.out _ _ (HSQ.out _ Bw5) (fun hHeld=>?_);clear hK K;refine zT 4 hHeld ?_;simp only [zA];refine zi 7 ?_;iterate 2 (refine zt hHeld ?_;simp only [zA])
  refine zo ?_;refine wpAnyH_done (by kernel_rfl) ?_ _;clear hHeld HSQ;have HB35:=zh Bw5;have HB5:=zh (zB HB3.out Bw5);have HBA5:=zh (zB HBA3.out Bw5);have HKB5:=zh ((HBA5.out.block _ qA).trans HCB.out);have HCH5:=zh (HCH3.out.keep Z1 (by decide) (S':=fun _=>True) fun b hb hl=>⟨trivial,HB35.out.block b hl⟩);have HQQ:=zh (yV (a:=(zH (fo st k)).parent) (b:=c.other))
  cases hpq:((zH (fo st k)).parent.toList==c.other.toList) with
  | true=>
   have HPA:=zh (show (zH (fo st k)).parent=c.other from of_decide_eq_true (HQQ.out.symm.trans hpq));have v0:=(Bw5.cell (p:=⟨g,off+k*7,none⟩) hg).trans u0;have v1:=(Bw5.cell (p:=⟨g,off+k*7+1,none⟩) hg).trans u1;have v2:=(Bw5.cell (p:=⟨g,off+k*7+2,none⟩) hg).trans u2;have v3:=(Bw5.cell (p:=⟨g,off+k*7+3,none⟩) hg).trans u3;have v4:=(Bw5.cell (p:=⟨g,off+k*7+4,none⟩) hg).trans u4;have v5:=(Bw5.cell (p:=⟨g,off+k*7+5,none⟩) hg).trans u5;have v6:=(Bw5.cell (p:=⟨g,off+k*7+6,none⟩) hg).trans u6;have qs:=zEf;clear u0 u1 u2 u3 u4 u5 u6 Bw5 k4 hpq;go_wp2_with fail
   refine zcm (HNW.out _ HB35.out) ?_;rintro e6 w6 ⟨rfl,B6⟩;have HB6:=zh (zB HB5.out B6);have H6:=zh (HW.out.below HB6.out);have HK6:=zh ((HB6.out.block _ z0).trans HT0.out);have K6:=HK6.out;unfold zV at K6;obtain ⟨y0,y1,y2,y3,y4,y5,y6⟩:=zC7 (zD K6).1;have yz:=(zD K6).2;clear K6 B6 v0 v1 v2 v3 v4 v5 v6;go_wp2;try simp only [Exit.inBlock,Exit.then]
   obtain ⟨F1,F2⟩:=Z6 HK6.out (.int .i64 0) (.int .i64 (zH (fo st k)).seq) (.string ⟨#[]⟩) (.slice none 0 0) (.slice none 0 0) (.slice none 0 0) (.slice none 0 0);refine bodyPost_ret (zq rfl rfl F1 rfl) rfl ?_;rw [show z2o st c k=(st,YO (zH (fo st k)).seq,false) from by
    rw [HMR.out,if_pos HPA.out]]
   exact Z7 H6.out (Mut.below (zB HB0.out HB6.out)) (znl _) F2 (z2t HNC.out.2.2.2.2.1)
  | false=>
   have HPA:=zh (show ¬(zH (fo st k)).parent=c.other from of_decide_eq_false (HQQ.out.symm.trans hpq));replace k2:=(zD HKB5.out).1 2 _ rfl;clear u0 u1 u2 u3 u4 u5 u6 Bw5 k4 hpq;have HCF:=zh (zSy c.folder w0.heap.size _ _ _ _ HCH5.out k2);go_wp2_with fail
   refine zcm HCF.out ?_;rintro e6 w6 ⟨rfl,B6⟩;have HB6:=zh (zB HB5.out B6);have HBA6:=zh (zB HBA5.out B6);have H6:=zh (HW.out.below HB6.out);have HKB6:=zh ((HBA6.out.block _ qA).trans HCB.out);replace k2:=(zD HKB6.out).1 2 _ rfl;clear B6
   cases hcy:(zN st 4 c.other).any (isA c.folder) with
   | true=>
    go_wp2_with fail
    refine zcm (ZK 43 w6) ?_;rintro eq wq ⟨rfl,Bq⟩;obtain ⟨BW,H2,K2,y0,y1,y2,y3,y4,y5,y6,yz⟩:=zW HB6.out Bq HW.out z0 HT0.out;clear Bq;unfold yD;go_wp2;try simp only [Exit.inBlock,Exit.then]
    obtain ⟨F1,F2⟩:=Z6 K2.out (.int .i64 43) (.int .i64 0) (.string ⟨#[]⟩) (.slice none 0 0) (.slice none 0 0) (.slice none 0 0) (.slice none 0 0);refine bodyPost_ret (zq rfl rfl F1 rfl) rfl ?_;rw [show (z2o st c k)=(st,ZF 43,false) from by rw [HMR.out,if_neg HPA.out,if_pos hcy]]
    exact Z7 H2.out (Mut.below (zB HB0.out BW.out)) (znl _) F2 (y8 ⟨by omega,by omega⟩)
   | false=>
    have HCY:=zh (show ¬(zN st 4 c.other).any (isA c.folder)=true from by rw [hcy];simp);clear hcy;go_wp2_with fail
    refine zcm (zGo 5 (by omega) c.folder w6 H6.out HHO.out) ?_;rintro e7 w7 ⟨rfl,B7⟩;have HB7:=zh (zB HB6.out B7);have HBA7:=zh (zB HBA6.out B7);have H7:=zh (HW.out.below HB7.out);have HKB7:=zh ((HBA7.out.block _ qA).trans HCB.out);have hch4:(zN st 4 c.other).length<=4:=z1k st 4 c.other;have hhi:=zIr st 5 c.folder;have hwr:IntKind.i64.wrap (((zN st 4 c.other).length:Int)+(YN st 5 c.folder:Int))=((zN st 4 c.other).length:Int)+(YN st 5 c.folder:Int):=by rw [IntKind.wrap_i64];omega
    clear B7 k2;by_cases hd:4 < (zN st 4 c.other).length+YN st 5 c.folder
    ·have hdg:decide (4 < ((zN st 4 c.other).length:Int)+(YN st 5 c.folder:Int))=true:=decide_eq_true (by omega);have HDD:=zh hd;clear hd;go_wp2_with fail
     refine zcm (ZK 3 w7) ?_;rintro eq wq ⟨rfl,Bq⟩;obtain ⟨BW,H2,K2,y0,y1,y2,y3,y4,y5,y6,yz⟩:=zW HB7.out Bq HW.out z0 HT0.out;clear Bq;unfold yD;go_wp2;try simp only [Exit.inBlock,Exit.then]
     obtain ⟨F1,F2⟩:=Z6 K2.out (.int .i64 3) (.int .i64 0) (.string ⟨#[]⟩) (.slice none 0 0) (.slice none 0 0) (.slice none 0 0) (.slice none 0 0);refine bodyPost_ret (zq rfl rfl F1 rfl) rfl ?_;rw [show (z2o st c k)=(st,ZF 3,false) from by rw [HMR.out,if_neg HPA.out,if_neg HCY.out,if_pos HDD.out]];exact Z7 H2.out (Mut.below (zB HB0.out BW.out)) (znl _) F2 (y8 ⟨by omega,by omega⟩)
    have hdg:decide (4 < ((zN st 4 c.other).length:Int)+(YN st 5 c.folder:Int))=false:=decide_eq_false (by omega);have HDD:=zh (show (zN st 4 c.other).length+YN st 5 c.folder<=4 by omega);clear hd hch4 hhi;have hC7:w7.cell? ⟨w0.heap.size,4,none⟩=some (.string c.other):=(zD HKB7.out).1 4 _ rfl;have HK7:=zh ((HB7.out.block _ z0).trans HT0.out);obtain ⟨a1,a2,a3,a4,a5,a6,a7,a8,a9,a10⟩:=HA2.out;have HQ:=zh (zK1 H7.out HKL.out HA.out (m:=zH (fo st k)) rfl a1 (by omega) a4 a5 a6 w0.heap.size c.other hC7 (by have:=HC.out.o20;omega));obtain ⟨f1,hf1⟩:∃f1,({ fo st k with manifests:=(fo st k).manifests++[{ zH (fo st k) with seq:=(zH (fo st k)).seq+1,who:=c.user,parent:=c.other,cut:=(zH (fo st k)).seq+1 }],turn:=(fo st k).turn+1 }:Folder)=f1:=⟨_,rfl⟩;have HW1:=zh (show f1=y9 (fo st k) { zH (fo st k) with parent:=c.other,cut:=(zH (fo st k)).seq+1 } c.user from hf1.symm);have HP1:=zh (show f1.name=c.folder/\f1.wraps=(fo st k).wraps/\f1.links=(fo st k).links/\f1.epochs=(fo st k).epochs/\f1.manifests≠[]/\(zH f1).members=(zH (fo st k)).members from by
     rw [<-hf1];refine ⟨HFS.out.2.1,rfl,rfl,rfl,by simp,?_⟩;unfold zH;simp)
    rw [hf1] at HQ;have HI64:=zh (show I64 ((zH (fo st k)).seq+1) from ⟨by omega,by omega⟩);have HLN:=zh (show (fo st k).wraps.length<=16/\(fo st k).links.length<=5000/\(fo st k).epochs.length<=5000/\(zH (fo st k)).members.length<=20 from ⟨a10,a9,a7,a2⟩);clear hC7 a1 a2 a3 a4 a5 a6 a7 a8 a9 a10 hf1;go_wp2_with fail
    refine zcm HQ.out ?_;rintro _ w9 ⟨rfl,hWr⟩;obtain ⟨R9,h9,m9,e9'⟩:=hWr;have HA9:=zh (HA.out.keep e9');have HM9:=zh m9;have H9:=zh h9;have HKL9:=zh (show k < (setF st k f1).folders.length from by rw [Y4];exact HKL.out);have HF9:=zh (Y3 (f:=f1) HKL.out);have HFN:=zh (show zP (setF st k f1) f1.name=some f1 from by rw [YT HVI.out.names HKL.out (HP1.out.1.trans HFS.out.2.1.symm),if_pos rfl]);have HSM:=zh (zT9 (HVI.out.smF (by omega)) (k:=k) (f:=f1) ⟨by rw [HP1.out.1];have:=HC.out.f20;omega,by rw [HP1.out.2.2.2.2.2];have:=HLN.out;omega,HP1.out.2.2.2.2.1,by rw [HP1.out.2.2.2.1];have:=HLN.out;omega⟩);clear h9 m9 e9';unfold yD;go_wp2_with fail
    generalize hwB:World.alloc w9 _=wB;have BwB:Below w9.heap.size w9 wB:=by rw [<-hwB];exact Below.alloc zbr (znl _) _
    have qwB:w9.heap.size < wB.heap.size:=by rw [<-hwB,World.size_alloc];omega
    have HTB:=zh (zbx hwB);have HHB:=zh (H9.out.below BwB);have HBB:=zh BwB;have HIB:=zh (show Imm (fun b=>X b\/b=W.heap.size) bw R9 wB w9.heap.size from ⟨qwB,fun e=>by have:=H9.out.lt;omega,fun e=>by have:=H9.out.os.lt e;omega,fun e=>by have:=H9.out.xl _ e;omega⟩);have HKB:=zh ((BwB.block _ (by have:=H9.out.xl _ (.inr rfl);exact this)).trans ((Mut.own H7.out HM9.out (.inr rfl)).trans HK7.out));clear hwB BwB;refine zcm (z9i HHB.out HKL9.out HA9.out (by rw [HF9.out];exact HFN.out) HSM.out (by rw [HF9.out,HP1.out.2.1];exact HFI.out.wr) (by rw [HF9.out,HP1.out.2.1];have:=HLN.out;omega) (by rw [HF9.out,HP1.out.2.2.1];have:=HLN.out;omega)) ?_;rintro _ w10 ⟨rfl,hWr⟩;obtain ⟨_,h10,m10,_⟩:=hWr;have HM10:=zh m10;have H10:=zh h10;have HTB10:=zh ((Mut.block m10 HIB.out).1.trans HTB.out);have HI10:=zh (Mut.block m10 HIB.out).2;have HK10:=zh ((Mut.own HHB.out m10 (.inr rfl)).trans HKB.out);have x8:w10.cell? ⟨bw,8,none⟩=some (.int .i64 st.turn):=h10.cells.1 8 _ rfl;have xz:∀q,w10.frozen? ⟨bw,q,none⟩=false:=h10.cells.2;have hwt:IntKind.i64.wrap (st.turn+1)=st.turn+1:=by rw [IntKind.wrap_i64];have:=HTN.out;omega
    obtain ⟨h11,m11⟩:=h10.setTurn (st.turn+1) ⟨by have:=HTN.out;omega,by have:=HTN.out;omega⟩;have H11:=zh h11;have HM11:=zh m11;have HK11:=zh ((Mut.own H10.out m11 (.inr rfl)).trans HK10.out);have hnb:¬(bw=w9.heap.size):=fun e=>HI10.out.2.1 e.symm
    have hnb2:¬(bw=W.heap.size):=fun e=>H10.out.nx W.heap.size (.inr e.symm) (.inr rfl)
    have T10:=HTB10.out;unfold yD at T10;obtain ⟨b0,b1,b2,b3,b4,b5,b6⟩:=zC7 (zD T10).1;have K10:=HK10.out;unfold zV at K10;obtain ⟨y0,y1,y2,y3,y4,y5,y6⟩:=zC7 (zD K10).1;have yz:=(zD K10).2;clear K10 T10 h10 m10 h11 m11;go_wp2;try simp only [Exit.inBlock,Exit.then]
    obtain ⟨F1,F2⟩:=Z6 HK11.out (.int .i64 0) (.int .i64 ((zH (fo st k)).seq+1)) (.string ⟨#[]⟩) (.slice none 0 0) (.slice none 0 0) (.slice none 0 0) (.slice none 0 0);refine bodyPost_ret (zq rfl rfl F1 rfl) rfl ?_;rw [show z2o st c k=({ yJ (setF st k f1) k with turn:=st.turn+1 },YO ((zH (fo st k)).seq+1),true) from by
     rw [HMR.out,if_neg HPA.out,if_neg HCY.out,if_neg (by have:=HDD.out;omega)];unfold z6i;dsimp only;rw [<-HW1.out];rfl]
    exact Z7 H11.out (((Mut.below (zB HB0.out HB7.out)).trans HM9.out).trans ((Mut.below HBB.out).trans (HM10.out.trans HM11.out))) (znl _) F2 (z2t HI64.out)
end
end
end Go.Proofs.YtdggplhnfhcieaaGreatDoor
