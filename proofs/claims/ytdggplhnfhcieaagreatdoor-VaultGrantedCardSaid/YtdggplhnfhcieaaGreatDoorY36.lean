/- Part 36 of the proof of vaultGranted_holds. No condition. -/
import Derived.Test.YtdggplhnfhcieaaGreatDoorY22
import Derived.Test.YtdggplhnfhcieaaGreatDoorY33
set_option linter.unusedVariables false
set_option linter.unusedSimpArgs false
set_option linter.unusedSectionVars false
set_option maxRecDepth 100000
namespace Go.Proofs.YtdggplhnfhcieaaGreatDoor
open Go.RowKit Go.Deep
section
section
variable {X:Nat->Prop} {base bw:Nat} {W W':World} {R R':RM} {c:Call} {dv:Value} {st:State} {done late:Bool}
theorem WK.verAt (h:WK X base bw W R c dv st done late) {k:Nat} (hk:k < st.folders.length) {j q:Nat} {it:Item} {v:Version} (hit:(fo st k).items[j]? =some it) (hq:it.versions[q]? =some v):
  ∃gi oi ci gv ov cv A1 c1,(R (.it k)).v= .slice (some ⟨gi,oi,none⟩) (fo st k).items.length ci/\(fo st k).items.length<=ci/\ci<=9223372036854775807/\gi < W.heap.size/\W.cell? ⟨gi,oi+j*2+1,none⟩=some (.slice (some ⟨gv,ov,none⟩) it.versions.length cv)/\
   it.versions.length<=cv/\cv<=9223372036854775807/\gv < W.heap.size/\W.cell? ⟨gv,ov+q*4,none⟩=some (.int .i64 v.epoch)/\W.cell? ⟨gv,ov+q*4+1,none⟩=some (.bool v.gone)/\W.cell? ⟨gv,ov+q*4+2,none⟩=some (.string v.who)/\W.cell? ⟨gv,ov+q*4+3,none⟩=some (.slice A1 v.data.length c1)/\
   Sl 1 yN (Imm X bw R W) W (.slice A1 v.data.length c1) v.data/\v.who.size<=140737488355328:=by
 obtain ⟨hc,_,hall⟩:=(h.is.fo k _ (ZK hk)).2.it j it hit
 obtain ⟨gi,oi,ci,e1,l1,m1,g1,hcells,_⟩:=(h.os.row (.it k)).at hc
 obtain ⟨_,hx,hp⟩:=hall.at hq
 obtain ⟨gv,ov,cv,e2,l2,m2,g2,hcells2,_⟩:=(h.os.row (.ve k j)).at hx
 obtain ⟨_,rfl,_,hw,hd⟩:=hp
 obtain ⟨A1,c1,rfl,_⟩:=id hd
 have hil:=(h.is.fo k _ (ZK hk)).2.itl
 rw [hil] at e1 l1
 rw [hall.1] at e2 l2
 unfold maxLen at m1 m2
 refine ⟨gi,oi,ci,gv,ov,cv,A1,c1,e1,l1,m1,g1,?_,l2,m2,g2,hcells2 0 _ rfl,hcells2 1 _ rfl,hcells2 2 _ rfl,hcells2 3 _ rfl,hd,hw⟩
 rw [<-e2]
 exact hcells 1 _ rfl
def z88 (st:State) (c:Call) (k j:Nat):Int:=if c.version=0 then (ZS (fo st k) j).versions.length else c.version
theorem zNx {k:Nat} (hi:z0e (fo st k) c.name=none):z2c st c k=ZD 35:=by unfold z2c;rw [hi]
theorem zNy {k j:Nat} (hi:z0e (fo st k) c.name=some j) (h:((ZS (fo st k) j).versions.length:Int) < z88 st c k j):z2c st c k=ZD 35:=by
 unfold z2c
 rw [hi]
 unfold z88 at h
 dsimp only
 rw [List.getElem?_eq_none (by omega)]
theorem zQ3 {k j q:Nat} {v:Version} (hi:z0e (fo st k) c.name=some j) (h:z88 st c k j=(q:Int)+1) (hq:(ZS (fo st k) j).versions[q]? =some v):
  z2c st c k=if v.gone then ZD 35 else if !grantedB st c.user c.folder c.name ((q:Int)+1) then ZD 40 else ⟨0,(q:Int)+1,v.who,v.data,[],[],[]⟩:=by
 unfold z2c
 rw [hi]
 unfold z88 at h
 dsimp only
 rw [h,show ((q:Int)+1 - 1).toNat=q by omega,hq]
open Classical in
theorem grB_is {u f it:Nm} {n:Int} {b:Bool} (h:b=true↔yY st u f it n):grantedB st u f it n=b:=by
 unfold grantedB
 cases b
 ·exact decide_eq_false fun k=>by have:=h.2 k;cases this
 exact decide_eq_true (h.1 rfl)
theorem zNz {S:Nat->Prop} {w:World} {n:Int} {s:Nm} {v:Value} {l:List Int} (hn:I64 n) (hs:s.size<=140737488355328) (h:Sl 1 yN S w v l):YC S w [.int .i64 0,.int .i64 n,.string s,v,.slice none 0 0,.slice none 0 0,.slice none 0 0] ⟨0,n,s,l,[],[],[]⟩:=
 ⟨_,_,_,_,rfl,(show I64 0 from ⟨by omega,by omega⟩),hn,hs,h,yF,yF,yF⟩
set_option maxHeartbeats 8000000 in
theorem zO0 (h:WK X base bw W R c dv st false late) {n k:Nat} (hI:VInv n st) (hn:n<=41) (hc:CallOk c) (hk:Z7 st c.folder=some k):
  Calls Tryz.prog 93 #[.pointer (some ⟨bw,0,none⟩)] W (Did X base bw W R c dv late (st,z2c st c k,false)):=by
 have HK:=zh hk
 have HKL:=zh (z1g (Y2 hk))
 have HFI:=zh (hI.atF HKL.out)
 have HOK:=zh (zFn (hI.small hn))
 have HC:=zh hc
 obtain ⟨w0,hw0⟩:∃w0,W.alloc (.cells zQ 49)=w0:=⟨_,rfl⟩
 have hN:=ZV W
 rw [hw0] at hN
 obtain ⟨hE,B0,T0,z0⟩:=hN
 have H0:=hE R h
 have HW:=zh H0
 have HT0:=zh T0
 have HB0:=zh B0
 have hlt:=H0.lt
 clear hE B0 T0
 obtain ⟨A7,c7,e7,hkind,hus,hfol,hnam,hoth,hrol,hver,d1,d2,d3,d4⟩:=Y7 H0.call
 obtain rfl:dv= .slice A7 c.data.length c7:=by simpa [z26] using e7
 have s0:=H0.cells.1 0 _ rfl
 have s1:=H0.cells.1 1 _ rfl
 have s2:=H0.cells.1 2 _ rfl
 have s3:=H0.cells.1 3 _ rfl
 have s4:=H0.cells.1 4 _ rfl
 have s5:=H0.cells.1 5 _ rfl
 have s6:=H0.cells.1 6 _ rfl
 have s7:=H0.cells.1 7 _ rfl
 obtain ⟨wA,hwA,cA,fA,BA,qA⟩:=zO w0 #[.int .i64 c.kind,.string c.user,.string c.folder,.string c.name,.string c.other,.int .i64 c.role,.int .i64 c.version,.slice A7 c.data.length c7] 41
 have HCB:=zh (zbx hwA)
 have HD:=zh (show Sl 1 yN (Imm (fun b=>X b\/b=W.heap.size) bw R w0) w0 (.slice A7 c.data.length c7) c.data from ⟨A7,c7,rfl,d1,by unfold maxLen;exact d2,d3,d4⟩)
 have HSZ:=zh (show c.user.size<=140737488355328/\c.folder.size<=140737488355328/\c.name.size<=140737488355328/\c.other.size<=140737488355328 from ⟨hus,hfol,hnam,hoth⟩)
 have HBA:=zh BA
 have HWA:=zh (H0.below BA)
 have HIA:=zh (show Imm (fun b=>X b\/b=W.heap.size) bw R wA w0.heap.size from ⟨qA,fun e=>by have:=H0.lt;omega,fun e=>by have:=H0.os.lt e;omega,fun e=>by have:=H0.xl _ e;omega⟩)
 clear e7 hkind hus hfol hnam hoth hrol hver d1 d3 d4 cA fA BA
 clear h hk H0 hI hc
 unfold zQ at hw0
 go_enter Tryz.func93,Tryz.ntmps93
 have k2:=(zD HCB.out).1 2 _ rfl
 go_wp2_with fail
 refine zcm (yG HWA.out c.folder) ?_
 rintro e1 w1 ⟨⟨hno,rfl⟩ | ⟨k',g,o,hk',ha,rfl⟩,B1⟩
 ·exact absurd (HK.out.symm.trans hno) (by simp)
 obtain rfl:_=k':=zsi (HK.out.symm.trans hk')
 have HB1:=zh B1
 have HA:=zh ha
 have H1:=zh (HWA.out.below B1)
 obtain ⟨D2,f2,D3,f3,D4,f4,D5,f5,D6,f6,eh,hF,u0,u1,u2,u3,u4,u5,u6,hg,gz⟩:=H1.out.fold (ZK HKL.out) ha
 have HE:=zh eh
 have HF:=zh hF
 clear B1 hk' ha eh hF
 clear s0 s1 s2 s3 s4 s5 s6 s7 k2
 have HKB1:=zh ((HB1.out.block _ qA).trans HCB.out)
 have k3:=(zD HKB1.out).1 3 _ rfl
 go_wp2_with fail
 refine zcm (z6j H1.out HKL.out HA.out c.name) ?_
 rintro e2 w2 ⟨rfl,B2⟩
 have HBA2:=zh (zB HB1.out B2)
 have HB2:=zh (zB HBA.out HBA2.out)
 have H2:=zh (HW.out.below HB2.out)
 have v4:=(B2.cell (p:=⟨g,o+4,none⟩) hg).trans u4
 have hg2:g < w2.heap.size:=zll hg B2.size
 have HKB2:=zh ((HBA2.out.block _ qA).trans HCB.out)
 clear B2 u0 u1 u2 u3 u4 u5 u6 k3
 cases hi:z0e (fo st k) c.name with
 | none=>
  have HIJ:=zh hi
  simp only [iOf]
  go_wp2_with fail
  refine zcm (ZG 35 w2) ?_
  rintro eq wq ⟨rfl,Bq⟩
  obtain ⟨BW,H2,K2,y0,y1,y2,y3,y4,y5,y6,yz⟩:=zW HB2.out Bq HW.out z0 HT0.out
  clear Bq
  unfold ZW
  go_wp2
  try simp only [Exit.inBlock,Exit.then]
  obtain ⟨F1,F2⟩:=Z4 K2.out (.int .i64 35) (.int .i64 0) (.string ⟨#[]⟩) (.slice none 0 0) (.slice none 0 0) (.slice none 0 0) (.slice none 0 0)
  refine bodyPost_ret (zq rfl rfl F1 rfl) rfl ?_
  rw [show (st,z2c st c k,false)=(st,ZD 35,false) from by rw [zNx HIJ.out]]
  exact Z6 H2.out (Mut.below (zB HB0.out BW.out)) (znl _) F2 (ZU ⟨by omega,by omega⟩)
 | some j=>
  simp only [iOf]
  have HIJ:=zh hi
  have HIT:=zh (z4v hi)
  have HVL:=zh (show (ZS (fo st k) j).versions≠[]/\(ZS (fo st k) j).versions.length<=41 from ⟨(HFI.out.it _ (zmg HIT.out.1)).1,Nat.le_trans (HFI.out.it _ (zmg HIT.out.1)).2.1 hn⟩)
  have HVP:=zh (List.length_pos_iff.2 HVL.out.1)
  obtain ⟨n0,hn0⟩:∃n0,z88 st c k j=n0:=⟨_,rfl⟩
  have HN1:=zh (show 1<=n0 from by
    rw [<-hn0]
    unfold z88
    have:=HC.out.ver
    have:=HVP.out
    split<;>omega)
  have HN0:=zh hn0
  have hj:(j:Int) < ((fo st k).items.length:Int):=by have:=(zge HIT.out.1).1;omega
  have k6:=(zD HKB2.out).1 6 _ rfl
  obtain ⟨q,hqn⟩:∃q:Nat,q < (ZS (fo st k) j).versions.length/\(n0<=(ZS (fo st k) j).versions.length->n0=(q:Int)+1):=by
    by_cases hle:n0<=(ZS (fo st k) j).versions.length
    ·exact ⟨(n0 - 1).toNat,by have:=HN1.out;omega,fun _=>by have:=HN1.out;omega⟩
    ·exact ⟨0,HVP.out,fun h=>absurd h hle⟩
  have HQN:=zh hqn
  obtain ⟨v,hv⟩:∃v,(ZS (fo st k) j).versions[q]? =some v:=⟨_,List.getElem?_eq_getElem hqn.1⟩
  have HV:=zh hv
  obtain ⟨gi,oi,ci,gv,ov,cv,A1,c1,e1,l1,m1,hgi,i1,l2,m2,hgv,y0,y1,y2,y3,hsd,hwho⟩:=H2.out.verAt HKL.out HIT.out.1 hv
  have HSD:=zh hsd
  have HWHO:=zh hwho
  have e4:=HE.out
  simp only [hdr,List.cons.injEq] at e4
  have e5:=e4.2.2.2.2.1.symm.trans e1
  simp only [Value.slice.injEq] at e5
  obtain ⟨rfl,_,rfl⟩:=e5
  clear e4 e1 hi hn0 hqn hv hsd hwho
  generalize hV:(ZS (fo st k) j).versions=V at*
  have HVV:=zh hV
  clear hV
  go_upto_region 7 with fail
  go_cut [26] from 25 to 26 (fun s26 wx=>(∃b:Bool,s26= .bool b/\Hid (b=true↔c.version=0))/\wx=w2)
  case first=>
    go_wp2
    go_meet
    case rel=>exact ⟨⟨_,rfl,zh (by simp)⟩,rfl⟩
  obtain ⟨⟨bv,rfl,hbv⟩,rfl⟩:=hcut
  rename_i KK hKK
  refine hKK _ _ ?_
  clear hKK KK
  go_cut [6] from 27 to 35 (fun s6 wx=>s6= .int .i64 n0/\wx=wc)
  case first=>
   have HN0':=HN0
   cases bv with
   | true=>
    have HEE:=zh (show (V.length:Int)=n0 from by rw [<-HN0.out];unfold z88;rw [if_pos (hbv.out.1 rfl),HVV.out])
    go_wp2
    go_meet
    case rel=>exact ⟨by rw [HEE.out],rfl⟩
   | false=>
    have HEE:=zh (show c.version=n0 from by rw [<-HN0.out];unfold z88;rw [if_neg fun e=>by have:=hbv.out.2 e;cases this])
    go_wp2
    go_meet
    case rel=>exact ⟨by rw [HEE.out],rfl⟩
  obtain ⟨rfl,rfl⟩:=hcut
  by_cases hle:n0<=(V.length:Int)
  rotate_left
  ·have hov:decide ((V.length:Int) < n0)=true:=decide_eq_true (by omega)
   have HOV:=zh (show ((ZS (fo st k) j).versions.length:Int) < z88 st c k j from by rw [HVV.out,HN0.out];omega)
   go_wp2_with fail
   refine zcm (ZG 35 wc) ?_
   rintro eq wq ⟨rfl,Bq⟩
   obtain ⟨BW,H2,K2,y0,y1,y2,y3,y4,y5,y6,yz⟩:=zW HB2.out Bq HW.out z0 HT0.out
   clear Bq
   unfold ZW
   go_wp2
   try simp only [Exit.inBlock,Exit.then]
   obtain ⟨F1,F2⟩:=Z4 K2.out (.int .i64 35) (.int .i64 0) (.string ⟨#[]⟩) (.slice none 0 0) (.slice none 0 0) (.slice none 0 0) (.slice none 0 0)
   refine bodyPost_ret (zq rfl rfl F1 rfl) rfl ?_
   rw [show (st,z2c st c k,false)=(st,ZD 35,false) from by rw [zNy HIJ.out HOV.out]]
   exact Z6 H2.out (Mut.below (zB HB0.out BW.out)) (znl _) F2 (ZU ⟨by omega,by omega⟩)
  obtain rfl:n0=(q:Int)+1:=HQN.out.2 hle
  have hov:decide ((V.length:Int) < (q:Int)+1)=false:=decide_eq_false (by omega)
  have hwq:IntKind.i64.wrap ((q:Int)+1 - 1)=q:=by rw [IntKind.wrap_i64];have:=HQN.out.1;have:=HVL.out.2;omega
  have hq1:(q:Int) < (V.length:Int):=by have:=HQN.out.1;omega
  have HGA:=zh (zQ3 HIJ.out HN0.out (by rw [HVV.out];exact HV.out))
  cases hgn:v.gone with
  | true=>
   rw [hgn] at y1
   have HGN:=zh hgn
   clear hgn
   go_wp2_with fail
   refine zcm (ZG 35 wc) ?_
   rintro eq wq ⟨rfl,Bq⟩
   obtain ⟨BW,H2,K2,y0,y1,y2,y3,y4,y5,y6,yz⟩:=zW HB2.out Bq HW.out z0 HT0.out
   clear Bq
   unfold ZW
   go_wp2
   try simp only [Exit.inBlock,Exit.then]
   obtain ⟨F1,F2⟩:=Z4 K2.out (.int .i64 35) (.int .i64 0) (.string ⟨#[]⟩) (.slice none 0 0) (.slice none 0 0) (.slice none 0 0) (.slice none 0 0)
   refine bodyPost_ret (zq rfl rfl F1 rfl) rfl ?_
   rw [show (st,z2c st c k,false)=(st,ZD 35,false) from by rw [HGA.out,HGN.out];rfl]
   exact Z6 H2.out (Mut.below (zB HB0.out BW.out)) (znl _) F2 (ZU ⟨by omega,by omega⟩)
  | false=>
   rw [hgn] at y1
   have HGN:=zh hgn
   have t8:=H2.out.cells.1 8 _ rfl
   have t9:=H2.out.cells.1 9 _ rfl
   have t10:=H2.out.cells.1 10 _ rfl
   have t11:=H2.out.cells.1 11 _ rfl
   have k1:=(zD HKB2.out).1 1 _ rfl
   have k2:=(zD HKB2.out).1 2 _ rfl
   have k3:=(zD HKB2.out).1 3 _ rfl
   have HI64:=zh (show I64 ((q:Int)+1) from ⟨by omega,by have:=HQN.out.1;have:=HVL.out.2;omega⟩)
   clear hgn k6
   go_upto_region 11 with fail
   have HSQ:=zh (show ∀W':World,Below wc.heap.size wc W'->(fun W':World=>Below wc.heap.size wc W'/\W'.cell? ⟨bw,8,none⟩=some (.int .i64 st.turn)/\W'.cell? ⟨bw,9,none⟩=some ((R .us).v)/\W'.cell? ⟨bw,10,none⟩=some ((R .de).v)/\W'.cell? ⟨bw,11,none⟩=some ((R .fo).v)/\W'.cell? ⟨w0.heap.size,1,none⟩=some (.string c.user)/\W'.cell? ⟨w0.heap.size,2,none⟩=some (.string c.folder)/\W'.cell? ⟨w0.heap.size,3,none⟩=some (.string c.name)) W' from fun W' hW=>⟨hW,(hW.cell (p:=⟨bw,8,none⟩) (zF t8)).trans t8,(hW.cell (p:=⟨bw,9,none⟩) (zF t9)).trans t9,(hW.cell (p:=⟨bw,10,none⟩) (zF t10)).trans t10,(hW.cell (p:=⟨bw,11,none⟩) (zF t11)).trans t11,(hW.cell (p:=⟨w0.heap.size,1,none⟩) (zF k1)).trans k1,(hW.cell (p:=⟨w0.heap.size,2,none⟩) (zF k2)).trans k2,(hW.cell (p:=⟨w0.heap.size,3,none⟩) (zF k3)).trans k3⟩)
   refine zE (by kernel_rfl) HSQ.out (fun hHeld=>?_)
   refine zi 0 ?_
   iterate 11 (refine zt _ rfl (by kernel_rfl) rfl (fun _ _ _ h=>h) hHeld (by intro W' h;go_simp;try with_reducible rfl) ?_;simp only [zA])
   refine zo ?_
   refine zr 11 (by kernel_rfl) rfl (fun K hK=>?_)
   go_simp
   go_at_call 147
   refine zcm (zH4 st c.user c.folder c.name ((q:Int)+1) _ _ (fun _=>True) (H2.out.below (zbr.drew)).state HOK.out (by have:=HC.out.u20;omega) HI64.out) ?_
   rintro e3 w3 ⟨⟨b,rfl,hb⟩,b3⟩
   have Bw3:Below wc.heap.size wc w3:=zB (zbr.drew) b3
   clear b3 hHeld
   refine hK.out _ _ (HSQ.out _ Bw3) (fun hHeld=>?_)
   clear hK K
   refine zT 12 _ rfl (by kernel_rfl) rfl (fun _ _ _ h=>h) hHeld (by intro W' h;go_simp;try with_reducible rfl) ?_
   simp only [zA]
   refine wpAnyH_done (by kernel_rfl) ?_ _
   clear hHeld HSQ
   have HGB:=zh (grB_is hb)
   have HB3:=zh (zB HB2.out Bw3)
   have w4:=(Bw3.cell (p:=⟨g,o+4,none⟩) hg2).trans v4
   have j1:=(Bw3.cell (p:=⟨gi,oi+j*2+1,none⟩) hgi).trans i1
   have z0':=(Bw3.cell (p:=⟨gv,ov+q*4,none⟩) hgv).trans y0
   have z1':=(Bw3.cell (p:=⟨gv,ov+q*4+1,none⟩) hgv).trans y1
   have z2':=(Bw3.cell (p:=⟨gv,ov+q*4+2,none⟩) hgv).trans y2
   have z3':=(Bw3.cell (p:=⟨gv,ov+q*4+3,none⟩) hgv).trans y3
   have HBW3:=zh Bw3
   clear hb Bw3 t8 t9 t10 t11 k1 k2 k3 v4 i1 y0 y1 y2 y3
   cases b with
   | false=>
    go_wp2_with fail
    refine zcm (ZG 40 w3) ?_
    rintro eq wq ⟨rfl,Bq⟩
    obtain ⟨BW,H2,K2,y0,y1,y2,y3,y4,y5,y6,yz⟩:=zW HB3.out Bq HW.out z0 HT0.out
    clear Bq
    unfold ZW
    go_wp2
    try simp only [Exit.inBlock,Exit.then]
    obtain ⟨F1,F2⟩:=Z4 K2.out (.int .i64 40) (.int .i64 0) (.string ⟨#[]⟩) (.slice none 0 0) (.slice none 0 0) (.slice none 0 0) (.slice none 0 0)
    refine bodyPost_ret (zq rfl rfl F1 rfl) rfl ?_
    rw [show (st,z2c st c k,false)=(st,ZD 40,false) from by rw [HGA.out,HGN.out,HGB.out];rfl]
    exact Z6 H2.out (Mut.below (zB HB0.out BW.out)) (znl _) F2 (ZU ⟨by omega,by omega⟩)
   | true=>
    obtain ⟨wx,hwx,cwx,fwx,Bwx,qwx⟩:=zO w3 #[.int .i64 v.epoch,.bool false,.string v.who,.slice A1 v.data.length c1] 80
    have x2:=cwx 2 _ rfl
    have x3:=cwx 3 _ rfl
    have HBx:=zh (zB HB3.out Bwx)
    have HKx:=zh ((HBx.out.block _ z0).trans HT0.out)
    have H9:=zh (HW.out.below HBx.out)
    have HSX:=zh (show Sl 1 yN (Imm (fun b=>X b\/b=W.heap.size) bw R wx) wx (.slice A1 v.data.length c1) v.data from HSD.out.keep rByte_ok (by decide) (Mut.below (bw:=bw) (R:=R) (zB HBW3.out Bwx)).kept)
    have K9:=HKx.out
    unfold zQ at K9
    obtain ⟨y0,y1,y2,y3,y4,y5,y6⟩:=zC7 (zD K9).1
    have yz:=(zD K9).2
    clear K9 cwx fwx Bwx
    go_wp2
    try simp only [Exit.inBlock,Exit.then]
    obtain ⟨F1,F2⟩:=Z4 HKx.out (.int .i64 0) (.int .i64 ((q:Int)+1)) (.string v.who) (.slice A1 v.data.length c1) (.slice none 0 0) (.slice none 0 0) (.slice none 0 0)
    refine bodyPost_ret (zq rfl rfl F1 rfl) rfl ?_
    rw [show z2c st c k=⟨0,(q:Int)+1,v.who,v.data,[],[],[]⟩ from by rw [HGA.out,HGN.out,HGB.out];rfl]
    exact Z6 H9.out (Mut.below (zB HB0.out HBx.out)) (znl _) F2 (zNz HI64.out HWHO.out HSX.out)
end
end
theorem IsMost.nil {p:Int->Prop} {len:Nat} (h:∀e,¬p e):IsMost p len 0:=⟨Int.le_refl _,by omega,.inl rfl,fun e _ _ h1=>absurd h1 (h e)⟩
def AtK (L:List At) (fo:Nm) (k:Nat) (e:Int):Prop:=(⟨fo,e⟩:At)∈L.take k
theorem z8c {L:List At} {fo:Nm} {k:Nat} {x:At} (hx:L[k]? =some x) (e:Int):AtK L fo (k+1) e↔AtK L fo k e\/x=⟨fo,e⟩:=by
 unfold AtK
 rw [List.take_add_one,hx,List.mem_append]
 simp only [Option.toList_some,List.mem_singleton]
 exact or_congr Iff.rfl eq_comm
theorem z8d {L:List At} {fo:Nm} {k len:Nat} {x:At} {n:Int} (h:IsMost (AtK L fo k) len n) (hx:L[k]? =some x) (hn:x.name=fo->n < x.seq->(len:Int) < x.seq):IsMost (AtK L fo (k+1)) len n:=by
 obtain ⟨h1,h2,h3,h4⟩:=h
 refine ⟨h1,h2,h3.imp id fun h=>(z8c hx _).2 (.inl h),fun e e1 e2 h=>?_⟩
 rcases (z8c hx e).1 h with h | h
 ·exact h4 e e1 e2 h
 subst h
 have:=hn rfl
 dsimp only at this
 omega
theorem zKd {L:List At} {fo:Nm} {k len:Nat} {x:At} {n:Int} (h:IsMost (AtK L fo k) len n) (hx:L[k]? =some x) (h1:x.name=fo) (h2:n < x.seq) (h3:x.seq<=len):IsMost (AtK L fo (k+1)) len x.seq:=by
 obtain ⟨_,_,_,k4⟩:=h
 subst h1
 refine ⟨by omega,h3,.inr ((z8c hx _).2 (.inr rfl)),fun e e1 e2 h=>?_⟩
 rcases (z8c hx e).1 h with h | h
 ·have:=k4 e e1 e2 h
  omega
 have:x.seq=e:=by rw [h]
 omega
set_option maxHeartbeats 4000000 in
theorem z4y (st:State) (hsm:Small st) (u fo:Nm) (hu:u.size<=1000) (cs:List Value) (w:World) (S:Nat->Prop) (h:ZX S w cs st):Calls Tryz.prog 28 #[.agg cs.toArray,.string u,.string fo] w fun e w'=>(∃n:Int,e= .returned (.int .i64 n)/\IsReach st u fo n)/\Below w.heap.size w w':=by
 have HR:=zh (zR h (show Kept S (fun z=>z < w.heap.size) w w from fun b _ hl=>⟨hl,rfl⟩))
 have HSM:=zh hsm
 have HUL:=zh hu
 clear hsm hu
 replace h:=HR.out
 obtain ⟨st_A1,st_c1,st_A2,st_c2,st_A3,st_c3,rfl,_,_,_,_,st_users_s,_,_,_,st_deposits_s,_,_,_,st_folders_s⟩:=ZL h
 obtain ⟨w0,hw0,cw0,fw0,Bw0,qw0⟩:=zO w #[.int .i64 st.turn,.slice st_A1 st.users.length st_c1,.slice st_A2 st.deposits.length st_c2,.slice st_A3 st.folders.length st_c3] 34
 have HB0:=zh Bw0
 have HC0:=zh cw0
 have HST:=zh fun W (hW:Below w0.heap.size w0 W)=>zR HR.out (zH (zB HB0.out hW))
 have s0:=cw0 0 _ rfl
 have s1:=cw0 1 _ rfl
 have s2:=cw0 2 _ rfl
 have s3:=cw0 3 _ rfl
 clear cw0 fw0 Bw0 st_users_s st_deposits_s
 go_enter Tryz.func28,Tryz.ntmps28
 go_wp2_with fail
 clear hw0 s0 s1 s2 s3
 refine zcm (z3k st fo _ w0 _ (HST.out _ zbr)) ?_
 rintro e w1 ⟨rfl,b1⟩
 have HB1:=zh b1
 clear b1
 cases hF:zV st fo with
 | none=>
  rw [z5l hF]
  have HN:=zh (show IsReach st u fo 0 from .inl ⟨hF,rfl⟩)
  clear hF
  go_wp2
  go_ret
  exact ⟨⟨0,rfl,HN.out⟩,zB HB0.out HB1.out⟩
 | some f=>
  obtain ⟨j,hj,hfj⟩:=z3j hF
  rw [hj]
  have hjl:=(zge hfj).1
  have hji:(j:Int) < (st.folders.length:Int):=by omega
  have hj0:decide ((j:Int) < 0)=false:=decide_eq_false (by omega)
  have hgl:f.epochs.length<=1000:=(z3s HSM.out (zmg hfj)).2.1
  have HF:=zh hF
  have HFJ:=zh hfj
  have s0:=(HB1.out.cell (p:=⟨w.heap.size,0,none⟩) qw0).trans (HC0.out 0 _ rfl)
  have s1:=(HB1.out.cell (p:=⟨w.heap.size,1,none⟩) qw0).trans (HC0.out 1 _ rfl)
  have s2:=(HB1.out.cell (p:=⟨w.heap.size,2,none⟩) qw0).trans (HC0.out 2 _ rfl)
  have s3:=(HB1.out.cell (p:=⟨w.heap.size,3,none⟩) qw0).trans (HC0.out 3 _ rfl)
  clear hF hj hfj
  go_wp2_with fail
  clear s0 s1 s2 s3
  refine zcm (zKc st HSM.out u HUL.out _ w1 _ (HST.out _ HB1.out)) ?_
  rintro e w2 ⟨⟨_,L,rfl,hs2,hL,_⟩,b2⟩
  have HB2:=zh (zB HB1.out b2)
  have HL:=zh hL
  obtain ⟨_,_,rfl,_,hc2,hn2,hs3⟩:=hs2
  unfold maxLen at hc2
  clear b2 hL
  go_wp2
  go_loopw [9,10] (fun m i wr=>∃(k:Nat) (n:Int),k<=L.length/\i= .int .i64 k/\m= .int .i64 n/\0<=n/\n<=1000/\Hid (IsMost (AtK L fo k) f.epochs.length n)/\Below w2.heap.size w2 wr) (fun _ i _=>L.length - (RowKit.intOf i).toNat)
  case atStart=>exact ⟨0,0,by omega,by go_num,rfl,by omega,by omega,IsMost.nil (fun e h=>by simp [AtK] at h),Below.refl _ _⟩
  obtain ⟨k,n,_,rfl,rfl,hn0,hn100,HM,hbel⟩:=hrel
  by_cases hlt:k < L.length
  rotate_left
  ·obtain rfl:k=L.length:=by omega
   have HI:=zh (show IsReach st u fo n from by
    refine .inr ⟨f,HF.out,?_⟩
    obtain ⟨h1,h2,h3,h4⟩:=HM.out
    have hp:∀e,AtK L fo L.length e↔z60 st u fo e:=fun e=>by unfold AtK;rw [List.take_length];exact HL.out fo e
    exact ⟨h1,h2,h3.imp id (hp n).1,fun e e1 e2 h=>h4 e e1 e2 ((hp e).2 h)⟩)
   clear HM
   go_wp2
   go_ret
   exact ⟨⟨n,rfl,HI.out⟩,zB HB0.out (zB HB2.out hbel)⟩
  obtain ⟨x,hx⟩:∃x,L[k]? =some x:=⟨_,List.getElem?_eq_getElem hlt⟩
  obtain ⟨_,_,_,hAx,_,hRx,hcx⟩:=SlAt.elem hs3 hx (by decide) hbel
  obtain ⟨rfl,_,_⟩:=z41 hRx
  have x0:=hcx 0 _ rfl
  have x1:=hcx 1 _ rfl
  rw [Nat.add_zero] at x0
  subst hAx
  obtain ⟨_,_,_,hAf,_,hRf,hcf⟩:=SlAt.elem st_folders_s HFJ.out (by decide) (zB HB0.out (zB HB2.out hbel))
  obtain ⟨_,_,_,_,_,_,_,_,_,_,rfl,_,_,_,_,_,f_manifests_s,_,_,_,f_epochs_s,_,_,_,f_items_s,_,_,_,f_wraps_s,_,_,_,f_links_s⟩:=Z5 hRf
  have f3:=hcf 3 _ rfl
  subst hAf
  have s3:=((zB HB2.out hbel).cell (p:=⟨w.heap.size,3,none⟩) qw0).trans (HC0.out 3 _ rfl)
  have HX:=zh hx
  have hki:(k:Int) < (L.length:Int):=by omega
  clear hx hcx hcf hlt f_manifests_s f_epochs_s f_items_s f_wraps_s f_links_s
  by_cases e1:x.name=fo
  rotate_left
  ·have hse:(x.name.toList==fo.toList)=false:=z1e e1
   have HN:=zh (z8d HM.out HX.out fun h _=>absurd h e1)
   clear e1 HM
   go_wp2_with fail
   go_quiet (fail)
   go_wp2
   go_roundw
   case rel=>exact ⟨k+1,n,by omega,by go_num,rfl,hn0,hn100,HN,ZR hbel _⟩
   case measure=>simp [RowKit.intOf];omega
  have hse:(x.name.toList==fo.toList)=true:=by rw [e1];simp
  by_cases e2:n < x.seq
  rotate_left
  ·have d2:decide (n < x.seq)=false:=decide_eq_false e2
   have HN:=zh (z8d HM.out HX.out fun _ h=>absurd h e2)
   clear e1 e2 HM
   go_wp2_with fail
   go_quiet (fail)
   go_wp2
   go_roundw
   case rel=>exact ⟨k+1,n,by omega,by go_num,rfl,hn0,hn100,HN,ZR hbel _⟩
   case measure=>simp [RowKit.intOf];omega
  have d2:decide (n < x.seq)=true:=decide_eq_true e2
  by_cases e3:x.seq<=f.epochs.length
  ·have d3:decide (x.seq<=(f.epochs.length:Int))=true:=decide_eq_true e3
   have HN:=zh (zKd HM.out HX.out e1 e2 e3)
   have hn1:0<=x.seq:=by omega
   have hn2:x.seq<=1000:=by omega
   clear e1 e2 e3 HM
   go_wp2_with fail
   go_quiet (fail)
   go_wp2
   go_roundw
   case rel=>exact ⟨k+1,x.seq,by omega,by go_num,rfl,hn1,hn2,HN,ZR hbel _⟩
   case measure=>simp [RowKit.intOf];omega
  have d3:decide (x.seq<=(f.epochs.length:Int))=false:=decide_eq_false e3
  have HN:=zh (z8d HM.out HX.out fun _ _=>by omega)
  clear e1 e2 e3 HM
  go_wp2_with fail
  go_quiet (fail)
  go_wp2
  go_roundw
  case rel=>exact ⟨k+1,n,by omega,by go_num,rfl,hn0,hn100,HN,ZR hbel _⟩
  case measure=>simp [RowKit.intOf];omega
def z6r (st:State) (u fo it:Nm) (n:Int) (w:World) (e:Ending) (w':World):Prop:=(∃b:Bool,e= .returned (.bool b)/\(b=true↔yY st u fo it n))/\Below w.heap.size w w'
set_option maxHeartbeats 8000000 in
theorem zDs (st:State) (hsm:Small st) (u fo it:Nm) (n:Int) (hu:u.size<=1000) (hn:I64 n) (cs:List Value) (w:World) (S:Nat->Prop) (h:ZX S w cs st):Calls Tryz.prog 29 #[.agg cs.toArray,.string u,.string fo,.string it,.int .i64 n] w (z6r st u fo it n w):=by
 have HR:=zh (zR h (show Kept S (fun z=>z < w.heap.size) w w from fun b _ hl=>⟨hl,rfl⟩))
 have HSM:=zh hsm
 have HUL:=zh hu
 have HN64:=zh hn
 clear hsm hu hn
 replace h:=HR.out
 obtain ⟨st_A1,st_c1,st_A2,st_c2,st_A3,st_c3,rfl,_,_,_,_,st_users_s,_,_,_,st_deposits_s,_,_,_,st_folders_s⟩:=ZL h
 obtain ⟨w0,hw0,cw0,fw0,Bw0,qw0⟩:=zO w #[.int .i64 st.turn,.slice st_A1 st.users.length st_c1,.slice st_A2 st.deposits.length st_c2,.slice st_A3 st.folders.length st_c3] 34
 have HB0:=zh Bw0
 have HC0:=zh cw0
 have HST:=zh fun W (hW:Below w0.heap.size w0 W)=>zR HR.out (zH (zB HB0.out hW))
 have s0:=cw0 0 _ rfl
 have s1:=cw0 1 _ rfl
 have s2:=cw0 2 _ rfl
 have s3:=cw0 3 _ rfl
 clear cw0 fw0 Bw0 st_users_s st_deposits_s
 go_enter Tryz.func29,Tryz.ntmps29
 go_wp2_with fail
 clear hw0 s0 s1 s2 s3
 refine zcm (z3k st fo _ w0 _ (HST.out _ zbr)) ?_
 rintro e w1 ⟨rfl,b1⟩
 have HB1:=zh b1
 clear b1
 cases hF:zV st fo with
 | none=>
  rw [z5l hF]
  have HNO:=zh (show ¬yY st u fo it n from fun ⟨g,_,_,h,_⟩=>by rw [hF] at h;cases h)
  clear hF
  go_wp2
  go_ret
  unfold z6r
  exact ⟨⟨false,rfl,⟨fun h=>(by cases h),fun h=>absurd h HNO.out⟩⟩,zB HB0.out HB1.out⟩
 | some f=>
  obtain ⟨j,hj,hfj⟩:=z3j hF
  rw [hj]
  have hjl:=(zge hfj).1
  have hji:(j:Int) < (st.folders.length:Int):=by omega
  have hj0:decide ((j:Int) < 0)=false:=decide_eq_false (by omega)
  have HF:=zh hF
  obtain ⟨bf,of,_,hAf,_,hRf,hcf⟩:=SlAt.elem st_folders_s hfj (by decide) (zB HB0.out HB1.out)
  obtain ⟨_,_,_,_,_,_,_,_,_,_,rfl,_,_,_,_,_,f_manifests_s,_,_,_,f_epochs_s,_,_,_,f_items_s,_,_,_,f_wraps_s,_,_,_,f_links_s⟩:=Z5 hRf
  have f4:=hcf 4 _ rfl
  subst hAf
  have s3:=(HB1.out.cell (p:=⟨w.heap.size,3,none⟩) qw0).trans (HC0.out 3 _ rfl)
  clear hF hj hfj hcf f_manifests_s f_epochs_s f_wraps_s f_links_s
  go_wp2
  clear s3 f4
  go_loop [13] (fun i=>∃k:Nat,k<=f.items.length/\i= .int .i64 k/\Hid (∀y∈f.items.take k,isI it y=false)) (fun i=>f.items.length - (RowKit.intOf i).toNat)
  case atStart=>exact ⟨0,by omega,by go_num,fun y hy=>by simp at hy⟩
  obtain ⟨k,_,rfl,HN⟩:=hrel
  by_cases hlt:k < f.items.length
  rotate_left
  ·obtain rfl:k=f.items.length:=by omega
   have HNO:=zh (show ¬yY st u fo it n from by
    rintro ⟨g,y,_,h1,h2,_⟩
    obtain rfl:f=g:=zsi (HF.out.symm.trans h1)
    rw [zD3 (p:=isI it) (l:=f.items) (by have:=HN.out;rwa [List.take_length] at this)] at h2
    cases h2)
   clear HN
   go_wp2
   go_ret
   unfold z6r
   exact ⟨⟨false,rfl,⟨fun h=>(by cases h),fun h=>absurd h HNO.out⟩⟩,zB HB0.out HB1.out⟩
  obtain ⟨x,hx⟩:∃x,f.items[k]? =some x:=⟨_,List.getElem?_eq_getElem hlt⟩
  obtain ⟨b,_,_,hA,_,hR,hcz⟩:=SlAt.elem f_items_s hx (by decide) (zB HB0.out HB1.out)
  obtain ⟨_,_,rfl,_,_,_,_,x_versions_s⟩:=z37 hR
  have u0:=hcz 0 _ rfl
  have u1:=hcz 1 _ rfl
  rw [Nat.add_zero] at u0
  subst hA
  have hki:(k:Int) < (f.items.length:Int):=by omega
  have HX:=zh hx
  clear hx hcz hlt
  by_cases hnm:x.name=it
  rotate_left
  ·have hse:(x.name.toList==it.toList)=false:=z1e hnm
   have HN2:=zh (z0c HN.out HX.out (show isI it x=false by unfold isI;exact decide_eq_false hnm))
   clear hnm HN
   go_wp2
   go_round
   case rel=>exact ⟨k+1,by omega,by go_num,HN2⟩
   case measure=>simp [RowKit.intOf];omega
  have hse:(x.name.toList==it.toList)=true:=by rw [hnm];simp
  have HX2:=zh (z6h HN.out HX.out (show isI it x=true by unfold isI;exact decide_eq_true hnm))
  clear hnm HN
  have HGP:Hid (∀m:Int,1<=m->∀v,n=m->m<=x.versions.length->x.versions[(m - 1).toNat]? =some v->∀r,IsReach st u fo r->(yY st u fo it n↔(v.gone=false/\1<=v.epoch/\v.epoch<=r))):=by
   intro m hm v hnm hml hv r hr
   subst hnm
   constructor
   ·rintro ⟨g,y,v',h1,h2,_,_,h5,h6,h7,_,h8,h9⟩
    obtain rfl:f=g:=zsi (HF.out.symm.trans h1)
    obtain rfl:x=y:=zsi (HX2.out.symm.trans h2)
    obtain rfl:v=v':=zsi (hv.symm.trans h5)
    obtain rfl:=h8.one hr
    exact ⟨h6,h7,h9⟩
   ·rintro ⟨h1,h2,h3⟩
    exact ⟨f,x,v,HF.out,HX2.out,hm,hml,hv,h1,h2,r,hr,h3⟩
  by_cases hn1:n < 1
  ·have HNO:=zh (show ¬yY st u fo it n from fun ⟨_,_,_,_,_,h,_⟩=>by omega)
   have hn1':decide (n < 1)=true:=decide_eq_true hn1
   clear hn1
   go_wp2
   go_ret
   unfold z6r
   exact ⟨⟨false,rfl,⟨fun h=>(by cases h),fun h=>absurd h HNO.out⟩⟩,zB HB0.out HB1.out⟩
  have hn1':decide (n < 1)=false:=decide_eq_false hn1
  by_cases hn2:(x.versions.length:Int) < n
  ·have HNO:=zh (show ¬yY st u fo it n from fun ⟨g,y,_,h1,h2,_,h4,_⟩=>by
    obtain rfl:f=g:=zsi (HF.out.symm.trans h1)
    obtain rfl:x=y:=zsi (HX2.out.symm.trans h2)
    omega)
   have hn2':decide ((x.versions.length:Int) < n)=true:=decide_eq_true hn2
   clear hn1 hn2
   go_wp2
   go_ret
   unfold z6r
   exact ⟨⟨false,rfl,⟨fun h=>(by cases h),fun h=>absurd h HNO.out⟩⟩,zB HB0.out HB1.out⟩
  have hn2':decide ((x.versions.length:Int) < n)=false:=decide_eq_false hn2
  obtain ⟨j2,rfl⟩:∃j:Nat,n=(j:Int)+1:=⟨(n - 1).toNat,by omega⟩
  have hjl2:j2 < x.versions.length:=by omega
  obtain ⟨v,hv⟩:∃v,x.versions[j2]? =some v:=⟨_,List.getElem?_eq_getElem hjl2⟩
  have HGQ:=zh (fun r hr=>HGP ((j2:Int)+1) (by omega) v rfl (by omega) (by rw [show ((j2:Int)+1 - 1).toNat=j2 by omega];exact hv) r hr)
  obtain ⟨_,_,_,hA',_,hRv,hcz'⟩:=SlAt.elem x_versions_s hv (by decide) (zB HB0.out HB1.out)
  obtain ⟨v_A3,v_c3,rfl,_,_,_,_,_,v_data_s⟩:=z5y hRv
  have v0:=hcz' 0 _ rfl
  have v1:=hcz' 1 _ rfl
  have v2:=hcz' 2 _ rfl
  have v3:=hcz' 3 _ rfl
  rw [Nat.add_zero] at v0
  subst hA'
  have hw1:IntKind.i64.wrap ((j2:Int)+1 - 1)=(j2:Int):=by rw [IntWalk.i64_in _ (by omega)];omega
  have hji2:(j2:Int) < (x.versions.length:Int):=by omega
  clear hn1 hn2 hv hcz' HGP x_versions_s v_data_s
  obtain ⟨g,hg⟩:∃g,v.gone=g:=⟨_,rfl⟩
  rw [hg] at v1 HGQ
  clear hg
  obtain ⟨w5,_,cw5,fw5,Bw5,qw5⟩:=zO w1 #[.int .i64 v.epoch,.bool g,.string v.who,.slice v_A3 v.data.length v_c3] 80
  have HB5:=zh (zB (zB HB0.out HB1.out) Bw5)
  have HC5:=zh cw5
  have HBW5:=zh Bw5
  have d0:=cw5 0 _ rfl
  have d1:=cw5 1 _ rfl
  clear cw5 fw5 Bw5
  obtain ⟨rr,hrr⟩:=z8o st u fo
  cases g with
  | true=>
   have HNO:=zh (show ¬yY st u fo it ((j2:Int)+1) from fun h=>by have:=((HGQ.out rr hrr).1 h).1;cases this)
   clear hrr
   go_wp2
   go_quiet (fail)
   go_wp2
   go_ret
   unfold z6r
   exact ⟨⟨false,rfl,⟨fun h=>(by cases h),fun h=>absurd h HNO.out⟩⟩,ZR HB5.out _⟩
  | false=>
   by_cases he:1<=v.epoch
   rotate_left
   ·have HNO:=zh (show ¬yY st u fo it ((j2:Int)+1) from fun h=>he ((HGQ.out rr hrr).1 h).2.1)
    have hed:decide (1<=v.epoch)=false:=decide_eq_false he
    clear hrr he
    go_wp2
    go_quiet (fail)
    go_wp2
    go_ret
    unfold z6r
    exact ⟨⟨false,rfl,⟨fun h=>(by cases h),fun h=>absurd h HNO.out⟩⟩,ZR HB5.out _⟩
   have hed:decide (1<=v.epoch)=true:=decide_eq_true he
   have HE:=zh he
   have HSQ:=zh (show ∀W:World,Below w5.heap.size w5 W->(fun W:World=>(W.cell? ⟨w.heap.size,0,none⟩=some (.int .i64 st.turn)/\W.cell? ⟨w.heap.size,1,none⟩=some (.slice st_A1 st.users.length st_c1)/\W.cell? ⟨w.heap.size,2,none⟩=some (.slice st_A2 st.deposits.length st_c2)/\W.cell? ⟨w.heap.size,3,none⟩=some (.slice (some ⟨bf,of,none⟩) st.folders.length st_c3))/\W.cell? ⟨w1.heap.size,0,none⟩=some (.int .i64 v.epoch)/\W.cell? ⟨w1.heap.size,1,none⟩=some (.bool false)) W from fun W hW=>by
    have c:=fun j v (hj:(#[.int .i64 st.turn,.slice st_A1 st.users.length st_c1,.slice st_A2 st.deposits.length st_c2,.slice (some ⟨bf,of,none⟩) st.folders.length st_c3]:Array Value)[j]? =some v)=>((zB HB1.out (zB HBW5.out hW)).cell (p:=⟨w.heap.size,j,none⟩) qw0).trans (HC0.out j v hj)
    exact ⟨⟨c 0 _ rfl,c 1 _ rfl,c 2 _ rfl,c 3 _ rfl⟩,(hW.cell (p:=⟨w1.heap.size,0,none⟩) qw5).trans (HC5.out 0 _ rfl),(hW.cell (p:=⟨w1.heap.size,1,none⟩) qw5).trans (HC5.out 1 _ rfl)⟩)
   clear hrr he
   go_wp2
   have HS:=HSQ.out
   refine zE (by kernel_rfl) HS (fun hHeld=>?_)
   refine zi 0 ?_
   iterate 14 (refine zt _ rfl (by kernel_rfl) rfl (fun _ _ _ h=>h) hHeld (by intro W' h;go_simp;try with_reducible rfl) ?_;simp only [zA])
   refine zo ?_
   refine zr 14 (by kernel_rfl) rfl (fun K hK=>?_)
   go_simp
   go_at_call 28
   refine zcm (z4y st HSM.out u fo HUL.out _ _ _ (zR HR.out (zH (zB HB5.out zbr.drew)))) ?_
   rintro e w6 ⟨⟨r,rfl,hr⟩,b6⟩
   have B6:=zh (show Below w5.heap.size w5 w6 from zB zbr.drew b6)
   clear b6 hHeld
   refine hK.out _ _ (HS _ B6.out) (fun hHeld=>?_)
   clear hK K
   have HRR:=zh hr
   clear hr
   refine zi 15 ?_
   iterate 3 (refine zt _ rfl (by kernel_rfl) rfl (fun _ _ _ h=>h) hHeld (by intro W' h;go_simp;try with_reducible rfl) ?_;simp only [zA])
   refine zo ?_
   refine wpAnyH_done (by kernel_rfl) ?_ _
   clear hHeld HS
   go_wp2
   go_ret
   unfold z6r
   exact ⟨⟨_,rfl,by
    rw [HGQ.out r HRR.out,decide_eq_true_eq]
    exact ⟨fun h=>⟨(by first | rfl | trivial),HE.out,h⟩,fun h=>h.2.2⟩⟩,zB HB5.out B6.out⟩
end Go.Proofs.YtdggplhnfhcieaaGreatDoor
