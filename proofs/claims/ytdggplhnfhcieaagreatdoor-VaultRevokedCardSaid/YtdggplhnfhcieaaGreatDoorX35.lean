/- No condition. -/
import Derived.Test.YtdggplhnfhcieaaGreatDoorX32
set_option linter.all false
set_option maxRecDepth 100000
namespace Go.Proofs.YtdggplhnfhcieaaGreatDoor
open Go.RowKit Go.Deep
section
section
variable {X:Nat->Prop} {base bw:Nat} {W W':World} {R R':RM} {c:Call} {dv:Value} {st:State} {done late:Bool}
theorem WK.verAt (h:WK X base bw W R c dv st done late) {k:Nat} (hk:k < st.folders.length) {j q:Nat} {it:Item} {v:Version} (hit:(fo st k).items[j]? =some it) (hq:it.versions[q]? =some v):
  ∃gi oi ci gv ov cv A1 c1,(R (.it k)).v= .slice (some ⟨gi,oi,none⟩) (fo st k).items.length ci/\(fo st k).items.length<=ci/\ci<=9223372036854775807/\gi < W.heap.size/\W.cell? ⟨gi,oi+j*2+1,none⟩=some (.slice (some ⟨gv,ov,none⟩) it.versions.length cv)/\
   it.versions.length<=cv/\cv<=9223372036854775807/\gv < W.heap.size/\W.cell? ⟨gv,ov+q*4,none⟩=some (.int .i64 v.epoch)/\W.cell? ⟨gv,ov+q*4+1,none⟩=some (.bool v.gone)/\W.cell? ⟨gv,ov+q*4+2,none⟩=some (.string v.who)/\W.cell? ⟨gv,ov+q*4+3,none⟩=some (.slice A1 v.data.length c1)/\
   Sl 1 YL (Imm X bw R W) W (.slice A1 v.data.length c1) v.data/\v.who.size<=140737488355328:=by
 obtain ⟨hc,_,hall⟩:=(h.is.fo k _ (ZO hk)).2.it j it hit;obtain ⟨gi,oi,ci,e1,l1,m1,g1,hcells,_⟩:=(h.os.row (.it k)).at hc;obtain ⟨_,hx,hp⟩:=hall.at hq;obtain ⟨gv,ov,cv,e2,l2,m2,g2,hcells2,_⟩:=(h.os.row (.ve k j)).at hx;obtain ⟨_,rfl,_,hw,hd⟩:=hp;obtain ⟨A1,c1,rfl,_⟩:=id hd;have hil:=(h.is.fo k _ (ZO hk)).2.itl;rw [hil] at e1 l1;rw [hall.1] at e2 l2;unfold maxLen at m1 m2;refine ⟨gi,oi,ci,gv,ov,cv,A1,c1,e1,l1,m1,g1,?_,l2,m2,g2,hcells2 0 _ rfl,hcells2 1 _ rfl,hcells2 2 _ rfl,hcells2 3 _ rfl,hd,hw⟩;rw [<-e2];exact hcells 1 _ rfl
def z9m (st:State) (c:Call) (k j:Nat):Int:=if c.version=0 then (ZX (fo st k) j).versions.length else c.version
theorem zRa {k:Nat} (hi:z01 (fo st k) c.name=none):z4x st c k=ZF 35:=by unfold z4x;rw [hi]
theorem zRb {k j:Nat} (hi:z01 (fo st k) c.name=some j) (h:((ZX (fo st k) j).versions.length:Int) < z9m st c k j):z4x st c k=ZF 35:=by
 unfold z4x;rw [hi];unfold z9m at h;dsimp only;rw [List.getElem?_eq_none (by omega)]
theorem zU0 {k j q:Nat} {v:Version} (hi:z01 (fo st k) c.name=some j) (h:z9m st c k j=(q:Int)+1) (hq:(ZX (fo st k) j).versions[q]? =some v):
  z4x st c k=if v.gone then ZF 35 else if !grantedB st c.user c.folder c.name ((q:Int)+1) then ZF 40 else ⟨0,(q:Int)+1,v.who,v.data,[],[],[]⟩:=by
 unfold z4x;rw [hi];unfold z9m at h;dsimp only;rw [h,show ((q:Int)+1 - 1).toNat=q by omega,hq]
open Classical in
theorem grB_is {u f it:Nm} {n:Int} {b:Bool} (h:b=true↔z3u st u f it n):grantedB st u f it n=b:=by
 unfold grantedB;cases b
 ·exact decide_eq_false fun k=>by have:=h.2 k;cases this
 exact decide_eq_true (h.1 rfl)
theorem zRc {S:Nat->Prop} {w:World} {n:Int} {s:Nm} {v:Value} {l:List Int} (hn:I64 n) (hs:s.size<=140737488355328) (h:Sl 1 YL S w v l):YY S w [.int .i64 0,.int .i64 n,.string s,v,.slice none 0 0,.slice none 0 0,.slice none 0 0] ⟨0,n,s,l,[],[],[]⟩:=
 ⟨_,_,_,_,rfl,(show I64 0 from ⟨by omega,by omega⟩),hn,hs,h,yP,yP,yP⟩
set_option maxHeartbeats 8000000 in
theorem zRd (h:WK X base bw W R c dv st false late) {n k:Nat} (hI:VInv n st) (hn:n<=41) (hc:CallOk c) (hk:Z3 st c.folder=some k):
  Calls Tryz.prog 93 #[.pointer (some ⟨bw,0,none⟩)] W (Did X base bw W R c dv late (st,z4x st c k,false)):=by
 have HK:=zh hk;have HKL:=zh (z2i (YI hk));have HFI:=zh (hI.atF HKL.out);have HOK:=zh (zI3 (hI.small hn));have HC:=zh hc;obtain ⟨w0,hw0⟩:∃w0,W.alloc (.cells zV 49)=w0:=⟨_,rfl⟩;have hN:=yA W;rw [hw0] at hN;obtain ⟨hE,B0,T0,z0⟩:=hN;have H0:=hE R h;have HW:=zh H0;have HT0:=zh T0;have HB0:=zh B0;have hlt:=H0.lt;clear hE B0 T0;obtain ⟨A7,c7,e7,hkind,hus,hfol,hnam,hoth,hrol,hver,d1,d2,d3,d4⟩:=YQ H0.call;obtain rfl:dv= .slice A7 c.data.length c7:=by simpa [z3v] using e7
 have s0:=H0.cells.1 0 _ rfl;have s1:=H0.cells.1 1 _ rfl;have s2:=H0.cells.1 2 _ rfl;have s3:=H0.cells.1 3 _ rfl;have s4:=H0.cells.1 4 _ rfl;have s5:=H0.cells.1 5 _ rfl;have s6:=H0.cells.1 6 _ rfl;have s7:=H0.cells.1 7 _ rfl;obtain ⟨wA,hwA,cA,fA,BA,qA⟩:=zQ w0 #[.int .i64 c.kind,.string c.user,.string c.folder,.string c.name,.string c.other,.int .i64 c.role,.int .i64 c.version,.slice A7 c.data.length c7] 41;have HCB:=zh (zbx hwA);have HBA:=zh BA;have HWA:=zh (H0.below BA);clear e7 hkind hus hfol hnam hoth hrol hver d1 d3 d4 cA fA BA;clear h hk H0 hI hc;unfold zV at hw0;go_enter Tryz.func93,Tryz.ntmps93
 have k2:=(zD HCB.out).1 2 _ rfl;go_wp2_with fail
 refine zcm (yS HWA.out c.folder) ?_;rintro e1 w1 ⟨⟨hno,rfl⟩ | ⟨k',g,o,hk',ha,rfl⟩,B1⟩
 ·exact absurd (HK.out.symm.trans hno) (by simp)
 obtain rfl:_=k':=zsi (HK.out.symm.trans hk');have HB1:=zh B1;have HA:=zh ha;have H1:=zh (HWA.out.below B1);obtain ⟨D2,f2,D3,f3,D4,f4,D5,f5,D6,f6,eh,hF,u0,u1,u2,u3,u4,u5,u6,hg,gz⟩:=H1.out.fold (ZO HKL.out) ha;have HE:=zh eh;clear B1 hk' ha eh hF;clear s0 s1 s2 s3 s4 s5 s6 s7 k2;have HKB1:=zh ((HB1.out.block _ qA).trans HCB.out);have k3:=(zD HKB1.out).1 3 _ rfl;go_wp2_with fail
 refine zcm (z81 H1.out HKL.out HA.out c.name) ?_;rintro e2 w2 ⟨rfl,B2⟩;have HBA2:=zh (zB HB1.out B2);have HB2:=zh (zB HBA.out HBA2.out);have H2:=zh (HW.out.below HB2.out);have v4:=(B2.cell (p:=⟨g,o+4,none⟩) hg).trans u4;have hg2:g < w2.heap.size:=zll hg B2.size;have HKB2:=zh ((HBA2.out.block _ qA).trans HCB.out);clear B2 u0 u1 u2 u3 u4 u5 u6 k3
 cases hi:z01 (fo st k) c.name with
 | none=>
  have HIJ:=zh hi;simp only [iOf];go_wp2_with fail
  refine zcm (ZK 35 w2) ?_;rintro eq wq ⟨rfl,Bq⟩;obtain ⟨BW,H2,K2,y0,y1,y2,y3,y4,y5,y6,yz⟩:=zW HB2.out Bq HW.out z0 HT0.out;clear Bq;unfold yD;go_wp2;try simp only [Exit.inBlock,Exit.then]
  obtain ⟨F1,F2⟩:=Z6 K2.out (.int .i64 35) (.int .i64 0) (.string ⟨#[]⟩) (.slice none 0 0) (.slice none 0 0) (.slice none 0 0) (.slice none 0 0);refine bodyPost_ret (zq rfl rfl F1 rfl) rfl ?_;rw [show (st,z4x st c k,false)=(st,ZF 35,false) from by rw [zRa HIJ.out]]
  exact Z7 H2.out (Mut.below (zB HB0.out BW.out)) (znl _) F2 (y8 ⟨by omega,by omega⟩)
 | some j=>
  simp only [iOf];have HIJ:=zh hi;have HIT:=zh (z5j hi);have HVL:=zh (show (ZX (fo st k) j).versions≠[]/\(ZX (fo st k) j).versions.length<=41 from ⟨(HFI.out.it _ (zmg HIT.out.1)).1,qNtx (HFI.out.it _ (zmg HIT.out.1)).2.1 hn⟩);have HVP:=zh (List.length_pos_iff.2 HVL.out.1);obtain ⟨n0,hn0⟩:∃n0,z9m st c k j=n0:=⟨_,rfl⟩;have HN1:=zh (show 1<=n0 from by
    rw [<-hn0];unfold z9m;have:=HC.out.ver;have:=HVP.out;split<;>omega)
  have HN0:=zh hn0;have hj:(j:Int) < ((fo st k).items.length:Int):=by have:=(zge HIT.out.1).1;omega
  have k6:=(zD HKB2.out).1 6 _ rfl;obtain ⟨q,hqn⟩:∃q:Nat,q < (ZX (fo st k) j).versions.length/\(n0<=(ZX (fo st k) j).versions.length->n0=(q:Int)+1):=by
    by_cases hle:n0<=(ZX (fo st k) j).versions.length
    ·exact ⟨(n0 - 1).toNat,by have:=HN1.out;omega,fun _=>by have:=HN1.out;omega⟩
    ·exact ⟨0,HVP.out,fun h=>absurd h hle⟩
  have HQN:=zh hqn;obtain ⟨v,hv⟩:∃v,(ZX (fo st k) j).versions[q]? =some v:=⟨_,qLgx hqn.1⟩;have HV:=zh hv;obtain ⟨gi,oi,ci,gv,ov,cv,A1,c1,e1,l1,m1,hgi,i1,l2,m2,hgv,y0,y1,y2,y3,hsd,hwho⟩:=H2.out.verAt HKL.out HIT.out.1 hv;have HSD:=zh hsd;have HWHO:=zh hwho;have e4:=HE.out;simp only [hdr,List.cons.injEq] at e4;have e5:=e4.2.2.2.2.1.symm.trans e1;simp only [Value.slice.injEq] at e5;obtain ⟨rfl,_,rfl⟩:=e5;clear e4 e1 hi hn0 hqn hv hsd hwho;generalize hV:(ZX (fo st k) j).versions=V at*;have HVV:=zh hV;clear hV;go_upto_region 7 with fail
  go_cut [26] from 25 to 26 (fun s26 wx=>(∃b:Bool,s26= .bool b/\Hid (b=true↔c.version=0))/\wx=w2)
  case first=>
    go_wp2;go_meet
    case rel=>exact ⟨⟨_,rfl,zh (by simp)⟩,rfl⟩
  obtain ⟨⟨bv,rfl,hbv⟩,rfl⟩:=hcut;rename_i KK hKK;refine hKK _ _ ?_;clear hKK KK;go_cut [6] from 27 to 35 (fun s6 wx=>s6= .int .i64 n0/\wx=wc)
  case first=>
   have HN0':=HN0
   cases bv with
   | true=>
    have HEE:=zh (show (V.length:Int)=n0 from by rw [<-HN0.out];unfold z9m;rw [if_pos (hbv.out.1 rfl),HVV.out]);go_wp2;go_meet
    case rel=>exact ⟨by rw [HEE.out],rfl⟩
   | false=>
    have HEE:=zh (show c.version=n0 from by rw [<-HN0.out];unfold z9m;rw [if_neg fun e=>by have:=hbv.out.2 e;cases this]);go_wp2;go_meet
    case rel=>exact ⟨by rw [HEE.out],rfl⟩
  obtain ⟨rfl,rfl⟩:=hcut;by_cases hle:n0<=(V.length:Int)
  rotate_left
  ·have hov:decide ((V.length:Int) < n0)=true:=decide_eq_true (by omega);have HOV:=zh (show ((ZX (fo st k) j).versions.length:Int) < z9m st c k j from by rw [HVV.out,HN0.out];omega);go_wp2_with fail
   refine zcm (ZK 35 wc) ?_;rintro eq wq ⟨rfl,Bq⟩;obtain ⟨BW,H2,K2,y0,y1,y2,y3,y4,y5,y6,yz⟩:=zW HB2.out Bq HW.out z0 HT0.out;clear Bq;unfold yD;go_wp2;try simp only [Exit.inBlock,Exit.then]
   obtain ⟨F1,F2⟩:=Z6 K2.out (.int .i64 35) (.int .i64 0) (.string ⟨#[]⟩) (.slice none 0 0) (.slice none 0 0) (.slice none 0 0) (.slice none 0 0);refine bodyPost_ret (zq rfl rfl F1 rfl) rfl ?_;rw [show (st,z4x st c k,false)=(st,ZF 35,false) from by rw [zRb HIJ.out HOV.out]];exact Z7 H2.out (Mut.below (zB HB0.out BW.out)) (znl _) F2 (y8 ⟨by omega,by omega⟩)
  obtain rfl:n0=(q:Int)+1:=HQN.out.2 hle;have hov:decide ((V.length:Int) < (q:Int)+1)=false:=decide_eq_false (by omega);have hwq:IntKind.i64.wrap ((q:Int)+1 - 1)=q:=by rw [IntKind.wrap_i64];have:=HQN.out.1;have:=HVL.out.2;omega
  have hq1:(q:Int) < (V.length:Int):=by have:=HQN.out.1;omega
  have HGA:=zh (zU0 HIJ.out HN0.out (by rw [HVV.out];exact HV.out))
  cases hgn:v.gone with
  | true=>
   rw [hgn] at y1;have HGN:=zh hgn;clear hgn;go_wp2_with fail
   refine zcm (ZK 35 wc) ?_;rintro eq wq ⟨rfl,Bq⟩;obtain ⟨BW,H2,K2,y0,y1,y2,y3,y4,y5,y6,yz⟩:=zW HB2.out Bq HW.out z0 HT0.out;clear Bq;unfold yD;go_wp2;try simp only [Exit.inBlock,Exit.then]
   obtain ⟨F1,F2⟩:=Z6 K2.out (.int .i64 35) (.int .i64 0) (.string ⟨#[]⟩) (.slice none 0 0) (.slice none 0 0) (.slice none 0 0) (.slice none 0 0);refine bodyPost_ret (zq rfl rfl F1 rfl) rfl ?_;rw [show (st,z4x st c k,false)=(st,ZF 35,false) from by rw [HGA.out,HGN.out];rfl]
   exact Z7 H2.out (Mut.below (zB HB0.out BW.out)) (znl _) F2 (y8 ⟨by omega,by omega⟩)
  | false=>
   rw [hgn] at y1;have HGN:=zh hgn;have t8:=H2.out.cells.1 8 _ rfl;have t9:=H2.out.cells.1 9 _ rfl;have t10:=H2.out.cells.1 10 _ rfl;have t11:=H2.out.cells.1 11 _ rfl;have k1:=(zD HKB2.out).1 1 _ rfl;have k2:=(zD HKB2.out).1 2 _ rfl;have k3:=(zD HKB2.out).1 3 _ rfl;have HI64:=zh (show I64 ((q:Int)+1) from ⟨by omega,by have:=HQN.out.1;have:=HVL.out.2;omega⟩);clear hgn k6;go_upto_region 11 with fail
   have HSQ:=zh (show ∀W':World,Below wc.heap.size wc W'->(fun W':World=>Below wc.heap.size wc W'/\W'.cell? ⟨bw,8,none⟩=some (.int .i64 st.turn)/\W'.cell? ⟨bw,9,none⟩=some ((R .us).v)/\W'.cell? ⟨bw,10,none⟩=some ((R .de).v)/\W'.cell? ⟨bw,11,none⟩=some ((R .fo).v)/\W'.cell? ⟨w0.heap.size,1,none⟩=some (.string c.user)/\W'.cell? ⟨w0.heap.size,2,none⟩=some (.string c.folder)/\W'.cell? ⟨w0.heap.size,3,none⟩=some (.string c.name)) W' from fun W' hW=>⟨hW,(hW.cell (p:=⟨bw,8,none⟩) (zF t8)).trans t8,(hW.cell (p:=⟨bw,9,none⟩) (zF t9)).trans t9,(hW.cell (p:=⟨bw,10,none⟩) (zF t10)).trans t10,(hW.cell (p:=⟨bw,11,none⟩) (zF t11)).trans t11,(hW.cell (p:=⟨w0.heap.size,1,none⟩) (zF k1)).trans k1,(hW.cell (p:=⟨w0.heap.size,2,none⟩) (zF k2)).trans k2,(hW.cell (p:=⟨w0.heap.size,3,none⟩) (zF k3)).trans k3⟩);refine zE (by kernel_rfl) HSQ.out (fun hHeld=>?_);refine zi 0 ?_;iterate 11 (refine zt hHeld ?_;simp only [zA])
   refine zo ?_;refine zr 11 fun K hK=>?_
   go_simp;go_at_call 147
   refine zcm (zJq st c.user c.folder c.name ((q:Int)+1) _ _ (fun _=>True) (H2.out.below (zbr.drew)).state HOK.out (by have:=HC.out.u20;omega) HI64.out) ?_;rintro e3 w3 ⟨⟨b,rfl,hb⟩,b3⟩;have Bw3:Below wc.heap.size wc w3:=zB (zbr.drew) b3;clear b3 hHeld;refine hK.out _ _ (HSQ.out _ Bw3) (fun hHeld=>?_);clear hK K;refine zT 12 hHeld ?_;simp only [zA];refine wpAnyH_done (by kernel_rfl) ?_ _;clear hHeld HSQ;have HGB:=zh (grB_is hb);have HB3:=zh (zB HB2.out Bw3);have w4:=(Bw3.cell (p:=⟨g,o+4,none⟩) hg2).trans v4;have j1:=(Bw3.cell (p:=⟨gi,oi+j*2+1,none⟩) hgi).trans i1;have z0':=(Bw3.cell (p:=⟨gv,ov+q*4,none⟩) hgv).trans y0;have z1':=(Bw3.cell (p:=⟨gv,ov+q*4+1,none⟩) hgv).trans y1;have z2':=(Bw3.cell (p:=⟨gv,ov+q*4+2,none⟩) hgv).trans y2;have z3':=(Bw3.cell (p:=⟨gv,ov+q*4+3,none⟩) hgv).trans y3;have HBW3:=zh Bw3;clear hb Bw3 t8 t9 t10 t11 k1 k2 k3 v4 i1 y0 y1 y2 y3
   cases b with
   | false=>
    go_wp2_with fail
    refine zcm (ZK 40 w3) ?_;rintro eq wq ⟨rfl,Bq⟩;obtain ⟨BW,H2,K2,y0,y1,y2,y3,y4,y5,y6,yz⟩:=zW HB3.out Bq HW.out z0 HT0.out;clear Bq;unfold yD;go_wp2;try simp only [Exit.inBlock,Exit.then]
    obtain ⟨F1,F2⟩:=Z6 K2.out (.int .i64 40) (.int .i64 0) (.string ⟨#[]⟩) (.slice none 0 0) (.slice none 0 0) (.slice none 0 0) (.slice none 0 0);refine bodyPost_ret (zq rfl rfl F1 rfl) rfl ?_;rw [show (st,z4x st c k,false)=(st,ZF 40,false) from by rw [HGA.out,HGN.out,HGB.out];rfl]
    exact Z7 H2.out (Mut.below (zB HB0.out BW.out)) (znl _) F2 (y8 ⟨by omega,by omega⟩)
   | true=>
    obtain ⟨wx,hwx,cwx,fwx,Bwx,qwx⟩:=zQ w3 #[.int .i64 v.epoch,.bool false,.string v.who,.slice A1 v.data.length c1] 80;have x2:=cwx 2 _ rfl;have x3:=cwx 3 _ rfl;have HBx:=zh (zB HB3.out Bwx);have HKx:=zh ((HBx.out.block _ z0).trans HT0.out);have H9:=zh (HW.out.below HBx.out);have HSX:=zh (show Sl 1 YL (Imm (fun b=>X b\/b=W.heap.size) bw R wx) wx (.slice A1 v.data.length c1) v.data from HSD.out.keep rByte_ok (by decide) (Mut.below (bw:=bw) (R:=R) (zB HBW3.out Bwx)).kept);have K9:=HKx.out;unfold zV at K9;obtain ⟨y0,y1,y2,y3,y4,y5,y6⟩:=zC7 (zD K9).1;have yz:=(zD K9).2;clear K9 cwx fwx Bwx;go_wp2;try simp only [Exit.inBlock,Exit.then]
    obtain ⟨F1,F2⟩:=Z6 HKx.out (.int .i64 0) (.int .i64 ((q:Int)+1)) (.string v.who) (.slice A1 v.data.length c1) (.slice none 0 0) (.slice none 0 0) (.slice none 0 0);refine bodyPost_ret (zq rfl rfl F1 rfl) rfl ?_;rw [show z4x st c k=⟨0,(q:Int)+1,v.who,v.data,[],[],[]⟩ from by rw [HGA.out,HGN.out,HGB.out];rfl];exact Z7 H9.out (Mut.below (zB HB0.out HBx.out)) (znl _) F2 (zRc HI64.out HWHO.out HSX.out)
end
end
end Go.Proofs.YtdggplhnfhcieaaGreatDoor
