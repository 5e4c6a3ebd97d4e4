/- No condition. -/
import Derived.Test.YtdggplhnfhcieaaGreatDoorX27
set_option linter.all false
set_option maxRecDepth 100000
set_option maxHeartbeats 16000000
namespace Go.Proofs.YtdggplhnfhcieaaGreatDoor
open Go.RowKit Go.Deep
section
section
variable {X:Nat->Prop} {base bw:Nat} {W:World} {R:RM} {c:Call} {dv:Value} {st:State} {late:Bool}
theorem zIv {st:State} {s:Nm} {u:Nat} {x:User} (hu:Y6 st s=some u) (hx:st.users[u]? =some x) (b:Bool):lostS st s b={ st with users:=st.users.set u { x with lost:=b } }:=by
 unfold lostS;rw [hu];simp only [State.mk.injEq,and_true,true_and];apply List.ext_getElem?;intro j;rw [List.getElem?_modify,List.getElem?_set];have hl:=(zge hx).1;by_cases h:u=j
 ·subst h;rw [if_pos rfl,if_pos hl,hx];simp
 rw [if_neg h];simp [h]
theorem zFq {st:State} {s:Nm} {u:Nat} (hu:Y6 st s=some u):∃x,st.users[u]? =some x/\x.name=s:=by
 obtain ⟨hl,hp,_⟩:=List.findIdx?_eq_some_iff_getElem.1 hu;exact ⟨_,qLgx hl,by simpa [isU] using hp⟩
theorem zP0 (h:WK X base bw W R c dv st false late) {u:Nat} (hu:Y6 st c.user=some u):
  Calls Tryz.prog 98 #[.pointer (some ⟨bw,0,none⟩)] W (Did X base bw W R c dv late (z99 st c)):=by
 obtain ⟨x,hx,hxn⟩:=zFq hu;obtain ⟨w0,hw0⟩:∃w0,W.alloc (.cells zV 49)=w0:=⟨_,rfl⟩;have hN:=yA W;rw [hw0] at hN;obtain ⟨hE,B0,T0,z0⟩:=hN;have H0:=hE R h;have HW:=zh H0;have HT0:=zh T0;have HB0:=zh B0;have hlt:=H0.lt;clear hE B0 T0;have s1:w0.cell? ⟨bw,1,none⟩=some (.string c.user):=H0.cells.1 1 _ rfl;have s9:w0.cell? ⟨bw,9,none⟩=some (R .us).v:=H0.cells.1 9 _ rfl;obtain ⟨_,hcs,hxr⟩:=H0.is.users.at hx;obtain ⟨gi,oi,ci,hvi,hci1,hci2,hgi,hci,hzi⟩:=(H0.os.row .us).at hcs;obtain ⟨rfl,hxs⟩:=hxr;have hul:=(zge hx).1;have hlen:(R .us).cells.length=st.users.length:=H0.is.users.1;rw [hlen] at hvi hci1;rw [hvi] at s9;have y1:w0.cell? ⟨gi,oi+u*2+1,none⟩=some (.bool x.lost):=hci 1 _ rfl;have HZ:=zh hzi;have HV:=zh hvi;have HNA:=zh (show ¬(W.heap.size=gi) from fun e=>H0.nx W.heap.size (.inl ⟨.us,by rw [hvi,e];rfl⟩) (.inr rfl));have hugt:((u:Int) < (st.users.length:Int)):=by omega
 unfold maxLen at hci2;have hcap:st.users.length<=ci:=by omega
 have hci9:ci<=9223372036854775807:=by omega
 have HX:=zh hx;have HU:=zh hu;clear h hvi hcs hci hzi hx hu hci1 H0 hxn hlen hxs;unfold zV at hw0;go_enter Tryz.func98,Tryz.ntmps98
 go_wp2_with fail
 go_region_law (go_simp;go_at_call 85;refine zcm (z1s (HW.out.below zbr.drew) c.user) ?_;rintro _ w9 ⟨rfl,B9⟩;have HB9:=zh (zB zbr.drew B9);have HU9:=HU.out;rw [HU9];clear HU9 B9;simp only [iOf];have s99:=(HB9.out.cell (p:=⟨bw,9,none⟩) hlt).trans s9;have s91:=(HB9.out.cell (p:=⟨bw,1,none⟩) hlt).trans s1;have y19:w9.cell? ⟨gi,oi+u*2+1,none⟩=some (.bool x.lost):=(HB9.out.cell (p:=⟨gi,oi+u*2+1,none⟩) hgi).trans y1;have z9:∀q,w9.frozen? ⟨gi,q,none⟩=false:=fun q=>((z3l HB9.out).2 gi q hgi).trans (HZ.out q))
 all_goals
  have H2:=HW.out.below HB9.out;obtain ⟨H9,M9⟩:=H2.usSet HX.out HV.out true;have HM9:=zh M9;have HK9:=zh (zR (a:=⟨gi,oi+u*2+1,none⟩) (.bool true) ((HB9.out.block _ z0).trans HT0.out) HNA.out);clear H2 M9;have HN9:=zh (fun e=>H9.nx W.heap.size e (.inr rfl));go_wp2_with fail
  refine zcm (z33 H9 0) ?_;clear H9;rintro _ _ ⟨rfl,H10,M10⟩;have HK10:=zh ((M10.but.block _ (zO HK9.out) (fun e=>HN9.out (e.symm.imp id id))).trans HK9.out);have K10:=HK10.out;unfold zV at K10;obtain ⟨y0,y1,y2,y3,y4,y5,y6⟩:=zC7 (zD K10).1;have yz:=(zD K10).2;have HH10:=zh H10;have HM10:=zh M10;clear H10 M10 K10;unfold yD;go_wp2;try simp only [Exit.inBlock,Exit.then]
  obtain ⟨F1,F2⟩:=Z6 HK10.out (.int .i64 0) (.int .i64 0) (.string ⟨#[]⟩) (.slice none 0 0) (.slice none 0 0) (.slice none 0 0) (.slice none 0 0);refine bodyPost_ret (zq rfl rfl F1 rfl) rfl ?_;rw [show z99 st c=({ st with users:=st.users.set u { x with lost:=true } },YO 0,true) from by unfold z99;rw [zIv HU.out HX.out]];exact Z7 HH10.out (((Mut.below (zB HB0.out HB9.out)).trans HM9.out).trans HM10.out) (znl _) F2 (z2t ⟨by omega,by omega⟩)
theorem zP1 {st:State} {s:Nm} {u:Nat} {x:User} (hu:Y6 st s=some u) (hx:st.users[u]? =some x):zI6 st s=x.lost:=by
 unfold zI6;rw [hu];simp [hx]
theorem zIw (h:WK X base bw W R c dv st false late) {u u2:Nat} (hu:Y6 st c.user=some u) (hu2:Y6 st c.other=some u2):
  Calls Tryz.prog 99 #[.pointer (some ⟨bw,0,none⟩)] W (Did X base bw W R c dv late (z0h st c)):=by
 obtain ⟨x,hx,hxn⟩:=zFq hu;obtain ⟨x2,hx2,hxn2⟩:=zFq hu2;obtain ⟨w0,hw0⟩:∃w0,W.alloc (.cells zV 49)=w0:=⟨_,rfl⟩;have hN:=yA W;rw [hw0] at hN;obtain ⟨hE,B0,T0,z0⟩:=hN;have H0:=hE R h;have HW:=zh H0;have HT0:=zh T0;have HB0:=zh B0;have hlt:=H0.lt;clear hE B0 T0;have s1:w0.cell? ⟨bw,1,none⟩=some (.string c.user):=H0.cells.1 1 _ rfl;have s4:w0.cell? ⟨bw,4,none⟩=some (.string c.other):=H0.cells.1 4 _ rfl;have s9:w0.cell? ⟨bw,9,none⟩=some (R .us).v:=H0.cells.1 9 _ rfl;have s10:w0.cell? ⟨bw,10,none⟩=some (R .de).v:=H0.cells.1 10 _ rfl;obtain ⟨_,hcs,hxr⟩:=H0.is.users.at hx;obtain ⟨gi,oi,ci,hvi,hci1,hci2,hgi,hci,hzi⟩:=(H0.os.row .us).at hcs;obtain ⟨rfl,hxs⟩:=hxr;obtain ⟨_,hcs2,hxr2⟩:=H0.is.users.at hx2;obtain ⟨_,_,_,hvi2,_,_,_,hci2',_⟩:=(H0.os.row .us).at hcs2;obtain ⟨rfl,hxs2⟩:=hxr2;have hvi2':=hvi2;rw [hvi] at hvi2';simp only [Value.slice.injEq,Option.some.injEq,Addr.mk.injEq,and_true] at hvi2';obtain ⟨⟨rfl,rfl⟩,_,rfl⟩:=hvi2';have hul:=(zge hx).1;have hul2:=(zge hx2).1;have hlen:(R .us).cells.length=st.users.length:=H0.is.users.1;rw [hlen] at hvi hci1;rw [hvi] at s9;have y1:w0.cell? ⟨gi,oi+u*2+1,none⟩=some (.bool x.lost):=hci 1 _ rfl;have y2:w0.cell? ⟨gi,oi+u2*2+1,none⟩=some (.bool x2.lost):=hci2' 1 _ rfl;have HZ:=zh hzi;have HV:=zh hvi;have HNA:=zh (show ¬(W.heap.size=gi) from fun e=>H0.nx W.heap.size (.inl ⟨.us,by rw [hvi,e];rfl⟩) (.inr rfl));have hugt:((u:Int) < (st.users.length:Int)):=by omega
 have hugt2:((u2:Int) < (st.users.length:Int)):=by omega
 unfold maxLen at hci2;have hcap:st.users.length<=ci:=by omega
 have hci9:ci<=9223372036854775807:=by omega
 obtain ⟨D,f,hv,_⟩:=(H0.os.row .de).shape;rw [H0.is.deps.1] at hv;rw [hv] at s10;have HSL:=zh (show Sl 2 z0o (fun _=>True) w0 (.slice D st.deposits.length f) st.deposits from by rw [<-hv];exact H0.deSl);have HX:=zh hx;have HU:=zh hu;have HX2:=zh hx2;have HU2:=zh hu2;clear h hvi hvi2 hcs hcs2 hci hci2' hzi hx hu hx2 hu2 hci1 H0 hxn hxn2 hlen hxs hxs2 hv;unfold zV at hw0;go_enter Tryz.func99,Tryz.ntmps99
 go_upto_region 2 with fail
 have HSQ:=zh (show ∀W':World,Below w0.heap.size w0 W'->(fun W':World=>Below w0.heap.size w0 W'/\W'.cell? ⟨bw,10,none⟩=some (.slice D st.deposits.length f)/\W'.cell? ⟨bw,1,none⟩=some (.string c.user)/\W'.cell? ⟨bw,4,none⟩=some (.string c.other)) W' from fun W' hW=>⟨hW,(hW.cell (p:=⟨bw,10,none⟩) (zF s10)).trans s10,(hW.cell (p:=⟨bw,1,none⟩) (zF s1)).trans s1,(hW.cell (p:=⟨bw,4,none⟩) (zF s4)).trans s4⟩);refine zE (by kernel_rfl) HSQ.out (fun hHeld=>?_);refine zi 0 ?_;iterate 16 (refine zt hHeld ?_;simp only [zA])
 refine zo ?_;refine zr 16 fun K hK=>?_
 go_simp;go_at_call 150
 refine zcm (zBz ⟨c.user,c.other⟩ _ _ _ _ (HSL.out.keep z2e (by decide) (zK zbr.drew))) ?_;rintro e3 w1 ⟨rfl,b3⟩;have Bw1:Below w0.heap.size w0 w1:=zB zbr.drew b3;clear b3 hHeld;refine hK.out _ _ (HSQ.out _ Bw1) (fun hHeld=>?_);clear hK K;refine zi 17 ?_;iterate 2 (refine zt hHeld ?_;simp only [zA])
 refine zo ?_;refine wpAnyH_done (by kernel_rfl) ?_ _;clear hHeld HSQ;have HB1:=zh Bw1;have t1:=(Bw1.cell (p:=⟨bw,1,none⟩) hlt).trans s1;have t4:=(Bw1.cell (p:=⟨bw,4,none⟩) hlt).trans s4;have t9:=(Bw1.cell (p:=⟨bw,9,none⟩) hlt).trans s9;have t8:w1.cell? ⟨gi,oi+u*2+1,none⟩=some (.bool x.lost):=(Bw1.cell (p:=⟨gi,oi+u*2+1,none⟩) hgi).trans y1;have t7:w1.cell? ⟨gi,oi+u2*2+1,none⟩=some (.bool x2.lost):=(Bw1.cell (p:=⟨gi,oi+u2*2+1,none⟩) hgi).trans y2;clear Bw1 s1 s4 s9 s10 y1 y2
 cases hd:st.deposits.any (isP ⟨c.user,c.other⟩) with
 | false=>
  go_wp2_with fail
  refine zcm (ZK 35 w1) ?_;rintro eq wq ⟨rfl,Bq⟩;obtain ⟨BW,H2,K2,y0,y1,y2,y3,y4,y5,y6,yz⟩:=zW HB1.out Bq HW.out z0 HT0.out;clear Bq;unfold yD;go_wp2;try simp only [Exit.inBlock,Exit.then]
  obtain ⟨F1,F2⟩:=Z6 K2.out (.int .i64 35) (.int .i64 0) (.string ⟨#[]⟩) (.slice none 0 0) (.slice none 0 0) (.slice none 0 0) (.slice none 0 0);refine bodyPost_ret (zq rfl rfl F1 rfl) rfl ?_;rw [show (z0h st c)=(st,ZF 35,false) from by unfold z0h;rw [show z98 st c=false from hd];rfl]
  exact Z7 H2.out (Mut.below (zB HB0.out BW.out)) (znl _) F2 (y8 ⟨by omega,by omega⟩)
 | true=>
  go_upto_region 4 with fail
  have HL2:=zh (zP1 HU2.out HX2.out);have HSQ:=zh (show ∀W':World,Below w1.heap.size w1 W'->(fun W':World=>Below w1.heap.size w1 W'/\W'.cell? ⟨bw,9,none⟩=some (.slice (some ⟨gi,oi,none⟩) st.users.length ci)/\W'.cell? ⟨bw,4,none⟩=some (.string c.other)/\W'.cell? ⟨gi,oi+u2*2+1,none⟩=some (.bool x2.lost)) W' from fun W' hW=>⟨hW,(hW.cell (p:=⟨bw,9,none⟩) (zF t9)).trans t9,(hW.cell (p:=⟨bw,4,none⟩) (zF t4)).trans t4,(hW.cell (p:=⟨gi,oi+u2*2+1,none⟩) (zF t7)).trans t7⟩);refine zE (by kernel_rfl) HSQ.out (fun hHeld=>?_);refine zi 0 ?_;iterate 11 (refine zt hHeld ?_;simp only [zA])
  refine zo ?_;refine zr 11 fun K hK=>?_
  go_simp;go_at_call 85
  refine zcm ((by have q:=z1s ((HW.out.below HB1.out).below zbr.drew) c.other;rw [HU2.out] at q;exact q:Calls _ _ _ _ fun e w'=>e= .returned (.int .i64 (u2:Int))/\Below w1.drew.heap.size w1.drew w')) ?_;rintro e3 w2 ⟨rfl,b3⟩;have Bw2:Below w1.heap.size w1 w2:=zB zbr.drew b3;clear b3 hHeld;refine hK.out _ _ (HSQ.out _ Bw2) (fun hHeld=>?_);clear hK K;refine zi 12 ?_;iterate 4 (refine zt hHeld ?_;simp only [zA])
  refine zo ?_;refine wpAnyH_done (by kernel_rfl) ?_ _;clear hHeld HSQ;have HB2:=zh (zB HB1.out Bw2);have r1:=(Bw2.cell (p:=⟨bw,1,none⟩) (zF t1)).trans t1;have r9:=(Bw2.cell (p:=⟨bw,9,none⟩) (zF t9)).trans t9;have r8:w2.cell? ⟨gi,oi+u*2+1,none⟩=some (.bool x.lost):=(HB2.out.cell (p:=⟨gi,oi+u*2+1,none⟩) hgi).trans ((HB1.out.cell (p:=⟨gi,oi+u*2+1,none⟩) hgi).symm.trans t8);clear Bw2 t1 t4 t9 t8 t7
  cases hlo:x2.lost with
  | true=>
   rw [hlo] at HL2;go_wp2_with fail
   refine zcm (ZK 20 w2) ?_;rintro eq wq ⟨rfl,Bq⟩;obtain ⟨BW,H2,K2,y0,y1,y2,y3,y4,y5,y6,yz⟩:=zW HB2.out Bq HW.out z0 HT0.out;clear Bq;unfold yD;go_wp2;try simp only [Exit.inBlock,Exit.then]
   obtain ⟨F1,F2⟩:=Z6 K2.out (.int .i64 20) (.int .i64 0) (.string ⟨#[]⟩) (.slice none 0 0) (.slice none 0 0) (.slice none 0 0) (.slice none 0 0);refine bodyPost_ret (zq rfl rfl F1 rfl) rfl ?_;rw [show (z0h st c)=(st,ZF 20,false) from by unfold z0h;rw [show z98 st c=true from hd,HL2.out];rfl]
   exact Z7 H2.out (Mut.below (zB HB0.out BW.out)) (znl _) F2 (y8 ⟨by omega,by omega⟩)
  | false=>
   rw [hlo] at HL2;have hgz:gi < w2.heap.size:=zll hgi HB2.out.size;go_wp2_with fail
   go_region_law (go_simp;go_at_call 85;refine zcm (z1s ((HW.out.below HB2.out).below zbr.drew) c.user) ?_;rintro _ w9 ⟨rfl,B9⟩;have HB9:=zh (zB zbr.drew B9);have HU9:=HU.out;rw [HU9];clear HU9 B9;simp only [iOf];have s99:=(HB9.out.cell (p:=⟨bw,9,none⟩) (zF r9)).trans r9;have s91:=(HB9.out.cell (p:=⟨bw,1,none⟩) (zF r1)).trans r1;have y19:w9.cell? ⟨gi,oi+u*2+1,none⟩=some (.bool x.lost):=(HB9.out.cell (p:=⟨gi,oi+u*2+1,none⟩) hgz).trans r8;have z9:∀q,w9.frozen? ⟨gi,q,none⟩=false:=fun q=>((z3l HB9.out).2 gi q hgz).trans (((z3l HB2.out).2 gi q hgi).trans (HZ.out q)))
   all_goals
    have B29:=zh (zB HB2.out HB9.out);have H2:=HW.out.below B29.out;obtain ⟨H9,M9⟩:=H2.usSet HX.out HV.out false;have HM9:=zh M9;have HK9:=zh (zR (a:=⟨gi,oi+u*2+1,none⟩) (.bool false) ((B29.out.block _ z0).trans HT0.out) HNA.out);clear H2 M9;have HN9:=zh (fun e=>H9.nx W.heap.size e (.inr rfl));go_wp2_with fail
    refine zcm (z33 H9 0) ?_;clear H9;rintro _ _ ⟨rfl,H10,M10⟩;have HK10:=zh ((M10.but.block _ (zO HK9.out) (fun e=>HN9.out (e.symm.imp id id))).trans HK9.out);have K10:=HK10.out;unfold zV at K10;obtain ⟨y0,y1,y2,y3,y4,y5,y6⟩:=zC7 (zD K10).1;have yz:=(zD K10).2;have HH10:=zh H10;have HM10:=zh M10;clear H10 M10 K10;unfold yD;go_wp2;try simp only [Exit.inBlock,Exit.then]
    obtain ⟨F1,F2⟩:=Z6 HK10.out (.int .i64 0) (.int .i64 0) (.string ⟨#[]⟩) (.slice none 0 0) (.slice none 0 0) (.slice none 0 0) (.slice none 0 0);refine bodyPost_ret (zq rfl rfl F1 rfl) rfl ?_;rw [show z0h st c=({ st with users:=st.users.set u { x with lost:=false } },YO 0,true) from by unfold z0h;rw [show z98 st c=true from hd,HL2.out,zIv HU.out HX.out];rfl];exact Z7 HH10.out (((Mut.below (zB HB0.out B29.out)).trans HM9.out).trans HM10.out) (znl _) F2 (z2t ⟨by omega,by omega⟩)
end
end
section
section
variable {X:Nat->Prop} {base bw:Nat} {W W':World} {R R':RM} {c:Call} {dv:Value} {st:State} {done late:Bool}
theorem zEx {l:List Item} {q:Nat} {x:Item} (hx:l[q]? =some x):((l.take (q+1)).filter z09).map Item.name=((l.take q).filter z09).map Item.name++if z09 x then [x.name] else []:=by
 rw [qLtx,hx];simp only [Option.toList_some,List.filter_append,List.map_append];congr 1;cases hb:z09 x<;>simp [hb]
theorem zMv {k:Nat} {l:List Nm} (h:z4n st c k=true) (hl:l=zEe (((fo st k).items.filter z09).map Item.name)):z6j st c k=⟨0,0,⟨#[]⟩,[],l,[],[]⟩:=by
 rw [hl];unfold z6j;rw [h];rfl
theorem zKc {k:Nat} (h:z4n st c k=false):z6j st c k=ZF 40:=by
 unfold z6j;rw [h];rfl
theorem zP4 {S:Nat->Prop} {w:World} {v:Value} {l:List Nm} (h:Sl 1 z06 S w v l):YY S w [.int .i64 0,.int .i64 0,.string ⟨#[]⟩,.slice none 0 0,v,.slice none 0 0,.slice none 0 0] ⟨0,0,⟨#[]⟩,[],l,[],[]⟩:=
 ⟨_,_,_,_,rfl,(show I64 0 from ⟨by omega,by omega⟩),(show I64 0 from ⟨by omega,by omega⟩),(show (⟨#[]⟩:Nm).size<=140737488355328 by decide),yP,h,yP,yP⟩
theorem zP5 (h:WK X base bw W R c dv st false late) {n k:Nat} (hI:VInv n st) (hn:n<=41) (hu:c.user.size<=1000) (hk:Z3 st c.folder=some k):
  Calls Tryz.prog 94 #[.pointer (some ⟨bw,0,none⟩)] W (Did X base bw W R c dv late (st,z6j st c k,false)):=by
 obtain ⟨istring,histring,hzstring,h1string,h2string⟩:=info_parts (show (Tryz.prog.info? 9).map (fun i=>(i.zero,i.size,i.bytes))=some (some (.string ⟨#[]⟩),1,16) from by kernel_rfl);have HK:=zh hk;have HKL:=zh (z2i (YI hk));have HFI:=zh (hI.atF HKL.out);have HA2:=zh (z8j hI hn HKL.out);have HVI:=zh hI;obtain ⟨w0,hw0⟩:∃w0,W.alloc (.cells zV 49)=w0:=⟨_,rfl⟩;have hN:=yA W;rw [hw0] at hN;obtain ⟨hE,B0,T0,z0⟩:=hN;have H0:=hE R h;have HW:=zh H0;have HT0:=zh T0;have HB0:=zh B0;have hlt:=H0.lt;clear hE B0 T0;have s2:w0.cell? ⟨bw,2,none⟩=some (.string c.folder):=H0.cells.1 2 _ rfl;clear h hk H0 hI;unfold zV at hw0;go_enter Tryz.func94,Tryz.ntmps94
 go_wp2_with fail
 refine zcm (yS HW.out c.folder) ?_;rintro _ _ ⟨⟨hno,rfl⟩ | ⟨k',g,o,hk',ha,rfl⟩,B1⟩
 ·exact absurd (HK.out.symm.trans hno) (by simp)
 obtain rfl:_=k':=zsi (HK.out.symm.trans hk');have HB1:=zh B1;have HA:=zh ha;have H1:=zh (HW.out.below B1);obtain ⟨_,_,_,_,_,_,_,_,_,_,eh,hF,u0,u1,u2,u3,u4,u5,u6,hg,_⟩:=H1.out.fold (ZO HKL.out) ha;have HE:=zh eh;clear B1 hk' ha eh hF;clear s2;have HRD:=zh (zEw H1.out HVI.out hn hu HK.out HA.out);go_wp2_with fail
 refine zcm HRD.out ?_;rintro _ w2 ⟨rfl,B2⟩;have HB2:=zh (zB HB1.out B2);have v4:=(B2.cell (p:=⟨g,o+4,none⟩) hg).trans u4;have H2:=zh (HW.out.below HB2.out);have hsl:=H2.out.itSl HKL.out HA.out;have e4:=HE.out;simp only [hdr,List.cons.injEq] at e4;rw [e4.2.2.2.2.1] at hsl;obtain ⟨_,_,ei,_,hi2,_,his⟩:=hsl;simp only [Value.slice.injEq] at ei;obtain ⟨rfl,_,rfl⟩:=ei;unfold maxLen at hi2;have hil:(fo st k).items.length<=5000:=by have:=HA2.out;omega
 have HIL:=zh (show (fo st k).items.length<=41*3 from by
  have h2:=z9h (yN HKL.out);have h3:=HVI.out.sum;unfold ZW at h2;omega)
 clear B2 u0 u1 u2 u3 u4 u5 u6 e4
 cases hrd:z4n st c k with
 | false=>
  have HQ:=zh hrd;go_wp2_with fail
  refine zcm (ZK 40 w2) ?_;rintro _ _ ⟨rfl,Bq⟩;obtain ⟨BW,H2,K2,y0,y1,y2,y3,y4,y5,y6,yz⟩:=zW HB2.out Bq HW.out z0 HT0.out;clear Bq;unfold yD;go_wp2;try simp only [Exit.inBlock,Exit.then]
  obtain ⟨F1,F2⟩:=Z6 K2.out (.int .i64 40) (.int .i64 0) (.string ⟨#[]⟩) (.slice none 0 0) (.slice none 0 0) (.slice none 0 0) (.slice none 0 0);refine bodyPost_ret (zq rfl rfl F1 rfl) rfl ?_;rw [show (st,z6j st c k,false)=(st,ZF 40,false) from by rw [zKc HQ.out]]
  exact Z7 H2.out (Mut.below (zB HB0.out BW.out)) (znl _) F2 (y8 ⟨by omega,by omega⟩)
 | true=>
  have HQ:=zh hrd;go_wp2;go_loopw [4,24] (fun vo i wr=>∃(q:Nat) (L:List Nm),q<=(fo st k).items.length/\i= .int .i64 q/\Hid (Grow 9 1 z06 (fun _=>False) wr w2.heap.size vo L)/\Hid (L=(((fo st k).items.take q).filter z09).map Item.name)/\Below w2.heap.size w2 wr) (fun _ i _=>(fo st k).items.length - (intOf i).toNat)
  case atStart=>exact ⟨0,[],by omega,by go_num,zh Grow.nil,zh (by simp),Below.refl _ _⟩
  obtain ⟨q,L,_,rfl,HG,HL,hbel⟩:=hrel;obtain ⟨A6,_,c6,rfl,hn6⟩:=HG.out.shape';subst hn6;have hzr:=hbel.size;have HLL:=zh (show L.length<=41*3/\∀s∈L,s.size<=20 from by
   rw [HL.out];refine ⟨?_,fun s hs=>?_⟩
   ·rw [qLmx];refine qNtx (List.length_filter_le _ _) ?_;rw [List.length_take];have:=HIL.out;omega
   ·obtain ⟨x,hx,rfl⟩:=List.mem_map.1 hs;exact (HFI.out.it x (List.mem_of_mem_take (List.mem_filter.1 hx).1)).2.2)
  have hL9:L.length<=5000:=by have:=HLL.out.1;omega
  by_cases hlt:q < (fo st k).items.length
  ·obtain ⟨x,b,_,A1,c1,hx,_,hm,rfl,_,_,x0,x1,hR,hnm,hv1,hv2,hv3,hvs⟩:=z5a his hlt (zK hbel);have HX:=zh hx;have HNM:=zh hnm;obtain ⟨wx,_,cwx,fwx,Bwx,qwx⟩:=zQ wr #[.string x.name,.slice A1 x.versions.length c1] 78;have y0:=cwx 0 _ rfl;have y1:=cwx 1 _ rfl;have HRx:=zh (z5q hR (zK Bwx));have HVP:=zh (List.length_pos_iff.2 (HFI.out.it x hm).1);have HBx:=zh Bwx;have hil2:(q:Int) < ((fo st k).items.length:Int):=by omega
   clear hx hR hnm hv1 hv2 hv3 hvs cwx fwx Bwx;go_wp2_with fail
   refine zcm (zAc x HVP.out _ wx _ HRx.out) ?_;rintro _ w5 ⟨rfl,B5⟩;have t0:=(B5.cell (p:=⟨wr.heap.size,0,none⟩) qwx).trans y0;have HB5:=zh (zB HBx.out B5);have HG5:=zh (HG.out.below ZT HB5.out);have hz5:w2.heap.size<=w5.heap.size:=qNtx hzr HB5.out.size;clear B5 y0 y1 x0 x1
   cases hh:z09 x with
   | false=>
    have EH:=zh (show L=(((fo st k).items.take (q+1)).filter z09).map Item.name from by rw [zEx HX.out,hh,HL.out];simp);go_wp2;go_roundw
    case rel=>exact ⟨q+1,L,by omega,by go_num,HG5,EH,zB hbel HB5.out⟩
    case measure=>exact qMx
   | true=>
    have EH:=zh (show L++[x.name]=(((fo st k).items.take (q+1)).filter z09).map Item.name from by rw [zEx HX.out,hh,HL.out];simp);go_wp2_with (at_builtin;go_loud (refine yZ (R:=z06) _ _ rfl (.tmp 30) (.tmp 33) 45 rfl 9 istring _ 1 16 Tryz.underlying45 histring hzstring h1string h2string rfl (by decide) ZT w2.heap.size hz5 _ _ rfl HG5.out _ _ rfl (by simp only [zS]) _ (by intro b hb;exact hb.elim) ⟨rfl,HNM.out⟩ (by omega) (by decide) ?_);intro v8 w8 g8 gg8 go8;obtain ⟨_,_,_,rfl,hn8⟩:=g8.shape';have G8:=zh g8;have GG8:=zh gg8;clear hn8 g8 gg8 go8)
    go_roundw
    case rel=>exact ⟨q+1,L++[x.name],by omega,by go_num,G8,EH,Below.grown (zB hbel HB5.out) GG8.out (by omega) fun b hb=>(HG5.out.base_le b hb).1⟩
    case measure=>exact qMx
  obtain rfl:q=(fo st k).items.length:=by omega
  have HLE:=zh (show L=((fo st k).items.filter z09).map Item.name from by have:=HL.out;rwa [qLnx] at this);go_wp2_with fail
  refine zcm (zLr HG.out (by have:=HLL.out.1;omega) (fun s hs=>by have:=HLL.out.2 s hs;omega)) ?_;rintro _ w9 ⟨rfl,⟨Rn,hRs,hRp,hRo⟩,gg9⟩;have HB29:=zh (Below.grown hbel gg9 (by omega) fun b hb=>(HG.out.base_le b hb).1);have HB9:=zh (zB HB2.out HB29.out);have H9:=zh (HW.out.below HB9.out);have HK9:=zh ((HB9.out.block _ z0).trans HT0.out);have HRN:=zh (show Rn=zEe (((fo st k).items.filter z09).map Item.name) from zMu hRo (zEv _).2 (hRp.trans (by rw [HLE.out];exact (zEv _).1.symm)));have HSR:=zh hRs;have HOB:=zh (show ∀b,(Value.slice A6 L.length c6).ownBlock=some b->w2.heap.size<=b/\b < w9.heap.size from fun b hb=>⟨(HG.out.base_le b hb).1,zll (HG.out.base_le b hb).2 gg9.size⟩);have K9:=HK9.out;unfold zV at K9;obtain ⟨y0,y1,y2,y3,y4,y5,y6⟩:=zC7 (zD K9).1;have yz:=(zD K9).2;clear K9 hRs hRp hRo gg9;go_wp2;try simp only [Exit.inBlock,Exit.then]
  obtain ⟨F1,F2⟩:=Z6 HK9.out (.int .i64 0) (.int .i64 0) (.string ⟨#[]⟩) (.slice none 0 0) (.slice A6 L.length c6) (.slice none 0 0) (.slice none 0 0);refine bodyPost_ret (zq rfl rfl F1 rfl) rfl ?_;rw [zMv HQ.out HRN.out];refine Z7 H9.out (Mut.below (zB HB0.out HB9.out)) (znl _) F2 (zP4 (zP3 ZT HSR.out (fun _ _ e=>e) (fun b hb=>?_)));obtain ⟨_,b2⟩:=HOB.out b hb;have hz:=HB2.out.size;exact ⟨b2,fun e=>by have:=HW.out.lt;omega,fun e=>by have:=HW.out.os.lt e;omega,fun e=>by have:=HW.out.xl _ e;omega⟩
end
end
end Go.Proofs.YtdggplhnfhcieaaGreatDoor
