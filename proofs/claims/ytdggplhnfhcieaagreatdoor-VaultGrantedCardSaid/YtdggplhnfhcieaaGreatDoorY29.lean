/- Part 29 of the proof of vaultGranted_holds. No condition. -/
import Derived.Test.YtdggplhnfhcieaaGreatDoorY11
import Derived.Test.YtdggplhnfhcieaaGreatDoorY28
set_option linter.unusedVariables false
set_option linter.unusedSimpArgs false
set_option linter.unusedSectionVars false
set_option maxRecDepth 100000
namespace Go.Proofs.YtdggplhnfhcieaaGreatDoor
open Go.RowKit Go.Deep
section
section
variable {X:Nat->Prop} {base bw:Nat} {W:World} {R:RM} {c:Call} {dv:Value} {st:State} {late:Bool}
theorem zGj {st:State} {s:Nm} {u:Nat} {x:User} (hu:yR st s=some u) (hx:st.users[u]? =some x) (b:Bool):lostS st s b={ st with users:=st.users.set u { x with lost:=b } }:=by
 unfold lostS
 rw [hu]
 simp only [State.mk.injEq,and_true,true_and]
 apply List.ext_getElem?
 intro j
 rw [List.getElem?_modify,List.getElem?_set]
 have hl:=(zge hx).1
 by_cases h:u=j
 ·subst h
  rw [if_pos rfl,if_pos hl,hx]
  simp
 rw [if_neg h]
 simp [h]
theorem zDh {st:State} {s:Nm} {u:Nat} (hu:yR st s=some u):∃x,st.users[u]? =some x/\x.name=s:=by
 obtain ⟨hl,hp,_⟩:=List.findIdx?_eq_some_iff_getElem.1 hu
 exact ⟨_,List.getElem?_eq_getElem hl,by simpa [isU] using hp⟩
set_option maxHeartbeats 8000000 in
theorem zM2 (h:WK X base bw W R c dv st false late) {u:Nat} (hu:yR st c.user=some u):
  Calls Tryz.prog 98 #[.pointer (some ⟨bw,0,none⟩)] W (Did X base bw W R c dv late (z7t st c)):=by
 obtain ⟨x,hx,hxn⟩:=zDh hu
 obtain ⟨w0,hw0⟩:∃w0,W.alloc (.cells zQ 49)=w0:=⟨_,rfl⟩
 have hN:=ZV W
 rw [hw0] at hN
 obtain ⟨hE,B0,T0,z0⟩:=hN
 have H0:=hE R h
 have HW:=zh H0
 have HT0:=zh T0
 have HB0:=zh B0
 have hlt:=H0.lt
 clear hE B0 T0
 have s1:w0.cell? ⟨bw,1,none⟩=some (.string c.user):=H0.cells.1 1 _ rfl
 have s9:w0.cell? ⟨bw,9,none⟩=some (R .us).v:=H0.cells.1 9 _ rfl
 obtain ⟨_,hcs,hxr⟩:=H0.is.users.at hx
 obtain ⟨gi,oi,ci,hvi,hci1,hci2,hgi,hci,hzi⟩:=(H0.os.row .us).at hcs
 obtain ⟨rfl,hxs⟩:=hxr
 have hul:=(zge hx).1
 have hlen:(R .us).cells.length=st.users.length:=H0.is.users.1
 rw [hlen] at hvi hci1
 rw [hvi] at s9
 have y1:w0.cell? ⟨gi,oi+u*2+1,none⟩=some (.bool x.lost):=hci 1 _ rfl
 have HZ:=zh hzi
 have HV:=zh hvi
 have HNA:=zh (show ¬(W.heap.size=gi) from fun e=>H0.nx W.heap.size (.inl ⟨.us,by rw [hvi,e];rfl⟩) (.inr rfl))
 have hugt:((u:Int) < (st.users.length:Int)):=by omega
 unfold maxLen at hci2
 have hcap:st.users.length<=ci:=by omega
 have hci9:ci<=9223372036854775807:=by omega
 have HX:=zh hx
 have HU:=zh hu
 clear h hvi hcs hci hzi hx hu hci1 H0 hxn hlen hxs
 unfold zQ at hw0
 go_enter Tryz.func98,Tryz.ntmps98
 go_wp2_with fail
 go_region_law (go_simp;go_at_call 85;refine zcm (z0p (HW.out.below zbr.drew) c.user) ?_;rintro _ w9 ⟨rfl,B9⟩;have HB9:=zh (zB zbr.drew B9);have HU9:=HU.out;rw [HU9];clear HU9 B9;simp only [iOf];have s99:=(HB9.out.cell (p:=⟨bw,9,none⟩) hlt).trans s9;have s91:=(HB9.out.cell (p:=⟨bw,1,none⟩) hlt).trans s1;have y19:w9.cell? ⟨gi,oi+u*2+1,none⟩=some (.bool x.lost):=(HB9.out.cell (p:=⟨gi,oi+u*2+1,none⟩) hgi).trans y1;have z9:∀q,w9.frozen? ⟨gi,q,none⟩=false:=fun q=>((z2j HB9.out).2 gi q hgi).trans (HZ.out q))
 all_goals
  have H2:=HW.out.below HB9.out
  obtain ⟨H9,M9⟩:=H2.usSet HX.out HV.out true
  have HM9:=zh M9
  have HK9:=zh (zP (a:=⟨gi,oi+u*2+1,none⟩) (.bool true) ((HB9.out.block _ z0).trans HT0.out) HNA.out)
  clear H2 M9
  have HN9:=zh (fun e=>H9.nx W.heap.size e (.inr rfl))
  go_wp2_with fail
  refine zcm (z23 H9 0) ?_
  clear H9
  rintro _ _ ⟨rfl,H10,M10⟩
  have HK10:=zh ((M10.but.block _ (zM HK9.out) (fun e=>HN9.out (e.symm.imp id id))).trans HK9.out)
  have K10:=HK10.out
  unfold zQ at K10
  obtain ⟨y0,y1,y2,y3,y4,y5,y6⟩:=zC7 (zD K10).1
  have yz:=(zD K10).2
  have HH10:=zh H10
  have HM10:=zh M10
  clear H10 M10 K10
  unfold ZW
  go_wp2
  try simp only [Exit.inBlock,Exit.then]
  obtain ⟨F1,F2⟩:=Z4 HK10.out (.int .i64 0) (.int .i64 0) (.string ⟨#[]⟩) (.slice none 0 0) (.slice none 0 0) (.slice none 0 0) (.slice none 0 0)
  refine bodyPost_ret (zq rfl rfl F1 rfl) rfl ?_
  rw [show z7t st c=({ st with users:=st.users.set u { x with lost:=true } },YF 0,true) from by unfold z7t;rw [zGj HU.out HX.out]]
  exact Z6 HH10.out (((Mut.below (zB HB0.out HB9.out)).trans HM9.out).trans HM10.out) (znl _) F2 (z1o ⟨by omega,by omega⟩)
theorem zM3 {st:State} {s:Nm} {u:Nat} {x:User} (hu:yR st s=some u) (hx:st.users[u]? =some x):zFq st s=x.lost:=by
 unfold zFq
 rw [hu]
 simp [hx]
set_option maxHeartbeats 8000000 in
theorem zGk (h:WK X base bw W R c dv st false late) {u u2:Nat} (hu:yR st c.user=some u) (hu2:yR st c.other=some u2):
  Calls Tryz.prog 99 #[.pointer (some ⟨bw,0,none⟩)] W (Did X base bw W R c dv late (z0u st c)):=by
 obtain ⟨x,hx,hxn⟩:=zDh hu
 obtain ⟨x2,hx2,hxn2⟩:=zDh hu2
 obtain ⟨w0,hw0⟩:∃w0,W.alloc (.cells zQ 49)=w0:=⟨_,rfl⟩
 have hN:=ZV W
 rw [hw0] at hN
 obtain ⟨hE,B0,T0,z0⟩:=hN
 have H0:=hE R h
 have HW:=zh H0
 have HT0:=zh T0
 have HB0:=zh B0
 have hlt:=H0.lt
 clear hE B0 T0
 have s1:w0.cell? ⟨bw,1,none⟩=some (.string c.user):=H0.cells.1 1 _ rfl
 have s4:w0.cell? ⟨bw,4,none⟩=some (.string c.other):=H0.cells.1 4 _ rfl
 have s9:w0.cell? ⟨bw,9,none⟩=some (R .us).v:=H0.cells.1 9 _ rfl
 have s10:w0.cell? ⟨bw,10,none⟩=some (R .de).v:=H0.cells.1 10 _ rfl
 obtain ⟨_,hcs,hxr⟩:=H0.is.users.at hx
 obtain ⟨gi,oi,ci,hvi,hci1,hci2,hgi,hci,hzi⟩:=(H0.os.row .us).at hcs
 obtain ⟨rfl,hxs⟩:=hxr
 obtain ⟨_,hcs2,hxr2⟩:=H0.is.users.at hx2
 obtain ⟨_,_,_,hvi2,_,_,_,hci2',_⟩:=(H0.os.row .us).at hcs2
 obtain ⟨rfl,hxs2⟩:=hxr2
 have hvi2':=hvi2
 rw [hvi] at hvi2'
 simp only [Value.slice.injEq,Option.some.injEq,Addr.mk.injEq,and_true] at hvi2'
 obtain ⟨⟨rfl,rfl⟩,_,rfl⟩:=hvi2'
 have hul:=(zge hx).1
 have hul2:=(zge hx2).1
 have hlen:(R .us).cells.length=st.users.length:=H0.is.users.1
 rw [hlen] at hvi hci1
 rw [hvi] at s9
 have y1:w0.cell? ⟨gi,oi+u*2+1,none⟩=some (.bool x.lost):=hci 1 _ rfl
 have y2:w0.cell? ⟨gi,oi+u2*2+1,none⟩=some (.bool x2.lost):=hci2' 1 _ rfl
 have HZ:=zh hzi
 have HV:=zh hvi
 have HNA:=zh (show ¬(W.heap.size=gi) from fun e=>H0.nx W.heap.size (.inl ⟨.us,by rw [hvi,e];rfl⟩) (.inr rfl))
 have hugt:((u:Int) < (st.users.length:Int)):=by omega
 have hugt2:((u2:Int) < (st.users.length:Int)):=by omega
 unfold maxLen at hci2
 have hcap:st.users.length<=ci:=by omega
 have hci9:ci<=9223372036854775807:=by omega
 obtain ⟨D,f,hv,_⟩:=(H0.os.row .de).shape
 rw [H0.is.deps.1] at hv
 rw [hv] at s10
 have HSL:=zh (show Sl 2 YV (fun _=>True) w0 (.slice D st.deposits.length f) st.deposits from by rw [<-hv];exact H0.deSl)
 have HX:=zh hx
 have HU:=zh hu
 have HX2:=zh hx2
 have HU2:=zh hu2
 clear h hvi hvi2 hcs hcs2 hci hci2' hzi hx hu hx2 hu2 hci1 H0 hxn hxn2 hlen hxs hxs2 hv
 unfold zQ at hw0
 go_enter Tryz.func99,Tryz.ntmps99
 go_upto_region 2 with fail
 have HSQ:=zh (show ∀W':World,Below w0.heap.size w0 W'->(fun W':World=>Below w0.heap.size w0 W'/\W'.cell? ⟨bw,10,none⟩=some (.slice D st.deposits.length f)/\W'.cell? ⟨bw,1,none⟩=some (.string c.user)/\W'.cell? ⟨bw,4,none⟩=some (.string c.other)) W' from fun W' hW=>⟨hW,(hW.cell (p:=⟨bw,10,none⟩) (zF s10)).trans s10,(hW.cell (p:=⟨bw,1,none⟩) (zF s1)).trans s1,(hW.cell (p:=⟨bw,4,none⟩) (zF s4)).trans s4⟩)
 refine zE (by kernel_rfl) HSQ.out (fun hHeld=>?_)
 refine zi 0 ?_
 iterate 16 (refine zt _ rfl (by kernel_rfl) rfl (fun _ _ _ h=>h) hHeld (by intro W' h;go_simp;try with_reducible rfl) ?_;simp only [zA])
 refine zo ?_
 refine zr 16 (by kernel_rfl) rfl (fun K hK=>?_)
 go_simp
 go_at_call 150
 refine zcm (zA5 ⟨c.user,c.other⟩ _ _ _ _ (HSL.out.keep z19 (by decide) (zH zbr.drew))) ?_
 rintro e3 w1 ⟨rfl,b3⟩
 have Bw1:Below w0.heap.size w0 w1:=zB zbr.drew b3
 clear b3 hHeld
 refine hK.out _ _ (HSQ.out _ Bw1) (fun hHeld=>?_)
 clear hK K
 refine zi 17 ?_
 iterate 2 (refine zt _ rfl (by kernel_rfl) rfl (fun _ _ _ h=>h) hHeld (by intro W' h;go_simp;try with_reducible rfl) ?_;simp only [zA])
 refine zo ?_
 refine wpAnyH_done (by kernel_rfl) ?_ _
 clear hHeld HSQ
 have HB1:=zh Bw1
 have t1:=(Bw1.cell (p:=⟨bw,1,none⟩) hlt).trans s1
 have t4:=(Bw1.cell (p:=⟨bw,4,none⟩) hlt).trans s4
 have t9:=(Bw1.cell (p:=⟨bw,9,none⟩) hlt).trans s9
 have t8:w1.cell? ⟨gi,oi+u*2+1,none⟩=some (.bool x.lost):=(Bw1.cell (p:=⟨gi,oi+u*2+1,none⟩) hgi).trans y1
 have t7:w1.cell? ⟨gi,oi+u2*2+1,none⟩=some (.bool x2.lost):=(Bw1.cell (p:=⟨gi,oi+u2*2+1,none⟩) hgi).trans y2
 clear Bw1 s1 s4 s9 s10 y1 y2
 cases hd:st.deposits.any (isP ⟨c.user,c.other⟩) with
 | false=>
  go_wp2_with fail
  refine zcm (ZG 35 w1) ?_
  rintro eq wq ⟨rfl,Bq⟩
  obtain ⟨BW,H2,K2,y0,y1,y2,y3,y4,y5,y6,yz⟩:=zW HB1.out Bq HW.out z0 HT0.out
  clear Bq
  unfold ZW
  go_wp2
  try simp only [Exit.inBlock,Exit.then]
  obtain ⟨F1,F2⟩:=Z4 K2.out (.int .i64 35) (.int .i64 0) (.string ⟨#[]⟩) (.slice none 0 0) (.slice none 0 0) (.slice none 0 0) (.slice none 0 0)
  refine bodyPost_ret (zq rfl rfl F1 rfl) rfl ?_
  rw [show (z0u st c)=(st,ZD 35,false) from by unfold z0u;rw [show z7s st c=false from hd];rfl]
  exact Z6 H2.out (Mut.below (zB HB0.out BW.out)) (znl _) F2 (ZU ⟨by omega,by omega⟩)
 | true=>
  go_upto_region 4 with fail
  have HL2:=zh (zM3 HU2.out HX2.out)
  have HSQ:=zh (show ∀W':World,Below w1.heap.size w1 W'->(fun W':World=>Below w1.heap.size w1 W'/\W'.cell? ⟨bw,9,none⟩=some (.slice (some ⟨gi,oi,none⟩) st.users.length ci)/\W'.cell? ⟨bw,4,none⟩=some (.string c.other)/\W'.cell? ⟨gi,oi+u2*2+1,none⟩=some (.bool x2.lost)) W' from fun W' hW=>⟨hW,(hW.cell (p:=⟨bw,9,none⟩) (zF t9)).trans t9,(hW.cell (p:=⟨bw,4,none⟩) (zF t4)).trans t4,(hW.cell (p:=⟨gi,oi+u2*2+1,none⟩) (zF t7)).trans t7⟩)
  refine zE (by kernel_rfl) HSQ.out (fun hHeld=>?_)
  refine zi 0 ?_
  iterate 11 (refine zt _ rfl (by kernel_rfl) rfl (fun _ _ _ h=>h) hHeld (by intro W' h;go_simp;try with_reducible rfl) ?_;simp only [zA])
  refine zo ?_
  refine zr 11 (by kernel_rfl) rfl (fun K hK=>?_)
  go_simp
  go_at_call 85
  refine zcm ((by have q:=z0p ((HW.out.below HB1.out).below zbr.drew) c.other;rw [HU2.out] at q;exact q:Calls _ _ _ _ fun e w'=>e= .returned (.int .i64 (u2:Int))/\Below w1.drew.heap.size w1.drew w')) ?_
  rintro e3 w2 ⟨rfl,b3⟩
  have Bw2:Below w1.heap.size w1 w2:=zB zbr.drew b3
  clear b3 hHeld
  refine hK.out _ _ (HSQ.out _ Bw2) (fun hHeld=>?_)
  clear hK K
  refine zi 12 ?_
  iterate 4 (refine zt _ rfl (by kernel_rfl) rfl (fun _ _ _ h=>h) hHeld (by intro W' h;go_simp;try with_reducible rfl) ?_;simp only [zA])
  refine zo ?_
  refine wpAnyH_done (by kernel_rfl) ?_ _
  clear hHeld HSQ
  have HB2:=zh (zB HB1.out Bw2)
  have r1:=(Bw2.cell (p:=⟨bw,1,none⟩) (zF t1)).trans t1
  have r9:=(Bw2.cell (p:=⟨bw,9,none⟩) (zF t9)).trans t9
  have r8:w2.cell? ⟨gi,oi+u*2+1,none⟩=some (.bool x.lost):=(HB2.out.cell (p:=⟨gi,oi+u*2+1,none⟩) hgi).trans ((HB1.out.cell (p:=⟨gi,oi+u*2+1,none⟩) hgi).symm.trans t8)
  clear Bw2 t1 t4 t9 t8 t7
  cases hlo:x2.lost with
  | true=>
   rw [hlo] at HL2
   go_wp2_with fail
   refine zcm (ZG 20 w2) ?_
   rintro eq wq ⟨rfl,Bq⟩
   obtain ⟨BW,H2,K2,y0,y1,y2,y3,y4,y5,y6,yz⟩:=zW HB2.out Bq HW.out z0 HT0.out
   clear Bq
   unfold ZW
   go_wp2
   try simp only [Exit.inBlock,Exit.then]
   obtain ⟨F1,F2⟩:=Z4 K2.out (.int .i64 20) (.int .i64 0) (.string ⟨#[]⟩) (.slice none 0 0) (.slice none 0 0) (.slice none 0 0) (.slice none 0 0)
   refine bodyPost_ret (zq rfl rfl F1 rfl) rfl ?_
   rw [show (z0u st c)=(st,ZD 20,false) from by unfold z0u;rw [show z7s st c=true from hd,HL2.out];rfl]
   exact Z6 H2.out (Mut.below (zB HB0.out BW.out)) (znl _) F2 (ZU ⟨by omega,by omega⟩)
  | false=>
   rw [hlo] at HL2
   have hgz:gi < w2.heap.size:=zll hgi HB2.out.size
   go_wp2_with fail
   go_region_law (go_simp;go_at_call 85;refine zcm (z0p ((HW.out.below HB2.out).below zbr.drew) c.user) ?_;rintro _ w9 ⟨rfl,B9⟩;have HB9:=zh (zB zbr.drew B9);have HU9:=HU.out;rw [HU9];clear HU9 B9;simp only [iOf];have s99:=(HB9.out.cell (p:=⟨bw,9,none⟩) (zF r9)).trans r9;have s91:=(HB9.out.cell (p:=⟨bw,1,none⟩) (zF r1)).trans r1;have y19:w9.cell? ⟨gi,oi+u*2+1,none⟩=some (.bool x.lost):=(HB9.out.cell (p:=⟨gi,oi+u*2+1,none⟩) hgz).trans r8;have z9:∀q,w9.frozen? ⟨gi,q,none⟩=false:=fun q=>((z2j HB9.out).2 gi q hgz).trans (((z2j HB2.out).2 gi q hgi).trans (HZ.out q)))
   all_goals
    have B29:=zh (zB HB2.out HB9.out)
    have H2:=HW.out.below B29.out
    obtain ⟨H9,M9⟩:=H2.usSet HX.out HV.out false
    have HM9:=zh M9
    have HK9:=zh (zP (a:=⟨gi,oi+u*2+1,none⟩) (.bool false) ((B29.out.block _ z0).trans HT0.out) HNA.out)
    clear H2 M9
    have HN9:=zh (fun e=>H9.nx W.heap.size e (.inr rfl))
    go_wp2_with fail
    refine zcm (z23 H9 0) ?_
    clear H9
    rintro _ _ ⟨rfl,H10,M10⟩
    have HK10:=zh ((M10.but.block _ (zM HK9.out) (fun e=>HN9.out (e.symm.imp id id))).trans HK9.out)
    have K10:=HK10.out
    unfold zQ at K10
    obtain ⟨y0,y1,y2,y3,y4,y5,y6⟩:=zC7 (zD K10).1
    have yz:=(zD K10).2
    have HH10:=zh H10
    have HM10:=zh M10
    clear H10 M10 K10
    unfold ZW
    go_wp2
    try simp only [Exit.inBlock,Exit.then]
    obtain ⟨F1,F2⟩:=Z4 HK10.out (.int .i64 0) (.int .i64 0) (.string ⟨#[]⟩) (.slice none 0 0) (.slice none 0 0) (.slice none 0 0) (.slice none 0 0)
    refine bodyPost_ret (zq rfl rfl F1 rfl) rfl ?_
    rw [show z0u st c=({ st with users:=st.users.set u { x with lost:=false } },YF 0,true) from by unfold z0u;rw [show z7s st c=true from hd,HL2.out,zGj HU.out HX.out];rfl]
    exact Z6 HH10.out (((Mut.below (zB HB0.out B29.out)).trans HM9.out).trans HM10.out) (znl _) F2 (z1o ⟨by omega,by omega⟩)
end
end
section
structure VS (P:Nat->Prop) (bv:Nat) (w:World) (st:State) (q r:Int):Prop where
 box:∃v1 v2 v3,w.heap[bv]? =some (.cells #[.int .i64 st.turn,v1,v2,v3,.int .i64 q,.int .i64 r,.bool true] 95 (0,0))/\ZX (fun b=>¬P b) w [.int .i64 st.turn,v1,v2,v3] st
 pb:P bv
 pl:∀b,P b->b < w.heap.size
section
variable {P:Nat->Prop} {bv:Nat} {w w':World} {st:State} {q r:Int}
theorem VS.lt (h:VS P bv w st q r):bv < w.heap.size:=by
 obtain ⟨_,_,_,h1,_⟩:=h.box
 exact zM h1
theorem VS.below (h:VS P bv w st q r) (hb:Below w.heap.size w w'):VS P bv w' st q r:=by
 obtain ⟨v1,v2,v3,h1,h2⟩:=h.box
 exact ⟨⟨v1,v2,v3,by rw [hb.block bv h.lt];exact h1,zR h2 (zH hb)⟩,h.pb,fun b hp=>zll (h.pl b hp) hb.size⟩
theorem z7f {n:Nat} (hI:VInv n st) (hn:n<=41) (hd:yP st):CopyOk st:=by
 have hf:=hI.few
 have hu:=hI.u16
 refine ⟨by omega,by omega,by omega,fun f hf=>?_,fun f hf m hm=>?_,fun f hf e he=>?_,fun f hf x hx=>⟨?_,fun v hv=>?_⟩⟩
 ·obtain ⟨k,hk,e⟩:=List.getElem_of_mem hf
  have hfo:fo st k=f:=by unfold fo;rw [List.getElem?_eq_getElem hk,e];rfl
  have:=z6z hI hn hk
  rw [hfo] at this
  omega
 ·have:=((hI.fol f hf).mn m hm).2.1
  omega
 ·have:=((hI.fol f hf).ec e he).1
  omega
 ·have:=((hI.fol f hf).it x hx).2.1
  omega
 have:=hd f hf x hx v hv
 omega
set_option maxHeartbeats 4000000 in
theorem z5q (h:VS P bv w st q r) (ok:CopyOk st):
  Calls Tryz.prog 19 #[.pointer (some ⟨bv,0,none⟩)] w fun e w'=>∃cs:List Value,e= .returned (.agg cs.toArray)/\ZX (fun b=>¬P b) w' cs st/\Below w.heap.size w w':=by
 obtain ⟨_,_,_,h1,h2⟩:=h.box
 have hlt:=h.lt
 have HPL:=zh h.pl
 obtain ⟨A1,c1,A2,c2,A3,c3,e3,_⟩:=ZL h2
 simp only [List.cons.injEq,true_and,and_true] at e3
 obtain ⟨rfl,rfl,rfl⟩:=e3
 obtain ⟨w0,hw0,cw0,fw0,Bw0,qw0⟩:=zO w #[.int .i64 0,.slice none 0 0,.slice none 0 0,.slice none 0 0] 34
 have HR0:=zh (zbx hw0)
 have HB0:=zh Bw0
 have h1':=(Bw0.block bv hlt).trans h1
 obtain ⟨s0,s1,s2,s3⟩:=zC4 (zD h1').1
 have hz0:w0.heap.size=w.heap.size+1:=by rw [<-hw0,World.size_alloc]
 have HZ0:=zh hz0
 have HC:=zh (zBw st [.int .i64 st.turn,.slice A1 st.users.length c1,.slice A2 st.deposits.length c2,.slice A3 st.folders.length c3] w0 (fun b=>¬P b/\b < w.heap.size) (zR h2 fun b hb hl=>⟨⟨hb,hl⟩,Bw0.block b hl⟩) ok)
 clear hz0 h h1 h1' h2 ok cw0 fw0 Bw0
 go_enter Tryz.func19,Tryz.ntmps19
 go_wp2_with fail
 refine zcm HC.out ?_
 rintro e1 _ ⟨R,rfl,B1,os,is⟩
 obtain ⟨E1,n1,p1,he1⟩:=(os.row .us).shape3
 obtain ⟨E2,n2,p2,he2⟩:=(os.row .de).shape3
 obtain ⟨E3,n3,p3,he3⟩:=(os.row .fo).shape3
 have HRS:=zh (is.stateS os)
 have HOS:=zh os
 have HR1:=zh ((B1.block _ qw0).trans HR0.out)
 have HB1:=zh (zB HB0.out B1)
 have HBB:=zh B1
 rw [he1,he2,he3]
 rw [he1,he2,he3] at HRS
 obtain ⟨b0,b1,b2,b3⟩:=zC4 (zD HR1.out).1
 have bz:=(zD HR1.out).2
 clear os is B1 s0 s1 s2 s3 he1 he2 he3
 go_wp2
 try simp only [Exit.inBlock,Exit.then]
 obtain ⟨F1,F2⟩:=zGm HR1.out (.int .i64 st.turn) (.slice E1 n1 p1) (.slice E2 n2 p2) (.slice E3 n3 p3)
 refine bodyPost_ret (results_cell_row rfl _ _ w.heap.size 34 _ (0,0) _ rfl F1 Tryz.underlying34 rfl (by kernel_rfl)) rfl ?_
 have hlow:∀b,yS R b->w.heap.size+1<=b:=fun b ⟨k,e⟩=>by rw [<-HZ0.out];exact HOS.out.low k b e
 refine ⟨_,rfl,zR HRS.out fun b hb hl=>?_,(((HB1.out.setCell (znl _) _).setCell (znl _) _).setCell (znl _) _).setCell (znl _) _⟩
 rcases hb with e | ⟨_,_,e⟩
 ·have:=hlow b e
  exact ⟨fun hp=>by have:=HPL.out b hp;omega,F2 b (by omega)⟩
 by_cases hl0:b < w0.heap.size
 ·obtain ⟨e1,_⟩:=e hl0
  exact ⟨e1,F2 b (by omega)⟩
 rw [HZ0.out] at hl0
 exact ⟨fun hp=>by have:=HPL.out b hp;omega,F2 b (by omega)⟩
theorem zMg (w:World) (q r:Int):VS (fun b=>b=w.heap.size) w.heap.size (w.alloc (.cells #[.int .i64 0,.slice none 0 0,.slice none 0 0,.slice none 0 0,.int .i64 q,.int .i64 r,.bool true] 95)) ⟨0,[],[],[]⟩ q r:=
 ⟨⟨.slice none 0 0,.slice none 0 0,.slice none 0 0,zJ _ rfl,_,_,_,rfl,⟨by show (_:Int)<=0;omega,by show (0:Int)<=_;omega⟩,yF,yF,yF⟩,rfl,fun b hb=>by have:b=w.heap.size:=hb;rw [World.size_alloc];omega⟩
theorem zGp (w:World) (q r:Int) (hq:0<=q/\0<=r):
  Calls Tryz.prog 10 #[.int .i64 q,.int .i64 r] w fun e w'=>e= .returned (.tuple #[.pointer (some ⟨w.heap.size,0,none⟩),.int .i64 0])/\VS (fun b=>b=w.heap.size) w.heap.size w' ⟨0,[],[],[]⟩ q r/\Below w.heap.size w w':=by
 have h1:decide (q < 0)=false:=decide_eq_false (by omega)
 have h2:decide (r < 0)=false:=decide_eq_false (by omega)
 have HV:=zh (zMg w q r)
 have HB:=zh (show Below w.heap.size w (w.alloc (.cells #[.int .i64 0,.slice none 0 0,.slice none 0 0,.slice none 0 0,.int .i64 q,.int .i64 r,.bool true] 95)) from Below.alloc zbr (znl _) _)
 clear hq
 go_enter Tryz.func10,Tryz.ntmps10
 go_wp2
 refine bodyPost_ret (results_tmp2 rfl _ _ _) rfl ?_
 exact ⟨rfl,HV.out,HB.out⟩
end
end
section
section
variable {X:Nat->Prop} {base bw:Nat} {W W':World} {R R':RM} {c:Call} {dv:Value} {st:State} {done late:Bool}
theorem zBu {l:List Item} {q:Nat} {x:Item} (hx:l[q]? =some x):((l.take (q+1)).filter YI).map Item.name=((l.take q).filter YI).map Item.name++if YI x then [x.name] else []:=by
 rw [List.take_add_one,hx]
 simp only [Option.toList_some,List.filter_append,List.map_append]
 congr 1
 cases hb:YI x<;>simp [hb]
theorem zK2 {k:Nat} {l:List Nm} (h:z3e st c k=true) (hl:l=zBa (((fo st k).items.filter YI).map Item.name)):z56 st c k=⟨0,0,⟨#[]⟩,[],l,[],[]⟩:=by
 rw [hl]
 unfold z56
 rw [h]
 rfl
theorem zHr {k:Nat} (h:z3e st c k=false):z56 st c k=ZD 40:=by
 unfold z56
 rw [h]
 rfl
theorem zM6 {S:Nat->Prop} {w:World} {v:Value} {l:List Nm} (h:Sl 1 z2i S w v l):YC S w [.int .i64 0,.int .i64 0,.string ⟨#[]⟩,.slice none 0 0,v,.slice none 0 0,.slice none 0 0] ⟨0,0,⟨#[]⟩,[],l,[],[]⟩:=
 ⟨_,_,_,_,rfl,(show I64 0 from ⟨by omega,by omega⟩),(show I64 0 from ⟨by omega,by omega⟩),(show (⟨#[]⟩:Nm).size<=140737488355328 by decide),yF,h,yF,yF⟩
set_option maxHeartbeats 8000000 in
theorem zM7 (h:WK X base bw W R c dv st false late) {n k:Nat} (hI:VInv n st) (hn:n<=41) (hu:c.user.size<=1000) (hk:Z7 st c.folder=some k):
  Calls Tryz.prog 94 #[.pointer (some ⟨bw,0,none⟩)] W (Did X base bw W R c dv late (st,z56 st c k,false)):=by
 obtain ⟨istring,histring,hzstring,h1string,h2string⟩:=info_parts (show (Tryz.prog.info? 9).map (fun i=>(i.zero,i.size,i.bytes))=some (some (.string ⟨#[]⟩),1,16) from by kernel_rfl)
 have HK:=zh hk
 have HKL:=zh (z1g (Y2 hk))
 have HFI:=zh (hI.atF HKL.out)
 have HA2:=zh (z6z hI hn HKL.out)
 have HVI:=zh hI
 obtain ⟨w0,hw0⟩:∃w0,W.alloc (.cells zQ 49)=w0:=⟨_,rfl⟩
 have hN:=ZV W
 rw [hw0] at hN
 obtain ⟨hE,B0,T0,z0⟩:=hN
 have H0:=hE R h
 have HW:=zh H0
 have HT0:=zh T0
 have HB0:=zh B0
 have hlt:=H0.lt
 clear hE B0 T0
 have s2:w0.cell? ⟨bw,2,none⟩=some (.string c.folder):=H0.cells.1 2 _ rfl
 clear h hk H0 hI
 unfold zQ at hw0
 go_enter Tryz.func94,Tryz.ntmps94
 go_wp2_with fail
 refine zcm (yG HW.out c.folder) ?_
 rintro _ _ ⟨⟨hno,rfl⟩ | ⟨k',g,o,hk',ha,rfl⟩,B1⟩
 ·exact absurd (HK.out.symm.trans hno) (by simp)
 obtain rfl:_=k':=zsi (HK.out.symm.trans hk')
 have HB1:=zh B1
 have HA:=zh ha
 have H1:=zh (HW.out.below B1)
 obtain ⟨_,_,_,_,_,_,_,_,_,_,eh,hF,u0,u1,u2,u3,u4,u5,u6,hg,_⟩:=H1.out.fold (ZK HKL.out) ha
 have HE:=zh eh
 have HF:=zh hF
 clear B1 hk' ha eh hF
 clear s2
 have HRD:=zh (zBt H1.out HVI.out hn hu HK.out HA.out)
 go_wp2_with fail
 refine zcm HRD.out ?_
 rintro _ w2 ⟨rfl,B2⟩
 have HB2:=zh (zB HB1.out B2)
 have v4:=(B2.cell (p:=⟨g,o+4,none⟩) hg).trans u4
 have H2:=zh (HW.out.below HB2.out)
 have hsl:=H2.out.itSl HKL.out HA.out
 have e4:=HE.out
 simp only [hdr,List.cons.injEq] at e4
 rw [e4.2.2.2.2.1] at hsl
 obtain ⟨_,_,ei,_,hi2,_,his⟩:=hsl
 simp only [Value.slice.injEq] at ei
 obtain ⟨rfl,_,rfl⟩:=ei
 unfold maxLen at hi2
 have hil:(fo st k).items.length<=5000:=by have:=HA2.out;omega
 have HIL:=zh (show (fo st k).items.length<=41*3 from by
  have h2:=z83 (z3f HKL.out)
  have h3:=HVI.out.sum
  unfold ZQ at h2
  omega)
 clear B2 u0 u1 u2 u3 u4 u5 u6 e4
 cases hrd:z3e st c k with
 | false=>
  have HQ:=zh hrd
  go_wp2_with fail
  refine zcm (ZG 40 w2) ?_
  rintro _ _ ⟨rfl,Bq⟩
  obtain ⟨BW,H2,K2,y0,y1,y2,y3,y4,y5,y6,yz⟩:=zW HB2.out Bq HW.out z0 HT0.out
  clear Bq
  unfold ZW
  go_wp2
  try simp only [Exit.inBlock,Exit.then]
  obtain ⟨F1,F2⟩:=Z4 K2.out (.int .i64 40) (.int .i64 0) (.string ⟨#[]⟩) (.slice none 0 0) (.slice none 0 0) (.slice none 0 0) (.slice none 0 0)
  refine bodyPost_ret (zq rfl rfl F1 rfl) rfl ?_
  rw [show (st,z56 st c k,false)=(st,ZD 40,false) from by rw [zHr HQ.out]]
  exact Z6 H2.out (Mut.below (zB HB0.out BW.out)) (znl _) F2 (ZU ⟨by omega,by omega⟩)
 | true=>
  have HQ:=zh hrd
  go_wp2
  go_loopw [4,24] (fun vo i wr=>∃(q:Nat) (L:List Nm),q<=(fo st k).items.length/\i= .int .i64 q/\Hid (Grow 9 1 z2i (fun _=>False) wr w2.heap.size vo L)/\Hid (L=(((fo st k).items.take q).filter YI).map Item.name)/\Below w2.heap.size w2 wr) (fun _ i _=>(fo st k).items.length - (RowKit.intOf i).toNat)
  case atStart=>exact ⟨0,[],by omega,by go_num,zh Grow.nil,zh (by simp),Below.refl _ _⟩
  obtain ⟨q,L,_,rfl,HG,HL,hbel⟩:=hrel
  obtain ⟨A6,_,c6,rfl,hn6⟩:=HG.out.shape'
  subst hn6
  have hzr:=hbel.size
  have HLL:=zh (show L.length<=41*3/\∀s∈L,s.size<=20 from by
   rw [HL.out]
   refine ⟨?_,fun s hs=>?_⟩
   ·rw [List.length_map]
    refine Nat.le_trans (List.length_filter_le _ _) ?_
    rw [List.length_take]
    have:=HIL.out
    omega
   ·obtain ⟨x,hx,rfl⟩:=List.mem_map.1 hs
    exact (HFI.out.it x (List.mem_of_mem_take (List.mem_filter.1 hx).1)).2.2)
  have hL9:L.length<=5000:=by have:=HLL.out.1;omega
  by_cases hlt:q < (fo st k).items.length
  ·obtain ⟨x,b,_,A1,c1,hx,_,hm,rfl,_,_,x0,x1,hR,hnm,hv1,hv2,hv3,hvs⟩:=z2m his hlt (zH hbel)
   have HX:=zh hx
   have HNM:=zh hnm
   obtain ⟨wx,_,cwx,fwx,Bwx,qwx⟩:=zO wr #[.string x.name,.slice A1 x.versions.length c1] 78
   have y0:=cwx 0 _ rfl
   have y1:=cwx 1 _ rfl
   have HRx:=zh (z4f hR (zH Bwx))
   have HVP:=zh (List.length_pos_iff.2 (HFI.out.it x hm).1)
   have HBx:=zh Bwx
   have hil2:(q:Int) < ((fo st k).items.length:Int):=by omega
   clear hx hR hnm hv1 hv2 hv3 hvs cwx fwx Bwx
   go_wp2_with fail
   refine zcm (z8r x HVP.out _ wx _ HRx.out) ?_
   rintro _ w5 ⟨rfl,B5⟩
   have t0:=(B5.cell (p:=⟨wr.heap.size,0,none⟩) qwx).trans y0
   have HB5:=zh (zB HBx.out B5)
   have HG5:=zh (HG.out.below YK HB5.out)
   have hz5:w2.heap.size<=w5.heap.size:=Nat.le_trans hzr HB5.out.size
   clear B5 y0 y1 x0 x1
   cases hh:YI x with
   | false=>
    have EH:=zh (show L=(((fo st k).items.take (q+1)).filter YI).map Item.name from by rw [zBu HX.out,hh,HL.out];simp)
    go_wp2
    go_roundw
    case rel=>exact ⟨q+1,L,by omega,by go_num,HG5,EH,zB hbel HB5.out⟩
    case measure=>simp [RowKit.intOf];omega
   | true=>
    have EH:=zh (show L++[x.name]=(((fo st k).items.take (q+1)).filter YI).map Item.name from by rw [zBu HX.out,hh,HL.out];simp)
    go_wp2_with (at_builtin;go_loud (refine YM (R:=z2i) _ _ rfl (.tmp 30) (.tmp 33) 45 rfl 9 istring _ 1 16 Tryz.underlying45 histring hzstring h1string h2string rfl (by decide) YK w2.heap.size hz5 _ _ rfl HG5.out _ _ rfl (by simp only [zS]) _ (by intro b hb;exact hb.elim) ⟨rfl,HNM.out⟩ (by omega) (by decide) ?_);intro v8 w8 g8 gg8 go8;obtain ⟨_,_,_,rfl,hn8⟩:=g8.shape';have G8:=zh g8;have GG8:=zh gg8;clear hn8 g8 gg8 go8)
    go_roundw
    case rel=>exact ⟨q+1,L++[x.name],by omega,by go_num,G8,EH,Below.grown (zB hbel HB5.out) GG8.out (by omega) fun b hb=>(HG5.out.base_le b hb).1⟩
    case measure=>simp [RowKit.intOf];omega
  obtain rfl:q=(fo st k).items.length:=by omega
  have HLE:=zh (show L=((fo st k).items.filter YI).map Item.name from by have:=HL.out;rwa [List.take_length] at this)
  go_wp2_with fail
  refine zcm (zIw HG.out (by have:=HLL.out.1;omega) (fun s hs=>by have:=HLL.out.2 s hs;omega)) ?_
  rintro _ w9 ⟨rfl,⟨Rn,hRs,hRp,hRo⟩,gg9⟩
  have HB29:=zh (Below.grown hbel gg9 (by omega) fun b hb=>(HG.out.base_le b hb).1)
  have HB9:=zh (zB HB2.out HB29.out)
  have H9:=zh (HW.out.below HB9.out)
  have HK9:=zh ((HB9.out.block _ z0).trans HT0.out)
  have HRN:=zh (show Rn=zBa (((fo st k).items.filter YI).map Item.name) from zK1 hRo (zBs _).2 (hRp.trans (by rw [HLE.out];exact (zBs _).1.symm)))
  have HSR:=zh hRs
  have HOB:=zh (show ∀b,(Value.slice A6 L.length c6).ownBlock=some b->w2.heap.size<=b/\b < w9.heap.size from fun b hb=>⟨(HG.out.base_le b hb).1,zll (HG.out.base_le b hb).2 gg9.size⟩)
  have K9:=HK9.out
  unfold zQ at K9
  obtain ⟨y0,y1,y2,y3,y4,y5,y6⟩:=zC7 (zD K9).1
  have yz:=(zD K9).2
  clear K9 hRs hRp hRo gg9
  go_wp2
  try simp only [Exit.inBlock,Exit.then]
  obtain ⟨F1,F2⟩:=Z4 HK9.out (.int .i64 0) (.int .i64 0) (.string ⟨#[]⟩) (.slice none 0 0) (.slice A6 L.length c6) (.slice none 0 0) (.slice none 0 0)
  refine bodyPost_ret (zq rfl rfl F1 rfl) rfl ?_
  rw [zK2 HQ.out HRN.out]
  refine Z6 H9.out (Mut.below (zB HB0.out HB9.out)) (znl _) F2 (zM6 (zM5 YK HSR.out (fun _ _ e=>e) (fun b hb=>?_)))
  obtain ⟨_,b2⟩:=HOB.out b hb
  have hz:=HB2.out.size
  exact ⟨b2,fun e=>by have:=HW.out.lt;omega,fun e=>by have:=HW.out.os.lt e;omega,fun e=>by have:=HW.out.xl _ e;omega⟩
end
end
end Go.Proofs.YtdggplhnfhcieaaGreatDoor
