/- Part 28 of the proof of vaultGranted_holds. No condition. -/
import Derived.Test.YtdggplhnfhcieaaGreatDoorY25
import Derived.Test.YtdggplhnfhcieaaGreatDoorY26
set_option linter.unusedVariables false
set_option linter.unusedSimpArgs false
set_option linter.unusedSectionVars false
set_option maxRecDepth 100000
namespace Go.Proofs.YtdggplhnfhcieaaGreatDoor
open Go.RowKit Go.Deep
def isP (p q:Pair):Bool:=decide (q.frm=p.frm) && decide (q.to=p.to)
set_option maxHeartbeats 8000000 in
theorem zK0 (p:Pair) (l:List Pair) (v:Value) (w:World) (S:Nat->Prop) (h:Sl 2 YV S w v l):
  Calls Tryz.prog 182 #[v,.agg #[.string p.frm,.string p.to]] w fun e w'=>e= .returned (.int .i64 (iOf (l.findIdx? (isP p))))/\Below w.heap.size w w':=by
 have eg:Tryz.prog.eqGuardType Tryz.prog.depth 126=false:=by kernel_rfl
 have sh:Tryz.prog.stoodInHeld 126=false:=by kernel_rfl
 have uf:=Tryz.underlying126
 obtain ⟨_,_,rfl,_,hc,_,hs⟩:=h
 unfold maxLen at hc
 obtain ⟨w0,_,cw0,_,Bw0,qw0⟩:=zO w #[.string p.frm,.string p.to] 126
 have z0:=cw0 0 _ rfl
 have z1:=cw0 1 _ rfl
 have HB:=zh Bw0
 clear cw0 Bw0
 go_enter Tryz.func182,Tryz.ntmps182
 go_wp2
 go_loopw [8] (fun i wr=>∃(k:Nat),k<=l.length/\i= .int .i64 k/\Hid (∀y∈l.take k,isP p y=false)/\Below w0.heap.size w0 wr) (fun i _=>l.length - (RowKit.intOf i).toNat)
 case atStart=>exact ⟨0,by omega,by go_num,(fun y hy=>by simp at hy),Below.refl _ _⟩
 obtain ⟨k,_,rfl,HN,hbel⟩:=hrel
 by_cases hlt:k < l.length
 rotate_left
 ·obtain rfl:k=l.length:=by omega
  have EH:=zh (z65 (p:=isP p) (l:=l) (by have:=HN.out;rwa [List.take_length] at this))
  go_wp2
  go_ret
  exact ⟨by rw [EH.out];rfl,zB HB.out hbel⟩
 obtain ⟨x,_,_,hx,_,_,rfl,_,_,_,_,xr,_⟩:=zA9 hs hlt (zH (zB HB.out hbel))
 have HX:=zh hx
 have y0:=(hbel.cell (p:=⟨w.heap.size,0,none⟩) qw0).trans z0
 have y1:=(hbel.cell (p:=⟨w.heap.size,1,none⟩) qw0).trans z1
 clear hx xr
 by_cases h1:p.frm=x.frm
 rotate_left
 ·have EP:=zh (z0c HN.out HX.out (show isP p x=false by unfold isP;simp;intro e;exact absurd e.symm h1))
  have q1:(p.frm.toList==x.frm.toList)=false:=z1e h1
  go_wp2_with fail
  go_quiet (fail)
  go_wp2
  go_roundw
  case rel=>exact ⟨k+1,by omega,by go_num,EP,yC hbel _⟩
  case measure=>simp [RowKit.intOf];omega
 by_cases h2:p.to=x.to
 ·have EP:=zh (show isP p x=true by unfold isP;rw [h1,h2];simp)
  have EH:=zh (z3y HN.out HX.out EP.out)
  rw [h1,h2] at y0 y1
  go_wp2_with fail
  go_quiet (fail)
  go_wp2
  go_ret
  exact ⟨by rw [EH.out];rfl,zB HB.out (yC hbel _)⟩
 have EP:=zh (z0c HN.out HX.out (show isP p x=false by unfold isP;simp;intro _ e;exact h2 e.symm))
 have q2:(p.to.toList==x.to.toList)=false:=z1e h2
 rw [h1] at y0
 go_wp2_with fail
 go_quiet (fail)
 go_wp2
 go_roundw
 case rel=>exact ⟨k+1,by omega,by go_num,EP,yC hbel _⟩
 case measure=>simp [RowKit.intOf];omega
theorem zA5 (p:Pair) (l:List Pair) (v:Value) (w:World) (S:Nat->Prop) (h:Sl 2 YV S w v l):
  Calls Tryz.prog 150 #[v,.agg #[.string p.frm,.string p.to]] w fun e w'=>e= .returned (.bool (l.any (isP p)))/\Below w.heap.size w w':=by
 obtain ⟨w0,_,cw0,_,Bw0,_⟩:=zO w #[.string p.frm,.string p.to] 126
 have z0:=cw0 0 _ rfl
 have z1:=cw0 1 _ rfl
 have HB:=zh Bw0
 have HC:=zh (zK0 p l v w0 S (h.keep z19 (by decide) (zH Bw0)))
 obtain ⟨_,_,rfl,_⟩:=h
 clear cw0 Bw0
 go_enter Tryz.func150,Tryz.ntmps150
 go_wp2_with fail
 refine zcm HC.out ?_
 rintro e _ ⟨rfl,B1⟩
 cases hi:l.findIdx? (isP p) with
 | none=>
  have EA:=zh (show l.any (isP p)=false from List.any_eq_false.2 fun x hx=>by simp [List.findIdx?_eq_none_iff.1 hi x hx])
  simp only [iOf]
  go_wp2
  go_ret
  exact ⟨ZI EA.out.symm,zB HB.out B1⟩
 | some i=>
  have EA:=zh (show l.any (isP p)=true from by
   obtain ⟨hl,hp,_⟩:=List.findIdx?_eq_some_iff_getElem.1 hi
   exact List.any_eq_true.2 ⟨_,List.getElem_mem hl,hp⟩)
  simp only [iOf]
  go_wp2
  go_ret
  exact ⟨ZI EA.out.symm,zB HB.out B1⟩
section
section
variable {X:Nat->Prop} {base bw:Nat} {W:World} {R:RM} {c:Call} {dv:Value} {st:State} {late:Bool}
set_option maxHeartbeats 8000000 in
theorem zF2 (h:WK X base bw W R c dv st false late) (hl:st.users.length<=9999):
  Calls Tryz.prog 87 #[.pointer (some ⟨bw,0,none⟩)] W (Did X base bw W R c dv late (z0d st c)):=by
 obtain ⟨iUser,hiUser,hzUser,h1User,h2User⟩:=info_parts (show (Tryz.prog.info? 91).map (fun i=>(i.zero,i.size,i.bytes))=some (some (.agg #[.string ⟨#[]⟩,.bool false]),2,24) from by kernel_rfl)
 obtain ⟨_,_,e7,hkind,hus,_⟩:=Y7 h.call
 clear e7 hkind
 have HUS:=zh hus
 obtain ⟨w0,hw0⟩:∃w0,W.alloc (.cells zQ 49)=w0:=⟨_,rfl⟩
 have hN:=ZV W
 rw [hw0] at hN
 obtain ⟨hE,B0,T0,z0⟩:=hN
 have H0:=hE R h
 have HW:=zh H0
 have HT0:=zh T0
 have HB0:=zh B0
 have HU:=zh (z0p H0 c.user)
 obtain ⟨s1,s9⟩:w0.cell? ⟨bw,1,none⟩=some (.string c.user)/\w0.cell? ⟨bw,9,none⟩=some (R .us).v:=⟨H0.cells.1 1 _ rfl,H0.cells.1 9 _ rfl⟩
 obtain ⟨D,f,hv,_⟩:=(h.os.row .us).shape
 rw [h.is.users.1] at hv
 rw [hv] at s9
 have HV:=zh hv
 have hlt:=H0.lt
 clear h hv hus H0 hE B0 T0
 unfold zQ at hw0
 go_enter Tryz.func87,Tryz.ntmps87
 go_wp2_with fail
 refine zcm HU.out ?_
 rintro _ w1 ⟨rfl,B1⟩
 have HB1:=zh B1
 cases hu:yR st c.user with
 | some u=>
  simp only [iOf]
  clear B1
  go_wp2_with fail
  refine zcm (ZG 42 w1) ?_
  rintro eq wq ⟨rfl,Bq⟩
  obtain ⟨BW,H2,K2,y0,y1,y2,y3,y4,y5,y6,yz⟩:=zW HB1.out Bq HW.out z0 HT0.out
  clear Bq
  unfold ZW
  go_wp2
  try simp only [Exit.inBlock,Exit.then]
  obtain ⟨F1,F2⟩:=Z4 K2.out (.int .i64 42) (.int .i64 0) (.string ⟨#[]⟩) (.slice none 0 0) (.slice none 0 0) (.slice none 0 0) (.slice none 0 0)
  refine bodyPost_ret (zq rfl rfl F1 rfl) rfl ?_
  rw [show (z0d st c)=(st,ZD 42,false) from by unfold z0d;rw [hu];rfl]
  exact Z6 H2.out (Mut.below (zB HB0.out BW.out)) (znl _) F2 (ZU ⟨by omega,by omega⟩)
 | none=>
  simp only [iOf]
  have t1:=(B1.cell (p:=⟨bw,1,none⟩) hlt).trans s1
  have t9:=(B1.cell (p:=⟨bw,9,none⟩) hlt).trans s9
  clear B1 s1 s9
  by_cases h16:16<=st.users.length
  ·have hg:(decide (16<=(st.users.length:Int)))=true:=decide_eq_true (by omega)
   go_wp2_with fail
   refine zcm (ZG 3 w1) ?_
   rintro eq wq ⟨rfl,Bq⟩
   obtain ⟨BW,H2,K2,y0,y1,y2,y3,y4,y5,y6,yz⟩:=zW HB1.out Bq HW.out z0 HT0.out
   clear Bq
   unfold ZW
   go_wp2
   try simp only [Exit.inBlock,Exit.then]
   obtain ⟨F1,F2⟩:=Z4 K2.out (.int .i64 3) (.int .i64 0) (.string ⟨#[]⟩) (.slice none 0 0) (.slice none 0 0) (.slice none 0 0) (.slice none 0 0)
   refine bodyPost_ret (zq rfl rfl F1 rfl) rfl ?_
   rw [show (z0d st c)=(st,ZD 3,false) from by unfold z0d;rw [hu];simp [h16]]
   exact Z6 H2.out (Mut.below (zB HB0.out BW.out)) (znl _) F2 (ZU ⟨by omega,by omega⟩)
  have hg:(decide (16<=(st.users.length:Int)))=false:=decide_eq_false (by omega)
  have H1:=HW.out.below HB1.out
  have HH1:=zh H1
  have HROW:=zh (show RowC 91 2 w1 (.slice D st.users.length f) (R .us).cells from by rw [<-HV.out];exact H1.os.row .us)
  have HLEN:=zh (show (R .us).cells.length<=9999 from by rw [H1.is.users.1];exact hl)
  have HNB:=zh (show (Value.slice D st.users.length f).ownBlock≠some bw from fun e=>H1.nb ⟨.us,by rw [HV.out];exact e⟩)
  have HNA:=zh (show (Value.slice D st.users.length f).ownBlock≠some W.heap.size from fun e=>H1.nx W.heap.size (.inl ⟨.us,by rw [HV.out];exact e⟩) (.inr rfl))
  have HK1:=zh ((HB1.out.block _ z0).trans HT0.out)
  have s9z:∀q,w1.frozen? ⟨bw,q,none⟩=false:=H1.cells.2
  have HBX:=zh H1.box
  have hlt1:=H1.lt
  clear H1
  go_wp2_with fail
  go_region_law (refine z0b w1 _ [.string c.user,.bool false] rfl (.tmp 27) (.tmp 34) 30 rfl iUser _ 24 Tryz.underlying30 hiUser hzUser h1User h2User rfl (by decide) (by decide) (.slice D st.users.length f) (R .us).cells rfl _ _ rfl HROW.out (by go_grown) (Nat.le_succ_of_le HLEN.out) rfl (by intro u hu;simp at hu;rcases hu with rfl | rfl<;>rfl) (by repeat' first|with_reducible assumption|((with_reducible first|refine zP _ ?_ ?_|apply zJ);rotate_left;first|with_reducible rfl|((try dsimp only);first|with_reducible assumption|omega|(simp only [zS];done)|(simp only [zS];omega)))|with_reducible apply zI|with_reducible refine zZ _ ?_|with_reducible refine ZH ?_|refine (rfl:(_:Array Value)=_)) ?_;intro v8 w8 r8 p8 o8;obtain ⟨A8,n8,cp8,rfl⟩:=r8.shape3;have HR8:=zh r8;have HP8:=zh p8;have HO8:=zh o8;have k8:=p8.block bw hlt1 HNB.out;have s98:=(World.cell?_of_block (a:=⟨bw,9,none⟩) k8).trans t9;have z8:∀q,w8.frozen? ⟨bw,q,none⟩=false:=(fun q=>by unfold World.frozen?;rw [k8];exact s9z q);clear k8 r8 p8 o8)
  all_goals
   have HX:=zh (HW.out.below HB1.out)
   obtain ⟨H9,M9⟩:=HX.out.usTo (l:=st.users++[⟨c.user,false⟩]) (by simp;have:=HLEN.out;omega) HR8.out (by rw [HV.out];exact HP8.out) (by rw [HV.out];exact HO8.out) (HX.out.is.users.snoc ⟨rfl,HUS.out⟩)
   have HM9:=zh M9
   have HN9:=zh (fun e=>H9.nx W.heap.size e (.inr rfl))
   have K9:=zP (a:=⟨bw,9,none⟩) (.slice A8 n8 cp8) ((HP8.out.block _ (zM HK1.out) HNA.out).trans HK1.out) (fun e=>HN9.out (.inr e))
   have HK9:=zh K9
   go_wp2_with fail
   refine zcm (z23 H9 0) ?_
   clear H9 M9 K9
   rintro _ _ ⟨rfl,H10,M10⟩
   have HK10:=zh ((M10.but.block _ (zM HK9.out) (fun e=>HN9.out (e.symm.imp id id))).trans HK9.out)
   have K10:=HK10.out
   unfold zQ at K10
   obtain ⟨y0,y1,y2,y3,y4,y5,y6⟩:=zC7 (zD K10).1
   have yz:=(zD K10).2
   have HH10:=zh H10
   have HM10:=zh M10
   clear H10 M10 K10
   unfold ZW
   go_wp2
   try simp only [Exit.inBlock,Exit.then]
   obtain ⟨F1,F2⟩:=Z4 HK10.out (.int .i64 0) (.int .i64 0) (.string ⟨#[]⟩) (.slice none 0 0) (.slice none 0 0) (.slice none 0 0) (.slice none 0 0)
   refine bodyPost_ret (zq rfl rfl F1 rfl) rfl ?_
   rw [show z0d st c=({ st with users:=st.users++[⟨c.user,false⟩] },YF 0,true) from by unfold z0d;rw [hu];simp [h16]]
   exact Z6 HH10.out ((Mut.below (zB HB0.out HB1.out)).trans (HM9.out.trans HM10.out)) (znl _) F2 (z1o ⟨by omega,by omega⟩)
end
end
section
section
variable {X:Nat->Prop} {base bw:Nat} {W:World} {R:RM} {c:Call} {dv:Value} {st:State} {late:Bool}
set_option maxHeartbeats 8000000 in
theorem zGi (h:WK X base bw W R c dv st false late) (hl:st.deposits.length<=9999):
  Calls Tryz.prog 97 #[.pointer (some ⟨bw,0,none⟩)] W (Did X base bw W R c dv late (z21 st c)):=by
 obtain ⟨iPair,hiPair,hzPair,h1Pair,h2Pair⟩:=info_parts (show (Tryz.prog.info? 126).map (fun i=>(i.zero,i.size,i.bytes))=some (some (.agg #[.string ⟨#[]⟩,.string ⟨#[]⟩]),2,32) from by kernel_rfl)
 obtain ⟨_,_,e7,hkind,hus,_,_,hot,_⟩:=Y7 h.call
 clear e7 hkind
 have HUS:=zh hus
 have HOT:=zh hot
 obtain ⟨w0,hw0⟩:∃w0,W.alloc (.cells zQ 49)=w0:=⟨_,rfl⟩
 have hN:=ZV W
 rw [hw0] at hN
 obtain ⟨hE,B0,T0,z0⟩:=hN
 have H0:=hE R h
 have HW:=zh H0
 have HT0:=zh T0
 have HB0:=zh B0
 obtain ⟨s1,s4,s10⟩:w0.cell? ⟨bw,1,none⟩=some (.string c.user)/\w0.cell? ⟨bw,4,none⟩=some (.string c.other)/\w0.cell? ⟨bw,10,none⟩=some (R .de).v:=⟨H0.cells.1 1 _ rfl,H0.cells.1 4 _ rfl,H0.cells.1 10 _ rfl⟩
 obtain ⟨D,f,hv,_⟩:=(h.os.row .de).shape
 rw [h.is.deps.1] at hv
 rw [hv] at s10
 have HV:=zh hv
 have hlt:=H0.lt
 clear h hv hus hot H0 hE B0 T0
 unfold zQ at hw0
 go_enter Tryz.func97,Tryz.ntmps97
 go_upto_region 1 with fail
 go_cut [3] from 4 to 14 (fun s3 wx=>s3= .pointer (some ⟨w0.heap.size,0,none⟩)/\wx=(w0.alloc (.cells #[.string c.user,.string c.other] 126)).drew)
 case first=>
  go_region_law fail
  all_goals
   go_wp2
   go_meet
   case rel=>exact ⟨rfl,rfl⟩
 obtain ⟨rfl,hwc⟩:=hcut
 have B1:Below w0.heap.size w0 wc:=by rw [hwc];exact (Below.alloc zbr (znl _) _).drew
 have P1:wc.heap[w0.heap.size]? =some (.cells #[.string c.user,.string c.other] 126 (0,0)):=by rw [hwc];exact ZH (zJ _ rfl)
 have HP1:=zh P1
 have p0:wc.cell? ⟨w0.heap.size,0,none⟩=some (.string c.user):=(zD P1).1 0 _ rfl
 have p1:wc.cell? ⟨w0.heap.size,1,none⟩=some (.string c.other):=(zD P1).1 1 _ rfl
 have t10:wc.cell? ⟨bw,10,none⟩=some (.slice D st.deposits.length f):=(B1.cell (p:=⟨bw,10,none⟩) hlt).trans s10
 have HB1:=zh B1
 have HH1:=zh (HW.out.below B1)
 have HSL:=zh (show Sl 2 YV (fun _=>True) wc (.slice D st.deposits.length f) st.deposits from by rw [<-HV.out];exact HH1.out.deSl)
 clear hwc B1 P1 s1 s4 s10
 go_upto_region 2 with fail
 have HSQ:=zh (show ∀W':World,Below wc.heap.size wc W'->(fun W':World=>Below wc.heap.size wc W'/\W'.cell? ⟨bw,10,none⟩=some (.slice D st.deposits.length f)/\W'.cell? ⟨w0.heap.size,0,none⟩=some (.string c.user)/\W'.cell? ⟨w0.heap.size,1,none⟩=some (.string c.other)) W' from fun W' hW=>⟨hW,(hW.cell (p:=⟨bw,10,none⟩) (zF t10)).trans t10,(hW.cell (p:=⟨w0.heap.size,0,none⟩) (zF p0)).trans p0,(hW.cell (p:=⟨w0.heap.size,1,none⟩) (zF p1)).trans p1⟩)
 refine zE (by kernel_rfl) HSQ.out (fun hHeld=>?_)
 refine zi 0 ?_
 iterate 6 (refine zt _ rfl (by kernel_rfl) rfl (fun _ _ _ h=>h) hHeld (by intro W' h;go_simp;try with_reducible rfl) ?_;simp only [zA])
 refine zo ?_
 refine zr 6 (by kernel_rfl) rfl (fun K hK=>?_)
 go_simp
 go_at_call 150
 refine zcm (zA5 ⟨c.user,c.other⟩ _ _ _ _ (HSL.out.keep z19 (by decide) (zH zbr.drew))) ?_
 rintro _ w2 ⟨rfl,b3⟩
 have Bw2:Below wc.heap.size wc w2:=zB zbr.drew b3
 clear b3 hHeld
 refine hK.out _ _ (HSQ.out _ Bw2) (fun hHeld=>?_)
 clear hK K
 refine wpAnyH_done (by kernel_rfl) ?_ _
 clear hHeld HSQ
 have HB2:=zh (zB HB1.out Bw2)
 have t20:=(Bw2.cell (p:=⟨bw,10,none⟩) (zF t10)).trans t10
 have q0:=(Bw2.cell (p:=⟨w0.heap.size,0,none⟩) (zF p0)).trans p0
 have q1:=(Bw2.cell (p:=⟨w0.heap.size,1,none⟩) (zF p1)).trans p1
 clear Bw2 t10 p0 p1
 cases hd:st.deposits.any (isP ⟨c.user,c.other⟩) with
 | true=>
  go_wp2_with fail
  refine zcm (ZG 42 w2) ?_
  rintro _ _ ⟨rfl,Bq⟩
  obtain ⟨BW,H2,K2,y0,y1,y2,y3,y4,y5,y6,yz⟩:=zW HB2.out Bq HW.out z0 HT0.out
  clear Bq
  unfold ZW
  go_wp2
  try simp only [Exit.inBlock,Exit.then]
  obtain ⟨F1,F2⟩:=Z4 K2.out (.int .i64 42) (.int .i64 0) (.string ⟨#[]⟩) (.slice none 0 0) (.slice none 0 0) (.slice none 0 0) (.slice none 0 0)
  refine bodyPost_ret (zq rfl rfl F1 rfl) rfl ?_
  rw [show (z21 st c)=(st,ZD 42,false) from by unfold z21;rw [show z7s st c=true from hd];rfl]
  exact Z6 H2.out (Mut.below (zB HB0.out BW.out)) (znl _) F2 (ZU ⟨by omega,by omega⟩)
 | false=>
  have H1:=HW.out.below HB2.out
  have HH2:=zh H1
  have HROW:=zh (show RowC 126 2 w2 (.slice D st.deposits.length f) (R .de).cells from by rw [<-HV.out];exact H1.os.row .de)
  have HLEN:=zh (show (R .de).cells.length<=9999 from by rw [H1.is.deps.1];exact hl)
  have HNB:=zh (show (Value.slice D st.deposits.length f).ownBlock≠some bw from fun e=>H1.nb ⟨.de,by rw [HV.out];exact e⟩)
  have HNA:=zh (show (Value.slice D st.deposits.length f).ownBlock≠some W.heap.size from fun e=>H1.nx W.heap.size (.inl ⟨.de,by rw [HV.out];exact e⟩) (.inr rfl))
  have HK1:=zh ((HB2.out.block _ z0).trans HT0.out)
  have s9z:∀q,w2.frozen? ⟨bw,q,none⟩=false:=H1.cells.2
  have hlt1:=H1.lt
  clear H1
  go_wp2_with fail
  go_region_law (refine z0b w2 _ [.string c.user,.string c.other] rfl (.tmp 28) (.tmp 30) 31 rfl iPair _ 32 Tryz.underlying31 hiPair hzPair h1Pair h2Pair rfl (by decide) (by decide) (.slice D st.deposits.length f) (R .de).cells rfl _ _ rfl HROW.out (by go_grown) (Nat.le_succ_of_le HLEN.out) rfl (by intro u hu;simp at hu;rcases hu with rfl | rfl<;>rfl) (by repeat' first|with_reducible assumption|((with_reducible first|refine zP _ ?_ ?_|apply zJ);rotate_left;first|with_reducible rfl|((try dsimp only);first|with_reducible assumption|omega|(simp only [zS];done)|(simp only [zS];omega)))|with_reducible apply zI|with_reducible refine zZ _ ?_|with_reducible refine ZH ?_|refine (rfl:(_:Array Value)=_)) ?_;intro v8 w8 r8 p8 o8;obtain ⟨A8,n8,cp8,rfl⟩:=r8.shape3;have HR8:=zh r8;have HP8:=zh p8;have HO8:=zh o8;have k8:=p8.block bw hlt1 HNB.out;have s98:=(World.cell?_of_block (a:=⟨bw,10,none⟩) k8).trans t20;have z8:∀q,w8.frozen? ⟨bw,q,none⟩=false:=(fun q=>by unfold World.frozen?;rw [k8];exact s9z q);clear k8 r8 p8 o8)
  all_goals
   obtain ⟨H9,M9⟩:=HH2.out.deTo (l:=st.deposits++[⟨c.user,c.other⟩]) (by simp;have:=HLEN.out;omega) HR8.out (by rw [HV.out];exact HP8.out) (by rw [HV.out];exact HO8.out) (HH2.out.is.deps.snoc ⟨rfl,HUS.out,HOT.out⟩)
   have HM9:=zh M9
   have HN9:=zh (fun e=>H9.nx W.heap.size e (.inr rfl))
   have K9:=zP (a:=⟨bw,10,none⟩) (.slice A8 n8 cp8) ((HP8.out.block _ (zM HK1.out) HNA.out).trans HK1.out) (fun e=>HN9.out (.inr e))
   have HK9:=zh K9
   go_wp2_with fail
   refine zcm (z23 H9 0) ?_
   clear H9 M9 K9
   rintro _ _ ⟨rfl,H10,M10⟩
   have HK10:=zh ((M10.but.block _ (zM HK9.out) (fun e=>HN9.out (e.symm.imp id id))).trans HK9.out)
   have K10:=HK10.out
   unfold zQ at K10
   obtain ⟨y0,y1,y2,y3,y4,y5,y6⟩:=zC7 (zD K10).1
   have yz:=(zD K10).2
   have HH10:=zh H10
   have HM10:=zh M10
   clear H10 M10 K10
   unfold ZW
   go_wp2
   try simp only [Exit.inBlock,Exit.then]
   obtain ⟨F1,F2⟩:=Z4 HK10.out (.int .i64 0) (.int .i64 0) (.string ⟨#[]⟩) (.slice none 0 0) (.slice none 0 0) (.slice none 0 0) (.slice none 0 0)
   refine bodyPost_ret (zq rfl rfl F1 rfl) rfl ?_
   rw [show z21 st c=({ st with deposits:=st.deposits++[⟨c.user,c.other⟩] },YF 0,true) from by unfold z21;rw [show z7s st c=false from hd];rfl]
   exact Z6 HH10.out ((Mut.below (zB HB0.out HB2.out)).trans (HM9.out.trans HM10.out)) (znl _) F2 (z1o ⟨by omega,by omega⟩)
end
end
section
def hvN (st:State):Nat->Folder->Nat
 | 0,_=>0
 | n+1,f=>YE st n f.name
def z1m (st:State) (n:Nat) (s:Nm) (m:Nat) (f:Folder):Nat:=if inB s f then max m (hvN st n f) else m
theorem zP2 {st:State} {n:Nat} {s:Nm} (h:z8w st n s):YE st n s=st.folders.foldl (z1m st n s) 0+1:=by
 cases n with
 | zero=>
  have h2:∀(l:List Folder),(∀f∈l,inB s f=false)->∀m,l.foldl (z1m st 0 s) m=m:=fun l=>by
   induction l with
   | nil=>intro _ m;rfl
   | cons f r ih=>
    intro hl m
    rw [List.foldl_cons]
    unfold z1m
    rw [hl f (List.mem_cons_self ..)]
    exact ih (fun x hx=>hl x (zmc _ hx)) m
  rw [h2 _ h]
  rfl
 | succ n=>rfl
theorem zJq {α β:Type} {f:β->α->β} {b:β} {l:List α} {k:Nat} {x:α} (hx:l[k]? =some x):(l.take (k+1)).foldl f b=f ((l.take k).foldl f b) x:=by
 rw [List.take_add_one,hx,List.foldl_append]
 rfl
section
variable {X:Nat->Prop} {base bw:Nat} {R:RM} {c:Call} {dv:Value} {st:State} {done late:Bool}
theorem zLp (st:State):∀(n:Nat) (f:Folder),hvN st n f<=n
 | 0,_=>znl _
 | n+1,f=>by
  show YE st n f.name<=n+1
  cases n with
  | zero=>exact znl _
  | succ n=>
   have h2:∀(l:List Folder) (m:Nat),m<=n+1->l.foldl (z1m st (n+1) f.name) m<=n+1:=fun l=>by
    induction l with
    | nil=>intro m hm;exact hm
    | cons x r ih=>
     intro m hm
     rw [List.foldl_cons]
     refine ih _ ?_
     unfold z1m
     split
     ·exact Nat.max_le.2 ⟨hm,zLp st (n+1) x⟩
     ·exact hm
   have:=h2 st.folders 0 (by omega)
   show st.folders.foldl (z1m st (n+1) f.name) 0+1<=n+1+1
   omega
theorem zGa (st:State) (n:Nat) (s:Nm):∀(l:List Folder) (m:Nat),m<=n->l.foldl (z1m st n s) m<=n
 | [],m,h=>h
 | x :: r,m,h=>by
  rw [List.foldl_cons]
  refine zGa st n s r _ ?_
  unfold z1m
  split
  ·exact Nat.max_le.2 ⟨h,zLp st n x⟩
  ·exact h
theorem zNj (a b:Nat):(max (a:Int) (b:Int))=((max a b:Nat):Int):=by omega
set_option maxHeartbeats 8000000 in
theorem zBk (n:Nat) (hn:n<=1000) (s:Nm) (W:World) (h:WK X base bw W R c dv st done late) (hok:z8w st n s) (hrec:∀f∈st.folders,inB s f=true->∀W,WK X base bw W R c dv st done late->Calls Tryz.prog 132 #[.pointer (some ⟨bw,0,none⟩),.string f.name] W fun e w'=>e= .returned (.int .i64 (hvN st n f))/\Below W.heap.size W w'):
  Calls Tryz.prog 132 #[.pointer (some ⟨bw,0,none⟩),.string s] W fun e w'=>e= .returned (.int .i64 (YE st n s))/\Below W.heap.size W w':=by
 have HW:=zh h
 have HIH:=zh hrec
 have HEQ:=zh (zP2 hok)
 have HFL:=zh (zGa st n s st.folders 0 (by omega))
 obtain ⟨_,_,hv,_⟩:=(h.os.row .fo).shape
 have s11:=h.cells.1 11 _ rfl
 have hSl:=h.foSl
 rw [hv] at s11 hSl
 rw [h.is.fol] at s11 hSl
 obtain ⟨_,_,e,_,fc,_,hs⟩:=hSl
 simp only [Value.slice.injEq,true_and] at e
 obtain ⟨rfl,rfl⟩:=e
 unfold maxLen at fc
 have hbw:=h.lt
 clear h hrec hok hv
 go_enter Tryz.func132,Tryz.ntmps132
 go_wp2_with fail
 go_loopw [5,15] (fun m i wr=>∃k:Nat,k<=st.folders.length/\i= .int .i64 k/\m= .int .i64 ((st.folders.take k).foldl (z1m st n s) 0:Nat)/\Below W.heap.size W wr) (fun _ i _=>st.folders.length - (RowKit.intOf i).toNat)
 case atStart=>exact ⟨0,by omega,by go_num,rfl,Below.refl _ _⟩
 obtain ⟨k,_,rfl,rfl,hbel⟩:=hrel
 have HBL:=zh hbel
 have hz:=hbel.size
 by_cases hlt:k < st.folders.length
 rotate_left
 ·obtain rfl:k=st.folders.length:=by omega
  rw [List.take_length]
  obtain ⟨q,hq⟩:∃q,st.folders.foldl (z1m st n s) 0=q:=⟨_,rfl⟩
  rw [hq]
  have HQ:=zh (show YE st n s=q+1 by rw [HEQ.out,hq])
  have hqn:q<=n:=by rw [<-hq];exact HFL.out
  have hwr:IntKind.i64.wrap ((q:Int)+1)=(q:Int)+1:=by rw [IntKind.wrap_i64];omega
  clear hq
  go_wp2
  go_ret
  exact ⟨Z9 (by rw [HQ.out];rfl),hbel⟩
 have hki:(k:Int) < (st.folders.length:Int):=by omega
 obtain ⟨x,_,_,x_A2,x_c2,x_A3,x_c3,x_A4,x_c4,x_A5,x_c5,x_A6,x_c6,x_k,x_d,x_m,rfl,_,_,_,_,_,_,_,_,_,x_R,_,_,_,_,_,x_manifests_s,_,_,_,x_epochs_s,_,_,_,x_items_s,_,_,_,x_wraps_s,_,_,_,x_links_s⟩:=z1r hs hlt (zH hbel)
 have HX:=zh x_k
 have HXM:=zh x_m
 have HXR:=zh x_R
 have HSTEP:=zh (zJq (f:=z1m st n s) (b:=0) x_k)
 obtain ⟨q,hq⟩:∃q,(st.folders.take k).foldl (z1m st n s) 0=q:=⟨_,rfl⟩
 rw [hq] at HSTEP⊢
 obtain ⟨w2,hw2,cw2,fw2,Bw2,_⟩:=zO wr #[.string ⟨#[]⟩,.int .i64 0,.slice none 0 0,.slice none 0 0,.slice none 0 0,.slice none 0 0,.slice none 0 0] 74
 have HT2:w2.heap[wr.heap.size]? =some (.cells #[.string ⟨#[]⟩,.int .i64 0,.slice none 0 0,.slice none 0 0,.slice none 0 0,.slice none 0 0,.slice none 0 0] 74 (0,0)):=by rw [<-hw2];exact zJ _ rfl
 have d0:w2.cell? ⟨wr.heap.size,0,none⟩=some (.string ⟨#[]⟩):=(zD HT2).1 0 _ rfl
 have d1:w2.cell? ⟨wr.heap.size,1,none⟩=some (.int .i64 0):=(zD HT2).1 1 _ rfl
 have d2:w2.cell? ⟨wr.heap.size,2,none⟩=some (.slice none 0 0):=(zD HT2).1 2 _ rfl
 have d3:w2.cell? ⟨wr.heap.size,3,none⟩=some (.slice none 0 0):=(zD HT2).1 3 _ rfl
 have d4:w2.cell? ⟨wr.heap.size,4,none⟩=some (.slice none 0 0):=(zD HT2).1 4 _ rfl
 have d5:w2.cell? ⟨wr.heap.size,5,none⟩=some (.slice none 0 0):=(zD HT2).1 5 _ rfl
 have d6:w2.cell? ⟨wr.heap.size,6,none⟩=some (.slice none 0 0):=(zD HT2).1 6 _ rfl
 have dz:=(zD HT2).2
 have H2:=zh HT2
 have HB2:=zh Bw2
 clear cw2 fw2 HT2 Bw2 x_k x_d x_m x_R hq x_manifests_s x_epochs_s x_items_s x_wraps_s x_links_s
 go_wp2_with fail
 obtain ⟨E1,E2⟩:=Z4 H2.out (.string x.name) (.int .i64 x.turn) (.slice x_A2 x.manifests.length x_c2) (.slice x_A3 x.epochs.length x_c3) (.slice x_A4 x.items.length x_c4) (.slice x_A5 x.wraps.length x_c5) (.slice x_A6 x.links.length x_c6)
 generalize hW3:World.setCell _ _ _=w3 at E1 E2⊢
 have B3:Below wr.heap.size wr w3:=ButB.below HB2.out (by omega) (fun z hz=>by omega) E2
 refine zcm (z4q x _ w3 (fun _=>True) (Z0 HXR.out (zH B3))) ?_
 clear hW3 E2 d0 d1 d2 d3 d4 d5 d6 dz hw2
 rintro _ w4 ⟨⟨_,rfl,hm⟩,B4⟩
 have HE1:=zh ((B4.block _ (zM E1)).trans E1)
 have HB4:=zh (zB hbel (zB B3 B4))
 have hz4:wr.heap.size < w4.heap.size:=zM HE1.out
 obtain ⟨m,hme⟩:∃m,zL x=m:=⟨_,rfl⟩
 rw [hme] at hm
 have HIN:=zh (show inB s x=(!m.gone && decide (m.parent=s)) by unfold inB;rw [hme])
 obtain ⟨m_A2,m_c2,m_A4,m_c4,rfl,_⟩:=yO hm
 obtain ⟨w5,hw5,cw5,fw5,Bw5,_⟩:=zO w4 #[.string ⟨#[]⟩,.int .i64 0,.slice none 0 0,.string ⟨#[]⟩,.slice none 0 0,.int .i64 0,.bool false,.string ⟨#[]⟩] 84
 have HT5:w5.heap[w4.heap.size]? =some (.cells #[.string ⟨#[]⟩,.int .i64 0,.slice none 0 0,.string ⟨#[]⟩,.slice none 0 0,.int .i64 0,.bool false,.string ⟨#[]⟩] 84 (0,0)):=by rw [<-hw5];exact zJ _ rfl
 have d0:w5.cell? ⟨w4.heap.size,0,none⟩=some (.string ⟨#[]⟩):=(zD HT5).1 0 _ rfl
 have d1:w5.cell? ⟨w4.heap.size,1,none⟩=some (.int .i64 0):=(zD HT5).1 1 _ rfl
 have d2:w5.cell? ⟨w4.heap.size,2,none⟩=some (.slice none 0 0):=(zD HT5).1 2 _ rfl
 have d3:w5.cell? ⟨w4.heap.size,3,none⟩=some (.string ⟨#[]⟩):=(zD HT5).1 3 _ rfl
 have d4:w5.cell? ⟨w4.heap.size,4,none⟩=some (.slice none 0 0):=(zD HT5).1 4 _ rfl
 have d5:w5.cell? ⟨w4.heap.size,5,none⟩=some (.int .i64 0):=(zD HT5).1 5 _ rfl
 have d6:w5.cell? ⟨w4.heap.size,6,none⟩=some (.bool false):=(zD HT5).1 6 _ rfl
 have d7:w5.cell? ⟨w4.heap.size,7,none⟩=some (.string ⟨#[]⟩):=(zD HT5).1 7 _ rfl
 have dz:=(zD HT5).2
 have H5:=zh HT5
 have HB5:=zh Bw5
 have y0:=(Bw5.cell (p:=⟨wr.heap.size,0,none⟩) hz4).trans ((zD HE1.out).1 0 _ rfl)
 have HS8:=zh (z8p HT5 (.string m.folder) (.int .i64 m.seq) (.slice m_A2 m.prev.length m_c2) (.string m.parent) (.slice m_A4 m.members.length m_c4) (.int .i64 m.cut) (.bool m.gone) (.string m.who))
 have hne:¬(wr.heap.size=w4.heap.size):=by omega
 have hne2:¬(w4.heap.size=wr.heap.size):=by omega
 clear cw5 fw5 HT5 Bw5 hm hme E1 B3 B4
 cases hg:m.gone
 ·by_cases hp:m.parent=s
  rotate_left
  ·have hpe:(m.parent.toList==s.toList)=false:=z1e hp
   have HIB:=zh (show inB s x=false by rw [HIN.out,hg,decide_eq_false hp];rfl)
   have HST:=zh (show z1m st n s q x=q by unfold z1m;rw [HIB.out];rfl)
   clear hp
   rw [hg] at HS8
   go_wp2_with fail
   obtain ⟨_,F2⟩:=HS8.out
   generalize hW6:World.setCell _ _ _=w6 at F2⊢
   have B6:Below W.heap.size W w6:=ButB.below (zB HB4.out HB5.out) (by have:=(zB HB4.out HB5.out).size;omega) (fun z hz=>by omega) F2
   clear hW6 F2 y0 d0 d1 d2 d3 d4 d5 d6 d7 dz
   go_wp2
   go_roundw
   case rel=>exact ⟨k+1,by omega,by go_num,by rw [HSTEP.out,HST.out],B6⟩
   case measure=>simp [RowKit.intOf];omega
  have hpe:(m.parent.toList==s.toList)=true:=by rw [hp];simp
  have HIB:=zh (show inB s x=true by rw [HIN.out,hg,decide_eq_true hp];rfl)
  have HST:=zh (show z1m st n s q x=max q (hvN st n x) by unfold z1m;rw [HIB.out];rfl)
  clear hp
  rw [hg] at HS8
  go_wp2_with fail
  obtain ⟨_,F2⟩:=HS8.out
  generalize hW6:World.setCell _ _ _=w6 at F2⊢
  have B6:Below W.heap.size W w6:=ButB.below (zB HB4.out HB5.out) (by have:=(zB HB4.out HB5.out).size;omega) (fun z hz=>by omega) F2
  refine zcm (HIH.out x HXM.out HIB.out w6 (HW.out.below B6)) ?_
  clear hW6 F2 y0 d0 d1 d2 d3 d4 d5 d6 d7 dz
  rintro _ _ ⟨rfl,B7⟩
  have B7':=zB B6 B7
  clear B7 B6
  go_wp2
  go_roundw
  case rel=>exact ⟨k+1,by omega,by go_num,by rw [HSTEP.out,HST.out,<-zNj],B7'⟩
  case measure=>simp [RowKit.intOf];omega
 have HIB:=zh (show inB s x=false by rw [HIN.out,hg];rfl)
 have HST:=zh (show z1m st n s q x=q by unfold z1m;rw [HIB.out];rfl)
 rw [hg] at HS8
 go_wp2_with fail
 obtain ⟨_,F2⟩:=HS8.out
 generalize hW6:World.setCell _ _ _=w6 at F2⊢
 have B6:Below W.heap.size W w6:=ButB.below (zB HB4.out HB5.out) (by have:=(zB HB4.out HB5.out).size;omega) (fun z hz=>by omega) F2
 clear hW6 F2 y0 d0 d1 d2 d3 d4 d5 d6 d7 dz
 go_wp2
 go_roundw
 case rel=>exact ⟨k+1,by omega,by go_num,by rw [HSTEP.out,HST.out],B6⟩
 case measure=>simp [RowKit.intOf];omega
theorem zEj:∀(n:Nat),n<=1000->∀(s:Nm) (W:World),WK X base bw W R c dv st done late->z8w st n s->Calls Tryz.prog 132 #[.pointer (some ⟨bw,0,none⟩),.string s] W fun e w'=>e= .returned (.int .i64 (YE st n s))/\Below W.heap.size W w':=by
 intro n
 induction n with
 | zero=>exact fun hn s W h hok=>zBk 0 hn s W h hok fun f hf hb=>by rw [hok f hf] at hb;cases hb
 | succ n ih=>exact fun hn s W h hok=>zBk (n+1) hn s W h hok fun f hf hb w hw=>ih (by omega) f.name w hw (hok f hf hb)
end
end
section
section
variable {X:Nat->Prop} {base bw:Nat} {W:World} {R:RM} {c:Call} {dv:Value} {st:State} {late:Bool}
theorem Y2 {st:State} {s:Nm} {k:Nat} (h:Z7 st s=some k):foI st s=some k:=by
 unfold Z7 at h
 cases e:foI st s with
 | none=>rw [e] at h;cases h
 | some j=>
  rw [e] at h
  dsimp only at h
  split at h
  ·cases h
  exact h
set_option maxHeartbeats 8000000 in
theorem zLs (h:WK X base bw W R c dv st false late) {n k:Nat} (hI:VInv n st) (hk:Z7 st c.folder=some k):
  Calls Tryz.prog 100 #[.pointer (some ⟨bw,0,none⟩)] W (Did X base bw W R c dv late (st,zF5 st k,false)):=by
 have HK:=zh hk
 have HKL:=zh (z1g (Y2 hk))
 have HNE:=zh (hI.atF HKL.out).man
 obtain ⟨w0,hw0⟩:∃w0,W.alloc (.cells zQ 49)=w0:=⟨_,rfl⟩
 have hN:=ZV W
 rw [hw0] at hN
 obtain ⟨hE,B0,T0,z0⟩:=hN
 have H0:=hE R h
 have HW:=zh H0
 have HT0:=zh T0
 have HB0:=zh B0
 have hlt:=H0.lt
 clear hE B0 T0
 have s2:w0.cell? ⟨bw,2,none⟩=some (.string c.folder):=H0.cells.1 2 _ rfl
 clear h hk H0
 unfold zQ at hw0
 go_enter Tryz.func100,Tryz.ntmps100
 go_wp2_with fail
 refine zcm (yG HW.out c.folder) ?_
 rintro _ w1 ⟨⟨hno,rfl⟩ | ⟨k',_,_,hk',ha,rfl⟩,B1⟩
 ·exact absurd (HK.out.symm.trans hno) (by simp)
 obtain rfl:_=k':=zsi (HK.out.symm.trans hk')
 have HB1:=zh B1
 have HA:=zh ha
 have H1:=zh (HW.out.below B1)
 obtain ⟨_,_,_,_,_,_,_,_,_,_,eh,hF,_,_,_,_,_,_,_,_,_⟩:=H1.out.fold (ZK HKL.out) ha
 have HE:=zh eh
 have HF:=zh hF
 clear B1 hk' ha eh hF
 obtain ⟨A2,c2,A4,c4,hNC,hNow⟩:=z4w H1.out HKL.out HA.out HNE.out
 have HNC:=zh hNC
 have hN1:=hNow w1 zbr
 rw [HE.out] at hN1
 have HN1:=zh hN1
 clear hNC hNow hN1
 go_wp2_with fail
 refine zcm HN1.out ?_
 rintro _ w2 ⟨rfl,B2⟩
 obtain ⟨w3,_,cw3,_,Bw3,_⟩:=zO w2 #[.string (zL (fo st k)).folder,.int .i64 (zL (fo st k)).seq,.slice A2 (zL (fo st k)).prev.length c2,.string (zL (fo st k)).parent,.slice A4 (zL (fo st k)).members.length c4,.int .i64 (zL (fo st k)).cut,.bool (zL (fo st k)).gone,.string (zL (fo st k)).who] 84
 have x1:=cw3 1 _ rfl
 have x4:=cw3 4 _ rfl
 have BW:=zh (zB HB1.out (zB B2 Bw3))
 have H3:=zh (HW.out.below BW.out)
 have HK3:=zh ((BW.out.block _ z0).trans HT0.out)
 have K3:=HK3.out
 unfold zQ at K3
 obtain ⟨y0,y1,y2,y3,y4,y5,y6⟩:=zC7 (zD K3).1
 have yz:=(zD K3).2
 have B13:=zh (zB B2 Bw3)
 clear K3 cw3 B2 Bw3
 go_wp2
 try simp only [Exit.inBlock,Exit.then]
 obtain ⟨F1,F2⟩:=Z4 HK3.out (.int .i64 0) (.int .i64 (zL (fo st k)).seq) (.string ⟨#[]⟩) (.slice none 0 0) (.slice none 0 0) (.slice A4 (zL (fo st k)).members.length c4) (.slice none 0 0)
 refine bodyPost_ret (zq rfl rfl F1 rfl) rfl ?_
 refine Z6 H3.out (Mut.below (zB HB0.out BW.out)) (znl _) F2 ?_
 obtain ⟨n1,n2,n3,n4,n5,_,_⟩:=HNC.out
 have kp:Kept (Imm (fun b=>X b\/b=W.heap.size) bw R w1) (Imm (fun b=>X b\/b=W.heap.size) bw R w3) w1 w3:=(Mut.below (bw:=bw) (R:=R) B13.out).kept
 have hs:Sl 2 zY (Imm (fun b=>X b\/b=W.heap.size) bw R w1) w1 (.slice A4 (zL (fo st k)).members.length c4) (zL (fo st k)).members:=⟨A4,c4,rfl,n1,by unfold maxLen;exact n2,n3,n4⟩
 exact ⟨_,_,_,_,rfl,(show I64 0 from ⟨by omega,by omega⟩),n5,(show (⟨#[]⟩:Nm).size<=140737488355328 by decide),yF,yF,hs.keep ZC (by decide) kp,yF⟩
theorem zI8 {st:State} {n k:Nat} (hI:VInv n st) {s:Nm} (hk:Z7 st s=some k):(fo st k).name=s:=(z1x (Y2 hk)).2.1
theorem z83:∀{l:List Folder} {f:Folder},f∈l->ZQ f<=z06 l
 | [],f,h=>by simp at h
 | x :: l,f,h=>by
  rw [z06]
  rcases List.mem_cons.1 h with rfl | h
  ·omega
  ·have:=z83 h
   omega
theorem WK.itSl {done:Bool} (h:WK X base bw W R c dv st done late) {k g o:Nat} (hk:k < st.folders.length) (ha:foAt R k g o):Sl 2 yV (fun _=>True) W (R (.it k)).v (fo st k).items:=by
 obtain ⟨_,_,_,_,_,_,_,_,_,_,eh,hF,_,_,_,_,_,_,_,_,_⟩:=h.fold (ZK hk) ha
 obtain ⟨_,_,_,_,_,_,_,_,_,_,e,_,_,_,_,_,_,_,_,_,_,x_items_l,x_items_m,x_items_n,x_items_s,_⟩:=Z5 hF
 simp only [List.cons.injEq,Value.slice.injEq,and_true,true_and] at e
 obtain ⟨⟨rfl,rfl⟩,⟨rfl,rfl⟩,⟨rfl,rfl⟩,⟨rfl,rfl⟩,⟨rfl,rfl⟩⟩:=e
 simp only [hdr,List.cons.injEq] at eh
 rw [eh.2.2.2.2.1]
 exact ⟨_,_,rfl,x_items_l,x_items_m,x_items_n,x_items_s⟩
theorem z6z {n k:Nat} (hI:VInv n st) (hn:n<=41) (hk:k < st.folders.length):(zL (fo st k)).prev=[]/\(zL (fo st k)).members.length<=20/\(zL (fo st k)).parent.size<=20/\(0<=(zL (fo st k)).seq/\(zL (fo st k)).seq<=1000000)/\(0<=(fo st k).turn/\(fo st k).turn<=1000000)/\(fo st k).manifests.length<=9999/\(fo st k).epochs.length<=5000/\(fo st k).items.length<=5000/\(fo st k).links.length<=5000/\(fo st k).wraps.length<=16:=by
 have hF:=hI.atF hk
 have hm:zL (fo st k)∈(fo st k).manifests:=z0j hF.man
 have h4:ZQ (fo st k)<=z06 st.folders:=z83 (z3f hk)
 have hs:=hI.sum
 unfold ZQ at h4
 have hw:=zEc hF
 rw [List.length_map] at hw
 have hu:=hI.u16
 refine ⟨hF.pv _ hm,(hF.mn _ hm).2.1,(hF.mn _ hm).1,⟨hF.sq.1,by have:=hF.sq.2;omega⟩,⟨hF.tn.1,by have:=hF.tn.2;omega⟩,by omega,by omega,by omega,by omega,by omega⟩
set_option maxHeartbeats 8000000 in
theorem zHj (h:WK X base bw W R c dv st false late) {n k:Nat} (hI:VInv n st) (hn:n<=41) (hk:Z7 st c.folder=some k):
  Calls Tryz.prog 90 #[.pointer (some ⟨bw,0,none⟩)] W (Did X base bw W R c dv late (z0t st c k)):=by
 have HK:=zh hk
 have HKL:=zh (z1g (Y2 hk))
 have HFI:=zh (hI.atF HKL.out)
 have HNM:=zh (zI8 hI hk)
 have HA2:=zh (z6z hI hn HKL.out)
 have HHO:=zh (z9f hI.names hI.tree 5 c.folder (by omega))
 have HTN:=zh (show 0<=st.turn/\st.turn<=1000000 from ⟨hI.turn.1,by have:=hI.turn.2;omega⟩)
 obtain ⟨w0,hw0⟩:∃w0,W.alloc (.cells zQ 49)=w0:=⟨_,rfl⟩
 have hN:=ZV W
 rw [hw0] at hN
 obtain ⟨hE,B0,T0,z0⟩:=hN
 have H0:=hE R h
 have HW:=zh H0
 have HT0:=zh T0
 have HB0:=zh B0
 have hlt:=H0.lt
 clear hE B0 T0
 have s2:w0.cell? ⟨bw,2,none⟩=some (.string c.folder):=H0.cells.1 2 _ rfl
 have s8:w0.cell? ⟨bw,8,none⟩=some (.int .i64 st.turn):=H0.cells.1 8 _ rfl
 clear h hk H0 hI
 unfold zQ at hw0
 go_enter Tryz.func90,Tryz.ntmps90
 go_wp2_with fail
 refine zcm (yG HW.out c.folder) ?_
 rintro _ _ ⟨⟨hno,rfl⟩ | ⟨k',g,o,hk',ha,rfl⟩,B1⟩
 ·exact absurd (HK.out.symm.trans hno) (by simp)
 obtain rfl:_=k':=zsi (HK.out.symm.trans hk')
 have HB1:=zh B1
 have HA:=zh ha
 have H1:=zh (HW.out.below B1)
 obtain ⟨_,_,_,_,D4,f4,_,_,_,_,eh,hF,u0,u1,u2,u3,u4,u5,u6,hg,_⟩:=H1.out.fold (ZK HKL.out) ha
 have HE:=zh eh
 have HF:=zh hF
 clear B1 hk' ha eh hF
 have HCT:=zh (show I64 (zL (fo st k)).cut from by obtain ⟨_,_,_,_,hNC,_⟩:=z4w H1.out HKL.out HA.out HFI.out.man;exact hNC.2.2.2.2.2.1)
 clear s2
 go_wp2_with fail
 refine zcm (z49 H1.out HKL.out HA.out) ?_
 rintro _ w2 ⟨rfl,B2⟩
 have HB2:=zh (zB HB1.out B2)
 have t8:=(HB2.out.cell (p:=⟨bw,8,none⟩) hlt).trans s8
 have v0:=(B2.cell (p:=⟨g,o,none⟩) hg).trans u0
 have v4:=(B2.cell (p:=⟨g,o+4,none⟩) hg).trans u4
 have hg2:g < w2.heap.size:=zll hg B2.size
 rw [HNM.out] at v0
 clear B2 u0 u1 u2 u3 u4 u5 u6 s8
 by_cases hr:yM st k c.user < 4
 ·have hgd:decide (yM st k c.user < 4)=true:=decide_eq_true hr
  go_wp2_with fail
  refine zcm (ZG 40 w2) ?_
  rintro eq wq ⟨rfl,Bq⟩
  obtain ⟨BW,H2,K2,y0,y1,y2,y3,y4,y5,y6,yz⟩:=zW HB2.out Bq HW.out z0 HT0.out
  clear Bq
  unfold ZW
  go_wp2
  try simp only [Exit.inBlock,Exit.then]
  obtain ⟨F1,F2⟩:=Z4 K2.out (.int .i64 40) (.int .i64 0) (.string ⟨#[]⟩) (.slice none 0 0) (.slice none 0 0) (.slice none 0 0) (.slice none 0 0)
  refine bodyPost_ret (zq rfl rfl F1 rfl) rfl ?_
  rw [show (z0t st c k)=(st,ZD 40,false) from by unfold z0t;simp [hr]]
  exact Z6 H2.out (Mut.below (zB HB0.out BW.out)) (znl _) F2 (ZU ⟨by omega,by omega⟩)
 have hgd:decide (yM st k c.user < 4)=false:=decide_eq_false hr
 have HR:=zh hr
 clear hr
 go_wp2_with fail
 refine zcm (zEj 5 (by omega) c.folder w2 (HW.out.below HB2.out) HHO.out) ?_
 rintro _ w3 ⟨rfl,B3⟩
 have HB3:=zh (zB HB2.out B3)
 have x8:=(B3.cell (p:=⟨bw,8,none⟩) (zF t8)).trans t8
 have x4:=(B3.cell (p:=⟨g,o+4,none⟩) hg2).trans v4
 clear B3 t8 v0 v4
 by_cases hh:1 < YE st 5 c.folder
 ·have hgh:decide (1 < (YE st 5 c.folder:Int))=true:=decide_eq_true (by omega)
  have HH:=zh hh
  clear hh
  go_wp2_with fail
  refine zcm (ZG 47 w3) ?_
  rintro eq wq ⟨rfl,Bq⟩
  obtain ⟨BW,H2,K2,y0,y1,y2,y3,y4,y5,y6,yz⟩:=zW HB3.out Bq HW.out z0 HT0.out
  clear Bq
  unfold ZW
  go_wp2
  try simp only [Exit.inBlock,Exit.then]
  obtain ⟨F1,F2⟩:=Z4 K2.out (.int .i64 47) (.int .i64 0) (.string ⟨#[]⟩) (.slice none 0 0) (.slice none 0 0) (.slice none 0 0) (.slice none 0 0)
  refine bodyPost_ret (zq rfl rfl F1 rfl) rfl ?_
  rw [show (z0t st c k)=(st,ZD 47,false) from by unfold z0t;rw [if_neg (by have:=HR.out;omega),if_pos (.inl (by have:=HH.out;omega))]]
  exact Z6 H2.out (Mut.below (zB HB0.out BW.out)) (znl _) F2 (ZU ⟨by omega,by omega⟩)
 have hgh:decide (1 < (YE st 5 c.folder:Int))=false:=decide_eq_false (by omega)
 have HH:=zh hh
 clear hh
 have HSI:=zh (show Sl 2 yV (fun _=>True) w3 (.slice D4 (fo st k).items.length f4) (fo st k).items from by
  have q:=(HW.out.below HB3.out).itSl HKL.out HA.out
  have e:=HE.out
  simp only [hdr,List.cons.injEq] at e
  rw [<-e.2.2.2.2.1]
  exact q)
 go_wp2_with fail
 refine zcm (zP8 _ _ _ _ HSI.out fun x hx=>List.length_pos_iff.2 (HFI.out.it x hx).1) ?_
 rintro _ w4 ⟨rfl,B4⟩
 have HB4:=zh (zB HB3.out B4)
 have z8:=(B4.cell (p:=⟨bw,8,none⟩) (zF x8)).trans x8
 clear B4 x8 x4
 cases hb:(fo st k).items.any YI with
 | true=>
  go_wp2_with fail
  refine zcm (ZG 47 w4) ?_
  rintro eq wq ⟨rfl,Bq⟩
  obtain ⟨BW,H2,K2,y0,y1,y2,y3,y4,y5,y6,yz⟩:=zW HB4.out Bq HW.out z0 HT0.out
  clear Bq
  unfold ZW
  go_wp2
  try simp only [Exit.inBlock,Exit.then]
  obtain ⟨F1,F2⟩:=Z4 K2.out (.int .i64 47) (.int .i64 0) (.string ⟨#[]⟩) (.slice none 0 0) (.slice none 0 0) (.slice none 0 0) (.slice none 0 0)
  refine bodyPost_ret (zq rfl rfl F1 rfl) rfl ?_
  rw [show (z0t st c k)=(st,ZD 47,false) from by unfold z0t;rw [if_neg (by have:=HR.out;omega),if_pos (.inr hb)]]
  exact Z6 H2.out (Mut.below (zB HB0.out BW.out)) (znl _) F2 (ZU ⟨by omega,by omega⟩)
 | false=>
  have H4:=zh (HW.out.below HB4.out)
  have zf:∀q,w4.frozen? ⟨bw,q,none⟩=false:=H4.out.cells.2
  have hwt:IntKind.i64.wrap (st.turn+1)=st.turn+1:=by rw [IntKind.wrap_i64];have:=HTN.out;omega
  go_wp2_with fail
  obtain ⟨h5,m5⟩:=H4.out.setTurn (st.turn+1) ⟨by have:=HTN.out;omega,by have:=HTN.out;omega⟩
  have H5:=zh h5
  have M5:=zh m5
  have HK5:=zh (zP (a:=⟨bw,8,none⟩) (.int .i64 (st.turn+1)) ((HB4.out.block _ z0).trans HT0.out) (fun e=>H4.out.nx W.heap.size (.inr e) (.inr rfl)))
  obtain ⟨a1,a2,a3,a4,a5,a6,_⟩:=HA2.out
  have HQ:=zh (zF0 h5 (k:=k) HKL.out HA.out rfl a1 (by have:(zL (fo st k)).members.length<=20:=a2;show (zL (fo st k)).members.length<=10000;omega) a4 a5 a6 (by show (zL (fo st k)).parent.size<=_;omega) HCT.out)
  have HI64:=zh (show I64 ((zL (fo st k)).seq+1) from ⟨by omega,by omega⟩)
  clear h5 m5 a1 a2 a3 a4 a5 a6
  have HN9:=zh (fun e=>H5.out.nx W.heap.size e (.inr rfl))
  refine zcm (HQ.out) ?_
  rintro _ _ ⟨rfl,_,H10,M10,E10⟩
  have HK10:=zh ((M10.but.block _ (zM HK5.out) (fun e=>HN9.out (e.symm.imp id id))).trans HK5.out)
  have K10:=HK10.out
  unfold zQ at K10
  obtain ⟨y0,y1,y2,y3,y4,y5,y6⟩:=zC7 (zD K10).1
  have yz:=(zD K10).2
  have HH10:=zh H10
  have HM10:=zh M10
  clear H10 M10 K10 E10
  unfold ZW
  go_wp2
  try simp only [Exit.inBlock,Exit.then]
  obtain ⟨F1,F2⟩:=Z4 HK10.out (.int .i64 0) (.int .i64 ((zL (fo st k)).seq+1)) (.string ⟨#[]⟩) (.slice none 0 0) (.slice none 0 0) (.slice none 0 0) (.slice none 0 0)
  refine bodyPost_ret (zq rfl rfl F1 rfl) rfl ?_
  rw [show z0t st c k=({ setF st k (z0f (fo st k) { zL (fo st k) with gone:=true } c.user) with turn:=st.turn+1 },YF ((zL (fo st k)).seq+1),true) from by unfold z0t;rw [if_neg (by have:=HR.out;omega),if_neg (fun e=>e.elim (fun e=>by have:=HH.out;omega) (fun e=>by rw [hb] at e;cases e))];rfl]
  exact Z6 HH10.out (((Mut.below (zB HB0.out HB4.out)).trans M5.out).trans HM10.out) (znl _) F2 (z1o HI64.out)
end
end
section
theorem zM4 {st:State} {u f:Nm} {n:Int} (h:IsReach st u f n):reachN st u f=n:=by
 unfold reachN
 rw [dif_pos ⟨n,h⟩]
 exact (Classical.choose_spec (p:=fun n=>IsReach st u f n) ⟨n,h⟩).one h
theorem z87 (s:Nm):∀l:List Nm,(z5o s l).Perm (s :: l)
 | []=>List.Perm.refl _
 | x :: r=>by
  rw [z5o]
  split
  ·exact List.Perm.refl _
  ·exact ((z87 s r).cons x).trans (List.Perm.swap s x r)
theorem z91 {s:Nm}:∀{l:List Nm},(l.Pairwise fun a b=>ltS b a=false)->(z5o s l).Pairwise fun a b=>ltS b a=false
 | [],_=>List.pairwise_singleton _ _
 | x :: r,h=>by
  rw [z5o]
  obtain ⟨h1,h2⟩:=List.pairwise_cons.1 h
  split
  ·rename_i hlt
   refine List.pairwise_cons.2 ⟨fun y hy=>?_,h⟩
   rcases List.mem_cons.1 hy with rfl | hy
   ·cases hc:ltS y s
    ·rfl
    ·exact absurd (YT hc hlt) (by rw [YB];simp)
   ·cases hc:ltS y s
    ·rfl
    ·have:=h1 y hy
     rw [YT hc hlt] at this
     cases this
  ·rename_i hlt
   refine List.pairwise_cons.2 ⟨fun y hy=>?_,z91 h2⟩
   rcases List.mem_cons.1 ((z87 s r).subset hy) with rfl | hy
   ·simpa using hlt
   ·exact h1 y hy
theorem zBr:∀(l a:List Nm),(a.Pairwise fun a b=>ltS b a=false)->(l.foldl (fun a s=>z5o s a) a).Perm (a++l)/\(l.foldl (fun a s=>z5o s a) a).Pairwise fun a b=>ltS b a=false
 | [],a,h=>⟨by simp,h⟩
 | s :: l,a,h=>by
  rw [List.foldl_cons]
  obtain ⟨h1,h2⟩:=zBr l (z5o s a) (z91 h)
  refine ⟨h1.trans (((z87 s a).append_right l).trans ?_),h2⟩
  exact List.perm_middle.symm
theorem zBs (l:List Nm):(zBa l).Perm l/\(zBa l).Pairwise fun a b=>ltS b a=false:=zBr l [] List.Pairwise.nil
theorem zK1 {l1 l2:List Nm} (h1:l1.Pairwise fun a b=>ltS b a=false) (h2:l2.Pairwise fun a b=>ltS b a=false) (hp:l1.Perm l2):l1=l2:=by
 refine hp.eq_of_pairwise (le:=fun a b=>ltS b a=false) (fun a b _ _ ha hb=>?_) h1 h2
 rcases z13 a b with h | h | h
 ·rw [h] at hb;cases hb
 ·exact h
 rw [h] at ha;cases ha
theorem zM5 {α:Type} {k:Nat} {Q:Rp α} {S T:Nat->Prop} {w:World} {v:Value} {l:List α} (ok:RpOk k Q) (h:Sl k Q S w v l) (hQ:∀cs x,Q S w cs x->Q T w cs x) (hk:∀b,v.ownBlock=some b->T b):Sl k Q T w v l:=by
 obtain ⟨A,c,rfl,h1,h2,h3,h4⟩:=h
 refine ⟨A,c,rfl,h1,h2,h3,fun i x hx=>?_⟩
 obtain ⟨b,o,ys,rfl,_,a2,a3,a4⟩:=h4 i x hx
 exact ⟨b,o,ys,rfl,hk b rfl,a2,a3,hQ _ _ a4⟩
section
variable {X:Nat->Prop} {base bw:Nat} {W W':World} {R R':RM} {c:Call} {dv:Value} {st:State} {done late:Bool}
set_option maxHeartbeats 8000000 in
theorem zBt (h:WK X base bw W R c dv st done late) {n k g o:Nat} (hI:VInv n st) (hn:n<=41) (hu:c.user.size<=1000) (hk:Z7 st c.folder=some k) (ha:foAt R k g o):
  Calls Tryz.prog 148 #[.pointer (some ⟨bw,0,none⟩),.pointer (some ⟨g,o,none⟩)] W fun e w'=>e= .returned (.bool (z3e st c k))/\Below W.heap.size W w':=by
 have HKL:=zh (z1g (Y2 hk))
 have HNM:=zh (zI8 hI hk)
 have HOK:=zh (zFn (hI.small hn))
 have HW:=zh h
 have HA:=zh ha
 have HEP:=zh (show ∀W':World,Below W.heap.size W W'->Calls Tryz.prog 158 #[.pointer (some ⟨g,o,none⟩)] W' fun e w'=>e= .returned (.int .i64 (fo st k).epochs.length)/\Below W'.heap.size W' w' from fun W' hb=>(z1w (h.below hb) HKL.out ha).mono (by rintro e w' ⟨rfl,rfl⟩;exact ⟨rfl,Below.refl _ _⟩))
 have t8:=h.cells.1 8 _ rfl
 have t9:=h.cells.1 9 _ rfl
 have t10:=h.cells.1 10 _ rfl
 have t11:=h.cells.1 11 _ rfl
 have t1:=h.cells.1 1 _ rfl
 obtain ⟨_,_,_,_,_,_,_,_,_,_,eh,hF,u0,u1,u2,u3,u4,u5,u6,_,gz⟩:=h.fold (ZK HKL.out) ha
 rw [HNM.out] at u0
 clear h ha hI hk eh hF u1 u2 u3 u4 u5 u6 gz
 go_enter Tryz.func148,Tryz.ntmps148
 go_upto_region 1 with fail
 have HSQ:=zh (show ∀W':World,Below W.heap.size W W'->(fun W':World=>Below W.heap.size W W'/\W'.cell? ⟨bw,8,none⟩=some (.int .i64 st.turn)/\W'.cell? ⟨bw,9,none⟩=some ((R .us).v)/\W'.cell? ⟨bw,10,none⟩=some ((R .de).v)/\W'.cell? ⟨bw,11,none⟩=some ((R .fo).v)/\W'.cell? ⟨bw,1,none⟩=some (.string c.user)/\W'.cell? ⟨g,o,none⟩=some (.string c.folder)) W' from fun W' hW=>⟨hW,(hW.cell (p:=⟨bw,8,none⟩) (zF t8)).trans t8,(hW.cell (p:=⟨bw,9,none⟩) (zF t9)).trans t9,(hW.cell (p:=⟨bw,10,none⟩) (zF t10)).trans t10,(hW.cell (p:=⟨bw,11,none⟩) (zF t11)).trans t11,(hW.cell (p:=⟨bw,1,none⟩) (zF t1)).trans t1,(hW.cell (p:=⟨g,o,none⟩) (zF u0)).trans u0⟩)
 refine zE (by kernel_rfl) HSQ.out (fun hHeld=>?_)
 refine zi 0 ?_
 iterate 13 (refine zt _ rfl (by kernel_rfl) rfl (fun _ _ _ h=>h) hHeld (by intro W' h;go_simp;try with_reducible rfl) ?_;simp only [zA])
 refine zo ?_
 refine zT 14 _ rfl (by kernel_rfl) rfl (fun _ _ _ h=>h) hHeld (by intro W' h;go_simp;try with_reducible rfl) ?_
 simp only [zA]
 refine zr 13 (by kernel_rfl) rfl (fun K hK=>?_)
 go_simp
 go_at_call 179
 refine zcm (z9v st c.user c.folder _ _ (fun _=>True) (HW.out.below (zbr.drew)).state HOK.out hu) ?_
 rintro e3 w3 ⟨⟨_,rfl,hr3⟩,b3⟩
 have Bw3:Below W.heap.size W w3:=zB (zbr.drew) b3
 clear b3 hHeld
 refine hK.out _ _ (HSQ.out _ Bw3) (fun hHeld=>?_)
 clear hK K
 refine zr 15 (by kernel_rfl) rfl (fun K hK=>?_)
 go_simp
 go_at_call 158
 refine zcm (HEP.out _ (Bw3)) ?_
 rintro e3 w4 ⟨rfl,b3⟩
 have Bw4:Below W.heap.size W w4:=zB (Bw3) b3
 clear b3 hHeld
 refine hK.out _ _ (HSQ.out _ Bw4) (fun hHeld=>?_)
 clear hK K
 refine zi 16 ?_
 iterate 2 (refine zt _ rfl (by kernel_rfl) rfl (fun _ _ _ h=>h) hHeld (by intro W' h;go_simp;try with_reducible rfl) ?_;simp only [zA])
 refine zo ?_
 refine wpAnyH_done (by kernel_rfl) ?_ _
 clear hHeld HSQ
 have HR3:=zh (zM4 hr3)
 have HB:=zh Bw4
 clear hr3 Bw3 Bw4
 go_wp2
 go_ret
 refine ⟨ZI ?_,HB.out⟩
 unfold z3e
 rw [HR3.out]
end
end
section
def z95 (c:Call):Bool:=z3m ZB c.kind c.user c.folder c.name c.other c.role c.version c.data.length
theorem zEq {s:Nm} (h:z11 s=true):s=⟨#[]⟩:=by simpa [z11] using h
theorem zIh {c:Call} (h:z95 c=true) (hu:c.user.size<=20) (hf:c.folder.size<=20) (hn:c.name.size<=20) (ho:c.other.size<=20):CallOk c/\c.data.length<=512:=by
 unfold z95 at h
 rw [zLz ZB (by rfl) _ _ _ _ _ _ _ _ (by omega)] at h
 unfold zAu at h
 rw [Bool.and_eq_true,Bool.and_eq_true,Bool.and_eq_true,Bool.and_eq_true,Bool.and_eq_true,Bool.and_eq_true,Bool.and_eq_true,Bool.and_eq_true,Bool.and_eq_true,Bool.and_eq_true] at h
 obtain ⟨⟨⟨⟨⟨⟨⟨⟨⟨⟨h1,h2⟩,h3⟩,h4⟩,h5⟩,h6⟩,_⟩,_⟩,h9⟩,h10⟩,h11⟩:=h
 have k1:1<=c.kind:=by simpa using h2
 have k16:c.kind<=16:=by simpa using h3
 refine ⟨⟨hu,hf,hn,ho,h1,k1,k16,fun a b=>?_,fun a=>?_,fun a b=>?_,fun a=>?_,fun a=>?_,fun a=>?_,fun a=>?_,fun a=>?_,?_⟩,?_⟩
 ·rwa [if_neg (by omega)] at h5
 ·rw [if_pos a] at h5
  cases he:z11 c.folder
  ·rw [he] at h5
   simp at h5
  exact zEq he
 ·rwa [if_neg (by omega),if_pos ⟨a,b⟩] at h6
 ·rw [if_pos (a.imp id fun e=>by omega)] at h5
  cases he:z11 c.other
  ·rw [he,show (decide (c.kind=1) || decide (c.kind=15))=true by simpa using a] at h5
   simp at h5
  exact zEq he
 ·intro e
  rw [if_pos (.inl a),e,a] at h6
  simp at h6
 ·rw [if_pos a] at h9
  simpa using h9
 ·rw [if_neg (by omega)] at h9
  simpa using h9
 ·rw [show (decide (c.kind=14) || decide (c.kind=16))=true by simpa using a] at h4
  cases he:ZB c.other
  ·rw [he] at h4
   simp at h4
  rfl
 ·by_cases k9:c.kind=9
  ·rw [if_pos k9] at h10
   simpa using h10
  rw [if_neg k9] at h10
  have:c.version=0:=by simpa using h10
  omega
 simp only [Bool.or_eq_true,Bool.and_eq_true,decide_eq_true_eq] at h11
 omega
structure Ok3 (st:State) (r:Res):Prop where
 same:r.2.2=false->r.1=st
 err:r.2.1.err≠0->r.2.1=ZD r.2.1.err/\r.2.2=false
section
variable {st st':State} {a:Answer} {e n:Int}
theorem yU:Ok3 st (st,ZD e,false):=⟨fun _=>rfl,fun _=>⟨rfl,rfl⟩⟩
theorem zIi:Ok3 st (st,YF n,false):=⟨fun _=>rfl,fun h=>absurd rfl h⟩
theorem z2f:Ok3 st (st',YF n,true):=⟨fun h=>(by cases h),fun h=>absurd rfl h⟩
theorem z9l (h:a.err≠0->a=ZD a.err):Ok3 st (st,a,false):=⟨fun _=>rfl,fun k=>⟨h k,rfl⟩⟩
theorem ZN {p:Prop} [Decidable p] {x y:Res} (hx:Ok3 st x) (hy:Ok3 st y):Ok3 st (if p then x else y):=by
 split
 ·exact hx
 exact hy
end
theorem z9m {p:Prop} [Decidable p] {x y:Answer} (hx:x.err≠0->x=ZD x.err) (hy:y.err≠0->y=ZD y.err):(if p then x else y).err≠0->(if p then x else y)=ZD (if p then x else y).err:=by
 split
 ·exact hx
 exact hy
theorem z3z (e:Int):(ZD e).err≠0->ZD e=ZD (ZD e).err:=fun _=>rfl
theorem zO4 (st:State) (c:Call) (late:Bool):Ok3 st (yL st c late):=by
 unfold yL
 refine ZN yU ?_
 unfold doR
 dsimp only
 refine ZN ?_ (ZN ?_ (ZN ?_ (ZN ?_ (ZN ?_ (ZN ?_ (ZN ?_ (ZN ?_ (ZN ?_ (ZN ?_ (ZN ?_ (ZN ?_ (ZN ?_ ?_))))))))))))
 ·exact ZN yU (ZN yU z2f)
 ·exact ZN yU (ZN yU (ZN yU z2f))
 ·exact ZN yU (ZN zIi (ZN yU (ZN yU z2f)))
 ·exact ZN yU (ZN yU z2f)
 ·exact ZN yU (ZN zIi z2f)
 ·unfold z3x
  refine ZN yU ?_
  split
  ·exact ZN yU z2f
  exact ZN yU z2f
 ·refine z9l ?_
  unfold z2c
  split
  ·exact z3z _
  dsimp only
  split
  ·exact z3z _
  exact z9m (z3z _) (z9m (z3z _) fun h=>absurd rfl h)
 ·refine z9l ?_
  unfold z56
  exact z9m (z3z _) fun h=>absurd rfl h
 ·unfold z2r
  refine ZN yU ?_
  split
  ·exact yU
  exact ZN yU (ZN yU z2f)
 ·refine z9l ?_
  unfold z0h
  refine z9m (z3z _) ?_
  split
  ·exact z3z _
  exact fun h=>absurd rfl h
 ·exact ZN yU z2f
 ·exact z2f
 ·exact ZN yU (ZN yU z2f)
 exact z9l fun h=>absurd rfl h
noncomputable def doV (st:State) (q r:Int) (c:Call) (late:Bool):State×Answer:=
 if (yL st c late).2.2 then (if c.kind≠15/\c.kind≠16/\Bd.fitsOf (yL st c late).1 q r≠0 then (st,ZD (Bd.fitsOf (yL st c late).1 q r)) else ((yL st c late).1,(yL st c late).2.1))
 else (st,(yL st c late).2.1)
noncomputable def ZZ (st:State) (q r:Int) (c:Call):State×Answer:=if z95 c then doV st q r c false else (st,ZD 13)
theorem zK6 (st:State) (c:Call) (late:Bool) (h:c.kind=9\/c.kind=10\/c.kind=12\/c.kind=13):(yL st c late).2.2=false:=by
 unfold yL
 split
 ·rfl
 unfold doR
 dsimp only
 rcases h with h | h | h | h<;>simp [h]
theorem zMb {n:Nat} {st:State} {q r:Int} {c:Call} {late:Bool} (h:VInv n st) (hc:CallOk c):VInv (n+1) (doV st q r c late).1:=by
 unfold doV
 refine Z3 (fun _=>Z3 (fun _=>h.mono (by omega)) fun _=>zBi h hc) fun _=>h.mono (by omega)
theorem zMc {n:Nat}:∀{l:List Item},(∀x∈l,x.versions.length<=n)->Bd.verCount l<=n*l.length
 | [],_=>by simp [Bd.verCount]
 | x :: l,h=>by
  have h1:=h x (List.mem_cons_self ..)
  have h2:=zMc (l:=l) fun y hy=>h y (zmc _ hy)
  simp only [Bd.verCount,List.length_cons,Nat.mul_succ]
  omega
theorem zGo (g:Folder->Nat) (a b:Nat):∀{l:List Folder},(∀f∈l,g f<=a*ZQ f+b)->Bd.sumOf g l<=a*z06 l+b*l.length
 | [],_=>by simp [Bd.sumOf]
 | x :: l,h=>by
  have h1:=h x (List.mem_cons_self ..)
  have h2:=zGo g a b (l:=l) fun y hy=>h y (zmc _ hy)
  simp only [Bd.sumOf,z06,List.length_cons,Nat.mul_succ,Nat.mul_add]
  omega
theorem zMd {n:Nat} {st:State} (h:VInv n st) (hn:n<=41):Bd.smallOf st<=1000000/\Bd.largeOf st<=1000000:=by
 have h1:=h.few
 have h2:=h.sum
 have hs:Bd.sumOf Bd.small1 st.folders<=1*z06 st.folders+16*st.folders.length:=zGo _ 1 16 fun f hf=>by
  obtain ⟨k,hk,e⟩:=List.getElem_of_mem hf
  have hfo:fo st k=f:=by unfold fo;rw [List.getElem?_eq_getElem hk,e];rfl
  have:=z6z h hn hk
  rw [hfo] at this
  unfold Bd.small1 ZQ
  omega
 have hl:Bd.sumOf Bd.large1 st.folders<=42*z06 st.folders+0*st.folders.length:=zGo _ 42 0 fun f hf=>by
  have hF:=h.fol f hf
  have hv:=zMc (n:=41) (l:=f.items) fun x hx=>by have:=(hF.it x hx).2.1;omega
  unfold Bd.large1 ZQ
  omega
 unfold Bd.smallOf Bd.largeOf
 omega
end
section
def D5 (f:Folder):Prop:=∀x∈f.items,∀v∈x.versions,v.data.length<=512
def yP (st:State):Prop:=∀f∈st.folders,D5 f
section
variable {st:State} {c:Call} {f f':Folder} {k:Nat}
theorem zDk (h:D5 f) (e:f'.items=f.items):D5 f':=by
 unfold D5
 rw [e]
 exact h
theorem z96 (h:yP st) (k:Nat):D5 (fo st k):=by
 unfold fo
 cases hk:st.folders[k]? with
 | none=>exact fun x hx=>by simp [yX] at hx
 | some f=>exact h f (zmg hk)
theorem zQx (h:D5 f) (j:Nat):∀v∈(ZS f j).versions,v.data.length<=512:=by
 unfold ZS
 cases hk:f.items[j]? with
 | none=>exact fun v hv=>by simp at hv
 | some x=>exact h x (zmg hk)
theorem z6p (h:yP st) (hf:D5 f'):yP (setF st k f'):=fun g hg=>by
 rcases List.mem_or_eq_of_mem_set hg with e | e
 ·exact h g e
 ·rw [e];exact hf
theorem zDl (h:yP st) {k:Nat}:yP (z05 st k):=z6p h (zDk (z96 h k) (z80 st _ _).it)
theorem zPl (h:yP st) (k:Nat) (who:Nm):yP (z4k st k who):=z6p h (zDk (zDk (z96 h k) rfl) (z7z _ _ _).it)
theorem zOg (h:yP st) (k:Nat) (i:Option Nat) (name:Nm) (v:Version) (hv:v.data.length<=512):yP (z64 st k i name v).1:=by
 unfold z64
 cases i with
 | none=>
  refine z6p h fun x hx=>?_
  rcases zmb hx with e | e
  ·exact z96 h k x e
  rw [zml e]
  intro w hw
  rw [zml hw]
  exact hv
 | some j=>
  refine z6p h fun x hx=>?_
  rcases List.mem_or_eq_of_mem_set hx with e | e
  ·exact z96 h k x e
  rw [e]
  intro w hw
  rcases zmb hw with e2 | e2
  ·exact zQx (z96 h k) j w e2
  rw [zml e2]
  exact hv
theorem zMe (h:yP st) (s:Nm) (b:Bool):yP (lostS st s b):=by
 unfold lostS
 split
 ·exact h
 exact h
theorem zMf (h:yP st) (hd:c.data.length<=512) (late:Bool):yP (yL st c late).1:=by
 unfold yL
 refine Z3 (fun _=>h) fun _=>?_
 unfold doR
 dsimp only
 refine Z3 (fun _=>?_) fun _=>Z3 (fun _=>?_) fun _=>Z3 (fun _=>?_) fun _=>Z3 (fun _=>?_) fun _=>Z3 (fun _=>?_) fun _=>Z3 (fun _=>?_) fun _=>Z3 (fun _=>h) fun _=>Z3 (fun _=>h) fun _=>Z3 (fun _=>?_) fun _=>Z3 (fun _=>h) fun _=>Z3 (fun _=>?_) fun _=>Z3 (fun _=>?_) fun _=>Z3 (fun _=>?_) fun _=>h
 ·unfold z0d
  exact Z3 (fun _=>h) fun _=>Z3 (fun _=>h) fun _=>h
 ·unfold YL
  refine Z3 (fun _=>h) fun _=>Z3 (fun _=>h) fun _=>Z3 (fun _=>h) fun _=>?_
  unfold z47
  refine zDl (z6p (fun g hg=>?_) fun x hx=>by simp [z0g] at hx)
  rcases zmb hg with e | e
  ·exact h g e
  rw [zml e]
  exact fun x hx=>by simp [z0g] at hx
 ·unfold z2q
  refine Z3 (fun _=>h) fun _=>Z3 (fun _=>h) fun _=>Z3 (fun _=>h) fun _=>Z3 (fun _=>h) fun _=>?_
  generalize (Z7 st c.folder).getD 0=k
  exact zDl (st:=setF st k (z0f (fo st k) { zL (fo st k) with parent:=c.other,cut:=(zL (fo st k)).seq+1 } c.user)) (z6p h (zDk (z96 h k) rfl))
 ·unfold z0t
  exact Z3 (fun _=>h) fun _=>Z3 (fun _=>h) fun _=>z6p h (zDk (z96 h _) rfl)
 ·generalize (Z7 st c.folder).getD 0=k
  unfold Y9
  dsimp only
  refine Z3 (fun _=>h) fun _=>Z3 (fun _=>h) fun _=>z6p h (zDk (f:=fo st k) (z96 h k) ?_)
  unfold z0f
  dsimp only
  split<;>rfl
 ·have hp:yP (z5f st c ((Z7 st c.folder).getD 0)).1:=by
   unfold z5f
   refine zOg (zDl ?_) _ _ _ _ hd
   split
   ·exact zPl h _ _
   ·exact h
  unfold z3x
  refine Z3 (fun _=>h) fun _=>?_
  split
  ·exact Z3 (fun _=>h) fun _=>hp
  exact Z3 (fun _=>h) fun _=>hp
 ·unfold z2r
  refine Z3 (fun _=>h) fun _=>?_
  split
  ·exact h
  exact Z3 (fun _=>h) fun _=>Z3 (fun _=>h) fun _=>zOg h _ _ _ _ (by simp)
 ·unfold z21
  exact Z3 (fun _=>h) fun _=>h
 ·unfold z7t
  exact zMe h _ _
 unfold z0u
 exact Z3 (fun _=>h) fun _=>Z3 (fun _=>h) fun _=>zMe h _ _
end
end
end Go.Proofs.YtdggplhnfhcieaaGreatDoor
