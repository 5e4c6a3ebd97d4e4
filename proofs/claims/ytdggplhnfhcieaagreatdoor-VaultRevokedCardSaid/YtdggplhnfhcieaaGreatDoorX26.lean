/- No condition. -/
import Derived.Deep.CutRange
import Derived.Test.YtdggplhnfhcieaaGreatDoorX24
set_option linter.all false
set_option maxRecDepth 100000
set_option maxHeartbeats 16000000
namespace Go.Proofs.YtdggplhnfhcieaaGreatDoor
open Go.RowKit Go.Deep
def isP (p q:Pair):Bool:=decide (q.frm=p.frm) && decide (q.to=p.to)
theorem zMt (p:Pair) (l:List Pair) (v:Value) (w:World) (S:Nat->Prop) (h:Sl 2 z0o S w v l):
  Calls Tryz.prog 182 #[v,.agg #[.string p.frm,.string p.to]] w fun e w'=>e= .returned (.int .i64 (iOf (l.findIdx? (isP p))))/\Below w.heap.size w w':=by
 have eg:Tryz.prog.eqGuardType Tryz.prog.depth 126=false:=by kernel_rfl
 have sh:Tryz.prog.stoodInHeld 126=false:=by kernel_rfl
 have uf:=Tryz.underlying126;obtain ⟨_,_,rfl,_,hc,_,hs⟩:=h;unfold maxLen at hc;obtain ⟨w0,_,cw0,_,Bw0,qw0⟩:=zQ w #[.string p.frm,.string p.to] 126;have z0:=cw0 0 _ rfl;have z1:=cw0 1 _ rfl;have HB:=zh Bw0;clear cw0 Bw0;go_enter Tryz.func182,Tryz.ntmps182
 go_wp2;go_loopw [8] (fun i wr=>∃(k:Nat),k<=l.length/\i= .int .i64 k/\Hid (∀y∈l.take k,isP p y=false)/\Below w0.heap.size w0 wr) (fun i _=>l.length - (intOf i).toNat)
 case atStart=>exact ⟨0,by omega,by go_num,(fun y hy=>by simp at hy),Below.refl _ _⟩
 obtain ⟨k,_,rfl,HN,hbel⟩:=hrel;by_cases hlt:k < l.length
 rotate_left
 ·obtain rfl:k=l.length:=by omega
  have EH:=zh (z7k (p:=isP p) (l:=l) (by have:=HN.out;rwa [qLnx] at this));go_wp2;go_ret;exact ⟨by rw [EH.out];rfl,zB HB.out hbel⟩
 obtain ⟨x,_,_,hx,_,_,rfl,_,_,_,_,xr,_⟩:=zQ3 hs hlt (zK (zB HB.out hbel));have HX:=zh hx;have y0:=(hbel.cell (p:=⟨w.heap.size,0,none⟩) qw0).trans z0;have y1:=(hbel.cell (p:=⟨w.heap.size,1,none⟩) qw0).trans z1;clear hx xr;by_cases h1:p.frm=x.frm
 rotate_left
 ·have EP:=zh (z0l HN.out HX.out (show isP p x=false by unfold isP;simp;intro e;exact absurd e.symm h1));have q1:(p.frm.toList==x.frm.toList)=false:=z03 h1;go_wp2_with fail
  go_quiet (fail)
  go_wp2;go_roundw
  case rel=>exact ⟨k+1,by omega,by go_num,EP,z2j hbel _⟩
  case measure=>exact qMx
 by_cases h2:p.to=x.to
 ·have EP:=zh (show isP p x=true by unfold isP;rw [h1,h2];simp);have EH:=zh (z4o HN.out HX.out EP.out);rw [h1,h2] at y0 y1;go_wp2_with fail
  go_quiet (fail)
  go_wp2;go_ret;exact ⟨by rw [EH.out];rfl,zB HB.out (z2j hbel _)⟩
 have EP:=zh (z0l HN.out HX.out (show isP p x=false by unfold isP;simp;intro _ e;exact h2 e.symm));have q2:(p.to.toList==x.to.toList)=false:=z03 h2;rw [h1] at y0;go_wp2_with fail
 go_quiet (fail)
 go_wp2;go_roundw
 case rel=>exact ⟨k+1,by omega,by go_num,EP,z2j hbel _⟩
 case measure=>exact qMx
theorem zBz (p:Pair) (l:List Pair) (v:Value) (w:World) (S:Nat->Prop) (h:Sl 2 z0o S w v l):
  Calls Tryz.prog 150 #[v,.agg #[.string p.frm,.string p.to]] w fun e w'=>e= .returned (.bool (l.any (isP p)))/\Below w.heap.size w w':=by
 obtain ⟨w0,_,cw0,_,Bw0,_⟩:=zQ w #[.string p.frm,.string p.to] 126;have z0:=cw0 0 _ rfl;have z1:=cw0 1 _ rfl;have HB:=zh Bw0;have HC:=zh (zMt p l v w0 S (h.keep z2e (by decide) (zK Bw0)));obtain ⟨_,_,rfl,_⟩:=h;clear cw0 Bw0;go_enter Tryz.func150,Tryz.ntmps150
 go_wp2_with fail
 refine zcm HC.out ?_;rintro e _ ⟨rfl,B1⟩
 cases hi:l.findIdx? (isP p) with
 | none=>
  have EA:=zh (show l.any (isP p)=false from List.any_eq_false.2 fun x hx=>by simp [List.findIdx?_eq_none_iff.1 hi x hx]);simp only [iOf];go_wp2;go_ret
  exact ⟨ZM EA.out.symm,zB HB.out B1⟩
 | some i=>
  have EA:=zh (show l.any (isP p)=true from by
   obtain ⟨hl,hp,_⟩:=List.findIdx?_eq_some_iff_getElem.1 hi;exact List.any_eq_true.2 ⟨_,List.getElem_mem hl,hp⟩)
  simp only [iOf];go_wp2;go_ret;exact ⟨ZM EA.out.symm,zB HB.out B1⟩
section
section
variable {X:Nat->Prop} {base bw:Nat} {W:World} {R:RM} {c:Call} {dv:Value} {st:State} {late:Bool}
theorem zHf (h:WK X base bw W R c dv st false late) (hl:st.users.length<=9999):
  Calls Tryz.prog 87 #[.pointer (some ⟨bw,0,none⟩)] W (Did X base bw W R c dv late (YS st c)):=by
 obtain ⟨iUser,hiUser,hzUser,h1User,h2User⟩:=info_parts (show (Tryz.prog.info? 91).map (fun i=>(i.zero,i.size,i.bytes))=some (some (.agg #[.string ⟨#[]⟩,.bool false]),2,24) from by kernel_rfl);obtain ⟨_,_,e7,hkind,hus,_⟩:=YQ h.call;clear e7 hkind;have HUS:=zh hus;obtain ⟨w0,hw0⟩:∃w0,W.alloc (.cells zV 49)=w0:=⟨_,rfl⟩;have hN:=yA W;rw [hw0] at hN;obtain ⟨hE,B0,T0,z0⟩:=hN;have H0:=hE R h;have HW:=zh H0;have HT0:=zh T0;have HB0:=zh B0;have HU:=zh (z1s H0 c.user);obtain ⟨s1,s9⟩:w0.cell? ⟨bw,1,none⟩=some (.string c.user)/\w0.cell? ⟨bw,9,none⟩=some (R .us).v:=⟨H0.cells.1 1 _ rfl,H0.cells.1 9 _ rfl⟩;obtain ⟨D,f,hv,_⟩:=(h.os.row .us).shape;rw [h.is.users.1] at hv;rw [hv] at s9;have HV:=zh hv;have hlt:=H0.lt;clear h hv hus H0 hE B0 T0;unfold zV at hw0;go_enter Tryz.func87,Tryz.ntmps87
 go_wp2_with fail
 refine zcm HU.out ?_;rintro _ w1 ⟨rfl,B1⟩;have HB1:=zh B1
 cases hu:Y6 st c.user with
 | some u=>
  simp only [iOf];clear B1;go_wp2_with fail
  refine zcm (ZK 42 w1) ?_;rintro eq wq ⟨rfl,Bq⟩;obtain ⟨BW,H2,K2,y0,y1,y2,y3,y4,y5,y6,yz⟩:=zW HB1.out Bq HW.out z0 HT0.out;clear Bq;unfold yD;go_wp2;try simp only [Exit.inBlock,Exit.then]
  obtain ⟨F1,F2⟩:=Z6 K2.out (.int .i64 42) (.int .i64 0) (.string ⟨#[]⟩) (.slice none 0 0) (.slice none 0 0) (.slice none 0 0) (.slice none 0 0);refine bodyPost_ret (zq rfl rfl F1 rfl) rfl ?_;rw [show (YS st c)=(st,ZF 42,false) from by unfold YS;rw [hu];rfl]
  exact Z7 H2.out (Mut.below (zB HB0.out BW.out)) (znl _) F2 (y8 ⟨by omega,by omega⟩)
 | none=>
  simp only [iOf];have t1:=(B1.cell (p:=⟨bw,1,none⟩) hlt).trans s1;have t9:=(B1.cell (p:=⟨bw,9,none⟩) hlt).trans s9;clear B1 s1 s9;by_cases h16:16<=st.users.length
  ·have hg:(decide (16<=(st.users.length:Int)))=true:=decide_eq_true (by omega);go_wp2_with fail
   refine zcm (ZK 3 w1) ?_;rintro eq wq ⟨rfl,Bq⟩;obtain ⟨BW,H2,K2,y0,y1,y2,y3,y4,y5,y6,yz⟩:=zW HB1.out Bq HW.out z0 HT0.out;clear Bq;unfold yD;go_wp2;try simp only [Exit.inBlock,Exit.then]
   obtain ⟨F1,F2⟩:=Z6 K2.out (.int .i64 3) (.int .i64 0) (.string ⟨#[]⟩) (.slice none 0 0) (.slice none 0 0) (.slice none 0 0) (.slice none 0 0);refine bodyPost_ret (zq rfl rfl F1 rfl) rfl ?_;rw [show (YS st c)=(st,ZF 3,false) from by unfold YS;rw [hu];simp [h16]];exact Z7 H2.out (Mut.below (zB HB0.out BW.out)) (znl _) F2 (y8 ⟨by omega,by omega⟩)
  have hg:(decide (16<=(st.users.length:Int)))=false:=decide_eq_false (by omega);have H1:=HW.out.below HB1.out;have HROW:=zh (show RowC 91 2 w1 (.slice D st.users.length f) (R .us).cells from by rw [<-HV.out];exact H1.os.row .us);have HLEN:=zh (show (R .us).cells.length<=9999 from by rw [H1.is.users.1];exact hl);have HNB:=zh (show (Value.slice D st.users.length f).ownBlock≠some bw from fun e=>H1.nb ⟨.us,by rw [HV.out];exact e⟩);have HNA:=zh (show (Value.slice D st.users.length f).ownBlock≠some W.heap.size from fun e=>H1.nx W.heap.size (.inl ⟨.us,by rw [HV.out];exact e⟩) (.inr rfl));have HK1:=zh ((HB1.out.block _ z0).trans HT0.out);have s9z:∀q,w1.frozen? ⟨bw,q,none⟩=false:=H1.cells.2;have hlt1:=H1.lt;clear H1;go_wp2_with fail
  go_region_law (refine z1a w1 _ [.string c.user,.bool false] rfl (.tmp 27) (.tmp 34) 30 rfl iUser _ 24 Tryz.underlying30 hiUser hzUser h1User h2User rfl (by decide) (by decide) (.slice D st.users.length f) (R .us).cells rfl _ _ rfl HROW.out (by go_grown) (Nat.le_succ_of_le HLEN.out) rfl (by intro u hu;simp at hu;rcases hu with rfl | rfl<;>rfl) (by repeat' first|with_reducible assumption|((with_reducible first|refine zR _ ?_ ?_|apply zJ);rotate_left;first|with_reducible rfl|((try dsimp only);first|with_reducible assumption|omega|(simp only [zS];done)|(simp only [zS];omega)))|with_reducible apply zI|with_reducible refine zZ _ ?_|with_reducible refine ZL ?_|refine (rfl:(_:Array Value)=_)) ?_;intro v8 w8 r8 p8 o8;obtain ⟨A8,n8,cp8,rfl⟩:=r8.shape3;have HR8:=zh r8;have HP8:=zh p8;have HO8:=zh o8;have k8:=p8.block bw hlt1 HNB.out;have s98:=(World.cell?_of_block (a:=⟨bw,9,none⟩) k8).trans t9;have z8:∀q,w8.frozen? ⟨bw,q,none⟩=false:=(fun q=>by unfold World.frozen?;rw [k8];exact s9z q);clear k8 r8 p8 o8)
  all_goals
   have HX:=zh (HW.out.below HB1.out);obtain ⟨H9,M9⟩:=HX.out.usTo (l:=st.users++[⟨c.user,false⟩]) (by simp;have:=HLEN.out;omega) HR8.out (by rw [HV.out];exact HP8.out) (by rw [HV.out];exact HO8.out) (HX.out.is.users.snoc ⟨rfl,HUS.out⟩);have HM9:=zh M9;have HN9:=zh (fun e=>H9.nx W.heap.size e (.inr rfl));have K9:=zR (a:=⟨bw,9,none⟩) (.slice A8 n8 cp8) ((HP8.out.block _ (zO HK1.out) HNA.out).trans HK1.out) (fun e=>HN9.out (.inr e));have HK9:=zh K9;go_wp2_with fail
   refine zcm (z33 H9 0) ?_;clear H9 M9 K9;rintro _ _ ⟨rfl,H10,M10⟩;have HK10:=zh ((M10.but.block _ (zO HK9.out) (fun e=>HN9.out (e.symm.imp id id))).trans HK9.out);have K10:=HK10.out;unfold zV at K10;obtain ⟨y0,y1,y2,y3,y4,y5,y6⟩:=zC7 (zD K10).1;have yz:=(zD K10).2;have HH10:=zh H10;have HM10:=zh M10;clear H10 M10 K10;unfold yD;go_wp2;try simp only [Exit.inBlock,Exit.then]
   obtain ⟨F1,F2⟩:=Z6 HK10.out (.int .i64 0) (.int .i64 0) (.string ⟨#[]⟩) (.slice none 0 0) (.slice none 0 0) (.slice none 0 0) (.slice none 0 0);refine bodyPost_ret (zq rfl rfl F1 rfl) rfl ?_;rw [show YS st c=({ st with users:=st.users++[⟨c.user,false⟩] },YO 0,true) from by unfold YS;rw [hu];simp [h16]];exact Z7 HH10.out ((Mut.below (zB HB0.out HB1.out)).trans (HM9.out.trans HM10.out)) (znl _) F2 (z2t ⟨by omega,by omega⟩)
end
end
section
section
variable {X:Nat->Prop} {base bw:Nat} {W:World} {R:RM} {c:Call} {dv:Value} {st:State} {late:Bool}
theorem zIu (h:WK X base bw W R c dv st false late) (hl:st.deposits.length<=9999):
  Calls Tryz.prog 97 #[.pointer (some ⟨bw,0,none⟩)] W (Did X base bw W R c dv late (z1d st c)):=by
 obtain ⟨iPair,hiPair,hzPair,h1Pair,h2Pair⟩:=info_parts (show (Tryz.prog.info? 126).map (fun i=>(i.zero,i.size,i.bytes))=some (some (.agg #[.string ⟨#[]⟩,.string ⟨#[]⟩]),2,32) from by kernel_rfl);obtain ⟨_,_,e7,hkind,hus,_,_,hot,_⟩:=YQ h.call;clear e7 hkind;have HUS:=zh hus;have HOT:=zh hot;obtain ⟨w0,hw0⟩:∃w0,W.alloc (.cells zV 49)=w0:=⟨_,rfl⟩;have hN:=yA W;rw [hw0] at hN;obtain ⟨hE,B0,T0,z0⟩:=hN;have H0:=hE R h;have HW:=zh H0;have HT0:=zh T0;have HB0:=zh B0;obtain ⟨s1,s4,s10⟩:w0.cell? ⟨bw,1,none⟩=some (.string c.user)/\w0.cell? ⟨bw,4,none⟩=some (.string c.other)/\w0.cell? ⟨bw,10,none⟩=some (R .de).v:=⟨H0.cells.1 1 _ rfl,H0.cells.1 4 _ rfl,H0.cells.1 10 _ rfl⟩;obtain ⟨D,f,hv,_⟩:=(h.os.row .de).shape;rw [h.is.deps.1] at hv;rw [hv] at s10;have HV:=zh hv;have hlt:=H0.lt;clear h hv hus hot H0 hE B0 T0;unfold zV at hw0;go_enter Tryz.func97,Tryz.ntmps97
 go_upto_region 1 with fail
 go_cut [3] from 4 to 14 (fun s3 wx=>s3= .pointer (some ⟨w0.heap.size,0,none⟩)/\wx=(w0.alloc (.cells #[.string c.user,.string c.other] 126)).drew)
 case first=>
  go_region_law fail
  all_goals
   go_wp2;go_meet
   case rel=>exact ⟨rfl,rfl⟩
 obtain ⟨rfl,hwc⟩:=hcut;have B1:Below w0.heap.size w0 wc:=by rw [hwc];exact (Below.alloc zbr (znl _) _).drew
 have P1:wc.heap[w0.heap.size]? =some (.cells #[.string c.user,.string c.other] 126 (0,0)):=by rw [hwc];exact ZL (zJ _ rfl)
 have p0:wc.cell? ⟨w0.heap.size,0,none⟩=some (.string c.user):=(zD P1).1 0 _ rfl;have p1:wc.cell? ⟨w0.heap.size,1,none⟩=some (.string c.other):=(zD P1).1 1 _ rfl;have t10:wc.cell? ⟨bw,10,none⟩=some (.slice D st.deposits.length f):=(B1.cell (p:=⟨bw,10,none⟩) hlt).trans s10;have HB1:=zh B1;have HH1:=zh (HW.out.below B1);have HSL:=zh (show Sl 2 z0o (fun _=>True) wc (.slice D st.deposits.length f) st.deposits from by rw [<-HV.out];exact HH1.out.deSl);clear hwc B1 P1 s1 s4 s10;go_upto_region 2 with fail
 have HSQ:=zh (show ∀W':World,Below wc.heap.size wc W'->(fun W':World=>Below wc.heap.size wc W'/\W'.cell? ⟨bw,10,none⟩=some (.slice D st.deposits.length f)/\W'.cell? ⟨w0.heap.size,0,none⟩=some (.string c.user)/\W'.cell? ⟨w0.heap.size,1,none⟩=some (.string c.other)) W' from fun W' hW=>⟨hW,(hW.cell (p:=⟨bw,10,none⟩) (zF t10)).trans t10,(hW.cell (p:=⟨w0.heap.size,0,none⟩) (zF p0)).trans p0,(hW.cell (p:=⟨w0.heap.size,1,none⟩) (zF p1)).trans p1⟩);refine zE (by kernel_rfl) HSQ.out (fun hHeld=>?_);refine zi 0 ?_;iterate 6 (refine zt hHeld ?_;simp only [zA])
 refine zo ?_;refine zr 6 fun K hK=>?_
 go_simp;go_at_call 150
 refine zcm (zBz ⟨c.user,c.other⟩ _ _ _ _ (HSL.out.keep z2e (by decide) (zK zbr.drew))) ?_;rintro _ w2 ⟨rfl,b3⟩;have Bw2:Below wc.heap.size wc w2:=zB zbr.drew b3;clear b3 hHeld;refine hK.out _ _ (HSQ.out _ Bw2) (fun hHeld=>?_);clear hK K;refine wpAnyH_done (by kernel_rfl) ?_ _;clear hHeld HSQ;have HB2:=zh (zB HB1.out Bw2);have t20:=(Bw2.cell (p:=⟨bw,10,none⟩) (zF t10)).trans t10;have q0:=(Bw2.cell (p:=⟨w0.heap.size,0,none⟩) (zF p0)).trans p0;have q1:=(Bw2.cell (p:=⟨w0.heap.size,1,none⟩) (zF p1)).trans p1;clear Bw2 t10 p0 p1
 cases hd:st.deposits.any (isP ⟨c.user,c.other⟩) with
 | true=>
  go_wp2_with fail
  refine zcm (ZK 42 w2) ?_;rintro _ _ ⟨rfl,Bq⟩;obtain ⟨BW,H2,K2,y0,y1,y2,y3,y4,y5,y6,yz⟩:=zW HB2.out Bq HW.out z0 HT0.out;clear Bq;unfold yD;go_wp2;try simp only [Exit.inBlock,Exit.then]
  obtain ⟨F1,F2⟩:=Z6 K2.out (.int .i64 42) (.int .i64 0) (.string ⟨#[]⟩) (.slice none 0 0) (.slice none 0 0) (.slice none 0 0) (.slice none 0 0);refine bodyPost_ret (zq rfl rfl F1 rfl) rfl ?_;rw [show (z1d st c)=(st,ZF 42,false) from by unfold z1d;rw [show z98 st c=true from hd];rfl]
  exact Z7 H2.out (Mut.below (zB HB0.out BW.out)) (znl _) F2 (y8 ⟨by omega,by omega⟩)
 | false=>
  have H1:=HW.out.below HB2.out;have HH2:=zh H1;have HROW:=zh (show RowC 126 2 w2 (.slice D st.deposits.length f) (R .de).cells from by rw [<-HV.out];exact H1.os.row .de);have HLEN:=zh (show (R .de).cells.length<=9999 from by rw [H1.is.deps.1];exact hl);have HNB:=zh (show (Value.slice D st.deposits.length f).ownBlock≠some bw from fun e=>H1.nb ⟨.de,by rw [HV.out];exact e⟩);have HNA:=zh (show (Value.slice D st.deposits.length f).ownBlock≠some W.heap.size from fun e=>H1.nx W.heap.size (.inl ⟨.de,by rw [HV.out];exact e⟩) (.inr rfl));have HK1:=zh ((HB2.out.block _ z0).trans HT0.out);have s9z:∀q,w2.frozen? ⟨bw,q,none⟩=false:=H1.cells.2;have hlt1:=H1.lt;clear H1;go_wp2_with fail
  go_region_law (refine z1a w2 _ [.string c.user,.string c.other] rfl (.tmp 28) (.tmp 30) 31 rfl iPair _ 32 Tryz.underlying31 hiPair hzPair h1Pair h2Pair rfl (by decide) (by decide) (.slice D st.deposits.length f) (R .de).cells rfl _ _ rfl HROW.out (by go_grown) (Nat.le_succ_of_le HLEN.out) rfl (by intro u hu;simp at hu;rcases hu with rfl | rfl<;>rfl) (by repeat' first|with_reducible assumption|((with_reducible first|refine zR _ ?_ ?_|apply zJ);rotate_left;first|with_reducible rfl|((try dsimp only);first|with_reducible assumption|omega|(simp only [zS];done)|(simp only [zS];omega)))|with_reducible apply zI|with_reducible refine zZ _ ?_|with_reducible refine ZL ?_|refine (rfl:(_:Array Value)=_)) ?_;intro v8 w8 r8 p8 o8;obtain ⟨A8,n8,cp8,rfl⟩:=r8.shape3;have HR8:=zh r8;have HP8:=zh p8;have HO8:=zh o8;have k8:=p8.block bw hlt1 HNB.out;have s98:=(World.cell?_of_block (a:=⟨bw,10,none⟩) k8).trans t20;have z8:∀q,w8.frozen? ⟨bw,q,none⟩=false:=(fun q=>by unfold World.frozen?;rw [k8];exact s9z q);clear k8 r8 p8 o8)
  all_goals
   obtain ⟨H9,M9⟩:=HH2.out.deTo (l:=st.deposits++[⟨c.user,c.other⟩]) (by simp;have:=HLEN.out;omega) HR8.out (by rw [HV.out];exact HP8.out) (by rw [HV.out];exact HO8.out) (HH2.out.is.deps.snoc ⟨rfl,HUS.out,HOT.out⟩);have HM9:=zh M9;have HN9:=zh (fun e=>H9.nx W.heap.size e (.inr rfl));have K9:=zR (a:=⟨bw,10,none⟩) (.slice A8 n8 cp8) ((HP8.out.block _ (zO HK1.out) HNA.out).trans HK1.out) (fun e=>HN9.out (.inr e));have HK9:=zh K9;go_wp2_with fail
   refine zcm (z33 H9 0) ?_;clear H9 M9 K9;rintro _ _ ⟨rfl,H10,M10⟩;have HK10:=zh ((M10.but.block _ (zO HK9.out) (fun e=>HN9.out (e.symm.imp id id))).trans HK9.out);have K10:=HK10.out;unfold zV at K10;obtain ⟨y0,y1,y2,y3,y4,y5,y6⟩:=zC7 (zD K10).1;have yz:=(zD K10).2;have HH10:=zh H10;have HM10:=zh M10;clear H10 M10 K10;unfold yD;go_wp2;try simp only [Exit.inBlock,Exit.then]
   obtain ⟨F1,F2⟩:=Z6 HK10.out (.int .i64 0) (.int .i64 0) (.string ⟨#[]⟩) (.slice none 0 0) (.slice none 0 0) (.slice none 0 0) (.slice none 0 0);refine bodyPost_ret (zq rfl rfl F1 rfl) rfl ?_;rw [show z1d st c=({ st with deposits:=st.deposits++[⟨c.user,c.other⟩] },YO 0,true) from by unfold z1d;rw [show z98 st c=false from hd];rfl];exact Z7 HH10.out ((Mut.below (zB HB0.out HB2.out)).trans (HM9.out.trans HM10.out)) (znl _) F2 (z2t ⟨by omega,by omega⟩)
end
end
section
def hvN (st:State):Nat->Folder->Nat
 | 0,_=>0
 | n+1,f=>YN st n f.name
def z2q (st:State) (n:Nat) (s:Nm) (m:Nat) (f:Folder):Nat:=if inB s f then max m (hvN st n f) else m
theorem zSu {st:State} {n:Nat} {s:Nm} (h:zAg st n s):YN st n s=st.folders.foldl (z2q st n s) 0+1:=by
 cases n with
 | zero=>
  have h2:∀(l:List Folder),(∀f∈l,inB s f=false)->∀m,l.foldl (z2q st 0 s) m=m:=fun l=>by
   induction l with
   | nil=>intro _ m;rfl
   | cons f r ih=>
    intro hl m;rw [List.foldl_cons];unfold z2q;rw [hl f (List.mem_cons_self ..)];exact ih (fun x hx=>hl x (zmc _ hx)) m
  rw [h2 _ h]
  rfl
 | succ n=>rfl
theorem zMj {α β:Type} {f:β->α->β} {b:β} {l:List α} {k:Nat} {x:α} (hx:l[k]? =some x):(l.take (k+1)).foldl f b=f ((l.take k).foldl f b) x:=by
 rw [qLtx,hx,List.foldl_append];rfl
section
variable {X:Nat->Prop} {base bw:Nat} {R:RM} {c:Call} {dv:Value} {st:State} {done late:Bool}
theorem zOn (st:State):∀(n:Nat) (f:Folder),hvN st n f<=n
 | 0,_=>znl _
 | n+1,f=>by
  show YN st n f.name<=n+1
  cases n with
  | zero=>exact znl _
  | succ n=>
   have h2:∀(l:List Folder) (m:Nat),m<=n+1->l.foldl (z2q st (n+1) f.name) m<=n+1:=fun l=>by
    induction l with
    | nil=>intro m hm;exact hm
    | cons x r ih=>
     intro m hm;rw [List.foldl_cons];refine ih _ ?_;unfold z2q;split
     ·exact Nat.max_le.2 ⟨hm,zOn st (n+1) x⟩
     ·exact hm
   have:=h2 st.folders 0 (by omega);show st.folders.foldl (z2q st (n+1) f.name) 0+1<=n+1+1
   omega
theorem zIm (st:State) (n:Nat) (s:Nm):∀(l:List Folder) (m:Nat),m<=n->l.foldl (z2q st n s) m<=n
 | [],m,h=>h
 | x :: r,m,h=>by
  rw [List.foldl_cons];refine zIm st n s r _ ?_;unfold z2q;split
  ·exact Nat.max_le.2 ⟨h,zOn st n x⟩
  ·exact h
theorem zQw (a b:Nat):(max (a:Int) (b:Int))=((max a b:Nat):Int):=by omega
theorem zEn (n:Nat) (hn:n<=1000) (s:Nm) (W:World) (h:WK X base bw W R c dv st done late) (hok:zAg st n s) (hrec:∀f∈st.folders,inB s f=true->∀W,WK X base bw W R c dv st done late->Calls Tryz.prog 132 #[.pointer (some ⟨bw,0,none⟩),.string f.name] W fun e w'=>e= .returned (.int .i64 (hvN st n f))/\Below W.heap.size W w'):
  Calls Tryz.prog 132 #[.pointer (some ⟨bw,0,none⟩),.string s] W fun e w'=>e= .returned (.int .i64 (YN st n s))/\Below W.heap.size W w':=by
 have HW:=zh h;have HIH:=zh hrec;have HEQ:=zh (zSu hok);have HFL:=zh (zIm st n s st.folders 0 (by omega));obtain ⟨_,_,hv,_⟩:=(h.os.row .fo).shape;have s11:=h.cells.1 11 _ rfl;have hSl:=h.foSl;rw [hv] at s11 hSl;rw [h.is.fol] at s11 hSl;obtain ⟨_,_,e,_,fc,_,hs⟩:=hSl;simp only [Value.slice.injEq,true_and] at e;obtain ⟨rfl,rfl⟩:=e;unfold maxLen at fc;have hbw:=h.lt;clear h hrec hok hv;go_enter Tryz.func132,Tryz.ntmps132
 go_wp2_with fail
 go_loopw [5,15] (fun m i wr=>∃k:Nat,k<=st.folders.length/\i= .int .i64 k/\m= .int .i64 ((st.folders.take k).foldl (z2q st n s) 0:Nat)/\Below W.heap.size W wr) (fun _ i _=>st.folders.length - (intOf i).toNat)
 case atStart=>exact ⟨0,by omega,by go_num,rfl,Below.refl _ _⟩
 obtain ⟨k,_,rfl,rfl,hbel⟩:=hrel;have hz:=hbel.size;by_cases hlt:k < st.folders.length
 rotate_left
 ·obtain rfl:k=st.folders.length:=by omega
  rw [qLnx];obtain ⟨q,hq⟩:∃q,st.folders.foldl (z2q st n s) 0=q:=⟨_,rfl⟩;rw [hq];have HQ:=zh (show YN st n s=q+1 by rw [HEQ.out,hq]);have hqn:q<=n:=by rw [<-hq];exact HFL.out
  have hwr:IntKind.i64.wrap ((q:Int)+1)=(q:Int)+1:=by rw [IntKind.wrap_i64];omega
  clear hq;go_wp2;go_ret;exact ⟨ZB (by rw [HQ.out];rfl),hbel⟩
 have hki:(k:Int) < (st.folders.length:Int):=by omega
 obtain ⟨x,_,_,x_A2,x_c2,x_A3,x_c3,x_A4,x_c4,x_A5,x_c5,x_A6,x_c6,x_k,x_d,x_m,rfl,_,_,_,_,_,_,_,_,_,x_R,_,_,_,_,_,x_manifests_s,_,_,_,x_epochs_s,_,_,_,x_items_s,_,_,_,x_wraps_s,_,_,_,x_links_s⟩:=z4s hs hlt (zK hbel);have HXM:=zh x_m;have HXR:=zh x_R;have HSTEP:=zh (zMj (f:=z2q st n s) (b:=0) x_k);obtain ⟨q,hq⟩:∃q,(st.folders.take k).foldl (z2q st n s) 0=q:=⟨_,rfl⟩;rw [hq] at HSTEP⊢;obtain ⟨w2,hw2,cw2,fw2,Bw2,_⟩:=zQ wr #[.string ⟨#[]⟩,.int .i64 0,.slice none 0 0,.slice none 0 0,.slice none 0 0,.slice none 0 0,.slice none 0 0] 74;have HT2:w2.heap[wr.heap.size]? =some (.cells #[.string ⟨#[]⟩,.int .i64 0,.slice none 0 0,.slice none 0 0,.slice none 0 0,.slice none 0 0,.slice none 0 0] 74 (0,0)):=by rw [<-hw2];exact zJ _ rfl
 have d0:w2.cell? ⟨wr.heap.size,0,none⟩=some (.string ⟨#[]⟩):=(zD HT2).1 0 _ rfl;have d1:w2.cell? ⟨wr.heap.size,1,none⟩=some (.int .i64 0):=(zD HT2).1 1 _ rfl;have d2:w2.cell? ⟨wr.heap.size,2,none⟩=some (.slice none 0 0):=(zD HT2).1 2 _ rfl;have d3:w2.cell? ⟨wr.heap.size,3,none⟩=some (.slice none 0 0):=(zD HT2).1 3 _ rfl;have d4:w2.cell? ⟨wr.heap.size,4,none⟩=some (.slice none 0 0):=(zD HT2).1 4 _ rfl;have d5:w2.cell? ⟨wr.heap.size,5,none⟩=some (.slice none 0 0):=(zD HT2).1 5 _ rfl;have d6:w2.cell? ⟨wr.heap.size,6,none⟩=some (.slice none 0 0):=(zD HT2).1 6 _ rfl;have dz:=(zD HT2).2;have H2:=zh HT2;have HB2:=zh Bw2;clear cw2 fw2 HT2 Bw2 x_k x_d x_m x_R hq x_manifests_s x_epochs_s x_items_s x_wraps_s x_links_s;go_wp2_with fail
 obtain ⟨E1,E2⟩:=Z6 H2.out (.string x.name) (.int .i64 x.turn) (.slice x_A2 x.manifests.length x_c2) (.slice x_A3 x.epochs.length x_c3) (.slice x_A4 x.items.length x_c4) (.slice x_A5 x.wraps.length x_c5) (.slice x_A6 x.links.length x_c6);generalize hW3:World.setCell _ _ _=w3 at E1 E2⊢;have B3:Below wr.heap.size wr w3:=ButB.below HB2.out (by omega) (fun z hz=>by omega) E2;refine zcm (z62 x _ w3 (fun _=>True) (Z5 HXR.out (zK B3))) ?_;clear hW3 E2 d0 d1 d2 d3 d4 d5 d6 dz hw2;rintro _ w4 ⟨⟨_,rfl,hm⟩,B4⟩;have HE1:=zh ((B4.block _ (zO E1)).trans E1);have HB4:=zh (zB hbel (zB B3 B4));have hz4:wr.heap.size < w4.heap.size:=zO HE1.out;obtain ⟨m,hme⟩:∃m,zH x=m:=⟨_,rfl⟩;rw [hme] at hm;have HIN:=zh (show inB s x=(!m.gone && decide (m.parent=s)) by unfold inB;rw [hme]);obtain ⟨m_A2,m_c2,m_A4,m_c4,rfl,_⟩:=yF hm;obtain ⟨w5,hw5,cw5,fw5,Bw5,_⟩:=zQ w4 #[.string ⟨#[]⟩,.int .i64 0,.slice none 0 0,.string ⟨#[]⟩,.slice none 0 0,.int .i64 0,.bool false,.string ⟨#[]⟩] 84;have HT5:w5.heap[w4.heap.size]? =some (.cells #[.string ⟨#[]⟩,.int .i64 0,.slice none 0 0,.string ⟨#[]⟩,.slice none 0 0,.int .i64 0,.bool false,.string ⟨#[]⟩] 84 (0,0)):=by rw [<-hw5];exact zJ _ rfl
 have d0:w5.cell? ⟨w4.heap.size,0,none⟩=some (.string ⟨#[]⟩):=(zD HT5).1 0 _ rfl;have d1:w5.cell? ⟨w4.heap.size,1,none⟩=some (.int .i64 0):=(zD HT5).1 1 _ rfl;have d2:w5.cell? ⟨w4.heap.size,2,none⟩=some (.slice none 0 0):=(zD HT5).1 2 _ rfl;have d3:w5.cell? ⟨w4.heap.size,3,none⟩=some (.string ⟨#[]⟩):=(zD HT5).1 3 _ rfl;have d4:w5.cell? ⟨w4.heap.size,4,none⟩=some (.slice none 0 0):=(zD HT5).1 4 _ rfl;have d5:w5.cell? ⟨w4.heap.size,5,none⟩=some (.int .i64 0):=(zD HT5).1 5 _ rfl;have d6:w5.cell? ⟨w4.heap.size,6,none⟩=some (.bool false):=(zD HT5).1 6 _ rfl;have d7:w5.cell? ⟨w4.heap.size,7,none⟩=some (.string ⟨#[]⟩):=(zD HT5).1 7 _ rfl;have dz:=(zD HT5).2;have HB5:=zh Bw5;have y0:=(Bw5.cell (p:=⟨wr.heap.size,0,none⟩) hz4).trans ((zD HE1.out).1 0 _ rfl);have HS8:=zh (z6n HT5 (.string m.folder) (.int .i64 m.seq) (.slice m_A2 m.prev.length m_c2) (.string m.parent) (.slice m_A4 m.members.length m_c4) (.int .i64 m.cut) (.bool m.gone) (.string m.who));have hne:¬(wr.heap.size=w4.heap.size):=by omega
 have hne2:¬(w4.heap.size=wr.heap.size):=by omega
 clear cw5 fw5 HT5 Bw5 hm hme E1 B3 B4;cases hg:m.gone
 ·by_cases hp:m.parent=s
  rotate_left
  ·have hpe:(m.parent.toList==s.toList)=false:=z03 hp;have HIB:=zh (show inB s x=false by rw [HIN.out,hg,decide_eq_false hp];rfl);have HST:=zh (show z2q st n s q x=q by unfold z2q;rw [HIB.out];rfl);clear hp;rw [hg] at HS8;go_wp2_with fail
   obtain ⟨_,F2⟩:=HS8.out;generalize hW6:World.setCell _ _ _=w6 at F2⊢;have B6:Below W.heap.size W w6:=ButB.below (zB HB4.out HB5.out) (by have:=(zB HB4.out HB5.out).size;omega) (fun z hz=>by omega) F2;clear hW6 F2 y0 d0 d1 d2 d3 d4 d5 d6 d7 dz;go_wp2;go_roundw
   case rel=>exact ⟨k+1,by omega,by go_num,by rw [HSTEP.out,HST.out],B6⟩
   case measure=>exact qMx
  have hpe:(m.parent.toList==s.toList)=true:=by rw [hp];simp
  have HIB:=zh (show inB s x=true by rw [HIN.out,hg,decide_eq_true hp];rfl);have HST:=zh (show z2q st n s q x=max q (hvN st n x) by unfold z2q;rw [HIB.out];rfl);clear hp;rw [hg] at HS8;go_wp2_with fail
  obtain ⟨_,F2⟩:=HS8.out;generalize hW6:World.setCell _ _ _=w6 at F2⊢;have B6:Below W.heap.size W w6:=ButB.below (zB HB4.out HB5.out) (by have:=(zB HB4.out HB5.out).size;omega) (fun z hz=>by omega) F2;refine zcm (HIH.out x HXM.out HIB.out w6 (HW.out.below B6)) ?_;clear hW6 F2 y0 d0 d1 d2 d3 d4 d5 d6 d7 dz;rintro _ _ ⟨rfl,B7⟩;have B7':=zB B6 B7;clear B7 B6;go_wp2;go_roundw
  case rel=>exact ⟨k+1,by omega,by go_num,by rw [HSTEP.out,HST.out,<-zQw],B7'⟩
  case measure=>exact qMx
 have HIB:=zh (show inB s x=false by rw [HIN.out,hg];rfl);have HST:=zh (show z2q st n s q x=q by unfold z2q;rw [HIB.out];rfl);rw [hg] at HS8;go_wp2_with fail
 obtain ⟨_,F2⟩:=HS8.out;generalize hW6:World.setCell _ _ _=w6 at F2⊢;have B6:Below W.heap.size W w6:=ButB.below (zB HB4.out HB5.out) (by have:=(zB HB4.out HB5.out).size;omega) (fun z hz=>by omega) F2;clear hW6 F2 y0 d0 d1 d2 d3 d4 d5 d6 d7 dz;go_wp2;go_roundw
 case rel=>exact ⟨k+1,by omega,by go_num,by rw [HSTEP.out,HST.out],B6⟩
 case measure=>exact qMx
theorem zGo:∀(n:Nat),n<=1000->∀(s:Nm) (W:World),WK X base bw W R c dv st done late->zAg st n s->Calls Tryz.prog 132 #[.pointer (some ⟨bw,0,none⟩),.string s] W fun e w'=>e= .returned (.int .i64 (YN st n s))/\Below W.heap.size W w':=by
 intro n
 induction n with
 | zero=>exact fun hn s W h hok=>zEn 0 hn s W h hok fun f hf hb=>by rw [hok f hf] at hb;cases hb
 | succ n ih=>exact fun hn s W h hok=>zEn (n+1) hn s W h hok fun f hf hb w hw=>ih (by omega) f.name w hw (hok f hf hb)
end
end
end Go.Proofs.YtdggplhnfhcieaaGreatDoor
