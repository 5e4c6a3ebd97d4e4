/- Part 38 of the proof of vaultGranted_holds. No condition. -/
import Derived.Test.YtdggplhnfhcieaaGreatDoorY37
set_option linter.unusedVariables false
set_option linter.unusedSimpArgs false
set_option linter.unusedSectionVars false
set_option maxRecDepth 100000
namespace Go.Proofs.YtdggplhnfhcieaaGreatDoor
open Go.RowKit Go.Deep
theorem Reach.trans {E:List (GN×GN)} {a b c:GN} (r:Reach E a b) (s:Reach E b c):Reach E a c:=by
 induction s with
 | refl=>exact r
 | step _ hm ih=>exact .step ih hm
theorem reach_down {st:State} {u fo:Nm} {f:Folder} (hf:zV st fo=some f) {n:Int} (hn:n<=f.epochs.length) (h:z60 st u fo n):∀(k:Nat),1<=n - k->z60 st u fo (n - k)
 | 0,_=>by simpa using h
 | k+1,hk=>by
  have ih:=reach_down hf hn h k (by omega)
  refine .step ih (z5a.2 (.inr ⟨f,((z52 Folder.name _ _ _).1 hf).1,.inl ⟨n - k,by omega,by omega,?_,?_⟩⟩))
  ·rw [z1s hf]
  ·rw [z1s hf];congr 1;omega
section
section
variable {P:Nat->Prop} {bv base bw:Nat} {w w':World} {R:RM} {st st':State} {q r:Int} {c:Call} {dv:Value} {done late:Bool}
def z97 (st st':State) (q r:Int) (k:Int) (done:Bool) (a:Answer):State×Answer:=
 if done then (if k≠15/\k≠16/\Bd.fitsOf st' q r≠0 then (st,ZD (Bd.fitsOf st' q r)) else (st',a)) else (st,a)
theorem zO7 (st:State) (q r:Int):I64 (Bd.fitsOf st q r):=by
 unfold Bd.fitsOf
 repeat' split
 all_goals exact ⟨by omega,by omega⟩
theorem zEr {Y Z:Nat->Prop} {w1 w2:World} (h:ButB Y w w1) (k:ButB Z w1 w2) (hZ:∀b,Z b->w.heap.size<=b):ButB Y w w2:=
 ⟨k.os.trans h.os,k.tape.trans h.tape,k.output.trans h.output,Nat.le_trans h.size k.size,fun b hb hn=>(k.block b (zll hb h.size) fun e=>by have:=hZ b e;omega).trans (h.block b hb hn)⟩
theorem zIk {cs:List Value} {A:Answer} (hp:P bv) (ha:YC (Imm P bw R w) w cs A) (hb:ButB (fun b=>b=bv) w w'):YC (fun b=>¬P b) w' cs A:=
 z1b ha fun b ⟨h1,_,_,h4⟩ _=>⟨h4,hb.block b h1 fun e=>h4 (by rw [show b=bv from e];exact hp)⟩
theorem zQe (hp:P bv) (hW:WK P base bw w R c dv st' done late) (hb:ButB (fun b=>b=bv) w w') (hbox:w'.heap[bv]? =some (.cells #[.int .i64 st'.turn,(R .us).v,(R .de).v,(R .fo).v,.int .i64 q,.int .i64 r,.bool true] 95 (0,0))):VS P bv w' st' q r:=
 ⟨⟨_,_,_,hbox,zR (hW.is.stateS hW.os) fun b hr hl=>by
  have hne:¬P b:=hr.elim (fun e h=>hW.nx b (.inl e) h) fun e=>e.2.2.2
  exact ⟨hne,hb.block b hl fun e=>hne (by rw [show b=bv from e];exact hp)⟩⟩,hp,fun b h=>zll (hW.xl b h) hb.size⟩
theorem zO8 {w1:World} {T:TypeId} {x0 x1 x2 x3 x4 x5 x6:Value} (h:w1.heap[bv]? =some (.cells #[x0,x1,x2,x3,x4,x5,x6] T (0,0))) (hB:Below w.heap.size w w1) (v0 v1 v2 v3:Value):
  ((((w1.setCell ⟨bv,0,none⟩ v0).setCell ⟨bv,1,none⟩ v1).setCell ⟨bv,2,none⟩ v2).setCell ⟨bv,3,none⟩ v3).heap[bv]? =some (.cells #[v0,v1,v2,v3,x4,x5,x6] T (0,0))/\(∀b,b≠bv->((((w1.setCell ⟨bv,0,none⟩ v0).setCell ⟨bv,1,none⟩ v1).setCell ⟨bv,2,none⟩ v2).setCell ⟨bv,3,none⟩ v3).heap[b]? =w1.heap[b]?)/\
  ButB (fun b=>b=bv) w ((((w1.setCell ⟨bv,0,none⟩ v0).setCell ⟨bv,1,none⟩ v1).setCell ⟨bv,2,none⟩ v2).setCell ⟨bv,3,none⟩ v3):=by
 have h0:=zI (i:=0) (cs':=#[v0,x1,x2,x3,x4,x5,x6]) v0 h rfl
 have h1:=zI (i:=1) (cs':=#[v0,v1,x2,x3,x4,x5,x6]) v1 h0 rfl
 have h2:=zI (i:=2) (cs':=#[v0,v1,v2,x3,x4,x5,x6]) v2 h1 rfl
 have h3:=zI (i:=3) (cs':=#[v0,v1,v2,v3,x4,x5,x6]) v3 h2 rfl
 refine ⟨h3,fun b hb=>by rw [Below.heap_setCell _ _ _ _ hb,Below.heap_setCell _ _ _ _ hb,Below.heap_setCell _ _ _ _ hb,Below.heap_setCell _ _ _ _ hb],?_⟩
 have hb:ButB (fun b=>b=bv) w w1:=ButB.of hB
 exact (((hb.set ⟨bv,0,none⟩ v0 rfl).set ⟨bv,1,none⟩ v1 rfl).set ⟨bv,2,none⟩ v2 rfl).set ⟨bv,3,none⟩ v3 rfl
set_option maxHeartbeats 8000000 in
theorem zO9 (hW:WK P base bw w R c dv st' done late) (h:VS P bv w st q r) {cs:Array Value} {a:Answer} (ha:YC (Imm P bw R w) w cs.toList a) (hf:Bd.smallOf st'<=1000000/\Bd.largeOf st'<=1000000):
  Calls Tryz.prog 35 #[.pointer (some ⟨bv,0,none⟩),.pointer (some ⟨bw,0,none⟩),.agg cs] w fun e w'=>∃cs',e= .returned (.agg cs')/\VS P bv w' (z97 st st' q r c.kind done a).1 q r/\YC (fun b=>¬P b) w' cs'.toList (z97 st st' q r c.kind done a).2/\ButB (fun b=>b=bv) w w':=by
 obtain ⟨u1,u2,u3,h1,h2⟩:=h.box
 have hlt:=h.lt
 obtain ⟨A1,c1,A2,c2,A3,c3,e3,_⟩:=ZL h2
 simp only [List.cons.injEq,true_and,and_true] at e3
 obtain ⟨rfl,rfl,rfl⟩:=e3
 obtain ⟨A3',c3',A4',c4',A5',c5',A6',c6',rfl⟩:=ZY ha
 obtain ⟨E1,n1,p1,he1⟩:=(hW.os.row .us).shape3
 obtain ⟨E2,n2,p2,he2⟩:=(hW.os.row .de).shape3
 obtain ⟨E3,n3,p3,he3⟩:=(hW.os.row .fo).shape3
 obtain ⟨w0,hw0,cw0,fw0,Bw0,qw0⟩:=zO w #[.int .i64 a.err,.int .i64 a.number,.string a.who,.slice A3' a.data.length c3',.slice A4' a.names.length c4',.slice A5' a.members.length c5',.slice A6' a.history.length c6'] 49
 have hz0:w0.heap.size=w.heap.size+1:=by rw [<-hw0,World.size_alloc]
 obtain ⟨w1,hw1,cw1,fw1,Bw1,qw1⟩:=zO w0 zQ 49
 have HZ1:=zh (show w1.heap.size=w.heap.size+2 from by rw [<-hw1,World.size_alloc,hz0])
 have HB1:=zh (zB Bw0 Bw1)
 have HN1:=zh (show w1.heap[w.heap.size]? =some (.cells #[.int .i64 a.err,.int .i64 a.number,.string a.who,.slice A3' a.data.length c3',.slice A4' a.names.length c4',.slice A5' a.members.length c5',.slice A6' a.history.length c6'] 49 (0,0)) from (Bw1.block _ qw0).trans (by rw [<-hw0];exact zJ _ rfl))
 have HR1:=zh (show w1.heap[w.heap.size+1]? =some (.cells zQ 49 (0,0)) from by rw [<-hz0,<-hw1];exact zJ _ rfl)
 have HV1:=zh ((HB1.out.block bv hlt).trans h1)
 have HWH:=zh hW
 have HW1:=zh (hW.below HB1.out)
 have HVS:=zh h
 have HA:=zh ha
 have HLT:=zh hlt
 have HLW:=zh hW.lt
 have HNB:=zh (show bw≠bv from fun e=>hW.nx bw (.inr rfl) (by rw [e];exact h.pb))
 have HF1:=zh hf.1
 have HF2:=zh hf.2
 have HE:=zh (show (R .us).v= .slice E1 n1 p1/\(R .de).v= .slice E2 n2 p2/\(R .fo).v= .slice E3 n3 p3 from ⟨he1,he2,he3⟩)
 have HST:=zh (show ∀w',Below w1.heap.size w1 w'->ZX (fun _=>True) w' [.int .i64 st'.turn,.slice E1 n1 p1,.slice E2 n2 p2,.slice E3 n3 p3] st' from fun w' hb=>by rw [<-he1,<-he2,<-he3];exact (HW1.out.below hb).state)
 have t0:=HW1.out.cells.1 0 _ rfl
 have t8:=HW1.out.cells.1 8 _ rfl
 have t9:w1.cell? ⟨bw,9,none⟩=some (.slice E1 n1 p1):=by rw [<-he1];exact HW1.out.cells.1 9 _ rfl
 have t10:w1.cell? ⟨bw,10,none⟩=some (.slice E2 n2 p2):=by rw [<-he2];exact HW1.out.cells.1 10 _ rfl
 have t11:w1.cell? ⟨bw,11,none⟩=some (.slice E3 n3 p3):=by rw [<-he3];exact HW1.out.cells.1 11 _ rfl
 have t12:=HW1.out.cells.1 12 _ rfl
 clear h hW ha hf h1 h2 hlt he1 he2 he3 cw0 fw0 Bw0 cw1 fw1 Bw1 qw1
 unfold zQ at hw1
 go_enter Tryz.func35,Tryz.ntmps35
 cases done with
 | false=>
  obtain ⟨a0,a1,a2,a3,a4,a5,a6⟩:=zC7 (zD HN1.out).1
  have K:=HR1.out
  unfold zQ at K
  obtain ⟨y0,y1,y2,y3,y4,y5,y6⟩:=zC7 (zD K).1
  have yz:=(zD K).2
  clear K
  go_wp2
  try simp only [Exit.inBlock,Exit.then]
  obtain ⟨F1,F2⟩:=Z4 HR1.out (.int .i64 a.err) (.int .i64 a.number) (.string a.who) (.slice A3' a.data.length c3') (.slice A4' a.names.length c4') (.slice A5' a.members.length c5') (.slice A6' a.history.length c6')
  refine bodyPost_ret (results_cell_row rfl _ _ (w.heap.size+1) 49 _ (0,0) _ rfl F1 Tryz.underlying49 rfl (by kernel_rfl)) rfl ?_
  have hB:=ButB.below HB1.out HB1.out.size (fun z hz=>by have:z=w.heap.size+1:=hz;omega) F2
  exact ⟨_,rfl,HVS.out.below hB,zIk HVS.out.pb HA.out (ButB.of hB),ButB.of hB⟩
 | true=>
  go_upto_region 3 with fail
  go_cut [27] from 14 to 27 (fun s27 wx=>(∃b:Bool,s27= .bool b/\Hid (b=true↔(c.kind≠15/\c.kind≠16)))/\wx=w1)
  case first=>
    by_cases h15:c.kind=15
    ·have g1:(c.kind !=15)=false:=by simp [h15]
     have g2:decide (c.kind=15)=true:=decide_eq_true h15
     have H15:=zh h15
     clear h15
     go_wp2
     go_meet
     case rel=>exact ⟨⟨_,rfl,zh (by have:=H15.out;simp [this])⟩,rfl⟩
    ·have g1:(c.kind !=15)=true:=by simp [h15]
     have g2:decide (c.kind=15)=false:=decide_eq_false h15
     have H15:=zh h15
     clear h15
     go_wp2
     go_meet
     case rel=>exact ⟨⟨_,rfl,zh (by have:=H15.out;simp [this])⟩,rfl⟩
  obtain ⟨⟨bk,rfl,hbk⟩,rfl⟩:=hcut
  rename_i KK hKK
  refine hKK _ _ ?_
  clear hKK KK
  go_cut [7] from 28 to 44 (fun s7 wx=>Hid (Below wc.heap.size wc wx)/\Hid (¬(c.kind≠15/\c.kind≠16/\Bd.fitsOf st' q r≠0)))
  case first=>
   cases bk with
   | false=>
    have HNO:=zh (show ¬(c.kind≠15/\c.kind≠16/\Bd.fitsOf st' q r≠0) from fun e=>by have:=hbk.out.2 ⟨e.1,e.2.1⟩;cases this)
    go_wp2
    go_meet
    case rel=>exact ⟨zh zbr,HNO⟩
   | true=>
    have v4:=(zD HV1.out).1 4 _ rfl
    have v5:=(zD HV1.out).1 5 _ rfl
    go_upto_region 4 with fail
    have HSQ:=zh (show ∀W':World,Below wc.heap.size wc W'->(fun W':World=>Below wc.heap.size wc W'/\W'.cell? ⟨bw,8,none⟩=some (.int .i64 st'.turn)/\W'.cell? ⟨bw,9,none⟩=some (.slice E1 n1 p1)/\W'.cell? ⟨bw,10,none⟩=some (.slice E2 n2 p2)/\W'.cell? ⟨bw,11,none⟩=some (.slice E3 n3 p3)/\W'.cell? ⟨bv,4,none⟩=some (.int .i64 q)/\W'.cell? ⟨bv,5,none⟩=some (.int .i64 r)) W' from fun W' hW=>⟨hW,(hW.cell (p:=⟨bw,8,none⟩) (zF t8)).trans t8,(hW.cell (p:=⟨bw,9,none⟩) (zF t9)).trans t9,(hW.cell (p:=⟨bw,10,none⟩) (zF t10)).trans t10,(hW.cell (p:=⟨bw,11,none⟩) (zF t11)).trans t11,(hW.cell (p:=⟨bv,4,none⟩) (zF v4)).trans v4,(hW.cell (p:=⟨bv,5,none⟩) (zF v5)).trans v5⟩)
    refine zE (by kernel_rfl) HSQ.out (fun hHeld=>?_)
    refine zi 0 ?_
    iterate 12 (refine zt _ rfl (by kernel_rfl) rfl (fun _ _ _ h=>h) hHeld (by intro W' h;go_simp;try with_reducible rfl) ?_;simp only [zA])
    refine zo ?_
    refine zr 12 (by kernel_rfl) rfl (fun K hK=>?_)
    go_simp
    go_at_call 56
    refine zcm (Bd.fits_any st' q r HF1.out HF2.out _ _ (fun _=>True) (HST.out _ (zbr.drew))) ?_
    rintro e3 w3 ⟨rfl,b3⟩
    have Bw3:Below wc.heap.size wc w3:=zB (zbr.drew) b3
    clear b3 hHeld
    refine hK.out _ _ (HSQ.out _ Bw3) (fun hHeld=>?_)
    clear hK K
    refine zT 13 _ rfl (by kernel_rfl) rfl (fun _ _ _ h=>h) hHeld (by intro W' h;go_simp;try with_reducible rfl) ?_
    simp only [zA]
    refine wpAnyH_done (by kernel_rfl) ?_ _
    clear hHeld HSQ
    have HB3:=zh Bw3
    clear Bw3
    by_cases hfit:Bd.fitsOf st' q r=0
    ·have HNO:=zh (show ¬(c.kind≠15/\c.kind≠16/\Bd.fitsOf st' q r≠0) from fun e=>e.2.2 hfit)
     rw [hfit]
     clear hfit
     go_wp2
     go_meet
     case rel=>exact ⟨HB3,HNO⟩
    have hg1:(Bd.fitsOf st' q r !=0)=true:=by simp [hfit]
    have hg2:decide (Bd.fitsOf st' q r=0)=false:=decide_eq_false hfit
    have HES:=zh (show z97 st st' q r c.kind true a=(st,ZD (Bd.fitsOf st' q r)) from by
     unfold z97
     rw [if_pos rfl,if_pos ⟨(hbk.out.1 rfl).1,(hbk.out.1 rfl).2,hfit⟩])
    clear hfit
    go_wp2_with fail
    refine zcm (ZG (Bd.fitsOf st' q r) w3) ?_
    rintro e5 w5 ⟨rfl,B5⟩
    have HB5:=zh (zB HB3.out B5)
    have HBB:=zh (zB HB1.out HB5.out)
    have HR5:=zh ((HB5.out.block _ (zM HR1.out)).trans HR1.out)
    clear B5
    have K:=HR5.out
    unfold zQ at K
    obtain ⟨y0,y1,y2,y3,y4,y5,y6⟩:=zC7 (zD K).1
    have yz:=(zD K).2
    clear K
    unfold ZW
    go_wp2
    try simp only [Exit.inBlock,Exit.then]
    obtain ⟨F1,F2⟩:=Z4 HR5.out (.int .i64 (Bd.fitsOf st' q r)) (.int .i64 0) (.string ⟨#[]⟩) (.slice none 0 0) (.slice none 0 0) (.slice none 0 0) (.slice none 0 0)
    refine bodyPost_ret (results_cell_row rfl _ _ (w.heap.size+1) 49 _ (0,0) _ rfl F1 Tryz.underlying49 rfl (by kernel_rfl)) rfl ?_
    have hB:=ButB.below HBB.out HBB.out.size (fun z hz=>by have:z=w.heap.size+1:=hz;omega) F2
    rw [HES.out]
    exact ⟨_,rfl,HVS.out.below hB,ZU (zO7 st' q r),ButB.of hB⟩
  obtain ⟨HBc,HNO⟩:=hcut
  rename_i w2
  have HBB:=zh (zB HB1.out HBc.out)
  have HES:=zh (show z97 st st' q r c.kind true a=(st',a) from by
   unfold z97
   rw [if_pos rfl,if_neg HNO.out])
  have HNc:=zh ((HBc.out.block _ (zM HN1.out)).trans HN1.out)
  have HRc:=zh ((HBc.out.block _ (zM HR1.out)).trans HR1.out)
  have HVc:=zh ((HBc.out.block _ (zM HV1.out)).trans HV1.out)
  replace t8:=(HBc.out.cell (p:=⟨bw,8,none⟩) HW1.out.lt).trans t8
  replace t9:=(HBc.out.cell (p:=⟨bw,9,none⟩) HW1.out.lt).trans t9
  replace t10:=(HBc.out.cell (p:=⟨bw,10,none⟩) HW1.out.lt).trans t10
  replace t11:=(HBc.out.cell (p:=⟨bw,11,none⟩) HW1.out.lt).trans t11
  obtain ⟨s0,s1,s2,s3⟩:=zC4 (zD HVc.out).1
  have sz:=(zD HVc.out).2
  clear t0 t12
  go_upto_region 8 with fail
  have hq:=zO8 HVc.out HBB.out (.int .i64 st'.turn) (.slice E1 n1 p1) (.slice E2 n2 p2) (.slice E3 n3 p3)
  generalize hwv:(((wc.setCell ⟨bv,0,none⟩ (.int .i64 st'.turn)).setCell ⟨bv,1,none⟩ (.slice E1 n1 p1)).setCell ⟨bv,2,none⟩ (.slice E2 n2 p2)).setCell ⟨bv,3,none⟩ (.slice E3 n3 p3)=wv at hq⊢
  obtain ⟨q1,q2,q3⟩:=hq
  have HXv:=zh q1
  have HBv:=zh q3
  have HNv:=zh ((q2 w.heap.size (by have:=HLT.out;omega)).trans HNc.out)
  have HRv:=zh ((q2 (w.heap.size+1) (by have:=HLT.out;omega)).trans HRc.out)
  clear q1 q2 q3
  clear hwv s0 s1 s2 s3 sz t8 t9 t10 t11
  obtain ⟨a0,a1,a2,a3,a4,a5,a6⟩:=zC7 (zD HNv.out).1
  have K:=HRv.out
  unfold zQ at K
  obtain ⟨y0,y1,y2,y3,y4,y5,y6⟩:=zC7 (zD K).1
  have yz:=(zD K).2
  clear K
  go_wp2
  try simp only [Exit.inBlock,Exit.then]
  obtain ⟨F1,F2⟩:=Z4 HRv.out (.int .i64 a.err) (.int .i64 a.number) (.string a.who) (.slice A3' a.data.length c3') (.slice A4' a.names.length c4') (.slice A5' a.members.length c5') (.slice A6' a.history.length c6')
  refine bodyPost_ret (results_cell_row rfl _ _ (w.heap.size+1) 49 _ (0,0) _ rfl F1 Tryz.underlying49 rfl (by kernel_rfl)) rfl ?_
  have hB:=zEr HBv.out F2 (fun z hz=>by have:z=w.heap.size+1:=hz;omega)
  rw [HES.out]
  exact ⟨_,rfl,zQe HVS.out.pb HWH.out hB (by rw [HE.out.1,HE.out.2.1,HE.out.2.2];exact (F2.block bv (zM HXv.out) (fun e=>by have:bv=w.heap.size+1:=e;have:=HLT.out;omega)).trans HXv.out),zIk HVS.out.pb HA.out hB,hB⟩
end
end
section
def MayOk (w:World):Prop:=0 < w.heap.size/\∀r:Nat,r < 17->w.cell? ⟨0,r,none⟩=some (.int .i64 (YR r:Nat))
def z6q (c:Call):Prop:=c.user.size<=20/\c.folder.size<=20/\c.name.size<=20/\c.other.size<=20
section
variable {P:Nat->Prop} {bv base bw:Nat} {w w':World} {R:RM} {st st':State} {q r:Int} {c:Call} {dv:Value} {done late:Bool}
theorem MayOk.below (h:MayOk w) (hb:Below w.heap.size w w'):MayOk w':=⟨zll h.1 hb.size,fun r hr=>(hb.cell (p:=⟨0,r,none⟩) h.1).trans (h.2 r hr)⟩
theorem VS.more (h:VS P bv w st q r) (hb:Below w.heap.size w w') {Q:Nat->Prop} (hQ:∀b,Q b->w.heap.size<=b/\b < w'.heap.size):VS (fun b=>P b\/Q b) bv w' st q r:=by
 obtain ⟨v1,v2,v3,h1,h2⟩:=h.box
 exact ⟨⟨v1,v2,v3,(hb.block bv h.lt).trans h1,zR h2 fun b hp hl=>⟨fun e=>e.elim hp fun e=>by have:=(hQ b e).1;omega,hb.block b hl⟩⟩,.inl h.pb,fun b e=>e.elim (fun e=>zll (h.pl b e) hb.size) fun e=>(hQ b e).2⟩
theorem VS.less {Q:Nat->Prop} (h:VS (fun b=>P b\/Q b) bv w st q r) (hp:P bv) {B:Nat->Prop} (hb:ButB B w w') (hB:∀b,B b->Q b/\b≠bv):VS P bv w' st q r:=by
 obtain ⟨v1,v2,v3,h1,h2⟩:=h.box
 exact ⟨⟨v1,v2,v3,(hb.block bv h.lt fun e=>(hB bv e).2 rfl).trans h1,zR h2 fun b hn hl=>⟨fun e=>hn (.inl e),hb.block b hl fun e=>hn (.inr (hB b e).1)⟩⟩,hp,fun b e=>zll (h.pl b (.inl e)) hb.size⟩
theorem zPn:z97 st (yL st c late).1 q r c.kind (yL st c late).2.2 (yL st c late).2.1=doV st q r c late:=rfl
set_option maxHeartbeats 8000000 in
theorem z98 (h:VS P bv w st q r) (hc:z0s (fun b=>¬P b) w (z26 c dv) c) {n:Nat} (hI:VInv n st) (hn:n<=40) (hd:yP st) (hm:MayOk w) (hs:z6q c):
  Calls Tryz.prog 12 #[.pointer (some ⟨bv,0,none⟩),.agg #[.int .i64 c.kind,.string c.user,.string c.folder,.string c.name,.string c.other,.int .i64 c.role,.int .i64 c.version,dv]] w fun e w'=>∃cs:Array Value,e= .returned (.agg cs)/\VS P bv w' (ZZ st q r c).1 q r/\YC (fun b=>¬P b) w' cs.toList (ZZ st q r c).2/\ButB (fun b=>b=bv) w w':=by
 obtain ⟨_,_,_,h1,_⟩:=h.box
 have hlt:=h.lt
 obtain ⟨A7,c7,e7,hkind,hus,hfo,hna,hot,hro,hve,_⟩:=Y7 hc
 obtain rfl:dv= .slice A7 c.data.length c7:=by simpa [z26] using e7
 obtain ⟨w0,hw0,cw0,fw0,Bw0,qw0⟩:=zO w #[.int .i64 c.kind,.string c.user,.string c.folder,.string c.name,.string c.other,.int .i64 c.role,.int .i64 c.version,.slice A7 c.data.length c7] 41
 have hz0:w0.heap.size=w.heap.size+1:=by rw [<-hw0,World.size_alloc]
 obtain ⟨w1,hw1,cw1,fw1,Bw1,qw1⟩:=zO w0 zQ 49
 have HZ1:=zh (show w1.heap.size=w.heap.size+2 from by rw [<-hw1,World.size_alloc,hz0])
 have HB1:=zh (zB Bw0 Bw1)
 have HN1:=zh (show w1.heap[w.heap.size]? =some (.cells #[.int .i64 c.kind,.string c.user,.string c.folder,.string c.name,.string c.other,.int .i64 c.role,.int .i64 c.version,.slice A7 c.data.length c7] 41 (0,0)) from (Bw1.block _ qw0).trans (by rw [<-hw0];exact zJ _ rfl))
 have HR1:=zh (show w1.heap[w.heap.size+1]? =some (.cells zQ 49 (0,0)) from by rw [<-hz0,<-hw1];exact zJ _ rfl)
 have HV1:=zh (h.more HB1.out (Q:=fun b=>b=w.heap.size+1) fun b e=>by have:b=w.heap.size+1:=e;rw [HZ1.out];omega)
 have HC1:=zh (show z0s (fun b=>¬(P b\/b=w.heap.size+1)) w1 (z26 c (.slice A7 c.data.length c7)) c from YD hc fun b hp hl=>⟨fun e=>e.elim hp fun e=>by omega,HB1.out.block b hl⟩)
 have HVS:=zh h
 have HI:=zh hI
 have HD:=zh hd
 have HS:=zh hs
 have HLT:=zh hlt
 have HPB:=zh h.pb
 have HMA:=zh (zDj c.kind c.user c.folder c.name c.other c.role c.version A7 c.data.length c7 hus hfo hna hot w1 (hm.below HB1.out).1 (hm.below HB1.out).2)
 have s6:=(HB1.out.cell (p:=⟨bv,6,none⟩) hlt).trans ((zD h1).1 6 _ rfl)
 obtain ⟨k0,k1,k2,k3,k4,k5,k6,k7⟩:=zC8 (zD HN1.out).1
 clear h hc hI hd hm hs h1 hlt e7 cw0 fw0 Bw0 cw1 fw1 Bw1 qw1 hkind hus hfo hna hot hro hve
 unfold zQ at hw1
 go_enter Tryz.func12,Tryz.ntmps12
 go_wp2_with fail
 refine zcm HMA.out ?_
 rintro _ w2 ⟨rfl,B2⟩
 have HB2:=zh B2
 have HB02:=zh (zB HB1.out B2)
 have HR2:=zh ((B2.block _ (zM HR1.out)).trans HR1.out)
 have HV2:=zh (HV1.out.below B2)
 have HC2:=zh (YD HC1.out (zH B2))
 replace k0:=(B2.cell (p:=⟨w.heap.size,0,none⟩) (zM HN1.out)).trans k0
 replace k1:=(B2.cell (p:=⟨w.heap.size,1,none⟩) (zM HN1.out)).trans k1
 replace k2:=(B2.cell (p:=⟨w.heap.size,2,none⟩) (zM HN1.out)).trans k2
 replace k3:=(B2.cell (p:=⟨w.heap.size,3,none⟩) (zM HN1.out)).trans k3
 replace k4:=(B2.cell (p:=⟨w.heap.size,4,none⟩) (zM HN1.out)).trans k4
 replace k5:=(B2.cell (p:=⟨w.heap.size,5,none⟩) (zM HN1.out)).trans k5
 replace k6:=(B2.cell (p:=⟨w.heap.size,6,none⟩) (zM HN1.out)).trans k6
 replace k7:=(B2.cell (p:=⟨w.heap.size,7,none⟩) (zM HN1.out)).trans k7
 clear B2 s6
 have hfold:z3m ZB c.kind c.user c.folder c.name c.other c.role c.version (c.data.length:Int)=z95 c:=rfl
 rw [hfold]
 clear hfold
 cases hmc:z95 c with
 | false=>
  have HM:=zh (show ZZ st q r c=(st,ZD 13) from by unfold ZZ;rw [hmc];rfl)
  clear k0 k1 k2 k3 k4 k5 k6 k7 hmc
  go_wp2_with fail
  refine zcm (ZG 13 w2) ?_
  rintro e5 w5 ⟨rfl,B5⟩
  have HBB:=zh (zB HB02.out B5)
  have HR5:=zh ((B5.block _ (zM HR2.out)).trans HR2.out)
  clear B5
  have K:=HR5.out
  unfold zQ at K
  obtain ⟨y0,y1,y2,y3,y4,y5,y6⟩:=zC7 (zD K).1
  have yz:=(zD K).2
  clear K
  unfold ZW
  go_wp2
  try simp only [Exit.inBlock,Exit.then]
  obtain ⟨F1,F2⟩:=Z4 HR5.out (.int .i64 13) (.int .i64 0) (.string ⟨#[]⟩) (.slice none 0 0) (.slice none 0 0) (.slice none 0 0) (.slice none 0 0)
  refine bodyPost_ret (results_cell_row rfl _ _ (w.heap.size+1) 49 _ (0,0) _ rfl F1 Tryz.underlying49 rfl (by kernel_rfl)) rfl ?_
  have hB:=ButB.below HBB.out HBB.out.size (fun z hz=>by have:z=w.heap.size+1:=hz;omega) F2
  rw [HM.out]
  exact ⟨_,rfl,HVS.out.below hB,ZU ⟨by omega,by omega⟩,ButB.of hB⟩
 | true=>
  obtain ⟨ck,cd⟩:=zIh hmc HS.out.1 HS.out.2.1 HS.out.2.2.1 HS.out.2.2.2
  have HM:=zh (show ZZ st q r c=doV st q r c false from by unfold ZZ;rw [hmc];rfl)
  have HTR:=zh (zO6 HV2.out HC2.out HI.out hn HD.out ck cd false)
  have HFEW:=zh (zMd (zBi (late:=false) HI.out ck) (by omega))
  clear hmc ck cd
  go_wp2_with fail
  refine zcm HTR.out ?_
  rintro _ w3 ⟨_,bw,R,cs,rfl,hbw,B3,h3,ha⟩
  obtain ⟨A3',c3',A4',c4',A5',c5',A6',c6',rfl⟩:=ZY ha
  generalize hx:yL st c false=x at h3 ha
  have HX:=zh hx
  obtain ⟨st5,a,dn⟩:=x
  obtain ⟨_,_,cw4,fw4,Bw4,_⟩:=zO w3 #[.int .i64 a.err,.int .i64 a.number,.string a.who,.slice A3' a.data.length c3',.slice A4' a.names.length c4',.slice A5' a.members.length c5',.slice A6' a.history.length c6'] 49
  have HB24:=zh (zB B3 Bw4)
  have HV4:=zh (HV2.out.below HB24.out)
  have H4:=zh (h3.below Bw4)
  have HA4:=zh (z1b ha (Mut.below (bw:=bw) (R:=R) Bw4).kept)
  have HR4:=zh ((HB24.out.block _ (zM HR2.out)).trans HR2.out)
  have HB04:=zh (zB HB02.out HB24.out)
  have HFS:=zh (show Bd.smallOf st5<=1000000/\Bd.largeOf st5<=1000000 from by have:=HFEW.out;rw [hx] at this;exact this)
  have HEN:=zh (zO9 H4.out HV4.out HA4.out HFS.out)
  have a0:=cw4 0 _ rfl
  have a1:=cw4 1 _ rfl
  have a2:=cw4 2 _ rfl
  have a3:=cw4 3 _ rfl
  have a4:=cw4 4 _ rfl
  have a5:=cw4 5 _ rfl
  have a6:=cw4 6 _ rfl
  clear B3 h3 ha hx cw4 fw4 Bw4 k0 k1 k2 k3 k4 k5 k6 k7 hbw
  go_wp2_with fail
  refine zcm HEN.out ?_
  rintro e5 w5 ⟨_,rfl,V5,ha5,B5⟩
  have HE5:=zh (show z97 st st5 q r c.kind dn a=doV st q r c false from by rw [<-zPn,HX.out])
  rw [HE5.out] at V5 ha5
  generalize hy:doV st q r c false=y at V5 ha5
  have HY:=zh hy
  obtain ⟨_,b⟩:=y
  obtain ⟨A3'',c3'',A4'',c4'',A5'',c5'',A6'',c6'',rfl⟩:=ZY ha5
  have HV5:=zh V5
  have HA5:=zh ha5
  have HB5:=zh B5
  have HR5:=zh ((B5.block _ (zM HR4.out) (fun e=>by have:w.heap.size+1=bv:=e;have:=HLT.out;omega)).trans HR4.out)
  clear V5 ha5 B5 hy a0 a1 a2 a3 a4 a5 a6
  have K:=HR5.out
  unfold zQ at K
  obtain ⟨y0,y1,y2,y3,y4,y5,y6⟩:=zC7 (zD K).1
  have yz:=(zD K).2
  clear K
  go_wp2
  try simp only [Exit.inBlock,Exit.then]
  obtain ⟨F1,F2⟩:=Z4 HR5.out (.int .i64 b.err) (.int .i64 b.number) (.string b.who) (.slice A3'' b.data.length c3'') (.slice A4'' b.names.length c4'') (.slice A5'' b.members.length c5'') (.slice A6'' b.history.length c6'')
  refine bodyPost_ret (results_cell_row rfl _ _ (w.heap.size+1) 49 _ (0,0) _ rfl F1 Tryz.underlying49 rfl (by kernel_rfl)) rfl ?_
  rw [HM.out,HY.out]
  refine ⟨_,rfl,HV5.out.less HPB.out F2 fun b e=>⟨e,fun h=>by have:b=w.heap.size+1:=e;have:=HLT.out;omega⟩,z1b HA5.out fun b hn hl=>⟨fun e=>hn (.inl e),F2.block b hl fun e=>hn (.inr e)⟩,?_⟩
  have hb4:ButB (fun b=>b=bv) w _:=ButB.of HB04.out
  exact zEr (hb4.trans HB5.out) F2 (fun z hz=>by have:z=w.heap.size+1:=hz;omega)
end
end
section
theorem firsts_all {α:Type} (key:α->Nm) {l:List α} (h:(l.map key).Nodup) {x:α} (hx:x∈l):x∈ZF key l:=by
 rw [zIo]
 obtain ⟨a,b,rfl⟩:=List.append_of_mem hx
 refine ⟨a,b,rfl,fun hm=>?_⟩
 rw [List.map_append,List.map_cons,List.nodup_append] at h
 exact h.2.2 _ hm _ (List.mem_cons_self ..) rfl
def WOk (f:Folder):Prop:=∀w∈f.wraps,1<=w.epoch/\w.epoch<=f.epochs.length
def zQz (st:State):Prop:=∀f∈st.folders,WOk f
structure GrowF (f f':Folder):Prop where
 name:f'.name=f.name
 ep:f.epochs.length<=f'.epochs.length
 wr:∀w∈f.wraps,∃w'∈f'.wraps,w'.name=w.name/\z1t f.epochs w<=z1t f'.epochs w'
 lk:∀l∈f.links,l∈f'.links
theorem GrowF.of {f f':Folder} (h1:f'.name=f.name) (h2:f'.epochs=f.epochs) (h3:f'.wraps=f.wraps) (h4:f'.links=f.links):GrowF f f':=
 ⟨h1,by rw [h2];exact znl _,fun w hw=>⟨w,by rw [h3];exact hw,rfl,by rw [h2];exact Int.le_refl _⟩,fun l hl=>by rw [h4];exact hl⟩
theorem GrowF.refl (f:Folder):GrowF f f:= .of rfl rfl rfl rfl
theorem GrowF.trans {a b c:Folder} (h:GrowF a b) (k:GrowF b c):GrowF a c:=
 ⟨k.name.trans h.name,Nat.le_trans h.ep k.ep,fun w hw=>by
  obtain ⟨x,hx,e1,_⟩:=h.wr w hw
  obtain ⟨y,hy,e3,_⟩:=k.wr x hx
  exact ⟨y,hy,e3.trans e1,by omega⟩,fun l hl=>k.lk l (h.lk l hl)⟩
theorem WOk.of {f f':Folder} (h:WOk f) (h2:f'.epochs=f.epochs) (h3:f'.wraps=f.wraps):WOk f':=fun w hw=>by
 rw [h2];exact h w (by rwa [h3] at hw)
theorem wrapE_le {l:List Epoch} {w:Wrap} (h:1<=w.epoch/\w.epoch<=l.length):1<=z1t l w/\z1t l w<=l.length:=by
 unfold z1t
 split
 ·have:=zDy h.1 h.2
  omega
 exact h
theorem wrapE_new {l:List Epoch} (h:1<=l.length) (s:Nm) (b:Bool):z1t l ⟨s,l.length,b⟩=l.length:=by
 have:=wrapE_le (l:=l) (w:=⟨s,l.length,b⟩) ⟨by show (1:Int)<=l.length;omega,by show ((l.length:Nat):Int)<=_;omega⟩
 unfold z1t at this⊢
 dsimp only at this⊢
 split
 ·rw [yT,if_pos (by omega)]
  simp [z1c]
 rfl
theorem lastGo_snoc (x:Epoch):∀(l:List Epoch) (e:Int),z1c l e<=z1c (l++[x]) e
 | [],e=>by
  rw [List.nil_append,z1c,z1c]
  split
  ·omega
  ·rw [z1c];omega
 | y :: l,e=>by
  rw [List.cons_append,z1c,z1c]
  split
  ·omega
  ·exact lastGo_snoc x l (e+1)
theorem wrapE_snoc (l:List Epoch) (x:Epoch) {w:Wrap} (h:1<=w.epoch/\w.epoch<=l.length):z1t l w<=z1t (l++[x]) w:=by
 unfold z1t
 split
 ·rw [yT,yT,if_pos h,if_pos ⟨h.1,by have:=h.2;simp;omega⟩,List.drop_append_of_le_length (by have:=h.2;omega)]
  exact lastGo_snoc x _ _
 exact Int.le_refl _
theorem giveL_grow (eps:List Epoch) (h1:1<=eps.length) (name:Nm) (seed:Bool):∀{l:List Wrap},(∀w∈l,1<=w.epoch/\w.epoch<=eps.length)->∀w∈l,∃w'∈z24 eps name seed l,w'.name=w.name/\z1t eps w<=z1t eps w'
 | [],_,w,hw=>by cases hw
 | x :: r,h,w,hw=>by
  unfold z24
  split
  ·rename_i e
   split
   ·exact ⟨w,hw,rfl,Int.le_refl _⟩
   ·rcases List.mem_cons.1 hw with e2 | e2
    ·subst e2
     refine ⟨_,List.mem_cons_self ..,e.symm,?_⟩
     rw [wrapE_new h1]
     exact (wrapE_le (h w hw)).2
    ·exact ⟨w,zmc _ e2,rfl,Int.le_refl _⟩
  ·split
   ·exact ⟨w,zmc _ hw,rfl,Int.le_refl _⟩
   ·rcases List.mem_cons.1 hw with e2 | e2
    ·exact ⟨w,by rw [e2];exact List.mem_cons_self ..,rfl,Int.le_refl _⟩
    ·obtain ⟨y,hy,hz⟩:=giveL_grow eps h1 name seed (fun z hz=>h z (zmc _ hz)) w e2
     exact ⟨y,zmc _ hy,hz⟩
def Gro (f f':Folder):Prop:=GrowF f f'/\WOk f'/\1<=f'.epochs.length
theorem gro_give {f:Folder} (h:WOk f) (h1:1<=f.epochs.length) (s:Nm) (b:Bool):Gro f (yZ f s b):=
 ⟨⟨rfl,znl _,fun w hw=>giveL_grow f.epochs h1 s b h w hw,fun _ hl=>hl⟩,fun w hw=>by
  rcases z8v hw with e | e
  ·rw [e]
   exact ⟨show (1:Int)<=f.epochs.length by omega,Int.le_refl _⟩
  ·exact h w e,h1⟩
theorem Gro.trans {a b c:Folder} (h:Gro a b) (k:Gro b c):Gro a c:=⟨h.1.trans k.1,k.2⟩
theorem gro_ms (sd:Member->Bool):∀(ms:List Member) {f:Folder},WOk f->1<=f.epochs.length->Gro f (yD sd f ms)
 | [],f,h,h1=>⟨GrowF.refl f,h,h1⟩
 | m :: r,f,h,h1=>by
  have k:=gro_give h h1 m.name (sd m)
  exact k.trans (gro_ms sd r k.2.1 k.2.2)
theorem gro_cover (st:State):∀(l:List At) {f:Folder},WOk f->1<=f.epochs.length->Gro f (z07 st l f)
 | [],f,h,h1=>⟨GrowF.refl f,h,h1⟩
 | x :: r,f,h,h1=>by
  unfold z07
  split
  ·have k:=gro_ms (fun _=>false) (zL ((zV st x.name).getD yX)).members h h1
   exact k.trans (gro_cover st r k.2.1 k.2.2)
  ·split
   ·exact ⟨GrowF.refl f,h,h1⟩
   ·exact ⟨⟨rfl,znl _,fun w hw=>⟨w,hw,rfl,Int.le_refl _⟩,fun l hl=>List.mem_append_left _ hl⟩,h,h1⟩
theorem gro_epoch {f:Folder} (h:WOk f) (e:Epoch):Gro f { f with epochs:=f.epochs++[e] }:=
 ⟨⟨rfl,by simp,fun w hw=>⟨w,hw,rfl,wrapE_snoc _ _ (h w hw)⟩,fun _ hl=>hl⟩,fun w hw=>by have:=h w hw;simp;omega,by simp⟩
structure GrowS (st st':State):Prop where
 dep:∀p∈st.deposits,p∈st'.deposits
 fo:∀f∈st.folders,∃f'∈st'.folders,GrowF f f'
 wa:zQz st'
theorem GrowS.refl {st:State} (h:zQz st):GrowS st st:=⟨fun _ h=>h,fun f hf=>⟨f,hf,GrowF.refl f⟩,h⟩
theorem GrowS.trans {a b c:State} (h:GrowS a b) (k:GrowS b c):GrowS a c:=
 ⟨fun p hp=>k.dep p (h.dep p hp),fun f hf=>by
  obtain ⟨g,hg,e⟩:=h.fo f hf
  obtain ⟨g',hg',e'⟩:=k.fo g hg
  exact ⟨g',hg',e.trans e'⟩,k.wa⟩
theorem GrowS.of {a b:State} (h:zQz a) (h1:∀p∈a.deposits,p∈b.deposits) (h2:b.folders=a.folders):GrowS a b:=
 ⟨h1,fun f hf=>⟨f,by rw [h2];exact hf,GrowF.refl f⟩,fun f hf=>h f (by rwa [h2] at hf)⟩
theorem grow_set {st:State} (h:zQz st) {k:Nat} (hk:k < st.folders.length) {f':Folder} (hg:Gro (fo st k) f'):GrowS st (setF st k f'):=by
 have hat:st.folders[k]? =some (fo st k):=by unfold Go.Proofs.YtdggplhnfhcieaaGreatDoor.fo;rw [List.getElem?_eq_getElem hk];rfl
 refine ⟨fun _ h=>h,fun f hf=>?_,fun f hf=>?_⟩
 ·obtain ⟨j,hj⟩:=List.getElem?_of_mem hf
  by_cases e:k=j
  ·subst e
   obtain rfl:=zsi (hat.symm.trans hj)
   exact ⟨f',zmg (i:=k) (by unfold setF;rw [List.getElem?_set_self hk]),hg.1⟩
  exact ⟨f,zmg (i:=j) (by unfold setF;rw [List.getElem?_set_ne e];exact hj),GrowF.refl f⟩
 rcases List.mem_or_eq_of_mem_set hf with hx | rfl
 ·exact h f hx
 exact hg.2.1
theorem GrowS.turn {a b:State} (h:GrowS a b) (t:Int):GrowS a { b with turn:=t }:=⟨h.dep,h.fo,h.wa⟩
theorem reach_step {st st':State} (hg:GrowS st st') (hN:z34 st') (hR:∀f∈st'.folders,z1i f.wraps) (hw:zQz st) {a b:GN} (h:(a,b)∈z3h st):Reach (z3h st') a b:=by
 rw [z5a] at h
 rcases h with ⟨p,hp,h⟩ | ⟨f,hf,h⟩
 ·exact .step .refl (z5a.2 (.inl ⟨p,hg.dep p hp,h⟩))
 have hfm:=zAz _ _ _ hf
 obtain ⟨f',hf',G⟩:=hg.fo f hfm
 have hF:f'∈ZF Folder.name st'.folders:=firsts_all _ hN hf'
 have hfind:zV st' f'.name=some f':=z4u hN hf'
 rcases h with ⟨e,h1,h2,rfl,rfl⟩ | ⟨w,hw1,rfl,rfl⟩ | ⟨x,hx,rfl,rfl⟩
 ·rw [<-G.name]
  exact .step .refl (z5a.2 (.inr ⟨f',hF,.inl ⟨e,h1,by have:=G.ep;omega,rfl,rfl⟩⟩))
 ·obtain ⟨w',hw',e1,_⟩:=G.wr w (zAz _ _ _ hw1)
  have hb:=wrapE_le (hw f hfm w (zAz _ _ _ hw1))
  have hb':=wrapE_le (hg.wa f' hf' w' hw')
  have hr:z60 st' w'.name f'.name (z1t f'.epochs w'):= .step .refl (z5a.2 (.inr ⟨f',hF,.inr (.inl ⟨w',firsts_all _ (zG3 (hR f' hf')) hw',rfl,rfl⟩)⟩))
  have hd:=reach_down hfind hb'.2 hr (z1t f'.epochs w' - z1t f.epochs w).toNat (by omega)
  rw [show z1t f'.epochs w' - ((z1t f'.epochs w' - z1t f.epochs w).toNat:Int)=z1t f.epochs w by omega,G.name,e1] at hd
  exact hd
 rw [<-G.name]
 exact .step .refl (z5a.2 (.inr ⟨f',hF,.inr (.inr ⟨x,G.lk x hx,rfl,rfl⟩)⟩))
theorem Reach.sub {E E':List (GN×GN)} (h:∀a b,(a,b)∈E->Reach E' a b) {a b:GN} (r:Reach E a b):Reach E' a b:=by
 induction r with
 | refl=>exact .refl
 | step _ hm ih=>exact ih.trans (h _ _ hm)
theorem reach_grow {st st':State} (hg:GrowS st st') (hN:z34 st) (hN':z34 st') (hR:∀f∈st'.folders,z1i f.wraps) (hw:zQz st) {u g:Nm} {a b:Int} (h:IsReach st u g a) (k:IsReach st' u g b):a<=b:=by
 have hk0:0<=b:=by
  rcases k with ⟨_,rfl⟩ | ⟨_,_,h⟩
  ·exact Int.le_refl _
  ·exact h.1
 rcases h with ⟨_,rfl⟩ | ⟨f,hf,h1,h2,h3,_⟩
 ·exact hk0
 obtain ⟨f',hf',G⟩:=hg.fo f (z15 hf)
 have hfind:zV st' g=some f':=by
  have:=z4u hN' hf'
  rwa [G.name,z1s hf] at this
 rcases k with ⟨k1,_⟩ | ⟨f2,k1,k2,_,_,k4⟩
 ·rw [hfind] at k1;cases k1
 obtain rfl:=zsi (hfind.symm.trans k1)
 rcases h3 with rfl | h3
 ·exact k2
 by_cases h0:1<=a
 ·exact k4 a h0 (by have:=G.ep;omega) (Reach.sub (fun x y hxy=>reach_step hg hN' hR hw hxy) h3)
 omega
section
variable {n:Nat} {st:State} {c:Call}
theorem ep_pos (h:VInv n st) {k:Nat} (hk:k < st.folders.length):1<=(fo st k).epochs.length:=List.length_pos_iff.2 (h.atF hk).ep
theorem w_at (hw:zQz st) {k:Nat} (hk:k < st.folders.length):WOk (fo st k):=hw _ (z3f hk)
theorem gro_write {f f1:Folder} (h:Gro f f1) (m:Manifest) (who:Nm):Gro f (z0f f1 m who):=h.trans ⟨.of rfl rfl rfl rfl,h.2.1.of rfl rfl,h.2.2⟩
theorem cover_grow (h:zQz st) {k:Nat} (hk:k < st.folders.length) (h1:1<=(fo st k).epochs.length):GrowS st (z05 st k):=grow_set h hk (gro_cover st _ (w_at h hk) h1)
theorem cover_len {k:Nat}:(z05 st k).folders.length=st.folders.length:=z1h
theorem add_grow (h:zQz st) {k:Nat} (hk:k < st.folders.length) (h1:1<=(fo st k).epochs.length) (i:Option Nat) (name:Nm) (v:Version):GrowS st (z64 st k i name v).1:=by
 unfold z64
 cases i with
 | none=>exact grow_set h hk ⟨.of rfl rfl rfl rfl,(w_at h hk).of rfl rfl,h1⟩
 | some j=>exact grow_set h hk ⟨.of rfl rfl rfl rfl,(w_at h hk).of rfl rfl,h1⟩
theorem put_grow (h:VInv n st) (hw:zQz st) {k:Nat} (hk:k < st.folders.length):GrowS st (z5f st c k).1:=by
 unfold z5f
 dsimp only
 obtain ⟨s1,hs1⟩:∃s1,(if Y8 st c.folder then z4k st k c.user else st)=s1:=⟨_,rfl⟩
 rw [hs1]
 have g1:GrowS st s1/\s1.folders.length=st.folders.length/\1<=(fo s1 k).epochs.length:=by
  rw [<-hs1]
  split
  ·have g:=gro_epoch (w_at hw hk) (z63 st (fo st k) c.user)
   have g2:=g.trans (gro_ms (fun x=>decide (2<=x.role)) (zL (fo st k)).members g.2.1 g.2.2)
   refine ⟨grow_set hw hk g2,z1h,?_⟩
   unfold z4k
   rw [z1p hk]
   exact g2.2.2
  ·exact ⟨GrowS.refl hw,rfl,ep_pos h hk⟩
 obtain ⟨g1,_,e1⟩:=g1
 have hk1:k < s1.folders.length:=by omega
 have gc:=gro_cover s1 ((zN s1 4 (fo s1 k).name).drop 1) (w_at g1.wa hk1) e1
 have g2:GrowS s1 (z05 s1 k):=grow_set g1.wa hk1 gc
 refine (g1.trans g2).trans (add_grow g2.wa (by rw [cover_len];exact hk1) ?_ _ _ _)
 unfold z05
 rw [z1p hk1]
 exact gc.2.2
theorem create_grow (h:VInv n st) (hw:zQz st):GrowS st (z47 st c):=by
 unfold z47
 dsimp only
 rw [zEe]
 obtain ⟨e1,he1⟩:∃e1:Epoch,(⟨1,1,1,zN { st with folders:=st.folders++[z0g st c] } 4 c.folder,c.user⟩:Epoch)=e1:=⟨_,rfl⟩
 rw [he1]
 have hw1:WOk { z0g st c with epochs:=[e1] }:=fun w hw=>by
  simp [z0g] at hw
  rw [hw]
  simp
 have g1:GrowS st { st with folders:=st.folders++[{ z0g st c with epochs:=[e1] }] }:=
  ⟨fun _ h=>h,fun f hf=>⟨f,List.mem_append_left _ hf,GrowF.refl f⟩,fun f hf=>by
   rcases zmb hf with e | e
   ·exact hw f e
   ·rw [zml e];exact hw1⟩
 refine (g1.trans (cover_grow g1.wa (by simp) ?_)).turn _
 rw [zP0]
 simp
theorem do_grow {late:Bool} (h:VInv n st) (hw:zQz st) (hc:CallOk c) (hb:ZT st c late=0):GrowS st (doR st c).1:=by
 have hsame:GrowS st st:=GrowS.refl hw
 unfold doR
 dsimp only
 by_cases k1:c.kind=1
 ·rw [if_pos k1]
  unfold z0d
  exact Z3 (fun _=>hsame) fun _=>Z3 (fun _=>hsame) fun h2=> .of hw (fun _ h=>h) rfl
 rw [if_neg k1]
 obtain ⟨⟨_,_⟩,hfol,_,_⟩:=zEf hc k1 hb
 by_cases k2:c.kind=2
 ·rw [if_pos k2]
  unfold YL
  exact Z3 (fun _=>hsame) fun h1=>Z3 (fun _=>hsame) fun h2=>Z3 (fun _=>hsame) fun h3=>create_grow h hw
 rw [if_neg k2]
 have hthere:c.kind<=13->∃k,Z7 st c.folder=some k/\k < st.folders.length:=fun h13=>by
  obtain ⟨k,hk⟩:=hfol (z5v (hc.fol (by have:=hc.k1;omega) h13)) k2
  exact ⟨k,hk,(z1x (z6a hk).1).1⟩
 by_cases k3:c.kind=3
 ·rw [if_pos k3]
  obtain ⟨k,hk,hkl⟩:=hthere (by omega)
  rw [hk,Option.getD_some]
  unfold z2q
  refine Z3 (fun _=>hsame) fun _=>Z3 (fun _=>hsame) fun _=>Z3 (fun _=>hsame) fun h1=>Z3 (fun _=>hsame) fun h2=>?_
  unfold z9c
  dsimp only
  have g1:=grow_set hw hkl (gro_write ⟨GrowF.refl _,w_at hw hkl,ep_pos h hkl⟩ { zL (fo st k) with parent:=c.other,cut:=(zL (fo st k)).seq+1 } c.user)
  exact (g1.trans (cover_grow g1.wa (by rw [z1h];exact hkl) (by rw [z1p hkl];exact ep_pos h hkl))).turn _
 rw [if_neg k3]
 by_cases k4:c.kind=4
 ·rw [if_pos k4]
  obtain ⟨k,hk,hkl⟩:=hthere (by omega)
  rw [hk,Option.getD_some]
  unfold z0t
  refine Z3 (fun _=>hsame) fun _=>Z3 (fun _=>hsame) fun h1=>?_
  exact (grow_set hw hkl (gro_write ⟨GrowF.refl _,w_at hw hkl,ep_pos h hkl⟩ _ c.user)).turn _
 rw [if_neg k4]
 by_cases k5:c.kind=5\/c.kind=6\/c.kind=7
 ·rw [if_pos k5]
  obtain ⟨k,hk,hkl⟩:=hthere (by omega)
  rw [hk,Option.getD_some]
  unfold Y9
  dsimp only
  refine Z3 (fun _=>hsame) fun h1=>Z3 (fun _=>hsame) fun _=>grow_set hw hkl (gro_write ?_ _ c.user)
  split
  ·exact gro_give (w_at hw hkl) (ep_pos h hkl) _ _
  exact ⟨GrowF.refl _,w_at hw hkl,ep_pos h hkl⟩
 rw [if_neg k5]
 by_cases k8:c.kind=8
 ·rw [if_pos k8]
  obtain ⟨k,hk,hkl⟩:=hthere (by omega)
  rw [hk,Option.getD_some]
  unfold z3x
  refine Z3 (fun _=>hsame) fun _=>?_
  split
  ·exact Z3 (fun _=>hsame) fun _=>put_grow h hw hkl
  exact Z3 (fun _=>hsame) fun _=>put_grow h hw hkl
 rw [if_neg k8]
 by_cases k9:c.kind=9
 ·rw [if_pos k9];exact hsame
 rw [if_neg k9]
 by_cases k10:c.kind=10
 ·rw [if_pos k10];exact hsame
 rw [if_neg k10]
 by_cases k11:c.kind=11
 ·rw [if_pos k11]
  obtain ⟨k,hk,hkl⟩:=hthere (by omega)
  rw [hk,Option.getD_some]
  unfold z2r
  refine Z3 (fun _=>hsame) fun _=>?_
  split
  ·exact hsame
  exact Z3 (fun _=>hsame) fun _=>Z3 (fun _=>hsame) fun _=>add_grow hw hkl (ep_pos h hkl) _ _ _
 rw [if_neg k11]
 by_cases k12:c.kind=12
 ·rw [if_pos k12];exact hsame
 rw [if_neg k12]
 have hlost:∀(s:Nm) (b:Bool),GrowS st (lostS st s b):=fun s b=>by
  unfold lostS
  split
  ·exact hsame
  ·exact .of hw (fun _ h=>h) rfl
 by_cases k14:c.kind=14
 ·rw [if_pos k14]
  unfold z21
  exact Z3 (fun _=>hsame) fun _=> .of hw (fun p hp=>List.mem_append_left _ hp) rfl
 rw [if_neg k14]
 by_cases k15:c.kind=15
 ·rw [if_pos k15];exact hlost _ _
 rw [if_neg k15]
 by_cases k16:c.kind=16
 ·rw [if_pos k16]
  unfold z0u
  exact Z3 (fun _=>hsame) fun _=>Z3 (fun _=>hsame) fun _=>hlost _ _
 rw [if_neg k16]
 exact hsame
theorem callV_grow {q r:Int} (h:VInv n st) (hw:zQz st) (hs:z6q c):GrowS st (ZZ st q r c).1:=by
 have hsame:GrowS st st:=GrowS.refl hw
 unfold ZZ
 cases hm:z95 c with
 | false=>exact hsame
 | true=>
  obtain ⟨k1,k2⟩:=zIh hm hs.1 hs.2.1 hs.2.2.1 hs.2.2.2
  have hn:GrowS st (yL st c false).1:=by
   unfold yL
   split
   ·exact hsame
   ·rename_i hb
    exact do_grow h hw k1 (by simpa using hb)
  show GrowS st (doV st q r c false).1
  unfold doV
  exact Z3 (fun _=>Z3 (fun _=>hsame) fun _=>hn) fun _=>hsame
end
end
def zDn (x:Call):Bool:=decide (x.user.size<=20) && decide (x.folder.size<=20) && decide (x.name.size<=20) && decide (x.other.size<=20) && decide (x.data.length<=600)
def z99 (l:List Call):Bool:=l.all zDn && decide (l.length<=40)
theorem zAw {x:Call}:zDn x=true↔x.user.size<=20/\x.folder.size<=20/\x.name.size<=20/\x.other.size<=20/\x.data.length<=600:=by
 unfold zDn
 simp only [Bool.and_eq_true,decide_eq_true_eq,and_assoc]
set_option maxHeartbeats 1000000 in
theorem zDo (l:List Call) (v:Value) (w:World) (S:Nat->Prop) (h:Sl 8 z0s S w v l):
  Calls Tryz.prog 20 #[v] w fun e w'=>e= .returned (.bool (z99 l))/\Below w.heap.size w w':=by
 obtain ⟨_,_,rfl,_,hc,_,hs⟩:=h
 unfold maxLen at hc
 go_enter Tryz.func20,Tryz.ntmps20
 go_wp2
 go_loopw [7] (fun i wr=>∃(k:Nat),k<=l.length/\i= .int .i64 k/\Hid (∀y∈l.take k,zDn y=true)/\Below w.heap.size w wr) (fun i _=>l.length - (RowKit.intOf i).toNat)
 case atStart=>exact ⟨0,by omega,by go_num,(fun y hy=>by simp at hy),by go_grown⟩
 obtain ⟨k,_,rfl,HN,hbel⟩:=hrel
 have hz:=hbel.size
 by_cases hlt:k < l.length
 rotate_left
 ·obtain rfl:k=l.length:=by omega
  have HF:=zh (show z99 l=decide ((l.length:Int)<=40) by
   have h1:=HN.out
   rw [List.take_length] at h1
   unfold z99
   rw [List.all_eq_true.2 h1,Bool.true_and]
   exact decide_eq_decide.2 (by omega))
  go_wp2
  go_ret
  exact ⟨ZI HF.out.symm,hbel⟩
 obtain ⟨x,_,_,_,_,hx,_,hm,rfl,_,_,_,_,_,_,_,_,_,_,hrc,_⟩:=zFf hs hlt (zH hbel)
 obtain ⟨f6,f7,f8,f9⟩:x.user.size<=140737488355328/\x.folder.size<=140737488355328/\x.name.size<=140737488355328/\x.other.size<=140737488355328:=by obtain ⟨_,_,_,q1,q2,q3,q4,_⟩:=hrc;exact ⟨q1,q2,q3,q4⟩
 cases hf:zDn x with
 | true=>
  obtain ⟨f1,f2,f3,f4,f5⟩:=zAw.1 hf
  have d1:decide ((20:Int) < (x.user.size:Int))=false:=decide_eq_false (by omega)
  have d2:decide ((20:Int) < (x.folder.size:Int))=false:=decide_eq_false (by omega)
  have d3:decide ((20:Int) < (x.name.size:Int))=false:=decide_eq_false (by omega)
  have d4:decide ((20:Int) < (x.other.size:Int))=false:=decide_eq_false (by omega)
  have d5:decide ((600:Int) < (x.data.length:Int))=false:=decide_eq_false (by omega)
  have HN2:=zh (show ∀y∈l.take (k+1),zDn y=true by
   rw [List.take_add_one,hx]
   intro y hy
   rcases zmb hy with hy | hy
   ·exact HN.out y hy
   ·obtain rfl:y=x:=by simpa using hy
    exact hf)
  clear hx hm hf f1 f2 f3 f4 f5 f6 f7 f8 f9
  go_wp2
  go_roundw
  case rel=>exact ⟨k+1,by omega,by go_num,HN2,by go_grown⟩
  case measure=>simp [RowKit.intOf];omega
 | false=>
  have HF:=zh (show z99 l=false by
   unfold z99
   rw [Bool.and_eq_false_iff]
   exact .inl (List.all_eq_false.2 ⟨x,hm,by rw [hf];decide⟩))
  have HX:=zh (show ¬(x.user.size<=20/\x.folder.size<=20/\x.name.size<=20/\x.other.size<=20/\x.data.length<=600) from fun h=>by rw [zAw.2 h] at hf;cases hf)
  clear hx hm hf
  go_wp2
  all_goals first
   | (go_ret;exact ⟨ZI HF.out.symm,by go_grown⟩)
   | (exfalso;have hX:=HX.out;simp_all;omega)
section
theorem zOa {st:State} {q r:Int} {c:Call} {late:Bool} (h:yP st) (hd:c.data.length<=512):yP (doV st q r c late).1:=by
 unfold doV
 exact Z3 (fun _=>Z3 (fun _=>h) fun _=>zMf h hd late) fun _=>h
theorem z74 {n:Nat} {st:State} {q r:Int} {c:Call} (h:VInv n st) (hd:yP st) (hs:z6q c):VInv (n+1) (ZZ st q r c).1/\yP (ZZ st q r c).1:=by
 unfold ZZ
 cases hm:z95 c with
 | false=>exact ⟨h.mono (by omega),hd⟩
 | true=>
  obtain ⟨k1,k2⟩:=zIh hm hs.1 hs.2.1 hs.2.2.1 hs.2.2.2
  exact ⟨zMb h k1,zOa hd k2⟩
def cA1:Call:=⟨1,⟨#[97]⟩,⟨#[]⟩,⟨#[]⟩,⟨#[]⟩,0,0,[]⟩
def cA2:Call:=⟨2,⟨#[97]⟩,⟨#[102]⟩,⟨#[]⟩,⟨#[]⟩,0,0,[]⟩
def cA3:Call:=⟨8,⟨#[97]⟩,⟨#[102]⟩,⟨#[120]⟩,⟨#[]⟩,0,0,[]⟩
noncomputable def sA1:State×Answer:=ZZ ⟨0,[],[],[]⟩ 1048576 1000 cA1
noncomputable def sA2:State×Answer:=ZZ sA1.1 1048576 1000 cA2
noncomputable def sA3:State×Answer:=ZZ sA2.1 1048576 1000 cA3
theorem eA1:sA1.2.err=0:=by kernel_rfl
theorem eA2:sA2.2.err=0:=by kernel_rfl
theorem eA3:sA3.2.err=0/\sA3.2.number=1:=⟨by kernel_rfl,by kernel_rfl⟩
theorem eA4:sA3.1.folders.map (fun f=>f.items.length)=[1]:=by kernel_rfl
theorem zMh:z6q cA1:=⟨by decide,by decide,by decide,by decide⟩
theorem zMi:z6q cA2:=⟨by decide,by decide,by decide,by decide⟩
theorem zMj:z6q cA3:=⟨by decide,by decide,by decide,by decide⟩
theorem iA0:yP ⟨0,[],[],[]⟩:=fun f hf=>by cases hf
theorem iA1:VInv 1 sA1.1/\yP sA1.1:=z74 VInv.start iA0 zMh
theorem iA2:VInv 2 sA2.1/\yP sA2.1:=z74 iA1.1 iA1.2 zMi
theorem iA3:VInv 3 sA3.1/\yP sA3.1:=z74 iA2.1 iA2.2 zMj
theorem zQf {S:Nat->Prop} {w:World} (c:Call) (hk:I64 c.kind) (hs:z6q c) (hr:c.role=0/\c.version=0/\c.data=[]):z0s S w (z26 c (.slice none 0 0)) c:=by
 obtain ⟨_,_,_,_⟩:=hs
 obtain ⟨r1,r2,r3⟩:=hr
 refine ⟨_,rfl,hk,by omega,by omega,by omega,by omega,?_,?_,?_⟩
 ·rw [r1];exact ⟨by omega,by omega⟩
 ·rw [r2];exact ⟨by omega,by omega⟩
 rw [r3];exact z00 _ _ _ _
theorem zK8 (e n:Int) (s:Nm) (v3 v4 v5 v6:Value) (w:World):(Instr.field 49 (.agg #[.int .i64 e,.int .i64 n,.string s,v3,v4,v5,v6]) 0).run Tryz.prog w= .ok (.int .i64 e) w:=by kernel_rfl
section
variable {P:Nat->Prop} {bv:Nat} {w:World}
theorem zDp {st:State} {q r:Int} {c:Call} {n:Nat} {e:Int} (h:VS P bv w st q r) (hI:VInv n st) (hn:n<=40) (hd:yP st) (hm:MayOk w) (hs:z6q c) (hk:I64 c.kind) (hr:c.role=0/\c.version=0/\c.data=[]) (he:(ZZ st q r c).2.err=e):
  Calls Tryz.prog 12 #[.pointer (some ⟨bv,0,none⟩),.agg #[.int .i64 c.kind,.string c.user,.string c.folder,.string c.name,.string c.other,.int .i64 c.role,.int .i64 c.version,.slice none 0 0]] w fun x w'=>∃A3 c3 A4 c4 A5 c5 A6 c6,x= .returned (.agg #[.int .i64 e,.int .i64 (ZZ st q r c).2.number,.string (ZZ st q r c).2.who,.slice A3 (ZZ st q r c).2.data.length c3,.slice A4 (ZZ st q r c).2.names.length c4,.slice A5 (ZZ st q r c).2.members.length c5,.slice A6 (ZZ st q r c).2.history.length c6])/\VS P bv w' (ZZ st q r c).1 q r/\ButB (fun b=>b=bv) w w':=by
 refine zcm (z98 h (zQf c hk hs hr) hI hn hd hm hs) ?_
 rintro x w' ⟨_,rfl,h',ha,hb⟩
 obtain ⟨A3,c3,A4,c4,A5,c5,A6,c6,rfl⟩:=ZY ha
 rw [he]
 exact ⟨_,_,_,_,_,_,_,_,rfl,h',hb⟩
end
set_option maxHeartbeats 4000000 in
theorem zMk (w:World) (hm:MayOk w):Calls Tryz.prog 8 #[] w fun e w'=>e= .returned (.bool true)/\Below w.heap.size w w':=by
 have HM:=zh hm
 have qf:=zK8
 clear hm
 go_enter Tryz.func8,Tryz.ntmps8
 go_wp2_with fail
 refine zcm (zGp w 1048576 1000 ⟨by omega,by omega⟩) ?_
 rintro _ _ ⟨rfl,V1,B1⟩
 have HB1:=zh B1
 have HV1:=zh V1
 clear V1 B1
 go_wp2_with fail
 refine zcm (zDp (c:=cA1) HV1.out VInv.start (by omega) iA0 (HM.out.below HB1.out) zMh ⟨by decide,by decide⟩ ⟨rfl,rfl,rfl⟩ eA1) ?_
 rintro _ w2 ⟨_,_,_,_,_,_,_,_,rfl,V2,B2⟩
 have HB2:=zh (ButB.below HB1.out HB1.out.size (fun z hz=>by have:z=w.heap.size:=hz;omega) B2)
 have HV2:=zh (show VS (fun b=>b=w.heap.size) w.heap.size w2 sA1.1 1048576 1000 from V2)
 clear V2 B2
 go_wp2_with fail
 refine zcm (zDp (c:=cA2) HV2.out iA1.1 (by omega) iA1.2 (HM.out.below HB2.out) zMi ⟨by decide,by decide⟩ ⟨rfl,rfl,rfl⟩ eA2) ?_
 rintro _ w3 ⟨D3,d3,D4,d4,D5,d5,D6,d6,rfl,V3,B3⟩
 have HB3:=zh (ButB.below HB2.out HB2.out.size (fun z hz=>by have:z=w.heap.size:=hz;omega) B3)
 have HV3:=zh (show VS (fun b=>b=w.heap.size) w.heap.size w3 sA2.1 1048576 1000 from V3)
 clear V3 B3
 obtain ⟨x3,hx3,cx3,fx3,Bx3,_⟩:=zO w3 #[.int .i64 0,.int .i64 (ZZ sA1.1 1048576 1000 cA2).2.number,.string (ZZ sA1.1 1048576 1000 cA2).2.who,.slice D3 (ZZ sA1.1 1048576 1000 cA2).2.data.length d3,.slice D4 (ZZ sA1.1 1048576 1000 cA2).2.names.length d4,.slice D5 (ZZ sA1.1 1048576 1000 cA2).2.members.length d5,.slice D6 (ZZ sA1.1 1048576 1000 cA2).2.history.length d6] 49
 have HX3:=zh Bx3
 have HY3:=zh (zB HB3.out Bx3)
 have HW3:=zh (HV3.out.below Bx3)
 clear cx3 fx3 Bx3
 go_wp2_with fail
 refine zcm (zDp (c:=cA3) HW3.out iA2.1 (by omega) iA2.2 (HM.out.below HY3.out) zMj ⟨by decide,by decide⟩ ⟨rfl,rfl,rfl⟩ eA3.1) ?_
 rintro _ w4 ⟨E3,f3,E4,f4,E5,f5,E6,f6,rfl,V4,B4⟩
 have HB4:=zh (ButB.below HY3.out HY3.out.size (fun z hz=>by have:z=w.heap.size:=hz;omega) B4)
 have HB4o:=zh B4
 have HV4:=zh (show VS (fun b=>b=w.heap.size) w.heap.size w4 sA3.1 1048576 1000 from V4)
 clear V4 B4
 rw [show (ZZ sA2.1 1048576 1000 cA3).2.number=1 from eA3.2]
 obtain ⟨x4,hx4,cx4,fx4,Bx4,_⟩:=zO w4 #[.int .i64 0,.int .i64 1,.string (ZZ sA2.1 1048576 1000 cA3).2.who,.slice E3 (ZZ sA2.1 1048576 1000 cA3).2.data.length f3,.slice E4 (ZZ sA2.1 1048576 1000 cA3).2.names.length f4,.slice E5 (ZZ sA2.1 1048576 1000 cA3).2.members.length f5,.slice E6 (ZZ sA2.1 1048576 1000 cA3).2.history.length f6] 49
 have HN3:=zh (zbx hx3)
 have HN4:=zh (zbx hx4)
 have HX4:=zh Bx4
 have HY4:=zh (zB HB4.out Bx4)
 have HW4:=zh (HV4.out.below Bx4)
 have HM4:=zh ((Bx4.block _ (zll (zM HN3.out) HB4o.out.size)).trans ((HB4o.out.block _ (zM HN3.out) (fun e=>by have e':w3.heap.size=w.heap.size:=e;have:=HW3.out.pl _ rfl;have:=HV3.out.lt;omega)).trans HN3.out))
 clear cx4 fx4 Bx4
 go_wp2_with fail
 refine zcm (z5q HW4.out (z7f iA3.1 (by omega) iA3.2)) ?_
 rintro _ w5 ⟨_,rfl,hst,B5⟩
 obtain ⟨A1,c1,A2,c2,A7,c7,hcs,_,_,_,_,_,_,_,_,_,hl7,_,hn7,hs7⟩:=ZL hst
 subst hcs
 have hfl:=eA4
 obtain ⟨F,hF⟩:∃F,sA3.1.folders=F:=⟨_,rfl⟩
 rw [hF] at hl7 hs7 hfl⊢
 obtain ⟨f,rfl⟩:∃f,F=[f]:=by
  have h1:F.length=1:=by have:=congrArg List.length hfl;simpa using this
  exact List.length_eq_one_iff.1 h1
 have hfi:f.items.length=1:=by simpa using hfl
 rw [show [f].length=1 from rfl]
 obtain ⟨_,_,cx5,fx5,Bx5,_⟩:=zO w5 #[.int .i64 sA3.1.turn,.slice A1 sA3.1.users.length c1,.slice A2 sA3.1.deposits.length c2,.slice A7 1 c7] 34
 obtain ⟨_,_,_,rfl,hfb,hff,hfc⟩:=SlAt.elem hs7 (k:=0) (x:=f) rfl (by decide) Bx5
 obtain ⟨_,_,_,_,_,_,_,_,_,_,rfl,_⟩:=Z5 hff
 have z4:=hfc 4 _ rfl
 rw [hfi] at z4
 have y0:=((zB B5 Bx5).cell (p:=⟨w4.heap.size,0,none⟩) (zM HN4.out)).trans ((zD HN4.out).1 0 _ rfl)
 have y1:=((zB B5 Bx5).cell (p:=⟨w4.heap.size,1,none⟩) (zM HN4.out)).trans ((zD HN4.out).1 1 _ rfl)
 have x0:=((zB B5 Bx5).cell (p:=⟨w3.heap.size,0,none⟩) (zM HM4.out)).trans ((zD HM4.out).1 0 _ rfl)
 have s3:=cx5 3 _ rfl
 have HXX:=zh (zB HY4.out (zB B5 Bx5))
 clear hn7 hst hs7 hff hfc hfl hF hfb cx5 fx5 Bx5 B5
 go_wp2
 go_ret
 exact ⟨rfl,HXX.out⟩
end
section
def NF (f:Folder):Prop:=ZB f.name=true/\(f.items.map Item.name).Nodup/\∀s∈f.items.map Item.name,ZB s=true
structure NInv (st:State):Prop where
 us:(st.users.map User.name).Nodup
 un:∀s∈st.users.map User.name,ZB s=true
 fn:∀f∈st.folders,NF f
theorem NInv.start:NInv ⟨0,[],[],[]⟩:=⟨List.nodup_nil,fun _ h=>(by cases h),fun _ h=>(by cases h)⟩
theorem NF.of {f f':Folder} (h:NF f) (h1:f'.name=f.name) (h2:f'.items.map Item.name=f.items.map Item.name):NF f':=by unfold NF;rw [h1,h2];exact h
section
variable {n:Nat} {st:State} {c:Call}
theorem NInv.set (h:NInv st) {k:Nat} {f':Folder} (hf:NF f'):NInv (setF st k f'):=⟨h.us,h.un,fun g hg=>by
 rcases List.mem_or_eq_of_mem_set hg with e | e
 ·exact h.fn g e
 ·rw [e];exact hf⟩
theorem NInv.turn (h:NInv st) (t:Int):NInv { st with turn:=t }:=⟨h.us,h.un,h.fn⟩
theorem n_at (h:NInv st) {k:Nat} (hk:k < st.folders.length):NF (fo st k):=h.fn _ (z3f hk)
theorem n_add (h:NInv st) {k:Nat} (hk:k < st.folders.length) (i:Option Nat) (name:Nm) (hi:i=none->ZB name=true/\name∉(fo st k).items.map Item.name) (v:Version):NInv (z64 st k i name v).1:=by
 unfold z64
 cases i with
 | none=>
  obtain ⟨h1,h2⟩:=hi rfl
  obtain ⟨a,b,c⟩:=n_at h hk
  refine h.set ⟨a,?_,fun s hs=>?_⟩
  ·dsimp only
   rw [List.map_append,List.nodup_append]
   exact ⟨b,by simp,fun x hx y hy e=>h2 (by rw [List.map_cons,List.map_nil,List.mem_singleton] at hy;rw [<-show x=name from e.trans hy];exact hx)⟩
  dsimp only at hs
  rw [List.map_append] at hs
  rcases zmb hs with e | e
  ·exact c s e
  rw [List.map_cons,List.map_nil,List.mem_singleton] at e
  rw [e];exact h1
 | some j=>
  refine h.set ((n_at h hk).of rfl ?_)
  dsimp only
  rw [List.map_set]
  unfold ZS
  cases hj:(fo st k).items[j]? with
  | none=>rw [List.set_eq_of_length_le (by rw [List.length_map];exact List.getElem?_eq_none_iff.1 hj)]
  | some x=>exact List.set_eq_self_of (by rw [List.getElem?_map,hj];rfl)
theorem item_no {f:Folder} {s:Nm} (h:z0e f s=none):s∉f.items.map Item.name:=fun hm=>by
 obtain ⟨x,hx,e⟩:=List.mem_map.1 hm
 have:=List.findIdx?_eq_none_iff.1 h x hx
 simp [isI,e] at this
theorem n_put (h:NInv st) {k:Nat} (hk:k < st.folders.length) (hc:ZB c.name=true):NInv (z5f st c k).1:=by
 unfold z5f
 dsimp only
 obtain ⟨s1,hs1⟩:∃s1,(if Y8 st c.folder then z4k st k c.user else st)=s1:=⟨_,rfl⟩
 rw [hs1]
 have g1:NInv s1/\s1.folders.length=st.folders.length/\(fo s1 k).items=(fo st k).items:=by
  rw [<-hs1]
  split
  ·have g:=z7z (fun x=>decide (2<=x.role)) (zL (fo st k)).members { fo st k with epochs:=(fo st k).epochs++[z63 st (fo st k) c.user] }
   exact ⟨h.set ((n_at h hk).of g.name (by rw [g.it])),z1h,by unfold z4k;rw [z1p hk];exact g.it⟩
  ·exact ⟨h,rfl,rfl⟩
 obtain ⟨g1,_,e1⟩:=g1
 have hk1:k < s1.folders.length:=by omega
 have gc:=z80 s1 ((zN s1 4 (fo s1 k).name).drop 1) (fo s1 k)
 have g2:NInv (z05 s1 k):=g1.set ((n_at g1 hk1).of gc.name (by rw [gc.it]))
 refine n_add g2 (by rw [cover_len];exact hk1) _ _ (fun hi=>⟨hc,?_⟩) _
 unfold z05
 rw [z1p hk1,gc.it,e1]
 exact item_no hi
theorem n_create (h:NInv st) (hc:ZB c.folder=true):NInv (z47 st c):=by
 unfold z47
 dsimp only
 rw [zEe]
 obtain ⟨e1,he1⟩:∃e1:Epoch,(⟨1,1,1,zN { st with folders:=st.folders++[z0g st c] } 4 c.folder,c.user⟩:Epoch)=e1:=⟨_,rfl⟩
 rw [he1]
 have hnf:NF { z0g st c with epochs:=[e1] }:=⟨hc,by simp [z0g],fun s hs=>by simp [z0g] at hs⟩
 have g1:NInv { st with folders:=st.folders++[{ z0g st c with epochs:=[e1] }] }:=⟨h.us,h.un,fun f hf=>by
  rcases zmb hf with e | e
  ·exact h.fn f e
  ·rw [zml e];exact hnf⟩
 refine NInv.turn (st:=z05 _ _) ?_ _
 unfold z05
 rw [zP0]
 have gc:=z80 { st with folders:=st.folders++[{ z0g st c with epochs:=[e1] }] } ((zN { st with folders:=st.folders++[{ z0g st c with epochs:=[e1] }] } 4 ({ z0g st c with epochs:=[e1] }:Folder).name).drop 1) { z0g st c with epochs:=[e1] }
 exact g1.set (hnf.of gc.name (by rw [gc.it]))
theorem n_do {late:Bool} (h:NInv st) (hc:CallOk c) (hn:(c.kind=8->ZB c.name=true)) (hb:ZT st c late=0):NInv (doR st c).1:=by
 unfold doR
 dsimp only
 by_cases k1:c.kind=1
 ·rw [if_pos k1]
  unfold z0d
  refine Z3 (fun _=>h) fun h1=>Z3 (fun _=>h) fun h2=>⟨?_,fun s hs=>?_,h.fn⟩
  ·dsimp only
   rw [List.map_append,List.nodup_append]
   refine ⟨h.us,by simp,fun x hx y hy e=>h1 ?_⟩
   rw [List.map_cons,List.map_nil,List.mem_singleton] at hy
   obtain ⟨z,hz,e2⟩:=List.mem_map.1 hx
   unfold yR
   rw [List.findIdx?_isSome,List.any_eq_true]
   exact ⟨z,hz,decide_eq_true (e2.trans (e.trans hy))⟩
  dsimp only at hs
  rw [List.map_append] at hs
  rcases zmb hs with e | e
  ·exact h.un s e
  rw [List.map_cons,List.map_nil,List.mem_singleton] at e
  rw [e];exact hc.user
 rw [if_neg k1]
 obtain ⟨⟨_,_⟩,hfol,_,_⟩:=zEf hc k1 hb
 by_cases k2:c.kind=2
 ·rw [if_pos k2]
  unfold YL
  exact Z3 (fun _=>h) fun h1=>Z3 (fun _=>h) fun h2=>Z3 (fun _=>h) fun h3=>n_create h (hc.fol (by omega) (by omega))
 rw [if_neg k2]
 have hthere:c.kind<=13->∃k,Z7 st c.folder=some k/\k < st.folders.length:=fun h13=>by
  obtain ⟨k,hk⟩:=hfol (z5v (hc.fol (by have:=hc.k1;omega) h13)) k2
  exact ⟨k,hk,(z1x (z6a hk).1).1⟩
 by_cases k3:c.kind=3
 ·rw [if_pos k3]
  obtain ⟨k,hk,hkl⟩:=hthere (by omega)
  rw [hk,Option.getD_some]
  unfold z2q
  refine Z3 (fun _=>h) fun _=>Z3 (fun _=>h) fun _=>Z3 (fun _=>h) fun h1=>Z3 (fun _=>h) fun h2=>?_
  unfold z9c
  dsimp only
  have g1:NInv (setF st k (z0f (fo st k) { zL (fo st k) with parent:=c.other,cut:=(zL (fo st k)).seq+1 } c.user)):=h.set ((n_at h hkl).of rfl rfl)
  refine NInv.turn (st:=z05 _ _) ?_ _
  have gc:=z80 (setF st k (z0f (fo st k) { zL (fo st k) with parent:=c.other,cut:=(zL (fo st k)).seq+1 } c.user)) ((zN (setF st k (z0f (fo st k) { zL (fo st k) with parent:=c.other,cut:=(zL (fo st k)).seq+1 } c.user)) 4 (fo (setF st k (z0f (fo st k) { zL (fo st k) with parent:=c.other,cut:=(zL (fo st k)).seq+1 } c.user)) k).name).drop 1) (fo (setF st k (z0f (fo st k) { zL (fo st k) with parent:=c.other,cut:=(zL (fo st k)).seq+1 } c.user)) k)
  exact g1.set ((n_at g1 (by rw [z1h];exact hkl)).of gc.name (by rw [gc.it]))
 rw [if_neg k3]
 by_cases k4:c.kind=4
 ·rw [if_pos k4]
  obtain ⟨k,hk,hkl⟩:=hthere (by omega)
  rw [hk,Option.getD_some]
  unfold z0t
  exact Z3 (fun _=>h) fun _=>Z3 (fun _=>h) fun h1=>NInv.turn (h.set (k:=k) (f':=z0f (fo st k) { zL (fo st k) with gone:=true } c.user) ((n_at h hkl).of rfl rfl)) _
 rw [if_neg k4]
 by_cases k5:c.kind=5\/c.kind=6\/c.kind=7
 ·rw [if_pos k5]
  obtain ⟨k,hk,hkl⟩:=hthere (by omega)
  rw [hk,Option.getD_some]
  unfold Y9
  dsimp only
  refine Z3 (fun _=>h) fun h1=>Z3 (fun _=>h) fun _=>h.set ((n_at h hkl).of ?_ ?_)
  ·unfold z0f
   dsimp only
   split<;>rfl
  unfold z0f
  dsimp only
  split<;>rfl
 rw [if_neg k5]
 by_cases k8:c.kind=8
 ·rw [if_pos k8]
  obtain ⟨k,hk,hkl⟩:=hthere (by omega)
  rw [hk,Option.getD_some]
  unfold z3x
  refine Z3 (fun _=>h) fun _=>?_
  split
  ·exact Z3 (fun _=>h) fun _=>n_put h hkl (hn k8)
  exact Z3 (fun _=>h) fun _=>n_put h hkl (hn k8)
 rw [if_neg k8]
 by_cases k9:c.kind=9
 ·rw [if_pos k9];exact h
 rw [if_neg k9]
 by_cases k10:c.kind=10
 ·rw [if_pos k10];exact h
 rw [if_neg k10]
 by_cases k11:c.kind=11
 ·rw [if_pos k11]
  obtain ⟨k,hk,hkl⟩:=hthere (by omega)
  rw [hk,Option.getD_some]
  unfold z2r
  refine Z3 (fun _=>h) fun _=>?_
  split
  ·exact h
  exact Z3 (fun _=>h) fun _=>Z3 (fun _=>h) fun _=>n_add h hkl _ _ (fun e=>by cases e) _
 rw [if_neg k11]
 by_cases k12:c.kind=12
 ·rw [if_pos k12];exact h
 rw [if_neg k12]
 have hlost:∀(s:Nm) (b:Bool),NInv (lostS st s b):=fun s b=>by
  unfold lostS
  split
  ·exact h
  ·exact ⟨by rw [zBh];exact h.us,by rw [zBh];exact h.un,h.fn⟩
 by_cases k14:c.kind=14
 ·rw [if_pos k14]
  unfold z21
  exact Z3 (fun _=>h) fun _=>⟨h.us,h.un,h.fn⟩
 rw [if_neg k14]
 by_cases k15:c.kind=15
 ·rw [if_pos k15];exact hlost _ _
 rw [if_neg k15]
 by_cases k16:c.kind=16
 ·rw [if_pos k16]
  unfold z0u
  exact Z3 (fun _=>h) fun _=>Z3 (fun _=>h) fun _=>hlost _ _
 rw [if_neg k16]
 exact h
theorem may_name (h:z95 c=true) (hk:c.kind=8):ZB c.name=true:=by
 unfold z95 at h
 rw [zLz ZB (by rfl) _ _ _ _ _ _ _ _ (by omega)] at h
 unfold zAu at h
 rw [Bool.and_eq_true,Bool.and_eq_true,Bool.and_eq_true,Bool.and_eq_true,Bool.and_eq_true,Bool.and_eq_true,Bool.and_eq_true,Bool.and_eq_true,Bool.and_eq_true,Bool.and_eq_true] at h
 obtain ⟨⟨⟨⟨⟨⟨⟨⟨⟨⟨_,_⟩,_⟩,_⟩,_⟩,_⟩,h7⟩,_⟩,_⟩,_⟩,_⟩:=h
 simpa [hk] using h7
theorem callV_names {q r:Int} (h:NInv st) (hs:z6q c):NInv (ZZ st q r c).1:=by
 unfold ZZ
 cases hm:z95 c with
 | false=>exact h
 | true=>
  obtain ⟨k1,k2⟩:=zIh hm hs.1 hs.2.1 hs.2.2.1 hs.2.2.2
  have hn:NInv (yL st c false).1:=by
   unfold yL
   split
   ·exact h
   ·rename_i hb
    exact n_do h k1 (fun k=>may_name hm k) (by simpa using hb)
  show NInv (doV st q r c false).1
  unfold doV
  exact Z3 (fun _=>Z3 (fun _=>h) fun _=>hn) fun _=>h
theorem zGq {α:Type} (key:α->Nm) {l:List α} (h:(l.map key).Nodup) {i:Nat} {x:α} (hx:l[i]? =some x):l.findIdx? (fun y=>decide (key y=key x))=some i:=by
 obtain ⟨hi,e⟩:=zge hx
 refine List.findIdx?_eq_some_iff_getElem.2 ⟨hi,by simp [e],fun j hj=>?_⟩
 have:=List.pairwise_iff_getElem.1 h j i (by simp;omega) (by simpa using hi) hj
 simp only [List.getElem_map] at this
 rw [e] at this
 simpa using this
def z73 (u f x:Nm) (m:Int):Call:=⟨9,u,f,x,⟨#[]⟩,0,m,[]⟩
theorem zPo {q r:Int} (h:VInv n st) (hN:NInv st) {i k j m:Nat} {u:User} {f:Folder} {x:Item} {y:Version} (hu:st.users[i]? =some u) (hf:st.folders[k]? =some f) (hx:f.items[j]? =some x) (hy:x.versions[m]? =some y) (hm:m < 1000):
  (ZZ st q r (z73 u.name f.name x.name (m+1))).1=st/\
  ((u.lost=false/\(zL f).gone=false/\y.gone=false)->((ZZ st q r (z73 u.name f.name x.name (m+1))).2.err=0↔yY st u.name f.name x.name (m+1)))/\
  (¬(u.lost=false/\(zL f).gone=false/\y.gone=false)->(ZZ st q r (z73 u.name f.name x.name (m+1))).2.err≠0):=by
 have hfm:=zmg hf
 obtain ⟨nf1,nf2,nf3⟩:=hN.fn f hfm
 have hun:=hN.un _ (List.mem_map.2 ⟨u,zmg hu,rfl⟩)
 have hxn:=nf3 _ (List.mem_map.2 ⟨x,zmg hx,rfl⟩)
 have hui:yR st u.name=some i:=zGq User.name hN.us hu
 have hfi:foI st f.name=some k:=zGq Folder.name h.names hf
 have hxi:z0e f x.name=some j:=zGq Item.name nf2 hx
 have hfo:fo st k=f:=by unfold fo;rw [hf];rfl
 have hit:ZS f j=x:=by unfold ZS;rw [hx];rfl
 have hth:Z7 st f.name=if (zL f).gone then none else some k:=by unfold Z7;rw [hfi];dsimp only;rw [hfo]
 have hfe:isE f.name=false:=by have:=z5v nf1;simpa [isE] using this
 generalize hc:z73 u.name f.name x.name (m+1)=c
 have hmay:z95 c=true:=by
  rw [<-hc]
  unfold z95 z73
  rw [zLz ZB (by rfl) _ _ _ _ _ _ _ _ (by simp)]
  unfold zAu
  simp [hun,nf1,hxn,z11]
  omega
 have hck:c.kind=9:=by rw [<-hc];rfl
 have e:ZZ st q r c=(st,(yL st c false).2.1):=by
  unfold ZZ
  rw [if_pos hmay]
  unfold doV
  rw [zK6 st c false (.inl hck)]
  rfl
 rw [e]
 dsimp only
 have hb:ZT st c false=if u.lost then 20 else if (zL f).gone then 41 else 0:=by
  rw [<-hc]
  unfold ZT z73
  dsimp only
  rw [if_neg (by decide),hui]
  dsimp only
  rw [hu,hfe,hth]
  cases h1:u.lost<;>cases h2:(zL f).gone<;>simp [isE,h1]
 refine ⟨rfl,fun ⟨h1,h2,h3⟩=>?_,fun hno=>?_⟩
 ·rw [h1,h2] at hb
  have hth2:Z7 st f.name=some k:=by rw [hth,h2];rfl
  have e2:(yL st c false).2.1=z2c st c k:=by
   unfold yL
   rw [if_neg (by rw [hb];decide)]
   unfold doR
   rw [show c.folder=f.name by rw [<-hc];rfl,hth2]
   simp [hck]
  rw [e2]
  unfold z2c
  rw [hfo,show c.name=x.name by rw [<-hc];rfl,hxi]
  dsimp only
  rw [hit,show c.version=(m:Int)+1 by rw [<-hc];rfl,if_neg (by omega),show ((m:Int)+1 - 1).toNat=m by omega,hy]
  dsimp only
  rw [h3,show c.user=u.name by rw [<-hc];rfl,show c.folder=f.name by rw [<-hc];rfl]
  unfold grantedB
  by_cases hg:yY st u.name f.name x.name ((m:Int)+1)
  ·simp [hg]
  simp [hg,ZD]
 by_cases h1:u.lost=true
 ·have:(yL st c false).2.1=ZD 20:=by
   unfold yL
   rw [hb,h1]
   simp
  rw [this]
  decide
 by_cases h2:(zL f).gone=true
 ·have:(yL st c false).2.1=ZD 41:=by
   unfold yL
   rw [hb,h2]
   simp [h1]
  rw [this]
  decide
 have h3:y.gone=true:=by
  cases hyg:y.gone
  ·exact absurd ⟨by simpa using h1,by simpa using h2,hyg⟩ hno
  ·rfl
 have h1':u.lost=false:=by simpa using h1
 have h2':(zL f).gone=false:=by simpa using h2
 rw [h1',h2'] at hb
 have hth2:Z7 st f.name=some k:=by rw [hth,h2'];rfl
 have e2:(yL st c false).2.1=z2c st c k:=by
  unfold yL
  rw [if_neg (by rw [hb];decide)]
  unfold doR
  rw [show c.folder=f.name by rw [<-hc];rfl,hth2]
  simp [hck]
 rw [e2]
 unfold z2c
 rw [hfo,show c.name=x.name by rw [<-hc];rfl,hxi]
 dsimp only
 rw [hit,show c.version=(m:Int)+1 by rw [<-hc];rfl,if_neg (by omega),show ((m:Int)+1 - 1).toNat=m by omega,hy]
 dsimp only
 rw [h3,if_pos rfl]
 decide
end
end
end Go.Proofs.YtdggplhnfhcieaaGreatDoor
