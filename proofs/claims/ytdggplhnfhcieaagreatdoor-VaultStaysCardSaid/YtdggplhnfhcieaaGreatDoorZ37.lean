/- Part 37 of the proof of vaultStays_holds. No condition. -/
import Derived.Test.YtdggplhnfhcieaaGreatDoorZ21
import Derived.Test.YtdggplhnfhcieaaGreatDoorZ36
set_option linter.unusedVariables false
set_option linter.unusedSimpArgs false
set_option linter.unusedSectionVars false
set_option maxRecDepth 100000
namespace Go.Proofs.YtdggplhnfhcieaaGreatDoor
open Go.RowKit Go.Deep
section
section
variable {P:Nat->Prop} {bv base bw:Nat} {w w':World} {R:RM} {st st':State} {q r:Int} {c:Call} {dv:Value} {done late:Bool}
def z8a (st st':State) (q r:Int) (k:Int) (done:Bool) (a:Answer):State×Answer:=
 if done then (if k≠15/\k≠16/\Bd.fitsOf st' q r≠0 then (st,ZA (Bd.fitsOf st' q r)) else (st',a)) else (st,a)
theorem zN7 (st:State) (q r:Int):I64 (Bd.fitsOf st q r):=by
 unfold Bd.fitsOf
 repeat' split
 all_goals exact ⟨by omega,by omega⟩
theorem zDn {Y Z:Nat->Prop} {w1 w2:World} (h:ButB Y w w1) (k:ButB Z w1 w2) (hZ:∀b,Z b->w.heap.size<=b):ButB Y w w2:=
 ⟨k.os.trans h.os,k.tape.trans h.tape,k.output.trans h.output,Nat.le_trans h.size k.size,fun b hb hn=>(k.block b (Nat.lt_of_lt_of_le hb h.size) fun e=>by have:=hZ b e;omega).trans (h.block b hb hn)⟩
theorem zHh {cs:List Value} {A:Answer} (hp:P bv) (ha:yS (Imm P bw R w) w cs A) (hb:ButB (fun b=>b=bv) w w'):yS (fun b=>¬P b) w' cs A:=
 Y8 ha fun b ⟨h1,_,_,h4⟩ _=>⟨h4,hb.block b h1 fun e=>h4 (by rw [show b=bv from e];exact hp)⟩
theorem zPc (hp:P bv) (hW:WK P base bw w R c dv st' done late) (hb:ButB (fun b=>b=bv) w w') (hbox:w'.heap[bv]? =some (.cells #[.int .i64 st'.turn,(R .us).v,(R .de).v,(R .fo).v,.int .i64 q,.int .i64 r,.bool true] 95 (0,0))):VS P bv w' st' q r:=
 ⟨⟨_,_,_,hbox,Z7 (hW.is.stateS hW.os) fun b hr hl=>by
  have hne:¬P b:=hr.elim (fun e h=>hW.nx b (.inl e) h) fun e=>e.2.2.2
  exact ⟨hne,hb.block b hl fun e=>hne (by rw [show b=bv from e];exact hp)⟩⟩,hp,fun b h=>Nat.lt_of_lt_of_le (hW.xl b h) hb.size⟩
theorem zN8 {w1:World} {T:TypeId} {x0 x1 x2 x3 x4 x5 x6:Value} (h:w1.heap[bv]? =some (.cells #[x0,x1,x2,x3,x4,x5,x6] T (0,0))) (hB:Below w.heap.size w w1) (v0 v1 v2 v3:Value):
  ((((w1.setCell ⟨bv,0,none⟩ v0).setCell ⟨bv,1,none⟩ v1).setCell ⟨bv,2,none⟩ v2).setCell ⟨bv,3,none⟩ v3).heap[bv]? =some (.cells #[v0,v1,v2,v3,x4,x5,x6] T (0,0))/\(∀b,b≠bv->((((w1.setCell ⟨bv,0,none⟩ v0).setCell ⟨bv,1,none⟩ v1).setCell ⟨bv,2,none⟩ v2).setCell ⟨bv,3,none⟩ v3).heap[b]? =w1.heap[b]?)/\
  ButB (fun b=>b=bv) w ((((w1.setCell ⟨bv,0,none⟩ v0).setCell ⟨bv,1,none⟩ v1).setCell ⟨bv,2,none⟩ v2).setCell ⟨bv,3,none⟩ v3):=by
 have h0:=zI (i:=0) (cs':=#[v0,x1,x2,x3,x4,x5,x6]) v0 h rfl
 have h1:=zI (i:=1) (cs':=#[v0,v1,x2,x3,x4,x5,x6]) v1 h0 rfl
 have h2:=zI (i:=2) (cs':=#[v0,v1,v2,x3,x4,x5,x6]) v2 h1 rfl
 have h3:=zI (i:=3) (cs':=#[v0,v1,v2,v3,x4,x5,x6]) v3 h2 rfl
 refine ⟨h3,fun b hb=>by rw [Below.heap_setCell _ _ _ _ hb,Below.heap_setCell _ _ _ _ hb,Below.heap_setCell _ _ _ _ hb,Below.heap_setCell _ _ _ _ hb],?_⟩
 have hb:ButB (fun b=>b=bv) w w1:=ButB.of hB
 exact (((hb.set ⟨bv,0,none⟩ v0 rfl).set ⟨bv,1,none⟩ v1 rfl).set ⟨bv,2,none⟩ v2 rfl).set ⟨bv,3,none⟩ v3 rfl
set_option maxHeartbeats 8000000 in
theorem zN9 (hW:WK P base bw w R c dv st' done late) (h:VS P bv w st q r) {cs:Array Value} {a:Answer} (ha:yS (Imm P bw R w) w cs.toList a) (hf:Bd.smallOf st'<=1000000/\Bd.largeOf st'<=1000000):
  Calls Tryz.prog 35 #[.pointer (some ⟨bv,0,none⟩),.pointer (some ⟨bw,0,none⟩),.agg cs] w fun e w'=>∃cs',e= .returned (.agg cs')/\VS P bv w' (z8a st st' q r c.kind done a).1 q r/\yS (fun b=>¬P b) w' cs'.toList (z8a st st' q r c.kind done a).2/\ButB (fun b=>b=bv) w w':=by
 obtain ⟨u1,u2,u3,h1,h2⟩:=h.box
 have hlt:=h.lt
 obtain ⟨A1,c1,A2,c2,A3,c3,e3,_⟩:=y8 h2
 simp only [List.cons.injEq,true_and,and_true] at e3
 obtain ⟨rfl,rfl,rfl⟩:=e3
 obtain ⟨A3',c3',A4',c4',A5',c5',A6',c6',rfl⟩:=ZZ ha
 obtain ⟨E1,n1,p1,he1⟩:=(hW.os.row .us).shape3
 obtain ⟨E2,n2,p2,he2⟩:=(hW.os.row .de).shape3
 obtain ⟨E3,n3,p3,he3⟩:=(hW.os.row .fo).shape3
 obtain ⟨w0,hw0,cw0,fw0,Bw0,qw0⟩:=zQ w #[.int .i64 a.err,.int .i64 a.number,.string a.who,.slice A3' a.data.length c3',.slice A4' a.names.length c4',.slice A5' a.members.length c5',.slice A6' a.history.length c6'] 49
 have hz0:w0.heap.size=w.heap.size+1:=by rw [<-hw0,World.size_alloc]
 obtain ⟨w1,hw1,cw1,fw1,Bw1,qw1⟩:=zQ w0 zO 49
 have HZ1:=zh (show w1.heap.size=w.heap.size+2 from by rw [<-hw1,World.size_alloc,hz0])
 have HB1:=zh (zB Bw0 Bw1)
 have HN1:=zh (show w1.heap[w.heap.size]? =some (.cells #[.int .i64 a.err,.int .i64 a.number,.string a.who,.slice A3' a.data.length c3',.slice A4' a.names.length c4',.slice A5' a.members.length c5',.slice A6' a.history.length c6'] 49 (0,0)) from (Bw1.block _ qw0).trans (by rw [<-hw0];exact zH _ rfl))
 have HR1:=zh (show w1.heap[w.heap.size+1]? =some (.cells zO 49 (0,0)) from by rw [<-hz0,<-hw1];exact zH _ rfl)
 have HV1:=zh ((HB1.out.block bv hlt).trans h1)
 have HWH:=zh hW
 have HW1:=zh (hW.below HB1.out)
 have HVS:=zh h
 have HA:=zh ha
 have HLT:=zh hlt
 have HLW:=zh hW.lt
 have HNB:=zh (show bw≠bv from fun e=>hW.nx bw (.inr rfl) (by rw [e];exact h.pb))
 have HF1:=zh hf.1
 have HF2:=zh hf.2
 have HE:=zh (show (R .us).v= .slice E1 n1 p1/\(R .de).v= .slice E2 n2 p2/\(R .fo).v= .slice E3 n3 p3 from ⟨he1,he2,he3⟩)
 have HST:=zh (show ∀w',Below w1.heap.size w1 w'->yF (fun _=>True) w' [.int .i64 st'.turn,.slice E1 n1 p1,.slice E2 n2 p2,.slice E3 n3 p3] st' from fun w' hb=>by rw [<-he1,<-he2,<-he3];exact (HW1.out.below hb).state)
 have t0:=HW1.out.cells.1 0 _ rfl
 have t8:=HW1.out.cells.1 8 _ rfl
 have t9:w1.cell? ⟨bw,9,none⟩=some (.slice E1 n1 p1):=by rw [<-he1];exact HW1.out.cells.1 9 _ rfl
 have t10:w1.cell? ⟨bw,10,none⟩=some (.slice E2 n2 p2):=by rw [<-he2];exact HW1.out.cells.1 10 _ rfl
 have t11:w1.cell? ⟨bw,11,none⟩=some (.slice E3 n3 p3):=by rw [<-he3];exact HW1.out.cells.1 11 _ rfl
 have t12:=HW1.out.cells.1 12 _ rfl
 clear h hW ha hf h1 h2 hlt he1 he2 he3 cw0 fw0 Bw0 cw1 fw1 Bw1 qw1
 unfold zO at hw1
 go_enter Tryz.func35,Tryz.ntmps35
 cases done with
 | false=>
  obtain ⟨a0,a1,a2,a3,a4,a5,a6⟩:=zC7 (zD HN1.out).1
  have K:=HR1.out
  unfold zO at K
  obtain ⟨y0,y1,y2,y3,y4,y5,y6⟩:=zC7 (zD K).1
  have yz:=(zD K).2
  clear K
  go_wp2
  try simp only [Exit.inBlock,Exit.then]
  obtain ⟨F1,F2⟩:=zZ HR1.out (.int .i64 a.err) (.int .i64 a.number) (.string a.who) (.slice A3' a.data.length c3') (.slice A4' a.names.length c4') (.slice A5' a.members.length c5') (.slice A6' a.history.length c6')
  refine bodyPost_ret (results_cell_row rfl _ _ (w.heap.size+1) 49 _ (0,0) _ rfl F1 Tryz.underlying49 rfl (by kernel_rfl)) rfl ?_
  have hB:=ButB.below HB1.out HB1.out.size (fun z hz=>by have:z=w.heap.size+1:=hz;omega) F2
  exact ⟨_,rfl,HVS.out.below hB,zHh HVS.out.pb HA.out (ButB.of hB),ButB.of hB⟩
 | true=>
  go_upto_region 3 with fail
  go_cut [27] from 14 to 27 (fun s27 wx=>(∃b:Bool,s27= .bool b/\Hid (b=true↔(c.kind≠15/\c.kind≠16)))/\wx=w1)
  case first=>
    by_cases h15:c.kind=15
    ·have g1:(c.kind !=15)=false:=by simp [h15]
     have g2:decide (c.kind=15)=true:=decide_eq_true h15
     have H15:=zh h15
     clear h15
     go_wp2
     go_meet
     case rel=>exact ⟨⟨_,rfl,zh (by have:=H15.out;simp [this])⟩,rfl⟩
    ·have g1:(c.kind !=15)=true:=by simp [h15]
     have g2:decide (c.kind=15)=false:=decide_eq_false h15
     have H15:=zh h15
     clear h15
     go_wp2
     go_meet
     case rel=>exact ⟨⟨_,rfl,zh (by have:=H15.out;simp [this])⟩,rfl⟩
  obtain ⟨⟨bk,rfl,hbk⟩,rfl⟩:=hcut
  rename_i KK hKK
  refine hKK _ _ ?_
  clear hKK KK
  go_cut [7] from 28 to 44 (fun s7 wx=>Hid (Below wc.heap.size wc wx)/\Hid (¬(c.kind≠15/\c.kind≠16/\Bd.fitsOf st' q r≠0)))
  case first=>
   cases bk with
   | false=>
    have HNO:=zh (show ¬(c.kind≠15/\c.kind≠16/\Bd.fitsOf st' q r≠0) from fun e=>by have:=hbk.out.2 ⟨e.1,e.2.1⟩;cases this)
    go_wp2
    go_meet
    case rel=>exact ⟨zh (Below.refl _ _),HNO⟩
   | true=>
    have v4:=(zD HV1.out).1 4 _ rfl
    have v5:=(zD HV1.out).1 5 _ rfl
    go_upto_region 4 with fail
    have HSQ:=zh (show ∀W':World,Below wc.heap.size wc W'->(fun W':World=>Below wc.heap.size wc W'/\W'.cell? ⟨bw,8,none⟩=some (.int .i64 st'.turn)/\W'.cell? ⟨bw,9,none⟩=some (.slice E1 n1 p1)/\W'.cell? ⟨bw,10,none⟩=some (.slice E2 n2 p2)/\W'.cell? ⟨bw,11,none⟩=some (.slice E3 n3 p3)/\W'.cell? ⟨bv,4,none⟩=some (.int .i64 q)/\W'.cell? ⟨bv,5,none⟩=some (.int .i64 r)) W' from fun W' hW=>⟨hW,(hW.cell (p:=⟨bw,8,none⟩) (zF t8)).trans t8,(hW.cell (p:=⟨bw,9,none⟩) (zF t9)).trans t9,(hW.cell (p:=⟨bw,10,none⟩) (zF t10)).trans t10,(hW.cell (p:=⟨bw,11,none⟩) (zF t11)).trans t11,(hW.cell (p:=⟨bv,4,none⟩) (zF v4)).trans v4,(hW.cell (p:=⟨bv,5,none⟩) (zF v5)).trans v5⟩)
    refine zE (by kernel_rfl) HSQ.out (fun hHeld=>?_)
    refine zT 0 _ rfl (by kernel_rfl) rfl (fun _ _ _ h=>h) hHeld (by intro W' h;go_simp;try with_reducible rfl) ?_
    simp only [zA]
    refine zT 1 _ rfl (by kernel_rfl) rfl (fun _ _ _ h=>h) hHeld (by intro W' h;go_simp;try with_reducible rfl) ?_
    simp only [zA]
    refine zT 2 _ rfl (by kernel_rfl) rfl (fun _ _ _ h=>h) hHeld (by intro W' h;go_simp;try with_reducible rfl) ?_
    simp only [zA]
    refine zT 3 _ rfl (by kernel_rfl) rfl (fun _ _ _ h=>h) hHeld (by intro W' h;go_simp;try with_reducible rfl) ?_
    simp only [zA]
    refine zT 4 _ rfl (by kernel_rfl) rfl (fun _ _ _ h=>h) hHeld (by intro W' h;go_simp;try with_reducible rfl) ?_
    simp only [zA]
    refine zT 5 _ rfl (by kernel_rfl) rfl (fun _ _ _ h=>h) hHeld (by intro W' h;go_simp;try with_reducible rfl) ?_
    simp only [zA]
    refine zT 6 _ rfl (by kernel_rfl) rfl (fun _ _ _ h=>h) hHeld (by intro W' h;go_simp;try with_reducible rfl) ?_
    simp only [zA]
    refine zT 7 _ rfl (by kernel_rfl) rfl (fun _ _ _ h=>h) hHeld (by intro W' h;go_simp;try with_reducible rfl) ?_
    simp only [zA]
    refine zT 8 _ rfl (by kernel_rfl) rfl (fun _ _ _ h=>h) hHeld (by intro W' h;go_simp;try with_reducible rfl) ?_
    simp only [zA]
    refine zT 9 _ rfl (by kernel_rfl) rfl (fun _ _ _ h=>h) hHeld (by intro W' h;go_simp;try with_reducible rfl) ?_
    simp only [zA]
    refine zT 10 _ rfl (by kernel_rfl) rfl (fun _ _ _ h=>h) hHeld (by intro W' h;go_simp;try with_reducible rfl) ?_
    simp only [zA]
    refine zT 11 _ rfl (by kernel_rfl) rfl (fun _ _ _ h=>h) hHeld (by intro W' h;go_simp;try with_reducible rfl) ?_
    simp only [zA]
    refine wpAnyH_ready (rs:=[12]) (by kernel_rfl) (by simp) ?_
    refine AllReadyH.cons rfl (fun K hK=>?_) AllReadyH.nil
    go_simp
    go_at_call 56
    refine Calls.mono (Bd.fits_any st' q r HF1.out HF2.out _ _ (fun _=>True) (HST.out _ ((Below.refl _ _).drew))) ?_
    rintro e3 w3 ⟨rfl,b3⟩
    have Bw3:Below wc.heap.size wc w3:=zB ((Below.refl _ _).drew) b3
    clear b3 hHeld
    refine hK.out _ _ (HSQ.out _ Bw3) (fun hHeld=>?_)
    clear hK K
    refine zT 13 _ rfl (by kernel_rfl) rfl (fun _ _ _ h=>h) hHeld (by intro W' h;go_simp;try with_reducible rfl) ?_
    simp only [zA]
    refine wpAnyH_done (by kernel_rfl) ?_ _
    clear hHeld HSQ
    have HB3:=zh Bw3
    clear Bw3
    by_cases hfit:Bd.fitsOf st' q r=0
    ·have HNO:=zh (show ¬(c.kind≠15/\c.kind≠16/\Bd.fitsOf st' q r≠0) from fun e=>e.2.2 hfit)
     rw [hfit]
     clear hfit
     go_wp2
     go_meet
     case rel=>exact ⟨HB3,HNO⟩
    have hg1:(Bd.fitsOf st' q r !=0)=true:=by simp [hfit]
    have hg2:decide (Bd.fitsOf st' q r=0)=false:=decide_eq_false hfit
    have HES:=zh (show z8a st st' q r c.kind true a=(st,ZA (Bd.fitsOf st' q r)) from by
     unfold z8a
     rw [if_pos rfl,if_pos ⟨(hbk.out.1 rfl).1,(hbk.out.1 rfl).2,hfit⟩])
    clear hfit
    go_wp2_with fail
    refine Calls.mono (Z9 (Bd.fitsOf st' q r) w3) ?_
    rintro e5 w5 ⟨rfl,B5⟩
    have HB5:=zh (zB HB3.out B5)
    have HBB:=zh (zB HB1.out HB5.out)
    have HR5:=zh ((HB5.out.block _ (zM HR1.out)).trans HR1.out)
    clear B5
    have K:=HR5.out
    unfold zO at K
    obtain ⟨y0,y1,y2,y3,y4,y5,y6⟩:=zC7 (zD K).1
    have yz:=(zD K).2
    clear K
    unfold ZK
    go_wp2
    try simp only [Exit.inBlock,Exit.then]
    obtain ⟨F1,F2⟩:=zZ HR5.out (.int .i64 (Bd.fitsOf st' q r)) (.int .i64 0) (.string ⟨#[]⟩) (.slice none 0 0) (.slice none 0 0) (.slice none 0 0) (.slice none 0 0)
    refine bodyPost_ret (results_cell_row rfl _ _ (w.heap.size+1) 49 _ (0,0) _ rfl F1 Tryz.underlying49 rfl (by kernel_rfl)) rfl ?_
    have hB:=ButB.below HBB.out HBB.out.size (fun z hz=>by have:z=w.heap.size+1:=hz;omega) F2
    rw [HES.out]
    exact ⟨_,rfl,HVS.out.below hB,ZP (zN7 st' q r),ButB.of hB⟩
  obtain ⟨HBc,HNO⟩:=hcut
  rename_i w2
  have HBB:=zh (zB HB1.out HBc.out)
  have HES:=zh (show z8a st st' q r c.kind true a=(st',a) from by
   unfold z8a
   rw [if_pos rfl,if_neg HNO.out])
  have HNc:=zh ((HBc.out.block _ (zM HN1.out)).trans HN1.out)
  have HRc:=zh ((HBc.out.block _ (zM HR1.out)).trans HR1.out)
  have HVc:=zh ((HBc.out.block _ (zM HV1.out)).trans HV1.out)
  replace t8:=(HBc.out.cell (p:=⟨bw,8,none⟩) HW1.out.lt).trans t8
  replace t9:=(HBc.out.cell (p:=⟨bw,9,none⟩) HW1.out.lt).trans t9
  replace t10:=(HBc.out.cell (p:=⟨bw,10,none⟩) HW1.out.lt).trans t10
  replace t11:=(HBc.out.cell (p:=⟨bw,11,none⟩) HW1.out.lt).trans t11
  obtain ⟨s0,s1,s2,s3⟩:=zC4 (zD HVc.out).1
  have sz:=(zD HVc.out).2
  clear t0 t12
  go_upto_region 8 with fail
  have hq:=zN8 HVc.out HBB.out (.int .i64 st'.turn) (.slice E1 n1 p1) (.slice E2 n2 p2) (.slice E3 n3 p3)
  generalize hwv:(((wc.setCell ⟨bv,0,none⟩ (.int .i64 st'.turn)).setCell ⟨bv,1,none⟩ (.slice E1 n1 p1)).setCell ⟨bv,2,none⟩ (.slice E2 n2 p2)).setCell ⟨bv,3,none⟩ (.slice E3 n3 p3)=wv at hq⊢
  obtain ⟨q1,q2,q3⟩:=hq
  have HXv:=zh q1
  have HBv:=zh q3
  have HNv:=zh ((q2 w.heap.size (by have:=HLT.out;omega)).trans HNc.out)
  have HRv:=zh ((q2 (w.heap.size+1) (by have:=HLT.out;omega)).trans HRc.out)
  clear q1 q2 q3
  clear hwv s0 s1 s2 s3 sz t8 t9 t10 t11
  obtain ⟨a0,a1,a2,a3,a4,a5,a6⟩:=zC7 (zD HNv.out).1
  have K:=HRv.out
  unfold zO at K
  obtain ⟨y0,y1,y2,y3,y4,y5,y6⟩:=zC7 (zD K).1
  have yz:=(zD K).2
  clear K
  go_wp2
  try simp only [Exit.inBlock,Exit.then]
  obtain ⟨F1,F2⟩:=zZ HRv.out (.int .i64 a.err) (.int .i64 a.number) (.string a.who) (.slice A3' a.data.length c3') (.slice A4' a.names.length c4') (.slice A5' a.members.length c5') (.slice A6' a.history.length c6')
  refine bodyPost_ret (results_cell_row rfl _ _ (w.heap.size+1) 49 _ (0,0) _ rfl F1 Tryz.underlying49 rfl (by kernel_rfl)) rfl ?_
  have hB:=zDn HBv.out F2 (fun z hz=>by have:z=w.heap.size+1:=hz;omega)
  rw [HES.out]
  exact ⟨_,rfl,zPc HVS.out.pb HWH.out hB (by rw [HE.out.1,HE.out.2.1,HE.out.2.2];exact (F2.block bv (zM HXv.out) (fun e=>by have:bv=w.heap.size+1:=e;have:=HLT.out;omega)).trans HXv.out),zHh HVS.out.pb HA.out hB,hB⟩
end
end
section
def MayOk (w:World):Prop:=0 < w.heap.size/\∀r:Nat,r < 17->w.cell? ⟨0,r,none⟩=some (.int .i64 (YL r:Nat))
def z58 (c:Call):Prop:=c.user.size<=20/\c.folder.size<=20/\c.name.size<=20/\c.other.size<=20
section
variable {P:Nat->Prop} {bv base bw:Nat} {w w':World} {R:RM} {st st':State} {q r:Int} {c:Call} {dv:Value} {done late:Bool}
theorem MayOk.below (h:MayOk w) (hb:Below w.heap.size w w'):MayOk w':=⟨Nat.lt_of_lt_of_le h.1 hb.size,fun r hr=>(hb.cell (p:=⟨0,r,none⟩) h.1).trans (h.2 r hr)⟩
theorem VS.more (h:VS P bv w st q r) (hb:Below w.heap.size w w') {Q:Nat->Prop} (hQ:∀b,Q b->w.heap.size<=b/\b < w'.heap.size):VS (fun b=>P b\/Q b) bv w' st q r:=by
 obtain ⟨v1,v2,v3,h1,h2⟩:=h.box
 exact ⟨⟨v1,v2,v3,(hb.block bv h.lt).trans h1,Z7 h2 fun b hp hl=>⟨fun e=>e.elim hp fun e=>by have:=(hQ b e).1;omega,hb.block b hl⟩⟩,.inl h.pb,fun b e=>e.elim (fun e=>Nat.lt_of_lt_of_le (h.pl b e) hb.size) fun e=>(hQ b e).2⟩
theorem VS.less {Q:Nat->Prop} (h:VS (fun b=>P b\/Q b) bv w st q r) (hp:P bv) {B:Nat->Prop} (hb:ButB B w w') (hB:∀b,B b->Q b/\b≠bv):VS P bv w' st q r:=by
 obtain ⟨v1,v2,v3,h1,h2⟩:=h.box
 exact ⟨⟨v1,v2,v3,(hb.block bv h.lt fun e=>(hB bv e).2 rfl).trans h1,Z7 h2 fun b hn hl=>⟨fun e=>hn (.inl e),hb.block b hl fun e=>hn (.inr (hB b e).1)⟩⟩,hp,fun b e=>Nat.lt_of_lt_of_le (h.pl b (.inl e)) hb.size⟩
theorem zOn:z8a st (Y7 st c late).1 q r c.kind (Y7 st c late).2.2 (Y7 st c late).2.1=doV st q r c late:=rfl
set_option maxHeartbeats 8000000 in
theorem zDo (h:VS P bv w st q r) (hc:z01 (fun b=>¬P b) w (z0l c dv) c) {n:Nat} (hI:VInv n st) (hn:n<=40) (hd:yQ st) (hm:MayOk w) (hs:z58 c):
  Calls Tryz.prog 12 #[.pointer (some ⟨bv,0,none⟩),.agg #[.int .i64 c.kind,.string c.user,.string c.folder,.string c.name,.string c.other,.int .i64 c.role,.int .i64 c.version,dv]] w fun e w'=>∃cs:Array Value,e= .returned (.agg cs)/\VS P bv w' (ZN st q r c).1 q r/\yS (fun b=>¬P b) w' cs.toList (ZN st q r c).2/\ButB (fun b=>b=bv) w w':=by
 obtain ⟨_,_,_,h1,_⟩:=h.box
 have hlt:=h.lt
 obtain ⟨A7,c7,e7,hkind,hus,hfo,hna,hot,hro,hve,_⟩:=yR hc
 obtain rfl:dv= .slice A7 c.data.length c7:=by simpa [z0l] using e7
 obtain ⟨w0,hw0,cw0,fw0,Bw0,qw0⟩:=zQ w #[.int .i64 c.kind,.string c.user,.string c.folder,.string c.name,.string c.other,.int .i64 c.role,.int .i64 c.version,.slice A7 c.data.length c7] 41
 have hz0:w0.heap.size=w.heap.size+1:=by rw [<-hw0,World.size_alloc]
 obtain ⟨w1,hw1,cw1,fw1,Bw1,qw1⟩:=zQ w0 zO 49
 have HZ1:=zh (show w1.heap.size=w.heap.size+2 from by rw [<-hw1,World.size_alloc,hz0])
 have HB1:=zh (zB Bw0 Bw1)
 have HN1:=zh (show w1.heap[w.heap.size]? =some (.cells #[.int .i64 c.kind,.string c.user,.string c.folder,.string c.name,.string c.other,.int .i64 c.role,.int .i64 c.version,.slice A7 c.data.length c7] 41 (0,0)) from (Bw1.block _ qw0).trans (by rw [<-hw0];exact zH _ rfl))
 have HR1:=zh (show w1.heap[w.heap.size+1]? =some (.cells zO 49 (0,0)) from by rw [<-hz0,<-hw1];exact zH _ rfl)
 have HV1:=zh (h.more HB1.out (Q:=fun b=>b=w.heap.size+1) fun b e=>by have:b=w.heap.size+1:=e;rw [HZ1.out];omega)
 have HC1:=zh (show z01 (fun b=>¬(P b\/b=w.heap.size+1)) w1 (z0l c (.slice A7 c.data.length c7)) c from yJ hc fun b hp hl=>⟨fun e=>e.elim hp fun e=>by omega,HB1.out.block b hl⟩)
 have HVS:=zh h
 have HI:=zh hI
 have HD:=zh hd
 have HS:=zh hs
 have HLT:=zh hlt
 have HPB:=zh h.pb
 have HMA:=zh (z8p c.kind c.user c.folder c.name c.other c.role c.version A7 c.data.length c7 hus hfo hna hot w1 (hm.below HB1.out).1 (hm.below HB1.out).2)
 have s6:=(HB1.out.cell (p:=⟨bv,6,none⟩) hlt).trans ((zD h1).1 6 _ rfl)
 obtain ⟨k0,k1,k2,k3,k4,k5,k6,k7⟩:=zC8 (zD HN1.out).1
 clear h hc hI hd hm hs h1 hlt e7 cw0 fw0 Bw0 cw1 fw1 Bw1 qw1 hkind hus hfo hna hot hro hve
 unfold zO at hw1
 go_enter Tryz.func12,Tryz.ntmps12
 go_wp2_with fail
 refine Calls.mono HMA.out ?_
 rintro _ w2 ⟨rfl,B2⟩
 have HB2:=zh B2
 have HB02:=zh (zB HB1.out B2)
 have HR2:=zh ((B2.block _ (zM HR1.out)).trans HR1.out)
 have HV2:=zh (HV1.out.below B2)
 have HC2:=zh (yJ HC1.out (zJ B2))
 replace k0:=(B2.cell (p:=⟨w.heap.size,0,none⟩) (zM HN1.out)).trans k0
 replace k1:=(B2.cell (p:=⟨w.heap.size,1,none⟩) (zM HN1.out)).trans k1
 replace k2:=(B2.cell (p:=⟨w.heap.size,2,none⟩) (zM HN1.out)).trans k2
 replace k3:=(B2.cell (p:=⟨w.heap.size,3,none⟩) (zM HN1.out)).trans k3
 replace k4:=(B2.cell (p:=⟨w.heap.size,4,none⟩) (zM HN1.out)).trans k4
 replace k5:=(B2.cell (p:=⟨w.heap.size,5,none⟩) (zM HN1.out)).trans k5
 replace k6:=(B2.cell (p:=⟨w.heap.size,6,none⟩) (zM HN1.out)).trans k6
 replace k7:=(B2.cell (p:=⟨w.heap.size,7,none⟩) (zM HN1.out)).trans k7
 clear B2 s6
 have hfold:z2w ZD c.kind c.user c.folder c.name c.other c.role c.version (c.data.length:Int)=z7f c:=rfl
 rw [hfold]
 clear hfold
 cases hmc:z7f c with
 | false=>
  have HM:=zh (show ZN st q r c=(st,ZA 13) from by unfold ZN;rw [hmc];rfl)
  clear k0 k1 k2 k3 k4 k5 k6 k7 hmc
  go_wp2_with fail
  refine Calls.mono (Z9 13 w2) ?_
  rintro e5 w5 ⟨rfl,B5⟩
  have HBB:=zh (zB HB02.out B5)
  have HR5:=zh ((B5.block _ (zM HR2.out)).trans HR2.out)
  clear B5
  have K:=HR5.out
  unfold zO at K
  obtain ⟨y0,y1,y2,y3,y4,y5,y6⟩:=zC7 (zD K).1
  have yz:=(zD K).2
  clear K
  unfold ZK
  go_wp2
  try simp only [Exit.inBlock,Exit.then]
  obtain ⟨F1,F2⟩:=zZ HR5.out (.int .i64 13) (.int .i64 0) (.string ⟨#[]⟩) (.slice none 0 0) (.slice none 0 0) (.slice none 0 0) (.slice none 0 0)
  refine bodyPost_ret (results_cell_row rfl _ _ (w.heap.size+1) 49 _ (0,0) _ rfl F1 Tryz.underlying49 rfl (by kernel_rfl)) rfl ?_
  have hB:=ButB.below HBB.out HBB.out.size (fun z hz=>by have:z=w.heap.size+1:=hz;omega) F2
  rw [HM.out]
  exact ⟨_,rfl,HVS.out.below hB,ZP ⟨by omega,by omega⟩,ButB.of hB⟩
 | true=>
  obtain ⟨ck,cd⟩:=zBj hmc HS.out.1 HS.out.2.1 HS.out.2.2.1 HS.out.2.2.2
  have HM:=zh (show ZN st q r c=doV st q r c false from by unfold ZN;rw [hmc];rfl)
  have HTR:=zh (zFm HV2.out HC2.out HI.out hn HD.out ck cd false)
  have HFEW:=zh (zLe (zAi (late:=false) HI.out ck) (by omega))
  clear hmc ck cd
  go_wp2_with fail
  refine Calls.mono HTR.out ?_
  rintro _ w3 ⟨_,bw,R,cs,rfl,hbw,B3,h3,ha⟩
  obtain ⟨A3',c3',A4',c4',A5',c5',A6',c6',rfl⟩:=ZZ ha
  generalize hx:Y7 st c false=x at h3 ha
  have HX:=zh hx
  obtain ⟨st5,a,dn⟩:=x
  obtain ⟨_,_,cw4,fw4,Bw4,_⟩:=zQ w3 #[.int .i64 a.err,.int .i64 a.number,.string a.who,.slice A3' a.data.length c3',.slice A4' a.names.length c4',.slice A5' a.members.length c5',.slice A6' a.history.length c6'] 49
  have HB24:=zh (zB B3 Bw4)
  have HV4:=zh (HV2.out.below HB24.out)
  have H4:=zh (h3.below Bw4)
  have HA4:=zh (Y8 ha (Mut.below (bw:=bw) (R:=R) Bw4).kept)
  have HR4:=zh ((HB24.out.block _ (zM HR2.out)).trans HR2.out)
  have HB04:=zh (zB HB02.out HB24.out)
  have HFS:=zh (show Bd.smallOf st5<=1000000/\Bd.largeOf st5<=1000000 from by have:=HFEW.out;rw [hx] at this;exact this)
  have HEN:=zh (zN9 H4.out HV4.out HA4.out HFS.out)
  have a0:=cw4 0 _ rfl
  have a1:=cw4 1 _ rfl
  have a2:=cw4 2 _ rfl
  have a3:=cw4 3 _ rfl
  have a4:=cw4 4 _ rfl
  have a5:=cw4 5 _ rfl
  have a6:=cw4 6 _ rfl
  clear B3 h3 ha hx cw4 fw4 Bw4 k0 k1 k2 k3 k4 k5 k6 k7 hbw
  go_wp2_with fail
  refine Calls.mono HEN.out ?_
  rintro e5 w5 ⟨_,rfl,V5,ha5,B5⟩
  have HE5:=zh (show z8a st st5 q r c.kind dn a=doV st q r c false from by rw [<-zOn,HX.out])
  rw [HE5.out] at V5 ha5
  generalize hy:doV st q r c false=y at V5 ha5
  have HY:=zh hy
  obtain ⟨_,b⟩:=y
  obtain ⟨A3'',c3'',A4'',c4'',A5'',c5'',A6'',c6'',rfl⟩:=ZZ ha5
  have HV5:=zh V5
  have HA5:=zh ha5
  have HB5:=zh B5
  have HR5:=zh ((B5.block _ (zM HR4.out) (fun e=>by have:w.heap.size+1=bv:=e;have:=HLT.out;omega)).trans HR4.out)
  clear V5 ha5 B5 hy a0 a1 a2 a3 a4 a5 a6
  have K:=HR5.out
  unfold zO at K
  obtain ⟨y0,y1,y2,y3,y4,y5,y6⟩:=zC7 (zD K).1
  have yz:=(zD K).2
  clear K
  go_wp2
  try simp only [Exit.inBlock,Exit.then]
  obtain ⟨F1,F2⟩:=zZ HR5.out (.int .i64 b.err) (.int .i64 b.number) (.string b.who) (.slice A3'' b.data.length c3'') (.slice A4'' b.names.length c4'') (.slice A5'' b.members.length c5'') (.slice A6'' b.history.length c6'')
  refine bodyPost_ret (results_cell_row rfl _ _ (w.heap.size+1) 49 _ (0,0) _ rfl F1 Tryz.underlying49 rfl (by kernel_rfl)) rfl ?_
  rw [HM.out,HY.out]
  refine ⟨_,rfl,HV5.out.less HPB.out F2 fun b e=>⟨e,fun h=>by have:b=w.heap.size+1:=e;have:=HLT.out;omega⟩,Y8 HA5.out fun b hn hl=>⟨fun e=>hn (.inl e),F2.block b hl fun e=>hn (.inr e)⟩,?_⟩
  have hb4:ButB (fun b=>b=bv) w _:=ButB.of HB04.out
  exact zDn (hb4.trans HB5.out) F2 (fun z hz=>by have:z=w.heap.size+1:=hz;omega)
end
end
section
section
variable {P:Nat->Prop} {bv:Nat} {w:World} {st:State} {q r:Int} {c:Call} {dv:Value}
theorem zAy {w1 w5:World} {a:Nat} {w2:World} (h:Below w.heap.size w w5) (ha:w.heap.size<=a) (F2:ButB (fun x=>x=a) w5 w2):Below w.heap.size w w2:=
 ButB.below h h.size (fun z hz=>by have:z=a:=hz;omega) F2
set_option maxHeartbeats 4000000 in
theorem zLi (w:World) (A:Option Addr) (n k:Nat):Calls Tryz.prog 12 #[.pointer none,.agg #[.int .i64 c.kind,.string c.user,.string c.folder,.string c.name,.string c.other,.int .i64 c.role,.int .i64 c.version,.slice A n k]] w fun e w'=>e= .returned (.agg (ZK 1 0))/\Below w.heap.size w w':=by
 obtain ⟨w0,hw0,cw0,fw0,Bw0,_⟩:=zQ w #[.int .i64 c.kind,.string c.user,.string c.folder,.string c.name,.string c.other,.int .i64 c.role,.int .i64 c.version,.slice A n k] 41
 have hz0:w0.heap.size=w.heap.size+1:=by rw [<-hw0,World.size_alloc]
 obtain ⟨w1,hw1,cw1,fw1,Bw1,qw1⟩:=zQ w0 zO 49
 have HB1:=zh (zB Bw0 Bw1)
 have HR1:=zh (show w1.heap[w.heap.size+1]? =some (.cells zO 49 (0,0)) from by rw [<-hz0,<-hw1];exact zH _ rfl)
 clear cw0 fw0 Bw0 cw1 fw1 Bw1 qw1
 unfold zO at hw1
 go_enter Tryz.func12,Tryz.ntmps12
 go_wp2_with fail
 refine Calls.mono (Z9 1 w1) ?_
 rintro _ _ ⟨rfl,B5⟩
 have HB5:=zh (zB HB1.out B5)
 have HR5:=zh ((B5.block _ (zM HR1.out)).trans HR1.out)
 clear B5
 have K:=HR5.out
 unfold zO at K
 obtain ⟨y0,y1,y2,y3,y4,y5,y6⟩:=zC7 (zD K).1
 have yz:=(zD K).2
 clear K
 unfold ZK
 go_wp2
 try simp only [Exit.inBlock,Exit.then]
 obtain ⟨F1,F2⟩:=zZ HR5.out (.int .i64 1) (.int .i64 0) (.string ⟨#[]⟩) (.slice none 0 0) (.slice none 0 0) (.slice none 0 0) (.slice none 0 0)
 refine bodyPost_ret (results_cell_row rfl _ _ (w.heap.size+1) 49 _ (0,0) _ rfl F1 Tryz.underlying49 rfl (by kernel_rfl)) rfl ?_
 exact ⟨rfl,zAy (w1:=w1) HB5.out (by omega) F2⟩
set_option maxHeartbeats 4000000 in
theorem zGu (w:World) (A:Option Addr) (n k:Nat):Calls Tryz.prog 14 #[.pointer none,.agg #[.int .i64 c.kind,.string c.user,.string c.folder,.string c.name,.string c.other,.int .i64 c.role,.int .i64 c.version,.slice A n k]] w fun e w'=>e= .returned (.tuple #[.pointer none,.agg (ZK 1 0)])/\Below w.heap.size w w':=by
 obtain ⟨w0,hw0,cw0,fw0,Bw0,_⟩:=zQ w #[.int .i64 c.kind,.string c.user,.string c.folder,.string c.name,.string c.other,.int .i64 c.role,.int .i64 c.version,.slice A n k] 41
 have hz0:w0.heap.size=w.heap.size+1:=by rw [<-hw0,World.size_alloc]
 obtain ⟨w1,hw1,cw1,fw1,Bw1,qw1⟩:=zQ w0 zO 49
 have HB1:=zh (zB Bw0 Bw1)
 have HR1:=zh (show w1.heap[w.heap.size+1]? =some (.cells zO 49 (0,0)) from by rw [<-hz0,<-hw1];exact zH _ rfl)
 clear cw0 fw0 Bw0 cw1 fw1 Bw1 qw1
 unfold zO at hw1
 go_enter Tryz.func14,Tryz.ntmps14
 go_wp2_with fail
 refine Calls.mono (Z9 1 w1) ?_
 rintro _ _ ⟨rfl,B5⟩
 have HB5:=zh (zB HB1.out B5)
 have HR5:=zh ((B5.block _ (zM HR1.out)).trans HR1.out)
 clear B5
 have K:=HR5.out
 unfold zO at K
 obtain ⟨y0,y1,y2,y3,y4,y5,y6⟩:=zC7 (zD K).1
 have yz:=(zD K).2
 clear K
 unfold ZK
 go_wp2
 try simp only [Exit.inBlock,Exit.then]
 obtain ⟨F1,F2⟩:=zZ HR5.out (.int .i64 1) (.int .i64 0) (.string ⟨#[]⟩) (.slice none 0 0) (.slice none 0 0) (.slice none 0 0) (.slice none 0 0)
 refine bodyPost_ret (yL rfl _ _ (w.heap.size+1) 49 #[.int .i64 1,.int .i64 0,.string ⟨#[]⟩,.slice none 0 0,.slice none 0 0,.slice none 0 0,.slice none 0 0] (0,0) _ rfl F1 Tryz.underlying49 rfl (by kernel_rfl)) rfl ?_
 exact ⟨rfl,zAy (w1:=w1) HB5.out (by omega) F2⟩
theorem zFn (w:World):Calls Tryz.prog 19 #[.pointer none] w fun e w'=>e= .returned (.agg #[.int .i64 0,.slice none 0 0,.slice none 0 0,.slice none 0 0])/\Below w.heap.size w w':=by
 obtain ⟨w0,hw0,cw0,fw0,Bw0,_⟩:=zQ w #[.int .i64 0,.slice none 0 0,.slice none 0 0,.slice none 0 0] 34
 have HR0:=zh (show w0.heap[w.heap.size]? =some (.cells #[.int .i64 0,.slice none 0 0,.slice none 0 0,.slice none 0 0] 34 (0,0)) from by rw [<-hw0];exact zH _ rfl)
 have HB0:=zh Bw0
 have b0:=cw0 0 _ rfl
 have b1:=cw0 1 _ rfl
 have b2:=cw0 2 _ rfl
 have b3:=cw0 3 _ rfl
 have bz:=fw0
 clear Bw0
 go_enter Tryz.func19,Tryz.ntmps19
 go_wp2
 try simp only [Exit.inBlock,Exit.then]
 obtain ⟨F1,_⟩:=zFh HR0.out (.int .i64 0) (.slice none 0 0) (.slice none 0 0) (.slice none 0 0)
 refine bodyPost_ret (results_cell_row rfl _ _ w.heap.size 34 _ (0,0) _ rfl F1 Tryz.underlying34 rfl (by kernel_rfl)) rfl ?_
 exact ⟨rfl,(((HB0.out.setCell (Nat.le_refl _) _).setCell (Nat.le_refl _) _).setCell (Nat.le_refl _) _).setCell (Nat.le_refl _) _⟩
theorem z8b (w:World) (v:Option Addr) (hv:∀a,v=some a->a=⟨bv,0,none⟩/\w.cell? ⟨bv,6,none⟩=some (.bool true)):Calls Tryz.prog 16 #[.pointer v,.pointer none] w fun e w'=>e= .returned (.agg (ZK 1 0))/\Below w.heap.size w w':=by
 obtain ⟨w1,hw1,cw1,fw1,Bw1,qw1⟩:=zQ w zO 49
 have HB1:=zh Bw1
 have HR1:=zh (show w1.heap[w.heap.size]? =some (.cells zO 49 (0,0)) from by rw [<-hw1];exact zH _ rfl)
 have HV:=zh hv
 clear cw1 fw1 Bw1 qw1 hv
 unfold zO at hw1
 cases v with
 | none=>
  go_enter Tryz.func16,Tryz.ntmps16
  go_wp2_with fail
  refine Calls.mono (Z9 1 w1) ?_
  rintro e5 w5 ⟨rfl,B5⟩
  have HB5:=zh (zB HB1.out B5)
  have HR5:=zh ((B5.block _ (zM HR1.out)).trans HR1.out)
  clear B5
  have K:=HR5.out
  unfold zO at K
  obtain ⟨y0,y1,y2,y3,y4,y5,y6⟩:=zC7 (zD K).1
  have yz:=(zD K).2
  clear K
  unfold ZK
  go_wp2
  try simp only [Exit.inBlock,Exit.then]
  obtain ⟨F1,F2⟩:=zZ HR5.out (.int .i64 1) (.int .i64 0) (.string ⟨#[]⟩) (.slice none 0 0) (.slice none 0 0) (.slice none 0 0) (.slice none 0 0)
  refine bodyPost_ret (results_cell_row rfl _ _ w.heap.size 49 _ (0,0) _ rfl F1 Tryz.underlying49 rfl (by kernel_rfl)) rfl ?_
  exact ⟨rfl,zAy (w1:=w1) HB5.out (Nat.le_refl _) F2⟩
 | some a=>
  obtain ⟨rfl,hc⟩:=HV.out a rfl
  have s6:=(HB1.out.cell (p:=⟨bv,6,none⟩) (zF hc)).trans hc
  clear hc
  go_enter Tryz.func16,Tryz.ntmps16
  go_wp2_with fail
  refine Calls.mono (Z9 1 w1) ?_
  rintro e5 w5 ⟨rfl,B5⟩
  have HB5:=zh (zB HB1.out B5)
  have HR5:=zh ((B5.block _ (zM HR1.out)).trans HR1.out)
  clear B5
  have K:=HR5.out
  unfold zO at K
  obtain ⟨y0,y1,y2,y3,y4,y5,y6⟩:=zC7 (zD K).1
  have yz:=(zD K).2
  clear K
  unfold ZK
  go_wp2
  try simp only [Exit.inBlock,Exit.then]
  obtain ⟨F1,F2⟩:=zZ HR5.out (.int .i64 1) (.int .i64 0) (.string ⟨#[]⟩) (.slice none 0 0) (.slice none 0 0) (.slice none 0 0) (.slice none 0 0)
  refine bodyPost_ret (results_cell_row rfl _ _ w.heap.size 49 _ (0,0) _ rfl F1 Tryz.underlying49 rfl (by kernel_rfl)) rfl ?_
  exact ⟨rfl,zAy (w1:=w1) HB5.out (Nat.le_refl _) F2⟩
def z4g (k:Int):Bool:=(decide (2<=k) && decide (k<=8)) || decide (k=11)
theorem zJ6 (k:Int) (w:World):Calls Tryz.prog 39 #[.int .i64 k] w fun e w'=>e= .returned (.bool (z4g k))/\w=w':=by
 obtain ⟨b,hb⟩:∃b,z4g k=b:=⟨_,rfl⟩
 rw [hb]
 have HB:=zh hb
 clear hb
 by_cases h1:2<=k
 rotate_left
 ·have g1:decide (2<=k)=false:=decide_eq_false h1
  have g3:(k==11)=false:=by simp;omega
  have g4:decide (k=11)=false:=decide_eq_false (by omega)
  obtain rfl:b=false:=by rw [<-HB.out];unfold z4g;simp [h1];omega
  clear h1
  go_enter Tryz.func39,Tryz.ntmps39
  go_wp2
  go_ret
  exact ⟨rfl,rfl⟩
 by_cases h2:k<=8
 ·have g1:decide (2<=k)=true:=decide_eq_true h1
  have g2:decide (k<=8)=true:=decide_eq_true h2
  obtain rfl:b=true:=by rw [<-HB.out];unfold z4g;simp [h1,h2]
  clear h1 h2
  go_enter Tryz.func39,Tryz.ntmps39
  go_wp2
  go_ret
  exact ⟨rfl,rfl⟩
 have g1:decide (2<=k)=true:=decide_eq_true h1
 have g2:decide (k<=8)=false:=decide_eq_false h2
 by_cases h3:k=11
 ·subst h3
  obtain rfl:b=true:=by rw [<-HB.out];rfl
  clear h1 h2 g1 g2
  go_enter Tryz.func39,Tryz.ntmps39
  go_wp2
  go_ret
  exact ⟨rfl,rfl⟩
 have g3:(k==11)=false:=by simp [h3]
 have g4:decide (k=11)=false:=decide_eq_false h3
 obtain rfl:b=false:=by rw [<-HB.out];unfold z4g;simp [h2,h3]
 clear h1 h2 h3
 go_enter Tryz.func39,Tryz.ntmps39
 go_wp2
 go_ret
 exact ⟨rfl,rfl⟩
end
end
section
section
variable {P:Program} {α:Type} {e:TypeId} {sz:Nat} {R:Rp α} {B B':Nat->Prop} {w w':World} {base:Nat} {v:Value} {l:List α}
theorem zJ8 (w:World) {ops:Array Oper} {o:Oper} {a:Act} {K:Act->World->Prop} {Q:Exit->Act->World->Prop} {E:Prop} (hgd:o.guard=none) (s x:Operand) (t:TypeId)
  (ho:o.op= .call { callee:= .builtin .append,args:=#[s,x],argTypes:=#[t,t] })
  (e:TypeId) (i:TypeInfo) (z:Value) (sz bytes:Nat) (ht:P.underlying t=some (.slice e)) (hi:P.info? e=some i) (hz:i.zero=some z)
  (hsize:i.size=sz) (hby:i.bytes=bytes) (hzs:z.cells.size=sz) (hsz:0 < sz) (ok:RpOk sz R) (base:Nat) (hbase:base<=w.heap.size) (v:Value) (l:List α) (hs:a.eval s=v) (hown:Grow e sz R B w base v l)
  (A:Option Addr) (m c:Nat) (hx:a.eval x= .slice A m c) (l2:List α) (hm:m=l2.length) (hsl:SlAt sz R (z1e B w v) w A l2) (hbytes:(l.length+m)*bytes<=140737488355328) (hb0:0 < bytes)
  (h:∀v' w',Grow e sz R B w' base v' (l++l2)->w.grownBy w' v.ownBlock->(v'.ownBlock=v.ownBlock\/v'.ownBlock=some w.heap.size)->K (a.put o.dst v') w'):if Region.wanted o (yielded ops a.tmps)=true then Oper.wp P o a w K Q else E:=by
 have hw:Region.wanted o (yielded ops a.tmps)=true:=by simp [Region.wanted,hgd]
 rw [if_pos hw]
 obtain ⟨v',w',r1,r2,r3,r4⟩:=z6b (P:=P) w t o.type e i z sz bytes ht hi hz hsize hby hzs hsz ok base hbase v l hown A m c l2 hm hsl hbytes hb0
 refine Lib.wp_append_run w s x t t ho _ _ hs hx v' w' r1 (h v' w' ?_ r3 r4)
 refine Own.keep (S':=z1e B w' v') ok r2 (fun b _=>rfl) (fun b hb hl=>⟨⟨hl,hb.2.1,?_⟩,rfl⟩) fun b hb=>⟨hb.1,hb.2.2⟩
 rcases r4 with g3 | g3
 ·rw [g3];exact hb.2.2
 rw [g3];have:=hb.1;simp only [ne_eq,Option.some.injEq];omega
end
section
variable {P:Program} {ops:Array Oper} {Q:Exit->Act->World->Prop} {md:Region.Mode} {S:World->Prop} {n:Nat} {fr:List Nat}
theorem zJ9 {i j:Nat} {oi oj:Oper} {fuel:Nat} {listed:Array Bool} {a:Act} {w:World} (hr:Region.ready md ops listed=[i,j]) (hi:ops[i]? =some oi) (hj:ops[j]? =some oj)
  (h1:∀K':Act->World->Prop,Shut (∀a w,S w->(S w->YI P md ops Q S n fr fuel (listed.setIfInBounds i true) a w)->K' a w)->if Region.wanted oi (yielded ops a.tmps)=true then Oper.wp P oi a w K' Q else K' (a.put oi.dst undef) w)
  (h2:∀K':Act->World->Prop,Shut (∀a w,S w->(S w->YI P md ops Q S n fr fuel (listed.setIfInBounds j true) a w)->K' a w)->if Region.wanted oj (yielded ops a.tmps)=true then Oper.wp P oj a w K' Q else K' (a.put oj.dst undef) w):
  YI P md ops Q S n fr (fuel+1) listed a w:=by
 refine ⟨fun h0=>(by rw [hr] at h0;cases h0),fun k hk=>?_⟩
 rw [hr] at hk
 rcases (show k=i\/k=j by simpa using hk) with rfl | rfl
 ·exact wpOp_step hi (fun K' hK=>h1 K' (fun a w hS hW=>hK a w ⟨fun _=>hS,hW hS⟩))
 exact wpOp_step hj (fun K' hK=>h2 K' (fun a w hS hW=>hK a w ⟨fun _=>hS,hW hS⟩))
end
def z8t:Rp (Nm×Int):=fun _ _ cs x=>cs=[.string x.1,.int .i64 x.2]/\x.1.size<=140737488355328/\I64 x.2
theorem z4h:RpOk 2 z8t:=⟨fun h=>by obtain ⟨e,_⟩:=h;rw [e];rfl,fun h _=>h,fun h u hu=>by
 obtain ⟨e,_⟩:=h
 rw [e] at hu
 simp only [List.mem_cons,List.not_mem_nil,or_false] at hu
 rcases hu with rfl | rfl<;>rfl⟩
def z1t (st:State) (c:Call):List At:=
 if c.kind=2 then zN st 4 c.other else if c.kind=3 then zN st 4 c.folder++zN st 4 c.other else if c.kind=8 then zN st 4 c.folder else [⟨c.folder,0⟩]
def z8c (st:State) (x:At):Nm×Int:=(x.name,((zP st x.name).getD ZF).turn)
def z6i (st:State) (c:Call):List (Nm×Int):=(z1t st c).map (z8c st)
theorem zJa (st:State) (c:Call):(z1t st c).length<=8:=by
 have h1:=YQ st 4 c.other
 have h2:=YQ st 4 c.folder
 unfold z1t
 repeat' split
 all_goals simp
 all_goals omega
section
variable {P:Nat->Prop} {bv:Nat} {w:World} {st:State} {q r:Int} {c:Call}
set_option maxHeartbeats 8000000 in
theorem zJb (h:VS P bv w st q r) (A7:Option Addr) (n7 k7:Nat) (hf:c.folder.size<=140737488355328) (ho:c.other.size<=140737488355328):
  Calls Tryz.prog 41 #[.pointer (some ⟨bv,0,none⟩),.agg #[.int .i64 c.kind,.string c.user,.string c.folder,.string c.name,.string c.other,.int .i64 c.role,.int .i64 c.version,.slice A7 n7 k7]] w fun e w'=>(∃v,e= .returned v/\Sl 2 z8t (fun b=>w.heap.size<=b) w' v (z6i st c))/\Below w.heap.size w w':=by
 obtain ⟨iAt,hiAt,hzAt,h1At,h2At⟩:=info_parts (show (Tryz.prog.info? 124).map (fun i=>(i.zero,i.size,i.bytes))=some (some (.agg #[.string ⟨#[]⟩,.int .i64 0]),2,24) from by kernel_rfl)
 obtain ⟨ilk,hilk,hzlk,h1lk,h2lk⟩:=info_parts (show (Tryz.prog.info? 147).map (fun i=>(i.zero,i.size,i.bytes))=some (some (.agg #[.string ⟨#[]⟩,.int .i64 0]),2,24) from by kernel_rfl)
 obtain ⟨_,_,_,h1,h2⟩:=h.box
 have hlt:=h.lt
 obtain ⟨A1,c1,A2,c2,A3,c3,e3,_⟩:=y8 h2
 simp only [List.cons.injEq,true_and,and_true] at e3
 obtain ⟨rfl,rfl,rfl⟩:=e3
 obtain ⟨w0,hw0,cw0,fw0,Bw0,_⟩:=zQ w #[.int .i64 c.kind,.string c.user,.string c.folder,.string c.name,.string c.other,.int .i64 c.role,.int .i64 c.version,.slice A7 n7 k7] 41
 have HZ0:=zh (show w0.heap.size=w.heap.size+1 from by rw [<-hw0,World.size_alloc])
 have HB0:=zh Bw0
 have HST:=zh (show ∀w',Below w0.heap.size w0 w'->yF (fun _=>True) w' [.int .i64 st.turn,.slice A1 st.users.length c1,.slice A2 st.deposits.length c2,.slice A3 st.folders.length c3] st from fun w' hb=>Z7 h2 fun b _ hl=>⟨trivial,(zB Bw0 hb).block b hl⟩)
 have HV0:=zh ((Bw0.block bv hlt).trans h1)
 have HF:=zh hf
 have HO:=zh ho
 have HLT:=zh hlt
 have k0:=cw0 0 _ rfl
 have k2:=cw0 2 _ rfl
 have k4:=cw0 4 _ rfl
 obtain ⟨s0,s1,s2,s3⟩:=zC4 (zD HV0.out).1
 clear h h1 h2 hlt hf ho cw0 fw0 Bw0
 go_enter Tryz.func41,Tryz.ntmps41
 go_upto_block 0 with fail
 go_cut [5] from 11 to 51 (fun s5 wx=>∃A n k,s5= .slice A n k/\Hid (Sl 2 rAt (fun b=>w.heap.size<=b) wx (.slice A n k) (z1t st c))/\Hid (Below w0.heap.size w0 wx))
 case first=>
  by_cases e2:c.kind=2
  ·have g1:(c.kind==2)=true:=by simp [e2]
   have g2:decide (c.kind=2)=true:=decide_eq_true e2
   have HN:=zh (show z1t st c=zN st 4 c.other from by unfold z1t;rw [if_pos e2])
   clear e2
   go_upto_region 5 with fail
   have HSQ:=zh (show ∀W':World,Below w0.heap.size w0 W'->(fun W':World=>Below w0.heap.size w0 W'/\W'.cell? ⟨bv,0,none⟩=some (.int .i64 st.turn)/\W'.cell? ⟨bv,1,none⟩=some (.slice A1 st.users.length c1)/\W'.cell? ⟨bv,2,none⟩=some (.slice A2 st.deposits.length c2)/\W'.cell? ⟨bv,3,none⟩=some (.slice A3 st.folders.length c3)/\W'.cell? ⟨w.heap.size,4,none⟩=some (.string c.other)) W' from fun W' hW=>⟨hW,(hW.cell (p:=⟨bv,0,none⟩) (zF s0)).trans s0,(hW.cell (p:=⟨bv,1,none⟩) (zF s1)).trans s1,(hW.cell (p:=⟨bv,2,none⟩) (zF s2)).trans s2,(hW.cell (p:=⟨bv,3,none⟩) (zF s3)).trans s3,(hW.cell (p:=⟨w.heap.size,4,none⟩) (zF k4)).trans k4⟩)
   refine zE (by kernel_rfl) HSQ.out (fun hHeld=>?_)
   refine zT 0 _ rfl (by kernel_rfl) rfl (fun _ _ _ h=>h) hHeld (by intro W' h;go_simp;try with_reducible rfl) ?_
   simp only [zA]
   refine zT 1 _ rfl (by kernel_rfl) rfl (fun _ _ _ h=>h) hHeld (by intro W' h;go_simp;try with_reducible rfl) ?_
   simp only [zA]
   refine zT 2 _ rfl (by kernel_rfl) rfl (fun _ _ _ h=>h) hHeld (by intro W' h;go_simp;try with_reducible rfl) ?_
   simp only [zA]
   refine zT 3 _ rfl (by kernel_rfl) rfl (fun _ _ _ h=>h) hHeld (by intro W' h;go_simp;try with_reducible rfl) ?_
   simp only [zA]
   refine zT 4 _ rfl (by kernel_rfl) rfl (fun _ _ _ h=>h) hHeld (by intro W' h;go_simp;try with_reducible rfl) ?_
   simp only [zA]
   refine zT 5 _ rfl (by kernel_rfl) rfl (fun _ _ _ h=>h) hHeld (by intro W' h;go_simp;try with_reducible rfl) ?_
   simp only [zA]
   refine wpAnyH_ready (rs:=[6]) (by kernel_rfl) (by simp) ?_
   refine AllReadyH.cons rfl (fun K hK=>?_) AllReadyH.nil
   go_simp
   go_at_call 67
   refine Calls.mono (YT st c.other HO.out _ _ (fun _=>True) (HST.out _ ((Below.refl _ _).drew))) ?_
   rintro e3 w3 ⟨⟨v4,rfl,hs4⟩,b3⟩
   have Bw3:Below w0.heap.size w0 w3:=zB ((Below.refl _ _).drew) b3
   clear b3 hHeld
   refine hK.out _ _ (HSQ.out _ Bw3) (fun hHeld=>?_)
   clear hK K
   obtain ⟨A9,c9,rfl,hs5⟩:=id hs4
   have HS:=zh hs4
   clear hs4 hs5
   refine zT 7 _ rfl (by kernel_rfl) rfl (fun _ _ _ h=>h) hHeld (by intro W' h;go_simp;try with_reducible rfl) ?_
   simp only [zA]
   have HB3:=zh Bw3
   refine wpAnyH_done (by kernel_rfl) ?_ _
   clear hHeld HSQ
   clear Bw3
   go_wp2
   go_meet
   case rel=>exact ⟨_,_,_,rfl,zh (by rw [HN.out];exact HS.out.keep ZR (by decide) (Kept.refl' fun b hb=>by simp at hb;have:=HZ0.out;omega)),HB3⟩
  have g1:(c.kind==2)=false:=by simp [e2]
  have g2:decide (c.kind=2)=false:=decide_eq_false e2
  by_cases e3:c.kind=3
  rotate_left
  ·have g3:(c.kind==3)=false:=by simp [e3]
   have g4:decide (c.kind=3)=false:=decide_eq_false e3
   by_cases e8:c.kind=8
   rotate_left
   ·have g5:(c.kind==8)=false:=by simp [e8]
    have g6:decide (c.kind=8)=false:=decide_eq_false e8
    have HN:=zh (show z1t st c=[⟨c.folder,0⟩] from by unfold z1t;rw [if_neg e2,if_neg e3,if_neg e8])
    clear e2 e3 e8
    obtain ⟨wd,hwd,cwd,fwd,Bwd,_⟩:=zQ w0 #[.string c.folder,.int .i64 0] 124
    have HND:=zh (show wd.heap[w0.heap.size]? =some (.cells #[.string c.folder,.int .i64 0] 124 (0,0)) from by rw [<-hwd];exact zH _ rfl)
    have HBd:=zh Bwd
    clear cwd fwd Bwd
    go_wp2
    go_meet
    case rel=>exact ⟨_,_,_,rfl,zh (by rw [HN.out];exact zKw (x:=(⟨c.folder,0⟩:At)) HND.out (show w.heap.size<=w0.heap.size from by have:=HZ0.out;omega) rfl ⟨rfl,HF.out,(show I64 0 from ⟨by omega,by omega⟩)⟩),HBd⟩
   have g5:(c.kind==8)=true:=by simp [e8]
   have g6:decide (c.kind=8)=true:=decide_eq_true e8
   have HN:=zh (show z1t st c=zN st 4 c.folder from by unfold z1t;rw [if_neg e2,if_neg e3,if_pos e8])
   clear e2 e3 e8
   go_upto_region 9 with fail
   have HSQ:=zh (show ∀W':World,Below w0.heap.size w0 W'->(fun W':World=>Below w0.heap.size w0 W'/\W'.cell? ⟨bv,0,none⟩=some (.int .i64 st.turn)/\W'.cell? ⟨bv,1,none⟩=some (.slice A1 st.users.length c1)/\W'.cell? ⟨bv,2,none⟩=some (.slice A2 st.deposits.length c2)/\W'.cell? ⟨bv,3,none⟩=some (.slice A3 st.folders.length c3)/\W'.cell? ⟨w.heap.size,2,none⟩=some (.string c.folder)) W' from fun W' hW=>⟨hW,(hW.cell (p:=⟨bv,0,none⟩) (zF s0)).trans s0,(hW.cell (p:=⟨bv,1,none⟩) (zF s1)).trans s1,(hW.cell (p:=⟨bv,2,none⟩) (zF s2)).trans s2,(hW.cell (p:=⟨bv,3,none⟩) (zF s3)).trans s3,(hW.cell (p:=⟨w.heap.size,2,none⟩) (zF k2)).trans k2⟩)
   refine zE (by kernel_rfl) HSQ.out (fun hHeld=>?_)
   refine zT 0 _ rfl (by kernel_rfl) rfl (fun _ _ _ h=>h) hHeld (by intro W' h;go_simp;try with_reducible rfl) ?_
   simp only [zA]
   refine zT 1 _ rfl (by kernel_rfl) rfl (fun _ _ _ h=>h) hHeld (by intro W' h;go_simp;try with_reducible rfl) ?_
   simp only [zA]
   refine zT 2 _ rfl (by kernel_rfl) rfl (fun _ _ _ h=>h) hHeld (by intro W' h;go_simp;try with_reducible rfl) ?_
   simp only [zA]
   refine zT 3 _ rfl (by kernel_rfl) rfl (fun _ _ _ h=>h) hHeld (by intro W' h;go_simp;try with_reducible rfl) ?_
   simp only [zA]
   refine zT 4 _ rfl (by kernel_rfl) rfl (fun _ _ _ h=>h) hHeld (by intro W' h;go_simp;try with_reducible rfl) ?_
   simp only [zA]
   refine zT 5 _ rfl (by kernel_rfl) rfl (fun _ _ _ h=>h) hHeld (by intro W' h;go_simp;try with_reducible rfl) ?_
   simp only [zA]
   refine wpAnyH_ready (rs:=[6]) (by kernel_rfl) (by simp) ?_
   refine AllReadyH.cons rfl (fun K hK=>?_) AllReadyH.nil
   go_simp
   go_at_call 67
   refine Calls.mono (YT st c.folder HF.out _ _ (fun _=>True) (HST.out _ ((Below.refl _ _).drew))) ?_
   rintro e3 w3 ⟨⟨v4,rfl,hs4⟩,b3⟩
   have Bw3:Below w0.heap.size w0 w3:=zB ((Below.refl _ _).drew) b3
   clear b3 hHeld
   refine hK.out _ _ (HSQ.out _ Bw3) (fun hHeld=>?_)
   clear hK K
   obtain ⟨A9,c9,rfl,hs5⟩:=id hs4
   have HS:=zh hs4
   clear hs4 hs5
   refine zT 7 _ rfl (by kernel_rfl) rfl (fun _ _ _ h=>h) hHeld (by intro W' h;go_simp;try with_reducible rfl) ?_
   simp only [zA]
   have HB3:=zh Bw3
   refine wpAnyH_done (by kernel_rfl) ?_ _
   clear hHeld HSQ
   clear Bw3
   go_wp2
   go_meet
   case rel=>exact ⟨_,_,_,rfl,zh (by rw [HN.out];exact HS.out.keep ZR (by decide) (Kept.refl' fun b hb=>by have h1:w0.heap.size<=b:=hb;have:=HZ0.out;show w.heap.size<=b;omega)),HB3⟩
  have g3:(c.kind==3)=true:=by simp [e3]
  have g4:decide (c.kind=3)=true:=decide_eq_true e3
  have HN:=zh (show z1t st c=zN st 4 c.folder++zN st 4 c.other from by unfold z1t;rw [if_neg e2,if_pos e3])
  clear e2 e3
  go_upto_region 7 with fail
  have HSQ:=zh (show ∀W':World,Below w0.heap.size w0 W'->(fun W':World=>Below w0.heap.size w0 W'/\W'.cell? ⟨bv,0,none⟩=some (.int .i64 st.turn)/\W'.cell? ⟨bv,1,none⟩=some (.slice A1 st.users.length c1)/\W'.cell? ⟨bv,2,none⟩=some (.slice A2 st.deposits.length c2)/\W'.cell? ⟨bv,3,none⟩=some (.slice A3 st.folders.length c3)/\W'.cell? ⟨w.heap.size,2,none⟩=some (.string c.folder)/\W'.cell? ⟨w.heap.size,4,none⟩=some (.string c.other)) W' from fun W' hW=>⟨hW,(hW.cell (p:=⟨bv,0,none⟩) (zF s0)).trans s0,(hW.cell (p:=⟨bv,1,none⟩) (zF s1)).trans s1,(hW.cell (p:=⟨bv,2,none⟩) (zF s2)).trans s2,(hW.cell (p:=⟨bv,3,none⟩) (zF s3)).trans s3,(hW.cell (p:=⟨w.heap.size,2,none⟩) (zF k2)).trans k2,(hW.cell (p:=⟨w.heap.size,4,none⟩) (zF k4)).trans k4⟩)
  refine ZU (S:=fun W':World=>Below w0.heap.size w0 W'/\W'.cell? ⟨bv,0,none⟩=some (.int .i64 st.turn)/\W'.cell? ⟨bv,1,none⟩=some (.slice A1 st.users.length c1)/\W'.cell? ⟨bv,2,none⟩=some (.slice A2 st.deposits.length c2)/\W'.cell? ⟨bv,3,none⟩=some (.slice A3 st.folders.length c3)/\W'.cell? ⟨w.heap.size,2,none⟩=some (.string c.folder)/\W'.cell? ⟨w.heap.size,4,none⟩=some (.string c.other)) 15 [] (by kernel_rfl) (HSQ.out _ (Below.refl _ _).drew) (fun hHeld=>?_)
  refine zU 0 _ rfl (by kernel_rfl) rfl (fun _ _ _ h=>h) hHeld (by intro W' h;go_simp;try with_reducible rfl) ?_
  simp only [zA]
  refine zU 1 _ rfl (by kernel_rfl) rfl (fun _ _ _ h=>h) hHeld (by intro W' h;go_simp;try with_reducible rfl) ?_
  simp only [zA]
  refine zU 2 _ rfl (by kernel_rfl) rfl (fun _ _ _ h=>h) hHeld (by intro W' h;go_simp;try with_reducible rfl) ?_
  simp only [zA]
  refine zU 3 _ rfl (by kernel_rfl) rfl (fun _ _ _ h=>h) hHeld (by intro W' h;go_simp;try with_reducible rfl) ?_
  simp only [zA]
  refine zU 4 _ rfl (by kernel_rfl) rfl (fun _ _ _ h=>h) hHeld (by intro W' h;go_simp;try with_reducible rfl) ?_
  simp only [zA]
  refine zU 5 _ rfl (by kernel_rfl) rfl (fun _ _ _ h=>h) hHeld (by intro W' h;go_simp;try with_reducible rfl) ?_
  simp only [zA]
  refine zU 7 _ rfl (by kernel_rfl) rfl (fun _ _ _ h=>h) hHeld (by intro W' h;go_simp;try with_reducible rfl) ?_
  simp only [zA]
  refine zU 8 _ rfl (by kernel_rfl) rfl (fun _ _ _ h=>h) hHeld (by intro W' h;go_simp;try with_reducible rfl) ?_
  simp only [zA]
  refine zU 9 _ rfl (by kernel_rfl) rfl (fun _ _ _ h=>h) hHeld (by intro W' h;go_simp;try with_reducible rfl) ?_
  simp only [zA]
  refine zU 10 _ rfl (by kernel_rfl) rfl (fun _ _ _ h=>h) hHeld (by intro W' h;go_simp;try with_reducible rfl) ?_
  simp only [zA]
  refine zU 11 _ rfl (by kernel_rfl) rfl (fun _ _ _ h=>h) hHeld (by intro W' h;go_simp;try with_reducible rfl) ?_
  simp only [zA]
  refine zU 12 _ rfl (by kernel_rfl) rfl (fun _ _ _ h=>h) hHeld (by intro W' h;go_simp;try with_reducible rfl) ?_
  simp only [zA]
  refine ZH (i:=6) (by kernel_rfl) rfl (fun K hK=>?_)
  go_simp
  go_at_call 67
  refine Calls.mono (zJ7 st c.folder HF.out _ _ (fun _=>True) (HST.out _ ((Below.refl _ _).drew))) ?_
  rintro e3 w3 ⟨⟨_,rfl,hg3⟩,b3⟩
  have Bw3:Below w0.heap.size w0 w3:=zB ((Below.refl _ _).drew) b3
  have HSw3:=zh b3
  clear b3 hHeld
  refine hK.out _ _ (HSQ.out _ Bw3) (fun hHeld=>?_)
  clear hK K
  try simp only [zA]
  obtain ⟨A8,n8,c8,rfl,hn8⟩:=hg3.shape'
  subst hn8
  have HG3:=zh hg3
  clear hg3
  refine ZH (i:=13) (by kernel_rfl) rfl (fun K hK=>?_)
  go_simp
  go_at_call 67
  refine Calls.mono (YT st c.other HO.out _ _ (fun _=>True) (HST.out _ (Bw3))) ?_
  rintro e3 w4 ⟨⟨v4,rfl,hs4⟩,b3⟩
  have Bw4:Below w0.heap.size w0 w4:=zB (Bw3) b3
  have HSw4:=zh b3
  clear b3 hHeld
  refine hK.out _ _ (HSQ.out _ Bw4) (fun hHeld=>?_)
  clear hK K
  try simp only [zA]
  have HS:=zh hs4
  obtain ⟨A9,c9,rfl,hs5⟩:=id hs4
  have HG4:=zh (HG3.out.below ZR HSw4.out)
  have HBw4:=zh Bw4
  obtain ⟨_,_,_,hs6⟩:=hs5
  have HSA:=zh (show SlAt 2 rAt (z1e (fun _=>False) w4 (.slice A8 (zN st 4 c.folder).length c8)) w4 A9 (zN st 4 c.other) from hs6.keep ZR (by decide) fun b hb hl=>⟨⟨hl,fun h=>h,fun e=>by have:=(HG3.out.base_le b e).2;have hb':w3.heap.size<=b:=hb;omega⟩,rfl⟩)
  have HL4:=zh (show ((zN st 4 c.folder).length+(zN st 4 c.other).length)*24<=140737488355328 from by have h1:=YQ st 4 c.other;have h2:=YQ st 4 c.folder;omega)
  clear hs4 hs6
  refine ZH (i:=14) (by kernel_rfl) rfl (fun K hK=>?_)
  refine zJ8 w4 rfl (.tmp 34) (.tmp 41) 121 rfl 124 iAt _ 2 24 Tryz.underlying121 hiAt hzAt h1At h2At rfl (by decide) ZR w0.drew.heap.size (HBw4.out.size) (.slice A8 (zN st 4 c.folder).length c8) (zN st 4 c.folder) rfl HG4.out A9 (zN st 4 c.other).length c9 rfl (zN st 4 c.other) rfl HSA.out HL4.out (by decide) ?_
  intro v5 w5 g5 gg5 go5
  obtain ⟨_,_,_,rfl,hn5⟩:=g5.shape'
  subst hn5
  have HG5:=zh g5
  have HB5:=zh (Below.grown HBw4.out gg5 HBw4.out.size (fun b hb=>(HG4.out.base_le b hb).1))
  clear g5 gg5 go5
  clear hHeld
  refine hK.out _ _ (HSQ.out _ (HB5.out)) (fun hHeld=>?_)
  clear hK K
  try simp only [zA]
  refine zY (i:=15) (by kernel_rfl) rfl (fun K hK=>?_)
  go_simp
  refine hK.out _ _ ?_
  clear hK K
  try simp only [zA]
  refine yD (by kernel_rfl) ?_ _
  go_wp2
  go_meet
  case rel=>exact ⟨_,_,_,rfl,zh (by rw [HN.out,<-List.length_append];exact zAt ZR (HG5.out.sl ZR (S:=fun _=>True) (fun _ _ _=>trivial) (fun _ _=>trivial)) (fun _ _ e=>e) (fun b hb=>by have h1:w0.heap.size<=b:=(HG5.out.base_le b hb).1;have:=HZ0.out;show w.heap.size<=b;omega)),HB5⟩
 obtain ⟨A,n,k,rfl,HSL,HBc⟩:=hcut
 obtain ⟨_,_,e',_,l2,_,hsa⟩:=HSL.out
 simp only [Value.slice.injEq] at e'
 obtain ⟨rfl,rfl,rfl⟩:=e'
 have HSA:=zh hsa
 have HLN:=zh (zJa st c)
 unfold maxLen at l2
 clear hsa k0 k2 k4 s0 s1 s2 s3
 generalize hN:z1t st c=N at*
 have HN:=zh hN
 clear hN
 go_wp2
 obtain ⟨wk,rfl⟩:∃wk:World,wk=wc:=⟨_,rfl⟩
 go_loopw [6,54] (fun vo i wr=>∃(k:Nat) (L:List (Nm×Int)),k<=N.length/\i= .int .i64 k/\Hid (Grow 147 2 z8t (fun _=>False) wr wk.heap.size vo L)/\Hid (L=(N.take k).map (z8c st))/\Below wk.heap.size wk wr) (fun _ i _=>N.length - (RowKit.intOf i).toNat)
 case atStart=>exact ⟨0,[],by omega,by go_num,zh Grow.nil,zh (by simp),Below.refl _ _⟩
 obtain ⟨k,L,_,rfl,HG,HL,hbel⟩:=hrel
 obtain ⟨_,_,_,rfl,hn6⟩:=HG.out.shape'
 subst hn6
 have HLL:=zh (show L.length<=8 from by rw [HL.out,List.length_map,List.length_take];have:=HLN.out;omega)
 have hL9:L.length<=5000:=by have:=HLL.out;omega
 by_cases hlt:k < N.length
 rotate_left
 ·obtain rfl:k=N.length:=by omega
  go_wp2
  go_ret
  refine ⟨⟨_,rfl,?_⟩,zB HB0.out (zB HBc.out hbel)⟩
  rw [show z6i st c=L from by unfold z6i;rw [HN.out];rw [HL.out,List.take_length]]
  exact zAt z4h (HG.out.sl z4h (S:=fun _=>True) (fun _ _ _=>trivial) (fun _ _=>trivial)) (fun _ _ e=>e) (fun b hb=>Nat.le_trans (Nat.le_trans HB0.out.size HBc.out.size) (HG.out.base_le b hb).1)
 obtain ⟨x,_,_,x_k,x_d,_,rfl,_,_,_,_,x_R,x_name_le,_⟩:=z9v HSA.out hlt (zJ hbel)
 have HXK:=zh x_k
 have hk2:(k:Int) < (N.length:Int):=by omega
 obtain ⟨wx,_,cwx,fwx,Bwx,qwx⟩:=zQ wr #[.string x.name,.int .i64 x.seq] 124
 have y0:=cwx 0 _ rfl
 have HBx:=zh (zB (zB HBc.out hbel) Bwx)
 have HGx:=zh (HG.out.below z4h Bwx)
 have HBWX:=zh Bwx
 have HVx:=zh ((HBx.out.block _ (zM HV0.out)).trans HV0.out)
 obtain ⟨s0,s1,s2,s3⟩:=zC4 (zD HVx.out).1
 have HNM:=zh x_name_le
 clear x_k x_d x_R cwx fwx Bwx
 go_upto_region 14 with fail
 go_cut [9,10] from 58 to 67 (fun s9 s10 wy=>∃b,s9= .pointer (some ⟨b,0,none⟩)/\wy.cell? ⟨b,1,none⟩=some (.int .i64 ((zP st x.name).getD ZF).turn)/\Hid (I64 ((zP st x.name).getD ZF).turn)/\Hid (Below wx.heap.size wx wy))
 case first=>
  have HSQ:=zh (show ∀W':World,Below wx.heap.size wx W'->(fun W':World=>Below wx.heap.size wx W'/\W'.cell? ⟨bv,0,none⟩=some (.int .i64 st.turn)/\W'.cell? ⟨bv,1,none⟩=some (.slice A1 st.users.length c1)/\W'.cell? ⟨bv,2,none⟩=some (.slice A2 st.deposits.length c2)/\W'.cell? ⟨bv,3,none⟩=some (.slice A3 st.folders.length c3)/\W'.cell? ⟨wr.heap.size,0,none⟩=some (.string x.name)) W' from fun W' hW=>⟨hW,(hW.cell (p:=⟨bv,0,none⟩) (zF s0)).trans s0,(hW.cell (p:=⟨bv,1,none⟩) (zF s1)).trans s1,(hW.cell (p:=⟨bv,2,none⟩) (zF s2)).trans s2,(hW.cell (p:=⟨bv,3,none⟩) (zF s3)).trans s3,(hW.cell (p:=⟨wr.heap.size,0,none⟩) (zF y0)).trans y0⟩)
  refine ZU (S:=fun W':World=>Below wx.heap.size wx W'/\W'.cell? ⟨bv,0,none⟩=some (.int .i64 st.turn)/\W'.cell? ⟨bv,1,none⟩=some (.slice A1 st.users.length c1)/\W'.cell? ⟨bv,2,none⟩=some (.slice A2 st.deposits.length c2)/\W'.cell? ⟨bv,3,none⟩=some (.slice A3 st.folders.length c3)/\W'.cell? ⟨wr.heap.size,0,none⟩=some (.string x.name)) 12 [] (by kernel_rfl) (HSQ.out _ (Below.refl _ _).drew) (fun hHeld=>?_)
  refine zU 0 _ rfl (by kernel_rfl) rfl (fun _ _ _ h=>h) hHeld (by intro W' h;go_simp;try with_reducible rfl) ?_
  simp only [zA]
  refine zU 1 _ rfl (by kernel_rfl) rfl (fun _ _ _ h=>h) hHeld (by intro W' h;go_simp;try with_reducible rfl) ?_
  simp only [zA]
  refine zU 2 _ rfl (by kernel_rfl) rfl (fun _ _ _ h=>h) hHeld (by intro W' h;go_simp;try with_reducible rfl) ?_
  simp only [zA]
  refine zU 3 _ rfl (by kernel_rfl) rfl (fun _ _ _ h=>h) hHeld (by intro W' h;go_simp;try with_reducible rfl) ?_
  simp only [zA]
  refine zU 4 _ rfl (by kernel_rfl) rfl (fun _ _ _ h=>h) hHeld (by intro W' h;go_simp;try with_reducible rfl) ?_
  simp only [zA]
  refine zU 5 _ rfl (by kernel_rfl) rfl (fun _ _ _ h=>h) hHeld (by intro W' h;go_simp;try with_reducible rfl) ?_
  simp only [zA]
  refine zJ9 (i:=6) (j:=10) (by kernel_rfl) rfl rfl (fun K hK=>?_) (fun K hK=>?_)
  ·go_simp
   go_at_call 68
   refine Calls.mono (z2s st x.name [.int .i64 st.turn,.slice A1 st.users.length c1,.slice A2 st.deposits.length c2,.slice A3 st.folders.length c3] _ (fun _=>True) (HST.out _ (zB HBx.out ((Below.refl _ _).drew)))) ?_
   rintro e3 w3 ⟨⟨cf,rfl,hcf⟩,b3⟩
   have Bw3:Below wx.heap.size wx w3:=zB ((Below.refl _ _).drew) b3
   have HSw3:=zh b3
   clear b3 hHeld
   refine hK.out _ _ (HSQ.out _ Bw3) (fun hHeld=>?_)
   clear hK K
   try simp only [zA]
   obtain ⟨f_A2,f_c2,f_A3,f_c3,f_A4,f_c4,f_A5,f_c5,f_A6,f_c6,rfl,f_nm,f_tn,_⟩:=ZB hcf
   clear hcf
   refine zU 7 _ rfl (by kernel_rfl) rfl (fun _ _ _ h=>h) hHeld (by intro W' h;go_simp;try with_reducible rfl) ?_
   simp only [zA]
   refine zU 8 _ rfl (by kernel_rfl) rfl (fun _ _ _ h=>h) hHeld (by intro W' h;go_simp;try with_reducible rfl) ?_
   simp only [zA]
   refine zU 9 _ rfl (by kernel_rfl) rfl (fun _ _ _ h=>h) hHeld (by intro W' h;go_simp;try with_reducible rfl) ?_
   simp only [zA]
   refine ZH (i:=10) (by kernel_rfl) rfl (fun K hK=>?_)
   go_simp
   generalize hw4:World.alloc _ _=w4
   have Bw4:=(show Below wx.heap.size wx w4 from by rw [<-hw4];exact Below.alloc (Bw3) (Bw3).size _)
   clear hHeld
   refine hK.out _ _ (HSQ.out _ Bw4) (fun hHeld=>?_)
   clear hK K
   try simp only [zA]
   have HZ4:=zh (show w4.heap[w3.heap.size]? =some (.cells #[.string ⟨#[]⟩,.int .i64 0,.slice none 0 0,.slice none 0 0,.slice none 0 0,.slice none 0 0,.slice none 0 0] 74 (0,0)) from by rw [<-hw4];exact zH _ rfl)
   have HLB:=zh (show wx.heap.size<=w3.heap.size from Bw3.size)
   obtain ⟨z0,z1,z2,z3,z4,z5,z6⟩:=zC7 (zD HZ4.out).1
   have zz:=(zD HZ4.out).2
   clear hw4
   refine ZH (i:=11) (by kernel_rfl) rfl (fun K hK=>?_)
   go_simp
   clear hHeld
   refine hK.out _ _ (HSQ.out _ (ButB.below Bw4 (Bw4).size (fun z hz=>by have e:z=w3.heap.size:=hz;have:=HLB.out;omega) (zZ HZ4.out (.string ((zP st x.name).getD ZF).name) (.int .i64 ((zP st x.name).getD ZF).turn) (.slice f_A2 ((zP st x.name).getD ZF).manifests.length f_c2) (.slice f_A3 ((zP st x.name).getD ZF).epochs.length f_c3) (.slice f_A4 ((zP st x.name).getD ZF).items.length f_c4) (.slice f_A5 ((zP st x.name).getD ZF).wraps.length f_c5) (.slice f_A6 ((zP st x.name).getD ZF).links.length f_c6)).2)) (fun hHeld=>?_)
   clear hK K
   try simp only [zA]
   refine zY (i:=12) (by kernel_rfl) rfl (fun K hK=>?_)
   go_simp
   refine hK.out _ _ ?_
   clear hK K
   try simp only [zA]
   refine yD (by kernel_rfl) ?_ _
   obtain ⟨F1,F2⟩:=zZ HZ4.out (.string ((zP st x.name).getD ZF).name) (.int .i64 ((zP st x.name).getD ZF).turn) (.slice f_A2 ((zP st x.name).getD ZF).manifests.length f_c2) (.slice f_A3 ((zP st x.name).getD ZF).epochs.length f_c3) (.slice f_A4 ((zP st x.name).getD ZF).items.length f_c4) (.slice f_A5 ((zP st x.name).getD ZF).wraps.length f_c5) (.slice f_A6 ((zP st x.name).getD ZF).links.length f_c6)
   have HFB:=zh (ButB.below Bw4 (Bw4).size (fun z hz=>by have e:z=w3.heap.size:=hz;have:=HLB.out;omega) F2)
   have HFC:=zh ((zD F1).1 1 _ rfl)
   have HFT:=zh f_tn
   clear F1 F2
   go_wp2
   go_meet
   exact ⟨_,rfl,HFC.out,HFT,HFB⟩
  go_simp
  generalize hw4:World.drew (World.alloc _ _)=w4
  have Bw4:=(show Below wx.heap.size wx w4 from by rw [<-hw4];exact (Below.alloc (Below.refl _ _) (Nat.le_refl _) _).drew)
  clear hHeld
  refine hK.out _ _ (HSQ.out _ Bw4) (fun hHeld=>?_)
  clear hK K
  try simp only [zA]
  have HZ4':=zh (show w4.heap[wx.heap.size]? =some (.cells #[.string ⟨#[]⟩,.int .i64 0,.slice none 0 0,.slice none 0 0,.slice none 0 0,.slice none 0 0,.slice none 0 0] 74 (0,0)) from by rw [<-hw4];exact ZG (zH _ rfl))
  have HLB:=zh (Nat.le_refl wx.heap.size)
  clear hw4
  refine ZH (i:=6) (by kernel_rfl) rfl (fun K hK=>?_)
  go_simp
  go_at_call 68
  refine Calls.mono (z2s st x.name [.int .i64 st.turn,.slice A1 st.users.length c1,.slice A2 st.deposits.length c2,.slice A3 st.folders.length c3] _ (fun _=>True) (HST.out _ (zB HBx.out (Bw4)))) ?_
  rintro e3 w3 ⟨⟨cf,rfl,hcf⟩,b3⟩
  have Bw3:Below wx.heap.size wx w3:=zB (Bw4) b3
  have HSw3:=zh b3
  clear b3 hHeld
  refine hK.out _ _ (HSQ.out _ Bw3) (fun hHeld=>?_)
  clear hK K
  try simp only [zA]
  obtain ⟨f_A2,f_c2,f_A3,f_c3,f_A4,f_c4,f_A5,f_c5,f_A6,f_c6,rfl,f_nm,f_tn,_⟩:=ZB hcf
  clear hcf
  have HZ4:=zh ((HSw3.out.block _ (zM HZ4'.out)).trans HZ4'.out)
  obtain ⟨z0,z1,z2,z3,z4,z5,z6⟩:=zC7 (zD HZ4.out).1
  have zz:=(zD HZ4.out).2
  refine zU 7 _ rfl (by kernel_rfl) rfl (fun _ _ _ h=>h) hHeld (by intro W' h;go_simp;try with_reducible rfl) ?_
  simp only [zA]
  refine zU 8 _ rfl (by kernel_rfl) rfl (fun _ _ _ h=>h) hHeld (by intro W' h;go_simp;try with_reducible rfl) ?_
  simp only [zA]
  refine zU 9 _ rfl (by kernel_rfl) rfl (fun _ _ _ h=>h) hHeld (by intro W' h;go_simp;try with_reducible rfl) ?_
  simp only [zA]
  refine ZH (i:=11) (by kernel_rfl) rfl (fun K hK=>?_)
  go_simp
  clear hHeld
  refine hK.out _ _ (HSQ.out _ (ButB.below Bw3 (Bw3).size (fun z hz=>by have e:z=wx.heap.size:=hz;have:=HLB.out;omega) (zZ HZ4.out (.string ((zP st x.name).getD ZF).name) (.int .i64 ((zP st x.name).getD ZF).turn) (.slice f_A2 ((zP st x.name).getD ZF).manifests.length f_c2) (.slice f_A3 ((zP st x.name).getD ZF).epochs.length f_c3) (.slice f_A4 ((zP st x.name).getD ZF).items.length f_c4) (.slice f_A5 ((zP st x.name).getD ZF).wraps.length f_c5) (.slice f_A6 ((zP st x.name).getD ZF).links.length f_c6)).2)) (fun hHeld=>?_)
  clear hK K
  try simp only [zA]
  refine zY (i:=12) (by kernel_rfl) rfl (fun K hK=>?_)
  go_simp
  refine hK.out _ _ ?_
  clear hK K
  try simp only [zA]
  refine yD (by kernel_rfl) ?_ _
  obtain ⟨F1,F2⟩:=zZ HZ4.out (.string ((zP st x.name).getD ZF).name) (.int .i64 ((zP st x.name).getD ZF).turn) (.slice f_A2 ((zP st x.name).getD ZF).manifests.length f_c2) (.slice f_A3 ((zP st x.name).getD ZF).epochs.length f_c3) (.slice f_A4 ((zP st x.name).getD ZF).items.length f_c4) (.slice f_A5 ((zP st x.name).getD ZF).wraps.length f_c5) (.slice f_A6 ((zP st x.name).getD ZF).links.length f_c6)
  have HFB:=zh (ButB.below Bw3 (Bw3).size (fun z hz=>by have e:z=wx.heap.size:=hz;have:=HLB.out;omega) F2)
  have HFC:=zh ((zD F1).1 1 _ rfl)
  have HFT:=zh f_tn
  clear F1 F2
  go_wp2
  go_meet
  exact ⟨_,rfl,HFC.out,HFT,HFB⟩
 obtain ⟨b,rfl,_,HTI,HBy⟩:=hcut
 have y0':=(HBy.out.cell (p:=⟨wr.heap.size,0,none⟩) qwx).trans y0
 have HBt:=zh (zB HBWX.out HBy.out)
 have HGy:=zh (HG.out.below z4h HBt.out)
 have hzy:wk.heap.size<=wc.heap.size:=Nat.le_trans hbel.size (Nat.le_trans HBWX.out.size HBy.out.size)
 have EH:=zh (show L++[z8c st x]=(N.take (k+1)).map (z8c st) from by rw [List.take_add_one,HXK.out,HL.out];simp)
 clear s0 s1 s2 s3 y0
 go_wp2_with (at_builtin;go_loud (refine z15 (R:=z8t) _ _ rfl (.tmp 68) (.tmp 74) 114 rfl 147 ilk _ 2 24 Tryz.underlying114 hilk hzlk h1lk h2lk rfl (by decide) z4h wk.heap.size hzy _ _ rfl HGy.out _ _ rfl (by simp only [zS]) _ (by intro b hb;exact hb.elim) (show z8t _ _ _ (z8c st x) from ⟨rfl,HNM.out,HTI.out⟩) (by omega) (by decide) ?_);intro v8 w8 g8 gg8 go8;obtain ⟨A8,n8,c8,rfl,hn8⟩:=g8.shape';have G8:=zh g8;have GG8:=zh gg8;clear hn8 g8 gg8 go8)
 go_roundw
 case rel=>exact ⟨k+1,_,by omega,by go_num,G8,EH,Below.grown (zB hbel HBt.out) GG8.out hzy fun b hb=>(HGy.out.base_le b hb).1⟩
 case measure=>simp [RowKit.intOf];omega
end
end
end Go.Proofs.YtdggplhnfhcieaaGreatDoor
