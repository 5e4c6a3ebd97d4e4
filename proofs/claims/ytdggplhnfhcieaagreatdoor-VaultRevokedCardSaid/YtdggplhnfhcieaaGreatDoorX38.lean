/- No condition. -/
import Derived.Test.YtdggplhnfhcieaaGreatDoorX37
set_option linter.all false
set_option maxRecDepth 100000
set_option maxHeartbeats 16000000
namespace Go.Proofs.YtdggplhnfhcieaaGreatDoor
open Go.RowKit Go.Deep
section
section
variable {P:Nat->Prop} {bv base bw:Nat} {w w':World} {R:RM} {st st':State} {q r:Int} {c:Call} {dv:Value} {done late:Bool}
def zAs (st st':State) (q r:Int) (k:Int) (done:Bool) (a:Answer):State×Answer:=
 if done then (if k≠15/\k≠16/\Bd.fitsOf st' q r≠0 then (st,ZF (Bd.fitsOf st' q r)) else (st',a)) else (st,a)
theorem zRk (st:State) (q r:Int):I64 (Bd.fitsOf st q r):=by
 unfold Bd.fitsOf;repeat' split
 all_goals exact ⟨by omega,by omega⟩
theorem zGw {Y Z:Nat->Prop} {w1 w2:World} (h:ButB Y w w1) (k:ButB Z w1 w2) (hZ:∀b,Z b->w.heap.size<=b):ButB Y w w2:=
 ⟨k.os.trans h.os,k.tape.trans h.tape,k.output.trans h.output,qNtx h.size k.size,fun b hb hn=>(k.block b (zll hb h.size) fun e=>by have:=hZ b e;omega).trans (h.block b hb hn)⟩
theorem zLc {cs:List Value} {A:Answer} (hp:P bv) (ha:YY (Imm P bw R w) w cs A) (hb:ButB (fun b=>b=bv) w w'):YY (fun b=>¬P b) w' cs A:=
 z2g ha fun b ⟨h1,_,_,h4⟩ _=>⟨h4,hb.block b h1 fun e=>h4 (by rw [show b=bv from e];exact hp)⟩
theorem zUb (hp:P bv) (hW:WK P base bw w R c dv st' done late) (hb:ButB (fun b=>b=bv) w w') (hbox:w'.heap[bv]? =some (.cells #[.int .i64 st'.turn,(R .us).v,(R .de).v,(R .fo).v,.int .i64 q,.int .i64 r,.bool true] 95 (0,0))):VS P bv w' st' q r:=
 ⟨⟨_,_,_,hbox,Z0 (hW.is.stateS hW.os) fun b hr hl=>by
  have hne:¬P b:=hr.elim (fun e h=>hW.nx b (.inl e) h) fun e=>e.2.2.2
  exact ⟨hne,hb.block b hl fun e=>hne (by rw [show b=bv from e];exact hp)⟩⟩,hp,fun b h=>zll (hW.xl b h) hb.size⟩
theorem zRl {w1:World} {T:TypeId} {x0 x1 x2 x3 x4 x5 x6:Value} (h:w1.heap[bv]? =some (.cells #[x0,x1,x2,x3,x4,x5,x6] T (0,0))) (hB:Below w.heap.size w w1) (v0 v1 v2 v3:Value):
  ((((w1.setCell ⟨bv,0,none⟩ v0).setCell ⟨bv,1,none⟩ v1).setCell ⟨bv,2,none⟩ v2).setCell ⟨bv,3,none⟩ v3).heap[bv]? =some (.cells #[v0,v1,v2,v3,x4,x5,x6] T (0,0))/\(∀b,b≠bv->((((w1.setCell ⟨bv,0,none⟩ v0).setCell ⟨bv,1,none⟩ v1).setCell ⟨bv,2,none⟩ v2).setCell ⟨bv,3,none⟩ v3).heap[b]? =w1.heap[b]?)/\
  ButB (fun b=>b=bv) w ((((w1.setCell ⟨bv,0,none⟩ v0).setCell ⟨bv,1,none⟩ v1).setCell ⟨bv,2,none⟩ v2).setCell ⟨bv,3,none⟩ v3):=by
 have h0:=zI (i:=0) (cs':=#[v0,x1,x2,x3,x4,x5,x6]) v0 h rfl;have h1:=zI (i:=1) (cs':=#[v0,v1,x2,x3,x4,x5,x6]) v1 h0 rfl;have h2:=zI (i:=2) (cs':=#[v0,v1,v2,x3,x4,x5,x6]) v2 h1 rfl;have h3:=zI (i:=3) (cs':=#[v0,v1,v2,v3,x4,x5,x6]) v3 h2 rfl;refine ⟨h3,fun b hb=>by rw [Below.heap_setCell _ _ _ _ hb,Below.heap_setCell _ _ _ _ hb,Below.heap_setCell _ _ _ _ hb,Below.heap_setCell _ _ _ _ hb],?_⟩;have hb:ButB (fun b=>b=bv) w w1:=ButB.of hB;exact (((hb.set ⟨bv,0,none⟩ v0 rfl).set ⟨bv,1,none⟩ v1 rfl).set ⟨bv,2,none⟩ v2 rfl).set ⟨bv,3,none⟩ v3 rfl
theorem zRm (hW:WK P base bw w R c dv st' done late) (h:VS P bv w st q r) {cs:Array Value} {a:Answer} (ha:YY (Imm P bw R w) w cs.toList a) (hf:Bd.smallOf st'<=1000000/\Bd.largeOf st'<=1000000):
  Calls Tryz.prog 35 #[.pointer (some ⟨bv,0,none⟩),.pointer (some ⟨bw,0,none⟩),.agg cs] w fun e w'=>∃cs',e= .returned (.agg cs')/\VS P bv w' (zAs st st' q r c.kind done a).1 q r/\YY (fun b=>¬P b) w' cs'.toList (zAs st st' q r c.kind done a).2/\ButB (fun b=>b=bv) w w':=by
 obtain ⟨u1,u2,u3,h1,h2⟩:=h.box;have hlt:=h.lt;obtain ⟨A1,c1,A2,c2,A3,c3,e3,_⟩:=ZP h2;simp only [List.cons.injEq,true_and,and_true] at e3;obtain ⟨rfl,rfl,rfl⟩:=e3;obtain ⟨A3',c3',A4',c4',A5',c5',A6',c6',rfl⟩:=yG ha;obtain ⟨E1,n1,p1,he1⟩:=(hW.os.row .us).shape3;obtain ⟨E2,n2,p2,he2⟩:=(hW.os.row .de).shape3;obtain ⟨E3,n3,p3,he3⟩:=(hW.os.row .fo).shape3;obtain ⟨w0,hw0,cw0,fw0,Bw0,qw0⟩:=zQ w #[.int .i64 a.err,.int .i64 a.number,.string a.who,.slice A3' a.data.length c3',.slice A4' a.names.length c4',.slice A5' a.members.length c5',.slice A6' a.history.length c6'] 49;have hz0:w0.heap.size=w.heap.size+1:=by rw [<-hw0,World.size_alloc]
 obtain ⟨w1,hw1,cw1,fw1,Bw1,qw1⟩:=zQ w0 zV 49;have HB1:=zh (zB Bw0 Bw1);have HN1:=zh (show w1.heap[w.heap.size]? =some (.cells #[.int .i64 a.err,.int .i64 a.number,.string a.who,.slice A3' a.data.length c3',.slice A4' a.names.length c4',.slice A5' a.members.length c5',.slice A6' a.history.length c6'] 49 (0,0)) from (Bw1.block _ qw0).trans (by rw [<-hw0];exact zJ _ rfl));have HR1:=zh (show w1.heap[w.heap.size+1]? =some (.cells zV 49 (0,0)) from by rw [<-hz0,<-hw1];exact zJ _ rfl);have HV1:=zh ((HB1.out.block bv hlt).trans h1);have HWH:=zh hW;have HW1:=zh (hW.below HB1.out);have HVS:=zh h;have HA:=zh ha;have HLT:=zh hlt;have HF1:=zh hf.1;have HF2:=zh hf.2;have HE:=zh (show (R .us).v= .slice E1 n1 p1/\(R .de).v= .slice E2 n2 p2/\(R .fo).v= .slice E3 n3 p3 from ⟨he1,he2,he3⟩);have HST:=zh (show ∀w',Below w1.heap.size w1 w'->yB (fun _=>True) w' [.int .i64 st'.turn,.slice E1 n1 p1,.slice E2 n2 p2,.slice E3 n3 p3] st' from fun w' hb=>by rw [<-he1,<-he2,<-he3];exact (HW1.out.below hb).state);have t0:=HW1.out.cells.1 0 _ rfl;have t8:=HW1.out.cells.1 8 _ rfl;have t9:w1.cell? ⟨bw,9,none⟩=some (.slice E1 n1 p1):=by rw [<-he1];exact HW1.out.cells.1 9 _ rfl
 have t10:w1.cell? ⟨bw,10,none⟩=some (.slice E2 n2 p2):=by rw [<-he2];exact HW1.out.cells.1 10 _ rfl
 have t11:w1.cell? ⟨bw,11,none⟩=some (.slice E3 n3 p3):=by rw [<-he3];exact HW1.out.cells.1 11 _ rfl
 have t12:=HW1.out.cells.1 12 _ rfl;clear h hW ha hf h1 h2 hlt he1 he2 he3 cw0 fw0 Bw0 cw1 fw1 Bw1 qw1;unfold zV at hw1;go_enter Tryz.func35,Tryz.ntmps35
 cases done with
 | false=>
  obtain ⟨a0,a1,a2,a3,a4,a5,a6⟩:=zC7 (zD HN1.out).1;have K:=HR1.out;unfold zV at K;obtain ⟨y0,y1,y2,y3,y4,y5,y6⟩:=zC7 (zD K).1;have yz:=(zD K).2;clear K;go_wp2;try simp only [Exit.inBlock,Exit.then]
  obtain ⟨F1,F2⟩:=Z6 HR1.out (.int .i64 a.err) (.int .i64 a.number) (.string a.who) (.slice A3' a.data.length c3') (.slice A4' a.names.length c4') (.slice A5' a.members.length c5') (.slice A6' a.history.length c6');refine bodyPost_ret (results_cell_row rfl _ _ (w.heap.size+1) 49 _ (0,0) _ rfl F1 Tryz.underlying49 rfl (by kernel_rfl)) rfl ?_;have hB:=ButB.below HB1.out HB1.out.size (fun z hz=>by have:z=w.heap.size+1:=hz;omega) F2
  exact ⟨_,rfl,HVS.out.below hB,zLc HVS.out.pb HA.out (ButB.of hB),ButB.of hB⟩
 | true=>
  go_upto_region 3 with fail
  go_cut [27] from 14 to 27 (fun s27 wx=>(∃b:Bool,s27= .bool b/\Hid (b=true↔(c.kind≠15/\c.kind≠16)))/\wx=w1)
  case first=>
    by_cases h15:c.kind=15
    ·have g1:(c.kind !=15)=false:=by simp [h15]
     have g2:decide (c.kind=15)=true:=decide_eq_true h15;have H15:=zh h15;clear h15;go_wp2;go_meet
     case rel=>exact ⟨⟨_,rfl,zh (by have:=H15.out;simp [this])⟩,rfl⟩
    ·have g1:(c.kind !=15)=true:=by simp [h15]
     have g2:decide (c.kind=15)=false:=decide_eq_false h15;have H15:=zh h15;clear h15;go_wp2;go_meet
     case rel=>exact ⟨⟨_,rfl,zh (by have:=H15.out;simp [this])⟩,rfl⟩
  obtain ⟨⟨bk,rfl,hbk⟩,rfl⟩:=hcut;rename_i KK hKK;refine hKK _ _ ?_;clear hKK KK;go_cut [7] from 28 to 44 (fun s7 wx=>Hid (Below wc.heap.size wc wx)/\Hid (¬(c.kind≠15/\c.kind≠16/\Bd.fitsOf st' q r≠0)))
  case first=>
   cases bk with
   | false=>
    have HNO:=zh (show ¬(c.kind≠15/\c.kind≠16/\Bd.fitsOf st' q r≠0) from fun e=>by have:=hbk.out.2 ⟨e.1,e.2.1⟩;cases this);go_wp2;go_meet
    case rel=>exact ⟨zh zbr,HNO⟩
   | true=>
    have v4:=(zD HV1.out).1 4 _ rfl;have v5:=(zD HV1.out).1 5 _ rfl;go_upto_region 4 with fail
    have HSQ:=zh (show ∀W':World,Below wc.heap.size wc W'->(fun W':World=>Below wc.heap.size wc W'/\W'.cell? ⟨bw,8,none⟩=some (.int .i64 st'.turn)/\W'.cell? ⟨bw,9,none⟩=some (.slice E1 n1 p1)/\W'.cell? ⟨bw,10,none⟩=some (.slice E2 n2 p2)/\W'.cell? ⟨bw,11,none⟩=some (.slice E3 n3 p3)/\W'.cell? ⟨bv,4,none⟩=some (.int .i64 q)/\W'.cell? ⟨bv,5,none⟩=some (.int .i64 r)) W' from fun W' hW=>⟨hW,(hW.cell (p:=⟨bw,8,none⟩) (zF t8)).trans t8,(hW.cell (p:=⟨bw,9,none⟩) (zF t9)).trans t9,(hW.cell (p:=⟨bw,10,none⟩) (zF t10)).trans t10,(hW.cell (p:=⟨bw,11,none⟩) (zF t11)).trans t11,(hW.cell (p:=⟨bv,4,none⟩) (zF v4)).trans v4,(hW.cell (p:=⟨bv,5,none⟩) (zF v5)).trans v5⟩);refine zE (by kernel_rfl) HSQ.out (fun hHeld=>?_);refine zi 0 ?_;iterate 12 (refine zt hHeld ?_;simp only [zA])
    refine zo ?_;refine zr 12 fun K hK=>?_
    go_simp;go_at_call 56
    refine zcm (Bd.fits_any st' q r HF1.out HF2.out _ _ (fun _=>True) (HST.out _ (zbr.drew))) ?_;rintro e3 w3 ⟨rfl,b3⟩;have Bw3:Below wc.heap.size wc w3:=zB (zbr.drew) b3;clear b3 hHeld;refine hK.out _ _ (HSQ.out _ Bw3) (fun hHeld=>?_);clear hK K;refine zT 13 hHeld ?_;simp only [zA];refine wpAnyH_done (by kernel_rfl) ?_ _;clear hHeld HSQ;have HB3:=zh Bw3;clear Bw3;by_cases hfit:Bd.fitsOf st' q r=0
    ·have HNO:=zh (show ¬(c.kind≠15/\c.kind≠16/\Bd.fitsOf st' q r≠0) from fun e=>e.2.2 hfit);rw [hfit];clear hfit;go_wp2;go_meet
     case rel=>exact ⟨HB3,HNO⟩
    have hg1:(Bd.fitsOf st' q r !=0)=true:=by simp [hfit]
    have hg2:decide (Bd.fitsOf st' q r=0)=false:=decide_eq_false hfit;have HES:=zh (show zAs st st' q r c.kind true a=(st,ZF (Bd.fitsOf st' q r)) from by
     unfold zAs;rw [if_pos rfl,if_pos ⟨(hbk.out.1 rfl).1,(hbk.out.1 rfl).2,hfit⟩])
    clear hfit;go_wp2_with fail
    refine zcm (ZK (Bd.fitsOf st' q r) w3) ?_;rintro e5 w5 ⟨rfl,B5⟩;have HB5:=zh (zB HB3.out B5);have HBB:=zh (zB HB1.out HB5.out);have HR5:=zh ((HB5.out.block _ (zO HR1.out)).trans HR1.out);clear B5;have K:=HR5.out;unfold zV at K;obtain ⟨y0,y1,y2,y3,y4,y5,y6⟩:=zC7 (zD K).1;have yz:=(zD K).2;clear K;unfold yD;go_wp2;try simp only [Exit.inBlock,Exit.then]
    obtain ⟨F1,F2⟩:=Z6 HR5.out (.int .i64 (Bd.fitsOf st' q r)) (.int .i64 0) (.string ⟨#[]⟩) (.slice none 0 0) (.slice none 0 0) (.slice none 0 0) (.slice none 0 0);refine bodyPost_ret (results_cell_row rfl _ _ (w.heap.size+1) 49 _ (0,0) _ rfl F1 Tryz.underlying49 rfl (by kernel_rfl)) rfl ?_;have hB:=ButB.below HBB.out HBB.out.size (fun z hz=>by have:z=w.heap.size+1:=hz;omega) F2;rw [HES.out];exact ⟨_,rfl,HVS.out.below hB,y8 (zRk st' q r),ButB.of hB⟩
  obtain ⟨HBc,HNO⟩:=hcut;rename_i w2;have HBB:=zh (zB HB1.out HBc.out);have HES:=zh (show zAs st st' q r c.kind true a=(st',a) from by
   unfold zAs;rw [if_pos rfl,if_neg HNO.out])
  have HNc:=zh ((HBc.out.block _ (zO HN1.out)).trans HN1.out);have HRc:=zh ((HBc.out.block _ (zO HR1.out)).trans HR1.out);have HVc:=zh ((HBc.out.block _ (zO HV1.out)).trans HV1.out);replace t8:=(HBc.out.cell (p:=⟨bw,8,none⟩) HW1.out.lt).trans t8;replace t9:=(HBc.out.cell (p:=⟨bw,9,none⟩) HW1.out.lt).trans t9;replace t10:=(HBc.out.cell (p:=⟨bw,10,none⟩) HW1.out.lt).trans t10;replace t11:=(HBc.out.cell (p:=⟨bw,11,none⟩) HW1.out.lt).trans t11;obtain ⟨s0,s1,s2,s3⟩:=zC4 (zD HVc.out).1;have sz:=(zD HVc.out).2;clear t0 t12;go_upto_region 8 with fail
  have hq:=zRl HVc.out HBB.out (.int .i64 st'.turn) (.slice E1 n1 p1) (.slice E2 n2 p2) (.slice E3 n3 p3);generalize hwv:(((wc.setCell ⟨bv,0,none⟩ (.int .i64 st'.turn)).setCell ⟨bv,1,none⟩ (.slice E1 n1 p1)).setCell ⟨bv,2,none⟩ (.slice E2 n2 p2)).setCell ⟨bv,3,none⟩ (.slice E3 n3 p3)=wv at hq⊢;obtain ⟨q1,q2,q3⟩:=hq;have HXv:=zh q1;have HBv:=zh q3;have HNv:=zh ((q2 w.heap.size (by have:=HLT.out;omega)).trans HNc.out);have HRv:=zh ((q2 (w.heap.size+1) (by have:=HLT.out;omega)).trans HRc.out);clear q1 q2 q3;clear hwv s0 s1 s2 s3 sz t8 t9 t10 t11;obtain ⟨a0,a1,a2,a3,a4,a5,a6⟩:=zC7 (zD HNv.out).1;have K:=HRv.out;unfold zV at K;obtain ⟨y0,y1,y2,y3,y4,y5,y6⟩:=zC7 (zD K).1;have yz:=(zD K).2;clear K;go_wp2;try simp only [Exit.inBlock,Exit.then]
  obtain ⟨F1,F2⟩:=Z6 HRv.out (.int .i64 a.err) (.int .i64 a.number) (.string a.who) (.slice A3' a.data.length c3') (.slice A4' a.names.length c4') (.slice A5' a.members.length c5') (.slice A6' a.history.length c6');refine bodyPost_ret (results_cell_row rfl _ _ (w.heap.size+1) 49 _ (0,0) _ rfl F1 Tryz.underlying49 rfl (by kernel_rfl)) rfl ?_;have hB:=zGw HBv.out F2 (fun z hz=>by have:z=w.heap.size+1:=hz;omega);rw [HES.out];exact ⟨_,rfl,zUb HVS.out.pb HWH.out hB (by rw [HE.out.1,HE.out.2.1,HE.out.2.2];exact (F2.block bv (zO HXv.out) (fun e=>by have:bv=w.heap.size+1:=e;have:=HLT.out;omega)).trans HXv.out),zLc HVS.out.pb HA.out hB,hB⟩
end
end
section
def MayOk (w:World):Prop:=0 < w.heap.size/\∀r:Nat,r < 17->w.cell? ⟨0,r,none⟩=some (.int .i64 (z0i r:Nat))
def z4e (c:Call):Prop:=c.user.size<=20/\c.folder.size<=20/\c.name.size<=20/\c.other.size<=20
section
variable {P:Nat->Prop} {bv base bw:Nat} {w w':World} {R:RM} {st st':State} {q r:Int} {c:Call} {dv:Value} {done late:Bool}
theorem MayOk.below (h:MayOk w) (hb:Below w.heap.size w w'):MayOk w':=⟨zll h.1 hb.size,fun r hr=>(hb.cell (p:=⟨0,r,none⟩) h.1).trans (h.2 r hr)⟩
theorem VS.more (h:VS P bv w st q r) (hb:Below w.heap.size w w') {Q:Nat->Prop} (hQ:∀b,Q b->w.heap.size<=b/\b < w'.heap.size):VS (fun b=>P b\/Q b) bv w' st q r:=by
 obtain ⟨v1,v2,v3,h1,h2⟩:=h.box;exact ⟨⟨v1,v2,v3,(hb.block bv h.lt).trans h1,Z0 h2 fun b hp hl=>⟨fun e=>e.elim hp fun e=>by have:=(hQ b e).1;omega,hb.block b hl⟩⟩,.inl h.pb,fun b e=>e.elim (fun e=>zll (h.pl b e) hb.size) fun e=>(hQ b e).2⟩
theorem VS.less {Q:Nat->Prop} (h:VS (fun b=>P b\/Q b) bv w st q r) (hp:P bv) {B:Nat->Prop} (hb:ButB B w w') (hB:∀b,B b->Q b/\b≠bv):VS P bv w' st q r:=by
 obtain ⟨v1,v2,v3,h1,h2⟩:=h.box;exact ⟨⟨v1,v2,v3,(hb.block bv h.lt fun e=>(hB bv e).2 rfl).trans h1,Z0 h2 fun b hn hl=>⟨fun e=>hn (.inl e),hb.block b hl fun e=>hn (.inr (hB b e).1)⟩⟩,hp,fun b e=>zll (h.pl b (.inl e)) hb.size⟩
theorem zTf:zAs st (yY st c late).1 q r c.kind (yY st c late).2.2 (yY st c late).2.1=doV st q r c late:=rfl
theorem zGx (h:VS P bv w st q r) (hc:z2a (fun b=>¬P b) w (z3v c dv) c) {n:Nat} (hI:VInv n st) (hn:n<=40) (hd:yX st) (hm:MayOk w) (hs:z4e c):
  Calls Tryz.prog 12 #[.pointer (some ⟨bv,0,none⟩),.agg #[.int .i64 c.kind,.string c.user,.string c.folder,.string c.name,.string c.other,.int .i64 c.role,.int .i64 c.version,dv]] w fun e w'=>∃cs:Array Value,e= .returned (.agg cs)/\VS P bv w' (ZU st q r c).1 q r/\YY (fun b=>¬P b) w' cs.toList (ZU st q r c).2/\ButB (fun b=>b=bv) w w':=by
 obtain ⟨_,_,_,h1,_⟩:=h.box;have hlt:=h.lt;obtain ⟨A7,c7,e7,hkind,hus,hfo,hna,hot,hro,hve,_⟩:=YQ hc;obtain rfl:dv= .slice A7 c.data.length c7:=by simpa [z3v] using e7
 obtain ⟨w0,hw0,cw0,fw0,Bw0,qw0⟩:=zQ w #[.int .i64 c.kind,.string c.user,.string c.folder,.string c.name,.string c.other,.int .i64 c.role,.int .i64 c.version,.slice A7 c.data.length c7] 41;have hz0:w0.heap.size=w.heap.size+1:=by rw [<-hw0,World.size_alloc]
 obtain ⟨w1,hw1,cw1,fw1,Bw1,qw1⟩:=zQ w0 zV 49;have HZ1:=zh (show w1.heap.size=w.heap.size+2 from by rw [<-hw1,World.size_alloc,hz0]);have HB1:=zh (zB Bw0 Bw1);have HN1:=zh (show w1.heap[w.heap.size]? =some (.cells #[.int .i64 c.kind,.string c.user,.string c.folder,.string c.name,.string c.other,.int .i64 c.role,.int .i64 c.version,.slice A7 c.data.length c7] 41 (0,0)) from (Bw1.block _ qw0).trans (by rw [<-hw0];exact zJ _ rfl));have HR1:=zh (show w1.heap[w.heap.size+1]? =some (.cells zV 49 (0,0)) from by rw [<-hz0,<-hw1];exact zJ _ rfl);have HV1:=zh (h.more HB1.out (Q:=fun b=>b=w.heap.size+1) fun b e=>by have:b=w.heap.size+1:=e;rw [HZ1.out];omega);have HC1:=zh (show z2a (fun b=>¬(P b\/b=w.heap.size+1)) w1 (z3v c (.slice A7 c.data.length c7)) c from YZ hc fun b hp hl=>⟨fun e=>e.elim hp fun e=>by omega,HB1.out.block b hl⟩);have HVS:=zh h;have HI:=zh hI;have HD:=zh hd;have HS:=zh hs;have HLT:=zh hlt;have HPB:=zh h.pb;have HMA:=zh (zFs c.kind c.user c.folder c.name c.other c.role c.version A7 c.data.length c7 hus hfo hna hot w1 (hm.below HB1.out).1 (hm.below HB1.out).2);have s6:=(HB1.out.cell (p:=⟨bv,6,none⟩) hlt).trans ((zD h1).1 6 _ rfl);obtain ⟨k0,k1,k2,k3,k4,k5,k6,k7⟩:=zC8 (zD HN1.out).1;clear h hc hI hd hm hs h1 hlt e7 cw0 fw0 Bw0 cw1 fw1 Bw1 qw1 hkind hus hfo hna hot hro hve;unfold zV at hw1;go_enter Tryz.func12,Tryz.ntmps12
 go_wp2_with fail
 refine zcm HMA.out ?_;rintro _ w2 ⟨rfl,B2⟩;have HB02:=zh (zB HB1.out B2);have HR2:=zh ((B2.block _ (zO HR1.out)).trans HR1.out);have HV2:=zh (HV1.out.below B2);have HC2:=zh (YZ HC1.out (zK B2));replace k0:=(B2.cell (p:=⟨w.heap.size,0,none⟩) (zO HN1.out)).trans k0;replace k1:=(B2.cell (p:=⟨w.heap.size,1,none⟩) (zO HN1.out)).trans k1;replace k2:=(B2.cell (p:=⟨w.heap.size,2,none⟩) (zO HN1.out)).trans k2;replace k3:=(B2.cell (p:=⟨w.heap.size,3,none⟩) (zO HN1.out)).trans k3;replace k4:=(B2.cell (p:=⟨w.heap.size,4,none⟩) (zO HN1.out)).trans k4;replace k5:=(B2.cell (p:=⟨w.heap.size,5,none⟩) (zO HN1.out)).trans k5;replace k6:=(B2.cell (p:=⟨w.heap.size,6,none⟩) (zO HN1.out)).trans k6;replace k7:=(B2.cell (p:=⟨w.heap.size,7,none⟩) (zO HN1.out)).trans k7;clear B2 s6;have hfold:z4y ZA c.kind c.user c.folder c.name c.other c.role c.version (c.data.length:Int)=z6c c:=rfl;rw [hfold];clear hfold
 cases hmc:z6c c with
 | false=>
  have HM:=zh (show ZU st q r c=(st,ZF 13) from by unfold ZU;rw [hmc];rfl);clear k0 k1 k2 k3 k4 k5 k6 k7 hmc;go_wp2_with fail
  refine zcm (ZK 13 w2) ?_;rintro e5 w5 ⟨rfl,B5⟩;have HBB:=zh (zB HB02.out B5);have HR5:=zh ((B5.block _ (zO HR2.out)).trans HR2.out);clear B5;have K:=HR5.out;unfold zV at K;obtain ⟨y0,y1,y2,y3,y4,y5,y6⟩:=zC7 (zD K).1;have yz:=(zD K).2;clear K;unfold yD;go_wp2;try simp only [Exit.inBlock,Exit.then]
  obtain ⟨F1,F2⟩:=Z6 HR5.out (.int .i64 13) (.int .i64 0) (.string ⟨#[]⟩) (.slice none 0 0) (.slice none 0 0) (.slice none 0 0) (.slice none 0 0);refine bodyPost_ret (results_cell_row rfl _ _ (w.heap.size+1) 49 _ (0,0) _ rfl F1 Tryz.underlying49 rfl (by kernel_rfl)) rfl ?_;have hB:=ButB.below HBB.out HBB.out.size (fun z hz=>by have:z=w.heap.size+1:=hz;omega) F2;rw [HM.out]
  exact ⟨_,rfl,HVS.out.below hB,y8 ⟨by omega,by omega⟩,ButB.of hB⟩
 | true=>
  obtain ⟨ck,cd⟩:=z7e hmc HS.out.1 HS.out.2.1 HS.out.2.2.1 HS.out.2.2.2;have HM:=zh (show ZU st q r c=doV st q r c false from by unfold ZU;rw [hmc];rfl);have HTR:=zh (zRj HV2.out HC2.out HI.out hn HD.out ck cd false);have HFEW:=zh (zPc (zEl (late:=false) HI.out ck) (by omega));clear hmc ck cd;go_wp2_with fail
  refine zcm HTR.out ?_;rintro _ w3 ⟨_,bw,R,cs,rfl,hbw,B3,h3,ha⟩;obtain ⟨A3',c3',A4',c4',A5',c5',A6',c6',rfl⟩:=yG ha;generalize hx:yY st c false=x at h3 ha;have HX:=zh hx;obtain ⟨st5,a,dn⟩:=x;obtain ⟨_,_,cw4,fw4,Bw4,_⟩:=zQ w3 #[.int .i64 a.err,.int .i64 a.number,.string a.who,.slice A3' a.data.length c3',.slice A4' a.names.length c4',.slice A5' a.members.length c5',.slice A6' a.history.length c6'] 49;have HB24:=zh (zB B3 Bw4);have HV4:=zh (HV2.out.below HB24.out);have H4:=zh (h3.below Bw4);have HA4:=zh (z2g ha (Mut.below (bw:=bw) (R:=R) Bw4).kept);have HR4:=zh ((HB24.out.block _ (zO HR2.out)).trans HR2.out);have HB04:=zh (zB HB02.out HB24.out);have HFS:=zh (show Bd.smallOf st5<=1000000/\Bd.largeOf st5<=1000000 from by have:=HFEW.out;rw [hx] at this;exact this);have HEN:=zh (zRm H4.out HV4.out HA4.out HFS.out);have a0:=cw4 0 _ rfl;have a1:=cw4 1 _ rfl;have a2:=cw4 2 _ rfl;have a3:=cw4 3 _ rfl;have a4:=cw4 4 _ rfl;have a5:=cw4 5 _ rfl;have a6:=cw4 6 _ rfl;clear B3 h3 ha hx cw4 fw4 Bw4 k0 k1 k2 k3 k4 k5 k6 k7 hbw;go_wp2_with fail
  refine zcm HEN.out ?_;rintro e5 w5 ⟨_,rfl,V5,ha5,B5⟩;have HE5:=zh (show zAs st st5 q r c.kind dn a=doV st q r c false from by rw [<-zTf,HX.out]);rw [HE5.out] at V5 ha5;generalize hy:doV st q r c false=y at V5 ha5;have HY:=zh hy;obtain ⟨_,b⟩:=y;obtain ⟨A3'',c3'',A4'',c4'',A5'',c5'',A6'',c6'',rfl⟩:=yG ha5;have HV5:=zh V5;have HA5:=zh ha5;have HB5:=zh B5;have HR5:=zh ((B5.block _ (zO HR4.out) (fun e=>by have:w.heap.size+1=bv:=e;have:=HLT.out;omega)).trans HR4.out);clear V5 ha5 B5 hy a0 a1 a2 a3 a4 a5 a6;have K:=HR5.out;unfold zV at K;obtain ⟨y0,y1,y2,y3,y4,y5,y6⟩:=zC7 (zD K).1;have yz:=(zD K).2;clear K;go_wp2;try simp only [Exit.inBlock,Exit.then]
  obtain ⟨F1,F2⟩:=Z6 HR5.out (.int .i64 b.err) (.int .i64 b.number) (.string b.who) (.slice A3'' b.data.length c3'') (.slice A4'' b.names.length c4'') (.slice A5'' b.members.length c5'') (.slice A6'' b.history.length c6'');refine bodyPost_ret (results_cell_row rfl _ _ (w.heap.size+1) 49 _ (0,0) _ rfl F1 Tryz.underlying49 rfl (by kernel_rfl)) rfl ?_;rw [HM.out,HY.out];refine ⟨_,rfl,HV5.out.less HPB.out F2 fun b e=>⟨e,fun h=>by have:b=w.heap.size+1:=e;have:=HLT.out;omega⟩,z2g HA5.out fun b hn hl=>⟨fun e=>hn (.inl e),F2.block b hl fun e=>hn (.inr e)⟩,?_⟩;have hb4:ButB (fun b=>b=bv) w _:=ButB.of HB04.out;exact zGw (hb4.trans HB5.out) F2 (fun z hz=>by have:z=w.heap.size+1:=hz;omega)
end
end
section
theorem zF0 {α:Type} (key:α->Nm) {l:List α} (h:(l.map key).Nodup) {x:α} (hx:x∈l):x∈ZE key l:=by
 rw [zDz];obtain ⟨a,b,rfl⟩:=List.append_of_mem hx;refine ⟨a,b,rfl,fun hm=>?_⟩;rw [List.map_append,List.map_cons,List.nodup_append] at h;exact h.2.2 _ hm _ (List.mem_cons_self ..) rfl
def WOk (f:Folder):Prop:=∀w∈f.wraps,1<=w.epoch/\w.epoch<=f.epochs.length
def z1t (st:State):Prop:=∀f∈st.folders,WOk f
structure GrowF (f f':Folder):Prop where
 name:f'.name=f.name
 ep:f.epochs.length<=f'.epochs.length
 wr:∀w∈f.wraps,∃w'∈f'.wraps,w'.name=w.name/\yR f.epochs w<=yR f'.epochs w'
 lk:∀l∈f.links,l∈f'.links
theorem GrowF.of {f f':Folder} (h1:f'.name=f.name) (h2:f'.epochs=f.epochs) (h3:f'.wraps=f.wraps) (h4:f'.links=f.links):GrowF f f':=
 ⟨h1,by rw [h2];exact znl _,fun w hw=>⟨w,by rw [h3];exact hw,rfl,by rw [h2];exact Int.le_refl _⟩,fun l hl=>by rw [h4];exact hl⟩
theorem GrowF.refl (f:Folder):GrowF f f:= .of rfl rfl rfl rfl
theorem GrowF.trans {a b c:Folder} (h:GrowF a b) (k:GrowF b c):GrowF a c:=
 ⟨k.name.trans h.name,qNtx h.ep k.ep,fun w hw=>by
  obtain ⟨x,hx,e1,_⟩:=h.wr w hw;obtain ⟨y,hy,e3,_⟩:=k.wr x hx;exact ⟨y,hy,e3.trans e1,by omega⟩,fun l hl=>k.lk l (h.lk l hl)⟩
theorem WOk.of {f f':Folder} (h:WOk f) (h2:f'.epochs=f.epochs) (h3:f'.wraps=f.wraps):WOk f':=fun w hw=>by
 rw [h2];exact h w (by rwa [h3] at hw)
theorem zDs {l:List Epoch} {w:Wrap} (h:1<=w.epoch/\w.epoch<=l.length):1<=yR l w/\yR l w<=l.length:=by
 unfold yR;split
 ·have:=zA3 h.1 h.2;omega
 exact h
theorem z5m {l:List Epoch} (h:1<=l.length) (s:Nm) (b:Bool):yR l ⟨s,l.length,b⟩=l.length:=by
 have:=zDs (l:=l) (w:=⟨s,l.length,b⟩) ⟨by show (1:Int)<=l.length;omega,by show ((l.length:Nat):Int)<=_;omega⟩;unfold yR at this⊢;dsimp only at this⊢;split
 ·rw [yC,if_pos (by omega)];simp [Y8]
 rfl
theorem zD0 (x:Epoch):∀(l:List Epoch) (e:Int),Y8 l e<=Y8 (l++[x]) e
 | [],e=>by
  rw [List.nil_append,Y8,Y8];split
  ·omega
  ·rw [Y8];omega
 | y :: l,e=>by
  rw [List.cons_append,Y8,Y8];split
  ·omega
  ·exact zD0 x l (e+1)
theorem zN0 (l:List Epoch) (x:Epoch) {w:Wrap} (h:1<=w.epoch/\w.epoch<=l.length):yR l w<=yR (l++[x]) w:=by
 unfold yR;split
 ·rw [yC,yC,if_pos h,if_pos ⟨h.1,by have:=h.2;simp;omega⟩,List.drop_append_of_le_length (by have:=h.2;omega)];exact zD0 x _ _
 exact Int.le_refl _
theorem zF1 (eps:List Epoch) (h1:1<=eps.length) (name:Nm) (seed:Bool):∀{l:List Wrap},(∀w∈l,1<=w.epoch/\w.epoch<=eps.length)->∀w∈l,∃w'∈z1m eps name seed l,w'.name=w.name/\yR eps w<=yR eps w'
 | [],_,w,hw=>by cases hw
 | x :: r,h,w,hw=>by
  unfold z1m;split
  ·rename_i e;split
   ·exact ⟨w,hw,rfl,Int.le_refl _⟩
   ·rcases List.mem_cons.1 hw with e2 | e2
    ·subst e2;refine ⟨_,List.mem_cons_self ..,e.symm,?_⟩;rw [z5m h1];exact (zDs (h w hw)).2
    ·exact ⟨w,zmc _ e2,rfl,Int.le_refl _⟩
  ·split
   ·exact ⟨w,zmc _ hw,rfl,Int.le_refl _⟩
   ·rcases List.mem_cons.1 hw with e2 | e2
    ·exact ⟨w,by rw [e2];exact List.mem_cons_self ..,rfl,Int.le_refl _⟩
    ·obtain ⟨y,hy,hz⟩:=zF1 eps h1 name seed (fun z hz=>h z (zmc _ hz)) w e2;exact ⟨y,zmc _ hy,hz⟩
def Gro (f f':Folder):Prop:=GrowF f f'/\WOk f'/\1<=f'.epochs.length
theorem z9o {f:Folder} (h:WOk f) (h1:1<=f.epochs.length) (s:Nm) (b:Bool):Gro f (yO f s b):=
 ⟨⟨rfl,znl _,fun w hw=>zF1 f.epochs h1 s b h w hw,fun _ hl=>hl⟩,fun w hw=>by
  rcases z5h hw with e | e
  ·rw [e];exact ⟨show (1:Int)<=f.epochs.length by omega,Int.le_refl _⟩
  ·exact h w e,h1⟩
theorem Gro.trans {a b c:Folder} (h:Gro a b) (k:Gro b c):Gro a c:=⟨h.1.trans k.1,k.2⟩
theorem zAt (sd:Member->Bool):∀(ms:List Member) {f:Folder},WOk f->1<=f.epochs.length->Gro f (ZZ sd f ms)
 | [],f,h,h1=>⟨GrowF.refl f,h,h1⟩
 | m :: r,f,h,h1=>by
  have k:=z9o h h1 m.name (sd m);exact k.trans (zAt sd r k.2.1 k.2.2)
theorem z89 (st:State):∀(l:List At) {f:Folder},WOk f->1<=f.epochs.length->Gro f (Y1 st l f)
 | [],f,h,h1=>⟨GrowF.refl f,h,h1⟩
 | x :: r,f,h,h1=>by
  unfold Y1;split
  ·have k:=zAt (fun _=>false) (zH ((zP st x.name).getD yH)).members h h1;exact k.trans (z89 st r k.2.1 k.2.2)
  ·split
   ·exact ⟨GrowF.refl f,h,h1⟩
   ·exact ⟨⟨rfl,znl _,fun w hw=>⟨w,hw,rfl,Int.le_refl _⟩,fun l hl=>List.mem_append_left _ hl⟩,h,h1⟩
theorem zAu {f:Folder} (h:WOk f) (e:Epoch):Gro f { f with epochs:=f.epochs++[e] }:=
 ⟨⟨rfl,by simp,fun w hw=>⟨w,hw,rfl,zN0 _ _ (h w hw)⟩,fun _ hl=>hl⟩,fun w hw=>by have:=h w hw;simp;omega,by simp⟩
structure GrowS (st st':State):Prop where
 dep:∀p∈st.deposits,p∈st'.deposits
 fo:∀f∈st.folders,∃f'∈st'.folders,GrowF f f'
 wa:z1t st'
theorem GrowS.refl {st:State} (h:z1t st):GrowS st st:=⟨fun _ h=>h,fun f hf=>⟨f,hf,GrowF.refl f⟩,h⟩
theorem GrowS.trans {a b c:State} (h:GrowS a b) (k:GrowS b c):GrowS a c:=
 ⟨fun p hp=>k.dep p (h.dep p hp),fun f hf=>by
  obtain ⟨g,hg,e⟩:=h.fo f hf;obtain ⟨g',hg',e'⟩:=k.fo g hg;exact ⟨g',hg',e.trans e'⟩,k.wa⟩
theorem GrowS.of {a b:State} (h:z1t a) (h1:∀p∈a.deposits,p∈b.deposits) (h2:b.folders=a.folders):GrowS a b:=
 ⟨h1,fun f hf=>⟨f,by rw [h2];exact hf,GrowF.refl f⟩,fun f hf=>h f (by rwa [h2] at hf)⟩
theorem z34 {st:State} (h:z1t st) {k:Nat} (hk:k < st.folders.length) {f':Folder} (hg:Gro (fo st k) f'):GrowS st (setF st k f'):=by
 have hat:st.folders[k]? =some (fo st k):=by unfold Go.Proofs.YtdggplhnfhcieaaGreatDoor.fo;rw [qLgx hk];rfl
 refine ⟨fun _ h=>h,fun f hf=>?_,fun f hf=>?_⟩
 ·obtain ⟨j,hj⟩:=List.getElem?_of_mem hf;by_cases e:k=j
  ·subst e;obtain rfl:=zsi (hat.symm.trans hj);exact ⟨f',zmg (i:=k) (by unfold setF;rw [List.getElem?_set_self hk]),hg.1⟩
  exact ⟨f,zmg (i:=j) (by unfold setF;rw [List.getElem?_set_ne e];exact hj),GrowF.refl f⟩
 rcases List.mem_or_eq_of_mem_set hf with hx | rfl
 ·exact h f hx
 exact hg.2.1
theorem GrowS.turn {a b:State} (h:GrowS a b) (t:Int):GrowS a { b with turn:=t }:=⟨h.dep,h.fo,h.wa⟩
section
variable {n:Nat} {st:State} {c:Call}
theorem z54 (h:VInv n st) {k:Nat} (hk:k < st.folders.length):1<=(fo st k).epochs.length:=List.length_pos_iff.2 (h.atF hk).ep
theorem z5w (hw:z1t st) {k:Nat} (hk:k < st.folders.length):WOk (fo st k):=hw _ (yN hk)
theorem z8a {f f1:Folder} (h:Gro f f1) (m:Manifest) (who:Nm):Gro f (y9 f1 m who):=h.trans ⟨.of rfl rfl rfl rfl,h.2.1.of rfl rfl,h.2.2⟩
theorem zF2 (h:z1t st) {k:Nat} (hk:k < st.folders.length) (h1:1<=(fo st k).epochs.length):GrowS st (yJ st k):=z34 h hk (z89 st _ (z5w h hk) h1)
theorem zGy {k:Nat}:(yJ st k).folders.length=st.folders.length:=Y4
theorem zJ1 (h:z1t st) {k:Nat} (hk:k < st.folders.length) (h1:1<=(fo st k).epochs.length) (i:Option Nat) (name:Nm) (v:Version):GrowS st (z4b st k i name v).1:=by
 unfold z4b
 cases i with
 | none=>exact z34 h hk ⟨.of rfl rfl rfl rfl,(z5w h hk).of rfl rfl,h1⟩
 | some j=>exact z34 h hk ⟨.of rfl rfl rfl rfl,(z5w h hk).of rfl rfl,h1⟩
theorem zJ2 (h:VInv n st) (hw:z1t st) {k:Nat} (hk:k < st.folders.length):GrowS st (z1r st c k).1:=by
 unfold z1r;dsimp only;obtain ⟨s1,hs1⟩:∃s1,(if ZJ st c.folder then YR st k c.user else st)=s1:=⟨_,rfl⟩;rw [hs1];have g1:GrowS st s1/\s1.folders.length=st.folders.length/\1<=(fo s1 k).epochs.length:=by
  rw [<-hs1];split
  ·have g:=zAu (z5w hw hk) (z2b st (fo st k) c.user);have g2:=g.trans (zAt (fun x=>decide (2<=x.role)) (zH (fo st k)).members g.2.1 g.2.2);refine ⟨z34 hw hk g2,Y4,?_⟩;unfold YR;rw [Y3 hk];exact g2.2.2
  ·exact ⟨GrowS.refl hw,rfl,z54 h hk⟩
 obtain ⟨g1,_,e1⟩:=g1;have hk1:k < s1.folders.length:=by omega
 have gc:=z89 s1 ((zN s1 4 (fo s1 k).name).drop 1) (z5w g1.wa hk1) e1;have g2:GrowS s1 (yJ s1 k):=z34 g1.wa hk1 gc;refine (g1.trans g2).trans (zJ1 g2.wa (by rw [zGy];exact hk1) ?_ _ _ _);unfold yJ;rw [Y3 hk1];exact gc.2.2
theorem zKe (h:VInv n st) (hw:z1t st):GrowS st (z1v st c):=by
 unfold z1v;dsimp only;rw [z6r];obtain ⟨e1,he1⟩:∃e1:Epoch,(⟨1,1,1,zN { st with folders:=st.folders++[ZI st c] } 4 c.folder,c.user⟩:Epoch)=e1:=⟨_,rfl⟩;rw [he1];have hw1:WOk { ZI st c with epochs:=[e1] }:=fun w hw=>by
  simp [ZI] at hw;rw [hw];simp
 have g1:GrowS st { st with folders:=st.folders++[{ ZI st c with epochs:=[e1] }] }:=
  ⟨fun _ h=>h,fun f hf=>⟨f,List.mem_append_left _ hf,GrowF.refl f⟩,fun f hf=>by
   rcases zmb hf with e | e
   ·exact hw f e
   ·rw [zml e];exact hw1⟩
 refine (g1.trans (zF2 g1.wa (by simp) ?_)).turn _;rw [zFn];simp
theorem zTg {late:Bool} (h:VInv n st) (hw:z1t st) (hc:CallOk c) (hb:ZV st c late=0):GrowS st (doR st c).1:=by
 have hsame:GrowS st st:=GrowS.refl hw;unfold doR;dsimp only;by_cases k1:c.kind=1
 ·rw [if_pos k1];unfold YS;exact zM (fun _=>hsame) fun _=>zM (fun _=>hsame) fun h2=> .of hw (fun _ h=>h) rfl
 rw [if_neg k1];obtain ⟨⟨_,_⟩,hfol,_,_⟩:=z5i hc k1 hb;by_cases k2:c.kind=2
 ·rw [if_pos k2];unfold YH;exact zM (fun _=>hsame) fun h1=>zM (fun _=>hsame) fun h2=>zM (fun _=>hsame) fun h3=>zKe h hw
 rw [if_neg k2];have hthere:c.kind<=13->∃k,Z3 st c.folder=some k/\k < st.folders.length:=fun h13=>by
  obtain ⟨k,hk⟩:=hfol (z3e (hc.fol (by have:=hc.k1;omega) h13)) k2;exact ⟨k,hk,(Y9 (z1h hk).1).1⟩
 by_cases k3:c.kind=3
 ·rw [if_pos k3];obtain ⟨k,hk,hkl⟩:=hthere (by omega);rw [hk,Option.getD_some];unfold z2o;refine zM (fun _=>hsame) fun _=>zM (fun _=>hsame) fun _=>zM (fun _=>hsame) fun h1=>zM (fun _=>hsame) fun h2=>?_
  unfold z6i;dsimp only;have g1:=z34 hw hkl (z8a ⟨GrowF.refl _,z5w hw hkl,z54 h hkl⟩ { zH (fo st k) with parent:=c.other,cut:=(zH (fo st k)).seq+1 } c.user);exact (g1.trans (zF2 g1.wa (by rw [Y4];exact hkl) (by rw [Y3 hkl];exact z54 h hkl))).turn _
 rw [if_neg k3];by_cases k4:c.kind=4
 ·rw [if_pos k4];obtain ⟨k,hk,hkl⟩:=hthere (by omega);rw [hk,Option.getD_some];unfold z0m;refine zM (fun _=>hsame) fun _=>zM (fun _=>hsame) fun h1=>?_
  exact (z34 hw hkl (z8a ⟨GrowF.refl _,z5w hw hkl,z54 h hkl⟩ _ c.user)).turn _
 rw [if_neg k4];by_cases k5:c.kind=5\/c.kind=6\/c.kind=7
 ·rw [if_pos k5];obtain ⟨k,hk,hkl⟩:=hthere (by omega);rw [hk,Option.getD_some];unfold Y2;dsimp only;refine zM (fun _=>hsame) fun h1=>zM (fun _=>hsame) fun _=>z34 hw hkl (z8a ?_ _ c.user)
  split
  ·exact z9o (z5w hw hkl) (z54 h hkl) _ _
  exact ⟨GrowF.refl _,z5w hw hkl,z54 h hkl⟩
 rw [if_neg k5];by_cases k8:c.kind=8
 ·rw [if_pos k8];obtain ⟨k,hk,hkl⟩:=hthere (by omega);rw [hk,Option.getD_some];unfold z2s;refine zM (fun _=>hsame) fun _=>?_
  split
  ·exact zM (fun _=>hsame) fun _=>zJ2 h hw hkl
  exact zM (fun _=>hsame) fun _=>zJ2 h hw hkl
 rw [if_neg k8];by_cases k9:c.kind=9
 ·rw [if_pos k9];exact hsame
 rw [if_neg k9];by_cases k10:c.kind=10
 ·rw [if_pos k10];exact hsame
 rw [if_neg k10];by_cases k11:c.kind=11
 ·rw [if_pos k11];obtain ⟨k,hk,hkl⟩:=hthere (by omega);rw [hk,Option.getD_some];unfold z2p;refine zM (fun _=>hsame) fun _=>?_
  split
  ·exact hsame
  exact zM (fun _=>hsame) fun _=>zM (fun _=>hsame) fun _=>zJ1 hw hkl (z54 h hkl) _ _ _
 rw [if_neg k11];by_cases k12:c.kind=12
 ·rw [if_pos k12];exact hsame
 rw [if_neg k12];have hlost:∀(s:Nm) (b:Bool),GrowS st (lostS st s b):=fun s b=>by
  unfold lostS;split
  ·exact hsame
  ·exact .of hw (fun _ h=>h) rfl
 by_cases k14:c.kind=14
 ·rw [if_pos k14];unfold z1d;exact zM (fun _=>hsame) fun _=> .of hw (fun p hp=>List.mem_append_left _ hp) rfl
 rw [if_neg k14];by_cases k15:c.kind=15
 ·rw [if_pos k15];exact hlost _ _
 rw [if_neg k15];by_cases k16:c.kind=16
 ·rw [if_pos k16];unfold z0h;exact zM (fun _=>hsame) fun _=>zM (fun _=>hsame) fun _=>hlost _ _
 rw [if_neg k16];exact hsame
theorem zF3 {q r:Int} (h:VInv n st) (hw:z1t st) (hs:z4e c):GrowS st (ZU st q r c).1:=by
 have hsame:GrowS st st:=GrowS.refl hw;unfold ZU
 cases hm:z6c c with
 | false=>exact hsame
 | true=>
  obtain ⟨k1,k2⟩:=z7e hm hs.1 hs.2.1 hs.2.2.1 hs.2.2.2;have hn:GrowS st (yY st c false).1:=by
   unfold yY;split
   ·exact hsame
   ·rename_i hb;exact zTg h hw k1 (by simpa using hb)
  show GrowS st (doV st q r c false).1
  unfold doV;exact zM (fun _=>zM (fun _=>hsame) fun _=>hn) fun _=>hsame
end
end
section
theorem zRs {st:State} {q r:Int} {c:Call} {late:Bool} (h:yX st) (hd:c.data.length<=512):yX (doV st q r c late).1:=by
 unfold doV;exact zM (fun _=>zM (fun _=>h) fun _=>zPe h hd late) fun _=>h
theorem z4a {n:Nat} {st:State} {q r:Int} {c:Call} (h:VInv n st) (hd:yX st) (hs:z4e c):VInv (n+1) (ZU st q r c).1/\yX (ZU st q r c).1:=by
 unfold ZU
 cases hm:z6c c with
 | false=>exact ⟨h.mono (by omega),hd⟩
 | true=>
  obtain ⟨k1,k2⟩:=z7e hm hs.1 hs.2.1 hs.2.2.1 hs.2.2.2;exact ⟨zPa h k1,zRs hd k2⟩
def cA1:Call:=⟨1,⟨#[97]⟩,⟨#[]⟩,⟨#[]⟩,⟨#[]⟩,0,0,[]⟩
def cA2:Call:=⟨2,⟨#[97]⟩,⟨#[102]⟩,⟨#[]⟩,⟨#[]⟩,0,0,[]⟩
def cA3:Call:=⟨8,⟨#[97]⟩,⟨#[102]⟩,⟨#[120]⟩,⟨#[]⟩,0,0,[]⟩
noncomputable def sA1:State×Answer:=ZU ⟨0,[],[],[]⟩ 1048576 1000 cA1
noncomputable def sA2:State×Answer:=ZU sA1.1 1048576 1000 cA2
noncomputable def sA3:State×Answer:=ZU sA2.1 1048576 1000 cA3
theorem eA1:sA1.2.err=0:=by kernel_rfl
theorem eA2:sA2.2.err=0:=by kernel_rfl
theorem eA3:sA3.2.err=0/\sA3.2.number=1:=⟨by kernel_rfl,by kernel_rfl⟩
theorem eA4:sA3.1.folders.map (fun f=>f.items.length)=[1]:=by kernel_rfl
theorem zPn:z4e cA1:=⟨by decide,by decide,by decide,by decide⟩
theorem zPo:z4e cA2:=⟨by decide,by decide,by decide,by decide⟩
theorem zPp:z4e cA3:=⟨by decide,by decide,by decide,by decide⟩
theorem iA0:yX ⟨0,[],[],[]⟩:=fun f hf=>by cases hf
theorem iA1:VInv 1 sA1.1/\yX sA1.1:=z4a VInv.start iA0 zPn
theorem iA2:VInv 2 sA2.1/\yX sA2.1:=z4a iA1.1 iA1.2 zPo
theorem iA3:VInv 3 sA3.1/\yX sA3.1:=z4a iA2.1 iA2.2 zPp
theorem zUd {S:Nat->Prop} {w:World} (c:Call) (hk:I64 c.kind) (hs:z4e c) (hr:c.role=0/\c.version=0/\c.data=[]):z2a S w (z3v c (.slice none 0 0)) c:=by
 obtain ⟨_,_,_,_⟩:=hs;obtain ⟨r1,r2,r3⟩:=hr;refine ⟨_,rfl,hk,by omega,by omega,by omega,by omega,?_,?_,?_⟩
 ·rw [r1];exact ⟨by omega,by omega⟩
 ·rw [r2];exact ⟨by omega,by omega⟩
 rw [r3];exact z0k _ _ _ _
theorem zN5 (e n:Int) (s:Nm) (v3 v4 v5 v6:Value) (w:World):(Instr.field 49 (.agg #[.int .i64 e,.int .i64 n,.string s,v3,v4,v5,v6]) 0).run Tryz.prog w= .ok (.int .i64 e) w:=by kernel_rfl
section
variable {P:Nat->Prop} {bv:Nat} {w:World}
theorem zFx {st:State} {q r:Int} {c:Call} {n:Nat} {e:Int} (h:VS P bv w st q r) (hI:VInv n st) (hn:n<=40) (hd:yX st) (hm:MayOk w) (hs:z4e c) (hk:I64 c.kind) (hr:c.role=0/\c.version=0/\c.data=[]) (he:(ZU st q r c).2.err=e):
  Calls Tryz.prog 12 #[.pointer (some ⟨bv,0,none⟩),.agg #[.int .i64 c.kind,.string c.user,.string c.folder,.string c.name,.string c.other,.int .i64 c.role,.int .i64 c.version,.slice none 0 0]] w fun x w'=>∃A3 c3 A4 c4 A5 c5 A6 c6,x= .returned (.agg #[.int .i64 e,.int .i64 (ZU st q r c).2.number,.string (ZU st q r c).2.who,.slice A3 (ZU st q r c).2.data.length c3,.slice A4 (ZU st q r c).2.names.length c4,.slice A5 (ZU st q r c).2.members.length c5,.slice A6 (ZU st q r c).2.history.length c6])/\VS P bv w' (ZU st q r c).1 q r/\ButB (fun b=>b=bv) w w':=by
 refine zcm (zGx h (zUd c hk hs hr) hI hn hd hm hs) ?_;rintro x w' ⟨_,rfl,h',ha,hb⟩;obtain ⟨A3,c3,A4,c4,A5,c5,A6,c6,rfl⟩:=yG ha;rw [he];exact ⟨_,_,_,_,_,_,_,_,rfl,h',hb⟩
end
theorem zPq (w:World) (hm:MayOk w):Calls Tryz.prog 8 #[] w fun e w'=>e= .returned (.bool true)/\Below w.heap.size w w':=by
 have HM:=zh hm;have qf:=zN5;clear hm;go_enter Tryz.func8,Tryz.ntmps8
 go_wp2_with fail
 refine zcm (zJ0 w 1048576 1000 ⟨by omega,by omega⟩) ?_;rintro _ _ ⟨rfl,V1,B1⟩;have HB1:=zh B1;have HV1:=zh V1;clear V1 B1;go_wp2_with fail
 refine zcm (zFx (c:=cA1) HV1.out VInv.start (by omega) iA0 (HM.out.below HB1.out) zPn ⟨by decide,by decide⟩ ⟨rfl,rfl,rfl⟩ eA1) ?_;rintro _ w2 ⟨_,_,_,_,_,_,_,_,rfl,V2,B2⟩;have HB2:=zh (ButB.below HB1.out HB1.out.size (fun z hz=>by have:z=w.heap.size:=hz;omega) B2);have HV2:=zh (show VS (fun b=>b=w.heap.size) w.heap.size w2 sA1.1 1048576 1000 from V2);clear V2 B2;go_wp2_with fail
 refine zcm (zFx (c:=cA2) HV2.out iA1.1 (by omega) iA1.2 (HM.out.below HB2.out) zPo ⟨by decide,by decide⟩ ⟨rfl,rfl,rfl⟩ eA2) ?_;rintro _ w3 ⟨D3,d3,D4,d4,D5,d5,D6,d6,rfl,V3,B3⟩;have HB3:=zh (ButB.below HB2.out HB2.out.size (fun z hz=>by have:z=w.heap.size:=hz;omega) B3);have HV3:=zh (show VS (fun b=>b=w.heap.size) w.heap.size w3 sA2.1 1048576 1000 from V3);clear V3 B3;obtain ⟨x3,hx3,cx3,fx3,Bx3,_⟩:=zQ w3 #[.int .i64 0,.int .i64 (ZU sA1.1 1048576 1000 cA2).2.number,.string (ZU sA1.1 1048576 1000 cA2).2.who,.slice D3 (ZU sA1.1 1048576 1000 cA2).2.data.length d3,.slice D4 (ZU sA1.1 1048576 1000 cA2).2.names.length d4,.slice D5 (ZU sA1.1 1048576 1000 cA2).2.members.length d5,.slice D6 (ZU sA1.1 1048576 1000 cA2).2.history.length d6] 49;have HY3:=zh (zB HB3.out Bx3);have HW3:=zh (HV3.out.below Bx3);clear cx3 fx3 Bx3;go_wp2_with fail
 refine zcm (zFx (c:=cA3) HW3.out iA2.1 (by omega) iA2.2 (HM.out.below HY3.out) zPp ⟨by decide,by decide⟩ ⟨rfl,rfl,rfl⟩ eA3.1) ?_;rintro _ w4 ⟨E3,f3,E4,f4,E5,f5,E6,f6,rfl,V4,B4⟩;have HB4:=zh (ButB.below HY3.out HY3.out.size (fun z hz=>by have:z=w.heap.size:=hz;omega) B4);have HB4o:=zh B4;have HV4:=zh (show VS (fun b=>b=w.heap.size) w.heap.size w4 sA3.1 1048576 1000 from V4);clear V4 B4;rw [show (ZU sA2.1 1048576 1000 cA3).2.number=1 from eA3.2];obtain ⟨x4,hx4,cx4,fx4,Bx4,_⟩:=zQ w4 #[.int .i64 0,.int .i64 1,.string (ZU sA2.1 1048576 1000 cA3).2.who,.slice E3 (ZU sA2.1 1048576 1000 cA3).2.data.length f3,.slice E4 (ZU sA2.1 1048576 1000 cA3).2.names.length f4,.slice E5 (ZU sA2.1 1048576 1000 cA3).2.members.length f5,.slice E6 (ZU sA2.1 1048576 1000 cA3).2.history.length f6] 49;have HN3:=zh (zbx hx3);have HN4:=zh (zbx hx4);have HY4:=zh (zB HB4.out Bx4);have HW4:=zh (HV4.out.below Bx4);have HM4:=zh ((Bx4.block _ (zll (zO HN3.out) HB4o.out.size)).trans ((HB4o.out.block _ (zO HN3.out) (fun e=>by have e':w3.heap.size=w.heap.size:=e;have:=HW3.out.pl _ rfl;have:=HV3.out.lt;omega)).trans HN3.out));clear cx4 fx4 Bx4;go_wp2_with fail
 refine zcm (z9n HW4.out (zBb iA3.1 (by omega) iA3.2)) ?_;rintro _ w5 ⟨_,rfl,hst,B5⟩;obtain ⟨A1,c1,A2,c2,A7,c7,hcs,_,_,_,_,_,_,_,_,_,hl7,_,hn7,hs7⟩:=ZP hst;subst hcs;have hfl:=eA4;obtain ⟨F,hF⟩:∃F,sA3.1.folders=F:=⟨_,rfl⟩;rw [hF] at hl7 hs7 hfl⊢;obtain ⟨f,rfl⟩:∃f,F=[f]:=by
  have h1:F.length=1:=by have:=congrArg List.length hfl;simpa using this
  exact List.length_eq_one_iff.1 h1
 have hfi:f.items.length=1:=by simpa using hfl
 rw [show [f].length=1 from rfl];obtain ⟨_,_,cx5,fx5,Bx5,_⟩:=zQ w5 #[.int .i64 sA3.1.turn,.slice A1 sA3.1.users.length c1,.slice A2 sA3.1.deposits.length c2,.slice A7 1 c7] 34;obtain ⟨_,_,_,rfl,hfb,hff,hfc⟩:=SlAt.elem hs7 (k:=0) (x:=f) rfl (by decide) Bx5;obtain ⟨_,_,_,_,_,_,_,_,_,_,rfl,_⟩:=Z2 hff;have z4:=hfc 4 _ rfl;rw [hfi] at z4;have y0:=((zB B5 Bx5).cell (p:=⟨w4.heap.size,0,none⟩) (zO HN4.out)).trans ((zD HN4.out).1 0 _ rfl);have y1:=((zB B5 Bx5).cell (p:=⟨w4.heap.size,1,none⟩) (zO HN4.out)).trans ((zD HN4.out).1 1 _ rfl);have x0:=((zB B5 Bx5).cell (p:=⟨w3.heap.size,0,none⟩) (zO HM4.out)).trans ((zD HM4.out).1 0 _ rfl);have s3:=cx5 3 _ rfl;have HXX:=zh (zB HY4.out (zB B5 Bx5));clear hn7 hst hs7 hff hfc hfl hF hfb cx5 fx5 Bx5 B5;go_wp2;go_ret;exact ⟨rfl,HXX.out⟩
end
def zFy (x:Call):Bool:=decide (x.user.size<=20) && decide (x.folder.size<=20) && decide (x.name.size<=20) && decide (x.other.size<=20) && decide (x.data.length<=600)
def zAx (l:List Call):Bool:=l.all zFy && decide (l.length<=40)
theorem zDw {x:Call}:zFy x=true↔x.user.size<=20/\x.folder.size<=20/\x.name.size<=20/\x.other.size<=20/\x.data.length<=600:=by
 unfold zFy;simp only [qBqx,decide_eq_true_eq,and_assoc]
theorem zLe (l:List Call) (v:Value) (w:World) (S:Nat->Prop) (h:Sl 8 z2a S w v l):
  Calls Tryz.prog 20 #[v] w fun e w'=>e= .returned (.bool (zAx l))/\Below w.heap.size w w':=by
 obtain ⟨_,_,rfl,_,hc,_,hs⟩:=h;unfold maxLen at hc;go_enter Tryz.func20,Tryz.ntmps20
 go_wp2;go_loopw [7] (fun i wr=>∃(k:Nat),k<=l.length/\i= .int .i64 k/\Hid (∀y∈l.take k,zFy y=true)/\Below w.heap.size w wr) (fun i _=>l.length - (intOf i).toNat)
 case atStart=>exact ⟨0,by omega,by go_num,(fun y hy=>by simp at hy),by go_grown⟩
 obtain ⟨k,_,rfl,HN,hbel⟩:=hrel;have hz:=hbel.size;by_cases hlt:k < l.length
 rotate_left
 ·obtain rfl:k=l.length:=by omega
  have HF:=zh (show zAx l=decide ((l.length:Int)<=40) by
   have h1:=HN.out;rw [qLnx] at h1;unfold zAx;rw [List.all_eq_true.2 h1,Bool.true_and];exact decide_eq_decide.2 (by omega))
  go_wp2;go_ret;exact ⟨ZM HF.out.symm,hbel⟩
 obtain ⟨x,_,_,_,_,hx,_,hm,rfl,_,_,_,_,_,_,_,_,_,_,hrc,_⟩:=zHu hs hlt (zK hbel);obtain ⟨f6,f7,f8,f9⟩:x.user.size<=140737488355328/\x.folder.size<=140737488355328/\x.name.size<=140737488355328/\x.other.size<=140737488355328:=by obtain ⟨_,_,_,q1,q2,q3,q4,_⟩:=hrc;exact ⟨q1,q2,q3,q4⟩
 cases hf:zFy x with
 | true=>
  obtain ⟨f1,f2,f3,f4,f5⟩:=zDw.1 hf;have d1:decide ((20:Int) < (x.user.size:Int))=false:=decide_eq_false (by omega);have d2:decide ((20:Int) < (x.folder.size:Int))=false:=decide_eq_false (by omega);have d3:decide ((20:Int) < (x.name.size:Int))=false:=decide_eq_false (by omega);have d4:decide ((20:Int) < (x.other.size:Int))=false:=decide_eq_false (by omega);have d5:decide ((600:Int) < (x.data.length:Int))=false:=decide_eq_false (by omega);have HN2:=zh (show ∀y∈l.take (k+1),zFy y=true by
   rw [qLtx,hx];intro y hy;rcases zmb hy with hy | hy
   ·exact HN.out y hy
   ·obtain rfl:y=x:=by simpa using hy
    exact hf)
  clear hx hm hf f1 f2 f3 f4 f5 f6 f7 f8 f9;go_wp2;go_roundw
  case rel=>exact ⟨k+1,by omega,by go_num,HN2,by go_grown⟩
  case measure=>exact qMx
 | false=>
  have HF:=zh (show zAx l=false by
   unfold zAx;rw [Bool.and_eq_false_iff];exact .inl (List.all_eq_false.2 ⟨x,hm,by rw [hf];decide⟩))
  have HX:=zh (show ¬(x.user.size<=20/\x.folder.size<=20/\x.name.size<=20/\x.other.size<=20/\x.data.length<=600) from fun h=>by rw [zDw.2 h] at hf;cases hf);clear hx hm hf;go_wp2
  all_goals first
   | (go_ret;exact ⟨ZM HF.out.symm,by go_grown⟩)
   | (exfalso;have hX:=HX.out;simp_all;omega)
theorem zF4:∀(l:List Epoch) (e:Int),Y8 l e=e+l.length↔∀x∈l,x.place≠1
 | [],e=>by simp [Y8]
 | x :: l,e=>by
  rw [Y8];split
  ·rename_i h;constructor
   ·intro h2;simp only [List.length_cons] at h2;omega
   ·intro h2;exact absurd h (h2 x (List.mem_cons_self ..))
  ·rename_i h;rw [List.length_cons,show e+((l.length+1:Nat):Int)=e+1+l.length by omega,zF4 l (e+1)];constructor
   ·intro h2 y hy;rcases List.mem_cons.1 hy with rfl | hy
    ·exact h
    ·exact h2 y hy
   ·intro h2 y hy;exact h2 y (zmc _ hy)
theorem z8m {l:List Epoch} {e:Int} (h1:1<=e) (h2:e<=l.length):yC l e=l.length↔∀x∈l.drop e.toNat,x.place≠1:=by
 rw [yC,if_pos ⟨h1,h2⟩,<-zF4 _ e,List.length_drop];constructor
 ·intro h;omega
 intro h;omega
theorem zGz (l:List Epoch):∀k:Nat,z04 l k<=k
 | 0=>znl _
 | 1=>znl _
 | k+2=>by
  rw [z04];split
  ·exact znl _
  ·exact qNtx (zGz l (k+1)) (by omega)
theorem zH0 {l:List Epoch} {i:Nat} {x:Epoch} (hx:l[i]? =some x) (hp:x.place=1):∀k:Nat,i < k->i+1<=z04 l k
 | 0,h=>by omega
 | 1,h=>by rw [z04];omega
 | k+2,h=>by
  rw [z04];by_cases e:i=k+1
  ·rw [<-e,hx,Option.map_some,hp,if_pos rfl];omega
  ·split
   ·omega
   ·exact zH0 hx hp (k+1) (by omega)
theorem zHg {l:List Epoch} {e:Int} (h1:1<=e) (h2:e<=l.length) (h:YG l e=YG l l.length):yC l e=l.length:=by
 rw [z8m h1 h2];intro x hx hp;obtain ⟨_,hj⟩:=List.getElem?_of_mem hx;rw [List.getElem?_drop] at hj;have hlt:=(zge hj).1;have h3:=zH0 hj hp l.length hlt;have h4:=zGz l e.toNat;rw [YG,YG,if_pos ⟨h1,h2⟩,if_pos ⟨by omega,Int.le_refl _⟩,show ((l.length:Int)).toNat=l.length by omega] at h;omega
theorem zKf {l:List Epoch} {x:Epoch} {e:Int} (h1:1<=e) (h2:e<=l.length) (h:yC (l++[x]) e=l.length+1):x.place≠1/\yC l e=l.length:=by
 have h3:yC (l++[x]) e=((l++[x]).length:Int):=by rw [h];simp
 rw [z8m h1 (by simp;omega),List.drop_append_of_le_length (by omega)] at h3;exact ⟨h3 x (List.mem_append_right _ (by simp)),(z8m h1 h2).2 fun y hy=>h3 y (List.mem_append_left _ hy)⟩
def z1x (f:Folder) (w:Wrap):Prop:=yR f.epochs w=f.epochs.length
theorem zPg {l:List Epoch} {w:Wrap} {b:Bool} (h:1<=w.epoch/\w.epoch<=l.length) (k:z4d l w b=true):yR l w=l.length:=by
 unfold z4d at k;rw [Bool.or_eq_true,qBqx,qBqx,decide_eq_true_eq,decide_eq_true_eq] at k;rcases k with ⟨k1,k2⟩ | ⟨_,k2⟩
 ·unfold yR;rw [k1,if_pos rfl];exact zHg h.1 h.2 k2
 have h1:1<=l.length:=by omega
 have:=z5m h1 w.name w.seed;rw [<-k2] at this;rw [<-k2];exact this
theorem zAv (eps:List Epoch) (h1:1<=eps.length) (name:Nm) (b:Bool):∀{l:List Wrap},(∀w∈l,1<=w.epoch/\w.epoch<=eps.length)->∃w∈z1m eps name b l,w.name=name/\yR eps w=eps.length
 | [],_=>⟨_,List.mem_singleton.2 rfl,rfl,z5m h1 _ _⟩
 | x :: r,h=>by
  unfold z1m;split
  ·rename_i e;split
   ·rename_i k;exact ⟨x,List.mem_cons_self ..,e,zPg (h x (List.mem_cons_self ..)) k⟩
   ·exact ⟨_,List.mem_cons_self ..,rfl,z5m h1 _ _⟩
  ·split
   ·exact ⟨_,List.mem_cons_self ..,rfl,z5m h1 _ _⟩
   ·obtain ⟨w,hw,e1,e2⟩:=zAv eps h1 name b (l:=r) fun z hz=>h z (zmc _ hz)
    exact ⟨w,zmc _ hw,e1,e2⟩
theorem zDt {f f':Folder} (h:Gro f f') (he:f'.epochs=f.epochs) {w:Wrap} (hw:w∈f.wraps) (hwe:z1x f w):∃w'∈f'.wraps,w'.name=w.name/\z1x f' w':=by
 obtain ⟨w',hw',e1,e2⟩:=h.1.wr w hw;have hb:=(zDs (h.2.1 w' hw')).2;unfold z1x at hwe⊢;rw [he] at e2 hb⊢;exact ⟨w',hw',e1,by omega⟩
theorem zS6 (sd:Member->Bool) (ms:List Member) (f:Folder):(ZZ sd f ms).epochs=f.epochs:=(z4v sd ms f).ep
theorem zN1 (sd:Member->Bool):∀(ms:List Member) (f:Folder),(ZZ sd f ms).links=f.links
 | [],_=>rfl
 | m :: r,f=>zN1 sd r (yO f m.name (sd m))
theorem zPh (sd:Member->Bool):∀(ms:List Member) {f:Folder},WOk f->1<=f.epochs.length->∀m∈ms,∃w∈(ZZ sd f ms).wraps,w.name=m.name/\z1x (ZZ sd f ms) w
 | [],_,_,_,m,hm=>by cases hm
 | x :: r,f,h,h1,m,hm=>by
  have k:=z9o h h1 x.name (sd x);have hr:=zAt sd r k.2.1 k.2.2;rcases List.mem_cons.1 hm with rfl | hm
  ·obtain ⟨w,hw,e1,e2⟩:=zAv f.epochs h1 m.name (sd m) h;obtain ⟨w',hw',e3,e4⟩:=zDt hr (zS6 sd r _) (w:=w) hw e2;exact ⟨w',hw',e3.trans e1,e4⟩
  ·exact zPh sd r k.2.1 k.2.2 m hm
theorem zJ3 (sd:Member->Bool):∀(ms:List Member) {f:Folder} {w:Wrap},w∈(ZZ sd f ms).wraps->w∈f.wraps\/∃m∈ms,w=⟨m.name,f.epochs.length,sd m⟩
 | [],_,_,h=> .inl h
 | x :: r,f,w,h=>by
  rcases zJ3 sd r (f:=yO f x.name (sd x)) h with h | ⟨m,hm,e⟩
  ·rcases z5h h with h | h
   ·exact .inr ⟨x,List.mem_cons_self ..,h⟩
   ·exact .inl h
  ·exact .inr ⟨m,zmc _ hm,e⟩
theorem zH1 (st:State):∀(l:List At) {f:Folder} {w:Wrap},w∈(Y1 st l f).wraps->w∈f.wraps\/w.seed=false/\∃x∈l,∃m∈(zH ((zP st x.name).getD yH)).members,m.name=w.name
 | [],_,_,h=> .inl h
 | x :: r,f,w,h=>by
  unfold Y1 at h;split at h
  ·rcases zH1 st r h with h | ⟨h1,y,hy,h2⟩
   ·rcases zJ3 _ _ h with h | ⟨m,hm,e⟩
    ·exact .inl h
    ·exact .inr ⟨by rw [e],x,List.mem_cons_self ..,m,hm,by rw [e]⟩
   ·exact .inr ⟨h1,y,zmc _ hy,h2⟩
  ·split at h
   ·exact .inl h
   ·exact .inl h
theorem zF5 (st:State):∀(l:List At) {f:Folder} {y:Link},y∈(Y1 st l f).links->y∈f.links\/∃x∈l,ZJ st x.name=false/\y=⟨f.epochs.length,x.name,((zP st x.name).getD yH).epochs.length⟩
 | [],_,_,h=> .inl h
 | x :: r,f,y,h=>by
  unfold Y1 at h;split at h
  ·rcases zF5 st r h with h | ⟨z,hz,h1,e⟩
   ·rw [zN1] at h;exact .inl h
   ·rw [zS6] at e;exact .inr ⟨z,zmc _ hz,h1,e⟩
  ·rename_i hs;split at h
   ·exact .inl h
   ·rcases zmb h with h | h
    ·exact .inl h
    ·exact .inr ⟨x,List.mem_cons_self ..,by simpa using hs,zml h⟩
section
def NF (f:Folder):Prop:=ZA f.name=true/\(f.items.map Item.name).Nodup/\∀s∈f.items.map Item.name,ZA s=true
structure NInv (st:State):Prop where
 us:(st.users.map User.name).Nodup
 un:∀s∈st.users.map User.name,ZA s=true
 fn:∀f∈st.folders,NF f
theorem NInv.start:NInv ⟨0,[],[],[]⟩:=⟨List.nodup_nil,fun _ h=>(by cases h),fun _ h=>(by cases h)⟩
theorem NF.of {f f':Folder} (h:NF f) (h1:f'.name=f.name) (h2:f'.items.map Item.name=f.items.map Item.name):NF f':=by unfold NF;rw [h1,h2];exact h
section
variable {n:Nat} {st:State} {c:Call}
theorem NInv.set (h:NInv st) {k:Nat} {f':Folder} (hf:NF f'):NInv (setF st k f'):=⟨h.us,h.un,fun g hg=>by
 rcases List.mem_or_eq_of_mem_set hg with e | e
 ·exact h.fn g e
 ·rw [e];exact hf⟩
theorem NInv.turn (h:NInv st) (t:Int):NInv { st with turn:=t }:=⟨h.us,h.un,h.fn⟩
theorem zAw (h:NInv st) {k:Nat} (hk:k < st.folders.length):NF (fo st k):=h.fn _ (yN hk)
theorem zS9 (h:NInv st) {k:Nat} (hk:k < st.folders.length) (i:Option Nat) (name:Nm) (hi:i=none->ZA name=true/\name∉(fo st k).items.map Item.name) (v:Version):NInv (z4b st k i name v).1:=by
 unfold z4b
 cases i with
 | none=>
  obtain ⟨h1,h2⟩:=hi rfl;obtain ⟨a,b,c⟩:=zAw h hk;refine h.set ⟨a,?_,fun s hs=>?_⟩
  ·dsimp only;rw [List.map_append,List.nodup_append];exact ⟨b,by simp,fun x hx y hy e=>h2 (by rw [List.map_cons,List.map_nil,List.mem_singleton] at hy;rw [<-show x=name from e.trans hy];exact hx)⟩
  dsimp only at hs;rw [List.map_append] at hs;rcases zmb hs with e | e
  ·exact c s e
  rw [List.map_cons,List.map_nil,List.mem_singleton] at e
  rw [e];exact h1
 | some j=>
  refine h.set ((zAw h hk).of rfl ?_);dsimp only;rw [List.map_set];unfold ZX
  cases hj:(fo st k).items[j]? with
  | none=>rw [List.set_eq_of_length_le (by rw [qLmx];exact List.getElem?_eq_none_iff.1 hj)]
  | some x=>exact List.set_eq_self_of (by rw [List.getElem?_map,hj];rfl)
theorem zTi {f:Folder} {s:Nm} (h:z01 f s=none):s∉f.items.map Item.name:=fun hm=>by
 obtain ⟨x,hx,e⟩:=List.mem_map.1 hm;have:=List.findIdx?_eq_none_iff.1 h x hx;simp [isI,e] at this
theorem zSa (h:NInv st) {k:Nat} (hk:k < st.folders.length) (hc:ZA c.name=true):NInv (z1r st c k).1:=by
 unfold z1r;dsimp only;obtain ⟨s1,hs1⟩:∃s1,(if ZJ st c.folder then YR st k c.user else st)=s1:=⟨_,rfl⟩;rw [hs1];have g1:NInv s1/\s1.folders.length=st.folders.length/\(fo s1 k).items=(fo st k).items:=by
  rw [<-hs1];split
  ·have g:=z4v (fun x=>decide (2<=x.role)) (zH (fo st k)).members { fo st k with epochs:=(fo st k).epochs++[z2b st (fo st k) c.user] };exact ⟨h.set ((zAw h hk).of g.name (by rw [g.it])),Y4,by unfold YR;rw [Y3 hk];exact g.it⟩
  ·exact ⟨h,rfl,rfl⟩
 obtain ⟨g1,_,e1⟩:=g1;have hk1:k < s1.folders.length:=by omega
 have gc:=z3y s1 ((zN s1 4 (fo s1 k).name).drop 1) (fo s1 k);have g2:NInv (yJ s1 k):=g1.set ((zAw g1 hk1).of gc.name (by rw [gc.it]));refine zS9 g2 (by rw [zGy];exact hk1) _ _ (fun hi=>⟨hc,?_⟩) _;unfold yJ;rw [Y3 hk1,gc.it,e1];exact zTi hi
theorem zRq (h:NInv st) (hc:ZA c.folder=true):NInv (z1v st c):=by
 unfold z1v;dsimp only;rw [z6r];obtain ⟨e1,he1⟩:∃e1:Epoch,(⟨1,1,1,zN { st with folders:=st.folders++[ZI st c] } 4 c.folder,c.user⟩:Epoch)=e1:=⟨_,rfl⟩;rw [he1];have hnf:NF { ZI st c with epochs:=[e1] }:=⟨hc,by simp [ZI],fun s hs=>by simp [ZI] at hs⟩;have g1:NInv { st with folders:=st.folders++[{ ZI st c with epochs:=[e1] }] }:=⟨h.us,h.un,fun f hf=>by
  rcases zmb hf with e | e
  ·exact h.fn f e
  ·rw [zml e];exact hnf⟩
 refine NInv.turn (st:=yJ _ _) ?_ _;unfold yJ;rw [zFn];have gc:=z3y { st with folders:=st.folders++[{ ZI st c with epochs:=[e1] }] } ((zN { st with folders:=st.folders++[{ ZI st c with epochs:=[e1] }] } 4 ({ ZI st c with epochs:=[e1] }:Folder).name).drop 1) { ZI st c with epochs:=[e1] };exact g1.set (hnf.of gc.name (by rw [gc.it]))
theorem zUw {late:Bool} (h:NInv st) (hc:CallOk c) (hn:(c.kind=8->ZA c.name=true)) (hb:ZV st c late=0):NInv (doR st c).1:=by
 unfold doR;dsimp only;by_cases k1:c.kind=1
 ·rw [if_pos k1];unfold YS;refine zM (fun _=>h) fun h1=>zM (fun _=>h) fun h2=>⟨?_,fun s hs=>?_,h.fn⟩
  ·dsimp only;rw [List.map_append,List.nodup_append];refine ⟨h.us,by simp,fun x hx y hy e=>h1 ?_⟩;rw [List.map_cons,List.map_nil,List.mem_singleton] at hy;obtain ⟨z,hz,e2⟩:=List.mem_map.1 hx;unfold Y6;rw [List.findIdx?_isSome,List.any_eq_true];exact ⟨z,hz,decide_eq_true (e2.trans (e.trans hy))⟩
  dsimp only at hs;rw [List.map_append] at hs;rcases zmb hs with e | e
  ·exact h.un s e
  rw [List.map_cons,List.map_nil,List.mem_singleton] at e;rw [e];exact hc.user
 rw [if_neg k1];obtain ⟨⟨_,_⟩,hfol,_,_⟩:=z5i hc k1 hb;by_cases k2:c.kind=2
 ·rw [if_pos k2];unfold YH;exact zM (fun _=>h) fun h1=>zM (fun _=>h) fun h2=>zM (fun _=>h) fun h3=>zRq h (hc.fol (by omega) (by omega))
 rw [if_neg k2];have hthere:c.kind<=13->∃k,Z3 st c.folder=some k/\k < st.folders.length:=fun h13=>by
  obtain ⟨k,hk⟩:=hfol (z3e (hc.fol (by have:=hc.k1;omega) h13)) k2;exact ⟨k,hk,(Y9 (z1h hk).1).1⟩
 by_cases k3:c.kind=3
 ·rw [if_pos k3];obtain ⟨k,hk,hkl⟩:=hthere (by omega);rw [hk,Option.getD_some];unfold z2o;refine zM (fun _=>h) fun _=>zM (fun _=>h) fun _=>zM (fun _=>h) fun h1=>zM (fun _=>h) fun h2=>?_
  unfold z6i;dsimp only;have g1:NInv (setF st k (y9 (fo st k) { zH (fo st k) with parent:=c.other,cut:=(zH (fo st k)).seq+1 } c.user)):=h.set ((zAw h hkl).of rfl rfl);refine NInv.turn (st:=yJ _ _) ?_ _;have gc:=z3y (setF st k (y9 (fo st k) { zH (fo st k) with parent:=c.other,cut:=(zH (fo st k)).seq+1 } c.user)) ((zN (setF st k (y9 (fo st k) { zH (fo st k) with parent:=c.other,cut:=(zH (fo st k)).seq+1 } c.user)) 4 (fo (setF st k (y9 (fo st k) { zH (fo st k) with parent:=c.other,cut:=(zH (fo st k)).seq+1 } c.user)) k).name).drop 1) (fo (setF st k (y9 (fo st k) { zH (fo st k) with parent:=c.other,cut:=(zH (fo st k)).seq+1 } c.user)) k);exact g1.set ((zAw g1 (by rw [Y4];exact hkl)).of gc.name (by rw [gc.it]))
 rw [if_neg k3];by_cases k4:c.kind=4
 ·rw [if_pos k4];obtain ⟨k,hk,hkl⟩:=hthere (by omega);rw [hk,Option.getD_some];unfold z0m;exact zM (fun _=>h) fun _=>zM (fun _=>h) fun h1=>NInv.turn (h.set (k:=k) (f':=y9 (fo st k) { zH (fo st k) with gone:=true } c.user) ((zAw h hkl).of rfl rfl)) _
 rw [if_neg k4];by_cases k5:c.kind=5\/c.kind=6\/c.kind=7
 ·rw [if_pos k5];obtain ⟨k,hk,hkl⟩:=hthere (by omega);rw [hk,Option.getD_some];unfold Y2;dsimp only;refine zM (fun _=>h) fun h1=>zM (fun _=>h) fun _=>h.set ((zAw h hkl).of ?_ ?_)
  ·unfold y9;dsimp only;split<;>rfl
  unfold y9;dsimp only;split<;>rfl
 rw [if_neg k5];by_cases k8:c.kind=8
 ·rw [if_pos k8];obtain ⟨k,hk,hkl⟩:=hthere (by omega);rw [hk,Option.getD_some];unfold z2s;refine zM (fun _=>h) fun _=>?_
  split
  ·exact zM (fun _=>h) fun _=>zSa h hkl (hn k8)
  exact zM (fun _=>h) fun _=>zSa h hkl (hn k8)
 rw [if_neg k8];by_cases k9:c.kind=9
 ·rw [if_pos k9];exact h
 rw [if_neg k9];by_cases k10:c.kind=10
 ·rw [if_pos k10];exact h
 rw [if_neg k10];by_cases k11:c.kind=11
 ·rw [if_pos k11];obtain ⟨k,hk,hkl⟩:=hthere (by omega);rw [hk,Option.getD_some];unfold z2p;refine zM (fun _=>h) fun _=>?_
  split
  ·exact h
  exact zM (fun _=>h) fun _=>zM (fun _=>h) fun _=>zS9 h hkl _ _ (fun e=>by cases e) _
 rw [if_neg k11];by_cases k12:c.kind=12
 ·rw [if_pos k12];exact h
 rw [if_neg k12];have hlost:∀(s:Nm) (b:Bool),NInv (lostS st s b):=fun s b=>by
  unfold lostS;split
  ·exact h
  ·exact ⟨by rw [z78];exact h.us,by rw [z78];exact h.un,h.fn⟩
 by_cases k14:c.kind=14
 ·rw [if_pos k14];unfold z1d;exact zM (fun _=>h) fun _=>⟨h.us,h.un,h.fn⟩
 rw [if_neg k14];by_cases k15:c.kind=15
 ·rw [if_pos k15];exact hlost _ _
 rw [if_neg k15];by_cases k16:c.kind=16
 ·rw [if_pos k16];unfold z0h;exact zM (fun _=>h) fun _=>zM (fun _=>h) fun _=>hlost _ _
 rw [if_neg k16];exact h
theorem zRr (h:z6c c=true) (hk:c.kind=8):ZA c.name=true:=by
 unfold z6c at h;rw [zOx ZA (by rfl) _ _ _ _ _ _ _ _ (by omega)] at h;unfold zDq at h;rw [qBqx,qBqx,qBqx,qBqx,qBqx,qBqx,qBqx,qBqx,qBqx,qBqx] at h;obtain ⟨⟨⟨⟨⟨⟨⟨⟨⟨⟨_,_⟩,_⟩,_⟩,_⟩,_⟩,h7⟩,_⟩,_⟩,_⟩,_⟩:=h;simpa [hk] using h7
theorem zD2 {q r:Int} (h:NInv st) (hs:z4e c):NInv (ZU st q r c).1:=by
 unfold ZU
 cases hm:z6c c with
 | false=>exact h
 | true=>
  obtain ⟨k1,k2⟩:=z7e hm hs.1 hs.2.1 hs.2.2.1 hs.2.2.2;have hn:NInv (yY st c false).1:=by
   unfold yY;split
   ·exact h
   ·rename_i hb;exact zUw h k1 (fun k=>zRr hm k) (by simpa using hb)
  show NInv (doV st q r c false).1
  unfold doV;exact zM (fun _=>zM (fun _=>h) fun _=>hn) fun _=>h
theorem zPm {α:Type} (key:α->Nm) {l:List α} (h:(l.map key).Nodup) {i:Nat} {x:α} (hx:l[i]? =some x):l.findIdx? (fun y=>decide (key y=key x))=some i:=by
 obtain ⟨hi,e⟩:=zge hx;refine List.findIdx?_eq_some_iff_getElem.2 ⟨hi,by simp [e],fun j hj=>?_⟩;have:=List.pairwise_iff_getElem.1 h j i (by simp;omega) (by simpa using hi) hj;simp only [List.getElem_map] at this;rw [e] at this;simpa using this
end
end
section
def z1y (st:State) (s:Nm):Int:=(zH ((zP st s).getD yH)).seq
def z0y (st:State) (f:Folder):Prop:=∃e,f.epochs.getLast? =some e/\e.chain.map At.name=ch (Z8 st) f.name/\∀y∈e.chain,YE st y.name<=y.seq
theorem zJ5 (st:State):∀(a b:List At),a.length=b.length->(Y0 st a b=false↔a.map At.name=b.map At.name/\∀y∈a,YE st y.name<=y.seq)
 | [],[],_=>by simp [Y0]
 | [],b :: q,h=>by simp at h
 | a :: r,[],h=>by simp at h
 | a :: r,b :: q,h=>by
  have ih:=zJ5 st r q (by simpa using h);unfold Y0;simp only [List.map_cons,List.cons.injEq,List.forall_mem_cons];by_cases e:a.name=b.name
  ·rw [if_pos e,<-e];by_cases c:a.seq < YE st a.name
   ·rw [if_pos c];constructor
    ·intro k;cases k
    ·intro k;have:=k.2.1;omega
   ·rw [if_neg c,ih];constructor
    ·intro k;exact ⟨⟨rfl,k.1⟩,by omega,k.2⟩
    ·intro k;exact ⟨k.1.2,k.2.2⟩
  ·rw [if_neg e];constructor
   ·intro k;cases k
   ·intro k;exact absurd k.1.1 e
theorem z8b {n:Nat} {st:State} (h:VInv n st) {f:Folder} (hf:f∈st.folders) (hl:(zH f).gone=false):ZJ st f.name=false↔z0y st f:=by
 have hfind:=z1f h.names hf;have hlive:ZC (Z8 st) f.name=true:=z1g.2 ⟨f,hfind,hl⟩;have hch:=z5c h.tree h.top 4 f.name (.inr hlive) (h.tree.deep _);obtain ⟨e,he⟩:∃e,f.epochs.getLast? =some e:=⟨_,List.getLast?_eq_some_getLast (h.fol f hf).ep⟩;unfold ZJ;rw [hfind];dsimp only;rw [he];dsimp only;by_cases hlen:e.chain.length=(zN st 4 f.name).length
 ·rw [if_pos hlen,zJ5 st _ _ hlen,hch];constructor
  ·rintro ⟨h1,h2⟩;exact ⟨e,he,h1,h2⟩
  rintro ⟨e',he',h1,h2⟩;obtain rfl:=zsi (he.symm.trans he');exact ⟨h1,h2⟩
 rw [if_neg hlen];constructor
 ·intro k;cases k
 rintro ⟨e',he',h1,h2⟩;obtain rfl:=zsi (he.symm.trans he');have:=congrArg List.length h1;rw [<-hch] at this;simp only [qLmx] at this;exact absurd this hlen
def zJ6 (st:State) (s u:Nm):Prop:=∃x∈ch (Z8 st) s,∃g,zP st x=some g/\∃m∈(zH g).members,m.name=u
def J1 (st:State) (f:Folder):Prop:=∀w∈f.wraps,z1x f w->zJ6 st f.name w.name
def J2 (st:State) (f:Folder):Prop:=∀l∈f.links,l.epoch=f.epochs.length->l.to∈ch (Z8 st) (yQ (Z8 st) f.name)/\∃g,zP st l.to=some g/\z0y st g/\l.seq=g.epochs.length
structure LInv (f:Folder):Prop where
 ct:(zH f).cut<=(zH f).seq
 pl:∀e∈f.epochs,1<=e.place
 lk:∀l∈f.links,l.epoch<=f.epochs.length
 fr:∀e,f.epochs.getLast? =some e->e.frm<=(zH f).seq
 mb:∀m∈(zH f).members,∃w∈f.wraps,w.name=m.name/\z1x f w
 sd:∀e,f.epochs.getLast? =some e->∀w∈f.wraps,w.seed=true->z1x f w->∃m∈f.manifests,e.frm<=m.seq/\∃x∈m.members,x.name=w.name/\2<=x.role
structure RInv (st:State):Prop where
 fol:∀f∈st.folders,LInv f
 ks:∀f∈st.folders,∀e,f.epochs.getLast? =some e->∀y∈e.chain,y.seq<=z1y st y.name
 ns:∀f∈st.folders,(zH f).gone=false->z0y st f->J1 st f/\J2 st f
section
variable {n:Nat} {st:State}
theorem zPi (h:VInv n st) {s u:Nm} (hl:ZC (Z8 st) s=true) (k:zJ6 st s u):u∈z05 st (zN st 4 s):=by
 obtain ⟨_,hx,_,hg,m,hm,e⟩:=k;rw [<-z5c h.tree h.top 4 s (.inr hl) (h.tree.deep _)] at hx;obtain ⟨y,hy,rfl⟩:=List.mem_map.1 hx;unfold z05;rw [List.mem_flatMap];exact ⟨y,hy,List.mem_map.2 ⟨m,by rw [hg];exact hm,e⟩⟩
def zN2 (st:State) (s:Nm):GN->Prop
 | (false,u,_)=>zBc st s u
 | (true,g,e)=>g∈ch (Z8 st) s/\∃G,zP st g=some G/\z0y st G/\e=G.epochs.length
theorem zPj (h:VInv n st) (hR:RInv st) (hW:z1t st) {s:Nm} (hl:ZC (Z8 st) s=true) {a b:GN} (hab:(a,b)∈z3t st) (hb:zN2 st s b):zN2 st s a:=by
 rw [z3j] at hab;rcases hab with ⟨p,hp,rfl,rfl⟩ | ⟨f,hf,hab⟩
 ·exact .step hb (z9p.2 ⟨p,hp,rfl,rfl⟩)
 have hfm:=z6x _ _ _ hf;have hfind:=z1f h.names hfm;rcases hab with ⟨e,h1,h2,rfl,rfl⟩ | ⟨w,hw,rfl,rfl⟩ | ⟨x,hx,rfl,rfl⟩
 ·obtain ⟨_,G,hG,_,he⟩:=hb;rw [hfind] at hG;obtain rfl:=zsi hG;omega
 ·obtain ⟨hg,G,hG,hFr,he⟩:=hb;rw [hfind] at hG;obtain rfl:=zsi hG;have hlive:=z1i hg;obtain ⟨G',hG',hgone⟩:=z1g.1 hlive;rw [hfind] at hG';obtain rfl:=zsi hG';obtain ⟨x,hx,g,hg2,m,hm,e2⟩:=(hR.ns f hfm hgone hFr).1 w (z6x _ _ _ hw) he;exact .seed (zPi h hl ⟨x,z7f h.tree hg hx,g,hg2,m,hm,e2⟩)
 obtain ⟨hg,G,hG,hFr,he⟩:=hb;rw [hfind] at hG;obtain rfl:=zsi hG;have hlive:=z1i hg;obtain ⟨G',hG',hgone⟩:=z1g.1 hlive;rw [hfind] at hG';obtain rfl:=zsi hG';obtain ⟨h1,g,h2,h3,h4⟩:=(hR.ns f hfm hgone hFr).2 x hx he;refine ⟨z7f h.tree hg ?_,g,h2,h3,h4⟩;rw [z29 h.tree hlive];exact zmc _ h1
theorem zN3 (h:VInv n st) (hR:RInv st) (hW:z1t st) {s:Nm} (hl:ZC (Z8 st) s=true) {a b:GN} (r:Reach (z3t st) a b):zN2 st s b->zN2 st s a:=by
 induction r with
 | refl=>exact id
 | step _ hm ih=>exact fun hb=>ih (zPj h hR hW hl hm hb)
theorem zKg (h:VInv n st) (hR:RInv st) (hW:z1t st) {f:Folder} (hf:f∈st.folders) (hl:(zH f).gone=false) (hFr:z0y st f) {u:Nm} (r:z2w st u f.name f.epochs.length):zBc st f.name u:=by
 have hfind:=z1f h.names hf;have hlive:ZC (Z8 st) f.name=true:=z1g.2 ⟨f,hfind,hl⟩;exact zN3 h hR hW hlive r ⟨z38 h.tree hlive,f,hfind,hFr,rfl⟩
theorem zJ7 (h:VInv n st) (hR:RInv st) {f:Folder} (hf:f∈st.folders) {m:Member} (hm:m∈(zH f).members):z2w st m.name f.name f.epochs.length:=by
 obtain ⟨w,hw,e1,e2⟩:=(hR.fol f hf).mb m hm;refine .step .refl (z3j.2 (.inr ⟨f,zF0 _ h.names hf,.inr (.inl ⟨w,zF0 _ (zAh (h.fol f hf).wr) hw,by rw [e1],?_⟩)⟩));rw [e2]
end
end
section
theorem RInv.flds {a b:State} (h:RInv a) (e:b.folders=a.folders):RInv b:=by
 obtain ⟨_,_,_,f1⟩:=a;obtain ⟨_,_,_,f2⟩:=b;obtain rfl:f2=f1:=e;exact ⟨h.fol,h.ks,h.ns⟩
theorem z8c {st:State} {y:At}:∀{n:Nat} {s:Nm},y∈zN st n s->y.seq=z1y st y.name
 | 0,_,h=>by cases h
 | n+1,s,h=>by
  cases hf:zP st s with
  | none=>rw [z1q hf] at h;cases h
  | some f=>
   rw [z0w hf] at h;rcases List.mem_cons.1 h with rfl | h
   ·unfold z1y;dsimp only;rw [hf];rfl
   ·exact z8c h
theorem zJ8 {s:Nm}:∀{l:List Member},Ro.ofOf l s≠0->∃m∈l,m.name=s
 | [],h=>absurd rfl h
 | m :: r,h=>by
  rw [Ro.ofOf] at h;by_cases e:Ro.eqS m.name s=true
  ·refine ⟨m,List.mem_cons_self ..,?_⟩;unfold Ro.eqS at e;exact toList_inj (by simpa using e)
  ·rw [if_neg e] at h;obtain ⟨x,hx,e2⟩:=zJ8 h;exact ⟨x,zmc _ hx,e2⟩
section
variable {n:Nat} {st:State} {c:Call} {k:Nat} {f':Folder}
theorem zBd (hV:VInv n st) (hk:k < st.folders.length) (hn:f'.name=(fo st k).name) (hp:(zH f').parent=(zH (fo st k)).parent) (hg:(zH f').gone=(zH (fo st k)).gone):Z8 (setF st k f')=Z8 st:=by
 rw [zKz hV.names hk hn,hp,hg,hn];exact zIi (zS3 hV.names hk)
theorem z4f (hV:VInv n st) (hk:k < st.folders.length):zP st (fo st k).name=some (fo st k):=z1f hV.names (yN hk)
theorem zJ9 (hV:VInv n st) (hk:k < st.folders.length) (hn:f'.name=(fo st k).name) (hm:zH f'=zH (fo st k)) (s:Nm):zH ((zP (setF st k f') s).getD yH)=zH ((zP st s).getD yH):=by
 rw [YT hV.names hk hn];split
 ·rename_i e;rw [e,hn,z4f hV hk];exact hm
 rfl
theorem zDv {a b:State} (h1:Z8 a=Z8 b) (h2:∀s,YE a s=YE b s) (g:Folder):z0y a g↔z0y b g:=by
 unfold z0y;rw [h1];simp only [h2]
theorem z6d {f f':Folder} (h:z0y st f) (hn:f'.name=f.name) (he:f'.epochs=f.epochs):z0y st f':=by
 unfold z0y at h⊢;rw [hn,he];exact h
theorem RInv.keep (hV:VInv n st) (hR:RInv st) (hk:k < st.folders.length) (hn:f'.name=(fo st k).name) (hm:zH f'=zH (fo st k)) (he:f'.epochs=(fo st k).epochs\/¬z0y st (fo st k)) (hL:LInv f')
  (hks:∀e,f'.epochs.getLast? =some e->∀y∈e.chain,y.seq<=z1y st y.name) (hns:(zH f').gone=false->z0y st f'->J1 st f'/\J2 st f'):RInv (setF st k f'):=by
 have hfs:=zBd hV hk hn (by rw [hm]) (by rw [hm]);have hnow:=zJ9 hV hk hn hm;have hcut:∀s,YE (setF st k f') s=YE st s:=fun s=>by unfold YE;rw [hnow]
 have hseq:∀s,z1y (setF st k f') s=z1y st s:=fun s=>by unfold z1y;rw [hnow]
 have hfr:=zDv (a:=setF st k f') (b:=st) hfs hcut;have hJ:∀g:Folder,J1 st g/\J2 st g->J1 (setF st k f') g/\J2 (setF st k f') g:=fun g ⟨j1,j2⟩=>by
  constructor
  ·intro w hw hwe;obtain ⟨x,hx,g',hg',m,hm',e⟩:=j1 w hw hwe;refine ⟨x,by rw [hfs];exact hx,?_⟩;rw [YT hV.names hk hn];by_cases e2:x=f'.name
   ·rw [if_pos e2];rw [e2,hn,z4f hV hk] at hg';obtain rfl:=zsi hg';exact ⟨f',rfl,m,by rw [hm];exact hm',e⟩
   ·rw [if_neg e2];exact ⟨g',hg',m,hm',e⟩
  ·intro l hl hle;obtain ⟨h1,G,h2,h3,h4⟩:=j2 l hl hle;refine ⟨by rw [hfs];exact h1,?_⟩;rw [YT hV.names hk hn];by_cases e2:l.to=f'.name
   ·rw [if_pos e2];rw [e2,hn,z4f hV hk] at h2;obtain rfl:=zsi h2;rcases he with he | he
    ·exact ⟨f',rfl,(hfr _).2 (z6d h3 hn he),by rw [he];exact h4⟩
    ·exact absurd h3 he
   ·rw [if_neg e2];exact ⟨G,h2,(hfr _).2 h3,h4⟩
 refine ⟨fun g hg=>?_,fun g hg e he' y hy=>?_,fun g hg hgone hF=>?_⟩
 ·rcases List.mem_or_eq_of_mem_set hg with hx | rfl
  ·exact hR.fol g hx
  exact hL
 ·rw [hseq];rcases List.mem_or_eq_of_mem_set hg with hx | rfl
  ·exact hR.ks g hx e he' y hy
  exact hks e he' y hy
 rcases List.mem_or_eq_of_mem_set hg with hx | rfl
 ·exact hJ g (hR.ns g hx hgone ((hfr g).1 hF))
 exact hJ g (hns hgone ((hfr g).1 hF))
theorem zPk (hV:VInv n st) (hR:RInv st) (hk:k < st.folders.length) (h1:f'.name=(fo st k).name) (h2:f'.manifests=(fo st k).manifests) (h3:f'.epochs=(fo st k).epochs) (h4:f'.wraps=(fo st k).wraps) (h5:f'.links=(fo st k).links):RInv (setF st k f'):=by
 have hm:=z0c h2;have hL:=hR.fol _ (yN hk);have hAE:∀w,z1x f' w↔z1x (fo st k) w:=fun w=>by unfold z1x;rw [h3]
 refine hR.keep hV hk h1 hm (.inl h3) ⟨by rw [hm];exact hL.ct,by rw [h3];exact hL.pl,by rw [h3,h5];exact hL.lk,by rw [h3,hm];exact hL.fr,?_,?_⟩ (by rw [h3];exact hR.ks _ (yN hk)) fun hg hF=>?_
 ·rw [hm,h4];intro m hmm;obtain ⟨w,a,b,d⟩:=hL.mb m hmm;exact ⟨w,a,b,(hAE w).2 d⟩
 ·rw [h3,h4,h2];exact fun e he w hw hs hwe=>hL.sd e he w hw hs ((hAE w).1 hwe)
 rw [hm] at hg;obtain ⟨j1,j2⟩:=hR.ns _ (yN hk) hg (z6d hF h1.symm h3.symm);unfold J1 J2;rw [h1,h3,h4,h5];exact ⟨fun w hw hwe=>j1 w hw ((hAE w).1 hwe),j2⟩
theorem zS7 (hV:VInv n st) (hR:RInv st) (hk:k < st.folders.length) (i:Option Nat) (name:Nm) (v:Version):RInv (z4b st k i name v).1:=by
 unfold z4b
 cases i with
 | none=>exact zPk hV hR hk rfl rfl rfl rfl rfl
 | some j=>exact zPk hV hR hk rfl rfl rfl rfl rfl
theorem zFw (hV:VInv n st) (hR:RInv st) (hW:z1t st) (hk:k < st.folders.length):RInv (yJ st k):=by
 have hg:=z3y st ((zN st 4 (fo st k).name).drop 1) (fo st k);have hgro:=z89 st ((zN st 4 (fo st k).name).drop 1) (z5w hW hk) (z54 hV hk);have hL:=hR.fol _ (yN hk);have hcn:=fun {w:Wrap}=>zH1 st ((zN st 4 (fo st k).name).drop 1) (f:=fo st k) (w:=w)
 have hcl:=fun {y:Link}=>zF5 st ((zN st 4 (fo st k).name).drop 1) (f:=fo st k) (y:=y)
 unfold yJ;generalize Y1 st ((zN st 4 (fo st k).name).drop 1) (fo st k)=f' at hg hgro hcn hcl;have hAE:∀w,z1x f' w↔z1x (fo st k) w:=fun w=>by unfold z1x;rw [hg.ep]
 refine hR.keep hV hk hg.name hg.now (.inl hg.ep) ⟨by rw [hg.now];exact hL.ct,by rw [hg.ep];exact hL.pl,fun l hl=>?_,by rw [hg.ep,hg.now];exact hL.fr,?_,?_⟩ (by rw [hg.ep];exact hR.ks _ (yN hk)) fun hgone hF=>?_
 ·rw [hg.ep];rcases hcl hl with h | ⟨x,_,_,rfl⟩
  ·exact hL.lk l h
  exact Int.le_refl _
 ·rw [hg.now];intro m hm;obtain ⟨w,hw,e1,e2⟩:=hL.mb m hm;obtain ⟨w',hw',e3,e4⟩:=zDt hgro hg.ep hw e2;exact ⟨w',hw',e3.trans e1,e4⟩
 ·rw [hg.ep,hg.man];intro e he w hw hs hwe;rcases hcn hw with h | ⟨h,_⟩
  ·exact hL.sd e he w h hs ((hAE w).1 hwe)
  rw [h] at hs;cases hs
 rw [hg.now] at hgone;have hfind:=z4f hV hk;have hlive:ZC (Z8 st) (fo st k).name=true:=z1g.2 ⟨_,hfind,hgone⟩;have hch:=z5c hV.tree hV.top 4 _ (.inr hlive) (hV.tree.deep _);obtain ⟨j1,j2⟩:=hR.ns _ (yN hk) hgone (z6d hF hg.name.symm hg.ep.symm);constructor
 ·intro w hw hwe;rw [hg.name];rcases hcn hw with h | ⟨_,x,hx,m,hm,e⟩
  ·exact j1 w h ((hAE w).1 hwe)
  have hxc:=List.mem_of_mem_drop hx;obtain ⟨g,hgf⟩:=z0d hxc;rw [hgf] at hm;exact ⟨x.name,by rw [<-hch];exact List.mem_map.2 ⟨x,hxc,rfl⟩,g,hgf,m,hm,e⟩
 intro l hl hle;rw [hg.name];rw [hg.ep] at hle;rcases hcl hl with h | ⟨x,hx,hst,rfl⟩
 ·exact j2 l h hle
 obtain ⟨g,hgf⟩:=z0d (List.mem_of_mem_drop hx);have hxp:x.name∈ch (Z8 st) (yQ (Z8 st) (fo st k).name):=by
  have h1:((zN st 4 (fo st k).name).drop 1).map At.name=(ch (Z8 st) (fo st k).name).drop 1:=by rw [<-hch,List.map_drop]
  rw [z29 hV.tree hlive,List.drop_succ_cons,List.drop_zero] at h1;rw [<-h1];exact List.mem_map.2 ⟨x,hx,rfl⟩
 obtain ⟨_,hg',hgg⟩:=z1g.1 (z1i hxp);rw [hgf] at hg';obtain rfl:=zsi hg';refine ⟨hxp,g,hgf,(z8b hV (z08 hgf) hgg).1 (by rw [YM hgf];exact hst),?_⟩;show (((zP st x.name).getD yH).epochs.length:Int)=_
 rw [hgf];rfl
end
end
section
section
variable {n:Nat} {st:State} {c:Call} {k:Nat} {f':Folder}
theorem zLd (f:Folder) {last:Epoch} (hl:f.epochs.getLast? =some last) (who:Nm) (hp:1<=last.place) (hf:last.frm<=(zH f).seq):
  (z2b st f who).chain=zN st 4 f.name/\(z2b st f who).frm<=(zH f).seq/\1<=(z2b st f who).place/\((z2b st f who).place≠1->(z2b st f who).frm=last.frm/\z5v f last.frm=true):=by
 unfold z2b;rw [hl,Option.getD_some];split
 ·rename_i h;rw [qBqx] at h;exact ⟨rfl,hf,by show 1<=last.place+1;omega,fun _=>⟨rfl,h.2⟩⟩
 exact ⟨rfl,Int.le_refl _,Int.le_refl _,fun h=>absurd rfl h⟩
theorem zRn {f:Folder} {frm:Int} (h:z5v f frm=true) {m:Manifest} (hm:m∈f.manifests) (hs:frm<=m.seq) {x:Member} (hx:x∈m.members) (hr:2<=x.role):∃y∈(zH f).members,y.name=x.name:=by
 unfold z5v at h;have h1:=List.all_eq_true.1 (List.all_eq_true.1 h m hm) x hx;by_cases e:Ro.ofOf (zH f).members x.name=0
 ·simp [hs,hr,e] at h1
 exact zJ8 e
theorem zTh (hV:VInv n st) (hR:RInv st) (hW:z1t st) (hk:k < st.folders.length) (hgo:(zH (fo st k)).gone=false) (hst:¬z0y st (fo st k)) (who:Nm):RInv (YR st k who):=by
 have hL:=hR.fol _ (yN hk);have hwok:=z5w hW hk;obtain ⟨last,hlast⟩:∃e,(fo st k).epochs.getLast? =some e:=⟨_,List.getLast?_eq_some_getLast (hV.atF hk).ep⟩;obtain ⟨c1,c2,c3,c4⟩:=zLd (st:=st) (fo st k) hlast who (hL.pl last (List.mem_of_getLast? hlast)) (hL.fr last hlast);have hro:=zAu hwok (z2b st (fo st k) who);unfold YR;generalize z2b st (fo st k) who=e at c1 c2 c3 c4 hro;have hg:=z4v (fun x=>decide (2<=x.role)) (zH (fo st k)).members { fo st k with epochs:=(fo st k).epochs++[e] };have hall:=zPh (fun x=>decide (2<=x.role)) (zH (fo st k)).members hro.2.1 hro.2.2;have hnew:=fun {w:Wrap}=>zJ3 (fun x=>decide (2<=x.role)) (zH (fo st k)).members (f:={ fo st k with epochs:=(fo st k).epochs++[e] }) (w:=w)
 have hlk:=zN1 (fun x=>decide (2<=x.role)) (zH (fo st k)).members { fo st k with epochs:=(fo st k).epochs++[e] };generalize ZZ (fun x=>decide (2<=x.role)) { fo st k with epochs:=(fo st k).epochs++[e] } (zH (fo st k)).members=f' at hg hall hnew hlk;have hep:f'.epochs=(fo st k).epochs++[e]:=hg.ep;have hm:zH f'=zH (fo st k):=hg.now;have hlen:(f'.epochs.length:Int)=(fo st k).epochs.length+1:=by rw [hep];simp
 have hle:f'.epochs.getLast? =some e:=by rw [hep];simp
 have hold:∀w∈(fo st k).wraps,z1x f' w->w.seed=true/\z1x (fo st k) w/\e.frm=last.frm/\z5v (fo st k) last.frm=true:=fun w hw hwe=>by
  have hb:=hwok w hw;unfold z1x at hwe;rw [hlen,hep] at hwe;unfold yR at hwe;by_cases hs:w.seed=true
  ·rw [if_pos hs] at hwe;obtain ⟨p1,p2⟩:=zKf hb.1 hb.2 hwe;refine ⟨hs,?_,c4 p1⟩;unfold z1x yR;rw [if_pos hs];exact p2
  ·rw [if_neg hs] at hwe;omega
 refine hR.keep hV hk hg.name hm (.inr hst) ⟨by rw [hm];exact hL.ct,?_,?_,?_,?_,?_⟩ ?_ fun hgone hF=>⟨?_,?_⟩
 ·rw [hep];intro x hx;rcases zmb hx with h | h
  ·exact hL.pl x h
  rw [zml h];exact c3
 ·rw [hlk];intro l hl;have:=hL.lk l hl;omega
 ·intro x hx;obtain rfl:=zsi (hle.symm.trans hx);rw [hm];exact c2
 ·rw [hm];exact hall
 ·intro x hx w hw hs hwe;obtain rfl:=zsi (hle.symm.trans hx);rw [show f'.manifests=(fo st k).manifests from hg.man];rcases hnew hw with h | ⟨m,hmm,rfl⟩
  ·obtain ⟨_,q2,q3,_⟩:=hold w h hwe;obtain ⟨m,hm1,hm2,hm3⟩:=hL.sd last hlast w h hs q2;exact ⟨m,hm1,by rw [q3];exact hm2,hm3⟩
  exact ⟨_,YK (hV.atF hk).man,c2,m,hmm,rfl,by simpa using hs⟩
 ·intro x hx y hy;obtain rfl:=zsi (hle.symm.trans hx);rw [c1] at hy;rw [z8c hy];exact Int.le_refl _
 ·intro w hw hwe;have hlive:ZC (Z8 st) (fo st k).name=true:=z1g.2 ⟨_,z4f hV hk,hgo⟩;rw [show f'.name=(fo st k).name from hg.name];have hin:∀u,(∃m∈(zH (fo st k)).members,m.name=u)->zJ6 st (fo st k).name u:=fun u ⟨m,hm1,hm2⟩=>⟨_,z38 hV.tree hlive,_,z4f hV hk,m,hm1,hm2⟩
  rcases hnew hw with h | ⟨m,hmm,rfl⟩
  ·obtain ⟨q1,q2,q3,q4⟩:=hold w h hwe;obtain ⟨m,hm1,hm2,x,hx,hxn,hxr⟩:=hL.sd last hlast w h q1 q2;obtain ⟨y,hy,hyn⟩:=zRn q4 hm1 hm2 hx hxr;exact hin _ ⟨y,hy,hyn.trans hxn⟩
  exact hin _ ⟨m,hmm,rfl⟩
 intro l hl hle2;rw [hlk] at hl;have:=hL.lk l hl;omega
theorem zKh (hV:VInv n st) (hR:RInv st) (hk:k < st.folders.length) (hgo:(zH (fo st k)).gone=false) (who:Nm):z0y st (fo (YR st k who) k):=by
 have hL:=hR.fol _ (yN hk);obtain ⟨last,hlast⟩:∃e,(fo st k).epochs.getLast? =some e:=⟨_,List.getLast?_eq_some_getLast (hV.atF hk).ep⟩;obtain ⟨c1,_,_,_⟩:=zLd (st:=st) (fo st k) hlast who (hL.pl last (List.mem_of_getLast? hlast)) (hL.fr last hlast);have hg:=z4v (fun x=>decide (2<=x.role)) (zH (fo st k)).members { fo st k with epochs:=(fo st k).epochs++[z2b st (fo st k) who] };unfold YR;rw [Y3 hk];have hlive:ZC (Z8 st) (fo st k).name=true:=z1g.2 ⟨_,z4f hV hk,hgo⟩;refine ⟨z2b st (fo st k) who,by rw [hg.ep];simp,?_,fun y hy=>?_⟩
 ·rw [c1,hg.name,z5c hV.tree hV.top 4 _ (.inr hlive) (hV.tree.deep _)]
 rw [c1] at hy;rw [z8c hy];obtain ⟨g,hgf⟩:=z0d hy;unfold YE z1y;rw [hgf];exact (hR.fol g (z08 hgf)).ct
theorem RInv.writeA (hV:VInv n st) (hR:RInv st) (hk:k < st.folders.length) (hn:f'.name=(fo st k).name) (he:f'.epochs=(fo st k).epochs) (hlk:f'.links=(fo st k).links) (hp:(zH f').parent=(zH (fo st k)).parent) (hg:(zH f').gone=(zH (fo st k)).gone) (hc:(zH f').cut=(zH (fo st k)).cut)
  (hs:(zH (fo st k)).seq<=(zH f').seq) (hmem:∀m∈(zH (fo st k)).members,∃m'∈(zH f').members,m'.name=m.name) (hL:LInv f') (hJ:∀w∈f'.wraps,z1x f' w->(∃w0∈(fo st k).wraps,w0.name=w.name/\z1x (fo st k) w0)\/∃m∈(zH f').members,m.name=w.name):RInv (setF st k f'):=by
 have hfs:=zBd hV hk hn hp hg;have hcut:∀s,YE (setF st k f') s=YE st s:=fun s=>by
  unfold YE;rw [YT hV.names hk hn];split
  ·rename_i e;rw [e,hn,z4f hV hk];exact hc
  ·rfl
 have hseq:∀s,z1y st s<=z1y (setF st k f') s:=fun s=>by
  unfold z1y;rw [YT hV.names hk hn];split
  ·rename_i e;rw [e,hn,z4f hV hk];exact hs
  ·exact Int.le_refl _
 have hfr:=zDv (a:=setF st k f') (b:=st) hfs hcut;have hin:∀{s u:Nm},zJ6 st s u->zJ6 (setF st k f') s u:=fun {s u} ⟨x,hx,g,hgf,m,hm,e⟩=>by
  refine ⟨x,by rw [hfs];exact hx,?_⟩;rw [YT hV.names hk hn];by_cases e2:x=f'.name
  ·rw [if_pos e2];rw [e2,hn,z4f hV hk] at hgf;obtain rfl:=zsi hgf;obtain ⟨m',hm',e3⟩:=hmem m hm;exact ⟨f',rfl,m',hm',e3.trans e⟩
  ·rw [if_neg e2];exact ⟨g,hgf,m,hm,e⟩
 have hJ2:∀g:Folder,J2 st g->J2 (setF st k f') g:=fun g j2 l hl hle=>by
  obtain ⟨h1,G,h2,h3,h4⟩:=j2 l hl hle;refine ⟨by rw [hfs];exact h1,?_⟩;rw [YT hV.names hk hn];by_cases e2:l.to=f'.name
  ·rw [if_pos e2];rw [e2,hn,z4f hV hk] at h2;obtain rfl:=zsi h2;exact ⟨f',rfl,(hfr _).2 (z6d h3 hn he),by rw [he];exact h4⟩
  ·rw [if_neg e2];exact ⟨G,h2,(hfr _).2 h3,h4⟩
 refine ⟨fun g hg=>?_,fun g hg e he' y hy=>?_,fun g hg2 hgone hF=>?_⟩
 ·rcases List.mem_or_eq_of_mem_set hg with hx | rfl
  ·exact hR.fol g hx
  exact hL
 ·refine Int.le_trans ?_ (hseq _);rcases List.mem_or_eq_of_mem_set hg with hx | rfl
  ·exact hR.ks g hx e he' y hy
  rw [he] at he';exact hR.ks _ (yN hk) e he' y hy
 rcases List.mem_or_eq_of_mem_set hg2 with hx | rfl
 ·obtain ⟨j1,j2⟩:=hR.ns g hx hgone ((hfr g).1 hF);exact ⟨fun w hw hwe=>hin (j1 w hw hwe),hJ2 g j2⟩
 have hF0:=z6d ((hfr _).1 hF) hn.symm he.symm;rw [hg] at hgone;obtain ⟨j1,j2⟩:=hR.ns _ (yN hk) hgone hF0;constructor
 ·intro w hw hwe;rcases hJ w hw hwe with ⟨w0,h1,h2,h3⟩ | ⟨m,h1,h2⟩
  ·have:=hin (j1 w0 h1 h3);rwa [h2,<-hn] at this
  have hlive:ZC (Z8 st) g.name=true:=by rw [hn];exact z1g.2 ⟨_,z4f hV hk,hgone⟩
  exact ⟨g.name,by rw [hfs];exact z38 hV.tree hlive,g,by rw [YT hV.names hk hn,if_pos rfl],m,h1,h2⟩
 refine hJ2 g ?_;unfold J2;rw [hlk,he,hn];exact j2
theorem z8o {F F':Fs} (h:Inv F) (h':Inv F') {s:Nm} (hd:∀x,x≠s->F' x=F x):∀(m:Nat) (x:Nm),(ch F' x).length<=m->ZC F' x=true->s∉ch F' x->ch F' x=ch F x
 | 0,x,hm,hl,_=>by
  have:=z2u h' hl
  omega
 | m+1,x,hm,hl,hs=>by
  have hx:x≠s:=fun e=>hs (by rw [<-e];exact z38 h' hl)
  have hlive:ZC F x=true:=by unfold ZC at hl⊢;rw [<-hd x hx];exact hl
  have hpar:yQ F' x=yQ F x:=by unfold yQ;rw [hd x hx]
  have hlen:=z2u h' hl;rw [z29 h' hl] at hs;rw [z29 h' hl,z29 h hlive,<-hpar];rcases h'.up x hl with e | e
  ·rw [e,zDx h' h'.no,zDx h h.no]
  ·rw [z8o h h' hd m (yQ F' x) (by omega) e fun hm=>hs (zmc _ hm)]
theorem RInv.writeB (hV:VInv n st) (hR:RInv st) (hk:k < st.folders.length) (hn:f'.name=(fo st k).name) (he:f'.epochs=(fo st k).epochs) (hI:Inv (Z8 (setF st k f')))
  (hs:(zH f').seq=(zH (fo st k)).seq+1) (hc:(zH f').cut=(zH f').seq\/(zH f').gone=true) (hL:LInv f'):RInv (setF st k f'):=by
 have hfind:=YT hV.names hk hn;have hoff:∀{x:Nm},x≠f'.name->zP (setF st k f') x=zP st x:=fun {x} hx=>by rw [hfind,if_neg hx]
 have hd:∀x,x≠f'.name->Z8 (setF st k f') x=Z8 st x:=fun x hx=>by unfold Z8;rw [hoff hx]
 have hseq:∀s,z1y st s<=z1y (setF st k f') s:=fun s=>by
  unfold z1y;rw [hfind];split
  ·rename_i e;rw [e,hn,z4f hV hk];show (zH (fo st k)).seq<=(zH f').seq
   omega
  ·exact Int.le_refl _
 have hks:∀g∈(setF st k f').folders,∀e,g.epochs.getLast? =some e->∀y∈e.chain,y.seq<=z1y st y.name:=fun g hg e he' y hy=>by
  rcases List.mem_or_eq_of_mem_set hg with hx | rfl
  ·exact hR.ks g hx e he' y hy
  ·rw [he] at he';exact hR.ks _ (yN hk) e he' y hy
 have hno:∀g∈(setF st k f').folders,z0y (setF st k f') g->f'.name∉ch (Z8 (setF st k f')) g.name:=fun g hg ⟨e,h1,h2,h3⟩ hm=>by
  rcases hc with hc | hc
  ·rw [<-h2] at hm;obtain ⟨y,hy,hyn⟩:=List.mem_map.1 hm;have a1:=h3 y hy;have a2:=hks g hg e h1 y hy;unfold YE at a1;unfold z1y at a2;rw [hyn] at a1 a2;rw [hfind,if_pos rfl] at a1;rw [hn,z4f hV hk] at a2;have a1':(zH f').cut<=y.seq:=a1;have a2':y.seq<=(zH (fo st k)).seq:=a2;omega
  ·obtain ⟨g',hg',hgg⟩:=z1g.1 (z1i hm);rw [hfind,if_pos rfl] at hg';obtain rfl:=zsi hg';rw [hc] at hgg;cases hgg
 have hcut:∀{x:Nm},x≠f'.name->YE (setF st k f') x=YE st x:=fun {x} hx=>by unfold YE;rw [hoff hx]
 refine ⟨fun g hg=>?_,fun g hg e he' y hy=>Int.le_trans (hks g hg e he' y hy) (hseq _),fun g hg hgone hF=>?_⟩
 ·rcases List.mem_or_eq_of_mem_set hg with hx | rfl
  ·exact hR.fol g hx
  exact hL
 have hN':z36 (setF st k f'):=by unfold z36;rw [z9e hk hn];exact hV.names
 have hgf:=z1f hN' hg;have hlive':ZC (Z8 (setF st k f')) g.name=true:=z1g.2 ⟨g,hgf,hgone⟩;have hnot:=hno g hg hF;have hne:g.name≠f'.name:=fun e=>hnot (by rw [<-e];exact z38 hI hlive')
 have hx:g∈st.folders:=by
  rcases List.mem_or_eq_of_mem_set hg with hx | rfl
  ·exact hx
  ·exact absurd rfl hne
 have hch:=z8o hV.tree hI hd _ g.name (znl _) hlive' hnot;have hlive:ZC (Z8 st) g.name=true:=by unfold ZC at hlive'⊢;rw [<-hd _ hne];exact hlive'
 have hcutc:∀{G:Folder},z0y st G->f'.name∉ch (Z8 st) G.name->ch (Z8 (setF st k f')) G.name=ch (Z8 st) G.name->z0y (setF st k f') G:=fun {G} ⟨e,h1,h2,h3⟩ hG hc2=>
  ⟨e,h1,by rw [hc2];exact h2,fun y hy=>by
   rw [hcut fun e2=>hG (by rw [<-h2,<-e2];exact List.mem_map.2 ⟨y,hy,rfl⟩)];exact h3 y hy⟩
 have hF0:z0y st g:=by
  obtain ⟨e,h1,h2,h3⟩:=hF;refine ⟨e,h1,by rw [<-hch];exact h2,fun y hy=>?_⟩;rw [<-hcut fun e2=>hnot (by rw [<-h2,<-e2];exact List.mem_map.2 ⟨y,hy,rfl⟩)];exact h3 y hy
 obtain ⟨j1,j2⟩:=hR.ns g hx hgone hF0;constructor
 ·intro w hw hwe;obtain ⟨x,hx,G,hG,m,hm,e⟩:=j1 w hw hwe;exact ⟨x,by rw [hch];exact hx,G,by rw [hoff fun e2=>hnot (by rw [hch,<-e2];exact hx)];exact hG,m,hm,e⟩
 intro l hl hle;obtain ⟨h1,G,h2,h3,h4⟩:=j2 l hl hle;have hin:l.to∈ch (Z8 st) g.name:=by rw [z29 hV.tree hlive];exact zmc _ h1
 have hin':l.to∈ch (Z8 (setF st k f')) g.name:=by rw [hch];exact hin
 have hne2:l.to≠f'.name:=fun e2=>hnot (by rw [<-e2];exact hin')
 have hpar:yQ (Z8 (setF st k f')) g.name=yQ (Z8 st) g.name:=by unfold yQ;rw [hd _ hne]
 have htail:ch (Z8 (setF st k f')) (yQ (Z8 (setF st k f')) g.name)=ch (Z8 st) (yQ (Z8 st) g.name):=by
  rw [z29 hI hlive',z29 hV.tree hlive] at hch;exact (List.cons.inj hch).2
 have hcl:=z8o hV.tree hI hd _ l.to (znl _) (z1i hin') fun hm=>hnot (z7f hI hin' hm)
 refine ⟨by rw [htail];exact h1,G,by rw [hoff hne2];exact h2,?_,h4⟩;have hGn:G.name=l.to:=YM h2;exact hcutc h3 (by rw [hGn,<-hcl];exact fun hm=>hnot (z7f hI hin' hm)) (by rw [hGn];exact hcl)
end
end
end Go.Proofs.YtdggplhnfhcieaaGreatDoor
