/- Part 38 of the proof of vaultStays_holds. No condition. -/
import Derived.Test.YtdggplhnfhcieaaGreatDoorZ37
set_option linter.unusedVariables false
set_option linter.unusedSimpArgs false
set_option linter.unusedSectionVars false
set_option maxRecDepth 100000
namespace Go.Proofs.YtdggplhnfhcieaaGreatDoor
open Go.RowKit Go.Deep
section
noncomputable def z4n (st:State) (c:Call):Bool×Answer:=
 if z7f c then (if z4g c.kind then (if (Y7 st c false).2.2 then (true,Y6 0) else (false,(Y7 st c false).2.1)) else (false,ZA 2)) else (false,ZA 13)
def zPd (P:Nat->Prop) (bv bp:Nat) (w:World) (st:State) (c:Call) (over:Bool):Prop:=
 ∃A7 k7 A n k,w.heap[bp]? =some (.cells #[.pointer (some ⟨bv,0,none⟩),.int .i64 c.kind,.string c.user,.string c.folder,.string c.name,.string c.other,.int .i64 c.role,.int .i64 c.version,.slice A7 c.data.length k7,.int .i64 st.turn,.slice A n k,.bool over] 117 (0,0))/\
  z01 (fun b=>¬P b/\b≠bp) w (z0l c (.slice A7 c.data.length k7)) c/\Sl 2 z8t (fun b=>¬P b/\b≠bp) w (.slice A n k) (z6i st c)
def zPt (P:Nat->Prop) (bv:Nat) (w:World) (st:State) (c:Call) (e:Ending) (w':World):Prop:=
 Below w.heap.size w w'/\∃pv cs,e= .returned (.tuple #[pv,.agg cs])/\yS (fun b=>¬P b) w' cs.toList (z4n st c).2/\if (z4n st c).1 then ∃bp,pv= .pointer (some ⟨bp,0,none⟩)/\w.heap.size<=bp/\zPd P bv bp w' st c false else pv= .pointer none
section
variable {P:Nat->Prop} {bv base bw:Nat} {w w':World} {R:RM} {st st':State} {q r:Int} {c:Call} {dv:Value} {done late:Bool}
set_option maxHeartbeats 8000000 in
theorem zLj (h:VS P bv w st q r) (hc:z01 (fun b=>¬P b) w (z0l c dv) c) {n:Nat} (hI:VInv n st) (hn:n<=40) (hd:yQ st) (hm:MayOk w) (hs:z58 c):
  Calls Tryz.prog 14 #[.pointer (some ⟨bv,0,none⟩),.agg #[.int .i64 c.kind,.string c.user,.string c.folder,.string c.name,.string c.other,.int .i64 c.role,.int .i64 c.version,dv]] w (zPt P bv w st c):=by
 obtain ⟨_,_,_,h1,_⟩:=h.box
 have hlt:=h.lt
 obtain ⟨A7,c7,e7,hkind,hus,hfo,hna,hot,hro,hve,_⟩:=yR hc
 obtain rfl:dv= .slice A7 c.data.length c7:=by simpa [z0l] using e7
 obtain ⟨w0,hw0,cw0,fw0,Bw0,qw0⟩:=zQ w #[.int .i64 c.kind,.string c.user,.string c.folder,.string c.name,.string c.other,.int .i64 c.role,.int .i64 c.version,.slice A7 c.data.length c7] 41
 have hz0:w0.heap.size=w.heap.size+1:=by rw [<-hw0,World.size_alloc]
 obtain ⟨w1,hw1,cw1,fw1,Bw1,qw1⟩:=zQ w0 zO 49
 have HZ1:=zh (show w1.heap.size=w.heap.size+2 from by rw [<-hw1,World.size_alloc,hz0])
 have HB1:=zh (zB Bw0 Bw1)
 have HN1:=zh (show w1.heap[w.heap.size]? =some (.cells #[.int .i64 c.kind,.string c.user,.string c.folder,.string c.name,.string c.other,.int .i64 c.role,.int .i64 c.version,.slice A7 c.data.length c7] 41 (0,0)) from (Bw1.block _ qw0).trans (by rw [<-hw0];exact zH _ rfl))
 have HR1:=zh (show w1.heap[w.heap.size+1]? =some (.cells zO 49 (0,0)) from by rw [<-hz0,<-hw1];exact zH _ rfl)
 have HV1:=zh (h.more HB1.out (Q:=fun b=>b=w.heap.size+1) fun b e=>by have:b=w.heap.size+1:=e;rw [HZ1.out];omega)
 have HC1:=zh (show z01 (fun b=>¬(P b\/b=w.heap.size+1)) w1 (z0l c (.slice A7 c.data.length c7)) c from yJ hc fun b hp hl=>⟨fun e=>e.elim hp fun e=>by omega,HB1.out.block b hl⟩)
 have HVS:=zh h
 have HI:=zh hI
 have HD:=zh hd
 have HS:=zh hs
 have HSF:=zh (show c.folder.size<=140737488355328 from hfo)
 have HSO:=zh (show c.other.size<=140737488355328 from hot)
 have HLT:=zh hlt
 have HPB:=zh h.pb
 have HMA:=zh (z8p c.kind c.user c.folder c.name c.other c.role c.version A7 c.data.length c7 hus hfo hna hot w1 (hm.below HB1.out).1 (hm.below HB1.out).2)
 have s6:=(HB1.out.cell (p:=⟨bv,6,none⟩) hlt).trans ((zD h1).1 6 _ rfl)
 obtain ⟨k0,k1,k2,k3,k4,k5,k6,k7⟩:=zC8 (zD HN1.out).1
 clear h hc hI hd hm hs h1 hlt e7 cw0 fw0 Bw0 cw1 fw1 Bw1 qw1 hkind hus hfo hna hot hro hve
 unfold zO at hw1
 go_enter Tryz.func14,Tryz.ntmps14
 go_wp2_with fail
 refine Calls.mono HMA.out ?_
 rintro _ w2 ⟨rfl,B2⟩
 have HB2:=zh B2
 have HB02:=zh (zB HB1.out B2)
 have HR2:=zh ((B2.block _ (zM HR1.out)).trans HR1.out)
 have HV2:=zh (HV1.out.below B2)
 have HC2:=zh (yJ HC1.out (zJ B2))
 replace k0:=(B2.cell (p:=⟨w.heap.size,0,none⟩) (zM HN1.out)).trans k0
 replace k1:=(B2.cell (p:=⟨w.heap.size,1,none⟩) (zM HN1.out)).trans k1
 replace k2:=(B2.cell (p:=⟨w.heap.size,2,none⟩) (zM HN1.out)).trans k2
 replace k3:=(B2.cell (p:=⟨w.heap.size,3,none⟩) (zM HN1.out)).trans k3
 replace k4:=(B2.cell (p:=⟨w.heap.size,4,none⟩) (zM HN1.out)).trans k4
 replace k5:=(B2.cell (p:=⟨w.heap.size,5,none⟩) (zM HN1.out)).trans k5
 replace k6:=(B2.cell (p:=⟨w.heap.size,6,none⟩) (zM HN1.out)).trans k6
 replace k7:=(B2.cell (p:=⟨w.heap.size,7,none⟩) (zM HN1.out)).trans k7
 clear B2 s6
 have hfold:z2w ZD c.kind c.user c.folder c.name c.other c.role c.version (c.data.length:Int)=z7f c:=rfl
 rw [hfold]
 clear hfold
 cases hmc:z7f c with
 | false=>
  have HM:=zh (show z4n st c=(false,ZA 13) from by unfold z4n;rw [hmc];rfl)
  clear k0 k1 k2 k3 k4 k5 k6 k7 hmc
  go_wp2_with fail
  refine Calls.mono (Z9 13 w2) ?_
  rintro e5 w5 ⟨rfl,B5⟩
  have HBB:=zh (zB HB02.out B5)
  have HR5:=zh ((B5.block _ (zM HR2.out)).trans HR2.out)
  clear B5
  have K:=HR5.out
  unfold zO at K
  obtain ⟨y0,y1,y2,y3,y4,y5,y6⟩:=zC7 (zD K).1
  have yz:=(zD K).2
  clear K
  unfold ZK
  go_wp2
  try simp only [Exit.inBlock,Exit.then]
  obtain ⟨F1,F2⟩:=zZ HR5.out (.int .i64 13) (.int .i64 0) (.string ⟨#[]⟩) (.slice none 0 0) (.slice none 0 0) (.slice none 0 0) (.slice none 0 0)
  refine bodyPost_ret (yL rfl _ _ (w.heap.size+1) 49 #[.int .i64 13,.int .i64 0,.string ⟨#[]⟩,.slice none 0 0,.slice none 0 0,.slice none 0 0,.slice none 0 0] (0,0) _ rfl F1 Tryz.underlying49 rfl (by kernel_rfl)) rfl ?_
  have hB:=ButB.below HBB.out HBB.out.size (fun z hz=>by have:z=w.heap.size+1:=hz;omega) F2
  exact ⟨hB,_,_,rfl,by rw [HM.out];exact ZP ⟨by omega,by omega⟩,by rw [HM.out];exact rfl⟩
 | true=>
  obtain ⟨ck,cd⟩:=zBj hmc HS.out.1 HS.out.2.1 HS.out.2.2.1 HS.out.2.2.2
  have HMC:=zh hmc
  have HTR:=zh (zFm HV2.out HC2.out HI.out hn HD.out ck cd false)
  have HCD:=zh cd
  have HN2:=zh ((HB2.out.block _ (zM HN1.out)).trans HN1.out)
  clear hmc ck cd
  go_wp2_with fail
  refine Calls.mono (zJ6 c.kind w2) ?_
  rintro e3 w3 ⟨rfl,rfl⟩
  cases hwr:z4g c.kind with
  | false=>
   have HM:=zh (show z4n st c=(false,ZA 2) from by unfold z4n;rw [HMC.out,hwr];rfl)
   clear k0 k1 k2 k3 k4 k5 k6 k7 hwr
   go_wp2_with fail
   refine Calls.mono (Z9 2 w2) ?_
   rintro e5 w5 ⟨rfl,B5⟩
   have HBB:=zh (zB HB02.out B5)
   have HR5:=zh ((B5.block _ (zM HR2.out)).trans HR2.out)
   clear B5
   have K:=HR5.out
   unfold zO at K
   obtain ⟨y0,y1,y2,y3,y4,y5,y6⟩:=zC7 (zD K).1
   have yz:=(zD K).2
   clear K
   unfold ZK
   go_wp2
   try simp only [Exit.inBlock,Exit.then]
   obtain ⟨F1,F2⟩:=zZ HR5.out (.int .i64 2) (.int .i64 0) (.string ⟨#[]⟩) (.slice none 0 0) (.slice none 0 0) (.slice none 0 0) (.slice none 0 0)
   refine bodyPost_ret (yL rfl _ _ (w.heap.size+1) 49 #[.int .i64 2,.int .i64 0,.string ⟨#[]⟩,.slice none 0 0,.slice none 0 0,.slice none 0 0,.slice none 0 0] (0,0) _ rfl F1 Tryz.underlying49 rfl (by kernel_rfl)) rfl ?_
   have hB:=ButB.below HBB.out HBB.out.size (fun z hz=>by have:z=w.heap.size+1:=hz;omega) F2
   exact ⟨hB,_,_,rfl,by rw [HM.out];exact ZP ⟨by omega,by omega⟩,by rw [HM.out];exact rfl⟩
  | true=>
   have HWR:=zh hwr
   clear hwr
   go_wp2_with fail
   refine Calls.mono HTR.out ?_
   rintro e3 w3 ⟨_,bw,R,_,rfl,hbw,B3,h3,ha⟩
   obtain ⟨A3',c3',A4',c4',A5',c5',A6',c6',rfl⟩:=ZZ ha
   generalize hx:Y7 st c false=x at h3 ha
   have HX:=zh hx
   obtain ⟨_,a,dn⟩:=x
   obtain ⟨w4,_,cw4,fw4,Bw4,_⟩:=zQ w3 #[.int .i64 a.err,.int .i64 a.number,.string a.who,.slice A3' a.data.length c3',.slice A4' a.names.length c4',.slice A5' a.members.length c5',.slice A6' a.history.length c6'] 49
   have HB24:=zh (zB B3 Bw4)
   have H4:=zh (h3.below Bw4)
   have HA4:=zh (Y8 ha (Mut.below (bw:=bw) (R:=R) Bw4).kept)
   have HR4:=zh ((HB24.out.block _ (zM HR2.out)).trans HR2.out)
   have HN4:=zh ((HB24.out.block _ (zM HN2.out)).trans HN2.out)
   have HB04:=zh (zB HB02.out HB24.out)
   have HV4:=zh (HV2.out.below HB24.out)
   have HC4:=zh (yJ HC2.out (zJ HB24.out))
   have a0:=cw4 0 _ rfl
   have a1:=cw4 1 _ rfl
   have a2:=cw4 2 _ rfl
   have a3:=cw4 3 _ rfl
   have a4:=cw4 4 _ rfl
   have a5:=cw4 5 _ rfl
   have a6:=cw4 6 _ rfl
   have t12:=H4.out.cells.1 12 _ rfl
   clear B3 h3 ha hx cw4 fw4 Bw4 k0 k1 k2 k3 k4 k5 k6 k7 hbw
   cases dn with
   | false=>
    have HM:=zh (show z4n st c=(false,a) from by unfold z4n;rw [HMC.out,HWR.out,HX.out];rfl)
    have K:=HR4.out
    unfold zO at K
    obtain ⟨y0,y1,y2,y3,y4,y5,y6⟩:=zC7 (zD K).1
    have yz:=(zD K).2
    clear K
    go_upto_region 9 with fail
    have HSQ:=zh (show ∀W':World,Below w4.heap.size w4 W'->(fun W':World=>Below w4.heap.size w4 W'/\W'.cell? ⟨w3.heap.size,0,none⟩=some (.int .i64 a.err)/\W'.cell? ⟨w3.heap.size,1,none⟩=some (.int .i64 a.number)/\W'.cell? ⟨w3.heap.size,2,none⟩=some (.string a.who)/\W'.cell? ⟨w3.heap.size,3,none⟩=some (.slice A3' a.data.length c3')/\W'.cell? ⟨w3.heap.size,4,none⟩=some (.slice A4' a.names.length c4')/\W'.cell? ⟨w3.heap.size,5,none⟩=some (.slice A5' a.members.length c5')/\W'.cell? ⟨w3.heap.size,6,none⟩=some (.slice A6' a.history.length c6')) W' from fun W' hW=>⟨hW,(hW.cell (p:=⟨w3.heap.size,0,none⟩) (zF a0)).trans a0,(hW.cell (p:=⟨w3.heap.size,1,none⟩) (zF a1)).trans a1,(hW.cell (p:=⟨w3.heap.size,2,none⟩) (zF a2)).trans a2,(hW.cell (p:=⟨w3.heap.size,3,none⟩) (zF a3)).trans a3,(hW.cell (p:=⟨w3.heap.size,4,none⟩) (zF a4)).trans a4,(hW.cell (p:=⟨w3.heap.size,5,none⟩) (zF a5)).trans a5,(hW.cell (p:=⟨w3.heap.size,6,none⟩) (zF a6)).trans a6⟩)
    refine ZU (S:=fun W':World=>Below w4.heap.size w4 W'/\W'.cell? ⟨w3.heap.size,0,none⟩=some (.int .i64 a.err)/\W'.cell? ⟨w3.heap.size,1,none⟩=some (.int .i64 a.number)/\W'.cell? ⟨w3.heap.size,2,none⟩=some (.string a.who)/\W'.cell? ⟨w3.heap.size,3,none⟩=some (.slice A3' a.data.length c3')/\W'.cell? ⟨w3.heap.size,4,none⟩=some (.slice A4' a.names.length c4')/\W'.cell? ⟨w3.heap.size,5,none⟩=some (.slice A5' a.members.length c5')/\W'.cell? ⟨w3.heap.size,6,none⟩=some (.slice A6' a.history.length c6')) 2 [] (by kernel_rfl) (HSQ.out _ (Below.refl _ _).drew) (fun hHeld=>?_)
    refine zU 0 _ rfl (by kernel_rfl) rfl (fun _ _ _ h=>h) hHeld (by intro W' h;go_simp;try with_reducible rfl) ?_
    simp only [zA]
    refine zU 1 _ rfl (by kernel_rfl) rfl (fun _ _ _ h=>h) hHeld (by intro W' h;go_simp;try with_reducible rfl) ?_
    simp only [zA]
    refine zY (i:=2) (by kernel_rfl) rfl (fun K hK=>?_)
    go_simp
    refine hK.out _ _ ?_
    clear hK K
    try simp only [zA]
    refine yD (by kernel_rfl) ?_ _
    go_wp2
    try simp only [Exit.inBlock,Exit.then]
    obtain ⟨F1,F2⟩:=zZ HR4.out (.int .i64 a.err) (.int .i64 a.number) (.string a.who) (.slice A3' a.data.length c3') (.slice A4' a.names.length c4') (.slice A5' a.members.length c5') (.slice A6' a.history.length c6')
    replace F1:=ZG F1
    replace F2:=F2.trans (ButB.of ((Below.refl _ _).drew))
    refine bodyPost_ret (yL rfl _ _ (w.heap.size+1) 49 #[.int .i64 a.err,.int .i64 a.number,.string a.who,.slice A3' a.data.length c3',.slice A4' a.names.length c4',.slice A5' a.members.length c5',.slice A6' a.history.length c6'] (0,0) _ rfl F1 Tryz.underlying49 rfl (by kernel_rfl)) rfl ?_
    have hB:=ButB.below HB04.out HB04.out.size (fun z hz=>by have:z=w.heap.size+1:=hz;omega) F2
    refine ⟨hB,_,_,rfl,?_,by rw [HM.out];exact rfl⟩
    rw [HM.out]
    exact Y8 HA4.out fun b ⟨h1,_,_,h4⟩ _=>⟨fun e=>h4 (.inl e),F2.block b h1 fun e=>h4 (.inr e)⟩
   | true=>
    have HM:=zh (show z4n st c=(true,Y6 0) from by unfold z4n;rw [HMC.out,HWR.out,HX.out];rfl)
    have HD4:=zh (show Sl 1 yI (fun b=>¬(P b\/b=w.heap.size+1)) w4 (.slice A7 c.data.length c7) c.data from by
     obtain ⟨A7',c7',e7,_,_,_,_,_,_,_,l7,m7,n7,s7⟩:=yR HC4.out
     have e8:Value.slice A7 c.data.length c7= .slice A7' c.data.length c7':=by simpa [z0l] using e7
     rw [e8]
     exact ⟨_,_,rfl,l7,(by simpa [maxLen] using m7),n7,s7⟩)
    obtain ⟨k0,k1,k2,k3,k4,k5,k6,k7⟩:=zC8 (zD HN4.out).1
    clear a0 a1 a2 a3 a4 a5 a6
    go_wp2_with fail
    refine Calls.mono (z79 c.data _ w4 _ HD4.out (by have:=HCD.out;omega)) ?_
    rintro e8 w8 ⟨⟨_,_,rfl,r8,a8,b8⟩,B8⟩
    obtain ⟨A8,c8,e8v,_⟩:=r8.shape
    have hl8:=a8.1
    rw [hl8] at e8v
    subst e8v
    have HDS:=zh (show Sl 1 yI (fun b=>w4.heap.size<=b/\b < w8.heap.size) w8 (.slice A8 c.data.length c8) c.data from z0o rByte_ok r8 (by rw [hl8];have:=HCD.out;omega) (a8.imp fun _ _ e=>e) fun b hb=>⟨b8 b hb,r8.lt b hb⟩)
    have HB8:=zh B8
    have HN8:=zh ((B8.block _ (zM HN4.out)).trans HN4.out)
    obtain ⟨k0,k1,k2,k3,k4,k5,k6,k7⟩:=zC8 (zD HN8.out).1
    have kz:=(zD HN8.out).2
    clear r8 a8 b8 hl8 B8
    go_upto_region 11 with fail
    have HN9:=zh (zI (i:=7) (cs':=#[.int .i64 c.kind,.string c.user,.string c.folder,.string c.name,.string c.other,.int .i64 c.role,.int .i64 c.version,.slice A8 c.data.length c8]) (.slice A8 c.data.length c8) HN8.out rfl)
    have HB9:=zh ((ButB.refl (fun x=>x=w.heap.size) w8).set ⟨w.heap.size,7,none⟩ (.slice A8 c.data.length c8) rfl)
    generalize w8.setCell ⟨w.heap.size,7,none⟩ (.slice A8 c.data.length c8)=w9 at HN9 HB9⊢
    have HBA:=zh (ButB.below (zB HB04.out HB8.out) (zB HB04.out HB8.out).size (fun z hz=>by have:z=w.heap.size:=hz;omega) HB9.out)
    have HV9:=zh (HVS.out.below HBA.out)
    have HR9:=zh ((HB9.out.block _ (Nat.lt_of_lt_of_le (zM HR4.out) HB8.out.size) (fun e=>by have:w.heap.size+1=w.heap.size:=e;omega)).trans ((HB8.out.block _ (zM HR4.out)).trans HR4.out))
    have HDT:=zh (HDS.out.keep rByte_ok (by decide) (S':=fun b=>w4.heap.size<=b/\b < w9.heap.size) (fun b ⟨h1,h2⟩ hl=>⟨⟨h1,Nat.lt_of_lt_of_le h2 HB9.out.size⟩,HB9.out.block b hl (fun e=>by have e':b=w.heap.size:=e;have:=zM HN4.out;omega)⟩))
    clear k0 k1 k2 k3 k4 k5 k6 k7 kz t12
    obtain ⟨k0,k1,k2,k3,k4,k5,k6,k7⟩:=zC8 (zD HN9.out).1
    obtain ⟨_,_,_,hx1,_⟩:=HV9.out.box
    have s0:=(zD hx1).1 0 _ rfl
    clear hx1
    have HSQ:=zh (show ∀W':World,Below w9.heap.size w9 W'->(fun W':World=>Below w9.heap.size w9 W'/\W'.cell? ⟨bv,0,none⟩=some (.int .i64 st.turn)/\W'.cell? ⟨w.heap.size,0,none⟩=some (.int .i64 c.kind)/\W'.cell? ⟨w.heap.size,1,none⟩=some (.string c.user)/\W'.cell? ⟨w.heap.size,2,none⟩=some (.string c.folder)/\W'.cell? ⟨w.heap.size,3,none⟩=some (.string c.name)/\W'.cell? ⟨w.heap.size,4,none⟩=some (.string c.other)/\W'.cell? ⟨w.heap.size,5,none⟩=some (.int .i64 c.role)/\W'.cell? ⟨w.heap.size,6,none⟩=some (.int .i64 c.version)/\W'.cell? ⟨w.heap.size,7,none⟩=some (.slice A8 c.data.length c8)) W' from fun W' hW=>⟨hW,(hW.cell (p:=⟨bv,0,none⟩) (zF s0)).trans s0,(hW.cell (p:=⟨w.heap.size,0,none⟩) (zF k0)).trans k0,(hW.cell (p:=⟨w.heap.size,1,none⟩) (zF k1)).trans k1,(hW.cell (p:=⟨w.heap.size,2,none⟩) (zF k2)).trans k2,(hW.cell (p:=⟨w.heap.size,3,none⟩) (zF k3)).trans k3,(hW.cell (p:=⟨w.heap.size,4,none⟩) (zF k4)).trans k4,(hW.cell (p:=⟨w.heap.size,5,none⟩) (zF k5)).trans k5,(hW.cell (p:=⟨w.heap.size,6,none⟩) (zF k6)).trans k6,(hW.cell (p:=⟨w.heap.size,7,none⟩) (zF k7)).trans k7⟩)
    refine ZU (S:=fun W':World=>Below w9.heap.size w9 W'/\W'.cell? ⟨bv,0,none⟩=some (.int .i64 st.turn)/\W'.cell? ⟨w.heap.size,0,none⟩=some (.int .i64 c.kind)/\W'.cell? ⟨w.heap.size,1,none⟩=some (.string c.user)/\W'.cell? ⟨w.heap.size,2,none⟩=some (.string c.folder)/\W'.cell? ⟨w.heap.size,3,none⟩=some (.string c.name)/\W'.cell? ⟨w.heap.size,4,none⟩=some (.string c.other)/\W'.cell? ⟨w.heap.size,5,none⟩=some (.int .i64 c.role)/\W'.cell? ⟨w.heap.size,6,none⟩=some (.int .i64 c.version)/\W'.cell? ⟨w.heap.size,7,none⟩=some (.slice A8 c.data.length c8)) 13 [12] (by kernel_rfl) (HSQ.out _ (Below.refl _ _).drew) (fun hHeld=>?_)
    refine z4m (i:=12) (oi:=?_) (v:=?_) ?_ (by kernel_rfl) ?_ (Or.inl ⟨?_,?_⟩) ?_
    rotate_left 2
    ·simp only [List.getElem?_toArray,List.getElem?_cons_succ,List.getElem?_cons_zero];exact rfl
    ·exact fun _ _ _ h=>h
    ·rfl
    ·(intro W' hSw;clear hSw;go_simp;try with_reducible rfl)
    try simp only [zA]
    refine zU 0 _ rfl (by kernel_rfl) rfl (fun _ _ _ h=>h) hHeld (by intro W' h;go_simp;try with_reducible rfl) ?_
    simp only [zA]
    refine zU 1 _ rfl (by kernel_rfl) rfl (fun _ _ _ h=>h) hHeld (by intro W' h;go_simp;try with_reducible rfl) ?_
    simp only [zA]
    refine zU 2 _ rfl (by kernel_rfl) rfl (fun _ _ _ h=>h) hHeld (by intro W' h;go_simp;try with_reducible rfl) ?_
    simp only [zA]
    refine zU 3 _ rfl (by kernel_rfl) rfl (fun _ _ _ h=>h) hHeld (by intro W' h;go_simp;try with_reducible rfl) ?_
    simp only [zA]
    refine zU 4 _ rfl (by kernel_rfl) rfl (fun _ _ _ h=>h) hHeld (by intro W' h;go_simp;try with_reducible rfl) ?_
    simp only [zA]
    refine zU 5 _ rfl (by kernel_rfl) rfl (fun _ _ _ h=>h) hHeld (by intro W' h;go_simp;try with_reducible rfl) ?_
    simp only [zA]
    refine zU 6 _ rfl (by kernel_rfl) rfl (fun _ _ _ h=>h) hHeld (by intro W' h;go_simp;try with_reducible rfl) ?_
    simp only [zA]
    refine zU 7 _ rfl (by kernel_rfl) rfl (fun _ _ _ h=>h) hHeld (by intro W' h;go_simp;try with_reducible rfl) ?_
    simp only [zA]
    refine zU 8 _ rfl (by kernel_rfl) rfl (fun _ _ _ h=>h) hHeld (by intro W' h;go_simp;try with_reducible rfl) ?_
    simp only [zA]
    refine ZH (i:=9) (by kernel_rfl) rfl (fun K hK=>?_)
    go_simp
    go_at_call 41
    refine Calls.mono (zJb (c:=c) (HV9.out.below ((Below.refl _ _).drew)) A8 c.data.length c8 HSF.out HSO.out) ?_
    rintro e3 wl ⟨⟨_,rfl,hsl⟩,b3⟩
    have Bwl:Below w9.heap.size w9 wl:=zB ((Below.refl _ _).drew) b3
    have HSwl:=zh b3
    clear b3 hHeld
    refine hK.out _ _ (HSQ.out _ Bwl) (fun hHeld=>?_)
    clear hK K
    try simp only [zA]
    obtain ⟨Al,cl,rfl,hsm⟩:=id hsl
    have HSL:=zh hsl
    have HBl:=zh Bwl
    clear hsl hsm
    refine zU 10 _ rfl (by kernel_rfl) rfl (fun _ _ _ h=>h) hHeld (by intro W' h;go_simp;try with_reducible rfl) ?_
    simp only [zA]
    refine ZH (i:=11) (by kernel_rfl) rfl (fun K hK=>?_)
    go_simp
    generalize hwp:World.alloc _ _=wp
    have Bwp:=(show Below w9.heap.size w9 wp from by rw [<-hwp];exact Below.alloc (Bwl) (Bwl).size _)
    clear hHeld
    refine hK.out _ _ (HSQ.out _ Bwp) (fun hHeld=>?_)
    clear hK K
    try simp only [zA]
    have HNP:=zh (show wp.heap[wl.heap.size]? =some (.cells #[.pointer (some ⟨bv,0,none⟩),.int .i64 c.kind,.string c.user,.string c.folder,.string c.name,.string c.other,.int .i64 c.role,.int .i64 c.version,.slice A8 c.data.length c8,.int .i64 st.turn,.slice Al (z6i st c).length cl,.bool false] 117 (0,0)) from by rw [<-hwp];exact zH _ rfl)
    have HBp:=zh Bwp
    have HZP:=zh (show wp.heap.size=wl.heap.size+1 from by rw [<-hwp,World.size_alloc])
    have HKP:=zh (show ∀b,b < wl.heap.size->wp.heap[b]? =wl.heap[b]? from fun b hb=>by rw [<-hwp];exact heap_alloc_old _ _ hb)
    clear hwp
    have HR11:=zh ((Bwp.block _ (zM HR9.out)).trans HR9.out)
    have K:=HR11.out
    unfold zO at K
    obtain ⟨y0,y1,y2,y3,y4,y5,y6⟩:=zC7 (zD K).1
    have yz:=(zD K).2
    clear K
    refine zY (i:=13) (by kernel_rfl) rfl (fun K hK=>?_)
    go_simp
    refine hK.out _ _ ?_
    clear hK K
    try simp only [zA]
    refine zY (i:=14) (by kernel_rfl) rfl (fun K hK=>?_)
    go_simp
    refine hK.out _ _ ?_
    clear hK K
    try simp only [zA]
    refine yD (by kernel_rfl) ?_ _
    go_wp2
    try simp only [Exit.inBlock,Exit.then]
    obtain ⟨F1,F2⟩:=zZ HR11.out (.int .i64 0) (.int .i64 0) (.string ⟨#[]⟩) (.slice none 0 0) (.slice none 0 0) (.slice none 0 0) (.slice none 0 0)
    refine bodyPost_ret (yL rfl _ _ (w.heap.size+1) 49 #[.int .i64 0,.int .i64 0,.string ⟨#[]⟩,.slice none 0 0,.slice none 0 0,.slice none 0 0,.slice none 0 0] (0,0) _ rfl F1 Tryz.underlying49 rfl (by kernel_rfl)) rfl ?_
    have hZ9:=HBA.out.size
    have hB1:=zB HBA.out HBp.out
    have hB:=ButB.below hB1 hB1.size (fun z hz=>by have:z=w.heap.size+1:=hz;omega) F2
    have hl:=HBl.out.size
    have hr:=zM HR9.out
    have hpl:=HVS.out.pl
    have h84:=HB8.out.size
    have h04:=HB04.out.size
    refine ⟨hB,_,_,rfl,by rw [HM.out];exact z12 ⟨by omega,by omega⟩,by
     rw [HM.out]
     refine ⟨wl.heap.size,rfl,by omega,A8,c8,Al,(z6i st c).length,cl,(F2.block _ (by have:=HZP.out;omega) (fun e=>by have e':wl.heap.size=w.heap.size+1:=e;omega)).trans HNP.out,?_,?_⟩
     ·obtain ⟨_,_,_,q0,q1,q2,q3,q4,q5,q6,_⟩:=yR HC4.out
      refine ⟨_,rfl,q0,q1,q2,q3,q4,q5,q6,HDT.out.keep rByte_ok (by decide) fun b ⟨h1,h2⟩ hl'=>⟨⟨fun e=>by have:=hpl b e;omega,by omega⟩,?_⟩⟩
      rw [F2.block b (Nat.lt_of_lt_of_le hl' HBp.out.size) (fun e=>by have e':b=w.heap.size+1:=e;have:=zM HR4.out;omega)]
      exact HBp.out.block b hl'
     ·refine HSL.out.keep z4h (by decide) fun b h1 hl'=>⟨⟨fun e=>by have:=hpl b e;have h1':w9.heap.size<=b:=h1;omega,by omega⟩,?_⟩
      have h1':w9.heap.size<=b:=h1
      rw [F2.block b (by have:=HZP.out;omega) (fun e=>by have e':b=w.heap.size+1:=e;omega)]
      exact HKP.out b hl'⟩
end
end
def zBo (x:Call):Bool:=decide (x.user.size<=20) && decide (x.folder.size<=20) && decide (x.name.size<=20) && decide (x.other.size<=20) && decide (x.data.length<=600)
def z8d (l:List Call):Bool:=l.all zBo && decide (l.length<=40)
theorem z9u {x:Call}:zBo x=true↔x.user.size<=20/\x.folder.size<=20/\x.name.size<=20/\x.other.size<=20/\x.data.length<=600:=by
 unfold zBo
 simp only [Bool.and_eq_true,decide_eq_true_eq,and_assoc]
set_option maxHeartbeats 1000000 in
theorem zHi (l:List Call) (v:Value) (w:World) (S:Nat->Prop) (h:Sl 8 z01 S w v l):
  Calls Tryz.prog 20 #[v] w fun e w'=>e= .returned (.bool (z8d l))/\Below w.heap.size w w':=by
 obtain ⟨_,_,rfl,_,hc,_,hs⟩:=h
 unfold maxLen at hc
 go_enter Tryz.func20,Tryz.ntmps20
 go_wp2
 go_loopw [7] (fun i wr=>∃(k:Nat),k<=l.length/\i= .int .i64 k/\Hid (∀y∈l.take k,zBo y=true)/\Below w.heap.size w wr) (fun i _=>l.length - (RowKit.intOf i).toNat)
 case atStart=>exact ⟨0,by omega,by go_num,(fun y hy=>by simp at hy),by go_grown⟩
 obtain ⟨k,_,rfl,HN,hbel⟩:=hrel
 have hz:=hbel.size
 by_cases hlt:k < l.length
 rotate_left
 ·obtain rfl:k=l.length:=by omega
  have HF:=zh (show z8d l=decide ((l.length:Int)<=40) by
   have h1:=HN.out
   rw [List.take_length] at h1
   unfold z8d
   rw [List.all_eq_true.2 h1,Bool.true_and]
   exact decide_eq_decide.2 (by omega))
  go_wp2
  go_ret
  exact ⟨ZL HF.out.symm,hbel⟩
 obtain ⟨x,_,_,_,_,hx,_,hm,rfl,_,_,_,_,_,_,_,_,_,_,hrc,_⟩:=zE9 hs hlt (zJ hbel)
 obtain ⟨f6,f7,f8,f9⟩:x.user.size<=140737488355328/\x.folder.size<=140737488355328/\x.name.size<=140737488355328/\x.other.size<=140737488355328:=by obtain ⟨_,_,_,q1,q2,q3,q4,_⟩:=hrc;exact ⟨q1,q2,q3,q4⟩
 cases hf:zBo x with
 | true=>
  obtain ⟨f1,f2,f3,f4,f5⟩:=z9u.1 hf
  have d1:decide ((20:Int) < (x.user.size:Int))=false:=decide_eq_false (by omega)
  have d2:decide ((20:Int) < (x.folder.size:Int))=false:=decide_eq_false (by omega)
  have d3:decide ((20:Int) < (x.name.size:Int))=false:=decide_eq_false (by omega)
  have d4:decide ((20:Int) < (x.other.size:Int))=false:=decide_eq_false (by omega)
  have d5:decide ((600:Int) < (x.data.length:Int))=false:=decide_eq_false (by omega)
  have HN2:=zh (show ∀y∈l.take (k+1),zBo y=true by
   rw [List.take_add_one,hx]
   intro y hy
   rcases List.mem_append.1 hy with hy | hy
   ·exact HN.out y hy
   ·obtain rfl:y=x:=by simpa using hy
    exact hf)
  clear hx hm hf f1 f2 f3 f4 f5 f6 f7 f8 f9
  go_wp2
  go_roundw
  case rel=>exact ⟨k+1,by omega,by go_num,HN2,by go_grown⟩
  case measure=>simp [RowKit.intOf];omega
 | false=>
  have HF:=zh (show z8d l=false by
   unfold z8d
   rw [Bool.and_eq_false_iff]
   exact .inl (List.all_eq_false.2 ⟨x,hm,by rw [hf];decide⟩))
  have HX:=zh (show ¬(x.user.size<=20/\x.folder.size<=20/\x.name.size<=20/\x.other.size<=20/\x.data.length<=600) from fun h=>by rw [z9u.2 h] at hf;cases hf)
  clear hx hm hf
  go_wp2
  all_goals first
   | (go_ret;exact ⟨ZL HF.out.symm,by go_grown⟩)
   | (exfalso;have hX:=HX.out;simp_all;omega)
section
theorem zNa {st:State} {q r:Int} {c:Call} {late:Bool} (h:yQ st) (hd:c.data.length<=512):yQ (doV st q r c late).1:=by
 unfold doV
 exact Z2 (fun _=>Z2 (fun _=>h) fun _=>zLg h hd late) fun _=>h
theorem z4o {n:Nat} {st:State} {q r:Int} {c:Call} (h:VInv n st) (hd:yQ st) (hs:z58 c):VInv (n+1) (ZN st q r c).1/\yQ (ZN st q r c).1:=by
 unfold ZN
 cases hm:z7f c with
 | false=>exact ⟨h.mono (by omega),hd⟩
 | true=>
  obtain ⟨k1,k2⟩:=zBj hm hs.1 hs.2.1 hs.2.2.1 hs.2.2.2
  exact ⟨zLc h k1,zNa hd k2⟩
def cA1:Call:=⟨1,⟨#[97]⟩,⟨#[]⟩,⟨#[]⟩,⟨#[]⟩,0,0,[]⟩
def cA2:Call:=⟨2,⟨#[97]⟩,⟨#[102]⟩,⟨#[]⟩,⟨#[]⟩,0,0,[]⟩
def cA3:Call:=⟨8,⟨#[97]⟩,⟨#[102]⟩,⟨#[120]⟩,⟨#[]⟩,0,0,[]⟩
noncomputable def sA1:State×Answer:=ZN ⟨0,[],[],[]⟩ 1048576 1000 cA1
noncomputable def sA2:State×Answer:=ZN sA1.1 1048576 1000 cA2
noncomputable def sA3:State×Answer:=ZN sA2.1 1048576 1000 cA3
theorem eA1:sA1.2.err=0:=by kernel_rfl
theorem eA2:sA2.2.err=0:=by kernel_rfl
theorem eA3:sA3.2.err=0/\sA3.2.number=1:=⟨by kernel_rfl,by kernel_rfl⟩
theorem eA4:sA3.1.folders.map (fun f=>f.items.length)=[1]:=by kernel_rfl
theorem zLk:z58 cA1:=⟨by decide,by decide,by decide,by decide⟩
theorem zLl:z58 cA2:=⟨by decide,by decide,by decide,by decide⟩
theorem zLm:z58 cA3:=⟨by decide,by decide,by decide,by decide⟩
theorem iA0:yQ ⟨0,[],[],[]⟩:=fun f hf=>by cases hf
theorem iA1:VInv 1 sA1.1/\yQ sA1.1:=z4o VInv.start iA0 zLk
theorem iA2:VInv 2 sA2.1/\yQ sA2.1:=z4o iA1.1 iA1.2 zLl
theorem iA3:VInv 3 sA3.1/\yQ sA3.1:=z4o iA2.1 iA2.2 zLm
theorem zPe {S:Nat->Prop} {w:World} (c:Call) (hk:I64 c.kind) (hs:z58 c) (hr:c.role=0/\c.version=0/\c.data=[]):z01 S w (z0l c (.slice none 0 0)) c:=by
 obtain ⟨_,_,_,_⟩:=hs
 obtain ⟨r1,r2,r3⟩:=hr
 refine ⟨_,rfl,hk,by omega,by omega,by omega,by omega,?_,?_,?_⟩
 ·rw [r1];exact ⟨by omega,by omega⟩
 ·rw [r2];exact ⟨by omega,by omega⟩
 rw [r3];exact z0s _ _ _ _
theorem zAz (e n:Int) (s:Nm) (v3 v4 v5 v6:Value) (w:World):(Instr.field 49 (.agg #[.int .i64 e,.int .i64 n,.string s,v3,v4,v5,v6]) 0).run Tryz.prog w= .ok (.int .i64 e) w:=by kernel_rfl
theorem zFp (t:Int) (v1 v2 v3:Value) (w:World):(Instr.field 34 (.agg #[.int .i64 t,v1,v2,v3]) 1).run Tryz.prog w= .ok v1 w:=by kernel_rfl
section
variable {P:Nat->Prop} {bv:Nat} {w:World}
theorem zBp {st:State} {q r:Int} {c:Call} {n:Nat} {e:Int} (h:VS P bv w st q r) (hI:VInv n st) (hn:n<=40) (hd:yQ st) (hm:MayOk w) (hs:z58 c) (hk:I64 c.kind) (hr:c.role=0/\c.version=0/\c.data=[]) (he:(ZN st q r c).2.err=e):
  Calls Tryz.prog 12 #[.pointer (some ⟨bv,0,none⟩),.agg #[.int .i64 c.kind,.string c.user,.string c.folder,.string c.name,.string c.other,.int .i64 c.role,.int .i64 c.version,.slice none 0 0]] w fun x w'=>∃A3 c3 A4 c4 A5 c5 A6 c6,x= .returned (.agg #[.int .i64 e,.int .i64 (ZN st q r c).2.number,.string (ZN st q r c).2.who,.slice A3 (ZN st q r c).2.data.length c3,.slice A4 (ZN st q r c).2.names.length c4,.slice A5 (ZN st q r c).2.members.length c5,.slice A6 (ZN st q r c).2.history.length c6])/\VS P bv w' (ZN st q r c).1 q r/\ButB (fun b=>b=bv) w w':=by
 refine Calls.mono (zDo h (zPe c hk hs hr) hI hn hd hm hs) ?_
 rintro x w' ⟨_,rfl,h',ha,hb⟩
 obtain ⟨A3,c3,A4,c4,A5,c5,A6,c6,rfl⟩:=ZZ ha
 rw [he]
 exact ⟨_,_,_,_,_,_,_,_,rfl,h',hb⟩
end
set_option maxHeartbeats 4000000 in
theorem zLn (w:World) (hm:MayOk w):Calls Tryz.prog 8 #[] w fun e w'=>e= .returned (.bool true)/\Below w.heap.size w w':=by
 have HM:=zh hm
 have qf:=zAz
 clear hm
 go_enter Tryz.func8,Tryz.ntmps8
 go_wp2_with fail
 refine Calls.mono (zFl w 1048576 1000 ⟨by omega,by omega⟩) ?_
 rintro _ _ ⟨rfl,V1,B1⟩
 have HB1:=zh B1
 have HV1:=zh V1
 clear V1 B1
 go_wp2_with fail
 refine Calls.mono (zBp (c:=cA1) HV1.out VInv.start (by omega) iA0 (HM.out.below HB1.out) zLk ⟨by decide,by decide⟩ ⟨rfl,rfl,rfl⟩ eA1) ?_
 rintro _ w2 ⟨_,_,_,_,_,_,_,_,rfl,V2,B2⟩
 have HB2:=zh (ButB.below HB1.out HB1.out.size (fun z hz=>by have:z=w.heap.size:=hz;omega) B2)
 have HV2:=zh (show VS (fun b=>b=w.heap.size) w.heap.size w2 sA1.1 1048576 1000 from V2)
 clear V2 B2
 go_wp2_with fail
 refine Calls.mono (zBp (c:=cA2) HV2.out iA1.1 (by omega) iA1.2 (HM.out.below HB2.out) zLl ⟨by decide,by decide⟩ ⟨rfl,rfl,rfl⟩ eA2) ?_
 rintro _ w3 ⟨D3,d3,D4,d4,D5,d5,D6,d6,rfl,V3,B3⟩
 have HB3:=zh (ButB.below HB2.out HB2.out.size (fun z hz=>by have:z=w.heap.size:=hz;omega) B3)
 have HV3:=zh (show VS (fun b=>b=w.heap.size) w.heap.size w3 sA2.1 1048576 1000 from V3)
 clear V3 B3
 obtain ⟨x3,hx3,cx3,fx3,Bx3,_⟩:=zQ w3 #[.int .i64 0,.int .i64 (ZN sA1.1 1048576 1000 cA2).2.number,.string (ZN sA1.1 1048576 1000 cA2).2.who,.slice D3 (ZN sA1.1 1048576 1000 cA2).2.data.length d3,.slice D4 (ZN sA1.1 1048576 1000 cA2).2.names.length d4,.slice D5 (ZN sA1.1 1048576 1000 cA2).2.members.length d5,.slice D6 (ZN sA1.1 1048576 1000 cA2).2.history.length d6] 49
 have HX3:=zh Bx3
 have HY3:=zh (zB HB3.out Bx3)
 have HW3:=zh (HV3.out.below Bx3)
 clear cx3 fx3 Bx3
 go_wp2_with fail
 refine Calls.mono (zBp (c:=cA3) HW3.out iA2.1 (by omega) iA2.2 (HM.out.below HY3.out) zLm ⟨by decide,by decide⟩ ⟨rfl,rfl,rfl⟩ eA3.1) ?_
 rintro _ w4 ⟨E3,f3,E4,f4,E5,f5,E6,f6,rfl,V4,B4⟩
 have HB4:=zh (ButB.below HY3.out HY3.out.size (fun z hz=>by have:z=w.heap.size:=hz;omega) B4)
 have HB4o:=zh B4
 have HV4:=zh (show VS (fun b=>b=w.heap.size) w.heap.size w4 sA3.1 1048576 1000 from V4)
 clear V4 B4
 rw [show (ZN sA2.1 1048576 1000 cA3).2.number=1 from eA3.2]
 obtain ⟨x4,hx4,cx4,fx4,Bx4,_⟩:=zQ w4 #[.int .i64 0,.int .i64 1,.string (ZN sA2.1 1048576 1000 cA3).2.who,.slice E3 (ZN sA2.1 1048576 1000 cA3).2.data.length f3,.slice E4 (ZN sA2.1 1048576 1000 cA3).2.names.length f4,.slice E5 (ZN sA2.1 1048576 1000 cA3).2.members.length f5,.slice E6 (ZN sA2.1 1048576 1000 cA3).2.history.length f6] 49
 have HN3:=zh (show x3.heap[w3.heap.size]? =some (.cells #[.int .i64 0,.int .i64 (ZN sA1.1 1048576 1000 cA2).2.number,.string (ZN sA1.1 1048576 1000 cA2).2.who,.slice D3 (ZN sA1.1 1048576 1000 cA2).2.data.length d3,.slice D4 (ZN sA1.1 1048576 1000 cA2).2.names.length d4,.slice D5 (ZN sA1.1 1048576 1000 cA2).2.members.length d5,.slice D6 (ZN sA1.1 1048576 1000 cA2).2.history.length d6] 49 (0,0)) from by rw [<-hx3];exact zH _ rfl)
 have HN4:=zh (show x4.heap[w4.heap.size]? =some (.cells #[.int .i64 0,.int .i64 1,.string (ZN sA2.1 1048576 1000 cA3).2.who,.slice E3 (ZN sA2.1 1048576 1000 cA3).2.data.length f3,.slice E4 (ZN sA2.1 1048576 1000 cA3).2.names.length f4,.slice E5 (ZN sA2.1 1048576 1000 cA3).2.members.length f5,.slice E6 (ZN sA2.1 1048576 1000 cA3).2.history.length f6] 49 (0,0)) from by rw [<-hx4];exact zH _ rfl)
 have HX4:=zh Bx4
 have HY4:=zh (zB HB4.out Bx4)
 have HW4:=zh (HV4.out.below Bx4)
 have HM4:=zh ((Bx4.block _ (Nat.lt_of_lt_of_le (zM HN3.out) HB4o.out.size)).trans ((HB4o.out.block _ (zM HN3.out) (fun e=>by have e':w3.heap.size=w.heap.size:=e;have:=HW3.out.pl _ rfl;have:=HV3.out.lt;omega)).trans HN3.out))
 clear cx4 fx4 Bx4
 go_wp2_with fail
 refine Calls.mono (z43 HW4.out (zBm iA3.1 (by omega) iA3.2)) ?_
 rintro _ w5 ⟨_,rfl,hst,B5⟩
 obtain ⟨A1,c1,A2,c2,A7,c7,hcs,_,_,_,_,_,_,_,_,_,hl7,_,hn7,hs7⟩:=y8 hst
 subst hcs
 have hfl:=eA4
 obtain ⟨F,hF⟩:∃F,sA3.1.folders=F:=⟨_,rfl⟩
 rw [hF] at hl7 hs7 hfl⊢
 obtain ⟨f,rfl⟩:∃f,F=[f]:=by
  have h1:F.length=1:=by have:=congrArg List.length hfl;simpa using this
  exact List.length_eq_one_iff.1 h1
 have hfi:f.items.length=1:=by simpa using hfl
 rw [show [f].length=1 from rfl]
 obtain ⟨_,_,cx5,fx5,Bx5,_⟩:=zQ w5 #[.int .i64 sA3.1.turn,.slice A1 sA3.1.users.length c1,.slice A2 sA3.1.deposits.length c2,.slice A7 1 c7] 34
 obtain ⟨_,_,_,rfl,hfb,hff,hfc⟩:=SlAt.elem hs7 (k:=0) (x:=f) rfl (by decide) Bx5
 obtain ⟨_,_,_,_,_,_,_,_,_,_,rfl,_⟩:=ZB hff
 have z4:=hfc 4 _ rfl
 rw [hfi] at z4
 have y0:=((zB B5 Bx5).cell (p:=⟨w4.heap.size,0,none⟩) (zM HN4.out)).trans ((zD HN4.out).1 0 _ rfl)
 have y1:=((zB B5 Bx5).cell (p:=⟨w4.heap.size,1,none⟩) (zM HN4.out)).trans ((zD HN4.out).1 1 _ rfl)
 have x0:=((zB B5 Bx5).cell (p:=⟨w3.heap.size,0,none⟩) (zM HM4.out)).trans ((zD HM4.out).1 0 _ rfl)
 have s3:=cx5 3 _ rfl
 have HXX:=zh (zB HY4.out (zB B5 Bx5))
 clear hn7 hst hs7 hff hfc hfl hF hfb cx5 fx5 Bx5 B5
 go_wp2
 go_ret
 exact ⟨rfl,HXX.out⟩
end
end Go.Proofs.YtdggplhnfhcieaaGreatDoor
