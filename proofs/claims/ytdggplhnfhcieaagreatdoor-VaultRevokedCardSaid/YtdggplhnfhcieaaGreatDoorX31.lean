/- No condition. -/
import Derived.Test.YtdggplhnfhcieaaGreatDoorX29
set_option linter.all false
set_option maxRecDepth 100000
namespace Go.Proofs.YtdggplhnfhcieaaGreatDoor
open Go.RowKit Go.Deep
section
section
variable {X:Nat->Prop} {base bw:Nat} {W:World} {R:RM} {c:Call} {dv:Value} {st:State} {done late:Bool}
theorem zEr {w:World} {pb:Nat} {T:TypeId} {z0 z1 z2 z3 z4:Value} (h:w.heap[pb]? =some (.cells #[z0,z1,z2,z3,z4] T (0,0))) (a0 a1 a2 a3 a4:Value):
  (((((w.setCell ⟨pb,0,none⟩ a0).setCell ⟨pb,1,none⟩ a1).setCell ⟨pb,2,none⟩ a2).setCell ⟨pb,3,none⟩ a3).setCell ⟨pb,4,none⟩ a4).heap[pb]? =some (.cells #[a0,a1,a2,a3,a4] T (0,0))/\ButB (fun x=>x=pb) w (((((w.setCell ⟨pb,0,none⟩ a0).setCell ⟨pb,1,none⟩ a1).setCell ⟨pb,2,none⟩ a2).setCell ⟨pb,3,none⟩ a3).setCell ⟨pb,4,none⟩ a4):=by
 have h0:=zI (i:=0) (cs':=#[a0,z1,z2,z3,z4]) a0 h rfl;have h1:=zI (i:=1) (cs':=#[a0,a1,z2,z3,z4]) a1 h0 rfl;have h2:=zI (i:=2) (cs':=#[a0,a1,a2,z3,z4]) a2 h1 rfl;have h3:=zI (i:=3) (cs':=#[a0,a1,a2,a3,z4]) a3 h2 rfl;have h4:=zI (i:=4) (cs':=#[a0,a1,a2,a3,a4]) a4 h3 rfl;exact ⟨h4,(((((ButB.refl (fun x=>x=pb) w).set _ _ rfl).set _ _ rfl).set _ _ rfl).set _ _ rfl).set _ _ rfl⟩
theorem WK.epTo (h:WK X base bw W R c dv st done late) {k g o:Nat} (hk:k < st.folders.length) (ha:foAt R k g o) {w1:World} {v':Value} {x:List Value} {e:Epoch} (hlen:(fo st k).epochs.length<=9999) (hr:RowC 130 5 w1 v' ((R (.ep k)).cells++[x])) (hb:ButB (fun z=>(R (.ep k)).v.ownBlock=some z) W w1)
  (ho:v'.ownBlock=(R (.ep k)).v.ownBlock\/∃k,v'.ownBlock=some k/\W.heap.size<=k) (hone:v'.oneCell'=true) (hx:z02 (Imm X bw R W) W x e):
  Wrote X base bw W R c dv late (setF st k { fo st k with epochs:=(fo st k).epochs++[e] }) done (w1.setCell ⟨g,o+3,none⟩ v'):=by
 have hf:=ZO hk;have hcl:(R (.ep k)).cells.length=(fo st k).epochs.length:=(h.is.fo k _ hf).2.ep.1;obtain ⟨o1,m1,b1,_⟩:=h.put (W':=w1) (.ep k) ⟨v',(R (.ep k)).cells++[x]⟩ hb hr (by simp;omega) (fun b hb=>ho.imp (fun e=>by rw [<-e];exact hb) fun ⟨k2,e,hk2⟩=>by
  rw [show v'.ownBlock=some b from hb] at e;obtain rfl:=zsi e;exact hk2)
 obtain ⟨h8,m8⟩:=h.sub hf ha (k:= .ep k) (j:=3) (u:=v') (f':={ fo st k with epochs:=(fo st k).epochs++[e] }) ⟨by simp,by simp,by simp⟩ (by omega) o1 m1 b1 hone fun kp=>h.is.epRow (r:=⟨v',(R (.ep k)).cells++[x]⟩) hf kp (((h.is.fo k _ hf).2.keep kp).ep.snoc (z30 hx kp))
 exact ⟨_,h8,m8,by rw [yU];rfl⟩
set_option maxHeartbeats 16000000 in
theorem zMl (h:WK X base bw W R c dv st done late) {k g o:Nat} (hk:k < st.folders.length) (ha:foAt R k g o) (hfnd:zP st (fo st k).name=some (fo st k)) (hsm:SmF st) (hr:z28 (fo st k).wraps) (hwl:(fo st k).wraps.length<=5000) (hep:(fo st k).epochs≠[]) (hel:(fo st k).epochs.length<=5000) (hml:∀m∈(fo st k).manifests,m.members.length<=1000000):
  Calls Tryz.prog 145 #[.pointer (some ⟨bw,0,none⟩),.pointer (some ⟨g,o,none⟩)] W fun e w'=>e= .returned (.tuple #[])/\Wrote X base bw W R c dv late (YR st k c.user) done w':=by
 obtain ⟨iEpoch,hiEpoch,hzEpoch,h1Epoch,h2Epoch⟩:=info_parts (show (Tryz.prog.info? 130).map (fun i=>(i.zero,i.size,i.bytes))=some (some (.agg #[.int .i64 0,.int .i64 0,.int .i64 0,.slice none 0 0,.string ⟨#[]⟩]),5,64) from by kernel_rfl);obtain ⟨A7,c7,e7,hkind,hus,_⟩:=YQ h.call;clear e7 hkind;have HUS:=zh hus;have HW:=zh h;have HA:=zh ha;have HRI:=zh hr;have hman:=(hsm _ (yN hk)).2.2.1;have hm100:=(hsm _ (yN hk)).2.1;have hnz:=(hsm _ (yN hk)).1;obtain ⟨m,hme⟩:∃m,zH (fo st k)=m:=⟨_,rfl⟩;have HME:=zh hme;obtain ⟨A2,c2,A3,c3,A4,c4,A5,c5,A6,c6,eh,hF,u0,u1,u2,u3,u4,u5,u6,hg,gz⟩:=h.fold (ZO hk) ha;obtain ⟨m_A2,m_c2,m_A4,m_c4,⟨q1,q2,q3,q4,q5,q6,q7⟩,HNW⟩:=z6a h hk ha hman;rw [hme] at HNW q1 q3 q4 q5 q6 q7 hm100;rw [eh] at HNW;have HNC:=zh (HNW W zbr);have HQ4:=zh q4;have HML:=zh hml;have hbw:=h.lt;have HU0:=zh u0;clear h ha hsm hr eh hF gz q4 HNW hme hml;go_enter Tryz.func145,Tryz.ntmps145
 go_wp2_with fail
 refine zcm HNC.out ?_;rintro e1 w1 ⟨rfl,B1⟩;obtain ⟨w2,hw2,cw2,fw2,Bw2,qw2⟩:=zQ w1 #[.string ⟨#[]⟩,.int .i64 0,.slice none 0 0,.string ⟨#[]⟩,.slice none 0 0,.int .i64 0,.bool false,.string ⟨#[]⟩] 84;have HT2:w2.heap[w1.heap.size]? =some (.cells #[.string ⟨#[]⟩,.int .i64 0,.slice none 0 0,.string ⟨#[]⟩,.slice none 0 0,.int .i64 0,.bool false,.string ⟨#[]⟩] 84 (0,0)):=by rw [<-hw2];exact zJ _ rfl
 have d0:w2.cell? ⟨w1.heap.size,0,none⟩=some (.string ⟨#[]⟩):=(zD HT2).1 0 _ rfl;have d1:w2.cell? ⟨w1.heap.size,1,none⟩=some (.int .i64 0):=(zD HT2).1 1 _ rfl;have d2:w2.cell? ⟨w1.heap.size,2,none⟩=some (.slice none 0 0):=(zD HT2).1 2 _ rfl;have d3:w2.cell? ⟨w1.heap.size,3,none⟩=some (.string ⟨#[]⟩):=(zD HT2).1 3 _ rfl;have d4:w2.cell? ⟨w1.heap.size,4,none⟩=some (.slice none 0 0):=(zD HT2).1 4 _ rfl;have d5:w2.cell? ⟨w1.heap.size,5,none⟩=some (.int .i64 0):=(zD HT2).1 5 _ rfl;have d6:w2.cell? ⟨w1.heap.size,6,none⟩=some (.bool false):=(zD HT2).1 6 _ rfl;have d7:w2.cell? ⟨w1.heap.size,7,none⟩=some (.string ⟨#[]⟩):=(zD HT2).1 7 _ rfl;have dz:=(zD HT2).2;have H2:=zh HT2;have HB2:=zh Bw2;clear cw2 fw2 HT2 Bw2 u0 u1 u2 u3 u4 u5 u6;go_upto_region 1 with fail
 obtain ⟨E1,E2⟩:=z6n H2.out (.string m.folder) (.int .i64 m.seq) (.slice m_A2 m.prev.length m_c2) (.string m.parent) (.slice m_A4 m.members.length m_c4) (.int .i64 m.cut) (.bool m.gone) (.string m.who);generalize hW3:World.setCell _ _ _=w3 at E1 E2⊢;have B3:Below W.heap.size W w3:=zB B1 (ButB.below HB2.out (by omega) (fun z hz=>by omega) E2);have HB3:=zh B3;have HT3:=zh E1;have H3:=zh (HW.out.below B3);have hz1:=B1.size;have hz3:w1.heap.size < w3.heap.size:=zO E1;clear hW3 E1 E2 B3 B1 d0 d1 d2 d3 d4 d5 d6 d7 dz hw2 qw2;have HSQ1:=zh (show ∀W':World,Below w3.heap.size w3 W'->(fun W':World=>W'.cell? ⟨w1.heap.size,1,none⟩=some (.int .i64 m.seq)/\W'.cell? ⟨bw,8,none⟩=some (.int .i64 st.turn)/\W'.cell? ⟨bw,9,none⟩=some (R .us).v/\W'.cell? ⟨bw,10,none⟩=some (R .de).v/\W'.cell? ⟨bw,11,none⟩=some (R .fo).v/\W'.cell? ⟨bw,1,none⟩=some (.string c.user)/\W'.cell? ⟨g,o,none⟩=some (.string (fo st k).name)) W' from fun W' hW=>by
  have h2:=H3.out.below hW;exact ⟨(hW.cell (p:=⟨w1.heap.size,1,none⟩) hz3).trans ((zD HT3.out).1 1 _ rfl),h2.cells.1 8 _ rfl,h2.cells.1 9 _ rfl,h2.cells.1 10 _ rfl,h2.cells.1 11 _ rfl,h2.cells.1 1 _ rfl,((zB HB3.out hW).cell (p:=⟨g,o,none⟩) hg).trans HU0.out⟩)
 go_cut [5] from 13 to 31 (fun s5 wx=>∃b5 A9 c9,s5= .pointer (some ⟨b5,0,none⟩)/\w3.heap.size<=b5/\Hid (wx.heap[b5]? =some (.cells #[.int .i64 1,.int .i64 m.seq,.int .i64 m.seq,.slice A9 (zN st 4 (fo st k).name).length c9,.string c.user] 130 (0,0)))/\Hid (Sl 2 rAt (fun b=>w3.heap.size<=b/\b≠b5) wx (.slice A9 (zN st 4 (fo st k).name).length c9) (zN st 4 (fo st k).name))/\Below w3.heap.size w3 wx)
 case first=>
  have HS:=HSQ1.out;refine zE (by kernel_rfl) HS (fun hHeld=>?_);refine zi 0 ?_;iterate 12 (refine zt hHeld ?_;simp only [zA])
  refine zo ?_;refine zi 13 ?_;iterate 5 (refine zt hHeld ?_;simp only [zA])
  refine zo ?_;refine wpAnyH_ready (rs:=[12,19]) (by kernel_rfl) (by simp) ?_;refine AllReadyH.cons rfl (fun K hK=>?_) (AllReadyH.cons rfl (fun K hK=>?_) AllReadyH.nil)
  ·go_simp;go_at_call 67
   refine zcm (z2x st (fo st k).name (by omega) _ _ (fun _=>True) (H3.out.below (zbr.drew)).state) ?_;rintro e4 w4 ⟨⟨v4,rfl,hs4⟩,b4⟩;obtain ⟨A9,c9,rfl,hr4⟩:=hs4;have B4:=zh (show Below w3.heap.size w3 w4 from zB (zbr.drew) b4);clear b4 hHeld;refine hK.out _ _ (HS _ (B4.out)) (fun hHeld=>?_);clear hK K;refine zT 18 hHeld ?_;simp only [zA];refine zr 19 fun K hK=>?_
   obtain ⟨w5,hw5,cw5,fw5,Bw5,qw5⟩:=zQ w4 #[.int .i64 0,.int .i64 0,.int .i64 0,.slice none 0 0,.string ⟨#[]⟩] 130;have T5:w5.heap[(w4).heap.size]? =some (.cells #[.int .i64 0,.int .i64 0,.int .i64 0,.slice none 0 0,.string ⟨#[]⟩] 130 (0,0)):=by rw [<-hw5];exact zJ _ rfl
   go_simp;have HB5:=zh (zB B4.out Bw5);refine hK.out _ _ (HS _ (HB5.out)) (fun hHeld=>?_);clear hK K;have d0:(w5).cell? ⟨w4.heap.size,0,none⟩=some (.int .i64 0):=(zD T5).1 0 _ rfl;have d1:(w5).cell? ⟨w4.heap.size,1,none⟩=some (.int .i64 0):=(zD T5).1 1 _ rfl;have d2:(w5).cell? ⟨w4.heap.size,2,none⟩=some (.int .i64 0):=(zD T5).1 2 _ rfl;have d3:(w5).cell? ⟨w4.heap.size,3,none⟩=some (.slice none 0 0):=(zD T5).1 3 _ rfl;have d4:(w5).cell? ⟨w4.heap.size,4,none⟩=some (.string ⟨#[]⟩):=(zD T5).1 4 _ rfl;have dz:=(zD T5).2;have HT5:=zh T5;clear T5 cw5 fw5;refine zr 20 fun K hK=>?_
   go_simp;obtain ⟨F1,F2⟩:=zEr HT5.out (.int .i64 1) (.int .i64 m.seq) (.int .i64 m.seq) (.slice A9 (zN st 4 (fo st k).name).length c9) (.string c.user);generalize hW6:World.setCell _ _ _=w6 at F1 F2⊢;have B6:Below w3.heap.size w3 w6:=ButB.below HB5.out (by have:=HB5.out.size;omega) (fun z hz=>by have:=B4.out.size;omega) F2;refine hK.out _ _ (HS _ (B6)) (fun hHeld=>?_);clear hK K;refine wpAnyH_done (by kernel_rfl) ?_ _;go_wp2;go_meet
   refine ⟨w4.heap.size,A9,c9,rfl,B4.out.size,F1,?_,B6⟩;have hs4:Sl 2 rAt (fun b=>w3.drew.heap.size<=b) w4 (.slice A9 (zN st 4 (fo st k).name).length c9) (zN st 4 (fo st k).name):=⟨A9,c9,rfl,hr4⟩;exact hs4.keep Z1 (by decide) fun b hb hl=>⟨⟨hb,by omega⟩,(F2.block b (by have:=Bw5.size;omega) (by omega)).trans (Bw5.block b hl)⟩
  obtain ⟨w5,hw5,cw5,fw5,Bw5,qw5⟩:=zQ w3.drew #[.int .i64 0,.int .i64 0,.int .i64 0,.slice none 0 0,.string ⟨#[]⟩] 130;have T5:w5.heap[(w3.drew).heap.size]? =some (.cells #[.int .i64 0,.int .i64 0,.int .i64 0,.slice none 0 0,.string ⟨#[]⟩] 130 (0,0)):=by rw [<-hw5];exact zJ _ rfl
  go_simp;have HB5:=zh (show Below w3.heap.size w3 w5 from zB zbr.drew Bw5);refine hK.out _ _ (HS _ (HB5.out)) (fun hHeld=>?_);clear hK K;have HT5:=zh T5;clear T5 cw5 fw5;refine zr 12 fun K hK=>?_
  go_simp;go_at_call 67
  refine zcm (z2x st (fo st k).name (by omega) _ _ (fun _=>True) (H3.out.below (HB5.out)).state) ?_;rintro e4 w4 ⟨⟨v4,rfl,hs4⟩,b4⟩;obtain ⟨A9,c9,rfl,hr4⟩:=hs4;have B4:=zh (show Below w3.heap.size w3 w4 from zB (HB5.out) b4);have HT6:=zh ((b4.block _ (zO HT5.out)).trans HT5.out);have hq5:w3.heap.size < w5.heap.size:=zO HT5.out;clear hHeld;refine hK.out _ _ (HS _ (B4.out)) (fun hHeld=>?_);clear hK K;refine zT 18 hHeld ?_;simp only [zA];have d0:(w4).cell? ⟨w3.heap.size,0,none⟩=some (.int .i64 0):=(zD HT6.out).1 0 _ rfl;have d1:(w4).cell? ⟨w3.heap.size,1,none⟩=some (.int .i64 0):=(zD HT6.out).1 1 _ rfl;have d2:(w4).cell? ⟨w3.heap.size,2,none⟩=some (.int .i64 0):=(zD HT6.out).1 2 _ rfl;have d3:(w4).cell? ⟨w3.heap.size,3,none⟩=some (.slice none 0 0):=(zD HT6.out).1 3 _ rfl;have d4:(w4).cell? ⟨w3.heap.size,4,none⟩=some (.string ⟨#[]⟩):=(zD HT6.out).1 4 _ rfl;have dz:∀q,w4.frozen? ⟨w3.heap.size,q,none⟩=false:=(zD HT6.out).2;refine zr 20 fun K hK=>?_
  go_simp;obtain ⟨F1,F2⟩:=zEr (pb:=w3.heap.size) HT6.out (.int .i64 1) (.int .i64 m.seq) (.int .i64 m.seq) (.slice A9 (zN st 4 (fo st k).name).length c9) (.string c.user);generalize hW6:World.setCell _ _ _=w6 at F1 F2⊢;have B6:Below w3.heap.size w3 w6:=ButB.below B4.out (by have:=B4.out.size;omega) (fun z hz=>by omega) F2;refine hK.out _ _ (HS _ (B6)) (fun hHeld=>?_);clear hK K;refine wpAnyH_done (by kernel_rfl) ?_ _;go_wp2;go_meet
  refine ⟨w3.heap.size,A9,c9,rfl,znl _,F1,?_,B6⟩;have hs4:Sl 2 rAt (fun b=>w5.heap.size<=b) w4 (.slice A9 (zN st 4 (fo st k).name).length c9) (zN st 4 (fo st k).name):=⟨A9,c9,rfl,hr4⟩;exact hs4.keep Z1 (by decide) fun b hb hl=>⟨⟨by omega,by omega⟩,F2.block b hl (by omega)⟩
 obtain ⟨b5,A9,c9,rfl,hb5,HE5,HSL,hbx⟩:=hcut;obtain ⟨n,hn⟩:∃n,(fo st k).epochs.length=n+1:=⟨(fo st k).epochs.length - 1,by have:=List.length_pos_iff.2 hep;omega⟩;obtain ⟨e,he⟩:∃e,(fo st k).epochs[n]? =some e:=⟨_,qLgx (by omega)⟩;have HLE:=zh (show (fo st k).epochs.getLast?.getD zEd=e by rw [List.getLast?_eq_getElem?,hn,Nat.add_sub_cancel,he];rfl);have HWX:=zh (H3.out.below hbx);have HBX:=zh hbx;have hzx:=hbx.size;obtain ⟨cs,hcs,hcr⟩:=(HWX.out.is.fo k _ (ZO hk)).2.ep.at he;obtain ⟨ge,oe,cap,hv,he1,he2,hge,hcell,_⟩:=(HWX.out.os.row (.ep k)).at hcs;obtain ⟨e_A3,e_c3,rfl,e_place_ok,e_frm_ok,e_seq_ok,_⟩:=z3o hcr;obtain ⟨D2,f2,D3,f3,D4,f4,D5,f5,D6,f6,eh,hF,v0,v1,v2,v3,v4,v5,v6,hg7,gz⟩:=HWX.out.fold (ZO hk) HA.out;have hev:(R (.ep k)).v= .slice D3 (fo st k).epochs.length f3:=by
  simp only [hdr,List.cons.injEq] at eh;exact eh.2.2.2.1
 have hcl:(R (.ep k)).cells.length=(fo st k).epochs.length:=(HWX.out.is.fo k _ (ZO hk)).2.ep.1;rw [hv] at hev;simp only [Value.slice.injEq] at hev;obtain ⟨rfl,_,rfl⟩:=hev;have hn1:((fo st k).epochs.length:Int)=(n:Int)+1:=by omega
 unfold maxLen at he2;have hcap:n+1<=cap:=by omega
 have hn5:n<=5000:=by omega
 have hwn:IntKind.i64.wrap (n:Int)=(n:Int):=IntWalk.i64_in _ (by omega);have hni:(n:Int) < (n:Int)+1:=by omega
 rw [hn] at v3;have HSQ2:=zh (show ∀W':World,Below wc.heap.size wc W'->(fun W':World=>W'.cell? ⟨g,o+3,none⟩=some (.slice (some ⟨ge,oe,none⟩) (n+1) cap)/\W'.cell? ⟨ge,oe+n*5,none⟩=some (.int .i64 e.place)/\W'.cell? ⟨ge,oe+n*5+1,none⟩=some (.int .i64 e.frm)/\W'.cell? ⟨ge,oe+n*5+2,none⟩=some (.int .i64 e.seq)/\W'.cell? ⟨ge,oe+n*5+3,none⟩=some (.slice e_A3 e.chain.length e_c3)/\W'.cell? ⟨ge,oe+n*5+4,none⟩=some (.string e.who)) W' from fun W' hW=>
  ⟨(hW.cell (p:=⟨g,o+3,none⟩) hg7).trans v3,(hW.cell (p:=⟨ge,oe+n*5,none⟩) hge).trans (hcell 0 _ rfl),(hW.cell (p:=⟨ge,oe+n*5+1,none⟩) hge).trans (hcell 1 _ rfl),(hW.cell (p:=⟨ge,oe+n*5+2,none⟩) hge).trans (hcell 2 _ rfl),(hW.cell (p:=⟨ge,oe+n*5+3,none⟩) hge).trans (hcell 3 _ rfl),(hW.cell (p:=⟨ge,oe+n*5+4,none⟩) hge).trans (hcell 4 _ rfl)⟩)
 clear hcs hcr hcell eh hF v0 v1 v2 v3 v4 v5 v6 gz hv he hcl he1 hep hn;obtain ⟨NE,hNE⟩:∃x,z2b st (fo st k) c.user=x:=⟨_,rfl⟩;have HNE:=zh hNE;clear hNE;go_upto_region 2 with fail
 go_cut [6] from 32 to 40 (fun s6 wy=>∃b6,s6= .pointer (some ⟨b6,0,none⟩)/\wc.heap.size<=b6/\Hid (wy.heap[b6]? =some (.cells #[.int .i64 e.place,.int .i64 e.frm,.int .i64 e.seq,.slice e_A3 e.chain.length e_c3,.string e.who] 130 (0,0)))/\Below wc.heap.size wc wy)
 case first=>
  have HS:=HSQ2.out;refine zE (by kernel_rfl) HS (fun hHeld=>?_);refine zi 0 ?_;iterate 5 (refine zt hHeld ?_;simp only [zA])
  refine zo ?_;refine wpAnyH_ready (rs:=[5,9]) (by kernel_rfl) (by simp) ?_;refine AllReadyH.cons rfl (fun K hK=>?_) (AllReadyH.cons rfl (fun K hK=>?_) AllReadyH.nil)
  ·go_simp;go_at_call 158
   refine zcm (z2z (HWX.out.below (zbr.drew)) hk HA.out) ?_;rintro e9 w9 ⟨rfl,he9⟩;replace he9:=he9.symm;subst he9;rw [hn1];refine hK.out _ _ (HS _ (zbr.drew)) (fun hHeld=>?_);clear hK K;refine zi 6 ?_;iterate 3 (refine zt hHeld ?_;simp only [zA])
   refine zo ?_;refine zr 9 fun K hK=>?_
   obtain ⟨w5,hw5,cw5,fw5,Bw5,qw5⟩:=zQ wc.drew #[.int .i64 0,.int .i64 0,.int .i64 0,.slice none 0 0,.string ⟨#[]⟩] 130;have T5:w5.heap[wc.drew.heap.size]? =some (.cells #[.int .i64 0,.int .i64 0,.int .i64 0,.slice none 0 0,.string ⟨#[]⟩] 130 (0,0)):=by rw [<-hw5];exact zJ _ rfl
   go_simp;have HB5:=zh (show Below wc.heap.size wc w5 from zB zbr.drew Bw5);refine hK.out _ _ (HS _ (HB5.out)) (fun hHeld=>?_);clear hK K;have HT5:=zh T5;clear T5 cw5 fw5;have d0:w5.cell? ⟨wc.heap.size,0,none⟩=some (.int .i64 0):=(zD HT5.out).1 0 _ rfl;have d1:w5.cell? ⟨wc.heap.size,1,none⟩=some (.int .i64 0):=(zD HT5.out).1 1 _ rfl;have d2:w5.cell? ⟨wc.heap.size,2,none⟩=some (.int .i64 0):=(zD HT5.out).1 2 _ rfl;have d3:w5.cell? ⟨wc.heap.size,3,none⟩=some (.slice none 0 0):=(zD HT5.out).1 3 _ rfl;have d4:w5.cell? ⟨wc.heap.size,4,none⟩=some (.string ⟨#[]⟩):=(zD HT5.out).1 4 _ rfl;have dz:∀q,w5.frozen? ⟨wc.heap.size,q,none⟩=false:=(zD HT5.out).2;refine zr 10 fun K hK=>?_
   go_simp;obtain ⟨F1,F2⟩:=zEr (pb:=wc.heap.size) HT5.out (.int .i64 e.place) (.int .i64 e.frm) (.int .i64 e.seq) (.slice e_A3 e.chain.length e_c3) (.string e.who);generalize hW6:World.setCell _ _ _=w6 at F1 F2⊢;have B6:Below wc.heap.size wc w6:=ButB.below HB5.out (by have:=HB5.out.size;omega) (fun z hz=>by omega) F2;refine hK.out _ _ (HS _ (B6)) (fun hHeld=>?_);clear hK K;refine wpAnyH_done (by kernel_rfl) ?_ _;go_wp2;go_meet
   case rel=>exact ⟨wc.heap.size,rfl,znl _,F1,B6⟩
  obtain ⟨w5,hw5,cw5,fw5,Bw5,qw5⟩:=zQ wc.drew #[.int .i64 0,.int .i64 0,.int .i64 0,.slice none 0 0,.string ⟨#[]⟩] 130;have T5:w5.heap[wc.drew.heap.size]? =some (.cells #[.int .i64 0,.int .i64 0,.int .i64 0,.slice none 0 0,.string ⟨#[]⟩] 130 (0,0)):=by rw [<-hw5];exact zJ _ rfl
  go_simp;have HB5:=zh (show Below wc.heap.size wc w5 from zB zbr.drew Bw5);refine hK.out _ _ (HS _ (HB5.out)) (fun hHeld=>?_);clear hK K;have HT5:=zh T5;clear T5 cw5 fw5;refine zr 5 fun K hK=>?_
  go_simp;go_at_call 158
  refine zcm (z2z (HWX.out.below (HB5.out)) hk HA.out) ?_;rintro e9 w9 ⟨rfl,he9⟩;replace he9:=he9.symm;subst he9;rw [hn1];refine hK.out _ _ (HS _ (HB5.out)) (fun hHeld=>?_);clear hK K;refine zi 6 ?_;iterate 3 (refine zt hHeld ?_;simp only [zA])
  refine zo ?_;have d0:w5.cell? ⟨wc.heap.size,0,none⟩=some (.int .i64 0):=(zD HT5.out).1 0 _ rfl;have d1:w5.cell? ⟨wc.heap.size,1,none⟩=some (.int .i64 0):=(zD HT5.out).1 1 _ rfl;have d2:w5.cell? ⟨wc.heap.size,2,none⟩=some (.int .i64 0):=(zD HT5.out).1 2 _ rfl;have d3:w5.cell? ⟨wc.heap.size,3,none⟩=some (.slice none 0 0):=(zD HT5.out).1 3 _ rfl;have d4:w5.cell? ⟨wc.heap.size,4,none⟩=some (.string ⟨#[]⟩):=(zD HT5.out).1 4 _ rfl;have dz:∀q,w5.frozen? ⟨wc.heap.size,q,none⟩=false:=(zD HT5.out).2;refine zr 10 fun K hK=>?_
  go_simp;obtain ⟨F1,F2⟩:=zEr (pb:=wc.heap.size) HT5.out (.int .i64 e.place) (.int .i64 e.frm) (.int .i64 e.seq) (.slice e_A3 e.chain.length e_c3) (.string e.who);generalize hW6:World.setCell _ _ _=w6 at F1 F2⊢;have B6:Below wc.heap.size wc w6:=ButB.below HB5.out (by have:=HB5.out.size;omega) (fun z hz=>by omega) F2;refine hK.out _ _ (HS _ (B6)) (fun hHeld=>?_);clear hK K;refine wpAnyH_done (by kernel_rfl) ?_ _;go_wp2;go_meet
  case rel=>exact ⟨wc.heap.size,rfl,znl _,F1,B6⟩
 obtain ⟨b6,rfl,hb6,HE6,hby⟩:=hcut;have HWY:=zh (HWX.out.below hby);have HBY:=zh (zB HBX.out hby);have g60:wc.cell? ⟨b6,0,none⟩=some (.int .i64 e.place):=(zD HE6.out).1 0 _ rfl;have g61:wc.cell? ⟨b6,1,none⟩=some (.int .i64 e.frm):=(zD HE6.out).1 1 _ rfl;have HE5y:=zh ((hby.block _ (zO HE5.out)).trans HE5.out);have hb56:b5 < b6:=by have:=zO HE5.out;omega
 have HSLy:=zh (HSL.out.keep Z1 (by decide) (zK hby));obtain ⟨cb,hcb⟩:∃cb,(decide (e.place < 4) && z5v (fo st k) e.frm)=cb:=⟨_,rfl⟩;have HCB:=zh hcb;clear hby hcb;go_upto_region 3 with fail
 go_cut [49] from 41 to 48 (fun s49 wy=>s49= .bool cb/\Below wc.heap.size wc wy)
 case first=>
  by_cases hp:e.place < 4
  ·have HP:=zh (show z5v (fo st k) e.frm=cb by rw [<-HCB.out,decide_eq_true hp];rfl);go_wp2_with fail
   refine zcm (zOm HWY.out hk HA.out e.frm HML.out) ?_;rintro e7 w7 ⟨rfl,B7⟩;have HB7:=zh B7;clear B7;rw [HP.out];go_wp2;go_meet
   case rel=>exact ⟨rfl,HB7.out⟩
  have HP:=zh (show cb=false by rw [<-HCB.out,decide_eq_false hp];rfl);go_wp2_with fail
  go_meet
  case rel=>exact ⟨by rw [HP.out],Below.refl _ _⟩
 obtain ⟨rfl,hbz⟩:=hcut;have HBZ:=zh (zB HBY.out hbz);have HE5z:=zh ((hbz.block _ (zO HE5y.out)).trans HE5y.out);have HSLz:=zh (HSLy.out.keep Z1 (by decide) (zK hbz));have k60:=(hbz.cell (p:=⟨b6,0,none⟩) (zF g60)).trans g60;have k61:=(hbz.cell (p:=⟨b6,1,none⟩) (zF g61)).trans g61;have k50:wc.cell? ⟨b5,0,none⟩=some (.int .i64 1):=(zD HE5z.out).1 0 _ rfl;have k51:wc.cell? ⟨b5,1,none⟩=some (.int .i64 m.seq):=(zD HE5z.out).1 1 _ rfl;have kz:∀q,wc.frozen? ⟨b5,q,none⟩=false:=(zD HE5z.out).2;have hn56:¬(b5=b6):=by omega
 have hn65:¬(b6=b5):=by omega
 clear g60 g61 hbz;go_upto_if 49 with fail
 go_cut [5] from 50 to 56 (fun s5 wx=>s5= .pointer (some ⟨b5,0,none⟩)/\Hid (wx.heap[b5]? =some (.cells #[.int .i64 NE.place,.int .i64 NE.frm,.int .i64 NE.seq,.slice A9 NE.chain.length c9,.string NE.who] 130 (0,0)))/\Hid (Sl 2 rAt (fun b=>w3.heap.size<=b/\b≠b5) wx (.slice A9 NE.chain.length c9) NE.chain)/\Below w3.heap.size w3 wx)
 case first=>
  cases cb
  ·have HNO:=zh (show NE=⟨1,m.seq,m.seq,zN st 4 (fo st k).name,c.user⟩ by
    rw [<-HNE.out];unfold z2b;rw [HLE.out,HCB.out,if_neg (by decide),HME.out])
   go_wp2;go_meet
   rw [HNO.out];exact ⟨rfl,HE5z.out,HSLz.out,HBZ.out⟩
  have HYE:=zh (show NE=⟨e.place+1,e.frm,m.seq,zN st 4 (fo st k).name,c.user⟩ by
   rw [<-HNE.out];unfold z2b;rw [HLE.out,HCB.out,if_pos rfl,HME.out])
  have HLT:=zh (show e.place < 4 by
   have h9:=HCB.out;simp only [qBqx,decide_eq_true_eq] at h9;exact h9.1)
  have hwp:IntKind.i64.wrap (e.place+1)=e.place+1:=by
   have:=e_place_ok.1;have:=HLT.out;rw [IntKind.wrap_i64];omega
  have T1:=zI (i:=1) (.int .i64 e.frm) (zI (i:=0) (.int .i64 (e.place+1)) HE5z.out rfl) rfl;have T2:ButB (fun z=>z=b5) wc ((wc.setCell ⟨b5,0,none⟩ (.int .i64 (e.place+1))).setCell ⟨b5,1,none⟩ (.int .i64 e.frm)):=((ButB.refl (fun z=>z=b5) wc).set _ _ rfl).set _ _ rfl;have HT1:=zh T1;have HT2:=zh T2;clear T1 T2;go_wp2_with fail
  go_region
  all_goals
   go_wp2;go_meet
   case rel=>
    rw [HYE.out];exact ⟨rfl,HT1.out,HSLz.out.keep Z1 (by decide) (HT2.out.drew.kept fun b hb=>⟨hb,hb.2⟩),(ButB.below HBZ.out (by have:=HBZ.out.size;omega) (fun z hz=>by omega) HT2.out.drew)⟩
 obtain ⟨rfl,HE5n,HSLn,hbn⟩:=hcut;have HWN:=zh (H3.out.below hbn);have HBN:=zh hbn;have HNE5:=zh (show I64 NE.place/\I64 NE.frm/\I64 NE.seq/\NE.who.size<=140737488355328 by
  rw [<-HNE.out];unfold z2b;rw [HLE.out,HME.out];split
  ·rename_i hc;have hlt:e.place < 4:=by
    simp only [qBqx,decide_eq_true_eq] at hc;exact hc.1
   exact ⟨(show I64 (e.place+1) from ⟨by have:=e_place_ok.1;omega,by omega⟩),e_frm_ok,q5,HUS.out⟩
  ·exact ⟨(show I64 1 from ⟨by decide,by decide⟩),q5,q5,HUS.out⟩)
 have HXE:=zh (show z02 (Imm X bw R wc) wc [.int .i64 NE.place,.int .i64 NE.frm,.int .i64 NE.seq,.slice A9 NE.chain.length c9,.string NE.who] NE from by
  refine ⟨_,rfl,HNE5.out.1,HNE5.out.2.1,HNE5.out.2.2.1,?_,HNE5.out.2.2.2⟩;refine HSLn.out.keep Z1 (by decide) fun b hb hl=>⟨⟨hl,?_,fun e=>?_,fun e=>?_⟩,rfl⟩
  ·have:=HB3.out.size;omega
  ·have:=HW.out.os.lt e;have:=HB3.out.size;omega
  ·have:=HW.out.xl b e;have:=HB3.out.size;omega)
 obtain ⟨D2,f2,D3,f3,D4,f4,D5,f5,D6,f6,eh,hF,v0,v1,v2,v3,v4,v5,v6,hg8,gz⟩:=HWN.out.fold (ZO hk) HA.out;have hev:(R (.ep k)).v= .slice D3 (fo st k).epochs.length f3:=by
  simp only [hdr,List.cons.injEq] at eh;exact eh.2.2.2.1
 have hcl:(R (.ep k)).cells.length=(fo st k).epochs.length:=(HWN.out.is.fo k _ (ZO hk)).2.ep.1;have HROW:=zh (show RowC 130 5 wc (.slice D3 (fo st k).epochs.length f3) (R (.ep k)).cells from by rw [<-hev];exact HWN.out.os.row (.ep k));have HNG:=zh (show (Value.slice D3 (fo st k).epochs.length f3).ownBlock≠some g from fun e=>by
  rw [<-hev] at e;obtain ⟨n9,c9',o9,hv9,_⟩:=HA.out;have:=HWN.out.os.inj (.ep k) .fo g e (by rw [hv9];rfl);cases this)
 have hrow:∀b,(Value.slice D3 (fo st k).epochs.length f3).ownBlock=some b->b < W.heap.size:=fun b e=>HW.out.os.lt ⟨.ep k,by rw [hev];exact e⟩
 have HNM:=zh (show (Value.slice D3 (fo st k).epochs.length f3).ownBlock≠some w1.heap.size from fun e=>by have:=hrow _ e;omega);have hgm:¬(w1.heap.size=g):=by omega
 have HEV:=zh hev;have HT8:=zh ((hbn.block _ hz3).trans HT3.out);have c50:wc.cell? ⟨b5,0,none⟩=some (.int .i64 NE.place):=(zD HE5n.out).1 0 _ rfl;have c51:wc.cell? ⟨b5,1,none⟩=some (.int .i64 NE.frm):=(zD HE5n.out).1 1 _ rfl;have c52:wc.cell? ⟨b5,2,none⟩=some (.int .i64 NE.seq):=(zD HE5n.out).1 2 _ rfl;have c53:wc.cell? ⟨b5,3,none⟩=some (.slice A9 NE.chain.length c9):=(zD HE5n.out).1 3 _ rfl;have c54:wc.cell? ⟨b5,4,none⟩=some (.string NE.who):=(zD HE5n.out).1 4 _ rfl;have HFI:=zh (show ∀(A8:Option Addr) (n8 cp8:Nat) (w9:World),RowC 130 5 w9 (.slice A8 n8 cp8) ((R (.ep k)).cells++[[.int .i64 NE.place,.int .i64 NE.frm,.int .i64 NE.seq,.slice A9 NE.chain.length c9,.string NE.who]])->ButB (fun z=>(Value.slice D3 (fo st k).epochs.length f3).ownBlock=some z) wc w9->((Value.slice A8 n8 cp8).ownBlock=(Value.slice D3 (fo st k).epochs.length f3).ownBlock\/∃k,(Value.slice A8 n8 cp8).ownBlock=some k/\wc.heap.size<=k)->
   Wrote X base bw w3 R c dv late (setF st k { fo st k with epochs:=(fo st k).epochs++[NE] }) done (w9.setCell ⟨g,o+3,none⟩ (.slice A8 n8 cp8))/\(w9.setCell ⟨g,o+3,none⟩ (.slice A8 n8 cp8)).heap[w1.heap.size]? =some (.cells #[.string m.folder,.int .i64 m.seq,.slice m_A2 m.prev.length m_c2,.string m.parent,.slice m_A4 m.members.length m_c4,.int .i64 m.cut,.bool m.gone,.string m.who] 84 (0,0)) from fun A8 n8 cp8 w9 r9 p9 o9=>by
  refine ⟨?_,zR _ ((p9.block _ (zO HT8.out) HNM.out).trans HT8.out) hgm⟩;have hlt:=HWN.out.epTo hk HA.out (v':= .slice A8 n8 cp8) (by omega) r9 (by rw [HEV.out];exact p9) (by rw [HEV.out];exact o9) rfl HXE.out;exact hlt.pre HBN.out)
 have HGZ8:=zh gz;have hel9:(R (.ep k)).cells.length<=10000:=by omega
 clear eh hF v0 v1 v2 v4 v5 v6 gz hev hcl hbn hrow;go_upto_region 5 with fail
 go_cut [4] from 57 to 66 (fun s4 wx=>s4= .pointer (some ⟨w1.heap.size,0,none⟩)/\Hid (Wrote X base bw w3 R c dv late (setF st k { fo st k with epochs:=(fo st k).epochs++[NE] }) done wx)/\Hid (wx.heap[w1.heap.size]? =some (.cells #[.string m.folder,.int .i64 m.seq,.slice m_A2 m.prev.length m_c2,.string m.parent,.slice m_A4 m.members.length m_c4,.int .i64 m.cut,.bool m.gone,.string m.who] 84 (0,0))))
 case first=>
  have hz9:∀q,wc.frozen? ⟨g,q,none⟩=false:=HGZ8.out;go_region_law (refine z1a wc _ [.int .i64 NE.place,.int .i64 NE.frm,.int .i64 NE.seq,.slice A9 NE.chain.length c9,.string NE.who] rfl (.tmp 61) (.tmp 63) 69 rfl iEpoch _ 64 Tryz.underlying69 hiEpoch hzEpoch h1Epoch h2Epoch rfl (by decide) (by decide) (.slice D3 (fo st k).epochs.length f3) (R (.ep k)).cells rfl _ _ rfl HROW.out (by go_grown) (by omega) rfl (by intro u hu;simp at hu;rcases hu with rfl | rfl | rfl | rfl | rfl<;>rfl) (by repeat' first|with_reducible assumption|((with_reducible first|refine zR _ ?_ ?_|apply zJ);rotate_left;first|with_reducible rfl|((try dsimp only);first|with_reducible assumption|omega|(simp only [zS];done)|(simp only [zS];omega)))|with_reducible apply zI|with_reducible refine zZ _ ?_|with_reducible refine ZL ?_|refine (rfl:(_:Array Value)=_)) ?_;intro v9 w9 r9 p9 o9;obtain ⟨A8,n8,cp8,rfl⟩:=r9.shape3;have HF9:=zh (HFI.out _ _ _ _ r9 p9 o9);have k9:=p9.block g hg8 HNG.out;have g96:=(World.cell?_of_block (a:=⟨g,o+3,none⟩) k9).trans v3;have z9:∀q,w9.frozen? ⟨g,q,none⟩=false:=(fun q=>by unfold World.frozen?;rw [k9];exact hz9 q);clear k9 r9 p9 o9)
  all_goals
   go_wp2;go_meet
   case rel=>exact ⟨rfl,HF9.out.1,HF9.out.2⟩
 obtain ⟨rfl,HWE,HTM⟩:=hcut;have x4:wc.cell? ⟨w1.heap.size,4,none⟩=some (.slice m_A4 m.members.length m_c4):=(zD HTM.out).1 4 _ rfl;go_wp2_with fail
 go_loopw [70] (fun i wq=>∃q:Nat,q<=m.members.length/\i= .int .i64 q/\Hid (Wrote X base bw w3 R c dv late (setF st k (ZZ (fun x=>decide (2<=x.role)) { fo st k with epochs:=(fo st k).epochs++[NE] } (m.members.take q))) done wq)) (fun i _=>m.members.length - (intOf i).toNat)
 case atStart=>exact ⟨0,by omega,by go_num,HWE.out⟩
 obtain ⟨q,hq,rfl,HWQ⟩:=hrel;by_cases hql:q < m.members.length
 rotate_left
 ·obtain rfl:q=m.members.length:=by omega
  have HEND:=zh (show Wrote X base bw W R c dv late (YR st k c.user) done wr from by
   unfold YR;rw [HNE.out,HME.out];have h9:=HWQ.out;rw [qLnx] at h9;exact h9.pre HB3.out)
  go_wp2;go_end0
  exact ⟨rfl,HEND.out⟩
 have hqi:(q:Int) < (m.members.length:Int):=by omega
 obtain ⟨R2,h2,m2,e2'⟩:=HWQ.out;obtain ⟨y,y_b,y_o,y_k,y_d,y_m,rfl,y_l,y_S,y_0,y_1,y_R,y_name_le,y_role_ok⟩:=YW HQ4.out hql (Mut.kept ((Mut.below HB3.out).trans m2));have HY:=zh y_k;clear y_k y_d y_m y_R;obtain ⟨w9,hw9,cw9,fw9,Bw9,qw9⟩:=zQ wr #[.string ⟨#[]⟩,.int .i64 0] 87;have T9:w9.heap[wr.heap.size]? =some (.cells #[.string ⟨#[]⟩,.int .i64 0] 87 (0,0)):=by rw [<-hw9];exact zJ _ rfl
 have d0:w9.cell? ⟨wr.heap.size,0,none⟩=some (.string ⟨#[]⟩):=(zD T9).1 0 _ rfl;have d1:w9.cell? ⟨wr.heap.size,1,none⟩=some (.int .i64 0):=(zD T9).1 1 _ rfl;have dz:=(zD T9).2;have HT9:=zh T9;have HB9:=zh Bw9;have HK2:=zh h2;have HM2:=zh m2;have HF2:=zh e2';clear h2 m2 e2' cw9 fw9 T9 Bw9;go_wp2_with fail
 have E1:=zI (i:=1) (.int .i64 y.role) (zI (i:=0) (.string y.name) HT9.out rfl) rfl;have E2:ButB (fun z=>z=wr.heap.size) w9 ((w9.setCell ⟨wr.heap.size,0,none⟩ (.string y.name)).setCell ⟨wr.heap.size,1,none⟩ (.int .i64 y.role)):=((ButB.refl (fun z=>z=wr.heap.size) w9).set _ _ rfl).set _ _ rfl;generalize hw10:World.setCell _ _ _=w10 at E1 E2⊢;have B10:Below wr.heap.size wr w10:=ButB.below HB9.out (by omega) (fun z hz=>by omega) E2;have hk2l:k < (setF st k (ZZ (fun x=>decide (2<=x.role)) { fo st k with epochs:=(fo st k).epochs++[NE] } (m.members.take q))).folders.length:=by rw [Y4];exact hk
 have hfo2:fo (setF st k (ZZ (fun x=>decide (2<=x.role)) { fo st k with epochs:=(fo st k).epochs++[NE] } (m.members.take q))) k=ZZ (fun x=>decide (2<=x.role)) { fo st k with epochs:=(fo st k).epochs++[NE] } (m.members.take q):=Y3 hk;have gv2:=z4v (fun x=>decide (2<=x.role)) (m.members.take q) { fo st k with epochs:=(fo st k).epochs++[NE] };have hln:=z79 (fun x=>decide (2<=x.role)) (m.members.take q) { fo st k with epochs:=(fo st k).epochs++[NE] };have htl:(m.members.take q).length<=100:=by rw [List.length_take];omega
 have hwl2:({ fo st k with epochs:=(fo st k).epochs++[NE] }:Folder).wraps.length<=5000:=hwl;have hep2:({ fo st k with epochs:=(fo st k).epochs++[NE] }:Folder).epochs.length<=5001:=by
  show ((fo st k).epochs++[NE]).length<=5001
  rw [qLax];simp;omega
 refine zcm (z85 (HK2.out.below B10) hk2l (HA.out.keep HF2.out) (by rw [hfo2];exact gv2.wr HRI.out) (by rw [hfo2];omega) (by rw [hfo2,gv2.ep];omega) y.name y_name_le (decide (2<=y.role))) ?_;clear hw10 E1 E2 d0 d1 dz hw9 qw9 gv2 hln htl hwl2 hep2;rintro e11 w11 ⟨rfl,hw11⟩;have HWN2:=zh (show Wrote X base bw w3 R c dv late (setF st k (ZZ (fun x=>decide (2<=x.role)) { fo st k with epochs:=(fo st k).epochs++[NE] } (m.members.take (q+1)))) done w11 from by
  rw [hfo2,z0n] at hw11;rw [zBy HY.out];obtain ⟨R3,k1,k2,k3⟩:=hw11;exact ⟨R3,k1,(HM2.out.trans (Mut.below B10)).trans k2,k3.trans HF2.out⟩)
 clear hw11 hfo2 B10;go_wp2;go_roundw
 case rel=>exact ⟨q+1,by omega,by go_num,HWN2⟩
 case measure=>exact qMx
end
end
end Go.Proofs.YtdggplhnfhcieaaGreatDoor
