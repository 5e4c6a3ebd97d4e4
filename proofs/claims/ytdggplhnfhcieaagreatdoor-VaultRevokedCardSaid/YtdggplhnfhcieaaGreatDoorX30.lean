/- No condition. -/
import Derived.Test.YtdggplhnfhcieaaGreatDoorX27
import Derived.Test.YtdggplhnfhcieaaGreatDoorX29
set_option linter.all false
set_option maxRecDepth 100000
set_option maxHeartbeats 16000000
namespace Go.Proofs.YtdggplhnfhcieaaGreatDoor
open Go.RowKit Go.Deep
section
section
variable {X:Nat->Prop} {base bw:Nat} {W W':World} {R:RM} {c:Call} {dv:Value} {st:State} {done late:Bool}
theorem WK.enter2 (h:WK X base bw W R c dv st done late) (hb:Below W.heap.size W W') {a:Nat} (ha:W.heap.size<=a) (hz:a < W'.heap.size):WK (fun b=>X b\/b=a) base bw W' R c dv st done late:=by
 have h':=h.below hb;have k:Kept (Imm X bw R W) (Imm (fun b=>X b\/b=a) bw R W') W W':=fun b ⟨h1,h2,h3,h4⟩ hl=>⟨⟨by omega,h2,h3,fun e=>e.elim h4 fun e=>by omega⟩,hb.block b h1⟩
 refine ⟨h'.os,h.is.keep k,h'.box,YZ h.call k,h.nb,h.bb,fun b e hx=>?_,fun b hx=>hx.elim (h'.xl b) fun e=>by omega⟩;rcases hx with hx | hx
 ·exact h.nx b e hx
 rcases e with e | e
 ·have:=h.os.lt e;omega
 have:=h.lt;omega
theorem zIo (h:WK X base bw W R c dv st done late) {k g o:Nat} (hk:k < st.folders.length) (ha:foAt R k g o) {j:Nat} {it:Item} (hit:(fo st k).items[j]? =some it) (v:Version) (Av:Option Addr) (cv:Nat) (hv:Sl 1 YL (Imm X bw R W) W (.slice Av v.data.length cv) v.data) (hlen:it.versions.length<=9998)
  (ht:0<=(fo st k).turn/\(fo st k).turn<=1000000) (hel:(fo st k).epochs.length<=1000000):
  Calls Tryz.prog 146 #[.pointer (some ⟨bw,0,none⟩),.pointer (some ⟨g,o,none⟩),.int .i64 j,.agg #[.int .i64 v.epoch,.bool v.gone,.string v.who,.slice Av v.data.length cv]] W fun e w'=>e= .returned (.agg (yD 0 ((it.versions.length:Int)+1)))/\
   Wrote X base bw W R c dv late (setF st k { fo st k with items:=(fo st k).items.set j { it with versions:=it.versions++[{ v with epoch:=(fo st k).epochs.length,who:=c.user }] },turn:=(fo st k).turn+1 }) true w':=by
 obtain ⟨iVersion,hiVersion,hzVersion,h1Version,h2Version⟩:=info_parts (show (Tryz.prog.info? 80).map (fun i=>(i.zero,i.size,i.bytes))=some (some (.agg #[.int .i64 0,.bool false,.string ⟨#[]⟩,.slice none 0 0]),4,56) from by kernel_rfl);obtain ⟨_,_,e7,hkind,hus,_⟩:=YQ h.call;clear e7 hkind;have HUS:=zh hus;have HW:=zh h;have HA:=zh ha;have HIT:=zh hit;have HV:=zh hv;have hbw:=h.lt;have hjl:j < (fo st k).items.length:=(zge hit).1;obtain ⟨w0,hw0,cw0,fw0,Bw0,qw0⟩:=zQ W #[.int .i64 v.epoch,.bool v.gone,.string v.who,.slice Av v.data.length cv] 80;obtain ⟨w00,hw00,cw00,fw00,Bw00,qw00⟩:=zQ w0 #[.int .i64 0,.int .i64 0,.string ⟨#[]⟩,.slice none 0 0,.slice none 0 0,.slice none 0 0,.slice none 0 0] 49;have T0:w00.heap[W.heap.size]? =some (.cells #[.int .i64 v.epoch,.bool v.gone,.string v.who,.slice Av v.data.length cv] 80 (0,0)):=(Bw00.block _ qw0).trans (by rw [<-hw0];exact zJ _ rfl);have TA:w00.heap[w0.heap.size]? =some (.cells #[.int .i64 0,.int .i64 0,.string ⟨#[]⟩,.slice none 0 0,.slice none 0 0,.slice none 0 0,.slice none 0 0] 49 (0,0)):=by rw [<-hw00];exact zJ _ rfl
 have HT0:=zh T0;have HTA:=zh TA;have B00:=zB Bw0 Bw00;have HB00:=zh B00;have H00:=zh (HW.out.below B00);have d0:w00.cell? ⟨W.heap.size,0,none⟩=some (.int .i64 v.epoch):=(zD T0).1 0 _ rfl;have d2:w00.cell? ⟨W.heap.size,2,none⟩=some (.string v.who):=(zD T0).1 2 _ rfl;have dz:∀q,w00.frozen? ⟨W.heap.size,q,none⟩=false:=(zD T0).2;have s1:w00.cell? ⟨bw,1,none⟩=some (.string c.user):=H00.out.cells.1 1 _ rfl;have hne1:¬(bw=W.heap.size):=by omega
 have hne2:¬(W.heap.size=bw):=by omega
 have hwa:W.heap.size < w0.heap.size:=qw0;clear h ha hit hv cw0 fw0 cw00 fw00 T0 TA Bw0 Bw00 B00;go_enter Tryz.func146,Tryz.ntmps146
 go_upto_region 1 with fail
 go_cut [7] from 10 to 18 (fun s7 wx=>s7= .pointer (some ⟨W.heap.size,0,none⟩)/\Hid (wx.heap[W.heap.size]? =some (.cells #[.int .i64 (fo st k).epochs.length,.bool v.gone,.string c.user,.slice Av v.data.length cv] 80 (0,0)))/\ButB (fun z=>z=W.heap.size) w00 wx)
 case first=>
  have T1:=zI (i:=2) (.string c.user) (zI (i:=0) (.int .i64 ((fo st k).epochs.length:Int)) HT0.out rfl) rfl;have T2:ButB (fun z=>z=W.heap.size) w00 ((w00.setCell ⟨W.heap.size,0,none⟩ (.int .i64 ((fo st k).epochs.length:Int))).setCell ⟨W.heap.size,2,none⟩ (.string c.user)):=((ButB.refl (fun z=>z=W.heap.size) w00).set _ _ rfl).set _ _ rfl;have HT1:=zh T1;have HT2:=zh T2;clear T1 T2;go_region_law (go_simp;go_at_call 158;refine zcm (z2z (H00.out.below zbr.drew) hk HA.out) ?_;rintro _ w9 ⟨rfl,he9⟩;replace he9:=he9.symm;subst he9)
  all_goals
   go_wp2;go_meet
   case rel=>exact ⟨rfl,HT1.out,HT2.out.drew⟩
 obtain ⟨rfl,HT3,hb3⟩:=hcut;have BW:Below W.heap.size W wc:=ButB.below HB00.out (by have:=HB00.out.size;omega) (fun z hz=>by omega) hb3;have H1:=zh (WK.enter2 HW.out BW (a:=w0.heap.size) (by omega) (by have:=hb3.size;omega));have HBW:=zh BW;have HTA3:=zh ((hb3.block _ qw00 (by omega)).trans HTA.out);obtain ⟨hi1,hi2⟩:=H1.out.is.fo k _ (ZO hk);obtain ⟨j1,j2,j3⟩:=hi2.it j it HIT.out;obtain ⟨gi,oi,ci,hvi,hci1,hci2,hgi,hci,hzi⟩:=(H1.out.os.row (.it k)).at j1;obtain ⟨A3,c3,hvv,_⟩:=(H1.out.os.row (.ve k j)).shape;rw [j3.1] at hvv;obtain ⟨_,_,_,_,D4,f4,_,_,_,_,eh,hF,u0,u1,u2,u3,u4,u5,u6,_,gz⟩:=H1.out.fold (ZO hk) HA.out;have heit:(R (.it k)).v= .slice D4 (fo st k).items.length f4:=by
  simp only [hdr,List.cons.injEq] at eh;exact eh.2.2.2.2.1
 rw [hvi] at heit;simp only [Value.slice.injEq] at heit;obtain ⟨rfl,hil,rfl⟩:=heit;have y1:wc.cell? ⟨gi,oi+j*2+1,none⟩=some (R (.ve k j)).v:=hci 1 _ rfl;rw [hvv] at y1;have HROW:=zh (show RowC 80 4 wc (.slice A3 it.versions.length c3) (R (.ve k j)).cells from by rw [<-hvv];exact H1.out.os.row (.ve k j));have HVV:=zh hvv;have HVI:=zh hvi;have hrow:∀b,(Value.slice A3 it.versions.length c3).ownBlock=some b->b < W.heap.size:=fun b e=>HW.out.os.lt ⟨.ve k j,by rw [hvv];exact e⟩
 have HNI:=zh (show (Value.slice A3 it.versions.length c3).ownBlock≠some gi from fun e=>by
  rw [<-hvv] at e;have:=H1.out.os.inj (.ve k j) (.it k) gi e (by rw [hvi];rfl);cases this)
 have HNA:=zh (show (Value.slice A3 it.versions.length c3).ownBlock≠some w0.heap.size from fun e=>by have:=hrow _ e;omega);have hgiW:gi < W.heap.size:=HW.out.os.lt ⟨.it k,by rw [hvi];rfl⟩;have hgW:g < W.heap.size:=HW.out.os.lt HA.out.row;have HGG:=zh (show ¬(gi=g) from fun e=>by
  obtain ⟨_,_,o9,hv9,_⟩:=HA.out;have:=H1.out.os.inj (.it k) .fo g (by rw [hvi,e];rfl) (by rw [hv9];rfl);cases this)
 have hji:(j:Int) < ((fo st k).items.length:Int):=by omega
 unfold maxLen at hci2;have hcap:(fo st k).items.length<=ci:=by omega
 have hcl:(R (.ve k j)).cells.length=it.versions.length:=j3.1;have HXV:=zh (show yL (Imm (fun b=>X b\/b=w0.heap.size) bw R wc) wc ([.int .i64 (fo st k).epochs.length,.bool v.gone,.string c.user,.slice Av v.data.length cv]:List Value) ({ v with epoch:=(fo st k).epochs.length,who:=c.user }:Version) from
  ⟨_,rfl,(show I64 ((fo st k).epochs.length:Int) from ⟨by omega,by omega⟩),HUS.out,HV.out.keep rByte_ok (by decide) fun b ⟨b1,b2,b3,b4⟩ hl=>⟨⟨zll b1 HBW.out.size,b2,b3,fun e=>e.elim b4 fun e=>by omega⟩,HBW.out.block b b1⟩⟩)
 have HFI:=zh (show ∀(A8:Option Addr) (n8 cp8:Nat) (w9:World),RowC 80 4 w9 (.slice A8 n8 cp8) ((R (.ve k j)).cells++[[.int .i64 (fo st k).epochs.length,.bool v.gone,.string c.user,.slice Av v.data.length cv]])->ButB (fun z=>(Value.slice A3 it.versions.length c3).ownBlock=some z) wc w9->((Value.slice A8 n8 cp8).ownBlock=(Value.slice A3 it.versions.length c3).ownBlock\/∃k,(Value.slice A8 n8 cp8).ownBlock=some k/\wc.heap.size<=k)->
   Wrote (fun b=>X b\/b=w0.heap.size) base bw wc R c dv late (setF st k { fo st k with items:=(fo st k).items.set j { it with versions:=it.versions++[{ v with epoch:=(fo st k).epochs.length,who:=c.user }] } }) done (w9.setCell ⟨gi,oi+j*2+1,none⟩ (.slice A8 n8 cp8))/\(w9.setCell ⟨gi,oi+j*2+1,none⟩ (.slice A8 n8 cp8)).heap[w0.heap.size]? =some (.cells #[.int .i64 0,.int .i64 0,.string ⟨#[]⟩,.slice none 0 0,.slice none 0 0,.slice none 0 0,.slice none 0 0] 49 (0,0))/\
    ∃A8' c8',(w9.setCell ⟨gi,oi+j*2+1,none⟩ (.slice A8 n8 cp8)).cell? ⟨gi,oi+j*2+1,none⟩=some (.slice A8' (it.versions.length+1) c8') from fun A8 n8 cp8 w9 r9 p9 o9=>by
  refine ⟨H1.out.verTo hk HIT.out HVI.out (by omega) r9 (by rw [HVV.out];exact p9) (by rw [HVV.out];exact o9) HXV.out,zR _ ((p9.block _ (zO HTA3.out) HNA.out).trans HTA3.out) (by show w0.heap.size≠gi;omega),?_⟩;obtain ⟨A8',c8',e8,_⟩:=r9.shape;rw [e8];refine ⟨A8',c8',?_⟩;have h9:=World.cell?_setCell_same w9 ⟨gi,oi+j*2+1,none⟩ (.slice A8' ((R (.ve k j)).cells++[([.int .i64 (fo st k).epochs.length,.bool v.gone,.string c.user,.slice Av v.data.length cv]:List Value)]).length c8') ((World.cell?_of_block (a:=⟨gi,oi+j*2+1,none⟩) (p9.block gi hgi HNI.out)).trans y1);rw [h9,qLax,hcl];rfl)
 have c70:wc.cell? ⟨W.heap.size,0,none⟩=some (.int .i64 (fo st k).epochs.length):=(zD HT3.out).1 0 _ rfl;have c71:wc.cell? ⟨W.heap.size,1,none⟩=some (.bool v.gone):=(zD HT3.out).1 1 _ rfl;have c72:wc.cell? ⟨W.heap.size,2,none⟩=some (.string c.user):=(zD HT3.out).1 2 _ rfl;have c73:wc.cell? ⟨W.heap.size,3,none⟩=some (.slice Av v.data.length cv):=(zD HT3.out).1 3 _ rfl;have HZI:=zh hzi;have hcl9:(R (.ve k j)).cells.length<=10000:=by omega
 clear eh hF u0 u1 u2 u3 u5 u6 gz hi1 hi2 j1 j2 j3 hvv hvi hci hzi hrow hcl hb3 BW d0 d2 dz s1 hil hci1;go_upto_region 3 with fail
 go_cut [7] from 25 to 34 (fun s7 wy=>s7= .pointer (some ⟨W.heap.size,0,none⟩)/\Hid (Wrote (fun b=>X b\/b=w0.heap.size) base bw wc R c dv late (setF st k { fo st k with items:=(fo st k).items.set j { it with versions:=it.versions++[{ v with epoch:=(fo st k).epochs.length,who:=c.user }] } }) done wy)/\Hid (wy.heap[w0.heap.size]? =some (.cells #[.int .i64 0,.int .i64 0,.string ⟨#[]⟩,.slice none 0 0,.slice none 0 0,.slice none 0 0,.slice none 0 0] 49 (0,0)))/\∃A8 c8,wy.cell? ⟨gi,oi+j*2+1,none⟩=some (.slice A8 (it.versions.length+1) c8))
 case first=>
  have z8:∀q,wc.frozen? ⟨gi,q,none⟩=false:=HZI.out;go_region_law (refine z1a wc _ [.int .i64 (fo st k).epochs.length,.bool v.gone,.string c.user,.slice Av v.data.length cv] rfl (.tmp 29) (.tmp 31) 76 rfl iVersion _ 56 Tryz.underlying76 hiVersion hzVersion h1Version h2Version rfl (by decide) (by decide) (.slice A3 it.versions.length c3) (R (.ve k j)).cells rfl _ _ rfl HROW.out (by go_grown) (by omega) rfl (by intro u hu;simp at hu;rcases hu with rfl | rfl | rfl | rfl<;>rfl) (by repeat' first|with_reducible assumption|((with_reducible first|refine zR _ ?_ ?_|apply zJ);rotate_left;first|with_reducible rfl|((try dsimp only);first|with_reducible assumption|omega|(simp only [zS];done)|(simp only [zS];omega)))|with_reducible apply zI|with_reducible refine zZ _ ?_|with_reducible refine ZL ?_|refine (rfl:(_:Array Value)=_)) ?_;intro v9 w9 r9 p9 o9;obtain ⟨A8,n8,cp8,rfl⟩:=r9.shape3;have HF9:=zh (HFI.out _ _ _ _ r9 p9 o9);have k9:=p9.block gi hgi HNI.out;have g96:=(World.cell?_of_block (a:=⟨gi,oi+j*2+1,none⟩) k9).trans y1;have z9:∀q,w9.frozen? ⟨gi,q,none⟩=false:=(fun q=>by unfold World.frozen?;rw [k9];exact z8 q);clear k9 r9 p9 o9)
  all_goals
   go_wp2;go_meet
   case rel=>exact ⟨rfl,HF9.out.1,HF9.out.2.1,HF9.out.2.2⟩
 obtain ⟨rfl,HWE,HAZ,A8,c8,_⟩:=hcut;have HTT:=zh (show 0<=(fo st k).turn/\(fo st k).turn<=1000000 from ht);have HW5:=zh (HWE.out.turn1 hk HA.out (n:=(fo st k).turn+1) ⟨by have:=HTT.out;omega,by have:=HTT.out;omega⟩);obtain ⟨_,H5,M5,E5⟩:=HWE.out;obtain ⟨_,_,_,_,_,_,_,_,_,_,eh',hF',u0,u1,u2,u3,u4,u5,u6,hg',gz⟩:=H5.fold (f:={ fo st k with items:=(fo st k).items.set j { it with versions:=it.versions++[{ v with epoch:=(fo st k).epochs.length,who:=c.user }] } }) (by show (st.folders.set k _)[k]? =_;rw [List.getElem?_set_self hk]) (HA.out.keep E5);have hwt:IntKind.i64.wrap ((fo st k).turn+1)=(fo st k).turn+1:=by rw [IntKind.wrap_i64];have:=HTT.out;omega
 have hgi2:¬(g=gi):=fun e=>HGG.out e.symm
 have hg3:¬(g=w0.heap.size):=by omega
 have hg4:¬(w0.heap.size=g):=by omega
 have hg5:¬(gi=w0.heap.size):=by omega
 clear eh' hF' u0 u2 u3 u4 u5 u6 H5 M5 E5 hg';go_wp2_with fail
 obtain ⟨R3,H9,M9,E9⟩:=HW5.out;have HM9:=zh M9;have HE9:=zh E9;have HN9:=zh (fun e=>H9.nx w0.heap.size e (.inr rfl));have K9:=zR (a:=⟨g,o+1,none⟩) (.int .i64 ((fo st k).turn+1)) HAZ.out hg4;have HK9:=zh K9;refine zcm (z33 H9 ((it.versions.length:Int)+1)) ?_;clear H9 M9 E9 K9;rintro _ w10 ⟨rfl,H10,M10⟩;have K10:=(M10.but.block _ (zO HK9.out) (fun e=>HN9.out (e.symm.imp id id))).trans HK9.out;have HK10:=zh K10;have y0:w10.cell? ⟨w0.heap.size,0,none⟩=some (.int .i64 0):=(zD K10).1 0 _ rfl;have y1:w10.cell? ⟨w0.heap.size,1,none⟩=some (.int .i64 0):=(zD K10).1 1 _ rfl;have y2:w10.cell? ⟨w0.heap.size,2,none⟩=some (.string ⟨#[]⟩):=(zD K10).1 2 _ rfl;have y3:w10.cell? ⟨w0.heap.size,3,none⟩=some (.slice none 0 0):=(zD K10).1 3 _ rfl;have y4:w10.cell? ⟨w0.heap.size,4,none⟩=some (.slice none 0 0):=(zD K10).1 4 _ rfl;have y5:w10.cell? ⟨w0.heap.size,5,none⟩=some (.slice none 0 0):=(zD K10).1 5 _ rfl;have y6:w10.cell? ⟨w0.heap.size,6,none⟩=some (.slice none 0 0):=(zD K10).1 6 _ rfl;have yz:=(zD K10).2;have HH10:=zh H10;have HM10:=zh M10;clear H10 M10 K10;unfold yD;go_wp2;try simp only [Exit.inBlock,Exit.then]
 obtain ⟨F1,F2⟩:=Z6 HK10.out (.int .i64 0) (.int .i64 ((it.versions.length:Int)+1)) (.string ⟨#[]⟩) (.slice none 0 0) (.slice none 0 0) (.slice none 0 0) (.slice none 0 0);refine bodyPost_ret (results_cell_row rfl _ _ w0.heap.size 49 _ (0,0) _ rfl F1 Tryz.underlying49 rfl (by kernel_rfl)) rfl ?_;refine ⟨rfl,R3,HH10.out.leave (F2.mono fun x hx=> .inr hx) fun b hb=> .inl hb,(((Mut.below HBW.out).trans HM9.out).trans HM10.out).tail (F2.mono fun x hx=>by rw [hx];omega),HE9.out⟩
end
end
section
section
variable {X:Nat->Prop} {base bw:Nat} {W:World} {R:RM} {c:Call} {dv:Value} {st:State} {late:Bool}
theorem WK.itCells {done:Bool} (h:WK X base bw W R c dv st done late) {k g o:Nat} (hk:k < st.folders.length) (ha:foAt R k g o) {j:Nat} {it:Item} (hit:(fo st k).items[j]? =some it):
  ∃gi oi ci A3 c3,(R (.it k)).v= .slice (some ⟨gi,oi,none⟩) (fo st k).items.length ci/\(fo st k).items.length<=ci/\ci<=9223372036854775807/\gi < W.heap.size/\W.cell? ⟨gi,oi+j*2,none⟩=some (.string it.name)/\W.cell? ⟨gi,oi+j*2+1,none⟩=some (.slice A3 it.versions.length c3)/\YB (fun _=>True) W [.string it.name,.slice A3 it.versions.length c3] it:=by
 have hl:=(zge hit).1;obtain ⟨_,cp,e,h1,h2,_,hs⟩:=h.itSl hk ha;obtain ⟨x,b,o',A3,c3,hx,_,_,hA,hl',_,x0,x1,hR,_⟩:=z5a hs hl (zK zbr);obtain rfl:x=it:=zsi (hx.symm.trans hit);subst hA;unfold maxLen at h2;exact ⟨b,o',cp,A3,c3,e,h1,h2,hl',x0,x1,hR⟩
theorem zOs (h:WK X base bw W R c dv st false late) {n k:Nat} (hI:VInv n st) (hn:n<=41) (hk:Z3 st c.folder=some k):
  Calls Tryz.prog 95 #[.pointer (some ⟨bw,0,none⟩)] W (Did X base bw W R c dv late (z2p st c k)):=by
 have HK:=zh hk;have HKL:=zh (z2i (YI hk));have HFI:=zh (hI.atF HKL.out);have HA2:=zh (z8j hI hn HKL.out);obtain ⟨w0,hw0⟩:∃w0,W.alloc (.cells zV 49)=w0:=⟨_,rfl⟩;have hN:=yA W;rw [hw0] at hN;obtain ⟨hE,B0,T0,z0⟩:=hN;have H0:=hE R h;have HW:=zh H0;have HT0:=zh T0;have HB0:=zh B0;have hlt:=H0.lt;clear hE B0 T0;have s2:w0.cell? ⟨bw,2,none⟩=some (.string c.folder):=H0.cells.1 2 _ rfl;have s3:w0.cell? ⟨bw,3,none⟩=some (.string c.name):=H0.cells.1 3 _ rfl;clear h hk H0 hI;unfold zV at hw0;go_enter Tryz.func95,Tryz.ntmps95
 go_wp2_with fail
 refine zcm (yS HW.out c.folder) ?_;rintro e1 _ ⟨⟨hno,rfl⟩ | ⟨k',g,o,hk',ha,rfl⟩,B1⟩
 ·exact absurd (HK.out.symm.trans hno) (by simp)
 obtain rfl:_=k':=zsi (HK.out.symm.trans hk');have HB1:=zh B1;have HA:=zh ha;have H1:=zh (HW.out.below B1);obtain ⟨_,_,_,_,_,_,_,_,_,_,eh,hF,u0,u1,u2,u3,u4,u5,u6,hg,_⟩:=H1.out.fold (ZO HKL.out) ha;have HE:=zh eh;clear B1 hk' ha eh hF;have t3:=(HB1.out.cell (p:=⟨bw,3,none⟩) hlt).trans s3;clear s2 s3;go_wp2_with fail
 refine zcm (z81 H1.out HKL.out HA.out c.name) ?_;rintro _ w2 ⟨rfl,B2⟩;have HB2:=zh (zB HB1.out B2);have H2:=zh (HW.out.below HB2.out);have v4:=(B2.cell (p:=⟨g,o+4,none⟩) hg).trans u4;have hg2:g < w2.heap.size:=zll hg B2.size;clear B2 u0 u1 u2 u3 u4 u5 u6 t3;go_wp2_with fail
 refine zcm (z5k H2.out HKL.out HA.out) ?_;rintro _ w3 ⟨rfl,B3⟩;have HB3:=zh (zB HB2.out B3);have q4:=(B3.cell (p:=⟨g,o+4,none⟩) hg2).trans v4;have hg3:g < w3.heap.size:=zll hg2 B3.size;clear B3 v4;by_cases hr:yW st k c.user < 2
 ·have hgd:decide (yW st k c.user < 2)=true:=decide_eq_true hr;go_wp2_with fail
  refine zcm (ZK 40 w3) ?_;rintro eq wq ⟨rfl,Bq⟩;obtain ⟨BW,H2,K2,y0,y1,y2,y3,y4,y5,y6,yz⟩:=zW HB3.out Bq HW.out z0 HT0.out;clear Bq;unfold yD;go_wp2;try simp only [Exit.inBlock,Exit.then]
  obtain ⟨F1,F2⟩:=Z6 K2.out (.int .i64 40) (.int .i64 0) (.string ⟨#[]⟩) (.slice none 0 0) (.slice none 0 0) (.slice none 0 0) (.slice none 0 0);refine bodyPost_ret (zq rfl rfl F1 rfl) rfl ?_;rw [show (z2p st c k)=(st,ZF 40,false) from by unfold z2p;rw [if_pos hr]];exact Z7 H2.out (Mut.below (zB HB0.out BW.out)) (znl _) F2 (y8 ⟨by omega,by omega⟩)
 have hgd:decide (yW st k c.user < 2)=false:=decide_eq_false hr;have HR:=zh hr;clear hr
 cases hi:z01 (fo st k) c.name with
 | none=>
  simp only [iOf];go_wp2_with fail
  refine zcm (ZK 35 w3) ?_;rintro eq wq ⟨rfl,Bq⟩;obtain ⟨BW,H2,K2,y0,y1,y2,y3,y4,y5,y6,yz⟩:=zW HB3.out Bq HW.out z0 HT0.out;clear Bq;unfold yD;go_wp2;try simp only [Exit.inBlock,Exit.then]
  obtain ⟨F1,F2⟩:=Z6 K2.out (.int .i64 35) (.int .i64 0) (.string ⟨#[]⟩) (.slice none 0 0) (.slice none 0 0) (.slice none 0 0) (.slice none 0 0);refine bodyPost_ret (zq rfl rfl F1 rfl) rfl ?_;rw [show (z2p st c k)=(st,ZF 35,false) from by unfold z2p;rw [if_neg (by have:=HR.out;omega),hi]]
  exact Z7 H2.out (Mut.below (zB HB0.out BW.out)) (znl _) F2 (y8 ⟨by omega,by omega⟩)
 | some j=>
  simp only [iOf];have HIJ:=zh hi;have HIT:=zh (z5j hi);have H3:=zh (HW.out.below HB3.out);obtain ⟨gi,oi,_,A3,c3,e1,_,_,hgi,i0,i1,hR⟩:=H3.out.itCells HKL.out HA.out HIT.out.1;have e4:=HE.out;simp only [hdr,List.cons.injEq] at e4;have e5:=e4.2.2.2.2.1.symm.trans e1;simp only [Value.slice.injEq] at e5;obtain ⟨rfl,_,rfl⟩:=e5;have hj:(j:Int) < ((fo st k).items.length:Int):=by have:=(zge HIT.out.1).1;omega
  have HR3:=zh hR;have HVL:=zh (show (ZX (fo st k) j).versions≠[]/\(ZX (fo st k) j).versions.length<=41 from ⟨(HFI.out.it _ (zmg HIT.out.1)).1,qNtx (HFI.out.it _ (zmg HIT.out.1)).2.1 hn⟩);clear e4 e1 hR hi;go_wp2_with fail
  refine zcm (zAc _ (List.length_pos_iff.2 HVL.out.1) _ _ _ HR3.out) ?_;rintro e4 w4 ⟨rfl,B4⟩;have HB4:=zh (zB HB3.out B4);have r4:=(B4.cell (p:=⟨g,o+4,none⟩) hg3).trans q4;have k1:w4.cell? ⟨gi,oi+j*2+1,none⟩=some (.slice A3 (ZX (fo st k) j).versions.length c3):=(B4.cell (p:=⟨gi,oi+j*2+1,none⟩) hgi).trans i1;clear B4 q4 i0 i1
  cases hh:z09 (ZX (fo st k) j) with
  | false=>
   go_wp2_with fail
   refine zcm (ZK 35 w4) ?_;rintro eq wq ⟨rfl,Bq⟩;obtain ⟨BW,H2,K2,y0,y1,y2,y3,y4,y5,y6,yz⟩:=zW HB4.out Bq HW.out z0 HT0.out;clear Bq;unfold yD;go_wp2;try simp only [Exit.inBlock,Exit.then]
   obtain ⟨F1,F2⟩:=Z6 K2.out (.int .i64 35) (.int .i64 0) (.string ⟨#[]⟩) (.slice none 0 0) (.slice none 0 0) (.slice none 0 0) (.slice none 0 0);refine bodyPost_ret (zq rfl rfl F1 rfl) rfl ?_;rw [show (z2p st c k)=(st,ZF 35,false) from by unfold z2p;rw [if_neg (by have:=HR.out;omega),HIJ.out];simp only [hh];rfl]
   exact Z7 H2.out (Mut.below (zB HB0.out BW.out)) (znl _) F2 (y8 ⟨by omega,by omega⟩)
  | true=>
   have hgl:decide (256<=((ZX (fo st k) j).versions.length:Int))=false:=decide_eq_false (by have:=HVL.out.2;omega);have H4:=zh (HW.out.below HB4.out);have HK4:=zh ((HB4.out.block _ z0).trans HT0.out);obtain ⟨a1,a2,a3,a4,a5,a6,a7,_⟩:=HA2.out;have HQ:=zh (zIo H4.out HKL.out HA.out HIT.out.1 ⟨0,true,⟨#[]⟩,[]⟩ none 0 yP (by have:=HVL.out.2;omega) a5 (by omega));have HI64:=zh (show I64 (((ZX (fo st k) j).versions.length:Int)+1) from ⟨by omega,by have:=HVL.out.2;omega⟩);clear a1 a2 a3 a4 a5 a6 a7;go_wp2_with fail
   have HN9:=zh (fun e=>H4.out.nx W.heap.size e (.inr rfl));refine zcm (HQ.out) ?_;rintro _ _ ⟨rfl,_,H10,M10,E10⟩;have HK10:=zh ((M10.but.block _ (zO HK4.out) (fun e=>HN9.out (e.symm.imp id id))).trans HK4.out);have K10:=HK10.out;unfold zV at K10;obtain ⟨y0,y1,y2,y3,y4,y5,y6⟩:=zC7 (zD K10).1;have yz:=(zD K10).2;have HH10:=zh H10;have HM10:=zh M10;clear H10 M10 K10 E10;unfold yD;go_wp2;try simp only [Exit.inBlock,Exit.then]
   obtain ⟨F1,F2⟩:=Z6 HK10.out (.int .i64 0) (.int .i64 (((ZX (fo st k) j).versions.length:Int)+1)) (.string ⟨#[]⟩) (.slice none 0 0) (.slice none 0 0) (.slice none 0 0) (.slice none 0 0);refine bodyPost_ret (zq rfl rfl F1 rfl) rfl ?_;rw [show z2p st c k=(setF st k { fo st k with items:=(fo st k).items.set j { ZX (fo st k) j with versions:=(ZX (fo st k) j).versions++[⟨(fo st k).epochs.length,true,c.user,[]⟩] },turn:=(fo st k).turn+1 },YO (((ZX (fo st k) j).versions.length:Int)+1),true) from by unfold z2p;rw [if_neg (by have:=HR.out;omega),HIJ.out];simp only [hh];rw [if_neg (by simp),if_neg (by have:=HVL.out.2;omega)];rfl];exact Z7 HH10.out ((Mut.below (zB HB0.out HB4.out)).trans HM10.out) (znl _) F2 (z2t HI64.out)
end
end
section
theorem zP6 {S:Nat->Prop} {w:World} {it:Item} {A:Option Addr} {c:Nat} (h:YB S w [.string it.name,.slice A it.versions.length c] it):it.versions.length<=c/\c<=9223372036854775807/\it.versions.length<=140737488355328/\SlAt 4 yL S w A it.versions:=by
 obtain ⟨_,_,e,_,l,m,n,s⟩:=z4h h;simp only [List.cons.injEq,Value.slice.injEq,and_true,true_and] at e;obtain ⟨rfl,rfl⟩:=e;exact ⟨l,m,n,s⟩
theorem zEy (v:Version):∀(l:List Version) (n:Int),z0z (l++[v]) n=z0z l n++[⟨(l.length:Int)+n,v.epoch,v.gone,v.who⟩]
 | [],n=>by simp [z0z]
 | x :: l,n=>by
  rw [List.cons_append,z0z,zEy v l (n+1),z0z,List.cons_append,List.length_cons];congr 4;omega
theorem zGr:∀(l:List Version) (n:Int),(z0z l n).length=l.length
 | [],n=>rfl
 | x :: l,n=>by rw [z0z,List.length_cons,List.length_cons,zGr l]
theorem zMw {l:List Version} {q:Nat} {x:Version} (hx:l[q]? =some x):z0z (l.take (q+1)) 1=z0z (l.take q) 1++[⟨(q:Int)+1,x.epoch,x.gone,x.who⟩]:=by
 rw [qLtx,hx];simp only [Option.toList_some];rw [zEy,List.length_take,Nat.min_eq_left (Nat.le_of_lt (zge hx).1)]
section
variable {X:Nat->Prop} {base bw:Nat} {W W':World} {R R':RM} {c:Call} {dv:Value} {st:State} {done late:Bool}
theorem zTa {k:Nat} (h:z4n st c k=false):z1c st c k=ZF 40:=by
 unfold z1c;rw [h];rfl
theorem zP7 {k:Nat} (h:z4n st c k=true) (hi:z01 (fo st k) c.name=none):z1c st c k=ZF 35:=by
 unfold z1c;rw [h,hi];rfl
theorem zP8 {k j:Nat} {L:List Past} (h:z4n st c k=true) (hi:z01 (fo st k) c.name=some j) (hL:L=z0z (ZX (fo st k) j).versions 1):z1c st c k=⟨0,0,⟨#[]⟩,[],[],[],L⟩:=by
 unfold z1c;rw [h,hi,hL];rfl
theorem zR9 {S:Nat->Prop} {w:World} {v:Value} {l:List Past} (h:Sl 4 z6e S w v l):YY S w [.int .i64 0,.int .i64 0,.string ⟨#[]⟩,.slice none 0 0,.slice none 0 0,.slice none 0 0,v] ⟨0,0,⟨#[]⟩,[],[],[],l⟩:=
 ⟨_,_,_,_,rfl,(show I64 0 from ⟨by omega,by omega⟩),(show I64 0 from ⟨by omega,by omega⟩),(show (⟨#[]⟩:Nm).size<=140737488355328 by decide),yP,yP,yP,h⟩
theorem zIx (h:WK X base bw W R c dv st false late) {n k:Nat} (hI:VInv n st) (hn:n<=41) (hu:c.user.size<=1000) (hk:Z3 st c.folder=some k):
  Calls Tryz.prog 96 #[.pointer (some ⟨bw,0,none⟩)] W (Did X base bw W R c dv late (st,z1c st c k,false)):=by
 obtain ⟨iPast,hiPast,hzPast,h1Past,h2Past⟩:=info_parts (show (Tryz.prog.info? 99).map (fun i=>(i.zero,i.size,i.bytes))=some (some (.agg #[.int .i64 0,.int .i64 0,.bool false,.string ⟨#[]⟩]),4,40) from by kernel_rfl);have HK:=zh hk;have HKL:=zh (z2i (YI hk));have HFI:=zh (hI.atF HKL.out);have HVI:=zh hI;obtain ⟨w0,hw0⟩:∃w0,W.alloc (.cells zV 49)=w0:=⟨_,rfl⟩;have hN:=yA W;rw [hw0] at hN;obtain ⟨hE,B0,T0,z0⟩:=hN;have H0:=hE R h;have HW:=zh H0;have HT0:=zh T0;have HB0:=zh B0;have hlt:=H0.lt;clear hE B0 T0;have s2:w0.cell? ⟨bw,2,none⟩=some (.string c.folder):=H0.cells.1 2 _ rfl;have s3:w0.cell? ⟨bw,3,none⟩=some (.string c.name):=H0.cells.1 3 _ rfl;clear h hk H0 hI;unfold zV at hw0;go_enter Tryz.func96,Tryz.ntmps96
 go_wp2_with fail
 refine zcm (yS HW.out c.folder) ?_;rintro e1 _ ⟨⟨hno,rfl⟩ | ⟨k',g,o,hk',ha,rfl⟩,B1⟩
 ·exact absurd (HK.out.symm.trans hno) (by simp)
 obtain rfl:_=k':=zsi (HK.out.symm.trans hk');have HB1:=zh B1;have HA:=zh ha;have H1:=zh (HW.out.below B1);obtain ⟨_,_,_,_,_,_,_,_,_,_,eh,hF,u0,u1,u2,u3,u4,u5,u6,hg,_⟩:=H1.out.fold (ZO HKL.out) ha;have HE:=zh eh;clear B1 hk' ha eh hF;have t3:=(HB1.out.cell (p:=⟨bw,3,none⟩) hlt).trans s3;clear s2 s3;go_wp2_with fail
 refine zcm (z81 H1.out HKL.out HA.out c.name) ?_;rintro _ w2 ⟨rfl,B2⟩;have HB2:=zh (zB HB1.out B2);have H2:=zh (HW.out.below HB2.out);have v4:=(B2.cell (p:=⟨g,o+4,none⟩) hg).trans u4;have hg2:g < w2.heap.size:=zll hg B2.size;have HRD:=zh (zEw H2.out HVI.out hn hu HK.out HA.out);clear B2 u0 u1 u2 u3 u4 u5 u6 t3;go_wp2_with fail
 refine zcm HRD.out ?_;rintro _ w3 ⟨rfl,B3⟩;have HB3:=zh (zB HB2.out B3);have q4:=(B3.cell (p:=⟨g,o+4,none⟩) hg2).trans v4;clear B3 v4
 cases hrd:z4n st c k with
 | false=>
  have HQ:=zh hrd;go_wp2_with fail
  refine zcm (ZK 40 w3) ?_;rintro eq wq ⟨rfl,Bq⟩;obtain ⟨BW,H2,K2,y0,y1,y2,y3,y4,y5,y6,yz⟩:=zW HB3.out Bq HW.out z0 HT0.out;clear Bq;unfold yD;go_wp2;try simp only [Exit.inBlock,Exit.then]
  obtain ⟨F1,F2⟩:=Z6 K2.out (.int .i64 40) (.int .i64 0) (.string ⟨#[]⟩) (.slice none 0 0) (.slice none 0 0) (.slice none 0 0) (.slice none 0 0);refine bodyPost_ret (zq rfl rfl F1 rfl) rfl ?_;rw [show (st,z1c st c k,false)=(st,ZF 40,false) from by rw [zTa HQ.out]]
  exact Z7 H2.out (Mut.below (zB HB0.out BW.out)) (znl _) F2 (y8 ⟨by omega,by omega⟩)
 | true=>
  have HQ:=zh hrd
  cases hi:z01 (fo st k) c.name with
  | none=>
   have HIJ:=zh hi;simp only [iOf];go_wp2_with fail
   refine zcm (ZK 35 w3) ?_;rintro eq wq ⟨rfl,Bq⟩;obtain ⟨BW,H2,K2,y0,y1,y2,y3,y4,y5,y6,yz⟩:=zW HB3.out Bq HW.out z0 HT0.out;clear Bq;unfold yD;go_wp2;try simp only [Exit.inBlock,Exit.then]
   obtain ⟨F1,F2⟩:=Z6 K2.out (.int .i64 35) (.int .i64 0) (.string ⟨#[]⟩) (.slice none 0 0) (.slice none 0 0) (.slice none 0 0) (.slice none 0 0);refine bodyPost_ret (zq rfl rfl F1 rfl) rfl ?_;rw [show (st,z1c st c k,false)=(st,ZF 35,false) from by rw [zP7 HQ.out HIJ.out]]
   exact Z7 H2.out (Mut.below (zB HB0.out BW.out)) (znl _) F2 (y8 ⟨by omega,by omega⟩)
  | some j=>
   simp only [iOf];have HIJ:=zh hi;have HIT:=zh (z5j hi);have H3:=zh (HW.out.below HB3.out);obtain ⟨_,_,_,_,_,e1,_,_,_,i0,_,hR⟩:=H3.out.itCells HKL.out HA.out HIT.out.1;have e4:=HE.out;simp only [hdr,List.cons.injEq] at e4;have e5:=e4.2.2.2.2.1.symm.trans e1;simp only [Value.slice.injEq] at e5;obtain ⟨rfl,_,rfl⟩:=e5;have hj:(j:Int) < ((fo st k).items.length:Int):=by have:=(zge HIT.out.1).1;omega
   have HVL:=zh (show (ZX (fo st k) j).versions≠[]/\(ZX (fo st k) j).versions.length<=41 from ⟨(HFI.out.it _ (zmg HIT.out.1)).1,qNtx (HFI.out.it _ (zmg HIT.out.1)).2.1 hn⟩);obtain ⟨_,_,_,vs⟩:=zP6 hR;have hvl:(ZX (fo st k) j).versions.length<=5000:=by have:=HVL.out.2;omega
   clear e4 e1 hR hi i0;generalize hV:(ZX (fo st k) j).versions=V at*;have HV:=zh hV;clear hV;go_wp2;go_loopw [5,41] (fun vo i wr=>∃(q:Nat) (L:List Past),q<=V.length/\i= .int .i64 q/\Hid (Grow 99 4 z6e (fun _=>False) wr w3.heap.size vo L)/\Hid (L=z0z (V.take q) 1)/\Below w3.heap.size w3 wr) (fun _ i _=>V.length - (intOf i).toNat)
   case atStart=>exact ⟨0,[],by omega,by go_num,zh Grow.nil,zh (by simp [z0z]),Below.refl _ _⟩
   obtain ⟨q,L,_,rfl,HG,HL,hbel⟩:=hrel;obtain ⟨A6,_,c6,rfl,hn6⟩:=HG.out.shape';subst hn6;have hzr:=hbel.size;have hL9:L.length<=5000:=by rw [HL.out,zGr,List.length_take];omega
   by_cases hlt:q < V.length
   ·obtain ⟨x,b,_,A1,c1',hx,_,_,rfl,_,_,_,_,_,_,hRx,hne,hnw,hv1,hv2,hv3,hvs⟩:=z8d vs hlt (zK hbel);have HX:=zh hx;have HNE:=zh hne;have HNW:=zh hnw;obtain ⟨wx,_,cwx,fwx,Bwx,_⟩:=zQ wr #[.int .i64 x.epoch,.bool x.gone,.string x.who,.slice A1 x.data.length c1'] 80;have y0:=cwx 0 _ rfl;have y1:=cwx 1 _ rfl;have y2:=cwx 2 _ rfl;have HBx:=zh Bwx;have HG5:=zh (HG.out.below z7g Bwx);have hz5:w3.heap.size<=wx.heap.size:=qNtx hzr Bwx.size;have EH:=zh (show L++[⟨(q:Int)+1,x.epoch,x.gone,x.who⟩]=z0z (V.take (q+1)) 1 from by rw [zMw HX.out,HL.out]);have HQI:=zh (show I64 ((q:Int)+1) from ⟨by omega,by omega⟩);have hil2:(q:Int) < (V.length:Int):=by omega
    clear hx hRx hne hnw hv1 hv2 hv3 hvs cwx fwx Bwx;go_wp2_with (at_builtin;go_loud (refine yZ (R:=z6e) _ _ rfl (.tmp 46) (.tmp 56) 47 rfl 99 iPast _ 4 40 Tryz.underlying47 hiPast hzPast h1Past h2Past rfl (by decide) z7g w3.heap.size hz5 _ _ rfl HG5.out _ _ rfl (by simp only [zS]) _ (by intro b hb;exact hb.elim) (show z6e _ _ _ (⟨(q:Int)+1,x.epoch,x.gone,x.who⟩:Past) from ⟨rfl,HQI.out,HNE.out,HNW.out⟩) (by omega) (by decide) ?_);intro v8 w8 g8 gg8 go8;obtain ⟨_,_,_,rfl,hn8⟩:=g8.shape';have G8:=zh g8;have GG8:=zh gg8;clear hn8 g8 gg8 go8)
    go_roundw
    case rel=>exact ⟨q+1,_,by omega,by go_num,G8,EH,Below.grown (zB hbel HBx.out) GG8.out (by omega) fun b hb=>(HG5.out.base_le b hb).1⟩
    case measure=>exact qMx
   obtain rfl:q=V.length:=by omega
   have HLE:=zh (show L=z0z (ZX (fo st k) j).versions 1 from by have:=HL.out;rwa [qLnx,<-HV.out] at this);have HB9:=zh (zB HB3.out hbel);have H9:=zh (HW.out.below HB9.out);have HK9:=zh ((HB9.out.block _ z0).trans HT0.out);have K9:=HK9.out;unfold zV at K9;obtain ⟨y0,y1,y2,y3,y4,y5,y6⟩:=zC7 (zD K9).1;have yz:=(zD K9).2;clear K9;go_wp2;try simp only [Exit.inBlock,Exit.then]
   obtain ⟨F1,F2⟩:=Z6 HK9.out (.int .i64 0) (.int .i64 0) (.string ⟨#[]⟩) (.slice none 0 0) (.slice none 0 0) (.slice none 0 0) (.slice A6 L.length c6);refine bodyPost_ret (zq rfl rfl F1 rfl) rfl ?_;rw [zP8 HQ.out HIJ.out HLE.out];refine Z7 H9.out (Mut.below (zB HB0.out HB9.out)) (znl _) F2 (zR9 (zP3 z7g (HG.out.sl z7g (S:=fun _=>True) (fun _ _ _=>trivial) (fun _ _=>trivial)) (fun _ _ e=>e) (fun b hb=>?_)));obtain ⟨_,b2⟩:=HG.out.base_le b hb;have hz:=HB3.out.size;exact ⟨b2,fun e=>by have:=HW.out.lt;omega,fun e=>by have:=HW.out.os.lt e;omega,fun e=>by have:=HW.out.xl _ e;omega⟩
end
end
end Go.Proofs.YtdggplhnfhcieaaGreatDoor
