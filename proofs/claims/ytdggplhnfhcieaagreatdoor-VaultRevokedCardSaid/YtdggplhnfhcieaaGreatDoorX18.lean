/- No condition. -/
import Derived.Test.YtdggplhnfhcieaaGreatDoorX13
import Derived.Test.YtdggplhnfhcieaaGreatDoorX17
set_option linter.all false
set_option maxRecDepth 100000
set_option maxHeartbeats 16000000
namespace Go.Proofs.YtdggplhnfhcieaaGreatDoor
section
open Go.RowKit Go.Deep
def z00 (st:State) (s:Nm):Int:=match st.folders.findIdx? (isF s) with
 | some k=>k
 | none=> -1
theorem z71 {st:State} {s:Nm} {k:Nat} {x:Folder} (h:∀y∈st.folders.take k,isF s y=false) (hx:st.folders[k]? =some x) (hp:isF s x=true):z00 st s=k:=by
 have hk:=zge hx;have hk1:=hk.1;have:st.folders.findIdx? (isF s)=some k:=by
  rw [List.findIdx?_eq_some_iff_getElem];refine ⟨hk.1,by rw [hk.2];exact hp,fun j hj=>?_⟩;rw [Bool.not_eq_true];refine h _ ?_;exact zmg (i:=j) (by rw [List.getElem?_take,if_pos hj,qLgx (by omega)])
 rw [z00,this]
theorem zI4 {st:State} {s:Nm} (h:∀y∈st.folders,isF s y=false):z00 st s= -1:=by
 have:st.folders.findIdx? (isF s)=none:=by rw [List.findIdx?_eq_none_iff];exact h
 rw [z00,this]
theorem z2y {st:State} {s:Nm} {f:Folder} (h:zP st s=some f):∃k:Nat,z00 st s=k/\st.folders[k]? =some f:=by
 obtain ⟨hp,a,_,hl,hn⟩:=List.find?_eq_some_iff_append.1 h;have hk:st.folders[a.length]? =some f:=by rw [hl,qLrx (znl _),Nat.sub_self];rfl
 refine ⟨a.length,z71 (fun y hy=>?_) hk hp,hk⟩;rw [hl,List.take_left] at hy;simpa [isF] using hn y hy
theorem z72 {st:State} {s:Nm} (h:zP st s=none):z00 st s= -1:=zI4 fun y hy=>by
 have:=List.find?_eq_none.1 h y hy;simpa [isF] using this
theorem z1l (st:State) (s:Nm) (cs:List Value) (w:World) (S:Nat->Prop) (h:yB S w cs st):Calls Tryz.prog 21 #[.agg cs.toArray,.string s] w fun e w'=>e= .returned (.int .i64 (z00 st s))/\Below w.heap.size w w':=by
 obtain ⟨st_A1,st_c1,st_A2,st_c2,st_A3,st_c3,rfl,_,_,_,_,st_users_s,_,_,_,st_deposits_s,_,_,_,st_folders_s⟩:=ZP h;obtain ⟨_,hw0,cw0,fw0,Bw0,_⟩:=zQ w #[.int .i64 st.turn,.slice st_A1 st.users.length st_c1,.slice st_A2 st.deposits.length st_c2,.slice st_A3 st.folders.length st_c3] 34;have HB0:=zh Bw0;have b3:=cw0 3 _ rfl;clear cw0 fw0 Bw0 st_users_s st_deposits_s;go_enter Tryz.func21,Tryz.ntmps21
 go_wp2;clear hw0;go_loop [5] (fun i=>∃k:Nat,k<=st.folders.length/\i= .int .i64 k/\Hid (∀y∈st.folders.take k,isF s y=false)) (fun i=>st.folders.length - (intOf i).toNat)
 case atStart=>exact ⟨0,by omega,by go_num,fun y hy=>by simp at hy⟩
 obtain ⟨k,_,rfl,HN⟩:=hrel;by_cases hlt:k < st.folders.length
 rotate_left
 ·obtain rfl:k=st.folders.length:=by omega
  rw [qLnx] at HN;go_wp2;go_ret;exact ⟨by rw [zI4 HN.out];rfl,HB0.out⟩
 obtain ⟨x,hx⟩:∃x,st.folders[k]? =some x:=⟨_,qLgx hlt⟩;obtain ⟨_,_,_,hA,_,hRx,hcz⟩:=SlAt.elem st_folders_s hx (by decide) HB0.out;obtain ⟨_,_,_,_,_,_,_,_,_,_,rfl,_,_,_,_,_,x_manifests_s,_,_,_,x_epochs_s,_,_,_,x_items_s,_,_,_,x_wraps_s,_,_,_,x_links_s⟩:=Z2 hRx;have u0:=hcz 0 _ rfl;rw [Nat.add_zero] at u0;subst hA;have hki:(k:Int) < (st.folders.length:Int):=by omega
 have HX:=zh hx;clear hcz hx x_manifests_s x_epochs_s x_items_s x_wraps_s x_links_s;by_cases hnm:x.name=s
 ·have hse:(x.name.toList==s.toList)=true:=by rw [hnm];simp
  have HF:=zh (z71 HN.out HX.out (show isF s x=true by unfold isF;exact decide_eq_true hnm));clear hnm;go_wp2;go_ret;exact ⟨by rw [HF.out];rfl,HB0.out⟩
 have hse:(x.name.toList==s.toList)=false:=z03 hnm;have HF:=zh (z0l HN.out HX.out (show isF s x=false by unfold isF;exact decide_eq_false hnm));clear hnm;go_wp2;go_round
 case rel=>exact ⟨k+1,by omega,by go_num,HF⟩
 case measure=>exact qMx
theorem z6n {w:World} {pb:Nat} {T:TypeId} {z0 z1 z2 z3 z4 z5 z6 z7:Value} (h:w.heap[pb]? =some (.cells #[z0,z1,z2,z3,z4,z5,z6,z7] T (0,0))) (a0 a1 a2 a3 a4 a5 a6 a7:Value):
  ((((((((w.setCell ⟨pb,0,none⟩ a0).setCell ⟨pb,1,none⟩ a1).setCell ⟨pb,2,none⟩ a2).setCell ⟨pb,3,none⟩ a3).setCell ⟨pb,4,none⟩ a4).setCell ⟨pb,5,none⟩ a5).setCell ⟨pb,6,none⟩ a6).setCell ⟨pb,7,none⟩ a7).heap[pb]? =some (.cells #[a0,a1,a2,a3,a4,a5,a6,a7] T (0,0))/\ButB (fun x=>x=pb) w ((((((((w.setCell ⟨pb,0,none⟩ a0).setCell ⟨pb,1,none⟩ a1).setCell ⟨pb,2,none⟩ a2).setCell ⟨pb,3,none⟩ a3).setCell ⟨pb,4,none⟩ a4).setCell ⟨pb,5,none⟩ a5).setCell ⟨pb,6,none⟩ a6).setCell ⟨pb,7,none⟩ a7):=by
 have b0:ButB (fun x=>x=pb) w w:=ButB.refl _ _;have h0:=zI (i:=0) (cs':=#[a0,z1,z2,z3,z4,z5,z6,z7]) a0 h rfl;have b1:=b0.set ⟨pb,0,none⟩ a0 rfl;generalize w.setCell ⟨pb,0,none⟩ a0=w1 at h0 b1⊢;have h1:=zI (i:=1) (cs':=#[a0,a1,z2,z3,z4,z5,z6,z7]) a1 h0 rfl;have b2:=b1.set ⟨pb,1,none⟩ a1 rfl;generalize w1.setCell ⟨pb,1,none⟩ a1=w2 at h1 b2⊢;have h2:=zI (i:=2) (cs':=#[a0,a1,a2,z3,z4,z5,z6,z7]) a2 h1 rfl;have b3:=b2.set ⟨pb,2,none⟩ a2 rfl;generalize w2.setCell ⟨pb,2,none⟩ a2=w3 at h2 b3⊢;have h3:=zI (i:=3) (cs':=#[a0,a1,a2,a3,z4,z5,z6,z7]) a3 h2 rfl;have b4:=b3.set ⟨pb,3,none⟩ a3 rfl;generalize w3.setCell ⟨pb,3,none⟩ a3=w4 at h3 b4⊢;have h4:=zI (i:=4) (cs':=#[a0,a1,a2,a3,a4,z5,z6,z7]) a4 h3 rfl;have b5:=b4.set ⟨pb,4,none⟩ a4 rfl;generalize w4.setCell ⟨pb,4,none⟩ a4=w5 at h4 b5⊢;have h5:=zI (i:=5) (cs':=#[a0,a1,a2,a3,a4,a5,z6,z7]) a5 h4 rfl;have b6:=b5.set ⟨pb,5,none⟩ a5 rfl;generalize w5.setCell ⟨pb,5,none⟩ a5=w6 at h5 b6⊢;have h6:=zI (i:=6) (cs':=#[a0,a1,a2,a3,a4,a5,a6,z7]) a6 h5 rfl;have b7:=b6.set ⟨pb,6,none⟩ a6 rfl;generalize w6.setCell ⟨pb,6,none⟩ a6=w7 at h6 b7⊢;have h7:=zI (i:=7) (cs':=#[a0,a1,a2,a3,a4,a5,a6,a7]) a7 h6 rfl;have b8:=b7.set ⟨pb,7,none⟩ a7 rfl;exact ⟨h7,b8⟩
theorem zA9 {S:Nat->Prop} {w:World} {cs:List Value} {m:Manifest} (h:ZR S w cs m):∃A2 c2 A4 c4,cs=[.string m.folder,.int .i64 m.seq,.slice A2 m.prev.length c2,.string m.parent,.slice A4 m.members.length c4,.int .i64 m.cut,.bool m.gone,.string m.who]:=by
 obtain ⟨_,_,_,_,rfl,_,_,_,_,_,_,_,_,_,_,_,_,_⟩:=yF h;exact ⟨_,_,_,_,rfl⟩
theorem zAa (st:State) (name:Nm) (cs:List Value) (w:World) (S:Nat->Prop) (h:yB S w cs st):Calls Tryz.prog 23 #[.agg cs.toArray,.string name] w fun e w'=>e= .returned (.bool (ZJ st name))/\Below w.heap.size w w':=by
 have HR:=zh h;obtain ⟨st_A1,st_c1,st_A2,st_c2,st_A3,st_c3,rfl,_,_,_,_,st_users_s,_,_,_,st_deposits_s,_,_,_,st_folders_s⟩:=ZP h;obtain ⟨w0,hw0,cw0,fw0,Bw0,qw0⟩:=zQ w #[.int .i64 st.turn,.slice st_A1 st.users.length st_c1,.slice st_A2 st.deposits.length st_c2,.slice st_A3 st.folders.length st_c3] 34;have HB0:=zh Bw0;have HC0:=zh cw0;have HST:=zh fun W (hW:Below w0.heap.size w0 W)=>Z0 HR.out (zK (zB HB0.out hW))
 have s0:=cw0 0 _ rfl;have s1:=cw0 1 _ rfl;have s2:=cw0 2 _ rfl;have s3:=cw0 3 _ rfl;clear cw0 fw0 Bw0 st_users_s st_deposits_s;go_enter Tryz.func23,Tryz.ntmps23
 go_wp2_with fail
 clear hw0 s0 s1 s2 s3;refine zcm (z1l st name _ w0 S (HST.out _ zbr)) ?_;rintro _ w2 ⟨rfl,B2⟩;have HB2:=zh B2;have s3:=(B2.cell (p:=⟨w.heap.size,3,none⟩) qw0).trans (HC0.out 3 _ rfl)
 cases hF:zP st name with
 | none=>
  have HE:=zh (z6f hF);rw [z72 hF];clear hF B2;go_wp2;go_ret
  exact ⟨by rw [HE.out];rfl,zB HB0.out HB2.out⟩
 | some f=>
 have HFF:=zh hF;obtain ⟨kf,hkf,hf⟩:=z2y hF;rw [hkf];have hk0:decide ((kf:Int) < 0)=false:=decide_eq_false (by omega);have hfl:=(zge hf).1;have hfi:(kf:Int) < (st.folders.length:Int):=by omega
 obtain ⟨bf,of,_,hAf,_,hRf,hcf⟩:=SlAt.elem st_folders_s hf (by decide) (zB HB0.out B2);obtain ⟨f_A2,f_c2,_,f_c3,f_A4,f_c4,f_A5,f_c5,f_A6,f_c6,rfl,_,_,_,_,_,f_manifests_s,_,_,f_epochs_n,f_epochs_s,_,_,_,f_items_s,_,_,_,f_wraps_s,_,_,_,f_links_s⟩:=Z2 hRf;have u0:=hcf 0 _ rfl;have u1:=hcf 1 _ rfl;have u2:=hcf 2 _ rfl;have u3:=hcf 3 _ rfl;have u4:=hcf 4 _ rfl;have u5:=hcf 5 _ rfl;have u6:=hcf 6 _ rfl;rw [Nat.add_zero] at u0;subst hAf;clear hF hkf hf hcf B2 f_manifests_s f_items_s f_wraps_s f_links_s;rcases Nat.eq_zero_or_pos f.epochs.length with hz | hz
 ·have HE:=zh (z6z HFF.out hz);have hzd:((f.epochs.length:Int)==0)=true:=by simp [hz]
  clear hz;go_wp2;go_ret;exact ⟨by rw [HE.out];rfl,zB HB0.out HB2.out⟩
 have hzd:((f.epochs.length:Int)==0)=false:=beq_eq_false_iff_ne.2 (by omega);obtain ⟨n,hn⟩:∃n,f.epochs.length=n+1:=⟨f.epochs.length - 1,by omega⟩;obtain ⟨e,he⟩:∃e,f.epochs[n]? =some e:=⟨_,qLgx (by omega)⟩;have HSB:=zh (z6g HFF.out hn he);obtain ⟨be,oe,_,hA,_,hRe,hcz⟩:=SlAt.elem f_epochs_s he (by decide) (zB HB0.out HB2.out);obtain ⟨e_A3,e_c3,rfl,_,_,_,e_chain_l,e_chain_m,e_chain_n,e_chain_s,_⟩:=z3o hRe;have v3:=hcz 3 _ rfl;subst hA;have hw1:IntKind.i64.wrap (n:Int)=(n:Int):=IntWalk.i64_in _ (by have:=f_epochs_n;omega);have hni:(n:Int) < (n:Int)+1:=by omega
 obtain ⟨w3,hw3,cw3,fw3,Bw3,_⟩:=zQ w2 #[.string f.name,.int .i64 f.turn,.slice f_A2 f.manifests.length f_c2,.slice (some ⟨be,oe,none⟩) f.epochs.length f_c3,.slice f_A4 f.items.length f_c4,.slice f_A5 f.wraps.length f_c5,.slice f_A6 f.links.length f_c6] 74;have HB3:=zh (zB HB2.out Bw3);have d3:=cw3 3 _ rfl;have v3':=(Bw3.cell (p:=⟨be,oe+n*5+3,none⟩) (zF v3)).trans v3;have HCH:=zh (Sl.keep Z1 (by decide) (show Sl 2 rAt S w (.slice e_A3 e.chain.length e_c3) e.chain from ⟨_,_,rfl,e_chain_l,e_chain_m,e_chain_n,e_chain_s⟩) (zK (zB HB0.out HB3.out)));have hcl:e.chain.length<=140737488355328:=e_chain_n;have cc:=fun j v hj=>(HB3.out.cell (p:=⟨w.heap.size,j,none⟩) qw0).trans (HC0.out j v hj)
 have s0':=cc 0 _ rfl;have s1':=cc 1 _ rfl;have s2':=cc 2 _ rfl;have s3':=cc 3 _ rfl;rw [hn] at hw3 d3 u3;clear cc hz he hcz cw3 fw3 Bw3;go_wp2_with fail
 clear hn hzd hw3 d3 v3 v3' u0 u1 u2 u3 u4 u5 u6 s3 s0' s1' s2' s3';refine zcm (zA8 st name _ w3 S (HST.out _ HB3.out)) ?_;rintro _ w5 ⟨⟨_,rfl,hs5⟩,b5⟩;have HS5:=zh hs5;have B5:=zh b5;clear hs5 b5;obtain ⟨now,hnow⟩:∃now,zN st 4 name=now:=⟨_,rfl⟩;have HNOW:=zh hnow;rw [hnow] at HS5 HSB;have hn4:now.length<=4:=by rw [<-hnow];exact z1k _ _ _
 clear hnow;obtain ⟨_,_,rfl,_,hc5,_,hs5⟩:=HS5.out;unfold maxLen at hc5;by_cases hlen:e.chain.length=now.length
 rotate_left
 ·rw [if_neg hlen] at HSB;have hld:((e.chain.length:Int)==(now.length:Int))=false:=beq_eq_false_iff_ne.2 (by omega);clear hlen;go_wp2;go_ret;exact ⟨by rw [HSB.out];rfl,zB HB0.out (zB HB3.out B5.out)⟩
 rw [if_pos hlen] at HSB;have HLEN:=zh hlen;have hld:((e.chain.length:Int)==(now.length:Int))=true:=beq_iff_eq.2 (by omega);have HCH5:=zh (HCH.out.keep Z1 (by decide) (zK B5.out));have B05:=zh (zB HB3.out B5.out);clear hlen;go_wp2;clear hld;go_loopw [9] (fun i wr=>∃k:Nat,k<=now.length/\i= .int .i64 k/\Hid (Y0 st (e.chain.drop k) (now.drop k)=ZJ st name)/\Below w5.heap.size w5 wr) (fun i _=>now.length - (intOf i).toNat)
 case atStart=>exact ⟨0,by omega,by go_num,(by show _=_;rw [HSB.out];rfl),Below.refl _ _⟩
 obtain ⟨k,_,rfl,HG,hbel⟩:=hrel;have B0r:=zh (zB B05.out hbel);by_cases hlt:k < now.length
 rotate_left
 ·obtain rfl:k=now.length:=by omega
  have HE:=zh (show ZJ st name=false by rw [<-HG.out,List.drop_length,zBt]);go_wp2;go_ret;exact ⟨by rw [HE.out];rfl,zB HB0.out B0r.out⟩
 obtain ⟨x,hx⟩:∃x,now[k]? =some x:=⟨_,qLgx hlt⟩;obtain ⟨y,hy⟩:∃y,e.chain[k]? =some y:=⟨_,qLgx (by have:=HLEN.out;omega)⟩;have HST2:=zh (zE9 (st:=st) hy hx);obtain ⟨g,hg⟩:=z0d (st:=st) (x:=x) (by rw [HNOW.out];exact zmg hx);have HCUT:=zh (show YE st x.name=(zH g).cut by rw [YE,hg];rfl);obtain ⟨m,hme⟩:∃m,zH g=m:=⟨_,rfl⟩;have HM:=zh hme;have HCUT2:=zh (show YE st x.name=m.cut by rw [HCUT.out,hme]);clear hme;obtain ⟨j,hj,hgj⟩:=z2y hg;have HJ:=zh hj;have hjl:=(zge hgj).1;have hji:(j:Int) < (st.folders.length:Int):=by omega
 obtain ⟨bx,ox,_,hAx,_,hRx,hcx⟩:=SlAt.elem hs5 hx (by decide) hbel;obtain ⟨_,_,hAw',-,-,-,hsw⟩:=HCH5.out;cases hAw'
 obtain ⟨bw,ow,_,hAw,_,hRw,hcw⟩:=SlAt.elem hsw hy (by decide) hbel;obtain ⟨_,_,_,hAg,_,hRg,hcg⟩:=SlAt.elem st_folders_s hgj (by decide) (zB HB0.out B0r.out);cases hAg
 have HGR:=zh hRg;obtain ⟨rfl,_,_⟩:=z3b hRx;obtain ⟨rfl,_,_⟩:=z3b hRw;obtain ⟨g_A2,g_c2,g_A3,g_c3,g_A4,g_c4,g_A5,g_c5,g_A6,g_c6,rfl,_,_,_,_,_,g_manifests_s,_,_,_,g_epochs_s,_,_,_,g_items_s,_,_,_,g_wraps_s,_,_,_,g_links_s⟩:=Z2 hRg;have u0:=hcx 0 _ rfl;have v0:=hcw 0 _ rfl;have v1:=hcw 1 _ rfl;have g0:=hcg 0 _ rfl;have g1:=hcg 1 _ rfl;have g2:=hcg 2 _ rfl;have g3:=hcg 3 _ rfl;have g4:=hcg 4 _ rfl;have g5:=hcg 5 _ rfl;have g6:=hcg 6 _ rfl;rw [Nat.add_zero] at u0 v0 g0;subst hAx;subst hAw;have hki:(k:Int) < (now.length:Int):=by omega
 have hki2:(k:Int) < (e.chain.length:Int):=by have:=HLEN.out;omega
 have HSQ:=zh (show ∀W:World,Below wr.heap.size wr W->(fun W:World=>(W.cell? ⟨w.heap.size,0,none⟩=some (.int .i64 st.turn)/\W.cell? ⟨w.heap.size,1,none⟩=some (.slice st_A1 st.users.length st_c1)/\W.cell? ⟨w.heap.size,2,none⟩=some (.slice st_A2 st.deposits.length st_c2)/\W.cell? ⟨w.heap.size,3,none⟩=some (.slice (some ⟨bf,of,none⟩) st.folders.length st_c3))/\W.cell? ⟨bx,ox+k*2,none⟩=some (.string x.name)/\W.cell? ⟨bf,of+j*7,none⟩=some (.string g.name)/\W.cell? ⟨bf,of+j*7+1,none⟩=some (.int .i64 g.turn)/\W.cell? ⟨bf,of+j*7+2,none⟩=some (.slice g_A2 g.manifests.length g_c2)/\W.cell? ⟨bf,of+j*7+3,none⟩=some (.slice g_A3 g.epochs.length g_c3)/\W.cell? ⟨bf,of+j*7+4,none⟩=some (.slice g_A4 g.items.length g_c4)/\W.cell? ⟨bf,of+j*7+5,none⟩=some (.slice g_A5 g.wraps.length g_c5)/\W.cell? ⟨bf,of+j*7+6,none⟩=some (.slice g_A6 g.links.length g_c6)) W from fun W hW=>by
  have c:=fun j v hj=>((zB B0r.out hW).cell (p:=⟨w.heap.size,j,none⟩) qw0).trans (HC0.out j v hj)
  have q:=fun (o:Nat) v (h:wr.cell? ⟨bf,o,none⟩=some v)=>(hW.cell (p:=⟨bf,o,none⟩) (zF h)).trans h
  exact ⟨⟨c 0 _ rfl,c 1 _ rfl,c 2 _ rfl,c 3 _ rfl⟩,(hW.cell (p:=⟨bx,ox+k*2,none⟩) (zF u0)).trans u0,q _ _ g0,q _ _ g1,q _ _ g2,q _ _ g3,q _ _ g4,q _ _ g5,q _ _ g6⟩)
 have HU0:=zh u0;have HV0:=zh v0;have HV1:=zh v1;clear hx hy hg hj hgj hcx hcw hcg u0 v0 v1 g0 g1 g2 g3 g4 g5 g6 g_manifests_s g_epochs_s g_items_s g_wraps_s g_links_s;go_wp2;have HS:=HSQ.out;refine zE (by kernel_rfl) HS (fun hHeld=>?_);refine zi 0 ?_;iterate 8 (refine zt hHeld ?_;simp only [zA])
 refine zo ?_;have BD:Below wr.heap.size wr wr.drew:=zbr.drew;refine wpAnyH_ready (rs:=[8,12]) (by kernel_rfl) (by simp) ?_;refine AllReadyH.cons rfl (fun K hK=>?_) (AllReadyH.cons rfl (fun K hK=>?_) AllReadyH.nil)
 ·go_simp;go_at_call 21
  refine zcm (z1l st x.name _ _ S (HST.out _ (zB B0r.out BD))) ?_;rw [HJ.out];rintro e6 w6 ⟨rfl,b6⟩;have B6:=zB BD b6;clear b6;clear hHeld;refine hK.out _ _ (HS _ B6) (fun hHeld=>?_);clear hK K;refine zi 9 ?_;iterate 2 (refine zt hHeld ?_;simp only [zA])
  refine zo ?_;refine wpAnyH_ready (rs:=[11,12]) (by kernel_rfl) (by simp) ?_;refine AllReadyH.cons rfl (fun K hK=>?_) (AllReadyH.cons rfl (fun K hK=>?_) AllReadyH.nil)
  ·go_simp;go_at_call 25
   refine zcm (z4u g _ _ S (Z5 HGR.out (zK (zB HB0.out (zB B0r.out B6))))) ?_;rw [HM.out];rintro e7 w7 ⟨⟨cm,rfl,hm⟩,b7⟩;obtain ⟨m_A2,m_c2,m_A4,m_c4,rfl⟩:=zA9 hm;have B7:=zB B6 b7;clear b7 hm;clear hHeld;refine hK.out _ _ (HS _ B7) (fun hHeld=>?_);clear hK K;obtain ⟨w8,hwa,cwa,fwa,Bwa,qwa⟩:=zQ w7 #[.string ⟨#[]⟩,.int .i64 0,.slice none 0 0,.string ⟨#[]⟩,.slice none 0 0,.int .i64 0,.bool false,.string ⟨#[]⟩] 84;have B8:Below wr.heap.size wr w8:=zB B7 Bwa;have TA:w8.heap[w7.heap.size]? =some (.cells #[.string ⟨#[]⟩,.int .i64 0,.slice none 0 0,.string ⟨#[]⟩,.slice none 0 0,.int .i64 0,.bool false,.string ⟨#[]⟩] 84 (0,0)):=by rw [<-hwa];exact zJ _ rfl
   have hpb:wr.heap.size<=w7.heap.size:=B7.size;refine zr 12 fun K hK=>?_
   go_simp;clear hHeld;refine hK.out _ _ (HS _ B8) (fun hHeld=>?_);clear hK K;clear hwa cwa fwa Bwa qwa;obtain ⟨cT,fT⟩:=zD TA;have c_0:=cT 0 _ rfl;have c_1:=cT 1 _ rfl;have c_2:=cT 2 _ rfl;have c_3:=cT 3 _ rfl;have c_4:=cT 4 _ rfl;have c_5:=cT 5 _ rfl;have c_6:=cT 6 _ rfl;have c_7:=cT 7 _ rfl;have HTA:=zh TA;clear cT TA;refine zr 13 fun K hK=>?_
   go_simp;clear c_0 c_1 c_2 c_3 c_4 c_5 c_6 c_7 fT hHeld;obtain ⟨E1,E2⟩:=z6n HTA.out (.string m.folder) (.int .i64 m.seq) (.slice m_A2 m.prev.length m_c2) (.string m.parent) (.slice m_A4 m.members.length m_c4) (.int .i64 m.cut) (.bool m.gone) (.string m.who);have BE:=ButB.below B8 B8.size (fun z hz=>by rw [hz];exact hpb) E2;generalize hW:World.setCell _ _ _=W at E1 E2 BE⊢;clear hW;refine hK.out _ _ (HS _ BE) (fun hHeld=>?_);clear hK K;refine wpAnyH_done (by kernel_rfl) ?_ _;clear hHeld HS;have bcut:=(zD E1).1 5 _ rfl;have HBE:=zh BE;have t0:=(World.cell?_of_block (a:=⟨bw,ow+k*2,none⟩) (BE.block _ (zF HV0.out))).trans HV0.out;have t1:=(World.cell?_of_block (a:=⟨bw,ow+k*2+1,none⟩) (BE.block _ (zF HV1.out))).trans HV1.out;have t2:=(World.cell?_of_block (a:=⟨bx,ox+k*2,none⟩) (BE.block _ (zF HU0.out))).trans HU0.out;clear BE E1 E2;by_cases hne:y.name=x.name
   rotate_left
   ·have HEND:=zh (show ZJ st name=true by rw [<-HG.out,HST2.out,if_neg hne]);have hse:(y.name.toList==x.name.toList)=false:=z03 hne;clear hne;go_wp2_with fail
    go_quiet (fail)
    go_wp2;go_ret;exact ⟨by rw [HEND.out];rfl,ZN (zB HB0.out (zB B0r.out HBE.out)) _⟩
   have hse:(y.name.toList==x.name.toList)=true:=by rw [hne];simp
   have HNE:=zh hne;clear hne;by_cases hct:y.seq < m.cut
   ·have hcd:decide (y.seq < m.cut)=true:=decide_eq_true hct;have HEND:=zh (show ZJ st name=true by rw [<-HG.out,HST2.out,if_pos HNE.out,HCUT2.out,if_pos hct]);clear hct;go_wp2_with fail
    go_quiet (fail)
    go_wp2;go_ret;exact ⟨by rw [HEND.out];rfl,ZN (zB HB0.out (zB B0r.out HBE.out)) _⟩
   have hcd:decide (y.seq < m.cut)=false:=decide_eq_false hct;have HEND:=zh (show Y0 st (e.chain.drop (k+1)) (now.drop (k+1))=ZJ st name by rw [<-HG.out,HST2.out,if_pos HNE.out,HCUT2.out,if_neg hct]);clear hct;go_wp2_with fail
   go_quiet (fail)
   go_wp2;go_roundw
   case rel=>
    have HF:∃j':Nat,j'<=now.length/\Value.int .i64 ((k:Int)+1)= .int .i64 j'/\Hid (Y0 st (e.chain.drop j') (now.drop j')=ZJ st name)/\Below w5.heap.size w5 (W.drewN nq):=⟨k+1,by omega,by go_num,HEND,ZN (zB hbel HBE.out) _⟩;first | exact HF | ((repeat apply Exists.intro);refine ⟨HF,?_⟩;first | rfl | ((repeat' apply And.intro)<;>rfl) | (simp;(repeat' apply And.intro)<;>first | rfl | (have:=HLEN.out;omega)))
   case measure=>exact qMx
  obtain ⟨w7,hwa,cwa,fwa,Bwa,qwa⟩:=zQ w6 #[.string ⟨#[]⟩,.int .i64 0,.slice none 0 0,.string ⟨#[]⟩,.slice none 0 0,.int .i64 0,.bool false,.string ⟨#[]⟩] 84;have B7:Below wr.heap.size wr w7:=zB B6 Bwa;have TA:w7.heap[w6.heap.size]? =some (.cells #[.string ⟨#[]⟩,.int .i64 0,.slice none 0 0,.string ⟨#[]⟩,.slice none 0 0,.int .i64 0,.bool false,.string ⟨#[]⟩] 84 (0,0)):=by rw [<-hwa];exact zJ _ rfl
  have hpb:wr.heap.size<=w6.heap.size:=B6.size;go_simp;clear hHeld;refine hK.out _ _ (HS _ B7) (fun hHeld=>?_);clear hK K;clear hwa cwa fwa Bwa;refine zr 11 fun K hK=>?_
  go_simp;go_at_call 25
  refine zcm (z4u g _ _ S (Z5 HGR.out (zK (zB HB0.out (zB B0r.out B7))))) ?_;rw [HM.out];rintro e7 w8 ⟨⟨cm,rfl,hm⟩,b7⟩;obtain ⟨m_A2,m_c2,m_A4,m_c4,rfl⟩:=zA9 hm;have B8:=zB B7 b7;replace TA:=(b7.block _ (zO TA)).trans TA;clear b7 hm qwa;clear hHeld;refine hK.out _ _ (HS _ B8) (fun hHeld=>?_);clear hK K;obtain ⟨cT,fT⟩:=zD TA;have c_0:=cT 0 _ rfl;have c_1:=cT 1 _ rfl;have c_2:=cT 2 _ rfl;have c_3:=cT 3 _ rfl;have c_4:=cT 4 _ rfl;have c_5:=cT 5 _ rfl;have c_6:=cT 6 _ rfl;have c_7:=cT 7 _ rfl;have HTA:=zh TA;clear cT TA;refine zr 13 fun K hK=>?_
  go_simp;clear c_0 c_1 c_2 c_3 c_4 c_5 c_6 c_7 fT hHeld;obtain ⟨E1,E2⟩:=z6n HTA.out (.string m.folder) (.int .i64 m.seq) (.slice m_A2 m.prev.length m_c2) (.string m.parent) (.slice m_A4 m.members.length m_c4) (.int .i64 m.cut) (.bool m.gone) (.string m.who);have BE:=ButB.below B8 B8.size (fun z hz=>by rw [hz];exact hpb) E2;generalize hW:World.setCell _ _ _=W at E1 E2 BE⊢;clear hW;refine hK.out _ _ (HS _ BE) (fun hHeld=>?_);clear hK K;refine wpAnyH_done (by kernel_rfl) ?_ _;clear hHeld HS;have bcut:=(zD E1).1 5 _ rfl;have HBE:=zh BE;have t0:=(World.cell?_of_block (a:=⟨bw,ow+k*2,none⟩) (BE.block _ (zF HV0.out))).trans HV0.out;have t1:=(World.cell?_of_block (a:=⟨bw,ow+k*2+1,none⟩) (BE.block _ (zF HV1.out))).trans HV1.out;have t2:=(World.cell?_of_block (a:=⟨bx,ox+k*2,none⟩) (BE.block _ (zF HU0.out))).trans HU0.out;clear BE E1 E2;by_cases hne:y.name=x.name
  rotate_left
  ·have HEND:=zh (show ZJ st name=true by rw [<-HG.out,HST2.out,if_neg hne]);have hse:(y.name.toList==x.name.toList)=false:=z03 hne;clear hne;go_wp2_with fail
   go_quiet (fail)
   go_wp2;go_ret;exact ⟨by rw [HEND.out];rfl,ZN (zB HB0.out (zB B0r.out HBE.out)) _⟩
  have hse:(y.name.toList==x.name.toList)=true:=by rw [hne];simp
  have HNE:=zh hne;clear hne;by_cases hct:y.seq < m.cut
  ·have hcd:decide (y.seq < m.cut)=true:=decide_eq_true hct;have HEND:=zh (show ZJ st name=true by rw [<-HG.out,HST2.out,if_pos HNE.out,HCUT2.out,if_pos hct]);clear hct;go_wp2_with fail
   go_quiet (fail)
   go_wp2;go_ret;exact ⟨by rw [HEND.out];rfl,ZN (zB HB0.out (zB B0r.out HBE.out)) _⟩
  have hcd:decide (y.seq < m.cut)=false:=decide_eq_false hct;have HEND:=zh (show Y0 st (e.chain.drop (k+1)) (now.drop (k+1))=ZJ st name by rw [<-HG.out,HST2.out,if_pos HNE.out,HCUT2.out,if_neg hct]);clear hct;go_wp2_with fail
  go_quiet (fail)
  go_wp2;go_roundw
  case rel=>
   have HF:∃j':Nat,j'<=now.length/\Value.int .i64 ((k:Int)+1)= .int .i64 j'/\Hid (Y0 st (e.chain.drop j') (now.drop j')=ZJ st name)/\Below w5.heap.size w5 (W.drewN nq):=⟨k+1,by omega,by go_num,HEND,ZN (zB hbel HBE.out) _⟩;first | exact HF | ((repeat apply Exists.intro);refine ⟨HF,?_⟩;first | rfl | ((repeat' apply And.intro)<;>rfl) | (simp;(repeat' apply And.intro)<;>first | rfl | (have:=HLEN.out;omega)))
  case measure=>exact qMx
 obtain ⟨w6,hwa,cwa,fwa,Bwa,qwa⟩:=zQ wr.drew #[.string ⟨#[]⟩,.int .i64 0,.slice none 0 0,.string ⟨#[]⟩,.slice none 0 0,.int .i64 0,.bool false,.string ⟨#[]⟩] 84;have B6:Below wr.heap.size wr w6:=zB BD Bwa;have TA:w6.heap[wr.heap.size]? =some (.cells #[.string ⟨#[]⟩,.int .i64 0,.slice none 0 0,.string ⟨#[]⟩,.slice none 0 0,.int .i64 0,.bool false,.string ⟨#[]⟩] 84 (0,0)):=by rw [<-hwa];exact zJ _ rfl
 have hpb:wr.heap.size<=wr.heap.size:=znl _;go_simp;clear hHeld;refine hK.out _ _ (HS _ B6) (fun hHeld=>?_);clear hK K;clear hwa cwa fwa Bwa;refine zr 8 fun K hK=>?_
 go_simp;go_at_call 21
 refine zcm (z1l st x.name _ _ S (HST.out _ (zB B0r.out B6))) ?_;rw [HJ.out];rintro e6 w7 ⟨rfl,b6⟩;have B7:=zB B6 b6;replace TA:=(b6.block _ (zO TA)).trans TA;clear b6 qwa;clear hHeld;refine hK.out _ _ (HS _ B7) (fun hHeld=>?_);clear hK K;refine zi 9 ?_;iterate 2 (refine zt hHeld ?_;simp only [zA])
 refine zo ?_;refine zr 11 fun K hK=>?_
 go_simp;go_at_call 25
 refine zcm (z4u g _ _ S (Z5 HGR.out (zK (zB HB0.out (zB B0r.out B7))))) ?_;rw [HM.out];rintro e7 w8 ⟨⟨cm,rfl,hm⟩,b7⟩;obtain ⟨m_A2,m_c2,m_A4,m_c4,rfl⟩:=zA9 hm;have B8:=zB B7 b7;replace TA:=(b7.block _ (zO TA)).trans TA;clear b7 hm;clear hHeld;refine hK.out _ _ (HS _ B8) (fun hHeld=>?_);clear hK K;obtain ⟨cT,fT⟩:=zD TA;have c_0:=cT 0 _ rfl;have c_1:=cT 1 _ rfl;have c_2:=cT 2 _ rfl;have c_3:=cT 3 _ rfl;have c_4:=cT 4 _ rfl;have c_5:=cT 5 _ rfl;have c_6:=cT 6 _ rfl;have c_7:=cT 7 _ rfl;have HTA:=zh TA;clear cT TA;refine zr 13 fun K hK=>?_
 go_simp;clear c_0 c_1 c_2 c_3 c_4 c_5 c_6 c_7 fT hHeld;obtain ⟨E1,E2⟩:=z6n HTA.out (.string m.folder) (.int .i64 m.seq) (.slice m_A2 m.prev.length m_c2) (.string m.parent) (.slice m_A4 m.members.length m_c4) (.int .i64 m.cut) (.bool m.gone) (.string m.who);have BE:=ButB.below B8 B8.size (fun z hz=>by rw [hz];exact hpb) E2;generalize hW:World.setCell _ _ _=W at E1 E2 BE⊢;clear hW;refine hK.out _ _ (HS _ BE) (fun hHeld=>?_);clear hK K;refine wpAnyH_done (by kernel_rfl) ?_ _;clear hHeld HS;have bcut:=(zD E1).1 5 _ rfl;have HBE:=zh BE;have t0:=(World.cell?_of_block (a:=⟨bw,ow+k*2,none⟩) (BE.block _ (zF HV0.out))).trans HV0.out;have t1:=(World.cell?_of_block (a:=⟨bw,ow+k*2+1,none⟩) (BE.block _ (zF HV1.out))).trans HV1.out;have t2:=(World.cell?_of_block (a:=⟨bx,ox+k*2,none⟩) (BE.block _ (zF HU0.out))).trans HU0.out;clear BE E1 E2;by_cases hne:y.name=x.name
 rotate_left
 ·have HEND:=zh (show ZJ st name=true by rw [<-HG.out,HST2.out,if_neg hne]);have hse:(y.name.toList==x.name.toList)=false:=z03 hne;clear hne;go_wp2_with fail
  go_quiet (fail)
  go_wp2;go_ret;exact ⟨by rw [HEND.out];rfl,ZN (zB HB0.out (zB B0r.out HBE.out)) _⟩
 have hse:(y.name.toList==x.name.toList)=true:=by rw [hne];simp
 have HNE:=zh hne;clear hne;by_cases hct:y.seq < m.cut
 ·have hcd:decide (y.seq < m.cut)=true:=decide_eq_true hct;have HEND:=zh (show ZJ st name=true by rw [<-HG.out,HST2.out,if_pos HNE.out,HCUT2.out,if_pos hct]);clear hct;go_wp2_with fail
  go_quiet (fail)
  go_wp2;go_ret;exact ⟨by rw [HEND.out];rfl,ZN (zB HB0.out (zB B0r.out HBE.out)) _⟩
 have hcd:decide (y.seq < m.cut)=false:=decide_eq_false hct;have HEND:=zh (show Y0 st (e.chain.drop (k+1)) (now.drop (k+1))=ZJ st name by rw [<-HG.out,HST2.out,if_pos HNE.out,HCUT2.out,if_neg hct]);clear hct;go_wp2_with fail
 go_quiet (fail)
 go_wp2;go_roundw
 case rel=>
  have HF:∃j':Nat,j'<=now.length/\Value.int .i64 ((k:Int)+1)= .int .i64 j'/\Hid (Y0 st (e.chain.drop j') (now.drop j')=ZJ st name)/\Below w5.heap.size w5 (W.drewN nq):=⟨k+1,by omega,by go_num,HEND,ZN (zB hbel HBE.out) _⟩;first | exact HF | ((repeat apply Exists.intro);refine ⟨HF,?_⟩;first | rfl | ((repeat' apply And.intro)<;>rfl) | (simp;(repeat' apply And.intro)<;>first | rfl | (have:=HLEN.out;omega)))
 case measure=>exact qMx
end
def zEd:Epoch:=⟨0,0,0,[],⟨#[]⟩⟩
def iOf:Option Nat->Int
 | some k=>k
 | none=> -1
def isU (s:Nm) (u:User):Bool:=decide (u.name=s)
def Y6 (st:State) (s:Nm):Option Nat:=st.users.findIdx? (isU s)
def foI (st:State) (s:Nm):Option Nat:=st.folders.findIdx? (isF s)
def fo (st:State) (k:Nat):Folder:=(st.folders[k]?).getD yH
def Z3 (st:State) (s:Nm):Option Nat:=match foI st s with
 | some k=>if (zH (fo st k)).gone then none else some k
 | none=>none
def yW (st:State) (k:Nat) (s:Nm):Int:=Ro.ofOf (zH (fo st k)).members s
def setF (st:State) (k:Nat) (f:Folder):State:={ st with folders:=st.folders.set k f }
def z4d (eps:List Epoch) (w:Wrap) (seed:Bool):Bool:=(w.seed && decide (YG eps w.epoch=YG eps eps.length)) || (!seed && decide (w.epoch=(eps.length:Int)))
def z1m (eps:List Epoch) (name:Nm) (seed:Bool):List Wrap->List Wrap
 | []=>[⟨name,eps.length,seed⟩]
 | w :: r=>if w.name=name then (if z4d eps w seed then w else ⟨name,eps.length,seed⟩) :: r
  else if ltS name w.name then ⟨name,eps.length,seed⟩ :: w :: r else w :: z1m eps name seed r
def yO (f:Folder) (name:Nm) (seed:Bool):Folder:={ f with wraps:=z1m f.epochs name seed f.wraps }
def ZZ (sd:Member->Bool) (f:Folder) (ms:List Member):Folder:=ms.foldl (fun f m=>yO f m.name (sd m)) f
def zFf (f:Folder) (s:Nm):Bool:=f.links.any fun l=>decide (l.epoch=(f.epochs.length:Int)) && decide (l.to=s)
def Y1 (st:State):List At->Folder->Folder
 | [],f=>f
 | x :: r,f=>if ZJ st x.name then Y1 st r (ZZ (fun _=>false) f (zH ((zP st x.name).getD yH)).members)
  else if zFf f x.name then f else { f with links:=f.links++[⟨f.epochs.length,x.name,((zP st x.name).getD yH).epochs.length⟩] }
def yJ (st:State) (k:Nat):State:=setF st k (Y1 st ((zN st 4 (fo st k).name).drop 1) (fo st k))
def z5v (f:Folder) (frm:Int):Bool:=f.manifests.all fun m=>m.members.all fun x=>!(decide (frm<=m.seq) && (decide (2<=x.role) && decide (Ro.ofOf (zH f).members x.name=0)))
def z2b (st:State) (f:Folder) (who:Nm):Epoch:=
 if decide ((f.epochs.getLast?.getD zEd).place < 4) && z5v f (f.epochs.getLast?.getD zEd).frm then ⟨(f.epochs.getLast?.getD zEd).place+1,(f.epochs.getLast?.getD zEd).frm,(zH f).seq,zN st 4 f.name,who⟩
 else ⟨1,(zH f).seq,(zH f).seq,zN st 4 f.name,who⟩
def YR (st:State) (k:Nat) (who:Nm):State:=
 setF st k (ZZ (fun x=>decide (2<=x.role)) { fo st k with epochs:=(fo st k).epochs++[z2b st (fo st k) who] } (zH (fo st k)).members)
def y9 (f:Folder) (m:Manifest) (who:Nm):Folder:={ f with manifests:=f.manifests++[{ m with seq:=(zH f).seq+1,who:=who }],turn:=f.turn+1 }
def inB (s:Nm) (f:Folder):Bool:=!(zH f).gone && decide ((zH f).parent=s)
def YN (st:State):Nat->Nm->Nat
 | 0,_=>1
 | n+1,s=>st.folders.foldl (fun m f=>if inB s f then max m (YN st n f.name) else m) 0+1
def z09 (x:Item):Bool:=match x.versions.getLast? with
 | some v=>!v.gone
 | none=>false
def z01 (f:Folder) (s:Nm):Option Nat:=f.items.findIdx? (isI s)
def ZX (f:Folder) (j:Nat):Item:=(f.items[j]?).getD ⟨⟨#[]⟩,[]⟩
abbrev Res:=State×Answer×Bool
def ZF (e:Int):Answer:=⟨e,0,⟨#[]⟩,[],[],[],[]⟩
def YO (n:Int):Answer:=⟨0,n,⟨#[]⟩,[],[],[],[]⟩
def isE (s:Nm):Bool:=decide (s=⟨#[]⟩)
def ZV (st:State) (c:Call) (late:Bool):Int:=
 if c.kind=1 then 0 else match Y6 st c.user with
 | none=>41
 | some u=>if (((st.users[u]?).map User.lost).getD false && decide (c.kind≠16)) && !late then 20
  else if (!isE c.folder && decide (c.kind≠2)) && (Z3 st c.folder).isNone then 41
  else if !isE c.other && decide (c.kind=3) && (Z3 st c.other).isNone then 41
  else if !isE c.other && decide (3 < c.kind) && (Y6 st c.other).isNone then 41 else 0
def YS (st:State) (c:Call):Res:=if (Y6 st c.user).isSome then (st,ZF 42,false) else if 16<=st.users.length then (st,ZF 3,false) else ({ st with users:=st.users++[⟨c.user,false⟩] },YO 0,true)
def ZI (st:State) (c:Call):Folder:=⟨c.folder,1,[⟨c.folder,1,[],c.other,[⟨c.user,4⟩],0,false,c.user⟩],[],[],[⟨c.user,1,true⟩],[]⟩
def z1v (st:State) (c:Call):State:=
 let s1:State:={ st with folders:=st.folders++[ZI st c] }
 let s2:=setF s1 st.folders.length { ZI st c with epochs:=[⟨1,1,1,zN s1 4 c.folder,c.user⟩] }
 let s3:=yJ s2 st.folders.length
 { s3 with turn:=s3.turn+1 }
def z1w (st:State) (c:Call):Int:=if isE c.other then 0 else match Z3 st c.other with
 | none=>41
 | some p=>if yW st p c.user < 2 then 40 else 0
def YH (st:State) (c:Call):Res:=
 if (foI st c.folder).isSome then (st,ZF 42,false) else if z1w st c≠0 then (st,ZF (z1w st c),false)
 else if 4<=(zN st 4 c.other).length\/64<=st.folders.length then (st,ZF 3,false) else (z1v st c,YO 1,true)
def z6i (st:State) (k:Nat) (c:Call):State:=
 let f:=fo st k
 let s1:=setF st k (y9 f { zH f with parent:=c.other,cut:=(zH f).seq+1 } c.user)
 let s2:=yJ s1 k
 { s2 with turn:=s2.turn+1 }
def z2o (st:State) (c:Call) (k:Nat):Res:=
 if yW st k c.user < 4\/(!isE c.other && (match Z3 st c.other with | some q=>decide (yW st q c.user < 2) | none=>false))=true then (st,ZF 40,false)
 else if (zH (fo st k)).parent=c.other then (st,YO (zH (fo st k)).seq,false)
 else if (zN st 4 c.other).any (fun x=>decide (x.name=c.folder)) then (st,ZF 43,false)
 else if 4 < (zN st 4 c.other).length+YN st 5 c.folder then (st,ZF 3,false)
 else (z6i st k c,YO ((zH (fo st k)).seq+1),true)
def z0m (st:State) (c:Call) (k:Nat):Res:=
 if yW st k c.user < 4 then (st,ZF 40,false)
 else if 1 < YN st 5 c.folder\/(fo st k).items.any z09=true then (st,ZF 47,false)
 else
  let s1:=setF st k (y9 (fo st k) { zH (fo st k) with gone:=true } c.user)
  ({ s1 with turn:=s1.turn+1 },YO ((zH (fo st k)).seq+1),true)
def yM (c:Call) (l:List Member):Int:=
 if c.kind=5 then Ro.shareE (Ro.ofOf l c.user) (Ro.ofOf l c.other) c.role l.length
 else if c.kind=6 then Ro.changeE (Ro.ofOf l c.user) (Ro.ofOf l c.other) c.role (Ro.own4 l)
 else Ro.revokeE (Ro.eqS c.user c.other) (Ro.ofOf l c.user) (Ro.ofOf l c.other) (Ro.own4 l)
def Y2 (st:State) (c:Call) (k:Nat):Res:=
 let f:=fo st k
 let m:=zH f
 if yM c m.members≠0 then (st,ZF (yM c m.members),false)
 else if Ro.ofOf m.members c.other=c.role then (st,YO m.seq,false)
 else
  let f1:=if c.kind=5\/(c.kind=6/\2<=c.role) then yO f c.other (decide (2<=c.role)) else f
  (setF st k (y9 f1 { m with members:=Ro.withOf m.members c.other c.role,cut:=if c.kind=7 then m.seq+1 else m.cut } c.user),YO (m.seq+1),true)
def z4b (st:State) (k:Nat) (i:Option Nat) (name:Nm) (v:Version):State×Nat:=
 let f:=fo st k
 match i with
 | some j=>(setF st k { f with items:=f.items.set j { ZX f j with versions:=(ZX f j).versions++[{ v with epoch:=f.epochs.length }] },turn:=f.turn+1 },(ZX f j).versions.length+1)
 | none=>(setF st k { f with items:=f.items++[⟨name,[{ v with epoch:=f.epochs.length }]⟩],turn:=f.turn+1 },1)
def z1r (st:State) (c:Call) (k:Nat):State×Nat:=
 let i:=z01 (fo st k) c.name
 let s1:=if ZJ st c.folder then YR st k c.user else st
 z4b (yJ s1 k) k i c.name ⟨0,false,c.user,c.data⟩
def z2s (st:State) (c:Call) (k:Nat):Res:=
 if yW st k c.user < 2 then (st,ZF 40,false) else match z01 (fo st k) c.name with
 | none=>if 32<=(fo st k).items.length then (st,ZF 3,false) else ((z1r st c k).1,YO (z1r st c k).2,true)
 | some j=>if 256<=(ZX (fo st k) j).versions.length then (st,ZF 3,false) else ((z1r st c k).1,YO (z1r st c k).2,true)
def z2p (st:State) (c:Call) (k:Nat):Res:=
 if yW st k c.user < 2 then (st,ZF 40,false) else match z01 (fo st k) c.name with
 | none=>(st,ZF 35,false)
 | some j=>if !z09 (ZX (fo st k) j) then (st,ZF 35,false) else if 256<=(ZX (fo st k) j).versions.length then (st,ZF 3,false)
  else ((z4b st k (some j) c.name ⟨0,true,c.user,[]⟩).1,YO (z4b st k (some j) c.name ⟨0,true,c.user,[]⟩).2,true)
open Classical in
noncomputable def grantedB (st:State) (u f it:Nm) (n:Int):Bool:=decide (z3u st u f it n)
open Classical in
noncomputable def reachN (st:State) (u f:Nm):Int:=if h:∃n,IsReach st u f n then Classical.choose h else 0
def z75 (s:Nm):List Nm->List Nm
 | []=>[s]
 | x :: r=>if ltS s x then s :: x :: r else x :: z75 s r
def zEe (l:List Nm):List Nm:=l.foldl (fun a s=>z75 s a) []
noncomputable def z4x (st:State) (c:Call) (k:Nat):Answer:=match z01 (fo st k) c.name with
 | none=>ZF 35
 | some j=>
  let x:=ZX (fo st k) j
  let n:Int:=if c.version=0 then x.versions.length else c.version
  match x.versions[(n - 1).toNat]? with
  | none=>ZF 35
  | some v=>if v.gone then ZF 35 else if !grantedB st c.user c.folder c.name n then ZF 40 else ⟨0,n,v.who,v.data,[],[],[]⟩
def z0z:List Version->Int->List Past
 | [],_=>[]
 | v :: r,n=>⟨n,v.epoch,v.gone,v.who⟩ :: z0z r (n+1)
noncomputable def z4n (st:State) (c:Call) (k:Nat):Bool:=decide (((fo st k).epochs.length:Int)<=reachN st c.user c.folder)
noncomputable def z6j (st:State) (c:Call) (k:Nat):Answer:=if !z4n st c k then ZF 40 else ⟨0,0,⟨#[]⟩,[],zEe (((fo st k).items.filter z09).map Item.name),[],[]⟩
noncomputable def z1c (st:State) (c:Call) (k:Nat):Answer:=if !z4n st c k then ZF 40 else match z01 (fo st k) c.name with
 | none=>ZF 35
 | some j=>⟨0,0,⟨#[]⟩,[],[],[],z0z (ZX (fo st k) j).versions 1⟩
def zHi (st:State) (k:Nat):Answer:=⟨0,(zH (fo st k)).seq,⟨#[]⟩,[],[],(zH (fo st k)).members,[]⟩
def z98 (st:State) (c:Call):Bool:=st.deposits.any fun p=>decide (p.frm=c.user) && decide (p.to=c.other)
def z1d (st:State) (c:Call):Res:=if z98 st c then (st,ZF 42,false) else ({ st with deposits:=st.deposits++[⟨c.user,c.other⟩] },YO 0,true)
def lostS (st:State) (s:Nm) (b:Bool):State:=match Y6 st s with
 | none=>st
 | some u=>{ st with users:=st.users.modify u fun x=>{ x with lost:=b } }
def z99 (st:State) (c:Call):Res:=(lostS st c.user true,YO 0,true)
def zI6 (st:State) (s:Nm):Bool:=match Y6 st s with
 | none=>false
 | some u=>((st.users[u]?).map User.lost).getD false
def z0h (st:State) (c:Call):Res:=if !z98 st c then (st,ZF 35,false) else if zI6 st c.other then (st,ZF 20,false) else (lostS st c.user false,YO 0,true)
noncomputable def doR (st:State) (c:Call):Res:=
 let k:=(Z3 st c.folder).getD 0
 if c.kind=1 then YS st c
 else if c.kind=2 then YH st c
 else if c.kind=3 then z2o st c k
 else if c.kind=4 then z0m st c k
 else if c.kind=5\/c.kind=6\/c.kind=7 then Y2 st c k
 else if c.kind=8 then z2s st c k
 else if c.kind=9 then (st,z4x st c k,false)
 else if c.kind=10 then (st,z6j st c k,false)
 else if c.kind=11 then z2p st c k
 else if c.kind=12 then (st,z1c st c k,false)
 else if c.kind=14 then z1d st c
 else if c.kind=15 then z99 st c
 else if c.kind=16 then z0h st c
 else (st,zHi st k,false)
noncomputable def yY (st:State) (c:Call) (late:Bool):Res:=if ZV st c late≠0 then (st,ZF (ZV st c late),false) else doR st c
section
inductive ClR {α:Type} (E:List (α×α)) (S:List α):α->Prop
 | seed {x:α}:x∈S->ClR E S x
 | step {a b:α}:ClR E S a->(a,b)∈E->ClR E S b
theorem ClR.closed {α:Type} {E:List (α×α)} {S:List α} (P:α->Prop) (h0:∀x∈S,P x) (hS:∀e∈E,P e.1->P e.2) {x:α} (r:ClR E S x):P x:=by
 induction r with
 | seed h=>exact h0 _ h
 | step _ hm ih=>exact hS _ hm ih
structure Cl {α:Type} (E:List (α×α)) (S l:List α) (i:Nat):Prop where
 ext:∃x,l=S++x/\x.Nodup/\∀y∈x,y∈E.map (·.2)
 sound:∀y∈l,ClR E S y
 done:∀(k:Nat) y,k < i->l[k]? =some y->∀z,(y,z)∈E->z∈l
section
variable {α:Type} {E:List (α×α)} {S l:List α} {i:Nat}
theorem Cl.start (E:List (α×α)) (S:List α):Cl E S S 0:=⟨⟨[],by simp,List.nodup_nil,fun y h=>by cases h⟩,fun y h=> .seed h,fun k y hk=>by omega⟩
theorem Cl.len (h:Cl E S l i):l.length<=S.length+E.length:=by
 obtain ⟨_,rfl,h2,h3⟩:=h.ext;have:=z7y h2 h3;rw [qLmx] at this;rw [qLax];omega
theorem Cl.add (h:Cl E S l i) {y z:α} (hy:y∈l) (he:(y,z)∈E) (hz:z∉l) (hi:i<=l.length):Cl E S (l++[z]) i:=by
 obtain ⟨x,h1,h2,h3⟩:=h.ext;refine ⟨⟨x++[z],by rw [h1,List.append_assoc],List.nodup_append.2 ⟨h2,by simp,fun a ha b hb=>?_⟩,fun a ha=>?_⟩,fun a ha=>?_,fun k a hk ha b hb=>?_⟩
 ·obtain rfl:b=z:=by simpa using hb
  exact fun e=>hz (by rw [h1];exact List.mem_append_right _ (e▸ha))
 ·rcases zmb ha with ha | ha
  ·exact h3 a ha
  rw [zml ha];exact List.mem_map.2 ⟨_,he,rfl⟩
 ·rcases zmb ha with ha | ha
  ·exact h.sound a ha
  rw [zml ha];exact .step (h.sound y hy) he
 rw [qLlx (by omega)] at ha;exact List.mem_append_left _ (h.done k a hk ha b hb)
theorem Cl.next (h:Cl E S l i) {y:α} (hy:l[i]? =some y) (hd:∀z,(y,z)∈E->z∈l):Cl E S l (i+1):=
 ⟨h.ext,h.sound,fun k a hk ha b hb=>by
  rcases Nat.lt_or_ge k i with h1 | h1
  ·exact h.done k a h1 ha b hb
  ·obtain rfl:k=i:=by omega
   obtain rfl:=zsi (hy.symm.trans ha);exact hd b hb⟩
theorem Cl.all (h:Cl E S l i) (hi:l.length<=i) (x:α):x∈l↔ClR E S x:=by
 refine ⟨h.sound x,fun r=>r.closed (·∈l) (fun y hy=>?_) fun e he h1=>?_⟩
 ·obtain ⟨_,rfl,_,_⟩:=h.ext;exact List.mem_append_left _ hy
 obtain ⟨k,hk⟩:=List.getElem?_of_mem h1;have:=(zge hk).1;exact h.done k _ (by omega) hk _ he
end
def z8n (l:List Pair):List (Nm×Nm):=l.map fun p=>(p.frm,p.to)
def z7p (l:List Pair):List (Nm×Nm):=l.map fun p=>(p.to,p.frm)
theorem zJ4 (l:List Pair):(z8n l).length=l.length:=by simp [z8n]
theorem zDu (l:List Pair):(z7p l).length=l.length:=by simp [z7p]
theorem z9p {l:List Pair} {a b:Nm}:(a,b)∈z8n l↔∃p∈l,p.frm=a/\p.to=b:=by
 unfold z8n;rw [List.mem_map];simp only [Prod.mk.injEq]
theorem z9q {l:List Pair} {a b:Nm}:(a,b)∈z7p l↔∃p∈l,p.to=a/\p.frm=b:=by
 unfold z7p;rw [List.mem_map];simp only [Prod.mk.injEq]
def z05 (st:State) (c:List At):List Nm:=c.flatMap fun x=>(zH ((zP st x.name).getD yH)).members.map Member.name
def zBc (st:State) (fo:Nm) (x:Nm):Prop:=ClR (z8n st.deposits) (z05 st (zN st 4 fo)) x
end
section
open Go.RowKit Go.Deep
theorem z4o {α:Type} {p:α->Bool} {l:List α} {k:Nat} {x:α} (h:∀y∈l.take k,p y=false) (hx:l[k]? =some x) (hp:p x=true):l.findIdx? p=some k:=by
 obtain ⟨hk,rfl⟩:=zge hx;refine List.findIdx?_eq_some_iff_getElem.2 ⟨hk,hp,fun j hj=>?_⟩;have:=h l[j] (List.mem_take_iff_getElem.2 ⟨j,by omega,rfl⟩);simp [this]
theorem z7k {α:Type} {p:α->Bool} {l:List α} (h:∀y∈l,p y=false):l.findIdx? p=none:=List.findIdx?_eq_none_iff.2 h
theorem z65 {o:Option Nat} {k:Nat} (h:o=some k):iOf o=(k:Int):=by rw [h];rfl
theorem z67 {o:Option Nat} (h:o=none):iOf o= -1:=by rw [h];rfl
theorem zO9 (s:Nm) (B:Nat) (x:User) (cs:List Value) (w:World) (S:Nat->Prop) (h:z0s S w cs x) (hB:w.cell? ⟨B,0,none⟩=some (.string s)):
  Calls Tryz.prog 124 #[.agg cs.toArray,.pointer (some ⟨B,0,none⟩)] w fun e w'=>e= .returned (.bool (isU s x))/\Below w.heap.size w w':=by
 obtain ⟨rfl,_⟩:=z7w h;have hBl:=zF hB;have E:=zh (yV (a:=x.name) (b:=s));go_enter Tryz.func124,Tryz.ntmps124
 go_wp2;go_ret;exact ⟨ZM E.out,by go_grown⟩
theorem zLy (s:Nm) (B:Nat) (l:List User) (v:Value) (w:World) (S:Nat->Prop) (h:Sl 2 z0s S w v l) (hB:w.cell? ⟨B,0,none⟩=some (.string s)):
  Calls Tryz.prog 123 #[v,.func (.func 124) #[] #[.pointer (some ⟨B,0,none⟩)]] w fun e w'=>e= .returned (.int .i64 (iOf (l.findIdx? (isU s))))/\Below w.heap.size w w':=by
 have HB:=zh hB;clear hB;obtain ⟨_,_,rfl,_,hc,_,hs⟩:=h;unfold maxLen at hc;go_enter Tryz.func123,Tryz.ntmps123
 go_wp2;go_loopw [8] (fun i wr=>∃(k:Nat),k<=l.length/\i= .int .i64 k/\Hid (∀y∈l.take k,isU s y=false)/\Below w.heap.size w wr) (fun i _=>l.length - (intOf i).toNat)
 case atStart=>exact ⟨0,by omega,by go_num,(fun y hy=>by simp at hy),by go_grown⟩
 obtain ⟨k,_,rfl,HN,hbel⟩:=hrel;have hz:=hbel.size;by_cases hlt:k < l.length
 rotate_left
 ·obtain rfl:k=l.length:=by omega
  have EH:=zh (z67 (z7k (p:=isU s) (l:=l) (by have:=HN.out;rwa [qLnx] at this)));go_wp2;go_ret;exact ⟨ZB EH.out.symm,hbel⟩
 obtain ⟨x,_,_,x_k,x_d,_,rfl,_,_,_,_,x_R,_⟩:=zQ2 hs hlt (zK hbel);have HX:=zh x_k;clear x_k x_d;go_wp2_with fail
 refine zcm (zO9 s B x _ _ S x_R ((hbel.cell (p:=⟨B,0,none⟩) (zF HB.out)).trans HB.out)) ?_;rintro e _ ⟨rfl,hb1⟩;cases hpx:isU s x
 ·have EH:=zh (z0l HN.out HX.out hpx);go_wp2;go_roundw
  case rel=>exact ⟨k+1,by omega,by go_num,EH,zB hbel hb1⟩
  case measure=>exact qMx
 have EH:=zh (z65 (z4o HN.out HX.out hpx));go_wp2;go_ret;exact ⟨ZB EH.out.symm,zB hbel hb1⟩
theorem zOa (s:Nm) (B:Nat) (x:Folder) (cs:List Value) (w:World) (S:Nat->Prop) (h:ZG S w cs x) (hB:w.cell? ⟨B,0,none⟩=some (.string s)):
  Calls Tryz.prog 156 #[.agg cs.toArray,.pointer (some ⟨B,0,none⟩)] w fun e w'=>e= .returned (.bool (isF s x))/\Below w.heap.size w w':=by
 obtain ⟨_,_,_,_,_,_,_,_,_,_,rfl,_,_,_,_,_,_,_,_,_,_,_,_,_,_,_,_,_,_,_,_,_,_⟩:=Z2 h;have hBl:=zF hB;have E:=zh (yV (a:=x.name) (b:=s));go_enter Tryz.func156,Tryz.ntmps156
 go_wp2;go_ret;exact ⟨ZM E.out,by go_grown⟩
theorem zI7 (s:Nm) (B:Nat) (l:List Folder) (v:Value) (w:World) (S:Nat->Prop) (h:Sl 7 ZG S w v l) (hB:w.cell? ⟨B,0,none⟩=some (.string s)):
  Calls Tryz.prog 121 #[v,.func (.func 156) #[] #[.pointer (some ⟨B,0,none⟩)]] w fun e w'=>e= .returned (.int .i64 (iOf (l.findIdx? (isF s))))/\Below w.heap.size w w':=by
 have HB:=zh hB;clear hB;obtain ⟨_,_,rfl,_,hc,_,hs⟩:=h;unfold maxLen at hc;go_enter Tryz.func121,Tryz.ntmps121
 go_wp2;go_loopw [8] (fun i wr=>∃(k:Nat),k<=l.length/\i= .int .i64 k/\Hid (∀y∈l.take k,isF s y=false)/\Below w.heap.size w wr) (fun i _=>l.length - (intOf i).toNat)
 case atStart=>exact ⟨0,by omega,by go_num,(fun y hy=>by simp at hy),by go_grown⟩
 obtain ⟨k,_,rfl,HN,hbel⟩:=hrel;have hz:=hbel.size;by_cases hlt:k < l.length
 rotate_left
 ·obtain rfl:k=l.length:=by omega
  have EH:=zh (z67 (z7k (p:=isF s) (l:=l) (by have:=HN.out;rwa [qLnx] at this)));go_wp2;go_ret;exact ⟨ZB EH.out.symm,hbel⟩
 obtain ⟨x,_,_,_,_,_,_,_,_,_,_,_,_,x_k,x_d,_,rfl,_,_,_,_,_,_,_,_,_,x_R,_,_,_,_,_,_,_,_,_,_,_,_,_,_,_,_,_,_,_,_,_,_⟩:=z4s hs hlt (zK hbel);have HX:=zh x_k;clear x_k x_d;go_wp2_with fail
 refine zcm (zOa s B x _ _ S x_R ((hbel.cell (p:=⟨B,0,none⟩) (zF HB.out)).trans HB.out)) ?_;rintro e _ ⟨rfl,hb1⟩;cases hpx:isF s x
 ·have EH:=zh (z0l HN.out HX.out hpx);go_wp2;go_roundw
  case rel=>exact ⟨k+1,by omega,by go_num,EH,zB hbel hb1⟩
  case measure=>exact qMx
 have EH:=zh (z65 (z4o HN.out HX.out hpx));go_wp2;go_ret;exact ⟨ZB EH.out.symm,zB hbel hb1⟩
theorem zOb (s:Nm) (B:Nat) (x:Item) (cs:List Value) (w:World) (S:Nat->Prop) (h:YB S w cs x) (hB:w.cell? ⟨B,0,none⟩=some (.string s)):
  Calls Tryz.prog 176 #[.agg cs.toArray,.pointer (some ⟨B,0,none⟩)] w fun e w'=>e= .returned (.bool (isI s x))/\Below w.heap.size w w':=by
 obtain ⟨_,_,rfl,_,_,_,_,_⟩:=z4h h;have hBl:=zF hB;have E:=zh (yV (a:=x.name) (b:=s));go_enter Tryz.func176,Tryz.ntmps176
 go_wp2;go_ret;exact ⟨ZM E.out,by go_grown⟩
theorem zLz (s:Nm) (B:Nat) (l:List Item) (v:Value) (w:World) (S:Nat->Prop) (h:Sl 2 YB S w v l) (hB:w.cell? ⟨B,0,none⟩=some (.string s)):
  Calls Tryz.prog 167 #[v,.func (.func 176) #[] #[.pointer (some ⟨B,0,none⟩)]] w fun e w'=>e= .returned (.int .i64 (iOf (l.findIdx? (isI s))))/\Below w.heap.size w w':=by
 have HB:=zh hB;clear hB;obtain ⟨_,_,rfl,_,hc,_,hs⟩:=h;unfold maxLen at hc;go_enter Tryz.func167,Tryz.ntmps167
 go_wp2;go_loopw [8] (fun i wr=>∃(k:Nat),k<=l.length/\i= .int .i64 k/\Hid (∀y∈l.take k,isI s y=false)/\Below w.heap.size w wr) (fun i _=>l.length - (intOf i).toNat)
 case atStart=>exact ⟨0,by omega,by go_num,(fun y hy=>by simp at hy),by go_grown⟩
 obtain ⟨k,_,rfl,HN,hbel⟩:=hrel;have hz:=hbel.size;by_cases hlt:k < l.length
 rotate_left
 ·obtain rfl:k=l.length:=by omega
  have EH:=zh (z67 (z7k (p:=isI s) (l:=l) (by have:=HN.out;rwa [qLnx] at this)));go_wp2;go_ret;exact ⟨ZB EH.out.symm,hbel⟩
 obtain ⟨x,_,_,_,_,x_k,x_d,_,rfl,_,_,_,_,x_R,_,_,_,_,_⟩:=z5a hs hlt (zK hbel);have HX:=zh x_k;clear x_k x_d;go_wp2_with fail
 refine zcm (zOb s B x _ _ S x_R ((hbel.cell (p:=⟨B,0,none⟩) (zF HB.out)).trans HB.out)) ?_;rintro e _ ⟨rfl,hb1⟩;cases hpx:isI s x
 ·have EH:=zh (z0l HN.out HX.out hpx);go_wp2;go_roundw
  case rel=>exact ⟨k+1,by omega,by go_num,EH,zB hbel hb1⟩
  case measure=>exact qMx
 have EH:=zh (z65 (z4o HN.out HX.out hpx));go_wp2;go_ret;exact ⟨ZB EH.out.symm,zB hbel hb1⟩
end
section
open Go.RowKit Go.Deep
def z6t (st:State) (s:Nm):List Member:=(zH ((zP st s).getD yH)).members
theorem zKj {st:State} {c:List At} {k:Nat} {x:At} (hx:c[k]? =some x):z05 st (c.take (k+1))=z05 st (c.take k)++(z6t st x.name).map Member.name:=by
 rw [qLtx,hx];simp [z05,z6t]
theorem zTk {f:Folder}:zH f=zE3\/zH f∈f.manifests:=by
 unfold zH;rcases h:f.manifests.getLast? with _ | m
 ·exact .inl rfl
 exact .inr (List.mem_of_getLast? h)
theorem z7q {st:State} (h:Small st) (s:Nm):(z6t st s).length<=20/\∀m∈z6t st s,m.name.size<=20:=by
 unfold z6t
 cases hf:zP st s with
 | none=>exact ⟨Nat.zero_le _,fun m hm=>by cases hm⟩
 | some f=>
  rcases zTk (f:=f) with e | e
  ·rw [Option.getD_some,e];exact ⟨Nat.zero_le _,fun m hm=>by cases hm⟩
  have:=(h.short f (z08 hf)).man _ e;exact ⟨this.2.1,this.2.2⟩
theorem z9r {st:State} (h:Small st):∀c:List At,(z05 st c).length<=20*c.length
 | []=>by simp [z05]
 | x :: c=>by
  have:=z9r h c;have h2:=(z7q h x.name).1;unfold z6t at h2;simp only [z05,List.flatMap_cons,qLax,qLmx,List.length_cons] at this⊢;omega
theorem zKk {st:State} (h:Small st) {c:List At} {x:Nm} (hx:x∈z05 st c):x.size<=1000:=by
 unfold z05 at hx;obtain ⟨a,_,h2⟩:=List.mem_flatMap.1 hx;obtain ⟨m,h3,rfl⟩:=List.mem_map.1 h2;have:=(z7q h a.name).2 m h3;omega
theorem zPr {st:State} (h:Small st) {c:List At} {x:Nm} (hx:ClR (z8n st.deposits) (z05 st c) x):x.size<=1000:=by
 refine hx.closed (fun x=>x.size<=1000) (fun y hy=>zKk h hy) fun e he _=>?_
 obtain ⟨_,_⟩:=e;obtain ⟨p,hp,_,rfl⟩:=z9p.1 he;have:=(h.pairs p hp).2;dsimp only;omega
theorem zAy {l:List Pair} {q:Nat} {p:Pair} (hp:l[q]? =some p) {y:Nm} {P:Nm->Prop} (h:∀r∈l.take q,r.frm=y->P r.to) (k:p.frm=y->P p.to):∀r∈l.take (q+1),r.frm=y->P r.to:=by
 rw [qLtx,hp];intro r hr e;rcases zmb hr with hr | hr
 ·exact h r hr e
 obtain rfl:r=p:=by simpa using hr
 exact k e
theorem zN6 (a b c:Nm) (x y:Int) (g:Bool) (v u:Value) (w:World):(Instr.field 84 (.agg #[.string a,.int .i64 x,v,.string b,u,.int .i64 y,.bool g,.string c]) 4).run Tryz.prog w= .ok u w:=by kernel_rfl
theorem zUq {w w0 wq W:World} (h0:w.heap.size<=w0.heap.size) (hq:Below w0.heap.size w0 wq) (hW:Below w0.heap.size w0 W):∀b,b < w.heap.size->W.heap[b]? =wq.heap[b]? :=fun b hb=>(hW.block b (zll hb h0)).trans (hq.block b (zll hb h0)).symm
end
end Go.Proofs.YtdggplhnfhcieaaGreatDoor
