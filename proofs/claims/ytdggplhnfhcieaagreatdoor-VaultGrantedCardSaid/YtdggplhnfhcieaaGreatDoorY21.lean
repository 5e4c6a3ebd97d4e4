/- Part 21 of the proof of vaultGranted_holds. No condition. -/
import Derived.Test.YtdggplhnfhcieaaGreatDoorY16
import Derived.Test.YtdggplhnfhcieaaGreatDoorY20
set_option linter.unusedVariables false
set_option linter.unusedSimpArgs false
set_option linter.unusedSectionVars false
set_option maxRecDepth 100000
namespace Go.Proofs.YtdggplhnfhcieaaGreatDoor
section
open Go.RowKit Go.Deep
def z7o (st:State) (s:Nm):Int:=(zL ((zV st s).getD yX)).cut
def z18 (st:State):List At->List At->Bool
 | w :: ws,x :: xs=>if w.name=x.name then (if w.seq < z7o st x.name then true else z18 st ws xs) else true
 | _,_=>false
def Y8 (st:State) (name:Nm):Bool:=match zV st name with
 | none=>false
 | some f=>match f.epochs.getLast? with
  | none=>false
  | some e=>if e.chain.length=(zN st 4 name).length then z18 st e.chain (zN st 4 name) else true
theorem z6w {st:State} {s:Nm} (h:zV st s=none):Y8 st s=false:=by rw [Y8,h]
theorem z7p {st:State} {s:Nm} {f:Folder} (h:zV st s=some f) (h2:f.epochs.length=0):Y8 st s=false:=by
 rw [Y8,h]
 dsimp only
 rw [List.eq_nil_of_length_eq_zero h2]
 rfl
theorem z6x {st:State} {s:Nm} {f:Folder} {e:Epoch} {n:Nat} (h:zV st s=some f) (h2:f.epochs.length=n+1) (h3:f.epochs[n]? =some e):Y8 st s=if e.chain.length=(zN st 4 s).length then z18 st e.chain (zN st 4 s) else true:=by
 rw [Y8,h]
 dsimp only
 rw [List.getLast?_eq_getElem?,h2,Nat.add_sub_cancel,h3]
theorem z3q {st:State} {x:At}:∀{n:Nat} {s:Nm},x∈zN st n s->∃f,zV st x.name=some f
 | 0,_,h=>by cases h
 | n+1,s,h=>by
  cases hf:zV st s with
  | none=>rw [z2b hf] at h;cases h
  | some f=>
   rw [z1f hf] at h
   rcases List.mem_cons.1 h with rfl | h
   ·exact ⟨f,hf⟩
   ·exact z3q h
theorem zH6 {st:State} (a:List At):z18 st a []=false:=by cases a<;>rfl
theorem zIz {st:State} {a b:List At} {k:Nat} {y x:At} (ha:a[k]? =some y) (hb:b[k]? =some x):z18 st (a.drop k) (b.drop k)=if y.name=x.name then (if y.seq < z7o st x.name then true else z18 st (a.drop (k+1)) (b.drop (k+1))) else true:=by
 obtain ⟨h1,h2⟩:=zge ha
 obtain ⟨h3,h4⟩:=zge hb
 rw [List.drop_eq_getElem_cons h1,List.drop_eq_getElem_cons h3,h2,h4,z18]
theorem zL7 (a b c:Nm) (x y:Int) (g:Bool) (v u:Value) (w:World):(Instr.field 84 (.agg #[.string a,.int .i64 x,v,.string b,u,.int .i64 y,.bool g,.string c]) 5).run Tryz.prog w= .ok (.int .i64 y) w:=by kernel_rfl
set_option maxHeartbeats 8000000 in
theorem zE5 (st:State) (name:Nm) (hnm:name.size<=140737488355328) (cs:List Value) (w:World) (S:Nat->Prop) (h:ZX S w cs st):Calls Tryz.prog 144 #[.agg cs.toArray,.string name] w fun e w'=>e= .returned (.bool (Y8 st name))/\Below w.heap.size w w':=by
 have HR:=zh h
 obtain ⟨st_A1,st_c1,st_A2,st_c2,st_A3,st_c3,rfl,_,_,_,_,st_users_s,_,_,_,st_deposits_s,_,_,_,st_folders_s⟩:=ZL h
 obtain ⟨w0,hw0,cw0,fw0,Bw0,qw0⟩:=zO w #[.int .i64 st.turn,.slice st_A1 st.users.length st_c1,.slice st_A2 st.deposits.length st_c2,.slice st_A3 st.folders.length st_c3] 34
 have HB0:=zh Bw0
 have HC0:=zh cw0
 have HST:=zh fun W (hW:Below w0.heap.size w0 W)=>zR HR.out (zH (zB HB0.out hW))
 have s0:=cw0 0 _ rfl
 have s1:=cw0 1 _ rfl
 have s2:=cw0 2 _ rfl
 have s3:=cw0 3 _ rfl
 clear cw0 fw0 Bw0 st_users_s st_deposits_s st_folders_s
 go_enter Tryz.func144,Tryz.ntmps144
 go_wp2_with fail
 clear hw0 s0 s1 s2 s3
 refine zcm (z61 st name _ w0 S (HST.out _ zbr)) ?_
 rintro e w2 ⟨⟨_,rfl,hf⟩,B2⟩
 obtain ⟨f,hfe⟩:∃f,(zV st name).getD yX=f:=⟨_,rfl⟩
 rw [hfe] at hf
 have HFR:=zh hf
 obtain ⟨f_A2,f_c2,f_A3,f_c3,f_A4,f_c4,f_A5,f_c5,f_A6,f_c6,rfl,_,_,_,_,_,f_manifests_s,_,_,f_epochs_n,f_epochs_s,_,_,_,f_items_s,_,_,_,f_wraps_s,_,_,_,f_links_s⟩:=Z5 hf
 obtain ⟨w3,hw3,cw3,fw3,Bw3,qw3⟩:=zO w2 #[.string f.name,.int .i64 f.turn,.slice f_A2 f.manifests.length f_c2,.slice f_A3 f.epochs.length f_c3,.slice f_A4 f.items.length f_c4,.slice f_A5 f.wraps.length f_c5,.slice f_A6 f.links.length f_c6] 74
 have HC3:=zh cw3
 have HB23:=zh Bw3
 have HB3:=zh (zB B2 Bw3)
 have d3:=cw3 3 _ rfl
 have hq2:w.heap.size < w2.heap.size:=zll qw0 B2.size
 clear cw3 fw3 Bw3 B2 f_manifests_s f_items_s f_wraps_s f_links_s
 cases hF:zV st name with
 | none=>
  have HE:=zh (z6w hF)
  simp only [Option.isSome_none]
  clear hF hfe
  go_wp2
  go_ret
  exact ⟨by rw [HE.out];rfl,zB HB0.out HB3.out⟩
 | some f'=>
 have HFF:=zh (show zV st name=some f by rw [hF] at hfe;rw [<-hfe,hF];rfl)
 simp only [Option.isSome_some]
 clear hF hfe
 rcases Nat.eq_zero_or_pos f.epochs.length with hz | hz
 ·have HE:=zh (z7p HFF.out hz)
  have hzd:((f.epochs.length:Int)==0)=true:=by simp [hz]
  clear hz
  go_wp2
  go_ret
  exact ⟨by rw [HE.out];rfl,zB HB0.out HB3.out⟩
 have hzd:((f.epochs.length:Int)==0)=false:=beq_eq_false_iff_ne.2 (by omega)
 obtain ⟨n,hn⟩:∃n,f.epochs.length=n+1:=⟨f.epochs.length - 1,by omega⟩
 obtain ⟨e,he⟩:∃e,f.epochs[n]? =some e:=⟨_,List.getElem?_eq_getElem (by omega)⟩
 have HSB:=zh (z6x HFF.out hn he)
 obtain ⟨be,oe,_,hA,_,hRe,hcz⟩:=SlAt.elem f_epochs_s he (by decide) HB23.out
 obtain ⟨e_A3,e_c3,rfl,_,_,_,e_chain_l,e_chain_m,e_chain_n,e_chain_s,_⟩:=z2l hRe
 have u3:=hcz 3 _ rfl
 subst hA
 have hw1:IntKind.i64.wrap (n:Int)=(n:Int):=IntWalk.i64_in _ (by have:=f_epochs_n;omega)
 have hni:(n:Int) < (n:Int)+1:=by omega
 have HSQ:=zh (show ∀W:World,Below w3.heap.size w3 W->(fun W:World=>(W.cell? ⟨w.heap.size,0,none⟩=some (.int .i64 st.turn)/\W.cell? ⟨w.heap.size,1,none⟩=some (.slice st_A1 st.users.length st_c1)/\W.cell? ⟨w.heap.size,2,none⟩=some (.slice st_A2 st.deposits.length st_c2)/\W.cell? ⟨w.heap.size,3,none⟩=some (.slice st_A3 st.folders.length st_c3))/\W.cell? ⟨w2.heap.size,3,none⟩=some (.slice (some ⟨be,oe,none⟩) (n+1) f_c3)/\W.cell? ⟨be,oe+n*5+3,none⟩=some (.slice e_A3 e.chain.length e_c3)) W from fun W hW=>by
  have c:=fun j v (hj:(#[.int .i64 st.turn,.slice st_A1 st.users.length st_c1,.slice st_A2 st.deposits.length st_c2,.slice st_A3 st.folders.length st_c3]:Array Value)[j]? =some v)=>((zB HB3.out hW).cell (p:=⟨w.heap.size,j,none⟩) qw0).trans (HC0.out j v hj)
  exact ⟨⟨c 0 _ rfl,c 1 _ rfl,c 2 _ rfl,c 3 _ rfl⟩,by rw [<-hn];exact (hW.cell (p:=⟨w2.heap.size,3,none⟩) qw3).trans (HC3.out 3 _ rfl),(hW.cell (p:=⟨be,oe+n*5+3,none⟩) (zF u3)).trans u3⟩)
 have HCH:=zh (Sl.keep Z8 (by decide) (show Sl 2 rAt S w2 (.slice e_A3 e.chain.length e_c3) e.chain from ⟨_,_,rfl,e_chain_l,e_chain_m,e_chain_n,e_chain_s⟩) (zH HB23.out))
 have hcl:e.chain.length<=140737488355328:=e_chain_n
 rw [hn] at hw3 d3
 go_wp2
 clear hn hz hzd he hcz hw3 d3 u3
 have HS:=HSQ.out
 refine zE (by kernel_rfl) HS (fun hHeld=>?_)
 refine zi 0 ?_
 iterate 11 (refine zt _ rfl (by kernel_rfl) rfl (fun _ _ _ h=>h) hHeld (by intro W' h;go_simp;try with_reducible rfl) ?_;simp only [zA])
 refine zo ?_
 refine zr 11 (by kernel_rfl) rfl (fun K hK=>?_)
 go_simp
 go_at_call 67
 refine zcm (zL6 st name hnm _ _ S (HST.out _ (zB HB3.out zbr.drew))) ?_
 rintro _ w5 ⟨⟨_,rfl,hs5⟩,b5⟩
 have B5:=zh (show Below w3.heap.size w3 w5 from zB zbr.drew b5)
 clear b5 hHeld
 refine hK.out _ _ (HS _ B5.out) (fun hHeld=>?_)
 clear hK K
 have HS5:=zh hs5
 clear hs5
 refine zi 12 ?_
 iterate 2 (refine zt _ rfl (by kernel_rfl) rfl (fun _ _ _ h=>h) hHeld (by intro W' h;go_simp;try with_reducible rfl) ?_;simp only [zA])
 refine zo ?_
 refine wpAnyH_done (by kernel_rfl) ?_ _
 clear hHeld HS
 obtain ⟨now,hnow⟩:∃now,zN st 4 name=now:=⟨_,rfl⟩
 have HNOW:=zh hnow
 rw [hnow] at HS5 HSB
 have hn4:now.length<=4:=by rw [<-hnow];exact z2z _ _ _
 clear hnow
 obtain ⟨_,_,rfl,_,hc5,_,hs5⟩:=HS5.out
 unfold maxLen at hc5
 by_cases hlen:e.chain.length=now.length
 rotate_left
 ·rw [if_neg hlen] at HSB
  have hld:((e.chain.length:Int)==(now.length:Int))=false:=beq_eq_false_iff_ne.2 (by omega)
  clear hlen
  go_wp2
  go_ret
  exact ⟨by rw [HSB.out];rfl,zB HB0.out (zB HB3.out B5.out)⟩
 rw [if_pos hlen] at HSB
 have HLEN:=zh hlen
 have hld:((e.chain.length:Int)==(now.length:Int))=true:=beq_iff_eq.2 (by omega)
 have HCH5:=zh (HCH.out.keep Z8 (by decide) (zH B5.out))
 have B05:=zh (zB HB3.out B5.out)
 clear hlen
 go_wp2
 clear hld
 go_loopw [46] (fun i wr=>∃k:Nat,k<=now.length/\i= .int .i64 k/\Hid (z18 st (e.chain.drop k) (now.drop k)=Y8 st name)/\Below w5.heap.size w5 wr) (fun i _=>now.length - (RowKit.intOf i).toNat)
 case atStart=>exact ⟨0,by omega,by go_num,(by show _=_;rw [HSB.out];rfl),Below.refl _ _⟩
 obtain ⟨k,_,rfl,HG,hbel⟩:=hrel
 have B0r:=zh (zB B05.out hbel)
 by_cases hlt:k < now.length
 rotate_left
 ·obtain rfl:k=now.length:=by omega
  have HE:=zh (show Y8 st name=false by rw [<-HG.out,List.drop_length,zH6])
  go_wp2
  go_ret
  exact ⟨by rw [HE.out];rfl,zB HB0.out B0r.out⟩
 obtain ⟨x,hx⟩:∃x,now[k]? =some x:=⟨_,List.getElem?_eq_getElem hlt⟩
 obtain ⟨y,hy⟩:∃y,e.chain[k]? =some y:=⟨_,List.getElem?_eq_getElem (by have:=HLEN.out;omega)⟩
 have HST2:=zh (zIz (st:=st) hy hx)
 obtain ⟨_,_,_,hAx,_,hRx,hcx⟩:=SlAt.elem hs5 hx (by decide) hbel
 obtain ⟨_,_,hAw',-,-,-,hsw⟩:=HCH5.out
 cases hAw'
 obtain ⟨bw,ow,_,hAw,_,hRw,hcw⟩:=SlAt.elem hsw hy (by decide) hbel
 obtain ⟨rfl,x_name_le,_⟩:=z41 hRx
 obtain ⟨rfl,_,_⟩:=z41 hRw
 have u0:=hcx 0 _ rfl
 have u1:=hcx 1 _ rfl
 have v0:=hcw 0 _ rfl
 have v1:=hcw 1 _ rfl
 rw [Nat.add_zero] at u0 v0
 subst hAx
 subst hAw
 have hki:(k:Int) < (now.length:Int):=by omega
 have hki2:(k:Int) < (e.chain.length:Int):=by have:=HLEN.out;omega
 have hxn:x.name.size<=140737488355328:=x_name_le
 obtain ⟨w6,hw6,cw6,fw6,Bw6,qw6⟩:=zO wr #[.string x.name,.int .i64 x.seq] 124
 have HC6:=zh cw6
 have HB6:=zh (zB hbel Bw6)
 have HB06:=zh (zB B0r.out Bw6)
 have x0:=cw6 0 _ rfl
 have HBW6:=zh Bw6
 have c:=fun j v (hj:(#[.int .i64 st.turn,.slice st_A1 st.users.length st_c1,.slice st_A2 st.deposits.length st_c2,.slice st_A3 st.folders.length st_c3]:Array Value)[j]? =some v)=>(HB06.out.cell (p:=⟨w.heap.size,j,none⟩) qw0).trans (HC0.out j v hj)
 have s0:=c 0 _ rfl
 have s1:=c 1 _ rfl
 have s2:=c 2 _ rfl
 have s3:=c 3 _ rfl
 clear c hx hy hcx hcw cw6 fw6 Bw6
 go_wp2_with fail
 clear hw6 s0 s1 s2 s3 x0
 refine zcm (z61 st x.name _ w6 S (HST.out _ HB06.out)) ?_
 rintro _ w7 ⟨⟨_,rfl,hg⟩,b7⟩
 have HCUT:=zh (show z7o st x.name=(zL ((zV st x.name).getD yX)).cut from rfl)
 obtain ⟨g,hge⟩:∃g,(zV st x.name).getD yX=g:=⟨_,rfl⟩
 rw [hge] at hg HCUT
 obtain ⟨_,hok7⟩:∃b,(zV st x.name).isSome=b:=⟨_,rfl⟩
 rw [hok7]
 have HGR:=zh hg
 obtain ⟨g_A2,g_c2,g_A3,g_c3,g_A4,g_c4,g_A5,g_c5,g_A6,g_c6,rfl,_,_,_,_,_,_,_,_,_,_,_,_,_,_,_,_,_,_,_,_,_,_⟩:=Z5 hg
 obtain ⟨w8,_,cw8,fw8,Bw8,qw8⟩:=zO w7 #[.string g.name,.int .i64 g.turn,.slice g_A2 g.manifests.length g_c2,.slice g_A3 g.epochs.length g_c3,.slice g_A4 g.items.length g_c4,.slice g_A5 g.wraps.length g_c5,.slice g_A6 g.links.length g_c6] 74
 have HC8:=zh cw8
 have B68:=zh (zB b7 Bw8)
 have B78:=zh Bw8
 have B58:=zh (zB HB6.out B68.out)
 by_cases hne:y.name=x.name
 rotate_left
 ·have HEND:=zh (show Y8 st name=true by rw [<-HG.out,HST2.out,if_neg hne])
  have hse:(y.name.toList==x.name.toList)=false:=z1e hne
  have x0:=(B68.out.cell (p:=⟨wr.heap.size,0,none⟩) qw6).trans (HC6.out 0 _ rfl)
  have q0:=((zB HBW6.out B68.out).cell (p:=⟨bw,ow+k*2,none⟩) (zF v0)).trans v0
  clear hne b7 hge hok7 cw8 fw8 Bw8
  go_wp2
  go_quiet (fail)
  go_wp2
  go_ret
  exact ⟨by rw [HEND.out];rfl,ZR (zB HB0.out (zB B05.out B58.out)) _⟩
 have HNE:=zh hne
 have hse:(x.name.toList==x.name.toList)=true:=by simp
 have HS8:=zh (show ∀W:World,Below w8.heap.size w8 W->(fun W:World=>W.cell? ⟨wr.heap.size,0,none⟩=some (.string x.name)/\W.cell? ⟨bw,ow+k*2,none⟩=some (.string x.name)/\W.cell? ⟨bw,ow+k*2+1,none⟩=some (.int .i64 y.seq)/\W.cell? ⟨w7.heap.size,0,none⟩=some (.string g.name)/\W.cell? ⟨w7.heap.size,1,none⟩=some (.int .i64 g.turn)/\W.cell? ⟨w7.heap.size,2,none⟩=some (.slice g_A2 g.manifests.length g_c2)/\W.cell? ⟨w7.heap.size,3,none⟩=some (.slice g_A3 g.epochs.length g_c3)/\W.cell? ⟨w7.heap.size,4,none⟩=some (.slice g_A4 g.items.length g_c4)/\W.cell? ⟨w7.heap.size,5,none⟩=some (.slice g_A5 g.wraps.length g_c5)/\W.cell? ⟨w7.heap.size,6,none⟩=some (.slice g_A6 g.links.length g_c6)) W from fun W hW=>by
  have c:=fun j v (hj:(#[.string g.name,.int .i64 g.turn,.slice g_A2 g.manifests.length g_c2,.slice g_A3 g.epochs.length g_c3,.slice g_A4 g.items.length g_c4,.slice g_A5 g.wraps.length g_c5,.slice g_A6 g.links.length g_c6]:Array Value)[j]? =some v)=>(hW.cell (p:=⟨w7.heap.size,j,none⟩) qw8).trans (HC8.out j v hj)
  have b:=zB HBW6.out (zB B68.out hW)
  refine ⟨((zB B68.out hW).cell (p:=⟨wr.heap.size,0,none⟩) qw6).trans (HC6.out 0 _ rfl),(b.cell (p:=⟨bw,ow+k*2,none⟩) (zF v0)).trans (by rw [v0,HNE.out]),(b.cell (p:=⟨bw,ow+k*2+1,none⟩) (zF v1)).trans v1,c 0 _ rfl,c 1 _ rfl,c 2 _ rfl,c 3 _ rfl,c 4 _ rfl,c 5 _ rfl,c 6 _ rfl⟩)
 have HNW:=zh fun W hW=>z4q g _ W S (Z0 HGR.out (zH hW))
 clear hne b7 hge hok7 cw8 fw8 Bw8 v0 v1
 go_wp2
 have HS:=HS8.out
 refine zE (by kernel_rfl) HS (fun hHeld=>?_)
 refine zi 0 ?_
 iterate 10 (refine zt _ rfl (by kernel_rfl) rfl (fun _ _ _ h=>h) hHeld (by intro W' h;go_simp;try with_reducible rfl) ?_;simp only [zA])
 refine zo ?_
 refine zi 12 ?_
 iterate 5 (refine zt _ rfl (by kernel_rfl) rfl (fun _ _ _ h=>h) hHeld (by intro W' h;go_simp;try with_reducible rfl) ?_;simp only [zA])
 refine zo ?_
 refine zr 10 (by kernel_rfl) rfl (fun K hK=>?_)
 go_simp
 go_at_call 120
 refine zcm (HNW.out _ (zB B78.out zbr.drew)) ?_
 rintro _ w9 ⟨⟨_,rfl,hm⟩,b9⟩
 have B9:=zh (show Below w8.heap.size w8 w9 from zB zbr.drew b9)
 clear b9 hHeld
 obtain ⟨m,hme⟩:∃m,zL g=m:=⟨_,rfl⟩
 rw [hme] at hm
 have HCUT2:=zh (show z7o st x.name=m.cut by rw [HCUT.out,hme])
 clear hme
 obtain ⟨m_A2,m_c2,m_A4,m_c4,rfl,_,_,_,_,_,m_prev_s,_,_,_,_,m_members_s,_,_⟩:=yO hm
 have hfd:=zL7 m.folder m.parent m.who m.seq m.cut m.gone (.slice m_A2 m.prev.length m_c2) (.slice m_A4 m.members.length m_c4)
 refine hK.out _ _ (HS _ B9.out) (fun hHeld=>?_)
 clear hK K m_prev_s m_members_s
 refine zT 11 _ rfl (by kernel_rfl) rfl (fun _ _ _ h=>h) hHeld (by intro W' h;go_simp;try with_reducible rfl) ?_
 simp only [zA]
 refine zi 17 ?_
 iterate 2 (refine zt _ rfl (by kernel_rfl) rfl (fun _ _ _ h=>h) hHeld (by intro W' h;go_simp;try with_reducible rfl) ?_;simp only [zA])
 refine zo ?_
 refine wpAnyH_done (by kernel_rfl) ?_ _
 clear hHeld HS
 have HB9:=zh (zB B58.out B9.out)
 by_cases hct:y.seq < m.cut
 ·have hcd:decide (y.seq < m.cut)=true:=decide_eq_true hct
  rw [hcd]
  have HEND:=zh (show Y8 st name=true by rw [<-HG.out,HST2.out,if_pos HNE.out,HCUT2.out,if_pos hct])
  clear hct hcd
  go_wp2
  go_ret
  exact ⟨by rw [HEND.out];rfl,zB HB0.out (zB B05.out HB9.out)⟩
 have hcd:decide (y.seq < m.cut)=false:=decide_eq_false hct
 rw [hcd]
 have HEND:=zh (show z18 st (e.chain.drop (k+1)) (now.drop (k+1))=Y8 st name by rw [<-HG.out,HST2.out,if_pos HNE.out,HCUT2.out,if_neg hct])
 clear hct hcd
 go_wp2
 go_roundw
 case rel=>
  have HF:∃j':Nat,j'<=now.length/\Value.int .i64 ((k:Int)+1)= .int .i64 j'/\Hid (z18 st (e.chain.drop j') (now.drop j')=Y8 st name)/\Below w5.heap.size w5 w9:=⟨k+1,by omega,by go_num,HEND,HB9.out⟩
  first | exact HF | ((repeat apply Exists.intro);refine ⟨HF,?_⟩;first | rfl | ((repeat' apply And.intro)<;>rfl) | (simp;(repeat' apply And.intro)<;>first | rfl | (have:=HLEN.out;omega)))
 case measure=>simp [RowKit.intOf];omega
end
section
open Go.RowKit Go.Deep
def YQ (st:State) (s:Nm):Int:=match st.folders.findIdx? (isF s) with
 | some k=>k
 | none=> -1
theorem z5k {st:State} {s:Nm} {k:Nat} {x:Folder} (h:∀y∈st.folders.take k,isF s y=false) (hx:st.folders[k]? =some x) (hp:isF s x=true):YQ st s=k:=by
 have hk:=zge hx
 have hk1:=hk.1
 have:st.folders.findIdx? (isF s)=some k:=by
  rw [List.findIdx?_eq_some_iff_getElem]
  refine ⟨hk.1,by rw [hk.2];exact hp,fun j hj=>?_⟩
  rw [Bool.not_eq_true]
  refine h _ ?_
  exact zmg (i:=j) (by rw [List.getElem?_take,if_pos hj,List.getElem?_eq_getElem (by omega)])
 rw [YQ,this]
theorem zFo {st:State} {s:Nm} (h:∀y∈st.folders,isF s y=false):YQ st s= -1:=by
 have:st.folders.findIdx? (isF s)=none:=by rw [List.findIdx?_eq_none_iff];exact h
 rw [YQ,this]
theorem z3j {st:State} {s:Nm} {f:Folder} (h:zV st s=some f):∃k:Nat,YQ st s=k/\st.folders[k]? =some f:=by
 obtain ⟨hp,a,_,hl,hn⟩:=List.find?_eq_some_iff_append.1 h
 have hk:st.folders[a.length]? =some f:=by rw [hl,List.getElem?_append_right (znl _),Nat.sub_self];rfl
 refine ⟨a.length,z5k (fun y hy=>?_) hk hp,hk⟩
 rw [hl,List.take_left] at hy
 simpa [isF] using hn y hy
theorem z5l {st:State} {s:Nm} (h:zV st s=none):YQ st s= -1:=zFo fun y hy=>by
 have:=List.find?_eq_none.1 h y hy
 simpa [isF] using this
set_option maxHeartbeats 2000000 in
theorem z3k (st:State) (s:Nm) (cs:List Value) (w:World) (S:Nat->Prop) (h:ZX S w cs st):Calls Tryz.prog 21 #[.agg cs.toArray,.string s] w fun e w'=>e= .returned (.int .i64 (YQ st s))/\Below w.heap.size w w':=by
 obtain ⟨st_A1,st_c1,st_A2,st_c2,st_A3,st_c3,rfl,_,_,_,_,st_users_s,_,_,_,st_deposits_s,_,_,_,st_folders_s⟩:=ZL h
 obtain ⟨_,hw0,cw0,fw0,Bw0,_⟩:=zO w #[.int .i64 st.turn,.slice st_A1 st.users.length st_c1,.slice st_A2 st.deposits.length st_c2,.slice st_A3 st.folders.length st_c3] 34
 have HB0:=zh Bw0
 have b3:=cw0 3 _ rfl
 clear cw0 fw0 Bw0 st_users_s st_deposits_s
 go_enter Tryz.func21,Tryz.ntmps21
 go_wp2
 clear hw0
 go_loop [5] (fun i=>∃k:Nat,k<=st.folders.length/\i= .int .i64 k/\Hid (∀y∈st.folders.take k,isF s y=false)) (fun i=>st.folders.length - (RowKit.intOf i).toNat)
 case atStart=>exact ⟨0,by omega,by go_num,fun y hy=>by simp at hy⟩
 obtain ⟨k,_,rfl,HN⟩:=hrel
 by_cases hlt:k < st.folders.length
 rotate_left
 ·obtain rfl:k=st.folders.length:=by omega
  rw [List.take_length] at HN
  go_wp2
  go_ret
  exact ⟨by rw [zFo HN.out];rfl,HB0.out⟩
 obtain ⟨x,hx⟩:∃x,st.folders[k]? =some x:=⟨_,List.getElem?_eq_getElem hlt⟩
 obtain ⟨_,_,_,hA,_,hRx,hcz⟩:=SlAt.elem st_folders_s hx (by decide) HB0.out
 obtain ⟨_,_,_,_,_,_,_,_,_,_,rfl,_,_,_,_,_,x_manifests_s,_,_,_,x_epochs_s,_,_,_,x_items_s,_,_,_,x_wraps_s,_,_,_,x_links_s⟩:=Z5 hRx
 have u0:=hcz 0 _ rfl
 rw [Nat.add_zero] at u0
 subst hA
 have hki:(k:Int) < (st.folders.length:Int):=by omega
 have HX:=zh hx
 clear hcz hx x_manifests_s x_epochs_s x_items_s x_wraps_s x_links_s
 by_cases hnm:x.name=s
 ·have hse:(x.name.toList==s.toList)=true:=by rw [hnm];simp
  have HF:=zh (z5k HN.out HX.out (show isF s x=true by unfold isF;exact decide_eq_true hnm))
  clear hnm
  go_wp2
  go_ret
  exact ⟨by rw [HF.out];rfl,HB0.out⟩
 have hse:(x.name.toList==s.toList)=false:=z1e hnm
 have HF:=zh (z0c HN.out HX.out (show isF s x=false by unfold isF;exact decide_eq_false hnm))
 clear hnm
 go_wp2
 go_round
 case rel=>exact ⟨k+1,by omega,by go_num,HF⟩
 case measure=>simp [RowKit.intOf];omega
theorem z8p {w:World} {pb:Nat} {T:TypeId} {z0 z1 z2 z3 z4 z5 z6 z7:Value} (h:w.heap[pb]? =some (.cells #[z0,z1,z2,z3,z4,z5,z6,z7] T (0,0))) (a0 a1 a2 a3 a4 a5 a6 a7:Value):
  ((((((((w.setCell ⟨pb,0,none⟩ a0).setCell ⟨pb,1,none⟩ a1).setCell ⟨pb,2,none⟩ a2).setCell ⟨pb,3,none⟩ a3).setCell ⟨pb,4,none⟩ a4).setCell ⟨pb,5,none⟩ a5).setCell ⟨pb,6,none⟩ a6).setCell ⟨pb,7,none⟩ a7).heap[pb]? =some (.cells #[a0,a1,a2,a3,a4,a5,a6,a7] T (0,0))/\ButB (fun x=>x=pb) w ((((((((w.setCell ⟨pb,0,none⟩ a0).setCell ⟨pb,1,none⟩ a1).setCell ⟨pb,2,none⟩ a2).setCell ⟨pb,3,none⟩ a3).setCell ⟨pb,4,none⟩ a4).setCell ⟨pb,5,none⟩ a5).setCell ⟨pb,6,none⟩ a6).setCell ⟨pb,7,none⟩ a7):=by
 have b0:ButB (fun x=>x=pb) w w:=ButB.refl _ _
 have h0:=zI (i:=0) (cs':=#[a0,z1,z2,z3,z4,z5,z6,z7]) a0 h rfl
 have b1:=b0.set ⟨pb,0,none⟩ a0 rfl
 generalize w.setCell ⟨pb,0,none⟩ a0=w1 at h0 b1⊢
 have h1:=zI (i:=1) (cs':=#[a0,a1,z2,z3,z4,z5,z6,z7]) a1 h0 rfl
 have b2:=b1.set ⟨pb,1,none⟩ a1 rfl
 generalize w1.setCell ⟨pb,1,none⟩ a1=w2 at h1 b2⊢
 have h2:=zI (i:=2) (cs':=#[a0,a1,a2,z3,z4,z5,z6,z7]) a2 h1 rfl
 have b3:=b2.set ⟨pb,2,none⟩ a2 rfl
 generalize w2.setCell ⟨pb,2,none⟩ a2=w3 at h2 b3⊢
 have h3:=zI (i:=3) (cs':=#[a0,a1,a2,a3,z4,z5,z6,z7]) a3 h2 rfl
 have b4:=b3.set ⟨pb,3,none⟩ a3 rfl
 generalize w3.setCell ⟨pb,3,none⟩ a3=w4 at h3 b4⊢
 have h4:=zI (i:=4) (cs':=#[a0,a1,a2,a3,a4,z5,z6,z7]) a4 h3 rfl
 have b5:=b4.set ⟨pb,4,none⟩ a4 rfl
 generalize w4.setCell ⟨pb,4,none⟩ a4=w5 at h4 b5⊢
 have h5:=zI (i:=5) (cs':=#[a0,a1,a2,a3,a4,a5,z6,z7]) a5 h4 rfl
 have b6:=b5.set ⟨pb,5,none⟩ a5 rfl
 generalize w5.setCell ⟨pb,5,none⟩ a5=w6 at h5 b6⊢
 have h6:=zI (i:=6) (cs':=#[a0,a1,a2,a3,a4,a5,a6,z7]) a6 h5 rfl
 have b7:=b6.set ⟨pb,6,none⟩ a6 rfl
 generalize w6.setCell ⟨pb,6,none⟩ a6=w7 at h6 b7⊢
 have h7:=zI (i:=7) (cs':=#[a0,a1,a2,a3,a4,a5,a6,a7]) a7 h6 rfl
 have b8:=b7.set ⟨pb,7,none⟩ a7 rfl
 exact ⟨h7,b8⟩
end
def zB9:Epoch:=⟨0,0,0,[],⟨#[]⟩⟩
def iOf:Option Nat->Int
 | some k=>k
 | none=> -1
def isU (s:Nm) (u:User):Bool:=decide (u.name=s)
def yR (st:State) (s:Nm):Option Nat:=st.users.findIdx? (isU s)
def foI (st:State) (s:Nm):Option Nat:=st.folders.findIdx? (isF s)
def fo (st:State) (k:Nat):Folder:=(st.folders[k]?).getD yX
def Z7 (st:State) (s:Nm):Option Nat:=match foI st s with
 | some k=>if (zL (fo st k)).gone then none else some k
 | none=>none
def yM (st:State) (k:Nat) (s:Nm):Int:=Ro.ofOf (zL (fo st k)).members s
def setF (st:State) (k:Nat) (f:Folder):State:={ st with folders:=st.folders.set k f }
def z3u (eps:List Epoch) (w:Wrap) (seed:Bool):Bool:=(w.seed && decide (YU eps w.epoch=YU eps eps.length)) || (!seed && decide (w.epoch=(eps.length:Int)))
def z24 (eps:List Epoch) (name:Nm) (seed:Bool):List Wrap->List Wrap
 | []=>[⟨name,eps.length,seed⟩]
 | w :: r=>if w.name=name then (if z3u eps w seed then w else ⟨name,eps.length,seed⟩) :: r
  else if ltS name w.name then ⟨name,eps.length,seed⟩ :: w :: r else w :: z24 eps name seed r
def yZ (f:Folder) (name:Nm) (seed:Bool):Folder:={ f with wraps:=z24 f.epochs name seed f.wraps }
def yD (sd:Member->Bool) (f:Folder) (ms:List Member):Folder:=ms.foldl (fun f m=>yZ f m.name (sd m)) f
def zD7 (f:Folder) (s:Nm):Bool:=f.links.any fun l=>decide (l.epoch=(f.epochs.length:Int)) && decide (l.to=s)
def z07 (st:State):List At->Folder->Folder
 | [],f=>f
 | x :: r,f=>if Y8 st x.name then z07 st r (yD (fun _=>false) f (zL ((zV st x.name).getD yX)).members)
  else if zD7 f x.name then f else { f with links:=f.links++[⟨f.epochs.length,x.name,((zV st x.name).getD yX).epochs.length⟩] }
def z05 (st:State) (k:Nat):State:=setF st k (z07 st ((zN st 4 (fo st k).name).drop 1) (fo st k))
def z7r (f:Folder) (frm:Int):Bool:=f.manifests.all fun m=>m.members.all fun x=>!(decide (frm<=m.seq) && (decide (2<=x.role) && decide (Ro.ofOf (zL f).members x.name=0)))
def z63 (st:State) (f:Folder) (who:Nm):Epoch:=
 if decide ((f.epochs.getLast?.getD zB9).place < 4) && z7r f (f.epochs.getLast?.getD zB9).frm then ⟨(f.epochs.getLast?.getD zB9).place+1,(f.epochs.getLast?.getD zB9).frm,(zL f).seq,zN st 4 f.name,who⟩
 else ⟨1,(zL f).seq,(zL f).seq,zN st 4 f.name,who⟩
def z4k (st:State) (k:Nat) (who:Nm):State:=
 setF st k (yD (fun x=>decide (2<=x.role)) { fo st k with epochs:=(fo st k).epochs++[z63 st (fo st k) who] } (zL (fo st k)).members)
def z0f (f:Folder) (m:Manifest) (who:Nm):Folder:={ f with manifests:=f.manifests++[{ m with seq:=(zL f).seq+1,who:=who }],turn:=f.turn+1 }
def inB (s:Nm) (f:Folder):Bool:=!(zL f).gone && decide ((zL f).parent=s)
def YE (st:State):Nat->Nm->Nat
 | 0,_=>1
 | n+1,s=>st.folders.foldl (fun m f=>if inB s f then max m (YE st n f.name) else m) 0+1
def YI (x:Item):Bool:=match x.versions.getLast? with
 | some v=>!v.gone
 | none=>false
def z0e (f:Folder) (s:Nm):Option Nat:=f.items.findIdx? (isI s)
def ZS (f:Folder) (j:Nat):Item:=(f.items[j]?).getD ⟨⟨#[]⟩,[]⟩
abbrev Res:=State×Answer×Bool
def ZD (e:Int):Answer:=⟨e,0,⟨#[]⟩,[],[],[],[]⟩
def YF (n:Int):Answer:=⟨0,n,⟨#[]⟩,[],[],[],[]⟩
def isE (s:Nm):Bool:=decide (s=⟨#[]⟩)
def ZT (st:State) (c:Call) (late:Bool):Int:=
 if c.kind=1 then 0 else match yR st c.user with
 | none=>41
 | some u=>if (((st.users[u]?).map User.lost).getD false && decide (c.kind≠16)) && !late then 20
  else if (!isE c.folder && decide (c.kind≠2)) && (Z7 st c.folder).isNone then 41
  else if !isE c.other && decide (c.kind=3) && (Z7 st c.other).isNone then 41
  else if !isE c.other && decide (3 < c.kind) && (yR st c.other).isNone then 41 else 0
def z0d (st:State) (c:Call):Res:=if (yR st c.user).isSome then (st,ZD 42,false) else if 16<=st.users.length then (st,ZD 3,false) else ({ st with users:=st.users++[⟨c.user,false⟩] },YF 0,true)
def z0g (st:State) (c:Call):Folder:=⟨c.folder,1,[⟨c.folder,1,[],c.other,[⟨c.user,4⟩],0,false,c.user⟩],[],[],[⟨c.user,1,true⟩],[]⟩
def z47 (st:State) (c:Call):State:=
 let s1:State:={ st with folders:=st.folders++[z0g st c] }
 let s2:=setF s1 st.folders.length { z0g st c with epochs:=[⟨1,1,1,zN s1 4 c.folder,c.user⟩] }
 let s3:=z05 s2 st.folders.length
 { s3 with turn:=s3.turn+1 }
def z1v (st:State) (c:Call):Int:=if isE c.other then 0 else match Z7 st c.other with
 | none=>41
 | some p=>if yM st p c.user < 2 then 40 else 0
def YL (st:State) (c:Call):Res:=
 if (foI st c.folder).isSome then (st,ZD 42,false) else if z1v st c≠0 then (st,ZD (z1v st c),false)
 else if 4<=(zN st 4 c.other).length\/64<=st.folders.length then (st,ZD 3,false) else (z47 st c,YF 1,true)
def z9c (st:State) (k:Nat) (c:Call):State:=
 let f:=fo st k
 let s1:=setF st k (z0f f { zL f with parent:=c.other,cut:=(zL f).seq+1 } c.user)
 let s2:=z05 s1 k
 { s2 with turn:=s2.turn+1 }
def z2q (st:State) (c:Call) (k:Nat):Res:=
 if yM st k c.user < 4\/(!isE c.other && (match Z7 st c.other with | some q=>decide (yM st q c.user < 2) | none=>false))=true then (st,ZD 40,false)
 else if (zL (fo st k)).parent=c.other then (st,YF (zL (fo st k)).seq,false)
 else if (zN st 4 c.other).any (fun x=>decide (x.name=c.folder)) then (st,ZD 43,false)
 else if 4 < (zN st 4 c.other).length+YE st 5 c.folder then (st,ZD 3,false)
 else (z9c st k c,YF ((zL (fo st k)).seq+1),true)
def z0t (st:State) (c:Call) (k:Nat):Res:=
 if yM st k c.user < 4 then (st,ZD 40,false)
 else if 1 < YE st 5 c.folder\/(fo st k).items.any YI=true then (st,ZD 47,false)
 else
  let s1:=setF st k (z0f (fo st k) { zL (fo st k) with gone:=true } c.user)
  ({ s1 with turn:=s1.turn+1 },YF ((zL (fo st k)).seq+1),true)
def yI (c:Call) (l:List Member):Int:=
 if c.kind=5 then Ro.shareE (Ro.ofOf l c.user) (Ro.ofOf l c.other) c.role l.length
 else if c.kind=6 then Ro.changeE (Ro.ofOf l c.user) (Ro.ofOf l c.other) c.role (Ro.own4 l)
 else Ro.revokeE (Ro.eqS c.user c.other) (Ro.ofOf l c.user) (Ro.ofOf l c.other) (Ro.own4 l)
def Y9 (st:State) (c:Call) (k:Nat):Res:=
 let f:=fo st k
 let m:=zL f
 if yI c m.members≠0 then (st,ZD (yI c m.members),false)
 else if Ro.ofOf m.members c.other=c.role then (st,YF m.seq,false)
 else
  let f1:=if c.kind=5\/(c.kind=6/\2<=c.role) then yZ f c.other (decide (2<=c.role)) else f
  (setF st k (z0f f1 { m with members:=Ro.withOf m.members c.other c.role,cut:=if c.kind=7 then m.seq+1 else m.cut } c.user),YF (m.seq+1),true)
def z64 (st:State) (k:Nat) (i:Option Nat) (name:Nm) (v:Version):State×Nat:=
 let f:=fo st k
 match i with
 | some j=>(setF st k { f with items:=f.items.set j { ZS f j with versions:=(ZS f j).versions++[{ v with epoch:=f.epochs.length }] },turn:=f.turn+1 },(ZS f j).versions.length+1)
 | none=>(setF st k { f with items:=f.items++[⟨name,[{ v with epoch:=f.epochs.length }]⟩],turn:=f.turn+1 },1)
def z5f (st:State) (c:Call) (k:Nat):State×Nat:=
 let i:=z0e (fo st k) c.name
 let s1:=if Y8 st c.folder then z4k st k c.user else st
 z64 (z05 s1 k) k i c.name ⟨0,false,c.user,c.data⟩
def z3x (st:State) (c:Call) (k:Nat):Res:=
 if yM st k c.user < 2 then (st,ZD 40,false) else match z0e (fo st k) c.name with
 | none=>if 32<=(fo st k).items.length then (st,ZD 3,false) else ((z5f st c k).1,YF (z5f st c k).2,true)
 | some j=>if 256<=(ZS (fo st k) j).versions.length then (st,ZD 3,false) else ((z5f st c k).1,YF (z5f st c k).2,true)
def z2r (st:State) (c:Call) (k:Nat):Res:=
 if yM st k c.user < 2 then (st,ZD 40,false) else match z0e (fo st k) c.name with
 | none=>(st,ZD 35,false)
 | some j=>if !YI (ZS (fo st k) j) then (st,ZD 35,false) else if 256<=(ZS (fo st k) j).versions.length then (st,ZD 3,false)
  else ((z64 st k (some j) c.name ⟨0,true,c.user,[]⟩).1,YF (z64 st k (some j) c.name ⟨0,true,c.user,[]⟩).2,true)
open Classical in
noncomputable def grantedB (st:State) (u f it:Nm) (n:Int):Bool:=decide (yY st u f it n)
open Classical in
noncomputable def reachN (st:State) (u f:Nm):Int:=if h:∃n,IsReach st u f n then Classical.choose h else 0
def z5o (s:Nm):List Nm->List Nm
 | []=>[s]
 | x :: r=>if ltS s x then s :: x :: r else x :: z5o s r
def zBa (l:List Nm):List Nm:=l.foldl (fun a s=>z5o s a) []
noncomputable def z2c (st:State) (c:Call) (k:Nat):Answer:=match z0e (fo st k) c.name with
 | none=>ZD 35
 | some j=>
  let x:=ZS (fo st k) j
  let n:Int:=if c.version=0 then x.versions.length else c.version
  match x.versions[(n - 1).toNat]? with
  | none=>ZD 35
  | some v=>if v.gone then ZD 35 else if !grantedB st c.user c.folder c.name n then ZD 40 else ⟨0,n,v.who,v.data,[],[],[]⟩
def z08:List Version->Int->List Past
 | [],_=>[]
 | v :: r,n=>⟨n,v.epoch,v.gone,v.who⟩ :: z08 r (n+1)
noncomputable def z3e (st:State) (c:Call) (k:Nat):Bool:=decide (((fo st k).epochs.length:Int)<=reachN st c.user c.folder)
noncomputable def z56 (st:State) (c:Call) (k:Nat):Answer:=if !z3e st c k then ZD 40 else ⟨0,0,⟨#[]⟩,[],zBa (((fo st k).items.filter YI).map Item.name),[],[]⟩
noncomputable def z0h (st:State) (c:Call) (k:Nat):Answer:=if !z3e st c k then ZD 40 else match z0e (fo st k) c.name with
 | none=>ZD 35
 | some j=>⟨0,0,⟨#[]⟩,[],[],[],z08 (ZS (fo st k) j).versions 1⟩
def zF5 (st:State) (k:Nat):Answer:=⟨0,(zL (fo st k)).seq,⟨#[]⟩,[],[],(zL (fo st k)).members,[]⟩
def z7s (st:State) (c:Call):Bool:=st.deposits.any fun p=>decide (p.frm=c.user) && decide (p.to=c.other)
def z21 (st:State) (c:Call):Res:=if z7s st c then (st,ZD 42,false) else ({ st with deposits:=st.deposits++[⟨c.user,c.other⟩] },YF 0,true)
def lostS (st:State) (s:Nm) (b:Bool):State:=match yR st s with
 | none=>st
 | some u=>{ st with users:=st.users.modify u fun x=>{ x with lost:=b } }
def z7t (st:State) (c:Call):Res:=(lostS st c.user true,YF 0,true)
def zFq (st:State) (s:Nm):Bool:=match yR st s with
 | none=>false
 | some u=>((st.users[u]?).map User.lost).getD false
def z0u (st:State) (c:Call):Res:=if !z7s st c then (st,ZD 35,false) else if zFq st c.other then (st,ZD 20,false) else (lostS st c.user false,YF 0,true)
noncomputable def doR (st:State) (c:Call):Res:=
 let k:=(Z7 st c.folder).getD 0
 if c.kind=1 then z0d st c
 else if c.kind=2 then YL st c
 else if c.kind=3 then z2q st c k
 else if c.kind=4 then z0t st c k
 else if c.kind=5\/c.kind=6\/c.kind=7 then Y9 st c k
 else if c.kind=8 then z3x st c k
 else if c.kind=9 then (st,z2c st c k,false)
 else if c.kind=10 then (st,z56 st c k,false)
 else if c.kind=11 then z2r st c k
 else if c.kind=12 then (st,z0h st c k,false)
 else if c.kind=14 then z21 st c
 else if c.kind=15 then z7t st c
 else if c.kind=16 then z0u st c
 else (st,zF5 st k,false)
noncomputable def yL (st:State) (c:Call) (late:Bool):Res:=if ZT st c late≠0 then (st,ZD (ZT st c late),false) else doR st c
section
inductive ClR {α:Type} (E:List (α×α)) (S:List α):α->Prop
 | seed {x:α}:x∈S->ClR E S x
 | step {a b:α}:ClR E S a->(a,b)∈E->ClR E S b
theorem ClR.closed {α:Type} {E:List (α×α)} {S:List α} (P:α->Prop) (h0:∀x∈S,P x) (hS:∀e∈E,P e.1->P e.2) {x:α} (r:ClR E S x):P x:=by
 induction r with
 | seed h=>exact h0 _ h
 | step _ hm ih=>exact hS _ hm ih
structure Cl {α:Type} (E:List (α×α)) (S l:List α) (i:Nat):Prop where
 ext:∃x,l=S++x/\x.Nodup/\∀y∈x,y∈E.map (·.2)
 sound:∀y∈l,ClR E S y
 done:∀(k:Nat) y,k < i->l[k]? =some y->∀z,(y,z)∈E->z∈l
section
variable {α:Type} {E:List (α×α)} {S l:List α} {i:Nat}
theorem Cl.start (E:List (α×α)) (S:List α):Cl E S S 0:=⟨⟨[],by simp,List.nodup_nil,fun y h=>by cases h⟩,fun y h=> .seed h,fun k y hk=>by omega⟩
theorem Cl.len (h:Cl E S l i):l.length<=S.length+E.length:=by
 obtain ⟨_,rfl,h2,h3⟩:=h.ext
 have:=z6g h2 h3
 rw [List.length_map] at this
 rw [List.length_append]
 omega
theorem Cl.add (h:Cl E S l i) {y z:α} (hy:y∈l) (he:(y,z)∈E) (hz:z∉l) (hi:i<=l.length):Cl E S (l++[z]) i:=by
 obtain ⟨x,h1,h2,h3⟩:=h.ext
 refine ⟨⟨x++[z],by rw [h1,List.append_assoc],List.nodup_append.2 ⟨h2,by simp,fun a ha b hb=>?_⟩,fun a ha=>?_⟩,fun a ha=>?_,fun k a hk ha b hb=>?_⟩
 ·obtain rfl:b=z:=by simpa using hb
  exact fun e=>hz (by rw [h1];exact List.mem_append_right _ (e▸ha))
 ·rcases zmb ha with ha | ha
  ·exact h3 a ha
  rw [zml ha]
  exact List.mem_map.2 ⟨_,he,rfl⟩
 ·rcases zmb ha with ha | ha
  ·exact h.sound a ha
  rw [zml ha]
  exact .step (h.sound y hy) he
 rw [List.getElem?_append_left (by omega)] at ha
 exact List.mem_append_left _ (h.done k a hk ha b hb)
theorem Cl.next (h:Cl E S l i) {y:α} (hy:l[i]? =some y) (hd:∀z,(y,z)∈E->z∈l):Cl E S l (i+1):=
 ⟨h.ext,h.sound,fun k a hk ha b hb=>by
  rcases Nat.lt_or_ge k i with h1 | h1
  ·exact h.done k a h1 ha b hb
  ·obtain rfl:k=i:=by omega
   obtain rfl:=zsi (hy.symm.trans ha)
   exact hd b hb⟩
theorem Cl.all (h:Cl E S l i) (hi:l.length<=i) (x:α):x∈l↔ClR E S x:=by
 refine ⟨h.sound x,fun r=>r.closed (·∈l) (fun y hy=>?_) fun e he h1=>?_⟩
 ·obtain ⟨_,rfl,_,_⟩:=h.ext
  exact List.mem_append_left _ hy
 obtain ⟨k,hk⟩:=List.getElem?_of_mem h1
 have:=(zge hk).1
 exact h.done k _ (by omega) hk _ he
end
def z6c (l:List Pair):List (Nm×Nm):=l.map fun p=>(p.to,p.frm)
theorem zAx (l:List Pair):(z6c l).length=l.length:=by simp [z6c]
theorem z89 {l:List Pair} {a b:Nm}:(a,b)∈z6c l↔∃p∈l,p.to=a/\p.frm=b:=by
 unfold z6c
 rw [List.mem_map]
 simp only [Prod.mk.injEq]
end
section
open Go.RowKit Go.Deep
theorem z8a {l:List Pair} {q:Nat} {p:Pair} (hp:l[q]? =some p) {y:Nm} {P:Nm->Prop} (h:∀r∈l.take q,r.to=y->P r.frm) (k:p.to=y->P p.frm):∀r∈l.take (q+1),r.to=y->P r.frm:=by
 rw [List.take_add_one,hp]
 intro r hr e
 rcases zmb hr with hr | hr
 ·exact h r hr e
 obtain rfl:r=p:=by simpa using hr
 exact k e
def z8b (l:List At) (s:Nm) (n:Int):Bool:=l.any fun x=>decide (x.name=s) && decide (x.seq=n)
theorem z3g {l:List At} {s:Nm} {n:Int}:z8b l s n=true↔(⟨s,n⟩:At)∈l:=by
 unfold z8b
 rw [List.any_eq_true]
 constructor
 ·rintro ⟨x,hx,h⟩
  obtain ⟨_,_⟩:=x
  simp only [Bool.and_eq_true,decide_eq_true_eq] at h
  obtain ⟨rfl,rfl⟩:=h
  exact hx
 intro h
 exact ⟨_,h,by simp⟩
set_option maxHeartbeats 2000000 in
theorem zDr (l:List At) (v:Value) (s:Nm) (n:Int) (w:World) (S:Nat->Prop) (h:Sl 2 rAt S w v l):Calls Tryz.prog 84 #[v,.string s,.int .i64 n] w fun e w'=>e= .returned (.bool (z8b l s n))/\w'=w:=by
 obtain ⟨_,_,rfl,_,hc,_,hs⟩:=h
 unfold maxLen at hc
 go_enter Tryz.func84,Tryz.ntmps84
 go_wp2
 go_loop [7] (fun i=>∃k:Nat,k<=l.length/\i= .int .i64 k/\Hid ((⟨s,n⟩:At)∉l.take k)) (fun i=>l.length - (RowKit.intOf i).toNat)
 case atStart=>exact ⟨0,by omega,by go_num,by simp [Hid]⟩
 obtain ⟨k,_,rfl,HK⟩:=hrel
 by_cases hlt:k < l.length
 rotate_left
 ·obtain rfl:k=l.length:=by omega
  have M:=zh (show z8b l s n=false by rw [<-Bool.not_eq_true,z3g];have:=HK.out;rwa [List.take_length] at this)
  go_wp2
  go_ret
  exact ⟨ZI M.out.symm,rfl⟩
 obtain ⟨x,hx⟩:∃x,l[k]? =some x:=⟨_,List.getElem?_eq_getElem hlt⟩
 obtain ⟨b,_,_,hA,_,hRx,hcz⟩:=SlAt.elem hs hx (by decide) zbr
 obtain ⟨rfl,_,_⟩:=z41 hRx
 have u0:=hcz 0 _ rfl
 have u1:=hcz 1 _ rfl
 rw [Nat.add_zero] at u0
 subst hA
 have hki:(k:Int) < (l.length:Int):=by omega
 have HX:=zh hx
 have HNEXT:(⟨s,n⟩:At)≠x->Hid ((⟨s,n⟩:At)∉l.take (k+1)):=fun hne=>by
  show _∉_
  rw [List.take_add_one,hx,List.mem_append]
  rintro (h | h)
  ·exact HK.out h
  ·exact hne (by simpa using h)
 clear hx hcz
 by_cases e1:x.name=s
 rotate_left
 ·have hse:(x.name.toList==s.toList)=false:=z1e e1
  have HK2:=HNEXT fun e=>e1 (by rw [<-e])
  clear e1 HNEXT
  go_wp2
  go_round
  case rel=>exact ⟨k+1,by omega,by go_num,HK2⟩
  case measure=>simp [RowKit.intOf];omega
 have hse:(x.name.toList==s.toList)=true:=by rw [e1];simp
 by_cases e2:x.seq=n
 ·have hne:(x.seq==n)=true:=by rw [e2];simp
  have M:=zh (show z8b l s n=true from z3g.2 (by have:=zmg HX.out;obtain ⟨_,b⟩:=x;dsimp only at e1 e2;rw [<-e1,<-e2];exact this))
  clear e1 e2 HNEXT
  go_wp2
  go_ret
  exact ⟨ZI M.out.symm,rfl⟩
 have hne:(x.seq==n)=false:=beq_eq_false_iff_ne.2 e2
 have HK2:=HNEXT fun e=>e2 (by rw [<-e])
 clear e1 e2 HNEXT
 go_wp2
 go_round
 case rel=>exact ⟨k+1,by omega,by go_num,HK2⟩
 case measure=>simp [RowKit.intOf];omega
set_option maxHeartbeats 8000000 in
theorem zHt (st:State) (hsm:Small st) (u:Nm) (hu:u.size<=1000) (cs:List Value) (w:World) (S:Nat->Prop) (h:ZX S w cs st):Calls Tryz.prog 82 #[.agg cs.toArray,.string u] w fun e w'=>(∃(v:Value) (L:List Nm),e= .returned v/\Sl 1 z2i (fun _=>True) w' v L/\(∀x,x∈L↔ClR (z6c st.deposits) [u] x)/\L.length<=1001)/\Below w.heap.size w w':=by
 have HSM:=zh hsm
 clear hsm
 obtain ⟨st_A1,st_c1,st_A2,st_c2,st_A3,st_c3,rfl,st_turn_ok,st_users_l,st_users_m,st_users_n,st_users_s,st_deposits_l,st_deposits_m,st_deposits_n,st_deposits_s,st_folders_l,st_folders_m,st_folders_n,st_folders_s⟩:=ZL h
 obtain ⟨w0,hw0,cw0,fw0,Bw0,qw0⟩:=zO w #[.int .i64 st.turn,.slice st_A1 st.users.length st_c1,.slice st_A2 st.deposits.length st_c2,.slice st_A3 st.folders.length st_c3] 34
 obtain ⟨w1,hw1,cw1,fw1,Bw1,qw1⟩:=zO w0 #[.string u] 9
 have HB0:=zh Bw0
 have HC0:=zh cw0
 have HBW:=zh Bw1
 have hb1:w1.heap[w0.heap.size]? =some (.cells #[.string u] 9 (0,0)):=by rw [<-hw1];exact zJ _ rfl
 have HG:=zh (show Grow 9 1 z2i (fun _=>False) w1 w0.heap.size (.slice (some ⟨w0.heap.size,0,none⟩) 1 1) [u] from Grow.one YK hb1 (znl _) rfl ⟨rfl,by omega⟩)
 have hd100:st.deposits.length<=1000:=by have:=HSM.out.all;omega
 have HCL:=zh (Cl.start (z6c st.deposits) [u])
 have hS80:[u].length<=80:=by simp
 have hbel:Below w0.heap.size w0 w1:=Bw1
 have HUB:=zh (Below.refl w0.heap.size w0)
 clear cw0 fw0 Bw0 cw1 fw1 Bw1 hb1 st_users_s st_folders_s
 obtain ⟨istring,histring,hzstring,h1string,h2string⟩:=info_parts (show (Tryz.prog.info? 9).map (fun i=>(i.zero,i.size,i.bytes))=some (some (.string ⟨#[]⟩),1,16) from by kernel_rfl)
 go_enter Tryz.func82,Tryz.ntmps82
 go_wp2
 clear hw0 hw1
 go_loopw [5,6] (fun vo i wr=>∃(q:Nat) (L:List Nm),q<=L.length/\i= .int .i64 q/\Hid (Grow 9 1 z2i (fun _=>False) wr w0.heap.size vo L)/\Hid (Cl (z6c st.deposits) [u] L q)/\Below w0.heap.size w0 wr) (fun _ i _=>1200 - (RowKit.intOf i).toNat)
 case atStart=>exact ⟨0,_,by omega,by go_num,HG,HCL,hbel⟩
 clear HG HCL hbel
 obtain ⟨wr3,rfl⟩:∃q,q=wr:=⟨_,rfl⟩
 obtain ⟨q,L,hq,rfl,HG,HCL,hbel⟩:=hrel
 have B0:=zh (hbel)
 obtain ⟨A6,n6,c6,rfl,hn6⟩:=HG.out.shape'
 have hLL:L.length<=1080:=by have:=HCL.out.len;rw [zAx] at this;omega
 have hz1:=hbel.size
 subst hn6
 by_cases hlt:q < L.length
 rotate_left
 ·obtain rfl:q=L.length:=by omega
  have HALL:=zh (HCL.out.all (znl _))
  have HLEN:=zh (show L.length<=1001 by have:=HCL.out.len;rw [zAx,List.length_singleton] at this;omega)
  have HSL:=zh (Own.sl YK HG.out)
  have HBF:=zh (zB HB0.out B0.out)
  clear HG
  go_wp2
  go_ret
  exact ⟨⟨_,L,rfl,HSL.out,HALL.out,HLEN.out⟩,HBF.out⟩
 obtain ⟨y,hy⟩:∃y,L[q]? =some y:=⟨_,List.getElem?_eq_getElem hlt⟩
 have HQ:=zh (show ∀r∈st.deposits.take 0,r.to=y->r.frm∈L from fun r hr=>by simp at hr)
 have HY:=zh hy
 clear hy
 go_wp2
 go_loopw [5,7] (fun vo i wr=>∃(d:Nat) (L':List Nm),d<=st.deposits.length/\i= .int .i64 d/\q < L'.length/\Hid (L'[q]? =some y)/\Hid (Grow 9 1 z2i (fun _=>False) wr w0.heap.size vo L')/\Hid (Cl (z6c st.deposits) [u] L' q)/\Hid (∀r∈st.deposits.take d,r.to=y->r.frm∈L')/\Below w0.heap.size w0 wr) (fun _ i _=>st.deposits.length - (RowKit.intOf i).toNat)
 case atStart=>exact ⟨0,L,by omega,by go_num,hlt,HY,HG,HCL,HQ,hbel⟩
 clear HQ HG HCL hbel hLL hlt hz1 B0 hq HY
 obtain ⟨wr4,rfl⟩:∃q,q=wr:=⟨_,rfl⟩
 obtain ⟨d,L',hd,rfl,hqL,HY,HG,HCL,HQ,hbel⟩:=hrel
 have B0:=zh (hbel)
 have hLL:L'.length<=1080:=by have:=HCL.out.len;rw [zAx] at this;omega
 have hz1:=hbel.size
 have s2:=(B0.out.cell (p:=⟨w.heap.size,2,none⟩) qw0).trans (HC0.out 2 _ rfl)
 obtain ⟨A7,c7,hv7,hl7,hc7,hn7,hs7⟩:=Own.sl YK HG.out
 subst hv7
 unfold maxLen at hc7
 by_cases hld:d < st.deposits.length
 rotate_left
 ·obtain rfl:d=st.deposits.length:=by omega
  have HN:=zh (HCL.out.next HY.out fun z hz=>by
   obtain ⟨p,hp,e1,e2⟩:=z89.1 hz
   subst e2
   exact HQ.out p (by rw [List.take_length];exact hp) e1)
  go_wp2
  go_roundw
  case rel=>exact ⟨q+1,L',by omega,by go_num,HG,HN,hbel⟩
  case measure=>simp [RowKit.intOf];omega
 obtain ⟨p,hp⟩:∃p,st.deposits[d]? =some p:=⟨_,List.getElem?_eq_getElem hld⟩
 obtain ⟨b,o,ys,hA,hbl,hRp,hcz⟩:=SlAt.elem st_deposits_s hp (by decide) (zB HB0.out B0.out)
 obtain ⟨y',by_,oy,hy',_,_,hA7,q0⟩:=zD6 hs7 hqL (Kept.refl wr4 fun _ h=>h)
 obtain rfl:y=y':=zsi (HY.out.symm.trans hy')
 obtain ⟨rfl,p_frm_le,p_to_le⟩:=z8i hRp
 have u0:=hcz 0 _ rfl
 have u1:=hcz 1 _ rfl
 rw [Nat.add_zero] at u0
 subst hA
 subst hA7
 have hdi:(d:Int) < (st.deposits.length:Int):=by omega
 have hqi:(q:Int) < (L'.length:Int):=by omega
 have HPL:=zh p_frm_le
 have HP:=zh hp
 have HSL:=zh (Own.sl YK HG.out)
 clear hp hy' hcz
 by_cases hfr:p.to=y
 rotate_left
 ·have hse:(p.to.toList==y.toList)=false:=z1e hfr
  have HQ2:=zh (z8a HP.out (P:=fun x=>x∈L') HQ.out fun e=>absurd e hfr)
  clear hfr
  go_wp2_with fail
  go_quiet (fail)
  go_wp2
  go_roundw
  case rel=>exact ⟨d+1,L',by omega,by go_num,hqL,HY,(HG.out.below YK (ZR zbr _)),HCL,HQ2,ZR hbel _⟩
  case measure=>simp [RowKit.intOf];omega
 have hse:(p.to.toList==y.toList)=true:=by rw [hfr];simp
 have HCN:=zh (fun nq=>zL4 L' _ p.frm (wr4.drewN nq) _ (HSL.out.keep YK (by decide) (zH (ZR zbr nq))))
 have HFR:=zh hfr
 clear hfr
 cases hmem:zAk L' p.frm with
 | true=>
  have HQ2:=zh (z8a HP.out (P:=fun x=>x∈L') HQ.out fun _=>z20.1 hmem)
  rw [hmem] at HCN
  clear hmem
  go_wp2_with fail
  go_quiet ((go_at_call 49;refine Calls.quiet_of_same (HCN.out _)))
  go_wp2
  go_roundw
  case rel=>exact ⟨d+1,L',by omega,by go_num,hqL,HY,(HG.out.below YK (ZR zbr _)),HCL,HQ2,ZR hbel _⟩
  case measure=>simp [RowKit.intOf];omega
 | false=>
  have HNM:=zh (show p.frm∉L' from fun hm=>by rw [z20.2 hm] at hmem;cases hmem)
  have HED:=zh (show (y,p.frm)∈z6c st.deposits from z89.2 ⟨p,zmg HP.out,HFR.out,rfl⟩)
  rw [hmem] at HCN
  clear hmem
  go_wp2_with fail
  go_quiet ((go_at_call 49;refine Calls.quiet_of_same (HCN.out _)))
  generalize hw7:wr4.drewN nq=w7
  have B67:Below wr4.heap.size wr4 w7:=by rw [<-hw7];exact ZR zbr _
  have HG7:=zh (HG.out.below YK B67)
  have u0':=(B67.cell (p:=⟨b,o+d*2,none⟩) (zF u0)).trans u0
  have s2':=(B67.cell (p:=⟨w.heap.size,2,none⟩) (zF s2)).trans s2
  have HB7:=zh (zB hbel B67)
  have hz7:w0.heap.size<=w7.heap.size:=HB7.out.size
  clear hw7 B67 u0 u1 s2 q0
  go_wp2_with (at_builtin;go_loud (refine YM (R:=z2i) _ _ rfl (.tmp 45) (.tmp 52) 45 rfl 9 istring _ 1 16 Tryz.underlying45 histring hzstring h1string h2string rfl (by decide) YK w0.heap.size hz7 _ _ rfl HG7.out _ _ rfl (by simp only [zS]) _ (by intro b hb;exact hb.elim) ⟨rfl,HPL.out⟩ (by omega) (by decide) ?_);intro v8 w8 g8 gg8 go8;obtain ⟨A8,n8,c8,rfl,hn8⟩:=g8.shape';have G8:=zh g8;have GG8:=zh gg8;clear hn8 g8 gg8 go8)
  go_roundw
  case rel=>exact ⟨d+1,L'++[p.frm],by omega,by go_num,by rw [List.length_append];omega,(zh (by rw [List.getElem?_append_left hqL];exact HY.out)),G8,(zh (HCL.out.add (zmg HY.out) HED.out HNM.out (by omega))),(zh (z8a HP.out (P:=fun x=>x∈L'++[p.frm]) (fun r hr e=>List.mem_append_left _ (HQ.out r hr e)) fun _=>List.mem_append_right _ (by simp))),Below.grown HB7.out GG8.out hz7 fun b hb=>(HG7.out.base_le b hb).1⟩
  case measure=>simp [RowKit.intOf];omega
end
section
open Go.RowKit Go.Deep
theorem z3y {α:Type} {p:α->Bool} {l:List α} {k:Nat} {x:α} (h:∀y∈l.take k,p y=false) (hx:l[k]? =some x) (hp:p x=true):l.findIdx? p=some k:=by
 obtain ⟨hk,rfl⟩:=zge hx
 refine List.findIdx?_eq_some_iff_getElem.2 ⟨hk,hp,fun j hj=>?_⟩
 have:=h l[j] (List.mem_take_iff_getElem.2 ⟨j,by omega,rfl⟩)
 simp [this]
theorem z65 {α:Type} {p:α->Bool} {l:List α} (h:∀y∈l,p y=false):l.findIdx? p=none:=List.findIdx?_eq_none_iff.2 h
theorem z4s {o:Option Nat} {k:Nat} (h:o=some k):iOf o=(k:Int):=by rw [h];rfl
theorem z4t {o:Option Nat} (h:o=none):iOf o= -1:=by rw [h];rfl
theorem zLa (s:Nm) (B:Nat) (x:User) (cs:List Value) (w:World) (S:Nat->Prop) (h:z01 S w cs x) (hB:w.cell? ⟨B,0,none⟩=some (.string s)):
  Calls Tryz.prog 124 #[.agg cs.toArray,.pointer (some ⟨B,0,none⟩)] w fun e w'=>e= .returned (.bool (isU s x))/\Below w.heap.size w w':=by
 obtain ⟨rfl,_⟩:=z8h h
 have hBl:=zF hB
 have E:=zh (yK (a:=x.name) (b:=s))
 go_enter Tryz.func124,Tryz.ntmps124
 go_wp2
 go_ret
 exact ⟨ZI E.out,by go_grown⟩
theorem zJ5 (s:Nm) (B:Nat) (l:List User) (v:Value) (w:World) (S:Nat->Prop) (h:Sl 2 z01 S w v l) (hB:w.cell? ⟨B,0,none⟩=some (.string s)):
  Calls Tryz.prog 123 #[v,.func (.func 124) #[] #[.pointer (some ⟨B,0,none⟩)]] w fun e w'=>e= .returned (.int .i64 (iOf (l.findIdx? (isU s))))/\Below w.heap.size w w':=by
 have HB:=zh hB
 clear hB
 obtain ⟨_,_,rfl,_,hc,_,hs⟩:=h
 unfold maxLen at hc
 go_enter Tryz.func123,Tryz.ntmps123
 go_wp2
 go_loopw [8] (fun i wr=>∃(k:Nat),k<=l.length/\i= .int .i64 k/\Hid (∀y∈l.take k,isU s y=false)/\Below w.heap.size w wr) (fun i _=>l.length - (RowKit.intOf i).toNat)
 case atStart=>exact ⟨0,by omega,by go_num,(fun y hy=>by simp at hy),by go_grown⟩
 obtain ⟨k,_,rfl,HN,hbel⟩:=hrel
 have hz:=hbel.size
 by_cases hlt:k < l.length
 rotate_left
 ·obtain rfl:k=l.length:=by omega
  have EH:=zh (z4t (z65 (p:=isU s) (l:=l) (by have:=HN.out;rwa [List.take_length] at this)))
  go_wp2
  go_ret
  exact ⟨Z9 EH.out.symm,hbel⟩
 obtain ⟨x,_,_,x_k,x_d,_,rfl,_,_,_,_,x_R,_⟩:=z5w hs hlt (zH hbel)
 have HX:=zh x_k
 clear x_k x_d
 go_wp2_with fail
 refine zcm (zLa s B x _ _ S x_R ((hbel.cell (p:=⟨B,0,none⟩) (zF HB.out)).trans HB.out)) ?_
 rintro e _ ⟨rfl,hb1⟩
 cases hpx:isU s x
 ·have EH:=zh (z0c HN.out HX.out hpx)
  go_wp2
  go_roundw
  case rel=>exact ⟨k+1,by omega,by go_num,EH,zB hbel hb1⟩
  case measure=>simp [RowKit.intOf];omega
 have EH:=zh (z4s (z3y HN.out HX.out hpx))
 go_wp2
 go_ret
 exact ⟨Z9 EH.out.symm,zB hbel hb1⟩
theorem zLb (s:Nm) (B:Nat) (x:Folder) (cs:List Value) (w:World) (S:Nat->Prop) (h:ZE S w cs x) (hB:w.cell? ⟨B,0,none⟩=some (.string s)):
  Calls Tryz.prog 156 #[.agg cs.toArray,.pointer (some ⟨B,0,none⟩)] w fun e w'=>e= .returned (.bool (isF s x))/\Below w.heap.size w w':=by
 obtain ⟨_,_,_,_,_,_,_,_,_,_,rfl,_,_,_,_,_,_,_,_,_,_,_,_,_,_,_,_,_,_,_,_,_,_⟩:=Z5 h
 have hBl:=zF hB
 have E:=zh (yK (a:=x.name) (b:=s))
 go_enter Tryz.func156,Tryz.ntmps156
 go_wp2
 go_ret
 exact ⟨ZI E.out,by go_grown⟩
theorem zFr (s:Nm) (B:Nat) (l:List Folder) (v:Value) (w:World) (S:Nat->Prop) (h:Sl 7 ZE S w v l) (hB:w.cell? ⟨B,0,none⟩=some (.string s)):
  Calls Tryz.prog 121 #[v,.func (.func 156) #[] #[.pointer (some ⟨B,0,none⟩)]] w fun e w'=>e= .returned (.int .i64 (iOf (l.findIdx? (isF s))))/\Below w.heap.size w w':=by
 have HB:=zh hB
 clear hB
 obtain ⟨_,_,rfl,_,hc,_,hs⟩:=h
 unfold maxLen at hc
 go_enter Tryz.func121,Tryz.ntmps121
 go_wp2
 go_loopw [8] (fun i wr=>∃(k:Nat),k<=l.length/\i= .int .i64 k/\Hid (∀y∈l.take k,isF s y=false)/\Below w.heap.size w wr) (fun i _=>l.length - (RowKit.intOf i).toNat)
 case atStart=>exact ⟨0,by omega,by go_num,(fun y hy=>by simp at hy),by go_grown⟩
 obtain ⟨k,_,rfl,HN,hbel⟩:=hrel
 have hz:=hbel.size
 by_cases hlt:k < l.length
 rotate_left
 ·obtain rfl:k=l.length:=by omega
  have EH:=zh (z4t (z65 (p:=isF s) (l:=l) (by have:=HN.out;rwa [List.take_length] at this)))
  go_wp2
  go_ret
  exact ⟨Z9 EH.out.symm,hbel⟩
 obtain ⟨x,_,_,_,_,_,_,_,_,_,_,_,_,x_k,x_d,_,rfl,_,_,_,_,_,_,_,_,_,x_R,_,_,_,_,_,_,_,_,_,_,_,_,_,_,_,_,_,_,_,_,_,_⟩:=z1r hs hlt (zH hbel)
 have HX:=zh x_k
 clear x_k x_d
 go_wp2_with fail
 refine zcm (zLb s B x _ _ S x_R ((hbel.cell (p:=⟨B,0,none⟩) (zF HB.out)).trans HB.out)) ?_
 rintro e _ ⟨rfl,hb1⟩
 cases hpx:isF s x
 ·have EH:=zh (z0c HN.out HX.out hpx)
  go_wp2
  go_roundw
  case rel=>exact ⟨k+1,by omega,by go_num,EH,zB hbel hb1⟩
  case measure=>simp [RowKit.intOf];omega
 have EH:=zh (z4s (z3y HN.out HX.out hpx))
 go_wp2
 go_ret
 exact ⟨Z9 EH.out.symm,zB hbel hb1⟩
theorem zLc (s:Nm) (B:Nat) (x:Item) (cs:List Value) (w:World) (S:Nat->Prop) (h:yV S w cs x) (hB:w.cell? ⟨B,0,none⟩=some (.string s)):
  Calls Tryz.prog 176 #[.agg cs.toArray,.pointer (some ⟨B,0,none⟩)] w fun e w'=>e= .returned (.bool (isI s x))/\Below w.heap.size w w':=by
 obtain ⟨_,_,rfl,_,_,_,_,_⟩:=z37 h
 have hBl:=zF hB
 have E:=zh (yK (a:=x.name) (b:=s))
 go_enter Tryz.func176,Tryz.ntmps176
 go_wp2
 go_ret
 exact ⟨ZI E.out,by go_grown⟩
theorem zJ6 (s:Nm) (B:Nat) (l:List Item) (v:Value) (w:World) (S:Nat->Prop) (h:Sl 2 yV S w v l) (hB:w.cell? ⟨B,0,none⟩=some (.string s)):
  Calls Tryz.prog 167 #[v,.func (.func 176) #[] #[.pointer (some ⟨B,0,none⟩)]] w fun e w'=>e= .returned (.int .i64 (iOf (l.findIdx? (isI s))))/\Below w.heap.size w w':=by
 have HB:=zh hB
 clear hB
 obtain ⟨_,_,rfl,_,hc,_,hs⟩:=h
 unfold maxLen at hc
 go_enter Tryz.func167,Tryz.ntmps167
 go_wp2
 go_loopw [8] (fun i wr=>∃(k:Nat),k<=l.length/\i= .int .i64 k/\Hid (∀y∈l.take k,isI s y=false)/\Below w.heap.size w wr) (fun i _=>l.length - (RowKit.intOf i).toNat)
 case atStart=>exact ⟨0,by omega,by go_num,(fun y hy=>by simp at hy),by go_grown⟩
 obtain ⟨k,_,rfl,HN,hbel⟩:=hrel
 have hz:=hbel.size
 by_cases hlt:k < l.length
 rotate_left
 ·obtain rfl:k=l.length:=by omega
  have EH:=zh (z4t (z65 (p:=isI s) (l:=l) (by have:=HN.out;rwa [List.take_length] at this)))
  go_wp2
  go_ret
  exact ⟨Z9 EH.out.symm,hbel⟩
 obtain ⟨x,_,_,_,_,x_k,x_d,_,rfl,_,_,_,_,x_R,_,_,_,_,_⟩:=z2m hs hlt (zH hbel)
 have HX:=zh x_k
 clear x_k x_d
 go_wp2_with fail
 refine zcm (zLc s B x _ _ S x_R ((hbel.cell (p:=⟨B,0,none⟩) (zF HB.out)).trans HB.out)) ?_
 rintro e _ ⟨rfl,hb1⟩
 cases hpx:isI s x
 ·have EH:=zh (z0c HN.out HX.out hpx)
  go_wp2
  go_roundw
  case rel=>exact ⟨k+1,by omega,by go_num,EH,zB hbel hb1⟩
  case measure=>simp [RowKit.intOf];omega
 have EH:=zh (z4s (z3y HN.out HX.out hpx))
 go_wp2
 go_ret
 exact ⟨Z9 EH.out.symm,zB hbel hb1⟩
end
def z6d (f:Folder):List (At×At):=(List.range (f.epochs.length - 1)).map fun i:Nat=>(⟨f.name,(i:Int)+2⟩,⟨f.name,(i:Int)+1⟩)
def z6e (f:Folder):List (At×At):=f.links.map fun x=>(⟨x.to,x.seq⟩,⟨f.name,x.epoch⟩)
def z0r (st:State):List (At×At):=(ZF Folder.name st.folders).flatMap fun f=>z6d f++z6e f
def z1k (S:List Nm) (f:Folder) (l:List Wrap):List At:=((ZF Wrap.name l).filter fun x=>zAk S x.name).map fun x=>⟨f.name,z1t f.epochs x⟩
def YA (S:List Nm) (l:List Folder):List At:=(ZF Folder.name l).flatMap fun f=>z1k S f f.wraps
def zOb (st:State) (S:List Nm) (x:At):Prop:=ClR (z0r st) (YA S st.folders) x
theorem z4l {f:Folder} {a b:At}:(a,b)∈z6d f↔a.name=f.name/\2<=a.seq/\a.seq<=f.epochs.length/\b=⟨f.name,a.seq - 1⟩:=by
 obtain ⟨_,aq⟩:=a
 unfold z6d
 rw [List.mem_map]
 constructor
 ·rintro ⟨_,hi,h⟩
  rw [List.mem_range] at hi
  rw [Prod.mk.injEq,At.mk.injEq] at h
  obtain ⟨⟨h1,h2⟩,h3⟩:=h
  refine ⟨h1.symm,by dsimp only;omega,by dsimp only;omega,?_⟩
  rw [<-h3]
  congr 1
  dsimp only
  omega
 rintro ⟨h1,h2,h3,rfl⟩
 dsimp only at h1 h2 h3⊢
 refine ⟨(aq - 2).toNat,by rw [List.mem_range];omega,?_⟩
 rw [Prod.mk.injEq,At.mk.injEq,At.mk.injEq]
 exact ⟨⟨h1.symm,by omega⟩,rfl,by omega⟩
theorem z4m {f:Folder} {a b:At}:(a,b)∈z6e f↔∃x∈f.links,x.to=a.name/\x.seq=a.seq/\b=⟨f.name,x.epoch⟩:=by
 obtain ⟨_,_⟩:=a
 unfold z6e
 rw [List.mem_map]
 constructor
 ·rintro ⟨x,hx,h⟩
  rw [Prod.mk.injEq,At.mk.injEq] at h
  exact ⟨x,hx,h.1.1,h.1.2,h.2.symm⟩
 rintro ⟨x,hx,h1,h2,rfl⟩
 exact ⟨x,hx,by rw [Prod.mk.injEq,At.mk.injEq];exact ⟨⟨h1,h2⟩,rfl⟩⟩
theorem z2v {st:State} {a b:At}:(a,b)∈z0r st↔∃f∈ZF Folder.name st.folders,(a,b)∈z6d f\/(a,b)∈z6e f:=by
 unfold z0r
 rw [List.mem_flatMap]
 simp only [List.mem_append]
theorem zBx {S:List Nm} {l:List Folder} {x:At}:x∈YA S l↔∃f∈ZF Folder.name l,∃y∈ZF Wrap.name f.wraps,y.name∈S/\x=⟨f.name,z1t f.epochs y⟩:=by
 unfold YA z1k
 rw [List.mem_flatMap]
 refine exists_congr fun f=>and_congr_right fun _=>?_
 rw [List.mem_map]
 constructor
 ·rintro ⟨y,hy,rfl⟩
  rw [List.mem_filter,z20] at hy
  exact ⟨y,hy.1,hy.2,rfl⟩
 rintro ⟨y,hy,h,rfl⟩
 exact ⟨y,by rw [List.mem_filter,z20];exact ⟨hy,h⟩,rfl⟩
theorem zMl {st:State} {u:Nm} {S:List Nm} (hS:∀x,x∈S↔ClR (z6c st.deposits) [u] x) (s:Nm) (n:Int):zOb st S ⟨s,n⟩↔z60 st u s n:=by
 have hU:∀x,ClR (z6c st.deposits) [u] x->Reach (z3h st) (uN u) (uN x):=fun x r=>r.closed (fun x=>Reach (z3h st) (uN u) (uN x)) (fun x hx=>by rw [zml hx];exact .refl) fun e he h=> .step h (by
  obtain ⟨p,hp,e1,e2⟩:=z89.1 (show (e.1,e.2)∈_ from he)
  exact z5a.2 (.inl ⟨p,hp,by rw [e1],by rw [e2]⟩))
 constructor
 ·intro h
  refine h.closed (fun x=>z60 st u x.name x.seq) (fun x hx=>?_) fun e he k=>?_
  ·obtain ⟨f,hf,y,hy,hm,rfl⟩:=zBx.1 hx
   exact .step (hU _ ((hS _).1 hm)) (z5a.2 (.inr ⟨f,hf,.inr (.inl ⟨y,hy,rfl,rfl⟩)⟩))
  obtain ⟨a,b⟩:=e
  obtain ⟨f,hf,h | h⟩:=z2v.1 he
  ·obtain ⟨h1,h2,h3,rfl⟩:=z4l.1 h
   exact .step k (z5a.2 (.inr ⟨f,hf,.inl ⟨a.seq,h2,h3,by dsimp only;rw [h1],rfl⟩⟩))
  obtain ⟨x,hx,h1,h2,rfl⟩:=z4m.1 h
  exact .step k (z5a.2 (.inr ⟨f,hf,.inr (.inr ⟨x,hx,by dsimp only;rw [h1,h2],rfl⟩)⟩))
 intro h
 have H:∀g:GN,Reach (z3h st) (uN u) g->(g.1=false->g.2.2=0/\g.2.1∈S)/\(g.1=true->zOb st S ⟨g.2.1,g.2.2⟩):=fun g r=>by
  refine r.closed (fun g=>(g.1=false->g.2.2=0/\g.2.1∈S)/\(g.1=true->zOb st S ⟨g.2.1,g.2.2⟩)) ⟨fun _=>⟨rfl,(hS _).2 (.seed (by simp [uN]))⟩,fun h=>by simp [uN] at h⟩ fun e he k=>?_
  obtain ⟨a,b⟩:=e
  dsimp only at k⊢
  rcases z5a.1 he with ⟨p,hp,rfl,rfl⟩ | ⟨f,hf,⟨e,h1,h2,rfl,rfl⟩ | ⟨y,hy,rfl,rfl⟩ | ⟨x,hx,rfl,rfl⟩⟩
  ·refine ⟨fun _=>⟨rfl,(hS _).2 ?_⟩,fun h=>by simp [uN] at h⟩
   exact .step ((hS _).1 (k.1 rfl).2) (z89.2 ⟨p,hp,rfl,rfl⟩)
  ·refine ⟨fun h=>by simp [eN] at h,fun _=>?_⟩
   exact .step (k.2 rfl) (z2v.2 ⟨f,hf,.inl (z4l.2 ⟨rfl,h1,h2,rfl⟩)⟩)
  ·refine ⟨fun h=>by simp [eN] at h,fun _=>?_⟩
   exact .seed (zBx.2 ⟨f,hf,y,hy,(k.1 rfl).2,rfl⟩)
  ·refine ⟨fun h=>by simp [eN] at h,fun _=>?_⟩
   exact .step (k.2 rfl) (z2v.2 ⟨f,hf,.inr (z4m.2 ⟨x,hx,rfl,rfl,rfl⟩)⟩)
 exact (H _ h).2 rfl
theorem zBy (S:List Nm) (f:Folder) (l:List Wrap):(z1k S f l).length<=l.length:=by
 unfold z1k
 rw [List.length_map]
 exact Nat.le_trans (List.length_filter_le _ _) (z4h _ _)
theorem z3s {st:State} (hs:Small st) {f:Folder} (hf:f∈st.folders):f.wraps.length<=1000/\f.epochs.length<=1000/\f.links.length<=1000:=by
 have h1:=zAj _ _ hf
 have h2:=hs.all
 unfold z5j at h1
 omega
theorem zOc {l r:List Folder} (h:l.Sublist r):z3c l<=z3c r:=by
 induction h with
 | slnil=>exact znl _
 | cons a _ ih=>rw [z3c];omega
 | cons_cons a _ ih=>rw [z3c,z3c];omega
theorem zEs {β:Type} (g:Folder->List β) (hg:∀f,(g f).length<=z5j f) (l:List Folder):((ZF Folder.name l).flatMap g).length<=z3c l:=by
 refine Nat.le_trans (z9x g l) ?_
 induction l with
 | nil=>simp
 | cons f l ih=>rw [List.flatMap_cons,List.length_append,z3c];have:=hg f;omega
theorem zBz {st:State} (hs:Small st) (S:List Nm) (l:List Folder) (hl:l.Sublist st.folders):(YA S l).length<=1000:=by
 have h1:=zEs (fun f=>z1k S f f.wraps) (fun f=>by have:=zBy S f f.wraps;unfold z5j;omega) l
 have h2:=zOc hl
 have h3:=hs.all
 unfold YA
 omega
theorem zK9 {st:State} (hs:Small st):(z0r st).length<=1000:=by
 have h1:=zEs (fun f=>z6d f++z6e f) (fun f=>by rw [List.length_append,z6d,z6e,List.length_map,List.length_map,List.length_range];unfold z5j;omega) st.folders
 have h3:=hs.all
 unfold z0r
 omega
theorem zGr {st:State} {k:Nat} {f:Folder} (hf:st.folders[k]? =some f):(YQ st f.name=k↔f.name∉(st.folders.take k).map Folder.name):=by
 constructor
 ·intro h hm
  obtain ⟨g,hg,hn⟩:=List.mem_map.1 hm
  obtain ⟨j,hj⟩:=List.getElem?_of_mem hg
  have hjk:j < k:=by
   have:=(zge hj).1
   rw [List.length_take] at this
   omega
  have hb:∃i,i<=j/\YQ st f.name=(i:Nat):=by
   cases hF:zV st f.name with
   | none=>
    have:=List.find?_eq_none.1 hF g (List.mem_of_mem_take hg)
    simp [hn] at this
   | some x=>
    obtain ⟨i,hi,_⟩:=z3j hF
    refine ⟨i,?_,hi⟩
    rcases Nat.lt_or_ge j i with hlt | hge
    ·obtain ⟨hp,a,_,hl,hno⟩:=List.find?_eq_some_iff_append.1 hF
     have ha:YQ st f.name=(a.length:Nat):=z5k (x:=x) (fun y hy=>by
      rw [hl,List.take_left] at hy
      simpa [isF] using hno y hy) (by rw [hl,List.getElem?_append_right (znl _),Nat.sub_self];rfl) (by simpa [isF] using hp)
     have hia:i=a.length:=by omega
     have hgj:st.folders[j]? =some g:=by rw [List.getElem?_take,if_pos hjk] at hj;exact hj
     rw [hl,List.getElem?_append_left (by omega)] at hgj
     have:=hno g (zmg hgj)
     simp [hn] at this
    ·exact hge
  obtain ⟨i,hi,_⟩:=hb
  omega
 intro h
 refine z5k (fun y hy=>?_) hf (by simp [isF])
 simp only [isF,decide_eq_false_iff_not]
 exact fun e=>h (List.mem_map.2 ⟨y,hy,e⟩)
theorem zHu {st:State} {S:List Nm} {k:Nat} {f:Folder} (hf:st.folders[k]? =some f) (h:YQ st f.name=k):YA S (st.folders.take (k+1))=YA S (st.folders.take k)++z1k S f f.wraps:=by
 unfold YA
 rw [List.take_add_one,hf]
 show (ZF Folder.name (_++[f])).flatMap _=_
 rw [YY,if_neg ((zGr hf).1 h),List.flatMap_append]
 simp
theorem zHv {st:State} {S:List Nm} {k:Nat} {f:Folder} (hf:st.folders[k]? =some f) (h:YQ st f.name≠k):YA S (st.folders.take (k+1))=YA S (st.folders.take k):=by
 unfold YA
 rw [List.take_add_one,hf]
 show (ZF Folder.name (_++[f])).flatMap _=_
 rw [YY,if_pos (Decidable.not_not.1 fun e=>h ((zGr hf).2 e))]
theorem zHw {S:List Nm} {f:Folder} {l:List Wrap} {j:Nat} {x:Wrap} (hx:l[j]? =some x) (h1:x.name∉(l.take j).map Wrap.name) (h2:x.name∈S):z1k S f (l.take (j+1))=z1k S f (l.take j)++[⟨f.name,z1t f.epochs x⟩]:=by
 unfold z1k
 rw [List.take_add_one,hx]
 show ((ZF Wrap.name (_++[x])).filter _).map _=_
 rw [YY,if_neg h1,List.filter_append,List.map_append]
 congr 1
 rw [List.filter_cons,if_pos (by rw [z20];exact h2)]
 rfl
theorem zA6 {S:List Nm} {f:Folder} {l:List Wrap} {j:Nat} {x:Wrap} (hx:l[j]? =some x) (h:x.name∈(l.take j).map Wrap.name\/x.name∉S):z1k S f (l.take (j+1))=z1k S f (l.take j):=by
 unfold z1k
 rw [List.take_add_one,hx]
 show ((ZF Wrap.name (_++[x])).filter _).map _=_
 rw [YY]
 split
 ·rfl
 rename_i h1
 have h2:=h.resolve_left h1
 rw [List.filter_append,List.filter_cons,if_neg (by rw [z20];exact h2)]
 simp
theorem z6f {st:State} {f:Folder}:f∈ZF Folder.name st.folders↔∃k:Nat,st.folders[k]? =some f/\YQ st f.name=k:=by
 constructor
 ·intro h
  obtain ⟨k,h1,h2⟩:=z3j ((z52 Folder.name st.folders f.name f).2 ⟨h,rfl⟩)
  exact ⟨k,h2,h1⟩
 rintro ⟨k,h1,h2⟩
 cases hF:zV st f.name with
 | none=>rw [z5l hF] at h2;omega
 | some g=>
  obtain ⟨j,_,h4⟩:=z3j hF
  obtain rfl:k=j:=by omega
  obtain rfl:=zsi (h1.symm.trans h4)
  exact ((z52 Folder.name st.folders f.name f).1 hF).1
section
open Go.RowKit Go.Deep
section
variable {X:Nat->Prop} {base bw:Nat} {W:World} {R:RM} {c:Call} {dv:Value} {st:State} {done late:Bool}
theorem WK.usSl (h:WK X base bw W R c dv st done late):Sl 2 z01 (fun _=>True) W (R .us).v st.users:=z0i YG (h.os.row .us) (h.os.len _) h.is.users
theorem WK.deSl (h:WK X base bw W R c dv st done late):Sl 2 YV (fun _=>True) W (R .de).v st.deposits:=z0i z19 (h.os.row .de) (h.os.len _) h.is.deps
theorem WK.foSl (h:WK X base bw W R c dv st done late):Sl 7 ZE (fun _=>True) W (R .fo).v st.folders:=by
 obtain ⟨_,_,_,e,_,_,_,h4⟩:=h.state
 simp only [List.cons.injEq] at e
 obtain ⟨_,_,_,rfl,_⟩:=e
 exact h4
theorem z0p (h:WK X base bw W R c dv st done late) (s:Nm):Calls Tryz.prog 85 #[.pointer (some ⟨bw,0,none⟩),.string s] W fun e w'=>e= .returned (.int .i64 (iOf (yR st s)))/\Below W.heap.size W w':=by
 obtain ⟨w0,_,cw0,fw0,Bw0,_⟩:=zO W #[.string s] 9
 have HI:=zh (zJ5 s W.heap.size st.users _ w0 _ (h.usSl.keep YG (by decide) (zH Bw0)) (cw0 0 _ rfl))
 obtain ⟨_,_,hv,_⟩:=(h.os.row .us).shape
 have s9:=(Bw0.cell (p:=⟨bw,9,none⟩) h.lt).trans (h.cells.1 9 _ rfl)
 rw [hv] at s9 HI
 have HB:=zh Bw0
 clear h hv cw0 fw0 Bw0
 go_enter Tryz.func85,Tryz.ntmps85
 go_wp2_with fail
 refine zcm HI.out ?_
 rintro e _ ⟨rfl,B3⟩
 go_wp2
 go_ret
 exact ⟨rfl,zB HB.out B3⟩
theorem WK.fold (h:WK X base bw W R c dv st done late) {i g o:Nat} {f:Folder} (hf:st.folders[i]? =some f) (ha:foAt R i g o):
  ∃(A2:Option Addr) (c2:Nat) (A3:Option Addr) (c3:Nat) (A4:Option Addr) (c4:Nat) (A5:Option Addr) (c5:Nat) (A6:Option Addr) (c6:Nat),
   hdr R i f=[.string f.name,.int .i64 f.turn,.slice A2 f.manifests.length c2,.slice A3 f.epochs.length c3,.slice A4 f.items.length c4,.slice A5 f.wraps.length c5,.slice A6 f.links.length c6]/\
   ZE (fun _=>True) W [.string f.name,.int .i64 f.turn,.slice A2 f.manifests.length c2,.slice A3 f.epochs.length c3,.slice A4 f.items.length c4,.slice A5 f.wraps.length c5,.slice A6 f.links.length c6] f/\
   W.cell? ⟨g,o,none⟩=some (.string f.name)/\W.cell? ⟨g,o+1,none⟩=some (.int .i64 f.turn)/\W.cell? ⟨g,o+2,none⟩=some (.slice A2 f.manifests.length c2)/\W.cell? ⟨g,o+3,none⟩=some (.slice A3 f.epochs.length c3)/\
   W.cell? ⟨g,o+4,none⟩=some (.slice A4 f.items.length c4)/\W.cell? ⟨g,o+5,none⟩=some (.slice A5 f.wraps.length c5)/\W.cell? ⟨g,o+6,none⟩=some (.slice A6 f.links.length c6)/\g < W.heap.size/\∀q,W.frozen? ⟨g,q,none⟩=false:=by
 have hF:=(h.is.fo i f hf).2.folder h.os
 obtain ⟨_,_,ha',_,hg,hc,hz⟩:=h.fat hf
 obtain ⟨_,_,_,hv,rfl⟩:=ha
 obtain ⟨_,_,_,hv',rfl⟩:=ha'
 rw [hv] at hv'
 simp only [Value.slice.injEq,Option.some.injEq,Addr.mk.injEq] at hv'
 obtain ⟨⟨rfl,rfl,_⟩,_⟩:=hv'
 obtain ⟨A2,c2,A3,c3,A4,c4,A5,c5,A6,c6,e,_⟩:=Z5 hF
 rw [e] at hF hc
 exact ⟨A2,c2,A3,c3,A4,c4,A5,c5,A6,c6,e,hF,hc 0 _ rfl,hc 1 _ rfl,hc 2 _ rfl,hc 3 _ rfl,hc 4 _ rfl,hc 5 _ rfl,hc 6 _ rfl,hg,hz⟩
theorem z9d (h:WK X base bw W R c dv st done late) (s:Nm):Calls Tryz.prog 125 #[.pointer (some ⟨bw,0,none⟩),.string s] W fun e w'=>
  ((foI st s=none/\e= .returned (.pointer none))\/∃k g o,foI st s=some k/\foAt R k g o/\e= .returned (.pointer (some ⟨g,o,none⟩)))/\Below W.heap.size W w':=by
 obtain ⟨w0,_,cw0,fw0,Bw0,_⟩:=zO W #[.string s] 9
 have HI:=zh (zFr s W.heap.size st.folders _ w0 _ (h.foSl.keep z02 (by decide) (zH Bw0)) (cw0 0 _ rfl))
 obtain ⟨_,_,hv,_⟩:=(h.os.row .fo).shape
 have s11:=(Bw0.cell (p:=⟨bw,11,none⟩) h.lt).trans (h.cells.1 11 _ rfl)
 rw [hv,h.is.fol] at s11 HI
 have HB:=zh Bw0
 have HW:=zh h
 have HV:=zh hv
 have hlt:=h.lt
 have hlt0:bw < w0.heap.size:=by have:=Bw0.size;omega
 clear h cw0 fw0 Bw0 hv
 go_enter Tryz.func125,Tryz.ntmps125
 go_wp2_with fail
 refine zcm HI.out ?_
 rintro e _ ⟨rfl,B3⟩
 have t11:=(B3.cell (p:=⟨bw,11,none⟩) hlt0).trans s11
 cases hk:foI st s with
 | none=>
  rw [show st.folders.findIdx? (isF s)=none from hk]
  unfold iOf
  go_wp2
  go_ret
  exact ⟨.inl ⟨hk,rfl⟩,zB HB.out B3⟩
 | some k=>
  have hkl:k < st.folders.length:=(List.findIdx?_eq_some_iff_getElem.1 hk).1
  rw [show st.folders.findIdx? (isF s)=some k from hk]
  unfold iOf
  obtain ⟨g,o,ha,_⟩:=HW.out.fat (List.getElem?_eq_getElem hkl)
  have HA:=zh ha
  obtain ⟨_,_,_,hv',rfl⟩:=ha
  rw [HV.out] at hv'
  simp only [Value.slice.injEq] at hv'
  obtain ⟨rfl,rfl,rfl⟩:=hv'
  go_wp2
  go_ret
  exact ⟨.inr ⟨k,_,_,hk,HA.out,rfl⟩,zB HB.out B3⟩
theorem zE9 {st:State} {s:Nm} {k:Nat} (h:foI st s=some k):Z7 st s=if (zL (fo st k)).gone then none else some k:=by unfold Z7;rw [h]
theorem zHa {st:State} {s:Nm} (h:foI st s=none):Z7 st s=none:=by unfold Z7;rw [h]
theorem z1g {st:State} {s:Nm} {k:Nat} (h:foI st s=some k):k < st.folders.length:=(List.findIdx?_eq_some_iff_getElem.1 h).1
theorem ZK {st:State} {k:Nat} (h:k < st.folders.length):st.folders[k]? =some (fo st k):=by unfold fo;rw [List.getElem?_eq_getElem h];rfl
theorem zBb (a b c:Nm) (x y:Int) (g:Bool) (v u:Value) (w:World):(Instr.field 84 (.agg #[.string a,.int .i64 x,v,.string b,u,.int .i64 y,.bool g,.string c]) 1).run Tryz.prog w= .ok (.int .i64 x) w:=by kernel_rfl
theorem zEw (a b c:Nm) (x y:Int) (g:Bool) (v u:Value) (w:World):(Instr.field 84 (.agg #[.string a,.int .i64 x,v,.string b,u,.int .i64 y,.bool g,.string c]) 3).run Tryz.prog w= .ok (.string b) w:=by kernel_rfl
theorem z3r (a b c:Nm) (x y:Int) (g:Bool) (v u:Value) (w:World):(Instr.field 84 (.agg #[.string a,.int .i64 x,v,.string b,u,.int .i64 y,.bool g,.string c]) 4).run Tryz.prog w= .ok (u) w:=by kernel_rfl
theorem zA1 (a b c:Nm) (x y:Int) (g:Bool) (v u:Value) (w:World):(Instr.field 84 (.agg #[.string a,.int .i64 x,v,.string b,u,.int .i64 y,.bool g,.string c]) 6).run Tryz.prog w= .ok (.bool g) w:=by kernel_rfl
theorem yG (h:WK X base bw W R c dv st done late) (s:Nm):Calls Tryz.prog 86 #[.pointer (some ⟨bw,0,none⟩),.string s] W fun e w'=>
  ((Z7 st s=none/\e= .returned (.pointer none))\/∃k g o,Z7 st s=some k/\foAt R k g o/\e= .returned (.pointer (some ⟨g,o,none⟩)))/\Below W.heap.size W w':=by
 have HI:=zh (z9d h s)
 have HW:=zh h
 clear h
 go_enter Tryz.func86,Tryz.ntmps86
 go_wp2_with fail
 refine zcm HI.out ?_
 rintro e w1 ⟨⟨hk,rfl⟩ | ⟨k,g,o,hk,ha,rfl⟩,B1⟩
 ·go_wp2
  go_ret
  exact ⟨.inl ⟨zHa hk,rfl⟩,B1⟩
 have hkl:=z1g hk
 have hW1:=HW.out.below B1
 obtain ⟨_,_,_,_,_,_,_,_,_,_,_,hF,_,_,_,_,_,_,_,_,_⟩:=hW1.fold (ZK hkl) ha
 have HA:=zh ha
 have HN:=zh (z4q (fo st k) _ w1 _ hF)
 have HB1:=zh B1
 have qg:=zA1
 clear hW1 hF ha B1
 go_wp2_with fail
 refine zcm HN.out ?_
 rintro e _ ⟨⟨_,rfl,hm⟩,B2⟩
 obtain ⟨_,_,_,_,rfl,hm⟩:=yO hm
 clear hm
 cases hgn:(zL (fo st k)).gone
 ·go_wp2
  go_ret
  exact ⟨.inr ⟨k,g,o,by rw [zE9 hk,hgn];rfl,HA.out,rfl⟩,zB HB1.out B2⟩
 go_wp2
 go_ret
 exact ⟨.inl ⟨by rw [zE9 hk,hgn];rfl,rfl⟩,zB HB1.out B2⟩
end
end
section
section
variable {β:Type} {g:Folder->β} {p:Folder->Bool} {f f':Folder}
theorem z8u (hp:p f'=p f) (hg:g f'=g f):∀{l:List Folder} {k:Nat},l[k]? =some f->((l.set k f').find? p).map g=(l.find? p).map g
 | [],k,h=>by simp at h
 | x :: l,0,h=>by
  obtain rfl:x=f:=by simpa using h
  rw [List.set_cons_zero,List.find?_cons,List.find?_cons,hp]
  cases p x
  ·rfl
  ·simp [hg]
 | x :: l,k+1,h=>by
  rw [List.set_cons_succ,List.find?_cons,List.find?_cons]
  cases p x
  ·exact z8u hp hg (by simpa using h)
  ·rfl
end
def Alike (st st':State):Prop:=∀s,(zV st s).map (fun f=>(f.manifests,f.epochs))=(zV st' s).map fun f=>(f.manifests,f.epochs)
theorem Alike.miss {a b:State} (h:Alike a b) {s:Nm} (k:zV a s=none):zV b s=none:=by
 have:=h s
 rw [k] at this
 cases hb:zV b s with
 | none=>rfl
 | some f=>rw [hb] at this;cases this
theorem Alike.hit {a b:State} (h:Alike a b) {s:Nm} {f:Folder} (k:zV a s=some f):∃f',zV b s=some f'/\f'.manifests=f.manifests/\f'.epochs=f.epochs:=by
 have:=h s
 rw [k] at this
 cases hb:zV b s with
 | none=>rw [hb] at this;cases this
 | some f'=>
  rw [hb] at this
  simp only [Option.map_some,Option.some.injEq,Prod.mk.injEq] at this
  exact ⟨f',rfl,this.1.symm,this.2.symm⟩
theorem z2d {f f':Folder} (h:f'.manifests=f.manifests):zL f'=zL f:=by unfold zL;rw [h]
theorem Alike.now {a b:State} (h:Alike a b) (s:Nm):zL ((zV b s).getD yX)=zL ((zV a s).getD yX):=by
 cases k:zV a s with
 | none=>rw [h.miss k]
 | some f=>
  obtain ⟨_,k',hm,_⟩:=h.hit k
  rw [k']
  exact z2d hm
theorem Alike.eps {a b:State} (h:Alike a b) (s:Nm):((zV b s).getD yX).epochs=((zV a s).getD yX).epochs:=by
 cases k:zV a s with
 | none=>rw [h.miss k]
 | some f=>
  obtain ⟨_,k',_,he⟩:=h.hit k
  rw [k']
  exact he
theorem Alike.chain {a b:State} (h:Alike a b):∀(n:Nat) (s:Nm),zN b n s=zN a n s
 | 0,s=>rfl
 | n+1,s=>by
  cases k:zV a s with
  | none=>rw [z2b k,z2b (h.miss k)]
  | some f=>
   obtain ⟨_,k',hm,_⟩:=h.hit k
   rw [z1f k,z1f k',z2d hm,h.chain n]
theorem Alike.cut {a b:State} (h:Alike a b) (s:Nm):z7o b s=z7o a s:=by unfold z7o;rw [h.now s]
theorem Alike.go {a b:State} (h:Alike a b):∀(x y:List At),z18 b x y=z18 a x y
 | [],y=>by cases y<;>rfl
 | x :: r,[]=>rfl
 | x :: r,y :: q=>by unfold z18;rw [h.cut,h.go r q]
theorem Alike.stale {a b:State} (h:Alike a b) (s:Nm):Y8 b s=Y8 a s:=by
 cases k:zV a s with
 | none=>rw [z6w k,z6w (h.miss k)]
 | some f=>
  obtain ⟨_,k',_,he⟩:=h.hit k
  rcases Nat.eq_zero_or_pos f.epochs.length with h0 | h0
  ·rw [z7p k h0,z7p k' (by rw [he];exact h0)]
  obtain ⟨n,hn⟩:∃n,f.epochs.length=n+1:=⟨f.epochs.length - 1,by omega⟩
  have hx:f.epochs[n]? =some (f.epochs[n]'(by omega)):=List.getElem?_eq_getElem _
  rw [z6x k hn hx,z6x k' (by rw [he];exact hn) (by rw [he];exact hx),h.chain,h.go]
theorem zBf {st:State} {k:Nat} {f f':Folder} (h:st.folders[k]? =some f) (hn:f'.name=f.name) (hm:f'.manifests=f.manifests) (he:f'.epochs=f.epochs):Alike st (setF st k f'):=fun s=>by
 unfold setF zV
 exact (z8u (by rw [hn]) (by rw [hm,he]) h).symm
theorem z1p {st:State} {k:Nat} {f:Folder} (h:k < st.folders.length):fo (setF st k f) k=f:=by
 unfold fo setF
 dsimp only
 rw [List.getElem?_set_self h]
 rfl
theorem z0q {st:State} {k:Nat} {f g:Folder}:setF (setF st k f) k g=setF st k g:=by
 unfold setF
 simp
theorem z5u {st:State} {k:Nat}:setF st k (fo st k)=st:=by
 unfold setF fo
 cases h:st.folders[k]? with
 | none=>
  have:st.folders.length<=k:=List.getElem?_eq_none_iff.1 h
  rw [List.set_eq_of_length_le this]
 | some f=>
  have:=List.set_eq_self_of h
  rw [Option.getD_some,this]
theorem z1h {st:State} {k:Nat} {f:Folder}:(setF st k f).folders.length=st.folders.length:=by unfold setF;simp
theorem z2t {st:State} {s:Nm} {k:Nat} (h:foI st s=some k):zV st s=some (fo st k):=by
 unfold foI at h
 obtain ⟨hk,hp,hn⟩:=List.findIdx?_eq_some_iff_getElem.1 h
 have hf:=fo_at' hk
 rw [<-z4p]
 exact z6h (k:=k) (fun y hy=>by
  obtain ⟨j,_,rfl⟩:=List.mem_take_iff_getElem.1 hy
  have:=hn j (by omega)
  simpa using this) hf (by rw [<-hp];unfold fo;rw [List.getElem?_eq_getElem hk];rfl)
where fo_at' {st:State} {k:Nat} (h:k < st.folders.length):st.folders[k]? =some (fo st k):=by unfold fo;rw [List.getElem?_eq_getElem h];rfl
theorem z7y {st:State} {s:Nm}:foI st s=none↔zV st s=none:=by
 unfold foI
 rw [List.findIdx?_eq_none_iff,<-z4p,List.find?_eq_none]
 simp
def Y4 (name:Nm) (l:List Wrap):Nat:=(l.takeWhile fun w=>ltS w.name name).length
def z1i (l:List Wrap):Prop:=l.Pairwise fun a b=>ltS a.name b.name=true
theorem zLh {a b:Nm} (h:a≠b) (k:ltS a b=false):ltS b a=true:=by
 rcases z13 a b with e | e | e
 ·rw [e] at k;cases k
 ·exact absurd e h
 exact e
theorem zAp (eps:List Epoch) (name:Nm) (seed:Bool):∀(l:List Wrap),z24 eps name seed l=match l[Y4 name l]? with
  | some w=>if w.name=name then l.set (Y4 name l) (if z3u eps w seed then w else ⟨name,eps.length,seed⟩) else l.take (Y4 name l)++⟨name,eps.length,seed⟩ :: l.drop (Y4 name l)
  | none=>l++[⟨name,eps.length,seed⟩]
 | []=>rfl
 | w :: r=>by
  unfold z24 Y4
  by_cases h1:w.name=name
  ·rw [if_pos h1,List.takeWhile_cons]
   have:ltS w.name name=false:=by rw [h1];exact YB _
   simp only [this,Bool.false_eq_true,if_false]
   simp [h1]
  ·rw [if_neg h1,List.takeWhile_cons]
   cases h2:ltS w.name name
   ·rw [if_pos (zLh h1 h2)]
    simp [h1]
   ·rw [if_neg (by rw [z35 h2];decide)]
    have ih:=zAp eps name seed r
    unfold Y4 at ih
    rw [ih]
    simp only [if_true,List.length_cons,List.getElem?_cons_succ,List.set_cons_succ,List.take_succ_cons,List.drop_succ_cons,List.cons_append]
    split
    ·split<;>rfl
    ·rfl
theorem z8v {eps:List Epoch} {name:Nm} {seed:Bool}:∀{l:List Wrap} {x:Wrap},x∈z24 eps name seed l->x=⟨name,eps.length,seed⟩\/x∈l
 | [],x,h=>by simpa [z24] using h
 | w :: r,x,h=>by
  unfold z24 at h
  split at h
  ·split at h
   ·exact .inr h
   ·rcases List.mem_cons.1 h with h | h
    ·exact .inl h
    ·exact .inr (zmc _ h)
  ·split at h
   ·rcases List.mem_cons.1 h with h | h
    ·exact .inl h
    ·exact .inr h
   ·rcases List.mem_cons.1 h with h | h
    ·exact .inr (by rw [h];exact List.mem_cons_self ..)
    ·exact (z8v h).imp id fun h=>zmc _ h
theorem z69 (eps:List Epoch) (name:Nm) (seed:Bool):∀{l:List Wrap},z1i l->z1i (z24 eps name seed l)
 | [],_=>by unfold z24 z1i;simp
 | w :: r,h=>by
  unfold z1i at h⊢
  obtain ⟨h1,h2⟩:=List.pairwise_cons.1 h
  unfold z24
  split
  ·rename_i e
   split
   ·exact h
   ·exact List.pairwise_cons.2 ⟨fun b hb=>by rw [<-e];exact h1 b hb,h2⟩
  ·split
   ·rename_i e1 e2
    exact List.pairwise_cons.2 ⟨fun b hb=>by
     rcases List.mem_cons.1 hb with rfl | hb
     ·exact e2
     ·exact YT e2 (h1 b hb),h⟩
   ·rename_i e1 e2
    refine List.pairwise_cons.2 ⟨fun b hb=>?_,z69 eps name seed h2⟩
    rcases z8v hb with rfl | hb
    ·exact zLh (fun e=>e1 e.symm) (by simpa using e2)
    ·exact h1 b hb
structure Gv (f f':Folder):Prop where
 name:f'.name=f.name
 turn:f'.turn=f.turn
 man:f'.manifests=f.manifests
 ep:f'.epochs=f.epochs
 it:f'.items=f.items
 wr:z1i f.wraps->z1i f'.wraps
theorem Gv.refl (f:Folder):Gv f f:=⟨rfl,rfl,rfl,rfl,rfl,id⟩
theorem Gv.trans {a b c:Folder} (h:Gv a b) (k:Gv b c):Gv a c:=⟨k.name.trans h.name,k.turn.trans h.turn,k.man.trans h.man,k.ep.trans h.ep,k.it.trans h.it,fun x=>k.wr (h.wr x)⟩
theorem Gv.now {f f':Folder} (h:Gv f f'):zL f'=zL f:=z2d h.man
theorem zOw (f:Folder) (name:Nm) (seed:Bool):Gv f (yZ f name seed):=⟨rfl,rfl,rfl,rfl,rfl,fun h=>z69 _ _ _ h⟩
theorem z7z (sd:Member->Bool):∀(ms:List Member) (f:Folder),Gv f (yD sd f ms)
 | [],f=>Gv.refl f
 | m :: r,f=>(zOw f m.name (sd m)).trans (z7z sd r (yZ f m.name (sd m)))
theorem z80 (st:State):∀(l:List At) (f:Folder),Gv f (z07 st l f)
 | [],f=>Gv.refl f
 | x :: r,f=>by
  unfold z07
  split
  ·exact (z7z _ _ f).trans (z80 st r _)
  ·split
   ·exact Gv.refl f
   ·exact ⟨rfl,rfl,rfl,rfl,rfl,id⟩
theorem zHh (sd:Member->Bool) (f:Folder) (ms:List Member) (m:Member):yD sd f (ms++[m])=yZ (yD sd f ms) m.name (sd m):=by unfold yD;simp
theorem Alike.gv {st:State} {k:Nat} {f':Folder} (hk:k < st.folders.length) (h:Gv (fo st k) f'):Alike st (setF st k f'):=
 zBf (by unfold fo;rw [List.getElem?_eq_getElem hk];rfl) h.name h.man h.ep
end
end Go.Proofs.YtdggplhnfhcieaaGreatDoor
