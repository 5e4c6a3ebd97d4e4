/- Part 21 of the proof of vaultStays_holds. No condition. -/
import Derived.Test.YtdggplhnfhcieaaGreatDoorZ20
set_option linter.unusedVariables false
set_option linter.unusedSimpArgs false
set_option linter.unusedSectionVars false
set_option maxRecDepth 100000
namespace Go.Proofs.YtdggplhnfhcieaaGreatDoor
open Go.RowKit Go.Deep
theorem zFo {α:Type} {e:TypeId} {sz:Nat} {R:Rp α} {B:Nat->Prop} {w:World} {base base':Nat} {v:Value} {l:List α} (h:Grow e sz R B w base v l) (hb:base'<=base):Grow e sz R B w base' v l:=by
 obtain ⟨h1,h2,xs,⟨hxl,h4⟩,hel⟩:=h
 refine ⟨h1,h2,xs,⟨hxl,?_⟩,hel⟩
 rcases h4 with h4 | ⟨g,cap,cur,e1,hg,h5⟩
 ·exact .inl h4
 ·exact .inr ⟨g,cap,cur,e1,Nat.le_trans hb hg,h5⟩
set_option maxHeartbeats 4000000 in
theorem zJ7 (st:State) (name:Nm) (hnm:name.size<=140737488355328) (cs:List Value) (w:World) (S:Nat->Prop) (h:yF S w cs st):Calls Tryz.prog 67 #[.agg cs.toArray,.string name] w fun e w'=>(∃v,e= .returned v/\Grow 124 2 rAt (fun _=>False) w' w.heap.size v (zN st 4 name))/\Below w.heap.size w w':=by
 have HR:=zh h
 obtain ⟨st_A1,st_c1,st_A2,st_c2,st_A3,st_c3,rfl,_,_,_,_,st_users_s,_,_,_,st_deposits_s,_,_,_,st_folders_s⟩:=y8 h
 obtain ⟨w0,hw0,cw0,fw0,Bw0,qw0⟩:=zQ w #[.int .i64 st.turn,.slice st_A1 st.users.length st_c1,.slice st_A2 st.deposits.length st_c2,.slice st_A3 st.folders.length st_c3] 34
 have HB0:=zh Bw0
 have HC0:=zh cw0
 clear cw0 fw0 Bw0 st_users_s st_deposits_s st_folders_s
 obtain ⟨iAt,hiAt,hzAt,h1At,h2At⟩:=info_parts (show (Tryz.prog.info? 124).map (fun i=>(i.zero,i.size,i.bytes))=some (some (.agg #[.string ⟨#[]⟩,.int .i64 0]),2,24) from by kernel_rfl)
 go_enter Tryz.func67,Tryz.ntmps67
 go_wp2
 clear hw0
 go_loopw [1,5,9] (fun s vo i wr=>∃(k:Nat) (cur:Nm) (L:List At),k<=4/\i= .int .i64 k/\s= .string cur/\cur.size<=140737488355328/\Hid (Grow 124 2 rAt (fun _=>False) wr w0.heap.size vo L)/\Hid (L++zN st (4 - k) cur=zN st 4 name)/\L.length<=k/\Below w0.heap.size w0 wr) (fun _ _ i _=>4 - (RowKit.intOf i).toNat)
 case atStart=>exact ⟨0,name,[],by omega,by go_num,rfl,hnm,Grow.nil,(zh rfl),by simp,Below.refl _ _⟩
 case round=>
  obtain ⟨k,cur,L,_,rfl,rfl,hcur,HG,HL,hLk,hbel⟩:=hrel
  have B0:=zh (zB HB0.out hbel)
  have s0:=(hbel.cell (p:=⟨w.heap.size,0,none⟩) qw0).trans (HC0.out 0 _ rfl)
  have s1:=(hbel.cell (p:=⟨w.heap.size,1,none⟩) qw0).trans (HC0.out 1 _ rfl)
  have s2:=(hbel.cell (p:=⟨w.heap.size,2,none⟩) qw0).trans (HC0.out 2 _ rfl)
  have s3:=(hbel.cell (p:=⟨w.heap.size,3,none⟩) qw0).trans (HC0.out 3 _ rfl)
  obtain ⟨A2,n2,c2,rfl,hn2⟩:=HG.out.shape'
  clear hn2
  have hzr:=hbel.size
  rcases Nat.lt_or_ge k 4 with hk4 | hk4
  ·have hkl:(k:Int) < 4:=by omega
   go_wp2_with fail
   clear s0 s1 s2 s3
   refine Calls.mono (z2s st cur _ wr S (Z7 HR.out (zJ B0.out))) ?_
   rintro e w1 ⟨⟨cf,rfl,hf⟩,b1⟩
   have B1:=zh (zB hbel b1)
   have HG1:=zh (HG.out.below ZR b1)
   have hz1:=b1.size
   clear b1
   cases hF:zP st cur with
   | none=>
    rw [hF] at hf
    replace hf:ZE S w1 cf ZF:=hf
    simp only [Option.isSome_none]
    have HE:=zh (show L=zN st 4 name by rw [<-HL.out,z17 hF,List.append_nil])
    obtain ⟨f,hfz⟩:∃f,ZF=f:=⟨_,rfl⟩
    rw [hfz] at hf
    obtain ⟨f_A2,f_c2,f_A3,f_c3,f_A4,f_c4,f_A5,f_c5,f_A6,f_c6,rfl,f_name_le,f_turn_ok,f_manifests_l,f_manifests_m,f_manifests_n,f_manifests_s,f_epochs_l,f_epochs_m,f_epochs_n,f_epochs_s,f_items_l,f_items_m,f_items_n,f_items_s,f_wraps_l,f_wraps_m,f_wraps_n,f_wraps_s,f_links_l,f_links_m,f_links_n,f_links_s⟩:=ZB hf
    obtain ⟨w2,hw2,cw2,fw2,Bw2,qw2⟩:=zQ w1 #[.string f.name,.int .i64 f.turn,.slice f_A2 f.manifests.length f_c2,.slice f_A3 f.epochs.length f_c3,.slice f_A4 f.items.length f_c4,.slice f_A5 f.wraps.length f_c5,.slice f_A6 f.links.length f_c6] 74
    have HG2:=zh (HG1.out.below ZR Bw2)
    have HB2:=zh (zB HB0.out (zB B1.out Bw2))
    clear hF hfz cw2 fw2 Bw2
    go_wp2
    go_ret
    exact ⟨⟨_,rfl,by rw [<-HE.out];exact zFo HG2.out HB0.out.size⟩,HB2.out⟩
   | some f=>
    rw [hF] at hf
    replace hf:ZE S w1 cf f:=hf
    simp only [Option.isSome_some]
    have HFR:=zh hf
    obtain ⟨m,hm⟩:∃m,zL f=m:=⟨_,rfl⟩
    have HE:=zh (show (L++[(⟨cur,m.seq⟩:At)])++zN st (4 - (k+1)) m.parent=zN st 4 name by
     rw [<-HL.out,show 4 - k=(4 - (k+1))+1 by omega,z0h hF,hm,List.append_assoc]
     rfl)
    obtain ⟨f_A2,f_c2,f_A3,f_c3,f_A4,f_c4,f_A5,f_c5,f_A6,f_c6,rfl,f_name_le,f_turn_ok,f_manifests_l,f_manifests_m,f_manifests_n,f_manifests_s,f_epochs_l,f_epochs_m,f_epochs_n,f_epochs_s,f_items_l,f_items_m,f_items_n,f_items_s,f_wraps_l,f_wraps_m,f_wraps_n,f_wraps_s,f_links_l,f_links_m,f_links_n,f_links_s⟩:=ZB hf
    obtain ⟨w2,hw2,cw2,fw2,Bw2,qw2⟩:=zQ w1 #[.string f.name,.int .i64 f.turn,.slice f_A2 f.manifests.length f_c2,.slice f_A3 f.epochs.length f_c3,.slice f_A4 f.items.length f_c4,.slice f_A5 f.wraps.length f_c5,.slice f_A6 f.links.length f_c6] 74
    have HG2:=zh (HG1.out.below ZR Bw2)
    have HB2:=zh (zB B1.out Bw2)
    have t0:=cw2 0 _ rfl
    have t1:=cw2 1 _ rfl
    have t2:=cw2 2 _ rfl
    have t3:=cw2 3 _ rfl
    have t4:=cw2 4 _ rfl
    have t5:=cw2 5 _ rfl
    have t6:=cw2 6 _ rfl
    have hz2:=Bw2.size
    have HN:=zh (z3p f _ w2 S (ZC HFR.out (zJ Bw2)))
    clear hF cw2 fw2 Bw2 f_manifests_s f_epochs_s f_items_s f_wraps_s f_links_s
    go_wp2_with fail
    clear hw2 t0 t1 t2 t3 t4 t5 t6
    refine Calls.mono HN.out ?_
    rintro e w3 ⟨⟨_,rfl,hmr⟩,b3⟩
    rw [hm] at hmr
    have HG3:=zh (HG2.out.below ZR b3)
    have HB3:=zh (zB HB2.out b3)
    have hz3:=b3.size
    obtain ⟨m_A2,m_c2,m_A4,m_c4,rfl,_,m_seq_ok,_,_,_,m_prev_s,m_parent_le,_,_,_,m_members_s,_,_⟩:=Y0 hmr
    obtain ⟨_,_,cw4,fw4,Bw4,qw4⟩:=zQ w3 #[.string m.folder,.int .i64 m.seq,.slice m_A2 m.prev.length m_c2,.string m.parent,.slice m_A4 m.members.length m_c4,.int .i64 m.cut,.bool m.gone,.string m.who] 84
    have HG4:=zh (HG3.out.below ZR Bw4)
    have HB4:=zh (zB HB3.out Bw4)
    have HC4:=zh cw4
    have t1:=cw4 1 _ rfl
    have t3:=cw4 3 _ rfl
    have hz4:=Bw4.size
    have hLL:L.length<=4:=by omega
    have HLK:=zh hLk
    clear cw4 fw4 Bw4 b3 hm hLk m_prev_s m_members_s
    go_wp2_with (at_builtin;go_loud (refine z15 (R:=rAt) _ _ rfl (.tmp 21) (.tmp 26) 121 rfl 124 iAt _ 2 24 Tryz.underlying121 hiAt hzAt h1At h2At rfl (by decide) ZR w0.heap.size (by omega) _ _ rfl HG4.out _ _ rfl (by simp only [zS]) _ (by intro b hb;exact hb.elim) (show rAt _ _ _ (⟨cur,m.seq⟩:At) from ⟨rfl,hcur,m_seq_ok⟩) (by omega) (by decide) ?_);intro v5 w5 g5 gg5 go5;obtain ⟨_,_,_,rfl,hn5⟩:=g5.shape';have G5:=zh g5;have GG5:=zh gg5;have hne:∀b,(Value.slice A2 n2 c2).ownBlock=some b->b≠w3.heap.size:=(fun b hb e=>by have:=(HG3.out.base_le b hb).2;omega);have T:=(gg5.block w3.heap.size qw4 fun e=>hne _ e.symm rfl);have t3':=(World.cell?_of_block (a:=⟨w3.heap.size,3,none⟩) T).trans (HC4.out 3 _ rfl);clear hn5 g5 gg5 go5 hne T)
    go_roundw
    case rel=>exact ⟨k+1,m.parent,L++[⟨cur,m.seq⟩],by omega,by go_num,rfl,m_parent_le,G5,HE,by rw [List.length_append,List.length_singleton];have:=HLK.out;omega,Below.grown HB4.out GG5.out (by omega) fun b hb=>(HG4.out.base_le b hb).1⟩
    case measure=>simp [RowKit.intOf];omega
  ·obtain rfl:k=4:=by omega
   have HE:=zh (show L=zN st 4 name by have:=HL.out;rwa [Nat.sub_self,zN,List.append_nil] at this)
   go_wp2
   go_ret
   exact ⟨⟨_,rfl,by rw [<-HE.out];exact zFo HG.out HB0.out.size⟩,B0.out⟩
end Go.Proofs.YtdggplhnfhcieaaGreatDoor
