/- Part 18 of the proof of vaultGranted_holds. No condition. -/
import Derived.Test.YtdggplhnfhcieaaGreatDoorY17
set_option linter.unusedVariables false
set_option linter.unusedSimpArgs false
set_option linter.unusedSectionVars false
set_option maxRecDepth 100000
namespace Go.Proofs.YtdggplhnfhcieaaGreatDoor
section
open Go.RowKit Go.Deep Go.Maps
structure GrW (w0:World) (K:Nat->Prop) (E:List (GN×GN)) (w:World) (t:Nat):Prop where
 ex:∃m B,Gr E m w t B/\m<=3*E.length/\∀z,B z->w0.heap.size<=z/\¬K z
 kl:∀z,K z->z < w.heap.size
 bel:Below w0.heap.size w0 w
section
variable {w0 w w':World} {K K':Nat->Prop} {E:List (GN×GN)} {t:Nat}
theorem GrW.to (h:GrW w0 K E w t) (k:Below w.heap.size w w'):GrW w0 K E w' t:=by
 obtain ⟨m,B,h1,h2,h3⟩:=h.ex
 exact ⟨⟨m,B,h1.below k,h2,h3⟩,fun z hz=>zll (h.kl z hz) k.size,zB h.bel k⟩
theorem GrW.add (h:GrW w0 K E w t) (k:Below w.heap.size w w') (hK:∀z,K' z->K z\/(w.heap.size<=z/\z < w'.heap.size)):GrW w0 K' E w' t:=by
 obtain ⟨m,B,h1,h2,h3⟩:=h.ex
 refine ⟨⟨m,B,h1.below k,h2,fun z hz=>⟨(h3 z hz).1,fun hk=>?_⟩⟩,fun z hz=>?_,zB h.bel k⟩
 ·rcases hK z hk with q | ⟨q,_⟩
  ·exact (h3 z hz).2 q
  have:=h1.lt z hz;omega
 rcases hK z hz with q | ⟨_,q⟩
 ·exact zll (h.kl z q) k.size
 exact q
theorem GrW.cast {E':List (GN×GN)} (h:GrW w0 K E w t) (e:E=E'):GrW w0 K E' w t:=e▸h
theorem Gr.mono {m m':Nat} {B:Nat->Prop} (h:Gr E m w t B) (hm:m<=m'):Gr E m' w t B:=by
 obtain ⟨b,e,vn,vo,vs,ns,adj,D,h,rfl⟩:=h
 exact ⟨b,e,vn,vo,vs,ns,adj,D,⟨h.gs,h.rep.mono hm,Nat.le_trans h.em hm⟩,rfl⟩
theorem zB2 (h:GrW w0 K E w t) (hl:E.length<=1500) (x y:GN) (hx:OkG x) (hy:OkG y):Calls Tryz.prog 223 #[.pointer (some ⟨t,0,none⟩),vG x,vG y] w fun e' w'=>(∃r,e'= .returned (.int .i64 r))/\GrW w0 K (E++[(x,y)]) w' t/\(∀z,K z->w'.heap[z]? =w.heap[z]?)/\w.heap.size<=w'.heap.size:=by
 obtain ⟨m,_,hg,_,hB⟩:=h.ex
 refine zcm (zMw hg (by omega) x y hx hy) ?_
 rintro e' w' ⟨hr,⟨B',hg',hB'⟩,hb⟩
 refine ⟨hr,⟨⟨m+3,B',hg',by simp;omega,fun z hz=>?_⟩,fun z hz=>zll (h.kl z hz) hb.size,ButB.below h.bel h.bel.size (fun k hk=>(hB k hk).1) hb⟩,fun z hz=>hb.block z (h.kl z hz) fun hbz=>(hB z hbz).2 hz,hb.size⟩
 rcases hB' z hz with q | q
 ·exact hB z q
 exact ⟨Nat.le_trans h.bel.size q,fun hk=>by have:=h.kl z hk;omega⟩
end
structure OkSt (st:State):Prop where
 dep:∀p∈st.deposits,p.to.size<=1000/\p.frm.size<=1000
 fol:∀f∈st.folders,f.name.size<=1000/\(∀w∈f.wraps,w.name.size<=1000)/\(∀x∈f.links,x.to.size<=1000)/\f.wraps.length<=1000
 few:(z3h st).length<=1000
 nf:st.folders.length<=1000
theorem okU {s:Nm} (h:s.size<=1000):OkG (uN s):=⟨h,(show I64 0 from ⟨by decide,by decide⟩)⟩
theorem okE {s:Nm} {n:Int} (h:s.size<=1000) (hn:I64 n):OkG (eN s n):=⟨h,hn⟩
theorem zGy {l:List Pair} {k:Nat} {x:Pair} (hx:l[k]? =some x):z04 (l.take (k+1))=z04 (l.take k)++[(uN x.to,uN x.frm)]:=by
 rw [List.take_add_one,hx]
 simp [z04]
theorem zAi {α:Type} (l:List α) (k:Nat):(l.take k).length<=l.length:=by
 rw [List.length_take];omega
theorem zD5 (st:State):(z04 st.deposits).length+((ZF Folder.name st.folders).flatMap z0l).length=(z3h st).length:=by
 unfold z3h
 rw [List.length_append]
theorem z7l (l:List Pair):(z04 l).length=l.length:=by simp [z04]
theorem zE3 {α β:Type} (f:α->List β):∀{l:List α} {k:Nat} {x:α},l[k]? =some x->((l.take k).flatMap f).length+(f x).length<=(l.flatMap f).length
 | [],k,x,h=>by simp at h
 | y :: l,0,x,h=>by
  obtain rfl:y=x:=by simpa using h
  simp [List.flatMap_cons]
 | y :: l,k+1,x,h=>by
  have:=zE3 f (l:=l) (k:=k) (x:=x) (by simpa using h)
  simp only [List.take_succ_cons,List.flatMap_cons,List.length_append]
  omega
theorem z7m (s:Nm) (n:Nat):(z2a s n).length=n:=by simp [z2a]
theorem z7n (f:Folder) (l:List Wrap):(z03 f l).length=l.length:=by simp [z03]
theorem zB3 (f:Folder) (l:List Link):(z29 f l).length=l.length:=by simp [z29]
theorem zB4 (f:Folder):(z0l f).length=f.epochs.length - 1+((ZF Wrap.name f.wraps).length+f.links.length):=by
 unfold z0l
 rw [List.length_append,List.length_append,z7m,z7n,zB3]
theorem zGz (s:Nm) (n:Nat):z2a s (n+1)=z2a s n++[(eN s ((n:Int)+2),eN s ((n:Int)+1))]:=by
 unfold z2a
 rw [List.range_succ,List.map_append]
 rfl
theorem zH0 (f:Folder) {l:List Wrap} {k:Nat} {x:Wrap} (hx:l[k]? =some x):z03 f (l.take (k+1))=z03 f (l.take k)++[(uN x.name,eN f.name (z1t f.epochs x))]:=by
 rw [List.take_add_one,hx]
 simp [z03]
theorem zH1 (f:Folder) {l:List Link} {k:Nat} {x:Link} (hx:l[k]? =some x):z29 f (l.take (k+1))=z29 f (l.take k)++[(eN x.to x.seq,eN f.name x.epoch)]:=by
 rw [List.take_add_one,hx]
 simp [z29]
theorem zMy {w w0 wq W:World} {cs:List Value} {x:Folder} (h:ZE (fun z=>z < w.heap.size) wq cs x) (h0:w.heap.size<=w0.heap.size) (hq:Below w0.heap.size w0 wq) (hW:Below w0.heap.size w0 W):ZE (fun z=>z < w.heap.size) W cs x:=
 Z0 h fun b hb _=>⟨hb,(hW.block b (zll hb h0)).trans (hq.block b (zll hb h0)).symm⟩
theorem zMz {S:Nat->Prop} {w:World} {x:Folder} {a b c d e f:Value} {A:Option Addr} {n c6:Nat} (h:ZE S w [a,b,c,d,e,f,.slice A n c6] x):SlAt 3 YP S w A x.links:=by
 obtain ⟨_,_,_,_,_,e,_,_,_,_,_,_,h7⟩:=h
 simp only [List.cons.injEq] at e
 obtain ⟨_,_,_,_,_,_,rfl,_⟩:=e
 obtain ⟨_,_,e,_,_,_,hs⟩:=h7
 cases e
 exact hs
theorem zN0 {l:List Epoch} {w:Wrap} (hl:l.length<=1001) (h:I64 w.epoch):I64 (z1t l w):=by
 unfold z1t
 split
 ·by_cases h2:1<=w.epoch/\w.epoch<=l.length
  ·have:=zDy h2.1 h2.2
   unfold I64
   omega
  rw [z4i h2];exact h
 exact h
set_option maxHeartbeats 4000000 in
theorem zL1 (st:State) (cs:List Value) (w:World) (S:Nat->Prop) (h:ZX S w cs st) (ok:OkSt st):Calls Tryz.prog 198 #[.agg cs.toArray] w fun e w'=>(∃t B,e= .returned (.pointer (some ⟨t,0,none⟩))/\Gr (z3h st) 3000 w' t B/\∀z,B z->w.heap.size<=z)/\Below w.heap.size w w':=by
 have hR0:=zR h (show Kept S (fun z=>z < w.heap.size) w w from fun b _ hl=>⟨hl,rfl⟩)
 clear h
 obtain ⟨st_A1,st_c1,st_A2,st_c2,st_A3,st_c3,rfl,_,_,_,_,_,_,_,_,st_deposits_s,st_folders_l,st_folders_m,st_folders_n,st_folders_s⟩:=ZL hR0
 obtain ⟨w0,hw0,cw0,fw0,Bw0,qw0⟩:=zO w #[.int .i64 st.turn,.slice st_A1 st.users.length st_c1,.slice st_A2 st.deposits.length st_c2,.slice st_A3 st.folders.length st_c3] 34
 have HW0:=zh hw0
 have HC0:=zh cw0
 have HB0:=zh Bw0
 have HOK:=zh ok
 have x2:=cw0 2 _ rfl
 clear ok cw0 fw0 Bw0
 go_enter Tryz.func198,Tryz.ntmps198
 go_wp2_with fail
 clear hw0
 refine zcm (zOm _) ?_
 rintro e w1 ⟨⟨t,b,rfl,hg,ht,hb⟩,B1⟩
 have HG1:=zh (show GrW w0 (fun _=>False) (z04 (st.deposits.take 0)) w1 t from ⟨⟨0,_,⟨b,0,_,_,_,_,_,_,hg,rfl⟩,by simp,fun z hz=>⟨by
  rcases hz with rfl | rfl | h | h | ⟨v,hv,h⟩
  ·exact ht
  ·exact hb
  ·cases h
  ·cases h
  ·simp at hv,fun h=>h⟩⟩,fun z h=>h.elim,B1⟩)
 have x2:=(B1.cell (p:=⟨w.heap.size,2,none⟩) qw0).trans x2
 clear hg ht hb B1
 go_wp2
 clear x2
 go_loopw [18] (fun i wr=>∃k:Nat,k<=st.deposits.length/\i= .int .i64 k/\Hid (GrW w0 (fun _=>False) (z04 (st.deposits.take k)) wr t)) (fun i _=>st.deposits.length - (RowKit.intOf i).toNat)
 case atStart=>exact ⟨0,by omega,by go_num,HG1⟩
 clear HG1
 obtain ⟨k,hk,rfl,HG⟩:=hrel
 by_cases hlt:k < st.deposits.length
 ·obtain ⟨x,hx⟩:∃x,st.deposits[k]? =some x:=⟨_,List.getElem?_eq_getElem hlt⟩
  obtain ⟨b,o,ys,hA,hbl,hR,hcz⟩:=SlAt.elem st_deposits_s hx (by decide) (zB HB0.out HG.out.bel)
  obtain ⟨rfl,_,_⟩:=z8i hR
  have u0:=hcz 0 _ rfl
  have u1:=hcz 1 _ rfl
  rw [Nat.add_zero] at u0
  subst hA
  have hki:(k:Int) < (st.deposits.length:Int):=by omega
  clear hcz
  have HX:=zh hx
  have hdl:=HOK.out.few
  have hdd:=zD5 st
  rw [z7l] at hdd
  have HEL:=zh (show (z04 (st.deposits.take k)).length<=1500 by rw [z7l];have:=zAi st.deposits k;omega)
  have HDP:=zh (HOK.out.dep x (zmg hx))
  obtain ⟨w2,hw2,cw2,fw2,Bw2,qw2⟩:=zO wr #[.string x.frm,.string x.to] 126
  have HGE:=zh (show GrW w0 (fun z=>z=wr.heap.size) (z04 (st.deposits.take k)) w2 t from HG.out.add Bw2 fun z hz=> .inr ⟨Nat.le_of_eq hz.symm,hz▸qw2⟩)
  have HCW:=zh cw2
  clear hx hdl hdd cw2 fw2 Bw2 HG
  go_wp2
  have HSP:∀W:World,(∀z,(fun z=>z=wr.heap.size) z->W.heap[z]? =w2.heap[z]?)->(fun W:World=>W.cell? ⟨wr.heap.size,0,none⟩=some (.string x.frm)/\W.cell? ⟨wr.heap.size,1,none⟩=some (.string x.to)) W:=fun W hW=>⟨(World.cell?_of_block (hW _ rfl)).trans (HCW.out 0 _ rfl),(World.cell?_of_block (hW _ rfl)).trans (HCW.out 1 _ rfl)⟩
  have HS:∀W:World,(∀z,(fun z=>z=wr.heap.size) z->W.heap[z]? =w2.heap[z]?)->(fun W:World=>W.cell? ⟨wr.heap.size,0,none⟩=some (.string x.frm)/\W.cell? ⟨wr.heap.size,1,none⟩=some (.string x.to)) W:=HSP
  refine wp_region_held_drew (S:=fun W:World=>W.cell? ⟨wr.heap.size,0,none⟩=some (.string x.frm)/\W.cell? ⟨wr.heap.size,1,none⟩=some (.string x.to)) (by kernel_rfl) (HS _ fun z _=>rfl) (fun hHeld=>?_)
  refine zi 0 ?_
  iterate 3 (refine zt _ rfl (by kernel_rfl) rfl (fun _ _ _ h=>h) hHeld (by intro W' h;go_simp;try with_reducible rfl) ?_;simp only [zA])
  refine zo ?_
  refine zi 4 ?_
  iterate 2 (refine zt _ rfl (by kernel_rfl) rfl (fun _ _ _ h=>h) hHeld (by intro W' h;go_simp;try with_reducible rfl) ?_;simp only [zA])
  refine zo ?_
  refine zr 3 (by kernel_rfl) rfl (fun K hK=>?_)
  go_simp
  go_at_call 200
  refine zcm (z62 _ _) ?_
  rintro e3 wE3 ⟨rfl,b3⟩
  have B3:Below w2.heap.size w2 wE3:=zB zbr.drew b3
  clear b3 hHeld
  refine hK.out _ _ (HS _ fun z hz=>B3.block z (HGE.out.kl z hz)) (fun hHeld=>?_)
  clear hK K
  refine zr 6 (by kernel_rfl) rfl (fun K hK=>?_)
  go_simp
  go_at_call 200
  refine zcm (z62 _ _) ?_
  rintro e4 wE4 ⟨rfl,b4⟩
  have B4:Below w2.heap.size w2 wE4:=zB B3 b4
  clear b4 hHeld
  refine hK.out _ _ (HS _ fun z hz=>B4.block z (HGE.out.kl z hz)) (fun hHeld=>?_)
  clear hK K
  refine zr 7 (by kernel_rfl) rfl (fun K hK=>?_)
  go_simp
  go_at_call 223
  refine zcm (zB2 (HGE.out.to B4) HEL.out _ _ (okU HDP.out.1) (okU HDP.out.2)) ?_
  rintro e5 wE5 ⟨⟨r5,rfl⟩,g5,k5,z5⟩
  have K5:=zh (show ∀z,(fun z=>z=wr.heap.size) z->wE5.heap[z]? =w2.heap[z]? from fun z hz=>(k5 z hz).trans (B4.block z (HGE.out.kl z hz)))
  have G5:=zh g5
  clear k5 g5 hHeld
  refine hK.out _ _ (HS _ K5.out) (fun hHeld=>?_)
  clear hK K
  refine wpAnyH_done (by kernel_rfl) ?_ _
  clear hHeld HS B3 B4 z5
  go_wp2
  go_roundw
  case rel=>exact ⟨k+1,by omega,by go_num,(G5.out.cast (zGy HX.out).symm).add zbr fun z hz=>hz.elim⟩
  case measure=>simp [RowKit.intOf];omega
 obtain rfl:k=st.deposits.length:=by omega
 obtain ⟨wq,rfl⟩:∃wq,wq=wr:=⟨_,rfl⟩
 rw [List.take_length] at HG
 have x3:=(HG.out.bel.cell (p:=⟨w.heap.size,3,none⟩) qw0).trans (HC0.out 3 _ rfl)
 have HSF:=zh (show Sl 7 ZE (fun z=>z < w.heap.size) w (.slice st_A3 st.folders.length st_c3) st.folders from ⟨_,_,rfl,st_folders_l,st_folders_m,st_folders_n,st_folders_s⟩)
 clear hk hlt
 go_wp2_with fail
 clear x3
 refine zcm (zAh st.folders _ wq (fun z=>z < w.heap.size) (HSF.out.keep z02 (by decide) (zH (zB HB0.out HG.out.bel))) HOK.out.nf) ?_
 rintro e w1 ⟨⟨v',ps,rfl,hrow,hps,hpr,hob⟩,B1⟩
 have HG2:=zh (show GrW w0 (fun z=>v'.ownBlock=some z) (z04 st.deposits++((ps.map (·.2)).take 0).flatMap z0l) w1 t from (HG.out.cast (by simp)).add B1 fun z hz=> .inr ⟨hob z hz,hrow.lt z hz⟩)
 obtain ⟨Av,cv,rfl,-⟩:=hrow.shape
 rw [List.length_map] at HG2 hrow⊢
 have hpl:ps.length<=1000:=by
  have h1:ps.length=(ZF Folder.name st.folders).length:=by rw [<-hps,List.length_map]
  rw [h1]
  exact Nat.le_trans (z4h _ _) HOK.out.nf
 have HROW:=zh hrow
 have HPS:=zh hps
 have HPR:=zh hpr
 have HBQ:=zh HG.out.bel
 clear hrow hps hpr hob B1 HG
 go_wp2
 go_loopw [35] (fun i wr2=>∃k:Nat,k<=ps.length/\i= .int .i64 k/\Hid (GrW w0 (fun z=>(Value.slice Av ps.length cv).ownBlock=some z) (z04 st.deposits++((ps.map (·.2)).take k).flatMap z0l) wr2 t)/\Hid (RowC 74 7 wr2 (.slice Av ps.length cv) (ps.map (·.1)))) (fun i _=>ps.length - (RowKit.intOf i).toNat)
 case atStart=>exact ⟨0,by omega,by go_num,HG2,HROW⟩
 clear HG2 HROW
 obtain ⟨wr2,rfl⟩:∃x,x=wr:=⟨_,rfl⟩
 obtain ⟨k,hk,rfl,HG,HROW⟩:=hrel
 by_cases hlt:k < ps.length
 rotate_left
 ·obtain rfl:k=ps.length:=by omega
  obtain ⟨_,B,h1,h2,h3⟩:=HG.out.ex
  have HE:z04 st.deposits++((ps.map (·.2)).take ps.length).flatMap z0l=z3h st:=by
   rw [List.take_of_length_le (Nat.le_of_eq (List.length_map _)),HPS.out]
   rfl
  rw [HE] at h1 h2
  have HFIN:=zh (show Gr (z3h st) 3000 wr2 t B/\(∀z,B z->w.heap.size<=z)/\Below w.heap.size w wr2 from ⟨h1.mono (by have:=HOK.out.few;omega),fun z hz=>Nat.le_trans HB0.out.size (h3 z hz).1,zB HB0.out HG.out.bel⟩)
  clear h1 h2 h3 HE HG HROW
  go_wp2
  go_ret
  exact ⟨⟨t,B,rfl,HFIN.out.1,HFIN.out.2.1⟩,HFIN.out.2.2⟩
 obtain ⟨⟨pc,x⟩,hp⟩:∃p,ps[k]? =some p:=⟨_,List.getElem?_eq_getElem hlt⟩
 have hR:=HPR.out _ (zmg hp)
 dsimp only at hR
 obtain ⟨g,off,cap,hv,-,hcm,-,hcz,-⟩:=HROW.out.at (i:=k) (x:=pc) (by rw [List.getElem?_map,hp];rfl)
 unfold maxLen at hcm
 obtain ⟨rfl,-,rfl⟩:Av=some ⟨g,off,none⟩/\ps.length=(ps.map (·.1)).length/\cv=cap:=by simpa using hv
 have HR:=zh hR
 have HP:=zh hp
 obtain ⟨x_A2,x_c2,x_A3,x_c3,x_A4,x_c4,x_A5,x_c5,x_A6,x_c6,rfl,_,_,_,_,_,x_manifests_s,_,_,_,x_epochs_s,_,_,_,x_items_s,_,_,_,x_wraps_s,_,_,_,x_links_s⟩:=Z5 hR
 have u0:=hcz 0 _ rfl
 have u1:=hcz 1 _ rfl
 have u2:=hcz 2 _ rfl
 have u3:=hcz 3 _ rfl
 have u4:=hcz 4 _ rfl
 have u5:=hcz 5 _ rfl
 have u6:=hcz 6 _ rfl
 rw [Nat.add_zero] at u0
 have hki:(k:Int) < (ps.length:Int):=by omega
 have HXF:=zh (show x∈st.folders from zAz Folder.name _ _ (by rw [<-HPS.out];exact List.mem_map.2 ⟨_,zmg HP.out,rfl⟩))
 obtain ⟨E0,hE0⟩:∃E0,E0=z04 st.deposits++((ps.map (·.2)).take k).flatMap z0l:=⟨_,rfl⟩
 rw [<-hE0] at HG
 have HE1:=zh (show z04 st.deposits++((ps.map (·.2)).take (k+1)).flatMap z0l=E0++z0l x by
  rw [List.take_add_one,List.getElem?_map,HP.out,hE0]
  simp)
 have HTOT:=zh (show E0.length+(x.epochs.length - 1+((ZF Wrap.name x.wraps).length+x.links.length))<=1000 by
  have h1:=zE3 z0l (show (ps.map (·.2))[k]? =some x by rw [List.getElem?_map,HP.out];rfl)
  have h2:=zD5 st
  have h3:=HOK.out.few
  rw [HPS.out] at h1
  rw [hE0,List.length_append,HPS.out]
  rw [zB4] at h1
  omega)
 obtain ⟨w3,hw3,cw3,fw3,Bw3,qw3⟩:=zO wr2 #[.string x.name,.int .i64 x.turn,.slice x_A2 x.manifests.length x_c2,.slice x_A3 x.epochs.length x_c3,.slice x_A4 x.items.length x_c4,.slice x_A5 x.wraps.length x_c5,.slice x_A6 x.links.length x_c6] 74
 obtain ⟨K3,hK3⟩:∃K3:Nat->Prop,K3=fun z=>(Value.slice (some ⟨g,off,none⟩) ps.length cv).ownBlock=some z\/z=wr2.heap.size:=⟨_,rfl⟩
 have HK3:=zh (show K3 wr2.heap.size by rw [hK3];exact .inr rfl)
 have HK3':=zh (show ∀z,(Value.slice (some ⟨g,off,none⟩) ps.length cv).ownBlock=some z->K3 z from fun z hz=>by rw [hK3];exact .inl hz)
 have HG3:=zh (show GrW w0 K3 (E0++z2a x.name 0) w3 t from (HG.out.cast (by simp [z2a])).add Bw3 fun z hz=>by
  rw [hK3] at hz
  rcases hz with hz | rfl
  ·exact .inl hz
  ·exact .inr ⟨znl _,qw3⟩)
 have HT3:=zh (show w3.heap[wr2.heap.size]? =some (.cells #[.string x.name,.int .i64 x.turn,.slice x_A2 x.manifests.length x_c2,.slice x_A3 x.epochs.length x_c3,.slice x_A4 x.items.length x_c4,.slice x_A5 x.wraps.length x_c5,.slice x_A6 x.links.length x_c6] 74 (0,0)) by rw [<-hw3];exact zJ _ rfl)
 have HR3:=zh (HROW.out.below Bw3)
 have hel:x.epochs.length<=1001:=by have:=HTOT.out;omega
 clear hcz hp hE0 cw3 fw3 Bw3 hK3 HG HROW x_manifests_s x_epochs_s x_items_s x_wraps_s x_links_s
 go_wp2
 clear hw3 u0 u1 u2 u3 u4 u5 u6
 go_loopw [8] (fun e wr3=>∃n:Nat,n<=x.epochs.length - 1/\e= .int .i64 ((n:Int)+2)/\Hid (GrW w0 K3 (E0++z2a x.name n) wr3 t)/\Hid (∀z,K3 z->wr3.heap[z]? =w3.heap[z]?)) (fun e _=>x.epochs.length+2 - (RowKit.intOf e).toNat)
 case atStart=>exact ⟨0,Nat.zero_le _,rfl,HG3,fun z _=>rfl⟩
 clear HG3
 obtain ⟨n,hn,rfl,HG,HSAME⟩:=hrel
 have hT:=(HSAME.out _ HK3.out).trans HT3.out
 have b0:=(zD hT).1 0 _ rfl
 have b3:=(zD hT).1 3 _ rfl
 have b5:=(zD hT).1 5 _ rfl
 have hnl:n<=1001:=by omega
 have HTT:=HTOT.out
 by_cases hlt:n+2<=x.epochs.length
 ·have hle:(n:Int)+2<=(x.epochs.length:Int):=by omega
  have hw1:IntKind.i64.wrap ((n:Int)+2 - 1)=(n:Int)+1:=by rw [IntWalk.i64_in _ (by omega)];omega
  have hw2:IntKind.i64.wrap ((n:Int)+2+1)=(n:Int)+1+2:=by rw [IntWalk.i64_in _ (by omega)];omega
  have HEL:=zh (show (E0++z2a x.name n).length<=1500 by rw [List.length_append,z7m];omega)
  have HGE:=HG
  have HNM:=zh (HOK.out.fol x HXF.out).1
  have HI1:=zh (show I64 ((n:Int)+2)/\I64 ((n:Int)+1) by unfold I64;omega)
  have HB0':=zh hT
  clear hT HG
  go_wp2
  have HSP:∀W:World,(∀z,K3 z->W.heap[z]? =wr.heap[z]?)->(fun W:World=>W.cell? ⟨wr2.heap.size,0,none⟩=some (.string x.name)) W:=fun W hW=>(World.cell?_of_block (hW _ HK3.out)).trans b0
  have HS:∀W:World,(∀z,(K3) z->W.heap[z]? =wr.heap[z]?)->(fun W:World=>W.cell? ⟨wr2.heap.size,0,none⟩=some (.string x.name)) W:=HSP
  refine wp_region_held_drew (S:=fun W:World=>W.cell? ⟨wr2.heap.size,0,none⟩=some (.string x.name)) (by kernel_rfl) (HS _ fun z _=>rfl) (fun hHeld=>?_)
  refine zi 0 ?_
  iterate 4 (refine zt _ rfl (by kernel_rfl) rfl (fun _ _ _ h=>h) hHeld (by intro W' h;go_simp;try with_reducible rfl) ?_;simp only [zA])
  refine zo ?_
  refine zi 5 ?_
  iterate 4 (refine zt _ rfl (by kernel_rfl) rfl (fun _ _ _ h=>h) hHeld (by intro W' h;go_simp;try with_reducible rfl) ?_;simp only [zA])
  refine zo ?_
  refine zr 4 (by kernel_rfl) rfl (fun K hK=>?_)
  go_simp
  go_at_call 226
  refine zcm (z3p _ _ _) ?_
  rintro e3 wE3 ⟨rfl,b3⟩
  have B3:Below wr.heap.size wr wE3:=zB zbr.drew b3
  clear b3 hHeld
  refine hK.out _ _ (HS _ fun z hz=>B3.block z (HGE.out.kl z hz)) (fun hHeld=>?_)
  clear hK K
  refine zr 9 (by kernel_rfl) rfl (fun K hK=>?_)
  go_simp
  go_at_call 226
  refine zcm (z3p _ _ _) ?_
  rintro e4 wE4 ⟨rfl,b4⟩
  have B4:Below wr.heap.size wr wE4:=zB B3 b4
  clear b4 hHeld
  refine hK.out _ _ (HS _ fun z hz=>B4.block z (HGE.out.kl z hz)) (fun hHeld=>?_)
  clear hK K
  refine zr 10 (by kernel_rfl) rfl (fun K hK=>?_)
  go_simp
  go_at_call 223
  refine zcm (zB2 (HGE.out.to B4) HEL.out _ _ (okE HNM.out HI1.out.1) (okE HNM.out HI1.out.2)) ?_
  rintro e5 wE5 ⟨⟨r5,rfl⟩,g5,k5,z5⟩
  have K5:=zh (show ∀z,(K3) z->wE5.heap[z]? =wr.heap[z]? from fun z hz=>(k5 z hz).trans (B4.block z (HGE.out.kl z hz)))
  have G5:=zh g5
  clear k5 g5 hHeld
  refine hK.out _ _ (HS _ K5.out) (fun hHeld=>?_)
  clear hK K
  refine wpAnyH_done (by kernel_rfl) ?_ _
  clear hHeld HS B3 B4 z5
  go_wp2
  go_roundw
  case rel=>exact ⟨n+1,by omega,by go_num,G5.out.cast (by rw [zGz,List.append_assoc]),fun z hz=>(K5.out z hz).trans (HSAME.out z hz)⟩
  case measure=>simp [RowKit.intOf];omega
 have hle:¬(n:Int)+2<=(x.epochs.length:Int):=by omega
 have hnx:n=x.epochs.length - 1:=by omega
 obtain ⟨w4,rfl⟩:∃q,q=wr:=⟨_,rfl⟩
 have HSW:=zh (show Sl 3 yW (fun z=>z < w.heap.size) w4 (.slice x_A5 x.wraps.length x_c5) x.wraps from by
  obtain ⟨_,_,_,_,_,e,h1,h2,h3,_,_,h6,_⟩:=zMy HR.out HB0.out.size HBQ.out HG.out.bel
  simp only [List.cons.injEq] at e
  obtain ⟨_,_,_,_,_,rfl,_⟩:=e
  exact h6)
 subst hnx
 clear hn hT hlt
 go_wp2_with fail
 clear b0 b3 b5
 refine zcm (zD4 x.wraps _ w4 (fun z=>z < w.heap.size) HSW.out (HOK.out.fol x HXF.out).2.2.2) ?_
 rintro e w5 ⟨⟨vw,qs,rfl,qrow,hqs,hqr,hqb⟩,B5⟩
 obtain ⟨E1,hE1⟩:∃E1,E1=E0++z2a x.name (x.epochs.length - 1):=⟨_,rfl⟩
 have HE1L:=zh (show E1.length=E0.length+(x.epochs.length - 1) by rw [hE1,List.length_append,z7m])
 have HEE:=zh hE1
 obtain ⟨K4,hK4⟩:∃K4:Nat->Prop,K4=fun z=>K3 z\/vw.ownBlock=some z:=⟨_,rfl⟩
 have HK4:=zh (show ∀z,K3 z->K4 z from fun z hz=>by rw [hK4];exact .inl hz)
 have HK4':=zh (show ∀z,vw.ownBlock=some z->K4 z from fun z hz=>by rw [hK4];exact .inr hz)
 have HG4:=zh (show GrW w0 K4 (E1++z03 x ((qs.map (·.2)).take 0)) w5 t from (HG.out.cast (by simp [z03,hE1])).add B5 fun z hz=>by
  rw [hK4] at hz
  rcases hz with hz | hz
  ·exact .inl hz
  ·exact .inr ⟨hqb z hz,qrow.lt z hz⟩)
 have HS4:=zh (show ∀z,K3 z->w5.heap[z]? =w3.heap[z]? from fun z hz=>(B5.block z (HG.out.kl z hz)).trans (HSAME.out z hz))
 obtain ⟨Aw,cw,rfl,-⟩:=qrow.shape
 rw [List.length_map] at qrow HK4'⊢
 have hql:qs.length=(ZF Wrap.name x.wraps).length:=by rw [<-hqs,List.length_map]
 have HBW:=zh HG.out.bel
 have HQR:=zh hqr
 have HQS:=zh hqs
 have HQW:=zh qrow
 have hql2:qs.length<=1000:=by rw [hql];omega
 have HQL:=zh hql
 have HT5:=zh ((HS4.out _ HK3.out).trans HT3.out)
 clear hK4 hE1 HG HSAME qrow hqs hqr hqb B5 hql
 go_wp2
 go_loopw [61] (fun i wr4=>∃j:Nat,j<=qs.length/\i= .int .i64 j/\Hid (GrW w0 K4 (E1++z03 x ((qs.map (·.2)).take j)) wr4 t)/\Hid (∀z,K4 z->wr4.heap[z]? =w5.heap[z]?)) (fun i _=>qs.length - (RowKit.intOf i).toNat)
 case atStart=>exact ⟨0,by omega,by go_num,HG4,fun z _=>rfl⟩
 clear HG4
 obtain ⟨wr4,rfl⟩:∃q,q=wr:=⟨_,rfl⟩
 obtain ⟨j,hj,rfl,HG,HSAME⟩:=hrel
 by_cases hlt:j < qs.length
 rotate_left
 ·obtain rfl:j=qs.length:=by omega
  have HGL:=zh (show GrW w0 K3 (E1++z03 x (ZF Wrap.name x.wraps)++z29 x (x.links.take 0)) wr4 t from (HG.out.cast (by rw [<-HQS.out,List.take_of_length_le (Nat.le_of_eq (List.length_map _))];simp [z29])).add zbr fun z hz=> .inl (HK4.out z hz))
  have HSL:=zh (show ∀z,K3 z->wr4.heap[z]? =w3.heap[z]? from fun z hz=>(HSAME.out z (HK4.out z hz)).trans (HS4.out z hz))
  have b6:=(zD ((HSL.out _ HK3.out).trans HT3.out)).1 6 _ rfl
  clear HG HSAME hj hlt
  go_wp2
  clear b6
  go_loopw [85] (fun i wr5=>∃q:Nat,q<=x.links.length/\i= .int .i64 q/\Hid (GrW w0 K3 (E1++z03 x (ZF Wrap.name x.wraps)++z29 x (x.links.take q)) wr5 t)/\Hid (∀z,K3 z->wr5.heap[z]? =w3.heap[z]?)) (fun i _=>x.links.length - (RowKit.intOf i).toNat)
  case atStart=>exact ⟨0,by omega,by go_num,HGL,HSL⟩
  clear HGL HSL
  obtain ⟨wr5,rfl⟩:∃q,q=wr:=⟨_,rfl⟩
  obtain ⟨q,hq,rfl,HG,HSAME⟩:=hrel
  by_cases hlt:q < x.links.length
  rotate_left
  ·obtain rfl:q=x.links.length:=by omega
   have HEND:=zh (show GrW w0 (fun z=>(Value.slice (some ⟨g,off,none⟩) ps.length cv).ownBlock=some z) (z04 st.deposits++((ps.map (·.2)).take (k+1)).flatMap z0l) wr5 t from (HG.out.cast (by rw [HE1.out,HEE.out,List.take_length];simp [z0l])).add zbr fun z hz=> .inl (HK3'.out z hz))
   have HRE:=zh (HR3.out.keep (w':=wr5) fun b hb=>HSAME.out b (HK3'.out b hb))
   clear HG HSAME
   go_wp2
   go_roundw
   case rel=>
    have HF:∃j':Nat,j'<=ps.length/\Value.int .i64 ((k:Int)+1)= .int .i64 j'/\Hid (GrW w0 (fun z=>(Value.slice (some ⟨g,off,none⟩) ps.length cv).ownBlock=some z) (z04 st.deposits++((ps.map (·.2)).take j').flatMap z0l) wr5 t)/\Hid (RowC 74 7 wr5 (.slice (some ⟨g,off,none⟩) ps.length cv) (ps.map (·.1))):=⟨k+1,by omega,by go_num,HEND,HRE⟩
    first | exact HF | ((repeat apply Exists.intro);refine ⟨HF,?_⟩;first | rfl | ((repeat' apply And.intro)<;>rfl) | (simp;(repeat' apply And.intro)<;>rfl))
   case measure=>simp [RowKit.intOf];omega
  obtain ⟨y,hy⟩:∃y,x.links[q]? =some y:=⟨_,List.getElem?_eq_getElem hlt⟩
  obtain ⟨b,o,ys,hA,hbl,hRL,hcz⟩:=SlAt.elem (wr:=wr5) (zMz (zMy HR.out HB0.out.size HBQ.out HG.out.bel)) hy (by decide) zbr
  subst hA
  obtain ⟨rfl,y_epoch_ok,_,y_seq_ok⟩:=z59 hRL
  have u0:=hcz 0 _ rfl
  have u1:=hcz 1 _ rfl
  have u2:=hcz 2 _ rfl
  rw [Nat.add_zero] at u0
  have hqi:(q:Int) < (x.links.length:Int):=by omega
  have HYM:=zh (zmg hy)
  have HNXT:=zh (zH1 x hy)
  obtain ⟨w6,hw6,cw6,fw6,Bw6,qw6⟩:=zO wr5 #[.int .i64 y.epoch,.string y.to,.int .i64 y.seq] 151
  obtain ⟨K6,hK6⟩:∃K6:Nat->Prop,K6=fun z=>K3 z\/z=wr5.heap.size:=⟨_,rfl⟩
  have HK6:=zh (show K6 wr5.heap.size by rw [hK6];exact .inr rfl)
  have HK63:=zh (show ∀z,K3 z->K6 z from fun z hz=>by rw [hK6];exact .inl hz)
  have HGE:=zh (show GrW w0 K6 (E1++z03 x (ZF Wrap.name x.wraps)++z29 x (x.links.take q)) w6 t from HG.out.add Bw6 fun z hz=>by
   rw [hK6] at hz
   rcases hz with hz | rfl
   ·exact .inl hz
   ·exact .inr ⟨znl _,qw6⟩)
  have HS6:=zh (show ∀z,K3 z->w6.heap[z]? =w3.heap[z]? from fun z hz=>(Bw6.block z (HG.out.kl z hz)).trans (HSAME.out z hz))
  have HT6:=zh ((HS6.out _ HK3.out).trans HT3.out)
  have HD:=zh (show w6.heap[wr5.heap.size]? =some (.cells #[.int .i64 y.epoch,.string y.to,.int .i64 y.seq] 151 (0,0)) by rw [<-hw6];exact zJ _ rfl)
  have HEL:=zh (show (E1++z03 x (ZF Wrap.name x.wraps)++z29 x (x.links.take q)).length<=1500 by
   rw [List.length_append,List.length_append,z7n,zB3,HE1L.out]
   have:=HTOT.out
   have:=zAi x.links q
   omega)
  have HNM:=zh (HOK.out.fol x HXF.out).1
  have HYN:=zh ((HOK.out.fol x HXF.out).2.2.1 y HYM.out)
  have HYI:=zh (show I64 y.epoch/\I64 y.seq from ⟨y_epoch_ok,y_seq_ok⟩)
  have HSQ:=zh (show ∀W:World,(∀z,K6 z->W.heap[z]? =w6.heap[z]?)->(fun W:World=>W.cell? ⟨wr5.heap.size,0,none⟩=some (.int .i64 y.epoch)/\W.cell? ⟨wr5.heap.size,1,none⟩=some (.string y.to)/\W.cell? ⟨wr5.heap.size,2,none⟩=some (.int .i64 y.seq)/\W.cell? ⟨wr2.heap.size,0,none⟩=some (.string x.name)) W from fun W hW=>⟨(zD ((hW _ HK6.out).trans HD.out)).1 0 _ rfl,(zD ((hW _ HK6.out).trans HD.out)).1 1 _ rfl,(zD ((hW _ HK6.out).trans HD.out)).1 2 _ rfl,(zD ((hW _ (HK63.out _ HK3.out)).trans HT6.out)).1 0 _ rfl⟩)
  clear hcz hy cw6 fw6 Bw6 hK6 HG y_epoch_ok y_seq_ok
  go_wp2
  have HSP:=HSQ.out
  have HS:∀W:World,(∀z,(K6) z->W.heap[z]? =w6.heap[z]?)->(fun W:World=>W.cell? ⟨wr5.heap.size,0,none⟩=some (.int .i64 y.epoch)/\W.cell? ⟨wr5.heap.size,1,none⟩=some (.string y.to)/\W.cell? ⟨wr5.heap.size,2,none⟩=some (.int .i64 y.seq)/\W.cell? ⟨wr2.heap.size,0,none⟩=some (.string x.name)) W:=HSP
  refine wp_region_held_drew (S:=fun W:World=>W.cell? ⟨wr5.heap.size,0,none⟩=some (.int .i64 y.epoch)/\W.cell? ⟨wr5.heap.size,1,none⟩=some (.string y.to)/\W.cell? ⟨wr5.heap.size,2,none⟩=some (.int .i64 y.seq)/\W.cell? ⟨wr2.heap.size,0,none⟩=some (.string x.name)) (by kernel_rfl) (HS _ fun z _=>rfl) (fun hHeld=>?_)
  refine zi 0 ?_
  iterate 5 (refine zt _ rfl (by kernel_rfl) rfl (fun _ _ _ h=>h) hHeld (by intro W' h;go_simp;try with_reducible rfl) ?_;simp only [zA])
  refine zo ?_
  refine zi 6 ?_
  iterate 4 (refine zt _ rfl (by kernel_rfl) rfl (fun _ _ _ h=>h) hHeld (by intro W' h;go_simp;try with_reducible rfl) ?_;simp only [zA])
  refine zo ?_
  refine zr 5 (by kernel_rfl) rfl (fun K hK=>?_)
  go_simp
  go_at_call 226
  refine zcm (z3p _ _ _) ?_
  rintro e3 wE3 ⟨rfl,b3⟩
  have B3:Below w6.heap.size w6 wE3:=zB zbr.drew b3
  clear b3 hHeld
  refine hK.out _ _ (HS _ fun z hz=>B3.block z (HGE.out.kl z hz)) (fun hHeld=>?_)
  clear hK K
  refine zr 10 (by kernel_rfl) rfl (fun K hK=>?_)
  go_simp
  go_at_call 226
  refine zcm (z3p _ _ _) ?_
  rintro e4 wE4 ⟨rfl,b4⟩
  have B4:Below w6.heap.size w6 wE4:=zB B3 b4
  clear b4 hHeld
  refine hK.out _ _ (HS _ fun z hz=>B4.block z (HGE.out.kl z hz)) (fun hHeld=>?_)
  clear hK K
  refine zr 11 (by kernel_rfl) rfl (fun K hK=>?_)
  go_simp
  go_at_call 223
  refine zcm (zB2 (HGE.out.to B4) HEL.out _ _ (okE HYN.out HYI.out.2) (okE HNM.out HYI.out.1)) ?_
  rintro e5 wE5 ⟨⟨r5,rfl⟩,g5,k5,z5⟩
  have K5:=zh (show ∀z,(K6) z->wE5.heap[z]? =w6.heap[z]? from fun z hz=>(k5 z hz).trans (B4.block z (HGE.out.kl z hz)))
  have G5:=zh g5
  clear k5 g5 hHeld
  refine hK.out _ _ (HS _ K5.out) (fun hHeld=>?_)
  clear hK K
  refine wpAnyH_done (by kernel_rfl) ?_ _
  clear hHeld HS B3 B4 z5
  go_wp2
  go_roundw
  case rel=>
   have HF:∃j':Nat,j'<=x.links.length/\Value.int .i64 ((q:Int)+1)= .int .i64 j'/\Hid (GrW w0 K3 (E1++z03 x (ZF Wrap.name x.wraps)++z29 x (x.links.take j')) wE5 t)/\Hid (∀z,K3 z->wE5.heap[z]? =w3.heap[z]?):=⟨q+1,by omega,by go_num,(G5.out.cast (by rw [HNXT.out,List.append_assoc])).add zbr fun z hz=> .inl (HK63.out z hz),fun z hz=>(K5.out z (HK63.out z hz)).trans (HS6.out z hz)⟩
   first | exact HF | ((repeat apply Exists.intro);refine ⟨HF,?_⟩;first | rfl | ((repeat' apply And.intro)<;>rfl) | (simp;(repeat' apply And.intro)<;>rfl))
  case measure=>simp [RowKit.intOf];omega
 obtain ⟨⟨qc,y⟩,hq⟩:∃p,qs[j]? =some p:=⟨_,List.getElem?_eq_getElem hlt⟩
 have hR2:=HQR.out _ (zmg hq)
 dsimp only at hR2
 obtain ⟨g2,off2,cap2,hv2,-,hcm2,-,hcz2,-⟩:=(HQW.out.keep (w':=wr4) fun b hb=>HSAME.out b (HK4'.out b hb)).at (i:=j) (x:=qc) (by rw [List.getElem?_map,hq];rfl)
 unfold maxLen at hcm2
 obtain ⟨rfl,-,rfl⟩:Aw=some ⟨g2,off2,none⟩/\qs.length=(qs.map (·.1)).length/\cw=cap2:=by simpa using hv2
 have HQ:=zh hq
 obtain ⟨rfl,_,y_epoch_ok⟩:=z2g hR2
 have u0:=hcz2 0 _ rfl
 have u1:=hcz2 1 _ rfl
 have u2:=hcz2 2 _ rfl
 obtain ⟨sd,hsd⟩:∃sd,y.seed=sd:=⟨_,rfl⟩
 rw [hsd] at u2
 have HSD:=zh hsd
 clear hsd
 rw [Nat.add_zero] at u0
 have hji:(j:Int) < (qs.length:Int):=by omega
 have HYM:=zh (show y∈x.wraps from zAz Wrap.name _ _ (by rw [<-HQS.out];exact List.mem_map.2 ⟨_,zmg HQ.out,rfl⟩))
 obtain ⟨w6,hw6,cw6,fw6,Bw6,qw6⟩:=zO wr4 #[.string y.name,.int .i64 y.epoch,.bool sd] 149
 obtain ⟨K6,hK6⟩:∃K6:Nat->Prop,K6=fun z=>K4 z\/z=wr4.heap.size:=⟨_,rfl⟩
 have HK6:=zh (show K6 wr4.heap.size by rw [hK6];exact .inr rfl)
 have HK64:=zh (show ∀z,K4 z->K6 z from fun z hz=>by rw [hK6];exact .inl hz)
 have HG6:=zh (show GrW w0 K6 (E1++z03 x ((qs.map (·.2)).take j)) w6 t from HG.out.add Bw6 fun z hz=>by
  rw [hK6] at hz
  rcases hz with hz | rfl
  ·exact .inl hz
  ·exact .inr ⟨znl _,qw6⟩)
 have HS6:=zh (show ∀z,K4 z->w6.heap[z]? =w5.heap[z]? from fun z hz=>(Bw6.block z (HG.out.kl z hz)).trans (HSAME.out z hz))
 have hT:=(HS6.out _ (HK4.out _ HK3.out)).trans HT5.out
 have HT6:=zh hT
 obtain ⟨b0,b1,b2,b3,b4,b5,b6⟩:=zC7 (zD hT).1
 have d1:=cw6 1 _ rfl
 have d2:=cw6 2 _ rfl
 have HD:=zh (show w6.heap[wr4.heap.size]? =some (.cells #[.string y.name,.int .i64 y.epoch,.bool sd] 149 (0,0)) by rw [<-hw6];exact zJ _ rfl)
 have HEL:=zh (show (E1++z03 x ((qs.map (·.2)).take j)).length<=1500 by
  rw [List.length_append,z7n,List.length_take,List.length_map,HE1L.out]
  have:=HTOT.out
  have:=HQL.out
  omega)
 have HNM:=zh (HOK.out.fol x HXF.out).1
 have HYN:=zh ((HOK.out.fol x HXF.out).2.1 y HYM.out)
 have HYI:=zh y_epoch_ok
 have HXR:=zh (zMy HR.out HB0.out.size HBQ.out HG6.out.bel)
 have HLA:=zh (zMx x y.epoch HYI.out _ w6 _ HXR.out)
 have HWE:=zh (show I64 (z1t x.epochs y) from zN0 hel HYI.out)
 have HNXT:=zh (zH0 x (show (qs.map (·.2))[j]? =some y by rw [List.getElem?_map,HQ.out];rfl))
 clear hcz2 hq cw6 fw6 Bw6 hK6 HG hT y_epoch_ok
 go_wp2_with fail
 ·obtain rfl:sd=true:=by assumption
  have HWV:=zh (show z1t x.epochs y=yT x.epochs y.epoch by unfold z1t;rw [HSD.out];rfl)
  rw [HWV.out] at HWE HNXT
  refine zcm HLA.out ?_
  rintro e w7 ⟨rfl,B7⟩
  have HGE:=zh (HG6.out.to B7)
  have HSP:∀W:World,(∀z,K6 z->W.heap[z]? =w7.heap[z]?)->(fun W:World=>W.cell? ⟨wr4.heap.size,0,none⟩=some (.string y.name)/\W.cell? ⟨wr2.heap.size,0,none⟩=some (.string x.name)) W:=fun W hW=>⟨(zD ((hW _ HK6.out).trans ((B7.block _ (HG6.out.kl _ HK6.out)).trans HD.out))).1 0 _ rfl,(zD ((hW _ (HK64.out _ (HK4.out _ HK3.out))).trans ((B7.block _ (HG6.out.kl _ (HK64.out _ (HK4.out _ HK3.out)))).trans HT6.out))).1 0 _ rfl⟩
  have HSQ:=zh HSP
  have HS7:=zh (show ∀z,K4 z->w7.heap[z]? =w5.heap[z]? from fun z hz=>(B7.block z (HG6.out.kl z (HK64.out z hz))).trans (HS6.out z hz))
  clear HSP HG6 B7 d1 d2 b0 b1 b2 b3 b4 b5 b6 hw6
  go_wp2
  have HSP:=HSQ.out
  have HS:∀W:World,(∀z,(K6) z->W.heap[z]? =w7.heap[z]?)->(fun W:World=>W.cell? ⟨wr4.heap.size,0,none⟩=some (.string y.name)/\W.cell? ⟨wr2.heap.size,0,none⟩=some (.string x.name)) W:=HSP
  refine wp_region_held_drew (S:=fun W:World=>W.cell? ⟨wr4.heap.size,0,none⟩=some (.string y.name)/\W.cell? ⟨wr2.heap.size,0,none⟩=some (.string x.name)) (by kernel_rfl) (HS _ fun z _=>rfl) (fun hHeld=>?_)
  refine zi 0 ?_
  iterate 3 (refine zt _ rfl (by kernel_rfl) rfl (fun _ _ _ h=>h) hHeld (by intro W' h;go_simp;try with_reducible rfl) ?_;simp only [zA])
  refine zo ?_
  refine zi 4 ?_
  iterate 3 (refine zt _ rfl (by kernel_rfl) rfl (fun _ _ _ h=>h) hHeld (by intro W' h;go_simp;try with_reducible rfl) ?_;simp only [zA])
  refine zo ?_
  refine zr 3 (by kernel_rfl) rfl (fun K hK=>?_)
  go_simp
  go_at_call 200
  refine zcm (z62 _ _) ?_
  rintro e3 wE3 ⟨rfl,b3⟩
  have B3:Below w7.heap.size w7 wE3:=zB zbr.drew b3
  clear b3 hHeld
  refine hK.out _ _ (HS _ fun z hz=>B3.block z (HGE.out.kl z hz)) (fun hHeld=>?_)
  clear hK K
  refine zr 7 (by kernel_rfl) rfl (fun K hK=>?_)
  go_simp
  go_at_call 226
  refine zcm (z3p _ _ _) ?_
  rintro e4 wE4 ⟨rfl,b4⟩
  have B4:Below w7.heap.size w7 wE4:=zB B3 b4
  clear b4 hHeld
  refine hK.out _ _ (HS _ fun z hz=>B4.block z (HGE.out.kl z hz)) (fun hHeld=>?_)
  clear hK K
  refine zr 8 (by kernel_rfl) rfl (fun K hK=>?_)
  go_simp
  go_at_call 223
  refine zcm (zB2 (HGE.out.to B4) HEL.out _ _ (okU HYN.out) (okE HNM.out HWE.out)) ?_
  rintro e5 wE5 ⟨⟨r5,rfl⟩,g5,k5,z5⟩
  have K5:=zh (show ∀z,(K6) z->wE5.heap[z]? =w7.heap[z]? from fun z hz=>(k5 z hz).trans (B4.block z (HGE.out.kl z hz)))
  have G5:=zh g5
  clear k5 g5 hHeld
  refine hK.out _ _ (HS _ K5.out) (fun hHeld=>?_)
  clear hK K
  refine wpAnyH_done (by kernel_rfl) ?_ _
  clear hHeld HS B3 B4 z5
  go_wp2
  go_roundw
  case rel=>
   have HF:∃j':Nat,j'<=qs.length/\Value.int .i64 ((j:Int)+1)= .int .i64 j'/\Hid (GrW w0 K4 (E1++z03 x ((qs.map (·.2)).take j')) wE5 t)/\Hid (∀z,K4 z->wE5.heap[z]? =w5.heap[z]?):=⟨j+1,by omega,by go_num,(G5.out.cast (by rw [HNXT.out,List.append_assoc])).add zbr fun z hz=> .inl (HK64.out z hz),fun z hz=>(K5.out z (HK64.out z hz)).trans (HS7.out z hz)⟩
   first | exact HF | ((repeat apply Exists.intro);refine ⟨HF,?_⟩;first | rfl | ((repeat' apply And.intro)<;>rfl) | (simp;(repeat' apply And.intro)<;>rfl))
  case measure=>simp [RowKit.intOf];omega
 obtain rfl:sd=false:=by assumption
 have HWV:=zh (show z1t x.epochs y=y.epoch by unfold z1t;rw [HSD.out];rfl)
 rw [HWV.out] at HWE HNXT
 have HGE:=HG6
 have HSP:∀W:World,(∀z,K6 z->W.heap[z]? =w6.heap[z]?)->(fun W:World=>W.cell? ⟨wr4.heap.size,0,none⟩=some (.string y.name)/\W.cell? ⟨wr2.heap.size,0,none⟩=some (.string x.name)) W:=fun W hW=>⟨(zD ((hW _ HK6.out).trans HD.out)).1 0 _ rfl,(zD ((hW _ (HK64.out _ (HK4.out _ HK3.out))).trans HT6.out)).1 0 _ rfl⟩
 clear HG6
 have HS:∀W:World,(∀z,(K6) z->W.heap[z]? =w6.heap[z]?)->(fun W:World=>W.cell? ⟨wr4.heap.size,0,none⟩=some (.string y.name)/\W.cell? ⟨wr2.heap.size,0,none⟩=some (.string x.name)) W:=HSP
 refine wp_region_held_drew (S:=fun W:World=>W.cell? ⟨wr4.heap.size,0,none⟩=some (.string y.name)/\W.cell? ⟨wr2.heap.size,0,none⟩=some (.string x.name)) (by kernel_rfl) (HS _ fun z _=>rfl) (fun hHeld=>?_)
 refine zi 0 ?_
 iterate 3 (refine zt _ rfl (by kernel_rfl) rfl (fun _ _ _ h=>h) hHeld (by intro W' h;go_simp;try with_reducible rfl) ?_;simp only [zA])
 refine zo ?_
 refine zi 4 ?_
 iterate 3 (refine zt _ rfl (by kernel_rfl) rfl (fun _ _ _ h=>h) hHeld (by intro W' h;go_simp;try with_reducible rfl) ?_;simp only [zA])
 refine zo ?_
 refine zr 3 (by kernel_rfl) rfl (fun K hK=>?_)
 go_simp
 go_at_call 200
 refine zcm (z62 _ _) ?_
 rintro e3 wE3 ⟨rfl,b3⟩
 have B3:Below w6.heap.size w6 wE3:=zB zbr.drew b3
 clear b3 hHeld
 refine hK.out _ _ (HS _ fun z hz=>B3.block z (HGE.out.kl z hz)) (fun hHeld=>?_)
 clear hK K
 refine zr 7 (by kernel_rfl) rfl (fun K hK=>?_)
 go_simp
 go_at_call 226
 refine zcm (z3p _ _ _) ?_
 rintro e4 wE4 ⟨rfl,b4⟩
 have B4:Below w6.heap.size w6 wE4:=zB B3 b4
 clear b4 hHeld
 refine hK.out _ _ (HS _ fun z hz=>B4.block z (HGE.out.kl z hz)) (fun hHeld=>?_)
 clear hK K
 refine zr 8 (by kernel_rfl) rfl (fun K hK=>?_)
 go_simp
 go_at_call 223
 refine zcm (zB2 (HGE.out.to B4) HEL.out _ _ (okU HYN.out) (okE HNM.out HWE.out)) ?_
 rintro e5 wE5 ⟨⟨r5,rfl⟩,g5,k5,z5⟩
 have K5:=zh (show ∀z,(K6) z->wE5.heap[z]? =w6.heap[z]? from fun z hz=>(k5 z hz).trans (B4.block z (HGE.out.kl z hz)))
 have G5:=zh g5
 clear k5 g5 hHeld
 refine hK.out _ _ (HS _ K5.out) (fun hHeld=>?_)
 clear hK K
 refine wpAnyH_done (by kernel_rfl) ?_ _
 clear hHeld HS B3 B4 z5
 go_wp2
 go_roundw
 case rel=>
  have HF:∃j':Nat,j'<=qs.length/\Value.int .i64 ((j:Int)+1)= .int .i64 j'/\Hid (GrW w0 K4 (E1++z03 x ((qs.map (·.2)).take j')) wE5 t)/\Hid (∀z,K4 z->wE5.heap[z]? =w5.heap[z]?):=⟨j+1,by omega,by go_num,(G5.out.cast (by rw [HNXT.out,List.append_assoc])).add zbr fun z hz=> .inl (HK64.out z hz),fun z hz=>(K5.out z (HK64.out z hz)).trans (HS6.out z hz)⟩
  first | exact HF | ((repeat apply Exists.intro);refine ⟨HF,?_⟩;first | rfl | ((repeat' apply And.intro)<;>rfl) | (simp;(repeat' apply And.intro)<;>rfl))
 case measure=>simp [RowKit.intOf];omega
end
end Go.Proofs.YtdggplhnfhcieaaGreatDoor
