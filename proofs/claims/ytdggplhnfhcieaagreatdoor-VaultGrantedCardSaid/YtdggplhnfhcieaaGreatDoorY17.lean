/- Part 17 of the proof of vaultGranted_holds. No condition. -/
import Derived.Laws.ResultCell
import Derived.Maps.OwnOps
import Derived.StringKeys
import Derived.Test.YtdggplhnfhcieaaGreatDoorY15
set_option linter.unusedVariables false
set_option linter.unusedSimpArgs false
set_option linter.unusedSectionVars false
set_option maxRecDepth 100000
namespace Go.Proofs.YtdggplhnfhcieaaGreatDoor
section
open Go.RowKit Go.Deep Go.Maps
structure SrS (w0 w:World) (bm:Nat) (D:DataW Unit) (va vb:Value) (all:List GN) (bl:List (List Value)):Prop where
 own:w.ownsMap Tryz.prog 244 (plainElem Tryz.prog 3) bm all.length D
 idx:Idx D all
 row:RowC 244 3 w va (all.map cG)
 by_:RowC 3 1 w vb bl
 len:bl.length=all.length
 bmb:w0.heap.size<=bm
 ab:∀z,va.ownBlock=some z->w0.heap.size<=z
 bb:∀z,vb.ownBlock=some z->w0.heap.size<=z
 bel:Below w0.heap.size w0 w
theorem z0n {P:Program} {k:TypeId} {R:Value->Option (DataW Unit×List MemPlace)} {b n:Nat} {D:DataW Unit} {w w':World} (h:w.ownsMap P k R b n D) (hb:Below w.heap.size w w'):w'.ownsMap P k R b n D:=by
 have hl:=h.lt
 obtain ⟨es,clock,h1,h2⟩:=h
 exact ⟨es,clock,(hb.block b hl).trans h1,h2⟩
theorem SrS.mono {w0 w w':World} {bm:Nat} {D:DataW Unit} {va vb:Value} {all:List GN} {bl:List (List Value)} (h:SrS w0 w bm D va vb all bl) (k:Below w.heap.size w w'):SrS w0 w' bm D va vb all bl:=
 ⟨z0n h.own k,h.idx,h.row.below k,h.by_.below k,h.len,h.bmb,h.ab,h.bb,zB h.bel k⟩
theorem SrS.push {w0 w W w1 w2 w3:World} {bm:Nat} {D:DataW Unit} {va vb va' vb':Value} {all:List GN} {bl:List (List Value)} {y:GN} {cs:List Value} (h:SrS w0 w bm D va vb all bl) (hy:OkG y) (hn:y∉all)
  (o1:w1.ownsMap Tryz.prog 244 (plainElem Tryz.prog 3) bm (all.length+1) (D.put (kG y) (.lit (.int .i64 all.length)))) (g1:W.grownBy w1 (some bm)) (B:Below w.heap.size w W)
  (p2:ButB (fun z=>va.ownBlock=some z) w1 w2) (r2:RowC 244 3 w2 va' (all.map cG++[cG y])) (q2:va'.ownBlock=va.ownBlock\/∃k,va'.ownBlock=some k/\w1.heap.size<=k)
  (p3:ButB (fun z=>vb.ownBlock=some z) w2 w3) (r3:RowC 3 1 w3 vb' (bl++[cs])) (q3:vb'.ownBlock=vb.ownBlock\/∃k,vb'.ownBlock=some k/\w2.heap.size<=k):
  SrS w0 w3 bm (D.put (kG y) (.lit (.int .i64 all.length))) va' vb' (all++[y]) (bl++[cs]):=by
 have p1:=ButB.row g1 B
 have na:∀z,va.ownBlock=some z->z≠bm:=fun z hz=>by
  obtain ⟨a,ha⟩:=y8 h.row hz
  exact z0z h.own ha
 have nb:∀z,vb.ownBlock=some z->z≠bm:=fun z hz=>by
  obtain ⟨a,ha⟩:=y8 h.by_ hz
  exact z0z h.own ha
 have by1:=h.by_.but p1 fun z hz e=>nb z hz (zsi e).symm
 have row1:=h.row.but p1 fun z hz e=>na z hz (zsi e).symm
 have by2:=by1.but p2 fun z hz e=>z10 row1 by1 (by decide) e hz
 have row3:=r2.but p3 fun z hz e=>z10 r2 by2 (by decide) hz e
 have own3:=z3i (z3i o1 p2 fun e=>na bm e rfl) p3 fun e=>nb bm e rfl
 have s0:=h.bel.size
 have s1:=p1.size
 have s2:=p2.size
 refine ⟨by simpa using own3,h.idx.put hy hn,by simpa using row3,r3,by simp [h.len],h.bmb,fun z hz=>?_,fun z hz=>?_,?_⟩
 ·rcases q2 with q | ⟨k,q,hk⟩
  ·exact h.ab z (q▸hz)
  obtain rfl:=zsi (q.symm.trans hz)
  omega
 ·rcases q3 with q | ⟨k,q,hk⟩
  ·exact h.bb z (q▸hz)
  obtain rfl:=zsi (q.symm.trans hz)
  omega
 exact ButB.below (B:=fun z=>vb.ownBlock=some z) (ButB.below (B:=fun z=>va.ownBlock=some z) (ButB.below (B:=fun z=>some bm=some z) h.bel s0 (fun k hk=>by obtain rfl:=zsi hk;exact h.bmb) p1) (by omega) h.ab p2) (by omega) h.bb p3
theorem zB1 {E:List (GN×GN)} {m k:Nat} {ns all:List GN} {adj:List (List Nat)} {s:GN} (h:Srch E s all k) (rep:GRep E m ns adj):all.length<=ns.length+1:=by
 refine zMs (s:=s) h.nodup fun x hx=>?_
 have:=h.sound x hx
 cases this with
 | refl=>exact .inl rfl
 | step _ he=>
  obtain ⟨_,_,_,_,h2,_,_⟩:=(rep.edge _ _).1 he
  exact .inr (zmg h2)
theorem SrS.rows {w0 w W w1:World} {bm:Nat} {D:DataW Unit} {va vb:Value} {all:List GN} {bl:List (List Value)} (h:SrS w0 w bm D va vb all bl) (g1:W.grownBy w1 (some bm)) (B:Below w.heap.size w W):RowC 244 3 w1 va (all.map cG)/\RowC 3 1 w1 vb bl:=by
 have p1:=ButB.row g1 B
 refine ⟨h.row.but p1 fun z hz e=>?_,h.by_.but p1 fun z hz e=>?_⟩
 ·obtain ⟨a,ha⟩:=y8 h.row hz
  exact z0z h.own ha (zsi e).symm
 obtain ⟨a,ha⟩:=y8 h.by_ hz
 exact z0z h.own ha (zsi e).symm
set_option maxHeartbeats 4000000 in
theorem zIt {E:List (GN×GN)} {m:Nat} {w:World} {t:Nat} {B:Nat->Prop} (h:Gr E m w t B) (hm:m<=5000) (s:GN) (hs:OkG s) (vf:Value) (hf:RowC 244 3 w vf [cG s]):Calls Tryz.prog 230 #[.pointer (some ⟨t,0,none⟩),vf] w fun e' w'=>∃(va vb:Value) (all:List GN),e'= .returned (.tuple #[va,vb])/\RowC 244 3 w' va (all.map cG)/\(∀x,x∈all↔Reach E s x)/\all.length<=6000/\(∀z,va.ownBlock=some z->w.heap.size<=z)/\Below w.heap.size w w':=by
 obtain ⟨b,e,vn,vo,vs,ns,adj,D0,h,rfl⟩:=h
 obtain ⟨gf,of,cf,rfl,hcf,hcm,hgl,hcz,-⟩:=hf.at (i:=0) (x:=cG s) rfl
 rw [Nat.zero_mul,Nat.add_zero] at hcz
 have z0:=hcz 0 _ rfl
 have z1:=hcz 1 _ rfl
 have z2:=hcz 2 _ rfl
 rw [Nat.add_zero] at z0
 dsimp only [List.length_singleton] at hcf⊢
 unfold maxLen at hcm
 have H:=zh h
 have HS:=zh hs
 have hmm:=@run_makeMap Tryz.prog
 obtain ⟨iN,hiN,hzN,h1N,h2N⟩:=info_parts (show (Tryz.prog.info? 244).map (fun i=>(i.zero,i.size,i.bytes))=some (some (.agg #[.bool false,.string ⟨#[]⟩,.int .i64 0]),3,32) from by kernel_rfl)
 obtain ⟨iI,hiI,hzI,h1I,h2I⟩:=info_parts (show (Tryz.prog.info? 3).map (fun i=>(i.zero,i.size,i.bytes))=some (some (.int .i64 0),1,8) from by kernel_rfl)
 have HCZ:=zh hcz
 clear h hs hf hcz
 obtain ⟨f,sn,n⟩:=s
 dsimp only at z0 z1 z2
 go_enter Tryz.func230,Tryz.ntmps230
 go_wp2
 clear hmm
 go_loopw [4,5,22] (fun va vb i wr=>(i= .int .i64 0/\va= .slice none 0 0/\vb= .slice none 0 0/\Hid (SrS w wr w.heap.size (.map []) va vb [] []))\/(i= .int .i64 1/\∃D bl,Hid (SrS w wr w.heap.size D va vb [(f,sn,n)] bl))) (fun _ _ i _=>1 - (RowKit.intOf i).toNat)
 case atStart=>exact .inl ⟨rfl,rfl,rfl,⟨World.ownsMap_made _ _ _ _,Idx.start,RowC.nil _,RowC.nil _,rfl,znl _,fun z hz=>(by cases hz),fun z hz=>(by cases hz),by go_grown⟩⟩
 rcases hrel with ⟨rfl,rfl,rfl,HR⟩ | ⟨rfl,D,bl,HR⟩
 ·have hb:=HR.out.bel
  have q0:=(hb.cell (p:=⟨gf,of,none⟩) hgl).trans z0
  have q1:=(hb.cell (p:=⟨gf,of+1,none⟩) hgl).trans z1
  have q2:=(hb.cell (p:=⟨gf,of+2,none⟩) hgl).trans z2
  have hzr:=hb.size
  have hkey:=zAd (x:=(f,sn,n)) HS.out
  have hL:Look [] (f,sn,n) 0 false:= .inr ⟨rfl,by simp,rfl⟩
  have HL:=zh hL
  clear hL
  simp only [vG] at hkey
  go_wp2_with (first
   | (at_lookup;go_loud (refine z7k _ rfl _ _ rfl w.heap.size 0 (.map []) [] (f,sn,n) 0 false rfl (z0n HR.out.own (by go_grown)) Idx.start rfl HS.out HL.out ?_))
   | (at_mapUpdate;go_loud (refine wpList_mapUpdate_own _ rfl _ _ _ 280 rfl 244 3 keyNode Tryz.underlying280 _ w.heap.size 0 (.map []) rfl (z0n HR.out.own (by go_grown)) (by decide) _ (.int .i64 0) _ rfl rfl hkey _ [] (plainElem_int Tryz.underlying3 (by decide)) ?_);intro w1 hown1 hg1;have HO1:=zh hown1;have HG1:=zh (show ∃W,Below wr.heap.size wr W/\W.grownBy w1 (some w.heap.size) from ⟨_,(by go_grown),hg1⟩);have T1:w1.heap[wr.heap.size]? =some (.cells #[.bool f,.string sn,.int .i64 n] 244 (0,0)):=(hg1.block wr.heap.size (by simp) (by simp;have:=HR.out.own.lt;omega)).trans (by repeat' first|with_reducible assumption|((with_reducible first|refine zP _ ?_ ?_|apply zJ);rotate_left;first|with_reducible rfl|((try dsimp only);first|with_reducible assumption|omega|(simp only [zS];done)|(simp only [zS];omega)))|with_reducible apply zI|with_reducible refine zZ _ ?_|with_reducible refine ZH ?_|refine (rfl:(_:Array Value)=_));have b10:=(zD T1).1 0 _ rfl;have b11:=(zD T1).1 1 _ rfl;have b12:=(zD T1).1 2 _ rfl;clear hown1 hg1 T1)
   | (at_builtin;refine z0k w1 _ [.bool f,.string sn,.int .i64 n] rfl (.tmp 38) (.tmp 40) 239 rfl iN _ 32 Tryz.underlying239 hiN hzN h1N h2N rfl (by decide) (by decide) (.slice none 0 0) [] rfl _ _ rfl (RowC.nil _) (by go_grown) (by decide) rfl (z8l (f,sn,n)) (by repeat' first|with_reducible assumption|((with_reducible first|refine zP _ ?_ ?_|apply zJ);rotate_left;first|with_reducible rfl|((try dsimp only);first|with_reducible assumption|omega|(simp only [zS];done)|(simp only [zS];omega)))|with_reducible apply zI|with_reducible refine zZ _ ?_|with_reducible refine ZH ?_|refine (rfl:(_:Array Value)=_)) ?_;intro v2 w2 r2 p2 o2;obtain ⟨A2,n2,c2,rfl⟩:=r2.shape3;have HR2:=zh r2;have HP2:=zh p2;have HO2:=zh o2;clear r2 p2 o2)
   | (at_builtin;refine z0k w2 _ [.int .i64 (-1)] rfl (.tmp 42) (.tmp 43) 234 rfl iI _ 8 Tryz.underlying234 hiI hzI h1I h2I rfl (by decide) (by decide) (.slice none 0 0) [] rfl _ _ rfl (RowC.nil _) (by go_grown) (by decide) rfl (by intro u hu;simp at hu;subst hu;rfl) (by repeat' first|with_reducible assumption|((with_reducible first|refine zP _ ?_ ?_|apply zJ);rotate_left;first|with_reducible rfl|((try dsimp only);first|with_reducible assumption|omega|(simp only [zS];done)|(simp only [zS];omega)))|with_reducible apply zI|with_reducible refine zZ _ ?_|with_reducible refine ZH ?_|refine (rfl:(_:Array Value)=_)) ?_;intro v3 w3 r3 p3 o3;obtain ⟨A3,n3,c3,rfl⟩:=r3.shape3;have HR3:=zh r3;have HP3:=zh p3;have HO3:=zh o3;clear r3 p3 o3))
  go_roundw
  case rel=>
   obtain ⟨W,BW,GW⟩:=HG1.out
   exact .inr ⟨rfl,_,_,HR.out.push HS.out (by simp) HO1.out GW BW HP2.out HR2.out HO2.out HP3.out HR3.out HO3.out⟩
  case measure=>simp [RowKit.intOf]
 have HS0:=zh (Srch.start E (f,sn,n))
 go_wp2
 go_loopw [4,5,11] (fun va vb i wr=>∃(k:Nat) (D:DataW Unit) (all:List GN) (bl:List (List Value)),i= .int .i64 k/\k<=all.length/\Hid (SrS w wr w.heap.size D va vb all bl)/\Hid (Srch E (f,sn,n) all k)) (fun _ _ i _=>ns.length+2 - (RowKit.intOf i).toNat)
 case atStart=>exact ⟨0,D,_,bl,by go_num,by simp,HR,HS0⟩
 clear HR HS0
 obtain ⟨k,D,all,bl,rfl,hk,HR,HK⟩:=hrel
 have hal:=zB1 HK.out H.out.rep
 have hnl:ns.length<=5000:=Nat.le_trans H.out.rep.small hm
 by_cases hlt:k < all.length
 rotate_left
 ·obtain rfl:k=all.length:=by omega
  have hf0:decide ((all.length:Int) < (all.length:Int))=false:=decide_eq_false (by omega)
  obtain ⟨A,cap,rfl,-⟩:=HR.out.row.shape
  go_wp2
  go_ret2
  exact ⟨_,_,all,rfl,HR.out.row,fun x=>HK.out.all (znl _) x,by omega,HR.out.ab,HR.out.bel⟩
 obtain ⟨x,hx⟩:∃x,all[k]? =some x:=⟨_,List.getElem?_eq_getElem hlt⟩
 obtain ⟨ga,oa,ca,rfl,hca,hcam,hgal,hcz,-⟩:=HR.out.row.at (i:=k) (x:=cG x) (by rw [List.getElem?_map,hx];rfl)
 rw [List.length_map] at hca
 simp only [List.length_map] at HR
 unfold maxLen at hcam
 have z0':=hcz 0 _ rfl
 have z1':=hcz 1 _ rfl
 have z2':=hcz 2 _ rfl
 rw [Nat.add_zero] at z0'
 have HX:=zh (HR.out.idx.ok x (zmg hx))
 have HXK:=zh hx
 have HG:=zh (H.out.gs.below H.out.rep.len HR.out.bel)
 have HI:=zh (zB0 HG.out)
 obtain ⟨c,g,L⟩:=z3a ns x
 have HL:=zh L
 have k1:=fun (W:World) (hW:W.heap=wr.heap)=>z5r HG.out.own HG.out.idx HX.out L hW
 have c0:=(zD HG.out.cell).1 0 _ rfl
 have hki:(k:Int) < (all.length:Int):=by omega
 clear hcz hx L z0 z1 z2
 obtain ⟨xf,xs,xn⟩:=x
 simp only [vG] at k1
 dsimp only at z0' z1' z2'
 have k11:=fun q=>k1 (wr.drewN q) rfl
 clear k1
 cases g with
 | false=>
  have HN:=zh (HK.out.next HXK.out fun y hy=>absurd hy (zHy H.out.rep (.inl fun hm=>by have:=HL.out.mem.2 hm;cases this)))
  go_wp2_with fail
  refine zcm HI.out ?_
  rintro e1 w3 ⟨rfl,hw⟩
  obtain rfl:=hw.symm
  clear hw
  go_wp2_with fail
  go_quiet (fail)
  go_wp2
  go_roundw
  case rel=>exact ⟨k+1,D,all,bl,by go_num,by omega,HR.out.mono (ZR zbr _),HN⟩
  case measure=>simp [RowKit.intOf];omega
 | true=>
  obtain ⟨ni,hi,rfl⟩:∃i:Nat,ns[i]? =some (xf,xs,xn)/\c=i:=by
   rcases HL.out with ⟨_,h⟩ | ⟨h,_⟩
   ·exact h
   ·cases h
  have hil:=(zge hi).1
  obtain ⟨l,hl⟩:∃l,adj[ni]? =some l:=⟨_,List.getElem?_eq_getElem (by rw [H.out.rep.len];exact hil)⟩
  obtain ⟨v,hv⟩:∃v,vs[ni]? =some v:=⟨_,List.getElem?_eq_getElem (by rw [H.out.gs.lenv];exact hil)⟩
  have hrow:=H.out.gs.row ni v l hv hl
  have hll:l.length<=5000:=Nat.le_trans (H.out.rep.deg ni l hl) hm
  obtain ⟨Av,cv,rfl,-⟩:=hrow.shape
  rw [List.length_map] at hrow hv
  obtain ⟨go,oo,capo,hvo,-,hcmo,-,hco,-⟩:=HG.out.out.at (i:=ni) (x:=[.slice Av l.length cv]) (by rw [List.getElem?_map,hv];rfl)
  rw [List.length_map,H.out.gs.lenv] at hvo
  have v0:=hco 0 _ rfl
  rw [Nat.mul_one,Nat.add_zero] at v0
  have T:=HG.out.cell
  rw [hvo] at T
  have c2:=(zD T).1 2 _ rfl
  have hii:(ni:Int) < (ns.length:Int):=by omega
  unfold maxLen at hcmo
  have HROW:=zh hrow
  have HNI:=zh hi
  have HLI:=zh hl
  clear hco hvo T hrow hil hi hl hv
  go_wp2_with fail
  refine zcm HI.out ?_
  rintro e1 w3 ⟨rfl,hw⟩
  obtain rfl:=hw.symm
  clear hw
  go_wp2_with fail
  go_quiet (fail)
  have hSR:=HR.out.mono (ZR (Below.refl _ wr) nq)
  go_wp2
  have HQ:=zh (show ∀j∈l.take 0,∀y,ns[j]? =some y->y∈all from fun j hj=>by simp at hj)
  have HSR:=zh hSR
  clear hSR c0 c2 v0 k11 z0' z1' z2'
  go_loopw [4,5,78] (fun va vb i wr3=>∃(q:Nat) (D':DataW Unit) (all':List GN) (bl':List (List Value)),i= .int .i64 q/\q<=l.length/\k < all'.length/\Hid (SrS w wr3 w.heap.size D' va vb all' bl')/\Hid (Srch E (f,sn,n) all' k)/\Hid (all'[k]? =some (xf,xs,xn))/\Hid (∀j∈l.take q,∀y,ns[j]? =some y->y∈all')) (fun _ _ i _=>l.length - (RowKit.intOf i).toNat)
  case atStart=>exact ⟨0,D,all,bl,by go_num,by omega,hlt,HSR,HK,HXK,HQ⟩
  clear HSR HQ HXK HK HR HG HI hlt hki hk hal
  obtain ⟨q,D',all',bl',rfl,hq,hk,HR3,HK,HXK,HQ⟩:=hrel
  have hal:=zB1 HK.out H.out.rep
  have HG:=zh (H.out.gs.below H.out.rep.len HR3.out.bel)
  by_cases hqt:q < l.length
  rotate_left
  ·obtain rfl:q=l.length:=by omega
   have HN:=zh (HK.out.next HXK.out fun y hy=>by
    obtain ⟨i',j',l',h1,h2,h3,h4⟩:=(H.out.rep.edge _ _).1 hy
    obtain rfl:=zAb H.out.rep.nodup h1 HNI.out
    obtain rfl:=zsi (h3.symm.trans HLI.out)
    exact HQ.out j' (by rw [List.take_length];exact h4) y h2)
   go_wp2
   go_roundw
   case rel=>exact ⟨k+1,D',all',bl',by go_num,by omega,HR3,HN⟩
   case measure=>simp [RowKit.intOf];omega
  obtain ⟨j,hj⟩:∃j,l[q]? =some j:=⟨_,List.getElem?_eq_getElem hqt⟩
  have hjn:=H.out.rep.lt ni l j HLI.out (zmg hj)
  obtain ⟨y,hy⟩:∃y,ns[j]? =some y:=⟨_,List.getElem?_eq_getElem hjn⟩
  obtain ⟨gv,ov,cv',hv',-,hcv,-,hcj,-⟩:=(HROW.out.below HR3.out.bel).at (i:=q) (x:=cI j) (by rw [List.getElem?_map,hj];rfl)
  obtain ⟨rfl,-,rfl⟩:Av=some ⟨gv,ov,none⟩/\l.length=(l.map cI).length/\cv=cv':=by simpa using hv'
  have q0:=hcj 0 _ rfl
  rw [Nat.mul_one,Nat.add_zero] at q0
  obtain ⟨gn,on,cn,hvn,-,hcn,-,hcy,-⟩:=HG.out.nodes.at (i:=j) (x:=cG y) (by rw [List.getElem?_map,hy];rfl)
  rw [List.length_map] at hvn
  have y0:=hcy 0 _ rfl
  have y1:=hcy 1 _ rfl
  have y2:=hcy 2 _ rfl
  rw [Nat.add_zero] at y0
  have T:=HG.out.cell
  rw [hvn] at T
  have c1:=(zD T).1 1 _ rfl
  have hjj:(j:Int) < (ns.length:Int):=by omega
  have hqq:(q:Int) < (l.length:Int):=by omega
  have HY:=zh (HG.out.idx.ok y (zmg hy))
  have HE:=zh ((H.out.rep.edge _ _).2 ⟨ni,j,l,HNI.out,hy,HLI.out,zmg hj⟩)
  have HST:=zh (fun (all2:List GN) (hm:∀z∈all',z∈all2) (hm2:y∈all2)=>(show ∀j∈l.take (q+1),∀y,ns[j]? =some y->y∈all2 from fun j' hj' y' hy'=>by
   rw [List.take_add_one,hj] at hj'
   rcases zmb hj' with h9 | h9
   ·exact hm _ (HQ.out j' h9 y' hy')
   ·obtain rfl:j'=j:=by simpa using h9
    obtain rfl:=zsi (hy.symm.trans hy')
    exact hm2))
  obtain ⟨c',g',L'⟩:=z3a all' y
  have HL':=zh L'
  obtain ⟨A4,c4,rfl,-⟩:=HR3.out.row.shape
  simp only [List.length_map] at HR3
  obtain ⟨A5,n5,c5,rfl⟩:=HR3.out.by_.shape3
  unfold maxLen at hcv hcn
  clear hcj hcy hj hy hv' hvn T L'
  have hkey:=zAd HY.out
  obtain ⟨yf,ys,yn⟩:=y
  simp only [vG] at hkey
  dsimp only at y0 y1 y2
  cases g' with
  | true=>
   go_wp2_with (first
    | (at_lookup;go_loud (refine z7k _ rfl _ _ rfl w.heap.size all'.length D' all' (yf,ys,yn) c' _ rfl (z0n HR3.out.own (by go_grown)) HR3.out.idx rfl HY.out HL'.out ?_))
    | (at_mapUpdate;go_loud (refine wpList_mapUpdate_own _ rfl _ _ _ 280 rfl 244 3 keyNode Tryz.underlying280 _ w.heap.size all'.length D' rfl (z0n HR3.out.own (by go_grown)) (by unfold maxLen;omega) _ (.int .i64 all'.length) _ rfl rfl hkey _ [] (plainElem_int Tryz.underlying3 (by have h:I64 (all'.length:Int):=⟨by omega,by omega⟩;simp [Lit.wf];exact h)) ?_);intro w1 hown1 hg1;have HO1:=zh hown1;have HG1:=zh (show ∃W,Below wr.heap.size wr W/\W.grownBy w1 (some w.heap.size) from ⟨_,(by go_grown),hg1⟩);have T1:w1.heap[wr.heap.size]? =some (.cells #[.bool yf,.string ys,.int .i64 yn] 244 (0,0)):=(hg1.block wr.heap.size (by simp) (by simp;have:=HR3.out.own.lt;omega)).trans (by repeat' first|with_reducible assumption|((with_reducible first|refine zP _ ?_ ?_|apply zJ);rotate_left;first|with_reducible rfl|((try dsimp only);first|with_reducible assumption|omega|(simp only [zS];done)|(simp only [zS];omega)))|with_reducible apply zI|with_reducible refine zZ _ ?_|with_reducible refine ZH ?_|refine (rfl:(_:Array Value)=_));have b10:=(zD T1).1 0 _ rfl;have b11:=(zD T1).1 1 _ rfl;have b12:=(zD T1).1 2 _ rfl;have HRR:=zh (HR3.out.rows hg1 (by go_grown));clear hown1 hg1 T1)
    | (at_builtin;refine z0k w1 _ [.bool yf,.string ys,.int .i64 yn] rfl (.tmp 101) (.tmp 103) 239 rfl iN _ 32 Tryz.underlying239 hiN hzN h1N h2N rfl (by decide) (by decide) (.slice A4 all'.length c4) (all'.map cG) rfl _ _ rfl HRR.out.1 (by go_grown) (by rw [List.length_map];omega) rfl (z8l (yf,ys,yn)) (by repeat' first|with_reducible assumption|((with_reducible first|refine zP _ ?_ ?_|apply zJ);rotate_left;first|with_reducible rfl|((try dsimp only);first|with_reducible assumption|omega|(simp only [zS];done)|(simp only [zS];omega)))|with_reducible apply zI|with_reducible refine zZ _ ?_|with_reducible refine ZH ?_|refine (rfl:(_:Array Value)=_)) ?_;intro v2 w2 r2 p2 o2;obtain ⟨A2,n2,c2,rfl⟩:=r2.shape3;have HR2:=zh r2;have HP2:=zh p2;have HO2:=zh o2;have HBY2:=zh (HRR.out.2.but p2 fun z hz e=>z10 HRR.out.1 HRR.out.2 (by decide) e hz);clear r2 p2 o2)
    | (at_builtin;refine z0k w2 _ [.int .i64 k] rfl (.tmp 105) (.tmp 107) 234 rfl iI _ 8 Tryz.underlying234 hiI hzI h1I h2I rfl (by decide) (by decide) (.slice A5 n5 c5) bl' rfl _ _ rfl HBY2.out (by go_grown) (by rw [HR3.out.len];omega) rfl (by intro u hu;simp at hu;subst hu;rfl) (by repeat' first|with_reducible assumption|((with_reducible first|refine zP _ ?_ ?_|apply zJ);rotate_left;first|with_reducible rfl|((try dsimp only);first|with_reducible assumption|omega|(simp only [zS];done)|(simp only [zS];omega)))|with_reducible apply zI|with_reducible refine zZ _ ?_|with_reducible refine ZH ?_|refine (rfl:(_:Array Value)=_)) ?_;intro v3 w4 r3 p3 o3;obtain ⟨A3,n3,c3,rfl⟩:=r3.shape3;have HRZ:=zh r3;have HP3:=zh p3;have HO3:=zh o3;clear r3 p3 o3))
   go_roundw
   case rel=>exact ⟨q+1,D',all',bl',by go_num,by omega,hk,HR3.out.mono (by go_grown),HK,HXK,HST.out all' (fun z hz=>hz) (HL'.out.mem.1 rfl)⟩
   case measure=>simp [RowKit.intOf];omega
  | false=>
   have HNM:=zh (show (yf,ys,yn)∉all' from fun hm=>by have:=HL'.out.mem.2 hm;cases this)
   go_wp2_with (first
    | (at_lookup;go_loud (refine z7k _ rfl _ _ rfl w.heap.size all'.length D' all' (yf,ys,yn) c' _ rfl (z0n HR3.out.own (by go_grown)) HR3.out.idx rfl HY.out HL'.out ?_))
    | (at_mapUpdate;go_loud (refine wpList_mapUpdate_own _ rfl _ _ _ 280 rfl 244 3 keyNode Tryz.underlying280 _ w.heap.size all'.length D' rfl (z0n HR3.out.own (by go_grown)) (by unfold maxLen;omega) _ (.int .i64 all'.length) _ rfl rfl hkey _ [] (plainElem_int Tryz.underlying3 (by have h:I64 (all'.length:Int):=⟨by omega,by omega⟩;simp [Lit.wf];exact h)) ?_);intro w1 hown1 hg1;have HO1:=zh hown1;have HG1:=zh (show ∃W,Below wr.heap.size wr W/\W.grownBy w1 (some w.heap.size) from ⟨_,(by go_grown),hg1⟩);have T1:w1.heap[wr.heap.size]? =some (.cells #[.bool yf,.string ys,.int .i64 yn] 244 (0,0)):=(hg1.block wr.heap.size (by simp) (by simp;have:=HR3.out.own.lt;omega)).trans (by repeat' first|with_reducible assumption|((with_reducible first|refine zP _ ?_ ?_|apply zJ);rotate_left;first|with_reducible rfl|((try dsimp only);first|with_reducible assumption|omega|(simp only [zS];done)|(simp only [zS];omega)))|with_reducible apply zI|with_reducible refine zZ _ ?_|with_reducible refine ZH ?_|refine (rfl:(_:Array Value)=_));have b10:=(zD T1).1 0 _ rfl;have b11:=(zD T1).1 1 _ rfl;have b12:=(zD T1).1 2 _ rfl;have HRR:=zh (HR3.out.rows hg1 (by go_grown));clear hown1 hg1 T1)
    | (at_builtin;refine z0k w1 _ [.bool yf,.string ys,.int .i64 yn] rfl (.tmp 101) (.tmp 103) 239 rfl iN _ 32 Tryz.underlying239 hiN hzN h1N h2N rfl (by decide) (by decide) (.slice A4 all'.length c4) (all'.map cG) rfl _ _ rfl HRR.out.1 (by go_grown) (by rw [List.length_map];omega) rfl (z8l (yf,ys,yn)) (by repeat' first|with_reducible assumption|((with_reducible first|refine zP _ ?_ ?_|apply zJ);rotate_left;first|with_reducible rfl|((try dsimp only);first|with_reducible assumption|omega|(simp only [zS];done)|(simp only [zS];omega)))|with_reducible apply zI|with_reducible refine zZ _ ?_|with_reducible refine ZH ?_|refine (rfl:(_:Array Value)=_)) ?_;intro v2 w2 r2 p2 o2;obtain ⟨A2,n2,c2,rfl⟩:=r2.shape3;have HR2:=zh r2;have HP2:=zh p2;have HO2:=zh o2;have HBY2:=zh (HRR.out.2.but p2 fun z hz e=>z10 HRR.out.1 HRR.out.2 (by decide) e hz);clear r2 p2 o2)
    | (at_builtin;refine z0k w2 _ [.int .i64 k] rfl (.tmp 105) (.tmp 107) 234 rfl iI _ 8 Tryz.underlying234 hiI hzI h1I h2I rfl (by decide) (by decide) (.slice A5 n5 c5) bl' rfl _ _ rfl HBY2.out (by go_grown) (by rw [HR3.out.len];omega) rfl (by intro u hu;simp at hu;subst hu;rfl) (by repeat' first|with_reducible assumption|((with_reducible first|refine zP _ ?_ ?_|apply zJ);rotate_left;first|with_reducible rfl|((try dsimp only);first|with_reducible assumption|omega|(simp only [zS];done)|(simp only [zS];omega)))|with_reducible apply zI|with_reducible refine zZ _ ?_|with_reducible refine ZH ?_|refine (rfl:(_:Array Value)=_)) ?_;intro v3 w4 r3 p3 o3;obtain ⟨A3,n3,c3,rfl⟩:=r3.shape3;have HRZ:=zh r3;have HP3:=zh p3;have HO3:=zh o3;clear r3 p3 o3))
   go_roundw
   case rel=>
    obtain ⟨W,BW,GW⟩:=HG1.out
    exact ⟨q+1,_,all'++[(yf,ys,yn)],_,by go_num,by omega,by simp;omega,HR3.out.push HY.out HNM.out HO1.out GW BW HP2.out HR2.out HO2.out HP3.out HRZ.out HO3.out,HK.out.add (zmg HXK.out) HE.out HNM.out (by omega),(List.getElem?_append_left hk).trans HXK.out,HST.out _ (fun z hz=>List.mem_append_left _ hz) (List.mem_append_right _ (by simp))⟩
   case measure=>simp [RowKit.intOf];omega
theorem zKy {E:List (GN×GN)} {m:Nat} {w:World} {t:Nat} {B:Nat->Prop} (h:Gr E m w t B) (hm:m<=5000) (s:GN) (hs:OkG s) (vf:Value) (hf:RowC 244 3 w vf [cG s]):Calls Tryz.prog 199 #[.pointer (some ⟨t,0,none⟩),vf] w fun e' w'=>∃(va:Value) (all:List GN),e'= .returned va/\RowC 244 3 w' va (all.map cG)/\(∀x,x∈all↔Reach E s x)/\all.length<=6000/\(∀z,va.ownBlock=some z->w.heap.size<=z)/\Below w.heap.size w w':=by
 have HS:=zh (zIt h hm s hs vf hf)
 clear h hs hf
 go_enter Tryz.func199,Tryz.ntmps199
 go_wp2_with (go_at_call 230;refine zcm HS.out ?_;rintro _ _ ⟨va,_,all,rfl,h1⟩;have H1:=zh h1;clear h1)
 go_ret
 exact ⟨va,all,rfl,H1.out⟩
end
section
open Go.RowKit Go.Deep
theorem z5h {P:Program} {fn:Func} {p u:Tmp} {ty:TypeId} (h:fn.results=#[.cell p ty,.tmp u]) (tmps:Array Value) (w:World) (g:Nat) (t:TypeId) (cs:Array Value) (fr:Nat×Nat) (d:TypeDesc)
  (hp:tmps.getD p undef= .pointer (some ⟨g,0,none⟩)) (hg:w.heap[g]? =some (.cells cs t fr))
  (hu:P.underlying ty=some d) (hd:(match d with | .struct _ | .array _ _=>true | _=>false)=true) (hi:(P.info? ty).map (·.size)=some cs.size):
  (results fn tmps).run P w= .ok (.tuple #[.agg cs,tmps.getD u undef]) w:=by
 rw [results_cell_tmp h,hp]
 simp [asAddr,run_loadVar_row w g t ty cs fr d hg hu hd hi,Result.andThen]
theorem SlAt.elem {α:Type} {sz:Nat} {R:Rp α} {S:Nat->Prop} {w wr:World} {A:Option Addr} {l:List α} {k:Nat} {x:α} (s:SlAt sz R S w A l) (hk:l[k]? =some x) (hsz:0 < sz) (hb:Below w.heap.size w wr):
  ∃b o ys,A=some ⟨b,o,none⟩/\b < w.heap.size/\R S w ys x/\∀(j:Nat) (y:Value),ys[j]? =some y->wr.cell? ⟨b,o+k*sz+j,none⟩=some y:=by
 obtain ⟨b,o,ys,hA,_,_,hc,hR⟩:=s k x hk
 have h0:=hc 0 _ (List.getElem?_eq_getElem (by omega))
 refine ⟨b,o,ys,hA,zF h0,hR,fun j y hj=>?_⟩
 have h1:=hc j y hj
 rw [Nat.add_assoc]
 exact (hb.cell (p:=⟨b,o+(k*sz+j),none⟩) (zF h1)).trans h1
theorem yK {a b:Nm}:(a.toList==b.toList)=decide (a=b):=by
 by_cases h:a=b
 ·subst h
  simp
 rw [decide_eq_false h,<-Bool.not_eq_true,beq_iff_eq]
 exact fun e=>h (toList_inj e)
theorem z1e {a b:Nm} (h:a≠b):(a.toList==b.toList)=false:=by
 rw [yK]
 exact decide_eq_false h
def yX:Folder:=⟨⟨#[]⟩,0,[],[],[],[],[]⟩
def zF4:Manifest:=⟨⟨#[]⟩,0,[],⟨#[]⟩,[],0,false,⟨#[]⟩⟩
def AtI {α:Type} (p:α->Bool) (l:List α) (i:Int):Prop:=(∃(k:Nat) (x:α),i=k/\l[k]? =some x/\l.find? p=some x)\/(i= -1/\l.find? p=none)
theorem z6h {α:Type} {p:α->Bool} {l:List α} {k:Nat} {x:α} (h:∀y∈l.take k,p y=false) (hx:l[k]? =some x) (hp:p x=true):l.find? p=some x:=by
 have hk:=zge hx
 refine List.find?_eq_some_iff_append.2 ⟨hp,l.take k,l.drop (k+1),?_,fun y hy=>by simp [h y hy]⟩
 rw [<-hk.2,<-List.drop_eq_getElem_cons hk.1,List.take_append_drop]
theorem zD3 {α:Type} {p:α->Bool} {l:List α} (h:∀y∈l,p y=false):l.find? p=none:=List.find?_eq_none.2 fun y hy=>by simp [h y hy]
theorem z0c {α:Type} {p:α->Bool} {l:List α} {k:Nat} {x:α} (h:∀y∈l.take k,p y=false) (hx:l[k]? =some x) (hp:p x=false):∀y∈l.take (k+1),p y=false:=by
 rw [List.take_add_one,hx]
 intro y hy
 rcases zmb hy with hy | hy
 ·exact h y hy
 obtain rfl:y=x:=by simpa using hy
 exact hp
def isF (s:Nm) (f:Folder):Bool:=decide (f.name=s)
theorem zKz (s:Nm) (B:Nat) (x:Folder) (cs:List Value) (w:World) (S:Nat->Prop) (h:ZE S w cs x) (hB:w.cell? ⟨B,0,none⟩=some (.string s)):
  Calls Tryz.prog 122 #[.agg cs.toArray,.pointer (some ⟨B,0,none⟩)] w fun e w'=>e= .returned (.bool (isF s x))/\Below w.heap.size w w':=by
 obtain ⟨_,_,_,_,_,_,_,_,_,_,rfl,_,_,_,_,_,_,_,_,_,_,_,_,_,_,_,_,_,_,_,_,_,_⟩:=Z5 h
 have hBl:=zF hB
 have E:=zh (yK (a:=x.name) (b:=s))
 go_enter Tryz.func122,Tryz.ntmps122
 go_wp2
 go_ret
 exact ⟨ZI E.out,by go_grown⟩
theorem zIu (s:Nm) (B:Nat) (l:List Folder) (v:Value) (w:World) (S:Nat->Prop) (h:Sl 7 ZE S w v l) (hB:w.cell? ⟨B,0,none⟩=some (.string s)):
  Calls Tryz.prog 121 #[v,.func (.func 122) #[] #[.pointer (some ⟨B,0,none⟩)]] w fun e w'=>(∃i:Int,e= .returned (.int .i64 i)/\AtI (isF s) l i)/\Below w.heap.size w w':=by
 have HB:=zh hB
 clear hB
 obtain ⟨_,_,rfl,_,hc,_,hs⟩:=h
 unfold maxLen at hc
 go_enter Tryz.func121,Tryz.ntmps121
 go_wp2
 go_loopw [8] (fun i wr=>∃(k:Nat),k<=l.length/\i= .int .i64 k/\Hid (∀y∈l.take k,isF s y=false)/\Below w.heap.size w wr) (fun i _=>l.length - (RowKit.intOf i).toNat)
 case atStart=>exact ⟨0,by omega,by go_num,(fun y hy=>by simp at hy),by go_grown⟩
 obtain ⟨k,_,rfl,HN,hbel⟩:=hrel
 have hz:=hbel.size
 by_cases hlt:k < l.length
 rotate_left
 ·obtain rfl:k=l.length:=by omega
  have EH:=zh (zD3 (p:=isF s) (l:=l) (by have:=HN.out;rwa [List.take_length] at this))
  go_wp2
  go_ret
  exact ⟨⟨_,rfl,.inr ⟨rfl,EH.out⟩⟩,hbel⟩
 obtain ⟨x,_,_,_,_,_,_,_,_,_,_,_,_,x_k,x_d,_,rfl,_,_,_,_,_,_,_,_,_,x_R,_,_,_,_,_,_,_,_,_,_,_,_,_,_,_,_,_,_,_,_,_,_⟩:=z1r hs hlt (zH hbel)
 have HX:=zh x_k
 clear x_k x_d
 go_wp2_with fail
 refine zcm (zKz s B x _ _ S x_R ((hbel.cell (p:=⟨B,0,none⟩) (zF HB.out)).trans HB.out)) ?_
 rintro e _ ⟨rfl,hb1⟩
 cases hpx:isF s x
 ·have EH:=zh (z0c HN.out HX.out hpx)
  go_wp2
  go_roundw
  case rel=>exact ⟨k+1,by omega,by go_num,EH,zB hbel hb1⟩
  case measure=>simp [RowKit.intOf];omega
 have EH:=zh (z6h HN.out HX.out hpx)
 go_wp2
 go_ret
 exact ⟨⟨_,rfl,.inl ⟨k,x,rfl,HX.out,EH.out⟩⟩,zB hbel hb1⟩
theorem z4p (st:State) (s:Nm):st.folders.find? (isF s)=zV st s:=rfl
theorem z61 (st:State) (s:Nm) (cs:List Value) (w:World) (S:Nat->Prop) (h:ZX S w cs st):Calls Tryz.prog 68 #[.agg cs.toArray,.string s] w fun e w'=>(∃cf:List Value,e= .returned (.tuple #[.agg cf.toArray,.bool (zV st s).isSome])/\ZE S w' cf ((zV st s).getD yX))/\Below w.heap.size w w':=by
 have hR:=h
 obtain ⟨st_A1,st_c1,st_A2,st_c2,st_A3,st_c3,rfl,_,_,_,_,_,_,_,_,_,st_folders_l,st_folders_m,st_folders_n,st_folders_s⟩:=ZL h
 have hSl:Sl 7 ZE S w (.slice st_A3 st.folders.length st_c3) st.folders:=⟨_,_,rfl,st_folders_l,(by unfold maxLen;exact st_folders_m),st_folders_n,st_folders_s⟩
 obtain ⟨w0,hw0,cw0,fw0,Bw0,qw0⟩:=zO w #[.int .i64 st.turn,.slice st_A1 st.users.length st_c1,.slice st_A2 st.deposits.length st_c2,.slice st_A3 st.folders.length st_c3] 34
 obtain ⟨w1,hw1,cw1,fw1,Bw1,qw1⟩:=zO w0 #[.string s] 9
 obtain ⟨w2,hw2,cw2,fw2,Bw2,qw2⟩:=zO w1 #[.string ⟨#[]⟩,.int .i64 0,.slice none 0 0,.slice none 0 0,.slice none 0 0,.slice none 0 0,.slice none 0 0] 74
 have B2:Below w.heap.size w w2:=zB (zB Bw0 Bw1) Bw2
 have B02:Below w0.heap.size w0 w2:=zB Bw1 Bw2
 have x3:=(B02.cell (p:=⟨w.heap.size,3,none⟩) qw0).trans (cw0 3 _ rfl)
 have y0:=(Bw2.cell (p:=⟨w0.heap.size,0,none⟩) qw1).trans (cw1 0 _ rfl)
 have HI:=zh (zIu s w0.heap.size st.folders _ w2 S (hSl.keep z02 (by decide) (zH B2)) y0)
 have HX3:=zh x3
 have HC2:=zh cw2
 have HF2:=zh fw2
 have HB2:=zh B2
 have HW0:=zh hw0
 have HW1:=zh hw1
 have HW2:=zh hw2
 have HB02:=zh B02
 clear cw0 cw1 cw2 fw0 fw1 fw2 hw0 hw1 hw2 Bw0 Bw1 Bw2 B2 B02 hSl hR
 go_enter Tryz.func68,Tryz.ntmps68
 have hw0:=HW0.out
 have hw1:=HW1.out
 have hw2:=HW2.out
 go_wp2_with fail
 refine zcm HI.out ?_
 rintro e w3 ⟨⟨_,rfl,hi⟩,B3⟩
 have HB3:=zh (zB HB2.out B3)
 have hc3:=(B3.cell (p:=⟨w.heap.size,3,none⟩) (zll qw0 HB02.out.size)).trans HX3.out
 have HC3:=zh (fun j v (hj:(#[.string ⟨#[]⟩,.int .i64 0,.slice none 0 0,.slice none 0 0,.slice none 0 0,.slice none 0 0,.slice none 0 0]:Array Value)[j]? =some v)=>(B3.cell (p:=⟨w1.heap.size,j,none⟩) qw2).trans (HC2.out j v hj))
 have f3:=fun j=>(B3.frozen (p:=⟨w1.heap.size,j,none⟩) qw2).trans (HF2.out j)
 have o0:=HC3.out 0 _ rfl
 have o1:=HC3.out 1 _ rfl
 have o2:=HC3.out 2 _ rfl
 have o3:=HC3.out 3 _ rfl
 have o4:=HC3.out 4 _ rfl
 have o5:=HC3.out 5 _ rfl
 have o6:=HC3.out 6 _ rfl
 have hz3:w1.heap.size < w3.heap.size:=zll qw2 B3.size
 have hblk:w3.heap[w1.heap.size]? =some (.cells #[.string ⟨#[]⟩,.int .i64 0,.slice none 0 0,.slice none 0 0,.slice none 0 0,.slice none 0 0,.slice none 0 0] 74 (0,0)):=(B3.block _ qw2).trans (by rw [<-HW2.out];exact zJ _ rfl)
 have HBLK:=zh hblk
 have hwl:w.heap.size<=w1.heap.size:=by have:=HB02.out.size;omega
 clear hblk
 rcases hi with ⟨k,f,rfl,hk,hf⟩ | ⟨rfl,hf⟩
 ·have HF:=zh hf
  have hlt:=(zge hk).1
  obtain ⟨_,_,_,rfl,_,hR,hcz⟩:=SlAt.elem st_folders_s hk (by decide) HB3.out
  have HR:=zh hR
  obtain ⟨f_A2,f_c2,f_A3,f_c3,f_A4,f_c4,f_A5,f_c5,f_A6,f_c6,rfl,_,_,_,_,_,f_manifests_s,_,_,_,f_epochs_s,_,_,_,f_items_s,_,_,_,f_wraps_s,_,_,_,f_links_s⟩:=Z5 hR
  have u0:=hcz 0 _ rfl
  have u1:=hcz 1 _ rfl
  have u2:=hcz 2 _ rfl
  have u3:=hcz 3 _ rfl
  have u4:=hcz 4 _ rfl
  have u5:=hcz 5 _ rfl
  have u6:=hcz 6 _ rfl
  rw [Nat.add_zero] at u0
  have hki:(k:Int) < (st.folders.length:Int):=by omega
  clear hf hk hw0 hw1 hw2 hcz f_manifests_s f_epochs_s f_items_s f_wraps_s f_links_s
  go_wp2
  try simp only [Exit.inBlock,Exit.then]
  have hblk:=HBLK.out
  refine bodyPost_ret (z5h rfl _ _ w1.heap.size 74 #[.string f.name,.int .i64 f.turn,.slice f_A2 f.manifests.length f_c2,.slice f_A3 f.epochs.length f_c3,.slice f_A4 f.items.length f_c4,.slice f_A5 f.wraps.length f_c5,.slice f_A6 f.links.length f_c6] (0,0) _ rfl (by repeat' first|with_reducible assumption|((with_reducible first|refine zP _ ?_ ?_|apply zJ);rotate_left;first|with_reducible rfl|((try dsimp only);first|with_reducible assumption|omega|(simp only [zS];done)|(simp only [zS];omega)))|with_reducible apply zI|with_reducible refine zZ _ ?_|with_reducible refine ZH ?_|refine (rfl:(_:Array Value)=_)) Tryz.underlying74 rfl (by kernel_rfl)) rfl ?_
  have hbb:=HB3.out
  refine ⟨⟨_,by rw [show (zV st s).isSome=true by rw [<-z4p,HF.out];rfl];rfl,?_⟩,by go_grown⟩
  rw [show (zV st s).getD yX=f by rw [<-z4p,HF.out];rfl]
  exact Z0 HR.out (zH (by go_grown))
 have HF:=zh hf
 clear hf hw0 hw1 hw2
 go_wp2
 try simp only [Exit.inBlock,Exit.then]
 have hblk:=HBLK.out
 refine bodyPost_ret (z5h rfl _ _ w1.heap.size 74 #[.string ⟨#[]⟩,.int .i64 0,.slice none 0 0,.slice none 0 0,.slice none 0 0,.slice none 0 0,.slice none 0 0] (0,0) _ rfl (by repeat' first|with_reducible assumption|((with_reducible first|refine zP _ ?_ ?_|apply zJ);rotate_left;first|with_reducible rfl|((try dsimp only);first|with_reducible assumption|omega|(simp only [zS];done)|(simp only [zS];omega)))|with_reducible apply zI|with_reducible refine zZ _ ?_|with_reducible refine ZH ?_|refine (rfl:(_:Array Value)=_)) Tryz.underlying74 rfl (by kernel_rfl)) rfl ?_
 have hbb:=HB3.out
 refine ⟨⟨_,by rw [show (zV st s).isSome=false by rw [<-z4p,HF.out];rfl];rfl,?_⟩,by go_grown⟩
 rw [show (zV st s).getD yX=yX by rw [<-z4p,HF.out];rfl]
 exact ⟨_,_,_,_,_,rfl,Nat.zero_le _,(show I64 0 from ⟨by decide,by decide⟩),z00 _ _ _ _,z00 _ _ _ _,z00 _ _ _ _,z00 _ _ _ _,z00 _ _ _ _⟩
def zL (f:Folder):Manifest:=f.manifests.getLast?.getD zF4
set_option maxHeartbeats 2000000 in
theorem z4q (f:Folder) (cs:List Value) (w:World) (S:Nat->Prop) (h:ZE S w cs f):Calls Tryz.prog 120 #[.agg cs.toArray] w fun e w'=>(∃cm:List Value,e= .returned (.agg cm.toArray)/\ZO S w' cm (zL f))/\Below w.heap.size w w':=by
 obtain ⟨f_A2,f_c2,f_A3,f_c3,f_A4,f_c4,f_A5,f_c5,f_A6,f_c6,rfl,_,_,f_manifests_l,_,f_manifests_n,f_manifests_s,_,_,_,f_epochs_s,_,_,_,f_items_s,_,_,_,f_wraps_s,_,_,_,f_links_s⟩:=Z5 h
 obtain ⟨w0,hw0,cw0,_,Bw0,qw0⟩:=zO w #[.string f.name,.int .i64 f.turn,.slice f_A2 f.manifests.length f_c2,.slice f_A3 f.epochs.length f_c3,.slice f_A4 f.items.length f_c4,.slice f_A5 f.wraps.length f_c5,.slice f_A6 f.links.length f_c6] 74
 obtain ⟨w1,hw1,cw1,_,Bw1,_⟩:=zO w0 #[.string ⟨#[]⟩,.int .i64 0,.slice none 0 0,.string ⟨#[]⟩,.slice none 0 0,.int .i64 0,.bool false,.string ⟨#[]⟩] 84
 have B1:Below w.heap.size w w1:=zB Bw0 Bw1
 have x2:=(Bw1.cell (p:=⟨w.heap.size,2,none⟩) qw0).trans (cw0 2 _ rfl)
 have HB1:=zh B1
 have HW1:=zh hw1
 have hblk:w1.heap[w0.heap.size]? =some (.cells #[.string ⟨#[]⟩,.int .i64 0,.slice none 0 0,.string ⟨#[]⟩,.slice none 0 0,.int .i64 0,.bool false,.string ⟨#[]⟩] 84 (0,0)):=by rw [<-hw1];exact zJ _ rfl
 have o0:=cw1 0 _ rfl
 have o1:=cw1 1 _ rfl
 have o2:=cw1 2 _ rfl
 have o3:=cw1 3 _ rfl
 have o4:=cw1 4 _ rfl
 have o5:=cw1 5 _ rfl
 have o6:=cw1 6 _ rfl
 have o7:=cw1 7 _ rfl
 have hwl:w.heap.size<=w0.heap.size:=Nat.le_of_lt qw0
 rcases Nat.eq_zero_or_pos f.manifests.length with h0 | h0
 ·have HE:=zh (show zL f=zF4 by
   have:f.manifests=[]:=List.eq_nil_of_length_eq_zero h0
   unfold zL
   rw [this]
   rfl)
  rw [h0] at x2 hw0⊢
  clear h0 cw0 cw1 Bw0 Bw1 B1 f_manifests_s f_epochs_s f_items_s f_wraps_s f_links_s
  go_enter Tryz.func120,Tryz.ntmps120
  go_wp2
  try simp only [Exit.inBlock,Exit.then]
  refine bodyPost_ret (results_cell_row rfl _ _ w0.heap.size 84 _ (0,0) _ rfl (by repeat' first|with_reducible assumption|((with_reducible first|refine zP _ ?_ ?_|apply zJ);rotate_left;first|with_reducible rfl|((try dsimp only);first|with_reducible assumption|omega|(simp only [zS];done)|(simp only [zS];omega)))|with_reducible apply zI|with_reducible refine zZ _ ?_|with_reducible refine ZH ?_|refine (rfl:(_:Array Value)=_)) Tryz.underlying84 rfl (by kernel_rfl)) rfl ?_
  have hbb:=HB1.out
  refine ⟨⟨_,rfl,?_⟩,by go_grown⟩
  rw [HE.out]
  exact ⟨_,_,rfl,Nat.zero_le _,(show I64 0 from ⟨by decide,by decide⟩),z00 _ _ _ _,Nat.zero_le _,z00 _ _ _ _,(show I64 0 from ⟨by decide,by decide⟩),Nat.zero_le _⟩
 obtain ⟨n,hn⟩:∃n,f.manifests.length=n+1:=⟨f.manifests.length - 1,by omega⟩
 obtain ⟨m,hm⟩:∃m,f.manifests[n]? =some m:=⟨_,List.getElem?_eq_getElem (by omega)⟩
 have HE:=zh (show zL f=m by
  unfold zL
  rw [List.getLast?_eq_getElem?,hn,Nat.add_sub_cancel,hm]
  rfl)
 obtain ⟨_,_,_,hA,_,hR,hcz⟩:=SlAt.elem f_manifests_s hm (by decide) B1
 have HR:=zh hR
 obtain ⟨m_A2,m_c2,m_A4,m_c4,rfl,_,_,_,_,_,m_prev_s,_,_,_,_,m_members_s,_,_⟩:=yO hR
 have u0:=hcz 0 _ rfl
 have u1:=hcz 1 _ rfl
 have u2:=hcz 2 _ rfl
 have u3:=hcz 3 _ rfl
 have u4:=hcz 4 _ rfl
 have u5:=hcz 5 _ rfl
 have u6:=hcz 6 _ rfl
 have u7:=hcz 7 _ rfl
 rw [Nat.add_zero] at u0
 rw [hn] at x2 hw0 f_manifests_l f_manifests_n⊢
 subst hA
 clear h0 hn hm hcz cw0 cw1 Bw0 Bw1 B1 f_manifests_s f_epochs_s f_items_s f_wraps_s f_links_s m_prev_s m_members_s
 go_enter Tryz.func120,Tryz.ntmps120
 go_wp2
 try simp only [Exit.inBlock,Exit.then]
 refine bodyPost_ret (results_cell_row rfl _ _ w0.heap.size 84 _ (0,0) _ rfl (by repeat' first|with_reducible assumption|((with_reducible first|refine zP _ ?_ ?_|apply zJ);rotate_left;first|with_reducible rfl|((try dsimp only);first|with_reducible assumption|omega|(simp only [zS];done)|(simp only [zS];omega)))|with_reducible apply zI|with_reducible refine zZ _ ?_|with_reducible refine ZH ?_|refine (rfl:(_:Array Value)=_)) Tryz.underlying84 rfl (by kernel_rfl)) rfl ?_
 have hbb:=HB1.out
 refine ⟨⟨_,rfl,?_⟩,by go_grown⟩
 rw [HE.out]
 exact Y1 HR.out (zH (by go_grown))
def z6u (f:Folder) (n:Int):Bool:=decide (1<=n) && decide (n<=(f.epochs.length:Int))
theorem z4r {f:Folder} {n:Int}:z6u f n=true↔1<=n/\n<=f.epochs.length:=by unfold z6u;simp
theorem zAf (f:Folder) (n:Int) (cs:List Value) (w:World) (S:Nat->Prop) (h:ZE S w cs f):Calls Tryz.prog 190 #[.agg cs.toArray,.int .i64 n] w fun e w'=>e= .returned (.bool (z6u f n))/\Below w.heap.size w w':=by
 obtain ⟨_,_,_,_,_,_,_,_,_,_,rfl,_,_,_,_,_,_,_,_,_,_,_,_,_,_,_,_,_,_,_,_,_,_⟩:=Z5 h
 cases h1:decide (1<=n) with
 | true=>
  have E:=zh (show z6u f n=decide (n<=(f.epochs.length:Int)) by unfold z6u;rw [h1];rfl)
  go_enter Tryz.func190,Tryz.ntmps190
  go_wp2
  go_ret
  exact ⟨ZI E.out.symm,by go_grown⟩
 | false=>
  have E:=zh (show z6u f n=false by unfold z6u;rw [h1];rfl)
  go_enter Tryz.func190,Tryz.ntmps190
  go_wp2
  go_ret
  exact ⟨ZI E.out.symm,by go_grown⟩
theorem z62 (s:Nm) (w:World):Calls Tryz.prog 200 #[.string s] w fun e w'=>e= .returned (vG (uN s))/\Below w.heap.size w w':=by
 go_enter Tryz.func200,Tryz.ntmps200
 go_wp2
 try simp only [Exit.inBlock,Exit.then]
 refine bodyPost_ret (results_cell_row rfl _ _ w.heap.size 244 _ (0,0) _ rfl (by repeat' first|with_reducible assumption|((with_reducible first|refine zP _ ?_ ?_|apply zJ);rotate_left;first|with_reducible rfl|((try dsimp only);first|with_reducible assumption|omega|(simp only [zS];done)|(simp only [zS];omega)))|with_reducible apply zI|with_reducible refine zZ _ ?_|with_reducible refine ZH ?_|refine (rfl:(_:Array Value)=_)) Tryz.underlying244 rfl (by kernel_rfl)) rfl ?_
 exact ⟨rfl,by go_grown⟩
theorem z3p (s:Nm) (n:Int) (w:World):Calls Tryz.prog 226 #[.string s,.int .i64 n] w fun e w'=>e= .returned (vG (eN s n))/\Below w.heap.size w w':=by
 go_enter Tryz.func226,Tryz.ntmps226
 go_wp2
 try simp only [Exit.inBlock,Exit.then]
 refine bodyPost_ret (results_cell_row rfl _ _ w.heap.size 244 _ (0,0) _ rfl (by repeat' first|with_reducible assumption|((with_reducible first|refine zP _ ?_ ?_|apply zJ);rotate_left;first|with_reducible rfl|((try dsimp only);first|with_reducible assumption|omega|(simp only [zS];done)|(simp only [zS];omega)))|with_reducible apply zI|with_reducible refine zZ _ ?_|with_reducible refine ZH ?_|refine (rfl:(_:Array Value)=_)) Tryz.underlying244 rfl (by kernel_rfl)) rfl ?_
 exact ⟨rfl,by go_grown⟩
end
section
open Go.RowKit Go.Deep Go.Maps
theorem z5b {l:List Epoch} {k:Nat} (h1:1<=k) (h2:k<=l.length):yT l k=z1c (l.drop k) k:=by
 rw [yT,if_pos ⟨by omega,by omega⟩]
 rfl
theorem z9u {l:List Epoch} {k:Nat} {x:Epoch} (hx:l[k]? =some x) (hp:x.place=1) (e:Int):z1c (l.drop k) e=e:=by
 have hk:=zge hx
 rw [List.drop_eq_getElem_cons hk.1,hk.2,z1c,if_pos hp]
theorem zE1 {l:List Epoch} {k:Nat} {x:Epoch} (hx:l[k]? =some x) (hp:x.place≠1) (e:Int):z1c (l.drop k) e=z1c (l.drop (k+1)) (e+1):=by
 have hk:=zge hx
 rw [List.drop_eq_getElem_cons hk.1,hk.2,z1c,if_neg hp]
set_option maxHeartbeats 1000000 in
theorem zMx (f:Folder) (n:Int) (hn:I64 n) (cs:List Value) (w:World) (S:Nat->Prop) (h:ZE S w cs f):Calls Tryz.prog 229 #[.agg cs.toArray,.int .i64 n] w fun e w'=>e= .returned (.int .i64 (yT f.epochs n))/\Below w.heap.size w w':=by
 have hR:=zh h
 obtain ⟨f_A2,f_c2,f_A3,f_c3,f_A4,f_c4,f_A5,f_c5,f_A6,f_c6,rfl,_,_,_,_,_,f_manifests_s,_,_,_,f_epochs_s,_,_,_,f_items_s,_,_,_,f_wraps_s,_,_,_,f_links_s⟩:=Z5 h
 obtain ⟨w0,_,cw0,fw0,Bw0,qw0⟩:=zO w #[.string f.name,.int .i64 f.turn,.slice f_A2 f.manifests.length f_c2,.slice f_A3 f.epochs.length f_c3,.slice f_A4 f.items.length f_c4,.slice f_A5 f.wraps.length f_c5,.slice f_A6 f.links.length f_c6] 74
 have HCW:=zh cw0
 have HB0:=zh Bw0
 have hI:=zh hn
 clear cw0 fw0 Bw0 f_manifests_s f_items_s f_wraps_s f_links_s hn
 go_enter Tryz.func229,Tryz.ntmps229
 go_wp2
 go_loopw [1] (fun i wr=>∃m:Int,i= .int .i64 m/\Hid (yT f.epochs m=yT f.epochs n)/\Hid ((m=n)\/(1<=m/\m<=f.epochs.length))/\Below w0.heap.size w0 wr) (fun i _=>f.epochs.length+1 - (RowKit.intOf i).toNat)
 case atStart=>exact ⟨n,rfl,(by show _=_;rfl),.inl rfl,Below.refl _ _⟩
 obtain ⟨m,rfl,HE,_,hbel⟩:=hrel
 have HB:=zh (zB HB0.out hbel)
 have x0:=(hbel.cell (p:=⟨w.heap.size,0,none⟩) qw0).trans (HCW.out 0 _ rfl)
 have x1:=(hbel.cell (p:=⟨w.heap.size,1,none⟩) qw0).trans (HCW.out 1 _ rfl)
 have x2:=(hbel.cell (p:=⟨w.heap.size,2,none⟩) qw0).trans (HCW.out 2 _ rfl)
 have x3:=(hbel.cell (p:=⟨w.heap.size,3,none⟩) qw0).trans (HCW.out 3 _ rfl)
 have x4:=(hbel.cell (p:=⟨w.heap.size,4,none⟩) qw0).trans (HCW.out 4 _ rfl)
 have x5:=(hbel.cell (p:=⟨w.heap.size,5,none⟩) qw0).trans (HCW.out 5 _ rfl)
 have x6:=(hbel.cell (p:=⟨w.heap.size,6,none⟩) qw0).trans (HCW.out 6 _ rfl)
 have HH:=zh (zAf f m _ wr S (Z0 hR.out (zH HB.out)))
 cases hh:z6u f m with
 | false=>
  have HR:=zh (show m=yT f.epochs n by
   rw [<-HE.out,z4i]
   exact fun h=>by rw [z4r.2 h] at hh;cases hh)
  rw [hh] at HH
  clear hh
  go_wp2_with (go_at_call 190;refine zcm HH.out ?_;rintro e w1 ⟨rfl,B1⟩;have HB1:=zh (zB HB.out B1);clear B1)
  go_ret
  exact ⟨by rw [<-HR.out];rfl,HB1.out⟩
 | true=>
  obtain ⟨_,_⟩:=z4r.1 hh
  rw [hh] at HH
  clear hh
  obtain ⟨k,rfl⟩:∃k:Nat,m=k:=⟨m.toNat,by omega⟩
  by_cases hk:k < f.epochs.length
  rotate_left
  ·obtain rfl:k=f.epochs.length:=by omega
   have HR:=zh (show (f.epochs.length:Int)=yT f.epochs n by
    rw [<-HE.out,z5b (by omega) (znl _),List.drop_length]
    rfl)
   have hf0:decide ((f.epochs.length:Int) < (f.epochs.length:Int))=false:=decide_eq_false (by omega)
   go_wp2_with (go_at_call 190;refine zcm HH.out ?_;rintro e w1 ⟨rfl,B1⟩;have HB1:=zh (zB HB.out B1);have v3:=(B1.cell (p:=⟨w.heap.size,3,none⟩) (zF x3)).trans x3;clear B1)
   go_ret
   exact ⟨by rw [<-HR.out];rfl,HB1.out⟩
  obtain ⟨x,hx⟩:∃x,f.epochs[k]? =some x:=⟨_,List.getElem?_eq_getElem hk⟩
  obtain ⟨b,o,_,hA,_,hxR,hcz⟩:=SlAt.elem f_epochs_s hx (by decide) HB.out
  obtain ⟨_,_,rfl,_,_,_,_,_,_,x_chain_s,_⟩:=z2l hxR
  have u0:=hcz 0 _ rfl
  rw [Nat.add_zero] at u0
  subst hA
  have hkk:(k:Int) < (f.epochs.length:Int):=by omega
  have HX:=zh hx
  clear hcz x_chain_s hx
  by_cases hp:x.place=1
  ·have HR:=zh (show (k:Int)=yT f.epochs n by
    rw [<-HE.out,z5b (by omega) (by omega),z9u HX.out hp])
   have hp2:(x.place==1)=true:=beq_iff_eq.2 hp
   clear hp
   go_wp2_with (go_at_call 190;refine zcm HH.out ?_;rintro e w1 ⟨rfl,B1⟩;have HB1:=zh (zB HB.out B1);have v3:=(B1.cell (p:=⟨w.heap.size,3,none⟩) (zF x3)).trans x3;have v0:=(B1.cell (p:=⟨b,o+k*5,none⟩) (zF u0)).trans u0;clear B1)
   go_ret
   exact ⟨by rw [<-HR.out];rfl,HB1.out⟩
  have HR:=zh (show yT f.epochs ((k+1:Nat):Int)=yT f.epochs n by
   rw [<-HE.out,z5b (by omega) (by omega),z5b (k:=k) (by omega) (by omega),zE1 HX.out hp]
   rfl)
  have hp2:(x.place==1)=false:=by simpa using hp
  clear hp
  go_wp2_with (go_at_call 190;refine zcm HH.out ?_;rintro e w1 ⟨rfl,B1⟩;have HB1:=zh (zB hbel B1);have v3:=(B1.cell (p:=⟨w.heap.size,3,none⟩) (zF x3)).trans x3;have v0:=(B1.cell (p:=⟨b,o+k*5,none⟩) (zF u0)).trans u0;clear B1)
  go_roundw
  case rel=>exact ⟨((k+1:Nat):Int),by go_num,HR,.inr ⟨by omega,by omega⟩,HB1.out⟩
  case measure=>simp [RowKit.intOf];omega
end
section
open Go.RowKit Go.Deep Go.Maps Go.WideMaps
def kS (s:Nm):Lit:= .string s.data.toList
theorem zPv {a b:Nm}:kS a=kS b↔a=b:=by
 unfold kS
 rw [Lit.string.injEq]
 exact ⟨fun h=>ByteArray.ext (Array.toList_inj.1 h),fun h=>by rw [h]⟩
theorem zAg (s:Nm):WideAt.IsKeyLit (kS s):=by simp [kS,WideAt.IsKeyLit]
theorem z8m:Keyed Tryz.prog 9:=string_keyed Tryz.underlying9
theorem zPw {s:Nm} (h:s.size<=140737488355328):keyOf Tryz.prog 9 (.string s)=some (kS s):=keyOf_string_mk Tryz.underlying9 (by unfold maxLen;omega)
def z3l (l:List Nm) (s:Nm):Nat:=(l.filter fun y=>decide (y=s)).length
theorem zL0 (l:List Nm) (x s:Nm):z3l (l++[x]) s=z3l l s+if x=s then 1 else 0:=by
 unfold z3l
 rw [List.filter_append,List.length_append]
 by_cases h:x=s<;>simp [h]
theorem zHz (l:List Nm) (s:Nm):z3l l s<=l.length:=List.length_filter_le _ _
theorem zE2 (l:List Nm) (s:Nm):z3l l s=0↔s∉l:=by
 unfold z3l
 rw [List.length_eq_zero_iff,List.filter_eq_nil_iff]
 constructor
 ·intro h hs
  exact absurd (decide_eq_true (rfl:s=s)) (h s hs)
 intro h y hy e
 have:y=s:=of_decide_eq_true e
 exact h (this▸hy)
structure Cnt (D:DataW Unit) (l:List Nm):Prop where
 isMap:IsMap D
 val:∀s,D.atKey (kS s) (.lit (.int .i64 0))= .lit (.int .i64 (z3l l s))
theorem Cnt.start:Cnt (.map []) []:=⟨isMap_empty,fun s=>by rw [atKey_of_not_has (by simp [Maps.has])];rfl⟩
theorem Cnt.put {D:DataW Unit} {l:List Nm} (h:Cnt D l) (x:Nm) {c:Int} (hc:c=z3l l x+1):Cnt (D.put (kS x) (.lit (.int .i64 c))) (l++[x]):=by
 refine ⟨h.isMap.put _ _,fun s=>?_⟩
 rw [zL0]
 by_cases e:x=s
 ·subst e
  rw [atKey_put_same h.isMap (zAg _),if_pos rfl,hc]
  simp
 rw [atKey_put_other fun e2=>e (zPv.1 e2).symm,h.val,if_neg e]
 simp
theorem z7a (x:Folder) (cs:List Value) (w:World) (S:Nat->Prop) (h:ZE S w cs x):Calls Tryz.prog 225 #[.agg cs.toArray] w fun e w'=>e= .returned (.string x.name)/\Below w.heap.size w w':=by
 obtain ⟨_,_,_,_,_,_,_,_,_,_,rfl,_,_,_,_,_,_,_,_,_,_,_,_,_,_,_,_,_,_,_,_,_,_⟩:=Z5 h
 go_enter Tryz.func225,Tryz.ntmps225
 go_wp2
 go_ret
 exact ⟨rfl,by go_grown⟩
theorem zFm {l:List Folder} {k:Nat} {x:Folder} (hx:l[k]? =some x):ZF Folder.name (l.take (k+1))=if x.name∈(l.take k).map Folder.name then ZF Folder.name (l.take k) else ZF Folder.name (l.take k)++[x]:=by
 rw [List.take_add_one,hx]
 exact YY Folder.name _ _
set_option maxHeartbeats 2000000 in
theorem zAh (l:List Folder) (v:Value) (w:World) (S:Nat->Prop) (h:Sl 7 ZE S w v l) (hl:l.length<=1000):Calls Tryz.prog 224 #[v,.func (.func 225) #[] #[]] w fun e w'=>(∃(v':Value) (ps:List (List Value×Folder)),e= .returned v'/\RowC 74 7 w' v' (ps.map (·.1))/\ps.map (·.2)=ZF Folder.name l/\(∀p∈ps,ZE S w p.1 p.2)/\∀z,v'.ownBlock=some z->w.heap.size<=z)/\Below w.heap.size w w':=by
 obtain ⟨_,c,rfl,_,hc,_,hs⟩:=h
 unfold maxLen at hc
 have hmm:=@run_makeMap Tryz.prog
 have HL:=zh hl
 clear hl
 obtain ⟨iFolder,hiFolder,hzFolder,h1Folder,h2Folder⟩:=info_parts (show (Tryz.prog.info? 74).map (fun i=>(i.zero,i.size,i.bytes))=some (some (.agg #[.string ⟨#[]⟩,.int .i64 0,.slice none 0 0,.slice none 0 0,.slice none 0 0,.slice none 0 0,.slice none 0 0]),7,144) from by kernel_rfl)
 go_enter Tryz.func224,Tryz.ntmps224
 go_wp2
 clear hmm
 go_loopw [5,12] (fun vo i wr=>∃(k:Nat) (D:DataW Unit) (ps:List (List Value×Folder)),k<=l.length/\i= .int .i64 k/\Hid (RowC 74 7 wr vo (ps.map (·.1)))/\Hid (ps.map (·.2)=ZF Folder.name (l.take k))/\Hid (∀p∈ps,ZE S w p.1 p.2)/\Hid (∀z,vo.ownBlock=some z->w.heap.size<=z)/\Hid (wr.ownsMap Tryz.prog 9 (plainElem Tryz.prog 3) w.heap.size k D)/\Hid (Cnt D ((l.take k).map Folder.name))/\Below w.heap.size w wr) (fun _ i _=>l.length - (RowKit.intOf i).toNat)
 case atStart=>exact ⟨0,_,[],by omega,by go_num,RowC.nil _,(by show _=_;rfl),(fun p hp=>by simp at hp),(fun z hz=>by cases hz),World.ownsMap_made _ _ _ _,Cnt.start,by go_grown⟩
 obtain ⟨k,D,ps,_,rfl,HG,HPS,HPR,HOB,HO,HC,hbel⟩:=hrel
 have hz:=hbel.size
 obtain ⟨A2,n2,c2,rfl⟩:=HG.out.shape3
 by_cases hlt:k < l.length
 rotate_left
 ·obtain rfl:k=l.length:=by omega
  go_wp2
  go_ret
  exact ⟨⟨_,ps,rfl,HG.out,by rw [HPS.out,List.take_length],HPR.out,HOB.out⟩,hbel⟩
 obtain ⟨x,hx⟩:∃x,l[k]? =some x:=⟨_,List.getElem?_eq_getElem hlt⟩
 obtain ⟨b,_,_,hA,_,hR,hcz⟩:=SlAt.elem hs hx (by decide) hbel
 have HX:=zh hx
 have HR:=zh hR
 obtain ⟨x_A2,x_c2,x_A3,x_c3,x_A4,x_c4,x_A5,x_c5,x_A6,x_c6,rfl,x_name_le,_,_,_,_,x_manifests_s,_,_,_,x_epochs_s,_,_,_,x_items_s,_,_,_,x_wraps_s,_,_,_,x_links_s⟩:=Z5 hR
 have u0:=hcz 0 _ rfl
 have u1:=hcz 1 _ rfl
 have u2:=hcz 2 _ rfl
 have u3:=hcz 3 _ rfl
 have u4:=hcz 4 _ rfl
 have u5:=hcz 5 _ rfl
 have u6:=hcz 6 _ rfl
 rw [Nat.add_zero] at u0
 subst hA
 have hki:(k:Int) < (l.length:Int):=by omega
 have HLL:=HL.out
 have hcn:=zHz ((l.take k).map Folder.name) x.name
 rw [List.length_map,List.length_take] at hcn
 have HFL:=zh (show ps.length<=k by
  have h1:ps.length=(ZF Folder.name (l.take k)).length:=by rw [<-HPS.out,List.length_map]
  rw [h1]
  exact Nat.le_trans (z4h Folder.name (l.take k)) (by rw [List.length_take];exact Nat.min_le_left _ _))
 have hcn2:z3l ((l.take k).map Folder.name) x.name<=1000:=by omega
 have HCN:=zh hcn2
 have hkey:=zPw x_name_le
 have hob:=HO.out.lt
 have HT:=zh (zFm HX.out)
 have HC2:=zh (HC.out.put x.name (c:=((z3l ((l.take k).map Folder.name) x.name+1:Nat):Int)) rfl)
 rw [show (l.take k).map Folder.name++[x.name]=(l.take (k+1)).map Folder.name by rw [List.take_add_one,HX.out];simp] at HC2
 have E0:=zh (HC.out.val x.name)
 have E1:=zh (show (D.put (kS x.name) (.lit (.int .i64 ((z3l ((l.take k).map Folder.name) x.name+1:Nat):Int)))).atKey (kS x.name) (.lit (.int .i64 0))=_ from atKey_put_same HC.out.isMap (zAg _) _ _)
 have HM:=zh (zE2 ((l.take k).map Folder.name) x.name)
 clear hx hcz hcn hcn2
 generalize hq:z3l ((l.take k).map Folder.name) x.name=q at HCN HC2 E0 E1 HM
 clear hq x_manifests_s x_epochs_s x_items_s x_wraps_s x_links_s
 go_wp2_with fail
 refine zcm (z7a x _ _ S (Z0 HR.out (zH (by go_grown)))) ?_
 rintro e w1 ⟨rfl,hb1⟩
 have T1:w1.heap[wr.heap.size]? =some (.cells #[.string x.name,.int .i64 x.turn,.slice x_A2 x.manifests.length x_c2,.slice x_A3 x.epochs.length x_c3,.slice x_A4 x.items.length x_c4,.slice x_A5 x.wraps.length x_c5,.slice x_A6 x.links.length x_c6] 74 (0,0)):=(hb1.block _ (by simp)).trans (by repeat' first|with_reducible assumption|((with_reducible first|refine zP _ ?_ ?_|apply zJ);rotate_left;first|with_reducible rfl|((try dsimp only);first|with_reducible assumption|omega|(simp only [zS];done)|(simp only [zS];omega)))|with_reducible apply zI|with_reducible refine zZ _ ?_|with_reducible refine ZH ?_|refine (rfl:(_:Array Value)=_))
 have B1:=zh (show Below wr.heap.size wr w1 from zB (by go_grown) hb1)
 have O1:=zh (z0n HO.out B1.out)
 have K1:=(zD T1).1
 have k1_0:=K1 0 _ rfl
 have k1_1:=K1 1 _ rfl
 have k1_2:=K1 2 _ rfl
 have k1_3:=K1 3 _ rfl
 have k1_4:=K1 4 _ rfl
 have k1_5:=K1 5 _ rfl
 have k1_6:=K1 6 _ rfl
 have HT1:=zh T1
 clear T1 hb1 K1
 have hqb:q<=1000:=HCN.out
 have hwr:IntKind.i64.wrap ((q:Int)+1)=((q+1:Nat):Int):=by rw [IntWalk.i64_in _ (by omega)];rfl
 go_wp2_with (first
  | (at_lookup;go_loud (refine wpList_lookup_own_int _ rfl _ _ 287 rfl 9 3 .i64 z8m Tryz.underlying287 Tryz.underlying3 (z43 _) w.heap.size k D rfl O1.out _ _ rfl hkey ?_);intro c hat hwc;obtain rfl:c=(q:Int):=(by have:=hat.symm.trans E0.out;simpa using this);clear hat hwc)
  | (at_mapUpdate;go_loud (refine wpList_mapUpdate_own _ rfl _ _ _ 287 rfl 9 3 z8m Tryz.underlying287 _ w.heap.size k D rfl O1.out (by unfold maxLen;omega) _ (.int .i64 ((q+1:Nat):Int)) _ rfl rfl hkey _ [] (plainElem_int Tryz.underlying3 (by have h:I64 ((q+1:Nat):Int):=⟨by omega,by omega⟩;simp [Lit.wf];exact h)) ?_);intro w2 hown2 hg2;have O2:=zh hown2;have G2:=zh hg2;clear hown2 hg2;have T2:w2.heap[wr.heap.size]? =some (.cells #[.string x.name,.int .i64 x.turn,.slice x_A2 x.manifests.length x_c2,.slice x_A3 x.epochs.length x_c3,.slice x_A4 x.items.length x_c4,.slice x_A5 x.wraps.length x_c5,.slice x_A6 x.links.length x_c6] 74 (0,0)):=(G2.out.block _ (zM HT1.out) (by simp;omega)).trans HT1.out;have K2:=(zD T2).1;have k2_0:=K2 0 _ rfl;have k2_1:=K2 1 _ rfl;have k2_2:=K2 2 _ rfl;have k2_3:=K2 3 _ rfl;have k2_4:=K2 4 _ rfl;have k2_5:=K2 5 _ rfl;have k2_6:=K2 6 _ rfl;have HT2:=zh T2;clear T2 K2))
 have HNB:=zh (show (Value.slice A2 n2 c2).ownBlock≠some w.heap.size from fun h=>by
  obtain ⟨_,ha⟩:=y8 HG.out h
  exact z0z HO.out ha rfl)
 have W2:=zh (show RowC 74 7 w2 (.slice A2 n2 c2) (ps.map (·.1)) from (HG.out.below B1.out).keep fun b hb=>G2.out.block b ((HG.out.below B1.out).lt b hb) fun e=>HNB.out (hb.trans e))
 have B2:=zh (show Below w.heap.size w w2 from Below.grown (zB hbel B1.out) G2.out (Nat.le_trans hz B1.out.size) fun b hb=>by obtain rfl:=zsi hb;exact znl _)
 have KM:=O2.out.lt
 refine zcm (z7a x _ _ S (Z0 HR.out (zH B2.out))) ?_
 rintro e w3 ⟨rfl,hb3⟩
 have B3:=zh hb3
 have O3:=zh (z0n O2.out B3.out)
 have T3:w3.heap[wr.heap.size]? =some (.cells #[.string x.name,.int .i64 x.turn,.slice x_A2 x.manifests.length x_c2,.slice x_A3 x.epochs.length x_c3,.slice x_A4 x.items.length x_c4,.slice x_A5 x.wraps.length x_c5,.slice x_A6 x.links.length x_c6] 74 (0,0)):=(hb3.block _ (zM HT2.out)).trans HT2.out
 have K3:=(zD T3).1
 have k3_0:=K3 0 _ rfl
 have k3_1:=K3 1 _ rfl
 have k3_2:=K3 2 _ rfl
 have k3_3:=K3 3 _ rfl
 have k3_4:=K3 4 _ rfl
 have k3_5:=K3 5 _ rfl
 have k3_6:=K3 6 _ rfl
 have W3:=zh (W2.out.below hb3)
 have B23:=zh (zB B2.out hb3)
 clear T3 K3 hb3 B2 B3 KM
 have hlen:(ps.map (·.1)).length<=1000:=by rw [List.length_map];have:=HFL.out;omega
 have HLE:=zh hlen
 clear hlen
 by_cases hmem:q=0
 rotate_left
 ·have hN:¬(x.name∉(l.take k).map Folder.name):=fun h=>hmem (HM.out.2 h)
  rw [if_pos (Classical.not_not.1 hN)] at HT
  have hq1:(((q+1:Nat):Int)==1)=false:=by simp;omega
  have hq2:((q:Int)+1==1)=false:=by simp;omega
  clear hmem hN
  go_wp2_with (first
   | (at_lookup;go_loud (refine wpList_lookup_own_int _ rfl _ _ 287 rfl 9 3 .i64 z8m Tryz.underlying287 Tryz.underlying3 (z43 _) w.heap.size (k+1) _ rfl O3.out _ _ rfl hkey ?_);intro c hat hwc;obtain rfl:c=((q+1:Nat):Int):=(by have:=hat.symm.trans E1.out;simpa using this);clear hat hwc))
  go_roundw
  case rel=>exact ⟨k+1,_,ps,by omega,by go_num,W3,HPS.out.trans HT.out.symm,HPR,HOB,O3,HC2,B23.out⟩
  case measure=>simp [RowKit.intOf];omega
 have hN:=HM.out.1 hmem
 rw [if_neg hN] at HT
 subst hmem
 go_wp2_with (first
  | (at_lookup;go_loud (refine wpList_lookup_own_int _ rfl _ _ 287 rfl 9 3 .i64 z8m Tryz.underlying287 Tryz.underlying3 (z43 _) w.heap.size (k+1) _ rfl O3.out _ _ rfl hkey ?_);intro c hat hwc;obtain rfl:c=(1:Int):=(by have:=hat.symm.trans E1.out;simpa using this);clear hat hwc)
  | (at_builtin;refine z0k w3 _ [.string x.name,.int .i64 x.turn,.slice x_A2 x.manifests.length x_c2,.slice x_A3 x.epochs.length x_c3,.slice x_A4 x.items.length x_c4,.slice x_A5 x.wraps.length x_c5,.slice x_A6 x.links.length x_c6] rfl (.tmp 28) (.tmp 30) 32 rfl iFolder _ 144 Tryz.underlying32 hiFolder hzFolder h1Folder h2Folder rfl (by decide) (by decide) (.slice A2 n2 c2) (ps.map (·.1)) rfl _ _ rfl W3.out (by go_grown) (by have:=HLE.out;omega) rfl (z9r HR.out) (by repeat' first|with_reducible assumption|((with_reducible first|refine zP _ ?_ ?_|apply zJ);rotate_left;first|with_reducible rfl|((try dsimp only);first|with_reducible assumption|omega|(simp only [zS];done)|(simp only [zS];omega)))|with_reducible apply zI|with_reducible refine zZ _ ?_|with_reducible refine ZH ?_|refine (rfl:(_:Array Value)=_)) ?_;intro v4 w4 r4 p4 o4;obtain ⟨_,_,_,rfl⟩:=r4.shape3;have R4:=zh r4;have P4:=zh p4;have O4:=zh o4;clear r4 p4 o4))
 go_roundw
 case rel=>
  refine ⟨k+1,_,ps++[([.string x.name,.int .i64 x.turn,.slice x_A2 x.manifests.length x_c2,.slice x_A3 x.epochs.length x_c3,.slice x_A4 x.items.length x_c4,.slice x_A5 x.wraps.length x_c5,.slice x_A6 x.links.length x_c6],x)],by omega,by go_num,?_,?_,fun p hp=>?_,fun z hz2=>?_,?_,HC2,?_⟩
  ·show RowC _ _ _ _ _
   rw [List.map_append]
   exact R4.out
  ·show _=_
   rw [List.map_append,HPS.out,HT.out]
   rfl
  ·rcases zmb hp with hp | hp
   ·exact HPR.out p hp
   obtain rfl:=zml hp
   exact HR.out
  ·rcases O4.out with h | ⟨q,h,hq⟩
   ·exact HOB.out z (h.symm.trans hz2)
   obtain rfl:=zsi (h.symm.trans hz2)
   exact Nat.le_trans B23.out.size hq
  ·exact z3i O3.out P4.out HNB.out
  exact ButB.below B23.out B23.out.size (fun b hb=>HOB.out b hb) P4.out
 case measure=>simp [RowKit.intOf];omega
theorem z8n (x:Wrap) (cs:List Value) (w:World) (S:Nat->Prop) (h:yW S w cs x):Calls Tryz.prog 228 #[.agg cs.toArray] w fun e w'=>e= .returned (.string x.name)/\Below w.heap.size w w':=by
 obtain ⟨rfl,_,_⟩:=z2g h
 go_enter Tryz.func228,Tryz.ntmps228
 go_wp2
 go_ret
 exact ⟨rfl,by go_grown⟩
theorem zIv {l:List Wrap} {k:Nat} {x:Wrap} (hx:l[k]? =some x):ZF Wrap.name (l.take (k+1))=if x.name∈(l.take k).map Wrap.name then ZF Wrap.name (l.take k) else ZF Wrap.name (l.take k)++[x]:=by
 rw [List.take_add_one,hx]
 exact YY Wrap.name _ _
set_option maxHeartbeats 2000000 in
theorem zD4 (l:List Wrap) (v:Value) (w:World) (S:Nat->Prop) (h:Sl 3 yW S w v l) (hl:l.length<=1000):Calls Tryz.prog 227 #[v,.func (.func 228) #[] #[]] w fun e w'=>(∃(v':Value) (ps:List (List Value×Wrap)),e= .returned v'/\RowC 149 3 w' v' (ps.map (·.1))/\ps.map (·.2)=ZF Wrap.name l/\(∀p∈ps,yW S w p.1 p.2)/\∀z,v'.ownBlock=some z->w.heap.size<=z)/\Below w.heap.size w w':=by
 obtain ⟨_,c,rfl,_,hc,_,hs⟩:=h
 unfold maxLen at hc
 have hmm:=@run_makeMap Tryz.prog
 have HL:=zh hl
 clear hl
 obtain ⟨iWrap,hiWrap,hzWrap,h1Wrap,h2Wrap⟩:=info_parts (show (Tryz.prog.info? 149).map (fun i=>(i.zero,i.size,i.bytes))=some (some (.agg #[.string ⟨#[]⟩,.int .i64 0,.bool false]),3,32) from by kernel_rfl)
 go_enter Tryz.func227,Tryz.ntmps227
 go_wp2
 clear hmm
 go_loopw [5,12] (fun vo i wr=>∃(k:Nat) (D:DataW Unit) (ps:List (List Value×Wrap)),k<=l.length/\i= .int .i64 k/\Hid (RowC 149 3 wr vo (ps.map (·.1)))/\Hid (ps.map (·.2)=ZF Wrap.name (l.take k))/\Hid (∀p∈ps,yW S w p.1 p.2)/\Hid (∀z,vo.ownBlock=some z->w.heap.size<=z)/\Hid (wr.ownsMap Tryz.prog 9 (plainElem Tryz.prog 3) w.heap.size k D)/\Hid (Cnt D ((l.take k).map Wrap.name))/\Below w.heap.size w wr) (fun _ i _=>l.length - (RowKit.intOf i).toNat)
 case atStart=>exact ⟨0,_,[],by omega,by go_num,RowC.nil _,(by show _=_;rfl),(fun p hp=>by simp at hp),(fun z hz=>by cases hz),World.ownsMap_made _ _ _ _,Cnt.start,by go_grown⟩
 obtain ⟨k,D,ps,_,rfl,HG,HPS,HPR,HOB,HO,HC,hbel⟩:=hrel
 have hz:=hbel.size
 obtain ⟨A2,n2,c2,rfl⟩:=HG.out.shape3
 by_cases hlt:k < l.length
 rotate_left
 ·obtain rfl:k=l.length:=by omega
  go_wp2
  go_ret
  exact ⟨⟨_,ps,rfl,HG.out,by rw [HPS.out,List.take_length],HPR.out,HOB.out⟩,hbel⟩
 obtain ⟨x,hx⟩:∃x,l[k]? =some x:=⟨_,List.getElem?_eq_getElem hlt⟩
 obtain ⟨b,_,_,hA,_,hR,hcz⟩:=SlAt.elem hs hx (by decide) hbel
 have HX:=zh hx
 have HR:=zh hR
 obtain ⟨rfl,x_name_le,_⟩:=z2g hR
 have u0:=hcz 0 _ rfl
 have u1:=hcz 1 _ rfl
 have u2:=hcz 2 _ rfl
 rw [Nat.add_zero] at u0
 subst hA
 have hki:(k:Int) < (l.length:Int):=by omega
 have HLL:=HL.out
 have hcn:=zHz ((l.take k).map Wrap.name) x.name
 rw [List.length_map,List.length_take] at hcn
 have HFL:=zh (show ps.length<=k by
  have h1:ps.length=(ZF Wrap.name (l.take k)).length:=by rw [<-HPS.out,List.length_map]
  rw [h1]
  exact Nat.le_trans (z4h Wrap.name (l.take k)) (by rw [List.length_take];exact Nat.min_le_left _ _))
 have hcn2:z3l ((l.take k).map Wrap.name) x.name<=1000:=by omega
 have HCN:=zh hcn2
 have hkey:=zPw x_name_le
 have hob:=HO.out.lt
 have HT:=zh (zIv HX.out)
 have HC2:=zh (HC.out.put x.name (c:=((z3l ((l.take k).map Wrap.name) x.name+1:Nat):Int)) rfl)
 rw [show (l.take k).map Wrap.name++[x.name]=(l.take (k+1)).map Wrap.name by rw [List.take_add_one,HX.out];simp] at HC2
 have E0:=zh (HC.out.val x.name)
 have E1:=zh (show (D.put (kS x.name) (.lit (.int .i64 ((z3l ((l.take k).map Wrap.name) x.name+1:Nat):Int)))).atKey (kS x.name) (.lit (.int .i64 0))=_ from atKey_put_same HC.out.isMap (zAg _) _ _)
 have HM:=zh (zE2 ((l.take k).map Wrap.name) x.name)
 clear hx hcz hcn hcn2
 generalize hq:z3l ((l.take k).map Wrap.name) x.name=q at HCN HC2 E0 E1 HM
 clear hq
 go_wp2_with fail
 refine zcm (z8n x _ _ S (z2n HR.out (zH (by go_grown)))) ?_
 rintro e w1 ⟨rfl,hb1⟩
 have T1:w1.heap[wr.heap.size]? =some (.cells #[.string x.name,.int .i64 x.epoch,.bool x.seed] 149 (0,0)):=(hb1.block _ (by simp)).trans (by repeat' first|with_reducible assumption|((with_reducible first|refine zP _ ?_ ?_|apply zJ);rotate_left;first|with_reducible rfl|((try dsimp only);first|with_reducible assumption|omega|(simp only [zS];done)|(simp only [zS];omega)))|with_reducible apply zI|with_reducible refine zZ _ ?_|with_reducible refine ZH ?_|refine (rfl:(_:Array Value)=_))
 have B1:=zh (show Below wr.heap.size wr w1 from zB (by go_grown) hb1)
 have O1:=zh (z0n HO.out B1.out)
 have K1:=(zD T1).1
 have k1_0:=K1 0 _ rfl
 have k1_1:=K1 1 _ rfl
 have k1_2:=K1 2 _ rfl
 have HT1:=zh T1
 clear T1 hb1 K1
 have hqb:q<=1000:=HCN.out
 have hwr:IntKind.i64.wrap ((q:Int)+1)=((q+1:Nat):Int):=by rw [IntWalk.i64_in _ (by omega)];rfl
 go_wp2_with (first
  | (at_lookup;go_loud (refine wpList_lookup_own_int _ rfl _ _ 287 rfl 9 3 .i64 z8m Tryz.underlying287 Tryz.underlying3 (z43 _) w.heap.size k D rfl O1.out _ _ rfl hkey ?_);intro c hat hwc;obtain rfl:c=(q:Int):=(by have:=hat.symm.trans E0.out;simpa using this);clear hat hwc)
  | (at_mapUpdate;go_loud (refine wpList_mapUpdate_own _ rfl _ _ _ 287 rfl 9 3 z8m Tryz.underlying287 _ w.heap.size k D rfl O1.out (by unfold maxLen;omega) _ (.int .i64 ((q+1:Nat):Int)) _ rfl rfl hkey _ [] (plainElem_int Tryz.underlying3 (by have h:I64 ((q+1:Nat):Int):=⟨by omega,by omega⟩;simp [Lit.wf];exact h)) ?_);intro w2 hown2 hg2;have O2:=zh hown2;have G2:=zh hg2;clear hown2 hg2;have T2:w2.heap[wr.heap.size]? =some (.cells #[.string x.name,.int .i64 x.epoch,.bool x.seed] 149 (0,0)):=(G2.out.block _ (zM HT1.out) (by simp;omega)).trans HT1.out;have K2:=(zD T2).1;have k2_0:=K2 0 _ rfl;have k2_1:=K2 1 _ rfl;have k2_2:=K2 2 _ rfl;have HT2:=zh T2;clear T2 K2))
 have HNB:=zh (show (Value.slice A2 n2 c2).ownBlock≠some w.heap.size from fun h=>by
  obtain ⟨_,ha⟩:=y8 HG.out h
  exact z0z HO.out ha rfl)
 have W2:=zh (show RowC 149 3 w2 (.slice A2 n2 c2) (ps.map (·.1)) from (HG.out.below B1.out).keep fun b hb=>G2.out.block b ((HG.out.below B1.out).lt b hb) fun e=>HNB.out (hb.trans e))
 have B2:=zh (show Below w.heap.size w w2 from Below.grown (zB hbel B1.out) G2.out (Nat.le_trans hz B1.out.size) fun b hb=>by obtain rfl:=zsi hb;exact znl _)
 have KM:=O2.out.lt
 refine zcm (z8n x _ _ S (z2n HR.out (zH B2.out))) ?_
 rintro e w3 ⟨rfl,hb3⟩
 have B3:=zh hb3
 have O3:=zh (z0n O2.out B3.out)
 have T3:w3.heap[wr.heap.size]? =some (.cells #[.string x.name,.int .i64 x.epoch,.bool x.seed] 149 (0,0)):=(hb3.block _ (zM HT2.out)).trans HT2.out
 have K3:=(zD T3).1
 have k3_0:=K3 0 _ rfl
 have k3_1:=K3 1 _ rfl
 have k3_2:=K3 2 _ rfl
 have W3:=zh (W2.out.below hb3)
 have B23:=zh (zB B2.out hb3)
 clear T3 K3 hb3 B2 B3 KM
 have hlen:(ps.map (·.1)).length<=1000:=by rw [List.length_map];have:=HFL.out;omega
 have HLE:=zh hlen
 clear hlen
 by_cases hmem:q=0
 rotate_left
 ·have hN:¬(x.name∉(l.take k).map Wrap.name):=fun h=>hmem (HM.out.2 h)
  rw [if_pos (Classical.not_not.1 hN)] at HT
  have hq1:(((q+1:Nat):Int)==1)=false:=by simp;omega
  have hq2:((q:Int)+1==1)=false:=by simp;omega
  clear hmem hN
  go_wp2_with (first
   | (at_lookup;go_loud (refine wpList_lookup_own_int _ rfl _ _ 287 rfl 9 3 .i64 z8m Tryz.underlying287 Tryz.underlying3 (z43 _) w.heap.size (k+1) _ rfl O3.out _ _ rfl hkey ?_);intro c hat hwc;obtain rfl:c=((q+1:Nat):Int):=(by have:=hat.symm.trans E1.out;simpa using this);clear hat hwc))
  go_roundw
  case rel=>exact ⟨k+1,_,ps,by omega,by go_num,W3,HPS.out.trans HT.out.symm,HPR,HOB,O3,HC2,B23.out⟩
  case measure=>simp [RowKit.intOf];omega
 have hN:=HM.out.1 hmem
 rw [if_neg hN] at HT
 subst hmem
 go_wp2_with (first
  | (at_lookup;go_loud (refine wpList_lookup_own_int _ rfl _ _ 287 rfl 9 3 .i64 z8m Tryz.underlying287 Tryz.underlying3 (z43 _) w.heap.size (k+1) _ rfl O3.out _ _ rfl hkey ?_);intro c hat hwc;obtain rfl:c=(1:Int):=(by have:=hat.symm.trans E1.out;simpa using this);clear hat hwc)
  | (at_builtin;refine z0k w3 _ [.string x.name,.int .i64 x.epoch,.bool x.seed] rfl (.tmp 28) (.tmp 30) 71 rfl iWrap _ 32 Tryz.underlying71 hiWrap hzWrap h1Wrap h2Wrap rfl (by decide) (by decide) (.slice A2 n2 c2) (ps.map (·.1)) rfl _ _ rfl W3.out (by go_grown) (by have:=HLE.out;omega) rfl (zDw HR.out) (by repeat' first|with_reducible assumption|((with_reducible first|refine zP _ ?_ ?_|apply zJ);rotate_left;first|with_reducible rfl|((try dsimp only);first|with_reducible assumption|omega|(simp only [zS];done)|(simp only [zS];omega)))|with_reducible apply zI|with_reducible refine zZ _ ?_|with_reducible refine ZH ?_|refine (rfl:(_:Array Value)=_)) ?_;intro v4 w4 r4 p4 o4;obtain ⟨_,_,_,rfl⟩:=r4.shape3;have R4:=zh r4;have P4:=zh p4;have O4:=zh o4;clear r4 p4 o4))
 go_roundw
 case rel=>
  refine ⟨k+1,_,ps++[([.string x.name,.int .i64 x.epoch,.bool x.seed],x)],by omega,by go_num,?_,?_,fun p hp=>?_,fun z hz2=>?_,?_,HC2,?_⟩
  ·show RowC _ _ _ _ _
   rw [List.map_append]
   exact R4.out
  ·show _=_
   rw [List.map_append,HPS.out,HT.out]
   rfl
  ·rcases zmb hp with hp | hp
   ·exact HPR.out p hp
   obtain rfl:=zml hp
   exact HR.out
  ·rcases O4.out with h | ⟨q,h,hq⟩
   ·exact HOB.out z (h.symm.trans hz2)
   obtain rfl:=zsi (h.symm.trans hz2)
   exact Nat.le_trans B23.out.size hq
  ·exact z3i O3.out P4.out HNB.out
  exact ButB.below B23.out B23.out.size (fun b hb=>HOB.out b hb) P4.out
 case measure=>simp [RowKit.intOf];omega
end
end Go.Proofs.YtdggplhnfhcieaaGreatDoor
