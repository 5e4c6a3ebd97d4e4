/- No condition. -/
import Derived.Test.YtdggplhnfhcieaaGreatDoorX12
set_option linter.all false
set_option maxRecDepth 100000
namespace Go.Proofs.YtdggplhnfhcieaaGreatDoor
section
open Go.RowKit Go.Deep Go.Maps
structure SrS (w0 w:World) (bm:Nat) (D:DataW Unit) (va vb:Value) (all:List GN) (bl:List (List Value)):Prop where
 own:w.ownsMap Tryz.prog 244 (plainElem Tryz.prog 3) bm all.length D
 idx:Idx D all
 row:RowC 244 3 w va (all.map cG)
 by_:RowC 3 1 w vb bl
 len:bl.length=all.length
 bmb:w0.heap.size<=bm
 ab:∀z,va.ownBlock=some z->w0.heap.size<=z
 bb:∀z,vb.ownBlock=some z->w0.heap.size<=z
 bel:Below w0.heap.size w0 w
theorem z1p {P:Program} {k:TypeId} {R:Value->Option (DataW Unit×List MemPlace)} {b n:Nat} {D:DataW Unit} {w w':World} (h:w.ownsMap P k R b n D) (hb:Below w.heap.size w w'):w'.ownsMap P k R b n D:=by
 have hl:=h.lt;obtain ⟨es,clock,h1,h2⟩:=h;exact ⟨es,clock,(hb.block b hl).trans h1,h2⟩
theorem SrS.mono {w0 w w':World} {bm:Nat} {D:DataW Unit} {va vb:Value} {all:List GN} {bl:List (List Value)} (h:SrS w0 w bm D va vb all bl) (k:Below w.heap.size w w'):SrS w0 w' bm D va vb all bl:=
 ⟨z1p h.own k,h.idx,h.row.below k,h.by_.below k,h.len,h.bmb,h.ab,h.bb,zB h.bel k⟩
theorem SrS.push {w0 w W w1 w2 w3:World} {bm:Nat} {D:DataW Unit} {va vb va' vb':Value} {all:List GN} {bl:List (List Value)} {y:GN} {cs:List Value} (h:SrS w0 w bm D va vb all bl) (hy:OkG y) (hn:y∉all)
  (o1:w1.ownsMap Tryz.prog 244 (plainElem Tryz.prog 3) bm (all.length+1) (D.put (kG y) (.lit (.int .i64 all.length)))) (g1:W.grownBy w1 (some bm)) (B:Below w.heap.size w W)
  (p2:ButB (fun z=>va.ownBlock=some z) w1 w2) (r2:RowC 244 3 w2 va' (all.map cG++[cG y])) (q2:va'.ownBlock=va.ownBlock\/∃k,va'.ownBlock=some k/\w1.heap.size<=k)
  (p3:ButB (fun z=>vb.ownBlock=some z) w2 w3) (r3:RowC 3 1 w3 vb' (bl++[cs])) (q3:vb'.ownBlock=vb.ownBlock\/∃k,vb'.ownBlock=some k/\w2.heap.size<=k):
  SrS w0 w3 bm (D.put (kG y) (.lit (.int .i64 all.length))) va' vb' (all++[y]) (bl++[cs]):=by
 have p1:=ButB.row g1 B;have na:∀z,va.ownBlock=some z->z≠bm:=fun z hz=>by
  obtain ⟨a,ha⟩:=yI h.row hz;exact z26 h.own ha
 have nb:∀z,vb.ownBlock=some z->z≠bm:=fun z hz=>by
  obtain ⟨a,ha⟩:=yI h.by_ hz;exact z26 h.own ha
 have by1:=h.by_.but p1 fun z hz e=>nb z hz (zsi e).symm
 have row1:=h.row.but p1 fun z hz e=>na z hz (zsi e).symm
 have by2:=by1.but p2 fun z hz e=>z27 row1 by1 (by decide) e hz
 have row3:=r2.but p3 fun z hz e=>z27 r2 by2 (by decide) hz e
 have own3:=z4t (z4t o1 p2 fun e=>na bm e rfl) p3 fun e=>nb bm e rfl
 have s0:=h.bel.size;have s1:=p1.size;have s2:=p2.size;refine ⟨by simpa using own3,h.idx.put hy hn,by simpa using row3,r3,by simp [h.len],h.bmb,fun z hz=>?_,fun z hz=>?_,?_⟩
 ·rcases q2 with q | ⟨k,q,hk⟩
  ·exact h.ab z (q▸hz)
  obtain rfl:=zsi (q.symm.trans hz);omega
 ·rcases q3 with q | ⟨k,q,hk⟩
  ·exact h.bb z (q▸hz)
  obtain rfl:=zsi (q.symm.trans hz);omega
 exact ButB.below (B:=fun z=>vb.ownBlock=some z) (ButB.below (B:=fun z=>va.ownBlock=some z) (ButB.below (B:=fun z=>some bm=some z) h.bel s0 (fun k hk=>by obtain rfl:=zsi hk;exact h.bmb) p1) (by omega) h.ab p2) (by omega) h.bb p3
theorem zE2 {E:List (GN×GN)} {m k:Nat} {ns all:List GN} {adj:List (List Nat)} {s:GN} (h:Srch E s all k) (rep:GRep E m ns adj):all.length<=ns.length+1:=by
 refine zQ5 (s:=s) h.nodup fun x hx=>?_
 have:=h.sound x hx
 cases this with
 | refl=>exact .inl rfl
 | step _ he=>
  obtain ⟨_,_,_,_,h2,_,_⟩:=(rep.edge _ _).1 he;exact .inr (zmg h2)
theorem SrS.rows {w0 w W w1:World} {bm:Nat} {D:DataW Unit} {va vb:Value} {all:List GN} {bl:List (List Value)} (h:SrS w0 w bm D va vb all bl) (g1:W.grownBy w1 (some bm)) (B:Below w.heap.size w W):RowC 244 3 w1 va (all.map cG)/\RowC 3 1 w1 vb bl:=by
 have p1:=ButB.row g1 B;refine ⟨h.row.but p1 fun z hz e=>?_,h.by_.but p1 fun z hz e=>?_⟩
 ·obtain ⟨a,ha⟩:=yI h.row hz;exact z26 h.own ha (zsi e).symm
 obtain ⟨a,ha⟩:=yI h.by_ hz;exact z26 h.own ha (zsi e).symm
set_option maxHeartbeats 4000000 in
theorem zLo {E:List (GN×GN)} {m:Nat} {w:World} {t:Nat} {B:Nat->Prop} (h:Gr E m w t B) (hm:m<=5000) (s:GN) (hs:OkG s) (vf:Value) (hf:RowC 244 3 w vf [cG s]):Calls Tryz.prog 230 #[.pointer (some ⟨t,0,none⟩),vf] w fun e' w'=>∃(va vb:Value) (all:List GN),e'= .returned (.tuple #[va,vb])/\RowC 244 3 w' va (all.map cG)/\(∀x,x∈all↔Reach E s x)/\all.length<=6000/\(∀z,va.ownBlock=some z->w.heap.size<=z)/\Below w.heap.size w w':=by
 obtain ⟨b,e,vn,vo,vs,ns,adj,D0,h,rfl⟩:=h;obtain ⟨gf,of,cf,rfl,hcf,hcm,hgl,hcz,-⟩:=hf.at (i:=0) (x:=cG s) rfl;rw [Nat.zero_mul,Nat.add_zero] at hcz;have z0:=hcz 0 _ rfl;have z1:=hcz 1 _ rfl;have z2:=hcz 2 _ rfl;rw [Nat.add_zero] at z0;dsimp only [List.length_singleton] at hcf⊢;unfold maxLen at hcm;have H:=zh h;have HS:=zh hs;have hmm:=@run_makeMap Tryz.prog;obtain ⟨iN,hiN,hzN,h1N,h2N⟩:=info_parts (show (Tryz.prog.info? 244).map (fun i=>(i.zero,i.size,i.bytes))=some (some (.agg #[.bool false,.string ⟨#[]⟩,.int .i64 0]),3,32) from by kernel_rfl);obtain ⟨iI,hiI,hzI,h1I,h2I⟩:=info_parts (show (Tryz.prog.info? 3).map (fun i=>(i.zero,i.size,i.bytes))=some (some (.int .i64 0),1,8) from by kernel_rfl);clear h hs hf hcz;obtain ⟨f,sn,n⟩:=s;dsimp only at z0 z1 z2;go_enter Tryz.func230,Tryz.ntmps230
 go_wp2;clear hmm;go_loopw [4,5,22] (fun va vb i wr=>(i= .int .i64 0/\va= .slice none 0 0/\vb= .slice none 0 0/\Hid (SrS w wr w.heap.size (.map []) va vb [] []))\/(i= .int .i64 1/\∃D bl,Hid (SrS w wr w.heap.size D va vb [(f,sn,n)] bl))) (fun _ _ i _=>1 - (intOf i).toNat)
 case atStart=>exact .inl ⟨rfl,rfl,rfl,⟨World.ownsMap_made _ _ _ _,Idx.start,RowC.nil _,RowC.nil _,rfl,znl _,fun z hz=>(by cases hz),fun z hz=>(by cases hz),by go_grown⟩⟩
 rcases hrel with ⟨rfl,rfl,rfl,HR⟩ | ⟨rfl,D,bl,HR⟩
 ·have hb:=HR.out.bel;have q0:=(hb.cell (p:=⟨gf,of,none⟩) hgl).trans z0;have q1:=(hb.cell (p:=⟨gf,of+1,none⟩) hgl).trans z1;have q2:=(hb.cell (p:=⟨gf,of+2,none⟩) hgl).trans z2;have hzr:=hb.size;have hkey:=zDa (x:=(f,sn,n)) HS.out;have hL:Look [] (f,sn,n) 0 false:= .inr ⟨rfl,by simp,rfl⟩;have HL:=zh hL;clear hL;simp only [vG] at hkey
  go_wp2_with (first
   | (at_lookup;go_loud (refine z92 _ rfl _ _ rfl w.heap.size 0 (.map []) [] (f,sn,n) 0 false rfl (z1p HR.out.own (by go_grown)) Idx.start rfl HS.out HL.out ?_))
   | (at_mapUpdate;go_loud (refine wpList_mapUpdate_own _ rfl _ _ _ 280 rfl 244 3 keyNode Tryz.underlying280 _ w.heap.size 0 (.map []) rfl (z1p HR.out.own (by go_grown)) (by decide) _ (.int .i64 0) _ rfl rfl hkey _ [] (plainElem_int Tryz.underlying3 (by decide)) ?_);intro w1 hown1 hg1;have HO1:=zh hown1;have HG1:=zh (show ∃W,Below wr.heap.size wr W/\W.grownBy w1 (some w.heap.size) from ⟨_,(by go_grown),hg1⟩);have T1:w1.heap[wr.heap.size]? =some (.cells #[.bool f,.string sn,.int .i64 n] 244 (0,0)):=(hg1.block wr.heap.size (by simp) (by simp;have:=HR.out.own.lt;omega)).trans (by repeat' first|with_reducible assumption|((with_reducible first|refine zR _ ?_ ?_|apply zJ);rotate_left;first|with_reducible rfl|((try dsimp only);first|with_reducible assumption|omega|(simp only [zS];done)|(simp only [zS];omega)))|with_reducible apply zI|with_reducible refine zZ _ ?_|with_reducible refine ZL ?_|refine (rfl:(_:Array Value)=_));have b10:=(zD T1).1 0 _ rfl;have b11:=(zD T1).1 1 _ rfl;have b12:=(zD T1).1 2 _ rfl;clear hown1 hg1 T1)
   | (at_builtin;refine z1j w1 _ [.bool f,.string sn,.int .i64 n] rfl (.tmp 38) (.tmp 40) 239 rfl iN _ 32 Tryz.underlying239 hiN hzN h1N h2N rfl (by decide) (by decide) (.slice none 0 0) [] rfl _ _ rfl (RowC.nil _) (by go_grown) (by decide) rfl (zA4 (f,sn,n)) (by repeat' first|with_reducible assumption|((with_reducible first|refine zR _ ?_ ?_|apply zJ);rotate_left;first|with_reducible rfl|((try dsimp only);first|with_reducible assumption|omega|(simp only [zS];done)|(simp only [zS];omega)))|with_reducible apply zI|with_reducible refine zZ _ ?_|with_reducible refine ZL ?_|refine (rfl:(_:Array Value)=_)) ?_;intro v2 w2 r2 p2 o2;obtain ⟨A2,n2,c2,rfl⟩:=r2.shape3;have HR2:=zh r2;have HP2:=zh p2;have HO2:=zh o2;clear r2 p2 o2)
   | (at_builtin;refine z1j w2 _ [.int .i64 (-1)] rfl (.tmp 42) (.tmp 43) 234 rfl iI _ 8 Tryz.underlying234 hiI hzI h1I h2I rfl (by decide) (by decide) (.slice none 0 0) [] rfl _ _ rfl (RowC.nil _) (by go_grown) (by decide) rfl (by intro u hu;simp at hu;subst hu;rfl) (by repeat' first|with_reducible assumption|((with_reducible first|refine zR _ ?_ ?_|apply zJ);rotate_left;first|with_reducible rfl|((try dsimp only);first|with_reducible assumption|omega|(simp only [zS];done)|(simp only [zS];omega)))|with_reducible apply zI|with_reducible refine zZ _ ?_|with_reducible refine ZL ?_|refine (rfl:(_:Array Value)=_)) ?_;intro v3 w3 r3 p3 o3;obtain ⟨A3,n3,c3,rfl⟩:=r3.shape3;have HR3:=zh r3;have HP3:=zh p3;have HO3:=zh o3;clear r3 p3 o3))
  go_roundw
  case rel=>
   obtain ⟨W,BW,GW⟩:=HG1.out;exact .inr ⟨rfl,_,_,HR.out.push HS.out (by simp) HO1.out GW BW HP2.out HR2.out HO2.out HP3.out HR3.out HO3.out⟩
  case measure=>simp [intOf]
 have HS0:=zh (Srch.start E (f,sn,n));go_wp2;go_loopw [4,5,11] (fun va vb i wr=>∃(k:Nat) (D:DataW Unit) (all:List GN) (bl:List (List Value)),i= .int .i64 k/\k<=all.length/\Hid (SrS w wr w.heap.size D va vb all bl)/\Hid (Srch E (f,sn,n) all k)) (fun _ _ i _=>ns.length+2 - (intOf i).toNat)
 case atStart=>exact ⟨0,D,_,bl,by go_num,by simp,HR,HS0⟩
 clear HR HS0;obtain ⟨k,D,all,bl,rfl,hk,HR,HK⟩:=hrel;have hal:=zE2 HK.out H.out.rep;have hnl:ns.length<=5000:=qNtx H.out.rep.small hm;by_cases hlt:k < all.length
 rotate_left
 ·obtain rfl:k=all.length:=by omega
  have hf0:decide ((all.length:Int) < (all.length:Int))=false:=decide_eq_false (by omega);obtain ⟨A,cap,rfl,-⟩:=HR.out.row.shape;go_wp2;go_ret2
  exact ⟨_,_,all,rfl,HR.out.row,fun x=>HK.out.all (znl _) x,by omega,HR.out.ab,HR.out.bel⟩
 obtain ⟨x,hx⟩:∃x,all[k]? =some x:=⟨_,qLgx hlt⟩;obtain ⟨ga,oa,ca,rfl,hca,hcam,hgal,hcz,-⟩:=HR.out.row.at (i:=k) (x:=cG x) (by rw [List.getElem?_map,hx];rfl);rw [qLmx] at hca;simp only [qLmx] at HR;unfold maxLen at hcam;have z0':=hcz 0 _ rfl;have z1':=hcz 1 _ rfl;have z2':=hcz 2 _ rfl;rw [Nat.add_zero] at z0';have HX:=zh (HR.out.idx.ok x (zmg hx));have HXK:=zh hx;have HG:=zh (H.out.gs.below H.out.rep.len HR.out.bel);have HI:=zh (zE1 HG.out);obtain ⟨c,g,L⟩:=z4j ns x;have HL:=zh L;have k1:=fun (W:World) (hW:W.heap=wr.heap)=>z7a HG.out.own HG.out.idx HX.out L hW
 have c0:=(zD HG.out.cell).1 0 _ rfl;have hki:(k:Int) < (all.length:Int):=by omega
 clear hcz hx L z0 z1 z2;obtain ⟨xf,xs,xn⟩:=x;simp only [vG] at k1;dsimp only at z0' z1' z2';have k11:=fun q=>k1 (wr.drewN q) rfl
 clear k1
 cases g with
 | false=>
  have HN:=zh (HK.out.next HXK.out fun y hy=>absurd hy (zKq H.out.rep (.inl fun hm=>by have:=HL.out.mem.2 hm;cases this)));go_wp2_with fail
  refine zcm HI.out ?_;rintro e1 w3 ⟨rfl,hw⟩;obtain rfl:=hw.symm;clear hw;go_wp2_with fail
  go_quiet (fail)
  go_wp2;go_roundw
  case rel=>exact ⟨k+1,D,all,bl,by go_num,by omega,HR.out.mono (ZN zbr _),HN⟩
  case measure=>exact qMx
 | true=>
  obtain ⟨ni,hi,rfl⟩:∃i:Nat,ns[i]? =some (xf,xs,xn)/\c=i:=by
   rcases HL.out with ⟨_,h⟩ | ⟨h,_⟩
   ·exact h
   ·cases h
  have hil:=(zge hi).1;obtain ⟨l,hl⟩:∃l,adj[ni]? =some l:=⟨_,qLgx (by rw [H.out.rep.len];exact hil)⟩;obtain ⟨v,hv⟩:∃v,vs[ni]? =some v:=⟨_,qLgx (by rw [H.out.gs.lenv];exact hil)⟩;have hrow:=H.out.gs.row ni v l hv hl;have hll:l.length<=5000:=qNtx (H.out.rep.deg ni l hl) hm;obtain ⟨Av,cv,rfl,-⟩:=hrow.shape;rw [qLmx] at hrow hv;obtain ⟨go,oo,capo,hvo,-,hcmo,-,hco,-⟩:=HG.out.out.at (i:=ni) (x:=[.slice Av l.length cv]) (by rw [List.getElem?_map,hv];rfl);rw [qLmx,H.out.gs.lenv] at hvo;have v0:=hco 0 _ rfl;rw [Nat.mul_one,Nat.add_zero] at v0;have T:=HG.out.cell;rw [hvo] at T;have c2:=(zD T).1 2 _ rfl;have hii:(ni:Int) < (ns.length:Int):=by omega
  unfold maxLen at hcmo;have HROW:=zh hrow;have HNI:=zh hi;have HLI:=zh hl;clear hco hvo T hrow hil hi hl hv;go_wp2_with fail
  refine zcm HI.out ?_;rintro e1 w3 ⟨rfl,hw⟩;obtain rfl:=hw.symm;clear hw;go_wp2_with fail
  go_quiet (fail)
  have hSR:=HR.out.mono (ZN (Below.refl _ wr) nq);go_wp2;have HQ:=zh (show ∀j∈l.take 0,∀y,ns[j]? =some y->y∈all from fun j hj=>by simp at hj);have HSR:=zh hSR;clear hSR c0 c2 v0 k11 z0' z1' z2';go_loopw [4,5,78] (fun va vb i wr3=>∃(q:Nat) (D':DataW Unit) (all':List GN) (bl':List (List Value)),i= .int .i64 q/\q<=l.length/\k < all'.length/\Hid (SrS w wr3 w.heap.size D' va vb all' bl')/\Hid (Srch E (f,sn,n) all' k)/\Hid (all'[k]? =some (xf,xs,xn))/\Hid (∀j∈l.take q,∀y,ns[j]? =some y->y∈all')) (fun _ _ i _=>l.length - (intOf i).toNat)
  case atStart=>exact ⟨0,D,all,bl,by go_num,by omega,hlt,HSR,HK,HXK,HQ⟩
  clear HSR HQ HXK HK HR HG HI hlt hki hk hal;obtain ⟨q,D',all',bl',rfl,hq,hk,HR3,HK,HXK,HQ⟩:=hrel;have hal:=zE2 HK.out H.out.rep;have HG:=zh (H.out.gs.below H.out.rep.len HR3.out.bel);by_cases hqt:q < l.length
  rotate_left
  ·obtain rfl:q=l.length:=by omega
   have HN:=zh (HK.out.next HXK.out fun y hy=>by
    obtain ⟨i',j',l',h1,h2,h3,h4⟩:=(H.out.rep.edge _ _).1 hy;obtain rfl:=zD9 H.out.rep.nodup h1 HNI.out;obtain rfl:=zsi (h3.symm.trans HLI.out);exact HQ.out j' (by rw [qLnx];exact h4) y h2)
   go_wp2;go_roundw
   case rel=>exact ⟨k+1,D',all',bl',by go_num,by omega,HR3,HN⟩
   case measure=>exact qMx
  obtain ⟨j,hj⟩:∃j,l[q]? =some j:=⟨_,qLgx hqt⟩;have hjn:=H.out.rep.lt ni l j HLI.out (zmg hj);obtain ⟨y,hy⟩:∃y,ns[j]? =some y:=⟨_,qLgx hjn⟩;obtain ⟨gv,ov,cv',hv',-,hcv,-,hcj,-⟩:=(HROW.out.below HR3.out.bel).at (i:=q) (x:=cI j) (by rw [List.getElem?_map,hj];rfl);obtain ⟨rfl,-,rfl⟩:Av=some ⟨gv,ov,none⟩/\l.length=(l.map cI).length/\cv=cv':=by simpa using hv'
  have q0:=hcj 0 _ rfl;rw [Nat.mul_one,Nat.add_zero] at q0;obtain ⟨gn,on,cn,hvn,-,hcn,-,hcy,-⟩:=HG.out.nodes.at (i:=j) (x:=cG y) (by rw [List.getElem?_map,hy];rfl);rw [qLmx] at hvn;have y0:=hcy 0 _ rfl;have y1:=hcy 1 _ rfl;have y2:=hcy 2 _ rfl;rw [Nat.add_zero] at y0;have T:=HG.out.cell;rw [hvn] at T;have c1:=(zD T).1 1 _ rfl;have hjj:(j:Int) < (ns.length:Int):=by omega
  have hqq:(q:Int) < (l.length:Int):=by omega
  have HY:=zh (HG.out.idx.ok y (zmg hy));have HE:=zh ((H.out.rep.edge _ _).2 ⟨ni,j,l,HNI.out,hy,HLI.out,zmg hj⟩);have HST:=zh (fun (all2:List GN) (hm:∀z∈all',z∈all2) (hm2:y∈all2)=>(show ∀j∈l.take (q+1),∀y,ns[j]? =some y->y∈all2 from fun j' hj' y' hy'=>by
   rw [qLtx,hj] at hj';rcases zmb hj' with h9 | h9
   ·exact hm _ (HQ.out j' h9 y' hy')
   ·obtain rfl:j'=j:=by simpa using h9
    obtain rfl:=zsi (hy.symm.trans hy');exact hm2))
  obtain ⟨c',g',L'⟩:=z4j all' y;have HL':=zh L';obtain ⟨A4,c4,rfl,-⟩:=HR3.out.row.shape;simp only [qLmx] at HR3;obtain ⟨A5,n5,c5,rfl⟩:=HR3.out.by_.shape3;unfold maxLen at hcv hcn;clear hcj hcy hj hy hv' hvn T L';have hkey:=zDa HY.out;obtain ⟨yf,ys,yn⟩:=y;simp only [vG] at hkey;dsimp only at y0 y1 y2
  cases g' with
  | true=>
   go_wp2_with (first
    | (at_lookup;go_loud (refine z92 _ rfl _ _ rfl w.heap.size all'.length D' all' (yf,ys,yn) c' _ rfl (z1p HR3.out.own (by go_grown)) HR3.out.idx rfl HY.out HL'.out ?_))
    | (at_mapUpdate;go_loud (refine wpList_mapUpdate_own _ rfl _ _ _ 280 rfl 244 3 keyNode Tryz.underlying280 _ w.heap.size all'.length D' rfl (z1p HR3.out.own (by go_grown)) (by unfold maxLen;omega) _ (.int .i64 all'.length) _ rfl rfl hkey _ [] (plainElem_int Tryz.underlying3 (by have h:I64 (all'.length:Int):=⟨by omega,by omega⟩;simp [Lit.wf];exact h)) ?_);intro w1 hown1 hg1;have HO1:=zh hown1;have HG1:=zh (show ∃W,Below wr.heap.size wr W/\W.grownBy w1 (some w.heap.size) from ⟨_,(by go_grown),hg1⟩);have T1:w1.heap[wr.heap.size]? =some (.cells #[.bool yf,.string ys,.int .i64 yn] 244 (0,0)):=(hg1.block wr.heap.size (by simp) (by simp;have:=HR3.out.own.lt;omega)).trans (by repeat' first|with_reducible assumption|((with_reducible first|refine zR _ ?_ ?_|apply zJ);rotate_left;first|with_reducible rfl|((try dsimp only);first|with_reducible assumption|omega|(simp only [zS];done)|(simp only [zS];omega)))|with_reducible apply zI|with_reducible refine zZ _ ?_|with_reducible refine ZL ?_|refine (rfl:(_:Array Value)=_));have b10:=(zD T1).1 0 _ rfl;have b11:=(zD T1).1 1 _ rfl;have b12:=(zD T1).1 2 _ rfl;have HRR:=zh (HR3.out.rows hg1 (by go_grown));clear hown1 hg1 T1)
    | (at_builtin;refine z1j w1 _ [.bool yf,.string ys,.int .i64 yn] rfl (.tmp 101) (.tmp 103) 239 rfl iN _ 32 Tryz.underlying239 hiN hzN h1N h2N rfl (by decide) (by decide) (.slice A4 all'.length c4) (all'.map cG) rfl _ _ rfl HRR.out.1 (by go_grown) (by rw [qLmx];omega) rfl (zA4 (yf,ys,yn)) (by repeat' first|with_reducible assumption|((with_reducible first|refine zR _ ?_ ?_|apply zJ);rotate_left;first|with_reducible rfl|((try dsimp only);first|with_reducible assumption|omega|(simp only [zS];done)|(simp only [zS];omega)))|with_reducible apply zI|with_reducible refine zZ _ ?_|with_reducible refine ZL ?_|refine (rfl:(_:Array Value)=_)) ?_;intro v2 w2 r2 p2 o2;obtain ⟨A2,n2,c2,rfl⟩:=r2.shape3;have HR2:=zh r2;have HP2:=zh p2;have HO2:=zh o2;have HBY2:=zh (HRR.out.2.but p2 fun z hz e=>z27 HRR.out.1 HRR.out.2 (by decide) e hz);clear r2 p2 o2)
    | (at_builtin;refine z1j w2 _ [.int .i64 k] rfl (.tmp 105) (.tmp 107) 234 rfl iI _ 8 Tryz.underlying234 hiI hzI h1I h2I rfl (by decide) (by decide) (.slice A5 n5 c5) bl' rfl _ _ rfl HBY2.out (by go_grown) (by rw [HR3.out.len];omega) rfl (by intro u hu;simp at hu;subst hu;rfl) (by repeat' first|with_reducible assumption|((with_reducible first|refine zR _ ?_ ?_|apply zJ);rotate_left;first|with_reducible rfl|((try dsimp only);first|with_reducible assumption|omega|(simp only [zS];done)|(simp only [zS];omega)))|with_reducible apply zI|with_reducible refine zZ _ ?_|with_reducible refine ZL ?_|refine (rfl:(_:Array Value)=_)) ?_;intro v3 w4 r3 p3 o3;obtain ⟨A3,n3,c3,rfl⟩:=r3.shape3;have HRZ:=zh r3;have HP3:=zh p3;have HO3:=zh o3;clear r3 p3 o3))
   go_roundw
   case rel=>exact ⟨q+1,D',all',bl',by go_num,by omega,hk,HR3.out.mono (by go_grown),HK,HXK,HST.out all' (fun z hz=>hz) (HL'.out.mem.1 rfl)⟩
   case measure=>exact qMx
  | false=>
   have HNM:=zh (show (yf,ys,yn)∉all' from fun hm=>by have:=HL'.out.mem.2 hm;cases this)
   go_wp2_with (first
    | (at_lookup;go_loud (refine z92 _ rfl _ _ rfl w.heap.size all'.length D' all' (yf,ys,yn) c' _ rfl (z1p HR3.out.own (by go_grown)) HR3.out.idx rfl HY.out HL'.out ?_))
    | (at_mapUpdate;go_loud (refine wpList_mapUpdate_own _ rfl _ _ _ 280 rfl 244 3 keyNode Tryz.underlying280 _ w.heap.size all'.length D' rfl (z1p HR3.out.own (by go_grown)) (by unfold maxLen;omega) _ (.int .i64 all'.length) _ rfl rfl hkey _ [] (plainElem_int Tryz.underlying3 (by have h:I64 (all'.length:Int):=⟨by omega,by omega⟩;simp [Lit.wf];exact h)) ?_);intro w1 hown1 hg1;have HO1:=zh hown1;have HG1:=zh (show ∃W,Below wr.heap.size wr W/\W.grownBy w1 (some w.heap.size) from ⟨_,(by go_grown),hg1⟩);have T1:w1.heap[wr.heap.size]? =some (.cells #[.bool yf,.string ys,.int .i64 yn] 244 (0,0)):=(hg1.block wr.heap.size (by simp) (by simp;have:=HR3.out.own.lt;omega)).trans (by repeat' first|with_reducible assumption|((with_reducible first|refine zR _ ?_ ?_|apply zJ);rotate_left;first|with_reducible rfl|((try dsimp only);first|with_reducible assumption|omega|(simp only [zS];done)|(simp only [zS];omega)))|with_reducible apply zI|with_reducible refine zZ _ ?_|with_reducible refine ZL ?_|refine (rfl:(_:Array Value)=_));have b10:=(zD T1).1 0 _ rfl;have b11:=(zD T1).1 1 _ rfl;have b12:=(zD T1).1 2 _ rfl;have HRR:=zh (HR3.out.rows hg1 (by go_grown));clear hown1 hg1 T1)
    | (at_builtin;refine z1j w1 _ [.bool yf,.string ys,.int .i64 yn] rfl (.tmp 101) (.tmp 103) 239 rfl iN _ 32 Tryz.underlying239 hiN hzN h1N h2N rfl (by decide) (by decide) (.slice A4 all'.length c4) (all'.map cG) rfl _ _ rfl HRR.out.1 (by go_grown) (by rw [qLmx];omega) rfl (zA4 (yf,ys,yn)) (by repeat' first|with_reducible assumption|((with_reducible first|refine zR _ ?_ ?_|apply zJ);rotate_left;first|with_reducible rfl|((try dsimp only);first|with_reducible assumption|omega|(simp only [zS];done)|(simp only [zS];omega)))|with_reducible apply zI|with_reducible refine zZ _ ?_|with_reducible refine ZL ?_|refine (rfl:(_:Array Value)=_)) ?_;intro v2 w2 r2 p2 o2;obtain ⟨A2,n2,c2,rfl⟩:=r2.shape3;have HR2:=zh r2;have HP2:=zh p2;have HO2:=zh o2;have HBY2:=zh (HRR.out.2.but p2 fun z hz e=>z27 HRR.out.1 HRR.out.2 (by decide) e hz);clear r2 p2 o2)
    | (at_builtin;refine z1j w2 _ [.int .i64 k] rfl (.tmp 105) (.tmp 107) 234 rfl iI _ 8 Tryz.underlying234 hiI hzI h1I h2I rfl (by decide) (by decide) (.slice A5 n5 c5) bl' rfl _ _ rfl HBY2.out (by go_grown) (by rw [HR3.out.len];omega) rfl (by intro u hu;simp at hu;subst hu;rfl) (by repeat' first|with_reducible assumption|((with_reducible first|refine zR _ ?_ ?_|apply zJ);rotate_left;first|with_reducible rfl|((try dsimp only);first|with_reducible assumption|omega|(simp only [zS];done)|(simp only [zS];omega)))|with_reducible apply zI|with_reducible refine zZ _ ?_|with_reducible refine ZL ?_|refine (rfl:(_:Array Value)=_)) ?_;intro v3 w4 r3 p3 o3;obtain ⟨A3,n3,c3,rfl⟩:=r3.shape3;have HRZ:=zh r3;have HP3:=zh p3;have HO3:=zh o3;clear r3 p3 o3))
   go_roundw
   case rel=>
    obtain ⟨W,BW,GW⟩:=HG1.out;exact ⟨q+1,_,all'++[(yf,ys,yn)],_,by go_num,by omega,by simp;omega,HR3.out.push HY.out HNM.out HO1.out GW BW HP2.out HR2.out HO2.out HP3.out HRZ.out HO3.out,HK.out.add (zmg HXK.out) HE.out HNM.out (by omega),(qLlx hk).trans HXK.out,HST.out _ (fun z hz=>List.mem_append_left _ hz) (List.mem_append_right _ (by simp))⟩
   case measure=>exact qMx
theorem zNy {E:List (GN×GN)} {m:Nat} {w:World} {t:Nat} {B:Nat->Prop} (h:Gr E m w t B) (hm:m<=5000) (s:GN) (hs:OkG s) (vf:Value) (hf:RowC 244 3 w vf [cG s]):Calls Tryz.prog 199 #[.pointer (some ⟨t,0,none⟩),vf] w fun e' w'=>∃(va:Value) (all:List GN),e'= .returned va/\RowC 244 3 w' va (all.map cG)/\(∀x,x∈all↔Reach E s x)/\all.length<=6000/\(∀z,va.ownBlock=some z->w.heap.size<=z)/\Below w.heap.size w w':=by
 have HS:=zh (zLo h hm s hs vf hf);clear h hs hf;go_enter Tryz.func199,Tryz.ntmps199
 go_wp2_with (go_at_call 230;refine zcm HS.out ?_;rintro _ _ ⟨va,_,all,rfl,h1⟩;have H1:=zh h1;clear h1)
 go_ret;exact ⟨va,all,rfl,H1.out⟩
end
end Go.Proofs.YtdggplhnfhcieaaGreatDoor
