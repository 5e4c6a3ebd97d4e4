/- No condition. -/
import Derived.Test.YtdggplhnfhcieaaGreatDoorW11
set_option linter.all false
set_option maxRecDepth 100000
namespace Go.Proofs.YtdggplhnfhcieaaGreatDoor
open Go.Proofs.Tryz Cd Ce List
variable {D:DataW Unit} {E:List (GN×GN)} {bl:List (List Value)} {bm m:Nat} {va vb:Value} {w w0:World}
section
open Go.RowKit Go.Deep Go.Maps
structure SrS (w0 w:World) (bm:Nat) (D:DataW Unit) (va vb:Value) (all:List GN) (bl:List (List Value)):Prop where
 own:w.ownsMap prog 244 (plainElem prog 3) bm all D
 idx:Idx D all
 row:RowC 244 3 w va (all.map cG)
 by_:RowC 3 1 w vb bl
 len:bl=all.length
 bmb:w0<=bm
 ab:∀z,va.ownBlock=some z->w0.heap.size<=z
 bb:∀z,vb.ownBlock=some z->w0.heap.size<=z
 bel:(bW w0 w:Prop)
theorem z2h {P:Program} {k:TypeId} {R:Value->Option (DataW Unit×List MemPlace)} {b n:Nat} {w w':World} (h:w.ownsMap P k R b n D) (hb:(bW w w':Prop)):w'.ownsMap P k R b n D:=by
 have f:=h.lt;obtain⟨c,a,d,e⟩:=h;exact⟨c,a,(hb.block b f).trans d,e⟩
theorem SrS.mono {w':World} {a:List GN} (h:SrS w0 w bm D va vb a bl) (k:(bW w w':Prop)):SrS w0 w' bm D va vb a bl:=
 ⟨z2h h.own k,h.idx,h.row.below k,h.by_.below k,h.len,h.bmb,h.ab,h.bb,zD h.bel k⟩
theorem SrS.push {W w1 w2 p:World} {i j:Value} {d:List GN} {y:GN} {r:List Value} (h:SrS w0 w bm D va vb d bl) (hy:OkG y) (hn:y∉d)
  (A:w1.ownsMap prog 244 (plainElem prog 3) bm (d.length+1) (D.put (kG y) (.lit (.int .i64 d)))) (z:W.grownBy w1 (some bm)) (B:(bW w W:Prop))
  (g:ButB (λa=>va.ownBlock=some a) w1 w2) (u:RowC 244 3 w2 i (d.map cG++[cG y])) (F:i.ownBlock=va.ownBlock\/∃k,i.ownBlock=some k/\w1.heap.size<=k)
  (o:ButB (λa=>vb.ownBlock=some a) w2 p) (H:RowC 3 1 p j (bl++[r])) (G:j.ownBlock=vb.ownBlock\/∃k,j.ownBlock=some k/\w2.heap.size<=k):
  SrS w0 p bm (D.put (kG y) (.lit (.int .i64 d))) i j (d++[y]) (bl++[r]):=by
 have f:=ButB.row z B;have s:∀a,va.ownBlock=some a->a≠bm:=λa b=>by
  obtain⟨v,l⟩:=Y0 h.row b;exact z2s h.own l
 have t:∀a,vb.ownBlock=some a->a≠bm:=λa b=>by
  obtain⟨v,l⟩:=Y0 h.by_ b;exact z2s h.own l
 have q:=h.by_.but f λa b c=>t a b (zsi c).symm
 have I:=h.row.but f λa b c=>s a b (zsi c).symm
 have x:=q.but g λa b c=>z2t I q dc c b
 have J:=u.but o λa b c=>z2t u x dc b c
 have C:=z5l (z5l A g λc=>s bm c rfl) o λc=>t bm c rfl
 have K:=h.bel.size;have L:=f.size;have M:=g.size;refine⟨by simpa using C,h.idx.put hy hn,by simpa using J,H,by simp[h.len],h.bmb,λa b=>?_,λa b=>?_,?_⟩
 ·rcases F with e|⟨k,e,n⟩
  ·exact h.ab a (e▸b)
  obtain rfl:=zsi (e.symm.trans b);omega
 ·rcases G with e|⟨k,e,n⟩
  ·exact h.bb a (e▸b)
  obtain rfl:=zsi (e.symm.trans b);omega
 exact ButB.below (B:=λa=>vb.ownBlock=some a) (ButB.below (B:=λa=>va.ownBlock=some a) (ButB.below (B:=λa=>some bm=some a) h.bel K (λk n=>by obtain rfl:=zsi n;exact h.bmb) f) om h.ab g) om h.bb o
theorem zFo {E:List (GN×GN)} {m k:Nat} {b a:List GN} {c:List (List Nat)} {s:GN} (h:Srch E s a k) (f:GRep E m b c):a<=b.length+1:=by
 refine zS7 (s:=s) h.nodup λg e=>?_
 have:=h.sound g e
 cases this with
 | refl=>exact .inl rfl
 | step _ he=>
  obtain⟨_,_,_,_,d,_⟩:=(f.edge _ _).1 he;exact .inr (zmg d)
theorem SrS.rows {w0 w W w1:World} {bm:Nat} {D:DataW Unit} {d:List GN} (h:SrS w0 w bm D va vb d bl) (g:W.grownBy w1 (some bm)) (B:(bW w W:Prop)):RowC 244 3 w1 va (d.map cG)/\RowC 3 1 w1 vb bl:=by
 have e:=ButB.row g B;refine⟨h.row.but e λi c a=>?_,h.by_.but e λi c a=>?_⟩
 ·obtain⟨f,b⟩:=Y0 h.row c;exact z2s h.own b (zsi a).symm
 obtain⟨f,b⟩:=Y0 h.by_ c;exact z2s h.own b (zsi a).symm
set_option maxHeartbeats 4000000 in
theorem zNm {E:List (GN×GN)} {m:Nat} {w:World} {t:Nat} {B:Nat->Prop} (h:Gr E m w t B) (hm:m<=5000) (s:GN) (hs:OkG s) (vf:Value) (hf:RowC 244 3 w vf [cG s]):Calls Tryz.prog 230 #[.pointer (some ⟨t,0,none⟩),vf] w fun e' w'=>∃(va vb:Value) (all:List GN),e'= .returned (.tuple #[va,vb])/\RowC 244 3 w' va (all.map cG)/\(∀x,x∈all↔Reach E s x)/\all.length<=6000/\(∀z,va.ownBlock=some z->w.heap.size<=z)/\Below w.heap.size w w':=by
 obtain ⟨b,e,vn,vo,vs,ns,adj,D0,h,rfl⟩:=h;obtain ⟨gf,of,cf,rfl,hcf,hcm,hgl,hcz,-⟩:=hf.at (i:=0) (x:=cG s) rfl;rw [Nat.zero_mul,Nat.add_zero] at hcz;have z0:=hcz 0 _ rfl;have z1:=hcz 1 _ rfl;have z2:=hcz 2 _ rfl;rw [Nat.add_zero] at z0;dsimp only [List.length_singleton] at hcf⊢;unfold maxLen at hcm;have H:=zh h;have HS:=zh hs;have hmm:=@run_makeMap Tryz.prog;obtain ⟨iN,hiN,hzN,h1N,h2N⟩:=info_parts (show (Tryz.prog.info? 244).map (fun i=>(i.zero,i.size,i.bytes))=some (some (.agg #[.bool false,.string ⟨#[]⟩,.int .i64 0]),3,32) from by kernel_rfl);obtain ⟨iI,hiI,hzI,h1I,h2I⟩:=info_parts (show (Tryz.prog.info? 3).map (fun i=>(i.zero,i.size,i.bytes))=some (some (.int .i64 0),1,8) from by kernel_rfl);clear h hs hf hcz;obtain ⟨f,sn,n⟩:=s;dsimp only at z0 z1 z2;go_enter Tryz.func230,Tryz.ntmps230
 go_wp2;clear hmm;go_loopw [4,5,22] (fun va vb i wr=>(i= .int .i64 0/\va= .slice none 0 0/\vb= .slice none 0 0/\Hid (SrS w wr w.heap.size (.map []) va vb [] []))\/(i= .int .i64 1/\∃D bl,Hid (SrS w wr w.heap.size D va vb [(f,sn,n)] bl))) (fun _ _ i _=>1 - (intOf i).toNat)
 case atStart=>exact .inl ⟨rfl,rfl,rfl,⟨World.ownsMap_made _ _ _ _,Idx.start,RowC.nil _,RowC.nil _,rfl,znl _,fun z hz=>(by cases hz),fun z hz=>(by cases hz),by go_grown⟩⟩
 rcases hrel with ⟨rfl,rfl,rfl,HR⟩ | ⟨rfl,D,bl,HR⟩
 ·have hb:=HR.out.bel;have q0:=(hb.cell (p:=⟨gf,of,none⟩) hgl).trans z0;have q1:=(hb.cell (p:=⟨gf,of+1,none⟩) hgl).trans z1;have q2:=(hb.cell (p:=⟨gf,of+2,none⟩) hgl).trans z2;have hzr:=hb.size;have hkey:=zEv (x:=(f,sn,n)) HS.out;have hL:Look [] (f,sn,n) 0 false:= .inr ⟨rfl,by simp,rfl⟩;have HL:=zh hL;clear hL;simp only [vG] at hkey
  go_wp2_with (first
   | (at_lookup;go_loud (refine zAj _ rfl _ _ rfl w.heap.size 0 (.map []) [] (f,sn,n) 0 false rfl (z2h HR.out.own (by go_grown)) Idx.start rfl HS.out HL.out ?_))
   | (at_mapUpdate;go_loud (refine wpList_mapUpdate_own _ rfl _ _ _ 280 rfl 244 3 keyNode Tryz.underlying280 _ w.heap.size 0 (.map []) rfl (z2h HR.out.own (by go_grown)) (by decide) _ (.int .i64 0) _ rfl rfl hkey _ [] (plainElem_int Tryz.underlying3 (by decide)) ?_);intro w1 hown1 hg1;have HO1:=zh hown1;have HG1:=zh (show ∃W,Below wr.heap.size wr W/\W.grownBy w1 (some w.heap.size) from ⟨_,(by go_grown),hg1⟩);have T1:w1.heap[wr.heap.size]? =some (.cells #[.bool f,.string sn,.int .i64 n] 244 (0,0)):=(hg1.block wr.heap.size (by simp) (by simp;have:=HR.out.own.lt;omega)).trans (by repeat' first|with_reducible assumption|((with_reducible first|refine Z2 _ ?_ ?_|apply zJ);rotate_left;first|with_reducible rfl|((try dsimp only);first|with_reducible assumption|omega|(simp only [zS];done)|(simp only [zS];omega)))|with_reducible apply zH|with_reducible refine zR _ ?_|with_reducible refine ZQ ?_|refine (rfl:(_:Array Value)=_));have b10:=(zB T1).1 0 _ rfl;have b11:=(zB T1).1 1 _ rfl;have b12:=(zB T1).1 2 _ rfl;clear hown1 hg1 T1)
   | (at_builtin;refine z2b w1 _ [.bool f,.string sn,.int .i64 n] rfl (.tmp 38) (.tmp 40) 239 rfl iN _ 32 Tryz.underlying239 hiN hzN h1N h2N rfl (by decide) (by decide) (.slice none 0 0) [] rfl _ _ rfl (RowC.nil _) (by go_grown) (by decide) rfl (zBo (f,sn,n)) (by repeat' first|with_reducible assumption|((with_reducible first|refine Z2 _ ?_ ?_|apply zJ);rotate_left;first|with_reducible rfl|((try dsimp only);first|with_reducible assumption|omega|(simp only [zS];done)|(simp only [zS];omega)))|with_reducible apply zH|with_reducible refine zR _ ?_|with_reducible refine ZQ ?_|refine (rfl:(_:Array Value)=_)) ?_;intro v2 w2 r2 p2 o2;obtain ⟨A2,n2,c2,rfl⟩:=r2.shape3;have HR2:=zh r2;have HP2:=zh p2;have HO2:=zh o2;clear r2 p2 o2)
   | (at_builtin;refine z2b w2 _ [.int .i64 (-1)] rfl (.tmp 42) (.tmp 43) 234 rfl iI _ 8 Tryz.underlying234 hiI hzI h1I h2I rfl (by decide) (by decide) (.slice none 0 0) [] rfl _ _ rfl (RowC.nil _) (by go_grown) (by decide) rfl (by intro u hu;simp at hu;subst hu;rfl) (by repeat' first|with_reducible assumption|((with_reducible first|refine Z2 _ ?_ ?_|apply zJ);rotate_left;first|with_reducible rfl|((try dsimp only);first|with_reducible assumption|omega|(simp only [zS];done)|(simp only [zS];omega)))|with_reducible apply zH|with_reducible refine zR _ ?_|with_reducible refine ZQ ?_|refine (rfl:(_:Array Value)=_)) ?_;intro v3 w3 r3 p3 o3;obtain ⟨A3,n3,c3,rfl⟩:=r3.shape3;have HR3:=zh r3;have HP3:=zh p3;have HO3:=zh o3;clear r3 p3 o3))
  go_roundw
  case rel=>
   obtain ⟨W,BW,GW⟩:=HG1.out;exact .inr ⟨rfl,_,_,HR.out.push HS.out (by simp) HO1.out GW BW HP2.out HR2.out HO2.out HP3.out HR3.out HO3.out⟩
  case measure=>simp [intOf]
 have HS0:=zh (Srch.start E (f,sn,n));go_wp2;go_loopw [4,5,11] (fun va vb i wr=>∃(k:Nat) (D:DataW Unit) (all:List GN) (bl:List (List Value)),i= .int .i64 k/\k<=all.length/\Hid (SrS w wr w.heap.size D va vb all bl)/\Hid (Srch E (f,sn,n) all k)) (fun _ _ i _=>ns.length+2 - (intOf i).toNat)
 case atStart=>exact ⟨0,D,_,bl,by go_num,by simp,HR,HS0⟩
 clear HR HS0;obtain ⟨k,D,all,bl,rfl,hk,HR,HK⟩:=hrel;have hal:=zFo HK.out H.out.rep;have hnl:ns.length<=5000:=qNtx H.out.rep.small hm;by_cases hlt:k < all.length
 rotate_left
 ·obtain rfl:k=all.length:=by omega
  have hf0:decide ((all.length:Int) < (all.length:Int))=false:=decide_eq_false (by omega);obtain ⟨A,cap,rfl,-⟩:=HR.out.row.shape;go_wp2;go_ret2
  exact ⟨_,_,all,rfl,HR.out.row,fun x=>HK.out.all (znl _) x,by omega,HR.out.ab,HR.out.bel⟩
 obtain ⟨x,hx⟩:∃x,all[k]? =some x:=⟨_,qLgx hlt⟩;obtain ⟨ga,oa,ca,rfl,hca,hcam,hgal,hcz,-⟩:=HR.out.row.at (i:=k) (x:=cG x) (by rw [List.getElem?_map,hx];rfl);rw [qLmx] at hca;simp only [qLmx] at HR;unfold maxLen at hcam;have z0':=hcz 0 _ rfl;have z1':=hcz 1 _ rfl;have z2':=hcz 2 _ rfl;rw [Nat.add_zero] at z0';have HX:=zh (HR.out.idx.ok x (zmg hx));have HXK:=zh hx;have HG:=zh (H.out.gs.below H.out.rep.len HR.out.bel);have HI:=zh (zFn HG.out);obtain ⟨c,g,L⟩:=z5c ns x;have HL:=zh L;have k1:=fun (W:World) (hW:W.heap=wr.heap)=>z8n HG.out.own HG.out.idx HX.out L hW
 have c0:=(zB HG.out.cell).1 0 _ rfl;have hki:(k:Int) < (all.length:Int):=by omega
 clear hcz hx L z0 z1 z2;obtain ⟨xf,xs,xn⟩:=x;simp only [vG] at k1;dsimp only at z0' z1' z2';have k11:=fun q=>k1 (wr.drewN q) rfl
 clear k1
 cases g with
 | false=>
  have HN:=zh (HK.out.next HXK.out fun y hy=>absurd hy (zMo H.out.rep (.inl fun hm=>by have:=HL.out.mem.2 hm;cases this)));go_wp2_with fail
  refine zcm HI.out ?_;rintro e1 w3 ⟨rfl,hw⟩;obtain rfl:=hw.symm;clear hw;go_wp2_with fail
  go_quiet (fail)
  go_wp2;go_roundw
  case rel=>exact ⟨k+1,D,all,bl,by go_num,by omega,HR.out.mono (y8 zbr _),HN⟩
  case measure=>exact qMx
 | true=>
  obtain ⟨ni,hi,rfl⟩:∃i:Nat,ns[i]? =some (xf,xs,xn)/\c=i:=by
   rcases HL.out with ⟨_,h⟩ | ⟨h,_⟩
   ·exact h
   ·cases h
  have hil:=(zge hi).1;obtain ⟨l,hl⟩:∃l,adj[ni]? =some l:=⟨_,qLgx (by rw [H.out.rep.len];exact hil)⟩;obtain ⟨v,hv⟩:∃v,vs[ni]? =some v:=⟨_,qLgx (by rw [H.out.gs.lenv];exact hil)⟩;have hrow:=H.out.gs.row ni v l hv hl;have hll:l.length<=5000:=qNtx (H.out.rep.deg ni l hl) hm;obtain ⟨Av,cv,rfl,-⟩:=hrow.shape;rw [qLmx] at hrow hv;obtain ⟨go,oo,capo,hvo,-,hcmo,-,hco,-⟩:=HG.out.out.at (i:=ni) (x:=[.slice Av l.length cv]) (by rw [List.getElem?_map,hv];rfl);rw [qLmx,H.out.gs.lenv] at hvo;have v0:=hco 0 _ rfl;rw [Nat.mul_one,Nat.add_zero] at v0;have T:=HG.out.cell;rw [hvo] at T;have c2:=(zB T).1 2 _ rfl;have hii:(ni:Int) < (ns.length:Int):=by omega
  unfold maxLen at hcmo;have HROW:=zh hrow;have HNI:=zh hi;have HLI:=zh hl;clear hco hvo T hrow hil hi hl hv;go_wp2_with fail
  refine zcm HI.out ?_;rintro e1 w3 ⟨rfl,hw⟩;obtain rfl:=hw.symm;clear hw;go_wp2_with fail
  go_quiet (fail)
  have hSR:=HR.out.mono (y8 (Below.refl _ wr) nq);go_wp2;have HQ:=zh (show ∀j∈l.take 0,∀y,ns[j]? =some y->y∈all from fun j hj=>by simp at hj);have HSR:=zh hSR;clear hSR c0 c2 v0 k11 z0' z1' z2';go_loopw [4,5,78] (fun va vb i wr3=>∃(q:Nat) (D':DataW Unit) (all':List GN) (bl':List (List Value)),i= .int .i64 q/\q<=l.length/\k < all'.length/\Hid (SrS w wr3 w.heap.size D' va vb all' bl')/\Hid (Srch E (f,sn,n) all' k)/\Hid (all'[k]? =some (xf,xs,xn))/\Hid (∀j∈l.take q,∀y,ns[j]? =some y->y∈all')) (fun _ _ i _=>l.length - (intOf i).toNat)
  case atStart=>exact ⟨0,D,all,bl,by go_num,by omega,hlt,HSR,HK,HXK,HQ⟩
  clear HSR HQ HXK HK HR HG HI hlt hki hk hal;obtain ⟨q,D',all',bl',rfl,hq,hk,HR3,HK,HXK,HQ⟩:=hrel;have hal:=zFo HK.out H.out.rep;have HG:=zh (H.out.gs.below H.out.rep.len HR3.out.bel);by_cases hqt:q < l.length
  rotate_left
  ·obtain rfl:q=l.length:=by omega
   have HN:=zh (HK.out.next HXK.out fun y hy=>by
    obtain ⟨i',j',l',h1,h2,h3,h4⟩:=(H.out.rep.edge _ _).1 hy;obtain rfl:=zEu H.out.rep.nodup h1 HNI.out;obtain rfl:=zsi (h3.symm.trans HLI.out);exact HQ.out j' (by rw [qLnx];exact h4) y h2)
   go_wp2;go_roundw
   case rel=>exact ⟨k+1,D',all',bl',by go_num,by omega,HR3,HN⟩
   case measure=>exact qMx
  obtain ⟨j,hj⟩:∃j,l[q]? =some j:=⟨_,qLgx hqt⟩;have hjn:=H.out.rep.lt ni l j HLI.out (zmg hj);obtain ⟨y,hy⟩:∃y,ns[j]? =some y:=⟨_,qLgx hjn⟩;obtain ⟨gv,ov,cv',hv',-,hcv,-,hcj,-⟩:=(HROW.out.below HR3.out.bel).at (i:=q) (x:=cI j) (by rw [List.getElem?_map,hj];rfl);obtain ⟨rfl,-,rfl⟩:Av=some ⟨gv,ov,none⟩/\l.length=(l.map cI).length/\cv=cv':=by simpa using hv'
  have q0:=hcj 0 _ rfl;rw [Nat.mul_one,Nat.add_zero] at q0;obtain ⟨gn,on,cn,hvn,-,hcn,-,hcy,-⟩:=HG.out.nodes.at (i:=j) (x:=cG y) (by rw [List.getElem?_map,hy];rfl);rw [qLmx] at hvn;have y0:=hcy 0 _ rfl;have y1:=hcy 1 _ rfl;have y2:=hcy 2 _ rfl;rw [Nat.add_zero] at y0;have T:=HG.out.cell;rw [hvn] at T;have c1:=(zB T).1 1 _ rfl;have hjj:(j:Int) < (ns.length:Int):=by omega
  have hqq:(q:Int) < (l.length:Int):=by omega
  have HY:=zh (HG.out.idx.ok y (zmg hy));have HE:=zh ((H.out.rep.edge _ _).2 ⟨ni,j,l,HNI.out,hy,HLI.out,zmg hj⟩);have HST:=zh (fun (all2:List GN) (hm:∀z∈all',z∈all2) (hm2:y∈all2)=>(show ∀j∈l.take (q+1),∀y,ns[j]? =some y->y∈all2 from fun j' hj' y' hy'=>by
   rw [qLtx,hj] at hj';rcases zmb hj' with h9 | h9
   ·exact hm _ (HQ.out j' h9 y' hy')
   ·obtain rfl:j'=j:=by simpa using h9
    obtain rfl:=zsi (hy.symm.trans hy');exact hm2))
  obtain ⟨c',g',L'⟩:=z5c all' y;have HL':=zh L';obtain ⟨A4,c4,rfl,-⟩:=HR3.out.row.shape;simp only [qLmx] at HR3;obtain ⟨A5,n5,c5,rfl⟩:=HR3.out.by_.shape3;unfold maxLen at hcv hcn;clear hcj hcy hj hy hv' hvn T L';have hkey:=zEv HY.out;obtain ⟨yf,ys,yn⟩:=y;simp only [vG] at hkey;dsimp only at y0 y1 y2
  cases g' with
  | true=>
   go_wp2_with (first
    | (at_lookup;go_loud (refine zAj _ rfl _ _ rfl w.heap.size all'.length D' all' (yf,ys,yn) c' _ rfl (z2h HR3.out.own (by go_grown)) HR3.out.idx rfl HY.out HL'.out ?_))
    | (at_mapUpdate;go_loud (refine wpList_mapUpdate_own _ rfl _ _ _ 280 rfl 244 3 keyNode Tryz.underlying280 _ w.heap.size all'.length D' rfl (z2h HR3.out.own (by go_grown)) (by unfold maxLen;omega) _ (.int .i64 all'.length) _ rfl rfl hkey _ [] (plainElem_int Tryz.underlying3 (by have h:I64 (all'.length:Int):=⟨by omega,by omega⟩;simp [Lit.wf];exact h)) ?_);intro w1 hown1 hg1;have HO1:=zh hown1;have HG1:=zh (show ∃W,Below wr.heap.size wr W/\W.grownBy w1 (some w.heap.size) from ⟨_,(by go_grown),hg1⟩);have T1:w1.heap[wr.heap.size]? =some (.cells #[.bool yf,.string ys,.int .i64 yn] 244 (0,0)):=(hg1.block wr.heap.size (by simp) (by simp;have:=HR3.out.own.lt;omega)).trans (by repeat' first|with_reducible assumption|((with_reducible first|refine Z2 _ ?_ ?_|apply zJ);rotate_left;first|with_reducible rfl|((try dsimp only);first|with_reducible assumption|omega|(simp only [zS];done)|(simp only [zS];omega)))|with_reducible apply zH|with_reducible refine zR _ ?_|with_reducible refine ZQ ?_|refine (rfl:(_:Array Value)=_));have b10:=(zB T1).1 0 _ rfl;have b11:=(zB T1).1 1 _ rfl;have b12:=(zB T1).1 2 _ rfl;have HRR:=zh (HR3.out.rows hg1 (by go_grown));clear hown1 hg1 T1)
    | (at_builtin;refine z2b w1 _ [.bool yf,.string ys,.int .i64 yn] rfl (.tmp 101) (.tmp 103) 239 rfl iN _ 32 Tryz.underlying239 hiN hzN h1N h2N rfl (by decide) (by decide) (.slice A4 all'.length c4) (all'.map cG) rfl _ _ rfl HRR.out.1 (by go_grown) (by rw [qLmx];omega) rfl (zBo (yf,ys,yn)) (by repeat' first|with_reducible assumption|((with_reducible first|refine Z2 _ ?_ ?_|apply zJ);rotate_left;first|with_reducible rfl|((try dsimp only);first|with_reducible assumption|omega|(simp only [zS];done)|(simp only [zS];omega)))|with_reducible apply zH|with_reducible refine zR _ ?_|with_reducible refine ZQ ?_|refine (rfl:(_:Array Value)=_)) ?_;intro v2 w2 r2 p2 o2;obtain ⟨A2,n2,c2,rfl⟩:=r2.shape3;have HR2:=zh r2;have HP2:=zh p2;have HO2:=zh o2;have HBY2:=zh (HRR.out.2.but p2 fun z hz e=>z2t HRR.out.1 HRR.out.2 (by decide) e hz);clear r2 p2 o2)
    | (at_builtin;refine z2b w2 _ [.int .i64 k] rfl (.tmp 105) (.tmp 107) 234 rfl iI _ 8 Tryz.underlying234 hiI hzI h1I h2I rfl (by decide) (by decide) (.slice A5 n5 c5) bl' rfl _ _ rfl HBY2.out (by go_grown) (by rw [HR3.out.len];omega) rfl (by intro u hu;simp at hu;subst hu;rfl) (by repeat' first|with_reducible assumption|((with_reducible first|refine Z2 _ ?_ ?_|apply zJ);rotate_left;first|with_reducible rfl|((try dsimp only);first|with_reducible assumption|omega|(simp only [zS];done)|(simp only [zS];omega)))|with_reducible apply zH|with_reducible refine zR _ ?_|with_reducible refine ZQ ?_|refine (rfl:(_:Array Value)=_)) ?_;intro v3 w4 r3 p3 o3;obtain ⟨A3,n3,c3,rfl⟩:=r3.shape3;have HRZ:=zh r3;have HP3:=zh p3;have HO3:=zh o3;clear r3 p3 o3))
   go_roundw
   case rel=>exact ⟨q+1,D',all',bl',by go_num,by omega,hk,HR3.out.mono (by go_grown),HK,HXK,HST.out all' (fun z hz=>hz) (HL'.out.mem.1 rfl)⟩
   case measure=>exact qMx
  | false=>
   have HNM:=zh (show (yf,ys,yn)∉all' from fun hm=>by have:=HL'.out.mem.2 hm;cases this)
   go_wp2_with (first
    | (at_lookup;go_loud (refine zAj _ rfl _ _ rfl w.heap.size all'.length D' all' (yf,ys,yn) c' _ rfl (z2h HR3.out.own (by go_grown)) HR3.out.idx rfl HY.out HL'.out ?_))
    | (at_mapUpdate;go_loud (refine wpList_mapUpdate_own _ rfl _ _ _ 280 rfl 244 3 keyNode Tryz.underlying280 _ w.heap.size all'.length D' rfl (z2h HR3.out.own (by go_grown)) (by unfold maxLen;omega) _ (.int .i64 all'.length) _ rfl rfl hkey _ [] (plainElem_int Tryz.underlying3 (by have h:I64 (all'.length:Int):=⟨by omega,by omega⟩;simp [Lit.wf];exact h)) ?_);intro w1 hown1 hg1;have HO1:=zh hown1;have HG1:=zh (show ∃W,Below wr.heap.size wr W/\W.grownBy w1 (some w.heap.size) from ⟨_,(by go_grown),hg1⟩);have T1:w1.heap[wr.heap.size]? =some (.cells #[.bool yf,.string ys,.int .i64 yn] 244 (0,0)):=(hg1.block wr.heap.size (by simp) (by simp;have:=HR3.out.own.lt;omega)).trans (by repeat' first|with_reducible assumption|((with_reducible first|refine Z2 _ ?_ ?_|apply zJ);rotate_left;first|with_reducible rfl|((try dsimp only);first|with_reducible assumption|omega|(simp only [zS];done)|(simp only [zS];omega)))|with_reducible apply zH|with_reducible refine zR _ ?_|with_reducible refine ZQ ?_|refine (rfl:(_:Array Value)=_));have b10:=(zB T1).1 0 _ rfl;have b11:=(zB T1).1 1 _ rfl;have b12:=(zB T1).1 2 _ rfl;have HRR:=zh (HR3.out.rows hg1 (by go_grown));clear hown1 hg1 T1)
    | (at_builtin;refine z2b w1 _ [.bool yf,.string ys,.int .i64 yn] rfl (.tmp 101) (.tmp 103) 239 rfl iN _ 32 Tryz.underlying239 hiN hzN h1N h2N rfl (by decide) (by decide) (.slice A4 all'.length c4) (all'.map cG) rfl _ _ rfl HRR.out.1 (by go_grown) (by rw [qLmx];omega) rfl (zBo (yf,ys,yn)) (by repeat' first|with_reducible assumption|((with_reducible first|refine Z2 _ ?_ ?_|apply zJ);rotate_left;first|with_reducible rfl|((try dsimp only);first|with_reducible assumption|omega|(simp only [zS];done)|(simp only [zS];omega)))|with_reducible apply zH|with_reducible refine zR _ ?_|with_reducible refine ZQ ?_|refine (rfl:(_:Array Value)=_)) ?_;intro v2 w2 r2 p2 o2;obtain ⟨A2,n2,c2,rfl⟩:=r2.shape3;have HR2:=zh r2;have HP2:=zh p2;have HO2:=zh o2;have HBY2:=zh (HRR.out.2.but p2 fun z hz e=>z2t HRR.out.1 HRR.out.2 (by decide) e hz);clear r2 p2 o2)
    | (at_builtin;refine z2b w2 _ [.int .i64 k] rfl (.tmp 105) (.tmp 107) 234 rfl iI _ 8 Tryz.underlying234 hiI hzI h1I h2I rfl (by decide) (by decide) (.slice A5 n5 c5) bl' rfl _ _ rfl HBY2.out (by go_grown) (by rw [HR3.out.len];omega) rfl (by intro u hu;simp at hu;subst hu;rfl) (by repeat' first|with_reducible assumption|((with_reducible first|refine Z2 _ ?_ ?_|apply zJ);rotate_left;first|with_reducible rfl|((try dsimp only);first|with_reducible assumption|omega|(simp only [zS];done)|(simp only [zS];omega)))|with_reducible apply zH|with_reducible refine zR _ ?_|with_reducible refine ZQ ?_|refine (rfl:(_:Array Value)=_)) ?_;intro v3 w4 r3 p3 o3;obtain ⟨A3,n3,c3,rfl⟩:=r3.shape3;have HRZ:=zh r3;have HP3:=zh p3;have HO3:=zh o3;clear r3 p3 o3))
   go_roundw
   case rel=>
    obtain ⟨W,BW,GW⟩:=HG1.out;exact ⟨q+1,_,all'++[(yf,ys,yn)],_,by go_num,by omega,by simp;omega,HR3.out.push HY.out HNM.out HO1.out GW BW HP2.out HR2.out HO2.out HP3.out HRZ.out HO3.out,HK.out.add (zmg HXK.out) HE.out HNM.out (by omega),(qLlx hk).trans HXK.out,HST.out _ (fun z hz=>List.mem_append_left _ hz) (List.mem_append_right _ (by simp))⟩
   case measure=>exact qMx
theorem zPs {m:Nat} {t:Nat} {B:Nat->Prop} (h:Gr E m w t B) (hm:m<=5000) (s:GN) (hs:OkG s) (b:Value) (d:RowC 244 3 w b [cG s]):Calls prog 199 #[pT t,b] w λe' w'=>∃(va:Value) (a:List GN),e'= .returned va/\RowC 244 3 w' va (a.map cG)/\(∀x,x∈a↔Reach E s x)/\a.length<=6000/\(∀e,va.ownBlock=some e->w.heap.size<=e)/\bW w w':=by
 have g:=zh (zNm h hm s hs b d);clear h hs d;go_enter func199,ntmps199
 go_wp2_with (go_at_call 230;refine zcm g ?_;rintro _ _ ⟨va,_,a,rfl,c⟩;have f:=zh c;clear c)
 go_ret;exact⟨va,a,rfl,f⟩
end
end Go.Proofs.YtdggplhnfhcieaaGreatDoor
