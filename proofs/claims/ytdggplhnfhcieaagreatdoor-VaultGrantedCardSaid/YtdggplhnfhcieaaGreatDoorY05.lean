/- Part 5 of the proof of vaultGranted_holds. No condition. -/
import Derived.Deep.RegionLaw
import Derived.Laws.IdiomCopy
import Derived.Laws.Externs
import Derived.Laws.NewBlocks
import Derived.Lib.SliceRun
import Derived.Lib.Overlaps
import Derived.Lib.AppendZerosOnto
import Derived.Maps.OwnSet
import Derived.DeepKeys4
import Derived.Test.YtdggplhnfhcieaaGreatDoorY02
set_option linter.unusedVariables false
set_option linter.unusedSimpArgs false
set_option linter.unusedSectionVars false
set_option maxRecDepth 100000
namespace Go.Proofs.YtdggplhnfhcieaaGreatDoor
section
open Go.RowKit Go.Deep Go.Lib
theorem z6l {P:Program} (w:World) (dT sT ty elem:TypeId) (sz:Nat) (b o dLen dCap:Nat) (a:Addr) (sLen sCap:Nat) (cs:List Value)
  (hu:P.underlying dT=some (.slice elem)) (hs:(P.info? elem).map (·.size)=some sz) (hn:cs.length=Nat.min sLen dLen*sz)
  (hsrc:∀j v,cs[j]? =some v->w.cell? (a.add j)=some v) (hc:∀j,j < cs.length->(w.cell? ⟨b,o+j,none⟩).isSome=true) (hf:∀j,j < cs.length->w.frozen? ⟨b,o+j,none⟩=false) (h1:∀v∈cs,v.oneCell'=true):
  (Builtin.copy_ #[dT,sT] ty #[.slice (some ⟨b,o,none⟩) dLen dCap,.slice (some a) sLen sCap]).run P w= .ok (goInt (Nat.min sLen dLen)) (w.setCells b o cs):=by
 have hl:=run_loadCells_list (P:=P) w a cs hsrc
 have hst:=run_storeCells_cells (P:=P) b o cs 0 w (by simpa using hc) (by simpa using hf) h1
 cases hq:P.info? elem with
 | none=>simp [hq] at hs
 | some i=>
  have hi:i.size=sz:=by simpa [hq] using hs
  rw [hn] at hl
  simp [Builtin.copy_,run_underlying hu,Builtin.lenOf,Builtin.firstCells,sizeOf,typeInfo,hq,hi,hl,hst]
theorem zBm {P:Program} {ops:Array Oper} {o:Oper} {a:Act} {w:World} {K:Act->World->Prop} {Q:Exit->Act->World->Prop} {E:Prop}
  (hg:o.guard=none) (d x:Operand) (dT sT:TypeId) (hop:o.op=Op.call { callee:=Callee.builtin Builtin.copy,args:=#[d,x],argTypes:=#[dT,sT] })
  (v u:Value) (hd:a.eval d=v) (hx:a.eval x=u) {v':Value} {w':World} (hr:(Builtin.copy_ #[dT,sT] o.type #[v,u]).run P w= .ok v' w') (hK:K (a.put o.dst v') w'):
  if Region.wanted o (yielded ops a.tmps)=true then Oper.wp P o a w K Q else E:=by
 have hw:Region.wanted o (yielded ops a.tmps)=true:=by simp [Region.wanted,hg]
 rw [if_pos hw]
 unfold Oper.wp
 simp [execOp,hop,resolve,invoke,builtin,hd,hx,hr,Result.andThen]
 exact hK
section
variable {e:TypeId} {sz:Nat}
theorem RowC.of_cells {w:World} {g off cap:Nat} {l:List (List Value)} {cur:Array Value} (hall:∀x∈l,x.length=sz/\∀u∈x,u.oneCell'=true) (hg:w.heap[g]? =some (.cells cur e (0,0))) (h1:l.length<=cap) (h2:cap<=maxLen) (h3:off+cap*sz<=cur.size)
  (hc:∀q u,l.flatten[q]? =some u->w.cell? ⟨g,off+q,none⟩=some u):RowC e sz w (.slice (some ⟨g,off,none⟩) l.length cap) l:=
 ⟨hall,.inr ⟨g,off,cap,cur,rfl,hg,h1,h2,h3,fun q u hq=>by have:=hc q u hq;rwa [cell_of_row _ g _ _ _ (0,0) hg] at this⟩⟩
theorem zGb {l:List (List Value)} {x:List Value} {i:Nat} (hi:i<=l.length) (hl:∀y∈l,y.length=sz) (hx:x.length=sz) {q:Nat} {u:Value} (h:(l.take i++x :: l.drop i).flatten[q]? =some u):
  (q < i*sz/\l.flatten[q]? =some u)\/(∃j,q=i*sz+j/\x[j]? =some u)\/∃j,q=i*sz+sz+j/\(l.flatten.drop (i*sz))[j]? =some u:=by
 have h1:(l.take i).flatten.length=i*sz:=by
  rw [z4o fun y hy=>hl y (List.mem_of_mem_take hy),List.length_take,Nat.min_eq_left hi]
 have h2:l.flatten=(l.take i).flatten++(l.drop i).flatten:=by rw [<-List.flatten_append,List.take_append_drop]
 have h3:l.flatten.drop (i*sz)=(l.drop i).flatten:=by rw [h2,<-h1,List.drop_left]
 rw [List.flatten_append,List.flatten_cons] at h
 rcases Nat.lt_or_ge q (i*sz) with a | a
 ·left
  rw [List.getElem?_append_left (by omega)] at h
  exact ⟨a,by rw [h2,List.getElem?_append_left (by omega)];exact h⟩
 rw [List.getElem?_append_right (by omega),h1] at h
 rcases Nat.lt_or_ge (q - i*sz) sz with b | b
 ·rw [List.getElem?_append_left (by omega)] at h
  exact .inr (.inl ⟨q - i*sz,by omega,h⟩)
 rw [List.getElem?_append_right (by omega),hx] at h
 exact .inr (.inr ⟨q - i*sz - sz,by omega,by rw [h3];exact h⟩)
theorem zIa {l:List (List Value)} {x:List Value} {i:Nat} {p:List Value->Prop} (hl:∀y∈l,p y) (hx:p x):∀y∈l.take i++x :: l.drop i,p y:=fun y hy=>by
 rcases zmb hy with h | h
 ·exact hl y (List.mem_of_mem_take h)
 ·rcases List.mem_cons.1 h with rfl | h
  ·exact hx
  ·exact hl y (List.mem_of_mem_drop h)
theorem zA3 (b:Nat) (vs:List Value) (o:Nat) (w:World) (h:∀j,j < vs.length->(w.cell? ⟨b,o+j,none⟩).isSome=true) (k:Nat) (hk:(w.cell? ⟨b,k,none⟩).isSome=true):((w.setCells b o vs).cell? ⟨b,k,none⟩).isSome=true:=by
 by_cases hin:o<=k/\k < o+vs.length
 ·have:=World.cell?_setCells_in b vs o w h (k - o) (by omega)
  rw [show o+(k - o)=k by omega] at this
  rw [this];rfl
 rw [World.cell?_setCells_out b vs o w ⟨b,k,none⟩ (fun _ _=>by show k < o\/o+vs.length<=k;omega)]
 exact hk
theorem z9h {b o:Nat} {vs:List Value} {w:World} (h:∀j,j < vs.length->(w.cell? ⟨b,o+j,none⟩).isSome=true) {j:Nat} {u:Value} (hj:vs[j]? =some u):(w.setCells b o vs).cell? ⟨b,o+j,none⟩=some u:=by
 obtain ⟨hl,rfl⟩:=zge hj
 exact World.cell?_setCells_in b vs o w h j hl
theorem z4x {b o k:Nat} {vs:List Value} {w:World} (h:k < o\/o+vs.length<=k):(w.setCells b o vs).cell? ⟨b,k,none⟩=w.cell? ⟨b,k,none⟩:=World.cell?_setCells_out b vs o w ⟨b,k,none⟩ fun _ _=>h
end
theorem z2x {b:Nat} {T:TypeId}:∀(vs:List Value) (w:World) (o:Nat) (cs:Array Value),w.heap[b]? =some (.cells cs T (0,0))->∃cs',(w.setCells b o vs).heap[b]? =some (.cells cs' T (0,0))/\cs'.size=cs.size
 | [],w,o,cs,h=>⟨cs,h,rfl⟩
 | v :: r,w,o,cs,h=>by
  obtain ⟨cs',h1,h2⟩:=z2x r (w.setCell ⟨b,o,none⟩ v) (o+1) _ (zI v h rfl)
  exact ⟨cs',h1,by rw [h2];simp⟩
def z9i (l:List (List Value)) (i:Nat) (x:List Value) (v:Value) (w:World) (e:Ending) (w':World):Prop:=
 ∃v',e= .returned v'/\RowC 149 3 w' v' (l.take i++x :: l.drop i)/\ButB (fun z=>v.ownBlock=some z) w w'/\(v'.ownBlock=v.ownBlock\/∃k,v'.ownBlock=some k/\w.heap.size<=k)
set_option maxHeartbeats 4000000 in
theorem zJr (l:List (List Value)) (v:Value) (w:World) (x:List Value) (hx:x.length=3) (hx1:∀u∈x,u.oneCell'=true) (N c:Nat) (hN:w.heap[N]? =some (.cells x.toArray 149 (0,0))) (h:RowC 149 3 w v l) (hl:l.length<=9999):
  Calls Tryz.prog 162 #[v,.int .i64 l.length,.slice (some ⟨N,0,none⟩) 1 c] w (z9i l l.length x v w):=by
 obtain ⟨iWrap,hiWrap,hzWrap,h1Wrap,h2Wrap⟩:=info_parts (show (Tryz.prog.info? 149).map (fun i=>(i.zero,i.size,i.bytes))=some (some (.agg #[.string ⟨#[]⟩,.int .i64 0,.bool false]),3,32) from by kernel_rfl)
 have HR:=zh h
 obtain ⟨A,cp,hv,_⟩:=h.shape
 have hcap:l.length<=cp/\(cp:Int)<=9223372036854775807:=by
  rcases h.2 with ⟨e,h0⟩ | ⟨g,off,cap,cur,e,_,h1,h2,_⟩
  ·rw [hv] at e
   simp only [Value.slice.injEq] at e
   omega
  ·rw [hv] at e
   simp only [Value.slice.injEq] at e
   unfold maxLen at h2
   omega
 subst hv
 obtain ⟨_,_⟩:=hcap
 have HE:=zh (show ∀c',(Value.slice A l.length cp).ownBlock=(Value.slice A l.length c').ownBlock from fun c'=>by cases A<;>rfl)
 clear h
 go_enter Tryz.func162,Tryz.ntmps162
 go_wp2_with (at_builtin;refine zGx _ x rfl (.tmp 23) (.tmp 24) 71 rfl iWrap _ 32 Tryz.underlying71 hiWrap hzWrap h1Wrap h2Wrap rfl (by decide) (by decide) (.slice A l.length cp) l rfl N c rfl HR.out (by omega) hx hx1 hN ?_;intro v' w' r1 r2 r3;have H1:=zh r1;have H2:=zh r2;have H3:=zh r3;clear r1 r2 r3)
 all_goals
  go_ret
  first
   | exact ⟨v',rfl,by simpa using H1.out,ButB.row H2.out zbr,H3.out⟩
   | exact ⟨v',rfl,by simpa using H1.out,ButB.row (by rw [<-HE.out l.length];exact H2.out) zbr,by rw [<-HE.out l.length];exact H3.out⟩
set_option maxHeartbeats 8000000 in
theorem zHk (l:List (List Value)) (g off cap:Nat) (w:World) (i:Nat) (hi:i < l.length) (x:List Value) (hx:x.length=3) (hx1:∀u∈x,u.oneCell'=true) (N c:Nat) (hN:w.heap[N]? =some (.cells x.toArray 149 (0,0))) (h:RowC 149 3 w (.slice (some ⟨g,off,none⟩) l.length cap) l) (hl:l.length<=9999) (hNg:N≠g) (hroom:l.length+1<=cap):
  Calls Tryz.prog 162 #[.slice (some ⟨g,off,none⟩) l.length cap,.int .i64 i,.slice (some ⟨N,0,none⟩) 1 c] w (z9i l i x (.slice (some ⟨g,off,none⟩) l.length cap) w):=by
 obtain ⟨_,hiWrap,_,h1Wrap,_⟩:=info_parts (show (Tryz.prog.info? 149).map (fun i=>(i.zero,i.size,i.bytes))=some (some (.agg #[.string ⟨#[]⟩,.int .i64 0,.bool false]),3,32) from by kernel_rfl)
 have hall:=h.1
 obtain ⟨cur,hg,hcm,hoc,hcell⟩:∃cur,w.heap[g]? =some (.cells cur 149 (0,0))/\cap<=maxLen/\off+cap*3<=cur.size/\∀q u,l.flatten[q]? =some u->cur[off+q]? =some u:=by
  rcases h.2 with ⟨e,_⟩ | ⟨g',off',cap',cur,e,h0,h1,h2,h3,h4⟩
  ·simp at e
  ·simp only [Value.slice.injEq,Option.some.injEq,Addr.mk.injEq] at e
   obtain ⟨⟨rfl,rfl,_⟩,_,rfl⟩:=e
   exact ⟨cur,h0,h2,h3,h4⟩
 unfold maxLen at hcm
 have hfl:l.flatten.length=l.length*3:=z4o fun y hy=>(hall y hy).1
 have hw0:∀q u,l.flatten[q]? =some u->w.cell? ⟨g,off+q,none⟩=some u:=fun q u hq=>by rw [cell_of_row _ g _ _ _ (0,0) hg];exact hcell q u hq
 have hsp:∀k,k < off+cap*3->(w.cell? ⟨g,k,none⟩).isSome=true:=fun k hk=>by
  rw [cell_of_row _ g _ _ _ (0,0) hg,Array.getElem?_eq_getElem (by omega)]
  rfl
 have hfz:=(zD hg).2
 have hsz:(Tryz.prog.info? 149).map (·.size)=some 3:=by rw [hiWrap];simp [h1Wrap]
 have hdl:(l.flatten.drop (i*3)).length=(l.length - i)*3:=by rw [List.length_drop,hfl,Nat.sub_mul]
 have hone:∀u∈l.flatten,u.oneCell'=true:=fun u hu=>by
  obtain ⟨y,hy,hu⟩:=List.mem_flatten.1 hu
  exact (hall y hy).2 u hu
 have hin:i<=l.length:=by omega
 have hov:∀lb cb,(callFunc 188 #[.slice (some ⟨N,0,none⟩) 1 c,.slice (some ⟨g,off+(i+1)*3,none⟩) lb cb]).run Tryz.prog w= .ok (.value (.bool false)) w:=fun lb cb=>by
  rw [run_callFunc_extern Tryz.func188 (by kernel_rfl) (by kernel_rfl) (by kernel_rfl) (e:=Extern.SlicesOverlaps.overlaps #[71,71] #[4]) (by kernel_rfl),
   Lib.run_overlaps_apart w 71 4 149 Tryz.underlying71 3 (fun w=>by kernel_rfl) ⟨N,0,none⟩ ⟨g,off+(i+1)*3,none⟩ 1 c lb cb hNg 149 149 x.toArray.size cur.size (by unfold World.shape?;rw [hN]) (by unfold World.shape?;rw [hg]) (by omega) ((zD hN).2 0) ((zD hN).2 _)]
  rfl
 have hcp1:∀ty dc sc,(Builtin.copy_ #[71,71] ty #[.slice (some ⟨g,off+(i+1)*3,none⟩) (l.length+1 - (i+1)) dc,.slice (some ⟨g,off+i*3,none⟩) (l.length+1 - i) sc]).run Tryz.prog w.drew= .ok (goInt (Nat.min (l.length+1 - i) (l.length+1 - (i+1)))) (w.drew.setCells g (off+(i+1)*3) (l.flatten.drop (i*3))):=fun ty dc sc=>
  z6l w.drew _ _ ty 149 3 g (off+(i+1)*3) (l.length+1 - (i+1)) dc ⟨g,off+i*3,none⟩ (l.length+1 - i) sc (l.flatten.drop (i*3)) Tryz.underlying71 hsz (by rw [hdl];simp only [Nat.min_def];split<;>omega)
   (fun j v hj=>by rw [Addr.add_lit,Nat.add_assoc];exact hw0 (i*3+j) v (by rwa [List.getElem?_drop] at hj))
   (fun j hj=>hsp _ (by omega)) (fun j hj=>hfz _) (fun v hv=>hone v (List.mem_of_mem_drop hv))
 obtain ⟨W1,hW1⟩:∃W1,W1=w.drew.setCells g (off+(i+1)*3) (l.flatten.drop (i*3)):=⟨_,rfl⟩
 have hd1:∀j,j < (l.flatten.drop (i*3)).length->(w.drew.cell? ⟨g,off+(i+1)*3+j,none⟩).isSome=true:=fun j hj=>hsp _ (by omega)
 have hsp1:∀k,k < off+cap*3->(W1.cell? ⟨g,k,none⟩).isSome=true:=fun k hk=>by
  rw [hW1]
  exact zA3 g _ _ _ hd1 _ (hsp k hk)
 have hcp2:∀ty,(Builtin.copy_ #[71,71] ty #[.slice (some ⟨g,off+i*3,none⟩) (l.length+1 - i) (cap - i),.slice (some ⟨N,0,none⟩) 1 c]).run Tryz.prog W1= .ok (goInt (Nat.min 1 (l.length+1 - i))) (W1.setCells g (off+i*3) x):=fun ty=>
  z6l W1 _ _ ty 149 3 g (off+i*3) (l.length+1 - i) (cap - i) ⟨N,0,none⟩ 1 c x Tryz.underlying71 hsz (by rw [hx];simp only [Nat.min_def];split<;>omega)
   (fun j v hj=>by
    rw [Addr.add_lit,hW1,World.cell?_setCells_out g _ _ _ _ (fun e _=>absurd e hNg)]
    show w.cell? _=_
    rw [cell_of_row _ N _ _ _ (0,0) hN]
    simpa using hj)
   (fun j hj=>hsp1 _ (by omega)) (fun j hj=>by rw [hW1,World.frozen?_setCells];exact hfz _) hx1
 rw [<-hW1] at hcp1
 have HCP1:=zh hcp1
 have HCP2:=zh hcp2
 have hs1:=z17 g (l.flatten.drop (i*3)) w.drew (off+(i+1)*3)
 have hs2:=z17 g x W1 (off+i*3)
 rw [<-hW1] at hs1
 have hd2:∀j,j < x.length->(W1.cell? ⟨g,off+i*3+j,none⟩).isSome=true:=fun j hj=>hsp1 _ (by omega)
 have HEND:=zh (show z9i l i x (.slice (some ⟨g,off,none⟩) l.length cap) w (.returned (.slice (some ⟨g,off,none⟩) (l.length+1) cap)) (W1.setCells g (off+i*3) x) from by
  have hlen:(l.take i++x :: l.drop i).length=l.length+1:=by simp;omega
  obtain ⟨cur1,c1,c2⟩:=z2x (l.flatten.drop (i*3)) w.drew (off+(i+1)*3) cur hg
  rw [<-hW1] at c1
  obtain ⟨_,c3,c4⟩:=z2x x W1 (off+i*3) cur1 c1
  refine ⟨_,rfl,?_,⟨hs2.1.trans hs1.1,hs2.2.1.trans hs1.2.1,hs2.2.2.1.trans hs1.2.2.1,by rw [hs2.2.2.2.1,hs1.2.2.2.1];exact znl _,fun b _ hb=>?_⟩,.inl rfl⟩
  ·rw [<-hlen]
   refine RowC.of_cells (zIa hall ⟨hx,hx1⟩) c3 (by omega) (by unfold maxLen;omega) (by rw [c4,c2];exact hoc) fun q u hq=>?_
   rcases zGb hin (fun y hy=>(hall y hy).1) hx hq with ⟨a1,a2⟩ | ⟨j,rfl,a2⟩ | ⟨j,rfl,a2⟩
   ·rw [z4x (.inl (by omega)),hW1,z4x (.inl (by omega))]
    exact hw0 q u a2
   ·rw [<-Nat.add_assoc]
    exact z9h hd2 a2
   ·rw [z4x (.inr (by omega)),hW1,show off+(i*3+3+j)=off+(i+1)*3+j by omega]
    exact z9h hd1 a2
  ·have hbg:b≠g:=fun e=>hb (by rw [e];rfl)
   rw [hs2.2.2.2.2 b hbg,hs1.2.2.2.2 b hbg]
   rfl)
 have hw1:IntKind.i64.wrap ((i:Int)+1)=(i:Int)+1:=by rw [IntKind.wrap_i64];omega
 have hb1:(0:Int)<=(i:Int)+1:=by omega
 have htn:((i:Int)+1).toNat=i+1:=by omega
 have hb2:¬(cap=i+1):=by omega
 have hb3:(i:Int)<=(l.length:Int)+1:=by omega
 have hb5:(i:Int)+1<=(l.length:Int)+1:=by omega
 have hb4:¬(cap=i):=by omega
 clear hcp1 hW1 hd1 hd2 hs1 hs2 hsp1
 go_enter Tryz.func162,Tryz.ntmps162
 go_wp2_with (simp only [hov])
 go_region_law (refine zBm rfl (.tmp 73) (.tmp 76) 71 71 rfl (.slice (some ⟨g,off+(i+1)*3,none⟩) (l.length+1 - (i+1)) (cap - (i+1))) (.slice (some ⟨g,off+i*3,none⟩) (l.length+1 - i) (cap - i)) (by simp [Act.eval,Act.put]) (by simp [Act.eval,Act.put]) (HCP1.out _ _ _) ?_)
 go_wp2
 go_ret
 exact HEND.out
set_option maxHeartbeats 8000000 in
theorem zHl (l:List (List Value)) (g off cap:Nat) (w:World) (i:Nat) (hi:i < l.length) (x:List Value) (hx:x.length=3) (hx1:∀u∈x,u.oneCell'=true) (N c:Nat) (hN:w.heap[N]? =some (.cells x.toArray 149 (0,0))) (h:RowC 149 3 w (.slice (some ⟨g,off,none⟩) l.length cap) l) (hl:l.length<=9999) (hroom:cap < l.length+1):
  Calls Tryz.prog 162 #[.slice (some ⟨g,off,none⟩) l.length cap,.int .i64 i,.slice (some ⟨N,0,none⟩) 1 c] w (z9i l i x (.slice (some ⟨g,off,none⟩) l.length cap) w):=by
 obtain ⟨iWrap,hiWrap,hzWrap,h1Wrap,h2Wrap⟩:=info_parts (show (Tryz.prog.info? 149).map (fun i=>(i.zero,i.size,i.bytes))=some (some (.agg #[.string ⟨#[]⟩,.int .i64 0,.bool false]),3,32) from by kernel_rfl)
 have hall:=h.1
 obtain ⟨cur,hg,_,_,_,hcell⟩:∃cur,w.heap[g]? =some (.cells cur 149 (0,0))/\l.length<=cap/\cap<=maxLen/\off+cap*3<=cur.size/\∀q u,l.flatten[q]? =some u->cur[off+q]? =some u:=by
  rcases h.2 with ⟨e,_⟩ | ⟨g',off',cap',cur,e,h0,h1,h2,h3,h4⟩
  ·simp at e
  ·simp only [Value.slice.injEq,Option.some.injEq,Addr.mk.injEq] at e
   obtain ⟨⟨rfl,rfl,_⟩,_,rfl⟩:=e
   exact ⟨cur,h0,h1,h2,h3,h4⟩
 obtain rfl:cap=l.length:=by omega
 have hfl:l.flatten.length=l.length*3:=z4o fun y hy=>(hall y hy).1
 have hw0:∀q u,l.flatten[q]? =some u->w.cell? ⟨g,off+q,none⟩=some u:=fun q u hq=>by rw [cell_of_row _ g _ _ _ (0,0) hg];exact hcell q u hq
 have hsz:(Tryz.prog.info? 149).map (·.size)=some 3:=by rw [hiWrap];simp [h1Wrap]
 have hdl:(l.flatten.drop (i*3)).length=(l.length - i)*3:=by rw [List.length_drop,hfl,Nat.sub_mul]
 have htl:(l.flatten.take (i*3)).length=i*3:=by rw [List.length_take,hfl];omega
 have hone:∀u∈l.flatten,u.oneCell'=true:=fun u hu=>by
  obtain ⟨y,hy,hu⟩:=List.mem_flatten.1 hu
  exact (hall y hy).2 u hu
 have hin:i<=l.length:=by omega
 have hgw:g < w.heap.size:=zM hg
 have hNw:N < w.heap.size:=zM hN
 have hkk:(l.length:Int)+1 - (i:Int)=((l.length+1 - i:Nat):Int):=by omega
 have hik:i+(l.length+1 - i)=l.length+1:=by omega
 have hold:(Builtin.firstCells iWrap.size i (.slice (some ⟨g,off,none⟩) i l.length)).run Tryz.prog w.drew= .ok (l.flatten.take (i*3)).toArray w.drew:=by
  rw [h1Wrap]
  exact run_firstCells_some w.drew 3 i ⟨g,off,none⟩ i l.length (l.flatten.take (i*3)) (by omega) (fun j v hj=>by
   rw [Addr.add_lit]
   rw [List.getElem?_take] at hj
   split at hj
   ·exact hw0 j v hj
   ·cases hj)
 obtain ⟨G,hG⟩:∃G,G=grownCap w (l.length+1) l.length 149:=⟨_,rfl⟩
 obtain ⟨ROW,hROW⟩:∃ROW:Array Value,ROW=(l.flatten.take (i*3)).toArray++Builtin.zeroCells (Value.agg #[.string ⟨#[]⟩,.int .i64 0,.bool false]).cells (l.length+1 - i)++Builtin.zeroCells (Value.agg #[.string ⟨#[]⟩,.int .i64 0,.bool false]).cells (G - (l.length+1)):=⟨_,rfl⟩
 obtain ⟨W1,hW1⟩:∃W1,W1=w.drew.alloc (.cells ROW 149):=⟨_,rfl⟩
 have hrz:∀ty,(Builtin.append_ #[71,3] ty #[.slice (some ⟨g,off,none⟩) i l.length,.int .i64 ((l.length:Int)+1 - (i:Int))]).run Tryz.prog w= .ok (.slice (some ⟨w.heap.size,0,none⟩) (l.length+1) G) W1:=fun ty=>by
  have h:=Lib.run_append_grow_zeros w 71 3 ty 149 iWrap _ .i64 .i64 Tryz.underlying71 Tryz.underlying3 hiWrap hzWrap (some ⟨g,off,none⟩) i l.length (l.flatten.take (i*3)) hold (l.length+1 - i) (by omega) (by rw [h1Wrap];omega) (by omega) (by omega) (by rw [h2Wrap];omega) (by rw [h2Wrap,hik];exact growslice_fits hroom (by omega))
  rw [hik] at h
  rw [hkk,hW1,hROW,hG]
  exact h
 have hGn:l.length+1<=G:=by rw [hG];exact grownCap_ge w _ _ _
 have hG63:G<=9223372036854775807:=by
  have:=grownCap_le_maxLen w (l.length+1) l.length 149 (by unfold maxLen;omega)
  rw [<-hG] at this
  unfold maxLen at this
  omega
 have hRs:ROW.size=G*3:=by
  have hzl:∀n,(Builtin.zeroCells (Value.agg #[.string ⟨#[]⟩,.int .i64 0,.bool false]).cells n).size=n*3:=fun n=>by simp [Builtin.zeroCells,Value.cells]
  rw [hROW,Array.size_append,Array.size_append,List.size_toArray,htl,hzl,hzl]
  omega
 have hnew:W1.heap[w.heap.size]? =some (.cells ROW 149 (0,0)):=by rw [hW1];exact zJ _ rfl
 have hold2:∀b,b < w.heap.size->W1.heap[b]? =w.heap[b]? :=fun b hb=>by rw [hW1];exact Below.heap_alloc _ _ b hb
 have hsp:∀k,k < G*3->(W1.cell? ⟨w.heap.size,k,none⟩).isSome=true:=fun k hk=>by
  rw [cell_of_row _ w.heap.size _ _ _ (0,0) hnew,Array.getElem?_eq_getElem (by omega)]
  rfl
 have hfz:=(zD hnew).2
 have hcpA:∀ty,(Builtin.copy_ #[71,71] ty #[.slice (some ⟨w.heap.size,i*3,none⟩) (l.length+1 - i) (G - i),.slice (some ⟨N,0,none⟩) 1 c]).run Tryz.prog W1= .ok (goInt (Nat.min 1 (l.length+1 - i))) (W1.setCells w.heap.size (i*3) x):=fun ty=>
  z6l W1 _ _ ty 149 3 w.heap.size (i*3) (l.length+1 - i) (G - i) ⟨N,0,none⟩ 1 c x Tryz.underlying71 hsz (by rw [hx];simp only [Nat.min_def];split<;>omega)
   (fun j v hj=>by
    rw [Addr.add_lit,World.cell?_of_block (hold2 N hNw),cell_of_row _ N _ _ _ (0,0) hN]
    simpa using hj)
   (fun j hj=>hsp _ (by omega)) (fun j hj=>hfz _) hx1
 obtain ⟨W2,hW2⟩:∃W2,W2=W1.setCells w.heap.size (i*3) x:=⟨_,rfl⟩
 rw [<-hW2] at hcpA
 have hd1:∀j,j < x.length->(W1.cell? ⟨w.heap.size,i*3+j,none⟩).isSome=true:=fun j hj=>hsp _ (by omega)
 have hsp2:∀k,k < G*3->(W2.cell? ⟨w.heap.size,k,none⟩).isSome=true:=fun k hk=>by
  rw [hW2]
  exact zA3 _ _ _ _ hd1 _ (hsp k hk)
 have hcpB:∀ty,(Builtin.copy_ #[71,71] ty #[.slice (some ⟨w.heap.size,(i+1)*3,none⟩) (l.length+1 - (i+1)) (G - (i+1)),.slice (some ⟨g,off+i*3,none⟩) (l.length - i) (l.length - i)]).run Tryz.prog W2.drew= .ok (goInt (Nat.min (l.length - i) (l.length+1 - (i+1)))) (W2.drew.setCells w.heap.size ((i+1)*3) (l.flatten.drop (i*3))):=fun ty=>
  z6l W2.drew _ _ ty 149 3 w.heap.size ((i+1)*3) (l.length+1 - (i+1)) (G - (i+1)) ⟨g,off+i*3,none⟩ (l.length - i) (l.length - i) (l.flatten.drop (i*3)) Tryz.underlying71 hsz (by rw [hdl];simp only [Nat.min_def];split<;>omega)
   (fun j v hj=>by
    show W2.cell? _=_
    rw [Addr.add_lit,Nat.add_assoc,hW2,World.cell?_setCells_out _ _ _ _ _ (fun e _=>absurd e (show g≠w.heap.size by omega)),World.cell?_of_block (hold2 g hgw)]
    exact hw0 (i*3+j) v (by rwa [List.getElem?_drop] at hj))
   (fun j hj=>hsp2 _ (by omega)) (fun j hj=>by show W2.frozen? _=_;rw [hW2,World.frozen?_setCells];exact hfz _) (fun v hv=>hone v (List.mem_of_mem_drop hv))
 have hd2:∀j,j < (l.flatten.drop (i*3)).length->(W2.drew.cell? ⟨w.heap.size,(i+1)*3+j,none⟩).isSome=true:=fun j hj=>hsp2 _ (by omega)
 have hs1:=z17 w.heap.size x W1 (i*3)
 have hs2:=z17 w.heap.size (l.flatten.drop (i*3)) W2.drew ((i+1)*3)
 rw [<-hW2] at hs1
 have HEND:=zh (show z9i l i x (.slice (some ⟨g,off,none⟩) l.length l.length) w (.returned (.slice (some ⟨w.heap.size,0,none⟩) (l.length+1) G)) (W2.drew.setCells w.heap.size ((i+1)*3) (l.flatten.drop (i*3))) from by
  have hlen:(l.take i++x :: l.drop i).length=l.length+1:=by simp;omega
  obtain ⟨cur1,c1,c2⟩:=z2x x W1 (i*3) ROW hnew
  rw [<-hW2] at c1
  obtain ⟨_,c3,c4⟩:=z2x (l.flatten.drop (i*3)) W2.drew ((i+1)*3) cur1 c1
  have B1:Below w.heap.size w W1:=by rw [hW1];exact zbr.drew.alloc (znl _) _
  refine ⟨_,rfl,?_,⟨hs2.1.trans (hs1.1.trans B1.os),hs2.2.1.trans (hs1.2.1.trans B1.tape),hs2.2.2.1.trans (hs1.2.2.1.trans B1.output),?_,fun b hb _=>?_⟩,.inr ⟨_,rfl,znl _⟩⟩
  ·rw [<-hlen]
   refine RowC.of_cells (zIa hall ⟨hx,hx1⟩) c3 (by omega) (by unfold maxLen;omega) (by rw [c4,c2];omega) fun q u hq=>?_
   rw [Nat.zero_add]
   rcases zGb hin (fun y hy=>(hall y hy).1) hx hq with ⟨a1,a2⟩ | ⟨j,rfl,a2⟩ | ⟨j,rfl,a2⟩
   ·rw [z4x (.inl (by omega))]
    show W2.cell? _=_
    rw [hW2,z4x (.inl (by omega)),cell_of_row _ w.heap.size _ _ _ (0,0) hnew,hROW,Array.append_assoc,Array.getElem?_append_left (by rw [List.size_toArray,htl];exact a1)]
    simp only [List.getElem?_toArray]
    rw [List.getElem?_take,if_pos a1]
    exact a2
   ·have hj:j < 3:=by rw [<-hx];exact (zge a2).1
    rw [z4x (.inl (by omega))]
    show W2.cell? _=_
    rw [hW2]
    exact z9h hd1 a2
   ·rw [show i*3+3+j=(i+1)*3+j by omega]
    exact z9h hd2 a2
  ·rw [hs2.2.2.2.1]
   show w.heap.size<=W2.heap.size
   rw [hs1.2.2.2.1]
   exact B1.size
  ·have hbg:b≠w.heap.size:=by omega
   rw [hs2.2.2.2.2 b hbg]
   show W2.heap[b]? =_
   rw [hs1.2.2.2.2 b hbg]
   exact hold2 b hb)
 have HA:=zh hrz
 have hw1:IntKind.i64.wrap ((i:Int)+1)=(i:Int)+1:=by rw [IntKind.wrap_i64];omega
 have hb1:(0:Int)<=(i:Int)+1:=by omega
 have htn:((i:Int)+1).toNat=i+1:=by omega
 have hb3:(i:Int)<=(l.length:Int)+1:=by omega
 have hb5:(i:Int)+1<=(l.length:Int)+1:=by omega
 have hGi:¬(G=i):=by omega
 have hGim:¬(G=i+1):=by omega
 have hci:¬(l.length=i):=by omega
 have HB:=zh hcpB
 clear hrz hW1 hW2 hd1 hd2 hs1 hs2 hsp hsp2 hcpB hkk hik hold hROW hG hRs hnew hold2
 go_enter Tryz.func162,Tryz.ntmps162
 go_wp2_with (at_builtin;refine Lib.wpList_append_run _ rfl _ _ _ _ rfl _ _ rfl rfl _ _ (HA.out _) ?_)
 go_region_law (refine zBm rfl (.tmp 50) (.tmp 53) 71 71 rfl (.slice (some ⟨w.heap.size,(i+1)*3,none⟩) (l.length+1 - (i+1)) (G - (i+1))) (.slice (some ⟨g,off+i*3,none⟩) (l.length - i) (l.length - i)) (by simp [Act.eval,Act.put]) (by simp [Act.eval,Act.put]) (HB.out _) ?_)
 go_wp2
 go_ret
 exact HEND.out
theorem zPc (l:List (List Value)) (v:Value) (w:World) (i:Nat) (hi:i<=l.length) (x:List Value) (hx:x.length=3) (hx1:∀u∈x,u.oneCell'=true) (N c:Nat) (hN:w.heap[N]? =some (.cells x.toArray 149 (0,0))) (h:RowC 149 3 w v l) (hl:l.length<=9999) (hNv:v.ownBlock≠some N):
  Calls Tryz.prog 162 #[v,.int .i64 i,.slice (some ⟨N,0,none⟩) 1 c] w (z9i l i x v w):=by
 by_cases he:i=l.length
 ·subst he
  exact zJr l v w x hx hx1 N c hN h hl
 have h':=h
 rcases h.2 with ⟨rfl,rfl⟩ | ⟨g,off,cap,cur,rfl,_⟩
 ·simp at hi
  exact absurd hi he
 by_cases hr:l.length+1<=cap
 ·exact zHk l g off cap w i (by omega) x hx hx1 N c hN h' hl (fun e=>hNv (by rw [e];rfl)) hr
 exact zHl l g off cap w i (by omega) x hx hx1 N c hN h' hl (by omega)
end
section
open Go.RowKit Go.Deep Go.Maps
def vG (x:GN):Value:= .agg #[.bool x.1,.string x.2.1,.int .i64 x.2.2]
def cG (x:GN):List Value:=[.bool x.1,.string x.2.1,.int .i64 x.2.2]
structure OkG (x:GN):Prop where
 size:x.2.1.size<=1000
 num:I64 x.2.2
def kG (x:GN):Lit:= .string (Go.keyBytes [.bool x.1,.string x.2.1.data.toList,.int .i64 x.2.2])
theorem zPs {x y:GN} (h:vG x=vG y):x=y:=by
 obtain ⟨_,_,_⟩:=x
 obtain ⟨_,_,_⟩:=y
 simpa [vG] using h
theorem zPt (x:GN):(cG x).length=3:=rfl
theorem z8l (x:GN):∀u∈cG x,u.oneCell'=true:=by
 intro u hu
 simp only [cG,List.mem_cons,List.not_mem_nil,or_false] at hu
 rcases hu with rfl | rfl | rfl<;>rfl
theorem zFi (x:GN):WideAt.IsKeyLit (kG x):=by simp [kG,WideAt.IsKeyLit]
theorem keyNode:Keyed Tryz.prog 244:=Keyed.of_law (deep_law_laid zFh (m:=3) (by omega) (of_decide_eq_true (by kernel_rfl)) (by kernel_rfl) (by kernel_rfl))
theorem zAd {x:GN} (h:OkG x):keyOf Tryz.prog 244 (vG x)=some (kG x):=by
 obtain ⟨a,b,c⟩:=x
 obtain ⟨h1,h2⟩:=h
 dsimp only at h1 h2
 obtain ⟨d,hd⟩:∃d,Tryz.prog.types.size+1=d+1+1:=⟨Tryz.prog.types.size - 1,by have:0 < Tryz.prog.types.size:=of_decide_eq_true (by kernel_rfl);omega⟩
 have k1:Tryz.prog.keyType 244=true:=by kernel_rfl
 have k2:(vG (a,b,c)).formed Tryz.prog 244=true:=by
  have:Tryz.prog.cellsOf 244=3:=by kernel_rfl
  simp [Value.formed,Tryz.underlying244,this,vG]
 have c0:Tryz.prog.cellsOf 244=3:=by kernel_rfl
 have c1:Tryz.prog.cellsOf 4=1:=by kernel_rfl
 have c2:Tryz.prog.cellsOf 9=1:=by kernel_rfl
 have c3:Tryz.prog.cellsOf 3=1:=by kernel_rfl
 have hs:b.size<=maxLen:=by unfold maxLen;omega
 unfold keyOf
 rw [Tryz.underlying244,hd]
 simp only [k1,k2,Bool.and_true,if_true]
 have h3:IntKind.i64.min<=c/\c<=9223372036854775807:=h2
 simp [Program.keyLits,Tryz.underlying244,Tryz.underlying4,Tryz.underlying9,Tryz.underlying3,c0,c1,c2,c3,vG,Value.cells,hs,Lit.wf,kG,h3]
theorem zKw {x y:GN} (hx:OkG x) (hy:OkG y) (h:kG x=kG y):x=y:=zPs (keyNode.inj (zAd hx) (h▸zAd hy))
theorem z43 (w:World):(zeroValue 3).run Tryz.prog w= .ok (.int .i64 0) w:=by kernel_rfl
structure Idx (D:DataW Unit) (ns:List GN):Prop where
 isMap:IsMap D
 ok:∀x∈ns,OkG x
 has:∀x,OkG x->(Maps.has D (kG x)=true↔x∈ns)
 val:∀(i:Nat) x,ns[i]? =some x->∀zd,D.atKey (kG x) zd= .lit (.int .i64 i)
theorem Idx.start:Idx (.map []) []:=⟨isMap_empty,fun x h=>(by cases h),fun x _=>(by simp [Maps.has]),fun i x h=>(by simp at h)⟩
theorem Idx.put {D:DataW Unit} {ns:List GN} (h:Idx D ns) {x:GN} (hx:OkG x) (hn:x∉ns):Idx (D.put (kG x) (.lit (.int .i64 ns.length))) (ns++[x]):=by
 refine ⟨h.isMap.put _ _,fun y hy=>?_,fun y hy=>?_,fun i y hi zd=>?_⟩
 ·rcases zmb hy with hy | hy
  ·exact h.ok y hy
  rw [zml hy];exact hx
 ·by_cases e:y=x
  ·subst e
   rw [has_put_same h.isMap (zFi _)]
   simp
  rw [has_put_other fun e2=>e (zKw hy hx e2),h.has y hy,List.mem_append,List.mem_singleton]
  exact ⟨.inl,fun h=>h.resolve_right e⟩
 rcases Nat.lt_or_ge i ns.length with hl | hl
 ·rw [List.getElem?_append_left hl] at hi
  have hm:=zmg hi
  rw [atKey_put_other fun e2=>hn (zKw (h.ok y hm) hx e2▸hm)]
  exact h.val i y hi zd
 rw [List.getElem?_append_right hl] at hi
 have hil:i - ns.length=0:=by have:=(zge hi).1;simp at this;omega
 rw [hil] at hi
 obtain rfl:x=y:=by simpa using hi
 obtain rfl:i=ns.length:=by omega
 exact atKey_put_same h.isMap (zFi _) _ _
theorem Idx.look {D:DataW Unit} {ns:List GN} (h:Idx D ns) {x:GN} (hx:OkG x) {c:Int} (hc:D.atKey (kG x) (.lit (.int .i64 0))= .lit (.int .i64 c)):
  (Maps.has D (kG x)=true/\∃i:Nat,ns[i]? =some x/\c=i)\/(Maps.has D (kG x)=false/\x∉ns):=by
 by_cases e:x∈ns
 ·left
  obtain ⟨i,hi⟩:=List.getElem?_of_mem e
  refine ⟨(h.has x hx).2 e,i,hi,?_⟩
  rw [h.val i x hi] at hc
  simpa using hc.symm
 right
 exact ⟨by rw [<-Bool.not_eq_true];exact fun h2=>e ((h.has x hx).1 h2),e⟩
end
end Go.Proofs.YtdggplhnfhcieaaGreatDoor
