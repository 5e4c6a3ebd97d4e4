/- Part 5 of the proof of vaultStays_holds. No condition. -/
import Derived.Deep.AppendLies
import Derived.Test.YtdggplhnfhcieaaGreatDoorZ03
set_option linter.unusedVariables false
set_option linter.unusedSimpArgs false
set_option linter.unusedSectionVars false
set_option maxRecDepth 100000
namespace Go.Proofs.YtdggplhnfhcieaaGreatDoor
open Go.RowKit Go.Deep
section
theorem z3n {sz:Nat}:∀{l:List (List Value)} {i:Nat} {x:List Value} {j:Nat},(∀y∈l,y.length=sz)->l[i]? =some x->j < sz->l.flatten[i*sz+j]? =x[j]?
 | [],i,x,j,_,hi,_=>by simp at hi
 | y :: l,0,x,j,h,hi,hj=>by
  obtain rfl:y=x:=by simpa using hi
  rw [List.flatten_cons,List.getElem?_append_left (by have:=h y (List.mem_cons_self ..);omega)]
  congr 1
  omega
 | y :: l,i+1,x,j,h,hi,hj=>by
  have hy:=h y (List.mem_cons_self ..)
  have e:(i+1)*sz+j - y.length=i*sz+j:=by rw [hy,Nat.add_mul];omega
  rw [List.flatten_cons,List.getElem?_append_right (by rw [hy,Nat.add_mul];omega),e]
  exact z3n (fun z hz=>h z (List.mem_cons_of_mem _ hz)) (by simpa using hi) hj
theorem zEa {sz:Nat} (hsz:0 < sz) {l:List (List Value)} (h:∀y∈l,y.length=sz) {q:Nat} {u:Value} (hq:l.flatten[q]? =some u):∃i j x,q=i*sz+j/\j < sz/\l[i]? =some x/\x[j]? =some u:=by
 have hl:q < l.length*sz:=by
  have:=(List.getElem?_eq_some_iff.1 hq).1
  rwa [z47 h] at this
 have h2:=Nat.mod_lt q hsz
 have h3:=Nat.div_add_mod q sz
 have h4:q / sz < l.length:=(Nat.div_lt_iff_lt_mul hsz).2 hl
 refine ⟨q / sz,q % sz,l[q / sz],by rw [Nat.mul_comm] at h3;omega,h2,List.getElem?_eq_getElem h4,?_⟩
 rw [<-z3n (sz:=sz) h (List.getElem?_eq_getElem h4) h2]
 rw [show q / sz*sz+q % sz=q by rw [Nat.mul_comm] at h3;omega]
 exact hq
section
variable {e:TypeId} {sz:Nat}
theorem RowC.at {w:World} {v:Value} {l:List (List Value)} (h:RowC e sz w v l) {i:Nat} {x:List Value} (hi:l[i]? =some x):∃g off cap,v= .slice (some ⟨g,off,none⟩) l.length cap/\l.length<=cap/\cap<=maxLen/\g < w.heap.size/\(∀j u,x[j]? =some u->w.cell? ⟨g,off+i*sz+j,none⟩=some u)/\∀o,w.frozen? ⟨g,o,none⟩=false:=by
 obtain ⟨h0,h⟩:=h
 rcases h with ⟨_,rfl⟩ | ⟨g,off,cap,cur,hv,hg,h1,h2,h3,h4⟩
 ·simp at hi
 ·refine ⟨g,off,cap,hv,h1,h2,zM hg,fun j u hj=>?_,(zD hg).2⟩
  have hx:=(h0 x (List.mem_of_getElem? hi)).1
  have hjl:=(List.getElem?_eq_some_iff.1 hj).1
  rw [cell_of_row w g _ cur _ (0,0) hg,Nat.add_assoc]
  exact h4 _ u (by rw [z3n (fun y hy=>(h0 y hy).1) hi (by omega)];exact hj)
theorem RowC.write {w:World} {g off len cap:Nat} {l:List (List Value)} (h:RowC e sz w (.slice (some ⟨g,off,none⟩) len cap) l) (hsz:0 < sz) {i j:Nat} {x:List Value} (hi:l[i]? =some x) (hj:j < sz) (u:Value) (hu:u.oneCell'=true):RowC e sz (w.setCell ⟨g,off+i*sz+j,none⟩ u) (.slice (some ⟨g,off,none⟩) len cap) (l.set i (x.set j u)):=by
 obtain ⟨h0,h⟩:=h
 have hx:=h0 x (List.mem_of_getElem? hi)
 have hil:=(List.getElem?_eq_some_iff.1 hi).1
 have h0':∀y∈l.set i (x.set j u),y.length=sz/\∀z∈y,z.oneCell'=true:=by
  intro y hy
  rcases List.mem_or_eq_of_mem_set hy with hy | rfl
  ·exact h0 y hy
  ·refine ⟨by rw [List.length_set];exact hx.1,fun z hz=>?_⟩
   rcases List.mem_or_eq_of_mem_set hz with hz | rfl
   ·exact hx.2 z hz
   ·exact hu
 refine ⟨h0',.inr ?_⟩
 rcases h with ⟨h,_⟩ | ⟨g',off',cap',cur,hv,hg,h1,h2,h3,h4⟩
 ·cases h
 ·simp only [Value.slice.injEq,Option.some.injEq,Addr.mk.injEq,and_true] at hv
  obtain ⟨⟨rfl,rfl⟩,rfl,rfl⟩:=hv
  refine ⟨g,off,cap,cur.setIfInBounds (off+i*sz+j) u,by rw [List.length_set],zI _ hg rfl,by rw [List.length_set];exact h1,h2,by rw [Array.size_setIfInBounds];exact h3,fun q z hq=>?_⟩
  obtain ⟨a,b,y,rfl,hb,ha,hz⟩:=zEa hsz (fun y hy=>(h0' y hy).1) hq
  rw [Array.getElem?_setIfInBounds]
  have hfit:i*sz+sz<=l.length*sz:=by
   have:=Nat.mul_le_mul_right sz (show i+1<=l.length by omega)
   rw [Nat.add_mul] at this
   omega
  have hcap:l.length*sz<=cap*sz:=Nat.mul_le_mul_right _ h1
  by_cases hai:a=i
  ·subst hai
   rw [List.getElem?_set_self hil] at ha
   obtain rfl:=Option.some.inj ha
   by_cases hbj:b=j
   ·subst hbj
    rw [if_pos (by omega),if_pos (by omega)]
    rw [List.getElem?_set_self (by rw [hx.1];exact hb)] at hz
    exact hz
   ·rw [if_neg (by omega)]
    rw [List.getElem?_set_ne (by omega)] at hz
    exact h4 _ z (by rw [z3n (fun y hy=>(h0 y hy).1) hi hb];exact hz)
  ·rw [List.getElem?_set_ne (Ne.symm hai)] at ha
   have:off+i*sz+j≠off+(a*sz+b):=by
    intro h9
    rcases Nat.lt_or_gt_of_ne hai with h8 | h8
    ·have:=Nat.mul_le_mul_right sz (show a+1<=i by omega)
     rw [Nat.add_mul] at this
     omega
    ·have:=Nat.mul_le_mul_right sz (show i+1<=a by omega)
     rw [Nat.add_mul] at this
     omega
   rw [if_neg this]
   exact h4 _ z (by rw [z3n (fun y hy=>(h0 y hy).1) ha hb];exact hz)
end
end
section
section
variable {e:TypeId} {sz:Nat}
theorem RowC.shape3 {w:World} {v:Value} {l:List (List Value)} (h:RowC e sz w v l):∃A n c,v= .slice A n c:=by
 obtain ⟨A,c,h,_⟩:=h.shape
 exact ⟨A,_,c,h⟩
theorem RowC.below {w w':World} {v:Value} {l:List (List Value)} (h:RowC e sz w v l) (hb:Below w.heap.size w w'):RowC e sz w' v l:=h.keep fun b hv=>hb.block b (h.lt b hv)
theorem z60 {P:Program} {t:TypeId} (i:TypeInfo) (z:Value) (bytes:Nat) (ht:P.underlying t=some (.slice e)) (hi:P.info? e=some i) (hz:i.zero=some z) (h1:i.size=sz) (h2:i.bytes=bytes) (hzs:z.cells.size=sz) (hsz:0 < sz) (hb128:bytes<=1000) (ty:TypeId) {W:World} {v:Value} {l:List (List Value)} (h:RowC e sz W v l) (hl:l.length<=10000) (x:List Value) (hx:x.length=sz) (hx1:∀u∈x,u.oneCell'=true) (N c:Nat) (hN:W.heap[N]? =some (.cells x.toArray e (0,0))):
  ∃v' w',(Builtin.append_ #[t,t] ty #[v,.slice (some ⟨N,0,none⟩) 1 c]).run P W= .ok v' w'/\RowC e sz w' v' (l++[x])/\W.grownBy w' v.ownBlock/\(v'.ownBlock=v.ownBlock\/∃k,v'.ownBlock=some k/\W.heap.size<=k):=by
 have hnew:∀(j:Nat) (u:Value),x[j]? =some u->W.cell? ((⟨N,0,none⟩:Addr).add j)=some u:=by
  intro j u hj
  rw [Addr.add_lit]
  rw [cell_of_row _ N _ x.toArray _ (0,0) hN]
  simpa using hj
 have hall:∀y∈l++[x],y.length=sz/\∀u∈y,u.oneCell'=true:=by
  intro y hy
  rcases List.mem_append.1 hy with hy | hy
  ·exact h.1 y hy
  ·obtain rfl:y=x:=by simpa using hy
   exact ⟨hx,hx1⟩
 have hflat:(l++[x]).flatten=l.flatten++x:=by simp
 have hfl:l.flatten.length=l.length*sz:=z47 fun y hy=>(h.1 y hy).1
 rcases h.2 with ⟨rfl,rfl⟩ | ⟨g,off,cap,cur,rfl,hg,hlc,hcm,hoc,hcell⟩
 ·obtain ⟨v',w',r1,r2,r3,_,r5⟩:=run_append_own_at (P:=P) W W.heap.size t ty e i z sz bytes ht hi hz h1 h2 hzs hsz (.slice none 0 0) 0 [] (World.ownsRow_nil _ _ _ _) ⟨N,0,none⟩ 1 c x (by rw [hx];omega) hnew hx1 (by simp only [maxLen];omega) (by omega) (by simp)
  refine ⟨v',w',r1,⟨hall,?_⟩,r3,?_⟩
  ·rcases r2.2 with ⟨_,h0⟩ | ⟨g,cap,cur,hv,hb,hg,hnc,hcm,hcs,htk⟩
   ·omega
   ·refine .inr ⟨g,0,cap,cur,by simpa using hv,hg,by simpa using hnc,hcm,by omega,fun j y hy=>?_⟩
    rw [hflat] at hy
    have hy':x[j]? =some y:=by simpa using hy
    have hj:=(List.getElem?_eq_some_iff.1 hy').1
    have h3:(cur.toList.take ((0+1)*sz))[j]? =some y:=by rw [htk];simpa using hy'
    rw [List.getElem?_take,if_pos (by omega)] at h3
    simpa using h3
  ·rcases r5 with h | h
   ·exact .inl h
   ·exact .inr ⟨_,h,by simp⟩
 ·have hlt:=zM hg
  have hg1:=hg
  by_cases hroom:l.length+1<=cap
  ·have hfit:off+l.length*sz+sz<=cur.size:=by
    have:=Nat.mul_le_mul_right sz hroom
    rw [Nat.add_mul,Nat.one_mul] at this
    omega
   have hs:∀j,j < x.length->(W.cell? ⟨g,off+l.length*i.size+j,none⟩).isSome=true:=by
    intro j hj
    rw [h1,cell_of_row _ g _ cur _ (0,0) hg1,Array.getElem?_eq_getElem (by omega)]
    rfl
   have hf:∀j,j < x.length->W.frozen? ⟨g,off+l.length*i.size+j,none⟩=false:=fun j _=>(zD hg1).2 _
   have hr:=run_append_room_cells (P:=P) W t ty e i ht hi g off l.length cap ⟨N,0,none⟩ 1 c x (by rw [h1,hx];omega) hnew hx1 hroom hs hf
   rw [h1] at hr
   obtain ⟨cur',k1,_,k3,k4⟩:=z7o x _ (off+l.length*sz) cur hg1 (by omega)
   obtain ⟨o1,o2,o3,o4,o5⟩:=z10 g x W (off+l.length*sz)
   refine ⟨_,_,hr,⟨hall,.inr ⟨g,off,cap,cur',by simp,k1,by simpa using hroom,hcm,by omega,fun q y hy=>?_⟩⟩,?_,.inl rfl⟩
   ·rw [hflat] at hy
    by_cases hjl:q < l.length*sz
    ·rw [List.getElem?_append_left (by omega)] at hy
     rw [k4 _ (.inl (by omega))]
     exact hcell q y hy
    ·rw [List.getElem?_append_right (by omega),hfl] at hy
     have hq:=(List.getElem?_eq_some_iff.1 hy).1
     have:=k3 (q - l.length*sz) hq
     rw [show off+l.length*sz+(q - l.length*sz)=off+q by omega] at this
     rw [this]
     exact hy
   ·exact ⟨o1,o2,o3,by rw [o4];exact Nat.le_refl _,fun q _ hq=>o5 q fun e=>hq (by rw [e];rfl)⟩
  ·have hlc':l.length=cap:=by omega
   have holds:∀j u,l.flatten[j]? =some u->W.cell? ((⟨g,off,none⟩:Addr).add j)=some u:=by
    intro j u hj
    rw [Addr.add_lit,cell_of_row _ g _ cur _ (0,0) hg1]
    exact hcell j u hj
   have hr:=run_append_grow (P:=P) W t ty e i z ht hi hz ⟨g,off,none⟩ l.length cap l.flatten (by rw [h1];exact hfl) holds ⟨N,0,none⟩ 1 c x (by rw [h1,hx];omega) hnew (by omega) (by omega) (growslice_fits (by omega) (by rw [h2];have:=Nat.mul_le_mul (show l.length+1<=10001 by omega) hb128;omega))
   have hge:=grownCap_ge W (l.length+1) cap e
   refine ⟨_,_,hr,⟨hall,.inr ⟨_,0,grownCap W (l.length+1) cap e,_,by simp,heap_alloc_new _ _,by simpa using hge,grownCap_le_maxLen _ _ _ _ (by simp only [maxLen];omega),?_,fun j y hy=>?_⟩⟩,?_,.inr ⟨_,rfl,by simp⟩⟩
   ·simp only [Array.size_append,List.size_toArray,size_zeroCells,hzs,hfl,hx]
    rw [Nat.zero_add]
    generalize grownCap _ _ _ _=G at hge⊢
    obtain ⟨d,rfl⟩:∃d,G=l.length+1+d:=⟨G - (l.length+1),by omega⟩
    rw [Nat.add_sub_cancel_left,Nat.add_mul,Nat.add_mul,Nat.one_mul]
    exact Nat.le_refl _
   ·have hj1:=(List.getElem?_eq_some_iff.1 hy).1
    rw [hflat] at hy hj1
    rw [List.length_append] at hj1
    rw [Nat.zero_add,Array.getElem?_append_left (by simp only [Array.size_append,List.size_toArray];omega)]
    rw [show l.flatten.toArray++x.toArray=(l.flatten++x).toArray by simp]
    simpa using hy
   ·exact ⟨rfl,rfl,rfl,by simp,fun q hq _=>Below.heap_alloc _ _ q hq⟩
theorem zFu {P:Program} (W:World) (x:List Value) {ops:Array Oper} {rest:List Oper} {o:Oper} {a:Act} {Q:Exit->Act->World->Prop} (hgd:o.guard=none) (s xo:Operand) (t:TypeId)
  (ho:o.op= .call { callee:= .builtin .append,args:=#[s,xo],argTypes:=#[t,t] })
  (i:TypeInfo) (z:Value) (bytes:Nat) (ht:P.underlying t=some (.slice e)) (hi:P.info? e=some i) (hz:i.zero=some z) (h1:i.size=sz) (h2:i.bytes=bytes) (hzs:z.cells.size=sz) (hsz:0 < sz) (hb128:bytes<=1000)
  (v:Value) (l:List (List Value)) (hs:a.eval s=v) (N c:Nat) (hxo:a.eval xo= .slice (some ⟨N,0,none⟩) 1 c) (h:RowC e sz W v l) (hl:l.length<=10000) (hx:x.length=sz) (hx1:∀u∈x,u.oneCell'=true) (hN:W.heap[N]? =some (.cells x.toArray e (0,0)))
  (hK:∀v' w',RowC e sz w' v' (l++[x])->W.grownBy w' v.ownBlock->(v'.ownBlock=v.ownBlock\/∃k,v'.ownBlock=some k/\W.heap.size<=k)->wpList P ops Q rest (a.put o.dst v') w'):wpList P ops Q (o :: rest) a W:=by
 obtain ⟨v',w',r1,r2,r3,r4⟩:=z60 (P:=P) i z bytes ht hi hz h1 h2 hzs hsz hb128 o.type h hl x hx hx1 N c hN
 exact Lib.wpList_append_run _ hgd s xo t t ho _ _ hs hxo v' w' r1 (hK v' w' r2 r3 r4)
theorem ButB.row {w5 W w6:World} {row:Option Nat} (g:W.grownBy w6 row) (B:Below w5.heap.size w5 W):ButB (fun x=>row=some x) w5 w6:=
 ⟨g.os.trans B.os,g.tape.trans B.tape,g.output.trans B.output,Nat.le_trans B.size g.size,fun b hb hc=>(g.block b (Nat.lt_of_lt_of_le hb B.size) fun e=>hc e.symm).trans (B.block b hb)⟩
theorem z0c {P:Program} (w5 W:World) (x:List Value) {ops:Array Oper} {rest:List Oper} {o:Oper} {a:Act} {Q:Exit->Act->World->Prop} (hgd:o.guard=none) (s xo:Operand) (t:TypeId)
  (ho:o.op= .call { callee:= .builtin .append,args:=#[s,xo],argTypes:=#[t,t] })
  (i:TypeInfo) (z:Value) (bytes:Nat) (ht:P.underlying t=some (.slice e)) (hi:P.info? e=some i) (hz:i.zero=some z) (h1:i.size=sz) (h2:i.bytes=bytes) (hzs:z.cells.size=sz) (hsz:0 < sz) (hb128:bytes<=1000)
  (v:Value) (l:List (List Value)) (hs:a.eval s=v) (N c:Nat) (hxo:a.eval xo= .slice (some ⟨N,0,none⟩) 1 c) (h:RowC e sz w5 v l) (hB:Below w5.heap.size w5 W) (hl:l.length<=10000) (hx:x.length=sz) (hx1:∀u∈x,u.oneCell'=true) (hN:W.heap[N]? =some (.cells x.toArray e (0,0)))
  (hK:∀v' w',RowC e sz w' v' (l++[x])->ButB (fun z=>v.ownBlock=some z) w5 w'->(v'.ownBlock=v.ownBlock\/∃k,v'.ownBlock=some k/\w5.heap.size<=k)->wpList P ops Q rest (a.put o.dst v') w'):wpList P ops Q (o :: rest) a W:=by
 obtain ⟨v',w',r1,r2,r3,r4⟩:=z60 (P:=P) i z bytes ht hi hz h1 h2 hzs hsz hb128 o.type (h.below hB) hl x hx hx1 N c hN
 exact Lib.wpList_append_run _ hgd s xo t t ho _ _ hs hxo v' w' r1 (hK v' w' r2 (ButB.row r3 hB) (r4.imp id fun ⟨k,e,hk⟩=>⟨k,e,Nat.le_trans hB.size hk⟩))
theorem YZ {P:Program} (w5 W:World) (x:List Value) {ops:Array Oper} {o:Oper} {a:Act} {K:Act->World->Prop} {Q:Exit->Act->World->Prop} {E:Prop} (hgd:o.guard=none) (s xo:Operand) (t:TypeId)
  (ho:o.op= .call { callee:= .builtin .append,args:=#[s,xo],argTypes:=#[t,t] })
  (i:TypeInfo) (z:Value) (bytes:Nat) (ht:P.underlying t=some (.slice e)) (hi:P.info? e=some i) (hz:i.zero=some z) (h1:i.size=sz) (h2:i.bytes=bytes) (hzs:z.cells.size=sz) (hsz:0 < sz) (hb128:bytes<=1000)
  (v:Value) (l:List (List Value)) (hs:a.eval s=v) (N c:Nat) (hxo:a.eval xo= .slice (some ⟨N,0,none⟩) 1 c) (h:RowC e sz w5 v l) (hB:Below w5.heap.size w5 W) (hl:l.length<=10000) (hx:x.length=sz) (hx1:∀u∈x,u.oneCell'=true) (hN:W.heap[N]? =some (.cells x.toArray e (0,0)))
  (hK:∀v' w',RowC e sz w' v' (l++[x])->ButB (fun z=>v.ownBlock=some z) w5 w'->(v'.ownBlock=v.ownBlock\/∃k,v'.ownBlock=some k/\w5.heap.size<=k)->K (a.put o.dst v') w'):if Region.wanted o (yielded ops a.tmps)=true then Oper.wp P o a W K Q else E:=by
 have hw:Region.wanted o (yielded ops a.tmps)=true:=by simp [Region.wanted,hgd]
 rw [if_pos hw]
 obtain ⟨v',w',r1,r2,r3,r4⟩:=z60 (P:=P) i z bytes ht hi hz h1 h2 hzs hsz hb128 o.type (h.below hB) hl x hx hx1 N c hN
 exact Lib.wp_append_run W s xo t t ho _ _ hs hxo v' w' r1 (hK v' w' r2 (ButB.row r3 hB) (r4.imp id fun ⟨k,e,hk⟩=>⟨k,e,Nat.le_trans hB.size hk⟩))
end
end
section
def All2 {α β:Type} (p:α->β->Prop) (a:List α) (b:List β):Prop:=a.length=b.length/\∀(i:Nat) (x:α) (y:β),a[i]? =some x->b[i]? =some y->p x y
section
variable {α β:Type} {p q:α->β->Prop}
theorem All2.nil:All2 p [] []:=⟨rfl,fun i x y h=>by simp at h⟩
theorem All2.imp {a:List α} {b:List β} (h:All2 p a b) (k:∀x y,p x y->q x y):All2 q a b:=⟨h.1,fun i x y hx hy=>k x y (h.2 i x y hx hy)⟩
theorem All2.at {a:List α} {b:List β} (h:All2 p a b) {i:Nat} {y:β} (hy:b[i]? =some y):∃x,a[i]? =some x/\p x y:=by
 have hl:=(List.getElem?_eq_some_iff.1 hy).1
 have hx:a[i]? =some (a[i]'(by rw [h.1];exact hl)):=List.getElem?_eq_getElem _
 exact ⟨_,hx,h.2 i _ y hx hy⟩
theorem All2.snoc {a:List α} {b:List β} (h:All2 p a b) {x:α} {y:β} (k:p x y):All2 p (a++[x]) (b++[y]):=by
 refine ⟨by simp [h.1],fun i u v hu hv=>?_⟩
 rcases Nat.lt_trichotomy i a.length with hi | hi | hi
 ·rw [List.getElem?_append_left hi] at hu
  rw [List.getElem?_append_left (by rw [<-h.1];exact hi)] at hv
  exact h.2 i u v hu hv
 ·subst hi
  rw [List.getElem?_append_right (Nat.le_refl _),Nat.sub_self] at hu
  rw [List.getElem?_append_right (by rw [h.1];exact Nat.le_refl _),h.1,Nat.sub_self] at hv
  obtain rfl:=Option.some.inj hu
  obtain rfl:=Option.some.inj hv
  exact k
 ·rw [List.getElem?_eq_none (by simp;omega)] at hu
  cases hu
theorem All2.set {a:List α} {b:List β} (h:All2 p a b) (i:Nat) {x:α} {y:β} (k:p x y):All2 p (a.set i x) (b.set i y):=by
 refine ⟨by simp [h.1],fun j u v hu hv=>?_⟩
 rw [List.getElem?_set] at hu hv
 by_cases hij:i=j
 ·rw [if_pos hij] at hu hv
  split at hu
  ·split at hv
   ·obtain rfl:=Option.some.inj hu
    obtain rfl:=Option.some.inj hv
    exact k
   ·cases hv
  ·cases hu
 ·rw [if_neg hij] at hu hv
  exact h.2 j u v hu hv
end
inductive RK where
 | us | de | fo
 | ma (i:Nat) | ep (i:Nat) | it (i:Nat) | wr (i:Nat) | li (i:Nat)
 | ve (i j:Nat)
 deriving DecidableEq
def RK.ty:RK->TypeId
 | .us=>91
 | .de=>126
 | .fo=>74
 | .ma _=>84
 | .ep _=>130
 | .it _=>78
 | .wr _=>149
 | .li _=>151
 | .ve _ _=>80
def RK.sz:RK->Nat
 | .us=>2
 | .de=>2
 | .fo=>7
 | .ma _=>8
 | .ep _=>5
 | .it _=>2
 | .wr _=>3
 | .li _=>3
 | .ve _ _=>4
structure Row where
 v:Value
 cells:List (List Value)
abbrev RM:=RK->Row
def zK (R:RM) (k:RK) (r:Row):RM:=fun x=>if x=k then r else R x
theorem yN (R:RM) (k:RK) (r:Row):zK R k r k=r:=by unfold zK;rw [if_pos rfl]
theorem ZM (R:RM) {k x:RK} (r:Row) (h:x≠k):zK R k r x=R x:=by unfold zK;rw [if_neg h]
def yU (R:RM) (b:Nat):Prop:=∃k,(R k).v.ownBlock=some b
structure OS (base:Nat) (W:World) (R:RM):Prop where
 row:∀k,RowC k.ty k.sz W (R k).v (R k).cells
 inj:∀k k' b,(R k).v.ownBlock=some b->(R k').v.ownBlock=some b->k=k'
 low:∀k b,(R k).v.ownBlock=some b->base<=b
 len:∀k,(R k).cells.length<=10000
def Imm (X:Nat->Prop) (bw:Nat) (R:RM) (W:World):Nat->Prop:=fun b=>b < W.heap.size/\b≠bw/\¬yU R b/\¬X b
structure Mut (bw:Nat) (R:RM) (W:World) (R':RM) (W':World):Prop where
 but:ButB (fun b=>b=bw\/yU R b) W W'
 fresh:∀b,yU R' b->yU R b\/W.heap.size<=b
section
variable {bw base:Nat} {R R' R2:RM} {W W' W2:World}
theorem Mut.refl (bw:Nat) (R:RM) (W:World):Mut bw R W R W:=⟨ButB.refl _ _,fun _ h=> .inl h⟩
theorem Mut.below (h:Below W.heap.size W W'):Mut bw R W R W':=⟨ButB.of h,fun _ h=> .inl h⟩
theorem Mut.trans (h:Mut bw R W R' W') (k:Mut bw R' W' R2 W2):Mut bw R W R2 W2:=by
 refine ⟨⟨k.but.os.trans h.but.os,k.but.tape.trans h.but.tape,k.but.output.trans h.but.output,Nat.le_trans h.but.size k.but.size,fun b hb hn=>?_⟩,fun b hb=>?_⟩
 ·refine (k.but.block b (Nat.lt_of_lt_of_le hb h.but.size) fun e=>?_).trans (h.but.block b hb hn)
  rcases e with e | e
  ·exact hn (.inl e)
  ·rcases h.fresh b e with e | e
   ·exact hn (.inr e)
   ·omega
 ·rcases k.fresh b hb with e | e
  ·exact h.fresh b e
  ·exact .inr (Nat.le_trans h.but.size e)
theorem Mut.tail (h:Mut bw R W R' W') (k:ButB (fun x=>W.heap.size<=x) W' W2):Mut bw R W R' W2:=
 ⟨⟨k.os.trans h.but.os,k.tape.trans h.but.tape,k.output.trans h.but.output,Nat.le_trans h.but.size k.size,fun b hb hn=>(k.block b (Nat.lt_of_lt_of_le hb h.but.size) (by omega)).trans (h.but.block b hb hn)⟩,h.fresh⟩
theorem Mut.kept {X:Nat->Prop} (h:Mut bw R W R' W'):Kept (Imm X bw R W) (Imm X bw R' W') W W':=fun b hb hl=>by
 obtain ⟨h1,h2,h3,h4⟩:=hb
 refine ⟨⟨Nat.lt_of_lt_of_le h1 h.but.size,h2,fun e=>?_,h4⟩,h.but.block b h1 fun e=>e.elim h2 h3⟩
 rcases h.fresh b e with e | e
 ·exact h3 e
 ·omega
theorem OS.to (h:OS base W R) (hb:∀b,yU R b->W'.heap[b]? =W.heap[b]?):OS base W' R:=
 ⟨fun k=>(h.row k).keep fun b e=>hb b ⟨k,e⟩,h.inj,h.low,h.len⟩
theorem OS.below (h:OS base W R) (hb:Below W.heap.size W W'):OS base W' R:=
 h.to fun b ⟨k,e⟩=>hb.block b ((h.row k).lt b e)
theorem OS.lt (h:OS base W R) {b:Nat} (hb:yU R b):b < W.heap.size:=by
 obtain ⟨k,e⟩:=hb
 exact (h.row k).lt b e
theorem OS.put (h:OS base W R) (hbase:base<=W.heap.size) (k:RK) (r:Row) (hb:ButB (fun b=>(R k).v.ownBlock=some b) W W') (hr:RowC k.ty k.sz W' r.v r.cells) (hl:r.cells.length<=10000) (ho:∀b,r.v.ownBlock=some b->(R k).v.ownBlock=some b\/W.heap.size<=b):
  OS base W' (zK R k r)/\Mut bw R W (zK R k r) W':=by
 refine ⟨⟨fun x=>?_,fun x y b hx hy=>?_,fun x b hx=>?_,fun x=>?_⟩,⟨hb.mono fun b e=> .inr ⟨k,e⟩,fun b ⟨x,hx⟩=>?_⟩⟩
 ·by_cases hxk:x=k
  ·subst hxk
   rw [yN]
   exact hr
  ·rw [ZM R r hxk]
   refine (h.row x).keep fun b e=>hb.block b ((h.row x).lt b e) fun e2=>hxk (h.inj x k b e e2)
 ·by_cases hxk:x=k
  ·subst hxk
   rw [yN] at hx
   by_cases hyk:y=x
   ·exact hyk.symm
   ·rw [ZM R r hyk] at hy
    rcases ho b hx with e | e
    ·exact h.inj x y b e hy
    ·have:=(h.row y).lt b hy
     omega
  ·rw [ZM R r hxk] at hx
   by_cases hyk:y=k
   ·subst hyk
    rw [yN] at hy
    rcases ho b hy with e | e
    ·exact h.inj x y b hx e
    ·have:=(h.row x).lt b hx
     omega
   ·rw [ZM R r hyk] at hy
    exact h.inj x y b hx hy
 ·by_cases hxk:x=k
  ·subst hxk
   rw [yN] at hx
   rcases ho b hx with e | e
   ·exact h.low x b e
   ·omega
  ·rw [ZM R r hxk] at hx
   exact h.low x b hx
 ·by_cases hxk:x=k
  ·subst hxk
   rw [yN]
   exact hl
  ·rw [ZM R r hxk]
   exact h.len x
 ·by_cases hxk:x=k
  ·subst hxk
   rw [yN] at hx
   exact (ho b hx).imp (fun e=>⟨x,e⟩) id
  ·rw [ZM R r hxk] at hx
   exact .inl ⟨x,hx⟩
end
def hdr (R:RM) (i:Nat) (f:Folder):List Value:=[.string f.name,.int .i64 f.turn,(R (.ma i)).v,(R (.ep i)).v,(R (.it i)).v,(R (.wr i)).v,(R (.li i)).v]
structure IsFo (S:Nat->Prop) (W:World) (R:RM) (i:Nat) (f:Folder):Prop where
 name:f.name.size<=140737488355328
 turn:I64 f.turn
 man:All2 (ZQ S W) (R (.ma i)).cells f.manifests
 ep:All2 (Y5 S W) (R (.ep i)).cells f.epochs
 itl:(R (.it i)).cells.length=f.items.length
 it:∀j x,f.items[j]? =some x->(R (.it i)).cells[j]? =some [.string x.name,(R (.ve i j)).v]/\x.name.size<=140737488355328/\All2 (yC S W) (R (.ve i j)).cells x.versions
 wr:All2 (Y1 S W) (R (.wr i)).cells f.wraps
 li:All2 (YK S W) (R (.li i)).cells f.links
structure IsSt (S:Nat->Prop) (W:World) (R:RM) (st:State):Prop where
 turn:I64 st.turn
 users:All2 (YS S W) (R .us).cells st.users
 deps:All2 (YN S W) (R .de).cells st.deposits
 fol:(R .fo).cells.length=st.folders.length
 fo:∀i f,st.folders[i]? =some f->(R .fo).cells[i]? =some (hdr R i f)/\IsFo S W R i f
section
variable {S S':Nat->Prop} {R R':RM} {W W':World} {i:Nat} {f:Folder} {st:State}
theorem IsFo.keep (h:IsFo S W R i f) (k:Kept S S' W W'):IsFo S' W' R i f:=
 ⟨h.name,h.turn,h.man.imp fun _ _ h=>YC h k,h.ep.imp fun _ _ h=>z0x h k,h.itl,fun j x hx=>⟨(h.it j x hx).1,(h.it j x hx).2.1,(h.it j x hx).2.2.imp fun _ _ h=>YY h k⟩,
  h.wr.imp fun _ _ h=>z20 h k,h.li.imp fun _ _ h=>z40 h k⟩
theorem IsSt.keep (h:IsSt S W R st) (k:Kept S S' W W'):IsSt S' W' R st:=
 ⟨h.turn,h.users.imp fun _ _ h=>z1h h k,h.deps.imp fun _ _ h=>z1y h k,h.fol,fun i f hf=>⟨(h.fo i f hf).1,(h.fo i f hf).2.keep k⟩⟩
theorem z08 {α:Type} {e:TypeId} {sz:Nat} {Q:Rp α} (ok:RpOk sz Q) {v:Value} {cells:List (List Value)} {l:List α} (h:RowC e sz W v cells) (hl:cells.length<=10000) (k:All2 (Q S W) cells l):Sl sz Q (fun _=>True) W v l:=by
 obtain ⟨A,c,hv,_⟩:=h.shape
 have hcap:cells.length<=c/\c<=maxLen:=by
  rcases h.2 with ⟨hv2,h0⟩ | ⟨g,off,cap,cur,hv2,hg,h1,h2,_⟩
  ·rw [hv] at hv2
   simp only [Value.slice.injEq] at hv2
   subst h0
   exact ⟨by simp,by omega⟩
  ·rw [hv] at hv2
   simp only [Value.slice.injEq] at hv2
   omega
 refine ⟨A,c,by rw [<-k.1];exact hv,by rw [<-k.1];exact hcap.1,hcap.2,by rw [<-k.1];omega,fun i y hy=>?_⟩
 obtain ⟨x,hx,hp⟩:=k.at hy
 obtain ⟨g,off,cap,hv2,_,_,_,hc,_⟩:=h.at hx
 rw [hv] at hv2
 simp only [Value.slice.injEq] at hv2
 exact ⟨g,off,x,hv2.1,trivial,ok.len hp,fun j u hj=>by rw [<-Nat.add_assoc];exact hc j u hj,ok.keep hp (Kept.refl _ fun _ _=>trivial)⟩
theorem IsFo.folder {base:Nat} (o:OS base W R) (h:IsFo S W R i f):ZE (fun _=>True) W (hdr R i f) f:=by
 refine ⟨_,_,_,_,_,rfl,h.name,h.turn,z08 z14 (o.row (.ma i)) (o.len _) h.man,z08 z2m (o.row (.ep i)) (o.len _) h.ep,?_,z08 z21 (o.row (.wr i)) (o.len _) h.wr,z08 z23 (o.row (.li i)) (o.len _) h.li⟩
 refine z08 (S:=fun _=>True) z1z (o.row (.it i)) (o.len _) ⟨h.itl,fun j cs x hc hx=>?_⟩
 obtain ⟨h1,h2,h3⟩:=h.it j x hx
 rw [h1] at hc
 obtain rfl:=Option.some.inj hc
 exact ⟨_,rfl,h2,z08 z2g (o.row (.ve i j)) (o.len _) h3⟩
theorem IsSt.state {base:Nat} (o:OS base W R) (h:IsSt S W R st):yF (fun _=>True) W [.int .i64 st.turn,(R .us).v,(R .de).v,(R .fo).v] st:=by
 refine ⟨_,_,_,rfl,h.turn,z08 z1x (o.row .us) (o.len _) h.users,z08 z13 (o.row .de) (o.len _) h.deps,?_⟩
 refine z08 (S:=fun _=>True) z0b (o.row .fo) (o.len _) ⟨h.fol,fun j cs x hc hx=>?_⟩
 obtain ⟨h1,h2⟩:=h.fo j x hx
 rw [h1] at hc
 obtain rfl:=Option.some.inj hc
 exact h2.folder o
theorem IsSt.setF (h:IsSt S W R st) (hf:st.folders[i]? =some f) {f':Folder} (k:Kept S S' W W') (hus:R' .us=R .us) (hde:R' .de=R .de)
  (ho:∀i',i'≠i->R' (.ma i')=R (.ma i')/\R' (.ep i')=R (.ep i')/\R' (.it i')=R (.it i')/\R' (.wr i')=R (.wr i')/\R' (.li i')=R (.li i')/\∀j,R' (.ve i' j)=R (.ve i' j))
  (hfo:(R' .fo).cells=(R .fo).cells.set i (hdr R' i f')) (hF:IsFo S' W' R' i f'):IsSt S' W' R' { st with folders:=st.folders.set i f' }:=by
 have h':=h.keep k
 refine ⟨h.turn,by rw [hus];exact h'.users,by rw [hde];exact h'.deps,by rw [hfo];simp [h.fol],fun j g hg=>?_⟩
 rw [List.getElem?_set] at hg
 by_cases hij:i=j
 ·subst hij
  rw [if_pos rfl] at hg
  split at hg
  ·obtain rfl:=Option.some.inj hg
   refine ⟨?_,hF⟩
   rw [hfo,List.getElem?_set_self (by rw [h.fol];assumption)]
  ·cases hg
 ·rw [if_neg hij] at hg
  obtain ⟨g1,g2⟩:=h'.fo j g hg
  obtain ⟨a1,a2,a3,a4,a5,a6⟩:=ho j (fun e=>hij e.symm)
  refine ⟨?_,?_⟩
  ·rw [hfo,List.getElem?_set_ne hij,g1]
   unfold hdr
   rw [a1,a2,a3,a4,a5]
  ·exact ⟨g2.name,g2.turn,by rw [a1];exact g2.man,by rw [a2];exact g2.ep,by rw [a3];exact g2.itl,fun q x hx=>by rw [a3,a6 q];exact g2.it q x hx,by rw [a4];exact g2.wr,by rw [a5];exact g2.li⟩
end
end
end Go.Proofs.YtdggplhnfhcieaaGreatDoor
