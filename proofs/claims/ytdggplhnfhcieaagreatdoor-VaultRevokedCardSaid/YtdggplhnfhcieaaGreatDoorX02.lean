/- No condition. -/
import Derived.Deep.RegionHeld3
import Derived.Test.YtdggplhnfhcieaaGreatDoorX01
set_option linter.all false
set_option maxRecDepth 100000
section
namespace Go.Proofs.YtdggplhnfhcieaaGreatDoor
open Go Go.RowKit Go.Deep
theorem ButB.cellq {Y:Nat->Prop} {W W':World} (h:ButB Y W W') {b j:Nat} {v:Value} (hc:W.cell? ⟨b,j,none⟩=some v) (hn:¬Y b):W'.cell? ⟨b,j,none⟩=some v:=
 (World.cell?_of_block (a:=⟨b,j,none⟩) (h.block b (zF hc) hn)).trans hc
section
variable {P:Program} {ops:Array Oper} {Q:Exit->Act->World->Prop} {md:Region.Mode} {S:World->Prop} {n:Nat} {fr:List Nat}
def z0e (P:Program) (md:Region.Mode) (ops:Array Oper) (Q:Exit->Act->World->Prop) (S:World->Prop) (n:Nat) (fr:List Nat):Nat->Array Bool->Act->World->Prop
 | 0,listed,a,w=>Region.ready md ops listed=[]/\Q .normal a w
 | fuel+1,listed,a,w=>
  (Region.ready md ops listed=[]->Q .normal a w)/\
  ∀i∈Region.ready md ops listed,wpOp P ops Q i (fun a' w'=>((decide (i < n) && !fr.contains i)=true->S w')/\z0e P md ops Q S n fr fuel (listed.setIfInBounds i true) a' w') a w
theorem zEs:∀(fuel:Nat) (listed:Array Bool) (a:Act) (w:World),z0e P md ops Q S n fr fuel listed a w->wpAny P md ops Q fuel listed a w
 | 0,_,_,_,h=>h
 | fuel+1,_,_,_,h=>⟨h.1,fun i hi=>wpOp_mono (fun a' w' h'=>zEs fuel _ a' w' h'.2) (h.2 i hi)⟩
def Closed (md:Region.Mode) (ops:Array Oper) (listed:Array Bool):Prop:=∀m om,ops[m]? =some om->listed.getD m false=true->∀e∈om.after,Region.binds md e=true->listed.getD e.on false=true
def z8y (md:Region.Mode) (ops:Array Oper) (listed:Array Bool):Bool:=(List.range ops.size).all fun m=>!listed.getD m false || ((ops[m]?).map fun o=>o.after.all fun e=>!Region.binds md e || listed.getD e.on false).getD true
theorem zOw {listed:Array Bool} (h:z8y md ops listed=true):Closed md ops listed:=fun m om hm hl e he hb=>by
 unfold z8y at h;rw [List.all_eq_true] at h;have h2:=h m (List.mem_range.2 (Array.getElem?_eq_some_iff.1 hm).1);rw [hl,hm] at h2;simp only [Bool.not_true,Bool.false_or,Option.map_some,Option.getD_some] at h2;have h3:=Array.all_eq_true'.1 h2 e he;rw [hb] at h3;simpa using h3
theorem z9z {listed:Array Bool} {j m:Nat} (h:listed.getD m false=true):(listed.setIfInBounds j true).getD m false=true:=by
 by_cases e:j=m
 ·subst e;rcases Nat.lt_or_ge j listed.size with hl | hl
  ·simp [hl]
  rw [Array.getD_eq_getD_getElem?,Array.getElem?_eq_none hl] at h;cases h
 rw [getD_set_ne false e];exact h
theorem zFp {listed:Array Bool} {j m:Nat} (h:listed.getD m true=true):(listed.setIfInBounds j true).getD m true=true:=by
 by_cases e:j=m
 ·subst e;rcases Nat.lt_or_ge j listed.size with hl | hl
  ·simp [hl]
  simp [Array.getElem?_eq_none hl]
 rw [getD_set_ne true e];exact h
theorem Closed.set {listed:Array Bool} (h:Closed md ops listed) {j:Nat} (hj:j∈Region.ready md ops listed):Closed md ops (listed.setIfInBounds j true):=fun m om hm hl e he hb=>by
 obtain ⟨_,_,hoj,hall⟩:=mem_ready.1 hj;by_cases hmj:j=m
 ·subst hmj;rw [hoj] at hm;obtain rfl:=zsi hm;exact z9z (hall e he hb)
 ·rw [getD_set_ne false hmj] at hl;exact z9z (h m om hm hl e he hb)
def zS4 (md:Region.Mode) (ops:Array Oper) (k m:Nat):Bool:=((ops[k]?).map fun o=>o.after.any fun e=>Region.binds md e && decide (e.on=m)).getD false
def zMq (md:Region.Mode) (ops:Array Oper):Nat->List Nat->List Nat
 | 0,acc=>acc
 | m+1,acc=>zMq md ops m (if acc.any (fun k=>zS4 md ops k m) then m :: acc else acc)
theorem zL8 {listed:Array Bool} (hc:Closed md ops listed) {n:Nat} (hn:∀on,ops[n]? =some on->∀e∈on.after,Region.binds md e=true->listed.getD e.on false=true):∀(m:Nat) (acc:List Nat),(∀x∈acc,x=n\/listed.getD x false=true)->∀x∈zMq md ops m acc,x=n\/listed.getD x false=true
 | 0,acc,h=>h
 | m+1,acc,h=>by
  unfold zMq;refine zL8 hc hn m _ ?_;split
  ·rename_i hk;intro x hx;rcases List.mem_cons.1 hx with rfl | hx
   ·right;obtain ⟨k,hk1,hk2⟩:=List.any_eq_true.1 hk;unfold zS4 at hk2
    cases ho:ops[k]? with
    | none=>rw [ho] at hk2;cases hk2
    | some o=>
     rw [ho] at hk2;simp only [Option.map_some,Option.getD_some] at hk2;obtain ⟨e,he,h3⟩:=Array.any_eq_true'.1 hk2;simp only [qBqx,decide_eq_true_eq] at h3;rw [<-h3.2];rcases h k hk1 with rfl | hl
     ·exact hn o ho e he h3.1
     ·exact hc k o ho hl e he h3.1
   ·exact h x hx
  ·exact h
def zAm (md:Region.Mode) (ops:Array Oper) (n i:Nat):Bool:=decide (i < n) && (zMq md ops n [n]).contains i && (List.range ops.size).all fun j=>decide (j<=n) || ((ops[j]?).map fun o=>o.after.any fun e=>Region.binds md e && (decide (n<=e.on) && decide (e.on < j))).getD true
theorem zR5 {i:Nat} (h:zAm md ops n i=true):i < n/\∀listed,Closed md ops listed->∀(j:Nat) (oj:Oper),ops[j]? =some oj->n<=j->(∀e∈oj.after,Region.binds md e=true->listed.getD e.on false=true)->listed.getD i false=true:=by
 unfold zAm at h;simp only [qBqx,decide_eq_true_eq,List.all_eq_true,List.mem_range,Bool.or_eq_true,List.contains_iff_mem] at h;obtain ⟨⟨h1,h2⟩,h3⟩:=h;refine ⟨h1,fun listed hc j=>?_⟩
 induction j using Nat.strongRecOn with
 | ind j ih=>
  intro oj hj hn hall;rcases h3 j (Array.getElem?_eq_some_iff.1 hj).1 with hle | h4
  ·obtain rfl:j=n:=by omega
   rcases zL8 hc (fun on ho=>by rw [hj] at ho;obtain rfl:=zsi ho;exact hall) j [j] (fun x hx=> .inl (zml hx)) i h2 with e | e
   ·omega
   exact e
  rw [hj] at h4;simp only [Option.map_some,Option.getD_some] at h4;obtain ⟨e,he,h5⟩:=Array.any_eq_true'.1 h4;simp only [qBqx,decide_eq_true_eq] at h5;have hl:=hall e he h5.1
  cases ho:ops[e.on]? with
  | none=>
   have hs:ops.size<=e.on:=Array.getElem?_eq_none_iff.1 ho;have:=(Array.getElem?_eq_some_iff.1 hj).1
   omega
  | some o'=>exact ih e.on h5.2.2 o' ho h5.2.1 (hc e.on o' ho hl)
theorem zIs {i:Nat} {oi:Oper} {v:Value} (hin:i < n) (hw:∀listed,Closed md ops listed->∀(j:Nat) (oj:Oper),ops[j]? =some oj->n<=j->(∀e∈oj.after,Region.binds md e=true->listed.getD e.on false=true)->listed.getD i false=true) (hi:ops[i]? =some oi) (hsel:∀(j:Nat) (o:Oper) cs b,ops[j]? =some o->o.op≠ .select cs b)
  (hQ:∀c a w,Q (.panic c) (a.put oi.dst v) w->Q (.panic c) a w):
  ∀(fuel:Nat) (listed:Array Bool) (a:Act) (w:World),Closed md ops listed->(∀m∈fr,listed.getD m true=true)->
   (∀j oj,ops[j]? =some oj->j≠i->listed.getD j true=false->(∀e∈oj.after,Region.binds md e=true->e.on≠i)->oi.apart ops oj=true)->
   i∈Region.ready md ops listed->YieldsIf P ops S oi v a->S w->
   z0e P md ops Q S n fr fuel (listed.setIfInBounds i true) (a.put oi.dst v) w->z0e P md ops Q S n fr (fuel+1) listed a w:=by
 intro fuel
 induction fuel with
 | zero=>
  intro listed a w _ _ _ hr hy hS H;refine ⟨fun h=>(by rw [h] at hr;cases hr),fun j hj=>?_⟩;by_cases hji:j=i
  ·subst hji;exact hy.wpOp hi hS ⟨fun _=>hS,H⟩
  have:=ready_mono hj hji;rw [H.1] at this
  cases this
 | succ fuel ih=>
  intro listed a w hcl hfr hfree hr hy hS H;refine ⟨fun h=>(by rw [h] at hr;cases hr),fun j hj=>?_⟩;by_cases hji:j=i
  ·subst hji;exact hy.wpOp hi hS ⟨fun _=>hS,H⟩
  have h1:=H.2 j (ready_mono hj hji);obtain ⟨hjun,oj,hoj,hall⟩:=mem_ready.1 hj;have hnot:∀e∈oj.after,Region.binds md e=true->e.on≠i:=fun e he hb heq=>by
   have h1:=hall e he hb;have h0:=(mem_ready.1 hr).1;rw [heq] at h1;rcases Nat.lt_or_ge i listed.size with h' | h'
   ·simp [h'] at h0 h1;rw [h0] at h1;cases h1
   ·simp [Array.getElem?_eq_none h'] at h1
  have hjn:j < n:=Nat.lt_of_not_le fun hle=>by
   have hl:=hw listed hcl j oj hoj hle hall;have h0:=(mem_ready.1 hr).1;rcases Nat.lt_or_ge i listed.size with h' | h'
   ·simp [h'] at h0 hl;rw [h0] at hl;cases hl
   ·simp [Array.getElem?_eq_none h'] at hl
  have hjf:(decide (j < n) && !fr.contains j)=true:=by
   simp only [qBqx,decide_eq_true_eq,Bool.not_eq_true',List.contains_eq_mem,decide_eq_false_iff_not];refine ⟨hjn,fun hm=>?_⟩;rw [hfr j hm] at hjun;cases hjun
  have h2:=wpOp_putIf hoj (hfree j oj hoj hji hjun hnot) (fun cs b=>hsel i oi cs b hi) (fun cs b=>hsel j oj cs b hoj) hQ hy h1;have hfree':∀k ok,ops[k]? =some ok->k≠i->(listed.setIfInBounds j true).getD k true=false->
    (∀e∈ok.after,Region.binds md e=true->e.on≠i)->oi.apart ops ok=true:=fun k ok hk hki hun hno=>by
   refine hfree k ok hk hki ?_ hno;by_cases hjk:j=k
   ·subst hjk;exact hjun
   ·rw [getD_set_ne true hjk] at hun;exact hun
  refine wpOp_mono (fun a' w' h3=>⟨fun _=>h3.2.1 hjf,ih (listed.setIfInBounds j true) a' w' (hcl.set hj) (fun m hm=>zFp (hfr m hm)) hfree' (ready_mono hr (Ne.symm hji)) h3.1 (h3.2.1 hjf) ?_⟩) h2;rw [Array.setIfInBounds_comm _ _ hji];exact h3.2.2
theorem zK9 {i:Nat} {oi:Oper} {v:Value} {fuel:Nat} {listed:Array Bool} {a:Act} {w:World} (hi:ops[i]? =some oi)
  (hs:(zAm md ops n i && z8y md ops listed && fr.all (fun m=>listed.getD m true) && Region.noSelect ops && Region.free md ops listed i && (Region.ready md ops listed).contains i)=true)
  (hQ:∀c a w,Q (.panic c) (a.put oi.dst v) w->Q (.panic c) a w) (hy:YieldsIf P ops S oi v a) (hS:S w)
  (h:z0e P md ops Q S n fr fuel (listed.setIfInBounds i true) (a.put oi.dst v) w):z0e P md ops Q S n fr (fuel+1) listed a w:=by
 simp only [qBqx] at hs;obtain ⟨⟨⟨⟨⟨h1,h0⟩,h00⟩,h2⟩,h3⟩,h4⟩:=hs;obtain ⟨k1,k2⟩:=zR5 h1;exact zIs k1 k2 hi (Region.noSelect_spec h2) hQ fuel listed a w (zOw h0) (fun m hm=>List.all_eq_true.1 h00 m hm) (Region.free_spec hi h3) (by simpa using h4) hy hS h
theorem zIt {i:Nat} {oi:Oper} {v:Value} (hif:fr.contains i=true) (hi:ops[i]? =some oi) (hsel:∀(j:Nat) (o:Oper) cs b,ops[j]? =some o->o.op≠ .select cs b)
  (hQ:∀c a w,Q (.panic c) (a.put oi.dst v) w->Q (.panic c) a w):
  ∀(fuel:Nat) (listed:Array Bool) (a:Act) (w:World),
   (∀j oj,ops[j]? =some oj->j≠i->listed.getD j true=false->(∀e∈oj.after,Region.binds md e=true->e.on≠i)->oi.apart ops oj=true)->
   i∈Region.ready md ops listed->YieldsIf P ops (fun _=>True) oi v a->
   z0e P md ops Q S n fr fuel (listed.setIfInBounds i true) (a.put oi.dst v) w->z0e P md ops Q S n fr (fuel+1) listed a w:=by
 have hno:∀{w:World},(decide (i < n) && !fr.contains i)=true->S w:=fun h=>by rw [hif] at h;simp at h
 intro fuel
 induction fuel with
 | zero=>
  intro listed a w _ hr hy H;refine ⟨fun h=>(by rw [h] at hr;cases hr),fun j hj=>?_⟩;by_cases hji:j=i
  ·subst hji;exact hy.wpOp hi trivial ⟨hno,H⟩
  have:=ready_mono hj hji;rw [H.1] at this
  cases this
 | succ fuel ih=>
  intro listed a w hfree hr hy H;refine ⟨fun h=>(by rw [h] at hr;cases hr),fun j hj=>?_⟩;by_cases hji:j=i
  ·subst hji;exact hy.wpOp hi trivial ⟨hno,H⟩
  have h1:=H.2 j (ready_mono hj hji);obtain ⟨hjun,oj,hoj,hall⟩:=mem_ready.1 hj;have hnot:∀e∈oj.after,Region.binds md e=true->e.on≠i:=fun e he hb heq=>by
   have h1:=hall e he hb;have h0:=(mem_ready.1 hr).1;rw [heq] at h1;rcases Nat.lt_or_ge i listed.size with h' | h'
   ·simp [h'] at h0 h1;rw [h0] at h1;cases h1
   ·simp [Array.getElem?_eq_none h'] at h1
  have h2:=wpOp_putIf hoj (hfree j oj hoj hji hjun hnot) (fun cs b=>hsel i oi cs b hi) (fun cs b=>hsel j oj cs b hoj) hQ hy h1;have hfree':∀k ok,ops[k]? =some ok->k≠i->(listed.setIfInBounds j true).getD k true=false->
    (∀e∈ok.after,Region.binds md e=true->e.on≠i)->oi.apart ops ok=true:=fun k ok hk hki hun hno=>by
   refine hfree k ok hk hki ?_ hno;by_cases hjk:j=k
   ·subst hjk;exact hjun
   ·rw [getD_set_ne true hjk] at hun;exact hun
  refine wpOp_mono (fun a' w' h3=>⟨h3.2.1,ih (listed.setIfInBounds j true) a' w' hfree' (ready_mono hr (Ne.symm hji)) h3.1 ?_⟩) h2;rw [Array.setIfInBounds_comm _ _ hji];exact h3.2.2
theorem z8l {i:Nat} {oi:Oper} {v:Value} {fuel:Nat} {listed:Array Bool} {a:Act} {w:World} (hi:ops[i]? =some oi)
  (hs:(fr.contains i && Region.noSelect ops && Region.free md ops listed i && (Region.ready md ops listed).contains i)=true)
  (hQ:∀c a w,Q (.panic c) (a.put oi.dst v) w->Q (.panic c) a w) (hy:YieldsIf P ops (fun _=>True) oi v a)
  (h:z0e P md ops Q S n fr fuel (listed.setIfInBounds i true) (a.put oi.dst v) w):z0e P md ops Q S n fr (fuel+1) listed a w:=by
 simp only [qBqx] at hs;obtain ⟨⟨⟨h1,h2⟩,h3⟩,h4⟩:=hs;exact zIt h1 hi (Region.noSelect_spec h2) hQ fuel listed a w (Region.free_spec hi h3) (by simpa using h4) hy h
theorem yK {i:Nat} {o:Oper} {fuel:Nat} {listed:Array Bool} {a:Act} {w:World} (hr:Region.ready md ops listed=[i]) (ho:ops[i]? =some o)
  (h:∀K':Act->World->Prop,Shut (∀a w,S w->(S w->z0e P md ops Q S n fr fuel (listed.setIfInBounds i true) a w)->K' a w)->if Region.wanted o (yielded ops a.tmps)=true then Oper.wp P o a w K' Q else K' (a.put o.dst undef) w):
  z0e P md ops Q S n fr (fuel+1) listed a w:=by
 refine ⟨fun h0=>(by rw [hr] at h0;cases h0),fun j hj=>?_⟩;rw [hr] at hj;obtain rfl:j=i:=by simpa using hj
 exact wpOp_step ho (fun K' hK=>h K' (fun a w hS hW=>hK a w ⟨fun _=>hS,hW hS⟩))
theorem Z4 {i:Nat} {o:Oper} {fuel:Nat} {listed:Array Bool} {a:Act} {w:World} (hr:(decide (n<=i) && decide (Region.ready md ops listed=[i]))=true) (ho:ops[i]? =some o)
  (h:∀K':Act->World->Prop,Shut (∀a w,z0e P md ops Q S n fr fuel (listed.setIfInBounds i true) a w->K' a w)->if Region.wanted o (yielded ops a.tmps)=true then Oper.wp P o a w K' Q else K' (a.put o.dst undef) w):
  z0e P md ops Q S n fr (fuel+1) listed a w:=by
 simp only [qBqx,decide_eq_true_eq] at hr;obtain ⟨_,hr⟩:=hr;refine ⟨fun h0=>(by rw [hr] at h0;cases h0),fun j hj=>?_⟩;rw [hr] at hj;obtain rfl:j=i:=by simpa using hj
 exact wpOp_step ho (fun K' hK=>h K' (fun a w hW=>hK a w ⟨fun hlt=>by simp only [qBqx,decide_eq_true_eq] at hlt;omega,hW⟩))
theorem z0f {listed:Array Bool} {a:Act} {w:World} (hr:Region.ready md ops listed=[]) (h:Q .normal a w):
  ∀fuel,z0e P md ops Q S n fr fuel listed a w
 | 0=>⟨hr,h⟩
 | _+1=>⟨fun _=>h,by rw [hr];simp⟩
theorem yT {id:Nat} {a:Act} {w:World} (n:Nat) (fr:List Nat) (hm:P.follows .mixedOrders=true) (hS:S w.drew)
  (h:S w.drew->z0e P .any ops Q S n fr ops.size (Array.replicate ops.size false) a w.drew):(Code.region id ops true).wp P Q a w:=
 wp_region_any hm (zEs _ _ _ _ (h hS))
end
end Go.Proofs.YtdggplhnfhcieaaGreatDoor
end
section
namespace Go.Proofs.YtdggplhnfhcieaaGreatDoor
open Go.RowKit Go.Deep
theorem zU {P:Program} {md:Region.Mode} {l:List Oper} {Q:Exit->Act->World->Prop} {S:World->Prop} {n:Nat} {fr:List Nat} {oi:Oper} {fuel:Nat} {listed:Array Bool} {a:Act} {w:World} (i:Nat) {v:Value} (hS:S w) (h:z0e P md l.toArray Q S n fr fuel (listed.setIfInBounds i true) (a.put oi.dst v) w) (hi:l[i]? =some oi:=by exact rfl) (hs:(zAm md l.toArray n i && z8y md l.toArray listed && fr.all (fun m=>listed.getD m true) && Region.noSelect l.toArray && Region.free md l.toArray listed i && (Region.ready md l.toArray listed).contains i)=true:=by kernel_rfl) (hw:Region.wanted oi (yielded l.toArray a.tmps)=true:=by exact rfl) (hQ:∀c a w,Q (.panic c) (a.put oi.dst v) w->Q (.panic c) a w:=by exact fun _ _ _ h=>h) (hy:∀w,S w->(execOp a.eval oi).run P w= .ok (.value v) w:=by intro W' h;go_simp;try with_reducible rfl) :z0e P md l.toArray Q S n fr (fuel+1) listed a w:=zK9 (zG hi) hs hQ (.inl ⟨hw,hy⟩) hS h
def zjU (i:Nat) (P:Program) (md:Region.Mode) (ops:Array Oper) (Q:Exit->Act->World->Prop) (S:World->Prop) (n:Nat) (fr:List Nat) (fuel:Nat) (listed:Array Bool) (a:Act) (w:World):Prop:=z0e P md ops Q S n fr fuel listed a w
section
variable {P:Program} {md:Region.Mode} {ops:Array Oper} {Q:Exit->Act->World->Prop} {S:World->Prop} {n:Nat} {fr:List Nat} {fuel:Nat} {listed:Array Bool} {a:Act} {w:World}
theorem ziU (i:Nat) (h:zjU i P md ops Q S n fr fuel listed a w):z0e P md ops Q S n fr fuel listed a w:=h
theorem zoU {i:Nat} (h:z0e P md ops Q S n fr fuel listed a w):zjU i P md ops Q S n fr fuel listed a w:=h
theorem ztU {l:List Oper} {oi:Oper} {i:Nat} {v:Value} (hS:S w) (h:zjU (i+1) P md l.toArray Q S n fr fuel (listed.setIfInBounds i true) (a.put oi.dst v) w) (hi:l[i]? =some oi:=by exact rfl) (hs:(zAm md l.toArray n i && z8y md l.toArray listed && fr.all (fun m=>listed.getD m true) && Region.noSelect l.toArray && Region.free md l.toArray listed i && (Region.ready md l.toArray listed).contains i)=true:=by kernel_rfl) (hw:Region.wanted oi (yielded l.toArray a.tmps)=true:=by exact rfl) (hQ:∀c a w,Q (.panic c) (a.put oi.dst v) w->Q (.panic c) a w:=by exact fun _ _ _ h=>h) (hy:∀w,S w->(execOp a.eval oi).run P w= .ok (.value v) w:=by intro W' h;go_simp;try with_reducible rfl):zjU i P md l.toArray Q S n fr (fuel+1) listed a w:=zU i hS h hi hs hw hQ hy
end
end Go.Proofs.YtdggplhnfhcieaaGreatDoor
end
namespace Go.Proofs.YtdggplhnfhcieaaGreatDoor
section
open Go.RowKit Go.Deep
section
variable {e:TypeId} {sz:Nat}
theorem RowC.shape3 {w:World} {v:Value} {l:List (List Value)} (h:RowC e sz w v l):∃A n c,v= .slice A n c:=by
 obtain ⟨A,c,h,_⟩:=h.shape;exact ⟨A,_,c,h⟩
theorem RowC.below {w w':World} {v:Value} {l:List (List Value)} (h:RowC e sz w v l) (hb:Below w.heap.size w w'):RowC e sz w' v l:=h.keep fun b hv=>hb.block b (h.lt b hv)
theorem z8f {P:Program} {t:TypeId} (i:TypeInfo) (z:Value) (bytes:Nat) (ht:P.underlying t=some (.slice e)) (hi:P.info? e=some i) (hz:i.zero=some z) (h1:i.size=sz) (h2:i.bytes=bytes) (hzs:z.cells.size=sz) (hsz:0 < sz) (hb128:bytes<=1000) (ty:TypeId) {W:World} {v:Value} {l:List (List Value)} (h:RowC e sz W v l) (hl:l.length<=10000) (x:List Value) (hx:x.length=sz) (hx1:∀u∈x,u.oneCell'=true) (N c:Nat) (hN:W.heap[N]? =some (.cells x.toArray e (0,0))):
  ∃v' w',(Builtin.append_ #[t,t] ty #[v,.slice (some ⟨N,0,none⟩) 1 c]).run P W= .ok v' w'/\RowC e sz w' v' (l++[x])/\W.grownBy w' v.ownBlock/\(v'.ownBlock=v.ownBlock\/∃k,v'.ownBlock=some k/\W.heap.size<=k):=by
 have hnew:∀(j:Nat) (u:Value),x[j]? =some u->W.cell? ((⟨N,0,none⟩:Addr).add j)=some u:=by
  intro j u hj;rw [Addr.add_lit];rw [cell_of_row _ N _ x.toArray _ (0,0) hN];simpa using hj
 have hall:∀y∈l++[x],y.length=sz/\∀u∈y,u.oneCell'=true:=by
  intro y hy;rcases zmb hy with hy | hy
  ·exact h.1 y hy
  ·obtain rfl:y=x:=by simpa using hy
   exact ⟨hx,hx1⟩
 have hflat:(l++[x]).flatten=l.flatten++x:=by simp
 have hfl:l.flatten.length=l.length*sz:=z5b fun y hy=>(h.1 y hy).1
 rcases h.2 with ⟨rfl,rfl⟩ | ⟨g,off,cap,cur,rfl,hg,hlc,hcm,hoc,hcell⟩
 ·obtain ⟨v',w',r1,r2,r3,_,r5⟩:=run_append_own_at (P:=P) W W.heap.size t ty e i z sz bytes ht hi hz h1 h2 hzs hsz (.slice none 0 0) 0 [] (World.ownsRow_nil _ _ _ _) ⟨N,0,none⟩ 1 c x (by rw [hx];omega) hnew hx1 (by simp only [maxLen];omega) (by omega) (by simp);refine ⟨v',w',r1,⟨hall,?_⟩,r3,?_⟩
  ·rcases r2.2 with ⟨_,h0⟩ | ⟨g,cap,cur,hv,hb,hg,hnc,hcm,hcs,htk⟩
   ·omega
   refine .inr ⟨g,0,cap,cur,by simpa using hv,hg,by simpa using hnc,hcm,by omega,fun j y hy=>?_⟩;rw [hflat] at hy;have hy':x[j]? =some y:=by simpa using hy
   have hj:=(zge hy').1;have h3:(cur.toList.take ((0+1)*sz))[j]? =some y:=by rw [htk];simpa using hy'
   rw [List.getElem?_take,if_pos (by omega)] at h3;simpa using h3
  rcases r5 with h | h
  ·exact .inl h
  exact .inr ⟨_,h,by simp⟩
 have hlt:=zO hg;have hg1:=hg;by_cases hroom:l.length+1<=cap
 rotate_left
 ·have hlc':l.length=cap:=by omega
  have holds:∀j u,l.flatten[j]? =some u->W.cell? ((⟨g,off,none⟩:Addr).add j)=some u:=by
   intro j u hj;rw [Addr.add_lit,cell_of_row _ g _ cur _ (0,0) hg1];exact hcell j u hj
  have hr:=run_append_grow (P:=P) W t ty e i z ht hi hz ⟨g,off,none⟩ l.length cap l.flatten (by rw [h1];exact hfl) holds ⟨N,0,none⟩ 1 c x (by rw [h1,hx];omega) hnew (by omega) (by omega) (growslice_fits (by omega) (by rw [h2];have:=Nat.mul_le_mul (show l.length+1<=10001 by omega) hb128;omega));have hge:=grownCap_ge W (l.length+1) cap e;refine ⟨_,_,hr,⟨hall,.inr ⟨_,0,grownCap W (l.length+1) cap e,_,by simp,heap_alloc_new _ _,by simpa using hge,grownCap_le_maxLen _ _ _ _ (by simp only [maxLen];omega),?_,fun j y hy=>?_⟩⟩,?_,.inr ⟨_,rfl,by simp⟩⟩
  ·simp only [Array.size_append,List.size_toArray,size_zeroCells,hzs,hfl,hx];rw [Nat.zero_add];generalize grownCap _ _ _ _=G at hge⊢;obtain ⟨d,rfl⟩:∃d,G=l.length+1+d:=⟨G - (l.length+1),by omega⟩;rw [Nat.add_sub_cancel_left,Nat.add_mul,Nat.add_mul,Nat.one_mul];exact znl _
  ·have hj1:=(zge hy).1;rw [hflat] at hy hj1;rw [qLax] at hj1;rw [Nat.zero_add,Array.getElem?_append_left (by simp only [Array.size_append,List.size_toArray];omega)];rw [show l.flatten.toArray++x.toArray=(l.flatten++x).toArray by simp];simpa using hy
  exact ⟨rfl,rfl,rfl,by simp,fun q hq _=>Below.heap_alloc _ _ q hq⟩
 have hfit:off+l.length*sz+sz<=cur.size:=by
  have:=Nat.mul_le_mul_right sz hroom;rw [Nat.add_mul,Nat.one_mul] at this;omega
 have hs:∀j,j < x.length->(W.cell? ⟨g,off+l.length*i.size+j,none⟩).isSome=true:=by
  intro j hj;rw [h1,cell_of_row _ g _ cur _ (0,0) hg1,Array.getElem?_eq_getElem (by omega)];rfl
 have hf:∀j,j < x.length->W.frozen? ⟨g,off+l.length*i.size+j,none⟩=false:=fun j _=>(zD hg1).2 _
 have hr:=run_append_room_cells (P:=P) W t ty e i ht hi g off l.length cap ⟨N,0,none⟩ 1 c x (by rw [h1,hx];omega) hnew hx1 hroom hs hf;rw [h1] at hr;obtain ⟨cur',k1,_,k3,k4⟩:=z7h x _ (off+l.length*sz) cur hg1 (by omega);obtain ⟨o1,o2,o3,o4,o5⟩:=z1b g x W (off+l.length*sz);refine ⟨_,_,hr,⟨hall,.inr ⟨g,off,cap,cur',by simp,k1,by simpa using hroom,hcm,by omega,fun q y hy=>?_⟩⟩,?_,.inl rfl⟩
 ·rw [hflat] at hy;by_cases hjl:q < l.length*sz
  ·rw [qLlx (by omega)] at hy;rw [k4 _ (.inl (by omega))];exact hcell q y hy
  rw [qLrx (by omega),hfl] at hy;have hq:=(zge hy).1;have:=k3 (q - l.length*sz) hq;rw [show off+l.length*sz+(q - l.length*sz)=off+q by omega] at this;rw [this];exact hy
 exact ⟨o1,o2,o3,by rw [o4];exact znl _,fun q _ hq=>o5 q fun e=>hq (by rw [e];rfl)⟩
theorem zJj {P:Program} (W:World) (x:List Value) {ops:Array Oper} {rest:List Oper} {o:Oper} {a:Act} {Q:Exit->Act->World->Prop} (hgd:o.guard=none) (s xo:Operand) (t:TypeId)
  (ho:o.op= .call { callee:= .builtin .append,args:=#[s,xo],argTypes:=#[t,t] })
  (i:TypeInfo) (z:Value) (bytes:Nat) (ht:P.underlying t=some (.slice e)) (hi:P.info? e=some i) (hz:i.zero=some z) (h1:i.size=sz) (h2:i.bytes=bytes) (hzs:z.cells.size=sz) (hsz:0 < sz) (hb128:bytes<=1000)
  (v:Value) (l:List (List Value)) (hs:a.eval s=v) (N c:Nat) (hxo:a.eval xo= .slice (some ⟨N,0,none⟩) 1 c) (h:RowC e sz W v l) (hl:l.length<=10000) (hx:x.length=sz) (hx1:∀u∈x,u.oneCell'=true) (hN:W.heap[N]? =some (.cells x.toArray e (0,0)))
  (hK:∀v' w',RowC e sz w' v' (l++[x])->W.grownBy w' v.ownBlock->(v'.ownBlock=v.ownBlock\/∃k,v'.ownBlock=some k/\W.heap.size<=k)->wpList P ops Q rest (a.put o.dst v') w'):wpList P ops Q (o :: rest) a W:=by
 obtain ⟨v',w',r1,r2,r3,r4⟩:=z8f (P:=P) i z bytes ht hi hz h1 h2 hzs hsz hb128 o.type h hl x hx hx1 N c hN;exact Lib.wpList_append_run _ hgd s xo t t ho _ _ hs hxo v' w' r1 (hK v' w' r2 r3 r4)
theorem ButB.row {w5 W w6:World} {row:Option Nat} (g:W.grownBy w6 row) (B:Below w5.heap.size w5 W):ButB (fun x=>row=some x) w5 w6:=
 ⟨g.os.trans B.os,g.tape.trans B.tape,g.output.trans B.output,qNtx B.size g.size,fun b hb hc=>(g.block b (zll hb B.size) fun e=>hc e.symm).trans (B.block b hb)⟩
theorem z1j {P:Program} (w5 W:World) (x:List Value) {ops:Array Oper} {rest:List Oper} {o:Oper} {a:Act} {Q:Exit->Act->World->Prop} (hgd:o.guard=none) (s xo:Operand) (t:TypeId)
  (ho:o.op= .call { callee:= .builtin .append,args:=#[s,xo],argTypes:=#[t,t] })
  (i:TypeInfo) (z:Value) (bytes:Nat) (ht:P.underlying t=some (.slice e)) (hi:P.info? e=some i) (hz:i.zero=some z) (h1:i.size=sz) (h2:i.bytes=bytes) (hzs:z.cells.size=sz) (hsz:0 < sz) (hb128:bytes<=1000)
  (v:Value) (l:List (List Value)) (hs:a.eval s=v) (N c:Nat) (hxo:a.eval xo= .slice (some ⟨N,0,none⟩) 1 c) (h:RowC e sz w5 v l) (hB:Below w5.heap.size w5 W) (hl:l.length<=10000) (hx:x.length=sz) (hx1:∀u∈x,u.oneCell'=true) (hN:W.heap[N]? =some (.cells x.toArray e (0,0)))
  (hK:∀v' w',RowC e sz w' v' (l++[x])->ButB (fun z=>v.ownBlock=some z) w5 w'->(v'.ownBlock=v.ownBlock\/∃k,v'.ownBlock=some k/\w5.heap.size<=k)->wpList P ops Q rest (a.put o.dst v') w'):wpList P ops Q (o :: rest) a W:=by
 obtain ⟨v',w',r1,r2,r3,r4⟩:=z8f (P:=P) i z bytes ht hi hz h1 h2 hzs hsz hb128 o.type (h.below hB) hl x hx hx1 N c hN;exact Lib.wpList_append_run _ hgd s xo t t ho _ _ hs hxo v' w' r1 (hK v' w' r2 (ButB.row r3 hB) (r4.imp id fun ⟨k,e,hk⟩=>⟨k,e,qNtx hB.size hk⟩))
theorem z1a {P:Program} (w5 W:World) (x:List Value) {ops:Array Oper} {o:Oper} {a:Act} {K:Act->World->Prop} {Q:Exit->Act->World->Prop} {E:Prop} (hgd:o.guard=none) (s xo:Operand) (t:TypeId)
  (ho:o.op= .call { callee:= .builtin .append,args:=#[s,xo],argTypes:=#[t,t] })
  (i:TypeInfo) (z:Value) (bytes:Nat) (ht:P.underlying t=some (.slice e)) (hi:P.info? e=some i) (hz:i.zero=some z) (h1:i.size=sz) (h2:i.bytes=bytes) (hzs:z.cells.size=sz) (hsz:0 < sz) (hb128:bytes<=1000)
  (v:Value) (l:List (List Value)) (hs:a.eval s=v) (N c:Nat) (hxo:a.eval xo= .slice (some ⟨N,0,none⟩) 1 c) (h:RowC e sz w5 v l) (hB:Below w5.heap.size w5 W) (hl:l.length<=10000) (hx:x.length=sz) (hx1:∀u∈x,u.oneCell'=true) (hN:W.heap[N]? =some (.cells x.toArray e (0,0)))
  (hK:∀v' w',RowC e sz w' v' (l++[x])->ButB (fun z=>v.ownBlock=some z) w5 w'->(v'.ownBlock=v.ownBlock\/∃k,v'.ownBlock=some k/\w5.heap.size<=k)->K (a.put o.dst v') w'):if Region.wanted o (yielded ops a.tmps)=true then Oper.wp P o a W K Q else E:=by
 have hw:Region.wanted o (yielded ops a.tmps)=true:=by simp [Region.wanted,hgd]
 rw [if_pos hw];obtain ⟨v',w',r1,r2,r3,r4⟩:=z8f (P:=P) i z bytes ht hi hz h1 h2 hzs hsz hb128 o.type (h.below hB) hl x hx hx1 N c hN;exact Lib.wp_append_run W s xo t t ho _ _ hs hxo v' w' r1 (hK v' w' r2 (ButB.row r3 hB) (r4.imp id fun ⟨k,e,hk⟩=>⟨k,e,qNtx hB.size hk⟩))
end
end
section
open Go.RowKit Go.Deep
def All2 {α β:Type} (p:α->β->Prop) (a:List α) (b:List β):Prop:=a.length=b.length/\∀(i:Nat) (x:α) (y:β),a[i]? =some x->b[i]? =some y->p x y
section
variable {α β:Type} {p q:α->β->Prop}
theorem All2.nil:All2 p [] []:=⟨rfl,fun i x y h=>by simp at h⟩
theorem All2.imp {a:List α} {b:List β} (h:All2 p a b) (k:∀x y,p x y->q x y):All2 q a b:=⟨h.1,fun i x y hx hy=>k x y (h.2 i x y hx hy)⟩
theorem All2.at {a:List α} {b:List β} (h:All2 p a b) {i:Nat} {y:β} (hy:b[i]? =some y):∃x,a[i]? =some x/\p x y:=by
 have hl:=(zge hy).1;have hx:a[i]? =some (a[i]'(by rw [h.1];exact hl)):=qLgx _;exact ⟨_,hx,h.2 i _ y hx hy⟩
theorem All2.snoc {a:List α} {b:List β} (h:All2 p a b) {x:α} {y:β} (k:p x y):All2 p (a++[x]) (b++[y]):=by
 refine ⟨by simp [h.1],fun i u v hu hv=>?_⟩;rcases Nat.lt_trichotomy i a.length with hi | hi | hi
 ·rw [qLlx hi] at hu;rw [qLlx (by rw [<-h.1];exact hi)] at hv;exact h.2 i u v hu hv
 ·subst hi;rw [qLrx (znl _),Nat.sub_self] at hu;rw [qLrx (by rw [h.1];exact znl _),h.1,Nat.sub_self] at hv;obtain rfl:=zsi hu;obtain rfl:=zsi hv;exact k
 rw [List.getElem?_eq_none (by simp;omega)] at hu;cases hu
theorem All2.set {a:List α} {b:List β} (h:All2 p a b) (i:Nat) {x:α} {y:β} (k:p x y):All2 p (a.set i x) (b.set i y):=by
 refine ⟨by simp [h.1],fun j u v hu hv=>?_⟩;rw [List.getElem?_set] at hu hv;by_cases hij:i=j
 ·rw [if_pos hij] at hu hv;split at hu
  ·split at hv
   ·obtain rfl:=zsi hu;obtain rfl:=zsi hv;exact k
   cases hv
  cases hu
 rw [if_neg hij] at hu hv;exact h.2 j u v hu hv
end
inductive RK where
 | us | de | fo
 | ma (i:Nat) | ep (i:Nat) | it (i:Nat) | wr (i:Nat) | li (i:Nat)
 | ve (i j:Nat)
 deriving DecidableEq
def RK.ty:RK->TypeId
 | .us=>91
 | .de=>126
 | .fo=>74
 | .ma _=>84
 | .ep _=>130
 | .it _=>78
 | .wr _=>149
 | .li _=>151
 | .ve _ _=>80
def RK.sz:RK->Nat
 | .us=>2
 | .de=>2
 | .fo=>7
 | .ma _=>8
 | .ep _=>5
 | .it _=>2
 | .wr _=>3
 | .li _=>3
 | .ve _ _=>4
structure Row where
 v:Value
 cells:List (List Value)
abbrev RM:=RK->Row
def zL (R:RM) (k:RK) (r:Row):RM:=fun x=>if x=k then r else R x
theorem yU (R:RM) (k:RK) (r:Row):zL R k r k=r:=by unfold zL;rw [if_pos rfl]
theorem ZQ (R:RM) {k x:RK} (r:Row) (h:x≠k):zL R k r x=R x:=by unfold zL;rw [if_neg h]
def Y7 (R:RM) (b:Nat):Prop:=∃k,(R k).v.ownBlock=some b
structure OS (base:Nat) (W:World) (R:RM):Prop where
 row:∀k,RowC k.ty k.sz W (R k).v (R k).cells
 inj:∀k k' b,(R k).v.ownBlock=some b->(R k').v.ownBlock=some b->k=k'
 low:∀k b,(R k).v.ownBlock=some b->base<=b
 len:∀k,(R k).cells.length<=10000
def Imm (X:Nat->Prop) (bw:Nat) (R:RM) (W:World):Nat->Prop:=fun b=>b < W.heap.size/\b≠bw/\¬Y7 R b/\¬X b
structure Mut (bw:Nat) (R:RM) (W:World) (R':RM) (W':World):Prop where
 but:ButB (fun b=>b=bw\/Y7 R b) W W'
 fresh:∀b,Y7 R' b->Y7 R b\/W.heap.size<=b
section
variable {bw base:Nat} {R R' R2:RM} {W W' W2:World}
theorem Mut.refl (bw:Nat) (R:RM) (W:World):Mut bw R W R W:=⟨ButB.refl _ _,fun _ h=> .inl h⟩
theorem Mut.below (h:Below W.heap.size W W'):Mut bw R W R W':=⟨ButB.of h,fun _ h=> .inl h⟩
theorem Mut.trans (h:Mut bw R W R' W') (k:Mut bw R' W' R2 W2):Mut bw R W R2 W2:=by
 refine ⟨⟨k.but.os.trans h.but.os,k.but.tape.trans h.but.tape,k.but.output.trans h.but.output,qNtx h.but.size k.but.size,fun b hb hn=>?_⟩,fun b hb=>?_⟩
 ·refine (k.but.block b (zll hb h.but.size) fun e=>?_).trans (h.but.block b hb hn);rcases e with e | e
  ·exact hn (.inl e)
  rcases h.fresh b e with e | e
  ·exact hn (.inr e)
  omega
 rcases k.fresh b hb with e | e
 ·exact h.fresh b e
 exact .inr (qNtx h.but.size e)
theorem Mut.tail (h:Mut bw R W R' W') (k:ButB (fun x=>W.heap.size<=x) W' W2):Mut bw R W R' W2:=
 ⟨⟨k.os.trans h.but.os,k.tape.trans h.but.tape,k.output.trans h.but.output,qNtx h.but.size k.size,fun b hb hn=>(k.block b (zll hb h.but.size) (by omega)).trans (h.but.block b hb hn)⟩,h.fresh⟩
theorem Mut.kept {X:Nat->Prop} (h:Mut bw R W R' W'):Kept (Imm X bw R W) (Imm X bw R' W') W W':=fun b hb hl=>by
 obtain ⟨h1,h2,h3,h4⟩:=hb;refine ⟨⟨zll h1 h.but.size,h2,fun e=>?_,h4⟩,h.but.block b h1 fun e=>e.elim h2 h3⟩;rcases h.fresh b e with e | e
 ·exact h3 e
 ·omega
theorem OS.to (h:OS base W R) (hb:∀b,Y7 R b->W'.heap[b]? =W.heap[b]?):OS base W' R:=
 ⟨fun k=>(h.row k).keep fun b e=>hb b ⟨k,e⟩,h.inj,h.low,h.len⟩
theorem OS.below (h:OS base W R) (hb:Below W.heap.size W W'):OS base W' R:=
 h.to fun b ⟨k,e⟩=>hb.block b ((h.row k).lt b e)
theorem OS.lt (h:OS base W R) {b:Nat} (hb:Y7 R b):b < W.heap.size:=by
 obtain ⟨k,e⟩:=hb;exact (h.row k).lt b e
theorem OS.put (h:OS base W R) (hbase:base<=W.heap.size) (k:RK) (r:Row) (hb:ButB (fun b=>(R k).v.ownBlock=some b) W W') (hr:RowC k.ty k.sz W' r.v r.cells) (hl:r.cells.length<=10000) (ho:∀b,r.v.ownBlock=some b->(R k).v.ownBlock=some b\/W.heap.size<=b):
  OS base W' (zL R k r)/\Mut bw R W (zL R k r) W':=by
 refine ⟨⟨fun x=>?_,fun x y b hx hy=>?_,fun x b hx=>?_,fun x=>?_⟩,⟨hb.mono fun b e=> .inr ⟨k,e⟩,fun b ⟨x,hx⟩=>?_⟩⟩
 ·by_cases hxk:x=k
  ·subst hxk;rw [yU];exact hr
  rw [ZQ R r hxk];refine (h.row x).keep fun b e=>hb.block b ((h.row x).lt b e) fun e2=>hxk (h.inj x k b e e2)
 ·by_cases hxk:x=k
  ·subst hxk;rw [yU] at hx;by_cases hyk:y=x
   ·exact hyk.symm
   rw [ZQ R r hyk] at hy;rcases ho b hx with e | e
   ·exact h.inj x y b e hy
   have:=(h.row y).lt b hy;omega
  rw [ZQ R r hxk] at hx;by_cases hyk:y=k
  ·subst hyk;rw [yU] at hy;rcases ho b hy with e | e
   ·exact h.inj x y b hx e
   have:=(h.row x).lt b hx;omega
  rw [ZQ R r hyk] at hy;exact h.inj x y b hx hy
 ·by_cases hxk:x=k
  ·subst hxk;rw [yU] at hx;rcases ho b hx with e | e
   ·exact h.low x b e
   omega
  rw [ZQ R r hxk] at hx;exact h.low x b hx
 ·by_cases hxk:x=k
  ·subst hxk;rw [yU];exact hl
  rw [ZQ R r hxk];exact h.len x
 by_cases hxk:x=k
 ·subst hxk;rw [yU] at hx;exact (ho b hx).imp (fun e=>⟨x,e⟩) id
 rw [ZQ R r hxk] at hx;exact .inl ⟨x,hx⟩
end
def hdr (R:RM) (i:Nat) (f:Folder):List Value:=[.string f.name,.int .i64 f.turn,(R (.ma i)).v,(R (.ep i)).v,(R (.it i)).v,(R (.wr i)).v,(R (.li i)).v]
structure IsFo (S:Nat->Prop) (W:World) (R:RM) (i:Nat) (f:Folder):Prop where
 name:f.name.size<=140737488355328
 turn:I64 f.turn
 man:All2 (ZR S W) (R (.ma i)).cells f.manifests
 ep:All2 (z02 S W) (R (.ep i)).cells f.epochs
 itl:(R (.it i)).cells.length=f.items.length
 it:∀j x,f.items[j]? =some x->(R (.it i)).cells[j]? =some [.string x.name,(R (.ve i j)).v]/\x.name.size<=140737488355328/\All2 (yL S W) (R (.ve i j)).cells x.versions
 wr:All2 (YC S W) (R (.wr i)).cells f.wraps
 li:All2 (z0g S W) (R (.li i)).cells f.links
structure IsSt (S:Nat->Prop) (W:World) (R:RM) (st:State):Prop where
 turn:I64 st.turn
 users:All2 (z0s S W) (R .us).cells st.users
 deps:All2 (z0o S W) (R .de).cells st.deposits
 fol:(R .fo).cells.length=st.folders.length
 fo:∀i f,st.folders[i]? =some f->(R .fo).cells[i]? =some (hdr R i f)/\IsFo S W R i f
section
variable {S S':Nat->Prop} {R R':RM} {W W':World} {i:Nat} {f:Folder} {st:State}
theorem IsFo.keep (h:IsFo S W R i f) (k:Kept S S' W W'):IsFo S' W' R i f:=
 ⟨h.name,h.turn,h.man.imp fun _ _ h=>YF h k,h.ep.imp fun _ _ h=>z30 h k,h.itl,fun j x hx=>⟨(h.it j x hx).1,(h.it j x hx).2.1,(h.it j x hx).2.2.imp fun _ _ h=>z19 h k⟩,
  h.wr.imp fun _ _ h=>z3q h k,h.li.imp fun _ _ h=>z5r h k⟩
theorem IsSt.keep (h:IsSt S W R st) (k:Kept S S' W W'):IsSt S' W' R st:=
 ⟨h.turn,h.users.imp fun _ _ h=>z2v h k,h.deps.imp fun _ _ h=>z3n h k,h.fol,fun i f hf=>⟨(h.fo i f hf).1,(h.fo i f hf).2.keep k⟩⟩
theorem z1e {α:Type} {e:TypeId} {sz:Nat} {Q:Rp α} (ok:RpOk sz Q) {v:Value} {cells:List (List Value)} {l:List α} (h:RowC e sz W v cells) (hl:cells.length<=10000) (k:All2 (Q S W) cells l):Sl sz Q (fun _=>True) W v l:=by
 obtain ⟨A,c,hv,_⟩:=h.shape;have hcap:cells.length<=c/\c<=maxLen:=by
  rcases h.2 with ⟨hv2,h0⟩ | ⟨g,off,cap,cur,hv2,hg,h1,h2,_⟩
  ·rw [hv] at hv2;simp only [Value.slice.injEq] at hv2;subst h0;exact ⟨by simp,by omega⟩
  ·rw [hv] at hv2;simp only [Value.slice.injEq] at hv2;omega
 refine ⟨A,c,by rw [<-k.1];exact hv,by rw [<-k.1];exact hcap.1,hcap.2,by rw [<-k.1];omega,fun i y hy=>?_⟩;obtain ⟨x,hx,hp⟩:=k.at hy;obtain ⟨g,off,cap,hv2,_,_,_,hc,_⟩:=h.at hx;rw [hv] at hv2;simp only [Value.slice.injEq] at hv2;exact ⟨g,off,x,hv2.1,trivial,ok.len hp,fun j u hj=>by rw [<-Nat.add_assoc];exact hc j u hj,ok.keep hp (Kept.refl _ fun _ _=>trivial)⟩
theorem IsFo.folder {base:Nat} (o:OS base W R) (h:IsFo S W R i f):ZG (fun _=>True) W (hdr R i f) f:=by
 refine ⟨_,_,_,_,_,rfl,h.name,h.turn,z1e z2f (o.row (.ma i)) (o.len _) h.man,z1e z4g (o.row (.ep i)) (o.len _) h.ep,?_,z1e z3r (o.row (.wr i)) (o.len _) h.wr,z1e z3s (o.row (.li i)) (o.len _) h.li⟩;refine z1e (S:=fun _=>True) z3p (o.row (.it i)) (o.len _) ⟨h.itl,fun j cs x hc hx=>?_⟩;obtain ⟨h1,h2,h3⟩:=h.it j x hx;rw [h1] at hc;obtain rfl:=zsi hc;exact ⟨_,rfl,h2,z1e z44 (o.row (.ve i j)) (o.len _) h3⟩
theorem IsSt.state {base:Nat} (o:OS base W R) (h:IsSt S W R st):yB (fun _=>True) W [.int .i64 st.turn,(R .us).v,(R .de).v,(R .fo).v] st:=by
 refine ⟨_,_,_,rfl,h.turn,z1e z3m (o.row .us) (o.len _) h.users,z1e z2e (o.row .de) (o.len _) h.deps,?_⟩;refine z1e (S:=fun _=>True) YX (o.row .fo) (o.len _) ⟨h.fol,fun j cs x hc hx=>?_⟩;obtain ⟨h1,h2⟩:=h.fo j x hx;rw [h1] at hc;obtain rfl:=zsi hc;exact h2.folder o
theorem IsSt.setF (h:IsSt S W R st) (hf:st.folders[i]? =some f) {f':Folder} (k:Kept S S' W W') (hus:R' .us=R .us) (hde:R' .de=R .de)
  (ho:∀i',i'≠i->R' (.ma i')=R (.ma i')/\R' (.ep i')=R (.ep i')/\R' (.it i')=R (.it i')/\R' (.wr i')=R (.wr i')/\R' (.li i')=R (.li i')/\∀j,R' (.ve i' j)=R (.ve i' j))
  (hfo:(R' .fo).cells=(R .fo).cells.set i (hdr R' i f')) (hF:IsFo S' W' R' i f'):IsSt S' W' R' { st with folders:=st.folders.set i f' }:=by
 have h':=h.keep k;refine ⟨h.turn,by rw [hus];exact h'.users,by rw [hde];exact h'.deps,by rw [hfo];simp [h.fol],fun j g hg=>?_⟩;rw [List.getElem?_set] at hg;by_cases hij:i=j
 ·subst hij;rw [if_pos rfl] at hg;split at hg
  ·obtain rfl:=zsi hg;refine ⟨?_,hF⟩;rw [hfo,List.getElem?_set_self (by rw [h.fol];assumption)]
  cases hg
 rw [if_neg hij] at hg;obtain ⟨g1,g2⟩:=h'.fo j g hg;obtain ⟨a1,a2,a3,a4,a5,a6⟩:=ho j (fun e=>hij e.symm);refine ⟨?_,?_⟩
 ·rw [hfo,List.getElem?_set_ne hij,g1];unfold hdr;rw [a1,a2,a3,a4,a5]
 exact ⟨g2.name,g2.turn,by rw [a1];exact g2.man,by rw [a2];exact g2.ep,by rw [a3];exact g2.itl,fun q x hx=>by rw [a3,a6 q];exact g2.it q x hx,by rw [a4];exact g2.wr,by rw [a5];exact g2.li⟩
end
end
section
open Go.RowKit Go.Deep
def z3v (c:Call) (dv:Value):List Value:=[.int .i64 c.kind,.string c.user,.string c.folder,.string c.name,.string c.other,.int .i64 c.role,.int .i64 c.version,dv]
def z35 (R:RM) (c:Call) (dv:Value) (st:State) (done late:Bool):List Value:=
 [.int .i64 c.kind,.string c.user,.string c.folder,.string c.name,.string c.other,.int .i64 c.role,.int .i64 c.version,dv,.int .i64 st.turn,(R .us).v,(R .de).v,(R .fo).v,.bool done,.bool late]
structure WK (X:Nat->Prop) (base bw:Nat) (W:World) (R:RM) (c:Call) (dv:Value) (st:State) (done late:Bool):Prop where
 os:OS base W R
 is:IsSt (Imm X bw R W) W R st
 box:W.heap[bw]? =some (.cells (z35 R c dv st done late).toArray 112 (0,0))
 call:z2a (Imm X bw R W) W (z3v c dv) c
 nb:¬Y7 R bw
 bb:base<=bw
 nx:∀b,Y7 R b\/b=bw->¬X b
 xl:∀b,X b->b < W.heap.size
section
variable {X Y:Nat->Prop} {base bw:Nat} {W W':World} {R R':RM} {c:Call} {dv:Value} {st st':State} {done done' late:Bool}
theorem WK.lt (h:WK X base bw W R c dv st done late):bw < W.heap.size:=zO h.box
theorem WK.base_le (h:WK X base bw W R c dv st done late):base<=W.heap.size:=by have:=h.lt;have:=h.bb;omega
theorem WK.cells (h:WK X base bw W R c dv st done late):(∀j u,(z35 R c dv st done late)[j]? =some u->W.cell? ⟨bw,j,none⟩=some u)/\∀j,W.frozen? ⟨bw,j,none⟩=false:=
 ⟨fun j u hj=>(zD h.box).1 j u (by rw [List.getElem?_toArray];exact hj),(zD h.box).2⟩
theorem WK.below (h:WK X base bw W R c dv st done late) (hb:Below W.heap.size W W'):WK X base bw W' R c dv st done late:=
 have k:=(Mut.below (bw:=bw) (R:=R) hb).kept
 ⟨h.os.below hb,h.is.keep k,by rw [hb.block bw h.lt];exact h.box,YZ h.call k,h.nb,h.bb,h.nx,fun b hx=>zll (h.xl b hx) hb.size⟩
theorem WK.turn (h:WK X base bw W R c dv st done late) (m:Mut bw R W R' W') (os:OS base W' R') (is:IsSt (Imm X bw R' W') W' R' st') (box:W'.heap[bw]? =some (.cells (z35 R' c dv st' done' late).toArray 112 (0,0))):WK X base bw W' R' c dv st' done' late:=
 ⟨os,is,box,YZ h.call m.kept,fun e=>(m.fresh bw e).elim h.nb fun hl=>by have:=h.lt;omega,h.bb,fun b e hx=>by
  rcases e with e | e
  ·rcases m.fresh b e with e | e
   ·exact h.nx b (.inl e) hx
   ·have:=h.xl b hx;omega
  ·exact h.nx b (.inr e) hx,fun b hx=>zll (h.xl b hx) m.but.size⟩
theorem WK.enter (h:WK X base bw W R c dv st done late) (hb:Below W.heap.size W W') (hz:W.heap.size < W'.heap.size):WK (fun b=>X b\/b=W.heap.size) base bw W' R c dv st done late:=by
 have h':=h.below hb;have k:Kept (Imm X bw R W) (Imm (fun b=>X b\/b=W.heap.size) bw R W') W W':=fun b ⟨h1,h2,h3,h4⟩ hl=>⟨⟨by omega,h2,h3,fun e=>e.elim h4 fun e=>by omega⟩,hb.block b h1⟩
 refine ⟨h'.os,h.is.keep k,h'.box,YZ h.call k,h.nb,h.bb,fun b e hx=>?_,fun b hx=>hx.elim (h'.xl b) fun e=>by omega⟩;rcases hx with hx | hx
 ·exact h.nx b e hx
 rcases e with e | e
 ·have:=h.os.lt e;omega
 have:=h.lt;omega
theorem WK.leave (h:WK Y base bw W R c dv st done late) (hb:ButB Y W W') (hY:∀b,X b->Y b):WK X base bw W' R c dv st done late:=by
 have k:Kept (Imm Y bw R W) (Imm X bw R W') W W':=fun b ⟨h1,h2,h3,h4⟩ hl=>⟨⟨zll h1 hb.size,h2,h3,fun e=>h4 (hY b e)⟩,hb.block b h1 h4⟩
 exact ⟨h.os.to fun b hr=>hb.block b (h.os.lt hr) (h.nx b (.inl hr)),h.is.keep k,by rw [hb.block bw h.lt (h.nx bw (.inr rfl))];exact h.box,YZ h.call k,h.nb,h.bb,fun b e hx=>h.nx b e (hY b hx),fun b hx=>zll (h.xl b (hY b hx)) hb.size⟩
theorem WK.state (h:WK X base bw W R c dv st done late):yB (fun _=>True) W [.int .i64 st.turn,(R .us).v,(R .de).v,(R .fo).v] st:=h.is.state h.os
theorem WK.set (h:WK X base bw W R c dv st done late) {j:Nat} {u:Value} (hc:(z35 R c dv st done late).set j u=z35 R c dv st' done' late)
  (is:∀S W,IsSt S W R st->IsSt S W R st'):
  WK X base bw (W.setCell ⟨bw,j,none⟩ u) R c dv st' done' late/\Mut bw R W R (W.setCell ⟨bw,j,none⟩ u):=by
 have hm:Mut bw R W R (W.setCell ⟨bw,j,none⟩ u):=⟨(ButB.refl _ W).set ⟨bw,j,none⟩ u (.inl rfl),fun _ h=> .inl h⟩;refine ⟨h.turn hm (h.os.to fun b hr=>?_) ((is _ _ h.is).keep hm.kept) (zI u h.box ?_),hm⟩
 ·exact Below.heap_setCell _ _ _ _ fun e=>h.nb (by rw [<-show b=bw from e];exact hr)
 rw [<-hc];simp
theorem WK.setDone (h:WK X base bw W R c dv st done late) (b:Bool):WK X base bw (W.setCell ⟨bw,12,none⟩ (.bool b)) R c dv st b late/\Mut bw R W R (W.setCell ⟨bw,12,none⟩ (.bool b)):=
 h.set rfl fun _ _ h=>h
theorem WK.setTurn (h:WK X base bw W R c dv st done late) (n:Int) (hn:I64 n):WK X base bw (W.setCell ⟨bw,8,none⟩ (.int .i64 n)) R c dv { st with turn:=n } done late/\Mut bw R W R (W.setCell ⟨bw,8,none⟩ (.int .i64 n)):=
 h.set rfl fun _ _ h=>⟨hn,h.users,h.deps,h.fol,h.fo⟩
theorem WK.put (h:WK X base bw W R c dv st done late) (k:RK) (r:Row) (hb:ButB (fun b=>(R k).v.ownBlock=some b) W W') (hr:RowC k.ty k.sz W' r.v r.cells) (hl:r.cells.length<=10000) (ho:∀b,r.v.ownBlock=some b->(R k).v.ownBlock=some b\/W.heap.size<=b):
  OS base W' (zL R k r)/\Mut bw R W (zL R k r) W'/\W'.heap[bw]? =W.heap[bw]?/\¬Y7 (zL R k r) bw:=by
 obtain ⟨h1,h2⟩:=h.os.put (bw:=bw) h.base_le k r hb hr hl ho;exact ⟨h1,h2,hb.block bw h.lt fun e=>h.nb ⟨k,e⟩,fun e=>(h2.fresh bw e).elim h.nb fun hl=>by have:=h.lt;omega⟩
end
theorem List.set_eq_self_of {α:Type} {l:List α} {i:Nat} {x:α} (h:l[i]? =some x):l.set i x=l:=by
 apply List.ext_getElem?;intro j;rw [List.getElem?_set];split
 ·rename_i e;subst e;rw [if_pos (zge h).1,h]
 rfl
section
variable {S S':Nat->Prop} {W W':World} {R:RM} {i:Nat} {f:Folder} {st:State} {r:Row}
def ZY (R:RM) (i:Nat) (cs:List Value):Row:=⟨(R .fo).v,(R .fo).cells.set i cs⟩
theorem IsSt.wrRow (h:IsSt S W R st) (hf:st.folders[i]? =some f) (k:Kept S S' W W') {l:List Wrap} (hl:All2 (YC S' W') r.cells l):
  IsSt S' W' (zL (zL R (.wr i) r) .fo (ZY R i ((hdr R i f).set 5 r.v))) { st with folders:=st.folders.set i { f with wraps:=l } }:=by
 obtain ⟨_,h2⟩:=h.fo i f hf;have h2':=h2.keep k;refine h.setF hf k (by simp [zL]) (by simp [zL]) (fun i' hi'=>by simp [zL,hi']) (by simp [zL,ZY,hdr]) ?_;exact ⟨h2'.name,h2'.turn,by simpa [zL] using h2'.man,by simpa [zL] using h2'.ep,by simpa [zL] using h2'.itl,by simpa [zL] using h2'.it,by simpa [zL] using hl,by simpa [zL] using h2'.li⟩
theorem IsSt.maRow (h:IsSt S W R st) (hf:st.folders[i]? =some f) (k:Kept S S' W W') {l:List Manifest} (hl:All2 (ZR S' W') r.cells l):
  IsSt S' W' (zL (zL R (.ma i) r) .fo (ZY R i ((hdr R i f).set 2 r.v))) { st with folders:=st.folders.set i { f with manifests:=l } }:=by
 obtain ⟨_,h2⟩:=h.fo i f hf;have h2':=h2.keep k;refine h.setF hf k (by simp [zL]) (by simp [zL]) (fun i' hi'=>by simp [zL,hi']) (by simp [zL,ZY,hdr]) ?_;exact ⟨h2'.name,h2'.turn,by simpa [zL] using hl,by simpa [zL] using h2'.ep,by simpa [zL] using h2'.itl,by simpa [zL] using h2'.it,by simpa [zL] using h2'.wr,by simpa [zL] using h2'.li⟩
theorem IsSt.epRow (h:IsSt S W R st) (hf:st.folders[i]? =some f) (k:Kept S S' W W') {l:List Epoch} (hl:All2 (z02 S' W') r.cells l):
  IsSt S' W' (zL (zL R (.ep i) r) .fo (ZY R i ((hdr R i f).set 3 r.v))) { st with folders:=st.folders.set i { f with epochs:=l } }:=by
 obtain ⟨_,h2⟩:=h.fo i f hf;have h2':=h2.keep k;refine h.setF hf k (by simp [zL]) (by simp [zL]) (fun i' hi'=>by simp [zL,hi']) (by simp [zL,ZY,hdr]) ?_;exact ⟨h2'.name,h2'.turn,by simpa [zL] using h2'.man,by simpa [zL] using hl,by simpa [zL] using h2'.itl,by simpa [zL] using h2'.it,by simpa [zL] using h2'.wr,by simpa [zL] using h2'.li⟩
theorem IsSt.liRow (h:IsSt S W R st) (hf:st.folders[i]? =some f) (k:Kept S S' W W') {l:List Link} (hl:All2 (z0g S' W') r.cells l):
  IsSt S' W' (zL (zL R (.li i) r) .fo (ZY R i ((hdr R i f).set 6 r.v))) { st with folders:=st.folders.set i { f with links:=l } }:=by
 obtain ⟨_,h2⟩:=h.fo i f hf;have h2':=h2.keep k;refine h.setF hf k (by simp [zL]) (by simp [zL]) (fun i' hi'=>by simp [zL,hi']) (by simp [zL,ZY,hdr]) ?_;exact ⟨h2'.name,h2'.turn,by simpa [zL] using h2'.man,by simpa [zL] using h2'.ep,by simpa [zL] using h2'.itl,by simpa [zL] using h2'.it,by simpa [zL] using h2'.wr,by simpa [zL] using hl⟩
theorem IsSt.itNew (h:IsSt S W R st) (hf:st.folders[i]? =some f) (k:Kept S S' W W') {n:ByteArray} (hn:n.size<=140737488355328) (hr:r.cells=(R (.it i)).cells++[[.string n,.slice none 0 0]]):
  IsSt S' W' (zL (zL (zL R (.it i) r) (.ve i f.items.length) ⟨.slice none 0 0,[]⟩) .fo (ZY R i ((hdr R i f).set 4 r.v))) { st with folders:=st.folders.set i { f with items:=f.items++[⟨n,[]⟩] } }:=by
 obtain ⟨_,h2⟩:=h.fo i f hf;have h2':=h2.keep k;refine h.setF hf k (by simp [zL]) (by simp [zL]) (fun i' hi'=>by simp [zL,hi']) (by simp [zL,ZY,hdr]) ?_;refine ⟨h2'.name,h2'.turn,by simpa [zL] using h2'.man,by simpa [zL] using h2'.ep,by simp [zL,hr,h2'.itl],fun j x hx=>?_,by simpa [zL] using h2'.wr,by simpa [zL] using h2'.li⟩;rcases Nat.lt_trichotomy j f.items.length with hj | hj | hj
 ·rw [qLlx hj] at hx;have hne:¬j=f.items.length:=by omega
  have:=h2'.it j x hx;refine ⟨?_,this.2.1,by simpa [zL,hne] using this.2.2⟩;have h3:(zL (zL (zL R (.it i) r) (.ve i f.items.length) ⟨.slice none 0 0,[]⟩) .fo (ZY R i ((hdr R i f).set 4 r.v)) (.it i)).cells=r.cells:=by simp [zL]
  rw [h3,hr,qLlx (by rw [h2'.itl];exact hj),this.1];simp [zL,hne]
 ·subst hj;rw [qLrx (znl _),Nat.sub_self] at hx;obtain rfl:=zsi hx;refine ⟨?_,hn,by simpa [zL] using All2.nil⟩;have h3:(zL (zL (zL R (.it i) r) (.ve i f.items.length) ⟨.slice none 0 0,[]⟩) .fo (ZY R i ((hdr R i f).set 4 r.v)) (.it i)).cells=r.cells:=by simp [zL]
  rw [h3,hr,qLrx (by rw [h2'.itl];exact znl _),h2'.itl,Nat.sub_self];simp [zL]
 rw [List.getElem?_eq_none (by simp;omega)] at hx;cases hx
theorem IsSt.veRow {j:Nat} {x:Item} (h:IsSt S W R st) (hf:st.folders[i]? =some f) (hx:f.items[j]? =some x) (k:Kept S S' W W') {l:List Version} (hl:All2 (yL S' W') r.cells l):
  IsSt S' W' (zL (zL R (.ve i j) r) (.it i) ⟨(R (.it i)).v,(R (.it i)).cells.set j [.string x.name,r.v]⟩) { st with folders:=st.folders.set i { f with items:=f.items.set j { x with versions:=l } } }:=by
 obtain ⟨h1,h2⟩:=h.fo i f hf;have h2':=h2.keep k;refine h.setF hf k (by simp [zL]) (by simp [zL]) (fun i' hi'=>by simp [zL,hi']) (by
  have e:hdr (zL (zL R (.ve i j) r) (.it i) ⟨(R (.it i)).v,(R (.it i)).cells.set j [.string x.name,r.v]⟩) i { f with items:=f.items.set j { x with versions:=l } }=hdr R i f:=by simp [hdr,zL]
  rw [e];have h4:(zL (zL R (.ve i j) r) (.it i) ⟨(R (.it i)).v,(R (.it i)).cells.set j [.string x.name,r.v]⟩ .fo)=R .fo:=by simp [zL]
  rw [h4,List.set_eq_self_of h1]) ?_
 refine ⟨h2'.name,h2'.turn,by simpa [zL] using h2'.man,by simpa [zL] using h2'.ep,by simp [zL,h2'.itl],fun q y hy=>?_,by simpa [zL] using h2'.wr,by simpa [zL] using h2'.li⟩;have hjl:=(zge hx).1;have h3:(zL (zL R (.ve i j) r) (.it i) ⟨(R (.it i)).v,(R (.it i)).cells.set j [.string x.name,r.v]⟩ (.it i)).cells=(R (.it i)).cells.set j [.string x.name,r.v]:=by simp [zL]
 rw [h3,List.getElem?_set];dsimp only at hy;rw [List.getElem?_set] at hy;by_cases hq:j=q
 ·subst hq;rw [if_pos rfl,if_pos hjl] at hy;obtain rfl:=zsi hy;rw [if_pos rfl,if_pos (by rw [h2'.itl];exact hjl)];exact ⟨by simp [zL],(h2'.it j x hx).2.1,by simpa [zL] using hl⟩
 rw [if_neg hq] at hy⊢;have hq':¬q=j:=fun e=>hq e.symm
 have:=h2'.it q y hy;exact ⟨by simpa [zL,hq'] using this.1,this.2.1,by simpa [zL,hq'] using this.2.2⟩
theorem IsSt.fTurn (h:IsSt S W R st) (hf:st.folders[i]? =some f) (k:Kept S S' W W') {n:Int} (hn:I64 n):
  IsSt S' W' (zL R .fo (ZY R i ((hdr R i f).set 1 (.int .i64 n)))) { st with folders:=st.folders.set i { f with turn:=n } }:=by
 obtain ⟨_,h2⟩:=h.fo i f hf;have h2':=h2.keep k;refine h.setF hf k (by simp [zL]) (by simp [zL]) (fun i' hi'=>by simp [zL]) (by simp [zL,ZY,hdr]) ?_;exact ⟨h2'.name,hn,by simpa [zL] using h2'.man,by simpa [zL] using h2'.ep,by simpa [zL] using h2'.itl,by simpa [zL] using h2'.it,by simpa [zL] using h2'.wr,by simpa [zL] using h2'.li⟩
theorem IsSt.usRow (h:IsSt S W R st) (k:Kept S S' W W') {l:List User} (hl:All2 (z0s S' W') r.cells l):IsSt S' W' (zL R .us r) { st with users:=l }:=by
 have h':=h.keep k;exact ⟨h'.turn,by simpa [zL] using hl,by simpa [zL] using h'.deps,by simpa [zL] using h'.fol,fun i f hf=>⟨by simpa [zL,hdr] using (h'.fo i f hf).1,by
  have g:=(h'.fo i f hf).2;exact ⟨g.name,g.turn,by simpa [zL] using g.man,by simpa [zL] using g.ep,by simpa [zL] using g.itl,by simpa [zL] using g.it,by simpa [zL] using g.wr,by simpa [zL] using g.li⟩⟩⟩
theorem IsSt.deRow (h:IsSt S W R st) (k:Kept S S' W W') {l:List Pair} (hl:All2 (z0o S' W') r.cells l):IsSt S' W' (zL R .de r) { st with deposits:=l }:=by
 have h':=h.keep k;exact ⟨h'.turn,by simpa [zL] using h'.users,by simpa [zL] using hl,by simpa [zL] using h'.fol,fun i f hf=>⟨by simpa [zL,hdr] using (h'.fo i f hf).1,by
  have g:=(h'.fo i f hf).2;exact ⟨g.name,g.turn,by simpa [zL] using g.man,by simpa [zL] using g.ep,by simpa [zL] using g.itl,by simpa [zL] using g.it,by simpa [zL] using g.wr,by simpa [zL] using g.li⟩⟩⟩
theorem IsSt.snocF {R':RM} (h:IsSt S W R st) {f':Folder} (k:Kept S S' W W') (hus:R' .us=R .us) (hde:R' .de=R .de)
  (ho:∀i',i'≠st.folders.length->R' (.ma i')=R (.ma i')/\R' (.ep i')=R (.ep i')/\R' (.it i')=R (.it i')/\R' (.wr i')=R (.wr i')/\R' (.li i')=R (.li i')/\∀j,R' (.ve i' j)=R (.ve i' j))
  (hfo:(R' .fo).cells=(R .fo).cells++[hdr R' st.folders.length f']) (hF:IsFo S' W' R' st.folders.length f'):IsSt S' W' R' { st with folders:=st.folders++[f'] }:=by
 have h':=h.keep k;refine ⟨h.turn,by rw [hus];exact h'.users,by rw [hde];exact h'.deps,by rw [hfo];simp [h.fol],fun j g hg=>?_⟩;rcases Nat.lt_trichotomy j st.folders.length with hj | hj | hj
 ·dsimp only at hg;rw [qLlx hj] at hg;obtain ⟨g1,g2⟩:=h'.fo j g hg;obtain ⟨a1,a2,a3,a4,a5,a6⟩:=ho j (by omega);refine ⟨?_,?_⟩
  ·rw [hfo,qLlx (by rw [h.fol];exact hj),g1];unfold hdr;rw [a1,a2,a3,a4,a5]
  exact ⟨g2.name,g2.turn,by rw [a1];exact g2.man,by rw [a2];exact g2.ep,by rw [a3];exact g2.itl,fun q x hx=>by rw [a3,a6 q];exact g2.it q x hx,by rw [a4];exact g2.wr,by rw [a5];exact g2.li⟩
 ·subst hj;dsimp only at hg;rw [qLrx (znl _),Nat.sub_self] at hg;obtain rfl:=zsi hg;refine ⟨?_,hF⟩;rw [hfo,qLrx (by rw [h.fol];exact znl _),h.fol,Nat.sub_self];rfl
 rw [List.getElem?_eq_none (by simp;omega)] at hg;cases hg
end
end
end Go.Proofs.YtdggplhnfhcieaaGreatDoor
