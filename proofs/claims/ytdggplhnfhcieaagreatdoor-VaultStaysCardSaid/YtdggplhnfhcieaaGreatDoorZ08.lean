/- Part 8 of the proof of vaultStays_holds. No condition. -/
import Derived.Maps.OwnSet
import Derived.DeepKeys4
import Derived.Laws.Cover3
import Derived.Laws.StructEq
import Derived.Deep.QuietTactic
import Derived.Deep.RegionHeld3
import Derived.BigQuiet
import Derived.Test.YtdggplhnfhcieaaGreatDoorZ02
import Derived.Test.YtdggplhnfhcieaaGreatDoorZ07
set_option linter.unusedVariables false
set_option linter.unusedSimpArgs false
set_option linter.unusedSectionVars false
set_option maxRecDepth 100000
namespace Go.Proofs.YtdggplhnfhcieaaGreatDoor
section
open Go.RowKit Go.Deep Go.Maps
def vG (x:GN):Value:= .agg #[.bool x.1,.string x.2.1,.int .i64 x.2.2]
def cG (x:GN):List Value:=[.bool x.1,.string x.2.1,.int .i64 x.2.2]
structure OkG (x:GN):Prop where
 size:x.2.1.size<=1000
 num:I64 x.2.2
def kG (x:GN):Lit:= .string (Go.keyBytes [.bool x.1,.string x.2.1.data.toList,.int .i64 x.2.2])
theorem zOr {x y:GN} (h:vG x=vG y):x=y:=by
 obtain ⟨_,_,_⟩:=x
 obtain ⟨_,_,_⟩:=y
 simpa [vG] using h
theorem zOs (x:GN):(cG x).length=3:=rfl
theorem z7p (x:GN):∀u∈cG x,u.oneCell'=true:=by
 intro u hu
 simp only [cG,List.mem_cons,List.not_mem_nil,or_false] at hu
 rcases hu with rfl | rfl | rfl<;>rfl
theorem zEc (x:GN):WideAt.IsKeyLit (kG x):=by simp [kG,WideAt.IsKeyLit]
theorem keyNode:Keyed Tryz.prog 244:=Keyed.of_law (deep_law_laid zEb (m:=3) (by omega) (of_decide_eq_true (by kernel_rfl)) (by kernel_rfl) (by kernel_rfl))
theorem z9f {x:GN} (h:OkG x):keyOf Tryz.prog 244 (vG x)=some (kG x):=by
 obtain ⟨a,b,c⟩:=x
 obtain ⟨h1,h2⟩:=h
 dsimp only at h1 h2
 obtain ⟨d,hd⟩:∃d,Tryz.prog.types.size+1=d+1+1:=⟨Tryz.prog.types.size - 1,by have:0 < Tryz.prog.types.size:=of_decide_eq_true (by kernel_rfl);omega⟩
 have k1:Tryz.prog.keyType 244=true:=by kernel_rfl
 have k2:(vG (a,b,c)).formed Tryz.prog 244=true:=by
  have:Tryz.prog.cellsOf 244=3:=by kernel_rfl
  simp [Value.formed,Tryz.underlying244,this,vG]
 have c0:Tryz.prog.cellsOf 244=3:=by kernel_rfl
 have c1:Tryz.prog.cellsOf 4=1:=by kernel_rfl
 have c2:Tryz.prog.cellsOf 9=1:=by kernel_rfl
 have c3:Tryz.prog.cellsOf 3=1:=by kernel_rfl
 have hs:b.size<=maxLen:=by unfold maxLen;omega
 unfold keyOf
 rw [Tryz.underlying244,hd]
 simp only [k1,k2,Bool.and_true,if_true]
 have h3:IntKind.i64.min<=c/\c<=9223372036854775807:=h2
 simp [Program.keyLits,Tryz.underlying244,Tryz.underlying4,Tryz.underlying9,Tryz.underlying3,c0,c1,c2,c3,vG,Value.cells,hs,Lit.wf,kG,h3]
theorem zJx {x y:GN} (hx:OkG x) (hy:OkG y) (h:kG x=kG y):x=y:=zOr (keyNode.inj (z9f hx) (h▸z9f hy))
theorem z3o (w:World):(zeroValue 3).run Tryz.prog w= .ok (.int .i64 0) w:=by kernel_rfl
structure Idx (D:DataW Unit) (ns:List GN):Prop where
 isMap:IsMap D
 ok:∀x∈ns,OkG x
 has:∀x,OkG x->(Maps.has D (kG x)=true↔x∈ns)
 val:∀(i:Nat) x,ns[i]? =some x->∀zd,D.atKey (kG x) zd= .lit (.int .i64 i)
theorem Idx.start:Idx (.map []) []:=⟨isMap_empty,fun x h=>(by cases h),fun x _=>(by simp [Maps.has]),fun i x h=>(by simp at h)⟩
theorem Idx.put {D:DataW Unit} {ns:List GN} (h:Idx D ns) {x:GN} (hx:OkG x) (hn:x∉ns):Idx (D.put (kG x) (.lit (.int .i64 ns.length))) (ns++[x]):=by
 refine ⟨h.isMap.put _ _,fun y hy=>?_,fun y hy=>?_,fun i y hi zd=>?_⟩
 ·rcases List.mem_append.1 hy with hy | hy
  ·exact h.ok y hy
  ·rw [List.mem_singleton.1 hy];exact hx
 ·by_cases e:y=x
  ·subst e
   rw [has_put_same h.isMap (zEc _)]
   simp
  ·rw [has_put_other fun e2=>e (zJx hy hx e2),h.has y hy,List.mem_append,List.mem_singleton]
   exact ⟨.inl,fun h=>h.resolve_right e⟩
 ·rcases Nat.lt_or_ge i ns.length with hl | hl
  ·rw [List.getElem?_append_left hl] at hi
   have hm:=List.mem_of_getElem? hi
   rw [atKey_put_other fun e2=>hn (zJx (h.ok y hm) hx e2▸hm)]
   exact h.val i y hi zd
  ·rw [List.getElem?_append_right hl] at hi
   have hil:i - ns.length=0:=by have:=(List.getElem?_eq_some_iff.1 hi).1;simp at this;omega
   rw [hil] at hi
   obtain rfl:x=y:=by simpa using hi
   obtain rfl:i=ns.length:=by omega
   exact atKey_put_same h.isMap (zEc _) _ _
theorem Idx.look {D:DataW Unit} {ns:List GN} (h:Idx D ns) {x:GN} (hx:OkG x) {c:Int} (hc:D.atKey (kG x) (.lit (.int .i64 0))= .lit (.int .i64 c)):
  (Maps.has D (kG x)=true/\∃i:Nat,ns[i]? =some x/\c=i)\/(Maps.has D (kG x)=false/\x∉ns):=by
 by_cases e:x∈ns
 ·left
  obtain ⟨i,hi⟩:=List.getElem?_of_mem e
  refine ⟨(h.has x hx).2 e,i,hi,?_⟩
  rw [h.val i x hi] at hc
  simpa using hc.symm
 ·right
  exact ⟨by rw [<-Bool.not_eq_true];exact fun h2=>e ((h.has x hx).1 h2),e⟩
end
section
open Go.RowKit Go.Deep
section
variable {X:Nat->Prop} {base bw:Nat} {W W1:World} {R:RM} {c:Call} {dv:Value} {st:State} {done late:Bool}
def foAt (R:RM) (i g o:Nat):Prop:=∃n cap off,(R .fo).v= .slice (some ⟨g,off,none⟩) n cap/\o=off+i*7
theorem WK.fat (h:WK X base bw W R c dv st done late) {i:Nat} {f:Folder} (hf:st.folders[i]? =some f):∃g o,foAt R i g o/\g≠bw/\g < W.heap.size/\(∀j u,(hdr R i f)[j]? =some u->W.cell? ⟨g,o+j,none⟩=some u)/\∀q,W.frozen? ⟨g,q,none⟩=false:=by
 obtain ⟨h1,_⟩:=h.is.fo i f hf
 obtain ⟨g,off,_,hv,_,_,hg,hc,hz⟩:=(h.os.row .fo).at h1
 exact ⟨g,off+i*7,⟨_,_,_,hv,rfl⟩,fun e=>h.nb ⟨.fo,by rw [hv,<-e];rfl⟩,hg,hc,hz⟩
theorem foAt.row {i g o:Nat} (h:foAt R i g o):yU R g:=by
 obtain ⟨_,_,_,hv,_⟩:=h
 exact ⟨.fo,by rw [hv];rfl⟩
theorem WK.sub (h:WK X base bw W R c dv st done late) {i g o:Nat} {f f':Folder} (hf:st.folders[i]? =some f) (ha:foAt R i g o) {k:RK} {r:Row} {j:Nat} (hk:k≠ .us/\k≠ .de/\k≠ .fo) (hj:j < 7)
  (o1:OS base W1 (zK R k r)) (m1:Mut bw R W (zK R k r) W1) (b1:W1.heap[bw]? =W.heap[bw]?) {u:Value} (hu:u.oneCell'=true)
  (is:Kept (Imm X bw R W) (Imm X bw (zK (zK R k r) .fo (ZS R i ((hdr R i f).set j u))) (W1.setCell ⟨g,o+j,none⟩ u)) W (W1.setCell ⟨g,o+j,none⟩ u)->
   IsSt (Imm X bw (zK (zK R k r) .fo (ZS R i ((hdr R i f).set j u))) (W1.setCell ⟨g,o+j,none⟩ u)) (W1.setCell ⟨g,o+j,none⟩ u) (zK (zK R k r) .fo (ZS R i ((hdr R i f).set j u))) { st with folders:=st.folders.set i f' }):
  WK X base bw (W1.setCell ⟨g,o+j,none⟩ u) (zK (zK R k r) .fo (ZS R i ((hdr R i f).set j u))) c dv { st with folders:=st.folders.set i f' } done late/\
  Mut bw R W (zK (zK R k r) .fo (ZS R i ((hdr R i f).set j u))) (W1.setCell ⟨g,o+j,none⟩ u):=by
 obtain ⟨_,_,off,hv,rfl⟩:=ha
 have hfo:zK R k r .fo=R .fo:=ZM R r hk.2.2.symm
 have hrow:=o1.row .fo
 rw [hfo,hv] at hrow
 obtain ⟨h1,_⟩:=h.is.fo i f hf
 have hw:=hrow.write (by decide:0 < RK.fo.sz) h1 (show j < RK.fo.sz from hj) u hu
 have hg:yU R g:=⟨.fo,by rw [hv];rfl⟩
 obtain ⟨o2,m2⟩:=o1.put (bw:=bw) (W':=W1.setCell ⟨g,off+i*7+j,none⟩ u) (Nat.le_trans h.base_le m1.but.size) .fo (ZS R i ((hdr R i f).set j u))
  ((ButB.refl _ W1).set ⟨g,off+i*7+j,none⟩ u (by rw [hfo,hv];rfl)) (by unfold ZS;rw [hv];exact hw) (by have:=h.os.len .fo;simpa [ZS] using this) (fun b hb=> .inl (by rw [hfo];exact hb))
 have m:=m1.trans m2
 refine ⟨h.turn m o2 (is m.kept) ?_,m⟩
 rw [Below.heap_setCell _ _ _ _ fun e=>h.nb (by rw [show bw=g from e];exact hg),b1,h.box]
 have e1:(zK (zK R k r) .fo (ZS R i ((hdr R i f).set j u))) .us=R .us:=by rw [ZM _ _ (by decide),ZM _ _ hk.1.symm]
 have e2:(zK (zK R k r) .fo (ZS R i ((hdr R i f).set j u))) .de=R .de:=by rw [ZM _ _ (by decide),ZM _ _ hk.2.1.symm]
 have e3:((zK (zK R k r) .fo (ZS R i ((hdr R i f).set j u))) .fo).v=(R .fo).v:=by rw [yN];rfl
 unfold z1p
 rw [e1,e2,e3]
theorem WK.fturn (h:WK X base bw W R c dv st done late) {i g o:Nat} {f:Folder} (hf:st.folders[i]? =some f) (ha:foAt R i g o) {n:Int} (hn:I64 n):
  WK X base bw (W.setCell ⟨g,o+1,none⟩ (.int .i64 n)) (zK R .fo (ZS R i ((hdr R i f).set 1 (.int .i64 n)))) c dv { st with folders:=st.folders.set i { f with turn:=n } } done late/\
  Mut bw R W (zK R .fo (ZS R i ((hdr R i f).set 1 (.int .i64 n)))) (W.setCell ⟨g,o+1,none⟩ (.int .i64 n)):=by
 obtain ⟨_,_,off,hv,rfl⟩:=ha
 have hrow:=h.os.row .fo
 rw [hv] at hrow
 obtain ⟨h1,_⟩:=h.is.fo i f hf
 have hw:=hrow.write (by decide:0 < RK.fo.sz) h1 (show 1 < RK.fo.sz by decide) (.int .i64 n) rfl
 have hg:yU R g:=⟨.fo,by rw [hv];rfl⟩
 obtain ⟨o2,m⟩:=h.os.put (bw:=bw) (W':=W.setCell ⟨g,off+i*7+1,none⟩ (.int .i64 n)) h.base_le .fo (ZS R i ((hdr R i f).set 1 (.int .i64 n)))
  ((ButB.refl _ W).set ⟨g,off+i*7+1,none⟩ _ (by rw [hv];rfl)) (by unfold ZS;rw [hv];exact hw) (by have:=h.os.len .fo;simpa [ZS] using this) (fun b hb=> .inl hb)
 refine ⟨h.turn m o2 (h.is.fTurn hf m.kept hn) ?_,m⟩
 rw [Below.heap_setCell _ _ _ _ fun e=>h.nb (by rw [show bw=g from e];exact hg),h.box]
 have e1:(zK R .fo (ZS R i ((hdr R i f).set 1 (.int .i64 n)))) .us=R .us:=ZM _ _ (by decide)
 have e2:(zK R .fo (ZS R i ((hdr R i f).set 1 (.int .i64 n)))) .de=R .de:=ZM _ _ (by decide)
 have e3:((zK R .fo (ZS R i ((hdr R i f).set 1 (.int .i64 n)))) .fo).v=(R .fo).v:=by rw [yN];rfl
 unfold z1p
 rw [e1,e2,e3]
theorem foAt.keep {R':RM} {i g o:Nat} (h:foAt R i g o) (e:(R' .fo).v=(R .fo).v):foAt R' i g o:=by
 obtain ⟨n,cap,off,hv,rfl⟩:=h
 exact ⟨n,cap,off,e.trans hv,rfl⟩
end
end
section
open Go.RowKit Go.Deep Go.Maps
def Look (ns:List GN) (x:GN) (c:Int) (g:Bool):Prop:=(g=true/\∃i:Nat,ns[i]? =some x/\c=i)\/(g=false/\x∉ns/\c=0)
theorem z2q (ns:List GN) (x:GN):∃c g,Look ns x c g:=by
 by_cases h:x∈ns
 ·obtain ⟨i,hi⟩:=List.getElem?_of_mem h
  exact ⟨i,true,.inl ⟨rfl,i,hi,rfl⟩⟩
 ·exact ⟨0,false,.inr ⟨rfl,h,rfl⟩⟩
theorem Look.mem {ns:List GN} {x:GN} {c:Int} {g:Bool} (h:Look ns x c g):g=true↔x∈ns:=by
 rcases h with ⟨rfl,i,hi,_⟩ | ⟨rfl,h,_⟩
 ·exact ⟨fun _=>List.mem_of_getElem? hi,fun _=>rfl⟩
 ·exact ⟨fun h=>(by cases h),fun h2=>absurd h2 h⟩
section
variable {w:World} {ops:Array Oper} {rest:List Oper} {o:Oper} {a:Act} {Q:Exit->Act->World->Prop}
theorem z6m (w:World) (hg:o.guard=none) (m k:Operand) (hop:o.op=Op.lookup 280 m k true) (b n:Nat) (D:DataW Unit) (ns:List GN) (x:GN) (c:Int) (g:Bool)
  (hm:a.eval m= .map (some b)) (hown:w.ownsMap Tryz.prog 244 (plainElem Tryz.prog 3) b n D) (hI:Idx D ns) (hx:a.eval k=vG x) (hok:OkG x) (hL:Look ns x c g)
  (hK:wpList Tryz.prog ops Q rest (a.put o.dst (.tuple #[.int .i64 c,.bool g])) w):wpList Tryz.prog ops Q (o :: rest) a w:=by
 refine wpList_lookup_own_ok_int w hg m k _ hop 244 3 .i64 keyNode Tryz.underlying280 Tryz.underlying3 (z3o w) b n D hm hown _ _ hx (z9f hok) fun c' hc' _=>?_
 have h1:=hI.look hok hc'
 rcases hL with ⟨rfl,i,hi,rfl⟩ | ⟨rfl,hn,rfl⟩
 ·rcases h1 with ⟨e1,j,hj,rfl⟩ | ⟨_,hn⟩
  ·have e2:D.atKey (kG x) (.lit (.int .i64 0))= .lit (.int .i64 i):=hI.val i x hi _
   rw [e2] at hc'
   have e3:(i:Int)=(j:Int):=by simpa using hc'
   rw [e1,<-e3]
   exact hK
  ·exact absurd (List.mem_of_getElem? hi) hn
 ·rcases h1 with ⟨_,j,hj,rfl⟩ | ⟨e1,_⟩
  ·exact absurd (List.mem_of_getElem? hj) hn
  ·rw [atKey_of_not_has e1] at hc'
   have e3:(0:Int)=c':=by simpa using hc'
   rw [e1,<-e3]
   exact hK
end
def cI (j:Nat):List Value:=[.int .i64 j]
structure GS (w:World) (t b e:Nat) (vn vo:Value) (vs:List Value) (ns:List GN) (adj:List (List Nat)) (D:DataW Unit):Prop where
 cell:w.heap[t]? =some (.cells #[.map (some b),vn,vo,.int .i64 e] 283 (0,0))
 own:w.ownsMap Tryz.prog 244 (plainElem Tryz.prog 3) b ns.length D
 idx:Idx D ns
 nodes:RowC 244 3 w vn (ns.map cG)
 out:RowC 234 1 w vo (vs.map fun v=>[v])
 lenv:vs.length=ns.length
 row:∀(i:Nat) v l,vs[i]? =some v->adj[i]? =some l->RowC 3 1 w v (l.map cI)
 apart:∀(i j:Nat) v u k,vs[i]? =some v->vs[j]? =some u->v.ownBlock=some k->u.ownBlock=some k->i=j
def GB (t b:Nat) (vn vo:Value) (vs:List Value):Nat->Prop:=fun x=>x=t\/x=b\/vn.ownBlock=some x\/vo.ownBlock=some x\/∃v∈vs,v.ownBlock=some x
section
variable {w w':World} {t b e:Nat} {vn vo:Value} {vs:List Value} {ns:List GN} {adj:List (List Nat)} {D:DataW Unit}
theorem GS.of (h:GS w t b e vn vo vs ns adj D) (k:∀x,GB t b vn vo vs x->w'.heap[x]? =w.heap[x]?):GS w' t b e vn vo vs ns adj D:=by
 refine ⟨(k t (.inl rfl)).trans h.cell,?_,h.idx,h.nodes.keep fun x hx=>k x (.inr (.inr (.inl hx))),h.out.keep fun x hx=>k x (.inr (.inr (.inr (.inl hx)))),h.lenv,fun i v l hv hl=>(h.row i v l hv hl).keep fun x hx=>k x (.inr (.inr (.inr (.inr ⟨v,List.mem_of_getElem? hv,hx⟩)))),h.apart⟩
 obtain ⟨es,clock,h1,h2⟩:=h.own
 exact ⟨es,clock,(k b (.inr (.inl rfl))).trans h1,h2⟩
structure GSE (E:List (GN×GN)) (m:Nat) (w:World) (t b e:Nat) (vn vo:Value) (vs:List Value) (ns:List GN) (adj:List (List Nat)) (D:DataW Unit):Prop where
 gs:GS w t b e vn vo vs ns adj D
 rep:GRep E m ns adj
 em:e<=m
theorem GS.lt (h:GS w t b e vn vo vs ns adj D) (hl:adj.length=ns.length):∀x,GB t b vn vo vs x->x < w.heap.size:=by
 rintro x (rfl | rfl | h1 | h1 | ⟨v,hv,h1⟩)
 ·exact zM h.cell
 ·exact h.own.lt
 ·exact h.nodes.lt x h1
 ·exact h.out.lt x h1
 ·obtain ⟨i,hi⟩:=List.getElem?_of_mem hv
  have hil:=(List.getElem?_eq_some_iff.1 hi).1
  rw [h.lenv] at hil
  exact (h.row i v _ hi (List.getElem?_eq_getElem (by omega))).lt x h1
theorem GS.below (h:GS w t b e vn vo vs ns adj D) (hl:adj.length=ns.length) (k:Below w.heap.size w w'):GS w' t b e vn vo vs ns adj D:=h.of fun x hx=>k.block x (h.lt hl x hx)
end
theorem z16 {w:World} {x:Nat} {a b:Array Value} {T U:TypeId} (h:w.heap[x]? =some (.cells a T (0,0))) (k:w.heap[x]? =some (.cells b U (0,0))):T=U:=by
 rw [h] at k
 simp only [Option.some.injEq,Obj.cells.injEq] at k
 exact k.2.1
theorem yA {w:World} {e:TypeId} {sz:Nat} {v:Value} {l:List (List Value)} (h:RowC e sz w v l) {x:Nat} (hx:v.ownBlock=some x):∃a,w.heap[x]? =some (.cells a e (0,0)):=by
 rcases h.2 with ⟨rfl,_⟩ | ⟨g,off,cap,cur,rfl,hg,_⟩
 ·cases hx
 ·obtain rfl:g=x:=Option.some.inj hx
  exact ⟨cur,hg⟩
theorem z0u {w:World} {P:Program} {k:TypeId} {R:Value->Option (DataW Unit×List MemPlace)} {b n x:Nat} {D:DataW Unit} (h:w.ownsMap P k R b n D) {a:Array Value} {T:TypeId} (hx:w.heap[x]? =some (.cells a T (0,0))):x≠b:=by
 rintro rfl
 obtain ⟨_,_,h1,_⟩:=h
 rw [h1] at hx
 cases hx
theorem zEd (w:World) (a:Nat):(binOp .neq 280 (.map (some a)) (.map none)).run Tryz.prog w= .ok (.bool true) w:=by
 simp only [binOp]
 simp [run_equal_map_nil w _ _ _ (some a) Tryz.underlying280]
theorem zA0 {w:World} {t b e:Nat} {vn vo:Value} {vs:List Value} {ns:List GN} {adj:List (List Nat)} {D:DataW Unit} (h:GS w t b e vn vo vs ns adj D):Calls Tryz.prog 240 #[.pointer (some ⟨t,0,none⟩)] w fun e w'=>e= .returned (.bool true)/\w'=w:=by
 obtain ⟨cb,_⟩:=zD h.cell
 have c0:=cb 0 _ rfl
 clear cb h
 have hq:=zEd
 go_enter Tryz.func240,Tryz.ntmps240
 go_wp2
 go_ret
 exact ⟨rfl,rfl⟩
theorem zNk (w:World):Calls Tryz.prog 222 #[] w fun e w'=>(∃t b,e= .returned (.pointer (some ⟨t,0,none⟩))/\GSE [] 0 w' t b 0 (.slice none 0 0) (.slice none 0 0) [] [] [] (.map [])/\w.heap.size<=t/\w.heap.size<=b)/\Below w.heap.size w w':=by
 have hmm:=@run_makeMap Tryz.prog
 go_enter Tryz.func222,Tryz.ntmps222
 go_wp2
 go_ret
 refine ⟨⟨_,w.heap.size,rfl,⟨⟨zH _ (by simp),(World.ownsMap_made _ _ _ _).alloc _,Idx.start,RowC.nil _,RowC.nil _,rfl,fun i v l h=>by simp at h,fun i j v u k h=>by simp at h⟩,GRep.start,Nat.le_refl _⟩,by simp,Nat.le_refl _⟩,by go_grown⟩
def zB3 (l:List Nat) (x:Nat):Bool:=l.any fun y=>decide (y=x)
theorem z9g {l:List Nat} {x:Nat}:zB3 l x=true↔x∈l:=by simp [zB3]
theorem zHo (l:List Nat) (v:Value) (x:Nat) (w:World) (h:RowC 3 1 w v (l.map cI)) (hl:l.length<=10000):Calls Tryz.prog 247 #[v,.int .i64 x] w fun e w'=>(∃i:Int,e= .returned (.int .i64 i)/\(decide (0<=i))=zB3 l x)/\w'=w:=by
 obtain ⟨A,c,rfl,_⟩:=h.shape
 rw [List.length_map] at h⊢
 have HR:=zh h
 clear h
 go_enter Tryz.func247,Tryz.ntmps247
 go_wp2
 go_loop [8] (fun i=>∃k:Nat,k<=l.length/\i= .int .i64 k/\Hid (x∉l.take k)) (fun i=>l.length - (RowKit.intOf i).toNat)
 case atStart=>exact ⟨0,by omega,by go_num,by simp [Hid]⟩
 case round=>
  obtain ⟨k,_,rfl,HK⟩:=hrel
  by_cases hlt:k < l.length
  ·obtain ⟨y,hy⟩:∃y,l[k]? =some y:=⟨_,List.getElem?_eq_getElem hlt⟩
   obtain ⟨g,o,cap,hv,-,hcm,-,hc,-⟩:=HR.out.at (i:=k) (x:=cI y) (by rw [List.getElem?_map,hy];rfl)
   unfold maxLen at hcm
   obtain ⟨rfl,-,rfl⟩:A=some ⟨g,o,none⟩/\l.length=(l.map cI).length/\c=cap:=by simpa using hv
   have q:=hc 0 _ rfl
   rw [Nat.mul_one,Nat.add_zero] at q
   clear hc hv
   by_cases e:x=y
   ·subst e
    have M:=zh (z9g.2 (List.mem_of_getElem? hy))
    clear hy
    go_wp2
    go_ret
    exact ⟨⟨_,rfl,by rw [M.out];simp⟩,rfl⟩
   ·have e1:((x:Int)==(y:Int))=false:=by simp;omega
    have HK2:=zh (show x∉l.take (k+1) by rw [List.take_add_one,hy];simp [e];exact HK.out)
    clear hy e
    go_wp2
    go_round
    case rel=>exact ⟨k+1,by omega,by go_num,HK2⟩
    case measure=>simp [RowKit.intOf];omega
  ·obtain rfl:k=l.length:=by omega
   have M:=zh (show zB3 l x=false by rw [<-Bool.not_eq_true,z9g];have:=HK.out;rwa [List.take_length] at this)
   go_wp2
   go_ret
   exact ⟨⟨_,rfl,by rw [M.out];rfl⟩,rfl⟩
theorem zDr (l:List Nat) (v:Value) (x:Nat) (w:World) (h:RowC 3 1 w v (l.map cI)) (hl:l.length<=10000):Calls Tryz.prog 246 #[v,.int .i64 x] w fun e w'=>e= .returned (.bool (zB3 l x))/\w'=w:=by
 obtain ⟨_,_,rfl,_⟩:=h.shape
 rw [List.length_map] at h⊢
 have hi:=zh (zHo l _ x w h hl)
 clear h
 go_enter Tryz.func246,Tryz.ntmps246
 go_wp2_with (go_at_call 247;refine Calls.mono hi.out ?_;rintro e _ ⟨⟨_,rfl,hm⟩,rfl⟩;have HM:=zh hm;clear hm)
 go_ret
 exact ⟨ZL HM.out,rfl⟩
end
section
open Go.RowKit Go.Deep
theorem z0o {α:Type} {S:Nat->Prop} {W:World} {e:TypeId} {sz:Nat} {Q:Rp α} (ok:RpOk sz Q) {v:Value} {cells:List (List Value)} {l:List α} (h:RowC e sz W v cells) (hl:cells.length<=10000) (k:All2 (Q S W) cells l) (hv0:∀b,v.ownBlock=some b->S b):Sl sz Q S W v l:=by
 obtain ⟨A,c,e,h1,h2,h3,hs⟩:=z08 ok h hl k
 refine ⟨A,c,e,h1,h2,h3,fun i y hy=>?_⟩
 obtain ⟨g,off,_,q1,_,_,_,_⟩:=hs i y hy
 obtain ⟨x2,hx2,hp⟩:=k.at hy
 obtain ⟨_,_,_,hv2,_,_,_,hc2,_⟩:=h.at hx2
 rw [e] at hv2
 simp only [Value.slice.injEq] at hv2
 rw [q1] at hv2
 simp only [Option.some.injEq,Addr.mk.injEq,and_true] at hv2
 obtain ⟨⟨rfl,rfl⟩,_⟩:=hv2
 refine ⟨g,off,x2,q1,hv0 g (by rw [e,q1];rfl),ok.len hp,fun j u hj=>?_,hp⟩
 rw [<-Nat.add_assoc]
 exact hc2 j u hj
theorem zMq (w:World) (a:Option Addr) (n c:Nat):(binOp .eql 39 (.slice a n c) (.slice none 0 0)).run Tryz.prog w= .ok (.bool a.isNone) w:=by
 simp only [binOp]
 simp [run_equal_slice_nil w _ _ a n c Tryz.underlying39]
theorem z79 (l:List Int) (v:Value) (w:World) (S:Nat->Prop) (h:Sl 1 yI S w v l) (hl0:l.length<=10000):
  Calls Tryz.prog 40 #[v] w (z0n 5 1 yI S l w):=by
 obtain ⟨ix,hi,hz,h1,h2⟩:=info_parts (show (Tryz.prog.info? 5).map (fun i=>(i.zero,i.size,i.bytes))=some (some (.int .u8 0),1,1) from by kernel_rfl)
 obtain ⟨A,_,rfl,hl,hc,_,hs⟩:=h
 unfold maxLen at hc
 have q22:=zMq
 rcases A with _ | ad
 ·obtain rfl:l=[]:=by
   cases l with
   | nil=>rfl
   | cons x r=>obtain ⟨_,_,_,h,_⟩:=hs 0 x rfl;cases h
  clear hs
  go_enter Tryz.func40,Tryz.ntmps40
  go_wp2
  go_ret
  exact ⟨⟨_,[],rfl,RowC.nil _,All2.nil,fun b hb=>by cases hb⟩,Below.refl _ _⟩
 ·have hsl:SlAt 1 yI (z1e (fun b=>¬S b) (w.alloc (.cells #[] 5)) (.slice (some ⟨w.heap.size,0,none⟩) 0 0)) (w.alloc (.cells #[] 5)) (some ad) l:=
   hs.keep rByte_ok (by decide) (fun b hb hl=>⟨⟨by simp;omega,fun h=>h hb,fun hb'=>by simp only [Value.ownBlock,Option.some.injEq] at hb';omega⟩,heap_alloc_old _ _ hl⟩)
  clear hs
  go_enter Tryz.func40,Tryz.ntmps40
  go_wp2_with (at_builtin;go_loud (refine yT (R:=yI) _ rfl (.tmp 5) (.tmp 6) 39 rfl 5 ix _ 1 1 Tryz.underlying39 hi hz h1 h2 rfl (by decide) rByte_ok w.heap.size (by go_size) _ _ rfl (Grow.empty (heap_alloc_new _ _) (Nat.le_refl _)) _ _ _ rfl _ rfl hsl (by simp;omega) (by decide) ?_);intro v1 w1 g1 gg1 go1;rw [List.nil_append] at g1;obtain ⟨_,_,_,rfl,hn1⟩:=g1.shape';clear hn1)
  go_ret
  obtain ⟨cells,k1,k2,k3⟩:=Grow.toRow rByte_ok (by decide) g1 fun b hb=>Classical.byContradiction hb
  exact ⟨⟨_,cells,rfl,k1,k2,k3⟩,Below.grown (Below.alloc (Below.refl _ _) (Nat.le_refl _) _) gg1 (by simp) fun b hb=>by have:=Option.some.inj (show some w.heap.size=some b from hb);omega⟩
end
section
open Go.RowKit Go.Deep Go.Maps
theorem z3f {n:Nat} {w w':World} (h:Below n w w'):∀q,Below n w (w'.drewN q)
 | 0=>h
 | q+1=>(z3f h q).drew
def neN (f:Bool) (s:Nm) (n:Int) (f':Bool) (s':Nm) (n':Int):Bool:=!(f==f' && (s.toList==s'.toList && n==n'))
theorem zEe (w:World) (f:Bool) (s:Nm) (n:Int) (f':Bool) (s':Nm) (n':Int):(binOp .neq 244 (.agg #[.bool f,.string s,.int .i64 n]) (.agg #[.bool f',.string s',.int .i64 n'])).run Tryz.prog w= .ok (.bool (neN f s n f' s' n')) w:=by
 have sh:Tryz.prog.stoodInHeld 244=false:=by kernel_rfl
 have uf:=Tryz.underlying244
 have u1:=Tryz.underlying4
 have u2:=Tryz.underlying9
 have u3:=Tryz.underlying3
 go_simp
 unfold neN
 by_cases e1:f=f'<;>by_cases e2:s.toList=s'.toList<;>by_cases e3:n=n'<;>simp [e1,e2,e3]
theorem z59 {w W:World} {b n:Nat} {D:DataW Unit} {ns:List GN} {x:GN} {c:Int} {g:Bool} (hown:w.ownsMap Tryz.prog 244 (plainElem Tryz.prog 3) b n D) (hI:Idx D ns) (hok:OkG x) (hL:Look ns x c g) (hW:W.heap=w.heap):
  (Instr.lookup 280 (.map (some b)) (vG x) true).run Tryz.prog W= .ok (.tuple #[.int .i64 c,.bool g]) W:=by
 have hown':W.ownsMap Tryz.prog 244 (plainElem Tryz.prog 3) b n D:=by
  obtain ⟨es,clock,h1,h2⟩:=hown
  exact ⟨es,clock,by rw [hW];exact h1,h2⟩
 obtain ⟨_,_,hrun,hv⟩:=hown'.look_ok keyNode Tryz.underlying280 (z3o W) (plainElem_int Tryz.underlying3 (by decide)) (z9f hok)
 obtain ⟨c',rfl,hc,_⟩:=plainElem_int_inv Tryz.underlying3 hv
 rw [hrun]
 have hc':D.atKey (kG x) (.lit (.int .i64 0))= .lit (.int .i64 c'):=congrArg Prod.fst hc
 have h1:=hI.look hok hc'
 rcases hL with ⟨rfl,i,hi,rfl⟩ | ⟨rfl,hn,rfl⟩
 ·rcases h1 with ⟨e1,j,hj,rfl⟩ | ⟨_,hn⟩
  ·have e2:D.atKey (kG x) (.lit (.int .i64 0))= .lit (.int .i64 i):=hI.val i x hi _
   rw [e2] at hc'
   have e3:(i:Int)=(j:Int):=by simpa using hc'
   rw [e1,e3]
  ·exact absurd (List.mem_of_getElem? hi) hn
 ·rcases h1 with ⟨_,j,hj,rfl⟩ | ⟨e1,_⟩
  ·exact absurd (List.mem_of_getElem? hj) hn
  ·rw [atKey_of_not_has e1] at hc'
   have e3:(0:Int)=c':=by simpa using hc'
   rw [e1,<-e3]
set_option maxHeartbeats 1000000 in
theorem zJy {w:World} {t b e:Nat} {vn vo:Value} {vs:List Value} {ns:List GN} {adj:List (List Nat)} {D:DataW Unit} (h:GS w t b e vn vo vs ns adj D) (hl:adj.length=ns.length) (x y:GN) (hx:OkG x) (hy:OkG y):Calls Tryz.prog 242 #[.pointer (some ⟨t,0,none⟩),vG x,vG y] w fun e w'=>(∃n:Int,e= .returned (.int .i64 n)/\0<=n/\n<=2)/\Below w.heap.size w w':=by
 obtain ⟨W1,hW1,b1,f1,B1,q1⟩:=zQ w #[.bool x.1,.string x.2.1,.int .i64 x.2.2] 244
 obtain ⟨W2,hW2,b2,f2,B2,_⟩:=zQ W1 #[.bool y.1,.string y.2.1,.int .i64 y.2.2] 244
 have B12:=B1.trans (B2.mono B1.size)
 have h2:=h.below hl B12
 obtain ⟨cb,_⟩:=zD h2.cell
 have c0:=cb 0 _ rfl
 obtain ⟨_,g,L⟩:=z2q ns x
 obtain ⟨_,g',L'⟩:=z2q ns y
 have k1:=fun (W:World) (hW:W.heap=W2.heap)=>z59 h2.own h2.idx hx L hW
 have k2:=fun (W:World) (hW:W.heap=W2.heap)=>z59 h2.own h2.idx hy L' hW
 have HW1:=zh hW1
 have HW2:=zh hW2
 have HB:=zh B12
 clear cb h h2 hl L L' hx hy hW1 hW2 B12
 obtain ⟨f,s,n⟩:=x
 obtain ⟨f',s',n'⟩:=y
 simp only [vG] at k1 k2⊢
 have x0:=(B2.cell (p:=⟨w.heap.size,0,none⟩) q1).trans (b1 0 _ rfl)
 have x1:=(B2.cell (p:=⟨w.heap.size,1,none⟩) q1).trans (b1 1 _ rfl)
 have x2:=(B2.cell (p:=⟨w.heap.size,2,none⟩) q1).trans (b1 2 _ rfl)
 have y0:=b2 0 _ rfl
 have y1:=b2 1 _ rfl
 have y2:=b2 2 _ rfl
 dsimp only at x0 x1 x2 y0 y1 y2
 have k10:=k1 W2 rfl
 have k20:=k2 W2 rfl
 have k11:=fun q=>k1 (W2.drewN q) rfl
 have k21:=fun q=>k2 (W2.drewN q) rfl
 clear k1 k2 b1 b2 f1 f2
 have hq:=zEe
 have eg:Tryz.prog.eqGuardType Tryz.prog.depth 244=false:=by kernel_rfl
 cases hne:neN f' s' n' f s n<;>cases g<;>cases g'<;>
 ·go_enter Tryz.func242,Tryz.ntmps242
  have hW1:=HW1.out
  have hW2:=HW2.out
  dsimp only at hW1 hW2
  go_wp2_with fail
  go_quiet (fail)
  go_wp2_with fail
  go_quiet (fail)
  go_wp2
  go_ret
  exact ⟨⟨_,rfl,by decide,by decide⟩,z3f HB.out _⟩
theorem zNl {E:List (GN×GN)} {m:Nat} {ns:List GN} {adj:List (List Nat)} (h:GRep E m ns adj) {x y:GN} {i j:Nat} {l:List Nat} (hi:ns[i]? =some x) (hj:ns[j]? =some y) (hl:adj[i]? =some l):zB3 l j=true↔(x,y)∈E:=by
 rw [z9g,h.edge]
 constructor
 ·exact fun hm=>⟨i,j,l,hi,hj,hl,hm⟩
 ·rintro ⟨_,_,_,h1,h2,h3,h4⟩
  obtain rfl:=z9e h.nodup h1 hi
  obtain rfl:=z9e h.nodup h2 hj
  obtain rfl:=Option.some.inj (h3.symm.trans hl)
  exact h4
theorem zGv {E:List (GN×GN)} {m:Nat} {ns:List GN} {adj:List (List Nat)} (h:GRep E m ns adj) {x y:GN} (hn:x∉ns\/y∉ns):(x,y)∉E:=by
 rw [h.edge]
 rintro ⟨_,_,_,h1,h2,_,_⟩
 rcases hn with hn | hn
 ·exact hn (List.mem_of_getElem? h1)
 ·exact hn (List.mem_of_getElem? h2)
set_option maxHeartbeats 1000000 in
theorem zNm {E:List (GN×GN)} {m:Nat} {w:World} {t b e:Nat} {vn vo:Value} {vs:List Value} {ns:List GN} {adj:List (List Nat)} {D:DataW Unit} (hE:GSE E m w t b e vn vo vs ns adj D) (hm:m<=9000) (x y:GN) (hx:OkG x) (hy:OkG y):Calls Tryz.prog 241 #[.pointer (some ⟨t,0,none⟩),vG x,vG y] w fun e w'=>(∃r:Bool,e= .returned (.bool r)/\(r=true↔(x,y)∈E))/\Below w.heap.size w w':=by
 obtain ⟨W1,hW1,b1,f1,B1,q1⟩:=zQ w #[.bool x.1,.string x.2.1,.int .i64 x.2.2] 244
 obtain ⟨W2,hW2,b2,f2,B2,_⟩:=zQ W1 #[.bool y.1,.string y.2.1,.int .i64 y.2.2] 244
 have B12:=B1.trans (B2.mono B1.size)
 have h2:=hE.gs.below hE.rep.len B12
 have HR:=zh hE.rep
 obtain ⟨cb,_⟩:=zD h2.cell
 have c0:=cb 0 _ rfl
 have c2:=cb 2 _ rfl
 obtain ⟨c,g,L⟩:=z2q ns x
 obtain ⟨c',g',L'⟩:=z2q ns y
 have k1:=fun (W:World) (hW:W.heap=W2.heap)=>z59 h2.own h2.idx hx L hW
 have k2:=fun (W:World) (hW:W.heap=W2.heap)=>z59 h2.own h2.idx hy L' hW
 have HW1:=zh hW1
 have HW2:=zh hW2
 have HB:=zh B12
 have H2:=zh h2
 have HL:=zh L
 have HL':=zh L'
 clear cb hE h2 L L' hx hy hW1 hW2 B12
 obtain ⟨f,s,n⟩:=x
 obtain ⟨f',s',n'⟩:=y
 simp only [vG] at k1 k2⊢
 have x0:=(B2.cell (p:=⟨w.heap.size,0,none⟩) q1).trans (b1 0 _ rfl)
 have x1:=(B2.cell (p:=⟨w.heap.size,1,none⟩) q1).trans (b1 1 _ rfl)
 have x2:=(B2.cell (p:=⟨w.heap.size,2,none⟩) q1).trans (b1 2 _ rfl)
 have y0:=b2 0 _ rfl
 have y1:=b2 1 _ rfl
 have y2:=b2 2 _ rfl
 dsimp only at x0 x1 x2 y0 y1 y2
 have k10:=k1 W2 rfl
 have k20:=k2 W2 rfl
 have k11:=fun q=>k1 (W2.drewN q) rfl
 have k21:=fun q=>k2 (W2.drewN q) rfl
 clear k1 k2 b1 b2 f1 f2
 by_cases hg:g=true/\g'=true
 ·obtain ⟨rfl,rfl⟩:=hg
  obtain ⟨i,hi,rfl⟩:∃i:Nat,ns[i]? =some (f,s,n)/\c=i:=by
   rcases HL.out with ⟨_,h⟩ | ⟨h,_⟩
   ·exact h
   ·cases h
  obtain ⟨j,hj,rfl⟩:∃i:Nat,ns[i]? =some (f',s',n')/\c'=i:=by
   rcases HL'.out with ⟨_,h⟩ | ⟨h,_⟩
   ·exact h
   ·cases h
  have hil:=(List.getElem?_eq_some_iff.1 hi).1
  obtain ⟨l,hl⟩:∃l,adj[i]? =some l:=⟨_,List.getElem?_eq_getElem (by rw [HR.out.len];exact hil)⟩
  obtain ⟨v,hv⟩:∃v,vs[i]? =some v:=⟨_,List.getElem?_eq_getElem (by rw [H2.out.lenv];exact hil)⟩
  obtain ⟨_,_,_,rfl,-,hcm,-,hc,-⟩:=H2.out.out.at (i:=i) (x:=[v]) (by rw [List.getElem?_map,hv];rfl)
  have z0:=hc 0 _ rfl
  rw [Nat.mul_one,Nat.add_zero] at z0
  rw [List.length_map,H2.out.lenv] at c2
  have hil2:(i:Int) < (ns.length:Int):=by omega
  have hns:ns.length<=9000:=Nat.le_trans HR.out.small hm
  have HD:=zh (zNl HR.out hi hj hl)
  have hrow:=H2.out.row i v l hv hl
  have HC:=zh (fun q=>zDr l v j (W2.drewN q) (hrow.keep fun _ _=>rfl) (by have:=HR.out.deg i l hl;omega))
  clear hc hi hj hl hv hrow hcm
  go_enter Tryz.func241,Tryz.ntmps241
  have hW1:=HW1.out
  have hW2:=HW2.out
  dsimp only at hW1 hW2
  go_wp2_with fail
  go_quiet (fail)
  go_wp2_with fail
  go_quiet (fail)
  go_wp2_with (go_at_call 246;refine Calls.mono (HC.out _) ?_;rintro e _ ⟨rfl,rfl⟩)
  go_ret
  exact ⟨⟨_,rfl,HD.out⟩,z3f HB.out _⟩
 ·have HN:=zh (zGv (x:=(f,s,n)) (y:=(f',s',n')) HR.out (by
   by_cases h1:(f,s,n)∈ns
   ·right
    intro h2
    exact hg ⟨HL.out.mem.2 h1,HL'.out.mem.2 h2⟩
   ·exact .inl h1))
  cases g<;>cases g'
  rotate_right
  ·exact absurd ⟨rfl,rfl⟩ hg
  all_goals
   clear hg
   go_enter Tryz.func241,Tryz.ntmps241
   have hW1:=HW1.out
   have hW2:=HW2.out
   dsimp only at hW1 hW2
   go_wp2_with fail
   go_quiet (fail)
   go_wp2_with fail
   go_quiet (fail)
   go_wp2
   go_ret
   exact ⟨⟨_,rfl,by simp;exact HN.out⟩,z3f HB.out _⟩
end
section
open Go.RowKit Go.Deep
structure IsFoQ (S:Nat->Prop) (W:World) (R:RM) (i:Nat) (f:Folder) (q:Nat):Prop where
 name:f.name.size<=140737488355328
 turn:I64 f.turn
 man:All2 (ZQ S W) (R (.ma i)).cells f.manifests
 ep:All2 (Y5 S W) (R (.ep i)).cells f.epochs
 itl:(R (.it i)).cells.length=f.items.length
 it:∀j x,f.items[j]? =some x->if j < q then (R (.it i)).cells[j]? =some [.string x.name,(R (.ve i j)).v]/\x.name.size<=140737488355328/\All2 (yC S W) (R (.ve i j)).cells x.versions else ∃cs,(R (.it i)).cells[j]? =some cs/\yW S W cs x
 wr:All2 (Y1 S W) (R (.wr i)).cells f.wraps
 li:All2 (YK S W) (R (.li i)).cells f.links
structure CP (X:Nat->Prop) (bc base:Nat) (W:World) (R:RM) (st:State) (md:Nat->Option Nat):Prop where
 os:OS base W R
 nb:¬yU R bc
 lt:bc < W.heap.size
 bb:base<=bc
 nx:∀b,yU R b\/b=bc->¬X b
 xl:∀b,X b->b < W.heap.size
 us:All2 (YS (Imm X bc R W) W) (R .us).cells st.users
 de:All2 (YN (Imm X bc R W) W) (R .de).cells st.deposits
 fol:(R .fo).cells.length=st.folders.length
 fo:∀i f,st.folders[i]? =some f->match md i with
  | none=>∃cs,(R .fo).cells[i]? =some cs/\ZE (Imm X bc R W) W cs f
  | some q=>(R .fo).cells[i]? =some (hdr R i f)/\IsFoQ (Imm X bc R W) W R i f q
section
variable {X:Nat->Prop} {bc base:Nat} {W W':World} {R R':RM} {st:State} {md:Nat->Option Nat} {S S':Nat->Prop} {i q:Nat} {f:Folder}
theorem IsFoQ.keep (h:IsFoQ S W R i f q) (k:Kept S S' W W'):IsFoQ S' W' R i f q:=
 ⟨h.name,h.turn,h.man.imp fun _ _ h=>YC h k,h.ep.imp fun _ _ h=>z0x h k,h.itl,fun j x hx=>by
  have:=h.it j x hx
  split
  ·rename_i hj
   rw [if_pos hj] at this
   exact ⟨this.1,this.2.1,this.2.2.imp fun _ _ h=>YY h k⟩
  ·rename_i hj
   rw [if_neg hj] at this
   obtain ⟨cs,h1,h2⟩:=this
   exact ⟨cs,h1,z3z h2 k⟩,h.wr.imp fun _ _ h=>z20 h k,h.li.imp fun _ _ h=>z40 h k⟩
theorem IsFoQ.rows (h:IsFoQ S W R i f q) (e1:R' (.ma i)=R (.ma i)) (e2:R' (.ep i)=R (.ep i)) (e3:R' (.it i)=R (.it i)) (e4:R' (.wr i)=R (.wr i)) (e5:R' (.li i)=R (.li i)) (e6:∀j,R' (.ve i j)=R (.ve i j)):IsFoQ S W R' i f q:=
 ⟨h.name,h.turn,by rw [e1];exact h.man,by rw [e2];exact h.ep,by rw [e3];exact h.itl,fun j x hx=>by rw [e3,e6 j];exact h.it j x hx,by rw [e4];exact h.wr,by rw [e5];exact h.li⟩
theorem IsFoQ.full (h:IsFoQ S W R i f q) (hq:f.items.length<=q) {q':Nat} (hq':f.items.length<=q'):IsFoQ S W R i f q':=
 ⟨h.name,h.turn,h.man,h.ep,h.itl,fun j x hx=>by
  have hj:=(List.getElem?_eq_some_iff.1 hx).1
  have:=h.it j x hx
  rw [if_pos (by omega)] at this
  rw [if_pos (by omega)]
  exact this,h.wr,h.li⟩
theorem CP.turn (h:CP X bc base W R st md) {p:Nat} (hf:st.folders[p]? =some f) (m:Mut bc R W R' W') (os:OS base W' R') (hus:R' .us=R .us) (hde:R' .de=R .de)
  (ho:∀i',i'≠p->R' (.ma i')=R (.ma i')/\R' (.ep i')=R (.ep i')/\R' (.it i')=R (.it i')/\R' (.wr i')=R (.wr i')/\R' (.li i')=R (.li i')/\∀j,R' (.ve i' j)=R (.ve i' j))
  (hfo:(R' .fo).cells=(R .fo).cells.set p (hdr R' p f)) (hF:IsFoQ (Imm X bc R' W') W' R' p f q):CP X bc base W' R' st (fun i=>if i=p then some q else md i):=by
 have k:=m.kept (X:=X)
 refine ⟨os,fun e=>(m.fresh bc e).elim h.nb fun hl=>by have:=h.lt;omega,Nat.lt_of_lt_of_le h.lt m.but.size,h.bb,fun b e hx=>?_,fun b hx=>Nat.lt_of_lt_of_le (h.xl b hx) m.but.size,by rw [hus];exact h.us.imp fun _ _ e=>z1h e k,by rw [hde];exact h.de.imp fun _ _ e=>z1y e k,by rw [hfo];simp [h.fol],fun i g hg=>?_⟩
 ·rcases e with e | e
  ·rcases m.fresh b e with e | e
   ·exact h.nx b (.inl e) hx
   ·have:=h.xl b hx
    omega
  ·exact h.nx b (.inr e) hx
 ·by_cases hi:i=p
  ·subst hi
   rw [hf] at hg
   obtain rfl:=Option.some.inj hg
   simp only [if_true]
   refine ⟨?_,hF⟩
   rw [hfo,List.getElem?_set_self (by rw [h.fol];exact (List.getElem?_eq_some_iff.1 hf).1)]
  ·have hq:=h.fo i g hg
   simp only [hi,if_false]
   obtain ⟨a1,a2,a3,a4,a5,a6⟩:=ho i hi
   have hc:(R' .fo).cells[i]? =(R .fo).cells[i]? :=by rw [hfo,List.getElem?_set_ne fun e=>hi e.symm]
   rw [hc]
   cases hm:md i with
   | none=>
    rw [hm] at hq
    obtain ⟨cs,h1,h2⟩:=hq
    exact ⟨cs,h1,ZC h2 k⟩
   | some q'=>
    rw [hm] at hq
    obtain ⟨h1,h2⟩:=hq
    refine ⟨?_,(h2.keep k).rows a1 a2 a3 a4 a5 a6⟩
    rw [h1]
    unfold hdr
    rw [a1,a2,a3,a4,a5]
theorem CP.mode (h:CP X bc base W R st md) {md':Nat->Option Nat} (e:∀i,i < st.folders.length->md' i=md i):CP X bc base W R st md':=
 ⟨h.os,h.nb,h.lt,h.bb,h.nx,h.xl,h.us,h.de,h.fol,fun i f hf=>by rw [e i (List.getElem?_eq_some_iff.1 hf).1];exact h.fo i f hf⟩
theorem CP.below (h:CP X bc base W R st md) (hb:Below W.heap.size W W'):CP X bc base W' R st md:=by
 have m:Mut bc R W R W':=Mut.below hb
 have k:=m.kept (X:=X)
 refine ⟨h.os.below hb,h.nb,Nat.lt_of_lt_of_le h.lt hb.size,h.bb,h.nx,fun b hx=>Nat.lt_of_lt_of_le (h.xl b hx) hb.size,h.us.imp fun _ _ e=>z1h e k,h.de.imp fun _ _ e=>z1y e k,h.fol,fun i f hf=>?_⟩
 have hq:=h.fo i f hf
 cases hm:md i with
 | none=>
  rw [hm] at hq
  obtain ⟨cs,h1,h2⟩:=hq
  exact ⟨cs,h1,ZC h2 k⟩
 | some q'=>
  rw [hm] at hq
  exact ⟨hq.1,hq.2.keep k⟩
theorem CP.done (h:CP X bc base W R st md) (ht:I64 st.turn) (hm:∀i f,st.folders[i]? =some f->∃q,md i=some q/\f.items.length<=q):IsSt (Imm X bc R W) W R st:=
 ⟨ht,h.us,h.de,h.fol,fun i f hf=>by
  obtain ⟨q,e,_⟩:=hm i f hf
  have k:=h.fo i f hf
  rw [e] at k
  obtain ⟨k1,k2⟩:=k
  refine ⟨k1,k2.name,k2.turn,k2.man,k2.ep,k2.itl,fun j x hx=>?_,k2.wr,k2.li⟩
  have:=k2.it j x hx
  rwa [if_pos (by have:=(List.getElem?_eq_some_iff.1 hx).1;omega)] at this⟩
theorem Mut.low (m:Mut bc R W R' W') (os:OS base W R) (hb:base<=bc) (hw:base<=W.heap.size):Below base W W':=
 ⟨m.but.os,m.but.tape,m.but.output,m.but.size,fun b h=>m.but.block b (Nat.lt_of_lt_of_le h hw) fun e=>by
  rcases e with e | ⟨k,e⟩
  ·omega
  ·have:=os.low k b e
   omega⟩
structure ST (bc base:Nat) (W0:World) (R0:RM) (W:World) (R:RM):Prop where
 os:OS base W R
 m:Mut bc R0 W0 R W
 hb:base<=W.heap.size
theorem CP.stage (h:CP X bc base W R st md):ST bc base W R W R:=⟨h.os,Mut.refl _ _ _,Nat.le_trans h.bb (Nat.le_of_lt h.lt)⟩
theorem ST.row {W0 W1:World} {R0:RM} (h:ST bc base W0 R0 W R) (hB:Below W.heap.size W W1) (k:RK) (r:Row) (hr:RowC k.ty k.sz W1 r.v r.cells) (hl:r.cells.length<=10000) (ho:∀b,r.v.ownBlock=some b->W.heap.size<=b):ST bc base W0 R0 W1 (zK R k r):=by
 obtain ⟨o,m⟩:=h.os.put (bw:=bc) (W':=W1) h.hb k r (ButB.of hB) hr hl fun b hb=> .inr (ho b hb)
 exact ⟨o,h.m.trans m,Nat.le_trans h.hb hB.size⟩
theorem ST.cell {W0:World} {R0:RM} (h:ST bc base W0 R0 W R) (k:RK) {a off n cp:Nat} (hv:(R k).v= .slice (some ⟨a,off,none⟩) n cp) {i j:Nat} {x:List Value} (hx:(R k).cells[i]? =some x) (hj:j < k.sz) {u:Value} (hu:u.oneCell'=true):
  ST bc base W0 R0 (W.setCell ⟨a,off+i*k.sz+j,none⟩ u) (zK R k ⟨(R k).v,(R k).cells.set i (x.set j u)⟩):=by
 have hr:=h.os.row k
 rw [hv] at hr
 have hw:=hr.write (by omega) hx hj u hu
 obtain ⟨o1,m1⟩:=h.os.put (bw:=bc) (W':=W.setCell ⟨a,off+i*k.sz+j,none⟩ u) h.hb k ⟨(R k).v,(R k).cells.set i (x.set j u)⟩ ((ButB.refl _ W).set ⟨a,off+i*k.sz+j,none⟩ u (by rw [hv];rfl)) (by rw [hv];exact hw) (by have:=h.os.len k;simpa using this) (fun b hb=> .inl hb)
 exact ⟨o1,h.m.trans m1,by rw [World.size_setCell];exact h.hb⟩
theorem Kept.shift {S S':Nat->Prop} {W Wa Wg:World} (hB:Below W.heap.size W Wa) (hS:∀b,S b->b < W.heap.size) (k:Kept S S' W Wg):Kept S S' Wa Wg:=fun b hb _=>by
 obtain ⟨h1,h2⟩:=k b hb (hS b hb)
 exact ⟨h1,h2.trans (hB.block b (hS b hb)).symm⟩
theorem CP.head (h:CP X bc base W R st md) {p:Nat} (hf:st.folders[p]? =some f) {w2 w3 w4 w5 w6:Value} (hx:(R .fo).cells[p]? =some [.string f.name,.int .i64 f.turn,w2,w3,w4,w5,w6]) (hn:f.name.size<=140737488355328) (ht:I64 f.turn)
  {a off n cp:Nat} (hv:(R .fo).v= .slice (some ⟨a,off,none⟩) n cp) {Wa Wb Wc Wd We Wf:World} {v1 v2 v3 v4 v5:Value} {c1 c2 c3 c4 c5:List (List Value)}
  (B1:Below W.heap.size W Wa) (r1:RowC 84 8 Wa v1 c1) (a1:All2 (ZQ (Imm X bc R W) Wa) c1 f.manifests) (l1:∀b,v1.ownBlock=some b->W.heap.size<=b) (o1:v1.oneCell'=true)
  (B2:Below Wa.heap.size Wa Wb) (r2:RowC 130 5 Wb v2 c2) (a2:All2 (Y5 (Imm X bc R W) Wb) c2 f.epochs) (l2:∀b,v2.ownBlock=some b->Wa.heap.size<=b) (o2:v2.oneCell'=true)
  (B3:Below Wb.heap.size Wb Wc) (r3:RowC 78 2 Wc v3 c3) (a3:All2 (yW (Imm X bc R W) Wc) c3 f.items) (l3:∀b,v3.ownBlock=some b->Wb.heap.size<=b) (o3:v3.oneCell'=true)
  (ed:Wd=((Wc.setCell ⟨a,off+p*7+2,none⟩ v1).setCell ⟨a,off+p*7+3,none⟩ v2).setCell ⟨a,off+p*7+4,none⟩ v3)
  (B4:Below Wd.heap.size Wd We) (r4:RowC 149 3 We v4 c4) (a4:All2 (Y1 (Imm X bc R W) We) c4 f.wraps) (l4:∀b,v4.ownBlock=some b->Wd.heap.size<=b) (o4:v4.oneCell'=true)
  (B5:Below We.heap.size We Wf) (r5:RowC 151 3 Wf v5 c5) (a5:All2 (YK (Imm X bc R W) Wf) c5 f.links) (l5:∀b,v5.ownBlock=some b->We.heap.size<=b) (o5:v5.oneCell'=true)
  (hl:f.manifests.length<=10000/\f.epochs.length<=10000/\f.items.length<=10000/\f.wraps.length<=10000/\f.links.length<=10000):
  ∃R',CP X bc base ((Wf.setCell ⟨a,off+p*7+5,none⟩ v4).setCell ⟨a,off+p*7+6,none⟩ v5) R' st (fun i=>if i=p then some 0 else md i)/\Mut bc R W R' ((Wf.setCell ⟨a,off+p*7+5,none⟩ v4).setCell ⟨a,off+p*7+6,none⟩ v5)/\R' .us=R .us/\R' .de=R .de/\(R' .fo).v=(R .fo).v:=by
 have hpl:p < (R .fo).cells.length:=by rw [h.fol];exact (List.getElem?_eq_some_iff.1 hf).1
 have s1:=h.stage.row B1 (.ma p) ⟨v1,c1⟩ r1 (by rw [a1.1];exact hl.1) l1
 have s2:=s1.row B2 (.ep p) ⟨v2,c2⟩ r2 (by rw [a2.1];exact hl.2.1) l2
 have s3:=s2.row B3 (.it p) ⟨v3,c3⟩ r3 (by rw [a3.1];exact hl.2.2.1) l3
 have s4:=s3.cell .fo (a:=a) (off:=off) (n:=n) (cp:=cp) (i:=p) (j:=2) (u:=v1) (x:=[.string f.name,.int .i64 f.turn,w2,w3,w4,w5,w6]) (by simpa [zK] using hv) (by simpa [zK] using hx) (by decide) o1
 have s5:=s4.cell .fo (a:=a) (off:=off) (n:=n) (cp:=cp) (i:=p) (j:=3) (u:=v2) (x:=[.string f.name,.int .i64 f.turn,v1,w3,w4,w5,w6]) (by simpa [zK] using hv) (by simp [zK,hpl]) (by decide) o2
 have s6:=s5.cell .fo (a:=a) (off:=off) (n:=n) (cp:=cp) (i:=p) (j:=4) (u:=v3) (x:=[.string f.name,.int .i64 f.turn,v1,v2,w4,w5,w6]) (by simpa [zK] using hv) (by simp [zK,hpl]) (by decide) o3
 rw [show ((Wc.setCell ⟨a,off+p*RK.fo.sz+2,none⟩ v1).setCell ⟨a,off+p*RK.fo.sz+3,none⟩ v2).setCell ⟨a,off+p*RK.fo.sz+4,none⟩ v3=Wd from ed.symm] at s6
 have s7:=s6.row B4 (.wr p) ⟨v4,c4⟩ r4 (by rw [a4.1];exact hl.2.2.2.1) l4
 have s8:=s7.row B5 (.li p) ⟨v5,c5⟩ r5 (by rw [a5.1];exact hl.2.2.2.2) l5
 have s9:=s8.cell .fo (a:=a) (off:=off) (n:=n) (cp:=cp) (i:=p) (j:=5) (u:=v4) (x:=[.string f.name,.int .i64 f.turn,v1,v2,v3,w5,w6]) (by simpa [zK] using hv) (by simp [zK,hpl]) (by decide) o4
 have s10:=s9.cell .fo (a:=a) (off:=off) (n:=n) (cp:=cp) (i:=p) (j:=6) (u:=v5) (x:=[.string f.name,.int .i64 f.turn,v1,v2,v3,v4,w6]) (by simpa [zK] using hv) (by simp [zK,hpl]) (by decide) o5
 clear s1 s2 s3 s4 s5 s6 s7 s8 s9
 generalize hR:zK _ _ _=R' at s10
 have q1:R' .us=R .us:=by rw [<-hR];simp [zK]
 have q2:R' .de=R .de:=by rw [<-hR];simp [zK]
 have q3:R' .fo=⟨(R .fo).v,(R .fo).cells.set p [.string f.name,.int .i64 f.turn,v1,v2,v3,v4,v5]⟩:=by rw [<-hR];simp [zK]
 have q4:R' (.ma p)=⟨v1,c1⟩/\R' (.ep p)=⟨v2,c2⟩/\R' (.it p)=⟨v3,c3⟩/\R' (.wr p)=⟨v4,c4⟩/\R' (.li p)=⟨v5,c5⟩:=by rw [<-hR];simp [zK]
 have q5:∀i',i'≠p->R' (.ma i')=R (.ma i')/\R' (.ep i')=R (.ep i')/\R' (.it i')=R (.it i')/\R' (.wr i')=R (.wr i')/\R' (.li i')=R (.li i')/\∀j,R' (.ve i' j)=R (.ve i' j):=fun i' hi=>by
  rw [<-hR]
  simp [zK,hi]
 clear hR
 have hB2:=zB B1 B2
 have hB3:=zB hB2 B3
 have k:=s10.m.kept (X:=X)
 have hWd:∀b,Imm X bc R W b->Wd.heap[b]? =W.heap[b]? :=fun b hb=>by
  have hne:b≠a:=fun e=>hb.2.2.1 ⟨.fo,by rw [hv,e];rfl⟩
  rw [ed,Below.heap_setCell _ _ _ _ hne,Below.heap_setCell _ _ _ _ hne,Below.heap_setCell _ _ _ _ hne]
  exact hB3.block b hb.1
 have hzd:W.heap.size<=Wd.heap.size:=by rw [ed];simpa using hB3.size
 have k4:Kept (Imm X bc R W) (Imm X bc R' _) We _:=fun b hb _=>by
  obtain ⟨h1,h2⟩:=k b hb hb.1
  exact ⟨h1,h2.trans ((B4.block b (Nat.lt_of_lt_of_le hb.1 hzd)).trans (hWd b hb)).symm⟩
 have k5:Kept (Imm X bc R W) (Imm X bc R' _) Wf _:=fun b hb _=>by
  obtain ⟨h1,h2⟩:=k b hb hb.1
  exact ⟨h1,h2.trans (((zB B4 B5).block b (Nat.lt_of_lt_of_le hb.1 hzd)).trans (hWd b hb)).symm⟩
 refine ⟨R',h.turn hf s10.m s10.os q1 q2 q5 ?_ ?_,s10.m,q1,q2,by rw [q3]⟩
 ·rw [q3]
  unfold hdr
  rw [q4.1,q4.2.1,q4.2.2.1,q4.2.2.2.1,q4.2.2.2.2]
 ·refine ⟨hn,ht,?_,?_,?_,fun j x hj=>?_,?_,?_⟩
  ·rw [q4.1]
   exact a1.imp fun _ _ e=>YC e (k.shift B1 fun _ h=>h.1)
  ·rw [q4.2.1]
   exact a2.imp fun _ _ e=>z0x e (k.shift hB2 fun _ h=>h.1)
  ·rw [q4.2.2.1]
   exact a3.1
  ·rw [if_neg (by omega),q4.2.2.1]
   obtain ⟨y,hy,hr⟩:=a3.at hj
   exact ⟨y,hy,z3z hr (k.shift hB3 fun _ h=>h.1)⟩
  ·rw [q4.2.2.2.1]
   exact a4.imp fun _ _ e=>z20 e k4
  ·rw [q4.2.2.2.2]
   exact a5.imp fun _ _ e=>z40 e k5
theorem zBi {md:Nat->Option Nat} {p q:Nat} (h:md p=some q) (i:Nat):md i=(if i=p then some q else md i):=by
 split
 ·rename_i e;rw [e,h]
 ·rfl
theorem CP.maSet (h:CP X bc base W R st md) {p:Nat} (hf:st.folders[p]? =some f) (hp:md p=some q) {W1:World} (hB:Below W.heap.size W W1) {j:Nat} {m:Manifest} (hm:f.manifests[j]? =some m) {a off n cp:Nat} (hv:(R (.ma p)).v= .slice (some ⟨a,off,none⟩) n cp) {u:Value} (hu:Sl 2 zV (fun b=>b < W1.heap.size/\b≠bc/\¬yU R b/\¬X b) W1 u m.members):
  ∃R',CP X bc base (W1.setCell ⟨a,off+j*8+4,none⟩ u) R' st md/\Mut bc R W R' (W1.setCell ⟨a,off+j*8+4,none⟩ u)/\R' .us=R .us/\R' .de=R .de/\(R' .fo).v=(R .fo).v:=by
 have h1:=h.below hB
 have hq:=h1.fo p f hf
 rw [hp] at hq
 obtain ⟨hc,hF⟩:=hq
 obtain ⟨x,hx,hr⟩:=hF.man.at hm
 obtain ⟨A,c,rfl,_⟩:=id hu
 have s1:=h1.stage.cell (.ma p) hv hx (show 4 < 8 by decide) (u:= .slice A m.members.length c) rfl
 generalize hR:zK _ _ _=R' at s1
 have q1:(R' (.ma p)).cells=(R (.ma p)).cells.set j (x.set 4 (.slice A m.members.length c))/\(R' (.ma p)).v=(R (.ma p)).v:=by rw [<-hR];simp [zK]
 have q3:R' .us=R .us/\R' .de=R .de/\R' .fo=R .fo/\R' (.ep p)=R (.ep p)/\R' (.it p)=R (.it p)/\R' (.wr p)=R (.wr p)/\R' (.li p)=R (.li p)/\∀j,R' (.ve p j)=R (.ve p j):=by rw [<-hR];simp [zK]
 have q5:∀i',i'≠p->R' (.ma i')=R (.ma i')/\R' (.ep i')=R (.ep i')/\R' (.it i')=R (.it i')/\R' (.wr i')=R (.wr i')/\R' (.li i')=R (.li i')/\∀j,R' (.ve i' j)=R (.ve i' j):=fun i' hi=>by
  rw [<-hR]
  simp [zK,hi]
 clear hR
 obtain ⟨q31,q32,q33,q34,q35,q36,q37,q38⟩:=q3
 have k:=s1.m.kept (X:=X)
 refine ⟨R',(h1.turn hf s1.m s1.os q31 q32 q5 ?_ ?_).mode fun i _=>zBi hp i,(Mut.below hB).trans s1.m,q31,q32,by rw [q33]⟩
 ·have e1:hdr R' p f=hdr R p f:=by unfold hdr;rw [q1.2,q34,q35,q36,q37]
  rw [e1,q33,List.set_eq_self_of hc]
 ·have hF':=hF.keep k
  have hr':=YC hr k
  have hS:=hu.keep Z8 (by decide) k
  have hset:=hF'.man.set j (x:=x.set 4 (.slice A m.members.length c)) (y:=m) (by
   obtain ⟨v2,_,rfl,g1,g2,g3,g4,_,g6⟩:=hr'
   exact ⟨v2,_,rfl,g1,g2,g3,g4,hS,g6⟩)
  rw [List.set_eq_self_of hm,<-q1.1] at hset
  exact ⟨hF'.name,hF'.turn,hset,by rw [q34];exact hF'.ep,by rw [q35];exact hF'.itl,fun j' x hx=>by rw [q35,q38 j'];exact hF'.it j' x hx,by rw [q36];exact hF'.wr,by rw [q37];exact hF'.li⟩
theorem CP.epSet (h:CP X bc base W R st md) {p:Nat} (hf:st.folders[p]? =some f) (hp:md p=some q) {W1:World} (hB:Below W.heap.size W W1) {j:Nat} {m:Epoch} (hm:f.epochs[j]? =some m) {a off n cp:Nat} (hv:(R (.ep p)).v= .slice (some ⟨a,off,none⟩) n cp) {u:Value} (hu:Sl 2 rAt (fun b=>b < W1.heap.size/\b≠bc/\¬yU R b/\¬X b) W1 u m.chain):
  ∃R',CP X bc base (W1.setCell ⟨a,off+j*5+3,none⟩ u) R' st md/\Mut bc R W R' (W1.setCell ⟨a,off+j*5+3,none⟩ u)/\R' .us=R .us/\R' .de=R .de/\(R' .fo).v=(R .fo).v:=by
 have h1:=h.below hB
 have hq:=h1.fo p f hf
 rw [hp] at hq
 obtain ⟨hc,hF⟩:=hq
 obtain ⟨x,hx,hr⟩:=hF.ep.at hm
 obtain ⟨A,c,rfl,_⟩:=id hu
 have s1:=h1.stage.cell (.ep p) hv hx (show 3 < 5 by decide) (u:= .slice A m.chain.length c) rfl
 generalize hR:zK _ _ _=R' at s1
 have q1:(R' (.ep p)).cells=(R (.ep p)).cells.set j (x.set 3 (.slice A m.chain.length c))/\(R' (.ep p)).v=(R (.ep p)).v:=by rw [<-hR];simp [zK]
 have q3:R' .us=R .us/\R' .de=R .de/\R' .fo=R .fo/\R' (.ma p)=R (.ma p)/\R' (.it p)=R (.it p)/\R' (.wr p)=R (.wr p)/\R' (.li p)=R (.li p)/\∀j,R' (.ve p j)=R (.ve p j):=by rw [<-hR];simp [zK]
 have q5:∀i',i'≠p->R' (.ma i')=R (.ma i')/\R' (.ep i')=R (.ep i')/\R' (.it i')=R (.it i')/\R' (.wr i')=R (.wr i')/\R' (.li i')=R (.li i')/\∀j,R' (.ve i' j)=R (.ve i' j):=fun i' hi=>by
  rw [<-hR]
  simp [zK,hi]
 clear hR
 obtain ⟨q31,q32,q33,q34,q35,q36,q37,q38⟩:=q3
 have k:=s1.m.kept (X:=X)
 refine ⟨R',(h1.turn hf s1.m s1.os q31 q32 q5 ?_ ?_).mode fun i _=>zBi hp i,(Mut.below hB).trans s1.m,q31,q32,by rw [q33]⟩
 ·have e1:hdr R' p f=hdr R p f:=by unfold hdr;rw [q1.2,q34,q35,q36,q37]
  rw [e1,q33,List.set_eq_self_of hc]
 ·have hF':=hF.keep k
  have hr':=z0x hr k
  have hS:=hu.keep ZR (by decide) k
  have hset:=hF'.ep.set j (x:=x.set 3 (.slice A m.chain.length c)) (y:=m) (by
   obtain ⟨_,rfl,g1,g2,g3,_,g5⟩:=hr'
   exact ⟨_,rfl,g1,g2,g3,hS,g5⟩)
  rw [List.set_eq_self_of hm,<-q1.1] at hset
  exact ⟨hF'.name,hF'.turn,by rw [q34];exact hF'.man,hset,by rw [q35];exact hF'.itl,fun j' x hx=>by rw [q35,q38 j'];exact hF'.it j' x hx,by rw [q36];exact hF'.wr,by rw [q37];exact hF'.li⟩
theorem CP.veSet (h:CP X bc base W R st md) {p j:Nat} (hf:st.folders[p]? =some f) (hp:md p=some j) {W1:World} (hB:Below W.heap.size W W1) {it:Item} (hm:f.items[j]? =some it) {a off n cp:Nat} (hv:(R (.it p)).v= .slice (some ⟨a,off,none⟩) n cp) {v:Value} {cells:List (List Value)} (hr:RowC 80 4 W1 v cells) (ha:All2 (yC (Imm X bc R W) W1) cells it.versions) (hlow:∀b,v.ownBlock=some b->W.heap.size<=b) (hone:v.oneCell'=true) (hl:it.versions.length<=10000):
  ∃R',CP X bc base (W1.setCell ⟨a,off+j*2+1,none⟩ v) R' st (fun i=>if i=p then some (j+1) else md i)/\Mut bc R W R' (W1.setCell ⟨a,off+j*2+1,none⟩ v)/\R' .us=R .us/\R' .de=R .de/\(R' .fo).v=(R .fo).v/\(R' (.it p)).v=(R (.it p)).v/\(R' (.ve p j)).v=v:=by
 have hq:=h.fo p f hf
 rw [hp] at hq
 obtain ⟨hc,hF⟩:=hq
 have hit:=hF.it j it hm
 rw [if_neg (by omega)] at hit
 obtain ⟨_,hcs,v1,rfl,hnm,_⟩:=hit
 have s0:=h.stage.row hB (.ve p j) ⟨v,cells⟩ hr (by rw [ha.1];exact hl) hlow
 have s1:=s0.cell (.it p) (a:=a) (off:=off) (n:=n) (cp:=cp) (i:=j) (j:=1) (u:=v) (x:=[.string it.name,v1]) (by simpa [zK] using hv) (by simpa [zK] using hcs) (show 1 < 2 by decide) hone
 generalize hR:zK _ _ _=R' at s1
 have q1:R' (.ve p j)=⟨v,cells⟩:=by rw [<-hR];simp [zK]
 have q2:R' (.it p)=⟨(R (.it p)).v,(R (.it p)).cells.set j [.string it.name,v]⟩:=by rw [<-hR];simp [zK]
 have q3:R' .us=R .us/\R' .de=R .de/\R' .fo=R .fo/\R' (.ma p)=R (.ma p)/\R' (.ep p)=R (.ep p)/\R' (.wr p)=R (.wr p)/\R' (.li p)=R (.li p):=by rw [<-hR];simp [zK]
 have q4:∀j',j'≠j->R' (.ve p j')=R (.ve p j'):=fun j' hj=>by rw [<-hR];simp [zK,hj]
 have q5:∀i',i'≠p->R' (.ma i')=R (.ma i')/\R' (.ep i')=R (.ep i')/\R' (.it i')=R (.it i')/\R' (.wr i')=R (.wr i')/\R' (.li i')=R (.li i')/\∀j,R' (.ve i' j)=R (.ve i' j):=fun i' hi=>by
  rw [<-hR]
  simp [zK,hi]
 clear hR
 have k:=s1.m.kept (X:=X)
 refine ⟨R',h.turn hf s1.m s1.os q3.1 q3.2.1 q5 ?_ ?_,s1.m,q3.1,q3.2.1,by rw [q3.2.2.1],by rw [q2],by rw [q1]⟩
 ·have e1:hdr R' p f=hdr R p f:=by unfold hdr;rw [q3.2.2.2.1,q3.2.2.2.2.1,q2,q3.2.2.2.2.2.1,q3.2.2.2.2.2.2]
  rw [e1,q3.2.2.1,List.set_eq_self_of hc]
 ·have hF':=hF.keep k
  refine ⟨hF'.name,hF'.turn,by rw [q3.2.2.2.1];exact hF'.man,by rw [q3.2.2.2.2.1];exact hF'.ep,by rw [q2];simpa using hF'.itl,fun j' y hy=>?_,by rw [q3.2.2.2.2.2.1];exact hF'.wr,by rw [q3.2.2.2.2.2.2];exact hF'.li⟩
  have hjl:=(List.getElem?_eq_some_iff.1 hm).1
  rw [q2]
  dsimp only
  rw [List.getElem?_set]
  by_cases hjj:j=j'
  ·subst hjj
   rw [hm] at hy
   obtain rfl:=Option.some.inj hy
   rw [if_pos (by omega),if_pos rfl,if_pos (by rw [hF.itl];exact hjl),q1]
   exact ⟨rfl,hnm,ha.imp fun _ _ e=>YY e (k.shift hB fun _ h=>h.1)⟩
  ·have hne:j'≠j:=fun e=>hjj e.symm
   have hold:=hF'.it j' y hy
   rw [if_neg hjj,q4 j' hne]
   by_cases hlt:j' < j
   ·rw [if_pos (by omega)]
    rwa [if_pos hlt] at hold
   ·rw [if_neg (by omega)]
    rwa [if_neg hlt] at hold
theorem CP.vdSet (h:CP X bc base W R st md) {p j:Nat} (hf:st.folders[p]? =some f) (hp:md p=some q) (hjq:j < q) {W1:World} (hB:Below W.heap.size W W1) {it:Item} (hi:f.items[j]? =some it) {k:Nat} {m:Version} (hm:it.versions[k]? =some m) {a off n cp:Nat} (hv:(R (.ve p j)).v= .slice (some ⟨a,off,none⟩) n cp) {u:Value} (hu:Sl 1 yI (fun b=>b < W1.heap.size/\b≠bc/\¬yU R b/\¬X b) W1 u m.data):
  ∃R',CP X bc base (W1.setCell ⟨a,off+k*4+3,none⟩ u) R' st md/\Mut bc R W R' (W1.setCell ⟨a,off+k*4+3,none⟩ u)/\R' .us=R .us/\R' .de=R .de/\(R' .fo).v=(R .fo).v/\(R' (.it p)).v=(R (.it p)).v:=by
 have h1:=h.below hB
 have hq:=h1.fo p f hf
 rw [hp] at hq
 obtain ⟨hc,hF⟩:=hq
 have hit:=hF.it j it hi
 rw [if_pos hjq] at hit
 obtain ⟨_,_,hall⟩:=hit
 obtain ⟨x,hx,hr⟩:=hall.at hm
 obtain ⟨A,c,rfl,_⟩:=id hu
 have s1:=h1.stage.cell (.ve p j) hv hx (show 3 < 4 by decide) (u:= .slice A m.data.length c) rfl
 generalize hR:zK _ _ _=R' at s1
 have q1:R' (.ve p j)=⟨(R (.ve p j)).v,(R (.ve p j)).cells.set k (x.set 3 (.slice A m.data.length c))⟩:=by rw [<-hR];simp [zK]
 have q3:R' .us=R .us/\R' .de=R .de/\R' .fo=R .fo/\R' (.ma p)=R (.ma p)/\R' (.ep p)=R (.ep p)/\R' (.wr p)=R (.wr p)/\R' (.li p)=R (.li p)/\R' (.it p)=R (.it p):=by rw [<-hR];simp [zK]
 have q4:∀j',j'≠j->R' (.ve p j')=R (.ve p j'):=fun j' hj=>by rw [<-hR];simp [zK,hj]
 have q5:∀i',i'≠p->R' (.ma i')=R (.ma i')/\R' (.ep i')=R (.ep i')/\R' (.it i')=R (.it i')/\R' (.wr i')=R (.wr i')/\R' (.li i')=R (.li i')/\∀j,R' (.ve i' j)=R (.ve i' j):=fun i' hi=>by
  rw [<-hR]
  simp [zK,hi]
 clear hR
 have kk:=s1.m.kept (X:=X)
 refine ⟨R',(h1.turn hf s1.m s1.os q3.1 q3.2.1 q5 ?_ ?_).mode fun i _=>zBi hp i,(Mut.below hB).trans s1.m,q3.1,q3.2.1,by rw [q3.2.2.1],by rw [q3.2.2.2.2.2.2.2]⟩
 ·have e1:hdr R' p f=hdr R p f:=by unfold hdr;rw [q3.2.2.2.1,q3.2.2.2.2.1,q3.2.2.2.2.2.1,q3.2.2.2.2.2.2.1,q3.2.2.2.2.2.2.2]
  rw [e1,q3.2.2.1,List.set_eq_self_of hc]
 ·have hF':=hF.keep kk
  refine ⟨hF'.name,hF'.turn,by rw [q3.2.2.2.1];exact hF'.man,by rw [q3.2.2.2.2.1];exact hF'.ep,by rw [q3.2.2.2.2.2.2.2];exact hF'.itl,fun j' y hy=>?_,by rw [q3.2.2.2.2.2.1];exact hF'.wr,by rw [q3.2.2.2.2.2.2.1];exact hF'.li⟩
  have hold:=hF'.it j' y hy
  rw [q3.2.2.2.2.2.2.2]
  by_cases hjj:j'=j
  ·subst hjj
   rw [hi] at hy
   obtain rfl:=Option.some.inj hy
   rw [if_pos hjq] at hold⊢
   rw [q1]
   refine ⟨hold.1,hold.2.1,?_⟩
   have hr':=YY hr kk
   have hS:=hu.keep rByte_ok (by decide) (S':=Imm X bc R' (W1.setCell ⟨a,off+k*4+3,none⟩ (.slice A m.data.length c))) (w':=W1.setCell ⟨a,off+k*4+3,none⟩ (.slice A m.data.length c)) kk
   have:=hold.2.2.set k (x:=x.set 3 (.slice A m.data.length c)) (y:=m) (by
    obtain ⟨_,rfl,g1,g2,_⟩:=hr'
    exact ⟨_,rfl,g1,g2,hS⟩)
   rwa [List.set_eq_self_of hm] at this
  ·rwa [q4 j' hjj]
end
end
end Go.Proofs.YtdggplhnfhcieaaGreatDoor
