/- Part 7 of the proof of vaultGranted_holds. No condition. -/
import Derived.Laws.Cover3
import Derived.Deep.QuietTactic
import Derived.Test.YtdggplhnfhcieaaGreatDoorY05
set_option linter.unusedVariables false
set_option linter.unusedSimpArgs false
set_option linter.unusedSectionVars false
set_option maxRecDepth 100000
namespace Go.Proofs.YtdggplhnfhcieaaGreatDoor
section
open Go.RowKit Go.Deep Go.Maps
def Look (ns:List GN) (x:GN) (c:Int) (g:Bool):Prop:=(g=true/\∃i:Nat,ns[i]? =some x/\c=i)\/(g=false/\x∉ns/\c=0)
theorem z3a (ns:List GN) (x:GN):∃c g,Look ns x c g:=by
 by_cases h:x∈ns
 ·obtain ⟨i,hi⟩:=List.getElem?_of_mem h
  exact ⟨i,true,.inl ⟨rfl,i,hi,rfl⟩⟩
 exact ⟨0,false,.inr ⟨rfl,h,rfl⟩⟩
theorem Look.mem {ns:List GN} {x:GN} {c:Int} {g:Bool} (h:Look ns x c g):g=true↔x∈ns:=by
 rcases h with ⟨rfl,i,hi,_⟩ | ⟨rfl,h,_⟩
 ·exact ⟨fun _=>zmg hi,fun _=>rfl⟩
 exact ⟨fun h=>(by cases h),fun h2=>absurd h2 h⟩
section
variable {w:World} {ops:Array Oper} {rest:List Oper} {o:Oper} {a:Act} {Q:Exit->Act->World->Prop}
theorem z7k (w:World) (hg:o.guard=none) (m k:Operand) (hop:o.op=Op.lookup 280 m k true) (b n:Nat) (D:DataW Unit) (ns:List GN) (x:GN) (c:Int) (g:Bool)
  (hm:a.eval m= .map (some b)) (hown:w.ownsMap Tryz.prog 244 (plainElem Tryz.prog 3) b n D) (hI:Idx D ns) (hx:a.eval k=vG x) (hok:OkG x) (hL:Look ns x c g)
  (hK:wpList Tryz.prog ops Q rest (a.put o.dst (.tuple #[.int .i64 c,.bool g])) w):wpList Tryz.prog ops Q (o :: rest) a w:=by
 refine wpList_lookup_own_ok_int w hg m k _ hop 244 3 .i64 keyNode Tryz.underlying280 Tryz.underlying3 (z43 w) b n D hm hown _ _ hx (zAd hok) fun c' hc' _=>?_
 have h1:=hI.look hok hc'
 rcases hL with ⟨rfl,i,hi,rfl⟩ | ⟨rfl,hn,rfl⟩
 ·rcases h1 with ⟨e1,j,hj,rfl⟩ | ⟨_,hn⟩
  ·have e2:D.atKey (kG x) (.lit (.int .i64 0))= .lit (.int .i64 i):=hI.val i x hi _
   rw [e2] at hc'
   have e3:(i:Int)=(j:Int):=by simpa using hc'
   rw [e1,<-e3]
   exact hK
  exact absurd (zmg hi) hn
 rcases h1 with ⟨_,j,hj,rfl⟩ | ⟨e1,_⟩
 ·exact absurd (zmg hj) hn
 rw [atKey_of_not_has e1] at hc'
 have e3:(0:Int)=c':=by simpa using hc'
 rw [e1,<-e3]
 exact hK
end
def cI (j:Nat):List Value:=[.int .i64 j]
structure GS (w:World) (t b e:Nat) (vn vo:Value) (vs:List Value) (ns:List GN) (adj:List (List Nat)) (D:DataW Unit):Prop where
 cell:w.heap[t]? =some (.cells #[.map (some b),vn,vo,.int .i64 e] 283 (0,0))
 own:w.ownsMap Tryz.prog 244 (plainElem Tryz.prog 3) b ns.length D
 idx:Idx D ns
 nodes:RowC 244 3 w vn (ns.map cG)
 out:RowC 234 1 w vo (vs.map fun v=>[v])
 lenv:vs.length=ns.length
 row:∀(i:Nat) v l,vs[i]? =some v->adj[i]? =some l->RowC 3 1 w v (l.map cI)
 apart:∀(i j:Nat) v u k,vs[i]? =some v->vs[j]? =some u->v.ownBlock=some k->u.ownBlock=some k->i=j
def GB (t b:Nat) (vn vo:Value) (vs:List Value):Nat->Prop:=fun x=>x=t\/x=b\/vn.ownBlock=some x\/vo.ownBlock=some x\/∃v∈vs,v.ownBlock=some x
section
variable {w w':World} {t b e:Nat} {vn vo:Value} {vs:List Value} {ns:List GN} {adj:List (List Nat)} {D:DataW Unit}
theorem GS.of (h:GS w t b e vn vo vs ns adj D) (k:∀x,GB t b vn vo vs x->w'.heap[x]? =w.heap[x]?):GS w' t b e vn vo vs ns adj D:=by
 refine ⟨(k t (.inl rfl)).trans h.cell,?_,h.idx,h.nodes.keep fun x hx=>k x (.inr (.inr (.inl hx))),h.out.keep fun x hx=>k x (.inr (.inr (.inr (.inl hx)))),h.lenv,fun i v l hv hl=>(h.row i v l hv hl).keep fun x hx=>k x (.inr (.inr (.inr (.inr ⟨v,zmg hv,hx⟩)))),h.apart⟩
 obtain ⟨es,clock,h1,h2⟩:=h.own
 exact ⟨es,clock,(k b (.inr (.inl rfl))).trans h1,h2⟩
structure GSE (E:List (GN×GN)) (m:Nat) (w:World) (t b e:Nat) (vn vo:Value) (vs:List Value) (ns:List GN) (adj:List (List Nat)) (D:DataW Unit):Prop where
 gs:GS w t b e vn vo vs ns adj D
 rep:GRep E m ns adj
 em:e<=m
theorem GS.lt (h:GS w t b e vn vo vs ns adj D) (hl:adj.length=ns.length):∀x,GB t b vn vo vs x->x < w.heap.size:=by
 rintro x (rfl | rfl | h1 | h1 | ⟨v,hv,h1⟩)
 ·exact zM h.cell
 ·exact h.own.lt
 ·exact h.nodes.lt x h1
 ·exact h.out.lt x h1
 obtain ⟨i,hi⟩:=List.getElem?_of_mem hv
 have hil:=(zge hi).1
 rw [h.lenv] at hil
 exact (h.row i v _ hi (List.getElem?_eq_getElem (by omega))).lt x h1
theorem GS.below (h:GS w t b e vn vo vs ns adj D) (hl:adj.length=ns.length) (k:Below w.heap.size w w'):GS w' t b e vn vo vs ns adj D:=h.of fun x hx=>k.block x (h.lt hl x hx)
end
theorem z1d {w:World} {x:Nat} {a b:Array Value} {T U:TypeId} (h:w.heap[x]? =some (.cells a T (0,0))) (k:w.heap[x]? =some (.cells b U (0,0))):T=U:=by
 rw [h] at k
 simp only [Option.some.injEq,Obj.cells.injEq] at k
 exact k.2.1
theorem y8 {w:World} {e:TypeId} {sz:Nat} {v:Value} {l:List (List Value)} (h:RowC e sz w v l) {x:Nat} (hx:v.ownBlock=some x):∃a,w.heap[x]? =some (.cells a e (0,0)):=by
 rcases h.2 with ⟨rfl,_⟩ | ⟨g,off,cap,cur,rfl,hg,_⟩
 ·cases hx
 obtain rfl:g=x:=zsi hx
 exact ⟨cur,hg⟩
theorem z0z {w:World} {P:Program} {k:TypeId} {R:Value->Option (DataW Unit×List MemPlace)} {b n x:Nat} {D:DataW Unit} (h:w.ownsMap P k R b n D) {a:Array Value} {T:TypeId} (hx:w.heap[x]? =some (.cells a T (0,0))):x≠b:=by
 rintro rfl
 obtain ⟨_,_,h1,_⟩:=h
 rw [h1] at hx
 cases hx
theorem zFj (w:World) (a:Nat):(binOp .neq 280 (.map (some a)) (.map none)).run Tryz.prog w= .ok (.bool true) w:=by
 simp only [binOp]
 simp [run_equal_map_nil w _ _ _ (some a) Tryz.underlying280]
theorem zB0 {w:World} {t b e:Nat} {vn vo:Value} {vs:List Value} {ns:List GN} {adj:List (List Nat)} {D:DataW Unit} (h:GS w t b e vn vo vs ns adj D):Calls Tryz.prog 240 #[.pointer (some ⟨t,0,none⟩)] w fun e w'=>e= .returned (.bool true)/\w'=w:=by
 obtain ⟨cb,_⟩:=zD h.cell
 have c0:=cb 0 _ rfl
 clear cb h
 have hq:=zFj
 go_enter Tryz.func240,Tryz.ntmps240
 go_wp2
 go_ret
 exact ⟨rfl,rfl⟩
theorem zOm (w:World):Calls Tryz.prog 222 #[] w fun e w'=>(∃t b,e= .returned (.pointer (some ⟨t,0,none⟩))/\GSE [] 0 w' t b 0 (.slice none 0 0) (.slice none 0 0) [] [] [] (.map [])/\w.heap.size<=t/\w.heap.size<=b)/\Below w.heap.size w w':=by
 have hmm:=@run_makeMap Tryz.prog
 go_enter Tryz.func222,Tryz.ntmps222
 go_wp2
 go_ret
 refine ⟨⟨_,w.heap.size,rfl,⟨⟨zJ _ (by simp),(World.ownsMap_made _ _ _ _).alloc _,Idx.start,RowC.nil _,RowC.nil _,rfl,fun i v l h=>by simp at h,fun i j v u k h=>by simp at h⟩,GRep.start,znl _⟩,by simp,znl _⟩,by go_grown⟩
def zD2 (l:List Nat) (x:Nat):Bool:=l.any fun y=>decide (y=x)
theorem zAe {l:List Nat} {x:Nat}:zD2 l x=true↔x∈l:=by simp [zD2]
theorem zIs (l:List Nat) (v:Value) (x:Nat) (w:World) (h:RowC 3 1 w v (l.map cI)) (hl:l.length<=10000):Calls Tryz.prog 247 #[v,.int .i64 x] w fun e w'=>(∃i:Int,e= .returned (.int .i64 i)/\(decide (0<=i))=zD2 l x)/\w'=w:=by
 obtain ⟨A,c,rfl,_⟩:=h.shape
 rw [List.length_map] at h⊢
 have HR:=zh h
 clear h
 go_enter Tryz.func247,Tryz.ntmps247
 go_wp2
 go_loop [8] (fun i=>∃k:Nat,k<=l.length/\i= .int .i64 k/\Hid (x∉l.take k)) (fun i=>l.length - (RowKit.intOf i).toNat)
 case atStart=>exact ⟨0,by omega,by go_num,by simp [Hid]⟩
 obtain ⟨k,_,rfl,HK⟩:=hrel
 by_cases hlt:k < l.length
 rotate_left
 ·obtain rfl:k=l.length:=by omega
  have M:=zh (show zD2 l x=false by rw [<-Bool.not_eq_true,zAe];have:=HK.out;rwa [List.take_length] at this)
  go_wp2
  go_ret
  exact ⟨⟨_,rfl,by rw [M.out];rfl⟩,rfl⟩
 obtain ⟨y,hy⟩:∃y,l[k]? =some y:=⟨_,List.getElem?_eq_getElem hlt⟩
 obtain ⟨g,o,cap,hv,-,hcm,-,hc,-⟩:=HR.out.at (i:=k) (x:=cI y) (by rw [List.getElem?_map,hy];rfl)
 unfold maxLen at hcm
 obtain ⟨rfl,-,rfl⟩:A=some ⟨g,o,none⟩/\l.length=(l.map cI).length/\c=cap:=by simpa using hv
 have q:=hc 0 _ rfl
 rw [Nat.mul_one,Nat.add_zero] at q
 clear hc hv
 by_cases e:x=y
 ·subst e
  have M:=zh (zAe.2 (zmg hy))
  clear hy
  go_wp2
  go_ret
  exact ⟨⟨_,rfl,by rw [M.out];simp⟩,rfl⟩
 have e1:((x:Int)==(y:Int))=false:=by simp;omega
 have HK2:=zh (show x∉l.take (k+1) by rw [List.take_add_one,hy];simp [e];exact HK.out)
 clear hy e
 go_wp2
 go_round
 case rel=>exact ⟨k+1,by omega,by go_num,HK2⟩
 case measure=>simp [RowKit.intOf];omega
theorem zEv (l:List Nat) (v:Value) (x:Nat) (w:World) (h:RowC 3 1 w v (l.map cI)) (hl:l.length<=10000):Calls Tryz.prog 246 #[v,.int .i64 x] w fun e w'=>e= .returned (.bool (zD2 l x))/\w'=w:=by
 obtain ⟨_,_,rfl,_⟩:=h.shape
 rw [List.length_map] at h⊢
 have hi:=zh (zIs l _ x w h hl)
 clear h
 go_enter Tryz.func246,Tryz.ntmps246
 go_wp2_with (go_at_call 247;refine zcm hi.out ?_;rintro e _ ⟨⟨_,rfl,hm⟩,rfl⟩;have HM:=zh hm;clear hm)
 go_ret
 exact ⟨ZI HM.out,rfl⟩
end
end Go.Proofs.YtdggplhnfhcieaaGreatDoor
