/- Small words that the other parts use. No condition. -/
import Derived.OrdersHeld
import Derived.Lib.Hide
import Derived.Deep.RegionHeld3
import Derived.Below
import Derived.Deep.Fields
set_option linter.all false
section
namespace Go.Proofs.YtdggplhnfhcieaaGreatDoor
open Go.RowKit Go.Deep
theorem qMx {n k:Nat} (h:k < n:=by omega):n - (RowKit.intOf (.int .i64 ((k:Int)+1))).toNat < n - (RowKit.intOf (.int .i64 (k:Int))).toNat:=by simp [RowKit.intOf];omega
theorem qLgx {α:Type} {l:List α} {i:Nat} (h:i < l.length):l[i]? =some l[i]:=List.getElem?_eq_getElem h
theorem qLlx {α:Type} {l m:List α} {i:Nat} (h:i < l.length):(l++m)[i]? =l[i]?:=List.getElem?_append_left h
theorem qLrx {α:Type} {l m:List α} {i:Nat} (h:l.length≤i):(l++m)[i]? =m[i - l.length]?:=List.getElem?_append_right h
theorem qLax {α:Type} {l m:List α}:(l++m).length=l.length+m.length:=List.length_append
theorem qLmx {α β:Type} {l:List α} {f:α→β}:(l.map f).length=l.length:=List.length_map f
theorem qLtx {α:Type} {l:List α} {i:Nat}:l.take (i+1)=l.take i++l[i]?.toList:=List.take_add_one
theorem qLnx {α:Type} {l:List α}:l.take l.length=l:=List.take_length
theorem qLcx {α:Type} {a b:α} {l:List α}:a∈b :: l↔a=b∨a∈l:=List.mem_cons
theorem qBqx {a b:Bool}:((a&&b)=true)=(a=true∧b=true):=Bool.and_eq_true a b
theorem qNtx {a b c:Nat} (h:a≤b) (k:b≤c):a≤c:=Nat.le_trans h k
theorem zh {p:Prop} (h:p):Hid p:=Lib.hid h
theorem zS:(∀(w:World) o,(w.alloc o).heap.size=w.heap.size+1)∧(∀(w:World) a v,(w.setCell a v).heap.size=w.heap.size)∧(∀w:World,w.drew.heap.size=w.heap.size):=⟨World.size_alloc,World.size_setCell,World.size_drew⟩
theorem zC2 {α:Type} {P:Nat→α→Prop} {x0 x1:α} {r:List α} (h:∀i x,(x0 :: x1 :: r).toArray[i]? =some x→P i x):P 0 x0∧P 1 x1:=⟨h 0 _ rfl,h 1 _ rfl⟩
theorem zC3 {α:Type} {P:Nat→α→Prop} {x0 x1 x2:α} {r:List α} (h:∀i x,(x0 :: x1 :: x2 :: r).toArray[i]? =some x→P i x):P 0 x0∧P 1 x1∧P 2 x2:=⟨h 0 _ rfl,h 1 _ rfl,h 2 _ rfl⟩
theorem zC4 {α:Type} {P:Nat→α→Prop} {x0 x1 x2 x3:α} {r:List α} (h:∀i x,(x0 :: x1 :: x2 :: x3 :: r).toArray[i]? =some x→P i x):P 0 x0∧P 1 x1∧P 2 x2∧P 3 x3:=⟨h 0 _ rfl,h 1 _ rfl,h 2 _ rfl,h 3 _ rfl⟩
theorem zC5 {α:Type} {P:Nat→α→Prop} {x0 x1 x2 x3 x4:α} {r:List α} (h:∀i x,(x0 :: x1 :: x2 :: x3 :: x4 :: r).toArray[i]? =some x→P i x):P 0 x0∧P 1 x1∧P 2 x2∧P 3 x3∧P 4 x4:=⟨h 0 _ rfl,h 1 _ rfl,h 2 _ rfl,h 3 _ rfl,h 4 _ rfl⟩
theorem zC6 {α:Type} {P:Nat→α→Prop} {x0 x1 x2 x3 x4 x5:α} {r:List α} (h:∀i x,(x0 :: x1 :: x2 :: x3 :: x4 :: x5 :: r).toArray[i]? =some x→P i x):P 0 x0∧P 1 x1∧P 2 x2∧P 3 x3∧P 4 x4∧P 5 x5:=⟨h 0 _ rfl,h 1 _ rfl,h 2 _ rfl,h 3 _ rfl,h 4 _ rfl,h 5 _ rfl⟩
theorem zC7 {α:Type} {P:Nat→α→Prop} {x0 x1 x2 x3 x4 x5 x6:α} {r:List α} (h:∀i x,(x0 :: x1 :: x2 :: x3 :: x4 :: x5 :: x6 :: r).toArray[i]? =some x→P i x):P 0 x0∧P 1 x1∧P 2 x2∧P 3 x3∧P 4 x4∧P 5 x5∧P 6 x6:=⟨h 0 _ rfl,h 1 _ rfl,h 2 _ rfl,h 3 _ rfl,h 4 _ rfl,h 5 _ rfl,h 6 _ rfl⟩
theorem zC8 {α:Type} {P:Nat→α→Prop} {x0 x1 x2 x3 x4 x5 x6 x7:α} {r:List α} (h:∀i x,(x0 :: x1 :: x2 :: x3 :: x4 :: x5 :: x6 :: x7 :: r).toArray[i]? =some x→P i x):P 0 x0∧P 1 x1∧P 2 x2∧P 3 x3∧P 4 x4∧P 5 x5∧P 6 x6∧P 7 x7:=⟨h 0 _ rfl,h 1 _ rfl,h 2 _ rfl,h 3 _ rfl,h 4 _ rfl,h 5 _ rfl,h 6 _ rfl,h 7 _ rfl⟩
theorem zC9 {α:Type} {P:Nat→α→Prop} {x0 x1 x2 x3 x4 x5 x6 x7 x8:α} {r:List α} (h:∀i x,(x0 :: x1 :: x2 :: x3 :: x4 :: x5 :: x6 :: x7 :: x8 :: r).toArray[i]? =some x→P i x):P 0 x0∧P 1 x1∧P 2 x2∧P 3 x3∧P 4 x4∧P 5 x5∧P 6 x6∧P 7 x7∧P 8 x8:=⟨h 0 _ rfl,h 1 _ rfl,h 2 _ rfl,h 3 _ rfl,h 4 _ rfl,h 5 _ rfl,h 6 _ rfl,h 7 _ rfl,h 8 _ rfl⟩
theorem zC10 {α:Type} {P:Nat→α→Prop} {x0 x1 x2 x3 x4 x5 x6 x7 x8 x9:α} {r:List α} (h:∀i x,(x0 :: x1 :: x2 :: x3 :: x4 :: x5 :: x6 :: x7 :: x8 :: x9 :: r).toArray[i]? =some x→P i x):P 0 x0∧P 1 x1∧P 2 x2∧P 3 x3∧P 4 x4∧P 5 x5∧P 6 x6∧P 7 x7∧P 8 x8∧P 9 x9:=⟨h 0 _ rfl,h 1 _ rfl,h 2 _ rfl,h 3 _ rfl,h 4 _ rfl,h 5 _ rfl,h 6 _ rfl,h 7 _ rfl,h 8 _ rfl,h 9 _ rfl⟩
theorem zC11 {α:Type} {P:Nat→α→Prop} {x0 x1 x2 x3 x4 x5 x6 x7 x8 x9 x10:α} {r:List α} (h:∀i x,(x0 :: x1 :: x2 :: x3 :: x4 :: x5 :: x6 :: x7 :: x8 :: x9 :: x10 :: r).toArray[i]? =some x→P i x):P 0 x0∧P 1 x1∧P 2 x2∧P 3 x3∧P 4 x4∧P 5 x5∧P 6 x6∧P 7 x7∧P 8 x8∧P 9 x9∧P 10 x10:=⟨h 0 _ rfl,h 1 _ rfl,h 2 _ rfl,h 3 _ rfl,h 4 _ rfl,h 5 _ rfl,h 6 _ rfl,h 7 _ rfl,h 8 _ rfl,h 9 _ rfl,h 10 _ rfl⟩
theorem zC12 {α:Type} {P:Nat→α→Prop} {x0 x1 x2 x3 x4 x5 x6 x7 x8 x9 x10 x11:α} {r:List α} (h:∀i x,(x0 :: x1 :: x2 :: x3 :: x4 :: x5 :: x6 :: x7 :: x8 :: x9 :: x10 :: x11 :: r).toArray[i]? =some x→P i x):P 0 x0∧P 1 x1∧P 2 x2∧P 3 x3∧P 4 x4∧P 5 x5∧P 6 x6∧P 7 x7∧P 8 x8∧P 9 x9∧P 10 x10∧P 11 x11:=⟨h 0 _ rfl,h 1 _ rfl,h 2 _ rfl,h 3 _ rfl,h 4 _ rfl,h 5 _ rfl,h 6 _ rfl,h 7 _ rfl,h 8 _ rfl,h 9 _ rfl,h 10 _ rfl,h 11 _ rfl⟩
theorem zge {α:Type} {l:List α} {i:Nat} {a:α} (h:l[i]? =some a):∃h:i < l.length,l[i]=a:=List.getElem?_eq_some_iff.1 h
theorem zbr {n:Nat} {w:World}:Below n w w:=Below.refl n w
theorem zbx {w W:World} {cs:Array Value} {T:TypeId} (h:w.alloc (.cells cs T)=W):W.heap[w.heap.size]? =some (.cells cs T (0,0)):=by rw [← h];exact heap_alloc_new w _
abbrev zsi:=@Option.some.inj
theorem znl (n:Nat):n≤n:=Nat.le_refl n
theorem zmg {α:Type} {l:List α} {i:Nat} {a:α} (h:l[i]? =some a):a∈l:=List.mem_of_getElem? h
abbrev zcm:=@Calls.mono
theorem zll {a b c:Nat} (h:a < b) (k:b≤c):a < c:=Nat.lt_of_lt_of_le h k
theorem zmc {α:Type} {a:α} (y:α) {l:List α} (h:a∈l):a∈y :: l:=List.mem_cons_of_mem y h
theorem zml {α:Type} {a b:α} (h:b∈[a]):b=a:=List.mem_singleton.1 h
theorem zmb {α:Type} {a:α} {s t:List α} (h:a∈s++t):a∈s∨a∈t:=List.mem_append.1 h
theorem zr {P:Program} {md:Region.Mode} {ops:Array Oper} {Q:Exit→Act→World→Prop} {S:World→Prop} {fuel:Nat} {listed:Array Bool} {a:Act} {w:World} (i:Nat) {o:Oper} (h:∀K':Act→World→Prop,Shut (∀a w,S w→(S w→wpAnyH P md ops Q S fuel (listed.setIfInBounds i true) a w)→K' a w)→if Region.wanted o (yielded ops a.tmps)=true then Oper.wp P o a w K' Q else K' (a.put o.dst undef) w) (hr:Region.ready md ops listed=[i]:=by kernel_rfl) (ho:ops[i]? =some o:=by exact rfl):wpAnyH P md ops Q S (fuel+1) listed a w:=wpAnyH_ready hr (by simp) (AllReadyH.cons ho h AllReadyH.nil)
theorem zG {α:Type} {l:List α} {i:Nat} {x:Option α} (h:l[i]? =x):l.toArray[i]? =x:=by simpa using h
theorem zA:(∀(a:Act) (d:Tmp) (v:Value),a.put (some d) v={a with tmps:=a.tmps.setIfInBounds d v})∧(∀(a:Act) (v:Value),a.put none v=a)∧(∀{α:Type} (l:List α) (i:Nat) (x:α),l.toArray.setIfInBounds i x=(l.set i x).toArray)∧(∀{α:Type} (x:α) (l:List α) (y:α),(x :: l).set 0 y=y :: l)∧(∀{α:Type} (x:α) (l:List α) (i:Nat) (y:α),(x :: l).set (i+1) y=x :: l.set i y):=⟨fun _ _ _=>rfl,fun _ _=>rfl,fun _ _ _=>by simp,fun _ _ _=>rfl,fun _ _ _ _=>rfl⟩
section
variable {P:Program} {md:Region.Mode} {l:List Oper} {ops:Array Oper} {Q:Exit→Act→World→Prop} {S:World→Prop} {oi:Oper} {fuel:Nat} {listed:Array Bool} {a:Act} {w:World}
theorem zT (i:Nat) {v:Value} (hS:S w) (h:wpAnyH P md l.toArray Q S fuel (listed.setIfInBounds i true) (a.put oi.dst v) w) (hi:l[i]? =some oi:=by exact rfl) (hs:(Region.noSelect l.toArray && Region.free md l.toArray listed i && (Region.ready md l.toArray listed).contains i)=true:=by kernel_rfl) (hw:Region.wanted oi (yielded l.toArray a.tmps)=true:=by exact rfl) (hQ:∀c a w,Q (.panic c) (a.put oi.dst v) w→Q (.panic c) a w:=by exact fun _ _ _ h=>h) (hy:∀w,S w→(execOp a.eval oi).run P w= .ok (.value v) w:=by intro W' h;go_simp;try with_reducible rfl):wpAnyH P md l.toArray Q S (fuel+1) listed a w:=by
 simp only [Bool.and_eq_true] at hs;exact wpAnyH_take (zG hi) hs.1.1 hs.1.2 hs.2 hQ (.inl ⟨hw,hy⟩) hS h
theorem zX (i:Nat) (hS:S w) (h:wpAnyH P md l.toArray Q S fuel (listed.setIfInBounds i true) (a.put oi.dst undef) w) (hi:l[i]? =some oi:=by exact rfl) (hs:(Region.noSelect l.toArray && Region.free md l.toArray listed i && (Region.ready md l.toArray listed).contains i)=true:=by kernel_rfl) (hw:Region.wanted oi (yielded l.toArray a.tmps)=false:=by exact rfl) (hQ:∀c a w,Q (.panic c) (a.put oi.dst undef) w→Q (.panic c) a w:=by exact fun _ _ _ h=>h):wpAnyH P md l.toArray Q S (fuel+1) listed a w:=by
 simp only [Bool.and_eq_true] at hs;exact wpAnyH_take (zG hi) hs.1.1 hs.1.2 hs.2 hQ (.inr ⟨hw,rfl⟩) hS h
def zj (i:Nat) (P:Program) (md:Region.Mode) (ops:Array Oper) (Q:Exit→Act→World→Prop) (S:World→Prop) (fuel:Nat) (listed:Array Bool) (a:Act) (w:World):Prop:=wpAnyH P md ops Q S fuel listed a w
theorem zi (i:Nat) (h:zj i P md ops Q S fuel listed a w):wpAnyH P md ops Q S fuel listed a w:=h
theorem zo {i:Nat} (h:wpAnyH P md ops Q S fuel listed a w):zj i P md ops Q S fuel listed a w:=h
theorem zt {i:Nat} {v:Value} (hS:S w) (h:zj (i+1) P md l.toArray Q S fuel (listed.setIfInBounds i true) (a.put oi.dst v) w) (hi:l[i]? =some oi:=by exact rfl) (hs:(Region.noSelect l.toArray && Region.free md l.toArray listed i && (Region.ready md l.toArray listed).contains i)=true:=by kernel_rfl) (hw:Region.wanted oi (yielded l.toArray a.tmps)=true:=by exact rfl) (hQ:∀c a w,Q (.panic c) (a.put oi.dst v) w→Q (.panic c) a w:=by exact fun _ _ _ h=>h) (hy:∀w,S w→(execOp a.eval oi).run P w= .ok (.value v) w:=by intro W' h;go_simp;try with_reducible rfl):zj i P md l.toArray Q S (fuel+1) listed a w:=zT i hS h hi hs hw hQ hy
theorem zE {id:Nat} {n:Nat} (hm:P.follows .mixedOrders=true) (hq:∀W',Below n w W'→S W') (h:S w.drew→wpAnyH P .any ops Q S ops.size (Array.replicate ops.size false) a w.drew):(Code.region id ops true).wp P Q a w:=wp_region_held_drew hm (hq _ (Below.refl _ _).drew) h
end
end Go.Proofs.YtdggplhnfhcieaaGreatDoor
end
