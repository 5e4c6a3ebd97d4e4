/- Small words that the other parts use. No condition. -/
import Derived.OrdersHeld
import Derived.Lib.Hide
import Derived.Deep.RegionHeld3
import Derived.Below
import Derived.Deep.Fields
set_option linter.all false
theorem Go.RowKit.Hid.o {p:Prop} (h:Go.RowKit.Hid p):p:=h
section
namespace Go.Proofs.YtdggplhnfhcieaaGreatDoor
open Go.RowKit Go.Deep
theorem qMx {n k:Nat} (h:k < n:=by omega):n - (RowKit.intOf (.int .i64 ((k:Int)+1))).toNat < n - (RowKit.intOf (.int .i64 (k:Int))).toNat:=by simp[RowKit.intOf];omega
theorem qLgx {α:Type} {l:List α} {i:Nat} (h:i < l.length):l[i]? =some l[i]:=List.getElem?_eq_getElem h
theorem qLlx {α:Type} {l m:List α} {i:Nat} (h:i < l.length):(l++m)[i]? =l[i]?:=List.getElem?_append_left h
theorem qLrx {α:Type} {l m:List α} {i:Nat} (h:l.length≤i):(l++m)[i]? =m[i - l.length]?:=List.getElem?_append_right h
theorem qLax {α:Type} {l m:List α}:(l++m).length=l.length+m.length:=List.length_append
theorem qLmx {α β:Type} {l:List α} (f:α→β):(l.map f).length=l.length:=List.length_map f
theorem qLtx {α:Type} {l:List α} {i:Nat}:l.take (i+1)=l.take i++l[i]?.toList:=List.take_add_one
theorem qLnx {α:Type} {l:List α}:l.take l.length=l:=List.take_length
theorem qLcx {α:Type} {a b:α} {l:List α}:a∈b :: l↔a=b∨a∈l:=List.mem_cons
theorem qBqx {a b:Bool}:((a&&b)=true)=(a=true∧b=true):=Bool.and_eq_true a b
theorem qNtx {a b c:Nat} (h:a≤b) (k:b≤c):a≤c:=Nat.le_trans h k
theorem kr {α:Sort _} {a b:α} (h:a=b:=by kernel_rfl):a=b:=h
theorem om {p:Prop} (h:p:=by omega):p:=h
theorem dc {p:Prop} (h:p:=by decide):p:=h
theorem sm {p:Prop} (h:p:=by simp):p:=h
theorem oh {a p:Prop} (x:a) (h:a→p:=by intro;omega):p:=h x
theorem oh2 {a b p:Prop} (x:a) (y:b) (h:a→b→p:=by intros;omega):p:=h x y
theorem oh3 {a b c p:Prop} (x:a) (y:b) (z:c) (h:a→b→c→p:=by intros;omega):p:=h x y z
theorem zcb {P:Program} {f:Nat} {a:Array Value} {w:World} {v:Ending} {R:World→Prop} {Q:Ending→World→Prop} (h:Calls P f a w λe x=>e=v∧R x) (k:∀x,R x→Q v x):Calls P f a w Q:=Calls.mono h (by rintro _ x ⟨rfl,y⟩;exact k x y)
theorem TC2 {α:Type} {g:Nat→Option α} {P:Nat→α→Prop} {x0 x1:α} (h:∀i x,g i=some x→P i x) (h0:g 0=some x0:=by exact rfl) (h1:g 1=some x1:=by exact rfl):P 0 x0∧P 1 x1:=⟨h _ _ h0,h _ _ h1⟩
theorem TC3 {α:Type} {g:Nat→Option α} {P:Nat→α→Prop} {x0 x1 x2:α} (h:∀i x,g i=some x→P i x) (h0:g 0=some x0:=by exact rfl) (h1:g 1=some x1:=by exact rfl) (h2:g 2=some x2:=by exact rfl):P 0 x0∧P 1 x1∧P 2 x2:=⟨h _ _ h0,h _ _ h1,h _ _ h2⟩
theorem TC4 {α:Type} {g:Nat→Option α} {P:Nat→α→Prop} {x0 x1 x2 x3:α} (h:∀i x,g i=some x→P i x) (h0:g 0=some x0:=by exact rfl) (h1:g 1=some x1:=by exact rfl) (h2:g 2=some x2:=by exact rfl) (h3:g 3=some x3:=by exact rfl):P 0 x0∧P 1 x1∧P 2 x2∧P 3 x3:=⟨h _ _ h0,h _ _ h1,h _ _ h2,h _ _ h3⟩
theorem TC5 {α:Type} {g:Nat→Option α} {P:Nat→α→Prop} {x0 x1 x2 x3 x4:α} (h:∀i x,g i=some x→P i x) (h0:g 0=some x0:=by exact rfl) (h1:g 1=some x1:=by exact rfl) (h2:g 2=some x2:=by exact rfl) (h3:g 3=some x3:=by exact rfl) (h4:g 4=some x4:=by exact rfl):P 0 x0∧P 1 x1∧P 2 x2∧P 3 x3∧P 4 x4:=⟨h _ _ h0,h _ _ h1,h _ _ h2,h _ _ h3,h _ _ h4⟩
theorem TC6 {α:Type} {g:Nat→Option α} {P:Nat→α→Prop} {x0 x1 x2 x3 x4 x5:α} (h:∀i x,g i=some x→P i x) (h0:g 0=some x0:=by exact rfl) (h1:g 1=some x1:=by exact rfl) (h2:g 2=some x2:=by exact rfl) (h3:g 3=some x3:=by exact rfl) (h4:g 4=some x4:=by exact rfl) (h5:g 5=some x5:=by exact rfl):P 0 x0∧P 1 x1∧P 2 x2∧P 3 x3∧P 4 x4∧P 5 x5:=⟨h _ _ h0,h _ _ h1,h _ _ h2,h _ _ h3,h _ _ h4,h _ _ h5⟩
theorem TC7 {α:Type} {g:Nat→Option α} {P:Nat→α→Prop} {x0 x1 x2 x3 x4 x5 x6:α} (h:∀i x,g i=some x→P i x) (h0:g 0=some x0:=by exact rfl) (h1:g 1=some x1:=by exact rfl) (h2:g 2=some x2:=by exact rfl) (h3:g 3=some x3:=by exact rfl) (h4:g 4=some x4:=by exact rfl) (h5:g 5=some x5:=by exact rfl) (h6:g 6=some x6:=by exact rfl):P 0 x0∧P 1 x1∧P 2 x2∧P 3 x3∧P 4 x4∧P 5 x5∧P 6 x6:=⟨h _ _ h0,h _ _ h1,h _ _ h2,h _ _ h3,h _ _ h4,h _ _ h5,h _ _ h6⟩
theorem TC8 {α:Type} {g:Nat→Option α} {P:Nat→α→Prop} {x0 x1 x2 x3 x4 x5 x6 x7:α} (h:∀i x,g i=some x→P i x) (h0:g 0=some x0:=by exact rfl) (h1:g 1=some x1:=by exact rfl) (h2:g 2=some x2:=by exact rfl) (h3:g 3=some x3:=by exact rfl) (h4:g 4=some x4:=by exact rfl) (h5:g 5=some x5:=by exact rfl) (h6:g 6=some x6:=by exact rfl) (h7:g 7=some x7:=by exact rfl):P 0 x0∧P 1 x1∧P 2 x2∧P 3 x3∧P 4 x4∧P 5 x5∧P 6 x6∧P 7 x7:=⟨h _ _ h0,h _ _ h1,h _ _ h2,h _ _ h3,h _ _ h4,h _ _ h5,h _ _ h6,h _ _ h7⟩
theorem TC9 {α:Type} {g:Nat→Option α} {P:Nat→α→Prop} {x0 x1 x2 x3 x4 x5 x6 x7 x8:α} (h:∀i x,g i=some x→P i x) (h0:g 0=some x0:=by exact rfl) (h1:g 1=some x1:=by exact rfl) (h2:g 2=some x2:=by exact rfl) (h3:g 3=some x3:=by exact rfl) (h4:g 4=some x4:=by exact rfl) (h5:g 5=some x5:=by exact rfl) (h6:g 6=some x6:=by exact rfl) (h7:g 7=some x7:=by exact rfl) (h8:g 8=some x8:=by exact rfl):P 0 x0∧P 1 x1∧P 2 x2∧P 3 x3∧P 4 x4∧P 5 x5∧P 6 x6∧P 7 x7∧P 8 x8:=⟨h _ _ h0,h _ _ h1,h _ _ h2,h _ _ h3,h _ _ h4,h _ _ h5,h _ _ h6,h _ _ h7,h _ _ h8⟩
theorem TC10 {α:Type} {g:Nat→Option α} {P:Nat→α→Prop} {x0 x1 x2 x3 x4 x5 x6 x7 x8 x9:α} (h:∀i x,g i=some x→P i x) (h0:g 0=some x0:=by exact rfl) (h1:g 1=some x1:=by exact rfl) (h2:g 2=some x2:=by exact rfl) (h3:g 3=some x3:=by exact rfl) (h4:g 4=some x4:=by exact rfl) (h5:g 5=some x5:=by exact rfl) (h6:g 6=some x6:=by exact rfl) (h7:g 7=some x7:=by exact rfl) (h8:g 8=some x8:=by exact rfl) (h9:g 9=some x9:=by exact rfl):P 0 x0∧P 1 x1∧P 2 x2∧P 3 x3∧P 4 x4∧P 5 x5∧P 6 x6∧P 7 x7∧P 8 x8∧P 9 x9:=⟨h _ _ h0,h _ _ h1,h _ _ h2,h _ _ h3,h _ _ h4,h _ _ h5,h _ _ h6,h _ _ h7,h _ _ h8,h _ _ h9⟩
theorem TC11 {α:Type} {g:Nat→Option α} {P:Nat→α→Prop} {x0 x1 x2 x3 x4 x5 x6 x7 x8 x9 x10:α} (h:∀i x,g i=some x→P i x) (h0:g 0=some x0:=by exact rfl) (h1:g 1=some x1:=by exact rfl) (h2:g 2=some x2:=by exact rfl) (h3:g 3=some x3:=by exact rfl) (h4:g 4=some x4:=by exact rfl) (h5:g 5=some x5:=by exact rfl) (h6:g 6=some x6:=by exact rfl) (h7:g 7=some x7:=by exact rfl) (h8:g 8=some x8:=by exact rfl) (h9:g 9=some x9:=by exact rfl) (h10:g 10=some x10:=by exact rfl):P 0 x0∧P 1 x1∧P 2 x2∧P 3 x3∧P 4 x4∧P 5 x5∧P 6 x6∧P 7 x7∧P 8 x8∧P 9 x9∧P 10 x10:=⟨h _ _ h0,h _ _ h1,h _ _ h2,h _ _ h3,h _ _ h4,h _ _ h5,h _ _ h6,h _ _ h7,h _ _ h8,h _ _ h9,h _ _ h10⟩
theorem TC12 {α:Type} {g:Nat→Option α} {P:Nat→α→Prop} {x0 x1 x2 x3 x4 x5 x6 x7 x8 x9 x10 x11:α} (h:∀i x,g i=some x→P i x) (h0:g 0=some x0:=by exact rfl) (h1:g 1=some x1:=by exact rfl) (h2:g 2=some x2:=by exact rfl) (h3:g 3=some x3:=by exact rfl) (h4:g 4=some x4:=by exact rfl) (h5:g 5=some x5:=by exact rfl) (h6:g 6=some x6:=by exact rfl) (h7:g 7=some x7:=by exact rfl) (h8:g 8=some x8:=by exact rfl) (h9:g 9=some x9:=by exact rfl) (h10:g 10=some x10:=by exact rfl) (h11:g 11=some x11:=by exact rfl):P 0 x0∧P 1 x1∧P 2 x2∧P 3 x3∧P 4 x4∧P 5 x5∧P 6 x6∧P 7 x7∧P 8 x8∧P 9 x9∧P 10 x10∧P 11 x11:=⟨h _ _ h0,h _ _ h1,h _ _ h2,h _ _ h3,h _ _ h4,h _ _ h5,h _ _ h6,h _ _ h7,h _ _ h8,h _ _ h9,h _ _ h10,h _ _ h11⟩
instance:Coe Int Value:=⟨λx=>.int .i64 x⟩
instance:Coe Nat Value:=⟨λx=>.int .i64 x⟩
instance:Coe ByteArray Value:=⟨.string⟩
instance:Coe Bool Value:=⟨.bool⟩
instance:Coe Unit Value:=⟨λ_=>.slice none 0 0⟩
instance:Coe World Nat:=⟨λw=>w.heap.size⟩
instance {α:Type}:CoeOut (List α) Nat:=⟨List.length⟩
instance:Coe Unit Nat:=⟨λ_=>140737488355328⟩
instance:Coe Unit Int:=⟨λ_=>140737488355328⟩
instance:CoeDep Char '0' Value:=⟨.int .i64 0⟩
instance:CoeDep Char '1' Value:=⟨.int .i64 1⟩
instance:CoeDep String "" Value:=⟨.string ⟨#[]⟩⟩
theorem ζ (p:Prop) (h:p):Hid p:=h
theorem ξ {α:Sort _} (a:α):∃x,x=a:=⟨a,rfl⟩
theorem Ξ {α:Sort _} (a:α):∃x,a=x:=⟨a,rfl⟩
theorem Δ {p:Prop} [Decidable p] (h:p):decide p=true:=decide_eq_true h
theorem Γ {p:Prop} [Decidable p] (h:¬p):decide p=false:=decide_eq_false h
theorem θ {p:Prop} [Decidable p] (h:p:=by omega):decide p=true:=decide_eq_true h
theorem η {p:Prop} [Decidable p] (h:¬p:=by omega):decide p=false:=decide_eq_false h
theorem ν {α:Type} [BEq α] [LawfulBEq α] {a b:α} (h:a≠b:=by omega):(a==b)=false:=beq_eq_false_iff_ne.2 h
theorem φ:(∀n Q a w,Exit.then n Q .normal a w=n a w)∧(∀n Q i a w,Exit.then n Q (.exit i) a w=Q (.exit i) a w)∧(∀n Q i a w,Exit.then n Q (.goto i) a w=Q (.goto i) a w)∧(∀n Q a w,Exit.then n Q .ret a w=Q .ret a w)∧(∀n Q i a w,Exit.then n Q (.panic i) a w=Q (.panic i) a w)∧(∀i Q a w,Exit.inBlock i Q .normal a w=Q .normal a w)∧(∀i Q j a w,Exit.inBlock i Q (.exit j) a w=if j=i then Q .normal a w else Q (.exit j) a w)∧(∀i Q j a w,Exit.inBlock i Q (.goto j) a w=Q (.goto j) a w)∧(∀i Q a w,Exit.inBlock i Q .ret a w=Q .ret a w)∧∀i Q j a w,Exit.inBlock i Q (.panic j) a w=Q (.panic j) a w:=⟨λ_ _ _ _=>rfl,λ_ _ _ _ _=>rfl,λ_ _ _ _ _=>rfl,λ_ _ _ _=>rfl,λ_ _ _ _ _=>rfl,λ_ _ _ _=>rfl,λ_ _ _ _ _=>rfl,λ_ _ _ _ _=>rfl,λ_ _ _ _=>rfl,λ_ _ _ _ _=>rfl⟩
inductive Cd|cL (w:World) (b i:Nat) (v:Value)|bW (w x:World)|pT (b:Nat)|pO (b i:Nat)|aD (b i:Nat)|kB (f:Nat) (a:Array Value) (w:World) (v:Value)|oM|oF|oA|oE
instance {w b i v}:CoeDep Cd (.cL w b i v) Prop:=⟨w.cell? ⟨b,i,none⟩=some v⟩
instance {w x}:CoeDep Cd (.bW w x) Prop:=⟨Below w.heap.size w x⟩
instance {b}:CoeDep Cd (.pT b) Value:=⟨.pointer (some ⟨b,0,none⟩)⟩
instance {b i}:CoeDep Cd (.pO b i) Value:=⟨.pointer (some ⟨b,i,none⟩)⟩
instance {b i}:CoeDep Cd (.aD b i) Addr:=⟨⟨b,i,none⟩⟩
instance:CoeDep Cd .oM (Array Value):=⟨#[.string ⟨#[]⟩,.int .i64 0,(),.string ⟨#[]⟩,(),.int .i64 0,.bool false,.string ⟨#[]⟩]⟩
instance:CoeDep Cd .oF (Array Value):=⟨#[.string ⟨#[]⟩,.int .i64 0,(),(),(),(),()]⟩
instance:CoeDep Cd .oA (Array Value):=⟨#[.int .i64 0,.int .i64 0,.string ⟨#[]⟩,(),(),(),()]⟩
instance:CoeDep Cd .oE (Array Value):=⟨#[.int .i64 0,.int .i64 0,.int .i64 0,(),.string ⟨#[]⟩]⟩
theorem zh {p:Prop} (h:p):Hid p:=Lib.hid h
theorem zy {w W:World} {p:Addr} {v:Value} (B:Below w.heap.size w W) (h:w.cell? p=some v):W.cell? p=some v:=(B.cell (World.block_lt_of_cell? w p h)).trans h
theorem zyB {w:World} {p:Addr} {v:Value} (h:w.cell? p=some v):∀W,Below w.heap.size w W→W.cell? p=some v:=λ_ B=>zy B h
theorem zyA {w W:World} {p:Nat→Addr} {g:Nat→Option Value} (B:Below w.heap.size w W) (c:∀i x,g i=some x→w.cell? (p i)=some x):∀i x,g i=some x→W.cell? (p i)=some x:=λi x h=>zy B (c i x h)
theorem HQb2 {n:Nat} {w:World} {P0 P1:World→Prop} (f0:∀W,Below n w W→P0 W) (f1:∀W,Below n w W→P1 W):∀W,Below n w W→Below n w W∧P0 W∧P1 W:=λW b=>⟨b,f0 W b,f1 W b⟩
theorem HQa2 {n:Nat} {w:World} {P0 P1:World→Prop} (f0:∀W,Below n w W→P0 W) (f1:∀W,Below n w W→P1 W):∀W,Below n w W→P0 W∧P1 W:=λW b=>⟨f0 W b,f1 W b⟩
theorem HQb3 {n:Nat} {w:World} {P0 P1 P2:World→Prop} (f0:∀W,Below n w W→P0 W) (f1:∀W,Below n w W→P1 W) (f2:∀W,Below n w W→P2 W):∀W,Below n w W→Below n w W∧P0 W∧P1 W∧P2 W:=λW b=>⟨b,f0 W b,f1 W b,f2 W b⟩
theorem HQa3 {n:Nat} {w:World} {P0 P1 P2:World→Prop} (f0:∀W,Below n w W→P0 W) (f1:∀W,Below n w W→P1 W) (f2:∀W,Below n w W→P2 W):∀W,Below n w W→P0 W∧P1 W∧P2 W:=λW b=>⟨f0 W b,f1 W b,f2 W b⟩
theorem HQb5 {n:Nat} {w:World} {P0 P1 P2 P3 P4:World→Prop} (f0:∀W,Below n w W→P0 W) (f1:∀W,Below n w W→P1 W) (f2:∀W,Below n w W→P2 W) (f3:∀W,Below n w W→P3 W) (f4:∀W,Below n w W→P4 W):∀W,Below n w W→Below n w W∧P0 W∧P1 W∧P2 W∧P3 W∧P4 W:=λW b=>⟨b,f0 W b,f1 W b,f2 W b,f3 W b,f4 W b⟩
theorem HQb6 {n:Nat} {w:World} {P0 P1 P2 P3 P4 P5:World→Prop} (f0:∀W,Below n w W→P0 W) (f1:∀W,Below n w W→P1 W) (f2:∀W,Below n w W→P2 W) (f3:∀W,Below n w W→P3 W) (f4:∀W,Below n w W→P4 W) (f5:∀W,Below n w W→P5 W):∀W,Below n w W→Below n w W∧P0 W∧P1 W∧P2 W∧P3 W∧P4 W∧P5 W:=λW b=>⟨b,f0 W b,f1 W b,f2 W b,f3 W b,f4 W b,f5 W b⟩
theorem HQb7 {n:Nat} {w:World} {P0 P1 P2 P3 P4 P5 P6:World→Prop} (f0:∀W,Below n w W→P0 W) (f1:∀W,Below n w W→P1 W) (f2:∀W,Below n w W→P2 W) (f3:∀W,Below n w W→P3 W) (f4:∀W,Below n w W→P4 W) (f5:∀W,Below n w W→P5 W) (f6:∀W,Below n w W→P6 W):∀W,Below n w W→Below n w W∧P0 W∧P1 W∧P2 W∧P3 W∧P4 W∧P5 W∧P6 W:=λW b=>⟨b,f0 W b,f1 W b,f2 W b,f3 W b,f4 W b,f5 W b,f6 W b⟩
theorem HQb8 {n:Nat} {w:World} {P0 P1 P2 P3 P4 P5 P6 P7:World→Prop} (f0:∀W,Below n w W→P0 W) (f1:∀W,Below n w W→P1 W) (f2:∀W,Below n w W→P2 W) (f3:∀W,Below n w W→P3 W) (f4:∀W,Below n w W→P4 W) (f5:∀W,Below n w W→P5 W) (f6:∀W,Below n w W→P6 W) (f7:∀W,Below n w W→P7 W):∀W,Below n w W→Below n w W∧P0 W∧P1 W∧P2 W∧P3 W∧P4 W∧P5 W∧P6 W∧P7 W:=λW b=>⟨b,f0 W b,f1 W b,f2 W b,f3 W b,f4 W b,f5 W b,f6 W b,f7 W b⟩
theorem HQb12 {n:Nat} {w:World} {P0 P1 P2 P3 P4 P5 P6 P7 P8 P9 P10 P11:World→Prop} (f0:∀W,Below n w W→P0 W) (f1:∀W,Below n w W→P1 W) (f2:∀W,Below n w W→P2 W) (f3:∀W,Below n w W→P3 W) (f4:∀W,Below n w W→P4 W) (f5:∀W,Below n w W→P5 W) (f6:∀W,Below n w W→P6 W) (f7:∀W,Below n w W→P7 W) (f8:∀W,Below n w W→P8 W) (f9:∀W,Below n w W→P9 W) (f10:∀W,Below n w W→P10 W) (f11:∀W,Below n w W→P11 W):∀W,Below n w W→Below n w W∧P0 W∧P1 W∧P2 W∧P3 W∧P4 W∧P5 W∧P6 W∧P7 W∧P8 W∧P9 W∧P10 W∧P11 W:=λW b=>⟨b,f0 W b,f1 W b,f2 W b,f3 W b,f4 W b,f5 W b,f6 W b,f7 W b,f8 W b,f9 W b,f10 W b,f11 W b⟩
theorem zS:(∀(w:World) o,(w.alloc o).heap.size=w.heap.size+1)∧(∀(w:World) a v,(w.setCell a v).heap.size=w.heap.size)∧(∀w:World,w.drew.heap.size=w.heap.size):=⟨World.size_alloc,World.size_setCell,World.size_drew⟩
theorem zC2 {α:Type} {P:Nat→α→Prop} {x0 x1:α} {r:List α} (h:∀i x,(x0 :: x1 :: r).toArray[i]? =some x→P i x):P 0 x0∧P 1 x1:=⟨h 0 _ rfl,h 1 _ rfl⟩
theorem zC3 {α:Type} {P:Nat→α→Prop} {x0 x1 x2:α} {r:List α} (h:∀i x,(x0 :: x1 :: x2 :: r).toArray[i]? =some x→P i x):P 0 x0∧P 1 x1∧P 2 x2:=⟨h 0 _ rfl,h 1 _ rfl,h 2 _ rfl⟩
theorem zC4 {α:Type} {P:Nat→α→Prop} {x0 x1 x2 x3:α} {r:List α} (h:∀i x,(x0 :: x1 :: x2 :: x3 :: r).toArray[i]? =some x→P i x):P 0 x0∧P 1 x1∧P 2 x2∧P 3 x3:=⟨h 0 _ rfl,h 1 _ rfl,h 2 _ rfl,h 3 _ rfl⟩
theorem zC5 {α:Type} {P:Nat→α→Prop} {x0 x1 x2 x3 x4:α} {r:List α} (h:∀i x,(x0 :: x1 :: x2 :: x3 :: x4 :: r).toArray[i]? =some x→P i x):P 0 x0∧P 1 x1∧P 2 x2∧P 3 x3∧P 4 x4:=⟨h 0 _ rfl,h 1 _ rfl,h 2 _ rfl,h 3 _ rfl,h 4 _ rfl⟩
theorem zC6 {α:Type} {P:Nat→α→Prop} {x0 x1 x2 x3 x4 x5:α} {r:List α} (h:∀i x,(x0 :: x1 :: x2 :: x3 :: x4 :: x5 :: r).toArray[i]? =some x→P i x):P 0 x0∧P 1 x1∧P 2 x2∧P 3 x3∧P 4 x4∧P 5 x5:=⟨h 0 _ rfl,h 1 _ rfl,h 2 _ rfl,h 3 _ rfl,h 4 _ rfl,h 5 _ rfl⟩
theorem zC7 {α:Type} {P:Nat→α→Prop} {x0 x1 x2 x3 x4 x5 x6:α} {r:List α} (h:∀i x,(x0 :: x1 :: x2 :: x3 :: x4 :: x5 :: x6 :: r).toArray[i]? =some x→P i x):P 0 x0∧P 1 x1∧P 2 x2∧P 3 x3∧P 4 x4∧P 5 x5∧P 6 x6:=⟨h 0 _ rfl,h 1 _ rfl,h 2 _ rfl,h 3 _ rfl,h 4 _ rfl,h 5 _ rfl,h 6 _ rfl⟩
theorem zC8 {α:Type} {P:Nat→α→Prop} {x0 x1 x2 x3 x4 x5 x6 x7:α} {r:List α} (h:∀i x,(x0 :: x1 :: x2 :: x3 :: x4 :: x5 :: x6 :: x7 :: r).toArray[i]? =some x→P i x):P 0 x0∧P 1 x1∧P 2 x2∧P 3 x3∧P 4 x4∧P 5 x5∧P 6 x6∧P 7 x7:=⟨h 0 _ rfl,h 1 _ rfl,h 2 _ rfl,h 3 _ rfl,h 4 _ rfl,h 5 _ rfl,h 6 _ rfl,h 7 _ rfl⟩
theorem zC9 {α:Type} {P:Nat→α→Prop} {x0 x1 x2 x3 x4 x5 x6 x7 x8:α} {r:List α} (h:∀i x,(x0 :: x1 :: x2 :: x3 :: x4 :: x5 :: x6 :: x7 :: x8 :: r).toArray[i]? =some x→P i x):P 0 x0∧P 1 x1∧P 2 x2∧P 3 x3∧P 4 x4∧P 5 x5∧P 6 x6∧P 7 x7∧P 8 x8:=⟨h 0 _ rfl,h 1 _ rfl,h 2 _ rfl,h 3 _ rfl,h 4 _ rfl,h 5 _ rfl,h 6 _ rfl,h 7 _ rfl,h 8 _ rfl⟩
theorem zC10 {α:Type} {P:Nat→α→Prop} {x0 x1 x2 x3 x4 x5 x6 x7 x8 x9:α} {r:List α} (h:∀i x,(x0 :: x1 :: x2 :: x3 :: x4 :: x5 :: x6 :: x7 :: x8 :: x9 :: r).toArray[i]? =some x→P i x):P 0 x0∧P 1 x1∧P 2 x2∧P 3 x3∧P 4 x4∧P 5 x5∧P 6 x6∧P 7 x7∧P 8 x8∧P 9 x9:=⟨h 0 _ rfl,h 1 _ rfl,h 2 _ rfl,h 3 _ rfl,h 4 _ rfl,h 5 _ rfl,h 6 _ rfl,h 7 _ rfl,h 8 _ rfl,h 9 _ rfl⟩
theorem zC11 {α:Type} {P:Nat→α→Prop} {x0 x1 x2 x3 x4 x5 x6 x7 x8 x9 x10:α} {r:List α} (h:∀i x,(x0 :: x1 :: x2 :: x3 :: x4 :: x5 :: x6 :: x7 :: x8 :: x9 :: x10 :: r).toArray[i]? =some x→P i x):P 0 x0∧P 1 x1∧P 2 x2∧P 3 x3∧P 4 x4∧P 5 x5∧P 6 x6∧P 7 x7∧P 8 x8∧P 9 x9∧P 10 x10:=⟨h 0 _ rfl,h 1 _ rfl,h 2 _ rfl,h 3 _ rfl,h 4 _ rfl,h 5 _ rfl,h 6 _ rfl,h 7 _ rfl,h 8 _ rfl,h 9 _ rfl,h 10 _ rfl⟩
theorem zC12 {α:Type} {P:Nat→α→Prop} {x0 x1 x2 x3 x4 x5 x6 x7 x8 x9 x10 x11:α} {r:List α} (h:∀i x,(x0 :: x1 :: x2 :: x3 :: x4 :: x5 :: x6 :: x7 :: x8 :: x9 :: x10 :: x11 :: r).toArray[i]? =some x→P i x):P 0 x0∧P 1 x1∧P 2 x2∧P 3 x3∧P 4 x4∧P 5 x5∧P 6 x6∧P 7 x7∧P 8 x8∧P 9 x9∧P 10 x10∧P 11 x11:=⟨h 0 _ rfl,h 1 _ rfl,h 2 _ rfl,h 3 _ rfl,h 4 _ rfl,h 5 _ rfl,h 6 _ rfl,h 7 _ rfl,h 8 _ rfl,h 9 _ rfl,h 10 _ rfl,h 11 _ rfl⟩
theorem zge {α:Type} {l:List α} {i:Nat} {a:α} (h:l[i]? =some a):∃h:i < l.length,l[i]=a:=List.getElem?_eq_some_iff.1 h
theorem zbr {n:Nat} {w:World}:Below n w w:=Below.refl n w
theorem zbx {w W:World} {cs:Array Value} {T:TypeId} (h:w.alloc (.cells cs T)=W):W.heap[w.heap.size]? =some (.cells cs T (0,0)):=by rw[← h];exact heap_alloc_new w _
abbrev zsi:=@Option.some.inj
theorem znl (n:Nat):n≤n:=Nat.le_refl n
theorem zmg {α:Type} {l:List α} {i:Nat} {a:α} (h:l[i]? =some a):a∈l:=List.mem_of_getElem? h
abbrev zcm:=@Calls.mono
theorem zll {a b c:Nat} (h:a < b) (k:b≤c):a < c:=Nat.lt_of_lt_of_le h k
theorem zmc {α:Type} {a:α} (y:α) {l:List α} (h:a∈l):a∈y :: l:=List.mem_cons_of_mem y h
theorem zml {α:Type} {a b:α} (h:b∈[a]):b=a:=List.mem_singleton.1 h
theorem zmb {α:Type} {a:α} {s t:List α} (h:a∈s++t):a∈s∨a∈t:=List.mem_append.1 h
theorem zr {P:Program} {md:Region.Mode} {ops:Array Oper} {Q:Exit→Act→World→Prop} {S:World→Prop} {fuel:Nat} {listed:Array Bool} {a:Act} {w:World} (i:Nat) {o:Oper} (h:∀K':Act→World→Prop,Shut (∀a w,S w→(S w→wpAnyH P md ops Q S fuel (listed.setIfInBounds i true) a w)→K' a w)→if Region.wanted o (yielded ops a.tmps)=true then Oper.wp P o a w K' Q else K' (a.put o.dst undef) w) (hr:Region.ready md ops listed=[i]:=by kernel_rfl) (ho:ops[i]? =some o:=by exact rfl):wpAnyH P md ops Q S (fuel+1) listed a w:=wpAnyH_ready hr (by simp) (AllReadyH.cons ho h AllReadyH.nil)
theorem zG {α:Type} {l:List α} {i:Nat} {x:Option α} (h:l[i]? =x):l.toArray[i]? =x:=by simpa using h
theorem zA:(∀(a:Act) (d:Tmp) (v:Value),a.put (some d) v={a with tmps:=a.tmps.setIfInBounds d v})∧(∀(a:Act) (v:Value),a.put none v=a)∧(∀{α:Type} (l:List α) (i:Nat) (x:α),l.toArray.setIfInBounds i x=(l.set i x).toArray)∧(∀{α:Type} (x:α) (l:List α) (y:α),(x :: l).set 0 y=y :: l)∧(∀{α:Type} (x:α) (l:List α) (i:Nat) (y:α),(x :: l).set (i+1) y=x :: l.set i y):=⟨λ_ _ _=>rfl,λ_ _=>rfl,λ_ _ _=>by simp,λ_ _ _=>rfl,λ_ _ _ _=>rfl⟩
section
variable {P:Program} {md:Region.Mode} {l:List Oper} {ops:Array Oper} {Q:Exit→Act→World→Prop} {S:World→Prop} {oi:Oper} {fuel:Nat} {listed:Array Bool} {a:Act} {w:World}
theorem zT (i:Nat) {v:Value} (hS:S w) (h:wpAnyH P md l.toArray Q S fuel (listed.setIfInBounds i true) (a.put oi.dst v) w) (hi:l[i]? =some oi:=by exact rfl) (hs:(Region.noSelect l.toArray && Region.free md l.toArray listed i && (Region.ready md l.toArray listed).contains i)=true:=by kernel_rfl) (hw:Region.wanted oi (yielded l.toArray a.tmps)=true:=by exact rfl) (hQ:∀c a w,Q (.panic c) (a.put oi.dst v) w→Q (.panic c) a w:=by exact λ_ _ _ h=>h) (hy:∀w,S w→(execOp a.eval oi).run P w= .ok (.value v) w:=by intro W' h;go_simp;try with_reducible rfl):wpAnyH P md l.toArray Q S (fuel+1) listed a w:=by
 simp only[Bool.and_eq_true] at hs;exact wpAnyH_take (zG hi) hs.1.1 hs.1.2 hs.2 hQ (.inl ⟨hw,hy⟩) hS h
theorem zX (i:Nat) (hS:S w) (h:wpAnyH P md l.toArray Q S fuel (listed.setIfInBounds i true) (a.put oi.dst undef) w) (hi:l[i]? =some oi:=by exact rfl) (hs:(Region.noSelect l.toArray && Region.free md l.toArray listed i && (Region.ready md l.toArray listed).contains i)=true:=by kernel_rfl) (hw:Region.wanted oi (yielded l.toArray a.tmps)=false:=by exact rfl) (hQ:∀c a w,Q (.panic c) (a.put oi.dst undef) w→Q (.panic c) a w:=by exact λ_ _ _ h=>h):wpAnyH P md l.toArray Q S (fuel+1) listed a w:=by
 simp only[Bool.and_eq_true] at hs;exact wpAnyH_take (zG hi) hs.1.1 hs.1.2 hs.2 hQ (.inr ⟨hw,rfl⟩) hS h
def zj (i:Nat) (P:Program) (md:Region.Mode) (ops:Array Oper) (Q:Exit→Act→World→Prop) (S:World→Prop) (fuel:Nat) (listed:Array Bool) (a:Act) (w:World):Prop:=wpAnyH P md ops Q S fuel listed a w
theorem zi (i:Nat) (h:zj i P md ops Q S fuel listed a w):wpAnyH P md ops Q S fuel listed a w:=h
theorem zo {i:Nat} (h:wpAnyH P md ops Q S fuel listed a w):zj i P md ops Q S fuel listed a w:=h
theorem zt {i:Nat} {v:Value} (hS:S w) (h:zj (i+1) P md l.toArray Q S fuel (listed.setIfInBounds i true) (a.put oi.dst v) w) (hi:l[i]? =some oi:=by exact rfl) (hs:(Region.noSelect l.toArray && Region.free md l.toArray listed i && (Region.ready md l.toArray listed).contains i)=true:=by kernel_rfl) (hw:Region.wanted oi (yielded l.toArray a.tmps)=true:=by exact rfl) (hQ:∀c a w,Q (.panic c) (a.put oi.dst v) w→Q (.panic c) a w:=by exact λ_ _ _ h=>h) (hy:∀w,S w→(execOp a.eval oi).run P w= .ok (.value v) w:=by intro W' h;go_simp;try with_reducible rfl):zj i P md l.toArray Q S (fuel+1) listed a w:=zT i hS h hi hs hw hQ hy
theorem zE {id:Nat} {n:Nat} (hm:P.follows .mixedOrders=true) (hq:∀W',Below n w W'→S W') (h:S w.drew→wpAnyH P .any ops Q S ops.size (Array.replicate ops.size false) a w.drew):(Code.region id ops true).wp P Q a w:=wp_region_held_drew hm (hq _ (Below.refl _ _).drew) h
theorem zEB {id:Nat} (h:Below w.heap.size w w.drew→wpAnyH P .any ops Q (Below w.heap.size w) ops.size (Array.replicate ops.size false) a w.drew) (hm:P.follows .mixedOrders=true:=by kernel_rfl):(Code.region id ops true).wp P Q a w:=wp_region_held_drew hm zbr.drew h
end
end Go.Proofs.YtdggplhnfhcieaaGreatDoor
end
