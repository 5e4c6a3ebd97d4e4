/- No condition. -/
import Derived.Deep.RegionLaw
import Derived.Laws.IdiomCopy
import Derived.Laws.Externs
import Derived.Laws.NewBlocks
import Derived.Lib.SliceRun
import Derived.Lib.Overlaps
import Derived.Lib.AppendZerosOnto
import Derived.Test.YtdggplhnfhcieaaGreatDoorX02
set_option linter.all false
set_option maxRecDepth 100000
set_option maxHeartbeats 16000000
namespace Go.Proofs.YtdggplhnfhcieaaGreatDoor
section
open Go.RowKit Go.Deep
def z7m (sz n:Nat) (xs:List Value):List (List Value):=(List.range n).map fun i=>(xs.drop (i*sz)).take sz
theorem z3w (sz n:Nat) (xs:List Value):(z7m sz n xs).length=n:=by simp [z7m]
theorem zEh {sz n:Nat} {xs:List Value} {i:Nat} (hi:i < n):(z7m sz n xs)[i]? =some ((xs.drop (i*sz)).take sz):=by
 unfold z7m;rw [List.getElem?_map,List.getElem?_range hi];rfl
theorem Grow.toRow {α:Type} {e:TypeId} {sz:Nat} {Q:Rp α} (ok:RpOk sz Q) (hsz:0 < sz) {B S:Nat->Prop} {w:World} {base:Nat} {v:Value} {l:List α} (h:Grow e sz Q B w base v l) (hS:∀b,¬B b->S b):
  ∃cells,RowC e sz w v cells/\All2 (Q S w) cells l/\∀b,v.ownBlock=some b->base<=b:=by
 obtain ⟨h1,h2,xs,⟨hxl,h4⟩,hel⟩:=h;have hall:All2 (Q S w) (z7m sz l.length xs) l:=⟨z3w _ _ _,fun i x y hx hy=>by
  have hi:i < l.length:=(zge hy).1;rw [zEh hi] at hx;obtain rfl:=zsi hx;obtain ⟨ys,g1,g2,g3⟩:=hel i y hy;have e:(xs.drop (i*sz)).take sz=ys:=by
   have hle:i*sz+sz<=l.length*sz:=by rw [<-Nat.succ_mul];exact Nat.mul_le_mul_right _ hi
   apply List.ext_getElem?;intro j;rw [List.getElem?_take];split
   ·rename_i hj;rw [List.getElem?_drop];have hy2:ys[j]? =some ys[j]:=qLgx (by omega);rw [hy2];exact g2 j _ hy2
   ·rw [List.getElem?_eq_none (by omega)]
  rw [e];exact ok.keep g3 fun b hb hl=>⟨hS b hb.2.1,rfl⟩⟩
 refine ⟨z7m sz l.length xs,⟨fun x hx=>?_,?_⟩,hall,fun b hb=>?_⟩
 ·obtain ⟨i,hi⟩:=List.getElem?_of_mem hx;have hil:i < l.length:=by have:=(zge hi).1;rwa [z3w] at this
  have hq:=hall.2 i x _ hi (qLgx hil);exact ⟨ok.len hq,ok.one hq⟩
 ·rcases h4 with ⟨rfl,h0⟩ | ⟨g,cap,cur,rfl,hb,hg,hnc,hcm,hcs,htk⟩
  ·left;exact ⟨rfl,List.eq_nil_of_length_eq_zero (by rw [z3w,h0])⟩
  right;refine ⟨g,0,cap,cur,by rw [z3w],hg,by rw [z3w];exact hnc,hcm,by omega,fun q u hq=>?_⟩;obtain ⟨i,j,x,e1,e2,e3,e4⟩:=zHv hsz (l:=z7m sz l.length xs) (fun y hy=>by
   obtain ⟨i,hi⟩:=List.getElem?_of_mem hy;have hil:i < l.length:=by have:=(zge hi).1;rwa [z3w] at this
   exact ok.len (hall.2 i y _ hi (qLgx hil))) hq
  have hil:i < l.length:=by have:=(zge e3).1;rwa [z3w] at this
  rw [zEh hil] at e3;obtain rfl:=zsi e3;rw [List.getElem?_take,if_pos e2,List.getElem?_drop,<-e1] at e4;rw [Nat.zero_add,<-Array.getElem?_toList];have hql:q < l.length*sz:=by rw [<-hxl];exact (zge e4).1
  have h9:=congrArg (fun l=>l[q]?) htk;simp only [List.getElem?_take,if_pos hql] at h9;rw [h9];exact e4
 rcases h4 with ⟨rfl,h0⟩ | ⟨g,cap,cur,rfl,hb2,_⟩
 ·cases hb
 simp only [Value.ownBlock,Option.some.injEq] at hb;omega
def z20 {α:Type} (e:TypeId) (sz:Nat) (Q:Rp α) (S:Nat->Prop) (l:List α) (w:World) (x:Ending) (w':World):Prop:=
 (∃v' cells,x= .returned v'/\RowC e sz w' v' cells/\All2 (Q S w') cells l/\∀b,v'.ownBlock=some b->w.heap.size<=b)/\Below w.heap.size w w'
theorem zQn (w:World) (a:Option Addr) (n c:Nat):(binOp .eql 30 (.slice a n c) (.slice none 0 0)).run Tryz.prog w= .ok (.bool a.isNone) w:=by
 simp only [binOp];simp [run_equal_slice_nil w _ _ a n c Tryz.underlying30]
theorem zM7 (l:List User) (v:Value) (w:World) (S:Nat->Prop) (h:Sl 2 z0s S w v l) (hl0:l.length<=10000):
  Calls Tryz.prog 70 #[v] w (z20 91 2 z0s S l w):=by
 obtain ⟨ix,hi,hz,h1,h2⟩:=info_parts (show (Tryz.prog.info? 91).map (fun i=>(i.zero,i.size,i.bytes))=some (some (.agg #[.string ⟨#[]⟩,.bool false]),2,24) from by kernel_rfl);obtain ⟨A,_,rfl,hl,hc,_,hs⟩:=h;unfold maxLen at hc;have q22:=zQn;rcases A with _ | ad
 ·obtain rfl:l=[]:=by
   cases l with
   | nil=>rfl
   | cons x r=>obtain ⟨_,_,_,h,_⟩:=hs 0 x rfl;cases h
  clear hs;go_enter Tryz.func70,Tryz.ntmps70
  go_wp2;go_ret;exact ⟨⟨_,[],rfl,RowC.nil _,All2.nil,fun b hb=>by cases hb⟩,Below.refl _ _⟩
 have hsl:SlAt 2 z0s (z1z (fun b=>¬S b) (w.alloc (.cells #[] 91)) (.slice (some ⟨w.heap.size,0,none⟩) 0 0)) (w.alloc (.cells #[] 91)) (some ad) l:=
  hs.keep z3m (by decide) (fun b hb hl=>⟨⟨by simp;omega,fun h=>h hb,fun hb'=>by simp only [Value.ownBlock,Option.some.injEq] at hb';omega⟩,heap_alloc_old _ _ hl⟩)
 clear hs;go_enter Tryz.func70,Tryz.ntmps70
 go_wp2_with (at_builtin;go_loud (refine Y5 (R:=z0s) _ rfl (.tmp 5) (.tmp 6) 30 rfl 91 ix _ 2 24 Tryz.underlying30 hi hz h1 h2 rfl (by decide) z3m w.heap.size (by go_size) _ _ rfl (Grow.empty (heap_alloc_new _ _) (znl _)) _ _ _ rfl _ rfl hsl (by simp;omega) (by decide) ?_);intro v1 w1 g1 gg1 go1;rw [List.nil_append] at g1;obtain ⟨_,_,_,rfl,hn1⟩:=g1.shape';clear hn1)
 go_ret;obtain ⟨cells,k1,k2,k3⟩:=Grow.toRow z3m (by decide) g1 fun b hb=>Classical.byContradiction hb
 exact ⟨⟨_,cells,rfl,k1,k2,k3⟩,Below.grown (Below.alloc zbr (znl _) _) gg1 (by simp) fun b hb=>by have:=zsi (show some w.heap.size=some b from hb);omega⟩
theorem zQo (w:World) (a:Option Addr) (n c:Nat):(binOp .eql 31 (.slice a n c) (.slice none 0 0)).run Tryz.prog w= .ok (.bool a.isNone) w:=by
 simp only [binOp];simp [run_equal_slice_nil w _ _ a n c Tryz.underlying31]
theorem zM8 (l:List Pair) (v:Value) (w:World) (S:Nat->Prop) (h:Sl 2 z0o S w v l) (hl0:l.length<=10000):
  Calls Tryz.prog 71 #[v] w (z20 126 2 z0o S l w):=by
 obtain ⟨ix,hi,hz,h1,h2⟩:=info_parts (show (Tryz.prog.info? 126).map (fun i=>(i.zero,i.size,i.bytes))=some (some (.agg #[.string ⟨#[]⟩,.string ⟨#[]⟩]),2,32) from by kernel_rfl);obtain ⟨A,_,rfl,hl,hc,_,hs⟩:=h;unfold maxLen at hc;have q22:=zQo;rcases A with _ | ad
 ·obtain rfl:l=[]:=by
   cases l with
   | nil=>rfl
   | cons x r=>obtain ⟨_,_,_,h,_⟩:=hs 0 x rfl;cases h
  clear hs;go_enter Tryz.func71,Tryz.ntmps71
  go_wp2;go_ret;exact ⟨⟨_,[],rfl,RowC.nil _,All2.nil,fun b hb=>by cases hb⟩,Below.refl _ _⟩
 have hsl:SlAt 2 z0o (z1z (fun b=>¬S b) (w.alloc (.cells #[] 126)) (.slice (some ⟨w.heap.size,0,none⟩) 0 0)) (w.alloc (.cells #[] 126)) (some ad) l:=
  hs.keep z2e (by decide) (fun b hb hl=>⟨⟨by simp;omega,fun h=>h hb,fun hb'=>by simp only [Value.ownBlock,Option.some.injEq] at hb';omega⟩,heap_alloc_old _ _ hl⟩)
 clear hs;go_enter Tryz.func71,Tryz.ntmps71
 go_wp2_with (at_builtin;go_loud (refine Y5 (R:=z0o) _ rfl (.tmp 5) (.tmp 6) 31 rfl 126 ix _ 2 32 Tryz.underlying31 hi hz h1 h2 rfl (by decide) z2e w.heap.size (by go_size) _ _ rfl (Grow.empty (heap_alloc_new _ _) (znl _)) _ _ _ rfl _ rfl hsl (by simp;omega) (by decide) ?_);intro v1 w1 g1 gg1 go1;rw [List.nil_append] at g1;obtain ⟨_,_,_,rfl,hn1⟩:=g1.shape';clear hn1)
 go_ret;obtain ⟨cells,k1,k2,k3⟩:=Grow.toRow z2e (by decide) g1 fun b hb=>Classical.byContradiction hb
 exact ⟨⟨_,cells,rfl,k1,k2,k3⟩,Below.grown (Below.alloc zbr (znl _) _) gg1 (by simp) fun b hb=>by have:=zsi (show some w.heap.size=some b from hb);omega⟩
theorem zM9 (w:World) (a:Option Addr) (n c:Nat):(binOp .eql 32 (.slice a n c) (.slice none 0 0)).run Tryz.prog w= .ok (.bool a.isNone) w:=by
 simp only [binOp];simp [run_equal_slice_nil w _ _ a n c Tryz.underlying32]
theorem zIc (l:List Folder) (v:Value) (w:World) (S:Nat->Prop) (h:Sl 7 ZG S w v l) (hl0:l.length<=10000):
  Calls Tryz.prog 72 #[v] w (z20 74 7 ZG S l w):=by
 obtain ⟨ix,hi,hz,h1,h2⟩:=info_parts (show (Tryz.prog.info? 74).map (fun i=>(i.zero,i.size,i.bytes))=some (some (.agg #[.string ⟨#[]⟩,.int .i64 0,.slice none 0 0,.slice none 0 0,.slice none 0 0,.slice none 0 0,.slice none 0 0]),7,144) from by kernel_rfl);obtain ⟨A,_,rfl,hl,hc,_,hs⟩:=h;unfold maxLen at hc;have q22:=zM9;rcases A with _ | ad
 ·obtain rfl:l=[]:=by
   cases l with
   | nil=>rfl
   | cons x r=>obtain ⟨_,_,_,h,_⟩:=hs 0 x rfl;cases h
  clear hs;go_enter Tryz.func72,Tryz.ntmps72
  go_wp2;go_ret;exact ⟨⟨_,[],rfl,RowC.nil _,All2.nil,fun b hb=>by cases hb⟩,Below.refl _ _⟩
 have hsl:SlAt 7 ZG (z1z (fun b=>¬S b) (w.alloc (.cells #[] 74)) (.slice (some ⟨w.heap.size,0,none⟩) 0 0)) (w.alloc (.cells #[] 74)) (some ad) l:=
  hs.keep YX (by decide) (fun b hb hl=>⟨⟨by simp;omega,fun h=>h hb,fun hb'=>by simp only [Value.ownBlock,Option.some.injEq] at hb';omega⟩,heap_alloc_old _ _ hl⟩)
 clear hs;go_enter Tryz.func72,Tryz.ntmps72
 go_wp2_with (at_builtin;go_loud (refine Y5 (R:=ZG) _ rfl (.tmp 5) (.tmp 6) 32 rfl 74 ix _ 7 144 Tryz.underlying32 hi hz h1 h2 rfl (by decide) YX w.heap.size (by go_size) _ _ rfl (Grow.empty (heap_alloc_new _ _) (znl _)) _ _ _ rfl _ rfl hsl (by simp;omega) (by decide) ?_);intro v1 w1 g1 gg1 go1;rw [List.nil_append] at g1;obtain ⟨_,_,_,rfl,hn1⟩:=g1.shape';clear hn1)
 go_ret;obtain ⟨cells,k1,k2,k3⟩:=Grow.toRow YX (by decide) g1 fun b hb=>Classical.byContradiction hb
 exact ⟨⟨_,cells,rfl,k1,k2,k3⟩,Below.grown (Below.alloc zbr (znl _) _) gg1 (by simp) fun b hb=>by have:=zsi (show some w.heap.size=some b from hb);omega⟩
theorem zId (w:World) (a:Option Addr) (n c:Nat):(binOp .eql 68 (.slice a n c) (.slice none 0 0)).run Tryz.prog w= .ok (.bool a.isNone) w:=by
 simp only [binOp];simp [run_equal_slice_nil w _ _ a n c Tryz.underlying68]
theorem zFi (l:List Manifest) (v:Value) (w:World) (S:Nat->Prop) (h:Sl 8 ZR S w v l) (hl0:l.length<=10000):
  Calls Tryz.prog 73 #[v] w (z20 84 8 ZR S l w):=by
 obtain ⟨ix,hi,hz,h1,h2⟩:=info_parts (show (Tryz.prog.info? 84).map (fun i=>(i.zero,i.size,i.bytes))=some (some (.agg #[.string ⟨#[]⟩,.int .i64 0,.slice none 0 0,.string ⟨#[]⟩,.slice none 0 0,.int .i64 0,.bool false,.string ⟨#[]⟩]),8,120) from by kernel_rfl);obtain ⟨A,_,rfl,hl,hc,_,hs⟩:=h;unfold maxLen at hc;have q22:=zId;rcases A with _ | ad
 ·obtain rfl:l=[]:=by
   cases l with
   | nil=>rfl
   | cons x r=>obtain ⟨_,_,_,h,_⟩:=hs 0 x rfl;cases h
  clear hs;go_enter Tryz.func73,Tryz.ntmps73
  go_wp2;go_ret;exact ⟨⟨_,[],rfl,RowC.nil _,All2.nil,fun b hb=>by cases hb⟩,Below.refl _ _⟩
 have hsl:SlAt 8 ZR (z1z (fun b=>¬S b) (w.alloc (.cells #[] 84)) (.slice (some ⟨w.heap.size,0,none⟩) 0 0)) (w.alloc (.cells #[] 84)) (some ad) l:=
  hs.keep z2f (by decide) (fun b hb hl=>⟨⟨by simp;omega,fun h=>h hb,fun hb'=>by simp only [Value.ownBlock,Option.some.injEq] at hb';omega⟩,heap_alloc_old _ _ hl⟩)
 clear hs;go_enter Tryz.func73,Tryz.ntmps73
 go_wp2_with (at_builtin;go_loud (refine Y5 (R:=ZR) _ rfl (.tmp 5) (.tmp 6) 68 rfl 84 ix _ 8 120 Tryz.underlying68 hi hz h1 h2 rfl (by decide) z2f w.heap.size (by go_size) _ _ rfl (Grow.empty (heap_alloc_new _ _) (znl _)) _ _ _ rfl _ rfl hsl (by simp;omega) (by decide) ?_);intro v1 w1 g1 gg1 go1;rw [List.nil_append] at g1;obtain ⟨_,_,_,rfl,hn1⟩:=g1.shape';clear hn1)
 go_ret;obtain ⟨cells,k1,k2,k3⟩:=Grow.toRow z2f (by decide) g1 fun b hb=>Classical.byContradiction hb
 exact ⟨⟨_,cells,rfl,k1,k2,k3⟩,Below.grown (Below.alloc zbr (znl _) _) gg1 (by simp) fun b hb=>by have:=zsi (show some w.heap.size=some b from hb);omega⟩
theorem zOe (w:World) (a:Option Addr) (n c:Nat):(binOp .eql 69 (.slice a n c) (.slice none 0 0)).run Tryz.prog w= .ok (.bool a.isNone) w:=by
 simp only [binOp];simp [run_equal_slice_nil w _ _ a n c Tryz.underlying69]
theorem zJz (l:List Epoch) (v:Value) (w:World) (S:Nat->Prop) (h:Sl 5 z02 S w v l) (hl0:l.length<=10000):
  Calls Tryz.prog 74 #[v] w (z20 130 5 z02 S l w):=by
 obtain ⟨ix,hi,hz,h1,h2⟩:=info_parts (show (Tryz.prog.info? 130).map (fun i=>(i.zero,i.size,i.bytes))=some (some (.agg #[.int .i64 0,.int .i64 0,.int .i64 0,.slice none 0 0,.string ⟨#[]⟩]),5,64) from by kernel_rfl);obtain ⟨A,_,rfl,hl,hc,_,hs⟩:=h;unfold maxLen at hc;have q22:=zOe;rcases A with _ | ad
 ·obtain rfl:l=[]:=by
   cases l with
   | nil=>rfl
   | cons x r=>obtain ⟨_,_,_,h,_⟩:=hs 0 x rfl;cases h
  clear hs;go_enter Tryz.func74,Tryz.ntmps74
  go_wp2;go_ret;exact ⟨⟨_,[],rfl,RowC.nil _,All2.nil,fun b hb=>by cases hb⟩,Below.refl _ _⟩
 have hsl:SlAt 5 z02 (z1z (fun b=>¬S b) (w.alloc (.cells #[] 130)) (.slice (some ⟨w.heap.size,0,none⟩) 0 0)) (w.alloc (.cells #[] 130)) (some ad) l:=
  hs.keep z4g (by decide) (fun b hb hl=>⟨⟨by simp;omega,fun h=>h hb,fun hb'=>by simp only [Value.ownBlock,Option.some.injEq] at hb';omega⟩,heap_alloc_old _ _ hl⟩)
 clear hs;go_enter Tryz.func74,Tryz.ntmps74
 go_wp2_with (at_builtin;go_loud (refine Y5 (R:=z02) _ rfl (.tmp 5) (.tmp 6) 69 rfl 130 ix _ 5 64 Tryz.underlying69 hi hz h1 h2 rfl (by decide) z4g w.heap.size (by go_size) _ _ rfl (Grow.empty (heap_alloc_new _ _) (znl _)) _ _ _ rfl _ rfl hsl (by simp;omega) (by decide) ?_);intro v1 w1 g1 gg1 go1;rw [List.nil_append] at g1;obtain ⟨_,_,_,rfl,hn1⟩:=g1.shape';clear hn1)
 go_ret;obtain ⟨cells,k1,k2,k3⟩:=Grow.toRow z4g (by decide) g1 fun b hb=>Classical.byContradiction hb
 exact ⟨⟨_,cells,rfl,k1,k2,k3⟩,Below.grown (Below.alloc zbr (znl _) _) gg1 (by simp) fun b hb=>by have:=zsi (show some w.heap.size=some b from hb);omega⟩
theorem zQp (w:World) (a:Option Addr) (n c:Nat):(binOp .eql 70 (.slice a n c) (.slice none 0 0)).run Tryz.prog w= .ok (.bool a.isNone) w:=by
 simp only [binOp];simp [run_equal_slice_nil w _ _ a n c Tryz.underlying70]
theorem zMa (l:List Item) (v:Value) (w:World) (S:Nat->Prop) (h:Sl 2 YB S w v l) (hl0:l.length<=10000):
  Calls Tryz.prog 75 #[v] w (z20 78 2 YB S l w):=by
 obtain ⟨ix,hi,hz,h1,h2⟩:=info_parts (show (Tryz.prog.info? 78).map (fun i=>(i.zero,i.size,i.bytes))=some (some (.agg #[.string ⟨#[]⟩,.slice none 0 0]),2,40) from by kernel_rfl);obtain ⟨A,_,rfl,hl,hc,_,hs⟩:=h;unfold maxLen at hc;have q22:=zQp;rcases A with _ | ad
 ·obtain rfl:l=[]:=by
   cases l with
   | nil=>rfl
   | cons x r=>obtain ⟨_,_,_,h,_⟩:=hs 0 x rfl;cases h
  clear hs;go_enter Tryz.func75,Tryz.ntmps75
  go_wp2;go_ret;exact ⟨⟨_,[],rfl,RowC.nil _,All2.nil,fun b hb=>by cases hb⟩,Below.refl _ _⟩
 have hsl:SlAt 2 YB (z1z (fun b=>¬S b) (w.alloc (.cells #[] 78)) (.slice (some ⟨w.heap.size,0,none⟩) 0 0)) (w.alloc (.cells #[] 78)) (some ad) l:=
  hs.keep z3p (by decide) (fun b hb hl=>⟨⟨by simp;omega,fun h=>h hb,fun hb'=>by simp only [Value.ownBlock,Option.some.injEq] at hb';omega⟩,heap_alloc_old _ _ hl⟩)
 clear hs;go_enter Tryz.func75,Tryz.ntmps75
 go_wp2_with (at_builtin;go_loud (refine Y5 (R:=YB) _ rfl (.tmp 5) (.tmp 6) 70 rfl 78 ix _ 2 40 Tryz.underlying70 hi hz h1 h2 rfl (by decide) z3p w.heap.size (by go_size) _ _ rfl (Grow.empty (heap_alloc_new _ _) (znl _)) _ _ _ rfl _ rfl hsl (by simp;omega) (by decide) ?_);intro v1 w1 g1 gg1 go1;rw [List.nil_append] at g1;obtain ⟨_,_,_,rfl,hn1⟩:=g1.shape';clear hn1)
 go_ret;obtain ⟨cells,k1,k2,k3⟩:=Grow.toRow z3p (by decide) g1 fun b hb=>Classical.byContradiction hb
 exact ⟨⟨_,cells,rfl,k1,k2,k3⟩,Below.grown (Below.alloc zbr (znl _) _) gg1 (by simp) fun b hb=>by have:=zsi (show some w.heap.size=some b from hb);omega⟩
theorem zQq (w:World) (a:Option Addr) (n c:Nat):(binOp .eql 71 (.slice a n c) (.slice none 0 0)).run Tryz.prog w= .ok (.bool a.isNone) w:=by
 simp only [binOp];simp [run_equal_slice_nil w _ _ a n c Tryz.underlying71]
theorem zMb (l:List Wrap) (v:Value) (w:World) (S:Nat->Prop) (h:Sl 3 YC S w v l) (hl0:l.length<=10000):
  Calls Tryz.prog 76 #[v] w (z20 149 3 YC S l w):=by
 obtain ⟨ix,hi,hz,h1,h2⟩:=info_parts (show (Tryz.prog.info? 149).map (fun i=>(i.zero,i.size,i.bytes))=some (some (.agg #[.string ⟨#[]⟩,.int .i64 0,.bool false]),3,32) from by kernel_rfl);obtain ⟨A,_,rfl,hl,hc,_,hs⟩:=h;unfold maxLen at hc;have q22:=zQq;rcases A with _ | ad
 ·obtain rfl:l=[]:=by
   cases l with
   | nil=>rfl
   | cons x r=>obtain ⟨_,_,_,h,_⟩:=hs 0 x rfl;cases h
  clear hs;go_enter Tryz.func76,Tryz.ntmps76
  go_wp2;go_ret;exact ⟨⟨_,[],rfl,RowC.nil _,All2.nil,fun b hb=>by cases hb⟩,Below.refl _ _⟩
 have hsl:SlAt 3 YC (z1z (fun b=>¬S b) (w.alloc (.cells #[] 149)) (.slice (some ⟨w.heap.size,0,none⟩) 0 0)) (w.alloc (.cells #[] 149)) (some ad) l:=
  hs.keep z3r (by decide) (fun b hb hl=>⟨⟨by simp;omega,fun h=>h hb,fun hb'=>by simp only [Value.ownBlock,Option.some.injEq] at hb';omega⟩,heap_alloc_old _ _ hl⟩)
 clear hs;go_enter Tryz.func76,Tryz.ntmps76
 go_wp2_with (at_builtin;go_loud (refine Y5 (R:=YC) _ rfl (.tmp 5) (.tmp 6) 71 rfl 149 ix _ 3 32 Tryz.underlying71 hi hz h1 h2 rfl (by decide) z3r w.heap.size (by go_size) _ _ rfl (Grow.empty (heap_alloc_new _ _) (znl _)) _ _ _ rfl _ rfl hsl (by simp;omega) (by decide) ?_);intro v1 w1 g1 gg1 go1;rw [List.nil_append] at g1;obtain ⟨_,_,_,rfl,hn1⟩:=g1.shape';clear hn1)
 go_ret;obtain ⟨cells,k1,k2,k3⟩:=Grow.toRow z3r (by decide) g1 fun b hb=>Classical.byContradiction hb
 exact ⟨⟨_,cells,rfl,k1,k2,k3⟩,Below.grown (Below.alloc zbr (znl _) _) gg1 (by simp) fun b hb=>by have:=zsi (show some w.heap.size=some b from hb);omega⟩
theorem zQr (w:World) (a:Option Addr) (n c:Nat):(binOp .eql 72 (.slice a n c) (.slice none 0 0)).run Tryz.prog w= .ok (.bool a.isNone) w:=by
 simp only [binOp];simp [run_equal_slice_nil w _ _ a n c Tryz.underlying72]
theorem zMc (l:List Link) (v:Value) (w:World) (S:Nat->Prop) (h:Sl 3 z0g S w v l) (hl0:l.length<=10000):
  Calls Tryz.prog 77 #[v] w (z20 151 3 z0g S l w):=by
 obtain ⟨ix,hi,hz,h1,h2⟩:=info_parts (show (Tryz.prog.info? 151).map (fun i=>(i.zero,i.size,i.bytes))=some (some (.agg #[.int .i64 0,.string ⟨#[]⟩,.int .i64 0]),3,32) from by kernel_rfl);obtain ⟨A,_,rfl,hl,hc,_,hs⟩:=h;unfold maxLen at hc;have q22:=zQr;rcases A with _ | ad
 ·obtain rfl:l=[]:=by
   cases l with
   | nil=>rfl
   | cons x r=>obtain ⟨_,_,_,h,_⟩:=hs 0 x rfl;cases h
  clear hs;go_enter Tryz.func77,Tryz.ntmps77
  go_wp2;go_ret;exact ⟨⟨_,[],rfl,RowC.nil _,All2.nil,fun b hb=>by cases hb⟩,Below.refl _ _⟩
 have hsl:SlAt 3 z0g (z1z (fun b=>¬S b) (w.alloc (.cells #[] 151)) (.slice (some ⟨w.heap.size,0,none⟩) 0 0)) (w.alloc (.cells #[] 151)) (some ad) l:=
  hs.keep z3s (by decide) (fun b hb hl=>⟨⟨by simp;omega,fun h=>h hb,fun hb'=>by simp only [Value.ownBlock,Option.some.injEq] at hb';omega⟩,heap_alloc_old _ _ hl⟩)
 clear hs;go_enter Tryz.func77,Tryz.ntmps77
 go_wp2_with (at_builtin;go_loud (refine Y5 (R:=z0g) _ rfl (.tmp 5) (.tmp 6) 72 rfl 151 ix _ 3 32 Tryz.underlying72 hi hz h1 h2 rfl (by decide) z3s w.heap.size (by go_size) _ _ rfl (Grow.empty (heap_alloc_new _ _) (znl _)) _ _ _ rfl _ rfl hsl (by simp;omega) (by decide) ?_);intro v1 w1 g1 gg1 go1;rw [List.nil_append] at g1;obtain ⟨_,_,_,rfl,hn1⟩:=g1.shape';clear hn1)
 go_ret;obtain ⟨cells,k1,k2,k3⟩:=Grow.toRow z3s (by decide) g1 fun b hb=>Classical.byContradiction hb
 exact ⟨⟨_,cells,rfl,k1,k2,k3⟩,Below.grown (Below.alloc zbr (znl _) _) gg1 (by simp) fun b hb=>by have:=zsi (show some w.heap.size=some b from hb);omega⟩
theorem zMd (w:World) (a:Option Addr) (n c:Nat):(binOp .eql 46 (.slice a n c) (.slice none 0 0)).run Tryz.prog w= .ok (.bool a.isNone) w:=by
 simp only [binOp];simp [run_equal_slice_nil w _ _ a n c Tryz.underlying46]
theorem zAe (l:List Member) (v:Value) (w:World) (S:Nat->Prop) (h:Sl 2 zY S w v l) (hl0:l.length<=10000):
  Calls Tryz.prog 78 #[v] w (z20 87 2 zY S l w):=by
 obtain ⟨ix,hi,hz,h1,h2⟩:=info_parts (show (Tryz.prog.info? 87).map (fun i=>(i.zero,i.size,i.bytes))=some (some (.agg #[.string ⟨#[]⟩,.int .i64 0]),2,24) from by kernel_rfl);obtain ⟨A,_,rfl,hl,hc,_,hs⟩:=h;unfold maxLen at hc;have q22:=zMd;rcases A with _ | ad
 ·obtain rfl:l=[]:=by
   cases l with
   | nil=>rfl
   | cons x r=>obtain ⟨_,_,_,h,_⟩:=hs 0 x rfl;cases h
  clear hs;go_enter Tryz.func78,Tryz.ntmps78
  go_wp2;go_ret;exact ⟨⟨_,[],rfl,RowC.nil _,All2.nil,fun b hb=>by cases hb⟩,Below.refl _ _⟩
 have hsl:SlAt 2 zY (z1z (fun b=>¬S b) (w.alloc (.cells #[] 87)) (.slice (some ⟨w.heap.size,0,none⟩) 0 0)) (w.alloc (.cells #[] 87)) (some ad) l:=
  hs.keep ZH (by decide) (fun b hb hl=>⟨⟨by simp;omega,fun h=>h hb,fun hb'=>by simp only [Value.ownBlock,Option.some.injEq] at hb';omega⟩,heap_alloc_old _ _ hl⟩)
 clear hs;go_enter Tryz.func78,Tryz.ntmps78
 go_wp2_with (at_builtin;go_loud (refine Y5 (R:=zY) _ rfl (.tmp 5) (.tmp 6) 46 rfl 87 ix _ 2 24 Tryz.underlying46 hi hz h1 h2 rfl (by decide) ZH w.heap.size (by go_size) _ _ rfl (Grow.empty (heap_alloc_new _ _) (znl _)) _ _ _ rfl _ rfl hsl (by simp;omega) (by decide) ?_);intro v1 w1 g1 gg1 go1;rw [List.nil_append] at g1;obtain ⟨_,_,_,rfl,hn1⟩:=g1.shape';clear hn1)
 go_ret;obtain ⟨cells,k1,k2,k3⟩:=Grow.toRow ZH (by decide) g1 fun b hb=>Classical.byContradiction hb
 exact ⟨⟨_,cells,rfl,k1,k2,k3⟩,Below.grown (Below.alloc zbr (znl _) _) gg1 (by simp) fun b hb=>by have:=zsi (show some w.heap.size=some b from hb);omega⟩
theorem zTx (w:World) (a:Option Addr) (n c:Nat):(binOp .eql 121 (.slice a n c) (.slice none 0 0)).run Tryz.prog w= .ok (.bool a.isNone) w:=by
 simp only [binOp];simp [run_equal_slice_nil w _ _ a n c Tryz.underlying121]
theorem zQs (l:List At) (v:Value) (w:World) (S:Nat->Prop) (h:Sl 2 rAt S w v l) (hl0:l.length<=10000):
  Calls Tryz.prog 79 #[v] w (z20 124 2 rAt S l w):=by
 obtain ⟨ix,hi,hz,h1,h2⟩:=info_parts (show (Tryz.prog.info? 124).map (fun i=>(i.zero,i.size,i.bytes))=some (some (.agg #[.string ⟨#[]⟩,.int .i64 0]),2,24) from by kernel_rfl);obtain ⟨A,_,rfl,hl,hc,_,hs⟩:=h;unfold maxLen at hc;have q22:=zTx;rcases A with _ | ad
 ·obtain rfl:l=[]:=by
   cases l with
   | nil=>rfl
   | cons x r=>obtain ⟨_,_,_,h,_⟩:=hs 0 x rfl;cases h
  clear hs;go_enter Tryz.func79,Tryz.ntmps79
  go_wp2;go_ret;exact ⟨⟨_,[],rfl,RowC.nil _,All2.nil,fun b hb=>by cases hb⟩,Below.refl _ _⟩
 have hsl:SlAt 2 rAt (z1z (fun b=>¬S b) (w.alloc (.cells #[] 124)) (.slice (some ⟨w.heap.size,0,none⟩) 0 0)) (w.alloc (.cells #[] 124)) (some ad) l:=
  hs.keep Z1 (by decide) (fun b hb hl=>⟨⟨by simp;omega,fun h=>h hb,fun hb'=>by simp only [Value.ownBlock,Option.some.injEq] at hb';omega⟩,heap_alloc_old _ _ hl⟩)
 clear hs;go_enter Tryz.func79,Tryz.ntmps79
 go_wp2_with (at_builtin;go_loud (refine Y5 (R:=rAt) _ rfl (.tmp 5) (.tmp 6) 121 rfl 124 ix _ 2 24 Tryz.underlying121 hi hz h1 h2 rfl (by decide) Z1 w.heap.size (by go_size) _ _ rfl (Grow.empty (heap_alloc_new _ _) (znl _)) _ _ _ rfl _ rfl hsl (by simp;omega) (by decide) ?_);intro v1 w1 g1 gg1 go1;rw [List.nil_append] at g1;obtain ⟨_,_,_,rfl,hn1⟩:=g1.shape';clear hn1)
 go_ret;obtain ⟨cells,k1,k2,k3⟩:=Grow.toRow Z1 (by decide) g1 fun b hb=>Classical.byContradiction hb
 exact ⟨⟨_,cells,rfl,k1,k2,k3⟩,Below.grown (Below.alloc zbr (znl _) _) gg1 (by simp) fun b hb=>by have:=zsi (show some w.heap.size=some b from hb);omega⟩
theorem zK0 (w:World) (a:Option Addr) (n c:Nat):(binOp .eql 76 (.slice a n c) (.slice none 0 0)).run Tryz.prog w= .ok (.bool a.isNone) w:=by
 simp only [binOp];simp [run_equal_slice_nil w _ _ a n c Tryz.underlying76]
theorem zHc (l:List Version) (v:Value) (w:World) (S:Nat->Prop) (h:Sl 4 yL S w v l) (hl0:l.length<=10000):
  Calls Tryz.prog 80 #[v] w (z20 80 4 yL S l w):=by
 obtain ⟨ix,hi,hz,h1,h2⟩:=info_parts (show (Tryz.prog.info? 80).map (fun i=>(i.zero,i.size,i.bytes))=some (some (.agg #[.int .i64 0,.bool false,.string ⟨#[]⟩,.slice none 0 0]),4,56) from by kernel_rfl);obtain ⟨A,_,rfl,hl,hc,_,hs⟩:=h;unfold maxLen at hc;have q22:=zK0;rcases A with _ | ad
 ·obtain rfl:l=[]:=by
   cases l with
   | nil=>rfl
   | cons x r=>obtain ⟨_,_,_,h,_⟩:=hs 0 x rfl;cases h
  clear hs;go_enter Tryz.func80,Tryz.ntmps80
  go_wp2;go_ret;exact ⟨⟨_,[],rfl,RowC.nil _,All2.nil,fun b hb=>by cases hb⟩,Below.refl _ _⟩
 have hsl:SlAt 4 yL (z1z (fun b=>¬S b) (w.alloc (.cells #[] 80)) (.slice (some ⟨w.heap.size,0,none⟩) 0 0)) (w.alloc (.cells #[] 80)) (some ad) l:=
  hs.keep z44 (by decide) (fun b hb hl=>⟨⟨by simp;omega,fun h=>h hb,fun hb'=>by simp only [Value.ownBlock,Option.some.injEq] at hb';omega⟩,heap_alloc_old _ _ hl⟩)
 clear hs;go_enter Tryz.func80,Tryz.ntmps80
 go_wp2_with (at_builtin;go_loud (refine Y5 (R:=yL) _ rfl (.tmp 5) (.tmp 6) 76 rfl 80 ix _ 4 56 Tryz.underlying76 hi hz h1 h2 rfl (by decide) z44 w.heap.size (by go_size) _ _ rfl (Grow.empty (heap_alloc_new _ _) (znl _)) _ _ _ rfl _ rfl hsl (by simp;omega) (by decide) ?_);intro v1 w1 g1 gg1 go1;rw [List.nil_append] at g1;obtain ⟨_,_,_,rfl,hn1⟩:=g1.shape';clear hn1)
 go_ret;obtain ⟨cells,k1,k2,k3⟩:=Grow.toRow z44 (by decide) g1 fun b hb=>Classical.byContradiction hb
 exact ⟨⟨_,cells,rfl,k1,k2,k3⟩,Below.grown (Below.alloc zbr (znl _) _) gg1 (by simp) fun b hb=>by have:=zsi (show some w.heap.size=some b from hb);omega⟩
end
section
open Go.RowKit Go.Deep Go.Lib
theorem z84 {P:Program} (w:World) (dT sT ty elem:TypeId) (sz:Nat) (b o dLen dCap:Nat) (a:Addr) (sLen sCap:Nat) (cs:List Value)
  (hu:P.underlying dT=some (.slice elem)) (hs:(P.info? elem).map (·.size)=some sz) (hn:cs.length=Nat.min sLen dLen*sz)
  (hsrc:∀j v,cs[j]? =some v->w.cell? (a.add j)=some v) (hc:∀j,j < cs.length->(w.cell? ⟨b,o+j,none⟩).isSome=true) (hf:∀j,j < cs.length->w.frozen? ⟨b,o+j,none⟩=false) (h1:∀v∈cs,v.oneCell'=true):
  (Builtin.copy_ #[dT,sT] ty #[.slice (some ⟨b,o,none⟩) dLen dCap,.slice (some a) sLen sCap]).run P w= .ok (goInt (Nat.min sLen dLen)) (w.setCells b o cs):=by
 have hl:=run_loadCells_list (P:=P) w a cs hsrc;have hst:=run_storeCells_cells (P:=P) b o cs 0 w (by simpa using hc) (by simpa using hf) h1
 cases hq:P.info? elem with
 | none=>simp [hq] at hs
 | some i=>
  have hi:i.size=sz:=by simpa [hq] using hs
  rw [hn] at hl;simp [Builtin.copy_,run_underlying hu,Builtin.lenOf,Builtin.firstCells,sizeOf,typeInfo,hq,hi,hl,hst]
theorem zEp {P:Program} {ops:Array Oper} {o:Oper} {a:Act} {w:World} {K:Act->World->Prop} {Q:Exit->Act->World->Prop} {E:Prop}
  (hg:o.guard=none) (d x:Operand) (dT sT:TypeId) (hop:o.op=Op.call { callee:=Callee.builtin Builtin.copy,args:=#[d,x],argTypes:=#[dT,sT] })
  (v u:Value) (hd:a.eval d=v) (hx:a.eval x=u) {v':Value} {w':World} (hr:(Builtin.copy_ #[dT,sT] o.type #[v,u]).run P w= .ok v' w') (hK:K (a.put o.dst v') w'):
  if Region.wanted o (yielded ops a.tmps)=true then Oper.wp P o a w K Q else E:=by
 have hw:Region.wanted o (yielded ops a.tmps)=true:=by simp [Region.wanted,hg]
 rw [if_pos hw];unfold Oper.wp;simp [execOp,hop,resolve,invoke,builtin,hd,hx,hr,Result.andThen];exact hK
section
variable {e:TypeId} {sz:Nat}
theorem RowC.of_cells {w:World} {g off cap:Nat} {l:List (List Value)} {cur:Array Value} (hall:∀x∈l,x.length=sz/\∀u∈x,u.oneCell'=true) (hg:w.heap[g]? =some (.cells cur e (0,0))) (h1:l.length<=cap) (h2:cap<=maxLen) (h3:off+cap*sz<=cur.size)
  (hc:∀q u,l.flatten[q]? =some u->w.cell? ⟨g,off+q,none⟩=some u):RowC e sz w (.slice (some ⟨g,off,none⟩) l.length cap) l:=
 ⟨hall,.inr ⟨g,off,cap,cur,rfl,hg,h1,h2,h3,fun q u hq=>by have:=hc q u hq;rwa [cell_of_row _ g _ _ _ (0,0) hg] at this⟩⟩
theorem zIn {l:List (List Value)} {x:List Value} {i:Nat} (hi:i<=l.length) (hl:∀y∈l,y.length=sz) (hx:x.length=sz) {q:Nat} {u:Value} (h:(l.take i++x :: l.drop i).flatten[q]? =some u):
  (q < i*sz/\l.flatten[q]? =some u)\/(∃j,q=i*sz+j/\x[j]? =some u)\/∃j,q=i*sz+sz+j/\(l.flatten.drop (i*sz))[j]? =some u:=by
 have h1:(l.take i).flatten.length=i*sz:=by
  rw [z5b fun y hy=>hl y (List.mem_of_mem_take hy),List.length_take,Nat.min_eq_left hi]
 have h2:l.flatten=(l.take i).flatten++(l.drop i).flatten:=by rw [<-List.flatten_append,List.take_append_drop]
 have h3:l.flatten.drop (i*sz)=(l.drop i).flatten:=by rw [h2,<-h1,List.drop_left]
 rw [List.flatten_append,List.flatten_cons] at h;rcases Nat.lt_or_ge q (i*sz) with a | a
 ·left;rw [qLlx (by omega)] at h;exact ⟨a,by rw [h2,qLlx (by omega)];exact h⟩
 rw [qLrx (by omega),h1] at h;rcases Nat.lt_or_ge (q - i*sz) sz with b | b
 ·rw [qLlx (by omega)] at h;exact .inr (.inl ⟨q - i*sz,by omega,h⟩)
 rw [qLrx (by omega),hx] at h;exact .inr (.inr ⟨q - i*sz - sz,by omega,by rw [h3];exact h⟩)
theorem zL3 {l:List (List Value)} {x:List Value} {i:Nat} {p:List Value->Prop} (hl:∀y∈l,p y) (hx:p x):∀y∈l.take i++x :: l.drop i,p y:=fun y hy=>by
 rcases zmb hy with h | h
 ·exact hl y (List.mem_of_mem_take h)
 ·rcases List.mem_cons.1 h with rfl | h
  ·exact hx
  ·exact hl y (List.mem_of_mem_drop h)
theorem zBx (b:Nat) (vs:List Value) (o:Nat) (w:World) (h:∀j,j < vs.length->(w.cell? ⟨b,o+j,none⟩).isSome=true) (k:Nat) (hk:(w.cell? ⟨b,k,none⟩).isSome=true):((w.setCells b o vs).cell? ⟨b,k,none⟩).isSome=true:=by
 by_cases hin:o<=k/\k < o+vs.length
 ·have:=World.cell?_setCells_in b vs o w h (k - o) (by omega);rw [show o+(k - o)=k by omega] at this;rw [this];rfl
 rw [World.cell?_setCells_out b vs o w ⟨b,k,none⟩ (fun _ _=>by show k < o\/o+vs.length<=k;omega)];exact hk
theorem zB5 {b o:Nat} {vs:List Value} {w:World} (h:∀j,j < vs.length->(w.cell? ⟨b,o+j,none⟩).isSome=true) {j:Nat} {u:Value} (hj:vs[j]? =some u):(w.setCells b o vs).cell? ⟨b,o+j,none⟩=some u:=by
 obtain ⟨hl,rfl⟩:=zge hj;exact World.cell?_setCells_in b vs o w h j hl
theorem z6b {b o k:Nat} {vs:List Value} {w:World} (h:k < o\/o+vs.length<=k):(w.setCells b o vs).cell? ⟨b,k,none⟩=w.cell? ⟨b,k,none⟩:=World.cell?_setCells_out b vs o w ⟨b,k,none⟩ fun _ _=>h
end
theorem z41 {b:Nat} {T:TypeId}:∀(vs:List Value) (w:World) (o:Nat) (cs:Array Value),w.heap[b]? =some (.cells cs T (0,0))->∃cs',(w.setCells b o vs).heap[b]? =some (.cells cs' T (0,0))/\cs'.size=cs.size
 | [],w,o,cs,h=>⟨cs,h,rfl⟩
 | v :: r,w,o,cs,h=>by
  obtain ⟨cs',h1,h2⟩:=z41 r (w.setCell ⟨b,o,none⟩ v) (o+1) _ (zI v h rfl);exact ⟨cs',h1,by rw [h2];simp⟩
def zB6 (l:List (List Value)) (i:Nat) (x:List Value) (v:Value) (w:World) (e:Ending) (w':World):Prop:=
 ∃v',e= .returned v'/\RowC 149 3 w' v' (l.take i++x :: l.drop i)/\ButB (fun z=>v.ownBlock=some z) w w'/\(v'.ownBlock=v.ownBlock\/∃k,v'.ownBlock=some k/\w.heap.size<=k)
theorem zMk (l:List (List Value)) (v:Value) (w:World) (x:List Value) (hx:x.length=3) (hx1:∀u∈x,u.oneCell'=true) (N c:Nat) (hN:w.heap[N]? =some (.cells x.toArray 149 (0,0))) (h:RowC 149 3 w v l) (hl:l.length<=9999):
  Calls Tryz.prog 162 #[v,.int .i64 l.length,.slice (some ⟨N,0,none⟩) 1 c] w (zB6 l l.length x v w):=by
 obtain ⟨iWrap,hiWrap,hzWrap,h1Wrap,h2Wrap⟩:=info_parts (show (Tryz.prog.info? 149).map (fun i=>(i.zero,i.size,i.bytes))=some (some (.agg #[.string ⟨#[]⟩,.int .i64 0,.bool false]),3,32) from by kernel_rfl);have HR:=zh h;obtain ⟨A,cp,hv,_⟩:=h.shape;have hcap:l.length<=cp/\(cp:Int)<=9223372036854775807:=by
  rcases h.2 with ⟨e,h0⟩ | ⟨g,off,cap,cur,e,_,h1,h2,_⟩
  ·rw [hv] at e;simp only [Value.slice.injEq] at e;omega
  ·rw [hv] at e;simp only [Value.slice.injEq] at e;unfold maxLen at h2;omega
 subst hv;obtain ⟨_,_⟩:=hcap;have HE:=zh (show ∀c',(Value.slice A l.length cp).ownBlock=(Value.slice A l.length c').ownBlock from fun c'=>by cases A<;>rfl);clear h;go_enter Tryz.func162,Tryz.ntmps162
 go_wp2_with (at_builtin;refine zJj _ x rfl (.tmp 23) (.tmp 24) 71 rfl iWrap _ 32 Tryz.underlying71 hiWrap hzWrap h1Wrap h2Wrap rfl (by decide) (by decide) (.slice A l.length cp) l rfl N c rfl HR.out (by omega) hx hx1 hN ?_;intro v' w' r1 r2 r3;have H1:=zh r1;have H2:=zh r2;have H3:=zh r3;clear r1 r2 r3)
 all_goals
  go_ret
  first
   | exact ⟨v',rfl,by simpa using H1.out,ButB.row H2.out zbr,H3.out⟩
   | exact ⟨v',rfl,by simpa using H1.out,ButB.row (by rw [<-HE.out l.length];exact H2.out) zbr,by rw [<-HE.out l.length];exact H3.out⟩
theorem zK5 (l:List (List Value)) (g off cap:Nat) (w:World) (i:Nat) (hi:i < l.length) (x:List Value) (hx:x.length=3) (hx1:∀u∈x,u.oneCell'=true) (N c:Nat) (hN:w.heap[N]? =some (.cells x.toArray 149 (0,0))) (h:RowC 149 3 w (.slice (some ⟨g,off,none⟩) l.length cap) l) (hl:l.length<=9999) (hNg:N≠g) (hroom:l.length+1<=cap):
  Calls Tryz.prog 162 #[.slice (some ⟨g,off,none⟩) l.length cap,.int .i64 i,.slice (some ⟨N,0,none⟩) 1 c] w (zB6 l i x (.slice (some ⟨g,off,none⟩) l.length cap) w):=by
 obtain ⟨_,hiWrap,_,h1Wrap,_⟩:=info_parts (show (Tryz.prog.info? 149).map (fun i=>(i.zero,i.size,i.bytes))=some (some (.agg #[.string ⟨#[]⟩,.int .i64 0,.bool false]),3,32) from by kernel_rfl);have hall:=h.1;obtain ⟨cur,hg,hcm,hoc,hcell⟩:∃cur,w.heap[g]? =some (.cells cur 149 (0,0))/\cap<=maxLen/\off+cap*3<=cur.size/\∀q u,l.flatten[q]? =some u->cur[off+q]? =some u:=by
  rcases h.2 with ⟨e,_⟩ | ⟨g',off',cap',cur,e,h0,h1,h2,h3,h4⟩
  ·simp at e
  ·simp only [Value.slice.injEq,Option.some.injEq,Addr.mk.injEq] at e;obtain ⟨⟨rfl,rfl,_⟩,_,rfl⟩:=e;exact ⟨cur,h0,h2,h3,h4⟩
 unfold maxLen at hcm;have hfl:l.flatten.length=l.length*3:=z5b fun y hy=>(hall y hy).1
 have hw0:∀q u,l.flatten[q]? =some u->w.cell? ⟨g,off+q,none⟩=some u:=fun q u hq=>by rw [cell_of_row _ g _ _ _ (0,0) hg];exact hcell q u hq
 have hsp:∀k,k < off+cap*3->(w.cell? ⟨g,k,none⟩).isSome=true:=fun k hk=>by
  rw [cell_of_row _ g _ _ _ (0,0) hg,Array.getElem?_eq_getElem (by omega)];rfl
 have hfz:=(zD hg).2;have hsz:(Tryz.prog.info? 149).map (·.size)=some 3:=by rw [hiWrap];simp [h1Wrap]
 have hdl:(l.flatten.drop (i*3)).length=(l.length - i)*3:=by rw [List.length_drop,hfl,Nat.sub_mul]
 have hone:∀u∈l.flatten,u.oneCell'=true:=fun u hu=>by
  obtain ⟨y,hy,hu⟩:=List.mem_flatten.1 hu;exact (hall y hy).2 u hu
 have hin:i<=l.length:=by omega
 have hov:∀lb cb,(callFunc 188 #[.slice (some ⟨N,0,none⟩) 1 c,.slice (some ⟨g,off+(i+1)*3,none⟩) lb cb]).run Tryz.prog w= .ok (.value (.bool false)) w:=fun lb cb=>by
  rw [run_callFunc_extern Tryz.func188 (by kernel_rfl) (by kernel_rfl) (by kernel_rfl) (e:=Extern.SlicesOverlaps.overlaps #[71,71] #[4]) (by kernel_rfl),
   Lib.run_overlaps_apart w 71 4 149 Tryz.underlying71 3 (fun w=>by kernel_rfl) ⟨N,0,none⟩ ⟨g,off+(i+1)*3,none⟩ 1 c lb cb hNg 149 149 x.toArray.size cur.size (by unfold World.shape?;rw [hN]) (by unfold World.shape?;rw [hg]) (by omega) ((zD hN).2 0) ((zD hN).2 _)]
  rfl
 have hcp1:∀ty dc sc,(Builtin.copy_ #[71,71] ty #[.slice (some ⟨g,off+(i+1)*3,none⟩) (l.length+1 - (i+1)) dc,.slice (some ⟨g,off+i*3,none⟩) (l.length+1 - i) sc]).run Tryz.prog w.drew= .ok (goInt (Nat.min (l.length+1 - i) (l.length+1 - (i+1)))) (w.drew.setCells g (off+(i+1)*3) (l.flatten.drop (i*3))):=fun ty dc sc=>
  z84 w.drew _ _ ty 149 3 g (off+(i+1)*3) (l.length+1 - (i+1)) dc ⟨g,off+i*3,none⟩ (l.length+1 - i) sc (l.flatten.drop (i*3)) Tryz.underlying71 hsz (by rw [hdl];simp only [Nat.min_def];split<;>omega)
   (fun j v hj=>by rw [Addr.add_lit,Nat.add_assoc];exact hw0 (i*3+j) v (by rwa [List.getElem?_drop] at hj))
   (fun j hj=>hsp _ (by omega)) (fun j hj=>hfz _) (fun v hv=>hone v (List.mem_of_mem_drop hv))
 obtain ⟨W1,hW1⟩:∃W1,W1=w.drew.setCells g (off+(i+1)*3) (l.flatten.drop (i*3)):=⟨_,rfl⟩;have hd1:∀j,j < (l.flatten.drop (i*3)).length->(w.drew.cell? ⟨g,off+(i+1)*3+j,none⟩).isSome=true:=fun j hj=>hsp _ (by omega)
 have hsp1:∀k,k < off+cap*3->(W1.cell? ⟨g,k,none⟩).isSome=true:=fun k hk=>by
  rw [hW1];exact zBx g _ _ _ hd1 _ (hsp k hk)
 have hcp2:∀ty,(Builtin.copy_ #[71,71] ty #[.slice (some ⟨g,off+i*3,none⟩) (l.length+1 - i) (cap - i),.slice (some ⟨N,0,none⟩) 1 c]).run Tryz.prog W1= .ok (goInt (Nat.min 1 (l.length+1 - i))) (W1.setCells g (off+i*3) x):=fun ty=>
  z84 W1 _ _ ty 149 3 g (off+i*3) (l.length+1 - i) (cap - i) ⟨N,0,none⟩ 1 c x Tryz.underlying71 hsz (by rw [hx];simp only [Nat.min_def];split<;>omega)
   (fun j v hj=>by
    rw [Addr.add_lit,hW1,World.cell?_setCells_out g _ _ _ _ (fun e _=>absurd e hNg)];show w.cell? _=_
    rw [cell_of_row _ N _ _ _ (0,0) hN];simpa using hj)
   (fun j hj=>hsp1 _ (by omega)) (fun j hj=>by rw [hW1,World.frozen?_setCells];exact hfz _) hx1
 rw [<-hW1] at hcp1;have HCP1:=zh hcp1;have hs1:=z1b g (l.flatten.drop (i*3)) w.drew (off+(i+1)*3);have hs2:=z1b g x W1 (off+i*3);rw [<-hW1] at hs1;have hd2:∀j,j < x.length->(W1.cell? ⟨g,off+i*3+j,none⟩).isSome=true:=fun j hj=>hsp1 _ (by omega)
 have HEND:=zh (show zB6 l i x (.slice (some ⟨g,off,none⟩) l.length cap) w (.returned (.slice (some ⟨g,off,none⟩) (l.length+1) cap)) (W1.setCells g (off+i*3) x) from by
  have hlen:(l.take i++x :: l.drop i).length=l.length+1:=by simp;omega
  obtain ⟨cur1,c1,c2⟩:=z41 (l.flatten.drop (i*3)) w.drew (off+(i+1)*3) cur hg;rw [<-hW1] at c1;obtain ⟨_,c3,c4⟩:=z41 x W1 (off+i*3) cur1 c1;refine ⟨_,rfl,?_,⟨hs2.1.trans hs1.1,hs2.2.1.trans hs1.2.1,hs2.2.2.1.trans hs1.2.2.1,by rw [hs2.2.2.2.1,hs1.2.2.2.1];exact znl _,fun b _ hb=>?_⟩,.inl rfl⟩
  ·rw [<-hlen];refine RowC.of_cells (zL3 hall ⟨hx,hx1⟩) c3 (by omega) (by unfold maxLen;omega) (by rw [c4,c2];exact hoc) fun q u hq=>?_
   rcases zIn hin (fun y hy=>(hall y hy).1) hx hq with ⟨a1,a2⟩ | ⟨j,rfl,a2⟩ | ⟨j,rfl,a2⟩
   ·rw [z6b (.inl (by omega)),hW1,z6b (.inl (by omega))];exact hw0 q u a2
   ·rw [<-Nat.add_assoc];exact zB5 hd2 a2
   ·rw [z6b (.inr (by omega)),hW1,show off+(i*3+3+j)=off+(i+1)*3+j by omega];exact zB5 hd1 a2
  ·have hbg:b≠g:=fun e=>hb (by rw [e];rfl)
   rw [hs2.2.2.2.2 b hbg,hs1.2.2.2.2 b hbg];rfl)
 have hw1:IntKind.i64.wrap ((i:Int)+1)=(i:Int)+1:=by rw [IntKind.wrap_i64];omega
 have hb1:(0:Int)<=(i:Int)+1:=by omega
 have htn:((i:Int)+1).toNat=i+1:=by omega
 have hb2:¬(cap=i+1):=by omega
 have hb3:(i:Int)<=(l.length:Int)+1:=by omega
 have hb5:(i:Int)+1<=(l.length:Int)+1:=by omega
 have hb4:¬(cap=i):=by omega
 clear hcp1 hW1 hd1 hd2 hs1 hs2 hsp1;go_enter Tryz.func162,Tryz.ntmps162
 go_wp2_with (simp only [hov])
 go_region_law (refine zEp rfl (.tmp 73) (.tmp 76) 71 71 rfl (.slice (some ⟨g,off+(i+1)*3,none⟩) (l.length+1 - (i+1)) (cap - (i+1))) (.slice (some ⟨g,off+i*3,none⟩) (l.length+1 - i) (cap - i)) (by simp [Act.eval,Act.put]) (by simp [Act.eval,Act.put]) (HCP1.out _ _ _) ?_)
 go_wp2;go_ret;exact HEND.out
theorem zK6 (l:List (List Value)) (g off cap:Nat) (w:World) (i:Nat) (hi:i < l.length) (x:List Value) (hx:x.length=3) (hx1:∀u∈x,u.oneCell'=true) (N c:Nat) (hN:w.heap[N]? =some (.cells x.toArray 149 (0,0))) (h:RowC 149 3 w (.slice (some ⟨g,off,none⟩) l.length cap) l) (hl:l.length<=9999) (hroom:cap < l.length+1):
  Calls Tryz.prog 162 #[.slice (some ⟨g,off,none⟩) l.length cap,.int .i64 i,.slice (some ⟨N,0,none⟩) 1 c] w (zB6 l i x (.slice (some ⟨g,off,none⟩) l.length cap) w):=by
 obtain ⟨iWrap,hiWrap,hzWrap,h1Wrap,h2Wrap⟩:=info_parts (show (Tryz.prog.info? 149).map (fun i=>(i.zero,i.size,i.bytes))=some (some (.agg #[.string ⟨#[]⟩,.int .i64 0,.bool false]),3,32) from by kernel_rfl);have hall:=h.1;obtain ⟨cur,hg,_,_,_,hcell⟩:∃cur,w.heap[g]? =some (.cells cur 149 (0,0))/\l.length<=cap/\cap<=maxLen/\off+cap*3<=cur.size/\∀q u,l.flatten[q]? =some u->cur[off+q]? =some u:=by
  rcases h.2 with ⟨e,_⟩ | ⟨g',off',cap',cur,e,h0,h1,h2,h3,h4⟩
  ·simp at e
  ·simp only [Value.slice.injEq,Option.some.injEq,Addr.mk.injEq] at e;obtain ⟨⟨rfl,rfl,_⟩,_,rfl⟩:=e;exact ⟨cur,h0,h1,h2,h3,h4⟩
 obtain rfl:cap=l.length:=by omega
 have hfl:l.flatten.length=l.length*3:=z5b fun y hy=>(hall y hy).1
 have hw0:∀q u,l.flatten[q]? =some u->w.cell? ⟨g,off+q,none⟩=some u:=fun q u hq=>by rw [cell_of_row _ g _ _ _ (0,0) hg];exact hcell q u hq
 have hsz:(Tryz.prog.info? 149).map (·.size)=some 3:=by rw [hiWrap];simp [h1Wrap]
 have hdl:(l.flatten.drop (i*3)).length=(l.length - i)*3:=by rw [List.length_drop,hfl,Nat.sub_mul]
 have htl:(l.flatten.take (i*3)).length=i*3:=by rw [List.length_take,hfl];omega
 have hone:∀u∈l.flatten,u.oneCell'=true:=fun u hu=>by
  obtain ⟨y,hy,hu⟩:=List.mem_flatten.1 hu;exact (hall y hy).2 u hu
 have hin:i<=l.length:=by omega
 have hgw:g < w.heap.size:=zO hg;have hNw:N < w.heap.size:=zO hN;have hkk:(l.length:Int)+1 - (i:Int)=((l.length+1 - i:Nat):Int):=by omega
 have hik:i+(l.length+1 - i)=l.length+1:=by omega
 have hold:(Builtin.firstCells iWrap.size i (.slice (some ⟨g,off,none⟩) i l.length)).run Tryz.prog w.drew= .ok (l.flatten.take (i*3)).toArray w.drew:=by
  rw [h1Wrap];exact run_firstCells_some w.drew 3 i ⟨g,off,none⟩ i l.length (l.flatten.take (i*3)) (by omega) (fun j v hj=>by
   rw [Addr.add_lit];rw [List.getElem?_take] at hj;split at hj
   ·exact hw0 j v hj
   ·cases hj)
 obtain ⟨G,hG⟩:∃G,G=grownCap w (l.length+1) l.length 149:=⟨_,rfl⟩;obtain ⟨ROW,hROW⟩:∃ROW:Array Value,ROW=(l.flatten.take (i*3)).toArray++Builtin.zeroCells (Value.agg #[.string ⟨#[]⟩,.int .i64 0,.bool false]).cells (l.length+1 - i)++Builtin.zeroCells (Value.agg #[.string ⟨#[]⟩,.int .i64 0,.bool false]).cells (G - (l.length+1)):=⟨_,rfl⟩;obtain ⟨W1,hW1⟩:∃W1,W1=w.drew.alloc (.cells ROW 149):=⟨_,rfl⟩;have hrz:∀ty,(Builtin.append_ #[71,3] ty #[.slice (some ⟨g,off,none⟩) i l.length,.int .i64 ((l.length:Int)+1 - (i:Int))]).run Tryz.prog w= .ok (.slice (some ⟨w.heap.size,0,none⟩) (l.length+1) G) W1:=fun ty=>by
  have h:=Lib.run_append_grow_zeros w 71 3 ty 149 iWrap _ .i64 .i64 Tryz.underlying71 Tryz.underlying3 hiWrap hzWrap (some ⟨g,off,none⟩) i l.length (l.flatten.take (i*3)) hold (l.length+1 - i) (by omega) (by rw [h1Wrap];omega) (by omega) (by omega) (by rw [h2Wrap];omega) (by rw [h2Wrap,hik];exact growslice_fits hroom (by omega));rw [hik] at h;rw [hkk,hW1,hROW,hG];exact h
 have hGn:l.length+1<=G:=by rw [hG];exact grownCap_ge w _ _ _
 have hG63:G<=9223372036854775807:=by
  have:=grownCap_le_maxLen w (l.length+1) l.length 149 (by unfold maxLen;omega);rw [<-hG] at this;unfold maxLen at this;omega
 have hRs:ROW.size=G*3:=by
  have hzl:∀n,(Builtin.zeroCells (Value.agg #[.string ⟨#[]⟩,.int .i64 0,.bool false]).cells n).size=n*3:=fun n=>by simp [Builtin.zeroCells,Value.cells]
  rw [hROW,Array.size_append,Array.size_append,List.size_toArray,htl,hzl,hzl];omega
 have hnew:W1.heap[w.heap.size]? =some (.cells ROW 149 (0,0)):=by rw [hW1];exact zJ _ rfl
 have hold2:∀b,b < w.heap.size->W1.heap[b]? =w.heap[b]? :=fun b hb=>by rw [hW1];exact Below.heap_alloc _ _ b hb
 have hsp:∀k,k < G*3->(W1.cell? ⟨w.heap.size,k,none⟩).isSome=true:=fun k hk=>by
  rw [cell_of_row _ w.heap.size _ _ _ (0,0) hnew,Array.getElem?_eq_getElem (by omega)];rfl
 have hfz:=(zD hnew).2;have hcpA:∀ty,(Builtin.copy_ #[71,71] ty #[.slice (some ⟨w.heap.size,i*3,none⟩) (l.length+1 - i) (G - i),.slice (some ⟨N,0,none⟩) 1 c]).run Tryz.prog W1= .ok (goInt (Nat.min 1 (l.length+1 - i))) (W1.setCells w.heap.size (i*3) x):=fun ty=>
  z84 W1 _ _ ty 149 3 w.heap.size (i*3) (l.length+1 - i) (G - i) ⟨N,0,none⟩ 1 c x Tryz.underlying71 hsz (by rw [hx];simp only [Nat.min_def];split<;>omega)
   (fun j v hj=>by
    rw [Addr.add_lit,World.cell?_of_block (hold2 N hNw),cell_of_row _ N _ _ _ (0,0) hN];simpa using hj)
   (fun j hj=>hsp _ (by omega)) (fun j hj=>hfz _) hx1
 obtain ⟨W2,hW2⟩:∃W2,W2=W1.setCells w.heap.size (i*3) x:=⟨_,rfl⟩;rw [<-hW2] at hcpA;have hd1:∀j,j < x.length->(W1.cell? ⟨w.heap.size,i*3+j,none⟩).isSome=true:=fun j hj=>hsp _ (by omega)
 have hsp2:∀k,k < G*3->(W2.cell? ⟨w.heap.size,k,none⟩).isSome=true:=fun k hk=>by
  rw [hW2];exact zBx _ _ _ _ hd1 _ (hsp k hk)
 have hcpB:∀ty,(Builtin.copy_ #[71,71] ty #[.slice (some ⟨w.heap.size,(i+1)*3,none⟩) (l.length+1 - (i+1)) (G - (i+1)),.slice (some ⟨g,off+i*3,none⟩) (l.length - i) (l.length - i)]).run Tryz.prog W2.drew= .ok (goInt (Nat.min (l.length - i) (l.length+1 - (i+1)))) (W2.drew.setCells w.heap.size ((i+1)*3) (l.flatten.drop (i*3))):=fun ty=>
  z84 W2.drew _ _ ty 149 3 w.heap.size ((i+1)*3) (l.length+1 - (i+1)) (G - (i+1)) ⟨g,off+i*3,none⟩ (l.length - i) (l.length - i) (l.flatten.drop (i*3)) Tryz.underlying71 hsz (by rw [hdl];simp only [Nat.min_def];split<;>omega)
   (fun j v hj=>by
    show W2.cell? _=_
    rw [Addr.add_lit,Nat.add_assoc,hW2,World.cell?_setCells_out _ _ _ _ _ (fun e _=>absurd e (show g≠w.heap.size by omega)),World.cell?_of_block (hold2 g hgw)];exact hw0 (i*3+j) v (by rwa [List.getElem?_drop] at hj))
   (fun j hj=>hsp2 _ (by omega)) (fun j hj=>by show W2.frozen? _=_;rw [hW2,World.frozen?_setCells];exact hfz _) (fun v hv=>hone v (List.mem_of_mem_drop hv))
 have hd2:∀j,j < (l.flatten.drop (i*3)).length->(W2.drew.cell? ⟨w.heap.size,(i+1)*3+j,none⟩).isSome=true:=fun j hj=>hsp2 _ (by omega)
 have hs1:=z1b w.heap.size x W1 (i*3);have hs2:=z1b w.heap.size (l.flatten.drop (i*3)) W2.drew ((i+1)*3);rw [<-hW2] at hs1;have HEND:=zh (show zB6 l i x (.slice (some ⟨g,off,none⟩) l.length l.length) w (.returned (.slice (some ⟨w.heap.size,0,none⟩) (l.length+1) G)) (W2.drew.setCells w.heap.size ((i+1)*3) (l.flatten.drop (i*3))) from by
  have hlen:(l.take i++x :: l.drop i).length=l.length+1:=by simp;omega
  obtain ⟨cur1,c1,c2⟩:=z41 x W1 (i*3) ROW hnew;rw [<-hW2] at c1;obtain ⟨_,c3,c4⟩:=z41 (l.flatten.drop (i*3)) W2.drew ((i+1)*3) cur1 c1;have B1:Below w.heap.size w W1:=by rw [hW1];exact zbr.drew.alloc (znl _) _
  refine ⟨_,rfl,?_,⟨hs2.1.trans (hs1.1.trans B1.os),hs2.2.1.trans (hs1.2.1.trans B1.tape),hs2.2.2.1.trans (hs1.2.2.1.trans B1.output),?_,fun b hb _=>?_⟩,.inr ⟨_,rfl,znl _⟩⟩
  ·rw [<-hlen];refine RowC.of_cells (zL3 hall ⟨hx,hx1⟩) c3 (by omega) (by unfold maxLen;omega) (by rw [c4,c2];omega) fun q u hq=>?_
   rw [Nat.zero_add];rcases zIn hin (fun y hy=>(hall y hy).1) hx hq with ⟨a1,a2⟩ | ⟨j,rfl,a2⟩ | ⟨j,rfl,a2⟩
   ·rw [z6b (.inl (by omega))];show W2.cell? _=_
    rw [hW2,z6b (.inl (by omega)),cell_of_row _ w.heap.size _ _ _ (0,0) hnew,hROW,Array.append_assoc,Array.getElem?_append_left (by rw [List.size_toArray,htl];exact a1)];simp only [List.getElem?_toArray];rw [List.getElem?_take,if_pos a1];exact a2
   ·have hj:j < 3:=by rw [<-hx];exact (zge a2).1
    rw [z6b (.inl (by omega))];show W2.cell? _=_
    rw [hW2];exact zB5 hd1 a2
   ·rw [show i*3+3+j=(i+1)*3+j by omega];exact zB5 hd2 a2
  ·rw [hs2.2.2.2.1];show w.heap.size<=W2.heap.size
   rw [hs1.2.2.2.1];exact B1.size
  ·have hbg:b≠w.heap.size:=by omega
   rw [hs2.2.2.2.2 b hbg];show W2.heap[b]? =_
   rw [hs1.2.2.2.2 b hbg];exact hold2 b hb)
 have HA:=zh hrz;have hw1:IntKind.i64.wrap ((i:Int)+1)=(i:Int)+1:=by rw [IntKind.wrap_i64];omega
 have hb1:(0:Int)<=(i:Int)+1:=by omega
 have htn:((i:Int)+1).toNat=i+1:=by omega
 have hb3:(i:Int)<=(l.length:Int)+1:=by omega
 have hb5:(i:Int)+1<=(l.length:Int)+1:=by omega
 have hGi:¬(G=i):=by omega
 have hGim:¬(G=i+1):=by omega
 have hci:¬(l.length=i):=by omega
 have HB:=zh hcpB;clear hrz hW1 hW2 hd1 hd2 hs1 hs2 hsp hsp2 hcpB hkk hik hold hROW hG hRs hnew hold2;go_enter Tryz.func162,Tryz.ntmps162
 go_wp2_with (at_builtin;refine Lib.wpList_append_run _ rfl _ _ _ _ rfl _ _ rfl rfl _ _ (HA.out _) ?_)
 go_region_law (refine zEp rfl (.tmp 50) (.tmp 53) 71 71 rfl (.slice (some ⟨w.heap.size,(i+1)*3,none⟩) (l.length+1 - (i+1)) (G - (i+1))) (.slice (some ⟨g,off+i*3,none⟩) (l.length - i) (l.length - i)) (by simp [Act.eval,Act.put]) (by simp [Act.eval,Act.put]) (HB.out _) ?_)
 go_wp2;go_ret;exact HEND.out
theorem zT4 (l:List (List Value)) (v:Value) (w:World) (i:Nat) (hi:i<=l.length) (x:List Value) (hx:x.length=3) (hx1:∀u∈x,u.oneCell'=true) (N c:Nat) (hN:w.heap[N]? =some (.cells x.toArray 149 (0,0))) (h:RowC 149 3 w v l) (hl:l.length<=9999) (hNv:v.ownBlock≠some N):
  Calls Tryz.prog 162 #[v,.int .i64 i,.slice (some ⟨N,0,none⟩) 1 c] w (zB6 l i x v w):=by
 by_cases he:i=l.length
 ·subst he;exact zMk l v w x hx hx1 N c hN h hl
 have h':=h;rcases h.2 with ⟨rfl,rfl⟩ | ⟨g,off,cap,cur,rfl,_⟩
 ·simp at hi;exact absurd hi he
 by_cases hr:l.length+1<=cap
 ·exact zK5 l g off cap w i (by omega) x hx hx1 N c hN h' hl (fun e=>hNv (by rw [e];rfl)) hr
 exact zK6 l g off cap w i (by omega) x hx hx1 N c hN h' hl (by omega)
end
end Go.Proofs.YtdggplhnfhcieaaGreatDoor
section
namespace Go.Proofs.YtdggplhnfhcieaaGreatDoor.Bd
open Go.RowKit Go.Deep
def sumOf (g:Folder->Nat):List Folder->Nat
 | []=>0
 | f :: l=>g f+sumOf g l
theorem zAp (g:Folder->Nat):∀(l:List Folder) (f:Folder),f∈l->g f<=sumOf g l
 | [],f,h=>by simp at h
 | x :: l,f,h=>by
  rcases List.mem_cons.1 h with rfl | h
  ·simp [sumOf]
  ·have:=zAp g l f h;simp [sumOf];omega
def zB8 (K:FuncId) (g:Folder->Nat) (l:List Folder):Prop:=
 ∀(f:Folder) (cs:List Value) (w:World) (S:Nat->Prop),ZG S w cs f->f∈l->Calls Tryz.prog K #[.agg cs.toArray] w fun e w'=>e= .returned (.int .i64 ((g f:Nat):Int))/\Below w.heap.size w w'
theorem zL9 (K:FuncId) (hK:K=184\/K=185) (g:Folder->Nat) (st:State) (hg:zB8 K g st.folders) (hb:sumOf g st.folders<=1000000)
  (cs:List Value) (w:World) (S:Nat->Prop) (h:yB S w cs st):
  Calls Tryz.prog 183 #[.agg cs.toArray,.func (.func K) #[] #[]] w fun e w'=>e= .returned (.int .i64 ((sumOf g st.folders:Nat):Int))/\Below w.heap.size w w':=by
 obtain ⟨_,_,_,_,_,_,rfl,_,_,_,_,_,_,_,_,_,_,_,_,st_folders_s⟩:=ZP h;have hgH:Hid (zB8 K g st.folders):=hg;clear hg;rcases hK with rfl | rfl
 all_goals
  go_enter Tryz.func183,Tryz.ntmps183
  go_wp2;go_loopw [5,11] (fun n i wr=>∃k m:Nat,k<=st.folders.length/\i= .int .i64 k/\n= .int .i64 m/\m+sumOf g (st.folders.drop k)=sumOf g st.folders/\Below w.heap.size w wr) (fun n i _=>st.folders.length - (intOf i).toNat)
  case atStart=>
   exact ⟨0,0,by omega,by go_num,by go_num,by simp,by go_grown⟩
  case round=>
   obtain ⟨k,m,_,rfl,rfl,E,hbel⟩:=hrel;have hz:=hbel.size;by_cases hlt:k < st.folders.length
   ·obtain ⟨x,_,_,_,_,_,_,_,_,_,_,_,_,x_k,x_d,x_m,rfl,_,_,_,_,_,_,_,_,_,x_R,_,_,_,_,_,_,_,_,_,_,_,_,_,_,_,_,_,_,_,_,_,_⟩:=z4s st_folders_s hlt (zK hbel);rw [x_d,sumOf] at E;have b1:m+g x<=1000000:=by omega
    have EH:=zh E;clear x_k x_d E;go_wp2_with fail
    refine (hgH.out x _ _ S (Z5 x_R (Kept.below (by go_grown) fun _ h=>h)) x_m).mono ?_;rintro e _ ⟨rfl,hb1⟩;go_wp2;go_roundw
    case rel=>exact ⟨k+1,m+g x,by omega,by go_num,by go_num,by rw [<-EH.out];omega,zB (by go_grown) hb1⟩
    case measure=>simp [intOf];omega
   ·obtain rfl:k=st.folders.length:=by omega
    rw [List.drop_length] at E;have EH:=zh E;clear E;go_wp2;go_ret;exact ⟨by rw [<-EH.out];simp [sumOf],hbel⟩
def small1 (f:Folder):Nat:=f.items.length+f.wraps.length+f.links.length
theorem zUo (l:List Folder) (h:sumOf small1 l<=1000000):zB8 184 small1 l:=fun f cs w S hR hm=>
 zMx f cs w S hR (by have:=zAp small1 l f hm;unfold small1 at this h;omega)
theorem zUp (l:List Folder) (h:sumOf large1 l<=1000000):zB8 185 large1 l:=fun f cs w S hR hm=>
 zMy f cs w S hR (by have:=zAp large1 l f hm;omega)
end Go.Proofs.YtdggplhnfhcieaaGreatDoor.Bd
end
namespace Go.Proofs.YtdggplhnfhcieaaGreatDoor
section
open Go.RowKit Go.Deep
section
variable {X:Nat->Prop} {base bw:Nat} {W W1:World} {R:RM} {c:Call} {dv:Value} {st:State} {done late:Bool}
def foAt (R:RM) (i g o:Nat):Prop:=∃n cap off,(R .fo).v= .slice (some ⟨g,off,none⟩) n cap/\o=off+i*7
theorem WK.fat (h:WK X base bw W R c dv st done late) {i:Nat} {f:Folder} (hf:st.folders[i]? =some f):∃g o,foAt R i g o/\g≠bw/\g < W.heap.size/\(∀j u,(hdr R i f)[j]? =some u->W.cell? ⟨g,o+j,none⟩=some u)/\∀q,W.frozen? ⟨g,q,none⟩=false:=by
 obtain ⟨h1,_⟩:=h.is.fo i f hf;obtain ⟨g,off,_,hv,_,_,hg,hc,hz⟩:=(h.os.row .fo).at h1;exact ⟨g,off+i*7,⟨_,_,_,hv,rfl⟩,fun e=>h.nb ⟨.fo,by rw [hv,<-e];rfl⟩,hg,hc,hz⟩
theorem foAt.row {i g o:Nat} (h:foAt R i g o):Y7 R g:=by
 obtain ⟨_,_,_,hv,_⟩:=h;exact ⟨.fo,by rw [hv];rfl⟩
theorem WK.sub (h:WK X base bw W R c dv st done late) {i g o:Nat} {f f':Folder} (hf:st.folders[i]? =some f) (ha:foAt R i g o) {k:RK} {r:Row} {j:Nat} (hk:k≠ .us/\k≠ .de/\k≠ .fo) (hj:j < 7)
  (o1:OS base W1 (zL R k r)) (m1:Mut bw R W (zL R k r) W1) (b1:W1.heap[bw]? =W.heap[bw]?) {u:Value} (hu:u.oneCell'=true)
  (is:Kept (Imm X bw R W) (Imm X bw (zL (zL R k r) .fo (ZY R i ((hdr R i f).set j u))) (W1.setCell ⟨g,o+j,none⟩ u)) W (W1.setCell ⟨g,o+j,none⟩ u)->
   IsSt (Imm X bw (zL (zL R k r) .fo (ZY R i ((hdr R i f).set j u))) (W1.setCell ⟨g,o+j,none⟩ u)) (W1.setCell ⟨g,o+j,none⟩ u) (zL (zL R k r) .fo (ZY R i ((hdr R i f).set j u))) { st with folders:=st.folders.set i f' }):
  WK X base bw (W1.setCell ⟨g,o+j,none⟩ u) (zL (zL R k r) .fo (ZY R i ((hdr R i f).set j u))) c dv { st with folders:=st.folders.set i f' } done late/\
  Mut bw R W (zL (zL R k r) .fo (ZY R i ((hdr R i f).set j u))) (W1.setCell ⟨g,o+j,none⟩ u):=by
 obtain ⟨_,_,off,hv,rfl⟩:=ha;have hfo:zL R k r .fo=R .fo:=ZQ R r hk.2.2.symm;have hrow:=o1.row .fo;rw [hfo,hv] at hrow;obtain ⟨h1,_⟩:=h.is.fo i f hf;have hw:=hrow.write (by decide:0 < RK.fo.sz) h1 (show j < RK.fo.sz from hj) u hu;have hg:Y7 R g:=⟨.fo,by rw [hv];rfl⟩;obtain ⟨o2,m2⟩:=o1.put (bw:=bw) (W':=W1.setCell ⟨g,off+i*7+j,none⟩ u) (qNtx h.base_le m1.but.size) .fo (ZY R i ((hdr R i f).set j u))
  ((ButB.refl _ W1).set ⟨g,off+i*7+j,none⟩ u (by rw [hfo,hv];rfl)) (by unfold ZY;rw [hv];exact hw) (by have:=h.os.len .fo;simpa [ZY] using this) (fun b hb=> .inl (by rw [hfo];exact hb))
 have m:=m1.trans m2;refine ⟨h.turn m o2 (is m.kept) ?_,m⟩;rw [Below.heap_setCell _ _ _ _ fun e=>h.nb (by rw [show bw=g from e];exact hg),b1,h.box];have e1:(zL (zL R k r) .fo (ZY R i ((hdr R i f).set j u))) .us=R .us:=by rw [ZQ _ _ (by decide),ZQ _ _ hk.1.symm]
 have e2:(zL (zL R k r) .fo (ZY R i ((hdr R i f).set j u))) .de=R .de:=by rw [ZQ _ _ (by decide),ZQ _ _ hk.2.1.symm]
 have e3:((zL (zL R k r) .fo (ZY R i ((hdr R i f).set j u))) .fo).v=(R .fo).v:=by rw [yU];rfl
 unfold z35;rw [e1,e2,e3]
theorem WK.fturn (h:WK X base bw W R c dv st done late) {i g o:Nat} {f:Folder} (hf:st.folders[i]? =some f) (ha:foAt R i g o) {n:Int} (hn:I64 n):
  WK X base bw (W.setCell ⟨g,o+1,none⟩ (.int .i64 n)) (zL R .fo (ZY R i ((hdr R i f).set 1 (.int .i64 n)))) c dv { st with folders:=st.folders.set i { f with turn:=n } } done late/\
  Mut bw R W (zL R .fo (ZY R i ((hdr R i f).set 1 (.int .i64 n)))) (W.setCell ⟨g,o+1,none⟩ (.int .i64 n)):=by
 obtain ⟨_,_,off,hv,rfl⟩:=ha;have hrow:=h.os.row .fo;rw [hv] at hrow;obtain ⟨h1,_⟩:=h.is.fo i f hf;have hw:=hrow.write (by decide:0 < RK.fo.sz) h1 (show 1 < RK.fo.sz by decide) (.int .i64 n) rfl;have hg:Y7 R g:=⟨.fo,by rw [hv];rfl⟩;obtain ⟨o2,m⟩:=h.os.put (bw:=bw) (W':=W.setCell ⟨g,off+i*7+1,none⟩ (.int .i64 n)) h.base_le .fo (ZY R i ((hdr R i f).set 1 (.int .i64 n)))
  ((ButB.refl _ W).set ⟨g,off+i*7+1,none⟩ _ (by rw [hv];rfl)) (by unfold ZY;rw [hv];exact hw) (by have:=h.os.len .fo;simpa [ZY] using this) (fun b hb=> .inl hb)
 refine ⟨h.turn m o2 (h.is.fTurn hf m.kept hn) ?_,m⟩;rw [Below.heap_setCell _ _ _ _ fun e=>h.nb (by rw [show bw=g from e];exact hg),h.box];have e1:(zL R .fo (ZY R i ((hdr R i f).set 1 (.int .i64 n)))) .us=R .us:=ZQ _ _ (by decide);have e2:(zL R .fo (ZY R i ((hdr R i f).set 1 (.int .i64 n)))) .de=R .de:=ZQ _ _ (by decide);have e3:((zL R .fo (ZY R i ((hdr R i f).set 1 (.int .i64 n)))) .fo).v=(R .fo).v:=by rw [yU];rfl
 unfold z35;rw [e1,e2,e3]
theorem foAt.keep {R':RM} {i g o:Nat} (h:foAt R i g o) (e:(R' .fo).v=(R .fo).v):foAt R' i g o:=by
 obtain ⟨n,cap,off,hv,rfl⟩:=h;exact ⟨n,cap,off,e.trans hv,rfl⟩
end
end
end Go.Proofs.YtdggplhnfhcieaaGreatDoor
