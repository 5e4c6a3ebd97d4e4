/- Part 8 of the proof of vaultGranted_holds. No condition. -/
import Derived.Test.YtdggplhnfhcieaaGreatDoorY04
set_option linter.unusedVariables false
set_option linter.unusedSimpArgs false
set_option linter.unusedSectionVars false
set_option maxRecDepth 100000
namespace Go.Proofs.YtdggplhnfhcieaaGreatDoor
open Go.RowKit Go.Deep
theorem z1j {α:Type} {S:Nat->Prop} {W:World} {e:TypeId} {sz:Nat} {Q:Rp α} (ok:RpOk sz Q) {v:Value} {cells:List (List Value)} {l:List α} (h:RowC e sz W v cells) (hl:cells.length<=10000) (k:All2 (Q S W) cells l) (hv0:∀b,v.ownBlock=some b->S b):Sl sz Q S W v l:=by
 obtain ⟨A,c,e,h1,h2,h3,hs⟩:=z0i ok h hl k
 refine ⟨A,c,e,h1,h2,h3,fun i y hy=>?_⟩
 obtain ⟨g,off,_,q1,_,_,_,_⟩:=hs i y hy
 obtain ⟨x2,hx2,hp⟩:=k.at hy
 obtain ⟨_,_,_,hv2,_,_,_,hc2,_⟩:=h.at hx2
 rw [e] at hv2
 simp only [Value.slice.injEq] at hv2
 rw [q1] at hv2
 simp only [Option.some.injEq,Addr.mk.injEq,and_true] at hv2
 obtain ⟨⟨rfl,rfl⟩,_⟩:=hv2
 refine ⟨g,off,x2,q1,hv0 g (by rw [e,q1];rfl),ok.len hp,fun j u hj=>?_,hp⟩
 rw [<-Nat.add_assoc]
 exact hc2 j u hj
theorem zNo (w:World) (a:Option Addr) (n c:Nat):(binOp .eql 39 (.slice a n c) (.slice none 0 0)).run Tryz.prog w= .ok (.bool a.isNone) w:=by
 simp only [binOp]
 simp [run_equal_slice_nil w _ _ a n c Tryz.underlying39]
theorem zBn (l:List Int) (v:Value) (w:World) (S:Nat->Prop) (h:Sl 1 yN S w v l) (hl0:l.length<=10000):
  Calls Tryz.prog 40 #[v] w (z0v 5 1 yN S l w):=by
 obtain ⟨ix,hi,hz,h1,h2⟩:=info_parts (show (Tryz.prog.info? 5).map (fun i=>(i.zero,i.size,i.bytes))=some (some (.int .u8 0),1,1) from by kernel_rfl)
 obtain ⟨A,_,rfl,hl,hc,_,hs⟩:=h
 unfold maxLen at hc
 have q22:=zNo
 rcases A with _ | ad
 ·obtain rfl:l=[]:=by
   cases l with
   | nil=>rfl
   | cons x r=>obtain ⟨_,_,_,h,_⟩:=hs 0 x rfl;cases h
  clear hs
  go_enter Tryz.func40,Tryz.ntmps40
  go_wp2
  go_ret
  exact ⟨⟨_,[],rfl,RowC.nil _,All2.nil,fun b hb=>by cases hb⟩,Below.refl _ _⟩
 have hsl:SlAt 1 yN (z12 (fun b=>¬S b) (w.alloc (.cells #[] 5)) (.slice (some ⟨w.heap.size,0,none⟩) 0 0)) (w.alloc (.cells #[] 5)) (some ad) l:=
  hs.keep rByte_ok (by decide) (fun b hb hl=>⟨⟨by simp;omega,fun h=>h hb,fun hb'=>by simp only [Value.ownBlock,Option.some.injEq] at hb';omega⟩,heap_alloc_old _ _ hl⟩)
 clear hs
 go_enter Tryz.func40,Tryz.ntmps40
 go_wp2_with (at_builtin;go_loud (refine yQ (R:=yN) _ rfl (.tmp 5) (.tmp 6) 39 rfl 5 ix _ 1 1 Tryz.underlying39 hi hz h1 h2 rfl (by decide) rByte_ok w.heap.size (by go_size) _ _ rfl (Grow.empty (heap_alloc_new _ _) (znl _)) _ _ _ rfl _ rfl hsl (by simp;omega) (by decide) ?_);intro v1 w1 g1 gg1 go1;rw [List.nil_append] at g1;obtain ⟨_,_,_,rfl,hn1⟩:=g1.shape';clear hn1)
 go_ret
 obtain ⟨cells,k1,k2,k3⟩:=Grow.toRow rByte_ok (by decide) g1 fun b hb=>Classical.byContradiction hb
 exact ⟨⟨_,cells,rfl,k1,k2,k3⟩,Below.grown (Below.alloc zbr (znl _) _) gg1 (by simp) fun b hb=>by have:=zsi (show some w.heap.size=some b from hb);omega⟩
end Go.Proofs.YtdggplhnfhcieaaGreatDoor
