/- Part 6 of the proof of vaultStays_holds. No condition. -/
import Derived.Test.YtdggplhnfhcieaaGreatDoorZ04
set_option linter.unusedVariables false
set_option linter.unusedSimpArgs false
set_option linter.unusedSectionVars false
set_option maxRecDepth 100000
namespace Go.Proofs.YtdggplhnfhcieaaGreatDoor
section
open Go.RowKit Go.Deep
set_option maxHeartbeats 1000000 in
theorem zIi (x:Answer) (cs ds:List Value) (w:World) (S S':Nat->Prop) (h:yS S w cs x) (k:yS S' w ds x):
  Calls Tryz.prog 11 #[.agg cs.toArray,.agg ds.toArray] w fun e w'=>e= .returned (.bool true)/\Below w.heap.size w w':=by
 obtain ⟨_,_,_,_,rfl,_,_,_,d3,d4,d5,d6⟩:=h
 obtain ⟨_,_,_,_,rfl,_,_,_,e3,e4,e5,e6⟩:=k
 obtain ⟨A3,a3,rfl,_,_,_,_⟩:=id d3
 obtain ⟨A4,a4,rfl,_,hc4,_,hs4⟩:=id d4
 obtain ⟨A5,a5,rfl,_,_,_,_⟩:=id d5
 obtain ⟨A6,a6,rfl,_,hc6,_,hs6⟩:=id d6
 obtain ⟨B3,b3,rfl,_,_,_,_⟩:=id e3
 obtain ⟨B4,b4,rfl,_,mc4,_,ms4⟩:=id e4
 obtain ⟨B5,b5,rfl,_,_,_,_⟩:=id e5
 obtain ⟨B6,b6,rfl,_,mc6,_,ms6⟩:=id e6
 unfold maxLen at hc4 hc6 mc4 mc6
 have D3:=zh d3
 have D5:=zh d5
 have E3:=zh e3
 have E5:=zh e5
 clear d3 d4 d5 d6 e3 e4 e5 e6
 obtain ⟨W1,hW1,c1,f1,B1,q1⟩:=zQ w #[.int .i64 x.err,.int .i64 x.number,.string x.who,.slice A3 x.data.length a3,.slice A4 x.names.length a4,.slice A5 x.members.length a5,.slice A6 x.history.length a6] 49
 obtain ⟨W2,hW2,c2,f2,B2,q2⟩:=zQ W1 #[.int .i64 x.err,.int .i64 x.number,.string x.who,.slice B3 x.data.length b3,.slice B4 x.names.length b4,.slice B5 x.members.length b5,.slice B6 x.history.length b6] 49
 have hz1:=B1.size
 have hz2:=B2.size
 have ka:∀(j:Nat) (v:Value),(#[.int .i64 x.err,.int .i64 x.number,.string x.who,.slice A3 x.data.length a3,.slice A4 x.names.length a4,.slice A5 x.members.length a5,.slice A6 x.history.length a6]:Array Value)[j]? =some v->∀W,Below W2.heap.size W2 W->W.cell? ⟨w.heap.size,j,none⟩=some v:=fun j v hj W hW=>
  ((zB B2 hW).cell (p:=⟨w.heap.size,j,none⟩) (by dsimp only;omega)).trans (c1 j v hj)
 have kb:∀(j:Nat) (v:Value),(#[.int .i64 x.err,.int .i64 x.number,.string x.who,.slice B3 x.data.length b3,.slice B4 x.names.length b4,.slice B5 x.members.length b5,.slice B6 x.history.length b6]:Array Value)[j]? =some v->∀W,Below W2.heap.size W2 W->W.cell? ⟨W1.heap.size,j,none⟩=some v:=fun j v hj W hW=>
  (hW.cell (p:=⟨W1.heap.size,j,none⟩) (by dsimp only;omega)).trans (c2 j v hj)
 have KA:=zh ka
 have KB:=zh kb
 have hWs:W1.heap.size=w.heap.size+1:=by rw [<-hW1];simp
 clear ka kb c1 c2 f1 f2
 have B12:=zB B1 B2
 have r0:=KA.out 0 _ rfl W2 (Below.refl _ _)
 have r1:=KA.out 1 _ rfl W2 (Below.refl _ _)
 have r2:=KA.out 2 _ rfl W2 (Below.refl _ _)
 have r3:=KA.out 3 _ rfl W2 (Below.refl _ _)
 have s0:=KB.out 0 _ rfl W2 (Below.refl _ _)
 have s1:=KB.out 1 _ rfl W2 (Below.refl _ _)
 have s2:=KB.out 2 _ rfl W2 (Below.refl _ _)
 have s3:=KB.out 3 _ rfl W2 (Below.refl _ _)
 rw [hWs] at s0 s1 s2 s3
 have eg:Tryz.prog.eqGuardType Tryz.prog.depth 99=false:=by kernel_rfl
 have sh:Tryz.prog.stoodInHeld 99=false:=by kernel_rfl
 have uf:=Tryz.underlying99
 have HW1:=zh hW1
 have HW2:=zh hW2
 clear hW1 hW2
 go_enter Tryz.func11,Tryz.ntmps11
 have hW1:=HW1.out
 have hW2:=HW2.out
 go_wp2_with fail
 refine Calls.mono (z7y x.data _ _ W2 S S' (D3.out.keep rByte_ok (by decide) (zJ B12)) (E3.out.keep rByte_ok (by decide) (zJ B12))) ?_
 rintro e w3 ⟨rfl,B3⟩
 clear hW1 hW2 r0 r1 r2 r3 s0 s1 s2 s3
 have r4:=KA.out 4 _ rfl w3 B3
 have r5:=KA.out 5 _ rfl w3 B3
 have s4:=KB.out 4 _ rfl w3 B3
 have s5:=KB.out 5 _ rfl w3 B3
 rw [hWs] at s4 s5
 have B123:=zB B12 B3
 go_wp2_with fail
 refine Calls.mono (z93 x.members _ _ w3 S S' (D5.out.keep Z8 (by decide) (zJ B123)) (E5.out.keep Z8 (by decide) (zJ B123))) ?_
 rintro e w4 ⟨rfl,B4⟩
 have B34:=zB B3 B4
 have B1234:=zB B12 B34
 clear r4 r5 s4 s5
 have r6:=KA.out 6 _ rfl w4 B34
 have s6:=KB.out 6 _ rfl w4 B34
 rw [hWs] at s6
 go_wp2
 clear r6 s6
 go_loopw [5] (fun i wr=>∃k:Nat,k<=x.names.length/\i= .int .i64 k/\Below W2.heap.size W2 wr) (fun i _=>x.names.length - (RowKit.intOf i).toNat)
 case atStart=>exact ⟨0,by omega,by go_num,B34⟩
 case round=>
  obtain ⟨k,hk,rfl,hbel⟩:=hrel
  have r4:=KA.out 4 _ rfl wr hbel
  have s4:=KB.out 4 _ rfl wr hbel
  rw [hWs] at s4
  have BB:=zB B12 hbel
  by_cases hlt:k < x.names.length
  ·obtain ⟨y,hy⟩:∃y,x.names[k]? =some y:=⟨_,List.getElem?_eq_getElem hlt⟩
   obtain ⟨b,o,_,rfl,_,_,hcc,rfl,_⟩:=hs4 k y hy
   obtain ⟨b',o',_,rfl,_,_,hcc',rfl,_⟩:=ms4 k y hy
   have q1:=hcc 0 _ rfl
   have q2:=hcc' 0 _ rfl
   rw [show k*1+0=k by omega] at q1 q2
   have x1:wr.cell? ⟨b,o+k,none⟩=some (.string y):=(BB.cell (p:=⟨b,o+k,none⟩) (zF q1)).trans q1
   have x2:wr.cell? ⟨b',o'+k,none⟩=some (.string y):=(BB.cell (p:=⟨b',o'+k,none⟩) (zF q2)).trans q2
   clear hy q1 q2 hcc hcc'
   go_wp2_with fail
   go_quiet (fail)
   go_wp2
   go_roundw
   case rel=>exact ⟨k+1,by omega,by go_num,ZY hbel _⟩
   case measure=>simp [RowKit.intOf];omega
  ·obtain rfl:k=x.names.length:=by omega
   go_wp2
   obtain ⟨w5,rfl⟩:∃w5:World,w5=wr:=⟨_,rfl⟩
   clear r4 s4
   go_loopw [6] (fun i wr=>∃k:Nat,k<=x.history.length/\i= .int .i64 k/\Below W2.heap.size W2 wr) (fun i _=>x.history.length - (RowKit.intOf i).toNat)
   case atStart=>exact ⟨0,by omega,by go_num,hbel⟩
   case round=>
    obtain ⟨k,hk,rfl,hbel⟩:=hrel
    have r6:=KA.out 6 _ rfl wr hbel
    have s6:=KB.out 6 _ rfl wr hbel
    rw [hWs] at s6
    have BB:=zB B12 hbel
    by_cases hlt:k < x.history.length
    ·obtain ⟨y,b,o,hy,_,_,rfl,_,_,_,x1,x2,_,_⟩:=zE8 hs6 hlt (zJ BB)
     obtain ⟨z,b',o',hzz,_,_,rfl,_,_,_,_,_,_,_⟩:=zE8 ms6 hlt (zJ BB)
     obtain rfl:y=z:=Option.some.inj (hy.symm.trans hzz)
     clear hy hzz
     go_wp2_with fail
     go_quiet (fail)
     go_wp2
     go_roundw
     case rel=>exact ⟨k+1,by omega,by go_num,ZY hbel _⟩
     case measure=>simp [RowKit.intOf];omega
    ·obtain rfl:k=x.history.length:=by omega
     go_wp2
     go_ret
     exact ⟨rfl,zB B12 hbel⟩
end
end Go.Proofs.YtdggplhnfhcieaaGreatDoor
section
namespace Go.Proofs.YtdggplhnfhcieaaGreatDoor.Bd
open Go.RowKit Go.Deep
def sumOf (g:Folder->Nat):List Folder->Nat
 | []=>0
 | f :: l=>g f+sumOf g l
theorem z87 (g:Folder->Nat):∀(l:List Folder) (f:Folder),f∈l->g f<=sumOf g l
 | [],f,h=>by simp at h
 | x :: l,f,h=>by
  rcases List.mem_cons.1 h with rfl | h
  ·simp [sumOf]
  ·have:=z87 g l f h;simp [sumOf];omega
def z8q (K:FuncId) (g:Folder->Nat) (l:List Folder):Prop:=
 ∀(f:Folder) (cs:List Value) (w:World) (S:Nat->Prop),ZE S w cs f->f∈l->Calls Tryz.prog K #[.agg cs.toArray] w fun e w'=>e= .returned (.int .i64 ((g f:Nat):Int))/\Below w.heap.size w w'
theorem zHe (K:FuncId) (hK:K=184\/K=185) (g:Folder->Nat) (st:State) (hg:z8q K g st.folders) (hb:sumOf g st.folders<=1000000)
  (cs:List Value) (w:World) (S:Nat->Prop) (h:yF S w cs st):
  Calls Tryz.prog 183 #[.agg cs.toArray,.func (.func K) #[] #[]] w fun e w'=>e= .returned (.int .i64 ((sumOf g st.folders:Nat):Int))/\Below w.heap.size w w':=by
 obtain ⟨_,_,_,_,_,_,rfl,_,_,_,_,_,_,_,_,_,_,_,_,st_folders_s⟩:=y8 h
 have hgH:Hid (z8q K g st.folders):=hg
 clear hg
 rcases hK with rfl | rfl
 all_goals
  go_enter Tryz.func183,Tryz.ntmps183
  go_wp2
  go_loopw [5,11] (fun n i wr=>∃k m:Nat,k<=st.folders.length/\i= .int .i64 k/\n= .int .i64 m/\m+sumOf g (st.folders.drop k)=sumOf g st.folders/\Below w.heap.size w wr) (fun n i _=>st.folders.length - (intOf i).toNat)
  case atStart=>
   exact ⟨0,0,by omega,by go_num,by go_num,by simp,by go_grown⟩
  case round=>
   obtain ⟨k,m,_,rfl,rfl,E,hbel⟩:=hrel
   have hz:=hbel.size
   by_cases hlt:k < st.folders.length
   ·obtain ⟨x,_,_,_,_,_,_,_,_,_,_,_,_,x_k,x_d,x_m,rfl,_,_,_,_,_,_,_,_,_,x_R,_,_,_,_,_,_,_,_,_,_,_,_,_,_,_,_,_,_,_,_,_,_⟩:=z2x st_folders_s hlt (zJ hbel)
    rw [x_d,sumOf] at E
    have b1:m+g x<=1000000:=by omega
    have EH:=zh E
    clear x_k x_d E
    go_wp2_with fail
    refine (hgH.out x _ _ S (ZC x_R (Kept.below (by go_grown) fun _ h=>h)) x_m).mono ?_
    rintro e _ ⟨rfl,hb1⟩
    go_wp2
    go_roundw
    case rel=>exact ⟨k+1,m+g x,by omega,by go_num,by go_num,by rw [<-EH.out];omega,zB (by go_grown) hb1⟩
    case measure=>simp [intOf];omega
   ·obtain rfl:k=st.folders.length:=by omega
    rw [List.drop_length] at E
    have EH:=zh E
    clear E
    go_wp2
    go_ret
    exact ⟨by rw [<-EH.out];simp [sumOf],hbel⟩
def small1 (f:Folder):Nat:=f.items.length+f.wraps.length+f.links.length
theorem zPr (l:List Folder) (h:sumOf small1 l<=1000000):z8q 184 small1 l:=fun f cs w S hR hm=>
 zJ2 f cs w S hR (by have:=z87 small1 l f hm;unfold small1 at this h;omega)
theorem zPs (l:List Folder) (h:sumOf large1 l<=1000000):z8q 185 large1 l:=fun f cs w S hR hm=>
 zJ3 f cs w S hR (by have:=z87 large1 l f hm;omega)
end Go.Proofs.YtdggplhnfhcieaaGreatDoor.Bd
end
