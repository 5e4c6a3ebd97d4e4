/- Part 7 of the proof of vaultStays_holds. No condition. -/
import Derived.Deep.RegionLaw
import Derived.Laws.IdiomCopy
import Derived.Laws.Externs
import Derived.Laws.NewBlocks
import Derived.Lib.SliceRun
import Derived.Lib.Overlaps
import Derived.Lib.AppendZerosOnto
import Derived.Test.YtdggplhnfhcieaaGreatDoorZ05
set_option linter.unusedVariables false
set_option linter.unusedSimpArgs false
set_option linter.unusedSectionVars false
set_option maxRecDepth 100000
namespace Go.Proofs.YtdggplhnfhcieaaGreatDoor
section
open Go.RowKit Go.Deep
def z0l (c:Call) (dv:Value):List Value:=[.int .i64 c.kind,.string c.user,.string c.folder,.string c.name,.string c.other,.int .i64 c.role,.int .i64 c.version,dv]
def z1p (R:RM) (c:Call) (dv:Value) (st:State) (done late:Bool):List Value:=
 [.int .i64 c.kind,.string c.user,.string c.folder,.string c.name,.string c.other,.int .i64 c.role,.int .i64 c.version,dv,.int .i64 st.turn,(R .us).v,(R .de).v,(R .fo).v,.bool done,.bool late]
structure WK (X:Nat->Prop) (base bw:Nat) (W:World) (R:RM) (c:Call) (dv:Value) (st:State) (done late:Bool):Prop where
 os:OS base W R
 is:IsSt (Imm X bw R W) W R st
 box:W.heap[bw]? =some (.cells (z1p R c dv st done late).toArray 112 (0,0))
 call:z01 (Imm X bw R W) W (z0l c dv) c
 nb:¬yU R bw
 bb:base<=bw
 nx:∀b,yU R b\/b=bw->¬X b
 xl:∀b,X b->b < W.heap.size
section
variable {X Y:Nat->Prop} {base bw:Nat} {W W':World} {R R':RM} {c:Call} {dv:Value} {st st':State} {done done' late:Bool}
theorem WK.lt (h:WK X base bw W R c dv st done late):bw < W.heap.size:=zM h.box
theorem WK.base_le (h:WK X base bw W R c dv st done late):base<=W.heap.size:=by have:=h.lt;have:=h.bb;omega
theorem WK.cells (h:WK X base bw W R c dv st done late):(∀j u,(z1p R c dv st done late)[j]? =some u->W.cell? ⟨bw,j,none⟩=some u)/\∀j,W.frozen? ⟨bw,j,none⟩=false:=
 ⟨fun j u hj=>(zD h.box).1 j u (by rw [List.getElem?_toArray];exact hj),(zD h.box).2⟩
theorem WK.below (h:WK X base bw W R c dv st done late) (hb:Below W.heap.size W W'):WK X base bw W' R c dv st done late:=
 have k:=(Mut.below (bw:=bw) (R:=R) hb).kept
 ⟨h.os.below hb,h.is.keep k,by rw [hb.block bw h.lt];exact h.box,yJ h.call k,h.nb,h.bb,h.nx,fun b hx=>Nat.lt_of_lt_of_le (h.xl b hx) hb.size⟩
theorem WK.turn (h:WK X base bw W R c dv st done late) (m:Mut bw R W R' W') (os:OS base W' R') (is:IsSt (Imm X bw R' W') W' R' st') (box:W'.heap[bw]? =some (.cells (z1p R' c dv st' done' late).toArray 112 (0,0))):WK X base bw W' R' c dv st' done' late:=
 ⟨os,is,box,yJ h.call m.kept,fun e=>(m.fresh bw e).elim h.nb fun hl=>by have:=h.lt;omega,h.bb,fun b e hx=>by
  rcases e with e | e
  ·rcases m.fresh b e with e | e
   ·exact h.nx b (.inl e) hx
   ·have:=h.xl b hx
    omega
  ·exact h.nx b (.inr e) hx,fun b hx=>Nat.lt_of_lt_of_le (h.xl b hx) m.but.size⟩
theorem WK.enter (h:WK X base bw W R c dv st done late) (hb:Below W.heap.size W W') (hz:W.heap.size < W'.heap.size):WK (fun b=>X b\/b=W.heap.size) base bw W' R c dv st done late:=by
 have h':=h.below hb
 have k:Kept (Imm X bw R W) (Imm (fun b=>X b\/b=W.heap.size) bw R W') W W':=fun b ⟨h1,h2,h3,h4⟩ hl=>⟨⟨by omega,h2,h3,fun e=>e.elim h4 fun e=>by omega⟩,hb.block b h1⟩
 refine ⟨h'.os,h.is.keep k,h'.box,yJ h.call k,h.nb,h.bb,fun b e hx=>?_,fun b hx=>hx.elim (h'.xl b) fun e=>by omega⟩
 rcases hx with hx | hx
 ·exact h.nx b e hx
 ·rcases e with e | e
  ·have:=h.os.lt e
   omega
  ·have:=h.lt
   omega
theorem WK.leave (h:WK Y base bw W R c dv st done late) (hb:ButB Y W W') (hY:∀b,X b->Y b):WK X base bw W' R c dv st done late:=by
 have k:Kept (Imm Y bw R W) (Imm X bw R W') W W':=fun b ⟨h1,h2,h3,h4⟩ hl=>⟨⟨Nat.lt_of_lt_of_le h1 hb.size,h2,h3,fun e=>h4 (hY b e)⟩,hb.block b h1 h4⟩
 exact ⟨h.os.to fun b hr=>hb.block b (h.os.lt hr) (h.nx b (.inl hr)),h.is.keep k,by rw [hb.block bw h.lt (h.nx bw (.inr rfl))];exact h.box,yJ h.call k,h.nb,h.bb,fun b e hx=>h.nx b e (hY b hx),fun b hx=>Nat.lt_of_lt_of_le (h.xl b (hY b hx)) hb.size⟩
theorem WK.state (h:WK X base bw W R c dv st done late):yF (fun _=>True) W [.int .i64 st.turn,(R .us).v,(R .de).v,(R .fo).v] st:=h.is.state h.os
theorem WK.set (h:WK X base bw W R c dv st done late) {j:Nat} {u:Value} (hc:(z1p R c dv st done late).set j u=z1p R c dv st' done' late)
  (is:∀S W,IsSt S W R st->IsSt S W R st'):
  WK X base bw (W.setCell ⟨bw,j,none⟩ u) R c dv st' done' late/\Mut bw R W R (W.setCell ⟨bw,j,none⟩ u):=by
 have hm:Mut bw R W R (W.setCell ⟨bw,j,none⟩ u):=⟨(ButB.refl _ W).set ⟨bw,j,none⟩ u (.inl rfl),fun _ h=> .inl h⟩
 refine ⟨h.turn hm (h.os.to fun b hr=>?_) ((is _ _ h.is).keep hm.kept) (zI u h.box ?_),hm⟩
 ·exact Below.heap_setCell _ _ _ _ fun e=>h.nb (by rw [<-show b=bw from e];exact hr)
 ·rw [<-hc]
  simp
theorem WK.setDone (h:WK X base bw W R c dv st done late) (b:Bool):WK X base bw (W.setCell ⟨bw,12,none⟩ (.bool b)) R c dv st b late/\Mut bw R W R (W.setCell ⟨bw,12,none⟩ (.bool b)):=
 h.set rfl fun _ _ h=>h
theorem WK.setTurn (h:WK X base bw W R c dv st done late) (n:Int) (hn:I64 n):WK X base bw (W.setCell ⟨bw,8,none⟩ (.int .i64 n)) R c dv { st with turn:=n } done late/\Mut bw R W R (W.setCell ⟨bw,8,none⟩ (.int .i64 n)):=
 h.set rfl fun _ _ h=>⟨hn,h.users,h.deps,h.fol,h.fo⟩
theorem WK.put (h:WK X base bw W R c dv st done late) (k:RK) (r:Row) (hb:ButB (fun b=>(R k).v.ownBlock=some b) W W') (hr:RowC k.ty k.sz W' r.v r.cells) (hl:r.cells.length<=10000) (ho:∀b,r.v.ownBlock=some b->(R k).v.ownBlock=some b\/W.heap.size<=b):
  OS base W' (zK R k r)/\Mut bw R W (zK R k r) W'/\W'.heap[bw]? =W.heap[bw]?/\¬yU (zK R k r) bw:=by
 obtain ⟨h1,h2⟩:=h.os.put (bw:=bw) h.base_le k r hb hr hl ho
 exact ⟨h1,h2,hb.block bw h.lt fun e=>h.nb ⟨k,e⟩,fun e=>(h2.fresh bw e).elim h.nb fun hl=>by have:=h.lt;omega⟩
end
theorem List.set_eq_self_of {α:Type} {l:List α} {i:Nat} {x:α} (h:l[i]? =some x):l.set i x=l:=by
 apply List.ext_getElem?
 intro j
 rw [List.getElem?_set]
 split
 ·rename_i e
  subst e
  rw [if_pos (List.getElem?_eq_some_iff.1 h).1,h]
 ·rfl
section
variable {S S':Nat->Prop} {W W':World} {R:RM} {i:Nat} {f:Folder} {st:State} {r:Row}
def ZS (R:RM) (i:Nat) (cs:List Value):Row:=⟨(R .fo).v,(R .fo).cells.set i cs⟩
theorem IsSt.wrRow (h:IsSt S W R st) (hf:st.folders[i]? =some f) (k:Kept S S' W W') {l:List Wrap} (hl:All2 (Y1 S' W') r.cells l):
  IsSt S' W' (zK (zK R (.wr i) r) .fo (ZS R i ((hdr R i f).set 5 r.v))) { st with folders:=st.folders.set i { f with wraps:=l } }:=by
 obtain ⟨_,h2⟩:=h.fo i f hf
 have h2':=h2.keep k
 refine h.setF hf k (by simp [zK]) (by simp [zK]) (fun i' hi'=>by simp [zK,hi']) (by simp [zK,ZS,hdr]) ?_
 exact ⟨h2'.name,h2'.turn,by simpa [zK] using h2'.man,by simpa [zK] using h2'.ep,by simpa [zK] using h2'.itl,by simpa [zK] using h2'.it,by simpa [zK] using hl,by simpa [zK] using h2'.li⟩
theorem IsSt.maRow (h:IsSt S W R st) (hf:st.folders[i]? =some f) (k:Kept S S' W W') {l:List Manifest} (hl:All2 (ZQ S' W') r.cells l):
  IsSt S' W' (zK (zK R (.ma i) r) .fo (ZS R i ((hdr R i f).set 2 r.v))) { st with folders:=st.folders.set i { f with manifests:=l } }:=by
 obtain ⟨_,h2⟩:=h.fo i f hf
 have h2':=h2.keep k
 refine h.setF hf k (by simp [zK]) (by simp [zK]) (fun i' hi'=>by simp [zK,hi']) (by simp [zK,ZS,hdr]) ?_
 exact ⟨h2'.name,h2'.turn,by simpa [zK] using hl,by simpa [zK] using h2'.ep,by simpa [zK] using h2'.itl,by simpa [zK] using h2'.it,by simpa [zK] using h2'.wr,by simpa [zK] using h2'.li⟩
theorem IsSt.epRow (h:IsSt S W R st) (hf:st.folders[i]? =some f) (k:Kept S S' W W') {l:List Epoch} (hl:All2 (Y5 S' W') r.cells l):
  IsSt S' W' (zK (zK R (.ep i) r) .fo (ZS R i ((hdr R i f).set 3 r.v))) { st with folders:=st.folders.set i { f with epochs:=l } }:=by
 obtain ⟨_,h2⟩:=h.fo i f hf
 have h2':=h2.keep k
 refine h.setF hf k (by simp [zK]) (by simp [zK]) (fun i' hi'=>by simp [zK,hi']) (by simp [zK,ZS,hdr]) ?_
 exact ⟨h2'.name,h2'.turn,by simpa [zK] using h2'.man,by simpa [zK] using hl,by simpa [zK] using h2'.itl,by simpa [zK] using h2'.it,by simpa [zK] using h2'.wr,by simpa [zK] using h2'.li⟩
theorem IsSt.liRow (h:IsSt S W R st) (hf:st.folders[i]? =some f) (k:Kept S S' W W') {l:List Link} (hl:All2 (YK S' W') r.cells l):
  IsSt S' W' (zK (zK R (.li i) r) .fo (ZS R i ((hdr R i f).set 6 r.v))) { st with folders:=st.folders.set i { f with links:=l } }:=by
 obtain ⟨_,h2⟩:=h.fo i f hf
 have h2':=h2.keep k
 refine h.setF hf k (by simp [zK]) (by simp [zK]) (fun i' hi'=>by simp [zK,hi']) (by simp [zK,ZS,hdr]) ?_
 exact ⟨h2'.name,h2'.turn,by simpa [zK] using h2'.man,by simpa [zK] using h2'.ep,by simpa [zK] using h2'.itl,by simpa [zK] using h2'.it,by simpa [zK] using h2'.wr,by simpa [zK] using hl⟩
theorem IsSt.itNew (h:IsSt S W R st) (hf:st.folders[i]? =some f) (k:Kept S S' W W') {n:ByteArray} (hn:n.size<=140737488355328) (hr:r.cells=(R (.it i)).cells++[[.string n,.slice none 0 0]]):
  IsSt S' W' (zK (zK (zK R (.it i) r) (.ve i f.items.length) ⟨.slice none 0 0,[]⟩) .fo (ZS R i ((hdr R i f).set 4 r.v))) { st with folders:=st.folders.set i { f with items:=f.items++[⟨n,[]⟩] } }:=by
 obtain ⟨_,h2⟩:=h.fo i f hf
 have h2':=h2.keep k
 refine h.setF hf k (by simp [zK]) (by simp [zK]) (fun i' hi'=>by simp [zK,hi']) (by simp [zK,ZS,hdr]) ?_
 refine ⟨h2'.name,h2'.turn,by simpa [zK] using h2'.man,by simpa [zK] using h2'.ep,by simp [zK,hr,h2'.itl],fun j x hx=>?_,by simpa [zK] using h2'.wr,by simpa [zK] using h2'.li⟩
 rcases Nat.lt_trichotomy j f.items.length with hj | hj | hj
 ·rw [List.getElem?_append_left hj] at hx
  have hne:¬j=f.items.length:=by omega
  have:=h2'.it j x hx
  refine ⟨?_,this.2.1,by simpa [zK,hne] using this.2.2⟩
  have h3:(zK (zK (zK R (.it i) r) (.ve i f.items.length) ⟨.slice none 0 0,[]⟩) .fo (ZS R i ((hdr R i f).set 4 r.v)) (.it i)).cells=r.cells:=by simp [zK]
  rw [h3,hr,List.getElem?_append_left (by rw [h2'.itl];exact hj),this.1]
  simp [zK,hne]
 ·subst hj
  rw [List.getElem?_append_right (Nat.le_refl _),Nat.sub_self] at hx
  obtain rfl:=Option.some.inj hx
  refine ⟨?_,hn,by simpa [zK] using All2.nil⟩
  have h3:(zK (zK (zK R (.it i) r) (.ve i f.items.length) ⟨.slice none 0 0,[]⟩) .fo (ZS R i ((hdr R i f).set 4 r.v)) (.it i)).cells=r.cells:=by simp [zK]
  rw [h3,hr,List.getElem?_append_right (by rw [h2'.itl];exact Nat.le_refl _),h2'.itl,Nat.sub_self]
  simp [zK]
 ·rw [List.getElem?_eq_none (by simp;omega)] at hx
  cases hx
theorem IsSt.veRow {j:Nat} {x:Item} (h:IsSt S W R st) (hf:st.folders[i]? =some f) (hx:f.items[j]? =some x) (k:Kept S S' W W') {l:List Version} (hl:All2 (yC S' W') r.cells l):
  IsSt S' W' (zK (zK R (.ve i j) r) (.it i) ⟨(R (.it i)).v,(R (.it i)).cells.set j [.string x.name,r.v]⟩) { st with folders:=st.folders.set i { f with items:=f.items.set j { x with versions:=l } } }:=by
 obtain ⟨h1,h2⟩:=h.fo i f hf
 have h2':=h2.keep k
 refine h.setF hf k (by simp [zK]) (by simp [zK]) (fun i' hi'=>by simp [zK,hi']) (by
  have e:hdr (zK (zK R (.ve i j) r) (.it i) ⟨(R (.it i)).v,(R (.it i)).cells.set j [.string x.name,r.v]⟩) i { f with items:=f.items.set j { x with versions:=l } }=hdr R i f:=by simp [hdr,zK]
  rw [e]
  have h4:(zK (zK R (.ve i j) r) (.it i) ⟨(R (.it i)).v,(R (.it i)).cells.set j [.string x.name,r.v]⟩ .fo)=R .fo:=by simp [zK]
  rw [h4,List.set_eq_self_of h1]) ?_
 refine ⟨h2'.name,h2'.turn,by simpa [zK] using h2'.man,by simpa [zK] using h2'.ep,by simp [zK,h2'.itl],fun q y hy=>?_,by simpa [zK] using h2'.wr,by simpa [zK] using h2'.li⟩
 have hjl:=(List.getElem?_eq_some_iff.1 hx).1
 have h3:(zK (zK R (.ve i j) r) (.it i) ⟨(R (.it i)).v,(R (.it i)).cells.set j [.string x.name,r.v]⟩ (.it i)).cells=(R (.it i)).cells.set j [.string x.name,r.v]:=by simp [zK]
 rw [h3,List.getElem?_set]
 dsimp only at hy
 rw [List.getElem?_set] at hy
 by_cases hq:j=q
 ·subst hq
  rw [if_pos rfl,if_pos hjl] at hy
  obtain rfl:=Option.some.inj hy
  rw [if_pos rfl,if_pos (by rw [h2'.itl];exact hjl)]
  exact ⟨by simp [zK],(h2'.it j x hx).2.1,by simpa [zK] using hl⟩
 ·rw [if_neg hq] at hy⊢
  have hq':¬q=j:=fun e=>hq e.symm
  have:=h2'.it q y hy
  exact ⟨by simpa [zK,hq'] using this.1,this.2.1,by simpa [zK,hq'] using this.2.2⟩
theorem IsSt.fTurn (h:IsSt S W R st) (hf:st.folders[i]? =some f) (k:Kept S S' W W') {n:Int} (hn:I64 n):
  IsSt S' W' (zK R .fo (ZS R i ((hdr R i f).set 1 (.int .i64 n)))) { st with folders:=st.folders.set i { f with turn:=n } }:=by
 obtain ⟨_,h2⟩:=h.fo i f hf
 have h2':=h2.keep k
 refine h.setF hf k (by simp [zK]) (by simp [zK]) (fun i' hi'=>by simp [zK]) (by simp [zK,ZS,hdr]) ?_
 exact ⟨h2'.name,hn,by simpa [zK] using h2'.man,by simpa [zK] using h2'.ep,by simpa [zK] using h2'.itl,by simpa [zK] using h2'.it,by simpa [zK] using h2'.wr,by simpa [zK] using h2'.li⟩
theorem IsSt.usRow (h:IsSt S W R st) (k:Kept S S' W W') {l:List User} (hl:All2 (YS S' W') r.cells l):IsSt S' W' (zK R .us r) { st with users:=l }:=by
 have h':=h.keep k
 exact ⟨h'.turn,by simpa [zK] using hl,by simpa [zK] using h'.deps,by simpa [zK] using h'.fol,fun i f hf=>⟨by simpa [zK,hdr] using (h'.fo i f hf).1,by
  have g:=(h'.fo i f hf).2
  exact ⟨g.name,g.turn,by simpa [zK] using g.man,by simpa [zK] using g.ep,by simpa [zK] using g.itl,by simpa [zK] using g.it,by simpa [zK] using g.wr,by simpa [zK] using g.li⟩⟩⟩
theorem IsSt.deRow (h:IsSt S W R st) (k:Kept S S' W W') {l:List Pair} (hl:All2 (YN S' W') r.cells l):IsSt S' W' (zK R .de r) { st with deposits:=l }:=by
 have h':=h.keep k
 exact ⟨h'.turn,by simpa [zK] using h'.users,by simpa [zK] using hl,by simpa [zK] using h'.fol,fun i f hf=>⟨by simpa [zK,hdr] using (h'.fo i f hf).1,by
  have g:=(h'.fo i f hf).2
  exact ⟨g.name,g.turn,by simpa [zK] using g.man,by simpa [zK] using g.ep,by simpa [zK] using g.itl,by simpa [zK] using g.it,by simpa [zK] using g.wr,by simpa [zK] using g.li⟩⟩⟩
theorem IsSt.snocF {R':RM} (h:IsSt S W R st) {f':Folder} (k:Kept S S' W W') (hus:R' .us=R .us) (hde:R' .de=R .de)
  (ho:∀i',i'≠st.folders.length->R' (.ma i')=R (.ma i')/\R' (.ep i')=R (.ep i')/\R' (.it i')=R (.it i')/\R' (.wr i')=R (.wr i')/\R' (.li i')=R (.li i')/\∀j,R' (.ve i' j)=R (.ve i' j))
  (hfo:(R' .fo).cells=(R .fo).cells++[hdr R' st.folders.length f']) (hF:IsFo S' W' R' st.folders.length f'):IsSt S' W' R' { st with folders:=st.folders++[f'] }:=by
 have h':=h.keep k
 refine ⟨h.turn,by rw [hus];exact h'.users,by rw [hde];exact h'.deps,by rw [hfo];simp [h.fol],fun j g hg=>?_⟩
 rcases Nat.lt_trichotomy j st.folders.length with hj | hj | hj
 ·dsimp only at hg
  rw [List.getElem?_append_left hj] at hg
  obtain ⟨g1,g2⟩:=h'.fo j g hg
  obtain ⟨a1,a2,a3,a4,a5,a6⟩:=ho j (by omega)
  refine ⟨?_,?_⟩
  ·rw [hfo,List.getElem?_append_left (by rw [h.fol];exact hj),g1]
   unfold hdr
   rw [a1,a2,a3,a4,a5]
  ·exact ⟨g2.name,g2.turn,by rw [a1];exact g2.man,by rw [a2];exact g2.ep,by rw [a3];exact g2.itl,fun q x hx=>by rw [a3,a6 q];exact g2.it q x hx,by rw [a4];exact g2.wr,by rw [a5];exact g2.li⟩
 ·subst hj
  dsimp only at hg
  rw [List.getElem?_append_right (Nat.le_refl _),Nat.sub_self] at hg
  obtain rfl:=Option.some.inj hg
  refine ⟨?_,hF⟩
  rw [hfo,List.getElem?_append_right (by rw [h.fol];exact Nat.le_refl _),h.fol,Nat.sub_self]
  rfl
 ·rw [List.getElem?_eq_none (by simp;omega)] at hg
  cases hg
end
end
section
open Go.RowKit Go.Deep
def z5l (sz n:Nat) (xs:List Value):List (List Value):=(List.range n).map fun i=>(xs.drop (i*sz)).take sz
theorem z29 (sz n:Nat) (xs:List Value):(z5l sz n xs).length=n:=by simp [z5l]
theorem zAd {sz n:Nat} {xs:List Value} {i:Nat} (hi:i < n):(z5l sz n xs)[i]? =some ((xs.drop (i*sz)).take sz):=by
 unfold z5l
 rw [List.getElem?_map,List.getElem?_range hi]
 rfl
theorem Grow.toRow {α:Type} {e:TypeId} {sz:Nat} {Q:Rp α} (ok:RpOk sz Q) (hsz:0 < sz) {B S:Nat->Prop} {w:World} {base:Nat} {v:Value} {l:List α} (h:Grow e sz Q B w base v l) (hS:∀b,¬B b->S b):
  ∃cells,RowC e sz w v cells/\All2 (Q S w) cells l/\∀b,v.ownBlock=some b->base<=b:=by
 obtain ⟨h1,h2,xs,⟨hxl,h4⟩,hel⟩:=h
 have hall:All2 (Q S w) (z5l sz l.length xs) l:=⟨z29 _ _ _,fun i x y hx hy=>by
  have hi:i < l.length:=(List.getElem?_eq_some_iff.1 hy).1
  rw [zAd hi] at hx
  obtain rfl:=Option.some.inj hx
  obtain ⟨ys,g1,g2,g3⟩:=hel i y hy
  have e:(xs.drop (i*sz)).take sz=ys:=by
   have hle:i*sz+sz<=l.length*sz:=by rw [<-Nat.succ_mul];exact Nat.mul_le_mul_right _ hi
   apply List.ext_getElem?
   intro j
   rw [List.getElem?_take]
   split
   ·rename_i hj
    rw [List.getElem?_drop]
    have hy2:ys[j]? =some ys[j]:=List.getElem?_eq_getElem (by omega)
    rw [hy2]
    exact g2 j _ hy2
   ·rw [List.getElem?_eq_none (by omega)]
  rw [e]
  exact ok.keep g3 fun b hb hl=>⟨hS b hb.2.1,rfl⟩⟩
 refine ⟨z5l sz l.length xs,⟨fun x hx=>?_,?_⟩,hall,fun b hb=>?_⟩
 ·obtain ⟨i,hi⟩:=List.getElem?_of_mem hx
  have hil:i < l.length:=by have:=(List.getElem?_eq_some_iff.1 hi).1;rwa [z29] at this
  have hq:=hall.2 i x _ hi (List.getElem?_eq_getElem hil)
  exact ⟨ok.len hq,ok.one hq⟩
 ·rcases h4 with ⟨rfl,h0⟩ | ⟨g,cap,cur,rfl,hb,hg,hnc,hcm,hcs,htk⟩
  ·left
   exact ⟨rfl,List.eq_nil_of_length_eq_zero (by rw [z29,h0])⟩
  ·right
   refine ⟨g,0,cap,cur,by rw [z29],hg,by rw [z29];exact hnc,hcm,by omega,fun q u hq=>?_⟩
   obtain ⟨i,j,x,e1,e2,e3,e4⟩:=zEa hsz (l:=z5l sz l.length xs) (fun y hy=>by
    obtain ⟨i,hi⟩:=List.getElem?_of_mem hy
    have hil:i < l.length:=by have:=(List.getElem?_eq_some_iff.1 hi).1;rwa [z29] at this
    exact ok.len (hall.2 i y _ hi (List.getElem?_eq_getElem hil))) hq
   have hil:i < l.length:=by have:=(List.getElem?_eq_some_iff.1 e3).1;rwa [z29] at this
   rw [zAd hil] at e3
   obtain rfl:=Option.some.inj e3
   rw [List.getElem?_take,if_pos e2,List.getElem?_drop,<-e1] at e4
   rw [Nat.zero_add,<-Array.getElem?_toList]
   have hql:q < l.length*sz:=by rw [<-hxl];exact (List.getElem?_eq_some_iff.1 e4).1
   have h9:=congrArg (fun l=>l[q]?) htk
   simp only [List.getElem?_take,if_pos hql] at h9
   rw [h9]
   exact e4
 ·rcases h4 with ⟨rfl,h0⟩ | ⟨g,cap,cur,rfl,hb2,_⟩
  ·cases hb
  ·simp only [Value.ownBlock,Option.some.injEq] at hb
   omega
def z0n {α:Type} (e:TypeId) (sz:Nat) (Q:Rp α) (S:Nat->Prop) (l:List α) (w:World) (x:Ending) (w':World):Prop:=
 (∃v' cells,x= .returned v'/\RowC e sz w' v' cells/\All2 (Q S w') cells l/\∀b,v'.ownBlock=some b->w.heap.size<=b)/\Below w.heap.size w w'
theorem zMb (w:World) (a:Option Addr) (n c:Nat):(binOp .eql 30 (.slice a n c) (.slice none 0 0)).run Tryz.prog w= .ok (.bool a.isNone) w:=by
 simp only [binOp]
 simp [run_equal_slice_nil w _ _ a n c Tryz.underlying30]
theorem zIb (l:List User) (v:Value) (w:World) (S:Nat->Prop) (h:Sl 2 YS S w v l) (hl0:l.length<=10000):
  Calls Tryz.prog 70 #[v] w (z0n 91 2 YS S l w):=by
 obtain ⟨ix,hi,hz,h1,h2⟩:=info_parts (show (Tryz.prog.info? 91).map (fun i=>(i.zero,i.size,i.bytes))=some (some (.agg #[.string ⟨#[]⟩,.bool false]),2,24) from by kernel_rfl)
 obtain ⟨A,_,rfl,hl,hc,_,hs⟩:=h
 unfold maxLen at hc
 have q22:=zMb
 rcases A with _ | ad
 ·obtain rfl:l=[]:=by
   cases l with
   | nil=>rfl
   | cons x r=>obtain ⟨_,_,_,h,_⟩:=hs 0 x rfl;cases h
  clear hs
  go_enter Tryz.func70,Tryz.ntmps70
  go_wp2
  go_ret
  exact ⟨⟨_,[],rfl,RowC.nil _,All2.nil,fun b hb=>by cases hb⟩,Below.refl _ _⟩
 ·have hsl:SlAt 2 YS (z1e (fun b=>¬S b) (w.alloc (.cells #[] 91)) (.slice (some ⟨w.heap.size,0,none⟩) 0 0)) (w.alloc (.cells #[] 91)) (some ad) l:=
   hs.keep z1x (by decide) (fun b hb hl=>⟨⟨by simp;omega,fun h=>h hb,fun hb'=>by simp only [Value.ownBlock,Option.some.injEq] at hb';omega⟩,heap_alloc_old _ _ hl⟩)
  clear hs
  go_enter Tryz.func70,Tryz.ntmps70
  go_wp2_with (at_builtin;go_loud (refine yT (R:=YS) _ rfl (.tmp 5) (.tmp 6) 30 rfl 91 ix _ 2 24 Tryz.underlying30 hi hz h1 h2 rfl (by decide) z1x w.heap.size (by go_size) _ _ rfl (Grow.empty (heap_alloc_new _ _) (Nat.le_refl _)) _ _ _ rfl _ rfl hsl (by simp;omega) (by decide) ?_);intro v1 w1 g1 gg1 go1;rw [List.nil_append] at g1;obtain ⟨_,_,_,rfl,hn1⟩:=g1.shape';clear hn1)
  go_ret
  obtain ⟨cells,k1,k2,k3⟩:=Grow.toRow z1x (by decide) g1 fun b hb=>Classical.byContradiction hb
  exact ⟨⟨_,cells,rfl,k1,k2,k3⟩,Below.grown (Below.alloc (Below.refl _ _) (Nat.le_refl _) _) gg1 (by simp) fun b hb=>by have:=Option.some.inj (show some w.heap.size=some b from hb);omega⟩
theorem zMc (w:World) (a:Option Addr) (n c:Nat):(binOp .eql 31 (.slice a n c) (.slice none 0 0)).run Tryz.prog w= .ok (.bool a.isNone) w:=by
 simp only [binOp]
 simp [run_equal_slice_nil w _ _ a n c Tryz.underlying31]
theorem zIc (l:List Pair) (v:Value) (w:World) (S:Nat->Prop) (h:Sl 2 YN S w v l) (hl0:l.length<=10000):
  Calls Tryz.prog 71 #[v] w (z0n 126 2 YN S l w):=by
 obtain ⟨ix,hi,hz,h1,h2⟩:=info_parts (show (Tryz.prog.info? 126).map (fun i=>(i.zero,i.size,i.bytes))=some (some (.agg #[.string ⟨#[]⟩,.string ⟨#[]⟩]),2,32) from by kernel_rfl)
 obtain ⟨A,_,rfl,hl,hc,_,hs⟩:=h
 unfold maxLen at hc
 have q22:=zMc
 rcases A with _ | ad
 ·obtain rfl:l=[]:=by
   cases l with
   | nil=>rfl
   | cons x r=>obtain ⟨_,_,_,h,_⟩:=hs 0 x rfl;cases h
  clear hs
  go_enter Tryz.func71,Tryz.ntmps71
  go_wp2
  go_ret
  exact ⟨⟨_,[],rfl,RowC.nil _,All2.nil,fun b hb=>by cases hb⟩,Below.refl _ _⟩
 ·have hsl:SlAt 2 YN (z1e (fun b=>¬S b) (w.alloc (.cells #[] 126)) (.slice (some ⟨w.heap.size,0,none⟩) 0 0)) (w.alloc (.cells #[] 126)) (some ad) l:=
   hs.keep z13 (by decide) (fun b hb hl=>⟨⟨by simp;omega,fun h=>h hb,fun hb'=>by simp only [Value.ownBlock,Option.some.injEq] at hb';omega⟩,heap_alloc_old _ _ hl⟩)
  clear hs
  go_enter Tryz.func71,Tryz.ntmps71
  go_wp2_with (at_builtin;go_loud (refine yT (R:=YN) _ rfl (.tmp 5) (.tmp 6) 31 rfl 126 ix _ 2 32 Tryz.underlying31 hi hz h1 h2 rfl (by decide) z13 w.heap.size (by go_size) _ _ rfl (Grow.empty (heap_alloc_new _ _) (Nat.le_refl _)) _ _ _ rfl _ rfl hsl (by simp;omega) (by decide) ?_);intro v1 w1 g1 gg1 go1;rw [List.nil_append] at g1;obtain ⟨_,_,_,rfl,hn1⟩:=g1.shape';clear hn1)
  go_ret
  obtain ⟨cells,k1,k2,k3⟩:=Grow.toRow z13 (by decide) g1 fun b hb=>Classical.byContradiction hb
  exact ⟨⟨_,cells,rfl,k1,k2,k3⟩,Below.grown (Below.alloc (Below.refl _ _) (Nat.le_refl _) _) gg1 (by simp) fun b hb=>by have:=Option.some.inj (show some w.heap.size=some b from hb);omega⟩
theorem zId (w:World) (a:Option Addr) (n c:Nat):(binOp .eql 32 (.slice a n c) (.slice none 0 0)).run Tryz.prog w= .ok (.bool a.isNone) w:=by
 simp only [binOp]
 simp [run_equal_slice_nil w _ _ a n c Tryz.underlying32]
theorem zEs (l:List Folder) (v:Value) (w:World) (S:Nat->Prop) (h:Sl 7 ZE S w v l) (hl0:l.length<=10000):
  Calls Tryz.prog 72 #[v] w (z0n 74 7 ZE S l w):=by
 obtain ⟨ix,hi,hz,h1,h2⟩:=info_parts (show (Tryz.prog.info? 74).map (fun i=>(i.zero,i.size,i.bytes))=some (some (.agg #[.string ⟨#[]⟩,.int .i64 0,.slice none 0 0,.slice none 0 0,.slice none 0 0,.slice none 0 0,.slice none 0 0]),7,144) from by kernel_rfl)
 obtain ⟨A,_,rfl,hl,hc,_,hs⟩:=h
 unfold maxLen at hc
 have q22:=zId
 rcases A with _ | ad
 ·obtain rfl:l=[]:=by
   cases l with
   | nil=>rfl
   | cons x r=>obtain ⟨_,_,_,h,_⟩:=hs 0 x rfl;cases h
  clear hs
  go_enter Tryz.func72,Tryz.ntmps72
  go_wp2
  go_ret
  exact ⟨⟨_,[],rfl,RowC.nil _,All2.nil,fun b hb=>by cases hb⟩,Below.refl _ _⟩
 ·have hsl:SlAt 7 ZE (z1e (fun b=>¬S b) (w.alloc (.cells #[] 74)) (.slice (some ⟨w.heap.size,0,none⟩) 0 0)) (w.alloc (.cells #[] 74)) (some ad) l:=
   hs.keep z0b (by decide) (fun b hb hl=>⟨⟨by simp;omega,fun h=>h hb,fun hb'=>by simp only [Value.ownBlock,Option.some.injEq] at hb';omega⟩,heap_alloc_old _ _ hl⟩)
  clear hs
  go_enter Tryz.func72,Tryz.ntmps72
  go_wp2_with (at_builtin;go_loud (refine yT (R:=ZE) _ rfl (.tmp 5) (.tmp 6) 32 rfl 74 ix _ 7 144 Tryz.underlying32 hi hz h1 h2 rfl (by decide) z0b w.heap.size (by go_size) _ _ rfl (Grow.empty (heap_alloc_new _ _) (Nat.le_refl _)) _ _ _ rfl _ rfl hsl (by simp;omega) (by decide) ?_);intro v1 w1 g1 gg1 go1;rw [List.nil_append] at g1;obtain ⟨_,_,_,rfl,hn1⟩:=g1.shape';clear hn1)
  go_ret
  obtain ⟨cells,k1,k2,k3⟩:=Grow.toRow z0b (by decide) g1 fun b hb=>Classical.byContradiction hb
  exact ⟨⟨_,cells,rfl,k1,k2,k3⟩,Below.grown (Below.alloc (Below.refl _ _) (Nat.le_refl _) _) gg1 (by simp) fun b hb=>by have:=Option.some.inj (show some w.heap.size=some b from hb);omega⟩
theorem zEt (w:World) (a:Option Addr) (n c:Nat):(binOp .eql 68 (.slice a n c) (.slice none 0 0)).run Tryz.prog w= .ok (.bool a.isNone) w:=by
 simp only [binOp]
 simp [run_equal_slice_nil w _ _ a n c Tryz.underlying68]
theorem zB9 (l:List Manifest) (v:Value) (w:World) (S:Nat->Prop) (h:Sl 8 ZQ S w v l) (hl0:l.length<=10000):
  Calls Tryz.prog 73 #[v] w (z0n 84 8 ZQ S l w):=by
 obtain ⟨ix,hi,hz,h1,h2⟩:=info_parts (show (Tryz.prog.info? 84).map (fun i=>(i.zero,i.size,i.bytes))=some (some (.agg #[.string ⟨#[]⟩,.int .i64 0,.slice none 0 0,.string ⟨#[]⟩,.slice none 0 0,.int .i64 0,.bool false,.string ⟨#[]⟩]),8,120) from by kernel_rfl)
 obtain ⟨A,_,rfl,hl,hc,_,hs⟩:=h
 unfold maxLen at hc
 have q22:=zEt
 rcases A with _ | ad
 ·obtain rfl:l=[]:=by
   cases l with
   | nil=>rfl
   | cons x r=>obtain ⟨_,_,_,h,_⟩:=hs 0 x rfl;cases h
  clear hs
  go_enter Tryz.func73,Tryz.ntmps73
  go_wp2
  go_ret
  exact ⟨⟨_,[],rfl,RowC.nil _,All2.nil,fun b hb=>by cases hb⟩,Below.refl _ _⟩
 ·have hsl:SlAt 8 ZQ (z1e (fun b=>¬S b) (w.alloc (.cells #[] 84)) (.slice (some ⟨w.heap.size,0,none⟩) 0 0)) (w.alloc (.cells #[] 84)) (some ad) l:=
   hs.keep z14 (by decide) (fun b hb hl=>⟨⟨by simp;omega,fun h=>h hb,fun hb'=>by simp only [Value.ownBlock,Option.some.injEq] at hb';omega⟩,heap_alloc_old _ _ hl⟩)
  clear hs
  go_enter Tryz.func73,Tryz.ntmps73
  go_wp2_with (at_builtin;go_loud (refine yT (R:=ZQ) _ rfl (.tmp 5) (.tmp 6) 68 rfl 84 ix _ 8 120 Tryz.underlying68 hi hz h1 h2 rfl (by decide) z14 w.heap.size (by go_size) _ _ rfl (Grow.empty (heap_alloc_new _ _) (Nat.le_refl _)) _ _ _ rfl _ rfl hsl (by simp;omega) (by decide) ?_);intro v1 w1 g1 gg1 go1;rw [List.nil_append] at g1;obtain ⟨_,_,_,rfl,hn1⟩:=g1.shape';clear hn1)
  go_ret
  obtain ⟨cells,k1,k2,k3⟩:=Grow.toRow z14 (by decide) g1 fun b hb=>Classical.byContradiction hb
  exact ⟨⟨_,cells,rfl,k1,k2,k3⟩,Below.grown (Below.alloc (Below.refl _ _) (Nat.le_refl _) _) gg1 (by simp) fun b hb=>by have:=Option.some.inj (show some w.heap.size=some b from hb);omega⟩
theorem zKg (w:World) (a:Option Addr) (n c:Nat):(binOp .eql 69 (.slice a n c) (.slice none 0 0)).run Tryz.prog w= .ok (.bool a.isNone) w:=by
 simp only [binOp]
 simp [run_equal_slice_nil w _ _ a n c Tryz.underlying69]
theorem zGe (l:List Epoch) (v:Value) (w:World) (S:Nat->Prop) (h:Sl 5 Y5 S w v l) (hl0:l.length<=10000):
  Calls Tryz.prog 74 #[v] w (z0n 130 5 Y5 S l w):=by
 obtain ⟨ix,hi,hz,h1,h2⟩:=info_parts (show (Tryz.prog.info? 130).map (fun i=>(i.zero,i.size,i.bytes))=some (some (.agg #[.int .i64 0,.int .i64 0,.int .i64 0,.slice none 0 0,.string ⟨#[]⟩]),5,64) from by kernel_rfl)
 obtain ⟨A,_,rfl,hl,hc,_,hs⟩:=h
 unfold maxLen at hc
 have q22:=zKg
 rcases A with _ | ad
 ·obtain rfl:l=[]:=by
   cases l with
   | nil=>rfl
   | cons x r=>obtain ⟨_,_,_,h,_⟩:=hs 0 x rfl;cases h
  clear hs
  go_enter Tryz.func74,Tryz.ntmps74
  go_wp2
  go_ret
  exact ⟨⟨_,[],rfl,RowC.nil _,All2.nil,fun b hb=>by cases hb⟩,Below.refl _ _⟩
 ·have hsl:SlAt 5 Y5 (z1e (fun b=>¬S b) (w.alloc (.cells #[] 130)) (.slice (some ⟨w.heap.size,0,none⟩) 0 0)) (w.alloc (.cells #[] 130)) (some ad) l:=
   hs.keep z2m (by decide) (fun b hb hl=>⟨⟨by simp;omega,fun h=>h hb,fun hb'=>by simp only [Value.ownBlock,Option.some.injEq] at hb';omega⟩,heap_alloc_old _ _ hl⟩)
  clear hs
  go_enter Tryz.func74,Tryz.ntmps74
  go_wp2_with (at_builtin;go_loud (refine yT (R:=Y5) _ rfl (.tmp 5) (.tmp 6) 69 rfl 130 ix _ 5 64 Tryz.underlying69 hi hz h1 h2 rfl (by decide) z2m w.heap.size (by go_size) _ _ rfl (Grow.empty (heap_alloc_new _ _) (Nat.le_refl _)) _ _ _ rfl _ rfl hsl (by simp;omega) (by decide) ?_);intro v1 w1 g1 gg1 go1;rw [List.nil_append] at g1;obtain ⟨_,_,_,rfl,hn1⟩:=g1.shape';clear hn1)
  go_ret
  obtain ⟨cells,k1,k2,k3⟩:=Grow.toRow z2m (by decide) g1 fun b hb=>Classical.byContradiction hb
  exact ⟨⟨_,cells,rfl,k1,k2,k3⟩,Below.grown (Below.alloc (Below.refl _ _) (Nat.le_refl _) _) gg1 (by simp) fun b hb=>by have:=Option.some.inj (show some w.heap.size=some b from hb);omega⟩
theorem zMd (w:World) (a:Option Addr) (n c:Nat):(binOp .eql 70 (.slice a n c) (.slice none 0 0)).run Tryz.prog w= .ok (.bool a.isNone) w:=by
 simp only [binOp]
 simp [run_equal_slice_nil w _ _ a n c Tryz.underlying70]
theorem zIe (l:List Item) (v:Value) (w:World) (S:Nat->Prop) (h:Sl 2 yW S w v l) (hl0:l.length<=10000):
  Calls Tryz.prog 75 #[v] w (z0n 78 2 yW S l w):=by
 obtain ⟨ix,hi,hz,h1,h2⟩:=info_parts (show (Tryz.prog.info? 78).map (fun i=>(i.zero,i.size,i.bytes))=some (some (.agg #[.string ⟨#[]⟩,.slice none 0 0]),2,40) from by kernel_rfl)
 obtain ⟨A,_,rfl,hl,hc,_,hs⟩:=h
 unfold maxLen at hc
 have q22:=zMd
 rcases A with _ | ad
 ·obtain rfl:l=[]:=by
   cases l with
   | nil=>rfl
   | cons x r=>obtain ⟨_,_,_,h,_⟩:=hs 0 x rfl;cases h
  clear hs
  go_enter Tryz.func75,Tryz.ntmps75
  go_wp2
  go_ret
  exact ⟨⟨_,[],rfl,RowC.nil _,All2.nil,fun b hb=>by cases hb⟩,Below.refl _ _⟩
 ·have hsl:SlAt 2 yW (z1e (fun b=>¬S b) (w.alloc (.cells #[] 78)) (.slice (some ⟨w.heap.size,0,none⟩) 0 0)) (w.alloc (.cells #[] 78)) (some ad) l:=
   hs.keep z1z (by decide) (fun b hb hl=>⟨⟨by simp;omega,fun h=>h hb,fun hb'=>by simp only [Value.ownBlock,Option.some.injEq] at hb';omega⟩,heap_alloc_old _ _ hl⟩)
  clear hs
  go_enter Tryz.func75,Tryz.ntmps75
  go_wp2_with (at_builtin;go_loud (refine yT (R:=yW) _ rfl (.tmp 5) (.tmp 6) 70 rfl 78 ix _ 2 40 Tryz.underlying70 hi hz h1 h2 rfl (by decide) z1z w.heap.size (by go_size) _ _ rfl (Grow.empty (heap_alloc_new _ _) (Nat.le_refl _)) _ _ _ rfl _ rfl hsl (by simp;omega) (by decide) ?_);intro v1 w1 g1 gg1 go1;rw [List.nil_append] at g1;obtain ⟨_,_,_,rfl,hn1⟩:=g1.shape';clear hn1)
  go_ret
  obtain ⟨cells,k1,k2,k3⟩:=Grow.toRow z1z (by decide) g1 fun b hb=>Classical.byContradiction hb
  exact ⟨⟨_,cells,rfl,k1,k2,k3⟩,Below.grown (Below.alloc (Below.refl _ _) (Nat.le_refl _) _) gg1 (by simp) fun b hb=>by have:=Option.some.inj (show some w.heap.size=some b from hb);omega⟩
theorem zMe (w:World) (a:Option Addr) (n c:Nat):(binOp .eql 71 (.slice a n c) (.slice none 0 0)).run Tryz.prog w= .ok (.bool a.isNone) w:=by
 simp only [binOp]
 simp [run_equal_slice_nil w _ _ a n c Tryz.underlying71]
theorem zIf (l:List Wrap) (v:Value) (w:World) (S:Nat->Prop) (h:Sl 3 Y1 S w v l) (hl0:l.length<=10000):
  Calls Tryz.prog 76 #[v] w (z0n 149 3 Y1 S l w):=by
 obtain ⟨ix,hi,hz,h1,h2⟩:=info_parts (show (Tryz.prog.info? 149).map (fun i=>(i.zero,i.size,i.bytes))=some (some (.agg #[.string ⟨#[]⟩,.int .i64 0,.bool false]),3,32) from by kernel_rfl)
 obtain ⟨A,_,rfl,hl,hc,_,hs⟩:=h
 unfold maxLen at hc
 have q22:=zMe
 rcases A with _ | ad
 ·obtain rfl:l=[]:=by
   cases l with
   | nil=>rfl
   | cons x r=>obtain ⟨_,_,_,h,_⟩:=hs 0 x rfl;cases h
  clear hs
  go_enter Tryz.func76,Tryz.ntmps76
  go_wp2
  go_ret
  exact ⟨⟨_,[],rfl,RowC.nil _,All2.nil,fun b hb=>by cases hb⟩,Below.refl _ _⟩
 ·have hsl:SlAt 3 Y1 (z1e (fun b=>¬S b) (w.alloc (.cells #[] 149)) (.slice (some ⟨w.heap.size,0,none⟩) 0 0)) (w.alloc (.cells #[] 149)) (some ad) l:=
   hs.keep z21 (by decide) (fun b hb hl=>⟨⟨by simp;omega,fun h=>h hb,fun hb'=>by simp only [Value.ownBlock,Option.some.injEq] at hb';omega⟩,heap_alloc_old _ _ hl⟩)
  clear hs
  go_enter Tryz.func76,Tryz.ntmps76
  go_wp2_with (at_builtin;go_loud (refine yT (R:=Y1) _ rfl (.tmp 5) (.tmp 6) 71 rfl 149 ix _ 3 32 Tryz.underlying71 hi hz h1 h2 rfl (by decide) z21 w.heap.size (by go_size) _ _ rfl (Grow.empty (heap_alloc_new _ _) (Nat.le_refl _)) _ _ _ rfl _ rfl hsl (by simp;omega) (by decide) ?_);intro v1 w1 g1 gg1 go1;rw [List.nil_append] at g1;obtain ⟨_,_,_,rfl,hn1⟩:=g1.shape';clear hn1)
  go_ret
  obtain ⟨cells,k1,k2,k3⟩:=Grow.toRow z21 (by decide) g1 fun b hb=>Classical.byContradiction hb
  exact ⟨⟨_,cells,rfl,k1,k2,k3⟩,Below.grown (Below.alloc (Below.refl _ _) (Nat.le_refl _) _) gg1 (by simp) fun b hb=>by have:=Option.some.inj (show some w.heap.size=some b from hb);omega⟩
theorem zMf (w:World) (a:Option Addr) (n c:Nat):(binOp .eql 72 (.slice a n c) (.slice none 0 0)).run Tryz.prog w= .ok (.bool a.isNone) w:=by
 simp only [binOp]
 simp [run_equal_slice_nil w _ _ a n c Tryz.underlying72]
theorem zIg (l:List Link) (v:Value) (w:World) (S:Nat->Prop) (h:Sl 3 YK S w v l) (hl0:l.length<=10000):
  Calls Tryz.prog 77 #[v] w (z0n 151 3 YK S l w):=by
 obtain ⟨ix,hi,hz,h1,h2⟩:=info_parts (show (Tryz.prog.info? 151).map (fun i=>(i.zero,i.size,i.bytes))=some (some (.agg #[.int .i64 0,.string ⟨#[]⟩,.int .i64 0]),3,32) from by kernel_rfl)
 obtain ⟨A,_,rfl,hl,hc,_,hs⟩:=h
 unfold maxLen at hc
 have q22:=zMf
 rcases A with _ | ad
 ·obtain rfl:l=[]:=by
   cases l with
   | nil=>rfl
   | cons x r=>obtain ⟨_,_,_,h,_⟩:=hs 0 x rfl;cases h
  clear hs
  go_enter Tryz.func77,Tryz.ntmps77
  go_wp2
  go_ret
  exact ⟨⟨_,[],rfl,RowC.nil _,All2.nil,fun b hb=>by cases hb⟩,Below.refl _ _⟩
 ·have hsl:SlAt 3 YK (z1e (fun b=>¬S b) (w.alloc (.cells #[] 151)) (.slice (some ⟨w.heap.size,0,none⟩) 0 0)) (w.alloc (.cells #[] 151)) (some ad) l:=
   hs.keep z23 (by decide) (fun b hb hl=>⟨⟨by simp;omega,fun h=>h hb,fun hb'=>by simp only [Value.ownBlock,Option.some.injEq] at hb';omega⟩,heap_alloc_old _ _ hl⟩)
  clear hs
  go_enter Tryz.func77,Tryz.ntmps77
  go_wp2_with (at_builtin;go_loud (refine yT (R:=YK) _ rfl (.tmp 5) (.tmp 6) 72 rfl 151 ix _ 3 32 Tryz.underlying72 hi hz h1 h2 rfl (by decide) z23 w.heap.size (by go_size) _ _ rfl (Grow.empty (heap_alloc_new _ _) (Nat.le_refl _)) _ _ _ rfl _ rfl hsl (by simp;omega) (by decide) ?_);intro v1 w1 g1 gg1 go1;rw [List.nil_append] at g1;obtain ⟨_,_,_,rfl,hn1⟩:=g1.shape';clear hn1)
  go_ret
  obtain ⟨cells,k1,k2,k3⟩:=Grow.toRow z23 (by decide) g1 fun b hb=>Classical.byContradiction hb
  exact ⟨⟨_,cells,rfl,k1,k2,k3⟩,Below.grown (Below.alloc (Below.refl _ _) (Nat.le_refl _) _) gg1 (by simp) fun b hb=>by have:=Option.some.inj (show some w.heap.size=some b from hb);omega⟩
theorem zIh (w:World) (a:Option Addr) (n c:Nat):(binOp .eql 46 (.slice a n c) (.slice none 0 0)).run Tryz.prog w= .ok (.bool a.isNone) w:=by
 simp only [binOp]
 simp [run_equal_slice_nil w _ _ a n c Tryz.underlying46]
theorem z7x (l:List Member) (v:Value) (w:World) (S:Nat->Prop) (h:Sl 2 zV S w v l) (hl0:l.length<=10000):
  Calls Tryz.prog 78 #[v] w (z0n 87 2 zV S l w):=by
 obtain ⟨ix,hi,hz,h1,h2⟩:=info_parts (show (Tryz.prog.info? 87).map (fun i=>(i.zero,i.size,i.bytes))=some (some (.agg #[.string ⟨#[]⟩,.int .i64 0]),2,24) from by kernel_rfl)
 obtain ⟨A,_,rfl,hl,hc,_,hs⟩:=h
 unfold maxLen at hc
 have q22:=zIh
 rcases A with _ | ad
 ·obtain rfl:l=[]:=by
   cases l with
   | nil=>rfl
   | cons x r=>obtain ⟨_,_,_,h,_⟩:=hs 0 x rfl;cases h
  clear hs
  go_enter Tryz.func78,Tryz.ntmps78
  go_wp2
  go_ret
  exact ⟨⟨_,[],rfl,RowC.nil _,All2.nil,fun b hb=>by cases hb⟩,Below.refl _ _⟩
 ·have hsl:SlAt 2 zV (z1e (fun b=>¬S b) (w.alloc (.cells #[] 87)) (.slice (some ⟨w.heap.size,0,none⟩) 0 0)) (w.alloc (.cells #[] 87)) (some ad) l:=
   hs.keep Z8 (by decide) (fun b hb hl=>⟨⟨by simp;omega,fun h=>h hb,fun hb'=>by simp only [Value.ownBlock,Option.some.injEq] at hb';omega⟩,heap_alloc_old _ _ hl⟩)
  clear hs
  go_enter Tryz.func78,Tryz.ntmps78
  go_wp2_with (at_builtin;go_loud (refine yT (R:=zV) _ rfl (.tmp 5) (.tmp 6) 46 rfl 87 ix _ 2 24 Tryz.underlying46 hi hz h1 h2 rfl (by decide) Z8 w.heap.size (by go_size) _ _ rfl (Grow.empty (heap_alloc_new _ _) (Nat.le_refl _)) _ _ _ rfl _ rfl hsl (by simp;omega) (by decide) ?_);intro v1 w1 g1 gg1 go1;rw [List.nil_append] at g1;obtain ⟨_,_,_,rfl,hn1⟩:=g1.shape';clear hn1)
  go_ret
  obtain ⟨cells,k1,k2,k3⟩:=Grow.toRow Z8 (by decide) g1 fun b hb=>Classical.byContradiction hb
  exact ⟨⟨_,cells,rfl,k1,k2,k3⟩,Below.grown (Below.alloc (Below.refl _ _) (Nat.le_refl _) _) gg1 (by simp) fun b hb=>by have:=Option.some.inj (show some w.heap.size=some b from hb);omega⟩
theorem zOx (w:World) (a:Option Addr) (n c:Nat):(binOp .eql 121 (.slice a n c) (.slice none 0 0)).run Tryz.prog w= .ok (.bool a.isNone) w:=by
 simp only [binOp]
 simp [run_equal_slice_nil w _ _ a n c Tryz.underlying121]
theorem zMg (l:List At) (v:Value) (w:World) (S:Nat->Prop) (h:Sl 2 rAt S w v l) (hl0:l.length<=10000):
  Calls Tryz.prog 79 #[v] w (z0n 124 2 rAt S l w):=by
 obtain ⟨ix,hi,hz,h1,h2⟩:=info_parts (show (Tryz.prog.info? 124).map (fun i=>(i.zero,i.size,i.bytes))=some (some (.agg #[.string ⟨#[]⟩,.int .i64 0]),2,24) from by kernel_rfl)
 obtain ⟨A,_,rfl,hl,hc,_,hs⟩:=h
 unfold maxLen at hc
 have q22:=zOx
 rcases A with _ | ad
 ·obtain rfl:l=[]:=by
   cases l with
   | nil=>rfl
   | cons x r=>obtain ⟨_,_,_,h,_⟩:=hs 0 x rfl;cases h
  clear hs
  go_enter Tryz.func79,Tryz.ntmps79
  go_wp2
  go_ret
  exact ⟨⟨_,[],rfl,RowC.nil _,All2.nil,fun b hb=>by cases hb⟩,Below.refl _ _⟩
 ·have hsl:SlAt 2 rAt (z1e (fun b=>¬S b) (w.alloc (.cells #[] 124)) (.slice (some ⟨w.heap.size,0,none⟩) 0 0)) (w.alloc (.cells #[] 124)) (some ad) l:=
   hs.keep ZR (by decide) (fun b hb hl=>⟨⟨by simp;omega,fun h=>h hb,fun hb'=>by simp only [Value.ownBlock,Option.some.injEq] at hb';omega⟩,heap_alloc_old _ _ hl⟩)
  clear hs
  go_enter Tryz.func79,Tryz.ntmps79
  go_wp2_with (at_builtin;go_loud (refine yT (R:=rAt) _ rfl (.tmp 5) (.tmp 6) 121 rfl 124 ix _ 2 24 Tryz.underlying121 hi hz h1 h2 rfl (by decide) ZR w.heap.size (by go_size) _ _ rfl (Grow.empty (heap_alloc_new _ _) (Nat.le_refl _)) _ _ _ rfl _ rfl hsl (by simp;omega) (by decide) ?_);intro v1 w1 g1 gg1 go1;rw [List.nil_append] at g1;obtain ⟨_,_,_,rfl,hn1⟩:=g1.shape';clear hn1)
  go_ret
  obtain ⟨cells,k1,k2,k3⟩:=Grow.toRow ZR (by decide) g1 fun b hb=>Classical.byContradiction hb
  exact ⟨⟨_,cells,rfl,k1,k2,k3⟩,Below.grown (Below.alloc (Below.refl _ _) (Nat.le_refl _) _) gg1 (by simp) fun b hb=>by have:=Option.some.inj (show some w.heap.size=some b from hb);omega⟩
theorem zGf (w:World) (a:Option Addr) (n c:Nat):(binOp .eql 76 (.slice a n c) (.slice none 0 0)).run Tryz.prog w= .ok (.bool a.isNone) w:=by
 simp only [binOp]
 simp [run_equal_slice_nil w _ _ a n c Tryz.underlying76]
theorem zDv (l:List Version) (v:Value) (w:World) (S:Nat->Prop) (h:Sl 4 yC S w v l) (hl0:l.length<=10000):
  Calls Tryz.prog 80 #[v] w (z0n 80 4 yC S l w):=by
 obtain ⟨ix,hi,hz,h1,h2⟩:=info_parts (show (Tryz.prog.info? 80).map (fun i=>(i.zero,i.size,i.bytes))=some (some (.agg #[.int .i64 0,.bool false,.string ⟨#[]⟩,.slice none 0 0]),4,56) from by kernel_rfl)
 obtain ⟨A,_,rfl,hl,hc,_,hs⟩:=h
 unfold maxLen at hc
 have q22:=zGf
 rcases A with _ | ad
 ·obtain rfl:l=[]:=by
   cases l with
   | nil=>rfl
   | cons x r=>obtain ⟨_,_,_,h,_⟩:=hs 0 x rfl;cases h
  clear hs
  go_enter Tryz.func80,Tryz.ntmps80
  go_wp2
  go_ret
  exact ⟨⟨_,[],rfl,RowC.nil _,All2.nil,fun b hb=>by cases hb⟩,Below.refl _ _⟩
 ·have hsl:SlAt 4 yC (z1e (fun b=>¬S b) (w.alloc (.cells #[] 80)) (.slice (some ⟨w.heap.size,0,none⟩) 0 0)) (w.alloc (.cells #[] 80)) (some ad) l:=
   hs.keep z2g (by decide) (fun b hb hl=>⟨⟨by simp;omega,fun h=>h hb,fun hb'=>by simp only [Value.ownBlock,Option.some.injEq] at hb';omega⟩,heap_alloc_old _ _ hl⟩)
  clear hs
  go_enter Tryz.func80,Tryz.ntmps80
  go_wp2_with (at_builtin;go_loud (refine yT (R:=yC) _ rfl (.tmp 5) (.tmp 6) 76 rfl 80 ix _ 4 56 Tryz.underlying76 hi hz h1 h2 rfl (by decide) z2g w.heap.size (by go_size) _ _ rfl (Grow.empty (heap_alloc_new _ _) (Nat.le_refl _)) _ _ _ rfl _ rfl hsl (by simp;omega) (by decide) ?_);intro v1 w1 g1 gg1 go1;rw [List.nil_append] at g1;obtain ⟨_,_,_,rfl,hn1⟩:=g1.shape';clear hn1)
  go_ret
  obtain ⟨cells,k1,k2,k3⟩:=Grow.toRow z2g (by decide) g1 fun b hb=>Classical.byContradiction hb
  exact ⟨⟨_,cells,rfl,k1,k2,k3⟩,Below.grown (Below.alloc (Below.refl _ _) (Nat.le_refl _) _) gg1 (by simp) fun b hb=>by have:=Option.some.inj (show some w.heap.size=some b from hb);omega⟩
end
section
open Go.RowKit Go.Deep Go.Lib
theorem z5u {P:Program} (w:World) (dT sT ty elem:TypeId) (sz:Nat) (b o dLen dCap:Nat) (a:Addr) (sLen sCap:Nat) (cs:List Value)
  (hu:P.underlying dT=some (.slice elem)) (hs:(P.info? elem).map (·.size)=some sz) (hn:cs.length=Nat.min sLen dLen*sz)
  (hsrc:∀j v,cs[j]? =some v->w.cell? (a.add j)=some v) (hc:∀j,j < cs.length->(w.cell? ⟨b,o+j,none⟩).isSome=true) (hf:∀j,j < cs.length->w.frozen? ⟨b,o+j,none⟩=false) (h1:∀v∈cs,v.oneCell'=true):
  (Builtin.copy_ #[dT,sT] ty #[.slice (some ⟨b,o,none⟩) dLen dCap,.slice (some a) sLen sCap]).run P w= .ok (goInt (Nat.min sLen dLen)) (w.setCells b o cs):=by
 have hl:=run_loadCells_list (P:=P) w a cs hsrc
 have hst:=run_storeCells_cells (P:=P) b o cs 0 w (by simpa using hc) (by simpa using hf) h1
 cases hq:P.info? elem with
 | none=>simp [hq] at hs
 | some i=>
  have hi:i.size=sz:=by simpa [hq] using hs
  rw [hn] at hl
  simp [Builtin.copy_,run_underlying hu,Builtin.lenOf,Builtin.firstCells,sizeOf,typeInfo,hq,hi,hl,hst]
theorem zAm {P:Program} {ops:Array Oper} {o:Oper} {a:Act} {w:World} {K:Act->World->Prop} {Q:Exit->Act->World->Prop} {E:Prop}
  (hg:o.guard=none) (d x:Operand) (dT sT:TypeId) (hop:o.op=Op.call { callee:=Callee.builtin Builtin.copy,args:=#[d,x],argTypes:=#[dT,sT] })
  (v u:Value) (hd:a.eval d=v) (hx:a.eval x=u) {v':Value} {w':World} (hr:(Builtin.copy_ #[dT,sT] o.type #[v,u]).run P w= .ok v' w') (hK:K (a.put o.dst v') w'):
  if Region.wanted o (yielded ops a.tmps)=true then Oper.wp P o a w K Q else E:=by
 have hw:Region.wanted o (yielded ops a.tmps)=true:=by simp [Region.wanted,hg]
 rw [if_pos hw]
 unfold Oper.wp
 simp [execOp,hop,resolve,invoke,builtin,hd,hx,hr,Result.andThen]
 exact hK
section
variable {e:TypeId} {sz:Nat}
theorem RowC.of_cells {w:World} {g off cap:Nat} {l:List (List Value)} {cur:Array Value} (hall:∀x∈l,x.length=sz/\∀u∈x,u.oneCell'=true) (hg:w.heap[g]? =some (.cells cur e (0,0))) (h1:l.length<=cap) (h2:cap<=maxLen) (h3:off+cap*sz<=cur.size)
  (hc:∀q u,l.flatten[q]? =some u->w.cell? ⟨g,off+q,none⟩=some u):RowC e sz w (.slice (some ⟨g,off,none⟩) l.length cap) l:=
 ⟨hall,.inr ⟨g,off,cap,cur,rfl,hg,h1,h2,h3,fun q u hq=>by have:=hc q u hq;rwa [cell_of_row _ g _ _ _ (0,0) hg] at this⟩⟩
theorem zF6 {l:List (List Value)} {x:List Value} {i:Nat} (hi:i<=l.length) (hl:∀y∈l,y.length=sz) (hx:x.length=sz) {q:Nat} {u:Value} (h:(l.take i++x :: l.drop i).flatten[q]? =some u):
  (q < i*sz/\l.flatten[q]? =some u)\/(∃j,q=i*sz+j/\x[j]? =some u)\/∃j,q=i*sz+sz+j/\(l.flatten.drop (i*sz))[j]? =some u:=by
 have h1:(l.take i).flatten.length=i*sz:=by
  rw [z47 fun y hy=>hl y (List.mem_of_mem_take hy),List.length_take,Nat.min_eq_left hi]
 have h2:l.flatten=(l.take i).flatten++(l.drop i).flatten:=by rw [<-List.flatten_append,List.take_append_drop]
 have h3:l.flatten.drop (i*sz)=(l.drop i).flatten:=by rw [h2,<-h1,List.drop_left]
 rw [List.flatten_append,List.flatten_cons] at h
 rcases Nat.lt_or_ge q (i*sz) with a | a
 ·left
  rw [List.getElem?_append_left (by omega)] at h
  exact ⟨a,by rw [h2,List.getElem?_append_left (by omega)];exact h⟩
 ·rw [List.getElem?_append_right (by omega),h1] at h
  rcases Nat.lt_or_ge (q - i*sz) sz with b | b
  ·rw [List.getElem?_append_left (by omega)] at h
   exact .inr (.inl ⟨q - i*sz,by omega,h⟩)
  ·rw [List.getElem?_append_right (by omega),hx] at h
   exact .inr (.inr ⟨q - i*sz - sz,by omega,by rw [h3];exact h⟩)
theorem zH8 {l:List (List Value)} {x:List Value} {i:Nat} {p:List Value->Prop} (hl:∀y∈l,p y) (hx:p x):∀y∈l.take i++x :: l.drop i,p y:=fun y hy=>by
 rcases List.mem_append.1 hy with h | h
 ·exact hl y (List.mem_of_mem_take h)
 ·rcases List.mem_cons.1 h with rfl | h
  ·exact hx
  ·exact hl y (List.mem_of_mem_drop h)
theorem z95 (b:Nat) (vs:List Value) (o:Nat) (w:World) (h:∀j,j < vs.length->(w.cell? ⟨b,o+j,none⟩).isSome=true) (k:Nat) (hk:(w.cell? ⟨b,k,none⟩).isSome=true):((w.setCells b o vs).cell? ⟨b,k,none⟩).isSome=true:=by
 by_cases hin:o<=k/\k < o+vs.length
 ·have:=World.cell?_setCells_in b vs o w h (k - o) (by omega)
  rw [show o+(k - o)=k by omega] at this
  rw [this];rfl
 ·rw [World.cell?_setCells_out b vs o w ⟨b,k,none⟩ (fun _ _=>by show k < o\/o+vs.length<=k;omega)]
  exact hk
theorem z8l {b o:Nat} {vs:List Value} {w:World} (h:∀j,j < vs.length->(w.cell? ⟨b,o+j,none⟩).isSome=true) {j:Nat} {u:Value} (hj:vs[j]? =some u):(w.setCells b o vs).cell? ⟨b,o+j,none⟩=some u:=by
 obtain ⟨hl,rfl⟩:=List.getElem?_eq_some_iff.1 hj
 exact World.cell?_setCells_in b vs o w h j hl
theorem z4f {b o k:Nat} {vs:List Value} {w:World} (h:k < o\/o+vs.length<=k):(w.setCells b o vs).cell? ⟨b,k,none⟩=w.cell? ⟨b,k,none⟩:=World.cell?_setCells_out b vs o w ⟨b,k,none⟩ fun _ _=>h
end
theorem z2e {b:Nat} {T:TypeId}:∀(vs:List Value) (w:World) (o:Nat) (cs:Array Value),w.heap[b]? =some (.cells cs T (0,0))->∃cs',(w.setCells b o vs).heap[b]? =some (.cells cs' T (0,0))/\cs'.size=cs.size
 | [],w,o,cs,h=>⟨cs,h,rfl⟩
 | v :: r,w,o,cs,h=>by
  obtain ⟨cs',h1,h2⟩:=z2e r (w.setCell ⟨b,o,none⟩ v) (o+1) _ (zI v h rfl)
  exact ⟨cs',h1,by rw [h2];simp⟩
def z8m (l:List (List Value)) (i:Nat) (x:List Value) (v:Value) (w:World) (e:Ending) (w':World):Prop:=
 ∃v',e= .returned v'/\RowC 149 3 w' v' (l.take i++x :: l.drop i)/\ButB (fun z=>v.ownBlock=some z) w w'/\(v'.ownBlock=v.ownBlock\/∃k,v'.ownBlock=some k/\w.heap.size<=k)
set_option maxHeartbeats 4000000 in
theorem zIp (l:List (List Value)) (v:Value) (w:World) (x:List Value) (hx:x.length=3) (hx1:∀u∈x,u.oneCell'=true) (N c:Nat) (hN:w.heap[N]? =some (.cells x.toArray 149 (0,0))) (h:RowC 149 3 w v l) (hl:l.length<=9999):
  Calls Tryz.prog 162 #[v,.int .i64 l.length,.slice (some ⟨N,0,none⟩) 1 c] w (z8m l l.length x v w):=by
 obtain ⟨iWrap,hiWrap,hzWrap,h1Wrap,h2Wrap⟩:=info_parts (show (Tryz.prog.info? 149).map (fun i=>(i.zero,i.size,i.bytes))=some (some (.agg #[.string ⟨#[]⟩,.int .i64 0,.bool false]),3,32) from by kernel_rfl)
 have HR:=zh h
 obtain ⟨A,cp,hv,_⟩:=h.shape
 have hcap:l.length<=cp/\(cp:Int)<=9223372036854775807:=by
  rcases h.2 with ⟨e,h0⟩ | ⟨g,off,cap,cur,e,_,h1,h2,_⟩
  ·rw [hv] at e
   simp only [Value.slice.injEq] at e
   omega
  ·rw [hv] at e
   simp only [Value.slice.injEq] at e
   unfold maxLen at h2
   omega
 subst hv
 obtain ⟨_,_⟩:=hcap
 have HE:=zh (show ∀c',(Value.slice A l.length cp).ownBlock=(Value.slice A l.length c').ownBlock from fun c'=>by cases A<;>rfl)
 clear h
 go_enter Tryz.func162,Tryz.ntmps162
 go_wp2_with (at_builtin;refine zFu _ x rfl (.tmp 23) (.tmp 24) 71 rfl iWrap _ 32 Tryz.underlying71 hiWrap hzWrap h1Wrap h2Wrap rfl (by decide) (by decide) (.slice A l.length cp) l rfl N c rfl HR.out (by omega) hx hx1 hN ?_;intro v' w' r1 r2 r3;have H1:=zh r1;have H2:=zh r2;have H3:=zh r3;clear r1 r2 r3)
 all_goals
  go_ret
  first
   | exact ⟨v',rfl,by simpa using H1.out,ButB.row H2.out (Below.refl _ _),H3.out⟩
   | exact ⟨v',rfl,by simpa using H1.out,ButB.row (by rw [<-HE.out l.length];exact H2.out) (Below.refl _ _),by rw [<-HE.out l.length];exact H3.out⟩
set_option maxHeartbeats 8000000 in
theorem zGk (l:List (List Value)) (g off cap:Nat) (w:World) (i:Nat) (hi:i < l.length) (x:List Value) (hx:x.length=3) (hx1:∀u∈x,u.oneCell'=true) (N c:Nat) (hN:w.heap[N]? =some (.cells x.toArray 149 (0,0))) (h:RowC 149 3 w (.slice (some ⟨g,off,none⟩) l.length cap) l) (hl:l.length<=9999) (hNg:N≠g) (hroom:l.length+1<=cap):
  Calls Tryz.prog 162 #[.slice (some ⟨g,off,none⟩) l.length cap,.int .i64 i,.slice (some ⟨N,0,none⟩) 1 c] w (z8m l i x (.slice (some ⟨g,off,none⟩) l.length cap) w):=by
 obtain ⟨_,hiWrap,_,h1Wrap,_⟩:=info_parts (show (Tryz.prog.info? 149).map (fun i=>(i.zero,i.size,i.bytes))=some (some (.agg #[.string ⟨#[]⟩,.int .i64 0,.bool false]),3,32) from by kernel_rfl)
 have hall:=h.1
 obtain ⟨cur,hg,hcm,hoc,hcell⟩:∃cur,w.heap[g]? =some (.cells cur 149 (0,0))/\cap<=maxLen/\off+cap*3<=cur.size/\∀q u,l.flatten[q]? =some u->cur[off+q]? =some u:=by
  rcases h.2 with ⟨e,_⟩ | ⟨g',off',cap',cur,e,h0,h1,h2,h3,h4⟩
  ·simp at e
  ·simp only [Value.slice.injEq,Option.some.injEq,Addr.mk.injEq] at e
   obtain ⟨⟨rfl,rfl,_⟩,_,rfl⟩:=e
   exact ⟨cur,h0,h2,h3,h4⟩
 unfold maxLen at hcm
 have hfl:l.flatten.length=l.length*3:=z47 fun y hy=>(hall y hy).1
 have hw0:∀q u,l.flatten[q]? =some u->w.cell? ⟨g,off+q,none⟩=some u:=fun q u hq=>by rw [cell_of_row _ g _ _ _ (0,0) hg];exact hcell q u hq
 have hsp:∀k,k < off+cap*3->(w.cell? ⟨g,k,none⟩).isSome=true:=fun k hk=>by
  rw [cell_of_row _ g _ _ _ (0,0) hg,Array.getElem?_eq_getElem (by omega)]
  rfl
 have hfz:=(zD hg).2
 have hsz:(Tryz.prog.info? 149).map (·.size)=some 3:=by rw [hiWrap];simp [h1Wrap]
 have hdl:(l.flatten.drop (i*3)).length=(l.length - i)*3:=by rw [List.length_drop,hfl,Nat.sub_mul]
 have hone:∀u∈l.flatten,u.oneCell'=true:=fun u hu=>by
  obtain ⟨y,hy,hu⟩:=List.mem_flatten.1 hu
  exact (hall y hy).2 u hu
 have hin:i<=l.length:=by omega
 have hov:∀lb cb,(callFunc 188 #[.slice (some ⟨N,0,none⟩) 1 c,.slice (some ⟨g,off+(i+1)*3,none⟩) lb cb]).run Tryz.prog w= .ok (.value (.bool false)) w:=fun lb cb=>by
  rw [run_callFunc_extern Tryz.func188 (by kernel_rfl) (by kernel_rfl) (by kernel_rfl) (e:=Extern.SlicesOverlaps.overlaps #[71,71] #[4]) (by kernel_rfl),
   Lib.run_overlaps_apart w 71 4 149 Tryz.underlying71 3 (fun w=>by kernel_rfl) ⟨N,0,none⟩ ⟨g,off+(i+1)*3,none⟩ 1 c lb cb hNg 149 149 x.toArray.size cur.size (by unfold World.shape?;rw [hN]) (by unfold World.shape?;rw [hg]) (by omega) ((zD hN).2 0) ((zD hN).2 _)]
  rfl
 have hcp1:∀ty dc sc,(Builtin.copy_ #[71,71] ty #[.slice (some ⟨g,off+(i+1)*3,none⟩) (l.length+1 - (i+1)) dc,.slice (some ⟨g,off+i*3,none⟩) (l.length+1 - i) sc]).run Tryz.prog w.drew= .ok (goInt (Nat.min (l.length+1 - i) (l.length+1 - (i+1)))) (w.drew.setCells g (off+(i+1)*3) (l.flatten.drop (i*3))):=fun ty dc sc=>
  z5u w.drew _ _ ty 149 3 g (off+(i+1)*3) (l.length+1 - (i+1)) dc ⟨g,off+i*3,none⟩ (l.length+1 - i) sc (l.flatten.drop (i*3)) Tryz.underlying71 hsz (by rw [hdl];simp only [Nat.min_def];split<;>omega)
   (fun j v hj=>by rw [Addr.add_lit,Nat.add_assoc];exact hw0 (i*3+j) v (by rwa [List.getElem?_drop] at hj))
   (fun j hj=>hsp _ (by omega)) (fun j hj=>hfz _) (fun v hv=>hone v (List.mem_of_mem_drop hv))
 obtain ⟨W1,hW1⟩:∃W1,W1=w.drew.setCells g (off+(i+1)*3) (l.flatten.drop (i*3)):=⟨_,rfl⟩
 have hd1:∀j,j < (l.flatten.drop (i*3)).length->(w.drew.cell? ⟨g,off+(i+1)*3+j,none⟩).isSome=true:=fun j hj=>hsp _ (by omega)
 have hsp1:∀k,k < off+cap*3->(W1.cell? ⟨g,k,none⟩).isSome=true:=fun k hk=>by
  rw [hW1]
  exact z95 g _ _ _ hd1 _ (hsp k hk)
 have hcp2:∀ty,(Builtin.copy_ #[71,71] ty #[.slice (some ⟨g,off+i*3,none⟩) (l.length+1 - i) (cap - i),.slice (some ⟨N,0,none⟩) 1 c]).run Tryz.prog W1= .ok (goInt (Nat.min 1 (l.length+1 - i))) (W1.setCells g (off+i*3) x):=fun ty=>
  z5u W1 _ _ ty 149 3 g (off+i*3) (l.length+1 - i) (cap - i) ⟨N,0,none⟩ 1 c x Tryz.underlying71 hsz (by rw [hx];simp only [Nat.min_def];split<;>omega)
   (fun j v hj=>by
    rw [Addr.add_lit,hW1,World.cell?_setCells_out g _ _ _ _ (fun e _=>absurd e hNg)]
    show w.cell? _=_
    rw [cell_of_row _ N _ _ _ (0,0) hN]
    simpa using hj)
   (fun j hj=>hsp1 _ (by omega)) (fun j hj=>by rw [hW1,World.frozen?_setCells];exact hfz _) hx1
 rw [<-hW1] at hcp1
 have HCP1:=zh hcp1
 have HCP2:=zh hcp2
 have hs1:=z10 g (l.flatten.drop (i*3)) w.drew (off+(i+1)*3)
 have hs2:=z10 g x W1 (off+i*3)
 rw [<-hW1] at hs1
 have hd2:∀j,j < x.length->(W1.cell? ⟨g,off+i*3+j,none⟩).isSome=true:=fun j hj=>hsp1 _ (by omega)
 have HEND:=zh (show z8m l i x (.slice (some ⟨g,off,none⟩) l.length cap) w (.returned (.slice (some ⟨g,off,none⟩) (l.length+1) cap)) (W1.setCells g (off+i*3) x) from by
  have hlen:(l.take i++x :: l.drop i).length=l.length+1:=by simp;omega
  obtain ⟨cur1,c1,c2⟩:=z2e (l.flatten.drop (i*3)) w.drew (off+(i+1)*3) cur hg
  rw [<-hW1] at c1
  obtain ⟨_,c3,c4⟩:=z2e x W1 (off+i*3) cur1 c1
  refine ⟨_,rfl,?_,⟨hs2.1.trans hs1.1,hs2.2.1.trans hs1.2.1,hs2.2.2.1.trans hs1.2.2.1,by rw [hs2.2.2.2.1,hs1.2.2.2.1];exact Nat.le_refl _,fun b _ hb=>?_⟩,.inl rfl⟩
  ·rw [<-hlen]
   refine RowC.of_cells (zH8 hall ⟨hx,hx1⟩) c3 (by omega) (by unfold maxLen;omega) (by rw [c4,c2];exact hoc) fun q u hq=>?_
   rcases zF6 hin (fun y hy=>(hall y hy).1) hx hq with ⟨a1,a2⟩ | ⟨j,rfl,a2⟩ | ⟨j,rfl,a2⟩
   ·rw [z4f (.inl (by omega)),hW1,z4f (.inl (by omega))]
    exact hw0 q u a2
   ·rw [<-Nat.add_assoc]
    exact z8l hd2 a2
   ·rw [z4f (.inr (by omega)),hW1,show off+(i*3+3+j)=off+(i+1)*3+j by omega]
    exact z8l hd1 a2
  ·have hbg:b≠g:=fun e=>hb (by rw [e];rfl)
   rw [hs2.2.2.2.2 b hbg,hs1.2.2.2.2 b hbg]
   rfl)
 have hw1:IntKind.i64.wrap ((i:Int)+1)=(i:Int)+1:=by rw [IntKind.wrap_i64];omega
 have hb1:(0:Int)<=(i:Int)+1:=by omega
 have htn:((i:Int)+1).toNat=i+1:=by omega
 have hb2:¬(cap=i+1):=by omega
 have hb3:(i:Int)<=(l.length:Int)+1:=by omega
 have hb5:(i:Int)+1<=(l.length:Int)+1:=by omega
 have hb4:¬(cap=i):=by omega
 clear hcp1 hW1 hd1 hd2 hs1 hs2 hsp1
 go_enter Tryz.func162,Tryz.ntmps162
 go_wp2_with (simp only [hov])
 go_region_law (refine zAm rfl (.tmp 73) (.tmp 76) 71 71 rfl (.slice (some ⟨g,off+(i+1)*3,none⟩) (l.length+1 - (i+1)) (cap - (i+1))) (.slice (some ⟨g,off+i*3,none⟩) (l.length+1 - i) (cap - i)) (by simp [Act.eval,Act.put]) (by simp [Act.eval,Act.put]) (HCP1.out _ _ _) ?_)
 go_wp2
 go_ret
 exact HEND.out
set_option maxHeartbeats 8000000 in
theorem zGl (l:List (List Value)) (g off cap:Nat) (w:World) (i:Nat) (hi:i < l.length) (x:List Value) (hx:x.length=3) (hx1:∀u∈x,u.oneCell'=true) (N c:Nat) (hN:w.heap[N]? =some (.cells x.toArray 149 (0,0))) (h:RowC 149 3 w (.slice (some ⟨g,off,none⟩) l.length cap) l) (hl:l.length<=9999) (hroom:cap < l.length+1):
  Calls Tryz.prog 162 #[.slice (some ⟨g,off,none⟩) l.length cap,.int .i64 i,.slice (some ⟨N,0,none⟩) 1 c] w (z8m l i x (.slice (some ⟨g,off,none⟩) l.length cap) w):=by
 obtain ⟨iWrap,hiWrap,hzWrap,h1Wrap,h2Wrap⟩:=info_parts (show (Tryz.prog.info? 149).map (fun i=>(i.zero,i.size,i.bytes))=some (some (.agg #[.string ⟨#[]⟩,.int .i64 0,.bool false]),3,32) from by kernel_rfl)
 have hall:=h.1
 obtain ⟨cur,hg,_,_,_,hcell⟩:∃cur,w.heap[g]? =some (.cells cur 149 (0,0))/\l.length<=cap/\cap<=maxLen/\off+cap*3<=cur.size/\∀q u,l.flatten[q]? =some u->cur[off+q]? =some u:=by
  rcases h.2 with ⟨e,_⟩ | ⟨g',off',cap',cur,e,h0,h1,h2,h3,h4⟩
  ·simp at e
  ·simp only [Value.slice.injEq,Option.some.injEq,Addr.mk.injEq] at e
   obtain ⟨⟨rfl,rfl,_⟩,_,rfl⟩:=e
   exact ⟨cur,h0,h1,h2,h3,h4⟩
 obtain rfl:cap=l.length:=by omega
 have hfl:l.flatten.length=l.length*3:=z47 fun y hy=>(hall y hy).1
 have hw0:∀q u,l.flatten[q]? =some u->w.cell? ⟨g,off+q,none⟩=some u:=fun q u hq=>by rw [cell_of_row _ g _ _ _ (0,0) hg];exact hcell q u hq
 have hsz:(Tryz.prog.info? 149).map (·.size)=some 3:=by rw [hiWrap];simp [h1Wrap]
 have hdl:(l.flatten.drop (i*3)).length=(l.length - i)*3:=by rw [List.length_drop,hfl,Nat.sub_mul]
 have htl:(l.flatten.take (i*3)).length=i*3:=by rw [List.length_take,hfl];omega
 have hone:∀u∈l.flatten,u.oneCell'=true:=fun u hu=>by
  obtain ⟨y,hy,hu⟩:=List.mem_flatten.1 hu
  exact (hall y hy).2 u hu
 have hin:i<=l.length:=by omega
 have hgw:g < w.heap.size:=zM hg
 have hNw:N < w.heap.size:=zM hN
 have hkk:(l.length:Int)+1 - (i:Int)=((l.length+1 - i:Nat):Int):=by omega
 have hik:i+(l.length+1 - i)=l.length+1:=by omega
 have hold:(Builtin.firstCells iWrap.size i (.slice (some ⟨g,off,none⟩) i l.length)).run Tryz.prog w.drew= .ok (l.flatten.take (i*3)).toArray w.drew:=by
  rw [h1Wrap]
  exact run_firstCells_some w.drew 3 i ⟨g,off,none⟩ i l.length (l.flatten.take (i*3)) (by omega) (fun j v hj=>by
   rw [Addr.add_lit]
   rw [List.getElem?_take] at hj
   split at hj
   ·exact hw0 j v hj
   ·cases hj)
 obtain ⟨G,hG⟩:∃G,G=grownCap w (l.length+1) l.length 149:=⟨_,rfl⟩
 obtain ⟨ROW,hROW⟩:∃ROW:Array Value,ROW=(l.flatten.take (i*3)).toArray++Builtin.zeroCells (Value.agg #[.string ⟨#[]⟩,.int .i64 0,.bool false]).cells (l.length+1 - i)++Builtin.zeroCells (Value.agg #[.string ⟨#[]⟩,.int .i64 0,.bool false]).cells (G - (l.length+1)):=⟨_,rfl⟩
 obtain ⟨W1,hW1⟩:∃W1,W1=w.drew.alloc (.cells ROW 149):=⟨_,rfl⟩
 have hrz:∀ty,(Builtin.append_ #[71,3] ty #[.slice (some ⟨g,off,none⟩) i l.length,.int .i64 ((l.length:Int)+1 - (i:Int))]).run Tryz.prog w= .ok (.slice (some ⟨w.heap.size,0,none⟩) (l.length+1) G) W1:=fun ty=>by
  have h:=Lib.run_append_grow_zeros w 71 3 ty 149 iWrap _ .i64 .i64 Tryz.underlying71 Tryz.underlying3 hiWrap hzWrap (some ⟨g,off,none⟩) i l.length (l.flatten.take (i*3)) hold (l.length+1 - i) (by omega) (by rw [h1Wrap];omega) (by omega) (by omega) (by rw [h2Wrap];omega) (by rw [h2Wrap,hik];exact growslice_fits hroom (by omega))
  rw [hik] at h
  rw [hkk,hW1,hROW,hG]
  exact h
 have hGn:l.length+1<=G:=by rw [hG];exact grownCap_ge w _ _ _
 have hG63:G<=9223372036854775807:=by
  have:=grownCap_le_maxLen w (l.length+1) l.length 149 (by unfold maxLen;omega)
  rw [<-hG] at this
  unfold maxLen at this
  omega
 have hRs:ROW.size=G*3:=by
  have hzl:∀n,(Builtin.zeroCells (Value.agg #[.string ⟨#[]⟩,.int .i64 0,.bool false]).cells n).size=n*3:=fun n=>by simp [Builtin.zeroCells,Value.cells]
  rw [hROW,Array.size_append,Array.size_append,List.size_toArray,htl,hzl,hzl]
  omega
 have hnew:W1.heap[w.heap.size]? =some (.cells ROW 149 (0,0)):=by rw [hW1];exact zH _ rfl
 have hold2:∀b,b < w.heap.size->W1.heap[b]? =w.heap[b]? :=fun b hb=>by rw [hW1];exact Below.heap_alloc _ _ b hb
 have hsp:∀k,k < G*3->(W1.cell? ⟨w.heap.size,k,none⟩).isSome=true:=fun k hk=>by
  rw [cell_of_row _ w.heap.size _ _ _ (0,0) hnew,Array.getElem?_eq_getElem (by omega)]
  rfl
 have hfz:=(zD hnew).2
 have hcpA:∀ty,(Builtin.copy_ #[71,71] ty #[.slice (some ⟨w.heap.size,i*3,none⟩) (l.length+1 - i) (G - i),.slice (some ⟨N,0,none⟩) 1 c]).run Tryz.prog W1= .ok (goInt (Nat.min 1 (l.length+1 - i))) (W1.setCells w.heap.size (i*3) x):=fun ty=>
  z5u W1 _ _ ty 149 3 w.heap.size (i*3) (l.length+1 - i) (G - i) ⟨N,0,none⟩ 1 c x Tryz.underlying71 hsz (by rw [hx];simp only [Nat.min_def];split<;>omega)
   (fun j v hj=>by
    rw [Addr.add_lit,World.cell?_of_block (hold2 N hNw),cell_of_row _ N _ _ _ (0,0) hN]
    simpa using hj)
   (fun j hj=>hsp _ (by omega)) (fun j hj=>hfz _) hx1
 obtain ⟨W2,hW2⟩:∃W2,W2=W1.setCells w.heap.size (i*3) x:=⟨_,rfl⟩
 rw [<-hW2] at hcpA
 have hd1:∀j,j < x.length->(W1.cell? ⟨w.heap.size,i*3+j,none⟩).isSome=true:=fun j hj=>hsp _ (by omega)
 have hsp2:∀k,k < G*3->(W2.cell? ⟨w.heap.size,k,none⟩).isSome=true:=fun k hk=>by
  rw [hW2]
  exact z95 _ _ _ _ hd1 _ (hsp k hk)
 have hcpB:∀ty,(Builtin.copy_ #[71,71] ty #[.slice (some ⟨w.heap.size,(i+1)*3,none⟩) (l.length+1 - (i+1)) (G - (i+1)),.slice (some ⟨g,off+i*3,none⟩) (l.length - i) (l.length - i)]).run Tryz.prog W2.drew= .ok (goInt (Nat.min (l.length - i) (l.length+1 - (i+1)))) (W2.drew.setCells w.heap.size ((i+1)*3) (l.flatten.drop (i*3))):=fun ty=>
  z5u W2.drew _ _ ty 149 3 w.heap.size ((i+1)*3) (l.length+1 - (i+1)) (G - (i+1)) ⟨g,off+i*3,none⟩ (l.length - i) (l.length - i) (l.flatten.drop (i*3)) Tryz.underlying71 hsz (by rw [hdl];simp only [Nat.min_def];split<;>omega)
   (fun j v hj=>by
    show W2.cell? _=_
    rw [Addr.add_lit,Nat.add_assoc,hW2,World.cell?_setCells_out _ _ _ _ _ (fun e _=>absurd e (show g≠w.heap.size by omega)),World.cell?_of_block (hold2 g hgw)]
    exact hw0 (i*3+j) v (by rwa [List.getElem?_drop] at hj))
   (fun j hj=>hsp2 _ (by omega)) (fun j hj=>by show W2.frozen? _=_;rw [hW2,World.frozen?_setCells];exact hfz _) (fun v hv=>hone v (List.mem_of_mem_drop hv))
 have hd2:∀j,j < (l.flatten.drop (i*3)).length->(W2.drew.cell? ⟨w.heap.size,(i+1)*3+j,none⟩).isSome=true:=fun j hj=>hsp2 _ (by omega)
 have hs1:=z10 w.heap.size x W1 (i*3)
 have hs2:=z10 w.heap.size (l.flatten.drop (i*3)) W2.drew ((i+1)*3)
 rw [<-hW2] at hs1
 have HEND:=zh (show z8m l i x (.slice (some ⟨g,off,none⟩) l.length l.length) w (.returned (.slice (some ⟨w.heap.size,0,none⟩) (l.length+1) G)) (W2.drew.setCells w.heap.size ((i+1)*3) (l.flatten.drop (i*3))) from by
  have hlen:(l.take i++x :: l.drop i).length=l.length+1:=by simp;omega
  obtain ⟨cur1,c1,c2⟩:=z2e x W1 (i*3) ROW hnew
  rw [<-hW2] at c1
  obtain ⟨_,c3,c4⟩:=z2e (l.flatten.drop (i*3)) W2.drew ((i+1)*3) cur1 c1
  have B1:Below w.heap.size w W1:=by rw [hW1];exact (Below.refl _ _).drew.alloc (Nat.le_refl _) _
  refine ⟨_,rfl,?_,⟨hs2.1.trans (hs1.1.trans B1.os),hs2.2.1.trans (hs1.2.1.trans B1.tape),hs2.2.2.1.trans (hs1.2.2.1.trans B1.output),?_,fun b hb _=>?_⟩,.inr ⟨_,rfl,Nat.le_refl _⟩⟩
  ·rw [<-hlen]
   refine RowC.of_cells (zH8 hall ⟨hx,hx1⟩) c3 (by omega) (by unfold maxLen;omega) (by rw [c4,c2];omega) fun q u hq=>?_
   rw [Nat.zero_add]
   rcases zF6 hin (fun y hy=>(hall y hy).1) hx hq with ⟨a1,a2⟩ | ⟨j,rfl,a2⟩ | ⟨j,rfl,a2⟩
   ·rw [z4f (.inl (by omega))]
    show W2.cell? _=_
    rw [hW2,z4f (.inl (by omega)),cell_of_row _ w.heap.size _ _ _ (0,0) hnew,hROW,Array.append_assoc,Array.getElem?_append_left (by rw [List.size_toArray,htl];exact a1)]
    simp only [List.getElem?_toArray]
    rw [List.getElem?_take,if_pos a1]
    exact a2
   ·have hj:j < 3:=by rw [<-hx];exact (List.getElem?_eq_some_iff.1 a2).1
    rw [z4f (.inl (by omega))]
    show W2.cell? _=_
    rw [hW2]
    exact z8l hd1 a2
   ·rw [show i*3+3+j=(i+1)*3+j by omega]
    exact z8l hd2 a2
  ·rw [hs2.2.2.2.1]
   show w.heap.size<=W2.heap.size
   rw [hs1.2.2.2.1]
   exact B1.size
  ·have hbg:b≠w.heap.size:=by omega
   rw [hs2.2.2.2.2 b hbg]
   show W2.heap[b]? =_
   rw [hs1.2.2.2.2 b hbg]
   exact hold2 b hb)
 have HA:=zh hrz
 have hw1:IntKind.i64.wrap ((i:Int)+1)=(i:Int)+1:=by rw [IntKind.wrap_i64];omega
 have hb1:(0:Int)<=(i:Int)+1:=by omega
 have htn:((i:Int)+1).toNat=i+1:=by omega
 have hb3:(i:Int)<=(l.length:Int)+1:=by omega
 have hb5:(i:Int)+1<=(l.length:Int)+1:=by omega
 have hGi:¬(G=i):=by omega
 have hGim:¬(G=i+1):=by omega
 have hci:¬(l.length=i):=by omega
 have HB:=zh hcpB
 clear hrz hW1 hW2 hd1 hd2 hs1 hs2 hsp hsp2 hcpB hkk hik hold hROW hG hRs hnew hold2
 go_enter Tryz.func162,Tryz.ntmps162
 go_wp2_with (at_builtin;refine Lib.wpList_append_run _ rfl _ _ _ _ rfl _ _ rfl rfl _ _ (HA.out _) ?_)
 go_region_law (refine zAm rfl (.tmp 50) (.tmp 53) 71 71 rfl (.slice (some ⟨w.heap.size,(i+1)*3,none⟩) (l.length+1 - (i+1)) (G - (i+1))) (.slice (some ⟨g,off+i*3,none⟩) (l.length - i) (l.length - i)) (by simp [Act.eval,Act.put]) (by simp [Act.eval,Act.put]) (HB.out _) ?_)
 go_wp2
 go_ret
 exact HEND.out
theorem zOb (l:List (List Value)) (v:Value) (w:World) (i:Nat) (hi:i<=l.length) (x:List Value) (hx:x.length=3) (hx1:∀u∈x,u.oneCell'=true) (N c:Nat) (hN:w.heap[N]? =some (.cells x.toArray 149 (0,0))) (h:RowC 149 3 w v l) (hl:l.length<=9999) (hNv:v.ownBlock≠some N):
  Calls Tryz.prog 162 #[v,.int .i64 i,.slice (some ⟨N,0,none⟩) 1 c] w (z8m l i x v w):=by
 by_cases he:i=l.length
 ·subst he
  exact zIp l v w x hx hx1 N c hN h hl
 ·have h':=h
  rcases h.2 with ⟨rfl,rfl⟩ | ⟨g,off,cap,cur,rfl,_⟩
  ·simp at hi
   exact absurd hi he
  ·by_cases hr:l.length+1<=cap
   ·exact zGk l g off cap w i (by omega) x hx hx1 N c hN h' hl (fun e=>hNv (by rw [e];rfl)) hr
   ·exact zGl l g off cap w i (by omega) x hx hx1 N c hN h' hl (by omega)
end
end Go.Proofs.YtdggplhnfhcieaaGreatDoor
