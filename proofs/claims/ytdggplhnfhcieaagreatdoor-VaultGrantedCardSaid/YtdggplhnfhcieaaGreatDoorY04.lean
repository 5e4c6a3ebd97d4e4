/- Part 4 of the proof of vaultGranted_holds. No condition. -/
import Derived.Test.YtdggplhnfhcieaaGreatDoorY03
set_option linter.unusedVariables false
set_option linter.unusedSimpArgs false
set_option linter.unusedSectionVars false
set_option maxRecDepth 100000
namespace Go.Proofs.YtdggplhnfhcieaaGreatDoor
open Go.RowKit Go.Deep
section
def z26 (c:Call) (dv:Value):List Value:=[.int .i64 c.kind,.string c.user,.string c.folder,.string c.name,.string c.other,.int .i64 c.role,.int .i64 c.version,dv]
def z27 (R:RM) (c:Call) (dv:Value) (st:State) (done late:Bool):List Value:=
 [.int .i64 c.kind,.string c.user,.string c.folder,.string c.name,.string c.other,.int .i64 c.role,.int .i64 c.version,dv,.int .i64 st.turn,(R .us).v,(R .de).v,(R .fo).v,.bool done,.bool late]
structure WK (X:Nat->Prop) (base bw:Nat) (W:World) (R:RM) (c:Call) (dv:Value) (st:State) (done late:Bool):Prop where
 os:OS base W R
 is:IsSt (Imm X bw R W) W R st
 box:W.heap[bw]? =some (.cells (z27 R c dv st done late).toArray 112 (0,0))
 call:z0s (Imm X bw R W) W (z26 c dv) c
 nb:¬yS R bw
 bb:base<=bw
 nx:∀b,yS R b\/b=bw->¬X b
 xl:∀b,X b->b < W.heap.size
section
variable {X Y:Nat->Prop} {base bw:Nat} {W W':World} {R R':RM} {c:Call} {dv:Value} {st st':State} {done done' late:Bool}
theorem WK.lt (h:WK X base bw W R c dv st done late):bw < W.heap.size:=zM h.box
theorem WK.base_le (h:WK X base bw W R c dv st done late):base<=W.heap.size:=by have:=h.lt;have:=h.bb;omega
theorem WK.cells (h:WK X base bw W R c dv st done late):(∀j u,(z27 R c dv st done late)[j]? =some u->W.cell? ⟨bw,j,none⟩=some u)/\∀j,W.frozen? ⟨bw,j,none⟩=false:=
 ⟨fun j u hj=>(zD h.box).1 j u (by rw [List.getElem?_toArray];exact hj),(zD h.box).2⟩
theorem WK.below (h:WK X base bw W R c dv st done late) (hb:Below W.heap.size W W'):WK X base bw W' R c dv st done late:=
 have k:=(Mut.below (bw:=bw) (R:=R) hb).kept
 ⟨h.os.below hb,h.is.keep k,by rw [hb.block bw h.lt];exact h.box,YD h.call k,h.nb,h.bb,h.nx,fun b hx=>zll (h.xl b hx) hb.size⟩
theorem WK.turn (h:WK X base bw W R c dv st done late) (m:Mut bw R W R' W') (os:OS base W' R') (is:IsSt (Imm X bw R' W') W' R' st') (box:W'.heap[bw]? =some (.cells (z27 R' c dv st' done' late).toArray 112 (0,0))):WK X base bw W' R' c dv st' done' late:=
 ⟨os,is,box,YD h.call m.kept,fun e=>(m.fresh bw e).elim h.nb fun hl=>by have:=h.lt;omega,h.bb,fun b e hx=>by
  rcases e with e | e
  ·rcases m.fresh b e with e | e
   ·exact h.nx b (.inl e) hx
   ·have:=h.xl b hx
    omega
  ·exact h.nx b (.inr e) hx,fun b hx=>zll (h.xl b hx) m.but.size⟩
theorem WK.enter (h:WK X base bw W R c dv st done late) (hb:Below W.heap.size W W') (hz:W.heap.size < W'.heap.size):WK (fun b=>X b\/b=W.heap.size) base bw W' R c dv st done late:=by
 have h':=h.below hb
 have k:Kept (Imm X bw R W) (Imm (fun b=>X b\/b=W.heap.size) bw R W') W W':=fun b ⟨h1,h2,h3,h4⟩ hl=>⟨⟨by omega,h2,h3,fun e=>e.elim h4 fun e=>by omega⟩,hb.block b h1⟩
 refine ⟨h'.os,h.is.keep k,h'.box,YD h.call k,h.nb,h.bb,fun b e hx=>?_,fun b hx=>hx.elim (h'.xl b) fun e=>by omega⟩
 rcases hx with hx | hx
 ·exact h.nx b e hx
 rcases e with e | e
 ·have:=h.os.lt e
  omega
 have:=h.lt
 omega
theorem WK.leave (h:WK Y base bw W R c dv st done late) (hb:ButB Y W W') (hY:∀b,X b->Y b):WK X base bw W' R c dv st done late:=by
 have k:Kept (Imm Y bw R W) (Imm X bw R W') W W':=fun b ⟨h1,h2,h3,h4⟩ hl=>⟨⟨zll h1 hb.size,h2,h3,fun e=>h4 (hY b e)⟩,hb.block b h1 h4⟩
 exact ⟨h.os.to fun b hr=>hb.block b (h.os.lt hr) (h.nx b (.inl hr)),h.is.keep k,by rw [hb.block bw h.lt (h.nx bw (.inr rfl))];exact h.box,YD h.call k,h.nb,h.bb,fun b e hx=>h.nx b e (hY b hx),fun b hx=>zll (h.xl b (hY b hx)) hb.size⟩
theorem WK.state (h:WK X base bw W R c dv st done late):ZX (fun _=>True) W [.int .i64 st.turn,(R .us).v,(R .de).v,(R .fo).v] st:=h.is.state h.os
theorem WK.set (h:WK X base bw W R c dv st done late) {j:Nat} {u:Value} (hc:(z27 R c dv st done late).set j u=z27 R c dv st' done' late)
  (is:∀S W,IsSt S W R st->IsSt S W R st'):
  WK X base bw (W.setCell ⟨bw,j,none⟩ u) R c dv st' done' late/\Mut bw R W R (W.setCell ⟨bw,j,none⟩ u):=by
 have hm:Mut bw R W R (W.setCell ⟨bw,j,none⟩ u):=⟨(ButB.refl _ W).set ⟨bw,j,none⟩ u (.inl rfl),fun _ h=> .inl h⟩
 refine ⟨h.turn hm (h.os.to fun b hr=>?_) ((is _ _ h.is).keep hm.kept) (zI u h.box ?_),hm⟩
 ·exact Below.heap_setCell _ _ _ _ fun e=>h.nb (by rw [<-show b=bw from e];exact hr)
 rw [<-hc]
 simp
theorem WK.setDone (h:WK X base bw W R c dv st done late) (b:Bool):WK X base bw (W.setCell ⟨bw,12,none⟩ (.bool b)) R c dv st b late/\Mut bw R W R (W.setCell ⟨bw,12,none⟩ (.bool b)):=
 h.set rfl fun _ _ h=>h
theorem WK.setTurn (h:WK X base bw W R c dv st done late) (n:Int) (hn:I64 n):WK X base bw (W.setCell ⟨bw,8,none⟩ (.int .i64 n)) R c dv { st with turn:=n } done late/\Mut bw R W R (W.setCell ⟨bw,8,none⟩ (.int .i64 n)):=
 h.set rfl fun _ _ h=>⟨hn,h.users,h.deps,h.fol,h.fo⟩
theorem WK.put (h:WK X base bw W R c dv st done late) (k:RK) (r:Row) (hb:ButB (fun b=>(R k).v.ownBlock=some b) W W') (hr:RowC k.ty k.sz W' r.v r.cells) (hl:r.cells.length<=10000) (ho:∀b,r.v.ownBlock=some b->(R k).v.ownBlock=some b\/W.heap.size<=b):
  OS base W' (zK R k r)/\Mut bw R W (zK R k r) W'/\W'.heap[bw]? =W.heap[bw]?/\¬yS (zK R k r) bw:=by
 obtain ⟨h1,h2⟩:=h.os.put (bw:=bw) h.base_le k r hb hr hl ho
 exact ⟨h1,h2,hb.block bw h.lt fun e=>h.nb ⟨k,e⟩,fun e=>(h2.fresh bw e).elim h.nb fun hl=>by have:=h.lt;omega⟩
end
theorem List.set_eq_self_of {α:Type} {l:List α} {i:Nat} {x:α} (h:l[i]? =some x):l.set i x=l:=by
 apply List.ext_getElem?
 intro j
 rw [List.getElem?_set]
 split
 ·rename_i e
  subst e
  rw [if_pos (zge h).1,h]
 rfl
section
variable {S S':Nat->Prop} {W W':World} {R:RM} {i:Nat} {f:Folder} {st:State} {r:Row}
def ZP (R:RM) (i:Nat) (cs:List Value):Row:=⟨(R .fo).v,(R .fo).cells.set i cs⟩
theorem IsSt.wrRow (h:IsSt S W R st) (hf:st.folders[i]? =some f) (k:Kept S S' W W') {l:List Wrap} (hl:All2 (yW S' W') r.cells l):
  IsSt S' W' (zK (zK R (.wr i) r) .fo (ZP R i ((hdr R i f).set 5 r.v))) { st with folders:=st.folders.set i { f with wraps:=l } }:=by
 obtain ⟨_,h2⟩:=h.fo i f hf
 have h2':=h2.keep k
 refine h.setF hf k (by simp [zK]) (by simp [zK]) (fun i' hi'=>by simp [zK,hi']) (by simp [zK,ZP,hdr]) ?_
 exact ⟨h2'.name,h2'.turn,by simpa [zK] using h2'.man,by simpa [zK] using h2'.ep,by simpa [zK] using h2'.itl,by simpa [zK] using h2'.it,by simpa [zK] using hl,by simpa [zK] using h2'.li⟩
theorem IsSt.maRow (h:IsSt S W R st) (hf:st.folders[i]? =some f) (k:Kept S S' W W') {l:List Manifest} (hl:All2 (ZO S' W') r.cells l):
  IsSt S' W' (zK (zK R (.ma i) r) .fo (ZP R i ((hdr R i f).set 2 r.v))) { st with folders:=st.folders.set i { f with manifests:=l } }:=by
 obtain ⟨_,h2⟩:=h.fo i f hf
 have h2':=h2.keep k
 refine h.setF hf k (by simp [zK]) (by simp [zK]) (fun i' hi'=>by simp [zK,hi']) (by simp [zK,ZP,hdr]) ?_
 exact ⟨h2'.name,h2'.turn,by simpa [zK] using hl,by simpa [zK] using h2'.ep,by simpa [zK] using h2'.itl,by simpa [zK] using h2'.it,by simpa [zK] using h2'.wr,by simpa [zK] using h2'.li⟩
theorem IsSt.epRow (h:IsSt S W R st) (hf:st.folders[i]? =some f) (k:Kept S S' W W') {l:List Epoch} (hl:All2 (Y6 S' W') r.cells l):
  IsSt S' W' (zK (zK R (.ep i) r) .fo (ZP R i ((hdr R i f).set 3 r.v))) { st with folders:=st.folders.set i { f with epochs:=l } }:=by
 obtain ⟨_,h2⟩:=h.fo i f hf
 have h2':=h2.keep k
 refine h.setF hf k (by simp [zK]) (by simp [zK]) (fun i' hi'=>by simp [zK,hi']) (by simp [zK,ZP,hdr]) ?_
 exact ⟨h2'.name,h2'.turn,by simpa [zK] using h2'.man,by simpa [zK] using hl,by simpa [zK] using h2'.itl,by simpa [zK] using h2'.it,by simpa [zK] using h2'.wr,by simpa [zK] using h2'.li⟩
theorem IsSt.liRow (h:IsSt S W R st) (hf:st.folders[i]? =some f) (k:Kept S S' W W') {l:List Link} (hl:All2 (YP S' W') r.cells l):
  IsSt S' W' (zK (zK R (.li i) r) .fo (ZP R i ((hdr R i f).set 6 r.v))) { st with folders:=st.folders.set i { f with links:=l } }:=by
 obtain ⟨_,h2⟩:=h.fo i f hf
 have h2':=h2.keep k
 refine h.setF hf k (by simp [zK]) (by simp [zK]) (fun i' hi'=>by simp [zK,hi']) (by simp [zK,ZP,hdr]) ?_
 exact ⟨h2'.name,h2'.turn,by simpa [zK] using h2'.man,by simpa [zK] using h2'.ep,by simpa [zK] using h2'.itl,by simpa [zK] using h2'.it,by simpa [zK] using h2'.wr,by simpa [zK] using hl⟩
theorem IsSt.itNew (h:IsSt S W R st) (hf:st.folders[i]? =some f) (k:Kept S S' W W') {n:ByteArray} (hn:n.size<=140737488355328) (hr:r.cells=(R (.it i)).cells++[[.string n,.slice none 0 0]]):
  IsSt S' W' (zK (zK (zK R (.it i) r) (.ve i f.items.length) ⟨.slice none 0 0,[]⟩) .fo (ZP R i ((hdr R i f).set 4 r.v))) { st with folders:=st.folders.set i { f with items:=f.items++[⟨n,[]⟩] } }:=by
 obtain ⟨_,h2⟩:=h.fo i f hf
 have h2':=h2.keep k
 refine h.setF hf k (by simp [zK]) (by simp [zK]) (fun i' hi'=>by simp [zK,hi']) (by simp [zK,ZP,hdr]) ?_
 refine ⟨h2'.name,h2'.turn,by simpa [zK] using h2'.man,by simpa [zK] using h2'.ep,by simp [zK,hr,h2'.itl],fun j x hx=>?_,by simpa [zK] using h2'.wr,by simpa [zK] using h2'.li⟩
 rcases Nat.lt_trichotomy j f.items.length with hj | hj | hj
 ·rw [List.getElem?_append_left hj] at hx
  have hne:¬j=f.items.length:=by omega
  have:=h2'.it j x hx
  refine ⟨?_,this.2.1,by simpa [zK,hne] using this.2.2⟩
  have h3:(zK (zK (zK R (.it i) r) (.ve i f.items.length) ⟨.slice none 0 0,[]⟩) .fo (ZP R i ((hdr R i f).set 4 r.v)) (.it i)).cells=r.cells:=by simp [zK]
  rw [h3,hr,List.getElem?_append_left (by rw [h2'.itl];exact hj),this.1]
  simp [zK,hne]
 ·subst hj
  rw [List.getElem?_append_right (znl _),Nat.sub_self] at hx
  obtain rfl:=zsi hx
  refine ⟨?_,hn,by simpa [zK] using All2.nil⟩
  have h3:(zK (zK (zK R (.it i) r) (.ve i f.items.length) ⟨.slice none 0 0,[]⟩) .fo (ZP R i ((hdr R i f).set 4 r.v)) (.it i)).cells=r.cells:=by simp [zK]
  rw [h3,hr,List.getElem?_append_right (by rw [h2'.itl];exact znl _),h2'.itl,Nat.sub_self]
  simp [zK]
 rw [List.getElem?_eq_none (by simp;omega)] at hx
 cases hx
theorem IsSt.veRow {j:Nat} {x:Item} (h:IsSt S W R st) (hf:st.folders[i]? =some f) (hx:f.items[j]? =some x) (k:Kept S S' W W') {l:List Version} (hl:All2 (yB S' W') r.cells l):
  IsSt S' W' (zK (zK R (.ve i j) r) (.it i) ⟨(R (.it i)).v,(R (.it i)).cells.set j [.string x.name,r.v]⟩) { st with folders:=st.folders.set i { f with items:=f.items.set j { x with versions:=l } } }:=by
 obtain ⟨h1,h2⟩:=h.fo i f hf
 have h2':=h2.keep k
 refine h.setF hf k (by simp [zK]) (by simp [zK]) (fun i' hi'=>by simp [zK,hi']) (by
  have e:hdr (zK (zK R (.ve i j) r) (.it i) ⟨(R (.it i)).v,(R (.it i)).cells.set j [.string x.name,r.v]⟩) i { f with items:=f.items.set j { x with versions:=l } }=hdr R i f:=by simp [hdr,zK]
  rw [e]
  have h4:(zK (zK R (.ve i j) r) (.it i) ⟨(R (.it i)).v,(R (.it i)).cells.set j [.string x.name,r.v]⟩ .fo)=R .fo:=by simp [zK]
  rw [h4,List.set_eq_self_of h1]) ?_
 refine ⟨h2'.name,h2'.turn,by simpa [zK] using h2'.man,by simpa [zK] using h2'.ep,by simp [zK,h2'.itl],fun q y hy=>?_,by simpa [zK] using h2'.wr,by simpa [zK] using h2'.li⟩
 have hjl:=(zge hx).1
 have h3:(zK (zK R (.ve i j) r) (.it i) ⟨(R (.it i)).v,(R (.it i)).cells.set j [.string x.name,r.v]⟩ (.it i)).cells=(R (.it i)).cells.set j [.string x.name,r.v]:=by simp [zK]
 rw [h3,List.getElem?_set]
 dsimp only at hy
 rw [List.getElem?_set] at hy
 by_cases hq:j=q
 ·subst hq
  rw [if_pos rfl,if_pos hjl] at hy
  obtain rfl:=zsi hy
  rw [if_pos rfl,if_pos (by rw [h2'.itl];exact hjl)]
  exact ⟨by simp [zK],(h2'.it j x hx).2.1,by simpa [zK] using hl⟩
 rw [if_neg hq] at hy⊢
 have hq':¬q=j:=fun e=>hq e.symm
 have:=h2'.it q y hy
 exact ⟨by simpa [zK,hq'] using this.1,this.2.1,by simpa [zK,hq'] using this.2.2⟩
theorem IsSt.fTurn (h:IsSt S W R st) (hf:st.folders[i]? =some f) (k:Kept S S' W W') {n:Int} (hn:I64 n):
  IsSt S' W' (zK R .fo (ZP R i ((hdr R i f).set 1 (.int .i64 n)))) { st with folders:=st.folders.set i { f with turn:=n } }:=by
 obtain ⟨_,h2⟩:=h.fo i f hf
 have h2':=h2.keep k
 refine h.setF hf k (by simp [zK]) (by simp [zK]) (fun i' hi'=>by simp [zK]) (by simp [zK,ZP,hdr]) ?_
 exact ⟨h2'.name,hn,by simpa [zK] using h2'.man,by simpa [zK] using h2'.ep,by simpa [zK] using h2'.itl,by simpa [zK] using h2'.it,by simpa [zK] using h2'.wr,by simpa [zK] using h2'.li⟩
theorem IsSt.usRow (h:IsSt S W R st) (k:Kept S S' W W') {l:List User} (hl:All2 (z01 S' W') r.cells l):IsSt S' W' (zK R .us r) { st with users:=l }:=by
 have h':=h.keep k
 exact ⟨h'.turn,by simpa [zK] using hl,by simpa [zK] using h'.deps,by simpa [zK] using h'.fol,fun i f hf=>⟨by simpa [zK,hdr] using (h'.fo i f hf).1,by
  have g:=(h'.fo i f hf).2
  exact ⟨g.name,g.turn,by simpa [zK] using g.man,by simpa [zK] using g.ep,by simpa [zK] using g.itl,by simpa [zK] using g.it,by simpa [zK] using g.wr,by simpa [zK] using g.li⟩⟩⟩
theorem IsSt.deRow (h:IsSt S W R st) (k:Kept S S' W W') {l:List Pair} (hl:All2 (YV S' W') r.cells l):IsSt S' W' (zK R .de r) { st with deposits:=l }:=by
 have h':=h.keep k
 exact ⟨h'.turn,by simpa [zK] using h'.users,by simpa [zK] using hl,by simpa [zK] using h'.fol,fun i f hf=>⟨by simpa [zK,hdr] using (h'.fo i f hf).1,by
  have g:=(h'.fo i f hf).2
  exact ⟨g.name,g.turn,by simpa [zK] using g.man,by simpa [zK] using g.ep,by simpa [zK] using g.itl,by simpa [zK] using g.it,by simpa [zK] using g.wr,by simpa [zK] using g.li⟩⟩⟩
theorem IsSt.snocF {R':RM} (h:IsSt S W R st) {f':Folder} (k:Kept S S' W W') (hus:R' .us=R .us) (hde:R' .de=R .de)
  (ho:∀i',i'≠st.folders.length->R' (.ma i')=R (.ma i')/\R' (.ep i')=R (.ep i')/\R' (.it i')=R (.it i')/\R' (.wr i')=R (.wr i')/\R' (.li i')=R (.li i')/\∀j,R' (.ve i' j)=R (.ve i' j))
  (hfo:(R' .fo).cells=(R .fo).cells++[hdr R' st.folders.length f']) (hF:IsFo S' W' R' st.folders.length f'):IsSt S' W' R' { st with folders:=st.folders++[f'] }:=by
 have h':=h.keep k
 refine ⟨h.turn,by rw [hus];exact h'.users,by rw [hde];exact h'.deps,by rw [hfo];simp [h.fol],fun j g hg=>?_⟩
 rcases Nat.lt_trichotomy j st.folders.length with hj | hj | hj
 ·dsimp only at hg
  rw [List.getElem?_append_left hj] at hg
  obtain ⟨g1,g2⟩:=h'.fo j g hg
  obtain ⟨a1,a2,a3,a4,a5,a6⟩:=ho j (by omega)
  refine ⟨?_,?_⟩
  ·rw [hfo,List.getElem?_append_left (by rw [h.fol];exact hj),g1]
   unfold hdr
   rw [a1,a2,a3,a4,a5]
  exact ⟨g2.name,g2.turn,by rw [a1];exact g2.man,by rw [a2];exact g2.ep,by rw [a3];exact g2.itl,fun q x hx=>by rw [a3,a6 q];exact g2.it q x hx,by rw [a4];exact g2.wr,by rw [a5];exact g2.li⟩
 ·subst hj
  dsimp only at hg
  rw [List.getElem?_append_right (znl _),Nat.sub_self] at hg
  obtain rfl:=zsi hg
  refine ⟨?_,hF⟩
  rw [hfo,List.getElem?_append_right (by rw [h.fol];exact znl _),h.fol,Nat.sub_self]
  rfl
 rw [List.getElem?_eq_none (by simp;omega)] at hg
 cases hg
end
end
def z68 (sz n:Nat) (xs:List Value):List (List Value):=(List.range n).map fun i=>(xs.drop (i*sz)).take sz
theorem z2s (sz n:Nat) (xs:List Value):(z68 sz n xs).length=n:=by simp [z68]
theorem zBd {sz n:Nat} {xs:List Value} {i:Nat} (hi:i < n):(z68 sz n xs)[i]? =some ((xs.drop (i*sz)).take sz):=by
 unfold z68
 rw [List.getElem?_map,List.getElem?_range hi]
 rfl
theorem Grow.toRow {α:Type} {e:TypeId} {sz:Nat} {Q:Rp α} (ok:RpOk sz Q) (hsz:0 < sz) {B S:Nat->Prop} {w:World} {base:Nat} {v:Value} {l:List α} (h:Grow e sz Q B w base v l) (hS:∀b,¬B b->S b):
  ∃cells,RowC e sz w v cells/\All2 (Q S w) cells l/\∀b,v.ownBlock=some b->base<=b:=by
 obtain ⟨h1,h2,xs,⟨hxl,h4⟩,hel⟩:=h
 have hall:All2 (Q S w) (z68 sz l.length xs) l:=⟨z2s _ _ _,fun i x y hx hy=>by
  have hi:i < l.length:=(zge hy).1
  rw [zBd hi] at hx
  obtain rfl:=zsi hx
  obtain ⟨ys,g1,g2,g3⟩:=hel i y hy
  have e:(xs.drop (i*sz)).take sz=ys:=by
   have hle:i*sz+sz<=l.length*sz:=by rw [<-Nat.succ_mul];exact Nat.mul_le_mul_right _ hi
   apply List.ext_getElem?
   intro j
   rw [List.getElem?_take]
   split
   ·rename_i hj
    rw [List.getElem?_drop]
    have hy2:ys[j]? =some ys[j]:=List.getElem?_eq_getElem (by omega)
    rw [hy2]
    exact g2 j _ hy2
   ·rw [List.getElem?_eq_none (by omega)]
  rw [e]
  exact ok.keep g3 fun b hb hl=>⟨hS b hb.2.1,rfl⟩⟩
 refine ⟨z68 sz l.length xs,⟨fun x hx=>?_,?_⟩,hall,fun b hb=>?_⟩
 ·obtain ⟨i,hi⟩:=List.getElem?_of_mem hx
  have hil:i < l.length:=by have:=(zge hi).1;rwa [z2s] at this
  have hq:=hall.2 i x _ hi (List.getElem?_eq_getElem hil)
  exact ⟨ok.len hq,ok.one hq⟩
 ·rcases h4 with ⟨rfl,h0⟩ | ⟨g,cap,cur,rfl,hb,hg,hnc,hcm,hcs,htk⟩
  ·left
   exact ⟨rfl,List.eq_nil_of_length_eq_zero (by rw [z2s,h0])⟩
  right
  refine ⟨g,0,cap,cur,by rw [z2s],hg,by rw [z2s];exact hnc,hcm,by omega,fun q u hq=>?_⟩
  obtain ⟨i,j,x,e1,e2,e3,e4⟩:=zFg hsz (l:=z68 sz l.length xs) (fun y hy=>by
   obtain ⟨i,hi⟩:=List.getElem?_of_mem hy
   have hil:i < l.length:=by have:=(zge hi).1;rwa [z2s] at this
   exact ok.len (hall.2 i y _ hi (List.getElem?_eq_getElem hil))) hq
  have hil:i < l.length:=by have:=(zge e3).1;rwa [z2s] at this
  rw [zBd hil] at e3
  obtain rfl:=zsi e3
  rw [List.getElem?_take,if_pos e2,List.getElem?_drop,<-e1] at e4
  rw [Nat.zero_add,<-Array.getElem?_toList]
  have hql:q < l.length*sz:=by rw [<-hxl];exact (zge e4).1
  have h9:=congrArg (fun l=>l[q]?) htk
  simp only [List.getElem?_take,if_pos hql] at h9
  rw [h9]
  exact e4
 rcases h4 with ⟨rfl,h0⟩ | ⟨g,cap,cur,rfl,hb2,_⟩
 ·cases hb
 simp only [Value.ownBlock,Option.some.injEq] at hb
 omega
def z0v {α:Type} (e:TypeId) (sz:Nat) (Q:Rp α) (S:Nat->Prop) (l:List α) (w:World) (x:Ending) (w':World):Prop:=
 (∃v' cells,x= .returned v'/\RowC e sz w' v' cells/\All2 (Q S w') cells l/\∀b,v'.ownBlock=some b->w.heap.size<=b)/\Below w.heap.size w w'
theorem zN9 (w:World) (a:Option Addr) (n c:Nat):(binOp .eql 30 (.slice a n c) (.slice none 0 0)).run Tryz.prog w= .ok (.bool a.isNone) w:=by
 simp only [binOp]
 simp [run_equal_slice_nil w _ _ a n c Tryz.underlying30]
theorem zJe (l:List User) (v:Value) (w:World) (S:Nat->Prop) (h:Sl 2 z01 S w v l) (hl0:l.length<=10000):
  Calls Tryz.prog 70 #[v] w (z0v 91 2 z01 S l w):=by
 obtain ⟨ix,hi,hz,h1,h2⟩:=info_parts (show (Tryz.prog.info? 91).map (fun i=>(i.zero,i.size,i.bytes))=some (some (.agg #[.string ⟨#[]⟩,.bool false]),2,24) from by kernel_rfl)
 obtain ⟨A,_,rfl,hl,hc,_,hs⟩:=h
 unfold maxLen at hc
 have q22:=zN9
 rcases A with _ | ad
 ·obtain rfl:l=[]:=by
   cases l with
   | nil=>rfl
   | cons x r=>obtain ⟨_,_,_,h,_⟩:=hs 0 x rfl;cases h
  clear hs
  go_enter Tryz.func70,Tryz.ntmps70
  go_wp2
  go_ret
  exact ⟨⟨_,[],rfl,RowC.nil _,All2.nil,fun b hb=>by cases hb⟩,Below.refl _ _⟩
 have hsl:SlAt 2 z01 (z12 (fun b=>¬S b) (w.alloc (.cells #[] 91)) (.slice (some ⟨w.heap.size,0,none⟩) 0 0)) (w.alloc (.cells #[] 91)) (some ad) l:=
  hs.keep YG (by decide) (fun b hb hl=>⟨⟨by simp;omega,fun h=>h hb,fun hb'=>by simp only [Value.ownBlock,Option.some.injEq] at hb';omega⟩,heap_alloc_old _ _ hl⟩)
 clear hs
 go_enter Tryz.func70,Tryz.ntmps70
 go_wp2_with (at_builtin;go_loud (refine yQ (R:=z01) _ rfl (.tmp 5) (.tmp 6) 30 rfl 91 ix _ 2 24 Tryz.underlying30 hi hz h1 h2 rfl (by decide) YG w.heap.size (by go_size) _ _ rfl (Grow.empty (heap_alloc_new _ _) (znl _)) _ _ _ rfl _ rfl hsl (by simp;omega) (by decide) ?_);intro v1 w1 g1 gg1 go1;rw [List.nil_append] at g1;obtain ⟨_,_,_,rfl,hn1⟩:=g1.shape';clear hn1)
 go_ret
 obtain ⟨cells,k1,k2,k3⟩:=Grow.toRow YG (by decide) g1 fun b hb=>Classical.byContradiction hb
 exact ⟨⟨_,cells,rfl,k1,k2,k3⟩,Below.grown (Below.alloc zbr (znl _) _) gg1 (by simp) fun b hb=>by have:=zsi (show some w.heap.size=some b from hb);omega⟩
theorem zNa (w:World) (a:Option Addr) (n c:Nat):(binOp .eql 31 (.slice a n c) (.slice none 0 0)).run Tryz.prog w= .ok (.bool a.isNone) w:=by
 simp only [binOp]
 simp [run_equal_slice_nil w _ _ a n c Tryz.underlying31]
theorem zJf (l:List Pair) (v:Value) (w:World) (S:Nat->Prop) (h:Sl 2 YV S w v l) (hl0:l.length<=10000):
  Calls Tryz.prog 71 #[v] w (z0v 126 2 YV S l w):=by
 obtain ⟨ix,hi,hz,h1,h2⟩:=info_parts (show (Tryz.prog.info? 126).map (fun i=>(i.zero,i.size,i.bytes))=some (some (.agg #[.string ⟨#[]⟩,.string ⟨#[]⟩]),2,32) from by kernel_rfl)
 obtain ⟨A,_,rfl,hl,hc,_,hs⟩:=h
 unfold maxLen at hc
 have q22:=zNa
 rcases A with _ | ad
 ·obtain rfl:l=[]:=by
   cases l with
   | nil=>rfl
   | cons x r=>obtain ⟨_,_,_,h,_⟩:=hs 0 x rfl;cases h
  clear hs
  go_enter Tryz.func71,Tryz.ntmps71
  go_wp2
  go_ret
  exact ⟨⟨_,[],rfl,RowC.nil _,All2.nil,fun b hb=>by cases hb⟩,Below.refl _ _⟩
 have hsl:SlAt 2 YV (z12 (fun b=>¬S b) (w.alloc (.cells #[] 126)) (.slice (some ⟨w.heap.size,0,none⟩) 0 0)) (w.alloc (.cells #[] 126)) (some ad) l:=
  hs.keep z19 (by decide) (fun b hb hl=>⟨⟨by simp;omega,fun h=>h hb,fun hb'=>by simp only [Value.ownBlock,Option.some.injEq] at hb';omega⟩,heap_alloc_old _ _ hl⟩)
 clear hs
 go_enter Tryz.func71,Tryz.ntmps71
 go_wp2_with (at_builtin;go_loud (refine yQ (R:=YV) _ rfl (.tmp 5) (.tmp 6) 31 rfl 126 ix _ 2 32 Tryz.underlying31 hi hz h1 h2 rfl (by decide) z19 w.heap.size (by go_size) _ _ rfl (Grow.empty (heap_alloc_new _ _) (znl _)) _ _ _ rfl _ rfl hsl (by simp;omega) (by decide) ?_);intro v1 w1 g1 gg1 go1;rw [List.nil_append] at g1;obtain ⟨_,_,_,rfl,hn1⟩:=g1.shape';clear hn1)
 go_ret
 obtain ⟨cells,k1,k2,k3⟩:=Grow.toRow z19 (by decide) g1 fun b hb=>Classical.byContradiction hb
 exact ⟨⟨_,cells,rfl,k1,k2,k3⟩,Below.grown (Below.alloc zbr (znl _) _) gg1 (by simp) fun b hb=>by have:=zsi (show some w.heap.size=some b from hb);omega⟩
theorem zJg (w:World) (a:Option Addr) (n c:Nat):(binOp .eql 32 (.slice a n c) (.slice none 0 0)).run Tryz.prog w= .ok (.bool a.isNone) w:=by
 simp only [binOp]
 simp [run_equal_slice_nil w _ _ a n c Tryz.underlying32]
theorem zFw (l:List Folder) (v:Value) (w:World) (S:Nat->Prop) (h:Sl 7 ZE S w v l) (hl0:l.length<=10000):
  Calls Tryz.prog 72 #[v] w (z0v 74 7 ZE S l w):=by
 obtain ⟨ix,hi,hz,h1,h2⟩:=info_parts (show (Tryz.prog.info? 74).map (fun i=>(i.zero,i.size,i.bytes))=some (some (.agg #[.string ⟨#[]⟩,.int .i64 0,.slice none 0 0,.slice none 0 0,.slice none 0 0,.slice none 0 0,.slice none 0 0]),7,144) from by kernel_rfl)
 obtain ⟨A,_,rfl,hl,hc,_,hs⟩:=h
 unfold maxLen at hc
 have q22:=zJg
 rcases A with _ | ad
 ·obtain rfl:l=[]:=by
   cases l with
   | nil=>rfl
   | cons x r=>obtain ⟨_,_,_,h,_⟩:=hs 0 x rfl;cases h
  clear hs
  go_enter Tryz.func72,Tryz.ntmps72
  go_wp2
  go_ret
  exact ⟨⟨_,[],rfl,RowC.nil _,All2.nil,fun b hb=>by cases hb⟩,Below.refl _ _⟩
 have hsl:SlAt 7 ZE (z12 (fun b=>¬S b) (w.alloc (.cells #[] 74)) (.slice (some ⟨w.heap.size,0,none⟩) 0 0)) (w.alloc (.cells #[] 74)) (some ad) l:=
  hs.keep z02 (by decide) (fun b hb hl=>⟨⟨by simp;omega,fun h=>h hb,fun hb'=>by simp only [Value.ownBlock,Option.some.injEq] at hb';omega⟩,heap_alloc_old _ _ hl⟩)
 clear hs
 go_enter Tryz.func72,Tryz.ntmps72
 go_wp2_with (at_builtin;go_loud (refine yQ (R:=ZE) _ rfl (.tmp 5) (.tmp 6) 32 rfl 74 ix _ 7 144 Tryz.underlying32 hi hz h1 h2 rfl (by decide) z02 w.heap.size (by go_size) _ _ rfl (Grow.empty (heap_alloc_new _ _) (znl _)) _ _ _ rfl _ rfl hsl (by simp;omega) (by decide) ?_);intro v1 w1 g1 gg1 go1;rw [List.nil_append] at g1;obtain ⟨_,_,_,rfl,hn1⟩:=g1.shape';clear hn1)
 go_ret
 obtain ⟨cells,k1,k2,k3⟩:=Grow.toRow z02 (by decide) g1 fun b hb=>Classical.byContradiction hb
 exact ⟨⟨_,cells,rfl,k1,k2,k3⟩,Below.grown (Below.alloc zbr (znl _) _) gg1 (by simp) fun b hb=>by have:=zsi (show some w.heap.size=some b from hb);omega⟩
theorem zFx (w:World) (a:Option Addr) (n c:Nat):(binOp .eql 68 (.slice a n c) (.slice none 0 0)).run Tryz.prog w= .ok (.bool a.isNone) w:=by
 simp only [binOp]
 simp [run_equal_slice_nil w _ _ a n c Tryz.underlying68]
theorem zDa (l:List Manifest) (v:Value) (w:World) (S:Nat->Prop) (h:Sl 8 ZO S w v l) (hl0:l.length<=10000):
  Calls Tryz.prog 73 #[v] w (z0v 84 8 ZO S l w):=by
 obtain ⟨ix,hi,hz,h1,h2⟩:=info_parts (show (Tryz.prog.info? 84).map (fun i=>(i.zero,i.size,i.bytes))=some (some (.agg #[.string ⟨#[]⟩,.int .i64 0,.slice none 0 0,.string ⟨#[]⟩,.slice none 0 0,.int .i64 0,.bool false,.string ⟨#[]⟩]),8,120) from by kernel_rfl)
 obtain ⟨A,_,rfl,hl,hc,_,hs⟩:=h
 unfold maxLen at hc
 have q22:=zFx
 rcases A with _ | ad
 ·obtain rfl:l=[]:=by
   cases l with
   | nil=>rfl
   | cons x r=>obtain ⟨_,_,_,h,_⟩:=hs 0 x rfl;cases h
  clear hs
  go_enter Tryz.func73,Tryz.ntmps73
  go_wp2
  go_ret
  exact ⟨⟨_,[],rfl,RowC.nil _,All2.nil,fun b hb=>by cases hb⟩,Below.refl _ _⟩
 have hsl:SlAt 8 ZO (z12 (fun b=>¬S b) (w.alloc (.cells #[] 84)) (.slice (some ⟨w.heap.size,0,none⟩) 0 0)) (w.alloc (.cells #[] 84)) (some ad) l:=
  hs.keep z1a (by decide) (fun b hb hl=>⟨⟨by simp;omega,fun h=>h hb,fun hb'=>by simp only [Value.ownBlock,Option.some.injEq] at hb';omega⟩,heap_alloc_old _ _ hl⟩)
 clear hs
 go_enter Tryz.func73,Tryz.ntmps73
 go_wp2_with (at_builtin;go_loud (refine yQ (R:=ZO) _ rfl (.tmp 5) (.tmp 6) 68 rfl 84 ix _ 8 120 Tryz.underlying68 hi hz h1 h2 rfl (by decide) z1a w.heap.size (by go_size) _ _ rfl (Grow.empty (heap_alloc_new _ _) (znl _)) _ _ _ rfl _ rfl hsl (by simp;omega) (by decide) ?_);intro v1 w1 g1 gg1 go1;rw [List.nil_append] at g1;obtain ⟨_,_,_,rfl,hn1⟩:=g1.shape';clear hn1)
 go_ret
 obtain ⟨cells,k1,k2,k3⟩:=Grow.toRow z1a (by decide) g1 fun b hb=>Classical.byContradiction hb
 exact ⟨⟨_,cells,rfl,k1,k2,k3⟩,Below.grown (Below.alloc zbr (znl _) _) gg1 (by simp) fun b hb=>by have:=zsi (show some w.heap.size=some b from hb);omega⟩
theorem zLf (w:World) (a:Option Addr) (n c:Nat):(binOp .eql 69 (.slice a n c) (.slice none 0 0)).run Tryz.prog w= .ok (.bool a.isNone) w:=by
 simp only [binOp]
 simp [run_equal_slice_nil w _ _ a n c Tryz.underlying69]
theorem zHd (l:List Epoch) (v:Value) (w:World) (S:Nat->Prop) (h:Sl 5 Y6 S w v l) (hl0:l.length<=10000):
  Calls Tryz.prog 74 #[v] w (z0v 130 5 Y6 S l w):=by
 obtain ⟨ix,hi,hz,h1,h2⟩:=info_parts (show (Tryz.prog.info? 130).map (fun i=>(i.zero,i.size,i.bytes))=some (some (.agg #[.int .i64 0,.int .i64 0,.int .i64 0,.slice none 0 0,.string ⟨#[]⟩]),5,64) from by kernel_rfl)
 obtain ⟨A,_,rfl,hl,hc,_,hs⟩:=h
 unfold maxLen at hc
 have q22:=zLf
 rcases A with _ | ad
 ·obtain rfl:l=[]:=by
   cases l with
   | nil=>rfl
   | cons x r=>obtain ⟨_,_,_,h,_⟩:=hs 0 x rfl;cases h
  clear hs
  go_enter Tryz.func74,Tryz.ntmps74
  go_wp2
  go_ret
  exact ⟨⟨_,[],rfl,RowC.nil _,All2.nil,fun b hb=>by cases hb⟩,Below.refl _ _⟩
 have hsl:SlAt 5 Y6 (z12 (fun b=>¬S b) (w.alloc (.cells #[] 130)) (.slice (some ⟨w.heap.size,0,none⟩) 0 0)) (w.alloc (.cells #[] 130)) (some ad) l:=
  hs.keep z36 (by decide) (fun b hb hl=>⟨⟨by simp;omega,fun h=>h hb,fun hb'=>by simp only [Value.ownBlock,Option.some.injEq] at hb';omega⟩,heap_alloc_old _ _ hl⟩)
 clear hs
 go_enter Tryz.func74,Tryz.ntmps74
 go_wp2_with (at_builtin;go_loud (refine yQ (R:=Y6) _ rfl (.tmp 5) (.tmp 6) 69 rfl 130 ix _ 5 64 Tryz.underlying69 hi hz h1 h2 rfl (by decide) z36 w.heap.size (by go_size) _ _ rfl (Grow.empty (heap_alloc_new _ _) (znl _)) _ _ _ rfl _ rfl hsl (by simp;omega) (by decide) ?_);intro v1 w1 g1 gg1 go1;rw [List.nil_append] at g1;obtain ⟨_,_,_,rfl,hn1⟩:=g1.shape';clear hn1)
 go_ret
 obtain ⟨cells,k1,k2,k3⟩:=Grow.toRow z36 (by decide) g1 fun b hb=>Classical.byContradiction hb
 exact ⟨⟨_,cells,rfl,k1,k2,k3⟩,Below.grown (Below.alloc zbr (znl _) _) gg1 (by simp) fun b hb=>by have:=zsi (show some w.heap.size=some b from hb);omega⟩
theorem zNb (w:World) (a:Option Addr) (n c:Nat):(binOp .eql 70 (.slice a n c) (.slice none 0 0)).run Tryz.prog w= .ok (.bool a.isNone) w:=by
 simp only [binOp]
 simp [run_equal_slice_nil w _ _ a n c Tryz.underlying70]
theorem zJh (l:List Item) (v:Value) (w:World) (S:Nat->Prop) (h:Sl 2 yV S w v l) (hl0:l.length<=10000):
  Calls Tryz.prog 75 #[v] w (z0v 78 2 yV S l w):=by
 obtain ⟨ix,hi,hz,h1,h2⟩:=info_parts (show (Tryz.prog.info? 78).map (fun i=>(i.zero,i.size,i.bytes))=some (some (.agg #[.string ⟨#[]⟩,.slice none 0 0]),2,40) from by kernel_rfl)
 obtain ⟨A,_,rfl,hl,hc,_,hs⟩:=h
 unfold maxLen at hc
 have q22:=zNb
 rcases A with _ | ad
 ·obtain rfl:l=[]:=by
   cases l with
   | nil=>rfl
   | cons x r=>obtain ⟨_,_,_,h,_⟩:=hs 0 x rfl;cases h
  clear hs
  go_enter Tryz.func75,Tryz.ntmps75
  go_wp2
  go_ret
  exact ⟨⟨_,[],rfl,RowC.nil _,All2.nil,fun b hb=>by cases hb⟩,Below.refl _ _⟩
 have hsl:SlAt 2 yV (z12 (fun b=>¬S b) (w.alloc (.cells #[] 78)) (.slice (some ⟨w.heap.size,0,none⟩) 0 0)) (w.alloc (.cells #[] 78)) (some ad) l:=
  hs.keep z1z (by decide) (fun b hb hl=>⟨⟨by simp;omega,fun h=>h hb,fun hb'=>by simp only [Value.ownBlock,Option.some.injEq] at hb';omega⟩,heap_alloc_old _ _ hl⟩)
 clear hs
 go_enter Tryz.func75,Tryz.ntmps75
 go_wp2_with (at_builtin;go_loud (refine yQ (R:=yV) _ rfl (.tmp 5) (.tmp 6) 70 rfl 78 ix _ 2 40 Tryz.underlying70 hi hz h1 h2 rfl (by decide) z1z w.heap.size (by go_size) _ _ rfl (Grow.empty (heap_alloc_new _ _) (znl _)) _ _ _ rfl _ rfl hsl (by simp;omega) (by decide) ?_);intro v1 w1 g1 gg1 go1;rw [List.nil_append] at g1;obtain ⟨_,_,_,rfl,hn1⟩:=g1.shape';clear hn1)
 go_ret
 obtain ⟨cells,k1,k2,k3⟩:=Grow.toRow z1z (by decide) g1 fun b hb=>Classical.byContradiction hb
 exact ⟨⟨_,cells,rfl,k1,k2,k3⟩,Below.grown (Below.alloc zbr (znl _) _) gg1 (by simp) fun b hb=>by have:=zsi (show some w.heap.size=some b from hb);omega⟩
theorem zNc (w:World) (a:Option Addr) (n c:Nat):(binOp .eql 71 (.slice a n c) (.slice none 0 0)).run Tryz.prog w= .ok (.bool a.isNone) w:=by
 simp only [binOp]
 simp [run_equal_slice_nil w _ _ a n c Tryz.underlying71]
theorem zJi (l:List Wrap) (v:Value) (w:World) (S:Nat->Prop) (h:Sl 3 yW S w v l) (hl0:l.length<=10000):
  Calls Tryz.prog 76 #[v] w (z0v 149 3 yW S l w):=by
 obtain ⟨ix,hi,hz,h1,h2⟩:=info_parts (show (Tryz.prog.info? 149).map (fun i=>(i.zero,i.size,i.bytes))=some (some (.agg #[.string ⟨#[]⟩,.int .i64 0,.bool false]),3,32) from by kernel_rfl)
 obtain ⟨A,_,rfl,hl,hc,_,hs⟩:=h
 unfold maxLen at hc
 have q22:=zNc
 rcases A with _ | ad
 ·obtain rfl:l=[]:=by
   cases l with
   | nil=>rfl
   | cons x r=>obtain ⟨_,_,_,h,_⟩:=hs 0 x rfl;cases h
  clear hs
  go_enter Tryz.func76,Tryz.ntmps76
  go_wp2
  go_ret
  exact ⟨⟨_,[],rfl,RowC.nil _,All2.nil,fun b hb=>by cases hb⟩,Below.refl _ _⟩
 have hsl:SlAt 3 yW (z12 (fun b=>¬S b) (w.alloc (.cells #[] 149)) (.slice (some ⟨w.heap.size,0,none⟩) 0 0)) (w.alloc (.cells #[] 149)) (some ad) l:=
  hs.keep z2o (by decide) (fun b hb hl=>⟨⟨by simp;omega,fun h=>h hb,fun hb'=>by simp only [Value.ownBlock,Option.some.injEq] at hb';omega⟩,heap_alloc_old _ _ hl⟩)
 clear hs
 go_enter Tryz.func76,Tryz.ntmps76
 go_wp2_with (at_builtin;go_loud (refine yQ (R:=yW) _ rfl (.tmp 5) (.tmp 6) 71 rfl 149 ix _ 3 32 Tryz.underlying71 hi hz h1 h2 rfl (by decide) z2o w.heap.size (by go_size) _ _ rfl (Grow.empty (heap_alloc_new _ _) (znl _)) _ _ _ rfl _ rfl hsl (by simp;omega) (by decide) ?_);intro v1 w1 g1 gg1 go1;rw [List.nil_append] at g1;obtain ⟨_,_,_,rfl,hn1⟩:=g1.shape';clear hn1)
 go_ret
 obtain ⟨cells,k1,k2,k3⟩:=Grow.toRow z2o (by decide) g1 fun b hb=>Classical.byContradiction hb
 exact ⟨⟨_,cells,rfl,k1,k2,k3⟩,Below.grown (Below.alloc zbr (znl _) _) gg1 (by simp) fun b hb=>by have:=zsi (show some w.heap.size=some b from hb);omega⟩
theorem zNd (w:World) (a:Option Addr) (n c:Nat):(binOp .eql 72 (.slice a n c) (.slice none 0 0)).run Tryz.prog w= .ok (.bool a.isNone) w:=by
 simp only [binOp]
 simp [run_equal_slice_nil w _ _ a n c Tryz.underlying72]
theorem zJj (l:List Link) (v:Value) (w:World) (S:Nat->Prop) (h:Sl 3 YP S w v l) (hl0:l.length<=10000):
  Calls Tryz.prog 77 #[v] w (z0v 151 3 YP S l w):=by
 obtain ⟨ix,hi,hz,h1,h2⟩:=info_parts (show (Tryz.prog.info? 151).map (fun i=>(i.zero,i.size,i.bytes))=some (some (.agg #[.int .i64 0,.string ⟨#[]⟩,.int .i64 0]),3,32) from by kernel_rfl)
 obtain ⟨A,_,rfl,hl,hc,_,hs⟩:=h
 unfold maxLen at hc
 have q22:=zNd
 rcases A with _ | ad
 ·obtain rfl:l=[]:=by
   cases l with
   | nil=>rfl
   | cons x r=>obtain ⟨_,_,_,h,_⟩:=hs 0 x rfl;cases h
  clear hs
  go_enter Tryz.func77,Tryz.ntmps77
  go_wp2
  go_ret
  exact ⟨⟨_,[],rfl,RowC.nil _,All2.nil,fun b hb=>by cases hb⟩,Below.refl _ _⟩
 have hsl:SlAt 3 YP (z12 (fun b=>¬S b) (w.alloc (.cells #[] 151)) (.slice (some ⟨w.heap.size,0,none⟩) 0 0)) (w.alloc (.cells #[] 151)) (some ad) l:=
  hs.keep z2p (by decide) (fun b hb hl=>⟨⟨by simp;omega,fun h=>h hb,fun hb'=>by simp only [Value.ownBlock,Option.some.injEq] at hb';omega⟩,heap_alloc_old _ _ hl⟩)
 clear hs
 go_enter Tryz.func77,Tryz.ntmps77
 go_wp2_with (at_builtin;go_loud (refine yQ (R:=YP) _ rfl (.tmp 5) (.tmp 6) 72 rfl 151 ix _ 3 32 Tryz.underlying72 hi hz h1 h2 rfl (by decide) z2p w.heap.size (by go_size) _ _ rfl (Grow.empty (heap_alloc_new _ _) (znl _)) _ _ _ rfl _ rfl hsl (by simp;omega) (by decide) ?_);intro v1 w1 g1 gg1 go1;rw [List.nil_append] at g1;obtain ⟨_,_,_,rfl,hn1⟩:=g1.shape';clear hn1)
 go_ret
 obtain ⟨cells,k1,k2,k3⟩:=Grow.toRow z2p (by decide) g1 fun b hb=>Classical.byContradiction hb
 exact ⟨⟨_,cells,rfl,k1,k2,k3⟩,Below.grown (Below.alloc zbr (znl _) _) gg1 (by simp) fun b hb=>by have:=zsi (show some w.heap.size=some b from hb);omega⟩
theorem zJk (w:World) (a:Option Addr) (n c:Nat):(binOp .eql 46 (.slice a n c) (.slice none 0 0)).run Tryz.prog w= .ok (.bool a.isNone) w:=by
 simp only [binOp]
 simp [run_equal_slice_nil w _ _ a n c Tryz.underlying46]
theorem z8t (l:List Member) (v:Value) (w:World) (S:Nat->Prop) (h:Sl 2 zY S w v l) (hl0:l.length<=10000):
  Calls Tryz.prog 78 #[v] w (z0v 87 2 zY S l w):=by
 obtain ⟨ix,hi,hz,h1,h2⟩:=info_parts (show (Tryz.prog.info? 87).map (fun i=>(i.zero,i.size,i.bytes))=some (some (.agg #[.string ⟨#[]⟩,.int .i64 0]),2,24) from by kernel_rfl)
 obtain ⟨A,_,rfl,hl,hc,_,hs⟩:=h
 unfold maxLen at hc
 have q22:=zJk
 rcases A with _ | ad
 ·obtain rfl:l=[]:=by
   cases l with
   | nil=>rfl
   | cons x r=>obtain ⟨_,_,_,h,_⟩:=hs 0 x rfl;cases h
  clear hs
  go_enter Tryz.func78,Tryz.ntmps78
  go_wp2
  go_ret
  exact ⟨⟨_,[],rfl,RowC.nil _,All2.nil,fun b hb=>by cases hb⟩,Below.refl _ _⟩
 have hsl:SlAt 2 zY (z12 (fun b=>¬S b) (w.alloc (.cells #[] 87)) (.slice (some ⟨w.heap.size,0,none⟩) 0 0)) (w.alloc (.cells #[] 87)) (some ad) l:=
  hs.keep ZC (by decide) (fun b hb hl=>⟨⟨by simp;omega,fun h=>h hb,fun hb'=>by simp only [Value.ownBlock,Option.some.injEq] at hb';omega⟩,heap_alloc_old _ _ hl⟩)
 clear hs
 go_enter Tryz.func78,Tryz.ntmps78
 go_wp2_with (at_builtin;go_loud (refine yQ (R:=zY) _ rfl (.tmp 5) (.tmp 6) 46 rfl 87 ix _ 2 24 Tryz.underlying46 hi hz h1 h2 rfl (by decide) ZC w.heap.size (by go_size) _ _ rfl (Grow.empty (heap_alloc_new _ _) (znl _)) _ _ _ rfl _ rfl hsl (by simp;omega) (by decide) ?_);intro v1 w1 g1 gg1 go1;rw [List.nil_append] at g1;obtain ⟨_,_,_,rfl,hn1⟩:=g1.shape';clear hn1)
 go_ret
 obtain ⟨cells,k1,k2,k3⟩:=Grow.toRow ZC (by decide) g1 fun b hb=>Classical.byContradiction hb
 exact ⟨⟨_,cells,rfl,k1,k2,k3⟩,Below.grown (Below.alloc zbr (znl _) _) gg1 (by simp) fun b hb=>by have:=zsi (show some w.heap.size=some b from hb);omega⟩
theorem zPz (w:World) (a:Option Addr) (n c:Nat):(binOp .eql 121 (.slice a n c) (.slice none 0 0)).run Tryz.prog w= .ok (.bool a.isNone) w:=by
 simp only [binOp]
 simp [run_equal_slice_nil w _ _ a n c Tryz.underlying121]
theorem zNe (l:List At) (v:Value) (w:World) (S:Nat->Prop) (h:Sl 2 rAt S w v l) (hl0:l.length<=10000):
  Calls Tryz.prog 79 #[v] w (z0v 124 2 rAt S l w):=by
 obtain ⟨ix,hi,hz,h1,h2⟩:=info_parts (show (Tryz.prog.info? 124).map (fun i=>(i.zero,i.size,i.bytes))=some (some (.agg #[.string ⟨#[]⟩,.int .i64 0]),2,24) from by kernel_rfl)
 obtain ⟨A,_,rfl,hl,hc,_,hs⟩:=h
 unfold maxLen at hc
 have q22:=zPz
 rcases A with _ | ad
 ·obtain rfl:l=[]:=by
   cases l with
   | nil=>rfl
   | cons x r=>obtain ⟨_,_,_,h,_⟩:=hs 0 x rfl;cases h
  clear hs
  go_enter Tryz.func79,Tryz.ntmps79
  go_wp2
  go_ret
  exact ⟨⟨_,[],rfl,RowC.nil _,All2.nil,fun b hb=>by cases hb⟩,Below.refl _ _⟩
 have hsl:SlAt 2 rAt (z12 (fun b=>¬S b) (w.alloc (.cells #[] 124)) (.slice (some ⟨w.heap.size,0,none⟩) 0 0)) (w.alloc (.cells #[] 124)) (some ad) l:=
  hs.keep Z8 (by decide) (fun b hb hl=>⟨⟨by simp;omega,fun h=>h hb,fun hb'=>by simp only [Value.ownBlock,Option.some.injEq] at hb';omega⟩,heap_alloc_old _ _ hl⟩)
 clear hs
 go_enter Tryz.func79,Tryz.ntmps79
 go_wp2_with (at_builtin;go_loud (refine yQ (R:=rAt) _ rfl (.tmp 5) (.tmp 6) 121 rfl 124 ix _ 2 24 Tryz.underlying121 hi hz h1 h2 rfl (by decide) Z8 w.heap.size (by go_size) _ _ rfl (Grow.empty (heap_alloc_new _ _) (znl _)) _ _ _ rfl _ rfl hsl (by simp;omega) (by decide) ?_);intro v1 w1 g1 gg1 go1;rw [List.nil_append] at g1;obtain ⟨_,_,_,rfl,hn1⟩:=g1.shape';clear hn1)
 go_ret
 obtain ⟨cells,k1,k2,k3⟩:=Grow.toRow Z8 (by decide) g1 fun b hb=>Classical.byContradiction hb
 exact ⟨⟨_,cells,rfl,k1,k2,k3⟩,Below.grown (Below.alloc zbr (znl _) _) gg1 (by simp) fun b hb=>by have:=zsi (show some w.heap.size=some b from hb);omega⟩
theorem zHe (w:World) (a:Option Addr) (n c:Nat):(binOp .eql 76 (.slice a n c) (.slice none 0 0)).run Tryz.prog w= .ok (.bool a.isNone) w:=by
 simp only [binOp]
 simp [run_equal_slice_nil w _ _ a n c Tryz.underlying76]
theorem zEz (l:List Version) (v:Value) (w:World) (S:Nat->Prop) (h:Sl 4 yB S w v l) (hl0:l.length<=10000):
  Calls Tryz.prog 80 #[v] w (z0v 80 4 yB S l w):=by
 obtain ⟨ix,hi,hz,h1,h2⟩:=info_parts (show (Tryz.prog.info? 80).map (fun i=>(i.zero,i.size,i.bytes))=some (some (.agg #[.int .i64 0,.bool false,.string ⟨#[]⟩,.slice none 0 0]),4,56) from by kernel_rfl)
 obtain ⟨A,_,rfl,hl,hc,_,hs⟩:=h
 unfold maxLen at hc
 have q22:=zHe
 rcases A with _ | ad
 ·obtain rfl:l=[]:=by
   cases l with
   | nil=>rfl
   | cons x r=>obtain ⟨_,_,_,h,_⟩:=hs 0 x rfl;cases h
  clear hs
  go_enter Tryz.func80,Tryz.ntmps80
  go_wp2
  go_ret
  exact ⟨⟨_,[],rfl,RowC.nil _,All2.nil,fun b hb=>by cases hb⟩,Below.refl _ _⟩
 have hsl:SlAt 4 yB (z12 (fun b=>¬S b) (w.alloc (.cells #[] 80)) (.slice (some ⟨w.heap.size,0,none⟩) 0 0)) (w.alloc (.cells #[] 80)) (some ad) l:=
  hs.keep z1y (by decide) (fun b hb hl=>⟨⟨by simp;omega,fun h=>h hb,fun hb'=>by simp only [Value.ownBlock,Option.some.injEq] at hb';omega⟩,heap_alloc_old _ _ hl⟩)
 clear hs
 go_enter Tryz.func80,Tryz.ntmps80
 go_wp2_with (at_builtin;go_loud (refine yQ (R:=yB) _ rfl (.tmp 5) (.tmp 6) 76 rfl 80 ix _ 4 56 Tryz.underlying76 hi hz h1 h2 rfl (by decide) z1y w.heap.size (by go_size) _ _ rfl (Grow.empty (heap_alloc_new _ _) (znl _)) _ _ _ rfl _ rfl hsl (by simp;omega) (by decide) ?_);intro v1 w1 g1 gg1 go1;rw [List.nil_append] at g1;obtain ⟨_,_,_,rfl,hn1⟩:=g1.shape';clear hn1)
 go_ret
 obtain ⟨cells,k1,k2,k3⟩:=Grow.toRow z1y (by decide) g1 fun b hb=>Classical.byContradiction hb
 exact ⟨⟨_,cells,rfl,k1,k2,k3⟩,Below.grown (Below.alloc zbr (znl _) _) gg1 (by simp) fun b hb=>by have:=zsi (show some w.heap.size=some b from hb);omega⟩
end Go.Proofs.YtdggplhnfhcieaaGreatDoor
