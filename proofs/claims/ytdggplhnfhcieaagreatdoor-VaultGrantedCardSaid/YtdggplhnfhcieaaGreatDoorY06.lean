/- Part 6 of the proof of vaultGranted_holds. No condition. -/
import Derived.Test.YtdggplhnfhcieaaGreatDoorY04
set_option linter.unusedVariables false
set_option linter.unusedSimpArgs false
set_option linter.unusedSectionVars false
set_option maxRecDepth 100000
namespace Go.Proofs.YtdggplhnfhcieaaGreatDoor
open Go.RowKit Go.Deep
section
section
variable {X:Nat->Prop} {base bw:Nat} {W W1:World} {R:RM} {c:Call} {dv:Value} {st:State} {done late:Bool}
def foAt (R:RM) (i g o:Nat):Prop:=∃n cap off,(R .fo).v= .slice (some ⟨g,off,none⟩) n cap/\o=off+i*7
theorem WK.fat (h:WK X base bw W R c dv st done late) {i:Nat} {f:Folder} (hf:st.folders[i]? =some f):∃g o,foAt R i g o/\g≠bw/\g < W.heap.size/\(∀j u,(hdr R i f)[j]? =some u->W.cell? ⟨g,o+j,none⟩=some u)/\∀q,W.frozen? ⟨g,q,none⟩=false:=by
 obtain ⟨h1,_⟩:=h.is.fo i f hf
 obtain ⟨g,off,_,hv,_,_,hg,hc,hz⟩:=(h.os.row .fo).at h1
 exact ⟨g,off+i*7,⟨_,_,_,hv,rfl⟩,fun e=>h.nb ⟨.fo,by rw [hv,<-e];rfl⟩,hg,hc,hz⟩
theorem foAt.row {i g o:Nat} (h:foAt R i g o):yS R g:=by
 obtain ⟨_,_,_,hv,_⟩:=h
 exact ⟨.fo,by rw [hv];rfl⟩
theorem WK.sub (h:WK X base bw W R c dv st done late) {i g o:Nat} {f f':Folder} (hf:st.folders[i]? =some f) (ha:foAt R i g o) {k:RK} {r:Row} {j:Nat} (hk:k≠ .us/\k≠ .de/\k≠ .fo) (hj:j < 7)
  (o1:OS base W1 (zK R k r)) (m1:Mut bw R W (zK R k r) W1) (b1:W1.heap[bw]? =W.heap[bw]?) {u:Value} (hu:u.oneCell'=true)
  (is:Kept (Imm X bw R W) (Imm X bw (zK (zK R k r) .fo (ZP R i ((hdr R i f).set j u))) (W1.setCell ⟨g,o+j,none⟩ u)) W (W1.setCell ⟨g,o+j,none⟩ u)->
   IsSt (Imm X bw (zK (zK R k r) .fo (ZP R i ((hdr R i f).set j u))) (W1.setCell ⟨g,o+j,none⟩ u)) (W1.setCell ⟨g,o+j,none⟩ u) (zK (zK R k r) .fo (ZP R i ((hdr R i f).set j u))) { st with folders:=st.folders.set i f' }):
  WK X base bw (W1.setCell ⟨g,o+j,none⟩ u) (zK (zK R k r) .fo (ZP R i ((hdr R i f).set j u))) c dv { st with folders:=st.folders.set i f' } done late/\
  Mut bw R W (zK (zK R k r) .fo (ZP R i ((hdr R i f).set j u))) (W1.setCell ⟨g,o+j,none⟩ u):=by
 obtain ⟨_,_,off,hv,rfl⟩:=ha
 have hfo:zK R k r .fo=R .fo:=ZM R r hk.2.2.symm
 have hrow:=o1.row .fo
 rw [hfo,hv] at hrow
 obtain ⟨h1,_⟩:=h.is.fo i f hf
 have hw:=hrow.write (by decide:0 < RK.fo.sz) h1 (show j < RK.fo.sz from hj) u hu
 have hg:yS R g:=⟨.fo,by rw [hv];rfl⟩
 obtain ⟨o2,m2⟩:=o1.put (bw:=bw) (W':=W1.setCell ⟨g,off+i*7+j,none⟩ u) (Nat.le_trans h.base_le m1.but.size) .fo (ZP R i ((hdr R i f).set j u))
  ((ButB.refl _ W1).set ⟨g,off+i*7+j,none⟩ u (by rw [hfo,hv];rfl)) (by unfold ZP;rw [hv];exact hw) (by have:=h.os.len .fo;simpa [ZP] using this) (fun b hb=> .inl (by rw [hfo];exact hb))
 have m:=m1.trans m2
 refine ⟨h.turn m o2 (is m.kept) ?_,m⟩
 rw [Below.heap_setCell _ _ _ _ fun e=>h.nb (by rw [show bw=g from e];exact hg),b1,h.box]
 have e1:(zK (zK R k r) .fo (ZP R i ((hdr R i f).set j u))) .us=R .us:=by rw [ZM _ _ (by decide),ZM _ _ hk.1.symm]
 have e2:(zK (zK R k r) .fo (ZP R i ((hdr R i f).set j u))) .de=R .de:=by rw [ZM _ _ (by decide),ZM _ _ hk.2.1.symm]
 have e3:((zK (zK R k r) .fo (ZP R i ((hdr R i f).set j u))) .fo).v=(R .fo).v:=by rw [yJ];rfl
 unfold z27
 rw [e1,e2,e3]
theorem WK.fturn (h:WK X base bw W R c dv st done late) {i g o:Nat} {f:Folder} (hf:st.folders[i]? =some f) (ha:foAt R i g o) {n:Int} (hn:I64 n):
  WK X base bw (W.setCell ⟨g,o+1,none⟩ (.int .i64 n)) (zK R .fo (ZP R i ((hdr R i f).set 1 (.int .i64 n)))) c dv { st with folders:=st.folders.set i { f with turn:=n } } done late/\
  Mut bw R W (zK R .fo (ZP R i ((hdr R i f).set 1 (.int .i64 n)))) (W.setCell ⟨g,o+1,none⟩ (.int .i64 n)):=by
 obtain ⟨_,_,off,hv,rfl⟩:=ha
 have hrow:=h.os.row .fo
 rw [hv] at hrow
 obtain ⟨h1,_⟩:=h.is.fo i f hf
 have hw:=hrow.write (by decide:0 < RK.fo.sz) h1 (show 1 < RK.fo.sz by decide) (.int .i64 n) rfl
 have hg:yS R g:=⟨.fo,by rw [hv];rfl⟩
 obtain ⟨o2,m⟩:=h.os.put (bw:=bw) (W':=W.setCell ⟨g,off+i*7+1,none⟩ (.int .i64 n)) h.base_le .fo (ZP R i ((hdr R i f).set 1 (.int .i64 n)))
  ((ButB.refl _ W).set ⟨g,off+i*7+1,none⟩ _ (by rw [hv];rfl)) (by unfold ZP;rw [hv];exact hw) (by have:=h.os.len .fo;simpa [ZP] using this) (fun b hb=> .inl hb)
 refine ⟨h.turn m o2 (h.is.fTurn hf m.kept hn) ?_,m⟩
 rw [Below.heap_setCell _ _ _ _ fun e=>h.nb (by rw [show bw=g from e];exact hg),h.box]
 have e1:(zK R .fo (ZP R i ((hdr R i f).set 1 (.int .i64 n)))) .us=R .us:=ZM _ _ (by decide)
 have e2:(zK R .fo (ZP R i ((hdr R i f).set 1 (.int .i64 n)))) .de=R .de:=ZM _ _ (by decide)
 have e3:((zK R .fo (ZP R i ((hdr R i f).set 1 (.int .i64 n)))) .fo).v=(R .fo).v:=by rw [yJ];rfl
 unfold z27
 rw [e1,e2,e3]
theorem foAt.keep {R':RM} {i g o:Nat} (h:foAt R i g o) (e:(R' .fo).v=(R .fo).v):foAt R' i g o:=by
 obtain ⟨n,cap,off,hv,rfl⟩:=h
 exact ⟨n,cap,off,e.trans hv,rfl⟩
end
end
end Go.Proofs.YtdggplhnfhcieaaGreatDoor
