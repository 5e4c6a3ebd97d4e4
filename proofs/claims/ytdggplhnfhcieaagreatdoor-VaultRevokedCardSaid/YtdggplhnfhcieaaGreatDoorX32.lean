/- No condition. -/
import Derived.Deep.CutBlock
import Derived.Test.YtdggplhnfhcieaaGreatDoorX30
import Derived.Test.YtdggplhnfhcieaaGreatDoorX31
set_option linter.all false
set_option maxRecDepth 100000
set_option maxHeartbeats 16000000
namespace Go.Proofs.YtdggplhnfhcieaaGreatDoor
open Go.RowKit Go.Deep
section
section
variable {X:Nat->Prop} {base bw:Nat} {W W1:World} {R R1:RM} {c:Call} {dv:Value} {st:State} {done late:Bool}
theorem WK.sub2 (h:WK X base bw W R c dv st done late) {i g o:Nat} {f f':Folder} (hf:st.folders[i]? =some f) (ha:foAt R i g o) {j:Nat} (hus:R1 .us=R .us) (hde:R1 .de=R .de) (hfo:R1 .fo=R .fo) (hj:j < 7)
  (o1:OS base W1 R1) (m1:Mut bw R W R1 W1) (b1:W1.heap[bw]? =W.heap[bw]?) {u:Value} (hu:u.oneCell'=true)
  (is:Kept (Imm X bw R W) (Imm X bw (zL R1 .fo (ZY R i ((hdr R i f).set j u))) (W1.setCell ⟨g,o+j,none⟩ u)) W (W1.setCell ⟨g,o+j,none⟩ u)->
   IsSt (Imm X bw (zL R1 .fo (ZY R i ((hdr R i f).set j u))) (W1.setCell ⟨g,o+j,none⟩ u)) (W1.setCell ⟨g,o+j,none⟩ u) (zL R1 .fo (ZY R i ((hdr R i f).set j u))) { st with folders:=st.folders.set i f' }):
  WK X base bw (W1.setCell ⟨g,o+j,none⟩ u) (zL R1 .fo (ZY R i ((hdr R i f).set j u))) c dv { st with folders:=st.folders.set i f' } done late/\
  Mut bw R W (zL R1 .fo (ZY R i ((hdr R i f).set j u))) (W1.setCell ⟨g,o+j,none⟩ u):=by
 obtain ⟨_,_,off,hv,rfl⟩:=ha;have hrow:=o1.row .fo;rw [hfo,hv] at hrow;obtain ⟨h1,_⟩:=h.is.fo i f hf;have hw:=hrow.write (by decide:0 < RK.fo.sz) h1 (show j < RK.fo.sz from hj) u hu;have hg:Y7 R g:=⟨.fo,by rw [hv];rfl⟩;obtain ⟨o2,m2⟩:=o1.put (bw:=bw) (W':=W1.setCell ⟨g,off+i*7+j,none⟩ u) (qNtx h.base_le m1.but.size) .fo (ZY R i ((hdr R i f).set j u))
  ((ButB.refl _ W1).set ⟨g,off+i*7+j,none⟩ u (by rw [hfo,hv];rfl)) (by unfold ZY;rw [hv];exact hw) (by have:=h.os.len .fo;simpa [ZY] using this) (fun b hb=> .inl (by rw [hfo];exact hb))
 have m:=m1.trans m2;refine ⟨h.turn m o2 (is m.kept) ?_,m⟩;rw [Below.heap_setCell _ _ _ _ fun e=>h.nb (by rw [show bw=g from e];exact hg),b1,h.box];have e1:(zL R1 .fo (ZY R i ((hdr R i f).set j u))) .us=R .us:=by rw [ZQ _ _ (by decide),hus]
 have e2:(zL R1 .fo (ZY R i ((hdr R i f).set j u))) .de=R .de:=by rw [ZQ _ _ (by decide),hde]
 have e3:((zL R1 .fo (ZY R i ((hdr R i f).set j u))) .fo).v=(R .fo).v:=by rw [yU];rfl
 unfold z35;rw [e1,e2,e3]
theorem WK.itTo (h:WK X base bw W R c dv st done late) {k g o:Nat} (hk:k < st.folders.length) (ha:foAt R k g o) {v':Value} {s:Nm} (hs:s.size<=140737488355328) (hlen:(fo st k).items.length<=9999) (hr:RowC 78 2 W1 v' ((R (.it k)).cells++[([.string s,.slice none 0 0]:List Value)])) (hb:ButB (fun z=>(R (.it k)).v.ownBlock=some z) W W1)
  (ho:v'.ownBlock=(R (.it k)).v.ownBlock\/∃k,v'.ownBlock=some k/\W.heap.size<=k) (hone:v'.oneCell'=true):
  Wrote X base bw W R c dv late (setF st k { fo st k with items:=(fo st k).items++[⟨s,[]⟩] }) done (W1.setCell ⟨g,o+4,none⟩ v'):=by
 have hf:=ZO hk;have hcl:(R (.it k)).cells.length=(fo st k).items.length:=(h.is.fo k _ hf).2.itl;obtain ⟨o1,m1,b1,_⟩:=h.put (W':=W1) (.it k) ⟨v',(R (.it k)).cells++[([.string s,.slice none 0 0]:List Value)]⟩ hb hr (by simp;omega) (fun b hb=>ho.imp (fun e=>by rw [<-e];exact hb) fun ⟨k2,e,hk2⟩=>by
  rw [show v'.ownBlock=some b from hb] at e;obtain rfl:=zsi e;exact hk2)
 obtain ⟨o2,m2⟩:=o1.put (bw:=bw) (W':=W1) (qNtx h.base_le m1.but.size) (.ve k (fo st k).items.length) ⟨.slice none 0 0,[]⟩ (ButB.refl _ _) (RowC.nil _) (by simp) (fun b hb=>by cases hb);obtain ⟨h8,m8⟩:=h.sub2 hf ha (j:=4) (u:=v') (f':={ fo st k with items:=(fo st k).items++[⟨s,[]⟩] }) (by rw [ZQ _ _ (by simp),ZQ _ _ (by simp)]) (by rw [ZQ _ _ (by simp),ZQ _ _ (by simp)]) (by rw [ZQ _ _ (by simp),ZQ _ _ (by simp)]) (by omega) o2 (m1.trans m2) b1 hone fun kp=>h.is.itNew (r:=⟨v',(R (.it k)).cells++[([.string s,.slice none 0 0]:List Value)]⟩) hf kp hs rfl
 exact ⟨_,h8,m8,by rw [yU];rfl⟩
end
theorem VInv.smF {n:Nat} {st:State} (h:VInv n st) (hn:n<=41):SmF st:=fun f hf=>by
 have hF:=h.fol f hf;obtain ⟨k,hk,rfl⟩:∃k,k < st.folders.length/\fo st k=f:=by
  obtain ⟨k,hk,e⟩:=List.getElem_of_mem hf;exact ⟨k,hk,by unfold fo;rw [qLgx hk,e];rfl⟩
 obtain ⟨_,_,_,_,_,_,_,_⟩:=z8j h hn hk;exact ⟨by have:=hF.nm;omega,by omega,hF.man,by omega⟩
theorem Mut.block {X:Nat->Prop} {bw:Nat} {W W':World} {R R':RM} (m:Mut bw R W R' W') {b:Nat} (hb:Imm X bw R W b):W'.heap[b]? =W.heap[b]?/\Imm X bw R' W' b:=by
 obtain ⟨h1,h2⟩:=m.kept (X:=X) b hb hb.1;exact ⟨h2,h1⟩
end
section
theorem zTy {α:Type} {sz:Nat} {Q:Rp α} {S:Nat->Prop} {w:World} {g:Nat} {T:TypeId} {cs:List Value} {x:α} (hb:w.heap[g]? =some (.cells cs.toArray T (0,0))) (hS:S g) (hl:cs.length=sz) (hq:Q S w cs x):Sl sz Q S w (.slice (some ⟨g,0,none⟩) 1 1) [x]:=by
 refine ⟨_,_,rfl,by simp,by decide,by simp,fun i y hi=>?_⟩;have h0:i=0:=by have:=(zge hi).1;simpa using this
 subst h0;obtain rfl:x=y:=by simpa using hi
 refine ⟨g,0,cs,rfl,hS,hl,fun j u hj=>?_,hq⟩;rw [show 0+(0*sz+j)=j by omega];exact (zD hb).1 j u (by rw [List.getElem?_toArray];exact hj)
theorem zIp {w:World} {e:TypeId} {sz g:Nat} {cs:List Value} (hb:w.heap[g]? =some (.cells cs.toArray e (0,0))) (hl:cs.length=sz) (ho:∀u∈cs,u.oneCell'=true):RowC e sz w (.slice (some ⟨g,0,none⟩) 1 1) [cs]:=
 ⟨fun x hx=>by rw [zml hx];exact ⟨hl,ho⟩,.inr ⟨g,0,1,cs.toArray,rfl,hb,by simp,by decide,by simp [hl],fun q u hq=>by
  rw [List.flatten_singleton] at hq;rw [Nat.zero_add,List.getElem?_toArray];exact hq⟩⟩
section
variable {X:Nat->Prop} {base bw:Nat} {W W1 w1:World} {R:RM} {c:Call} {dv:Value} {st:State} {done late:Bool}
theorem OS.clear (h:OS base W R) (hb:base<=W.heap.size) (k:RK):OS base W (zL R k ⟨.slice none 0 0,[]⟩)/\Mut bw R W (zL R k ⟨.slice none 0 0,[]⟩) W:=
 h.put (bw:=bw) (W':=W) hb k ⟨.slice none 0 0,[]⟩ (ButB.refl _ _) (RowC.nil _) (by simp) (fun b hb=>by cases hb)
theorem WK.foMore (h:WK X base bw W R c dv st done late) (hB:Below W.heap.size W W1) {ma:Row} (hma:RowC 84 8 W1 ma.v ma.cells) (hmo:∀b,ma.v.ownBlock=some b->W.heap.size<=b) {v8:Value} {f:Folder}
  (hfl:st.folders.length<=9999) (hr:RowC 74 7 w1 v8 ((R .fo).cells++[([.string f.name,.int .i64 f.turn,ma.v,.slice none 0 0,.slice none 0 0,.slice none 0 0,.slice none 0 0]:List Value)]))
  (hb:ButB (fun z=>(R .fo).v.ownBlock=some z) W1 w1) (ho:v8.ownBlock=(R .fo).v.ownBlock\/∃k,v8.ownBlock=some k/\W1.heap.size<=k)
  (hn:f.name.size<=140737488355328) (ht:I64 f.turn) (he:f.epochs=[]/\f.items=[]/\f.wraps=[]/\f.links=[]) (hx:All2 (ZR (Imm X bw R W) W) ma.cells f.manifests) (hml:f.manifests.length<=10000):
  ∃R',WK X base bw (w1.setCell ⟨bw,11,none⟩ v8) R' c dv { st with folders:=st.folders++[f] } done late/\Mut bw R W R' (w1.setCell ⟨bw,11,none⟩ v8)/\(R' .fo).v=v8:=by
 have hb1:base<=W1.heap.size:=qNtx h.base_le hB.size;obtain ⟨o1,m1⟩:=h.os.put (bw:=bw) (W':=W1) h.base_le (.ma st.folders.length) ma (ButB.of hB) hma (by rw [hx.1];exact hml) fun b hb=> .inr (hmo b hb)
 obtain ⟨o2,m2⟩:=o1.clear (bw:=bw) hb1 (.ep st.folders.length);obtain ⟨o3,m3⟩:=o2.clear (bw:=bw) hb1 (.it st.folders.length);obtain ⟨o4,m4⟩:=o3.clear (bw:=bw) hb1 (.wr st.folders.length);obtain ⟨o5,m5⟩:=o4.clear (bw:=bw) hb1 (.li st.folders.length);have e5:(zL (zL (zL (zL (zL R (.ma st.folders.length) ma) (.ep st.folders.length) ⟨.slice none 0 0,[]⟩) (.it st.folders.length) ⟨.slice none 0 0,[]⟩) (.wr st.folders.length) ⟨.slice none 0 0,[]⟩) (.li st.folders.length) ⟨.slice none 0 0,[]⟩) .fo=R .fo:=by simp [zL]
 obtain ⟨o6,m6⟩:=o5.put (bw:=bw) (W':=w1) hb1 .fo ⟨v8,(R .fo).cells++[([.string f.name,.int .i64 f.turn,ma.v,.slice none 0 0,.slice none 0 0,.slice none 0 0,.slice none 0 0]:List Value)]⟩ (by rw [e5];exact hb) hr (by simp [h.is.fol];omega) (fun b hb=>by
  rw [e5];exact ho.imp (fun e=>by rw [<-e];exact hb) fun ⟨k2,e,hk2⟩=>by
   rw [show v8.ownBlock=some b from hb] at e;obtain rfl:=zsi e;exact hk2)
 have m:=m1.trans (m2.trans (m3.trans (m4.trans (m5.trans m6))));generalize hR:zL (zL (zL (zL (zL (zL R (.ma st.folders.length) ma) (.ep st.folders.length) ⟨.slice none 0 0,[]⟩) (.it st.folders.length) ⟨.slice none 0 0,[]⟩) (.wr st.folders.length) ⟨.slice none 0 0,[]⟩) (.li st.folders.length) ⟨.slice none 0 0,[]⟩) .fo ⟨v8,(R .fo).cells++[([.string f.name,.int .i64 f.turn,ma.v,.slice none 0 0,.slice none 0 0,.slice none 0 0,.slice none 0 0]:List Value)]⟩=R' at o6 m6 m;have hnr:¬Y7 R' bw:=fun e=>(m.fresh bw e).elim h.nb fun hl=>by have:=h.lt;omega
 have m7:Mut bw R' w1 R' (w1.setCell ⟨bw,11,none⟩ v8):=⟨(ButB.refl _ w1).set ⟨bw,11,none⟩ v8 (.inl rfl),fun _ h=> .inl h⟩;have m8:=m.trans m7;have r1:R' .us=R .us:=by rw [<-hR];simp [zL]
 have r2:R' .de=R .de:=by rw [<-hR];simp [zL]
 have r3:R' .fo=⟨v8,(R .fo).cells++[([.string f.name,.int .i64 f.turn,ma.v,.slice none 0 0,.slice none 0 0,.slice none 0 0,.slice none 0 0]:List Value)]⟩:=by rw [<-hR];simp [zL]
 have r4:R' (.ma st.folders.length)=ma:=by rw [<-hR];simp [zL]
 have r5:R' (.ep st.folders.length)=⟨.slice none 0 0,[]⟩/\R' (.it st.folders.length)=⟨.slice none 0 0,[]⟩/\R' (.wr st.folders.length)=⟨.slice none 0 0,[]⟩/\R' (.li st.folders.length)=⟨.slice none 0 0,[]⟩:=by rw [<-hR];simp [zL]
 have r6:∀i',i'≠st.folders.length->R' (.ma i')=R (.ma i')/\R' (.ep i')=R (.ep i')/\R' (.it i')=R (.it i')/\R' (.wr i')=R (.wr i')/\R' (.li i')=R (.li i')/\∀j,R' (.ve i' j)=R (.ve i' j):=fun i' hi=>by
  rw [<-hR];simp [zL,hi]
 have r7:∀j,R' (.ve st.folders.length j)=R (.ve st.folders.length j):=fun j=>by rw [<-hR];simp [zL]
 clear hR;refine ⟨R',h.turn m8 (o6.to fun b hb=>Below.heap_setCell _ _ _ _ fun e=>hnr (by rw [<-show b=bw from e];exact hb)) (h.is.snocF m8.kept r1 r2 r6 ?_ ?_) ?_,m8,by rw [r3]⟩
 ·rw [r3];unfold hdr;rw [r4,r5.1,r5.2.1,r5.2.2.1,r5.2.2.2]
 ·refine ⟨hn,ht,?_,?_,?_,fun j x hj=>?_,?_,?_⟩
  ·rw [r4];exact hx.imp fun _ _ e=>YF e m8.kept
  ·rw [r5.1,he.1];exact All2.nil
  ·rw [r5.2.1,he.2.1];rfl
  ·rw [he.2.1] at hj;simp at hj
  ·rw [r5.2.2.1,he.2.2.1];exact All2.nil
  rw [r5.2.2.2,he.2.2.2];exact All2.nil
 refine zI v8 ((hb.block bw (by have:=h.lt;have:=hB.size;omega) fun e=>h.nb ⟨.fo,e⟩).trans ((hB.block bw h.lt).trans h.box)) ?_;unfold z35;rw [r1,r2,r3];rfl
theorem WK.epPut (h:WK X base bw W R c dv st done late) {k g o:Nat} (hk:k < st.folders.length) (ha:foAt R k g o) {r:Row} {l:List Epoch} (hlen:l.length<=9999) (hr:RowC 130 5 w1 r.v r.cells) (hb:Below W.heap.size W w1)
  (ho:∀b,r.v.ownBlock=some b->W.heap.size<=b) (hone:r.v.oneCell'=true) (hx:All2 (z02 (Imm X bw R W) W) r.cells l):
  Wrote X base bw W R c dv late (setF st k { fo st k with epochs:=l }) done (w1.setCell ⟨g,o+3,none⟩ r.v):=by
 have hf:=ZO hk;obtain ⟨o1,m1,b1,_⟩:=h.put (W':=w1) (.ep k) r (ButB.of hb) hr (by rw [hx.1];omega) (fun b hb=> .inr (ho b hb));obtain ⟨h8,m8⟩:=h.sub hf ha (k:= .ep k) (j:=3) (u:=r.v) (f':={ fo st k with epochs:=l }) ⟨by simp,by simp,by simp⟩ (by omega) o1 m1 b1 hone fun kp=>h.is.epRow (r:=r) hf kp (hx.imp fun _ _ e=>z30 e kp)
 exact ⟨_,h8,m8,by rw [yU];rfl⟩
end
end
section
theorem zOt {l:List Member} {name:Nm} {role:Int} (hp:l.Pairwise Ro.LtM) (hr:∀m∈l,Ro.isOf m.role=true) (h0:role≠0) (h:Ro.ofOf l name=role):Ro.withOf l name role=l:=by
 rcases Ro.atOf_cases name l 0 with ⟨_,e⟩ | ⟨i,m,_,hi,e,hx⟩
 ·rw [h] at e;exact absurd e h0
 rw [<-Ro.set_with h0 hp hi hx];have hm:(⟨m.name,role⟩:Member)=m:=by rw [<-h,e]
 rw [hm];exact List.set_eq_self_of hi
theorem zT6 {l:List Member} {name:Nm} {role:Int} (h:Ro.withOf l name role=l):Ro.ofOf l name=role:=by
 have:=Ro.of_with_same (name:=name) (role:=role) (l:=l);rwa [h] at this
def zMm (c:Call) (l:List Member) (w:World) (e:Ending) (w':World):Prop:=
 (∃v' l',e= .returned (.tuple #[v',.int .i64 (yM c l)])/\Sl 2 zY (fun b=>w.heap.size<=b) w' v' l'/\(yM c l=0->l'=Ro.withOf l c.other c.role))/\Below w.heap.size w w'
section
variable {c:Call} {l:List Member} {v:Value} {w:World} {S:Nat->Prop}
theorem zOu (hc:CallOk c) (hk:c.kind=5) (hr:I64 c.role) (hR:Ro.rightOf l=true) (h:Sl 2 zY S w v l) (hl:l.length<=100000):
  Calls Tryz.prog 138 #[v,.string c.user,.string c.other,.int .i64 c.role] w (zMm c l w):=by
 have ho:=hc.oth (by omega) (by omega);have hro:=hc.role (.inl hk);have hRL:=(Ro.right_iff l).1 hR;refine (Ro.share_any l c.user c.other c.role (by have:=hc.o20;omega) hr v w S h hl).mono ?_;rintro e _ ⟨⟨v',l',k,rfl,hk2,hs,hcase⟩,hb⟩;have hD:k=Ro.shareD l c.user c.other c.role:=hk2.trans (Ro.share_err l c.user c.other c.role);have hE:k=yM c l:=by
  rw [hD];unfold Ro.shareD yM;rw [if_pos hk,hR,ho,if_neg (by unfold Ro.isOf;simp [hro.1,hro.2])]
 refine ⟨⟨v',l',by rw [hE],hs,fun h0=>?_⟩,hb⟩;rcases hcase with ⟨e,_⟩ | ⟨_,p1,p2⟩
 ·exact absurd (hE.trans h0) e
 have hz:=Ro.shareD_zero (hD.symm.trans (hE.trans h0));refine Ro.share_with (by omega) hRL.sorted (Ro.of_none (fun m hm=>(hRL.each m hm).2) ?_) p1 p2;rcases Ro.of_pos (fun m hm=>(hRL.each m hm).2) c.other with ⟨_,e⟩ | ⟨_,e,_⟩
 ·exact e
 have:=hz.2.2.2.1;omega
theorem zMn (hc:CallOk c) (hk:c.kind=6) (hr:I64 c.role) (hR:Ro.rightOf l=true) (h:Sl 2 zY S w v l) (hl:l.length<=100000):
  Calls Tryz.prog 139 #[v,.string c.user,.string c.other,.int .i64 c.role] w (zMm c l w):=by
 have ho:=hc.oth (by omega) (by omega);have hro:=hc.role (.inr hk);have hRL:=(Ro.right_iff l).1 hR;refine (Ro.change_any l c.user c.other c.role (by have:=hc.o20;omega) hr v w S h hl).mono ?_;rintro e _ ⟨⟨v',l',k,rfl,hk2,hs,hcase⟩,hb⟩;have hD:k=Ro.changeD l c.user c.other c.role:=hk2.trans (Ro.change_err l c.user c.other c.role);have hE:k=yM c l:=by
  rw [hD];unfold Ro.changeD yM;rw [if_neg (show ¬c.kind=5 by omega),if_pos hk,hR,ho,if_neg (by unfold Ro.isOf;simp [hro.1,hro.2])]
 refine ⟨⟨v',l',by rw [hE],hs,fun h0=>?_⟩,hb⟩;rcases hcase with ⟨e,_⟩ | ⟨_,i,x,hi,hx,rfl⟩
 ·exact absurd (hE.trans h0) e
 exact Ro.set_with (by omega) hRL.sorted hi hx
theorem zMo (hc:CallOk c) (hk:c.kind=7) (hR:Ro.rightOf l=true) (h:Sl 2 zY S w v l) (hl:l.length<=100000):
  Calls Tryz.prog 140 #[v,.string c.user,.string c.other] w (zMm c l w):=by
 have ho:=hc.oth (by omega) (by omega);have hRL:=(Ro.right_iff l).1 hR;refine (Ro.revoke_any l c.user c.other (by have:=hc.o20;omega) v w S h hl).mono ?_;rintro e _ ⟨⟨v',l',k,rfl,hk2,hs,hcase⟩,hb⟩;have hD:k=Ro.revokeD l c.user c.other:=hk2.trans (Ro.revoke_err l c.user c.other);have hE:k=yM c l:=by
  rw [hD];unfold Ro.revokeD yM;rw [if_neg (show ¬c.kind=5 by omega),if_neg (show ¬c.kind=6 by omega),hR,ho,if_neg (by simp)]
 refine ⟨⟨v',l',by rw [hE],hs,fun h0=>?_⟩,hb⟩;rw [hc.rol0 hk];rcases hcase with ⟨e,_⟩ | ⟨_,i,x,hi,hx,rfl⟩
 ·exact absurd (hE.trans h0) e
 exact Ro.erase_with hRL.sorted hi hx
theorem zIq (hc:CallOk c) (h5:5<=c.kind/\c.kind<=7) (hR:Ro.rightOf l=true) (h0:yM c l=0):(Ro.withOf l c.other c.role=l)↔Ro.ofOf l c.other=c.role:=by
 have hRL:=(Ro.right_iff l).1 hR;refine ⟨zT6,fun h=>?_⟩;by_cases k7:c.kind=7
 ·exfalso;have hz:Ro.revokeD l c.user c.other=0:=by
   unfold Ro.revokeD;unfold yM at h0;rw [if_neg (show ¬c.kind=5 by omega),if_neg (show ¬c.kind=6 by omega)] at h0;rw [hR,hc.oth (by omega) (by omega),if_neg (by simp)];exact h0
  have:=(Ro.revokeD_zero hz).2.2.1;rw [h,hc.rol0 k7] at this;exact this rfl
 have hro:=hc.role (by omega);exact zOt hRL.sorted (fun m hm=>(hRL.each m hm).2) (by omega) h
end
theorem zOv (l r:List Member) (v u:Value) (w:World) (S S':Nat->Prop) (h:Sl 2 zY S w v l) (k:Sl 2 zY S' w u r):
  Calls Tryz.prog 141 #[v,u] w fun e w'=>(∃bq:Bool,e= .returned (.bool bq)/\(bq=true↔l=r))/\Below w.heap.size w w':=by
 have eg:Tryz.prog.eqGuardType Tryz.prog.depth 87=false:=by kernel_rfl
 have sh:Tryz.prog.stoodInHeld 87=false:=by kernel_rfl
 have uf:=Tryz.underlying87;obtain ⟨_,_,rfl,_,hc,_,hs⟩:=h;obtain ⟨_,_,rfl,_,hc',_,hs'⟩:=k;unfold maxLen at hc hc';go_enter Tryz.func141,Tryz.ntmps141
 by_cases hlen:l.length=r.length
 rotate_left
 ·have hle:((l.length:Int)==(r.length:Int))=false:=beq_eq_false_iff_ne.2 (by omega);have EH:=zh (show ¬l=r from fun e=>hlen (by rw [e]));clear hlen;go_wp2;go_ret;exact ⟨⟨_,rfl,by simp [EH.out]⟩,Below.refl _ _⟩
 have hle:((l.length:Int)==(r.length:Int))=true:=beq_iff_eq.2 (by omega);have HLEN:=zh hlen;clear hlen;go_wp2;go_loopw [13] (fun i wr=>∃(q:Nat),q<=l.length/\i= .int .i64 q/\Hid (l.take q=r.take q)/\Below w.heap.size w wr) (fun i _=>l.length - (intOf i).toNat)
 case atStart=>exact ⟨0,by omega,by go_num,zh (show l.take 0=r.take 0 by simp),Below.refl _ _⟩
 obtain ⟨q,_,rfl,HN,hbel⟩:=hrel;by_cases hlt:q < l.length
 rotate_left
 ·obtain rfl:q=l.length:=by omega
  have EH:=zh (show l=r from (by
   have h1:=HN.out;rw [qLnx,HLEN.out,qLnx] at h1;exact h1))
  go_wp2;go_ret;exact ⟨⟨_,rfl,by simp [EH.out]⟩,hbel⟩
 have hltr:q < r.length:=by have:=HLEN.out;omega
 obtain ⟨x,_,_,hx,_,_,rfl,_,_,x0,x1,_⟩:=YW hs hlt (zK hbel);obtain ⟨y,_,_,hy,_,_,rfl,_,_,_,_,_⟩:=YW hs' hltr (zK hbel);have HX:=zh hx;have HY:=zh hy;clear hx hy;by_cases h1:x.name=y.name
 rotate_left
 ·have EH:=zh (show ¬l=r from fun e=>by
   rw [e] at HX;have:=HX.out.symm.trans HY.out;simp only [Option.some.injEq] at this;exact h1 (by rw [this]))
  have q1:(x.name.toList==y.name.toList)=false:=z03 h1;go_wp2_with fail
  go_quiet (fail)
  go_wp2;go_ret;exact ⟨⟨_,rfl,by simp [EH.out]⟩,z2j hbel _⟩
 by_cases h2:x.role=y.role
 ·have EH:=zh (show l.take (q+1)=r.take (q+1) by
   rw [qLtx,qLtx,HN.out,HX.out,HY.out];have:x=y:=by cases x;cases y;simp_all
   rw [this])
  rw [h1] at x0;rw [h2] at x1;go_wp2_with fail
  go_quiet (fail)
  go_wp2;go_roundw
  case rel=>exact ⟨q+1,by omega,by go_num,EH,z2j hbel _⟩
  case measure=>exact qMx
 have EH:=zh (show ¬l=r from fun e=>by
  rw [e] at HX;have:=HX.out.symm.trans HY.out;simp only [Option.some.injEq] at this;exact h2 (by rw [this]))
 have q2:(x.role==y.role)=false:=beq_eq_false_iff_ne.2 h2;rw [h1] at x0;go_wp2_with fail
 go_quiet (fail)
 go_wp2;go_ret;exact ⟨⟨_,rfl,by simp [EH.out]⟩,z2j hbel _⟩
end
section
section
variable {X:Nat->Prop} {base bw:Nat} {W W':World} {R R':RM} {c:Call} {dv:Value} {st:State} {done late:Bool}
theorem Mut.own (h:WK X base bw W R c dv st done late) (m:Mut bw R W R' W') {b:Nat} (hx:X b):W'.heap[b]? =W.heap[b]? :=m.but.block b (h.xl b hx) fun e=>h.nx b (e.symm.imp id id) hx
theorem zR2 {n k:Nat} (h:VInv n st) (hk:k < st.folders.length) (s who:Nm):∃f0,(if ZJ st s then YR st k who else st)=setF st k f0/\f0.name=(fo st k).name/\f0.manifests=(fo st k).manifests/\f0.items=(fo st k).items/\FInv n (st.users.map User.name) f0/\ZW f0<=ZW (fo st k)+1:=by
 by_cases hs:ZJ st s=true
 ·obtain ⟨f0,b1,b2,b3,b4,b5,_⟩:=zDm h hk who;exact ⟨f0,by rw [if_pos hs,b1],b2,b3,b4,b5,by omega⟩
 exact ⟨fo st k,by rw [if_neg hs,z7d],rfl,rfl,rfl,h.atF hk,by omega⟩
def z6k (st:State) (k:Nat) (s:Nm):Bool:=match z01 (fo st k) s with
 | none=>decide (32<=(fo st k).items.length)
 | some j=>decide (256<=(ZX (fo st k) j).versions.length)
def z21 (f1:Folder) (s:Nm):Option Nat->Folder
 | none=>{ f1 with items:=f1.items++[⟨s,[]⟩] }
 | some _=>f1
def z9j (f1:Folder) (i:Option Nat):Nat:=i.getD f1.items.length
theorem zT7 {f1:Folder} {i:Option Nat} (s:Nm) (who:Nm) (data:List Int) (hi:∀j,i=some j->f1.items[j]? =some (ZX f1 j)) {N:Nat} (hN:∀x∈f1.items,x.versions.length<=N):∃it,(z21 f1 s i).items[z9j f1 i]? =some it/\it.versions.length<=N/\(z21 f1 s i).epochs=f1.epochs/\(z21 f1 s i).turn=f1.turn/\
  ∀(st:State) (k:Nat),k < st.folders.length->z4b (setF st k f1) k i s ⟨0,false,who,data⟩=(setF st k { z21 f1 s i with items:=(z21 f1 s i).items.set (z9j f1 i) { it with versions:=it.versions++[⟨f1.epochs.length,false,who,data⟩] },turn:=f1.turn+1 },it.versions.length+1):=by
 cases i with
 | none=>
  refine ⟨⟨s,[]⟩,by simp [z21,z9j],Nat.zero_le _,rfl,rfl,fun st k hk=>?_⟩;unfold z4b;rw [Y3 hk];dsimp only;rw [z0n]
  simp [z21,z9j]
 | some j=>
  refine ⟨ZX f1 j,hi j rfl,hN _ (zmg (hi j rfl)),rfl,rfl,fun st k hk=>?_⟩;unfold z4b;rw [Y3 hk];dsimp only;rw [z0n];rfl
theorem zR3 (h:WK X base bw W R c dv st false late) {n k:Nat} (hI:VInv n st) (hn:n<=40) (hk:Z3 st c.folder=some k) (hdl:c.data.length<=10000):
  Calls Tryz.prog 92 #[.pointer (some ⟨bw,0,none⟩)] W (Did X base bw W R c dv late (z2s st c k)):=by
 obtain ⟨iItem,hiItem,hzItem,h1Item,h2Item⟩:=info_parts (show (Tryz.prog.info? 78).map (fun i=>(i.zero,i.size,i.bytes))=some (some (.agg #[.string ⟨#[]⟩,.slice none 0 0]),2,40) from by kernel_rfl);have HK:=zh hk;have HKL:=zh (z2i (YI hk));have HFI:=zh (hI.atF HKL.out);have HA2:=zh (z8j hI (by omega) HKL.out);have HVI:=zh hI;have HFS:=zh (Y9 (YI hk));obtain ⟨w0,hw0⟩:∃w0,W.alloc (.cells zV 49)=w0:=⟨_,rfl⟩;have hN:=yA W;rw [hw0] at hN;obtain ⟨hE,B0,T0,z0⟩:=hN;have H0:=hE R h;have HW:=zh H0;have HT0:=zh T0;have HB0:=zh B0;have hlt:=H0.lt;clear hE B0 T0;obtain ⟨A7,c7,e7,hkind,hus,hfol,hnam,hoth,hrol,hver,d1,d2,d3,d4⟩:=YQ H0.call;obtain rfl:dv= .slice A7 c.data.length c7:=by simpa [z3v] using e7
 have s0:=H0.cells.1 0 _ rfl;have s1:=H0.cells.1 1 _ rfl;have s2:=H0.cells.1 2 _ rfl;have s3:=H0.cells.1 3 _ rfl;have s4:=H0.cells.1 4 _ rfl;have s5:=H0.cells.1 5 _ rfl;have s6:=H0.cells.1 6 _ rfl;have s7:=H0.cells.1 7 _ rfl;obtain ⟨wA,hwA,cA,fA,BA,qA⟩:=zQ w0 #[.int .i64 c.kind,.string c.user,.string c.folder,.string c.name,.string c.other,.int .i64 c.role,.int .i64 c.version,.slice A7 c.data.length c7] 41;have HCB:=zh (zbx hwA);have HD:=zh (show Sl 1 YL (Imm (fun b=>X b\/b=W.heap.size) bw R w0) w0 (.slice A7 c.data.length c7) c.data from ⟨A7,c7,rfl,d1,by unfold maxLen;exact d2,d3,d4⟩);have HSZ:=zh (show c.user.size<=140737488355328/\c.folder.size<=140737488355328/\c.name.size<=140737488355328/\c.other.size<=140737488355328 from ⟨hus,hfol,hnam,hoth⟩);have HBA:=zh BA;have HWA:=zh (H0.below BA);have HIA:=zh (show Imm (fun b=>X b\/b=W.heap.size) bw R wA w0.heap.size from ⟨qA,fun e=>by have:=H0.lt;omega,fun e=>by have:=H0.os.lt e;omega,fun e=>by have:=H0.xl _ e;omega⟩);clear e7 hkind hus hfol hnam hoth hrol hver d1 d3 d4 cA fA BA;have HDL:=zh hdl;clear h hk H0 hI hdl;unfold zV at hw0;go_enter Tryz.func92,Tryz.ntmps92
 have k2:=(zD HCB.out).1 2 _ rfl;go_wp2_with fail
 refine zcm (yS HWA.out c.folder) ?_;rintro e1 w1 ⟨⟨hno,rfl⟩ | ⟨k',g,o,hk',ha,rfl⟩,B1⟩
 ·exact absurd (HK.out.symm.trans hno) (by simp)
 obtain rfl:_=k':=zsi (HK.out.symm.trans hk');have HB1:=zh B1;have HA:=zh ha;have H1:=zh (HWA.out.below B1);obtain ⟨D2,f2,D3,f3,D4,f4,D5,f5,D6,f6,eh,hF,u0,u1,u2,u3,u4,u5,u6,hg,gz⟩:=H1.out.fold (ZO HKL.out) ha;have HE:=zh eh;clear B1 hk' ha eh hF;clear s0 s1 s2 s3 s4 s5 s6 s7 k2;have HKB1:=zh ((HB1.out.block _ qA).trans HCB.out);have k3:=(zD HKB1.out).1 3 _ rfl;go_wp2_with fail
 refine zcm (z81 H1.out HKL.out HA.out c.name) ?_;rintro e2 w2 ⟨rfl,B2⟩;have HB2:=zh (zB HB1.out B2);have H2:=zh (HWA.out.below HB2.out);have v4:=(B2.cell (p:=⟨g,o+4,none⟩) hg).trans u4;have hg2:g < w2.heap.size:=zll hg B2.size;clear B2 u0 u1 u2 u3 u4 u5 u6 k3;go_wp2_with fail
 refine zcm (z5k H2.out HKL.out HA.out) ?_;rintro e3 w3 ⟨rfl,B3⟩;have HBA3:=zh (zB HB2.out B3);have HB3:=zh (zB HBA.out HBA3.out);have q4:=(B3.cell (p:=⟨g,o+4,none⟩) hg2).trans v4;have hg3:g < w3.heap.size:=zll hg2 B3.size;have H3:=zh (HW.out.below HB3.out);have HKB3:=zh ((HBA3.out.block _ qA).trans HCB.out);clear B3 v4;by_cases hr:yW st k c.user < 2
 ·have hgd:decide (yW st k c.user < 2)=true:=decide_eq_true hr;go_wp2_with fail
  refine zcm (ZK 40 w3) ?_;rintro eq wq ⟨rfl,Bq⟩;obtain ⟨BW,H2,K2,y0,y1,y2,y3,y4,y5,y6,yz⟩:=zW HB3.out Bq HW.out z0 HT0.out;clear Bq;unfold yD;go_wp2;try simp only [Exit.inBlock,Exit.then]
  obtain ⟨F1,F2⟩:=Z6 K2.out (.int .i64 40) (.int .i64 0) (.string ⟨#[]⟩) (.slice none 0 0) (.slice none 0 0) (.slice none 0 0) (.slice none 0 0);refine bodyPost_ret (zq rfl rfl F1 rfl) rfl ?_;rw [show (z2s st c k)=(st,ZF 40,false) from by unfold z2s;rw [if_pos hr]];exact Z7 H2.out (Mut.below (zB HB0.out BW.out)) (znl _) F2 (y8 ⟨by omega,by omega⟩)
 have hgd:decide (yW st k c.user < 2)=false:=decide_eq_false hr;have HR:=zh hr;clear hr;go_upto_region 6 with fail
 generalize hiv:iOf (z01 (fo st k) c.name)=iv;have HIV:=zh hiv;clear hiv;go_cut [24] from 25 to 50 (fun s24 wx=>s24= .bool (z6k st k c.name)/\wx=w3)
 case first=>
  cases hi:z01 (fo st k) c.name with
  | none=>
   have HX:=zh (show z6k st k c.name=decide (32<=(fo st k).items.length) by unfold z6k;rw [hi]);obtain rfl:iv= -1:=by rw [<-HIV.out,hi];rfl
   clear hi;by_cases hc:32<=(fo st k).items.length
   ·have hc2:decide (32<=((fo st k).items.length:Int))=true:=decide_eq_true (by omega);have HX2:=zh (show z6k st k c.name=true from HX.out.trans (decide_eq_true hc));clear hc HX;go_wp2;go_meet
    case rel=>exact ⟨by rw [HX2.out],rfl⟩
   have hc2:decide (32<=((fo st k).items.length:Int))=false:=decide_eq_false (by omega);have HX2:=zh (show z6k st k c.name=false from HX.out.trans (decide_eq_false hc));clear hc HX;go_wp2;go_meet
   case rel=>exact ⟨by rw [HX2.out],rfl⟩
  | some j=>
   have HIT:=zh (z5j hi);have HVL:=zh (show (ZX (fo st k) j).versions.length<=41 from qNtx (HFI.out.it _ (zmg HIT.out.1)).2.1 (by omega));have HX2:=zh (show z6k st k c.name=false by unfold z6k;rw [hi];exact decide_eq_false (by have:=HVL.out;omega));obtain ⟨gi,oi,ci,A3,c3,e1,c1,c2,hgi,i0,i1,hR⟩:=H3.out.itCells HKL.out HA.out HIT.out.1;have e4:=HE.out;simp only [hdr,List.cons.injEq] at e4;have e5:=e4.2.2.2.2.1.symm.trans e1;simp only [Value.slice.injEq] at e5;obtain ⟨rfl,_,rfl⟩:=e5;have hj:(j:Int) < ((fo st k).items.length:Int):=by have:=(zge HIT.out.1).1;omega
   have hc2:decide (256<=((ZX (fo st k) j).versions.length:Int))=false:=decide_eq_false (by have:=HVL.out;omega);obtain rfl:iv=(j:Int):=by rw [<-HIV.out,hi];rfl
   clear hi e4 e1 hR;go_wp2;go_meet
   case rel=>exact ⟨by rw [HX2.out],rfl⟩
 obtain ⟨rfl,hwc⟩:=hcut;subst hwc
 cases hfull:z6k st k c.name with
 | true=>
  go_wp2_with fail
  refine zcm (ZK 3 wc) ?_;rintro eq wq ⟨rfl,Bq⟩;obtain ⟨BW,H2,K2,y0,y1,y2,y3,y4,y5,y6,yz⟩:=zW HB3.out Bq HW.out z0 HT0.out;clear Bq;unfold yD;go_wp2;try simp only [Exit.inBlock,Exit.then]
  obtain ⟨F1,F2⟩:=Z6 K2.out (.int .i64 3) (.int .i64 0) (.string ⟨#[]⟩) (.slice none 0 0) (.slice none 0 0) (.slice none 0 0) (.slice none 0 0);refine bodyPost_ret (zq rfl rfl F1 rfl) rfl ?_;rw [show (z2s st c k)=(st,ZF 3,false) from by unfold z2s;rw [if_neg (by have:=HR.out;omega)];unfold z6k at hfull;split at hfull<;>rename_i hq<;>rw [hq]<;>dsimp only<;>rw [if_pos (of_decide_eq_true hfull)]]
  exact Z7 H2.out (Mut.below (zB HB0.out BW.out)) (znl _) F2 (y8 ⟨by omega,by omega⟩)
 | false=>
  have HFU:=zh hfull;have t8:=H3.out.cells.1 8 _ rfl;have t9:=H3.out.cells.1 9 _ rfl;have t10:=H3.out.cells.1 10 _ rfl;have t11:=H3.out.cells.1 11 _ rfl;have k2:=(zD HKB3.out).1 2 _ rfl;clear hfull q4;go_upto_region 8 with fail
  have HSQ:=zh (show ∀W':World,Below wc.heap.size wc W'->(fun W':World=>Below wc.heap.size wc W'/\W'.cell? ⟨bw,8,none⟩=some (.int .i64 st.turn)/\W'.cell? ⟨bw,9,none⟩=some ((R .us).v)/\W'.cell? ⟨bw,10,none⟩=some ((R .de).v)/\W'.cell? ⟨bw,11,none⟩=some ((R .fo).v)/\W'.cell? ⟨w0.heap.size,2,none⟩=some (.string c.folder)) W' from fun W' hW=>⟨hW,(hW.cell (p:=⟨bw,8,none⟩) (zF t8)).trans t8,(hW.cell (p:=⟨bw,9,none⟩) (zF t9)).trans t9,(hW.cell (p:=⟨bw,10,none⟩) (zF t10)).trans t10,(hW.cell (p:=⟨bw,11,none⟩) (zF t11)).trans t11,(hW.cell (p:=⟨w0.heap.size,2,none⟩) (zF k2)).trans k2⟩);refine zE (by kernel_rfl) HSQ.out (fun hHeld=>?_);refine zi 0 ?_;iterate 6 (refine zt hHeld ?_;simp only [zA])
  refine zo ?_;refine zr 6 fun K hK=>?_
  go_simp;go_at_call 144
  refine zcm (zGd st c.folder HSZ.out.2.1 _ _ (fun _=>True) (H3.out.below zbr.drew).state) ?_;rintro e3 w4 ⟨rfl,b3⟩;have Bw4:Below wc.heap.size wc w4:=zB zbr.drew b3;clear b3 hHeld;refine hK.out _ _ (HSQ.out _ Bw4) (fun hHeld=>?_);clear hK K;refine wpAnyH_done (by kernel_rfl) ?_ _;clear hHeld HSQ;have HB4:=zh (zB HB3.out Bw4);have H4:=zh (H3.out.below Bw4);have HBA4:=zh (zB HBA3.out Bw4);have HKB4:=zh ((Bw4.block _ (zO HKB3.out)).trans HKB3.out);clear Bw4 t8 t9 t10 t11 k2;generalize hsb:ZJ st c.folder=sb;have HSB:=zh hsb;clear hsb;go_upto_if 58 with fail
  go_cut [] from 59 to 61 (fun wx=>Hid (Wrote (fun b=>X b\/b=W.heap.size) base bw w4 R c (.slice A7 c.data.length c7) late (if sb=true then YR st k c.user else st) false wx))
  case first=>
   cases sb with
   | true=>
    go_wp2_with fail
    refine zcm (zMl H4.out HKL.out HA.out (by rw [HFS.out.2.1];exact HFS.out.2.2) (HVI.out.smF (by omega)) HFI.out.wr (by have:=HA2.out;omega) HFI.out.ep (by have:=HA2.out;omega) (fun m hm=>qNtx (HFI.out.mn m hm).2.1 (by decide))) ?_;rintro e5 w5 ⟨rfl,hWr⟩;have HWr:=zh hWr;clear hWr;go_wp2;go_meet
    case rel=>exact zh (by simp only [if_true];exact HWr.out)
   | false=>
    go_wp2;go_meet
    case rel=>exact zh (by rw [if_neg (by simp)];exact Wrote.refl H4.out)
  have HWr:=hcut;rw [<-HSB.out] at HWr;obtain ⟨f0,g1,g2,g3,g4,g5,g6⟩:=zR2 HVI.out HKL.out c.folder c.user;rw [g1] at HWr;have HV1:=zh (HVI.out.put HKL.out g2 (g5.mono (Nat.le_succ _) fun _ e=>e) (by omega) (by rw [z0c g3]) (by rw [z0c g3]));obtain ⟨R5,h5,m5,e5⟩:=HWr.out;have HA5:=zh (HA.out.keep e5);have HKL5:=zh (show k < (setF st k f0).folders.length from by rw [Y4];exact HKL.out);have HF5:=zh (Y3 (f:=f0) HKL.out);have HFN:=zh (show zP (setF st k f0) f0.name=some f0 from by rw [YT HVI.out.names HKL.out g2,if_pos rfl]);have HA25:=zh (z8j HV1.out (by omega) HKL5.out);have HFI5:=zh (HV1.out.atF HKL5.out);have H5:=zh h5;have HM5:=zh m5;obtain ⟨f1,p1,p2,p3,p4,p5,p6⟩:=zEk (c:=c) HVI.out HKL.out;have HP1:=zh (show yJ (setF st k f0) k=setF st k f1 from by rw [<-g1];exact p1 c.user rfl);have HF1:=zh p4;have HPS:=zh (p1 c.user rfl);have HFI1:=zh p5;have HSZ1:=zh p6;clear hcut HWr g1 g2 g3 g4 g5 g6 h5 m5 e5 p1 p2 p3 p4 p5 p6;go_wp2_with fail
  refine zcm (z9i H5.out HKL5.out HA5.out (by rw [HF5.out];exact HFN.out) (HV1.out.smF (by omega)) HFI5.out.wr (by have:=HA25.out;omega) (by have:=HA25.out;omega)) ?_;rintro e6 w6 ⟨rfl,hWr⟩;rw [HP1.out] at hWr;obtain ⟨R6,h6,m6,e6⟩:=hWr;have HA6:=zh (HA5.out.keep e6);have H6:=zh h6;have HM6:=zh (HM5.out.trans m6);clear h6 m6 e6;have HD6:=zh (HD.out.keep rByte_ok (by decide) (((Mut.below HB4.out).trans HM6.out).kept));have HK6:=zh (((Mut.own H4.out HM6.out (.inr rfl)).trans (HB4.out.block _ z0)).trans HT0.out);have HI4:=zh (Mut.block (Mut.below HBA4.out) HIA.out).2;have HKB6:=zh ((Mut.block HM6.out HI4.out).1.trans HKB4.out);have HKL6:=zh (show k < (setF st k f1).folders.length from by rw [Y4];exact HKL.out);have HF6:=zh (Y3 (f:=f1) HKL.out);have HLI:=zh (show f1.items.length<=5000 from by rw [HF1.out];have:=HA2.out;omega);go_upto_if 66 with fail
  generalize hio:z01 (fo st k) c.name=io;have HIO:=zh hio;have HI6:=zh (Mut.block HM6.out HI4.out).2;clear hio;go_cut [5] from 67 to 83 (fun s5 wx=>s5= .int .i64 (z9j f1 io)/\Hid (Wrote (fun b=>X b\/b=W.heap.size) base bw w6 R6 c (.slice A7 c.data.length c7) late (setF st k (z21 f1 c.name io)) false wx))
  case first=>
   cases io with
   | some j=>
    obtain rfl:iv=(j:Int):=by rw [<-HIV.out,HIO.out];rfl
    have HWr:=zh (Wrote.refl H6.out);go_wp2;go_meet
    case rel=>exact ⟨rfl,HWr⟩
   | none=>
    obtain rfl:iv= -1:=by rw [<-HIV.out,HIO.out];rfl
    obtain ⟨E2,i2,E3,i3,E4,i4,E5,i5,E6,i6,eh6,hF6,x0,x1,x2,x3,x4,x5,x6,hg6,gz6⟩:=H6.out.fold (ZO HKL6.out) HA6.out;rw [HF6.out] at eh6 x4;have hit:(R6 (.it k)).v= .slice E4 f1.items.length i4:=by
     simp only [hdr,List.cons.injEq] at eh6;exact eh6.2.2.2.2.1
    have HV6:=zh hit;have HROW:=zh (show RowC 78 2 w6 (.slice E4 f1.items.length i4) (R6 (.it k)).cells from by rw [<-hit];exact H6.out.os.row (.it k));have HLEN:=zh (show (R6 (.it k)).cells.length<=9999 from by
     have:=(H6.out.is.fo k _ (ZO HKL6.out)).2.itl;rw [HF6.out] at this;rw [this];have:=HLI.out;omega)
    have HNG:=zh (show (Value.slice E4 f1.items.length i4).ownBlock≠some g from fun e=>by
     rw [<-hit] at e;obtain ⟨n9,c9,o9,hv9,_⟩:=HA6.out;have:=H6.out.os.inj (.it k) .fo g e (by rw [hv9];rfl);cases this)
    have k3:=(zD HKB6.out).1 3 _ rfl;have HGZ:=zh gz6;clear eh6 hF6 hit x0 x1 x2 x3 x5 x6 gz6;go_wp2_with fail
    go_region_law (refine z1a w6 _ [.string c.name,.slice none 0 0] rfl (.tmp 76) (.tmp 80) 70 rfl iItem _ 40 Tryz.underlying70 hiItem hzItem h1Item h2Item rfl (by decide) (by decide) (.slice E4 f1.items.length i4) (R6 (.it k)).cells rfl _ _ rfl HROW.out (by go_grown) (Nat.le_succ_of_le HLEN.out) rfl (by intro u hu;simp at hu;rcases hu with rfl | rfl<;>rfl) (by repeat' first|with_reducible assumption|((with_reducible first|refine zR _ ?_ ?_|apply zJ);rotate_left;first|with_reducible rfl|((try dsimp only);first|with_reducible assumption|omega|(simp only [zS];done)|(simp only [zS];omega)))|with_reducible apply zI|with_reducible refine zZ _ ?_|with_reducible refine ZL ?_|refine (rfl:(_:Array Value)=_)) ?_;intro v8 w8 r8 p8 o8;obtain ⟨A8,n8,cp8,rfl⟩:=r8.shape3;have HR8:=zh r8;have HP8:=zh p8;have HO8:=zh o8;have k8:=p8.block g hg6 HNG.out;have s84:=(World.cell?_of_block (a:=⟨g,o+4,none⟩) k8).trans x4;have z8:∀q,w8.frozen? ⟨g,q,none⟩=false:=(fun q=>by unfold World.frozen?;rw [k8];exact HGZ.out q);clear k8 r8 p8 o8)
    all_goals
     have HWr:=zh (H6.out.itTo HKL6.out HA6.out (s:=c.name) HSZ.out.2.2.1 (by rw [HF6.out];have:=HLI.out;omega) HR8.out (by rw [HV6.out];exact HP8.out) (by rw [HV6.out];exact HO8.out) rfl);rw [HF6.out,z0n] at HWr;go_wp2;go_meet
     case rel=>exact ⟨rfl,HWr⟩
  obtain ⟨rfl,HWr⟩:=hcut;obtain ⟨it,q1,q2,q3,q4,q5⟩:=zT7 (f1:=f1) (i:=io) c.name c.user c.data (fun j hj=>by
   have hj2:z01 (fo st k) c.name=some j:=HIO.out.trans hj;have:=z5j hj2;have e:ZX f1 j=ZX (fo st k) j:=by unfold ZX;rw [HF1.out]
   rw [e,HF1.out];exact this.1) (N:=41) (fun x hx=>by rw [HF1.out] at hx;exact qNtx (HFI.out.it x hx).2.1 (by omega))
  obtain ⟨R7,h7,m7,e7⟩:=HWr.out;have H7:=zh h7;have HM7:=zh m7;have HA7:=zh (HA6.out.keep e7);have HKL7:=zh (show k < (setF st k (z21 f1 c.name io)).folders.length from by rw [Y4];exact HKL.out);have HF7:=zh (Y3 (f:=z21 f1 c.name io) HKL.out);have HKB7:=zh ((Mut.block m7 HI6.out).1.trans HKB6.out);have HD7:=zh (HD6.out.keep rByte_ok (by decide) m7.kept);have HK7:=zh ((Mut.own H6.out m7 (.inr rfl)).trans HK6.out);have HIT:=zh (show (fo (setF st k (z21 f1 c.name io)) k).items[z9j f1 io]? =some it from by rw [HF7.out];exact q1);have HIL:=zh q2;have HEL:=zh (show (fo (setF st k (z21 f1 c.name io)) k).epochs=f1.epochs/\(fo (setF st k (z21 f1 c.name io)) k).turn=f1.turn from by rw [HF7.out];exact ⟨q3,q4⟩);have k7:=(zD HKB7.out).1 7 _ rfl;have HPE:=zh (show z2s st c k=(setF (setF st k (z21 f1 c.name io)) k { fo (setF st k (z21 f1 c.name io)) k with items:=(fo (setF st k (z21 f1 c.name io)) k).items.set (z9j f1 io) { it with versions:=it.versions++[⟨((fo (setF st k (z21 f1 c.name io)) k).epochs.length:Int),false,c.user,c.data⟩] },turn:=(fo (setF st k (z21 f1 c.name io)) k).turn+1 },YO ((it.versions.length:Int)+1),true) from by
   rw [HF7.out,z0n,q3,q4];have hp:z1r st c k=(setF st k { z21 f1 c.name io with items:=(z21 f1 c.name io).items.set (z9j f1 io) { it with versions:=it.versions++[⟨f1.epochs.length,false,c.user,c.data⟩] },turn:=f1.turn+1 },it.versions.length+1):=by
    unfold z1r;dsimp only;rw [HPS.out,HIO.out];exact q5 st k HKL.out
   have hput:z2s st c k=((z1r st c k).1,YO (z1r st c k).2,true):=by
    have hfu:=HFU.out;unfold z2s;rw [if_neg (by have:=HR.out;omega)];unfold z6k at hfu;rw [HIO.out] at hfu⊢
    cases io with
    | none=>dsimp only at hfu⊢;rw [if_neg (of_decide_eq_false hfu)]
    | some j=>dsimp only at hfu⊢;rw [if_neg (of_decide_eq_false hfu)]
   rw [hput,hp];simp)
  clear HWr h7 m7 e7 q1 q2 q3 q4 q5;go_wp2_with fail
  refine zcm (zEq c.data _ wc (Imm (fun b=>X b\/b=W.heap.size) bw R7 wc) HD7.out HDL.out) ?_;rintro e8 w8 ⟨⟨v8,cells8,rfl,r8,a8,b8⟩,B8⟩;obtain ⟨A8,c8,e8v,_⟩:=r8.shape;have hl8:=a8.1;rw [hl8] at e8v;subst e8v;have H8:=zh (H7.out.below B8);have HDS:=zh (show Sl 1 YL (Imm (fun b=>X b\/b=W.heap.size) bw R7 w8) w8 (.slice A8 c.data.length c8) c.data from z2k rByte_ok r8 (by rw [hl8];exact HDL.out) (a8.imp fun _ _ e=>e) fun b hb=>⟨r8.lt b hb,fun e=>by have:=b8 b hb;have:=H7.out.lt;omega,fun e=>by have:=b8 b hb;have:=H7.out.os.lt e;omega,fun e=>by have:=b8 b hb;have:=H7.out.xl b e;omega⟩);have HB8:=zh B8;have HK8:=zh ((B8.block _ (zO HK7.out)).trans HK7.out);have HQ:=zh (zIo H8.out HKL7.out HA7.out HIT.out ⟨0,false,⟨#[]⟩,c.data⟩ A8 c8 HDS.out (by have:=HIL.out;omega) (by rw [HEL.out.2];have:=HFI1.out.tn;omega) (by
   rw [HEL.out.1];have h1:=HSZ1.out;have h2:=z9h (yN HKL.out);have h3:=HVI.out.sum;unfold ZW at h1 h2;omega))
  have HI64:=zh (show I64 ((it.versions.length:Int)+1) from ⟨by omega,by have:=HIL.out;omega⟩);clear B8 r8 a8 b8 hl8 k7;go_wp2_with fail
  have HN9:=zh (fun e=>H8.out.nx W.heap.size e (.inr rfl));refine zcm (HQ.out) ?_;rintro e10 w10 ⟨rfl,R10,H10,M10,E10⟩;have HK10:=zh ((M10.but.block _ (zO HK8.out) (fun e=>HN9.out (e.symm.imp id id))).trans HK8.out);have K10:=HK10.out;unfold zV at K10;obtain ⟨y0,y1,y2,y3,y4,y5,y6⟩:=zC7 (zD K10).1;have yz:=(zD K10).2;have HH10:=zh H10;have HM10:=zh M10;clear H10 M10 K10 E10;unfold yD;go_wp2;try simp only [Exit.inBlock,Exit.then]
  obtain ⟨F1,F2⟩:=Z6 HK10.out (.int .i64 0) (.int .i64 ((it.versions.length:Int)+1)) (.string ⟨#[]⟩) (.slice none 0 0) (.slice none 0 0) (.slice none 0 0) (.slice none 0 0);refine bodyPost_ret (zq rfl rfl F1 rfl) rfl ?_;rw [show z2s st c k=(setF (setF st k (z21 f1 c.name io)) k { fo (setF st k (z21 f1 c.name io)) k with items:=(fo (setF st k (z21 f1 c.name io)) k).items.set (z9j f1 io) { it with versions:=it.versions++[⟨((fo (setF st k (z21 f1 c.name io)) k).epochs.length:Int),false,c.user,c.data⟩] },turn:=(fo (setF st k (z21 f1 c.name io)) k).turn+1 },YO ((it.versions.length:Int)+1),true) from by exact HPE.out];exact Z7 HH10.out (((Mut.below (zB HB0.out HB4.out)).trans (HM6.out.trans (HM7.out.trans (Mut.below HB8.out)))).trans HM10.out) (znl _) F2 (z2t HI64.out)
end
end
section
section
variable {X:Nat->Prop} {base bw:Nat} {W W':World} {R R':RM} {c:Call} {dv:Value} {st:State} {done late:Bool}
theorem zK7 (c:Call) (l:List Member):0<=yM c l/\yM c l<=46:=by
 unfold yM Ro.shareE Ro.changeE Ro.revokeE
 (repeat' split)<;>omega
def zTz (L:Nat) (w3:World) (c:Call) (l:List Member) (wx:World):Prop:=
 ∃A' n' c' l',wx.cell? ⟨L,0,none⟩=some (.slice A' n' c')/\Sl 2 zY (fun b=>w3.heap.size<=b) wx (.slice A' n' c') l'/\(yM c l=0->l'=Ro.withOf l c.other c.role)
theorem zDp {L:Nat} {w3 w4:World} {c:Call} {l l':List Member} {A':Option Addr} {n' c':Nat} {v0:Value} (hL:L < w3.heap.size) (hb:Below w3.heap.size w3 w4) (h0:w4.cell? ⟨L,0,none⟩=some v0) (hs:Sl 2 zY (fun b=>w3.heap.size<=b) w4 (.slice A' n' c') l') (he:yM c l=0->l'=Ro.withOf l c.other c.role):
  zTz L w3 c l (w4.setCell ⟨L,0,none⟩ (.slice A' n' c'))/\ButB (fun z=>z=L) w3 (w4.setCell ⟨L,0,none⟩ (.slice A' n' c')):=
 ⟨⟨A',n',c',l',World.cell?_setCell_same w4 ⟨L,0,none⟩ _ h0,hs.keep ZH (by decide) fun b hb hl=>⟨hb,Below.heap_setCell _ _ _ _ fun e=>by
  have e:b=L:=e;have hb:w3.heap.size<=b:=hb;omega⟩,he⟩,(ButB.of hb).set ⟨L,0,none⟩ _ rfl⟩
theorem zT8 (hc:CallOk c) (h5:5<=c.kind/\c.kind<=7) (f g:Folder):(if (decide (2<=c.role) || (c.kind==5))=true then f else g)=if c.kind=5\/(c.kind=6/\2<=c.role) then f else g:=by
 have h7:=hc.rol0;by_cases h1:c.kind=5\/(c.kind=6/\2<=c.role)
 ·rw [if_pos h1,if_pos];rcases h1 with h1 | h1
  ·simp [h1]
  simp [h1.2]
 rw [if_neg h1,if_neg];simp only [Bool.or_eq_true,decide_eq_true_eq,beq_iff_eq];rintro (e | e)
 ·have:c.kind=7:=by omega
  have:=h7 this;omega
 exact h1 (.inl e)
theorem z7o (h:WK X base bw W R c dv st false late) {n k:Nat} (hI:VInv n st) (hn:n<=40) (hk:Z3 st c.folder=some k) (hc:CallOk c) (hk5:5<=c.kind/\c.kind<=7):
  Calls Tryz.prog 91 #[.pointer (some ⟨bw,0,none⟩)] W (Did X base bw W R c dv late (Y2 st c k)):=by
 have HK:=zh hk;have HKL:=zh (z2i (YI hk));have HFI:=zh (hI.atF HKL.out);have HA2:=zh (z8j hI (by omega) HKL.out);have HC:=zh hc;have HK5:=zh hk5;obtain ⟨w0,hw0⟩:∃w0,W.alloc (.cells zV 49)=w0:=⟨_,rfl⟩;have hN:=yA W;rw [hw0] at hN;obtain ⟨hE,B0,T0,z0⟩:=hN;have H0:=hE R h;have HW:=zh H0;have HT0:=zh T0;have HB0:=zh B0;have hlt:=H0.lt;clear hE B0 T0;have HRO:=zh (show I64 c.role from by obtain ⟨_,_,_,_,_,_,_,_,q,_⟩:=YQ H0.call;exact q);obtain ⟨A7,c7,e7,hkind,hus,hfol,hnam,hoth,hrol,hver,d1,d2,d3,d4⟩:=YQ H0.call;obtain rfl:dv= .slice A7 c.data.length c7:=by simpa [z3v] using e7
 have s0:=H0.cells.1 0 _ rfl;have s1:=H0.cells.1 1 _ rfl;have s2:=H0.cells.1 2 _ rfl;have s3:=H0.cells.1 3 _ rfl;have s4:=H0.cells.1 4 _ rfl;have s5:=H0.cells.1 5 _ rfl;have s6:=H0.cells.1 6 _ rfl;have s7:=H0.cells.1 7 _ rfl;obtain ⟨wA,hwA,cA,fA,BA,qA⟩:=zQ w0 #[.int .i64 c.kind,.string c.user,.string c.folder,.string c.name,.string c.other,.int .i64 c.role,.int .i64 c.version,.slice A7 c.data.length c7] 41;have HCB:=zh (zbx hwA);have HSZ:=zh (show c.user.size<=140737488355328/\c.folder.size<=140737488355328/\c.name.size<=140737488355328/\c.other.size<=140737488355328 from ⟨hus,hfol,hnam,hoth⟩);have HBA:=zh BA;have HWA:=zh (H0.below BA);have HIA:=zh (show Imm (fun b=>X b\/b=W.heap.size) bw R wA w0.heap.size from ⟨qA,fun e=>by have:=H0.lt;omega,fun e=>by have:=H0.os.lt e;omega,fun e=>by have:=H0.xl _ e;omega⟩);clear e7 hkind hus hfol hnam hoth hrol hver d1 d3 d4 cA fA BA;clear h hk H0 hI hc hk5;unfold zV at hw0;go_enter Tryz.func91,Tryz.ntmps91
 have k2:=(zD HCB.out).1 2 _ rfl;go_wp2_with fail
 refine zcm (yS HWA.out c.folder) ?_;rintro _ w1 ⟨⟨hno,rfl⟩ | ⟨k',g,o,hk',ha,rfl⟩,B1⟩
 ·exact absurd (HK.out.symm.trans hno) (by simp)
 obtain rfl:_=k':=zsi (HK.out.symm.trans hk');have HB1:=zh B1;have HA:=zh ha;have H1:=zh (HWA.out.below B1);obtain ⟨_,_,_,_,_,_,_,_,_,_,eh,hF,u0,u1,u2,u3,u4,u5,u6,hg,_⟩:=H1.out.fold (ZO HKL.out) ha;have HE:=zh eh;clear B1 hk' ha eh hF;clear s0 s1 s2 s3 s4 s5 s6 s7 k2;obtain ⟨_,_,A4,c4,hNC,hNow⟩:=z6a H1.out HKL.out HA.out HFI.out.man;have HNC:=zh hNC;have hN1:=hNow w1 zbr;have HNW:=zh hNow;rw [HE.out] at hN1;have HN1:=zh hN1;have qm:=z48;clear hNC hNow hN1;go_wp2_with fail
 refine zcm HN1.out ?_;rintro _ w2 ⟨rfl,B2⟩;have HBA2:=zh (zB HB1.out B2);have HB12:=zh B2;have v0:=(B2.cell (p:=⟨g,o,none⟩) hg).trans u0;have v1:=(B2.cell (p:=⟨g,o+1,none⟩) hg).trans u1;have v2:=(B2.cell (p:=⟨g,o+2,none⟩) hg).trans u2;have v3:=(B2.cell (p:=⟨g,o+3,none⟩) hg).trans u3;have v4:=(B2.cell (p:=⟨g,o+4,none⟩) hg).trans u4;have v5:=(B2.cell (p:=⟨g,o+5,none⟩) hg).trans u5;have v6:=(B2.cell (p:=⟨g,o+6,none⟩) hg).trans u6;have hg2:g < w2.heap.size:=zll hg B2.size;clear B2 u0 u1 u2 u3 u4 u5 u6;obtain ⟨w3,_,cw3,fw3,Bw3,qw3⟩:=zQ w2 #[.slice none 0 0] 46;have HBA3:=zh (zB HBA2.out Bw3);have HB13:=zh (zB HB12.out Bw3);have HB3:=zh (zB HBA.out HBA3.out);have HKB3:=zh ((HBA3.out.block _ qA).trans HCB.out);obtain ⟨k0,k1⟩:=zC2 (zD HKB3.out).1;have k4:=(zD HKB3.out).1 4 _ rfl;have k5:=(zD HKB3.out).1 5 _ rfl;have L0:=cw3 0 _ rfl;have hzL:=fw3;clear cw3 fw3;have HMS:=zh (show Sl 2 zY (Imm (fun b=>X b\/b=W.heap.size) bw R w3) w3 (.slice A4 (zH (fo st k)).members.length c4) (zH (fo st k)).members from by
  obtain ⟨n1,n2,n3,n4,_⟩:=HNC.out;have hs:Sl 2 zY (Imm (fun b=>X b\/b=W.heap.size) bw R w1) w1 (.slice A4 (zH (fo st k)).members.length c4) (zH (fo st k)).members:=⟨A4,c4,rfl,n1,by unfold maxLen;exact n2,n3,n4⟩;exact hs.keep ZH (by decide) (Mut.below (bw:=bw) (R:=R) HB13.out).kept)
 have HMS1:=zh (show Sl 2 zY (Imm (fun b=>X b\/b=W.heap.size) bw R w1) w1 (.slice A4 (zH (fo st k)).members.length c4) (zH (fo st k)).members from by
  obtain ⟨n1,n2,n3,n4,_⟩:=HNC.out;exact ⟨A4,c4,rfl,n1,by unfold maxLen;exact n2,n3,n4⟩)
 have HML:=zh (show (zH (fo st k)).members.length<=100000 from by have:=HA2.out;omega);have hzL2:w2.heap.size < w3.heap.size:=qw3;have hwC:w0.heap.size < w2.heap.size:=zll qA HBA2.out.size;go_upto_block 0 with fail
 go_cut [7] from 21 to 57 (fun s7 wx=>s7= .int .i64 (yM c (zH (fo st k)).members)/\Hid (zTz w2.heap.size w3 c (zH (fo st k)).members wx)/\ButB (fun z=>z=w2.heap.size) w3 wx)
 case first=>
  have hkk:c.kind=5\/c.kind=6\/c.kind=7:=by have:=HK5.out;omega
  rcases hkk with hkk | hkk | hkk
  ·have HKK:=zh hkk;have hb1:(c.kind==5)=true:=beq_iff_eq.2 hkk;clear hkk;go_wp2_with fail
   refine zcm (zOu HC.out HKK.out HRO.out HFI.out.mem HMS.out HML.out) ?_;rintro e4 w4 ⟨⟨v',l',rfl,hs4,h04⟩,B4⟩;obtain ⟨A',n',e',hs'⟩:=id hs4;subst e';have L4:=(B4.cell (p:=⟨w2.heap.size,0,none⟩) qw3).trans L0;have hz4:∀q,w4.frozen? ⟨w2.heap.size,q,none⟩=false:=fun q=>((z3l B4).2 _ q qw3).trans (hzL q)
   have HRL:=zh (zDp qw3 B4 L4 hs4 h04);clear B4 hs4 h04 hs';go_wp2;go_meet
   case rel=>exact ⟨rfl,HRL.out.1,HRL.out.2⟩
  ·have HKK:=zh hkk;have hb1:(c.kind==5)=false:=beq_eq_false_iff_ne.2 (by omega);have hb2:(c.kind==6)=true:=beq_iff_eq.2 hkk;clear hkk;go_wp2_with fail
   refine zcm (zMn HC.out HKK.out HRO.out HFI.out.mem HMS.out HML.out) ?_;rintro e4 w4 ⟨⟨v',l',rfl,hs4,h04⟩,B4⟩;obtain ⟨A',n',e',hs'⟩:=id hs4;subst e';have L4:=(B4.cell (p:=⟨w2.heap.size,0,none⟩) qw3).trans L0;have hz4:∀q,w4.frozen? ⟨w2.heap.size,q,none⟩=false:=fun q=>((z3l B4).2 _ q qw3).trans (hzL q)
   have HRL:=zh (zDp qw3 B4 L4 hs4 h04);clear B4 hs4 h04 hs';go_wp2;go_meet
   case rel=>exact ⟨rfl,HRL.out.1,HRL.out.2⟩
  have HKK:=zh hkk;have hb1:(c.kind==5)=false:=beq_eq_false_iff_ne.2 (by omega);have hb2:(c.kind==6)=false:=beq_eq_false_iff_ne.2 (by omega);clear hkk;go_wp2_with fail
  refine zcm (zMo HC.out HKK.out HFI.out.mem HMS.out HML.out) ?_;rintro e4 w4 ⟨⟨v',l',rfl,hs4,h04⟩,B4⟩;obtain ⟨A',n',e',hs'⟩:=id hs4;subst e';have L4:=(B4.cell (p:=⟨w2.heap.size,0,none⟩) qw3).trans L0;have hz4:∀q,w4.frozen? ⟨w2.heap.size,q,none⟩=false:=fun q=>((z3l B4).2 _ q qw3).trans (hzL q)
  have HRL:=zh (zDp qw3 B4 L4 hs4 h04);clear B4 hs4 h04 hs';go_wp2;go_meet
  case rel=>exact ⟨rfl,HRL.out.1,HRL.out.2⟩
 obtain ⟨rfl,HLR,hb⟩:=hcut;have HBC:=zh (ButB.below HB3.out (by have:=HB3.out.size;omega) (fun z hz=>by omega) hb);have HKBC:=zh ((hb.block _ (by omega) (by omega)).trans HKB3.out);have HB1C:=zh (ButB.below HB13.out HB13.out.size (fun z hz=>by have:=HB12.out.size;omega) hb);have hEb:=zK7 c (zH (fo st k)).members;have HE0:∃E,yM c (zH (fo st k)).members=E:=⟨_,rfl⟩;obtain ⟨E,hE⟩:=HE0;have HEE:=zh hE;rw [hE] at hEb;rw [hE];clear hE k0 k1 k4 k5 L0 hzL;by_cases hz:E=0
 rotate_left
 ·have hq:(E==0)=false:=beq_eq_false_iff_ne.2 hz;go_wp2_with fail
  refine zcm (ZK E wc) ?_;rintro _ _ ⟨rfl,Bq⟩;obtain ⟨BW,H2,K2,y0,y1,y2,y3,y4,y5,y6,yz⟩:=zW HBC.out Bq HW.out z0 HT0.out;clear Bq;unfold yD;go_wp2;try simp only [Exit.inBlock,Exit.then]
  obtain ⟨F1,F2⟩:=Z6 K2.out (.int .i64 E) (.int .i64 0) (.string ⟨#[]⟩) (.slice none 0 0) (.slice none 0 0) (.slice none 0 0) (.slice none 0 0);refine bodyPost_ret (zq rfl rfl F1 rfl) rfl ?_;rw [show (Y2 st c k)=(st,ZF E,false) from by unfold Y2;dsimp only;rw [HEE.out,if_pos hz]];exact Z7 H2.out (Mut.below (zB HB0.out BW.out)) (znl _) F2 (y8 ⟨by omega,by omega⟩)
 have hq:(E==0)=true:=beq_iff_eq.2 hz;subst hz;obtain ⟨A',n',c',l',hL,hSL,hL0⟩:=HLR;have HL0:=zh (hL0 HEE.out);have HSL:=zh hSL;have HMC:=zh (HMS1.out.keep ZH (by decide) (Mut.below (bw:=bw) (R:=R) HB1C.out).kept);have hwAL:wA.heap.size<=w2.heap.size:=HBA2.out.size;have HSI:=zh (show Sl 2 zY (Imm (fun b=>X b\/b=W.heap.size) bw R wc) wc (.slice A' n' c') l' from hSL.keep ZH (by decide) fun b hb2 hl=>by
  have hb2:w3.heap.size<=b:=hb2;exact ⟨⟨hl,fun e=>by omega,fun e=>by have:=HW.out.os.lt e;omega,fun e=>by have:=HW.out.xl _ e;omega⟩,rfl⟩)
 have HIL:=zh (show Imm (fun b=>X b\/b=W.heap.size) bw R wc w2.heap.size from ⟨zll qw3 hb.size,fun e=>by omega,fun e=>by have:=HW.out.os.lt e;omega,fun e=>by have:=HW.out.xl _ e;omega⟩);have HIC:=zh (Mut.block (Mut.below (ButB.below HBA3.out HBA3.out.size (fun z hz=>by omega) hb)) HIA.out).2;clear hL0 hSL hEb;go_wp2_with fail
 refine zcm (zOv l' (zH (fo st k)).members _ _ wc _ _ HSL.out HMC.out) ?_;rintro _ w5 ⟨⟨bq,rfl,hbq⟩,B5⟩;have HBQ:=zh hbq;have HB5:=zh (zB HBC.out B5);have H5:=zh (HW.out.below HB5.out);have HB15:=zh (zB HB1C.out B5);have HBC5:=zh B5;have HKB5:=zh ((B5.block _ (zO HKBC.out)).trans HKBC.out);have L5:=(B5.cell (p:=⟨w2.heap.size,0,none⟩) (zF hL)).trans hL;clear hbq B5 hL v0 v1 v2 v3 v4 v5 v6
 cases bq with
 | true=>
  obtain ⟨_,_,_,_,_,_,_,_,_,_,eh5,hF5,x0,x1,x2,x3,x4,x5,x6,_,gz5⟩:=H5.out.fold (ZO HKL.out) HA.out;have hN5:=HNW.out w5 HB15.out;rw [eh5] at hN5;have HN5:=zh hN5;have qs:=zEf;clear eh5 hF5 gz5 hN5;go_wp2_with fail
  refine zcm HN5.out ?_;rintro e6 w6 ⟨rfl,B6⟩;have HB6:=zh (zB HB5.out B6);have H6:=zh (HW.out.below HB6.out);have HK6:=zh ((HB6.out.block _ z0).trans HT0.out);have K6:=HK6.out;unfold zV at K6;obtain ⟨y0,y1,y2,y3,y4,y5,y6⟩:=zC7 (zD K6).1;have yz:=(zD K6).2;clear K6 B6 x0 x1 x2 x3 x4 x5 x6;go_wp2;try simp only [Exit.inBlock,Exit.then]
  obtain ⟨F1,F2⟩:=Z6 HK6.out (.int .i64 0) (.int .i64 (zH (fo st k)).seq) (.string ⟨#[]⟩) (.slice none 0 0) (.slice none 0 0) (.slice none 0 0) (.slice none 0 0);refine bodyPost_ret (zq rfl rfl F1 rfl) rfl ?_;rw [show Y2 st c k=(st,YO (zH (fo st k)).seq,false) from by
   unfold Y2;dsimp only;rw [HEE.out,if_neg (by simp),if_pos ((zIq HC.out HK5.out HFI.out.mem HEE.out).1 (HL0.out.symm.trans (by have:=HBQ.out;simpa using this)))]]
  exact Z7 H6.out (Mut.below (zB HB0.out HB6.out)) (znl _) F2 (z2t HNC.out.2.2.2.2.1)
 | false=>
  have HNS:=zh (show ¬Ro.ofOf (zH (fo st k)).members c.other=c.role from fun e=>by
   have h1:=HL0.out.trans ((zIq HC.out HK5.out HFI.out.mem HEE.out).2 e);have h2:=HBQ.out;simp [h1] at h2)
  have k0:=(zD HKB5.out).1 0 _ rfl;have k4:=(zD HKB5.out).1 4 _ rfl;have k5:=(zD HKB5.out).1 5 _ rfl;go_upto_region 16 with fail
  go_cut [80] from 73 to 79 (fun s80 wx=>s80= .bool (decide (2<=c.role) || (c.kind==5))/\wx=w5)
  case first=>
   by_cases h2:2<=c.role
   ·have hd2:decide (2<=c.role)=true:=decide_eq_true h2;have HGB:=zh (show (decide (2<=c.role) || (c.kind==5))=true from by rw [hd2];rfl);go_wp2;go_meet
    case rel=>exact ⟨by rw [HGB.out],rfl⟩
   have hd2:decide (2<=c.role)=false:=decide_eq_false h2;have HGB:=zh (show (decide (2<=c.role) || (c.kind==5))=(c.kind==5) from by rw [hd2];rfl);go_wp2;go_meet
   case rel=>exact ⟨by rw [HGB.out],rfl⟩
  obtain ⟨rfl,hwc⟩:=hcut;subst hwc;generalize hgb:(decide (2<=c.role) || (c.kind==5))=gb;have HGB:=zh hgb;clear hgb;go_upto_if 80 with fail
  go_cut [] from 81 to 87 (fun wx=>Hid (Wrote (fun b=>X b\/b=W.heap.size) base bw wc R c (.slice A7 c.data.length c7) late (setF st k (if gb=true then yO (fo st k) c.other (decide (2<=c.role)) else fo st k)) false wx))
  case first=>
   cases gb with
   | true=>
    go_wp2_with fail
    refine zcm (z85 H5.out HKL.out HA.out HFI.out.wr (by have:=HA2.out;omega) (by have:=HA2.out;omega) c.other HSZ.out.2.2.2 (decide (2<=c.role))) ?_;rintro e6 w6 ⟨rfl,hWr⟩;have HWr:=zh hWr;clear hWr;go_wp2;go_meet
    case rel=>exact zh (by simp only [if_true];exact HWr.out)
   | false=>
    go_wp2;go_meet
    case rel=>exact zh (by rw [if_neg (by simp),z7d];exact Wrote.refl H5.out)
  have HF1:=zh (zT8 HC.out HK5.out (yO (fo st k) c.other (decide (2<=c.role))) (fo st k));rw [HGB.out] at HF1;obtain ⟨f1,hf1⟩:∃f1,(if gb=true then yO (fo st k) c.other (decide (2<=c.role)) else fo st k)=f1:=⟨_,rfl⟩;have HP1:=zh (show f1.manifests=(fo st k).manifests/\f1.turn=(fo st k).turn from by rw [<-hf1];split<;>exact ⟨rfl,rfl⟩);rw [hf1] at hcut;have HFF:=zh (hf1.symm.trans HF1.out);obtain ⟨_,h6,m6,e6⟩:=hcut.out;have H6:=zh h6;have HM6:=zh m6;have HA6:=zh (HA.out.keep e6);have HKL6:=zh (show k < (setF st k f1).folders.length from by rw [Y4];exact HKL.out);have HF6:=zh (Y3 (f:=f1) HKL.out);have HNM:=zh (show zH (fo (setF st k f1) k)=zH (fo st k) from by rw [HF6.out];exact z0c HP1.out.1);have HI5C:=zh (Mut.block (Mut.below HBC5.out) HIC.out).2;have HI5L:=zh (Mut.block (Mut.below HBC5.out) HIL.out).2;have HK6:=zh ((Mut.own H5.out m6 (.inr rfl)).trans ((HB5.out.block _ z0).trans HT0.out));have hL6:wc.cell? ⟨w2.heap.size,0,none⟩=some (.slice A' n' c'):=(World.cell?_of_block (a:=⟨w2.heap.size,0,none⟩) (Mut.block m6 HI5L.out).1).trans L5;have hC6:wc.cell? ⟨w0.heap.size,0,none⟩=some (.int .i64 c.kind):=(World.cell?_of_block (a:=⟨w0.heap.size,0,none⟩) (Mut.block m6 HI5C.out).1).trans k0;have HS6:=zh ((HSI.out.keep ZH (by decide) (Mut.below HBC5.out).kept).keep ZH (by decide) m6.kept);obtain ⟨a1,a2,a3,a4,a5,a6,_⟩:=HA2.out;have HQ:=zh (zFk h6 HKL6.out HA6.out HNM.out a1 (by omega) a4 (by rw [HF6.out,HP1.out.2];exact a5) (by rw [HF6.out,HP1.out.1];exact a6) (by omega) HNC.out.2.2.2.2.2.1 w2.heap.size w0.heap.size _ l' c.kind hL6 hC6 HS6.out);have HI64:=zh (show I64 ((zH (fo st k)).seq+1) from ⟨by omega,by omega⟩);have HRES:=zh (show Y2 st c k=(setF (setF st k f1) k { fo (setF st k f1) k with manifests:=(fo (setF st k f1) k).manifests++[{ zH (fo st k) with seq:=(zH (fo st k)).seq+1,who:=c.user,members:=l',cut:=if c.kind=7 then (zH (fo st k)).seq+1 else (zH (fo st k)).cut }],turn:=(fo (setF st k f1) k).turn+1 },YO ((zH (fo st k)).seq+1),true) from by
   unfold Y2;dsimp only;rw [HEE.out,if_neg (by simp),if_neg HNS.out,<-HFF.out,HF6.out,z0n,HL0.out];unfold y9;rw [show zH f1=zH (fo st k) from z0c HP1.out.1])
  clear hcut h6 m6 e6 a1 a2 a3 a4 a5 a6 hL6 hC6 hf1;go_wp2_with fail
  have HN9:=zh (fun e=>H6.out.nx W.heap.size e (.inr rfl));refine zcm (HQ.out) ?_;rintro _ _ ⟨rfl,_,H10,M10,E10⟩;have HK10:=zh ((M10.but.block _ (zO HK6.out) (fun e=>HN9.out (e.symm.imp id id))).trans HK6.out);have K10:=HK10.out;unfold zV at K10;obtain ⟨y0,y1,y2,y3,y4,y5,y6⟩:=zC7 (zD K10).1;have yz:=(zD K10).2;have HH10:=zh H10;have HM10:=zh M10;clear H10 M10 K10 E10;unfold yD;go_wp2;try simp only [Exit.inBlock,Exit.then]
  obtain ⟨F1,F2⟩:=Z6 HK10.out (.int .i64 0) (.int .i64 ((zH (fo st k)).seq+1)) (.string ⟨#[]⟩) (.slice none 0 0) (.slice none 0 0) (.slice none 0 0) (.slice none 0 0);refine bodyPost_ret (zq rfl rfl F1 rfl) rfl ?_;rw [show Y2 st c k=(setF (setF st k f1) k { fo (setF st k f1) k with manifests:=(fo (setF st k f1) k).manifests++[{ zH (fo st k) with seq:=(zH (fo st k)).seq+1,who:=c.user,members:=l',cut:=if c.kind=7 then (zH (fo st k)).seq+1 else (zH (fo st k)).cut }],turn:=(fo (setF st k f1) k).turn+1 },YO ((zH (fo st k)).seq+1),true) from by exact HRES.out];exact Z7 HH10.out (((Mut.below (zB HB0.out HB5.out)).trans HM6.out).trans HM10.out) (znl _) F2 (z2t HI64.out)
end
end
section
section
variable {X:Nat->Prop} {base bw:Nat} {W W':World} {R R':RM} {c:Call} {dv:Value} {st:State} {done late:Bool}
def thP (g off:Nat):Option Nat->Value
 | none=> .pointer none
 | some k=> .pointer (some ⟨g,off+k*7,none⟩)
theorem zL5 (h:WK X base bw W R c dv st done late) {g off n cap:Nat} (hv:(R .fo).v= .slice (some ⟨g,off,none⟩) n cap) (s:Nm):
  Calls Tryz.prog 86 #[.pointer (some ⟨bw,0,none⟩),.string s] W fun e w'=>e= .returned (thP g off (Z3 st s))/\Below W.heap.size W w':=by
 refine (yS h s).mono ?_;rintro e w' ⟨⟨hk,rfl⟩ | ⟨_,_,_,hk,⟨_,_,_,hv',rfl⟩,rfl⟩,hb⟩
 ·exact ⟨by rw [hk];rfl,hb⟩
 rw [hv] at hv';simp only [Value.slice.injEq,Option.some.injEq,Addr.mk.injEq,and_true] at hv';obtain ⟨⟨rfl,rfl⟩,_⟩:=hv';exact ⟨by rw [hk];rfl,hb⟩
theorem zL6 {g off n cap:Nat} (hv:(R .fo).v= .slice (some ⟨g,off,none⟩) n cap) (k:Nat):foAt R k g (off+k*7):=⟨n,cap,off,hv,rfl⟩
theorem WK.foV (h:WK X base bw W R c dv st done late) {k:Nat} (hk:k < st.folders.length):∃g off n cap,(R .fo).v= .slice (some ⟨g,off,none⟩) n cap:=by
 obtain ⟨g,_,⟨n,cap,off,hv,_⟩,_⟩:=h.fat (ZO hk);exact ⟨g,off,n,cap,hv⟩
theorem zT9 {st:State} (h:SmF st) {k:Nat} {f:Folder} (hf:f.name.size<=1000/\(zH f).members.length<=100/\f.manifests≠[]/\f.epochs.length<=1000000):SmF (setF st k f):=fun x hx=>by
 rcases List.mem_or_eq_of_mem_set hx with hx | rfl
 ·exact h x hx
 ·exact hf
end
theorem zAl {α:Type} {p:α->Bool} {f:α->Nat} {N:Nat} (hf:∀x,f x<=N):∀(l:List α) (m:Nat),m<=N->l.foldl (fun m x=>if p x then max m (f x) else m) m<=N
 | [],m,h=>h
 | x :: l,m,h=>by
  rw [List.foldl_cons];refine zAl hf l _ ?_;split
  ·exact Nat.max_le.2 ⟨h,hf x⟩
  ·exact h
theorem zIr (st:State):∀(n:Nat) (s:Nm),YN st n s<=n+1
 | 0,s=>znl _
 | n+1,s=>by
  unfold YN;have:=zAl (p:=inB s) (f:=fun f=>YN st n f.name) (N:=n+1) (fun f=>zIr st n f.name) st.folders 0 (Nat.zero_le _);omega
def z86 (st:State) (k:Nat) (user other:Nm):Bool:=decide (yW st k user < 4) || (match Z3 st other with
 | none=>false
 | some q=>decide (yW st q user < 2))
theorem zK8 {n:Nat} {st:State} (h:VInv n st):Z3 st ⟨#[]⟩=none:=by
 unfold Z3;have:foI st ⟨#[]⟩=none:=z68.2 (by
  have:=h.top;exact this)
 rw [this]
theorem zL7 {n:Nat} {st:State} (h:VInv n st) (k:Nat) (c:Call):z86 st k c.user c.other=true↔yW st k c.user < 4\/(!isE c.other && (match Z3 st c.other with | some q=>decide (yW st q c.user < 2) | none=>false))=true:=by
 unfold z86 isE;by_cases ho:c.other=⟨#[]⟩
 ·rw [ho,zK8 h];simp
 cases ht:Z3 st c.other with
 | none=>simp
 | some q=>simp [ho]
theorem zMp {n:Nat} {st:State} (h:VInv n st) {k:Nat} {c:Call} (hd:z86 st k c.user c.other=true):z2o st c k=(st,ZF 40,false):=by
 unfold z2o;exact if_pos ((zL7 h k c).1 hd)
theorem zR4 {n:Nat} {st:State} (h:VInv n st) {k:Nat} {c:Call} (hd:z86 st k c.user c.other=false):z2o st c k=if (zH (fo st k)).parent=c.other then (st,YO (zH (fo st k)).seq,false)
 else if (zN st 4 c.other).any (isA c.folder) then (st,ZF 43,false)
 else if 4 < (zN st 4 c.other).length+YN st 5 c.folder then (st,ZF 3,false)
 else (z6i st k c,YO ((zH (fo st k)).seq+1),true):=by
 unfold z2o;exact if_neg fun e=>by rw [(zL7 h k c).2 e] at hd;cases hd
end
end Go.Proofs.YtdggplhnfhcieaaGreatDoor
