/- Part 10 of the proof of vaultGranted_holds. No condition. -/
import Derived.Deep.DeepMust
import Derived.Test.YtdggplhnfhcieaaGreatDoorY06
import Derived.Test.YtdggplhnfhcieaaGreatDoorY08
set_option linter.unusedVariables false
set_option linter.unusedSimpArgs false
set_option linter.unusedSectionVars false
set_option maxRecDepth 100000
namespace Go.Proofs.YtdggplhnfhcieaaGreatDoor
section
open Go.RowKit Go.Deep
structure IsFoQ (S:Nat->Prop) (W:World) (R:RM) (i:Nat) (f:Folder) (q:Nat):Prop where
 name:f.name.size<=140737488355328
 turn:I64 f.turn
 man:All2 (ZO S W) (R (.ma i)).cells f.manifests
 ep:All2 (Y6 S W) (R (.ep i)).cells f.epochs
 itl:(R (.it i)).cells.length=f.items.length
 it:∀j x,f.items[j]? =some x->if j < q then (R (.it i)).cells[j]? =some [.string x.name,(R (.ve i j)).v]/\x.name.size<=140737488355328/\All2 (yB S W) (R (.ve i j)).cells x.versions else ∃cs,(R (.it i)).cells[j]? =some cs/\yV S W cs x
 wr:All2 (yW S W) (R (.wr i)).cells f.wraps
 li:All2 (YP S W) (R (.li i)).cells f.links
structure CP (X:Nat->Prop) (bc base:Nat) (W:World) (R:RM) (st:State) (md:Nat->Option Nat):Prop where
 os:OS base W R
 nb:¬yS R bc
 lt:bc < W.heap.size
 bb:base<=bc
 nx:∀b,yS R b\/b=bc->¬X b
 xl:∀b,X b->b < W.heap.size
 us:All2 (z01 (Imm X bc R W) W) (R .us).cells st.users
 de:All2 (YV (Imm X bc R W) W) (R .de).cells st.deposits
 fol:(R .fo).cells.length=st.folders.length
 fo:∀i f,st.folders[i]? =some f->match md i with
  | none=>∃cs,(R .fo).cells[i]? =some cs/\ZE (Imm X bc R W) W cs f
  | some q=>(R .fo).cells[i]? =some (hdr R i f)/\IsFoQ (Imm X bc R W) W R i f q
section
variable {X:Nat->Prop} {bc base:Nat} {W W':World} {R R':RM} {st:State} {md:Nat->Option Nat} {S S':Nat->Prop} {i q:Nat} {f:Folder}
theorem IsFoQ.keep (h:IsFoQ S W R i f q) (k:Kept S S' W W'):IsFoQ S' W' R i f q:=
 ⟨h.name,h.turn,h.man.imp fun _ _ h=>Y1 h k,h.ep.imp fun _ _ h=>z14 h k,h.itl,fun j x hx=>by
  have:=h.it j x hx
  split
  ·rename_i hj
   rw [if_pos hj] at this
   exact ⟨this.1,this.2.1,this.2.2.imp fun _ _ h=>z09 h k⟩
  ·rename_i hj
   rw [if_neg hj] at this
   obtain ⟨cs,h1,h2⟩:=this
   exact ⟨cs,h1,z4f h2 k⟩,h.wr.imp fun _ _ h=>z2n h k,h.li.imp fun _ _ h=>z4g h k⟩
theorem IsFoQ.rows (h:IsFoQ S W R i f q) (e1:R' (.ma i)=R (.ma i)) (e2:R' (.ep i)=R (.ep i)) (e3:R' (.it i)=R (.it i)) (e4:R' (.wr i)=R (.wr i)) (e5:R' (.li i)=R (.li i)) (e6:∀j,R' (.ve i j)=R (.ve i j)):IsFoQ S W R' i f q:=
 ⟨h.name,h.turn,by rw [e1];exact h.man,by rw [e2];exact h.ep,by rw [e3];exact h.itl,fun j x hx=>by rw [e3,e6 j];exact h.it j x hx,by rw [e4];exact h.wr,by rw [e5];exact h.li⟩
theorem IsFoQ.full (h:IsFoQ S W R i f q) (hq:f.items.length<=q) {q':Nat} (hq':f.items.length<=q'):IsFoQ S W R i f q':=
 ⟨h.name,h.turn,h.man,h.ep,h.itl,fun j x hx=>by
  have hj:=(zge hx).1
  have:=h.it j x hx
  rw [if_pos (by omega)] at this
  rw [if_pos (by omega)]
  exact this,h.wr,h.li⟩
theorem CP.turn (h:CP X bc base W R st md) {p:Nat} (hf:st.folders[p]? =some f) (m:Mut bc R W R' W') (os:OS base W' R') (hus:R' .us=R .us) (hde:R' .de=R .de)
  (ho:∀i',i'≠p->R' (.ma i')=R (.ma i')/\R' (.ep i')=R (.ep i')/\R' (.it i')=R (.it i')/\R' (.wr i')=R (.wr i')/\R' (.li i')=R (.li i')/\∀j,R' (.ve i' j)=R (.ve i' j))
  (hfo:(R' .fo).cells=(R .fo).cells.set p (hdr R' p f)) (hF:IsFoQ (Imm X bc R' W') W' R' p f q):CP X bc base W' R' st (fun i=>if i=p then some q else md i):=by
 have k:=m.kept (X:=X)
 refine ⟨os,fun e=>(m.fresh bc e).elim h.nb fun hl=>by have:=h.lt;omega,zll h.lt m.but.size,h.bb,fun b e hx=>?_,fun b hx=>zll (h.xl b hx) m.but.size,by rw [hus];exact h.us.imp fun _ _ e=>z1q e k,by rw [hde];exact h.de.imp fun _ _ e=>z2k e k,by rw [hfo];simp [h.fol],fun i g hg=>?_⟩
 ·rcases e with e | e
  ·rcases m.fresh b e with e | e
   ·exact h.nx b (.inl e) hx
   have:=h.xl b hx
   omega
  exact h.nx b (.inr e) hx
 by_cases hi:i=p
 ·subst hi
  rw [hf] at hg
  obtain rfl:=zsi hg
  simp only [if_true]
  refine ⟨?_,hF⟩
  rw [hfo,List.getElem?_set_self (by rw [h.fol];exact (zge hf).1)]
 have hq:=h.fo i g hg
 simp only [hi,if_false]
 obtain ⟨a1,a2,a3,a4,a5,a6⟩:=ho i hi
 have hc:(R' .fo).cells[i]? =(R .fo).cells[i]? :=by rw [hfo,List.getElem?_set_ne fun e=>hi e.symm]
 rw [hc]
 cases hm:md i with
 | none=>
  rw [hm] at hq
  obtain ⟨cs,h1,h2⟩:=hq
  exact ⟨cs,h1,Z0 h2 k⟩
 | some q'=>
  rw [hm] at hq
  obtain ⟨h1,h2⟩:=hq
  refine ⟨?_,(h2.keep k).rows a1 a2 a3 a4 a5 a6⟩
  rw [h1]
  unfold hdr
  rw [a1,a2,a3,a4,a5]
theorem CP.mode (h:CP X bc base W R st md) {md':Nat->Option Nat} (e:∀i,i < st.folders.length->md' i=md i):CP X bc base W R st md':=
 ⟨h.os,h.nb,h.lt,h.bb,h.nx,h.xl,h.us,h.de,h.fol,fun i f hf=>by rw [e i (zge hf).1];exact h.fo i f hf⟩
theorem CP.below (h:CP X bc base W R st md) (hb:Below W.heap.size W W'):CP X bc base W' R st md:=by
 have m:Mut bc R W R W':=Mut.below hb
 have k:=m.kept (X:=X)
 refine ⟨h.os.below hb,h.nb,zll h.lt hb.size,h.bb,h.nx,fun b hx=>zll (h.xl b hx) hb.size,h.us.imp fun _ _ e=>z1q e k,h.de.imp fun _ _ e=>z2k e k,h.fol,fun i f hf=>?_⟩
 have hq:=h.fo i f hf
 cases hm:md i with
 | none=>
  rw [hm] at hq
  obtain ⟨cs,h1,h2⟩:=hq
  exact ⟨cs,h1,Z0 h2 k⟩
 | some q'=>
  rw [hm] at hq
  exact ⟨hq.1,hq.2.keep k⟩
theorem CP.done (h:CP X bc base W R st md) (ht:I64 st.turn) (hm:∀i f,st.folders[i]? =some f->∃q,md i=some q/\f.items.length<=q):IsSt (Imm X bc R W) W R st:=
 ⟨ht,h.us,h.de,h.fol,fun i f hf=>by
  obtain ⟨q,e,_⟩:=hm i f hf
  have k:=h.fo i f hf
  rw [e] at k
  obtain ⟨k1,k2⟩:=k
  refine ⟨k1,k2.name,k2.turn,k2.man,k2.ep,k2.itl,fun j x hx=>?_,k2.wr,k2.li⟩
  have:=k2.it j x hx
  rwa [if_pos (by have:=(zge hx).1;omega)] at this⟩
theorem Mut.low (m:Mut bc R W R' W') (os:OS base W R) (hb:base<=bc) (hw:base<=W.heap.size):Below base W W':=
 ⟨m.but.os,m.but.tape,m.but.output,m.but.size,fun b h=>m.but.block b (zll h hw) fun e=>by
  rcases e with e | ⟨k,e⟩
  ·omega
  ·have:=os.low k b e
   omega⟩
structure ST (bc base:Nat) (W0:World) (R0:RM) (W:World) (R:RM):Prop where
 os:OS base W R
 m:Mut bc R0 W0 R W
 hb:base<=W.heap.size
theorem CP.stage (h:CP X bc base W R st md):ST bc base W R W R:=⟨h.os,Mut.refl _ _ _,Nat.le_trans h.bb (Nat.le_of_lt h.lt)⟩
theorem ST.row {W0 W1:World} {R0:RM} (h:ST bc base W0 R0 W R) (hB:Below W.heap.size W W1) (k:RK) (r:Row) (hr:RowC k.ty k.sz W1 r.v r.cells) (hl:r.cells.length<=10000) (ho:∀b,r.v.ownBlock=some b->W.heap.size<=b):ST bc base W0 R0 W1 (zK R k r):=by
 obtain ⟨o,m⟩:=h.os.put (bw:=bc) (W':=W1) h.hb k r (ButB.of hB) hr hl fun b hb=> .inr (ho b hb)
 exact ⟨o,h.m.trans m,Nat.le_trans h.hb hB.size⟩
theorem ST.cell {W0:World} {R0:RM} (h:ST bc base W0 R0 W R) (k:RK) {a off n cp:Nat} (hv:(R k).v= .slice (some ⟨a,off,none⟩) n cp) {i j:Nat} {x:List Value} (hx:(R k).cells[i]? =some x) (hj:j < k.sz) {u:Value} (hu:u.oneCell'=true):
  ST bc base W0 R0 (W.setCell ⟨a,off+i*k.sz+j,none⟩ u) (zK R k ⟨(R k).v,(R k).cells.set i (x.set j u)⟩):=by
 have hr:=h.os.row k
 rw [hv] at hr
 have hw:=hr.write (by omega) hx hj u hu
 obtain ⟨o1,m1⟩:=h.os.put (bw:=bc) (W':=W.setCell ⟨a,off+i*k.sz+j,none⟩ u) h.hb k ⟨(R k).v,(R k).cells.set i (x.set j u)⟩ ((ButB.refl _ W).set ⟨a,off+i*k.sz+j,none⟩ u (by rw [hv];rfl)) (by rw [hv];exact hw) (by have:=h.os.len k;simpa using this) (fun b hb=> .inl hb)
 exact ⟨o1,h.m.trans m1,by rw [World.size_setCell];exact h.hb⟩
theorem Kept.shift {S S':Nat->Prop} {W Wa Wg:World} (hB:Below W.heap.size W Wa) (hS:∀b,S b->b < W.heap.size) (k:Kept S S' W Wg):Kept S S' Wa Wg:=fun b hb _=>by
 obtain ⟨h1,h2⟩:=k b hb (hS b hb)
 exact ⟨h1,h2.trans (hB.block b (hS b hb)).symm⟩
theorem CP.head (h:CP X bc base W R st md) {p:Nat} (hf:st.folders[p]? =some f) {w2 w3 w4 w5 w6:Value} (hx:(R .fo).cells[p]? =some [.string f.name,.int .i64 f.turn,w2,w3,w4,w5,w6]) (hn:f.name.size<=140737488355328) (ht:I64 f.turn)
  {a off n cp:Nat} (hv:(R .fo).v= .slice (some ⟨a,off,none⟩) n cp) {Wa Wb Wc Wd We Wf:World} {v1 v2 v3 v4 v5:Value} {c1 c2 c3 c4 c5:List (List Value)}
  (B1:Below W.heap.size W Wa) (r1:RowC 84 8 Wa v1 c1) (a1:All2 (ZO (Imm X bc R W) Wa) c1 f.manifests) (l1:∀b,v1.ownBlock=some b->W.heap.size<=b) (o1:v1.oneCell'=true)
  (B2:Below Wa.heap.size Wa Wb) (r2:RowC 130 5 Wb v2 c2) (a2:All2 (Y6 (Imm X bc R W) Wb) c2 f.epochs) (l2:∀b,v2.ownBlock=some b->Wa.heap.size<=b) (o2:v2.oneCell'=true)
  (B3:Below Wb.heap.size Wb Wc) (r3:RowC 78 2 Wc v3 c3) (a3:All2 (yV (Imm X bc R W) Wc) c3 f.items) (l3:∀b,v3.ownBlock=some b->Wb.heap.size<=b) (o3:v3.oneCell'=true)
  (ed:Wd=((Wc.setCell ⟨a,off+p*7+2,none⟩ v1).setCell ⟨a,off+p*7+3,none⟩ v2).setCell ⟨a,off+p*7+4,none⟩ v3)
  (B4:Below Wd.heap.size Wd We) (r4:RowC 149 3 We v4 c4) (a4:All2 (yW (Imm X bc R W) We) c4 f.wraps) (l4:∀b,v4.ownBlock=some b->Wd.heap.size<=b) (o4:v4.oneCell'=true)
  (B5:Below We.heap.size We Wf) (r5:RowC 151 3 Wf v5 c5) (a5:All2 (YP (Imm X bc R W) Wf) c5 f.links) (l5:∀b,v5.ownBlock=some b->We.heap.size<=b) (o5:v5.oneCell'=true)
  (hl:f.manifests.length<=10000/\f.epochs.length<=10000/\f.items.length<=10000/\f.wraps.length<=10000/\f.links.length<=10000):
  ∃R',CP X bc base ((Wf.setCell ⟨a,off+p*7+5,none⟩ v4).setCell ⟨a,off+p*7+6,none⟩ v5) R' st (fun i=>if i=p then some 0 else md i)/\Mut bc R W R' ((Wf.setCell ⟨a,off+p*7+5,none⟩ v4).setCell ⟨a,off+p*7+6,none⟩ v5)/\R' .us=R .us/\R' .de=R .de/\(R' .fo).v=(R .fo).v:=by
 have hpl:p < (R .fo).cells.length:=by rw [h.fol];exact (zge hf).1
 have s1:=h.stage.row B1 (.ma p) ⟨v1,c1⟩ r1 (by rw [a1.1];exact hl.1) l1
 have s2:=s1.row B2 (.ep p) ⟨v2,c2⟩ r2 (by rw [a2.1];exact hl.2.1) l2
 have s3:=s2.row B3 (.it p) ⟨v3,c3⟩ r3 (by rw [a3.1];exact hl.2.2.1) l3
 have s4:=s3.cell .fo (a:=a) (off:=off) (n:=n) (cp:=cp) (i:=p) (j:=2) (u:=v1) (x:=[.string f.name,.int .i64 f.turn,w2,w3,w4,w5,w6]) (by simpa [zK] using hv) (by simpa [zK] using hx) (by decide) o1
 have s5:=s4.cell .fo (a:=a) (off:=off) (n:=n) (cp:=cp) (i:=p) (j:=3) (u:=v2) (x:=[.string f.name,.int .i64 f.turn,v1,w3,w4,w5,w6]) (by simpa [zK] using hv) (by simp [zK,hpl]) (by decide) o2
 have s6:=s5.cell .fo (a:=a) (off:=off) (n:=n) (cp:=cp) (i:=p) (j:=4) (u:=v3) (x:=[.string f.name,.int .i64 f.turn,v1,v2,w4,w5,w6]) (by simpa [zK] using hv) (by simp [zK,hpl]) (by decide) o3
 rw [show ((Wc.setCell ⟨a,off+p*RK.fo.sz+2,none⟩ v1).setCell ⟨a,off+p*RK.fo.sz+3,none⟩ v2).setCell ⟨a,off+p*RK.fo.sz+4,none⟩ v3=Wd from ed.symm] at s6
 have s7:=s6.row B4 (.wr p) ⟨v4,c4⟩ r4 (by rw [a4.1];exact hl.2.2.2.1) l4
 have s8:=s7.row B5 (.li p) ⟨v5,c5⟩ r5 (by rw [a5.1];exact hl.2.2.2.2) l5
 have s9:=s8.cell .fo (a:=a) (off:=off) (n:=n) (cp:=cp) (i:=p) (j:=5) (u:=v4) (x:=[.string f.name,.int .i64 f.turn,v1,v2,v3,w5,w6]) (by simpa [zK] using hv) (by simp [zK,hpl]) (by decide) o4
 have s10:=s9.cell .fo (a:=a) (off:=off) (n:=n) (cp:=cp) (i:=p) (j:=6) (u:=v5) (x:=[.string f.name,.int .i64 f.turn,v1,v2,v3,v4,w6]) (by simpa [zK] using hv) (by simp [zK,hpl]) (by decide) o5
 clear s1 s2 s3 s4 s5 s6 s7 s8 s9
 generalize hR:zK _ _ _=R' at s10
 have q1:R' .us=R .us:=by rw [<-hR];simp [zK]
 have q2:R' .de=R .de:=by rw [<-hR];simp [zK]
 have q3:R' .fo=⟨(R .fo).v,(R .fo).cells.set p [.string f.name,.int .i64 f.turn,v1,v2,v3,v4,v5]⟩:=by rw [<-hR];simp [zK]
 have q4:R' (.ma p)=⟨v1,c1⟩/\R' (.ep p)=⟨v2,c2⟩/\R' (.it p)=⟨v3,c3⟩/\R' (.wr p)=⟨v4,c4⟩/\R' (.li p)=⟨v5,c5⟩:=by rw [<-hR];simp [zK]
 have q5:∀i',i'≠p->R' (.ma i')=R (.ma i')/\R' (.ep i')=R (.ep i')/\R' (.it i')=R (.it i')/\R' (.wr i')=R (.wr i')/\R' (.li i')=R (.li i')/\∀j,R' (.ve i' j)=R (.ve i' j):=fun i' hi=>by
  rw [<-hR]
  simp [zK,hi]
 clear hR
 have hB2:=zB B1 B2
 have hB3:=zB hB2 B3
 have k:=s10.m.kept (X:=X)
 have hWd:∀b,Imm X bc R W b->Wd.heap[b]? =W.heap[b]? :=fun b hb=>by
  have hne:b≠a:=fun e=>hb.2.2.1 ⟨.fo,by rw [hv,e];rfl⟩
  rw [ed,Below.heap_setCell _ _ _ _ hne,Below.heap_setCell _ _ _ _ hne,Below.heap_setCell _ _ _ _ hne]
  exact hB3.block b hb.1
 have hzd:W.heap.size<=Wd.heap.size:=by rw [ed];simpa using hB3.size
 have k4:Kept (Imm X bc R W) (Imm X bc R' _) We _:=fun b hb _=>by
  obtain ⟨h1,h2⟩:=k b hb hb.1
  exact ⟨h1,h2.trans ((B4.block b (zll hb.1 hzd)).trans (hWd b hb)).symm⟩
 have k5:Kept (Imm X bc R W) (Imm X bc R' _) Wf _:=fun b hb _=>by
  obtain ⟨h1,h2⟩:=k b hb hb.1
  exact ⟨h1,h2.trans (((zB B4 B5).block b (zll hb.1 hzd)).trans (hWd b hb)).symm⟩
 refine ⟨R',h.turn hf s10.m s10.os q1 q2 q5 ?_ ?_,s10.m,q1,q2,by rw [q3]⟩
 ·rw [q3]
  unfold hdr
  rw [q4.1,q4.2.1,q4.2.2.1,q4.2.2.2.1,q4.2.2.2.2]
 refine ⟨hn,ht,?_,?_,?_,fun j x hj=>?_,?_,?_⟩
 ·rw [q4.1]
  exact a1.imp fun _ _ e=>Y1 e (k.shift B1 fun _ h=>h.1)
 ·rw [q4.2.1]
  exact a2.imp fun _ _ e=>z14 e (k.shift hB2 fun _ h=>h.1)
 ·rw [q4.2.2.1]
  exact a3.1
 ·rw [if_neg (by omega),q4.2.2.1]
  obtain ⟨y,hy,hr⟩:=a3.at hj
  exact ⟨y,hy,z4f hr (k.shift hB3 fun _ h=>h.1)⟩
 ·rw [q4.2.2.2.1]
  exact a4.imp fun _ _ e=>z2n e k4
 rw [q4.2.2.2.2]
 exact a5.imp fun _ _ e=>z4g e k5
theorem zDi {md:Nat->Option Nat} {p q:Nat} (h:md p=some q) (i:Nat):md i=(if i=p then some q else md i):=by
 split
 ·rename_i e;rw [e,h]
 rfl
theorem CP.maSet (h:CP X bc base W R st md) {p:Nat} (hf:st.folders[p]? =some f) (hp:md p=some q) {W1:World} (hB:Below W.heap.size W W1) {j:Nat} {m:Manifest} (hm:f.manifests[j]? =some m) {a off n cp:Nat} (hv:(R (.ma p)).v= .slice (some ⟨a,off,none⟩) n cp) {u:Value} (hu:Sl 2 zY (fun b=>b < W1.heap.size/\b≠bc/\¬yS R b/\¬X b) W1 u m.members):
  ∃R',CP X bc base (W1.setCell ⟨a,off+j*8+4,none⟩ u) R' st md/\Mut bc R W R' (W1.setCell ⟨a,off+j*8+4,none⟩ u)/\R' .us=R .us/\R' .de=R .de/\(R' .fo).v=(R .fo).v:=by
 have h1:=h.below hB
 have hq:=h1.fo p f hf
 rw [hp] at hq
 obtain ⟨hc,hF⟩:=hq
 obtain ⟨x,hx,hr⟩:=hF.man.at hm
 obtain ⟨A,c,rfl,_⟩:=id hu
 have s1:=h1.stage.cell (.ma p) hv hx (show 4 < 8 by decide) (u:= .slice A m.members.length c) rfl
 generalize hR:zK _ _ _=R' at s1
 have q1:(R' (.ma p)).cells=(R (.ma p)).cells.set j (x.set 4 (.slice A m.members.length c))/\(R' (.ma p)).v=(R (.ma p)).v:=by rw [<-hR];simp [zK]
 have q3:R' .us=R .us/\R' .de=R .de/\R' .fo=R .fo/\R' (.ep p)=R (.ep p)/\R' (.it p)=R (.it p)/\R' (.wr p)=R (.wr p)/\R' (.li p)=R (.li p)/\∀j,R' (.ve p j)=R (.ve p j):=by rw [<-hR];simp [zK]
 have q5:∀i',i'≠p->R' (.ma i')=R (.ma i')/\R' (.ep i')=R (.ep i')/\R' (.it i')=R (.it i')/\R' (.wr i')=R (.wr i')/\R' (.li i')=R (.li i')/\∀j,R' (.ve i' j)=R (.ve i' j):=fun i' hi=>by
  rw [<-hR]
  simp [zK,hi]
 clear hR
 obtain ⟨q31,q32,q33,q34,q35,q36,q37,q38⟩:=q3
 have k:=s1.m.kept (X:=X)
 refine ⟨R',(h1.turn hf s1.m s1.os q31 q32 q5 ?_ ?_).mode fun i _=>zDi hp i,(Mut.below hB).trans s1.m,q31,q32,by rw [q33]⟩
 ·have e1:hdr R' p f=hdr R p f:=by unfold hdr;rw [q1.2,q34,q35,q36,q37]
  rw [e1,q33,List.set_eq_self_of hc]
 have hF':=hF.keep k
 have hr':=Y1 hr k
 have hS:=hu.keep ZC (by decide) k
 have hset:=hF'.man.set j (x:=x.set 4 (.slice A m.members.length c)) (y:=m) (by
  obtain ⟨v2,_,rfl,g1,g2,g3,g4,_,g6⟩:=hr'
  exact ⟨v2,_,rfl,g1,g2,g3,g4,hS,g6⟩)
 rw [List.set_eq_self_of hm,<-q1.1] at hset
 exact ⟨hF'.name,hF'.turn,hset,by rw [q34];exact hF'.ep,by rw [q35];exact hF'.itl,fun j' x hx=>by rw [q35,q38 j'];exact hF'.it j' x hx,by rw [q36];exact hF'.wr,by rw [q37];exact hF'.li⟩
theorem CP.epSet (h:CP X bc base W R st md) {p:Nat} (hf:st.folders[p]? =some f) (hp:md p=some q) {W1:World} (hB:Below W.heap.size W W1) {j:Nat} {m:Epoch} (hm:f.epochs[j]? =some m) {a off n cp:Nat} (hv:(R (.ep p)).v= .slice (some ⟨a,off,none⟩) n cp) {u:Value} (hu:Sl 2 rAt (fun b=>b < W1.heap.size/\b≠bc/\¬yS R b/\¬X b) W1 u m.chain):
  ∃R',CP X bc base (W1.setCell ⟨a,off+j*5+3,none⟩ u) R' st md/\Mut bc R W R' (W1.setCell ⟨a,off+j*5+3,none⟩ u)/\R' .us=R .us/\R' .de=R .de/\(R' .fo).v=(R .fo).v:=by
 have h1:=h.below hB
 have hq:=h1.fo p f hf
 rw [hp] at hq
 obtain ⟨hc,hF⟩:=hq
 obtain ⟨x,hx,hr⟩:=hF.ep.at hm
 obtain ⟨A,c,rfl,_⟩:=id hu
 have s1:=h1.stage.cell (.ep p) hv hx (show 3 < 5 by decide) (u:= .slice A m.chain.length c) rfl
 generalize hR:zK _ _ _=R' at s1
 have q1:(R' (.ep p)).cells=(R (.ep p)).cells.set j (x.set 3 (.slice A m.chain.length c))/\(R' (.ep p)).v=(R (.ep p)).v:=by rw [<-hR];simp [zK]
 have q3:R' .us=R .us/\R' .de=R .de/\R' .fo=R .fo/\R' (.ma p)=R (.ma p)/\R' (.it p)=R (.it p)/\R' (.wr p)=R (.wr p)/\R' (.li p)=R (.li p)/\∀j,R' (.ve p j)=R (.ve p j):=by rw [<-hR];simp [zK]
 have q5:∀i',i'≠p->R' (.ma i')=R (.ma i')/\R' (.ep i')=R (.ep i')/\R' (.it i')=R (.it i')/\R' (.wr i')=R (.wr i')/\R' (.li i')=R (.li i')/\∀j,R' (.ve i' j)=R (.ve i' j):=fun i' hi=>by
  rw [<-hR]
  simp [zK,hi]
 clear hR
 obtain ⟨q31,q32,q33,q34,q35,q36,q37,q38⟩:=q3
 have k:=s1.m.kept (X:=X)
 refine ⟨R',(h1.turn hf s1.m s1.os q31 q32 q5 ?_ ?_).mode fun i _=>zDi hp i,(Mut.below hB).trans s1.m,q31,q32,by rw [q33]⟩
 ·have e1:hdr R' p f=hdr R p f:=by unfold hdr;rw [q1.2,q34,q35,q36,q37]
  rw [e1,q33,List.set_eq_self_of hc]
 have hF':=hF.keep k
 have hr':=z14 hr k
 have hS:=hu.keep Z8 (by decide) k
 have hset:=hF'.ep.set j (x:=x.set 3 (.slice A m.chain.length c)) (y:=m) (by
  obtain ⟨_,rfl,g1,g2,g3,_,g5⟩:=hr'
  exact ⟨_,rfl,g1,g2,g3,hS,g5⟩)
 rw [List.set_eq_self_of hm,<-q1.1] at hset
 exact ⟨hF'.name,hF'.turn,by rw [q34];exact hF'.man,hset,by rw [q35];exact hF'.itl,fun j' x hx=>by rw [q35,q38 j'];exact hF'.it j' x hx,by rw [q36];exact hF'.wr,by rw [q37];exact hF'.li⟩
theorem CP.veSet (h:CP X bc base W R st md) {p j:Nat} (hf:st.folders[p]? =some f) (hp:md p=some j) {W1:World} (hB:Below W.heap.size W W1) {it:Item} (hm:f.items[j]? =some it) {a off n cp:Nat} (hv:(R (.it p)).v= .slice (some ⟨a,off,none⟩) n cp) {v:Value} {cells:List (List Value)} (hr:RowC 80 4 W1 v cells) (ha:All2 (yB (Imm X bc R W) W1) cells it.versions) (hlow:∀b,v.ownBlock=some b->W.heap.size<=b) (hone:v.oneCell'=true) (hl:it.versions.length<=10000):
  ∃R',CP X bc base (W1.setCell ⟨a,off+j*2+1,none⟩ v) R' st (fun i=>if i=p then some (j+1) else md i)/\Mut bc R W R' (W1.setCell ⟨a,off+j*2+1,none⟩ v)/\R' .us=R .us/\R' .de=R .de/\(R' .fo).v=(R .fo).v/\(R' (.it p)).v=(R (.it p)).v/\(R' (.ve p j)).v=v:=by
 have hq:=h.fo p f hf
 rw [hp] at hq
 obtain ⟨hc,hF⟩:=hq
 have hit:=hF.it j it hm
 rw [if_neg (by omega)] at hit
 obtain ⟨_,hcs,v1,rfl,hnm,_⟩:=hit
 have s0:=h.stage.row hB (.ve p j) ⟨v,cells⟩ hr (by rw [ha.1];exact hl) hlow
 have s1:=s0.cell (.it p) (a:=a) (off:=off) (n:=n) (cp:=cp) (i:=j) (j:=1) (u:=v) (x:=[.string it.name,v1]) (by simpa [zK] using hv) (by simpa [zK] using hcs) (show 1 < 2 by decide) hone
 generalize hR:zK _ _ _=R' at s1
 have q1:R' (.ve p j)=⟨v,cells⟩:=by rw [<-hR];simp [zK]
 have q2:R' (.it p)=⟨(R (.it p)).v,(R (.it p)).cells.set j [.string it.name,v]⟩:=by rw [<-hR];simp [zK]
 have q3:R' .us=R .us/\R' .de=R .de/\R' .fo=R .fo/\R' (.ma p)=R (.ma p)/\R' (.ep p)=R (.ep p)/\R' (.wr p)=R (.wr p)/\R' (.li p)=R (.li p):=by rw [<-hR];simp [zK]
 have q4:∀j',j'≠j->R' (.ve p j')=R (.ve p j'):=fun j' hj=>by rw [<-hR];simp [zK,hj]
 have q5:∀i',i'≠p->R' (.ma i')=R (.ma i')/\R' (.ep i')=R (.ep i')/\R' (.it i')=R (.it i')/\R' (.wr i')=R (.wr i')/\R' (.li i')=R (.li i')/\∀j,R' (.ve i' j)=R (.ve i' j):=fun i' hi=>by
  rw [<-hR]
  simp [zK,hi]
 clear hR
 have k:=s1.m.kept (X:=X)
 refine ⟨R',h.turn hf s1.m s1.os q3.1 q3.2.1 q5 ?_ ?_,s1.m,q3.1,q3.2.1,by rw [q3.2.2.1],by rw [q2],by rw [q1]⟩
 ·have e1:hdr R' p f=hdr R p f:=by unfold hdr;rw [q3.2.2.2.1,q3.2.2.2.2.1,q2,q3.2.2.2.2.2.1,q3.2.2.2.2.2.2]
  rw [e1,q3.2.2.1,List.set_eq_self_of hc]
 have hF':=hF.keep k
 refine ⟨hF'.name,hF'.turn,by rw [q3.2.2.2.1];exact hF'.man,by rw [q3.2.2.2.2.1];exact hF'.ep,by rw [q2];simpa using hF'.itl,fun j' y hy=>?_,by rw [q3.2.2.2.2.2.1];exact hF'.wr,by rw [q3.2.2.2.2.2.2];exact hF'.li⟩
 have hjl:=(zge hm).1
 rw [q2]
 dsimp only
 rw [List.getElem?_set]
 by_cases hjj:j=j'
 ·subst hjj
  rw [hm] at hy
  obtain rfl:=zsi hy
  rw [if_pos (by omega),if_pos rfl,if_pos (by rw [hF.itl];exact hjl),q1]
  exact ⟨rfl,hnm,ha.imp fun _ _ e=>z09 e (k.shift hB fun _ h=>h.1)⟩
 have hne:j'≠j:=fun e=>hjj e.symm
 have hold:=hF'.it j' y hy
 rw [if_neg hjj,q4 j' hne]
 by_cases hlt:j' < j
 ·rw [if_pos (by omega)]
  rwa [if_pos hlt] at hold
 rw [if_neg (by omega)]
 rwa [if_neg hlt] at hold
theorem CP.vdSet (h:CP X bc base W R st md) {p j:Nat} (hf:st.folders[p]? =some f) (hp:md p=some q) (hjq:j < q) {W1:World} (hB:Below W.heap.size W W1) {it:Item} (hi:f.items[j]? =some it) {k:Nat} {m:Version} (hm:it.versions[k]? =some m) {a off n cp:Nat} (hv:(R (.ve p j)).v= .slice (some ⟨a,off,none⟩) n cp) {u:Value} (hu:Sl 1 yN (fun b=>b < W1.heap.size/\b≠bc/\¬yS R b/\¬X b) W1 u m.data):
  ∃R',CP X bc base (W1.setCell ⟨a,off+k*4+3,none⟩ u) R' st md/\Mut bc R W R' (W1.setCell ⟨a,off+k*4+3,none⟩ u)/\R' .us=R .us/\R' .de=R .de/\(R' .fo).v=(R .fo).v/\(R' (.it p)).v=(R (.it p)).v:=by
 have h1:=h.below hB
 have hq:=h1.fo p f hf
 rw [hp] at hq
 obtain ⟨hc,hF⟩:=hq
 have hit:=hF.it j it hi
 rw [if_pos hjq] at hit
 obtain ⟨_,_,hall⟩:=hit
 obtain ⟨x,hx,hr⟩:=hall.at hm
 obtain ⟨A,c,rfl,_⟩:=id hu
 have s1:=h1.stage.cell (.ve p j) hv hx (show 3 < 4 by decide) (u:= .slice A m.data.length c) rfl
 generalize hR:zK _ _ _=R' at s1
 have q1:R' (.ve p j)=⟨(R (.ve p j)).v,(R (.ve p j)).cells.set k (x.set 3 (.slice A m.data.length c))⟩:=by rw [<-hR];simp [zK]
 have q3:R' .us=R .us/\R' .de=R .de/\R' .fo=R .fo/\R' (.ma p)=R (.ma p)/\R' (.ep p)=R (.ep p)/\R' (.wr p)=R (.wr p)/\R' (.li p)=R (.li p)/\R' (.it p)=R (.it p):=by rw [<-hR];simp [zK]
 have q4:∀j',j'≠j->R' (.ve p j')=R (.ve p j'):=fun j' hj=>by rw [<-hR];simp [zK,hj]
 have q5:∀i',i'≠p->R' (.ma i')=R (.ma i')/\R' (.ep i')=R (.ep i')/\R' (.it i')=R (.it i')/\R' (.wr i')=R (.wr i')/\R' (.li i')=R (.li i')/\∀j,R' (.ve i' j)=R (.ve i' j):=fun i' hi=>by
  rw [<-hR]
  simp [zK,hi]
 clear hR
 have kk:=s1.m.kept (X:=X)
 refine ⟨R',(h1.turn hf s1.m s1.os q3.1 q3.2.1 q5 ?_ ?_).mode fun i _=>zDi hp i,(Mut.below hB).trans s1.m,q3.1,q3.2.1,by rw [q3.2.2.1],by rw [q3.2.2.2.2.2.2.2]⟩
 ·have e1:hdr R' p f=hdr R p f:=by unfold hdr;rw [q3.2.2.2.1,q3.2.2.2.2.1,q3.2.2.2.2.2.1,q3.2.2.2.2.2.2.1,q3.2.2.2.2.2.2.2]
  rw [e1,q3.2.2.1,List.set_eq_self_of hc]
 have hF':=hF.keep kk
 refine ⟨hF'.name,hF'.turn,by rw [q3.2.2.2.1];exact hF'.man,by rw [q3.2.2.2.2.1];exact hF'.ep,by rw [q3.2.2.2.2.2.2.2];exact hF'.itl,fun j' y hy=>?_,by rw [q3.2.2.2.2.2.1];exact hF'.wr,by rw [q3.2.2.2.2.2.2.1];exact hF'.li⟩
 have hold:=hF'.it j' y hy
 rw [q3.2.2.2.2.2.2.2]
 by_cases hjj:j'=j
 ·subst hjj
  rw [hi] at hy
  obtain rfl:=zsi hy
  rw [if_pos hjq] at hold⊢
  rw [q1]
  refine ⟨hold.1,hold.2.1,?_⟩
  have hr':=z09 hr kk
  have hS:=hu.keep rByte_ok (by decide) (S':=Imm X bc R' (W1.setCell ⟨a,off+k*4+3,none⟩ (.slice A m.data.length c))) (w':=W1.setCell ⟨a,off+k*4+3,none⟩ (.slice A m.data.length c)) kk
  have:=hold.2.2.set k (x:=x.set 3 (.slice A m.data.length c)) (y:=m) (by
   obtain ⟨_,rfl,g1,g2,_⟩:=hr'
   exact ⟨_,rfl,g1,g2,hS⟩)
  rwa [List.set_eq_self_of hm] at this
 rwa [q4 j' hjj]
end
end
end Go.Proofs.YtdggplhnfhcieaaGreatDoor
section
namespace Go.Proofs.YtdggplhnfhcieaaGreatDoor.Ro
open Go.RowKit Go.Deep
def eqS (a b:ByteArray):Bool:=a.toList==b.toList
def z3t {α:Type} (p:α->Bool):List α->Nat->Int
 | [],_=> -1
 | x :: l,k=>if p x then k else z3t p l (k+1)
theorem zH7 (name:ByteArray) (B:Nat) (x:Member) (cs:List Value) (w:World) (S:Nat->Prop) (h:zY S w cs x) (hB:w.cell? ⟨B,0,none⟩=some (.string name)):
  Calls Tryz.prog 193 #[.agg cs.toArray,.pointer (some ⟨B,0,none⟩)] w fun e w'=>e= .returned (.bool (eqS x.name name))/\Below w.heap.size w w':=by
 obtain ⟨rfl,_,_⟩:=z3n h
 have hBl:=zF hB
 go_enter Tryz.func193,Tryz.ntmps193
 go_wp2
 go_ret
 exact ⟨rfl,by go_grown⟩
theorem zL8 (name:ByteArray) (B:Nat) (l:List Member) (v:Value) (w:World) (S:Nat->Prop) (h:Sl 2 zY S w v l) (hB:w.cell? ⟨B,0,none⟩=some (.string name)):
  Calls Tryz.prog 192 #[v,.func (.func 193) #[] #[.pointer (some ⟨B,0,none⟩)]] w fun e w'=>e= .returned (.int .i64 (z3t (fun m=>eqS m.name name) l 0))/\Below w.heap.size w w':=by
 have HB:=zh hB
 clear hB
 obtain ⟨_,_,rfl,_,hc,_,hs⟩:=h
 unfold maxLen at hc
 go_enter Tryz.func192,Tryz.ntmps192
 go_wp2
 go_loopw [8] (fun i wr=>∃(k:Nat),k<=l.length/\i= .int .i64 k/\z3t (fun m=>eqS m.name name) (l.drop k) k=z3t (fun m=>eqS m.name name) l 0/\Below w.heap.size w wr) (fun i _=>l.length - (intOf i).toNat)
 case atStart=>exact ⟨0,by omega,by go_num,by simp,by go_grown⟩
 obtain ⟨k,_,rfl,E,hbel⟩:=hrel
 have hz:=hbel.size
 by_cases hlt:k < l.length
 rotate_left
 ·obtain rfl:k=l.length:=by omega
  rw [List.drop_length] at E
  have EH:=zh E
  clear E
  go_wp2
  go_ret
  exact ⟨by rw [<-EH.out];rfl,hbel⟩
 obtain ⟨x,_,_,x_k,x_d,_,rfl,_,_,_,_,x_R,_,_⟩:=Y5 hs hlt (zH hbel)
 rw [x_d,z3t] at E
 have E2:=zh E
 clear x_k x_d E
 go_wp2_with fail
 refine zcm (zH7 name B x _ _ S x_R ((hbel.cell (p:=⟨B,0,none⟩) (zF HB.out)).trans HB.out)) ?_
 rintro e _ ⟨rfl,hb1⟩
 cases hpx:eqS x.name name
 ·have EH:=zh (show z3t (fun m=>eqS m.name name) (l.drop (k+1)) (k+1)=z3t (fun m=>eqS m.name name) l 0 by rw [<-E2.out,hpx];rfl)
  clear E2
  go_wp2
  go_roundw
  case rel=>exact ⟨k+1,by omega,by go_num,EH.out,zB hbel hb1⟩
  case measure=>simp [intOf];omega
 have EH:=zh (show (k:Int)=z3t (fun m=>eqS m.name name) l 0 by rw [<-E2.out,hpx];rfl)
 clear E2
 go_wp2
 go_ret
 exact ⟨by rw [<-EH.out];rfl,zB hbel hb1⟩
def z1n (l:List Member) (name:ByteArray):Int:=z3t (fun m=>eqS m.name name) l 0
theorem zFp:∀(fn:Fn) (first cap:Array Value) (w:World),(Instr.makeFunc fn first cap).run Tryz.prog w= .ok (.func fn first cap) w:=fun _ _ _ _=>rfl
theorem z3p (name:ByteArray) (l:List Member) (v:Value) (w:World) (S:Nat->Prop) (h:Sl 2 zY S w v l):
  Calls Tryz.prog 170 #[v,.string name] w fun e w'=>e= .returned (.int .i64 (z1n l name))/\Below w.heap.size w w':=by
 have hmf:=zFp
 obtain ⟨_,_,cw0,_,Bw0,_⟩:=zO w #[.string name] 9
 have w0_0:=cw0 0 _ rfl
 have H:=zh h
 clear h cw0
 go_enter Tryz.func170,Tryz.ntmps170
 go_wp2_with fail
 refine zcm (zL8 name w.heap.size l v _ S (H.out.keep ZC (by decide) (zH Bw0)) w0_0) ?_
 rintro e _ ⟨rfl,hb1⟩
 go_wp2
 go_ret
 exact ⟨rfl,zB Bw0 hb1⟩
def ofOf:List Member->ByteArray->Int
 | [],_=>0
 | m :: l,name=>if eqS m.name name then m.role else ofOf l name
theorem atOf_cases (name:ByteArray):∀(l:List Member) (k:Nat),(z3t (fun m=>eqS m.name name) l k= -1/\ofOf l name=0)\/∃(i:Nat) (m:Member),z3t (fun m=>eqS m.name name) l k=((k+i:Nat):Int)/\l[i]? =some m/\ofOf l name=m.role/\eqS m.name name=true
 | [],k=> .inl ⟨rfl,rfl⟩
 | m :: l,k=>by
  rw [z3t,ofOf]
  cases hm:eqS m.name name
  ·rcases atOf_cases name l (k+1) with ⟨h1,h2⟩ | ⟨i,m',h1,h2,h3,h4⟩
   ·exact .inl ⟨by simpa [hm] using h1,by simpa [hm] using h2⟩
   ·exact .inr ⟨i+1,m',by simp only [Bool.false_eq_true,if_false];rw [h1];congr 1;omega,by simpa using h2,by simpa [hm] using h3,h4⟩
  ·exact .inr ⟨0,m,by simp,by simp,by simp,hm⟩
theorem of_any (name:ByteArray) (l:List Member) (v:Value) (w:World) (S:Nat->Prop) (h:Sl 2 zY S w v l):
  Calls Tryz.prog 157 #[v,.string name] w fun e w'=>e= .returned (.int .i64 (ofOf l name))/\Below w.heap.size w w':=by
 have H:=zh h
 rcases atOf_cases name l 0 with ⟨h1,h2⟩ | ⟨i,m,h1,h2,h3,_⟩
 ·have K1:=zh (show z1n l name= -1 from h1)
  have K2:=zh h2
  clear h h1 h2
  go_enter Tryz.func157,Tryz.ntmps157
  go_wp2_with fail
  refine zcm (z3p name l v _ S H.out) ?_
  rintro e w1 ⟨rfl,hb1⟩
  rw [K1.out]
  go_wp2
  go_ret
  exact ⟨by rw [K2.out];rfl,hb1⟩
 obtain ⟨_,_,rfl,_,hc,_,hs⟩:=h
 unfold maxLen at hc
 have hil:i < l.length:=(zge h2).1
 have K1:=zh (show z1n l name=(i:Int) by rw [z1n,h1];simp)
 have K2:=zh h3
 have K3:=zh h2
 clear h1 h2 h3
 go_enter Tryz.func157,Tryz.ntmps157
 go_wp2_with fail
 refine zcm (z3p name l _ _ S H.out) ?_
 rintro e w1 ⟨rfl,hb1⟩
 rw [K1.out]
 obtain ⟨x,_,_,x_k,x_d,_,rfl,_,_,_,_,_,_,_⟩:=Y5 hs hil (zH hb1)
 have ex:x=m:=zsi (x_k.symm.trans K3.out)
 subst ex
 clear x_k x_d
 go_wp2
 go_ret
 exact ⟨by rw [K2.out];rfl,hb1⟩
end Go.Proofs.YtdggplhnfhcieaaGreatDoor.Ro
end
namespace Go.Proofs.YtdggplhnfhcieaaGreatDoor
section
open Go.RowKit Go.Deep
theorem z0x {s:ByteArray} (h:s≠⟨#[]⟩):s.toList.isEmpty=false:=by
 cases hs:s.toList with
 | nil=>
  refine absurd ?_ h
  obtain ⟨⟨l⟩⟩:=s
  rw [Lib.toList_data] at hs
  have h2:l=[]:=hs
  subst h2
  rfl
 | cons a l=>rfl
theorem zNt (s:ByteArray) (hs:s.size<=140737488355328) (b:Bool) (w:World):Calls Tryz.prog 52 #[.string s,.bool b] w fun e w'=>e= .returned (.bool (txt ZB s b))/\w=w':=by
 cases b with
 | true=>
  have HN:=zh (z7q s hs w)
  go_enter Tryz.func52,Tryz.ntmps52
  go_wp2_with (go_at_call 51;refine zcm HN.out ?_;rintro e _ ⟨rfl,rfl⟩)
  go_ret
  exact ⟨rfl,rfl⟩
 | false=>
  by_cases he:s=⟨#[]⟩
  ·subst he
   go_enter Tryz.func52,Tryz.ntmps52
   go_wp2
   go_ret
   exact ⟨rfl,rfl⟩
  have HE:=zh (show txt ZB s false=false by unfold txt z11;simp [he])
  have hse:s.toList.isEmpty=false:=z0x he
  clear he
  go_enter Tryz.func52,Tryz.ntmps52
  go_wp2
  go_ret
  exact ⟨by rw [HE.out];rfl,rfl⟩
theorem zJy (n a b:Int) (h:Bool) (w:World):Calls Tryz.prog 53 #[.int .i64 n,.int .i64 a,.int .i64 b,.bool h] w fun e w'=>e= .returned (.bool (num n a b h))/\w=w':=by
 cases h with
 | true=>
  by_cases h1:a<=n
  rotate_left
  ·have HE:=zh (show num n a b true=false by unfold num;simp [h1])
   have d1:decide (a<=n)=false:=decide_eq_false h1
   clear h1
   go_enter Tryz.func53,Tryz.ntmps53
   go_wp2
   go_ret
   exact ⟨by rw [HE.out];rfl,rfl⟩
  by_cases h2:n<=b
  ·have HE:=zh (show num n a b true=true by unfold num;simp [h1,h2])
   have d1:decide (a<=n)=true:=decide_eq_true h1
   have d2:decide (n<=b)=true:=decide_eq_true h2
   clear h1 h2
   go_enter Tryz.func53,Tryz.ntmps53
   go_wp2
   go_ret
   exact ⟨by rw [HE.out];rfl,rfl⟩
  have HE:=zh (show num n a b true=false by unfold num;simp [h1,h2])
  have d1:decide (a<=n)=true:=decide_eq_true h1
  have d2:decide (n<=b)=false:=decide_eq_false h2
  clear h1 h2
  go_enter Tryz.func53,Tryz.ntmps53
  go_wp2
  go_ret
  exact ⟨by rw [HE.out];rfl,rfl⟩
 | false=>
  by_cases h1:n=0
  ·subst h1
   go_enter Tryz.func53,Tryz.ntmps53
   go_wp2
   go_ret
   exact ⟨rfl,rfl⟩
  have HE:=zh (show num n a b false=false by unfold num;simp [h1])
  have d1:(n==0)=false:=beq_eq_false_iff_ne.2 h1
  clear h1
  go_enter Tryz.func53,Tryz.ntmps53
  go_wp2
  go_ret
  exact ⟨by rw [HE.out];rfl,rfl⟩
end
section
open Go.RowKit Go.Deep
structure CopyOk (st:State):Prop where
 us:st.users.length<=10000
 de:st.deposits.length<=10000
 fo:st.folders.length<=10000
 fl:∀f∈st.folders,f.manifests.length<=10000/\f.epochs.length<=10000/\f.items.length<=10000/\f.wraps.length<=10000/\f.links.length<=10000
 ma:∀f∈st.folders,∀m∈f.manifests,m.members.length<=10000
 ep:∀f∈st.folders,∀e∈f.epochs,e.chain.length<=10000
 it:∀f∈st.folders,∀x∈f.items,x.versions.length<=10000/\∀v∈x.versions,v.data.length<=10000
def zQb (w:World) (S:Nat->Prop) (st:State) (e:Ending) (w':World):Prop:=
 ∃R,e= .returned (.agg #[.int .i64 st.turn,(R .us).v,(R .de).v,(R .fo).v])/\Below w.heap.size w w'/\OS w.heap.size w' R/\IsSt (fun b=>b < w'.heap.size/\¬yS R b/\(b < w.heap.size->S b)) w' R st
def XC (S:Nat->Prop) (w:World):Nat->Prop:=fun b=>b=w.heap.size+1\/(b < w.heap.size/\¬S b)
theorem Kept.refl' {S S':Nat->Prop} {w:World} (h:∀b,S b->S' b):Kept S S' w w:=fun b hb _=>⟨h b hb,rfl⟩
section
variable {X:Nat->Prop} {bc base:Nat} {W W':World} {R R':RM} {st:State} {md:Nat->Option Nat} {p q:Nat} {f:Folder}
theorem z32 {w:World} {b i j:Nat} {u v:Value} (h:w.cell? ⟨b,j,none⟩=some v) (hij:j≠i):(w.setCell ⟨b,i,none⟩ u).cell? ⟨b,j,none⟩=some v:=by
 rw [World.cell?_setCell_other _ _ _ _ (fun e=>hij (by have:=congrArg Addr.off e;first | exact this | exact this.symm))]
 exact h
theorem CP.start {S:Nat->Prop} {w w1 w2 w3 w4 w5:World} {v1 v2 v3:Value} {c1 c2 c3:List (List Value)} (hz:w1.heap.size=w.heap.size+2)
  (B2:Below w1.heap.size w1 w2) (r1:RowC 91 2 w2 v1 c1) (a1:All2 (z01 (fun b=>b < w.heap.size/\S b) w2) c1 st.users) (l1:∀b,v1.ownBlock=some b->w1.heap.size<=b)
  (B3:Below w2.heap.size w2 w3) (r2:RowC 126 2 w3 v2 c2) (a2:All2 (YV (fun b=>b < w.heap.size/\S b) w3) c2 st.deposits) (l2:∀b,v2.ownBlock=some b->w2.heap.size<=b)
  (B4:Below w3.heap.size w3 w4) (r3:RowC 74 7 w4 v3 c3) (a3:All2 (ZE (fun b=>b < w.heap.size/\S b) w4) c3 st.folders) (l3:∀b,v3.ownBlock=some b->w3.heap.size<=b)
  (ok:CopyOk st) (e5:w5=((w4.setCell ⟨w.heap.size,1,none⟩ v1).setCell ⟨w.heap.size,2,none⟩ v2).setCell ⟨w.heap.size,3,none⟩ v3):
  ∃R,CP (XC S w) w.heap.size w.heap.size w5 R st (fun _=>none)/\(R .us).v=v1/\(R .de).v=v2/\(R .fo).v=v3:=by
 have s0:ST w.heap.size w.heap.size w1 (fun _=>⟨.slice none 0 0,[]⟩) w1 (fun _=>⟨.slice none 0 0,[]⟩):=⟨⟨fun k=>RowC.nil _,fun _ _ _ h=>(by cases h),fun _ _ h=>(by cases h),fun _=>(by simp)⟩,Mut.refl _ _ _,by omega⟩
 have s1:=s0.row B2 .us ⟨v1,c1⟩ r1 (by rw [a1.1];exact ok.us) l1
 have s2:=s1.row B3 .de ⟨v2,c2⟩ r2 (by rw [a2.1];exact ok.de) l2
 have s3:=s2.row B4 .fo ⟨v3,c3⟩ r3 (by rw [a3.1];exact ok.fo) l3
 generalize hR:zK _ _ _=R at s3
 have q1:R .us=⟨v1,c1⟩/\R .de=⟨v2,c2⟩/\R .fo=⟨v3,c3⟩:=by rw [<-hR];simp [zK]
 clear hR
 have z2:=B2.size
 have z3:=B3.size
 have z4:=B4.size
 have hnr:∀b,yS R b->w.heap.size+2<=b:=fun b hb=>(s3.m.fresh b hb).elim (fun ⟨k,e⟩=>by cases e) fun h=>by omega
 have hz5:w5.heap.size=w4.heap.size:=by rw [e5];simp
 have h5:∀b,b≠w.heap.size->w5.heap[b]? =w4.heap[b]? :=fun b hb=>by rw [e5,Below.heap_setCell _ _ _ _ hb,Below.heap_setCell _ _ _ _ hb,Below.heap_setCell _ _ _ _ hb]
 have kp:∀w',(∀b,b < w.heap.size->w4.heap[b]? =w'.heap[b]?)->Kept (fun b=>b < w.heap.size/\S b) (Imm (XC S w) w.heap.size R w5) w' w5:=fun w' hw b hb _=>by
  obtain ⟨hb',hs⟩:=hb
  exact ⟨⟨by omega,by omega,fun e=>by have:=hnr b e;omega,fun e=>e.elim (fun e=>by omega) fun e=>e.2 hs⟩,(h5 b (by omega)).trans (hw b hb')⟩
 have hB3:=zB B3 B4
 refine ⟨R,⟨s3.os.to fun b hb=>h5 b (by have:=hnr b hb;omega),fun e=>by have:=hnr _ e;omega,by omega,znl _,fun b e hx=>?_,fun b hx=>hx.elim (fun e=>by omega) fun e=>by have:=e.1;omega,?_,?_,?_,fun i f hf=>?_⟩,by rw [q1.1],by rw [q1.2.1],by rw [q1.2.2]⟩
 ·rcases e with e | e
  ·have:=hnr b e
   exact hx.elim (fun e=>by omega) fun e=>by have:=e.1;omega
  exact hx.elim (fun e=>by omega) fun e=>by have:=e.1;omega
 ·rw [q1.1]
  exact a1.imp fun _ _ e=>z1q e (kp w2 fun b hb=>hB3.block b (by omega))
 ·rw [q1.2.1]
  exact a2.imp fun _ _ e=>z2k e (kp w3 fun b hb=>B4.block b (by omega))
 ·rw [q1.2.2]
  exact a3.1
 obtain ⟨x,hx,hr⟩:=a3.at hf
 rw [q1.2.2]
 exact ⟨x,hx,Z0 hr (kp w4 fun b _=>rfl)⟩
theorem CP.foAt (h:CP X bc base W R st md) (hf:st.folders[p]? =some f):∃a off cp,(R .fo).v= .slice (some ⟨a,off,none⟩) st.folders.length cp/\st.folders.length<=cp/\cp<=9223372036854775807/\a < W.heap.size/\a≠bc/\base<=a/\(∀q,W.frozen? ⟨a,q,none⟩=false)/\∀x,(R .fo).cells[p]? =some x->∀j u,x[j]? =some u->W.cell? ⟨a,off+p*7+j,none⟩=some u:=by
 obtain ⟨x,hx⟩:∃x,(R .fo).cells[p]? =some x:=⟨_,List.getElem?_eq_getElem (by rw [h.fol];exact (zge hf).1)⟩
 obtain ⟨a,off,cp,e,l,m,g,hc,hz⟩:=(h.os.row .fo).at hx
 rw [h.fol] at e l
 unfold maxLen at m
 exact ⟨a,off,cp,e,l,m,g,fun e2=>h.nb ⟨.fo,by rw [e,<-e2];rfl⟩,h.os.low .fo a (by rw [e];rfl),hz,fun y hy=>by rw [hx] at hy;obtain rfl:=zsi hy;exact hc⟩
theorem CP.old (h:CP X bc base W R st md) (hf:st.folders[p]? =some f) (hp:md p=none):∃B2 d2 B3 d3 B4 d4 B5 d5 B6 d6,(R .fo).cells[p]? =some [.string f.name,.int .i64 f.turn,.slice B2 f.manifests.length d2,.slice B3 f.epochs.length d3,.slice B4 f.items.length d4,.slice B5 f.wraps.length d5,.slice B6 f.links.length d6]/\f.name.size<=140737488355328/\I64 f.turn/\
  Sl 8 ZO (Imm X bc R W) W (.slice B2 f.manifests.length d2) f.manifests/\Sl 5 Y6 (Imm X bc R W) W (.slice B3 f.epochs.length d3) f.epochs/\Sl 2 yV (Imm X bc R W) W (.slice B4 f.items.length d4) f.items/\Sl 3 yW (Imm X bc R W) W (.slice B5 f.wraps.length d5) f.wraps/\Sl 3 YP (Imm X bc R W) W (.slice B6 f.links.length d6) f.links:=by
 have hq:=h.fo p f hf
 rw [hp] at hq
 obtain ⟨_,hcs,_,_,_,_,_,rfl,hn,ht,s2,s3,s4,s5,s6⟩:=hq
 obtain ⟨B2,d2,rfl,_⟩:=id s2
 obtain ⟨B3,d3,rfl,_⟩:=id s3
 obtain ⟨B4,d4,rfl,_⟩:=id s4
 obtain ⟨B5,d5,rfl,_⟩:=id s5
 obtain ⟨B6,d6,rfl,_⟩:=id s6
 exact ⟨_,_,_,_,_,_,_,_,_,_,hcs,hn,ht,s2,s3,s4,s5,s6⟩
theorem CP.hdrAt (h:CP X bc base W R st md) (hf:st.folders[p]? =some f) (hp:md p=some q):∃D2 e2 D3 e3 D4 e4 u5 u6,(R .fo).cells[p]? =some [.string f.name,.int .i64 f.turn,.slice D2 f.manifests.length e2,.slice D3 f.epochs.length e3,.slice D4 f.items.length e4,u5,u6]/\(R (.ma p)).v= .slice D2 f.manifests.length e2/\(R (.ep p)).v= .slice D3 f.epochs.length e3/\(R (.it p)).v= .slice D4 f.items.length e4:=by
 have hq:=h.fo p f hf
 rw [hp] at hq
 obtain ⟨hc,hF⟩:=hq
 obtain ⟨D2,e2,k2,_⟩:=(h.os.row (.ma p)).shape
 obtain ⟨D3,e3,k3,_⟩:=(h.os.row (.ep p)).shape
 obtain ⟨D4,e4,k4,_⟩:=(h.os.row (.it p)).shape
 rw [hF.man.1] at k2
 rw [hF.ep.1] at k3
 rw [hF.itl] at k4
 unfold hdr at hc
 rw [k2,k3,k4] at hc
 exact ⟨_,_,_,_,_,_,_,_,hc,k2,k3,k4⟩
theorem CP.maAt (h:CP X bc base W R st md) (hf:st.folders[p]? =some f) (hp:md p=some q) {k:Nat} {m:Manifest} (hm:f.manifests[k]? =some m):∃g o c A d,(R (.ma p)).v= .slice (some ⟨g,o,none⟩) f.manifests.length c/\f.manifests.length<=c/\c<=9223372036854775807/\W.cell? ⟨g,o+k*8+4,none⟩=some (.slice A m.members.length d)/\(∀q,W.frozen? ⟨g,q,none⟩=false)/\Sl 2 zY (Imm X bc R W) W (.slice A m.members.length d) m.members:=by
 have hq:=h.fo p f hf
 rw [hp] at hq
 obtain ⟨_,hx,hr⟩:=hq.2.man.at hm
 obtain ⟨g,o,c,e,l,mx,_,hc,hz⟩:=(h.os.row (.ma p)).at hx
 rw [hq.2.man.1] at e l
 unfold maxLen at mx
 obtain ⟨_,_,rfl,_,_,_,_,s4,_⟩:=hr
 obtain ⟨A,d,rfl,_⟩:=id s4
 exact ⟨g,o,c,A,d,e,l,mx,hc 4 _ rfl,hz,s4⟩
theorem CP.epAt (h:CP X bc base W R st md) (hf:st.folders[p]? =some f) (hp:md p=some q) {k:Nat} {m:Epoch} (hm:f.epochs[k]? =some m):∃g o c A d,(R (.ep p)).v= .slice (some ⟨g,o,none⟩) f.epochs.length c/\f.epochs.length<=c/\c<=9223372036854775807/\W.cell? ⟨g,o+k*5+3,none⟩=some (.slice A m.chain.length d)/\(∀q,W.frozen? ⟨g,q,none⟩=false)/\Sl 2 rAt (Imm X bc R W) W (.slice A m.chain.length d) m.chain:=by
 have hq:=h.fo p f hf
 rw [hp] at hq
 obtain ⟨_,hx,hr⟩:=hq.2.ep.at hm
 obtain ⟨g,o,c,e,l,mx,_,hc,hz⟩:=(h.os.row (.ep p)).at hx
 rw [hq.2.ep.1] at e l
 unfold maxLen at mx
 obtain ⟨_,rfl,_,_,_,s3,_⟩:=hr
 obtain ⟨A,d,rfl,_⟩:=id s3
 exact ⟨g,o,c,A,d,e,l,mx,hc 3 _ rfl,hz,s3⟩
theorem CP.itOld (h:CP X bc base W R st md) (hf:st.folders[p]? =some f) {j:Nat} (hp:md p=some j) {x:Item} (hx:f.items[j]? =some x):∃g o c A d,(R (.it p)).v= .slice (some ⟨g,o,none⟩) f.items.length c/\f.items.length<=c/\c<=9223372036854775807/\W.cell? ⟨g,o+j*2+1,none⟩=some (.slice A x.versions.length d)/\(∀q,W.frozen? ⟨g,q,none⟩=false)/\Sl 4 yB (Imm X bc R W) W (.slice A x.versions.length d) x.versions:=by
 have hq:=h.fo p f hf
 rw [hp] at hq
 have hi:=hq.2.it j x hx
 rw [if_neg (by omega)] at hi
 obtain ⟨_,hcs,_,rfl,_,s1⟩:=hi
 obtain ⟨g,o,c,e,l,mx,_,hc,hz⟩:=(h.os.row (.it p)).at hcs
 rw [hq.2.itl] at e l
 unfold maxLen at mx
 obtain ⟨A,d,rfl,_⟩:=id s1
 exact ⟨g,o,c,A,d,e,l,mx,hc 1 _ rfl,hz,s1⟩
theorem CP.itNew (h:CP X bc base W R st md) (hf:st.folders[p]? =some f) {j:Nat} (hp:md p=some q) (hj:j < q) {x:Item} (hx:f.items[j]? =some x):∃g o c A d,(R (.it p)).v= .slice (some ⟨g,o,none⟩) f.items.length c/\f.items.length<=c/\c<=9223372036854775807/\W.cell? ⟨g,o+j*2+1,none⟩=some (.slice A x.versions.length d)/\(R (.ve p j)).v= .slice A x.versions.length d:=by
 have hq:=h.fo p f hf
 rw [hp] at hq
 have hi:=hq.2.it j x hx
 rw [if_pos hj] at hi
 obtain ⟨hcs,_,ha⟩:=hi
 obtain ⟨g,o,c,e,l,mx,_,hc,_⟩:=(h.os.row (.it p)).at hcs
 rw [hq.2.itl] at e l
 unfold maxLen at mx
 obtain ⟨A,d,k,_⟩:=(h.os.row (.ve p j)).shape
 rw [ha.1] at k
 exact ⟨g,o,c,A,d,e,l,mx,by rw [<-k];exact hc 1 _ rfl,k⟩
theorem CP.veAt (h:CP X bc base W R st md) (hf:st.folders[p]? =some f) {j:Nat} (hp:md p=some q) (hj:j < q) {x:Item} (hx:f.items[j]? =some x) {k:Nat} {v:Version} (hv:x.versions[k]? =some v):∃g o c A d,(R (.ve p j)).v= .slice (some ⟨g,o,none⟩) x.versions.length c/\x.versions.length<=c/\c<=9223372036854775807/\W.cell? ⟨g,o+k*4+3,none⟩=some (.slice A v.data.length d)/\(∀q,W.frozen? ⟨g,q,none⟩=false)/\Sl 1 yN (Imm X bc R W) W (.slice A v.data.length d) v.data:=by
 have hq:=h.fo p f hf
 rw [hp] at hq
 have hi:=hq.2.it j x hx
 rw [if_pos hj] at hi
 obtain ⟨_,_,ha⟩:=hi
 obtain ⟨_,hy,hr⟩:=ha.at hv
 obtain ⟨g,o,c,e,l,mx,_,hc,hz⟩:=(h.os.row (.ve p j)).at hy
 rw [ha.1] at e l
 unfold maxLen at mx
 obtain ⟨_,rfl,_,_,s3⟩:=hr
 obtain ⟨A,d,rfl,_⟩:=id s3
 exact ⟨g,o,c,A,d,e,l,mx,hc 3 _ rfl,hz,s3⟩
theorem CP.cellAt (h:CP X bc base W R st md) (hf:st.folders[p]? =some f) {a off n cp:Nat} (hv:(R .fo).v= .slice (some ⟨a,off,none⟩) n cp) {x:List Value} (hx:(R .fo).cells[p]? =some x):∀j u,x[j]? =some u->W.cell? ⟨a,off+p*7+j,none⟩=some u:=by
 obtain ⟨_,_,_,e,_,_,_,_,_,_,hc⟩:=h.foAt hf
 rw [hv] at e
 simp only [Value.slice.injEq,Option.some.injEq,Addr.mk.injEq,and_true] at e
 obtain ⟨⟨rfl,rfl⟩,_,_⟩:=e
 exact hc x hx
theorem CP.full (h:CP X bc base W R st md) (hf:st.folders[p]? =some f) (hp:md p=some q) (hq:f.items.length<=q) {q':Nat} (hq':f.items.length<=q'):CP X bc base W R st (fun i=>if i=p then some q' else md i):=
 ⟨h.os,h.nb,h.lt,h.bb,h.nx,h.xl,h.us,h.de,h.fol,fun i g hg=>by
  have hk:=h.fo i g hg
  by_cases hi:i=p
  ·subst hi
   rw [hf] at hg
   obtain rfl:=zsi hg
   rw [hp] at hk
   simp only [if_true]
   exact ⟨hk.1,hk.2.full hq hq'⟩
  ·simp only [hi,if_false]
   exact hk⟩
theorem z0y {w2 wr:World} {b g i:Nat} {u:Value} {o:Obj} (hB:Below wr.heap.size wr w2) (h:wr.heap[b]? =some o) (hb:b≠g):(w2.setCell ⟨g,i,none⟩ u).heap[b]? =some o:=by
 rw [Below.heap_setCell _ _ _ _ hb,hB.block b (by
  rcases Nat.lt_or_ge b wr.heap.size with hl | hl
  ·exact hl
  ·rw [Array.getElem?_eq_none hl] at h;cases h)]
 exact h
theorem zGm {w:World} {pb:Nat} {T:TypeId} {z0 z1 z2 z3:Value} (h:w.heap[pb]? =some (.cells #[z0,z1,z2,z3] T (0,0))) (a0 a1 a2 a3:Value):
  ((((w.setCell ⟨pb,0,none⟩ a0).setCell ⟨pb,1,none⟩ a1).setCell ⟨pb,2,none⟩ a2).setCell ⟨pb,3,none⟩ a3).heap[pb]? =some (.cells #[a0,a1,a2,a3] T (0,0))/\∀b,b≠pb->((((w.setCell ⟨pb,0,none⟩ a0).setCell ⟨pb,1,none⟩ a1).setCell ⟨pb,2,none⟩ a2).setCell ⟨pb,3,none⟩ a3).heap[b]? =w.heap[b]? :=by
 have h0:=zI (i:=0) (cs':=#[a0,z1,z2,z3]) a0 h rfl
 have h1:=zI (i:=1) (cs':=#[a0,a1,z2,z3]) a1 h0 rfl
 have h2:=zI (i:=2) (cs':=#[a0,a1,a2,z3]) a2 h1 rfl
 have h3:=zI (i:=3) (cs':=#[a0,a1,a2,a3]) a3 h2 rfl
 exact ⟨h3,fun b hb=>by rw [Below.heap_setCell _ _ _ _ hb,Below.heap_setCell _ _ _ _ hb,Below.heap_setCell _ _ _ _ hb,Below.heap_setCell _ _ _ _ hb]⟩
theorem z92 {α:Type} {Q:Rp α} {sz:Nat} {e:TypeId} (okQ:RpOk sz Q) {S0:Nat->Prop} {v:Value} {cells:List (List Value)} {l:List α} (h:CP X bc base W R st md) (hB:Below W.heap.size W W') (hr:RowC e sz W' v cells) (hl:l.length<=10000) (ha:All2 (Q S0 W') cells l) (hQ:∀S cs x,Q S0 W' cs x->Q S W' cs x) (hlow:∀b,v.ownBlock=some b->W.heap.size<=b):
  Sl sz Q (fun b=>b < W'.heap.size/\b≠bc/\¬yS R b/\¬X b) W' v l:=
 z1j okQ hr (by rw [ha.1];exact hl) (ha.imp fun _ _ e=>hQ _ _ _ e) fun b hb=>⟨hr.lt b hb,fun e=>by have:=hlow b hb;have:=h.lt;omega,fun e=>by have:=hlow b hb;have:=h.os.lt e;omega,fun e=>by have:=hlow b hb;have:=h.xl b e;omega⟩
theorem IsSt.stateS {S:Nat->Prop} (o:OS base W R) (h:IsSt S W R st):ZX (fun b=>yS R b\/S b) W [.int .i64 st.turn,(R .us).v,(R .de).v,(R .fo).v] st:=by
 have h':=h.keep (S':=fun b=>yS R b\/S b) (Kept.refl' fun _ h=> .inr h)
 have hr:∀k b,(R k).v.ownBlock=some b->yS R b\/S b:=fun k b e=> .inl ⟨k,e⟩
 refine ⟨_,_,_,rfl,h'.turn,z1j YG (o.row .us) (o.len _) h'.users (hr .us),z1j z19 (o.row .de) (o.len _) h'.deps (hr .de),?_⟩
 refine z1j z02 (o.row .fo) (o.len _) ⟨h'.fol,fun j cs x hc hx=>?_⟩ (hr .fo)
 obtain ⟨h1,h2⟩:=h'.fo j x hx
 rw [h1] at hc
 obtain rfl:=zsi hc
 refine ⟨_,_,_,_,_,rfl,h2.name,h2.turn,z1j z1a (o.row (.ma j)) (o.len _) h2.man (hr _),z1j z36 (o.row (.ep j)) (o.len _) h2.ep (hr _),?_,z1j z2o (o.row (.wr j)) (o.len _) h2.wr (hr _),z1j z2p (o.row (.li j)) (o.len _) h2.li (hr _)⟩
 refine z1j z1z (o.row (.it j)) (o.len _) ⟨h2.itl,fun i cs y hc hy=>?_⟩ (hr _)
 obtain ⟨g1,g2,g3⟩:=h2.it i y hy
 rw [g1] at hc
 obtain rfl:=zsi hc
 exact ⟨_,rfl,g2,z1j z1y (o.row (.ve j i)) (o.len _) g3 (hr _)⟩
end
end
section
open Go.RowKit Go.Deep
theorem zO1:∀k:Fin 17,∀m:Fin 65,m.val∈[1,2,4,8,16,32,64]->(bits BinOp.and IntKind.i64 ((YR k.val:Nat):Int) (m.val:Int) !=0)=z33 (k.val:Int) m.val:=by decide+kernel
def zQc (M:Bool) (w:World) (e:Ending) (w':World):Prop:=e= .returned (.bool M)/\Below w.heap.size w w'
def zGn (k:Int) (b1 b2 b4 b8 b16 b32 b64:Bool) (user folder name other:ByteArray) (role version n:Int):Bool:=
 txt ZB folder b1 && txt ZB name b2 && txt ZB other (b4 || b8 && !other.toList.isEmpty) && !(!b1 && (other.toList==user.toList)) && !(decide (k=2) && (other.toList==folder.toList)) && num role 1 4 b16 && num version 0 1099511627776 b32 && num n 0 512 b64
set_option maxHeartbeats 4000000 in
theorem zO2 (k:Nat) (hk:1<=k) (hk2:k<=16) (F:Nat) (hF:F<=67) (b1 b2 b4 b8 b16 b32 b64:Bool)
  (m1:(bits BinOp.and IntKind.i64 (F:Int) 1 !=0)=b1) (m2:(bits BinOp.and IntKind.i64 (F:Int) 2 !=0)=b2) (m4:(bits BinOp.and IntKind.i64 (F:Int) 4 !=0)=b4) (m8:(bits BinOp.and IntKind.i64 (F:Int) 8 !=0)=b8) (m16:(bits BinOp.and IntKind.i64 (F:Int) 16 !=0)=b16) (m32:(bits BinOp.and IntKind.i64 (F:Int) 32 !=0)=b32) (m64:(bits BinOp.and IntKind.i64 (F:Int) 64 !=0)=b64) (m1z:(bits BinOp.and IntKind.i64 (F:Int) 1==0)=!b1)
 (user folder name other:ByteArray) (role version:Int) (A:Option Addr) (n c:Nat) (hu:user.size<=140737488355328) (hf:folder.size<=140737488355328) (hnm:name.size<=140737488355328) (ho:other.size<=140737488355328) (hun:ZB user=true) (w:World) (h0:0 < w.heap.size) (hc:w.cell? ⟨0,k,none⟩=some (.int .i64 F)):
   Calls Tryz.prog 33 #[.agg #[.int .i64 k,.string user,.string folder,.string name,.string other,.int .i64 role,.int .i64 version,.slice A n c]] w (zQc (zGn k b1 b2 b4 b8 b16 b32 b64 user folder name other role version n) w):=by
  obtain ⟨M,hM⟩:∃M,zGn k b1 b2 b4 b8 b16 b32 b64 user folder name other role version n=M:=⟨_,rfl⟩
  rw [hM]
  have HM:=zh hM
  clear hM
  obtain ⟨w0,_,cw0,fw0,Bw0,_⟩:=zO w #[.int .i64 k,.string user,.string folder,.string name,.string other,.int .i64 role,.int .i64 version,.slice A n c] 41
  have s0:=cw0 0 _ rfl
  have s1:=cw0 1 _ rfl
  have s2:=cw0 2 _ rfl
  have s3:=cw0 3 _ rfl
  have s4:=cw0 4 _ rfl
  have s5:=cw0 5 _ rfl
  have s6:=cw0 6 _ rfl
  have s7:=cw0 7 _ rfl
  have hg:=(Bw0.cell (p:=⟨0,k,none⟩) h0).trans hc
  have HN:=zh (z7q user hu w0)
  rw [hun] at HN
  have hki:(k:Int) < 17:=by omega
  have d1:decide ((k:Int) < 1)=false:=decide_eq_false (by omega)
  have d2:decide ((16:Int) < k)=false:=decide_eq_false (by omega)
  clear cw0 fw0 hc hun
  go_enter Tryz.func33,Tryz.ntmps33
  go_wp2_with (first
   | (go_at_call 51;refine zcm HN.out ?_;rintro e w1 ⟨rfl,rfl⟩)
   | (go_at_call 52;refine zcm (zNt _ (by assumption) _ _) ?_;rintro e w1 ⟨rfl,rfl⟩)
   | (go_at_call 53;refine zcm (zJy _ _ _ _ _) ?_;rintro e w1 ⟨rfl,rfl⟩))
  all_goals
   go_ret
   refine ⟨congrArg (fun b=>Ending.returned (.bool b)) ?_,Bw0⟩
   have hm:=HM.out
   clear HM HN s0 s1 s2 s3 s4 s5 s6 s7 hg m1 m2 m4 m8 m16 m32 m64 m1z
   unfold zGn at hm
   subst hm
   simp_all
theorem eqC {a b:ByteArray}:(a.toList==b.toList)=decide (a=b):=by
 by_cases h:a=b
 ·subst h
  simp
 rw [decide_eq_false h,<-Bool.not_eq_true,beq_iff_eq]
 intro e
 refine h ?_
 obtain ⟨⟨l⟩⟩:=a
 obtain ⟨⟨r⟩⟩:=b
 rw [Lib.toList_data,Lib.toList_data] at e
 have e2:l=r:=e
 rw [e2]
theorem zQd {a:ByteArray}:a.toList.isEmpty=z11 a:=by
 by_cases h:a=⟨#[]⟩
 ·subst h
  rw [Lib.toList_data]
  rfl
 rw [z0x h]
 unfold z11
 exact (decide_eq_false h).symm
theorem zPk {k:Int} (h1:1<=k) (h2:k<=16) {user folder name other:ByteArray} (hu:ZB user=true) (role version n:Int):
  zGn k (z33 k 1) (z33 k 2) (z33 k 4) (z33 k 8) (z33 k 16) (z33 k 32) (z33 k 64) user folder name other role version n=z3m ZB k user folder name other role version n:=by
 unfold zGn z3m
 rw [eqC,eqC,zQd,decide_eq_true h1,decide_eq_true h2,hu]
 rfl
theorem z4a {k m:Nat} (hk:k<=16) (hm:m∈[1,2,4,8,16,32,64]):(bits BinOp.and IntKind.i64 ((YR k:Nat):Int) (m:Int) !=0)=z33 (k:Int) m:=by
 have hm2:m < 65:=by simp at hm;omega
 exact zO1 ⟨k,by omega⟩ ⟨m,hm2⟩ hm
theorem zHs:∀k:Nat,YR k<=67:=by
 intro k
 by_cases h:k < 17
 ·have:∀k:Fin 17,YR k.val<=67:=by decide
  exact this ⟨k,h⟩
 unfold YR
 rw [List.getD_eq_getElem?_getD,List.getElem?_eq_none (by simp;omega)]
 decide
set_option maxHeartbeats 1000000 in
theorem zDj (kind:Int) (user folder name other:ByteArray) (role version:Int) (A:Option Addr) (n c:Nat) (hu:user.size<=140737488355328) (hf:folder.size<=140737488355328) (hnm:name.size<=140737488355328) (ho:other.size<=140737488355328) (w:World) (h0:0 < w.heap.size) (hc:∀r:Nat,r < 17->w.cell? ⟨0,r,none⟩=some (.int .i64 (YR r:Nat))):
  Calls Tryz.prog 33 #[.agg #[.int .i64 kind,.string user,.string folder,.string name,.string other,.int .i64 role,.int .i64 version,.slice A n c]] w fun e w'=>e= .returned (.bool (z3m ZB kind user folder name other role version n))/\Below w.heap.size w w':=by
 obtain ⟨w0,_,cw0,fw0,Bw0,_⟩:=zO w #[.int .i64 kind,.string user,.string folder,.string name,.string other,.int .i64 role,.int .i64 version,.slice A n c] 41
 have s0:=cw0 0 _ rfl
 have s1:=cw0 1 _ rfl
 have HB:=zh Bw0
 have HN:=zh (z7q user hu w0)
 have HC:=zh hc
 clear cw0 fw0 Bw0 hc
 by_cases h1:kind < 1
 ·have HM:=zh (show z3m ZB kind user folder name other role version n=false by unfold z3m;simp [show ¬1<=kind by omega])
  have d1:decide (kind < 1)=true:=decide_eq_true h1
  clear h1
  go_enter Tryz.func33,Tryz.ntmps33
  go_wp2
  go_ret
  exact ⟨by rw [HM.out];rfl,HB.out⟩
 have d1:decide (kind < 1)=false:=decide_eq_false h1
 by_cases h2:16 < kind
 ·have HM:=zh (show z3m ZB kind user folder name other role version n=false by unfold z3m;simp [show ¬kind<=16 by omega])
  have d2:decide (16 < kind)=true:=decide_eq_true h2
  clear h1 h2
  go_enter Tryz.func33,Tryz.ntmps33
  go_wp2
  go_ret
  exact ⟨by rw [HM.out];rfl,HB.out⟩
 have d2:decide (16 < kind)=false:=decide_eq_false h2
 cases hun:ZB user with
 | false=>
  have HM:=zh (show z3m ZB kind user folder name other role version n=false by unfold z3m;simp [hun])
  rw [hun] at HN
  clear h1 h2 hun
  go_enter Tryz.func33,Tryz.ntmps33
  go_wp2_with (go_at_call 51;refine zcm HN.out ?_;rintro e _ ⟨rfl,rfl⟩)
  go_ret
  exact ⟨by rw [HM.out];rfl,HB.out⟩
 | true=>
  obtain ⟨k,rfl⟩:∃k:Nat,kind=(k:Int):=⟨kind.toNat,by omega⟩
  refine zcm (zO2 k (by omega) (by omega) (YR k) (zHs k) _ _ _ _ _ _ _ (z4a (by omega) (by simp)) (z4a (by omega) (by simp)) (z4a (by omega) (by simp)) (z4a (by omega) (by simp)) (z4a (by omega) (by simp)) (z4a (by omega) (by simp)) (z4a (by omega) (by simp)) ?_ user folder name other role version A n c hu hf hnm ho hun w h0 (HC.out k (by omega))) ?_
  ·have:=z4a (k:=k) (m:=1) (by omega) (by simp)
   rw [<-this]
   cases hb:(bits BinOp.and IntKind.i64 ((YR k:Nat):Int) 1==0)<;>simp [bne,hb]
  rintro e w' ⟨rfl,hb⟩
  exact ⟨congrArg (fun b=>Ending.returned (.bool b)) (zPk (by omega) (by omega) hun role version n),hb⟩
end
end Go.Proofs.YtdggplhnfhcieaaGreatDoor
