/- No condition. -/
import Derived.Test.YtdggplhnfhcieaaGreatDoorX03
set_option linter.all false
set_option maxRecDepth 100000
namespace Go.Proofs.YtdggplhnfhcieaaGreatDoor
open Go.RowKit Go.Deep
theorem z2k {α:Type} {S:Nat->Prop} {W:World} {e:TypeId} {sz:Nat} {Q:Rp α} (ok:RpOk sz Q) {v:Value} {cells:List (List Value)} {l:List α} (h:RowC e sz W v cells) (hl:cells.length<=10000) (k:All2 (Q S W) cells l) (hv0:∀b,v.ownBlock=some b->S b):Sl sz Q S W v l:=by
 obtain ⟨A,c,e,h1,h2,h3,hs⟩:=z1e ok h hl k;refine ⟨A,c,e,h1,h2,h3,fun i y hy=>?_⟩;obtain ⟨g,off,_,q1,_,_,_,_⟩:=hs i y hy;obtain ⟨x2,hx2,hp⟩:=k.at hy;obtain ⟨_,_,_,hv2,_,_,_,hc2,_⟩:=h.at hx2;rw [e] at hv2;simp only [Value.slice.injEq] at hv2;rw [q1] at hv2;simp only [Option.some.injEq,Addr.mk.injEq,and_true] at hv2;obtain ⟨⟨rfl,rfl⟩,_⟩:=hv2;refine ⟨g,off,x2,q1,hv0 g (by rw [e,q1];rfl),ok.len hp,fun j u hj=>?_,hp⟩;rw [<-Nat.add_assoc];exact hc2 j u hj
theorem zR1 (w:World) (a:Option Addr) (n c:Nat):(binOp .eql 39 (.slice a n c) (.slice none 0 0)).run Tryz.prog w= .ok (.bool a.isNone) w:=by
 simp only [binOp];simp [run_equal_slice_nil w _ _ a n c Tryz.underlying39]
theorem zEq (l:List Int) (v:Value) (w:World) (S:Nat->Prop) (h:Sl 1 YL S w v l) (hl0:l.length<=10000):
  Calls Tryz.prog 40 #[v] w (z20 5 1 YL S l w):=by
 obtain ⟨ix,hi,hz,h1,h2⟩:=info_parts (show (Tryz.prog.info? 5).map (fun i=>(i.zero,i.size,i.bytes))=some (some (.int .u8 0),1,1) from by kernel_rfl);obtain ⟨A,_,rfl,hl,hc,_,hs⟩:=h;unfold maxLen at hc;have q22:=zR1;rcases A with _ | ad
 ·obtain rfl:l=[]:=by
   cases l with
   | nil=>rfl
   | cons x r=>obtain ⟨_,_,_,h,_⟩:=hs 0 x rfl;cases h
  clear hs;go_enter Tryz.func40,Tryz.ntmps40
  go_wp2;go_ret;exact ⟨⟨_,[],rfl,RowC.nil _,All2.nil,fun b hb=>by cases hb⟩,Below.refl _ _⟩
 have hsl:SlAt 1 YL (z1z (fun b=>¬S b) (w.alloc (.cells #[] 5)) (.slice (some ⟨w.heap.size,0,none⟩) 0 0)) (w.alloc (.cells #[] 5)) (some ad) l:=
  hs.keep rByte_ok (by decide) (fun b hb hl=>⟨⟨by simp;omega,fun h=>h hb,fun hb'=>by simp only [Value.ownBlock,Option.some.injEq] at hb';omega⟩,heap_alloc_old _ _ hl⟩)
 clear hs;go_enter Tryz.func40,Tryz.ntmps40
 go_wp2_with (at_builtin;go_loud (refine Y5 (R:=YL) _ rfl (.tmp 5) (.tmp 6) 39 rfl 5 ix _ 1 1 Tryz.underlying39 hi hz h1 h2 rfl (by decide) rByte_ok w.heap.size (by go_size) _ _ rfl (Grow.empty (heap_alloc_new _ _) (znl _)) _ _ _ rfl _ rfl hsl (by simp;omega) (by decide) ?_);intro v1 w1 g1 gg1 go1;rw [List.nil_append] at g1;obtain ⟨_,_,_,rfl,hn1⟩:=g1.shape';clear hn1)
 go_ret;obtain ⟨cells,k1,k2,k3⟩:=Grow.toRow rByte_ok (by decide) g1 fun b hb=>Classical.byContradiction hb
 exact ⟨⟨_,cells,rfl,k1,k2,k3⟩,Below.grown (Below.alloc zbr (znl _) _) gg1 (by simp) fun b hb=>by have:=zsi (show some w.heap.size=some b from hb);omega⟩
section
structure IsFoQ (S:Nat->Prop) (W:World) (R:RM) (i:Nat) (f:Folder) (q:Nat):Prop where
 name:f.name.size<=140737488355328
 turn:I64 f.turn
 man:All2 (ZR S W) (R (.ma i)).cells f.manifests
 ep:All2 (z02 S W) (R (.ep i)).cells f.epochs
 itl:(R (.it i)).cells.length=f.items.length
 it:∀j x,f.items[j]? =some x->if j < q then (R (.it i)).cells[j]? =some [.string x.name,(R (.ve i j)).v]/\x.name.size<=140737488355328/\All2 (yL S W) (R (.ve i j)).cells x.versions else ∃cs,(R (.it i)).cells[j]? =some cs/\YB S W cs x
 wr:All2 (YC S W) (R (.wr i)).cells f.wraps
 li:All2 (z0g S W) (R (.li i)).cells f.links
structure CP (X:Nat->Prop) (bc base:Nat) (W:World) (R:RM) (st:State) (md:Nat->Option Nat):Prop where
 os:OS base W R
 nb:¬Y7 R bc
 lt:bc < W.heap.size
 bb:base<=bc
 nx:∀b,Y7 R b\/b=bc->¬X b
 xl:∀b,X b->b < W.heap.size
 us:All2 (z0s (Imm X bc R W) W) (R .us).cells st.users
 de:All2 (z0o (Imm X bc R W) W) (R .de).cells st.deposits
 fol:(R .fo).cells.length=st.folders.length
 fo:∀i f,st.folders[i]? =some f->match md i with
  | none=>∃cs,(R .fo).cells[i]? =some cs/\ZG (Imm X bc R W) W cs f
  | some q=>(R .fo).cells[i]? =some (hdr R i f)/\IsFoQ (Imm X bc R W) W R i f q
section
variable {X:Nat->Prop} {bc base:Nat} {W W':World} {R R':RM} {st:State} {md:Nat->Option Nat} {S S':Nat->Prop} {i q:Nat} {f:Folder}
theorem IsFoQ.keep (h:IsFoQ S W R i f q) (k:Kept S S' W W'):IsFoQ S' W' R i f q:=
 ⟨h.name,h.turn,h.man.imp fun _ _ h=>YF h k,h.ep.imp fun _ _ h=>z30 h k,h.itl,fun j x hx=>by
  have:=h.it j x hx;split
  ·rename_i hj;rw [if_pos hj] at this;exact ⟨this.1,this.2.1,this.2.2.imp fun _ _ h=>z19 h k⟩
  ·rename_i hj;rw [if_neg hj] at this;obtain ⟨cs,h1,h2⟩:=this;exact ⟨cs,h1,z5q h2 k⟩,h.wr.imp fun _ _ h=>z3q h k,h.li.imp fun _ _ h=>z5r h k⟩
theorem IsFoQ.rows (h:IsFoQ S W R i f q) (e1:R' (.ma i)=R (.ma i)) (e2:R' (.ep i)=R (.ep i)) (e3:R' (.it i)=R (.it i)) (e4:R' (.wr i)=R (.wr i)) (e5:R' (.li i)=R (.li i)) (e6:∀j,R' (.ve i j)=R (.ve i j)):IsFoQ S W R' i f q:=
 ⟨h.name,h.turn,by rw [e1];exact h.man,by rw [e2];exact h.ep,by rw [e3];exact h.itl,fun j x hx=>by rw [e3,e6 j];exact h.it j x hx,by rw [e4];exact h.wr,by rw [e5];exact h.li⟩
theorem IsFoQ.full (h:IsFoQ S W R i f q) (hq:f.items.length<=q) {q':Nat} (hq':f.items.length<=q'):IsFoQ S W R i f q':=
 ⟨h.name,h.turn,h.man,h.ep,h.itl,fun j x hx=>by
  have hj:=(zge hx).1;have:=h.it j x hx;rw [if_pos (by omega)] at this;rw [if_pos (by omega)];exact this,h.wr,h.li⟩
theorem CP.turn (h:CP X bc base W R st md) {p:Nat} (hf:st.folders[p]? =some f) (m:Mut bc R W R' W') (os:OS base W' R') (hus:R' .us=R .us) (hde:R' .de=R .de)
  (ho:∀i',i'≠p->R' (.ma i')=R (.ma i')/\R' (.ep i')=R (.ep i')/\R' (.it i')=R (.it i')/\R' (.wr i')=R (.wr i')/\R' (.li i')=R (.li i')/\∀j,R' (.ve i' j)=R (.ve i' j))
  (hfo:(R' .fo).cells=(R .fo).cells.set p (hdr R' p f)) (hF:IsFoQ (Imm X bc R' W') W' R' p f q):CP X bc base W' R' st (fun i=>if i=p then some q else md i):=by
 have k:=m.kept (X:=X);refine ⟨os,fun e=>(m.fresh bc e).elim h.nb fun hl=>by have:=h.lt;omega,zll h.lt m.but.size,h.bb,fun b e hx=>?_,fun b hx=>zll (h.xl b hx) m.but.size,by rw [hus];exact h.us.imp fun _ _ e=>z2v e k,by rw [hde];exact h.de.imp fun _ _ e=>z3n e k,by rw [hfo];simp [h.fol],fun i g hg=>?_⟩
 ·rcases e with e | e
  ·rcases m.fresh b e with e | e
   ·exact h.nx b (.inl e) hx
   have:=h.xl b hx;omega
  exact h.nx b (.inr e) hx
 by_cases hi:i=p
 ·subst hi;rw [hf] at hg;obtain rfl:=zsi hg;simp only [if_true];refine ⟨?_,hF⟩;rw [hfo,List.getElem?_set_self (by rw [h.fol];exact (zge hf).1)]
 have hq:=h.fo i g hg;simp only [hi,if_false];obtain ⟨a1,a2,a3,a4,a5,a6⟩:=ho i hi;have hc:(R' .fo).cells[i]? =(R .fo).cells[i]? :=by rw [hfo,List.getElem?_set_ne fun e=>hi e.symm]
 rw [hc]
 cases hm:md i with
 | none=>
  rw [hm] at hq;obtain ⟨cs,h1,h2⟩:=hq
  exact ⟨cs,h1,Z5 h2 k⟩
 | some q'=>
  rw [hm] at hq;obtain ⟨h1,h2⟩:=hq;refine ⟨?_,(h2.keep k).rows a1 a2 a3 a4 a5 a6⟩;rw [h1];unfold hdr;rw [a1,a2,a3,a4,a5]
theorem CP.mode (h:CP X bc base W R st md) {md':Nat->Option Nat} (e:∀i,i < st.folders.length->md' i=md i):CP X bc base W R st md':=
 ⟨h.os,h.nb,h.lt,h.bb,h.nx,h.xl,h.us,h.de,h.fol,fun i f hf=>by rw [e i (zge hf).1];exact h.fo i f hf⟩
theorem CP.below (h:CP X bc base W R st md) (hb:Below W.heap.size W W'):CP X bc base W' R st md:=by
 have m:Mut bc R W R W':=Mut.below hb;have k:=m.kept (X:=X);refine ⟨h.os.below hb,h.nb,zll h.lt hb.size,h.bb,h.nx,fun b hx=>zll (h.xl b hx) hb.size,h.us.imp fun _ _ e=>z2v e k,h.de.imp fun _ _ e=>z3n e k,h.fol,fun i f hf=>?_⟩;have hq:=h.fo i f hf
 cases hm:md i with
 | none=>
  rw [hm] at hq;obtain ⟨cs,h1,h2⟩:=hq
  exact ⟨cs,h1,Z5 h2 k⟩
 | some q'=>
  rw [hm] at hq;exact ⟨hq.1,hq.2.keep k⟩
theorem CP.done (h:CP X bc base W R st md) (ht:I64 st.turn) (hm:∀i f,st.folders[i]? =some f->∃q,md i=some q/\f.items.length<=q):IsSt (Imm X bc R W) W R st:=
 ⟨ht,h.us,h.de,h.fol,fun i f hf=>by
  obtain ⟨q,e,_⟩:=hm i f hf;have k:=h.fo i f hf;rw [e] at k;obtain ⟨k1,k2⟩:=k;refine ⟨k1,k2.name,k2.turn,k2.man,k2.ep,k2.itl,fun j x hx=>?_,k2.wr,k2.li⟩;have:=k2.it j x hx;rwa [if_pos (by have:=(zge hx).1;omega)] at this⟩
theorem Mut.low (m:Mut bc R W R' W') (os:OS base W R) (hb:base<=bc) (hw:base<=W.heap.size):Below base W W':=
 ⟨m.but.os,m.but.tape,m.but.output,m.but.size,fun b h=>m.but.block b (zll h hw) fun e=>by
  rcases e with e | ⟨k,e⟩
  ·omega
  ·have:=os.low k b e;omega⟩
structure ST (bc base:Nat) (W0:World) (R0:RM) (W:World) (R:RM):Prop where
 os:OS base W R
 m:Mut bc R0 W0 R W
 hb:base<=W.heap.size
theorem CP.stage (h:CP X bc base W R st md):ST bc base W R W R:=⟨h.os,Mut.refl _ _ _,qNtx h.bb (Nat.le_of_lt h.lt)⟩
theorem ST.row {W0 W1:World} {R0:RM} (h:ST bc base W0 R0 W R) (hB:Below W.heap.size W W1) (k:RK) (r:Row) (hr:RowC k.ty k.sz W1 r.v r.cells) (hl:r.cells.length<=10000) (ho:∀b,r.v.ownBlock=some b->W.heap.size<=b):ST bc base W0 R0 W1 (zL R k r):=by
 obtain ⟨o,m⟩:=h.os.put (bw:=bc) (W':=W1) h.hb k r (ButB.of hB) hr hl fun b hb=> .inr (ho b hb)
 exact ⟨o,h.m.trans m,qNtx h.hb hB.size⟩
theorem ST.cell {W0:World} {R0:RM} (h:ST bc base W0 R0 W R) (k:RK) {a off n cp:Nat} (hv:(R k).v= .slice (some ⟨a,off,none⟩) n cp) {i j:Nat} {x:List Value} (hx:(R k).cells[i]? =some x) (hj:j < k.sz) {u:Value} (hu:u.oneCell'=true):
  ST bc base W0 R0 (W.setCell ⟨a,off+i*k.sz+j,none⟩ u) (zL R k ⟨(R k).v,(R k).cells.set i (x.set j u)⟩):=by
 have hr:=h.os.row k;rw [hv] at hr;have hw:=hr.write (by omega) hx hj u hu;obtain ⟨o1,m1⟩:=h.os.put (bw:=bc) (W':=W.setCell ⟨a,off+i*k.sz+j,none⟩ u) h.hb k ⟨(R k).v,(R k).cells.set i (x.set j u)⟩ ((ButB.refl _ W).set ⟨a,off+i*k.sz+j,none⟩ u (by rw [hv];rfl)) (by rw [hv];exact hw) (by have:=h.os.len k;simpa using this) (fun b hb=> .inl hb);exact ⟨o1,h.m.trans m1,by rw [World.size_setCell];exact h.hb⟩
theorem Kept.shift {S S':Nat->Prop} {W Wa Wg:World} (hB:Below W.heap.size W Wa) (hS:∀b,S b->b < W.heap.size) (k:Kept S S' W Wg):Kept S S' Wa Wg:=fun b hb _=>by
 obtain ⟨h1,h2⟩:=k b hb (hS b hb);exact ⟨h1,h2.trans (hB.block b (hS b hb)).symm⟩
theorem CP.head (h:CP X bc base W R st md) {p:Nat} (hf:st.folders[p]? =some f) {w2 w3 w4 w5 w6:Value} (hx:(R .fo).cells[p]? =some [.string f.name,.int .i64 f.turn,w2,w3,w4,w5,w6]) (hn:f.name.size<=140737488355328) (ht:I64 f.turn)
  {a off n cp:Nat} (hv:(R .fo).v= .slice (some ⟨a,off,none⟩) n cp) {Wa Wb Wc Wd We Wf:World} {v1 v2 v3 v4 v5:Value} {c1 c2 c3 c4 c5:List (List Value)}
  (B1:Below W.heap.size W Wa) (r1:RowC 84 8 Wa v1 c1) (a1:All2 (ZR (Imm X bc R W) Wa) c1 f.manifests) (l1:∀b,v1.ownBlock=some b->W.heap.size<=b) (o1:v1.oneCell'=true)
  (B2:Below Wa.heap.size Wa Wb) (r2:RowC 130 5 Wb v2 c2) (a2:All2 (z02 (Imm X bc R W) Wb) c2 f.epochs) (l2:∀b,v2.ownBlock=some b->Wa.heap.size<=b) (o2:v2.oneCell'=true)
  (B3:Below Wb.heap.size Wb Wc) (r3:RowC 78 2 Wc v3 c3) (a3:All2 (YB (Imm X bc R W) Wc) c3 f.items) (l3:∀b,v3.ownBlock=some b->Wb.heap.size<=b) (o3:v3.oneCell'=true)
  (ed:Wd=((Wc.setCell ⟨a,off+p*7+2,none⟩ v1).setCell ⟨a,off+p*7+3,none⟩ v2).setCell ⟨a,off+p*7+4,none⟩ v3)
  (B4:Below Wd.heap.size Wd We) (r4:RowC 149 3 We v4 c4) (a4:All2 (YC (Imm X bc R W) We) c4 f.wraps) (l4:∀b,v4.ownBlock=some b->Wd.heap.size<=b) (o4:v4.oneCell'=true)
  (B5:Below We.heap.size We Wf) (r5:RowC 151 3 Wf v5 c5) (a5:All2 (z0g (Imm X bc R W) Wf) c5 f.links) (l5:∀b,v5.ownBlock=some b->We.heap.size<=b) (o5:v5.oneCell'=true)
  (hl:f.manifests.length<=10000/\f.epochs.length<=10000/\f.items.length<=10000/\f.wraps.length<=10000/\f.links.length<=10000):
  ∃R',CP X bc base ((Wf.setCell ⟨a,off+p*7+5,none⟩ v4).setCell ⟨a,off+p*7+6,none⟩ v5) R' st (fun i=>if i=p then some 0 else md i)/\Mut bc R W R' ((Wf.setCell ⟨a,off+p*7+5,none⟩ v4).setCell ⟨a,off+p*7+6,none⟩ v5)/\R' .us=R .us/\R' .de=R .de/\(R' .fo).v=(R .fo).v:=by
 have hpl:p < (R .fo).cells.length:=by rw [h.fol];exact (zge hf).1
 have s1:=h.stage.row B1 (.ma p) ⟨v1,c1⟩ r1 (by rw [a1.1];exact hl.1) l1;have s2:=s1.row B2 (.ep p) ⟨v2,c2⟩ r2 (by rw [a2.1];exact hl.2.1) l2;have s3:=s2.row B3 (.it p) ⟨v3,c3⟩ r3 (by rw [a3.1];exact hl.2.2.1) l3;have s4:=s3.cell .fo (a:=a) (off:=off) (n:=n) (cp:=cp) (i:=p) (j:=2) (u:=v1) (x:=[.string f.name,.int .i64 f.turn,w2,w3,w4,w5,w6]) (by simpa [zL] using hv) (by simpa [zL] using hx) (by decide) o1;have s5:=s4.cell .fo (a:=a) (off:=off) (n:=n) (cp:=cp) (i:=p) (j:=3) (u:=v2) (x:=[.string f.name,.int .i64 f.turn,v1,w3,w4,w5,w6]) (by simpa [zL] using hv) (by simp [zL,hpl]) (by decide) o2;have s6:=s5.cell .fo (a:=a) (off:=off) (n:=n) (cp:=cp) (i:=p) (j:=4) (u:=v3) (x:=[.string f.name,.int .i64 f.turn,v1,v2,w4,w5,w6]) (by simpa [zL] using hv) (by simp [zL,hpl]) (by decide) o3;rw [show ((Wc.setCell ⟨a,off+p*RK.fo.sz+2,none⟩ v1).setCell ⟨a,off+p*RK.fo.sz+3,none⟩ v2).setCell ⟨a,off+p*RK.fo.sz+4,none⟩ v3=Wd from ed.symm] at s6;have s7:=s6.row B4 (.wr p) ⟨v4,c4⟩ r4 (by rw [a4.1];exact hl.2.2.2.1) l4;have s8:=s7.row B5 (.li p) ⟨v5,c5⟩ r5 (by rw [a5.1];exact hl.2.2.2.2) l5;have s9:=s8.cell .fo (a:=a) (off:=off) (n:=n) (cp:=cp) (i:=p) (j:=5) (u:=v4) (x:=[.string f.name,.int .i64 f.turn,v1,v2,v3,w5,w6]) (by simpa [zL] using hv) (by simp [zL,hpl]) (by decide) o4;have s10:=s9.cell .fo (a:=a) (off:=off) (n:=n) (cp:=cp) (i:=p) (j:=6) (u:=v5) (x:=[.string f.name,.int .i64 f.turn,v1,v2,v3,v4,w6]) (by simpa [zL] using hv) (by simp [zL,hpl]) (by decide) o5;clear s1 s2 s3 s4 s5 s6 s7 s8 s9;generalize hR:zL _ _ _=R' at s10;have q1:R' .us=R .us:=by rw [<-hR];simp [zL]
 have q2:R' .de=R .de:=by rw [<-hR];simp [zL]
 have q3:R' .fo=⟨(R .fo).v,(R .fo).cells.set p [.string f.name,.int .i64 f.turn,v1,v2,v3,v4,v5]⟩:=by rw [<-hR];simp [zL]
 have q4:R' (.ma p)=⟨v1,c1⟩/\R' (.ep p)=⟨v2,c2⟩/\R' (.it p)=⟨v3,c3⟩/\R' (.wr p)=⟨v4,c4⟩/\R' (.li p)=⟨v5,c5⟩:=by rw [<-hR];simp [zL]
 have q5:∀i',i'≠p->R' (.ma i')=R (.ma i')/\R' (.ep i')=R (.ep i')/\R' (.it i')=R (.it i')/\R' (.wr i')=R (.wr i')/\R' (.li i')=R (.li i')/\∀j,R' (.ve i' j)=R (.ve i' j):=fun i' hi=>by
  rw [<-hR];simp [zL,hi]
 clear hR;have hB2:=zB B1 B2;have hB3:=zB hB2 B3;have k:=s10.m.kept (X:=X);have hWd:∀b,Imm X bc R W b->Wd.heap[b]? =W.heap[b]? :=fun b hb=>by
  have hne:b≠a:=fun e=>hb.2.2.1 ⟨.fo,by rw [hv,e];rfl⟩
  rw [ed,Below.heap_setCell _ _ _ _ hne,Below.heap_setCell _ _ _ _ hne,Below.heap_setCell _ _ _ _ hne];exact hB3.block b hb.1
 have hzd:W.heap.size<=Wd.heap.size:=by rw [ed];simpa using hB3.size
 have k4:Kept (Imm X bc R W) (Imm X bc R' _) We _:=fun b hb _=>by
  obtain ⟨h1,h2⟩:=k b hb hb.1;exact ⟨h1,h2.trans ((B4.block b (zll hb.1 hzd)).trans (hWd b hb)).symm⟩
 have k5:Kept (Imm X bc R W) (Imm X bc R' _) Wf _:=fun b hb _=>by
  obtain ⟨h1,h2⟩:=k b hb hb.1;exact ⟨h1,h2.trans (((zB B4 B5).block b (zll hb.1 hzd)).trans (hWd b hb)).symm⟩
 refine ⟨R',h.turn hf s10.m s10.os q1 q2 q5 ?_ ?_,s10.m,q1,q2,by rw [q3]⟩
 ·rw [q3];unfold hdr;rw [q4.1,q4.2.1,q4.2.2.1,q4.2.2.2.1,q4.2.2.2.2]
 refine ⟨hn,ht,?_,?_,?_,fun j x hj=>?_,?_,?_⟩
 ·rw [q4.1];exact a1.imp fun _ _ e=>YF e (k.shift B1 fun _ h=>h.1)
 ·rw [q4.2.1];exact a2.imp fun _ _ e=>z30 e (k.shift hB2 fun _ h=>h.1)
 ·rw [q4.2.2.1];exact a3.1
 ·rw [if_neg (by omega),q4.2.2.1];obtain ⟨y,hy,hr⟩:=a3.at hj;exact ⟨y,hy,z5q hr (k.shift hB3 fun _ h=>h.1)⟩
 ·rw [q4.2.2.2.1];exact a4.imp fun _ _ e=>z3q e k4
 rw [q4.2.2.2.2];exact a5.imp fun _ _ e=>z5r e k5
theorem zFr {md:Nat->Option Nat} {p q:Nat} (h:md p=some q) (i:Nat):md i=(if i=p then some q else md i):=by
 split
 ·rename_i e;rw [e,h]
 rfl
theorem CP.maSet (h:CP X bc base W R st md) {p:Nat} (hf:st.folders[p]? =some f) (hp:md p=some q) {W1:World} (hB:Below W.heap.size W W1) {j:Nat} {m:Manifest} (hm:f.manifests[j]? =some m) {a off n cp:Nat} (hv:(R (.ma p)).v= .slice (some ⟨a,off,none⟩) n cp) {u:Value} (hu:Sl 2 zY (fun b=>b < W1.heap.size/\b≠bc/\¬Y7 R b/\¬X b) W1 u m.members):
  ∃R',CP X bc base (W1.setCell ⟨a,off+j*8+4,none⟩ u) R' st md/\Mut bc R W R' (W1.setCell ⟨a,off+j*8+4,none⟩ u)/\R' .us=R .us/\R' .de=R .de/\(R' .fo).v=(R .fo).v:=by
 have h1:=h.below hB;have hq:=h1.fo p f hf;rw [hp] at hq;obtain ⟨hc,hF⟩:=hq;obtain ⟨x,hx,hr⟩:=hF.man.at hm;obtain ⟨A,c,rfl,_⟩:=id hu;have s1:=h1.stage.cell (.ma p) hv hx (show 4 < 8 by decide) (u:= .slice A m.members.length c) rfl;generalize hR:zL _ _ _=R' at s1;have q1:(R' (.ma p)).cells=(R (.ma p)).cells.set j (x.set 4 (.slice A m.members.length c))/\(R' (.ma p)).v=(R (.ma p)).v:=by rw [<-hR];simp [zL]
 have q3:R' .us=R .us/\R' .de=R .de/\R' .fo=R .fo/\R' (.ep p)=R (.ep p)/\R' (.it p)=R (.it p)/\R' (.wr p)=R (.wr p)/\R' (.li p)=R (.li p)/\∀j,R' (.ve p j)=R (.ve p j):=by rw [<-hR];simp [zL]
 have q5:∀i',i'≠p->R' (.ma i')=R (.ma i')/\R' (.ep i')=R (.ep i')/\R' (.it i')=R (.it i')/\R' (.wr i')=R (.wr i')/\R' (.li i')=R (.li i')/\∀j,R' (.ve i' j)=R (.ve i' j):=fun i' hi=>by
  rw [<-hR];simp [zL,hi]
 clear hR;obtain ⟨q31,q32,q33,q34,q35,q36,q37,q38⟩:=q3;have k:=s1.m.kept (X:=X);refine ⟨R',(h1.turn hf s1.m s1.os q31 q32 q5 ?_ ?_).mode fun i _=>zFr hp i,(Mut.below hB).trans s1.m,q31,q32,by rw [q33]⟩
 ·have e1:hdr R' p f=hdr R p f:=by unfold hdr;rw [q1.2,q34,q35,q36,q37]
  rw [e1,q33,List.set_eq_self_of hc]
 have hF':=hF.keep k;have hr':=YF hr k;have hS:=hu.keep ZH (by decide) k;have hset:=hF'.man.set j (x:=x.set 4 (.slice A m.members.length c)) (y:=m) (by
  obtain ⟨v2,_,rfl,g1,g2,g3,g4,_,g6⟩:=hr';exact ⟨v2,_,rfl,g1,g2,g3,g4,hS,g6⟩)
 rw [List.set_eq_self_of hm,<-q1.1] at hset;exact ⟨hF'.name,hF'.turn,hset,by rw [q34];exact hF'.ep,by rw [q35];exact hF'.itl,fun j' x hx=>by rw [q35,q38 j'];exact hF'.it j' x hx,by rw [q36];exact hF'.wr,by rw [q37];exact hF'.li⟩
theorem CP.epSet (h:CP X bc base W R st md) {p:Nat} (hf:st.folders[p]? =some f) (hp:md p=some q) {W1:World} (hB:Below W.heap.size W W1) {j:Nat} {m:Epoch} (hm:f.epochs[j]? =some m) {a off n cp:Nat} (hv:(R (.ep p)).v= .slice (some ⟨a,off,none⟩) n cp) {u:Value} (hu:Sl 2 rAt (fun b=>b < W1.heap.size/\b≠bc/\¬Y7 R b/\¬X b) W1 u m.chain):
  ∃R',CP X bc base (W1.setCell ⟨a,off+j*5+3,none⟩ u) R' st md/\Mut bc R W R' (W1.setCell ⟨a,off+j*5+3,none⟩ u)/\R' .us=R .us/\R' .de=R .de/\(R' .fo).v=(R .fo).v:=by
 have h1:=h.below hB;have hq:=h1.fo p f hf;rw [hp] at hq;obtain ⟨hc,hF⟩:=hq;obtain ⟨x,hx,hr⟩:=hF.ep.at hm;obtain ⟨A,c,rfl,_⟩:=id hu;have s1:=h1.stage.cell (.ep p) hv hx (show 3 < 5 by decide) (u:= .slice A m.chain.length c) rfl;generalize hR:zL _ _ _=R' at s1;have q1:(R' (.ep p)).cells=(R (.ep p)).cells.set j (x.set 3 (.slice A m.chain.length c))/\(R' (.ep p)).v=(R (.ep p)).v:=by rw [<-hR];simp [zL]
 have q3:R' .us=R .us/\R' .de=R .de/\R' .fo=R .fo/\R' (.ma p)=R (.ma p)/\R' (.it p)=R (.it p)/\R' (.wr p)=R (.wr p)/\R' (.li p)=R (.li p)/\∀j,R' (.ve p j)=R (.ve p j):=by rw [<-hR];simp [zL]
 have q5:∀i',i'≠p->R' (.ma i')=R (.ma i')/\R' (.ep i')=R (.ep i')/\R' (.it i')=R (.it i')/\R' (.wr i')=R (.wr i')/\R' (.li i')=R (.li i')/\∀j,R' (.ve i' j)=R (.ve i' j):=fun i' hi=>by
  rw [<-hR];simp [zL,hi]
 clear hR;obtain ⟨q31,q32,q33,q34,q35,q36,q37,q38⟩:=q3;have k:=s1.m.kept (X:=X);refine ⟨R',(h1.turn hf s1.m s1.os q31 q32 q5 ?_ ?_).mode fun i _=>zFr hp i,(Mut.below hB).trans s1.m,q31,q32,by rw [q33]⟩
 ·have e1:hdr R' p f=hdr R p f:=by unfold hdr;rw [q1.2,q34,q35,q36,q37]
  rw [e1,q33,List.set_eq_self_of hc]
 have hF':=hF.keep k;have hr':=z30 hr k;have hS:=hu.keep Z1 (by decide) k;have hset:=hF'.ep.set j (x:=x.set 3 (.slice A m.chain.length c)) (y:=m) (by
  obtain ⟨_,rfl,g1,g2,g3,_,g5⟩:=hr';exact ⟨_,rfl,g1,g2,g3,hS,g5⟩)
 rw [List.set_eq_self_of hm,<-q1.1] at hset;exact ⟨hF'.name,hF'.turn,by rw [q34];exact hF'.man,hset,by rw [q35];exact hF'.itl,fun j' x hx=>by rw [q35,q38 j'];exact hF'.it j' x hx,by rw [q36];exact hF'.wr,by rw [q37];exact hF'.li⟩
theorem CP.veSet (h:CP X bc base W R st md) {p j:Nat} (hf:st.folders[p]? =some f) (hp:md p=some j) {W1:World} (hB:Below W.heap.size W W1) {it:Item} (hm:f.items[j]? =some it) {a off n cp:Nat} (hv:(R (.it p)).v= .slice (some ⟨a,off,none⟩) n cp) {v:Value} {cells:List (List Value)} (hr:RowC 80 4 W1 v cells) (ha:All2 (yL (Imm X bc R W) W1) cells it.versions) (hlow:∀b,v.ownBlock=some b->W.heap.size<=b) (hone:v.oneCell'=true) (hl:it.versions.length<=10000):
  ∃R',CP X bc base (W1.setCell ⟨a,off+j*2+1,none⟩ v) R' st (fun i=>if i=p then some (j+1) else md i)/\Mut bc R W R' (W1.setCell ⟨a,off+j*2+1,none⟩ v)/\R' .us=R .us/\R' .de=R .de/\(R' .fo).v=(R .fo).v/\(R' (.it p)).v=(R (.it p)).v/\(R' (.ve p j)).v=v:=by
 have hq:=h.fo p f hf;rw [hp] at hq;obtain ⟨hc,hF⟩:=hq;have hit:=hF.it j it hm;rw [if_neg (by omega)] at hit;obtain ⟨_,hcs,v1,rfl,hnm,_⟩:=hit;have s0:=h.stage.row hB (.ve p j) ⟨v,cells⟩ hr (by rw [ha.1];exact hl) hlow;have s1:=s0.cell (.it p) (a:=a) (off:=off) (n:=n) (cp:=cp) (i:=j) (j:=1) (u:=v) (x:=[.string it.name,v1]) (by simpa [zL] using hv) (by simpa [zL] using hcs) (show 1 < 2 by decide) hone;generalize hR:zL _ _ _=R' at s1;have q1:R' (.ve p j)=⟨v,cells⟩:=by rw [<-hR];simp [zL]
 have q2:R' (.it p)=⟨(R (.it p)).v,(R (.it p)).cells.set j [.string it.name,v]⟩:=by rw [<-hR];simp [zL]
 have q3:R' .us=R .us/\R' .de=R .de/\R' .fo=R .fo/\R' (.ma p)=R (.ma p)/\R' (.ep p)=R (.ep p)/\R' (.wr p)=R (.wr p)/\R' (.li p)=R (.li p):=by rw [<-hR];simp [zL]
 have q4:∀j',j'≠j->R' (.ve p j')=R (.ve p j'):=fun j' hj=>by rw [<-hR];simp [zL,hj]
 have q5:∀i',i'≠p->R' (.ma i')=R (.ma i')/\R' (.ep i')=R (.ep i')/\R' (.it i')=R (.it i')/\R' (.wr i')=R (.wr i')/\R' (.li i')=R (.li i')/\∀j,R' (.ve i' j)=R (.ve i' j):=fun i' hi=>by
  rw [<-hR];simp [zL,hi]
 clear hR;have k:=s1.m.kept (X:=X);refine ⟨R',h.turn hf s1.m s1.os q3.1 q3.2.1 q5 ?_ ?_,s1.m,q3.1,q3.2.1,by rw [q3.2.2.1],by rw [q2],by rw [q1]⟩
 ·have e1:hdr R' p f=hdr R p f:=by unfold hdr;rw [q3.2.2.2.1,q3.2.2.2.2.1,q2,q3.2.2.2.2.2.1,q3.2.2.2.2.2.2]
  rw [e1,q3.2.2.1,List.set_eq_self_of hc]
 have hF':=hF.keep k;refine ⟨hF'.name,hF'.turn,by rw [q3.2.2.2.1];exact hF'.man,by rw [q3.2.2.2.2.1];exact hF'.ep,by rw [q2];simpa using hF'.itl,fun j' y hy=>?_,by rw [q3.2.2.2.2.2.1];exact hF'.wr,by rw [q3.2.2.2.2.2.2];exact hF'.li⟩;have hjl:=(zge hm).1;rw [q2];dsimp only;rw [List.getElem?_set];by_cases hjj:j=j'
 ·subst hjj;rw [hm] at hy;obtain rfl:=zsi hy;rw [if_pos (by omega),if_pos rfl,if_pos (by rw [hF.itl];exact hjl),q1];exact ⟨rfl,hnm,ha.imp fun _ _ e=>z19 e (k.shift hB fun _ h=>h.1)⟩
 have hne:j'≠j:=fun e=>hjj e.symm
 have hold:=hF'.it j' y hy;rw [if_neg hjj,q4 j' hne];by_cases hlt:j' < j
 ·rw [if_pos (by omega)];rwa [if_pos hlt] at hold
 rw [if_neg (by omega)];rwa [if_neg hlt] at hold
theorem CP.vdSet (h:CP X bc base W R st md) {p j:Nat} (hf:st.folders[p]? =some f) (hp:md p=some q) (hjq:j < q) {W1:World} (hB:Below W.heap.size W W1) {it:Item} (hi:f.items[j]? =some it) {k:Nat} {m:Version} (hm:it.versions[k]? =some m) {a off n cp:Nat} (hv:(R (.ve p j)).v= .slice (some ⟨a,off,none⟩) n cp) {u:Value} (hu:Sl 1 YL (fun b=>b < W1.heap.size/\b≠bc/\¬Y7 R b/\¬X b) W1 u m.data):
  ∃R',CP X bc base (W1.setCell ⟨a,off+k*4+3,none⟩ u) R' st md/\Mut bc R W R' (W1.setCell ⟨a,off+k*4+3,none⟩ u)/\R' .us=R .us/\R' .de=R .de/\(R' .fo).v=(R .fo).v/\(R' (.it p)).v=(R (.it p)).v:=by
 have h1:=h.below hB;have hq:=h1.fo p f hf;rw [hp] at hq;obtain ⟨hc,hF⟩:=hq;have hit:=hF.it j it hi;rw [if_pos hjq] at hit;obtain ⟨_,_,hall⟩:=hit;obtain ⟨x,hx,hr⟩:=hall.at hm;obtain ⟨A,c,rfl,_⟩:=id hu;have s1:=h1.stage.cell (.ve p j) hv hx (show 3 < 4 by decide) (u:= .slice A m.data.length c) rfl;generalize hR:zL _ _ _=R' at s1;have q1:R' (.ve p j)=⟨(R (.ve p j)).v,(R (.ve p j)).cells.set k (x.set 3 (.slice A m.data.length c))⟩:=by rw [<-hR];simp [zL]
 have q3:R' .us=R .us/\R' .de=R .de/\R' .fo=R .fo/\R' (.ma p)=R (.ma p)/\R' (.ep p)=R (.ep p)/\R' (.wr p)=R (.wr p)/\R' (.li p)=R (.li p)/\R' (.it p)=R (.it p):=by rw [<-hR];simp [zL]
 have q4:∀j',j'≠j->R' (.ve p j')=R (.ve p j'):=fun j' hj=>by rw [<-hR];simp [zL,hj]
 have q5:∀i',i'≠p->R' (.ma i')=R (.ma i')/\R' (.ep i')=R (.ep i')/\R' (.it i')=R (.it i')/\R' (.wr i')=R (.wr i')/\R' (.li i')=R (.li i')/\∀j,R' (.ve i' j)=R (.ve i' j):=fun i' hi=>by
  rw [<-hR];simp [zL,hi]
 clear hR;have kk:=s1.m.kept (X:=X);refine ⟨R',(h1.turn hf s1.m s1.os q3.1 q3.2.1 q5 ?_ ?_).mode fun i _=>zFr hp i,(Mut.below hB).trans s1.m,q3.1,q3.2.1,by rw [q3.2.2.1],by rw [q3.2.2.2.2.2.2.2]⟩
 ·have e1:hdr R' p f=hdr R p f:=by unfold hdr;rw [q3.2.2.2.1,q3.2.2.2.2.1,q3.2.2.2.2.2.1,q3.2.2.2.2.2.2.1,q3.2.2.2.2.2.2.2]
  rw [e1,q3.2.2.1,List.set_eq_self_of hc]
 have hF':=hF.keep kk;refine ⟨hF'.name,hF'.turn,by rw [q3.2.2.2.1];exact hF'.man,by rw [q3.2.2.2.2.1];exact hF'.ep,by rw [q3.2.2.2.2.2.2.2];exact hF'.itl,fun j' y hy=>?_,by rw [q3.2.2.2.2.2.1];exact hF'.wr,by rw [q3.2.2.2.2.2.2.1];exact hF'.li⟩;have hold:=hF'.it j' y hy;rw [q3.2.2.2.2.2.2.2];by_cases hjj:j'=j
 ·subst hjj;rw [hi] at hy;obtain rfl:=zsi hy;rw [if_pos hjq] at hold⊢;rw [q1];refine ⟨hold.1,hold.2.1,?_⟩;have hr':=z19 hr kk;have hS:=hu.keep rByte_ok (by decide) (S':=Imm X bc R' (W1.setCell ⟨a,off+k*4+3,none⟩ (.slice A m.data.length c))) (w':=W1.setCell ⟨a,off+k*4+3,none⟩ (.slice A m.data.length c)) kk;have:=hold.2.2.set k (x:=x.set 3 (.slice A m.data.length c)) (y:=m) (by
   obtain ⟨_,rfl,g1,g2,_⟩:=hr';exact ⟨_,rfl,g1,g2,hS⟩)
  rwa [List.set_eq_self_of hm] at this
 rwa [q4 j' hjj]
end
end
end Go.Proofs.YtdggplhnfhcieaaGreatDoor
