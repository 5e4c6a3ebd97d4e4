/- Part 3 of the proof of vaultGranted_holds. No condition. -/
import Derived.Deep.CutRange
import Derived.Test.YtdggplhnfhcieaaGreatDoorY02
set_option linter.unusedVariables false
set_option linter.unusedSimpArgs false
set_option linter.unusedSectionVars false
set_option maxRecDepth 100000
namespace Go.Proofs.YtdggplhnfhcieaaGreatDoor
section
open Go.RowKit Go.Deep
def All2 {α β:Type} (p:α->β->Prop) (a:List α) (b:List β):Prop:=a.length=b.length/\∀(i:Nat) (x:α) (y:β),a[i]? =some x->b[i]? =some y->p x y
section
variable {α β:Type} {p q:α->β->Prop}
theorem All2.nil:All2 p [] []:=⟨rfl,fun i x y h=>by simp at h⟩
theorem All2.imp {a:List α} {b:List β} (h:All2 p a b) (k:∀x y,p x y->q x y):All2 q a b:=⟨h.1,fun i x y hx hy=>k x y (h.2 i x y hx hy)⟩
theorem All2.at {a:List α} {b:List β} (h:All2 p a b) {i:Nat} {y:β} (hy:b[i]? =some y):∃x,a[i]? =some x/\p x y:=by
 have hl:=(zge hy).1
 have hx:a[i]? =some (a[i]'(by rw [h.1];exact hl)):=List.getElem?_eq_getElem _
 exact ⟨_,hx,h.2 i _ y hx hy⟩
theorem All2.snoc {a:List α} {b:List β} (h:All2 p a b) {x:α} {y:β} (k:p x y):All2 p (a++[x]) (b++[y]):=by
 refine ⟨by simp [h.1],fun i u v hu hv=>?_⟩
 rcases Nat.lt_trichotomy i a.length with hi | hi | hi
 ·rw [List.getElem?_append_left hi] at hu
  rw [List.getElem?_append_left (by rw [<-h.1];exact hi)] at hv
  exact h.2 i u v hu hv
 ·subst hi
  rw [List.getElem?_append_right (znl _),Nat.sub_self] at hu
  rw [List.getElem?_append_right (by rw [h.1];exact znl _),h.1,Nat.sub_self] at hv
  obtain rfl:=zsi hu
  obtain rfl:=zsi hv
  exact k
 rw [List.getElem?_eq_none (by simp;omega)] at hu
 cases hu
theorem All2.set {a:List α} {b:List β} (h:All2 p a b) (i:Nat) {x:α} {y:β} (k:p x y):All2 p (a.set i x) (b.set i y):=by
 refine ⟨by simp [h.1],fun j u v hu hv=>?_⟩
 rw [List.getElem?_set] at hu hv
 by_cases hij:i=j
 ·rw [if_pos hij] at hu hv
  split at hu
  ·split at hv
   ·obtain rfl:=zsi hu
    obtain rfl:=zsi hv
    exact k
   cases hv
  cases hu
 rw [if_neg hij] at hu hv
 exact h.2 j u v hu hv
end
inductive RK where
 | us | de | fo
 | ma (i:Nat) | ep (i:Nat) | it (i:Nat) | wr (i:Nat) | li (i:Nat)
 | ve (i j:Nat)
 deriving DecidableEq
def RK.ty:RK->TypeId
 | .us=>91
 | .de=>126
 | .fo=>74
 | .ma _=>84
 | .ep _=>130
 | .it _=>78
 | .wr _=>149
 | .li _=>151
 | .ve _ _=>80
def RK.sz:RK->Nat
 | .us=>2
 | .de=>2
 | .fo=>7
 | .ma _=>8
 | .ep _=>5
 | .it _=>2
 | .wr _=>3
 | .li _=>3
 | .ve _ _=>4
structure Row where
 v:Value
 cells:List (List Value)
abbrev RM:=RK->Row
def zK (R:RM) (k:RK) (r:Row):RM:=fun x=>if x=k then r else R x
theorem yJ (R:RM) (k:RK) (r:Row):zK R k r k=r:=by unfold zK;rw [if_pos rfl]
theorem ZM (R:RM) {k x:RK} (r:Row) (h:x≠k):zK R k r x=R x:=by unfold zK;rw [if_neg h]
def yS (R:RM) (b:Nat):Prop:=∃k,(R k).v.ownBlock=some b
structure OS (base:Nat) (W:World) (R:RM):Prop where
 row:∀k,RowC k.ty k.sz W (R k).v (R k).cells
 inj:∀k k' b,(R k).v.ownBlock=some b->(R k').v.ownBlock=some b->k=k'
 low:∀k b,(R k).v.ownBlock=some b->base<=b
 len:∀k,(R k).cells.length<=10000
def Imm (X:Nat->Prop) (bw:Nat) (R:RM) (W:World):Nat->Prop:=fun b=>b < W.heap.size/\b≠bw/\¬yS R b/\¬X b
structure Mut (bw:Nat) (R:RM) (W:World) (R':RM) (W':World):Prop where
 but:ButB (fun b=>b=bw\/yS R b) W W'
 fresh:∀b,yS R' b->yS R b\/W.heap.size<=b
section
variable {bw base:Nat} {R R' R2:RM} {W W' W2:World}
theorem Mut.refl (bw:Nat) (R:RM) (W:World):Mut bw R W R W:=⟨ButB.refl _ _,fun _ h=> .inl h⟩
theorem Mut.below (h:Below W.heap.size W W'):Mut bw R W R W':=⟨ButB.of h,fun _ h=> .inl h⟩
theorem Mut.trans (h:Mut bw R W R' W') (k:Mut bw R' W' R2 W2):Mut bw R W R2 W2:=by
 refine ⟨⟨k.but.os.trans h.but.os,k.but.tape.trans h.but.tape,k.but.output.trans h.but.output,Nat.le_trans h.but.size k.but.size,fun b hb hn=>?_⟩,fun b hb=>?_⟩
 ·refine (k.but.block b (zll hb h.but.size) fun e=>?_).trans (h.but.block b hb hn)
  rcases e with e | e
  ·exact hn (.inl e)
  rcases h.fresh b e with e | e
  ·exact hn (.inr e)
  omega
 rcases k.fresh b hb with e | e
 ·exact h.fresh b e
 exact .inr (Nat.le_trans h.but.size e)
theorem Mut.tail (h:Mut bw R W R' W') (k:ButB (fun x=>W.heap.size<=x) W' W2):Mut bw R W R' W2:=
 ⟨⟨k.os.trans h.but.os,k.tape.trans h.but.tape,k.output.trans h.but.output,Nat.le_trans h.but.size k.size,fun b hb hn=>(k.block b (zll hb h.but.size) (by omega)).trans (h.but.block b hb hn)⟩,h.fresh⟩
theorem Mut.kept {X:Nat->Prop} (h:Mut bw R W R' W'):Kept (Imm X bw R W) (Imm X bw R' W') W W':=fun b hb hl=>by
 obtain ⟨h1,h2,h3,h4⟩:=hb
 refine ⟨⟨zll h1 h.but.size,h2,fun e=>?_,h4⟩,h.but.block b h1 fun e=>e.elim h2 h3⟩
 rcases h.fresh b e with e | e
 ·exact h3 e
 ·omega
theorem OS.to (h:OS base W R) (hb:∀b,yS R b->W'.heap[b]? =W.heap[b]?):OS base W' R:=
 ⟨fun k=>(h.row k).keep fun b e=>hb b ⟨k,e⟩,h.inj,h.low,h.len⟩
theorem OS.below (h:OS base W R) (hb:Below W.heap.size W W'):OS base W' R:=
 h.to fun b ⟨k,e⟩=>hb.block b ((h.row k).lt b e)
theorem OS.lt (h:OS base W R) {b:Nat} (hb:yS R b):b < W.heap.size:=by
 obtain ⟨k,e⟩:=hb
 exact (h.row k).lt b e
theorem OS.put (h:OS base W R) (hbase:base<=W.heap.size) (k:RK) (r:Row) (hb:ButB (fun b=>(R k).v.ownBlock=some b) W W') (hr:RowC k.ty k.sz W' r.v r.cells) (hl:r.cells.length<=10000) (ho:∀b,r.v.ownBlock=some b->(R k).v.ownBlock=some b\/W.heap.size<=b):
  OS base W' (zK R k r)/\Mut bw R W (zK R k r) W':=by
 refine ⟨⟨fun x=>?_,fun x y b hx hy=>?_,fun x b hx=>?_,fun x=>?_⟩,⟨hb.mono fun b e=> .inr ⟨k,e⟩,fun b ⟨x,hx⟩=>?_⟩⟩
 ·by_cases hxk:x=k
  ·subst hxk
   rw [yJ]
   exact hr
  rw [ZM R r hxk]
  refine (h.row x).keep fun b e=>hb.block b ((h.row x).lt b e) fun e2=>hxk (h.inj x k b e e2)
 ·by_cases hxk:x=k
  ·subst hxk
   rw [yJ] at hx
   by_cases hyk:y=x
   ·exact hyk.symm
   rw [ZM R r hyk] at hy
   rcases ho b hx with e | e
   ·exact h.inj x y b e hy
   have:=(h.row y).lt b hy
   omega
  rw [ZM R r hxk] at hx
  by_cases hyk:y=k
  ·subst hyk
   rw [yJ] at hy
   rcases ho b hy with e | e
   ·exact h.inj x y b hx e
   have:=(h.row x).lt b hx
   omega
  rw [ZM R r hyk] at hy
  exact h.inj x y b hx hy
 ·by_cases hxk:x=k
  ·subst hxk
   rw [yJ] at hx
   rcases ho b hx with e | e
   ·exact h.low x b e
   omega
  rw [ZM R r hxk] at hx
  exact h.low x b hx
 ·by_cases hxk:x=k
  ·subst hxk
   rw [yJ]
   exact hl
  rw [ZM R r hxk]
  exact h.len x
 by_cases hxk:x=k
 ·subst hxk
  rw [yJ] at hx
  exact (ho b hx).imp (fun e=>⟨x,e⟩) id
 rw [ZM R r hxk] at hx
 exact .inl ⟨x,hx⟩
end
def hdr (R:RM) (i:Nat) (f:Folder):List Value:=[.string f.name,.int .i64 f.turn,(R (.ma i)).v,(R (.ep i)).v,(R (.it i)).v,(R (.wr i)).v,(R (.li i)).v]
structure IsFo (S:Nat->Prop) (W:World) (R:RM) (i:Nat) (f:Folder):Prop where
 name:f.name.size<=140737488355328
 turn:I64 f.turn
 man:All2 (ZO S W) (R (.ma i)).cells f.manifests
 ep:All2 (Y6 S W) (R (.ep i)).cells f.epochs
 itl:(R (.it i)).cells.length=f.items.length
 it:∀j x,f.items[j]? =some x->(R (.it i)).cells[j]? =some [.string x.name,(R (.ve i j)).v]/\x.name.size<=140737488355328/\All2 (yB S W) (R (.ve i j)).cells x.versions
 wr:All2 (yW S W) (R (.wr i)).cells f.wraps
 li:All2 (YP S W) (R (.li i)).cells f.links
structure IsSt (S:Nat->Prop) (W:World) (R:RM) (st:State):Prop where
 turn:I64 st.turn
 users:All2 (z01 S W) (R .us).cells st.users
 deps:All2 (YV S W) (R .de).cells st.deposits
 fol:(R .fo).cells.length=st.folders.length
 fo:∀i f,st.folders[i]? =some f->(R .fo).cells[i]? =some (hdr R i f)/\IsFo S W R i f
section
variable {S S':Nat->Prop} {R R':RM} {W W':World} {i:Nat} {f:Folder} {st:State}
theorem IsFo.keep (h:IsFo S W R i f) (k:Kept S S' W W'):IsFo S' W' R i f:=
 ⟨h.name,h.turn,h.man.imp fun _ _ h=>Y1 h k,h.ep.imp fun _ _ h=>z14 h k,h.itl,fun j x hx=>⟨(h.it j x hx).1,(h.it j x hx).2.1,(h.it j x hx).2.2.imp fun _ _ h=>z09 h k⟩,
  h.wr.imp fun _ _ h=>z2n h k,h.li.imp fun _ _ h=>z4g h k⟩
theorem IsSt.keep (h:IsSt S W R st) (k:Kept S S' W W'):IsSt S' W' R st:=
 ⟨h.turn,h.users.imp fun _ _ h=>z1q h k,h.deps.imp fun _ _ h=>z2k h k,h.fol,fun i f hf=>⟨(h.fo i f hf).1,(h.fo i f hf).2.keep k⟩⟩
theorem z0i {α:Type} {e:TypeId} {sz:Nat} {Q:Rp α} (ok:RpOk sz Q) {v:Value} {cells:List (List Value)} {l:List α} (h:RowC e sz W v cells) (hl:cells.length<=10000) (k:All2 (Q S W) cells l):Sl sz Q (fun _=>True) W v l:=by
 obtain ⟨A,c,hv,_⟩:=h.shape
 have hcap:cells.length<=c/\c<=maxLen:=by
  rcases h.2 with ⟨hv2,h0⟩ | ⟨g,off,cap,cur,hv2,hg,h1,h2,_⟩
  ·rw [hv] at hv2
   simp only [Value.slice.injEq] at hv2
   subst h0
   exact ⟨by simp,by omega⟩
  ·rw [hv] at hv2
   simp only [Value.slice.injEq] at hv2
   omega
 refine ⟨A,c,by rw [<-k.1];exact hv,by rw [<-k.1];exact hcap.1,hcap.2,by rw [<-k.1];omega,fun i y hy=>?_⟩
 obtain ⟨x,hx,hp⟩:=k.at hy
 obtain ⟨g,off,cap,hv2,_,_,_,hc,_⟩:=h.at hx
 rw [hv] at hv2
 simp only [Value.slice.injEq] at hv2
 exact ⟨g,off,x,hv2.1,trivial,ok.len hp,fun j u hj=>by rw [<-Nat.add_assoc];exact hc j u hj,ok.keep hp (Kept.refl _ fun _ _=>trivial)⟩
theorem IsFo.folder {base:Nat} (o:OS base W R) (h:IsFo S W R i f):ZE (fun _=>True) W (hdr R i f) f:=by
 refine ⟨_,_,_,_,_,rfl,h.name,h.turn,z0i z1a (o.row (.ma i)) (o.len _) h.man,z0i z36 (o.row (.ep i)) (o.len _) h.ep,?_,z0i z2o (o.row (.wr i)) (o.len _) h.wr,z0i z2p (o.row (.li i)) (o.len _) h.li⟩
 refine z0i (S:=fun _=>True) z1z (o.row (.it i)) (o.len _) ⟨h.itl,fun j cs x hc hx=>?_⟩
 obtain ⟨h1,h2,h3⟩:=h.it j x hx
 rw [h1] at hc
 obtain rfl:=zsi hc
 exact ⟨_,rfl,h2,z0i z1y (o.row (.ve i j)) (o.len _) h3⟩
theorem IsSt.state {base:Nat} (o:OS base W R) (h:IsSt S W R st):ZX (fun _=>True) W [.int .i64 st.turn,(R .us).v,(R .de).v,(R .fo).v] st:=by
 refine ⟨_,_,_,rfl,h.turn,z0i YG (o.row .us) (o.len _) h.users,z0i z19 (o.row .de) (o.len _) h.deps,?_⟩
 refine z0i (S:=fun _=>True) z02 (o.row .fo) (o.len _) ⟨h.fol,fun j cs x hc hx=>?_⟩
 obtain ⟨h1,h2⟩:=h.fo j x hx
 rw [h1] at hc
 obtain rfl:=zsi hc
 exact h2.folder o
theorem IsSt.setF (h:IsSt S W R st) (hf:st.folders[i]? =some f) {f':Folder} (k:Kept S S' W W') (hus:R' .us=R .us) (hde:R' .de=R .de)
  (ho:∀i',i'≠i->R' (.ma i')=R (.ma i')/\R' (.ep i')=R (.ep i')/\R' (.it i')=R (.it i')/\R' (.wr i')=R (.wr i')/\R' (.li i')=R (.li i')/\∀j,R' (.ve i' j)=R (.ve i' j))
  (hfo:(R' .fo).cells=(R .fo).cells.set i (hdr R' i f')) (hF:IsFo S' W' R' i f'):IsSt S' W' R' { st with folders:=st.folders.set i f' }:=by
 have h':=h.keep k
 refine ⟨h.turn,by rw [hus];exact h'.users,by rw [hde];exact h'.deps,by rw [hfo];simp [h.fol],fun j g hg=>?_⟩
 rw [List.getElem?_set] at hg
 by_cases hij:i=j
 ·subst hij
  rw [if_pos rfl] at hg
  split at hg
  ·obtain rfl:=zsi hg
   refine ⟨?_,hF⟩
   rw [hfo,List.getElem?_set_self (by rw [h.fol];assumption)]
  cases hg
 rw [if_neg hij] at hg
 obtain ⟨g1,g2⟩:=h'.fo j g hg
 obtain ⟨a1,a2,a3,a4,a5,a6⟩:=ho j (fun e=>hij e.symm)
 refine ⟨?_,?_⟩
 ·rw [hfo,List.getElem?_set_ne hij,g1]
  unfold hdr
  rw [a1,a2,a3,a4,a5]
 exact ⟨g2.name,g2.turn,by rw [a1];exact g2.man,by rw [a2];exact g2.ep,by rw [a3];exact g2.itl,fun q x hx=>by rw [a3,a6 q];exact g2.it q x hx,by rw [a4];exact g2.wr,by rw [a5];exact g2.li⟩
end
end
end Go.Proofs.YtdggplhnfhcieaaGreatDoor
section
namespace Go.Proofs.YtdggplhnfhcieaaGreatDoor.Bd
open Go.RowKit Go.Deep
def sumOf (g:Folder->Nat):List Folder->Nat
 | []=>0
 | f :: l=>g f+sumOf g l
theorem z93 (g:Folder->Nat):∀(l:List Folder) (f:Folder),f∈l->g f<=sumOf g l
 | [],f,h=>by simp at h
 | x :: l,f,h=>by
  rcases List.mem_cons.1 h with rfl | h
  ·simp [sumOf]
  ·have:=z93 g l f h;simp [sumOf];omega
def z9k (K:FuncId) (g:Folder->Nat) (l:List Folder):Prop:=
 ∀(f:Folder) (cs:List Value) (w:World) (S:Nat->Prop),ZE S w cs f->f∈l->Calls Tryz.prog K #[.agg cs.toArray] w fun e w'=>e= .returned (.int .i64 ((g f:Nat):Int))/\Below w.heap.size w w'
theorem zIg (K:FuncId) (hK:K=184\/K=185) (g:Folder->Nat) (st:State) (hg:z9k K g st.folders) (hb:sumOf g st.folders<=1000000)
  (cs:List Value) (w:World) (S:Nat->Prop) (h:ZX S w cs st):
  Calls Tryz.prog 183 #[.agg cs.toArray,.func (.func K) #[] #[]] w fun e w'=>e= .returned (.int .i64 ((sumOf g st.folders:Nat):Int))/\Below w.heap.size w w':=by
 obtain ⟨_,_,_,_,_,_,rfl,_,_,_,_,_,_,_,_,_,_,_,_,st_folders_s⟩:=ZL h
 have hgH:Hid (z9k K g st.folders):=hg
 clear hg
 rcases hK with rfl | rfl
 all_goals
  go_enter Tryz.func183,Tryz.ntmps183
  go_wp2
  go_loopw [5,11] (fun n i wr=>∃k m:Nat,k<=st.folders.length/\i= .int .i64 k/\n= .int .i64 m/\m+sumOf g (st.folders.drop k)=sumOf g st.folders/\Below w.heap.size w wr) (fun n i _=>st.folders.length - (intOf i).toNat)
  case atStart=>
   exact ⟨0,0,by omega,by go_num,by go_num,by simp,by go_grown⟩
  case round=>
   obtain ⟨k,m,_,rfl,rfl,E,hbel⟩:=hrel
   have hz:=hbel.size
   by_cases hlt:k < st.folders.length
   ·obtain ⟨x,_,_,_,_,_,_,_,_,_,_,_,_,x_k,x_d,x_m,rfl,_,_,_,_,_,_,_,_,_,x_R,_,_,_,_,_,_,_,_,_,_,_,_,_,_,_,_,_,_,_,_,_,_⟩:=z1r st_folders_s hlt (zH hbel)
    rw [x_d,sumOf] at E
    have b1:m+g x<=1000000:=by omega
    have EH:=zh E
    clear x_k x_d E
    go_wp2_with fail
    refine (hgH.out x _ _ S (Z0 x_R (Kept.below (by go_grown) fun _ h=>h)) x_m).mono ?_
    rintro e _ ⟨rfl,hb1⟩
    go_wp2
    go_roundw
    case rel=>exact ⟨k+1,m+g x,by omega,by go_num,by go_num,by rw [<-EH.out];omega,zB (by go_grown) hb1⟩
    case measure=>simp [intOf];omega
   ·obtain rfl:k=st.folders.length:=by omega
    rw [List.drop_length] at E
    have EH:=zh E
    clear E
    go_wp2
    go_ret
    exact ⟨by rw [<-EH.out];simp [sumOf],hbel⟩
def small1 (f:Folder):Nat:=f.items.length+f.wraps.length+f.links.length
theorem zQs (l:List Folder) (h:sumOf small1 l<=1000000):z9k 184 small1 l:=fun f cs w S hR hm=>
 zK4 f cs w S hR (by have:=z93 small1 l f hm;unfold small1 at this h;omega)
theorem zQt (l:List Folder) (h:sumOf large1 l<=1000000):z9k 185 large1 l:=fun f cs w S hR hm=>
 zK5 f cs w S hR (by have:=z93 large1 l f hm;omega)
end Go.Proofs.YtdggplhnfhcieaaGreatDoor.Bd
end
namespace Go.Proofs.YtdggplhnfhcieaaGreatDoor
section
open Go.RowKit Go.Deep
set_option maxHeartbeats 8000000 in
theorem zDq (x:Folder) (hpv:∀m∈x.manifests,m.prev=[]) (cs ds:List Value) (w:World) (S S':Nat->Prop) (h:ZE S w cs x) (k:ZE S' w ds x):
  Calls Tryz.prog 46 #[.agg cs.toArray,.agg ds.toArray] w fun e w'=>e= .returned (.bool true)/\Below w.heap.size w w':=by
 have HPV:=zh hpv
 obtain ⟨A2,a2,A3,a3,A4,a4,A5,a5,A6,a6,rfl,_,_,_,_,_,s2,_,_,_,s3,_,_,_,s4,_,_,_,s5,_,_,_,s6⟩:=Z5 h
 obtain ⟨B2,b2,B3,b3,B4,b4,B5,b5,B6,b6,rfl,_,_,_,_,_,t2,_,_,_,t3,_,_,_,t4,_,_,_,t5,_,_,_,t6⟩:=Z5 k
 obtain ⟨W1,hW1,c1,f1,BW1,_⟩:=zO w #[.string x.name,.int .i64 x.turn,.slice A2 x.manifests.length a2,.slice A3 x.epochs.length a3,.slice A4 x.items.length a4,.slice A5 x.wraps.length a5,.slice A6 x.links.length a6] 74
 obtain ⟨W2,hW2,c2,f2,BW2,_⟩:=zO W1 #[.string x.name,.int .i64 x.turn,.slice B2 x.manifests.length b2,.slice B3 x.epochs.length b3,.slice B4 x.items.length b4,.slice B5 x.wraps.length b5,.slice B6 x.links.length b6] 74
 have hz1:=BW1.size
 have hz2:=BW2.size
 have hWs:W1.heap.size=w.heap.size+1:=by rw [<-hW1];simp
 have KA:=zh (show ∀(j:Nat) (v:Value),(#[.string x.name,.int .i64 x.turn,.slice A2 x.manifests.length a2,.slice A3 x.epochs.length a3,.slice A4 x.items.length a4,.slice A5 x.wraps.length a5,.slice A6 x.links.length a6]:Array Value)[j]? =some v->∀W,Below W2.heap.size W2 W->W.cell? ⟨w.heap.size,j,none⟩=some v from fun j v hj W hW=>((zB BW2 hW).cell (p:=⟨w.heap.size,j,none⟩) (by dsimp only;omega)).trans (c1 j v hj))
 have KB:=zh (show ∀(j:Nat) (v:Value),(#[.string x.name,.int .i64 x.turn,.slice B2 x.manifests.length b2,.slice B3 x.epochs.length b3,.slice B4 x.items.length b4,.slice B5 x.wraps.length b5,.slice B6 x.links.length b6]:Array Value)[j]? =some v->∀W,Below W2.heap.size W2 W->W.cell? ⟨w.heap.size+1,j,none⟩=some v from fun j v hj W hW=>by rw [<-hWs];exact (hW.cell (p:=⟨W1.heap.size,j,none⟩) (by dsimp only;omega)).trans (c2 j v hj))
 have HB12:=zh (zB BW1 BW2)
 have SA2:=zh s2
 have SB2:=zh t2
 have SA3:=zh s3
 have SB3:=zh t3
 have SA4:=zh s4
 have SB4:=zh t4
 have SA5:=zh s5
 have SB5:=zh t5
 have SA6:=zh s6
 have SB6:=zh t6
 clear h k s2 s3 s4 s5 s6 t2 t3 t4 t5 t6 c1 c2 f1 f2 BW1 BW2
 have egAt:Tryz.prog.eqGuardType Tryz.prog.depth 124=false:=by kernel_rfl
 have shAt:Tryz.prog.stoodInHeld 124=false:=by kernel_rfl
 have ufAt:=Tryz.underlying124
 have egWrap:Tryz.prog.eqGuardType Tryz.prog.depth 149=false:=by kernel_rfl
 have shWrap:Tryz.prog.stoodInHeld 149=false:=by kernel_rfl
 have ufWrap:=Tryz.underlying149
 have egLink:Tryz.prog.eqGuardType Tryz.prog.depth 151=false:=by kernel_rfl
 have shLink:Tryz.prog.stoodInHeld 151=false:=by kernel_rfl
 have ufLink:=Tryz.underlying151
 have r0:=KA.out 0 _ rfl W2 zbr
 have z0:=KB.out 0 _ rfl W2 zbr
 have r1:=KA.out 1 _ rfl W2 zbr
 have z1:=KB.out 1 _ rfl W2 zbr
 have r2:=KA.out 2 _ rfl W2 zbr
 have z2:=KB.out 2 _ rfl W2 zbr
 have r3:=KA.out 3 _ rfl W2 zbr
 have z3:=KB.out 3 _ rfl W2 zbr
 have r4:=KA.out 4 _ rfl W2 zbr
 have z4:=KB.out 4 _ rfl W2 zbr
 have r5:=KA.out 5 _ rfl W2 zbr
 have z5:=KB.out 5 _ rfl W2 zbr
 have r6:=KA.out 6 _ rfl W2 zbr
 have z6:=KB.out 6 _ rfl W2 zbr
 go_enter Tryz.func46,Tryz.ntmps46
 go_wp2_with fail
 clear r0 z0 r1 z1 r2 z2 r3 z3 r4 z4 r5 z5 r6 z6 hW1 hW2
 go_loopw [5] (fun i wr=>∃k:Nat,k<=x.manifests.length/\i= .int .i64 k/\Below W2.heap.size W2 wr) (fun i _=>x.manifests.length - (RowKit.intOf i).toNat)
 case atStart=>exact ⟨0,by omega,by go_num,Below.refl _ _⟩
 obtain ⟨k,hk,rfl,hbel⟩:=hrel
 have rr:=KA.out 2 _ rfl wr hbel
 have zz:=KB.out 2 _ rfl wr hbel
 have BB:=zB HB12.out hbel
 by_cases hlt:k < x.manifests.length
 ·as_aux_lemma=>
   obtain ⟨m,m_b,m_o,m_A2,m_c2,m_A4,m_c4,m_k,m_d,m_m,rfl,m_l,m_S,m_0,m_1,m_2,m_3,m_4,_,_,_,m_R,_,m_seq_ok,_,_,_,m_prev_s,_,m_members_l,m_members_m,m_members_n,m_members_s,_,m_who_le⟩:=z5x SA2.out hlt (zH BB)
   obtain ⟨y,y_b,y_o,y_A2,y_c2,y_A4,y_c4,y_k,y_d,y_m,rfl,y_l,y_S,y_0,y_1,y_2,y_3,y_4,y_5,y_6,y_7,y_R,_,y_seq_ok,_,_,_,y_prev_s,_,y_members_l,y_members_m,y_members_n,y_members_s,_,y_who_le⟩:=z5x SB2.out hlt (zH BB)
   obtain rfl:m=y:=zsi (m_k.symm.trans y_k)
   have hk2:(k:Int) < (x.manifests.length:Int):=by omega
   have hpl:m.prev.length=0:=by rw [HPV.out m m_m];rfl
   rw [hpl] at m_2 y_2
   clear hpl
   obtain ⟨v1,hv1,cv1,fv1,Bv1,qv1⟩:=zO wr #[.string m.folder,.int .i64 m.seq,.slice m_A2 0 m_c2,.string m.parent,.slice m_A4 m.members.length m_c4,.int .i64 m.cut,.bool m.gone,.string m.who] 84
   obtain ⟨v2,hv2,cv2,fv2,Bv2,qv2⟩:=zO v1 #[.string m.folder,.int .i64 m.seq,.slice y_A2 0 y_c2,.string m.parent,.slice y_A4 m.members.length y_c4,.int .i64 m.cut,.bool m.gone,.string m.who] 84
   have hvs:v1.heap.size=wr.heap.size+1:=by rw [<-hv1,World.size_alloc]
   have e0:=cv1 0 _ rfl
   have e1:=cv1 1 _ rfl
   have e2:=cv1 2 _ rfl
   have e3:=cv1 3 _ rfl
   have e4:=cv1 4 _ rfl
   have e5:=cv1 5 _ rfl
   have e6:=cv1 6 _ rfl
   have e7:=cv1 7 _ rfl
   have zz':=(Bv1.cell (p:=⟨w.heap.size+1,2,none⟩) (zF zz)).trans zz
   have d0:=(Bv1.cell (p:=⟨y_b,y_o+k*8,none⟩) (zF y_0)).trans y_0
   have d1:=(Bv1.cell (p:=⟨y_b,y_o+k*8+1,none⟩) (zF y_1)).trans y_1
   have d2:=(Bv1.cell (p:=⟨y_b,y_o+k*8+2,none⟩) (zF y_2)).trans y_2
   have d3:=(Bv1.cell (p:=⟨y_b,y_o+k*8+3,none⟩) (zF y_3)).trans y_3
   have d4:=(Bv1.cell (p:=⟨y_b,y_o+k*8+4,none⟩) (zF y_4)).trans y_4
   have d5:=(Bv1.cell (p:=⟨y_b,y_o+k*8+5,none⟩) (zF y_5)).trans y_5
   have d6:=(Bv1.cell (p:=⟨y_b,y_o+k*8+6,none⟩) (zF y_6)).trans y_6
   have d7:=(Bv1.cell (p:=⟨y_b,y_o+k*8+7,none⟩) (zF y_7)).trans y_7
   have x0:=(Bv2.cell (p:=⟨wr.heap.size,0,none⟩) qv1).trans e0
   have x1:=(Bv2.cell (p:=⟨wr.heap.size,1,none⟩) qv1).trans e1
   have x2:=(Bv2.cell (p:=⟨wr.heap.size,2,none⟩) qv1).trans e2
   have x3:=(Bv2.cell (p:=⟨wr.heap.size,3,none⟩) qv1).trans e3
   have x4:=(Bv2.cell (p:=⟨wr.heap.size,4,none⟩) qv1).trans e4
   have x5:=(Bv2.cell (p:=⟨wr.heap.size,5,none⟩) qv1).trans e5
   have x6:=(Bv2.cell (p:=⟨wr.heap.size,6,none⟩) qv1).trans e6
   have x7:=(Bv2.cell (p:=⟨wr.heap.size,7,none⟩) qv1).trans e7
   have w0:=cv2 0 _ rfl
   rw [hvs] at w0
   have w1:=cv2 1 _ rfl
   rw [hvs] at w1
   have w2:=cv2 2 _ rfl
   rw [hvs] at w2
   have w3:=cv2 3 _ rfl
   rw [hvs] at w3
   have w4:=cv2 4 _ rfl
   rw [hvs] at w4
   have w5:=cv2 5 _ rfl
   rw [hvs] at w5
   have w6:=cv2 6 _ rfl
   rw [hvs] at w6
   have w7:=cv2 7 _ rfl
   rw [hvs] at w7
   have HM1:=zh (show Sl 2 zY S wr (.slice m_A4 m.members.length m_c4) m.members from ⟨m_A4,m_c4,rfl,m_members_l,by unfold maxLen;exact m_members_m,m_members_n,m_members_s⟩)
   have HM2:=zh (show Sl 2 zY S' wr (.slice y_A4 m.members.length y_c4) m.members from ⟨y_A4,y_c4,rfl,y_members_l,by unfold maxLen;exact y_members_m,y_members_n,y_members_s⟩)
   have HV12:=zh (zB Bv1 Bv2)
   have hq2:wr.heap.size+1 < v2.heap.size:=by rw [<-hvs];exact qv2
   clear e0 e1 e2 e3 e4 e5 e6 e7 cv1 fv1 Bv1 cv2 fv2 Bv2 m_k y_k m_d y_d m_R y_R m_prev_s y_prev_s m_members_s y_members_s qv2
   go_wp2_with fail
   refine zcm (zHg m.members _ _ v2 _ _ (HM1.out.keep ZC (by decide) (zH HV12.out)) (HM2.out.keep ZC (by decide) (zH HV12.out))) ?_
   rintro e _ ⟨rfl,B3⟩
   replace x5:=(B3.cell (p:=⟨wr.heap.size,5,none⟩) (zF x5)).trans x5
   replace w5:=(B3.cell (p:=⟨wr.heap.size+1,5,none⟩) hq2).trans w5
   replace x6:=(B3.cell (p:=⟨wr.heap.size,6,none⟩) (zF x6)).trans x6
   replace w6:=(B3.cell (p:=⟨wr.heap.size+1,6,none⟩) hq2).trans w6
   replace x7:=(B3.cell (p:=⟨wr.heap.size,7,none⟩) (zF x7)).trans x7
   replace w7:=(B3.cell (p:=⟨wr.heap.size+1,7,none⟩) hq2).trans w7
   have HB3:=zh (zB hbel (zB HV12.out B3))
   clear B3 hv1 hv2
   go_wp2
   go_roundw
   case rel=>exact ⟨k+1,by omega,by go_num,HB3.out⟩
   case measure=>simp [RowKit.intOf];omega
 obtain rfl:k=x.manifests.length:=by omega
 go_wp2
 clear rr zz
 obtain ⟨wp,rfl⟩:∃wp:World,wp=wr:=⟨_,rfl⟩
 go_loopw [8] (fun i wr=>∃k:Nat,k<=x.epochs.length/\i= .int .i64 k/\Below W2.heap.size W2 wr) (fun i _=>x.epochs.length - (RowKit.intOf i).toNat)
 case atStart=>exact ⟨0,by omega,by go_num,hbel⟩
 obtain ⟨k,hk,rfl,hbel⟩:=hrel
 have rr:=KA.out 3 _ rfl wr hbel
 have zz:=KB.out 3 _ rfl wr hbel
 have BB:=zB HB12.out hbel
 by_cases hlt:k < x.epochs.length
 ·as_aux_lemma=>
   obtain ⟨m,m_b,m_o,m_A3,m_c3,m_k,m_d,m_m,rfl,m_l,m_S,m_0,m_1,m_2,m_3,m_4,m_R,_,_,m_seq_ok,_,_,_,m_chain_s,m_who_le⟩:=zDv SA3.out hlt (zH BB)
   obtain ⟨y,y_b,y_o,y_A3,y_c3,y_k,y_d,y_m,rfl,y_l,y_S,y_0,y_1,y_2,y_3,y_4,y_R,_,_,y_seq_ok,_,_,_,y_chain_s,y_who_le⟩:=zDv SB3.out hlt (zH BB)
   obtain rfl:m=y:=zsi (m_k.symm.trans y_k)
   have hk2:(k:Int) < (x.epochs.length:Int):=by omega
   obtain ⟨v1,hv1,cv1,fv1,Bv1,qv1⟩:=zO wr #[.int .i64 m.place,.int .i64 m.frm,.int .i64 m.seq,.slice m_A3 m.chain.length m_c3,.string m.who] 130
   obtain ⟨v2,hv2,cv2,fv2,Bv2,qv2⟩:=zO v1 #[.int .i64 m.place,.int .i64 m.frm,.int .i64 m.seq,.slice y_A3 m.chain.length y_c3,.string m.who] 130
   have hvs:v1.heap.size=wr.heap.size+1:=by rw [<-hv1,World.size_alloc]
   have e0:=cv1 0 _ rfl
   have e1:=cv1 1 _ rfl
   have e2:=cv1 2 _ rfl
   have e3:=cv1 3 _ rfl
   have e4:=cv1 4 _ rfl
   have zz':=(Bv1.cell (p:=⟨w.heap.size+1,3,none⟩) (zF zz)).trans zz
   have d0:=(Bv1.cell (p:=⟨y_b,y_o+k*5,none⟩) (zF y_0)).trans y_0
   have d1:=(Bv1.cell (p:=⟨y_b,y_o+k*5+1,none⟩) (zF y_1)).trans y_1
   have d2:=(Bv1.cell (p:=⟨y_b,y_o+k*5+2,none⟩) (zF y_2)).trans y_2
   have d3:=(Bv1.cell (p:=⟨y_b,y_o+k*5+3,none⟩) (zF y_3)).trans y_3
   have d4:=(Bv1.cell (p:=⟨y_b,y_o+k*5+4,none⟩) (zF y_4)).trans y_4
   have x0:=(Bv2.cell (p:=⟨wr.heap.size,0,none⟩) qv1).trans e0
   have x1:=(Bv2.cell (p:=⟨wr.heap.size,1,none⟩) qv1).trans e1
   have x2:=(Bv2.cell (p:=⟨wr.heap.size,2,none⟩) qv1).trans e2
   have x3:=(Bv2.cell (p:=⟨wr.heap.size,3,none⟩) qv1).trans e3
   have x4:=(Bv2.cell (p:=⟨wr.heap.size,4,none⟩) qv1).trans e4
   have w0:=cv2 0 _ rfl
   rw [hvs] at w0
   have w1:=cv2 1 _ rfl
   rw [hvs] at w1
   have w2:=cv2 2 _ rfl
   rw [hvs] at w2
   have w3:=cv2 3 _ rfl
   rw [hvs] at w3
   have w4:=cv2 4 _ rfl
   rw [hvs] at w4
   have HM1:=zh m_chain_s
   have HM2:=zh y_chain_s
   have HV12:=zh (zB Bv1 Bv2)
   have hq1:wr.heap.size < v2.heap.size:=zF x3
   have hq2:wr.heap.size+1 < v2.heap.size:=zF w3
   have HX3:=zh x3
   have HW3:=zh w3
   have HBL:=zh hbel
   clear e0 e1 e2 e3 e4 cv1 fv1 Bv1 cv2 fv2 Bv2 m_k y_k m_d y_d m_R y_R m_chain_s y_chain_s qv2
   go_wp2_with fail
   clear rr zz zz' hv1 hv2 x0 w0 d0 m_0 y_0 x1 w1 d1 m_1 y_1 x2 w2 d2 m_2 y_2 x3 w3 d3 m_3 y_3 x4 w4 d4 m_4 y_4
   obtain ⟨we,rfl⟩:∃we:World,we=wr:=⟨_,rfl⟩
   have hkk:=hk2
   clear hbel BB
   go_loopw [11] (fun i wr=>∃n:Nat,n<=m.chain.length/\i= .int .i64 n/\Below v2.heap.size v2 wr) (fun i _=>m.chain.length - (RowKit.intOf i).toNat)
   case atStart=>exact ⟨0,by omega,by go_num,Below.refl _ _⟩
   obtain ⟨n,hn2,rfl,hb2⟩:=hrel
   have x3:=(hb2.cell (p:=⟨we.heap.size,3,none⟩) hq1).trans HX3.out
   have w3:=(hb2.cell (p:=⟨we.heap.size+1,3,none⟩) hq2).trans HW3.out
   have BC:=zB HV12.out hb2
   by_cases hlt2:n < m.chain.length
   ·as_aux_lemma=>
     obtain ⟨c,c_b,c_o,c_k,c_d,c_m,rfl,c_l,c_S,c_0,c_1,c_R,_,_⟩:=zFc HM1.out hlt2 (zH BC)
     obtain ⟨z,z_b,z_o,z_k,z_d,z_m,rfl,z_l,z_S,z_0,z_1,z_R,_,_⟩:=zFc HM2.out hlt2 (zH BC)
     obtain rfl:c=z:=zsi (c_k.symm.trans z_k)
     have hk3:(n:Int) < (m.chain.length:Int):=by omega
     clear c_k z_k c_d z_d c_R z_R
     go_wp2_with fail
     go_quiet (fail)
     go_wp2
     go_roundw
     case rel=>exact ⟨n+1,by omega,by go_num,yC hb2 _⟩
     case measure=>simp [RowKit.intOf];omega
   obtain rfl:n=m.chain.length:=by omega
   go_wp2
   go_roundw
   case rel=>exact ⟨k+1,by omega,by go_num,zB HBL.out (zB HV12.out hb2)⟩
   case measure=>simp [RowKit.intOf];omega
 obtain rfl:k=x.epochs.length:=by omega
 go_wp2
 clear rr zz
 obtain ⟨wp,rfl⟩:∃wp:World,wp=wr:=⟨_,rfl⟩
 go_loopw [12] (fun i wr=>∃k:Nat,k<=x.items.length/\i= .int .i64 k/\Below W2.heap.size W2 wr) (fun i _=>x.items.length - (RowKit.intOf i).toNat)
 case atStart=>exact ⟨0,by omega,by go_num,hbel⟩
 obtain ⟨k,hk,rfl,hbel⟩:=hrel
 have rr:=KA.out 4 _ rfl wr hbel
 have zz:=KB.out 4 _ rfl wr hbel
 have BB:=zB HB12.out hbel
 by_cases hlt:k < x.items.length
 rotate_left
 ·obtain rfl:k=x.items.length:=by omega
  go_wp2
  clear rr zz
  obtain ⟨wp,rfl⟩:∃wp:World,wp=wr:=⟨_,rfl⟩
  go_loopw [16] (fun i wr=>∃k:Nat,k<=x.wraps.length/\i= .int .i64 k/\Below W2.heap.size W2 wr) (fun i _=>x.wraps.length - (RowKit.intOf i).toNat)
  case atStart=>exact ⟨0,by omega,by go_num,hbel⟩
  obtain ⟨k,hk,rfl,hbel⟩:=hrel
  have rr:=KA.out 5 _ rfl wr hbel
  have zz:=KB.out 5 _ rfl wr hbel
  have BB:=zB HB12.out hbel
  by_cases hlt:k < x.wraps.length
  ·as_aux_lemma=>
    obtain ⟨m,m_b,m_o,m_k,m_d,m_m,rfl,m_l,m_S,m_0,m_1,m_2,m_R,m_name_le,m_epoch_ok⟩:=z7i SA5.out hlt (zH BB)
    obtain ⟨y,y_b,y_o,y_k,y_d,y_m,rfl,y_l,y_S,y_0,y_1,y_2,y_R,y_name_le,y_epoch_ok⟩:=z7i SB5.out hlt (zH BB)
    obtain rfl:m=y:=zsi (m_k.symm.trans y_k)
    have hk2:(k:Int) < (x.wraps.length:Int):=by omega
    clear m_k y_k m_d y_d m_R y_R
    go_wp2_with fail
    go_quiet (fail)
    go_wp2
    go_roundw
    case rel=>exact ⟨k+1,by omega,by go_num,yC hbel _⟩
    case measure=>simp [RowKit.intOf];omega
  obtain rfl:k=x.wraps.length:=by omega
  go_wp2
  clear rr zz
  obtain ⟨wp,rfl⟩:∃wp:World,wp=wr:=⟨_,rfl⟩
  go_loopw [17] (fun i wr=>∃k:Nat,k<=x.links.length/\i= .int .i64 k/\Below W2.heap.size W2 wr) (fun i _=>x.links.length - (RowKit.intOf i).toNat)
  case atStart=>exact ⟨0,by omega,by go_num,hbel⟩
  obtain ⟨k,hk,rfl,hbel⟩:=hrel
  have rr:=KA.out 6 _ rfl wr hbel
  have zz:=KB.out 6 _ rfl wr hbel
  have BB:=zB HB12.out hbel
  by_cases hlt:k < x.links.length
  ·as_aux_lemma=>
    obtain ⟨m,m_b,m_o,m_k,m_d,m_m,rfl,m_l,m_S,m_0,m_1,m_2,m_R,m_epoch_ok,_,m_seq_ok⟩:=zAa SA6.out hlt (zH BB)
    obtain ⟨y,y_b,y_o,y_k,y_d,y_m,rfl,y_l,y_S,y_0,y_1,y_2,y_R,y_epoch_ok,_,y_seq_ok⟩:=zAa SB6.out hlt (zH BB)
    obtain rfl:m=y:=zsi (m_k.symm.trans y_k)
    have hk2:(k:Int) < (x.links.length:Int):=by omega
    clear m_k y_k m_d y_d m_R y_R
    go_wp2_with fail
    go_quiet (fail)
    go_wp2
    go_roundw
    case rel=>exact ⟨k+1,by omega,by go_num,yC hbel _⟩
    case measure=>simp [RowKit.intOf];omega
  obtain rfl:k=x.links.length:=by omega
  go_wp2
  go_ret
  exact ⟨rfl,zB HB12.out hbel⟩
 as_aux_lemma=>
  obtain ⟨m,m_b,m_o,_,_,m_k,m_d,m_m,rfl,m_l,m_S,m_0,m_1,m_R,m_name_le,_,_,_,m_versions_s⟩:=z2m SA4.out hlt (zH BB)
  obtain ⟨y,y_b,y_o,_,_,y_k,y_d,y_m,rfl,y_l,y_S,y_0,y_1,y_R,y_name_le,_,_,_,y_versions_s⟩:=z2m SB4.out hlt (zH BB)
  obtain rfl:m=y:=zsi (m_k.symm.trans y_k)
  have hk2:(k:Int) < (x.items.length:Int):=by omega
  have HM1:=zh m_versions_s
  have HM2:=zh y_versions_s
  have HBL:=zh hbel
  clear m_k y_k m_d y_d m_R y_R m_versions_s y_versions_s
  go_wp2_with fail
  go_quiet (fail)
  go_wp2
  generalize hwe:World.drewN _ _=wf
  have HWF:=zh (show Below wr.heap.size wr wf from by rw [<-hwe];exact yC zbr _)
  clear rr zz m_0 m_1 y_0 y_1 hwe
  obtain ⟨we,rfl⟩:∃we:World,we=wr:=⟨_,rfl⟩
  clear hbel BB
  go_loopw [15] (fun i wr=>∃n:Nat,n<=m.versions.length/\i= .int .i64 n/\Below we.heap.size we wr) (fun i _=>m.versions.length - (RowKit.intOf i).toNat)
  case atStart=>exact ⟨0,by omega,by go_num,HWF.out⟩
  obtain ⟨n,hn2,rfl,hb2⟩:=hrel
  by_cases hlt2:n < m.versions.length
  rotate_left
  ·obtain rfl:n=m.versions.length:=by omega
   go_wp2
   go_roundw
   case rel=>exact ⟨k+1,by omega,by go_num,zB HBL.out hb2⟩
   case measure=>simp [RowKit.intOf];omega
  as_aux_lemma=>
   obtain ⟨c,c_b,c_o,c_A3,c_c3,c_k,c_d,c_m,rfl,c_l,c_S,c_0,c_1,c_2,c_3,c_R,_,_,c_data_l,c_data_m,c_data_n,c_data_s⟩:=z3o HM1.out hlt2 (zH hb2)
   obtain ⟨z,z_b,z_o,z_A3,z_c3,z_k,z_d,z_m,rfl,z_l,z_S,z_0,z_1,z_2,z_3,z_R,_,_,z_data_l,z_data_m,z_data_n,z_data_s⟩:=z3o HM2.out hlt2 (zH hb2)
   obtain rfl:c=z:=zsi (c_k.symm.trans z_k)
   have hk3:(n:Int) < (m.versions.length:Int):=by omega
   have HD1:=zh (show Sl 1 yN S wr (.slice c_A3 c.data.length c_c3) c.data from ⟨c_A3,c_c3,rfl,c_data_l,by unfold maxLen;exact c_data_m,c_data_n,c_data_s⟩)
   have HD2:=zh (show Sl 1 yN S' wr (.slice z_A3 c.data.length z_c3) c.data from ⟨z_A3,z_c3,rfl,z_data_l,by unfold maxLen;exact z_data_m,z_data_n,z_data_s⟩)
   clear c_k z_k c_d z_d c_R z_R c_data_s z_data_s
   go_upto_region 32 with fail
   have HSQ:=zh (show ∀W':World,Below wr.heap.size wr W'->(fun W':World=>Below wr.heap.size wr W'/\W'.cell? ⟨c_b,c_o+n*4,none⟩=some (.int .i64 c.epoch)/\W'.cell? ⟨c_b,c_o+n*4+1,none⟩=some (.bool c.gone)/\W'.cell? ⟨c_b,c_o+n*4+2,none⟩=some (.string c.who)/\W'.cell? ⟨c_b,c_o+n*4+3,none⟩=some (.slice c_A3 c.data.length c_c3)/\W'.cell? ⟨z_b,z_o+n*4,none⟩=some (.int .i64 c.epoch)/\W'.cell? ⟨z_b,z_o+n*4+1,none⟩=some (.bool c.gone)/\W'.cell? ⟨z_b,z_o+n*4+2,none⟩=some (.string c.who)/\W'.cell? ⟨z_b,z_o+n*4+3,none⟩=some (.slice z_A3 c.data.length z_c3)) W' from fun W' hW=>⟨hW,(hW.cell (p:=⟨c_b,c_o+n*4,none⟩) (zF c_0)).trans c_0,(hW.cell (p:=⟨c_b,c_o+n*4+1,none⟩) (zF c_1)).trans c_1,(hW.cell (p:=⟨c_b,c_o+n*4+2,none⟩) (zF c_2)).trans c_2,(hW.cell (p:=⟨c_b,c_o+n*4+3,none⟩) (zF c_3)).trans c_3,(hW.cell (p:=⟨z_b,z_o+n*4,none⟩) (zF z_0)).trans z_0,(hW.cell (p:=⟨z_b,z_o+n*4+1,none⟩) (zF z_1)).trans z_1,(hW.cell (p:=⟨z_b,z_o+n*4+2,none⟩) (zF z_2)).trans z_2,(hW.cell (p:=⟨z_b,z_o+n*4+3,none⟩) (zF z_3)).trans z_3⟩)
   refine wp_region_held_drew (S:=fun W':World=>Below wr.heap.size wr W'/\W'.cell? ⟨c_b,c_o+n*4,none⟩=some (.int .i64 c.epoch)/\W'.cell? ⟨c_b,c_o+n*4+1,none⟩=some (.bool c.gone)/\W'.cell? ⟨c_b,c_o+n*4+2,none⟩=some (.string c.who)/\W'.cell? ⟨c_b,c_o+n*4+3,none⟩=some (.slice c_A3 c.data.length c_c3)/\W'.cell? ⟨z_b,z_o+n*4,none⟩=some (.int .i64 c.epoch)/\W'.cell? ⟨z_b,z_o+n*4+1,none⟩=some (.bool c.gone)/\W'.cell? ⟨z_b,z_o+n*4+2,none⟩=some (.string c.who)/\W'.cell? ⟨z_b,z_o+n*4+3,none⟩=some (.slice z_A3 c.data.length z_c3)) (by as_aux_lemma=>kernel_rfl) (HSQ.out _ zbr.drew) (fun hHeld=>?_)
   refine zi 0 ?_
   iterate 48 (refine zt _ rfl (by as_aux_lemma=>kernel_rfl) rfl (fun _ _ _ h=>h) hHeld (by intro W' h;go_simp;try with_reducible rfl) ?_;simp only [zA])
   refine zo ?_
   refine wpAnyH_ready (rs:=[48]) (by as_aux_lemma=>kernel_rfl) (by simp) ?_
   refine AllReadyH.cons rfl (fun K hK=>?_) AllReadyH.nil
   go_simp
   go_at_call 30
   refine zcm (zFy c.data _ _ _ S S' (HD1.out.keep rByte_ok (by decide) (zH (zbr.drew))) (HD2.out.keep rByte_ok (by decide) (zH (zbr.drew)))) ?_
   rintro e3 v5 ⟨rfl,b3⟩
   have Bv5:Below wr.heap.size wr v5:=zB (zbr.drew) b3
   clear b3 hHeld
   refine hK.out _ _ (HSQ.out _ Bv5) (fun hHeld=>?_)
   clear hK K
   refine zi 49 ?_
   iterate 2 (refine zt _ rfl (by as_aux_lemma=>kernel_rfl) rfl (fun _ _ _ h=>h) hHeld (by intro W' h;go_simp;try with_reducible rfl) ?_;simp only [zA])
   refine zo ?_
   have HB5:=zh (hb2.trans (Bv5.mono hb2.size))
   refine wpAnyH_done (by as_aux_lemma=>kernel_rfl) ?_ _
   clear hHeld HSQ
   clear Bv5
   go_wp2
   go_roundw
   case rel=>exact ⟨n+1,by omega,by go_num,HB5.out⟩
   case measure=>simp [RowKit.intOf];omega
end
end Go.Proofs.YtdggplhnfhcieaaGreatDoor
