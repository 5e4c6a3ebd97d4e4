/- Part 9 of the proof of vaultStays_holds. No condition. -/
import Derived.Deep.DeepMust
import Derived.Test.YtdggplhnfhcieaaGreatDoorZ04
import Derived.Test.YtdggplhnfhcieaaGreatDoorZ08
set_option linter.unusedVariables false
set_option linter.unusedSimpArgs false
set_option linter.unusedSectionVars false
set_option maxRecDepth 100000
section
namespace Go.Proofs.YtdggplhnfhcieaaGreatDoor.Ro
open Go.RowKit Go.Deep
def eqS (a b:ByteArray):Bool:=a.toList==b.toList
def z3a {α:Type} (p:α->Bool):List α->Nat->Int
 | [],_=> -1
 | x :: l,k=>if p x then k else z3a p l (k+1)
theorem zG7 (name:ByteArray) (B:Nat) (x:Member) (cs:List Value) (w:World) (S:Nat->Prop) (h:zV S w cs x) (hB:w.cell? ⟨B,0,none⟩=some (.string name)):
  Calls Tryz.prog 193 #[.agg cs.toArray,.pointer (some ⟨B,0,none⟩)] w fun e w'=>e= .returned (.bool (eqS x.name name))/\Below w.heap.size w w':=by
 obtain ⟨rfl,_,_⟩:=z33 h
 have hBl:=zF hB
 go_enter Tryz.func193,Tryz.ntmps193
 go_wp2
 go_ret
 exact ⟨rfl,by go_grown⟩
theorem zK9 (name:ByteArray) (B:Nat) (l:List Member) (v:Value) (w:World) (S:Nat->Prop) (h:Sl 2 zV S w v l) (hB:w.cell? ⟨B,0,none⟩=some (.string name)):
  Calls Tryz.prog 192 #[v,.func (.func 193) #[] #[.pointer (some ⟨B,0,none⟩)]] w fun e w'=>e= .returned (.int .i64 (z3a (fun m=>eqS m.name name) l 0))/\Below w.heap.size w w':=by
 have HB:=zh hB
 clear hB
 obtain ⟨_,_,rfl,_,hc,_,hs⟩:=h
 unfold maxLen at hc
 go_enter Tryz.func192,Tryz.ntmps192
 go_wp2
 go_loopw [8] (fun i wr=>∃(k:Nat),k<=l.length/\i= .int .i64 k/\z3a (fun m=>eqS m.name name) (l.drop k) k=z3a (fun m=>eqS m.name name) l 0/\Below w.heap.size w wr) (fun i _=>l.length - (intOf i).toNat)
 case atStart=>exact ⟨0,by omega,by go_num,by simp,by go_grown⟩
 case round=>
  obtain ⟨k,_,rfl,E,hbel⟩:=hrel
  have hz:=hbel.size
  by_cases hlt:k < l.length
  ·obtain ⟨x,_,_,x_k,x_d,_,rfl,_,_,_,_,x_R,_,_⟩:=Y4 hs hlt (zJ hbel)
   rw [x_d,z3a] at E
   have E2:=zh E
   clear x_k x_d E
   go_wp2_with fail
   refine Calls.mono (zG7 name B x _ _ S x_R ((hbel.cell (p:=⟨B,0,none⟩) (zF HB.out)).trans HB.out)) ?_
   rintro e _ ⟨rfl,hb1⟩
   cases hpx:eqS x.name name
   ·have EH:=zh (show z3a (fun m=>eqS m.name name) (l.drop (k+1)) (k+1)=z3a (fun m=>eqS m.name name) l 0 by rw [<-E2.out,hpx];rfl)
    clear E2
    go_wp2
    go_roundw
    case rel=>exact ⟨k+1,by omega,by go_num,EH.out,zB hbel hb1⟩
    case measure=>simp [intOf];omega
   ·have EH:=zh (show (k:Int)=z3a (fun m=>eqS m.name name) l 0 by rw [<-E2.out,hpx];rfl)
    clear E2
    go_wp2
    go_ret
    exact ⟨by rw [<-EH.out];rfl,zB hbel hb1⟩
  ·obtain rfl:k=l.length:=by omega
   rw [List.drop_length] at E
   have EH:=zh E
   clear E
   go_wp2
   go_ret
   exact ⟨by rw [<-EH.out];rfl,hbel⟩
def z1f (l:List Member) (name:ByteArray):Int:=z3a (fun m=>eqS m.name name) l 0
theorem zEl:∀(fn:Fn) (first cap:Array Value) (w:World),(Instr.makeFunc fn first cap).run Tryz.prog w= .ok (.func fn first cap) w:=fun _ _ _ _=>rfl
theorem z35 (name:ByteArray) (l:List Member) (v:Value) (w:World) (S:Nat->Prop) (h:Sl 2 zV S w v l):
  Calls Tryz.prog 170 #[v,.string name] w fun e w'=>e= .returned (.int .i64 (z1f l name))/\Below w.heap.size w w':=by
 have hmf:=zEl
 obtain ⟨_,_,cw0,_,Bw0,_⟩:=zQ w #[.string name] 9
 have w0_0:=cw0 0 _ rfl
 have H:=zh h
 clear h cw0
 go_enter Tryz.func170,Tryz.ntmps170
 go_wp2_with fail
 refine Calls.mono (zK9 name w.heap.size l v _ S (H.out.keep Z8 (by decide) (zJ Bw0)) w0_0) ?_
 rintro e _ ⟨rfl,hb1⟩
 go_wp2
 go_ret
 exact ⟨rfl,zB Bw0 hb1⟩
def ofOf:List Member->ByteArray->Int
 | [],_=>0
 | m :: l,name=>if eqS m.name name then m.role else ofOf l name
theorem atOf_cases (name:ByteArray):∀(l:List Member) (k:Nat),(z3a (fun m=>eqS m.name name) l k= -1/\ofOf l name=0)\/∃(i:Nat) (m:Member),z3a (fun m=>eqS m.name name) l k=((k+i:Nat):Int)/\l[i]? =some m/\ofOf l name=m.role/\eqS m.name name=true
 | [],k=> .inl ⟨rfl,rfl⟩
 | m :: l,k=>by
  rw [z3a,ofOf]
  cases hm:eqS m.name name
  ·rcases atOf_cases name l (k+1) with ⟨h1,h2⟩ | ⟨i,m',h1,h2,h3,h4⟩
   ·exact .inl ⟨by simpa [hm] using h1,by simpa [hm] using h2⟩
   ·exact .inr ⟨i+1,m',by simp only [Bool.false_eq_true,if_false];rw [h1];congr 1;omega,by simpa using h2,by simpa [hm] using h3,h4⟩
  ·exact .inr ⟨0,m,by simp,by simp,by simp,hm⟩
theorem of_any (name:ByteArray) (l:List Member) (v:Value) (w:World) (S:Nat->Prop) (h:Sl 2 zV S w v l):
  Calls Tryz.prog 157 #[v,.string name] w fun e w'=>e= .returned (.int .i64 (ofOf l name))/\Below w.heap.size w w':=by
 have H:=zh h
 rcases atOf_cases name l 0 with ⟨h1,h2⟩ | ⟨i,m,h1,h2,h3,_⟩
 ·have K1:=zh (show z1f l name= -1 from h1)
  have K2:=zh h2
  clear h h1 h2
  go_enter Tryz.func157,Tryz.ntmps157
  go_wp2_with fail
  refine Calls.mono (z35 name l v _ S H.out) ?_
  rintro e w1 ⟨rfl,hb1⟩
  rw [K1.out]
  go_wp2
  go_ret
  exact ⟨by rw [K2.out];rfl,hb1⟩
 ·obtain ⟨_,_,rfl,_,hc,_,hs⟩:=h
  unfold maxLen at hc
  have hil:i < l.length:=(List.getElem?_eq_some_iff.1 h2).1
  have K1:=zh (show z1f l name=(i:Int) by rw [z1f,h1];simp)
  have K2:=zh h3
  have K3:=zh h2
  clear h1 h2 h3
  go_enter Tryz.func157,Tryz.ntmps157
  go_wp2_with fail
  refine Calls.mono (z35 name l _ _ S H.out) ?_
  rintro e w1 ⟨rfl,hb1⟩
  rw [K1.out]
  obtain ⟨x,_,_,x_k,x_d,_,rfl,_,_,_,_,_,_,_⟩:=Y4 hs hil (zJ hb1)
  have ex:x=m:=Option.some.inj (x_k.symm.trans K3.out)
  subst ex
  clear x_k x_d
  go_wp2
  go_ret
  exact ⟨by rw [K2.out];rfl,hb1⟩
end Go.Proofs.YtdggplhnfhcieaaGreatDoor.Ro
end
namespace Go.Proofs.YtdggplhnfhcieaaGreatDoor
section
open Go.RowKit Go.Deep
theorem z0q {s:ByteArray} (h:s≠⟨#[]⟩):s.toList.isEmpty=false:=by
 cases hs:s.toList with
 | nil=>
  refine absurd ?_ h
  obtain ⟨⟨l⟩⟩:=s
  rw [Lib.toList_data] at hs
  have h2:l=[]:=hs
  subst h2
  rfl
 | cons a l=>rfl
theorem zMv (s:ByteArray) (hs:s.size<=140737488355328) (b:Bool) (w:World):Calls Tryz.prog 52 #[.string s,.bool b] w fun e w'=>e= .returned (.bool (txt ZD s b))/\w=w':=by
 cases b with
 | true=>
  have HN:=zh (z6s s hs w)
  go_enter Tryz.func52,Tryz.ntmps52
  go_wp2_with (go_at_call 51;refine Calls.mono HN.out ?_;rintro e _ ⟨rfl,rfl⟩)
  go_ret
  exact ⟨rfl,rfl⟩
 | false=>
  by_cases he:s=⟨#[]⟩
  ·subst he
   go_enter Tryz.func52,Tryz.ntmps52
   go_wp2
   go_ret
   exact ⟨rfl,rfl⟩
  ·have HE:=zh (show txt ZD s false=false by unfold txt z1b;simp [he])
   have hse:s.toList.isEmpty=false:=z0q he
   clear he
   go_enter Tryz.func52,Tryz.ntmps52
   go_wp2
   go_ret
   exact ⟨by rw [HE.out];rfl,rfl⟩
theorem zIw (n a b:Int) (h:Bool) (w:World):Calls Tryz.prog 53 #[.int .i64 n,.int .i64 a,.int .i64 b,.bool h] w fun e w'=>e= .returned (.bool (num n a b h))/\w=w':=by
 cases h with
 | true=>
  by_cases h1:a<=n
  ·by_cases h2:n<=b
   ·have HE:=zh (show num n a b true=true by unfold num;simp [h1,h2])
    have d1:decide (a<=n)=true:=decide_eq_true h1
    have d2:decide (n<=b)=true:=decide_eq_true h2
    clear h1 h2
    go_enter Tryz.func53,Tryz.ntmps53
    go_wp2
    go_ret
    exact ⟨by rw [HE.out];rfl,rfl⟩
   ·have HE:=zh (show num n a b true=false by unfold num;simp [h1,h2])
    have d1:decide (a<=n)=true:=decide_eq_true h1
    have d2:decide (n<=b)=false:=decide_eq_false h2
    clear h1 h2
    go_enter Tryz.func53,Tryz.ntmps53
    go_wp2
    go_ret
    exact ⟨by rw [HE.out];rfl,rfl⟩
  ·have HE:=zh (show num n a b true=false by unfold num;simp [h1])
   have d1:decide (a<=n)=false:=decide_eq_false h1
   clear h1
   go_enter Tryz.func53,Tryz.ntmps53
   go_wp2
   go_ret
   exact ⟨by rw [HE.out];rfl,rfl⟩
 | false=>
  by_cases h1:n=0
  ·subst h1
   go_enter Tryz.func53,Tryz.ntmps53
   go_wp2
   go_ret
   exact ⟨rfl,rfl⟩
  ·have HE:=zh (show num n a b false=false by unfold num;simp [h1])
   have d1:(n==0)=false:=beq_eq_false_iff_ne.2 h1
   clear h1
   go_enter Tryz.func53,Tryz.ntmps53
   go_wp2
   go_ret
   exact ⟨by rw [HE.out];rfl,rfl⟩
end
section
open Go.RowKit Go.Deep
structure CopyOk (st:State):Prop where
 us:st.users.length<=10000
 de:st.deposits.length<=10000
 fo:st.folders.length<=10000
 fl:∀f∈st.folders,f.manifests.length<=10000/\f.epochs.length<=10000/\f.items.length<=10000/\f.wraps.length<=10000/\f.links.length<=10000
 ma:∀f∈st.folders,∀m∈f.manifests,m.members.length<=10000
 ep:∀f∈st.folders,∀e∈f.epochs,e.chain.length<=10000
 it:∀f∈st.folders,∀x∈f.items,x.versions.length<=10000/\∀v∈x.versions,v.data.length<=10000
def zP9 (w:World) (S:Nat->Prop) (st:State) (e:Ending) (w':World):Prop:=
 ∃R,e= .returned (.agg #[.int .i64 st.turn,(R .us).v,(R .de).v,(R .fo).v])/\Below w.heap.size w w'/\OS w.heap.size w' R/\IsSt (fun b=>b < w'.heap.size/\¬yU R b/\(b < w.heap.size->S b)) w' R st
def XC (S:Nat->Prop) (w:World):Nat->Prop:=fun b=>b=w.heap.size+1\/(b < w.heap.size/\¬S b)
theorem Kept.refl' {S S':Nat->Prop} {w:World} (h:∀b,S b->S' b):Kept S S' w w:=fun b hb _=>⟨h b hb,rfl⟩
section
variable {X:Nat->Prop} {bc base:Nat} {W W':World} {R R':RM} {st:State} {md:Nat->Option Nat} {p q:Nat} {f:Folder}
theorem z2i {w:World} {b i j:Nat} {u v:Value} (h:w.cell? ⟨b,j,none⟩=some v) (hij:j≠i):(w.setCell ⟨b,i,none⟩ u).cell? ⟨b,j,none⟩=some v:=by
 rw [World.cell?_setCell_other _ _ _ _ (fun e=>hij (by have:=congrArg Addr.off e;first | exact this | exact this.symm))]
 exact h
theorem CP.start {S:Nat->Prop} {w w1 w2 w3 w4 w5:World} {v1 v2 v3:Value} {c1 c2 c3:List (List Value)} (hz:w1.heap.size=w.heap.size+2)
  (B2:Below w1.heap.size w1 w2) (r1:RowC 91 2 w2 v1 c1) (a1:All2 (YS (fun b=>b < w.heap.size/\S b) w2) c1 st.users) (l1:∀b,v1.ownBlock=some b->w1.heap.size<=b)
  (B3:Below w2.heap.size w2 w3) (r2:RowC 126 2 w3 v2 c2) (a2:All2 (YN (fun b=>b < w.heap.size/\S b) w3) c2 st.deposits) (l2:∀b,v2.ownBlock=some b->w2.heap.size<=b)
  (B4:Below w3.heap.size w3 w4) (r3:RowC 74 7 w4 v3 c3) (a3:All2 (ZE (fun b=>b < w.heap.size/\S b) w4) c3 st.folders) (l3:∀b,v3.ownBlock=some b->w3.heap.size<=b)
  (ok:CopyOk st) (e5:w5=((w4.setCell ⟨w.heap.size,1,none⟩ v1).setCell ⟨w.heap.size,2,none⟩ v2).setCell ⟨w.heap.size,3,none⟩ v3):
  ∃R,CP (XC S w) w.heap.size w.heap.size w5 R st (fun _=>none)/\(R .us).v=v1/\(R .de).v=v2/\(R .fo).v=v3:=by
 have s0:ST w.heap.size w.heap.size w1 (fun _=>⟨.slice none 0 0,[]⟩) w1 (fun _=>⟨.slice none 0 0,[]⟩):=⟨⟨fun k=>RowC.nil _,fun _ _ _ h=>(by cases h),fun _ _ h=>(by cases h),fun _=>(by simp)⟩,Mut.refl _ _ _,by omega⟩
 have s1:=s0.row B2 .us ⟨v1,c1⟩ r1 (by rw [a1.1];exact ok.us) l1
 have s2:=s1.row B3 .de ⟨v2,c2⟩ r2 (by rw [a2.1];exact ok.de) l2
 have s3:=s2.row B4 .fo ⟨v3,c3⟩ r3 (by rw [a3.1];exact ok.fo) l3
 generalize hR:zK _ _ _=R at s3
 have q1:R .us=⟨v1,c1⟩/\R .de=⟨v2,c2⟩/\R .fo=⟨v3,c3⟩:=by rw [<-hR];simp [zK]
 clear hR
 have z2:=B2.size
 have z3:=B3.size
 have z4:=B4.size
 have hnr:∀b,yU R b->w.heap.size+2<=b:=fun b hb=>(s3.m.fresh b hb).elim (fun ⟨k,e⟩=>by cases e) fun h=>by omega
 have hz5:w5.heap.size=w4.heap.size:=by rw [e5];simp
 have h5:∀b,b≠w.heap.size->w5.heap[b]? =w4.heap[b]? :=fun b hb=>by rw [e5,Below.heap_setCell _ _ _ _ hb,Below.heap_setCell _ _ _ _ hb,Below.heap_setCell _ _ _ _ hb]
 have kp:∀w',(∀b,b < w.heap.size->w4.heap[b]? =w'.heap[b]?)->Kept (fun b=>b < w.heap.size/\S b) (Imm (XC S w) w.heap.size R w5) w' w5:=fun w' hw b hb _=>by
  obtain ⟨hb',hs⟩:=hb
  exact ⟨⟨by omega,by omega,fun e=>by have:=hnr b e;omega,fun e=>e.elim (fun e=>by omega) fun e=>e.2 hs⟩,(h5 b (by omega)).trans (hw b hb')⟩
 have hB3:=zB B3 B4
 refine ⟨R,⟨s3.os.to fun b hb=>h5 b (by have:=hnr b hb;omega),fun e=>by have:=hnr _ e;omega,by omega,Nat.le_refl _,fun b e hx=>?_,fun b hx=>hx.elim (fun e=>by omega) fun e=>by have:=e.1;omega,?_,?_,?_,fun i f hf=>?_⟩,by rw [q1.1],by rw [q1.2.1],by rw [q1.2.2]⟩
 ·rcases e with e | e
  ·have:=hnr b e
   exact hx.elim (fun e=>by omega) fun e=>by have:=e.1;omega
  ·exact hx.elim (fun e=>by omega) fun e=>by have:=e.1;omega
 ·rw [q1.1]
  exact a1.imp fun _ _ e=>z1h e (kp w2 fun b hb=>hB3.block b (by omega))
 ·rw [q1.2.1]
  exact a2.imp fun _ _ e=>z1y e (kp w3 fun b hb=>B4.block b (by omega))
 ·rw [q1.2.2]
  exact a3.1
 ·obtain ⟨x,hx,hr⟩:=a3.at hf
  rw [q1.2.2]
  exact ⟨x,hx,ZC hr (kp w4 fun b _=>rfl)⟩
theorem CP.foAt (h:CP X bc base W R st md) (hf:st.folders[p]? =some f):∃a off cp,(R .fo).v= .slice (some ⟨a,off,none⟩) st.folders.length cp/\st.folders.length<=cp/\cp<=9223372036854775807/\a < W.heap.size/\a≠bc/\base<=a/\(∀q,W.frozen? ⟨a,q,none⟩=false)/\∀x,(R .fo).cells[p]? =some x->∀j u,x[j]? =some u->W.cell? ⟨a,off+p*7+j,none⟩=some u:=by
 obtain ⟨x,hx⟩:∃x,(R .fo).cells[p]? =some x:=⟨_,List.getElem?_eq_getElem (by rw [h.fol];exact (List.getElem?_eq_some_iff.1 hf).1)⟩
 obtain ⟨a,off,cp,e,l,m,g,hc,hz⟩:=(h.os.row .fo).at hx
 rw [h.fol] at e l
 unfold maxLen at m
 exact ⟨a,off,cp,e,l,m,g,fun e2=>h.nb ⟨.fo,by rw [e,<-e2];rfl⟩,h.os.low .fo a (by rw [e];rfl),hz,fun y hy=>by rw [hx] at hy;obtain rfl:=Option.some.inj hy;exact hc⟩
theorem CP.old (h:CP X bc base W R st md) (hf:st.folders[p]? =some f) (hp:md p=none):∃B2 d2 B3 d3 B4 d4 B5 d5 B6 d6,(R .fo).cells[p]? =some [.string f.name,.int .i64 f.turn,.slice B2 f.manifests.length d2,.slice B3 f.epochs.length d3,.slice B4 f.items.length d4,.slice B5 f.wraps.length d5,.slice B6 f.links.length d6]/\f.name.size<=140737488355328/\I64 f.turn/\
  Sl 8 ZQ (Imm X bc R W) W (.slice B2 f.manifests.length d2) f.manifests/\Sl 5 Y5 (Imm X bc R W) W (.slice B3 f.epochs.length d3) f.epochs/\Sl 2 yW (Imm X bc R W) W (.slice B4 f.items.length d4) f.items/\Sl 3 Y1 (Imm X bc R W) W (.slice B5 f.wraps.length d5) f.wraps/\Sl 3 YK (Imm X bc R W) W (.slice B6 f.links.length d6) f.links:=by
 have hq:=h.fo p f hf
 rw [hp] at hq
 obtain ⟨_,hcs,_,_,_,_,_,rfl,hn,ht,s2,s3,s4,s5,s6⟩:=hq
 obtain ⟨B2,d2,rfl,_⟩:=id s2
 obtain ⟨B3,d3,rfl,_⟩:=id s3
 obtain ⟨B4,d4,rfl,_⟩:=id s4
 obtain ⟨B5,d5,rfl,_⟩:=id s5
 obtain ⟨B6,d6,rfl,_⟩:=id s6
 exact ⟨_,_,_,_,_,_,_,_,_,_,hcs,hn,ht,s2,s3,s4,s5,s6⟩
theorem CP.hdrAt (h:CP X bc base W R st md) (hf:st.folders[p]? =some f) (hp:md p=some q):∃D2 e2 D3 e3 D4 e4 u5 u6,(R .fo).cells[p]? =some [.string f.name,.int .i64 f.turn,.slice D2 f.manifests.length e2,.slice D3 f.epochs.length e3,.slice D4 f.items.length e4,u5,u6]/\(R (.ma p)).v= .slice D2 f.manifests.length e2/\(R (.ep p)).v= .slice D3 f.epochs.length e3/\(R (.it p)).v= .slice D4 f.items.length e4:=by
 have hq:=h.fo p f hf
 rw [hp] at hq
 obtain ⟨hc,hF⟩:=hq
 obtain ⟨D2,e2,k2,_⟩:=(h.os.row (.ma p)).shape
 obtain ⟨D3,e3,k3,_⟩:=(h.os.row (.ep p)).shape
 obtain ⟨D4,e4,k4,_⟩:=(h.os.row (.it p)).shape
 rw [hF.man.1] at k2
 rw [hF.ep.1] at k3
 rw [hF.itl] at k4
 unfold hdr at hc
 rw [k2,k3,k4] at hc
 exact ⟨_,_,_,_,_,_,_,_,hc,k2,k3,k4⟩
theorem CP.maAt (h:CP X bc base W R st md) (hf:st.folders[p]? =some f) (hp:md p=some q) {k:Nat} {m:Manifest} (hm:f.manifests[k]? =some m):∃g o c A d,(R (.ma p)).v= .slice (some ⟨g,o,none⟩) f.manifests.length c/\f.manifests.length<=c/\c<=9223372036854775807/\W.cell? ⟨g,o+k*8+4,none⟩=some (.slice A m.members.length d)/\(∀q,W.frozen? ⟨g,q,none⟩=false)/\Sl 2 zV (Imm X bc R W) W (.slice A m.members.length d) m.members:=by
 have hq:=h.fo p f hf
 rw [hp] at hq
 obtain ⟨_,hx,hr⟩:=hq.2.man.at hm
 obtain ⟨g,o,c,e,l,mx,_,hc,hz⟩:=(h.os.row (.ma p)).at hx
 rw [hq.2.man.1] at e l
 unfold maxLen at mx
 obtain ⟨_,_,rfl,_,_,_,_,s4,_⟩:=hr
 obtain ⟨A,d,rfl,_⟩:=id s4
 exact ⟨g,o,c,A,d,e,l,mx,hc 4 _ rfl,hz,s4⟩
theorem CP.epAt (h:CP X bc base W R st md) (hf:st.folders[p]? =some f) (hp:md p=some q) {k:Nat} {m:Epoch} (hm:f.epochs[k]? =some m):∃g o c A d,(R (.ep p)).v= .slice (some ⟨g,o,none⟩) f.epochs.length c/\f.epochs.length<=c/\c<=9223372036854775807/\W.cell? ⟨g,o+k*5+3,none⟩=some (.slice A m.chain.length d)/\(∀q,W.frozen? ⟨g,q,none⟩=false)/\Sl 2 rAt (Imm X bc R W) W (.slice A m.chain.length d) m.chain:=by
 have hq:=h.fo p f hf
 rw [hp] at hq
 obtain ⟨_,hx,hr⟩:=hq.2.ep.at hm
 obtain ⟨g,o,c,e,l,mx,_,hc,hz⟩:=(h.os.row (.ep p)).at hx
 rw [hq.2.ep.1] at e l
 unfold maxLen at mx
 obtain ⟨_,rfl,_,_,_,s3,_⟩:=hr
 obtain ⟨A,d,rfl,_⟩:=id s3
 exact ⟨g,o,c,A,d,e,l,mx,hc 3 _ rfl,hz,s3⟩
theorem CP.itOld (h:CP X bc base W R st md) (hf:st.folders[p]? =some f) {j:Nat} (hp:md p=some j) {x:Item} (hx:f.items[j]? =some x):∃g o c A d,(R (.it p)).v= .slice (some ⟨g,o,none⟩) f.items.length c/\f.items.length<=c/\c<=9223372036854775807/\W.cell? ⟨g,o+j*2+1,none⟩=some (.slice A x.versions.length d)/\(∀q,W.frozen? ⟨g,q,none⟩=false)/\Sl 4 yC (Imm X bc R W) W (.slice A x.versions.length d) x.versions:=by
 have hq:=h.fo p f hf
 rw [hp] at hq
 have hi:=hq.2.it j x hx
 rw [if_neg (by omega)] at hi
 obtain ⟨_,hcs,_,rfl,_,s1⟩:=hi
 obtain ⟨g,o,c,e,l,mx,_,hc,hz⟩:=(h.os.row (.it p)).at hcs
 rw [hq.2.itl] at e l
 unfold maxLen at mx
 obtain ⟨A,d,rfl,_⟩:=id s1
 exact ⟨g,o,c,A,d,e,l,mx,hc 1 _ rfl,hz,s1⟩
theorem CP.itNew (h:CP X bc base W R st md) (hf:st.folders[p]? =some f) {j:Nat} (hp:md p=some q) (hj:j < q) {x:Item} (hx:f.items[j]? =some x):∃g o c A d,(R (.it p)).v= .slice (some ⟨g,o,none⟩) f.items.length c/\f.items.length<=c/\c<=9223372036854775807/\W.cell? ⟨g,o+j*2+1,none⟩=some (.slice A x.versions.length d)/\(R (.ve p j)).v= .slice A x.versions.length d:=by
 have hq:=h.fo p f hf
 rw [hp] at hq
 have hi:=hq.2.it j x hx
 rw [if_pos hj] at hi
 obtain ⟨hcs,_,ha⟩:=hi
 obtain ⟨g,o,c,e,l,mx,_,hc,_⟩:=(h.os.row (.it p)).at hcs
 rw [hq.2.itl] at e l
 unfold maxLen at mx
 obtain ⟨A,d,k,_⟩:=(h.os.row (.ve p j)).shape
 rw [ha.1] at k
 exact ⟨g,o,c,A,d,e,l,mx,by rw [<-k];exact hc 1 _ rfl,k⟩
theorem CP.veAt (h:CP X bc base W R st md) (hf:st.folders[p]? =some f) {j:Nat} (hp:md p=some q) (hj:j < q) {x:Item} (hx:f.items[j]? =some x) {k:Nat} {v:Version} (hv:x.versions[k]? =some v):∃g o c A d,(R (.ve p j)).v= .slice (some ⟨g,o,none⟩) x.versions.length c/\x.versions.length<=c/\c<=9223372036854775807/\W.cell? ⟨g,o+k*4+3,none⟩=some (.slice A v.data.length d)/\(∀q,W.frozen? ⟨g,q,none⟩=false)/\Sl 1 yI (Imm X bc R W) W (.slice A v.data.length d) v.data:=by
 have hq:=h.fo p f hf
 rw [hp] at hq
 have hi:=hq.2.it j x hx
 rw [if_pos hj] at hi
 obtain ⟨_,_,ha⟩:=hi
 obtain ⟨_,hy,hr⟩:=ha.at hv
 obtain ⟨g,o,c,e,l,mx,_,hc,hz⟩:=(h.os.row (.ve p j)).at hy
 rw [ha.1] at e l
 unfold maxLen at mx
 obtain ⟨_,rfl,_,_,s3⟩:=hr
 obtain ⟨A,d,rfl,_⟩:=id s3
 exact ⟨g,o,c,A,d,e,l,mx,hc 3 _ rfl,hz,s3⟩
theorem CP.cellAt (h:CP X bc base W R st md) (hf:st.folders[p]? =some f) {a off n cp:Nat} (hv:(R .fo).v= .slice (some ⟨a,off,none⟩) n cp) {x:List Value} (hx:(R .fo).cells[p]? =some x):∀j u,x[j]? =some u->W.cell? ⟨a,off+p*7+j,none⟩=some u:=by
 obtain ⟨_,_,_,e,_,_,_,_,_,_,hc⟩:=h.foAt hf
 rw [hv] at e
 simp only [Value.slice.injEq,Option.some.injEq,Addr.mk.injEq,and_true] at e
 obtain ⟨⟨rfl,rfl⟩,_,_⟩:=e
 exact hc x hx
theorem CP.full (h:CP X bc base W R st md) (hf:st.folders[p]? =some f) (hp:md p=some q) (hq:f.items.length<=q) {q':Nat} (hq':f.items.length<=q'):CP X bc base W R st (fun i=>if i=p then some q' else md i):=
 ⟨h.os,h.nb,h.lt,h.bb,h.nx,h.xl,h.us,h.de,h.fol,fun i g hg=>by
  have hk:=h.fo i g hg
  by_cases hi:i=p
  ·subst hi
   rw [hf] at hg
   obtain rfl:=Option.some.inj hg
   rw [hp] at hk
   simp only [if_true]
   exact ⟨hk.1,hk.2.full hq hq'⟩
  ·simp only [hi,if_false]
   exact hk⟩
theorem z0r {w2 wr:World} {b g i:Nat} {u:Value} {o:Obj} (hB:Below wr.heap.size wr w2) (h:wr.heap[b]? =some o) (hb:b≠g):(w2.setCell ⟨g,i,none⟩ u).heap[b]? =some o:=by
 rw [Below.heap_setCell _ _ _ _ hb,hB.block b (by
  rcases Nat.lt_or_ge b wr.heap.size with hl | hl
  ·exact hl
  ·rw [Array.getElem?_eq_none hl] at h;cases h)]
 exact h
theorem zFh {w:World} {pb:Nat} {T:TypeId} {z0 z1 z2 z3:Value} (h:w.heap[pb]? =some (.cells #[z0,z1,z2,z3] T (0,0))) (a0 a1 a2 a3:Value):
  ((((w.setCell ⟨pb,0,none⟩ a0).setCell ⟨pb,1,none⟩ a1).setCell ⟨pb,2,none⟩ a2).setCell ⟨pb,3,none⟩ a3).heap[pb]? =some (.cells #[a0,a1,a2,a3] T (0,0))/\∀b,b≠pb->((((w.setCell ⟨pb,0,none⟩ a0).setCell ⟨pb,1,none⟩ a1).setCell ⟨pb,2,none⟩ a2).setCell ⟨pb,3,none⟩ a3).heap[b]? =w.heap[b]? :=by
 have h0:=zI (i:=0) (cs':=#[a0,z1,z2,z3]) a0 h rfl
 have h1:=zI (i:=1) (cs':=#[a0,a1,z2,z3]) a1 h0 rfl
 have h2:=zI (i:=2) (cs':=#[a0,a1,a2,z3]) a2 h1 rfl
 have h3:=zI (i:=3) (cs':=#[a0,a1,a2,a3]) a3 h2 rfl
 exact ⟨h3,fun b hb=>by rw [Below.heap_setCell _ _ _ _ hb,Below.heap_setCell _ _ _ _ hb,Below.heap_setCell _ _ _ _ hb,Below.heap_setCell _ _ _ _ hb]⟩
theorem z86 {α:Type} {Q:Rp α} {sz:Nat} {e:TypeId} (okQ:RpOk sz Q) {S0:Nat->Prop} {v:Value} {cells:List (List Value)} {l:List α} (h:CP X bc base W R st md) (hB:Below W.heap.size W W') (hr:RowC e sz W' v cells) (hl:l.length<=10000) (ha:All2 (Q S0 W') cells l) (hQ:∀S cs x,Q S0 W' cs x->Q S W' cs x) (hlow:∀b,v.ownBlock=some b->W.heap.size<=b):
  Sl sz Q (fun b=>b < W'.heap.size/\b≠bc/\¬yU R b/\¬X b) W' v l:=
 z0o okQ hr (by rw [ha.1];exact hl) (ha.imp fun _ _ e=>hQ _ _ _ e) fun b hb=>⟨hr.lt b hb,fun e=>by have:=hlow b hb;have:=h.lt;omega,fun e=>by have:=hlow b hb;have:=h.os.lt e;omega,fun e=>by have:=hlow b hb;have:=h.xl b e;omega⟩
theorem IsSt.stateS {S:Nat->Prop} (o:OS base W R) (h:IsSt S W R st):yF (fun b=>yU R b\/S b) W [.int .i64 st.turn,(R .us).v,(R .de).v,(R .fo).v] st:=by
 have h':=h.keep (S':=fun b=>yU R b\/S b) (Kept.refl' fun _ h=> .inr h)
 have hr:∀k b,(R k).v.ownBlock=some b->yU R b\/S b:=fun k b e=> .inl ⟨k,e⟩
 refine ⟨_,_,_,rfl,h'.turn,z0o z1x (o.row .us) (o.len _) h'.users (hr .us),z0o z13 (o.row .de) (o.len _) h'.deps (hr .de),?_⟩
 refine z0o z0b (o.row .fo) (o.len _) ⟨h'.fol,fun j cs x hc hx=>?_⟩ (hr .fo)
 obtain ⟨h1,h2⟩:=h'.fo j x hx
 rw [h1] at hc
 obtain rfl:=Option.some.inj hc
 refine ⟨_,_,_,_,_,rfl,h2.name,h2.turn,z0o z14 (o.row (.ma j)) (o.len _) h2.man (hr _),z0o z2m (o.row (.ep j)) (o.len _) h2.ep (hr _),?_,z0o z21 (o.row (.wr j)) (o.len _) h2.wr (hr _),z0o z23 (o.row (.li j)) (o.len _) h2.li (hr _)⟩
 refine z0o z1z (o.row (.it j)) (o.len _) ⟨h2.itl,fun i cs y hc hy=>?_⟩ (hr _)
 obtain ⟨g1,g2,g3⟩:=h2.it i y hy
 rw [g1] at hc
 obtain rfl:=Option.some.inj hc
 exact ⟨_,rfl,g2,z0o z2g (o.row (.ve j i)) (o.len _) g3 (hr _)⟩
end
end
section
open Go.RowKit Go.Deep
theorem zN3:∀k:Fin 17,∀m:Fin 65,m.val∈[1,2,4,8,16,32,64]->(bits BinOp.and IntKind.i64 ((YL k.val:Nat):Int) (m.val:Int) !=0)=z2j (k.val:Int) m.val:=by decide+kernel
def zPa (M:Bool) (w:World) (e:Ending) (w':World):Prop:=e= .returned (.bool M)/\Below w.heap.size w w'
def zFi (k:Int) (b1 b2 b4 b8 b16 b32 b64:Bool) (user folder name other:ByteArray) (role version n:Int):Bool:=
 txt ZD folder b1 && txt ZD name b2 && txt ZD other (b4 || b8 && !other.toList.isEmpty) && !(!b1 && (other.toList==user.toList)) && !(decide (k=2) && (other.toList==folder.toList)) && num role 1 4 b16 && num version 0 1099511627776 b32 && num n 0 512 b64
set_option maxHeartbeats 4000000 in
theorem zN4 (k:Nat) (hk:1<=k) (hk2:k<=16) (F:Nat) (hF:F<=67) (b1 b2 b4 b8 b16 b32 b64:Bool)
  (m1:(bits BinOp.and IntKind.i64 (F:Int) 1 !=0)=b1) (m2:(bits BinOp.and IntKind.i64 (F:Int) 2 !=0)=b2) (m4:(bits BinOp.and IntKind.i64 (F:Int) 4 !=0)=b4) (m8:(bits BinOp.and IntKind.i64 (F:Int) 8 !=0)=b8) (m16:(bits BinOp.and IntKind.i64 (F:Int) 16 !=0)=b16) (m32:(bits BinOp.and IntKind.i64 (F:Int) 32 !=0)=b32) (m64:(bits BinOp.and IntKind.i64 (F:Int) 64 !=0)=b64) (m1z:(bits BinOp.and IntKind.i64 (F:Int) 1==0)=!b1)
 (user folder name other:ByteArray) (role version:Int) (A:Option Addr) (n c:Nat) (hu:user.size<=140737488355328) (hf:folder.size<=140737488355328) (hnm:name.size<=140737488355328) (ho:other.size<=140737488355328) (hun:ZD user=true) (w:World) (h0:0 < w.heap.size) (hc:w.cell? ⟨0,k,none⟩=some (.int .i64 F)):
    Calls Tryz.prog 33 #[.agg #[.int .i64 k,.string user,.string folder,.string name,.string other,.int .i64 role,.int .i64 version,.slice A n c]] w (zPa (zFi k b1 b2 b4 b8 b16 b32 b64 user folder name other role version n) w):=by
  obtain ⟨M,hM⟩:∃M,zFi k b1 b2 b4 b8 b16 b32 b64 user folder name other role version n=M:=⟨_,rfl⟩
  rw [hM]
  have HM:=zh hM
  clear hM
  obtain ⟨w0,_,cw0,fw0,Bw0,_⟩:=zQ w #[.int .i64 k,.string user,.string folder,.string name,.string other,.int .i64 role,.int .i64 version,.slice A n c] 41
  have s0:=cw0 0 _ rfl
  have s1:=cw0 1 _ rfl
  have s2:=cw0 2 _ rfl
  have s3:=cw0 3 _ rfl
  have s4:=cw0 4 _ rfl
  have s5:=cw0 5 _ rfl
  have s6:=cw0 6 _ rfl
  have s7:=cw0 7 _ rfl
  have hg:=(Bw0.cell (p:=⟨0,k,none⟩) h0).trans hc
  have HN:=zh (z6s user hu w0)
  rw [hun] at HN
  have hki:(k:Int) < 17:=by omega
  have d1:decide ((k:Int) < 1)=false:=decide_eq_false (by omega)
  have d2:decide ((16:Int) < k)=false:=decide_eq_false (by omega)
  clear cw0 fw0 hc hun
  go_enter Tryz.func33,Tryz.ntmps33
  go_wp2_with (first
    | (go_at_call 51;refine Calls.mono HN.out ?_;rintro e w1 ⟨rfl,rfl⟩)
    | (go_at_call 52;refine Calls.mono (zMv _ (by assumption) _ _) ?_;rintro e w1 ⟨rfl,rfl⟩)
    | (go_at_call 53;refine Calls.mono (zIw _ _ _ _ _) ?_;rintro e w1 ⟨rfl,rfl⟩))
  all_goals
    go_ret
    refine ⟨congrArg (fun b=>Ending.returned (.bool b)) ?_,Bw0⟩
    have hm:=HM.out
    clear HM HN s0 s1 s2 s3 s4 s5 s6 s7 hg m1 m2 m4 m8 m16 m32 m64 m1z
    unfold zFi at hm
    subst hm
    simp_all
theorem eqC {a b:ByteArray}:(a.toList==b.toList)=decide (a=b):=by
 by_cases h:a=b
 ·subst h
  simp
 ·rw [decide_eq_false h,<-Bool.not_eq_true,beq_iff_eq]
  intro e
  refine h ?_
  obtain ⟨⟨l⟩⟩:=a
  obtain ⟨⟨r⟩⟩:=b
  rw [Lib.toList_data,Lib.toList_data] at e
  have e2:l=r:=e
  rw [e2]
theorem zPb {a:ByteArray}:a.toList.isEmpty=z1b a:=by
 by_cases h:a=⟨#[]⟩
 ·subst h
  rw [Lib.toList_data]
  rfl
 ·rw [z0q h]
  unfold z1b
  exact (decide_eq_false h).symm
theorem zOj {k:Int} (h1:1<=k) (h2:k<=16) {user folder name other:ByteArray} (hu:ZD user=true) (role version n:Int):
  zFi k (z2j k 1) (z2j k 2) (z2j k 4) (z2j k 8) (z2j k 16) (z2j k 32) (z2j k 64) user folder name other role version n=z2w ZD k user folder name other role version n:=by
 unfold zFi z2w
 rw [eqC,eqC,zPb,decide_eq_true h1,decide_eq_true h2,hu]
 rfl
theorem z3u {k m:Nat} (hk:k<=16) (hm:m∈[1,2,4,8,16,32,64]):(bits BinOp.and IntKind.i64 ((YL k:Nat):Int) (m:Int) !=0)=z2j (k:Int) m:=by
 have hm2:m < 65:=by simp at hm;omega
 exact zN3 ⟨k,by omega⟩ ⟨m,hm2⟩ hm
theorem zGs:∀k:Nat,YL k<=67:=by
 intro k
 by_cases h:k < 17
 ·have:∀k:Fin 17,YL k.val<=67:=by decide
  exact this ⟨k,h⟩
 ·unfold YL
  rw [List.getD_eq_getElem?_getD,List.getElem?_eq_none (by simp;omega)]
  decide
set_option maxHeartbeats 1000000 in
theorem z8p (kind:Int) (user folder name other:ByteArray) (role version:Int) (A:Option Addr) (n c:Nat) (hu:user.size<=140737488355328) (hf:folder.size<=140737488355328) (hnm:name.size<=140737488355328) (ho:other.size<=140737488355328) (w:World) (h0:0 < w.heap.size) (hc:∀r:Nat,r < 17->w.cell? ⟨0,r,none⟩=some (.int .i64 (YL r:Nat))):
  Calls Tryz.prog 33 #[.agg #[.int .i64 kind,.string user,.string folder,.string name,.string other,.int .i64 role,.int .i64 version,.slice A n c]] w fun e w'=>e= .returned (.bool (z2w ZD kind user folder name other role version n))/\Below w.heap.size w w':=by
 obtain ⟨w0,_,cw0,fw0,Bw0,_⟩:=zQ w #[.int .i64 kind,.string user,.string folder,.string name,.string other,.int .i64 role,.int .i64 version,.slice A n c] 41
 have s0:=cw0 0 _ rfl
 have s1:=cw0 1 _ rfl
 have HB:=zh Bw0
 have HN:=zh (z6s user hu w0)
 have HC:=zh hc
 clear cw0 fw0 Bw0 hc
 by_cases h1:kind < 1
 ·have HM:=zh (show z2w ZD kind user folder name other role version n=false by unfold z2w;simp [show ¬1<=kind by omega])
  have d1:decide (kind < 1)=true:=decide_eq_true h1
  clear h1
  go_enter Tryz.func33,Tryz.ntmps33
  go_wp2
  go_ret
  exact ⟨by rw [HM.out];rfl,HB.out⟩
 have d1:decide (kind < 1)=false:=decide_eq_false h1
 by_cases h2:16 < kind
 ·have HM:=zh (show z2w ZD kind user folder name other role version n=false by unfold z2w;simp [show ¬kind<=16 by omega])
  have d2:decide (16 < kind)=true:=decide_eq_true h2
  clear h1 h2
  go_enter Tryz.func33,Tryz.ntmps33
  go_wp2
  go_ret
  exact ⟨by rw [HM.out];rfl,HB.out⟩
 have d2:decide (16 < kind)=false:=decide_eq_false h2
 cases hun:ZD user with
 | false=>
  have HM:=zh (show z2w ZD kind user folder name other role version n=false by unfold z2w;simp [hun])
  rw [hun] at HN
  clear h1 h2 hun
  go_enter Tryz.func33,Tryz.ntmps33
  go_wp2_with (go_at_call 51;refine Calls.mono HN.out ?_;rintro e _ ⟨rfl,rfl⟩)
  go_ret
  exact ⟨by rw [HM.out];rfl,HB.out⟩
 | true=>
  obtain ⟨k,rfl⟩:∃k:Nat,kind=(k:Int):=⟨kind.toNat,by omega⟩
  refine Calls.mono (zN4 k (by omega) (by omega) (YL k) (zGs k) _ _ _ _ _ _ _ (z3u (by omega) (by simp)) (z3u (by omega) (by simp)) (z3u (by omega) (by simp)) (z3u (by omega) (by simp)) (z3u (by omega) (by simp)) (z3u (by omega) (by simp)) (z3u (by omega) (by simp)) ?_ user folder name other role version A n c hu hf hnm ho hun w h0 (HC.out k (by omega))) ?_
  ·have:=z3u (k:=k) (m:=1) (by omega) (by simp)
   rw [<-this]
   cases hb:(bits BinOp.and IntKind.i64 ((YL k:Nat):Int) 1==0)<;>simp [bne,hb]
  ·rintro e w' ⟨rfl,hb⟩
   exact ⟨congrArg (fun b=>Ending.returned (.bool b)) (zOj (by omega) (by omega) hun role version n),hb⟩
end
end Go.Proofs.YtdggplhnfhcieaaGreatDoor
