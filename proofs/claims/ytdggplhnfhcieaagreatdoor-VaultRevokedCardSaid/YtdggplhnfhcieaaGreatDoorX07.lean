/- No condition. -/
import Derived.Deep.DeepMust
import Derived.Test.YtdggplhnfhcieaaGreatDoorX05
set_option linter.all false
set_option maxRecDepth 100000
section
namespace Go.Proofs.YtdggplhnfhcieaaGreatDoor.Ro
open Go.RowKit Go.Deep
def eqS (a b:ByteArray):Bool:=a.toList==b.toList
def z57 {α:Type} (p:α->Bool):List α->Nat->Int
 | [],_=> -1
 | x :: l,k=>if p x then k else z57 p l (k+1)
theorem zJs (name:ByteArray) (B:Nat) (x:Member) (cs:List Value) (w:World) (S:Nat->Prop) (h:zY S w cs x) (hB:w.cell? ⟨B,0,none⟩=some (.string name)):
  Calls Tryz.prog 193 #[.agg cs.toArray,.pointer (some ⟨B,0,none⟩)] w fun e w'=>e= .returned (.bool (eqS x.name name))/\Below w.heap.size w w':=by
 obtain ⟨rfl,_,_⟩:=z43 h;have hBl:=zF hB;go_enter Tryz.func193,Tryz.ntmps193
 go_wp2;go_ret;exact ⟨rfl,by go_grown⟩
theorem zO7 (name:ByteArray) (B:Nat) (l:List Member) (v:Value) (w:World) (S:Nat->Prop) (h:Sl 2 zY S w v l) (hB:w.cell? ⟨B,0,none⟩=some (.string name)):
  Calls Tryz.prog 192 #[v,.func (.func 193) #[] #[.pointer (some ⟨B,0,none⟩)]] w fun e w'=>e= .returned (.int .i64 (z57 (fun m=>eqS m.name name) l 0))/\Below w.heap.size w w':=by
 have HB:=zh hB;clear hB;obtain ⟨_,_,rfl,_,hc,_,hs⟩:=h;unfold maxLen at hc;go_enter Tryz.func192,Tryz.ntmps192
 go_wp2;go_loopw [8] (fun i wr=>∃(k:Nat),k<=l.length/\i= .int .i64 k/\z57 (fun m=>eqS m.name name) (l.drop k) k=z57 (fun m=>eqS m.name name) l 0/\Below w.heap.size w wr) (fun i _=>l.length - (intOf i).toNat)
 case atStart=>exact ⟨0,by omega,by go_num,by simp,by go_grown⟩
 obtain ⟨k,_,rfl,E,hbel⟩:=hrel;have hz:=hbel.size;by_cases hlt:k < l.length
 rotate_left
 ·obtain rfl:k=l.length:=by omega
  rw [List.drop_length] at E;have EH:=zh E;clear E;go_wp2;go_ret;exact ⟨by rw [<-EH.out];rfl,hbel⟩
 obtain ⟨x,_,_,x_k,x_d,_,rfl,_,_,_,_,x_R,_,_⟩:=YW hs hlt (zK hbel);rw [x_d,z57] at E;have E2:=zh E;clear x_k x_d E;go_wp2_with fail
 refine zcm (zJs name B x _ _ S x_R ((hbel.cell (p:=⟨B,0,none⟩) (zF HB.out)).trans HB.out)) ?_;rintro e _ ⟨rfl,hb1⟩;cases hpx:eqS x.name name
 ·have EH:=zh (show z57 (fun m=>eqS m.name name) (l.drop (k+1)) (k+1)=z57 (fun m=>eqS m.name name) l 0 by rw [<-E2.out,hpx];rfl);clear E2;go_wp2;go_roundw
  case rel=>exact ⟨k+1,by omega,by go_num,EH.out,zB hbel hb1⟩
  case measure=>simp [intOf];omega
 have EH:=zh (show (k:Int)=z57 (fun m=>eqS m.name name) l 0 by rw [<-E2.out,hpx];rfl);clear E2;go_wp2;go_ret;exact ⟨by rw [<-EH.out];rfl,zB hbel hb1⟩
def z2r (l:List Member) (name:ByteArray):Int:=z57 (fun m=>eqS m.name name) l 0
theorem zI5:∀(fn:Fn) (first cap:Array Value) (w:World),(Instr.makeFunc fn first cap).run Tryz.prog w= .ok (.func fn first cap) w:=fun _ _ _ _=>rfl
theorem z52 (name:ByteArray) (l:List Member) (v:Value) (w:World) (S:Nat->Prop) (h:Sl 2 zY S w v l):
  Calls Tryz.prog 170 #[v,.string name] w fun e w'=>e= .returned (.int .i64 (z2r l name))/\Below w.heap.size w w':=by
 have hmf:=zI5;obtain ⟨_,_,cw0,_,Bw0,_⟩:=zQ w #[.string name] 9;have w0_0:=cw0 0 _ rfl;have H:=zh h;clear h cw0;go_enter Tryz.func170,Tryz.ntmps170
 go_wp2_with fail
 refine zcm (zO7 name w.heap.size l v _ S (H.out.keep ZH (by decide) (zK Bw0)) w0_0) ?_;rintro e _ ⟨rfl,hb1⟩;go_wp2;go_ret;exact ⟨rfl,zB Bw0 hb1⟩
def ofOf:List Member->ByteArray->Int
 | [],_=>0
 | m :: l,name=>if eqS m.name name then m.role else ofOf l name
theorem atOf_cases (name:ByteArray):∀(l:List Member) (k:Nat),(z57 (fun m=>eqS m.name name) l k= -1/\ofOf l name=0)\/∃(i:Nat) (m:Member),z57 (fun m=>eqS m.name name) l k=((k+i:Nat):Int)/\l[i]? =some m/\ofOf l name=m.role/\eqS m.name name=true
 | [],k=> .inl ⟨rfl,rfl⟩
 | m :: l,k=>by
  rw [z57,ofOf];cases hm:eqS m.name name
  ·rcases atOf_cases name l (k+1) with ⟨h1,h2⟩ | ⟨i,m',h1,h2,h3,h4⟩
   ·exact .inl ⟨by simpa [hm] using h1,by simpa [hm] using h2⟩
   ·exact .inr ⟨i+1,m',by simp only [Bool.false_eq_true,if_false];rw [h1];congr 1;omega,by simpa using h2,by simpa [hm] using h3,h4⟩
  ·exact .inr ⟨0,m,by simp,by simp,by simp,hm⟩
theorem of_any (name:ByteArray) (l:List Member) (v:Value) (w:World) (S:Nat->Prop) (h:Sl 2 zY S w v l):
  Calls Tryz.prog 157 #[v,.string name] w fun e w'=>e= .returned (.int .i64 (ofOf l name))/\Below w.heap.size w w':=by
 have H:=zh h;rcases atOf_cases name l 0 with ⟨h1,h2⟩ | ⟨i,m,h1,h2,h3,_⟩
 ·have K1:=zh (show z2r l name= -1 from h1);have K2:=zh h2;clear h h1 h2;go_enter Tryz.func157,Tryz.ntmps157
  go_wp2_with fail
  refine zcm (z52 name l v _ S H.out) ?_;rintro e w1 ⟨rfl,hb1⟩;rw [K1.out];go_wp2;go_ret;exact ⟨by rw [K2.out];rfl,hb1⟩
 obtain ⟨_,_,rfl,_,hc,_,hs⟩:=h;unfold maxLen at hc;have hil:i < l.length:=(zge h2).1;have K1:=zh (show z2r l name=(i:Int) by rw [z2r,h1];simp);have K2:=zh h3;have K3:=zh h2;clear h1 h2 h3;go_enter Tryz.func157,Tryz.ntmps157
 go_wp2_with fail
 refine zcm (z52 name l _ _ S H.out) ?_;rintro e w1 ⟨rfl,hb1⟩;rw [K1.out];obtain ⟨x,_,_,x_k,x_d,_,rfl,_,_,_,_,_,_,_⟩:=YW hs hil (zK hb1);have ex:x=m:=zsi (x_k.symm.trans K3.out);subst ex;clear x_k x_d;go_wp2;go_ret;exact ⟨by rw [K2.out];rfl,hb1⟩
end Go.Proofs.YtdggplhnfhcieaaGreatDoor.Ro
end
namespace Go.Proofs.YtdggplhnfhcieaaGreatDoor
section
open Go.RowKit Go.Deep
theorem z23 {s:ByteArray} (h:s≠⟨#[]⟩):s.toList.isEmpty=false:=by
 cases hs:s.toList with
 | nil=>
  refine absurd ?_ h;obtain ⟨⟨l⟩⟩:=s;rw [Lib.toList_data] at hs;have h2:l=[]:=hs;subst h2
  rfl
 | cons a l=>rfl
theorem zR6 (s:ByteArray) (hs:s.size<=140737488355328) (b:Bool) (w:World):Calls Tryz.prog 52 #[.string s,.bool b] w fun e w'=>e= .returned (.bool (txt ZA s b))/\w=w':=by
 cases b with
 | true=>
  have HN:=zh (z97 s hs w);go_enter Tryz.func52,Tryz.ntmps52
  go_wp2_with (go_at_call 51;refine zcm HN.out ?_;rintro e _ ⟨rfl,rfl⟩)
  go_ret
  exact ⟨rfl,rfl⟩
 | false=>
  by_cases he:s=⟨#[]⟩
  ·subst he;go_enter Tryz.func52,Tryz.ntmps52
   go_wp2;go_ret;exact ⟨rfl,rfl⟩
  have HE:=zh (show txt ZA s false=false by unfold txt z2l;simp [he]);have hse:s.toList.isEmpty=false:=z23 he;clear he;go_enter Tryz.func52,Tryz.ntmps52
  go_wp2;go_ret;exact ⟨by rw [HE.out];rfl,rfl⟩
theorem zMr (n a b:Int) (h:Bool) (w:World):Calls Tryz.prog 53 #[.int .i64 n,.int .i64 a,.int .i64 b,.bool h] w fun e w'=>e= .returned (.bool (num n a b h))/\w=w':=by
 cases h with
 | true=>
  by_cases h1:a<=n
  rotate_left
  ·have HE:=zh (show num n a b true=false by unfold num;simp [h1]);have d1:decide (a<=n)=false:=decide_eq_false h1;clear h1;go_enter Tryz.func53,Tryz.ntmps53
   go_wp2;go_ret;exact ⟨by rw [HE.out];rfl,rfl⟩
  by_cases h2:n<=b
  ·have HE:=zh (show num n a b true=true by unfold num;simp [h1,h2]);have d1:decide (a<=n)=true:=decide_eq_true h1;have d2:decide (n<=b)=true:=decide_eq_true h2;clear h1 h2;go_enter Tryz.func53,Tryz.ntmps53
   go_wp2;go_ret;exact ⟨by rw [HE.out];rfl,rfl⟩
  have HE:=zh (show num n a b true=false by unfold num;simp [h1,h2]);have d1:decide (a<=n)=true:=decide_eq_true h1;have d2:decide (n<=b)=false:=decide_eq_false h2;clear h1 h2;go_enter Tryz.func53,Tryz.ntmps53
  go_wp2;go_ret
  exact ⟨by rw [HE.out];rfl,rfl⟩
 | false=>
  by_cases h1:n=0
  ·subst h1;go_enter Tryz.func53,Tryz.ntmps53
   go_wp2;go_ret;exact ⟨rfl,rfl⟩
  have HE:=zh (show num n a b false=false by unfold num;simp [h1]);have d1:(n==0)=false:=beq_eq_false_iff_ne.2 h1;clear h1;go_enter Tryz.func53,Tryz.ntmps53
  go_wp2;go_ret;exact ⟨by rw [HE.out];rfl,rfl⟩
end
section
open Go.RowKit Go.Deep
structure CopyOk (st:State):Prop where
 us:st.users.length<=10000
 de:st.deposits.length<=10000
 fo:st.folders.length<=10000
 fl:∀f∈st.folders,f.manifests.length<=10000/\f.epochs.length<=10000/\f.items.length<=10000/\f.wraps.length<=10000/\f.links.length<=10000
 ma:∀f∈st.folders,∀m∈f.manifests,m.members.length<=10000
 ep:∀f∈st.folders,∀e∈f.epochs,e.chain.length<=10000
 it:∀f∈st.folders,∀x∈f.items,x.versions.length<=10000/\∀v∈x.versions,v.data.length<=10000
def zU8 (w:World) (S:Nat->Prop) (st:State) (e:Ending) (w':World):Prop:=
 ∃R,e= .returned (.agg #[.int .i64 st.turn,(R .us).v,(R .de).v,(R .fo).v])/\Below w.heap.size w w'/\OS w.heap.size w' R/\IsSt (fun b=>b < w'.heap.size/\¬Y7 R b/\(b < w.heap.size->S b)) w' R st
def XC (S:Nat->Prop) (w:World):Nat->Prop:=fun b=>b=w.heap.size+1\/(b < w.heap.size/\¬S b)
theorem Kept.refl' {S S':Nat->Prop} {w:World} (h:∀b,S b->S' b):Kept S S' w w:=fun b hb _=>⟨h b hb,rfl⟩
section
variable {X:Nat->Prop} {bc base:Nat} {W W':World} {R R':RM} {st:State} {md:Nat->Option Nat} {p q:Nat} {f:Folder}
theorem z49 {w:World} {b i j:Nat} {u v:Value} (h:w.cell? ⟨b,j,none⟩=some v) (hij:j≠i):(w.setCell ⟨b,i,none⟩ u).cell? ⟨b,j,none⟩=some v:=by
 rw [World.cell?_setCell_other _ _ _ _ (fun e=>hij (by have:=congrArg Addr.off e;first | exact this | exact this.symm))];exact h
theorem CP.start {S:Nat->Prop} {w w1 w2 w3 w4 w5:World} {v1 v2 v3:Value} {c1 c2 c3:List (List Value)} (hz:w1.heap.size=w.heap.size+2)
  (B2:Below w1.heap.size w1 w2) (r1:RowC 91 2 w2 v1 c1) (a1:All2 (z0s (fun b=>b < w.heap.size/\S b) w2) c1 st.users) (l1:∀b,v1.ownBlock=some b->w1.heap.size<=b)
  (B3:Below w2.heap.size w2 w3) (r2:RowC 126 2 w3 v2 c2) (a2:All2 (z0o (fun b=>b < w.heap.size/\S b) w3) c2 st.deposits) (l2:∀b,v2.ownBlock=some b->w2.heap.size<=b)
  (B4:Below w3.heap.size w3 w4) (r3:RowC 74 7 w4 v3 c3) (a3:All2 (ZG (fun b=>b < w.heap.size/\S b) w4) c3 st.folders) (l3:∀b,v3.ownBlock=some b->w3.heap.size<=b)
  (ok:CopyOk st) (e5:w5=((w4.setCell ⟨w.heap.size,1,none⟩ v1).setCell ⟨w.heap.size,2,none⟩ v2).setCell ⟨w.heap.size,3,none⟩ v3):
  ∃R,CP (XC S w) w.heap.size w.heap.size w5 R st (fun _=>none)/\(R .us).v=v1/\(R .de).v=v2/\(R .fo).v=v3:=by
 have s0:ST w.heap.size w.heap.size w1 (fun _=>⟨.slice none 0 0,[]⟩) w1 (fun _=>⟨.slice none 0 0,[]⟩):=⟨⟨fun k=>RowC.nil _,fun _ _ _ h=>(by cases h),fun _ _ h=>(by cases h),fun _=>(by simp)⟩,Mut.refl _ _ _,by omega⟩;have s1:=s0.row B2 .us ⟨v1,c1⟩ r1 (by rw [a1.1];exact ok.us) l1;have s2:=s1.row B3 .de ⟨v2,c2⟩ r2 (by rw [a2.1];exact ok.de) l2;have s3:=s2.row B4 .fo ⟨v3,c3⟩ r3 (by rw [a3.1];exact ok.fo) l3;generalize hR:zL _ _ _=R at s3;have q1:R .us=⟨v1,c1⟩/\R .de=⟨v2,c2⟩/\R .fo=⟨v3,c3⟩:=by rw [<-hR];simp [zL]
 clear hR;have z2:=B2.size;have z3:=B3.size;have z4:=B4.size;have hnr:∀b,Y7 R b->w.heap.size+2<=b:=fun b hb=>(s3.m.fresh b hb).elim (fun ⟨k,e⟩=>by cases e) fun h=>by omega
 have hz5:w5.heap.size=w4.heap.size:=by rw [e5];simp
 have h5:∀b,b≠w.heap.size->w5.heap[b]? =w4.heap[b]? :=fun b hb=>by rw [e5,Below.heap_setCell _ _ _ _ hb,Below.heap_setCell _ _ _ _ hb,Below.heap_setCell _ _ _ _ hb]
 have kp:∀w',(∀b,b < w.heap.size->w4.heap[b]? =w'.heap[b]?)->Kept (fun b=>b < w.heap.size/\S b) (Imm (XC S w) w.heap.size R w5) w' w5:=fun w' hw b hb _=>by
  obtain ⟨hb',hs⟩:=hb;exact ⟨⟨by omega,by omega,fun e=>by have:=hnr b e;omega,fun e=>e.elim (fun e=>by omega) fun e=>e.2 hs⟩,(h5 b (by omega)).trans (hw b hb')⟩
 have hB3:=zB B3 B4;refine ⟨R,⟨s3.os.to fun b hb=>h5 b (by have:=hnr b hb;omega),fun e=>by have:=hnr _ e;omega,by omega,znl _,fun b e hx=>?_,fun b hx=>hx.elim (fun e=>by omega) fun e=>by have:=e.1;omega,?_,?_,?_,fun i f hf=>?_⟩,by rw [q1.1],by rw [q1.2.1],by rw [q1.2.2]⟩
 ·rcases e with e | e
  ·have:=hnr b e;exact hx.elim (fun e=>by omega) fun e=>by have:=e.1;omega
  exact hx.elim (fun e=>by omega) fun e=>by have:=e.1;omega
 ·rw [q1.1];exact a1.imp fun _ _ e=>z2v e (kp w2 fun b hb=>hB3.block b (by omega))
 ·rw [q1.2.1];exact a2.imp fun _ _ e=>z3n e (kp w3 fun b hb=>B4.block b (by omega))
 ·rw [q1.2.2];exact a3.1
 obtain ⟨x,hx,hr⟩:=a3.at hf;rw [q1.2.2];exact ⟨x,hx,Z5 hr (kp w4 fun b _=>rfl)⟩
theorem CP.foAt (h:CP X bc base W R st md) (hf:st.folders[p]? =some f):∃a off cp,(R .fo).v= .slice (some ⟨a,off,none⟩) st.folders.length cp/\st.folders.length<=cp/\cp<=9223372036854775807/\a < W.heap.size/\a≠bc/\base<=a/\(∀q,W.frozen? ⟨a,q,none⟩=false)/\∀x,(R .fo).cells[p]? =some x->∀j u,x[j]? =some u->W.cell? ⟨a,off+p*7+j,none⟩=some u:=by
 obtain ⟨x,hx⟩:∃x,(R .fo).cells[p]? =some x:=⟨_,qLgx (by rw [h.fol];exact (zge hf).1)⟩;obtain ⟨a,off,cp,e,l,m,g,hc,hz⟩:=(h.os.row .fo).at hx;rw [h.fol] at e l;unfold maxLen at m;exact ⟨a,off,cp,e,l,m,g,fun e2=>h.nb ⟨.fo,by rw [e,<-e2];rfl⟩,h.os.low .fo a (by rw [e];rfl),hz,fun y hy=>by rw [hx] at hy;obtain rfl:=zsi hy;exact hc⟩
theorem CP.old (h:CP X bc base W R st md) (hf:st.folders[p]? =some f) (hp:md p=none):∃B2 d2 B3 d3 B4 d4 B5 d5 B6 d6,(R .fo).cells[p]? =some [.string f.name,.int .i64 f.turn,.slice B2 f.manifests.length d2,.slice B3 f.epochs.length d3,.slice B4 f.items.length d4,.slice B5 f.wraps.length d5,.slice B6 f.links.length d6]/\f.name.size<=140737488355328/\I64 f.turn/\
  Sl 8 ZR (Imm X bc R W) W (.slice B2 f.manifests.length d2) f.manifests/\Sl 5 z02 (Imm X bc R W) W (.slice B3 f.epochs.length d3) f.epochs/\Sl 2 YB (Imm X bc R W) W (.slice B4 f.items.length d4) f.items/\Sl 3 YC (Imm X bc R W) W (.slice B5 f.wraps.length d5) f.wraps/\Sl 3 z0g (Imm X bc R W) W (.slice B6 f.links.length d6) f.links:=by
 have hq:=h.fo p f hf;rw [hp] at hq;obtain ⟨_,hcs,_,_,_,_,_,rfl,hn,ht,s2,s3,s4,s5,s6⟩:=hq;obtain ⟨B2,d2,rfl,_⟩:=id s2;obtain ⟨B3,d3,rfl,_⟩:=id s3;obtain ⟨B4,d4,rfl,_⟩:=id s4;obtain ⟨B5,d5,rfl,_⟩:=id s5;obtain ⟨B6,d6,rfl,_⟩:=id s6;exact ⟨_,_,_,_,_,_,_,_,_,_,hcs,hn,ht,s2,s3,s4,s5,s6⟩
theorem CP.hdrAt (h:CP X bc base W R st md) (hf:st.folders[p]? =some f) (hp:md p=some q):∃D2 e2 D3 e3 D4 e4 u5 u6,(R .fo).cells[p]? =some [.string f.name,.int .i64 f.turn,.slice D2 f.manifests.length e2,.slice D3 f.epochs.length e3,.slice D4 f.items.length e4,u5,u6]/\(R (.ma p)).v= .slice D2 f.manifests.length e2/\(R (.ep p)).v= .slice D3 f.epochs.length e3/\(R (.it p)).v= .slice D4 f.items.length e4:=by
 have hq:=h.fo p f hf;rw [hp] at hq;obtain ⟨hc,hF⟩:=hq;obtain ⟨D2,e2,k2,_⟩:=(h.os.row (.ma p)).shape;obtain ⟨D3,e3,k3,_⟩:=(h.os.row (.ep p)).shape;obtain ⟨D4,e4,k4,_⟩:=(h.os.row (.it p)).shape;rw [hF.man.1] at k2;rw [hF.ep.1] at k3;rw [hF.itl] at k4;unfold hdr at hc;rw [k2,k3,k4] at hc;exact ⟨_,_,_,_,_,_,_,_,hc,k2,k3,k4⟩
theorem CP.maAt (h:CP X bc base W R st md) (hf:st.folders[p]? =some f) (hp:md p=some q) {k:Nat} {m:Manifest} (hm:f.manifests[k]? =some m):∃g o c A d,(R (.ma p)).v= .slice (some ⟨g,o,none⟩) f.manifests.length c/\f.manifests.length<=c/\c<=9223372036854775807/\W.cell? ⟨g,o+k*8+4,none⟩=some (.slice A m.members.length d)/\(∀q,W.frozen? ⟨g,q,none⟩=false)/\Sl 2 zY (Imm X bc R W) W (.slice A m.members.length d) m.members:=by
 have hq:=h.fo p f hf;rw [hp] at hq;obtain ⟨_,hx,hr⟩:=hq.2.man.at hm;obtain ⟨g,o,c,e,l,mx,_,hc,hz⟩:=(h.os.row (.ma p)).at hx;rw [hq.2.man.1] at e l;unfold maxLen at mx;obtain ⟨_,_,rfl,_,_,_,_,s4,_⟩:=hr;obtain ⟨A,d,rfl,_⟩:=id s4;exact ⟨g,o,c,A,d,e,l,mx,hc 4 _ rfl,hz,s4⟩
theorem CP.epAt (h:CP X bc base W R st md) (hf:st.folders[p]? =some f) (hp:md p=some q) {k:Nat} {m:Epoch} (hm:f.epochs[k]? =some m):∃g o c A d,(R (.ep p)).v= .slice (some ⟨g,o,none⟩) f.epochs.length c/\f.epochs.length<=c/\c<=9223372036854775807/\W.cell? ⟨g,o+k*5+3,none⟩=some (.slice A m.chain.length d)/\(∀q,W.frozen? ⟨g,q,none⟩=false)/\Sl 2 rAt (Imm X bc R W) W (.slice A m.chain.length d) m.chain:=by
 have hq:=h.fo p f hf;rw [hp] at hq;obtain ⟨_,hx,hr⟩:=hq.2.ep.at hm;obtain ⟨g,o,c,e,l,mx,_,hc,hz⟩:=(h.os.row (.ep p)).at hx;rw [hq.2.ep.1] at e l;unfold maxLen at mx;obtain ⟨_,rfl,_,_,_,s3,_⟩:=hr;obtain ⟨A,d,rfl,_⟩:=id s3;exact ⟨g,o,c,A,d,e,l,mx,hc 3 _ rfl,hz,s3⟩
theorem CP.itOld (h:CP X bc base W R st md) (hf:st.folders[p]? =some f) {j:Nat} (hp:md p=some j) {x:Item} (hx:f.items[j]? =some x):∃g o c A d,(R (.it p)).v= .slice (some ⟨g,o,none⟩) f.items.length c/\f.items.length<=c/\c<=9223372036854775807/\W.cell? ⟨g,o+j*2+1,none⟩=some (.slice A x.versions.length d)/\(∀q,W.frozen? ⟨g,q,none⟩=false)/\Sl 4 yL (Imm X bc R W) W (.slice A x.versions.length d) x.versions:=by
 have hq:=h.fo p f hf;rw [hp] at hq;have hi:=hq.2.it j x hx;rw [if_neg (by omega)] at hi;obtain ⟨_,hcs,_,rfl,_,s1⟩:=hi;obtain ⟨g,o,c,e,l,mx,_,hc,hz⟩:=(h.os.row (.it p)).at hcs;rw [hq.2.itl] at e l;unfold maxLen at mx;obtain ⟨A,d,rfl,_⟩:=id s1;exact ⟨g,o,c,A,d,e,l,mx,hc 1 _ rfl,hz,s1⟩
theorem CP.itNew (h:CP X bc base W R st md) (hf:st.folders[p]? =some f) {j:Nat} (hp:md p=some q) (hj:j < q) {x:Item} (hx:f.items[j]? =some x):∃g o c A d,(R (.it p)).v= .slice (some ⟨g,o,none⟩) f.items.length c/\f.items.length<=c/\c<=9223372036854775807/\W.cell? ⟨g,o+j*2+1,none⟩=some (.slice A x.versions.length d)/\(R (.ve p j)).v= .slice A x.versions.length d:=by
 have hq:=h.fo p f hf;rw [hp] at hq;have hi:=hq.2.it j x hx;rw [if_pos hj] at hi;obtain ⟨hcs,_,ha⟩:=hi;obtain ⟨g,o,c,e,l,mx,_,hc,_⟩:=(h.os.row (.it p)).at hcs;rw [hq.2.itl] at e l;unfold maxLen at mx;obtain ⟨A,d,k,_⟩:=(h.os.row (.ve p j)).shape;rw [ha.1] at k;exact ⟨g,o,c,A,d,e,l,mx,by rw [<-k];exact hc 1 _ rfl,k⟩
theorem CP.veAt (h:CP X bc base W R st md) (hf:st.folders[p]? =some f) {j:Nat} (hp:md p=some q) (hj:j < q) {x:Item} (hx:f.items[j]? =some x) {k:Nat} {v:Version} (hv:x.versions[k]? =some v):∃g o c A d,(R (.ve p j)).v= .slice (some ⟨g,o,none⟩) x.versions.length c/\x.versions.length<=c/\c<=9223372036854775807/\W.cell? ⟨g,o+k*4+3,none⟩=some (.slice A v.data.length d)/\(∀q,W.frozen? ⟨g,q,none⟩=false)/\Sl 1 YL (Imm X bc R W) W (.slice A v.data.length d) v.data:=by
 have hq:=h.fo p f hf;rw [hp] at hq;have hi:=hq.2.it j x hx;rw [if_pos hj] at hi;obtain ⟨_,_,ha⟩:=hi;obtain ⟨_,hy,hr⟩:=ha.at hv;obtain ⟨g,o,c,e,l,mx,_,hc,hz⟩:=(h.os.row (.ve p j)).at hy;rw [ha.1] at e l;unfold maxLen at mx;obtain ⟨_,rfl,_,_,s3⟩:=hr;obtain ⟨A,d,rfl,_⟩:=id s3;exact ⟨g,o,c,A,d,e,l,mx,hc 3 _ rfl,hz,s3⟩
theorem CP.cellAt (h:CP X bc base W R st md) (hf:st.folders[p]? =some f) {a off n cp:Nat} (hv:(R .fo).v= .slice (some ⟨a,off,none⟩) n cp) {x:List Value} (hx:(R .fo).cells[p]? =some x):∀j u,x[j]? =some u->W.cell? ⟨a,off+p*7+j,none⟩=some u:=by
 obtain ⟨_,_,_,e,_,_,_,_,_,_,hc⟩:=h.foAt hf;rw [hv] at e;simp only [Value.slice.injEq,Option.some.injEq,Addr.mk.injEq,and_true] at e;obtain ⟨⟨rfl,rfl⟩,_,_⟩:=e;exact hc x hx
theorem CP.full (h:CP X bc base W R st md) (hf:st.folders[p]? =some f) (hp:md p=some q) (hq:f.items.length<=q) {q':Nat} (hq':f.items.length<=q'):CP X bc base W R st (fun i=>if i=p then some q' else md i):=
 ⟨h.os,h.nb,h.lt,h.bb,h.nx,h.xl,h.us,h.de,h.fol,fun i g hg=>by
  have hk:=h.fo i g hg;by_cases hi:i=p
  ·subst hi;rw [hf] at hg;obtain rfl:=zsi hg;rw [hp] at hk;simp only [if_true];exact ⟨hk.1,hk.2.full hq hq'⟩
  ·simp only [hi,if_false];exact hk⟩
theorem z24 {w2 wr:World} {b g i:Nat} {u:Value} {o:Obj} (hB:Below wr.heap.size wr w2) (h:wr.heap[b]? =some o) (hb:b≠g):(w2.setCell ⟨g,i,none⟩ u).heap[b]? =some o:=by
 rw [Below.heap_setCell _ _ _ _ hb,hB.block b (by
  rcases Nat.lt_or_ge b wr.heap.size with hl | hl
  ·exact hl
  ·rw [Array.getElem?_eq_none hl] at h;cases h)]
 exact h
theorem zP9 {w:World} {pb:Nat} {T:TypeId} {z0 z1 z2 z3:Value} (h:w.heap[pb]? =some (.cells #[z0,z1,z2,z3] T (0,0))) (a0 a1 a2 a3:Value):
  ((((w.setCell ⟨pb,0,none⟩ a0).setCell ⟨pb,1,none⟩ a1).setCell ⟨pb,2,none⟩ a2).setCell ⟨pb,3,none⟩ a3).heap[pb]? =some (.cells #[a0,a1,a2,a3] T (0,0))/\∀b,b≠pb->((((w.setCell ⟨pb,0,none⟩ a0).setCell ⟨pb,1,none⟩ a1).setCell ⟨pb,2,none⟩ a2).setCell ⟨pb,3,none⟩ a3).heap[b]? =w.heap[b]? :=by
 have h0:=zI (i:=0) (cs':=#[a0,z1,z2,z3]) a0 h rfl;have h1:=zI (i:=1) (cs':=#[a0,a1,z2,z3]) a1 h0 rfl;have h2:=zI (i:=2) (cs':=#[a0,a1,a2,z3]) a2 h1 rfl;have h3:=zI (i:=3) (cs':=#[a0,a1,a2,a3]) a3 h2 rfl;exact ⟨h3,fun b hb=>by rw [Below.heap_setCell _ _ _ _ hb,Below.heap_setCell _ _ _ _ hb,Below.heap_setCell _ _ _ _ hb,Below.heap_setCell _ _ _ _ hb]⟩
theorem zAo {α:Type} {Q:Rp α} {sz:Nat} {e:TypeId} (okQ:RpOk sz Q) {S0:Nat->Prop} {v:Value} {cells:List (List Value)} {l:List α} (h:CP X bc base W R st md) (hB:Below W.heap.size W W') (hr:RowC e sz W' v cells) (hl:l.length<=10000) (ha:All2 (Q S0 W') cells l) (hQ:∀S cs x,Q S0 W' cs x->Q S W' cs x) (hlow:∀b,v.ownBlock=some b->W.heap.size<=b):
  Sl sz Q (fun b=>b < W'.heap.size/\b≠bc/\¬Y7 R b/\¬X b) W' v l:=
 z2k okQ hr (by rw [ha.1];exact hl) (ha.imp fun _ _ e=>hQ _ _ _ e) fun b hb=>⟨hr.lt b hb,fun e=>by have:=hlow b hb;have:=h.lt;omega,fun e=>by have:=hlow b hb;have:=h.os.lt e;omega,fun e=>by have:=hlow b hb;have:=h.xl b e;omega⟩
theorem IsSt.stateS {S:Nat->Prop} (o:OS base W R) (h:IsSt S W R st):yB (fun b=>Y7 R b\/S b) W [.int .i64 st.turn,(R .us).v,(R .de).v,(R .fo).v] st:=by
 have h':=h.keep (S':=fun b=>Y7 R b\/S b) (Kept.refl' fun _ h=> .inr h);have hr:∀k b,(R k).v.ownBlock=some b->Y7 R b\/S b:=fun k b e=> .inl ⟨k,e⟩
 refine ⟨_,_,_,rfl,h'.turn,z2k z3m (o.row .us) (o.len _) h'.users (hr .us),z2k z2e (o.row .de) (o.len _) h'.deps (hr .de),?_⟩;refine z2k YX (o.row .fo) (o.len _) ⟨h'.fol,fun j cs x hc hx=>?_⟩ (hr .fo);obtain ⟨h1,h2⟩:=h'.fo j x hx;rw [h1] at hc;obtain rfl:=zsi hc;refine ⟨_,_,_,_,_,rfl,h2.name,h2.turn,z2k z2f (o.row (.ma j)) (o.len _) h2.man (hr _),z2k z4g (o.row (.ep j)) (o.len _) h2.ep (hr _),?_,z2k z3r (o.row (.wr j)) (o.len _) h2.wr (hr _),z2k z3s (o.row (.li j)) (o.len _) h2.li (hr _)⟩;refine z2k z3p (o.row (.it j)) (o.len _) ⟨h2.itl,fun i cs y hc hy=>?_⟩ (hr _);obtain ⟨g1,g2,g3⟩:=h2.it i y hy;rw [g1] at hc;obtain rfl:=zsi hc;exact ⟨_,rfl,g2,z2k z44 (o.row (.ve j i)) (o.len _) g3 (hr _)⟩
end
end
end Go.Proofs.YtdggplhnfhcieaaGreatDoor
