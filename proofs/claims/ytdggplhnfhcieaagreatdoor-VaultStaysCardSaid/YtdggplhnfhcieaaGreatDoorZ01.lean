/- Part 1 of the proof of vaultStays_holds. No condition. -/
import Derived.Deep.Fields
import Derived.Maps.AppendAt
import Derived.OwnWalk
import Derived.Lib.AppendZeros
import Derived.Test.YtdggplhnfhcieaaGreatDoorZ00
set_option linter.unusedVariables false
set_option linter.unusedSimpArgs false
set_option linter.unusedSectionVars false
set_option maxRecDepth 100000
namespace Go.Proofs.YtdggplhnfhcieaaGreatDoor
section
open Go.RowKit Go.Deep Go.ChangeShapes Go.WideShapes
theorem zJf {P:Program} {w:World} {t:TypeId} {fs:Array Field} (ht:P.underlying t=some (.struct fs)) (hone:oneCellFields P fs=true) (hC:P.cellsOf t=fs.size)
  {H:Type} {enc:TypeId×Value->H} {base:Nat} {spare:Nat->Bool} {held:Bool} {fuel:Nat} {cs:List Value} {x:DataW H×List MemPlace}
  (h:DataW.trod enc P w base spare held fuel t cs=some x) (hz:z6k P t x.1):
  cs.length=fs.size/\∃n,∀j f,fs[j]? =some f->∃y,DataW.trod enc P w base spare held n f.type [cs.getD j undef]=some y/\z6k P f.type y.1:=by
 obtain ⟨xs,n,_,hx,hl,_,hf⟩:=DataW.trod_struct ht h
 subst hx
 refine ⟨hl.trans hC,n,fun j f hj=>?_⟩
 obtain ⟨ho,hk⟩:=hone_of hone j f hj
 have hjl:j < fs.size:=(Array.getElem?_eq_some_iff.1 hj).1
 have h1:=hf j f hj
 rw [ho,hk,take1_drop cs j undef (by omega),List.getElem?_eq_getElem (by omega)] at h1
 refine ⟨_,h1,fun m hm=>hz m ?_⟩
 simp only [DataW.weights,ht]
 exact DataW.weights_mem_each (j:=j) (t:=f.type) (by simp [hj]) (by simp [List.getElem?_eq_getElem (show j < xs.length by omega)]) m hm
theorem zJ {S:Nat->Prop} {w wr:World} (h:Below w.heap.size w wr):Kept S S w wr:=Kept.below h fun _ h=>h
theorem z1w {W w1:World} (hb:Below W.heap.size W w1):(∀b o,b < W.heap.size->w1.cell? ⟨b,o,none⟩=W.cell? ⟨b,o,none⟩)/\(∀b o,b < W.heap.size->w1.frozen? ⟨b,o,none⟩=W.frozen? ⟨b,o,none⟩):=
 ⟨fun b o h=>hb.cell (p:=⟨b,o,none⟩) h,fun b o h=>hb.frozen (p:=⟨b,o,none⟩) h⟩
theorem zB {w W w1:World} (h:Below w.heap.size w W) (h1:Below W.heap.size W w1):Below w.heap.size w w1:=h.trans (h1.mono h.size)
theorem ZL {a b:Bool} (h:a=b):Ending.returned (.bool a)= .returned (.bool b):=by rw [h]
theorem Z5 {k:IntKind} {a b:Int} (h:a=b):Ending.returned (.int k a)= .returned (.int k b):=by rw [h]
theorem zNg {α β:Type} {p:Nat->β->Prop} {q:β->α->Prop} {len:Nat} (h:∀i,i < len->∃r:α×β,p i r.2/\q r.2 r.1):∃l:List α,l.length=len/\∀i x,l[i]? =some x->∃ys,p i ys/\q ys x:=by
 induction len with
 | zero=>exact ⟨[],rfl,fun i x hi=>by simp at hi⟩
 | succ k ih=>
  obtain ⟨l,hl,hl'⟩:=ih (fun i hi=>h i (by omega))
  obtain ⟨r,q1,q2⟩:=h k (by omega)
  refine ⟨l++[r.1],by simp [hl],fun i x hi=>?_⟩
  rcases Nat.lt_or_ge i k with hlt | hge
  ·exact hl' i x (by rwa [List.getElem?_append_left (by omega)] at hi)
  ·rw [List.getElem?_append_right (by omega)] at hi
   have:i=k:=by
    rcases Nat.lt_or_ge (i - l.length) 1 with h1 | h1
    ·omega
    ·rw [List.getElem?_eq_none (by simpa using h1)] at hi;cases hi
   subst this
   simp [hl] at hi
   subst hi
   exact ⟨r.2,q1,q2⟩
theorem z3e {α:Type} {l:List α} {k:Nat} (h:k < l.length):∃x,l[k]? =some x/\l.drop k=x :: l.drop (k+1)/\x∈l:=⟨l[k],List.getElem?_eq_getElem h,List.drop_eq_getElem_cons h,List.getElem_mem h⟩
theorem zE4 {α:Type} {P:Program} {w:World} {t e:TypeId} {sz:Nat} {R:Rp α} (ht:P.underlying t=some (.slice e)) (hC:P.cellsOf e=sz) (hby:0 < P.bytesOf e) (hsz:0 < sz) (hR:Rd P w e R) (hlen:∀{S:Nat->Prop} {w:World} {cs:List Value} {x:α},R S w cs x->cs.length=sz):Rd P w t (rSl sz R):=by
 intro H enc base spare held fuel cs x h hz
 rcases open_slice ht h with ⟨rfl,_⟩ | ⟨a,len,cap,m,n,D,Pl,rfl,hb,hl,hm,hmm,hxx,hx⟩
 ·exact ⟨[],_,rfl,z0s _ _ _ _⟩
 ·have hlm:len<=m:=by rw [hmm];split<;>omega
  have hall:∀i,i < len->∃q:α×List Value,w.cells? base (a.add (i*sz)) sz=some q.2/\R (fun _=>True) w q.2 q.1:=by
   intro i hi
   obtain ⟨cs',h1,h2⟩:=hx i (by omega)
   obtain ⟨y,hy⟩:=hR h2 (fun q hq=>hz q (by
    rw [hxx]
    simp only [DataW.weights,ht,List.mem_cons,List.mem_append]
    exact .inr (.inl (zBs (List.mem_map.2 ⟨i,List.mem_range.2 hi,rfl⟩) q hq))))
   rw [hC] at h1
   exact ⟨(y,cs'),h1,hy⟩
  obtain ⟨l,hll,hl'⟩:=zNg (p:=fun i ys=>w.cells? base (a.add (i*sz)) sz=some ys) (q:=fun ys x=>R (fun _=>True) w ys x) hall
  have hlen47:len<=140737488355328:=by
   have h1:=hz ((((List.range len).map D).length+((List.range (m - len)).map fun j=>D (len+j)).length)*P.bytesOf e) (by rw [hxx];simp [DataW.weights,ht])
   have h2:len<=(((List.range len).map D).length+((List.range (m - len)).map fun j=>D (len+j)).length)*P.bytesOf e:=by
    rw [List.length_map,List.length_range]
    exact Nat.le_trans (Nat.le_add_right _ _) (Nat.le_mul_of_pos_right _ hby)
   exact Nat.le_trans h2 (Nat.le_trans h1 (by decide))
  refine ⟨l,_,rfl,some a,cap,by rw [hll],by omega,hm,by omega,fun i x hi=>?_⟩
  have hil:i < len:=by have:=(List.getElem?_eq_some_iff.1 hi).1;omega
  obtain ⟨ys,h1,h2⟩:=hl' i x hi
  obtain ⟨_,hyl,hyc⟩:=World.cells?_some h1
  obtain ⟨b,o,sp⟩:=a
  obtain ⟨q0,h0,_⟩:=hall 0 (by omega)
  obtain ⟨_,hyl0,hyc0⟩:=World.cells?_some h0
  have h00:=hyc0 0 hsz
  rw [List.getElem?_eq_getElem (by omega),Nat.zero_mul] at h00
  have hsp:sp=none:=World.cell?_spot h00
  subst hsp
  refine ⟨b,o,ys,rfl,trivial,hyl,fun j y hj=>?_,h2⟩
  have hjl:j < sz:=by have:=(List.getElem?_eq_some_iff.1 hj).1;omega
  have h3:=hyc j hjl
  rw [hj,add_add] at h3
  have e:(⟨b,o,none⟩:Addr).add (i*sz+j)=⟨b,o+(i*sz+j),none⟩:=by
   unfold Addr.add
   split
   ·rename_i h;rw [h];rfl
   ·rfl
  rw [e] at h3
  exact h3
structure User where
 name:ByteArray
 lost:Bool
def YS:Rp User:=fun S w cs x=>cs=[.string x.name,.bool x.lost]/\x.name.size<=140737488355328
theorem zJg {S:Nat->Prop} {w:World} {cs:List Value} {x:User} (h:YS S w cs x):cs.length=2:=by
 obtain ⟨rfl,_⟩:=h
 rfl
theorem z1h {S S':Nat->Prop} {w w':World} {cs:List Value} {x:User} (h:YS S w cs x) (k:Kept S S' w w'):YS S' w' cs x:=by
 obtain ⟨e,c0⟩:=h
 exact ⟨e,c0⟩
theorem zJh {S:Nat->Prop} {w:World} {cs:List Value} {x:User} (h:YS S w cs x):∀u∈cs,u.oneCell'=true:=by
 obtain ⟨e,_⟩:=h
 intro u hu
 rw [e] at hu
 simp only [List.mem_cons,List.not_mem_nil,or_false] at hu
 rcases hu with rfl | rfl<;>rfl
theorem z1x:RpOk 2 YS:=⟨zJg,z1h,zJh⟩
theorem z7j {S:Nat->Prop} {w:World} {cs:List Value} {x:User} (h:YS S w cs x):cs=[.string x.name,.bool x.lost]/\x.name.size<=140737488355328:=by
 obtain ⟨e,c0⟩:=h
 exact ⟨e,c0⟩
theorem z9a {S S':Nat->Prop} {w wr:World} {A:Option Addr} {l:List User} {k:Nat} (s:SlAt 2 YS S w A l) (hk:k < l.length) (hb:Kept S S' w wr):
  ∃x b o,l[k]? =some x/\l.drop k=x :: l.drop (k+1)/\x∈l/\A=some ⟨b,o,none⟩/\b < w.heap.size/\S b/\wr.cell? ⟨b,o+k*2,none⟩=some (.string x.name)/\wr.cell? ⟨b,o+k*2+1,none⟩=some (.bool x.lost)/\YS S' wr [.string x.name,.bool x.lost] x/\x.name.size<=140737488355328:=by
 obtain ⟨x,hx,hd,hm⟩:=z3e hk
 obtain ⟨b,o,_,hA,hS,_,hc,hR⟩:=s k _ hx
 have hR':=z1h hR hb
 obtain ⟨e,hrest⟩:=z7j hR'
 subst e
 have c0':wr.cell? ⟨b,o+k*2,none⟩=_:=Z0 (p:=⟨b,o+(k*2+0),none⟩) hb hS (hc 0 _ rfl)
 have c1':wr.cell? ⟨b,o+k*2+1,none⟩=_:=Z0 (p:=⟨b,o+(k*2+1),none⟩) hb hS (hc 1 _ rfl)
 exact ⟨x,b,o,hx,hd,hm,hA,zF (hc 0 _ rfl),hS,c0',c1',hR',hrest⟩
structure Pair where
 frm:ByteArray
 to:ByteArray
def YN:Rp Pair:=fun S w cs x=>cs=[.string x.frm,.string x.to]/\x.frm.size<=140737488355328/\x.to.size<=140737488355328
theorem zJi {S:Nat->Prop} {w:World} {cs:List Value} {x:Pair} (h:YN S w cs x):cs.length=2:=by
 obtain ⟨rfl,_,_⟩:=h
 rfl
theorem z1y {S S':Nat->Prop} {w w':World} {cs:List Value} {x:Pair} (h:YN S w cs x) (k:Kept S S' w w'):YN S' w' cs x:=by
 obtain ⟨e,c0,c1⟩:=h
 exact ⟨e,c0,c1⟩
theorem zJj {S:Nat->Prop} {w:World} {cs:List Value} {x:Pair} (h:YN S w cs x):∀u∈cs,u.oneCell'=true:=by
 obtain ⟨e,_,_⟩:=h
 intro u hu
 rw [e] at hu
 simp only [List.mem_cons,List.not_mem_nil,or_false] at hu
 rcases hu with rfl | rfl<;>rfl
theorem z13:RpOk 2 YN:=⟨zJi,z1y,zJj⟩
theorem zBt {S:Nat->Prop} {w:World} {cs:List Value} {x:Pair} (h:YN S w cs x):cs=[.string x.frm,.string x.to]/\x.frm.size<=140737488355328/\x.to.size<=140737488355328:=by
 obtain ⟨e,c0,c1⟩:=h
 exact ⟨e,c0,c1⟩
theorem z9b {S S':Nat->Prop} {w wr:World} {A:Option Addr} {l:List Pair} {k:Nat} (s:SlAt 2 YN S w A l) (hk:k < l.length) (hb:Kept S S' w wr):
  ∃x b o,l[k]? =some x/\l.drop k=x :: l.drop (k+1)/\x∈l/\A=some ⟨b,o,none⟩/\b < w.heap.size/\S b/\wr.cell? ⟨b,o+k*2,none⟩=some (.string x.frm)/\wr.cell? ⟨b,o+k*2+1,none⟩=some (.string x.to)/\YN S' wr [.string x.frm,.string x.to] x/\x.frm.size<=140737488355328/\x.to.size<=140737488355328:=by
 obtain ⟨x,hx,hd,hm⟩:=z3e hk
 obtain ⟨b,o,_,hA,hS,_,hc,hR⟩:=s k _ hx
 have hR':=z1y hR hb
 obtain ⟨e,hrest⟩:=zBt hR'
 subst e
 have c0':wr.cell? ⟨b,o+k*2,none⟩=_:=Z0 (p:=⟨b,o+(k*2+0),none⟩) hb hS (hc 0 _ rfl)
 have c1':wr.cell? ⟨b,o+k*2+1,none⟩=_:=Z0 (p:=⟨b,o+(k*2+1),none⟩) hb hS (hc 1 _ rfl)
 exact ⟨x,b,o,hx,hd,hm,hA,zF (hc 0 _ rfl),hS,c0',c1',hR',hrest⟩
structure At where
 name:ByteArray
 seq:Int
def rAt:Rp At:=fun S w cs x=>cs=[.string x.name,.int .i64 x.seq]/\x.name.size<=140737488355328/\I64 x.seq
theorem zNh {S:Nat->Prop} {w:World} {cs:List Value} {x:At} (h:rAt S w cs x):cs.length=2:=by
 obtain ⟨rfl,_,_⟩:=h
 rfl
theorem zE5 {S S':Nat->Prop} {w w':World} {cs:List Value} {x:At} (h:rAt S w cs x) (k:Kept S S' w w'):rAt S' w' cs x:=by
 obtain ⟨e,c0,c1⟩:=h
 exact ⟨e,c0,c1⟩
theorem zNi {S:Nat->Prop} {w:World} {cs:List Value} {x:At} (h:rAt S w cs x):∀u∈cs,u.oneCell'=true:=by
 obtain ⟨e,_,_⟩:=h
 intro u hu
 rw [e] at hu
 simp only [List.mem_cons,List.not_mem_nil,or_false] at hu
 rcases hu with rfl | rfl<;>rfl
theorem ZR:RpOk 2 rAt:=⟨zNh,zE5,zNi⟩
theorem z6a {S:Nat->Prop} {w:World} {cs:List Value} {x:At} (h:rAt S w cs x):cs=[.string x.name,.int .i64 x.seq]/\x.name.size<=140737488355328/\I64 x.seq:=by
 obtain ⟨e,c0,c1⟩:=h
 exact ⟨e,c0,c1⟩
theorem z9v {S S':Nat->Prop} {w wr:World} {A:Option Addr} {l:List At} {k:Nat} (s:SlAt 2 rAt S w A l) (hk:k < l.length) (hb:Kept S S' w wr):
  ∃x b o,l[k]? =some x/\l.drop k=x :: l.drop (k+1)/\x∈l/\A=some ⟨b,o,none⟩/\b < w.heap.size/\S b/\wr.cell? ⟨b,o+k*2,none⟩=some (.string x.name)/\wr.cell? ⟨b,o+k*2+1,none⟩=some (.int .i64 x.seq)/\rAt S' wr [.string x.name,.int .i64 x.seq] x/\x.name.size<=140737488355328/\I64 x.seq:=by
 obtain ⟨x,hx,hd,hm⟩:=z3e hk
 obtain ⟨b,o,_,hA,hS,_,hc,hR⟩:=s k _ hx
 have hR':=zE5 hR hb
 obtain ⟨e,hrest⟩:=z6a hR'
 subst e
 have c0':wr.cell? ⟨b,o+k*2,none⟩=_:=Z0 (p:=⟨b,o+(k*2+0),none⟩) hb hS (hc 0 _ rfl)
 have c1':wr.cell? ⟨b,o+k*2+1,none⟩=_:=Z0 (p:=⟨b,o+(k*2+1),none⟩) hb hS (hc 1 _ rfl)
 exact ⟨x,b,o,hx,hd,hm,hA,zF (hc 0 _ rfl),hS,c0',c1',hR',hrest⟩
structure Member where
 name:ByteArray
 role:Int
def zV:Rp Member:=fun S w cs x=>cs=[.string x.name,.int .i64 x.role]/\x.name.size<=140737488355328/\I64 x.role
theorem zFq {S:Nat->Prop} {w:World} {cs:List Value} {x:Member} (h:zV S w cs x):cs.length=2:=by
 obtain ⟨rfl,_,_⟩:=h
 rfl
theorem z7k {S S':Nat->Prop} {w w':World} {cs:List Value} {x:Member} (h:zV S w cs x) (k:Kept S S' w w'):zV S' w' cs x:=by
 obtain ⟨e,c0,c1⟩:=h
 exact ⟨e,c0,c1⟩
theorem zFr {S:Nat->Prop} {w:World} {cs:List Value} {x:Member} (h:zV S w cs x):∀u∈cs,u.oneCell'=true:=by
 obtain ⟨e,_,_⟩:=h
 intro u hu
 rw [e] at hu
 simp only [List.mem_cons,List.not_mem_nil,or_false] at hu
 rcases hu with rfl | rfl<;>rfl
theorem Z8:RpOk 2 zV:=⟨zFq,z7k,zFr⟩
theorem z33 {S:Nat->Prop} {w:World} {cs:List Value} {x:Member} (h:zV S w cs x):cs=[.string x.name,.int .i64 x.role]/\x.name.size<=140737488355328/\I64 x.role:=by
 obtain ⟨e,c0,c1⟩:=h
 exact ⟨e,c0,c1⟩
theorem Y4 {S S':Nat->Prop} {w wr:World} {A:Option Addr} {l:List Member} {k:Nat} (s:SlAt 2 zV S w A l) (hk:k < l.length) (hb:Kept S S' w wr):
  ∃x b o,l[k]? =some x/\l.drop k=x :: l.drop (k+1)/\x∈l/\A=some ⟨b,o,none⟩/\b < w.heap.size/\S b/\wr.cell? ⟨b,o+k*2,none⟩=some (.string x.name)/\wr.cell? ⟨b,o+k*2+1,none⟩=some (.int .i64 x.role)/\zV S' wr [.string x.name,.int .i64 x.role] x/\x.name.size<=140737488355328/\I64 x.role:=by
 obtain ⟨x,hx,hd,hm⟩:=z3e hk
 obtain ⟨b,o,_,hA,hS,_,hc,hR⟩:=s k _ hx
 have hR':=z7k hR hb
 obtain ⟨e,hrest⟩:=z33 hR'
 subst e
 have c0':wr.cell? ⟨b,o+k*2,none⟩=_:=Z0 (p:=⟨b,o+(k*2+0),none⟩) hb hS (hc 0 _ rfl)
 have c1':wr.cell? ⟨b,o+k*2+1,none⟩=_:=Z0 (p:=⟨b,o+(k*2+1),none⟩) hb hS (hc 1 _ rfl)
 exact ⟨x,b,o,hx,hd,hm,hA,zF (hc 0 _ rfl),hS,c0',c1',hR',hrest⟩
structure Manifest where
 folder:ByteArray
 seq:Int
 prev:List Int
 parent:ByteArray
 members:List Member
 cut:Int
 gone:Bool
 who:ByteArray
def ZQ:Rp Manifest:=fun S w cs x=>∃v2 v4,cs=[.string x.folder,.int .i64 x.seq,v2,.string x.parent,v4,.int .i64 x.cut,.bool x.gone,.string x.who]/\x.folder.size<=140737488355328/\I64 x.seq/\Sl 1 yI S w v2 x.prev/\x.parent.size<=140737488355328/\Sl 2 zV S w v4 x.members/\I64 x.cut/\x.who.size<=140737488355328
theorem zDp {S:Nat->Prop} {w:World} {cs:List Value} {x:Manifest} (h:ZQ S w cs x):cs.length=8:=by
 obtain ⟨_,_,rfl,_,_,_,_,_,_,_⟩:=h
 rfl
theorem YC {S S':Nat->Prop} {w w':World} {cs:List Value} {x:Manifest} (h:ZQ S w cs x) (k:Kept S S' w w'):ZQ S' w' cs x:=by
 obtain ⟨v2,v4,e,c0,c1,c2,c3,c4,c5,c6⟩:=h
 exact ⟨v2,v4,e,c0,c1,c2.keep rByte_ok (by decide) k,c3,c4.keep Z8 (by decide) k,c5,c6⟩
theorem zDq {S:Nat->Prop} {w:World} {cs:List Value} {x:Manifest} (h:ZQ S w cs x):∀u∈cs,u.oneCell'=true:=by
 obtain ⟨_,_,e,_,_,c2,_,c4,_,_⟩:=h
 obtain ⟨_,_,rfl,_⟩:=c2
 obtain ⟨_,_,rfl,_⟩:=c4
 intro u hu
 rw [e] at hu
 simp only [List.mem_cons,List.not_mem_nil,or_false] at hu
 rcases hu with rfl | rfl | rfl | rfl | rfl | rfl | rfl | rfl<;>rfl
theorem z14:RpOk 8 ZQ:=⟨zDp,YC,zDq⟩
theorem Y0 {S:Nat->Prop} {w:World} {cs:List Value} {x:Manifest} (h:ZQ S w cs x):∃A2 c2 A4 c4,cs=[.string x.folder,.int .i64 x.seq,.slice A2 x.prev.length c2,.string x.parent,.slice A4 x.members.length c4,.int .i64 x.cut,.bool x.gone,.string x.who]/\x.folder.size<=140737488355328/\I64 x.seq/\x.prev.length<=c2/\c2<=9223372036854775807/\x.prev.length<=140737488355328/\SlAt 1 yI S w A2 x.prev/\x.parent.size<=140737488355328/\x.members.length<=c4/\c4<=9223372036854775807/\x.members.length<=140737488355328/\SlAt 2 zV S w A4 x.members/\I64 x.cut/\x.who.size<=140737488355328:=by
 obtain ⟨_,_,e,c0,c1,c2,c3,c4,c5,c6⟩:=h
 obtain ⟨A2,k2,rfl,l2,m2,n2,s2⟩:=c2
 obtain ⟨A4,k4,rfl,l4,m4,n4,s4⟩:=c4
 exact ⟨A2,k2,A4,k4,e,c0,c1,l2,(by simpa [maxLen] using m2),n2,s2,c3,l4,(by simpa [maxLen] using m4),n4,s4,c5,c6⟩
theorem z5d {S S':Nat->Prop} {w wr:World} {A:Option Addr} {l:List Manifest} {k:Nat} (s:SlAt 8 ZQ S w A l) (hk:k < l.length) (hb:Kept S S' w wr):
  ∃x b o A2 c2 A4 c4,l[k]? =some x/\l.drop k=x :: l.drop (k+1)/\x∈l/\A=some ⟨b,o,none⟩/\b < w.heap.size/\S b/\wr.cell? ⟨b,o+k*8,none⟩=some (.string x.folder)/\wr.cell? ⟨b,o+k*8+1,none⟩=some (.int .i64 x.seq)/\wr.cell? ⟨b,o+k*8+2,none⟩=some (.slice A2 x.prev.length c2)/\wr.cell? ⟨b,o+k*8+3,none⟩=some (.string x.parent)/\wr.cell? ⟨b,o+k*8+4,none⟩=some (.slice A4 x.members.length c4)/\wr.cell? ⟨b,o+k*8+5,none⟩=some (.int .i64 x.cut)/\wr.cell? ⟨b,o+k*8+6,none⟩=some (.bool x.gone)/\wr.cell? ⟨b,o+k*8+7,none⟩=some (.string x.who)/\ZQ S' wr [.string x.folder,.int .i64 x.seq,.slice A2 x.prev.length c2,.string x.parent,.slice A4 x.members.length c4,.int .i64 x.cut,.bool x.gone,.string x.who] x/\x.folder.size<=140737488355328/\I64 x.seq/\x.prev.length<=c2/\c2<=9223372036854775807/\x.prev.length<=140737488355328/\SlAt 1 yI S' wr A2 x.prev/\x.parent.size<=140737488355328/\x.members.length<=c4/\c4<=9223372036854775807/\x.members.length<=140737488355328/\SlAt 2 zV S' wr A4 x.members/\I64 x.cut/\x.who.size<=140737488355328:=by
 obtain ⟨x,hx,hd,hm⟩:=z3e hk
 obtain ⟨b,o,_,hA,hS,_,hc,hR⟩:=s k _ hx
 have hR':=YC hR hb
 obtain ⟨A2,c2,A4,c4,e,hrest⟩:=Y0 hR'
 subst e
 have c0':wr.cell? ⟨b,o+k*8,none⟩=_:=Z0 (p:=⟨b,o+(k*8+0),none⟩) hb hS (hc 0 _ rfl)
 have c1':wr.cell? ⟨b,o+k*8+1,none⟩=_:=Z0 (p:=⟨b,o+(k*8+1),none⟩) hb hS (hc 1 _ rfl)
 have c2':wr.cell? ⟨b,o+k*8+2,none⟩=_:=Z0 (p:=⟨b,o+(k*8+2),none⟩) hb hS (hc 2 _ rfl)
 have c3':wr.cell? ⟨b,o+k*8+3,none⟩=_:=Z0 (p:=⟨b,o+(k*8+3),none⟩) hb hS (hc 3 _ rfl)
 have c4':wr.cell? ⟨b,o+k*8+4,none⟩=_:=Z0 (p:=⟨b,o+(k*8+4),none⟩) hb hS (hc 4 _ rfl)
 have c5':wr.cell? ⟨b,o+k*8+5,none⟩=_:=Z0 (p:=⟨b,o+(k*8+5),none⟩) hb hS (hc 5 _ rfl)
 have c6':wr.cell? ⟨b,o+k*8+6,none⟩=_:=Z0 (p:=⟨b,o+(k*8+6),none⟩) hb hS (hc 6 _ rfl)
 have c7':wr.cell? ⟨b,o+k*8+7,none⟩=_:=Z0 (p:=⟨b,o+(k*8+7),none⟩) hb hS (hc 7 _ rfl)
 exact ⟨x,b,o,A2,c2,A4,c4,hx,hd,hm,hA,zF (hc 0 _ rfl),hS,c0',c1',c2',c3',c4',c5',c6',c7',hR',hrest⟩
structure Epoch where
 place:Int
 frm:Int
 seq:Int
 chain:List At
 who:ByteArray
def Y5:Rp Epoch:=fun S w cs x=>∃v3,cs=[.int .i64 x.place,.int .i64 x.frm,.int .i64 x.seq,v3,.string x.who]/\I64 x.place/\I64 x.frm/\I64 x.seq/\Sl 2 rAt S w v3 x.chain/\x.who.size<=140737488355328
theorem zHj {S:Nat->Prop} {w:World} {cs:List Value} {x:Epoch} (h:Y5 S w cs x):cs.length=5:=by
 obtain ⟨_,rfl,_,_,_,_,_⟩:=h
 rfl
theorem z0x {S S':Nat->Prop} {w w':World} {cs:List Value} {x:Epoch} (h:Y5 S w cs x) (k:Kept S S' w w'):Y5 S' w' cs x:=by
 obtain ⟨v3,e,c0,c1,c2,c3,c4⟩:=h
 exact ⟨v3,e,c0,c1,c2,c3.keep ZR (by decide) k,c4⟩
theorem zHk {S:Nat->Prop} {w:World} {cs:List Value} {x:Epoch} (h:Y5 S w cs x):∀u∈cs,u.oneCell'=true:=by
 obtain ⟨_,e,_,_,_,c3,_⟩:=h
 obtain ⟨_,_,rfl,_⟩:=c3
 intro u hu
 rw [e] at hu
 simp only [List.mem_cons,List.not_mem_nil,or_false] at hu
 rcases hu with rfl | rfl | rfl | rfl | rfl<;>rfl
theorem z2m:RpOk 5 Y5:=⟨zHj,z0x,zHk⟩
theorem z3y {S:Nat->Prop} {w:World} {cs:List Value} {x:Epoch} (h:Y5 S w cs x):∃A3 c3,cs=[.int .i64 x.place,.int .i64 x.frm,.int .i64 x.seq,.slice A3 x.chain.length c3,.string x.who]/\I64 x.place/\I64 x.frm/\I64 x.seq/\x.chain.length<=c3/\c3<=9223372036854775807/\x.chain.length<=140737488355328/\SlAt 2 rAt S w A3 x.chain/\x.who.size<=140737488355328:=by
 obtain ⟨_,e,c0,c1,c2,c3,c4⟩:=h
 obtain ⟨A3,k3,rfl,l3,m3,n3,s3⟩:=c3
 exact ⟨A3,k3,e,c0,c1,c2,l3,(by simpa [maxLen] using m3),n3,s3,c4⟩
theorem zBu {S S':Nat->Prop} {w wr:World} {A:Option Addr} {l:List Epoch} {k:Nat} (s:SlAt 5 Y5 S w A l) (hk:k < l.length) (hb:Kept S S' w wr):
  ∃x b o A3 c3,l[k]? =some x/\l.drop k=x :: l.drop (k+1)/\x∈l/\A=some ⟨b,o,none⟩/\b < w.heap.size/\S b/\wr.cell? ⟨b,o+k*5,none⟩=some (.int .i64 x.place)/\wr.cell? ⟨b,o+k*5+1,none⟩=some (.int .i64 x.frm)/\wr.cell? ⟨b,o+k*5+2,none⟩=some (.int .i64 x.seq)/\wr.cell? ⟨b,o+k*5+3,none⟩=some (.slice A3 x.chain.length c3)/\wr.cell? ⟨b,o+k*5+4,none⟩=some (.string x.who)/\Y5 S' wr [.int .i64 x.place,.int .i64 x.frm,.int .i64 x.seq,.slice A3 x.chain.length c3,.string x.who] x/\I64 x.place/\I64 x.frm/\I64 x.seq/\x.chain.length<=c3/\c3<=9223372036854775807/\x.chain.length<=140737488355328/\SlAt 2 rAt S' wr A3 x.chain/\x.who.size<=140737488355328:=by
 obtain ⟨x,hx,hd,hm⟩:=z3e hk
 obtain ⟨b,o,_,hA,hS,_,hc,hR⟩:=s k _ hx
 have hR':=z0x hR hb
 obtain ⟨A3,c3,e,hrest⟩:=z3y hR'
 subst e
 have c0':wr.cell? ⟨b,o+k*5,none⟩=_:=Z0 (p:=⟨b,o+(k*5+0),none⟩) hb hS (hc 0 _ rfl)
 have c1':wr.cell? ⟨b,o+k*5+1,none⟩=_:=Z0 (p:=⟨b,o+(k*5+1),none⟩) hb hS (hc 1 _ rfl)
 have c2':wr.cell? ⟨b,o+k*5+2,none⟩=_:=Z0 (p:=⟨b,o+(k*5+2),none⟩) hb hS (hc 2 _ rfl)
 have c3':wr.cell? ⟨b,o+k*5+3,none⟩=_:=Z0 (p:=⟨b,o+(k*5+3),none⟩) hb hS (hc 3 _ rfl)
 have c4':wr.cell? ⟨b,o+k*5+4,none⟩=_:=Z0 (p:=⟨b,o+(k*5+4),none⟩) hb hS (hc 4 _ rfl)
 exact ⟨x,b,o,A3,c3,hx,hd,hm,hA,zF (hc 0 _ rfl),hS,c0',c1',c2',c3',c4',hR',hrest⟩
structure Version where
 epoch:Int
 gone:Bool
 who:ByteArray
 data:List Int
def yC:Rp Version:=fun S w cs x=>∃v3,cs=[.int .i64 x.epoch,.bool x.gone,.string x.who,v3]/\I64 x.epoch/\x.who.size<=140737488355328/\Sl 1 yI S w v3 x.data
theorem zE6 {S:Nat->Prop} {w:World} {cs:List Value} {x:Version} (h:yC S w cs x):cs.length=4:=by
 obtain ⟨_,rfl,_,_,_⟩:=h
 rfl
theorem YY {S S':Nat->Prop} {w w':World} {cs:List Value} {x:Version} (h:yC S w cs x) (k:Kept S S' w w'):yC S' w' cs x:=by
 obtain ⟨v3,e,c0,c1,c2⟩:=h
 exact ⟨v3,e,c0,c1,c2.keep rByte_ok (by decide) k⟩
theorem zE7 {S:Nat->Prop} {w:World} {cs:List Value} {x:Version} (h:yC S w cs x):∀u∈cs,u.oneCell'=true:=by
 obtain ⟨_,e,_,_,c2⟩:=h
 obtain ⟨_,_,rfl,_⟩:=c2
 intro u hu
 rw [e] at hu
 simp only [List.mem_cons,List.not_mem_nil,or_false] at hu
 rcases hu with rfl | rfl | rfl | rfl<;>rfl
theorem z2g:RpOk 4 yC:=⟨zE6,YY,zE7⟩
theorem z7l {S:Nat->Prop} {w:World} {cs:List Value} {x:Version} (h:yC S w cs x):∃A3 c3,cs=[.int .i64 x.epoch,.bool x.gone,.string x.who,.slice A3 x.data.length c3]/\I64 x.epoch/\x.who.size<=140737488355328/\x.data.length<=c3/\c3<=9223372036854775807/\x.data.length<=140737488355328/\SlAt 1 yI S w A3 x.data:=by
 obtain ⟨_,e,c0,c1,c2⟩:=h
 obtain ⟨A3,k3,rfl,l3,m3,n3,s3⟩:=c2
 exact ⟨A3,k3,e,c0,c1,l3,(by simpa [maxLen] using m3),n3,s3⟩
theorem z4i {S S':Nat->Prop} {w wr:World} {A:Option Addr} {l:List Version} {k:Nat} (s:SlAt 4 yC S w A l) (hk:k < l.length) (hb:Kept S S' w wr):
  ∃x b o A3 c3,l[k]? =some x/\l.drop k=x :: l.drop (k+1)/\x∈l/\A=some ⟨b,o,none⟩/\b < w.heap.size/\S b/\wr.cell? ⟨b,o+k*4,none⟩=some (.int .i64 x.epoch)/\wr.cell? ⟨b,o+k*4+1,none⟩=some (.bool x.gone)/\wr.cell? ⟨b,o+k*4+2,none⟩=some (.string x.who)/\wr.cell? ⟨b,o+k*4+3,none⟩=some (.slice A3 x.data.length c3)/\yC S' wr [.int .i64 x.epoch,.bool x.gone,.string x.who,.slice A3 x.data.length c3] x/\I64 x.epoch/\x.who.size<=140737488355328/\x.data.length<=c3/\c3<=9223372036854775807/\x.data.length<=140737488355328/\SlAt 1 yI S' wr A3 x.data:=by
 obtain ⟨x,hx,hd,hm⟩:=z3e hk
 obtain ⟨b,o,_,hA,hS,_,hc,hR⟩:=s k _ hx
 have hR':=YY hR hb
 obtain ⟨A3,c3,e,hrest⟩:=z7l hR'
 subst e
 have c0':wr.cell? ⟨b,o+k*4,none⟩=_:=Z0 (p:=⟨b,o+(k*4+0),none⟩) hb hS (hc 0 _ rfl)
 have c1':wr.cell? ⟨b,o+k*4+1,none⟩=_:=Z0 (p:=⟨b,o+(k*4+1),none⟩) hb hS (hc 1 _ rfl)
 have c2':wr.cell? ⟨b,o+k*4+2,none⟩=_:=Z0 (p:=⟨b,o+(k*4+2),none⟩) hb hS (hc 2 _ rfl)
 have c3':wr.cell? ⟨b,o+k*4+3,none⟩=_:=Z0 (p:=⟨b,o+(k*4+3),none⟩) hb hS (hc 3 _ rfl)
 exact ⟨x,b,o,A3,c3,hx,hd,hm,hA,zF (hc 0 _ rfl),hS,c0',c1',c2',c3',hR',hrest⟩
structure Item where
 name:ByteArray
 versions:List Version
def yW:Rp Item:=fun S w cs x=>∃v1,cs=[.string x.name,v1]/\x.name.size<=140737488355328/\Sl 4 yC S w v1 x.versions
theorem zJk {S:Nat->Prop} {w:World} {cs:List Value} {x:Item} (h:yW S w cs x):cs.length=2:=by
 obtain ⟨_,rfl,_,_⟩:=h
 rfl
theorem z3z {S S':Nat->Prop} {w w':World} {cs:List Value} {x:Item} (h:yW S w cs x) (k:Kept S S' w w'):yW S' w' cs x:=by
 obtain ⟨v1,e,c0,c1⟩:=h
 exact ⟨v1,e,c0,c1.keep z2g (by decide) k⟩
theorem zJl {S:Nat->Prop} {w:World} {cs:List Value} {x:Item} (h:yW S w cs x):∀u∈cs,u.oneCell'=true:=by
 obtain ⟨_,e,_,c1⟩:=h
 obtain ⟨_,_,rfl,_⟩:=c1
 intro u hu
 rw [e] at hu
 simp only [List.mem_cons,List.not_mem_nil,or_false] at hu
 rcases hu with rfl | rfl<;>rfl
theorem z1z:RpOk 2 yW:=⟨zJk,z3z,zJl⟩
theorem z3l {S:Nat->Prop} {w:World} {cs:List Value} {x:Item} (h:yW S w cs x):∃A1 c1,cs=[.string x.name,.slice A1 x.versions.length c1]/\x.name.size<=140737488355328/\x.versions.length<=c1/\c1<=9223372036854775807/\x.versions.length<=140737488355328/\SlAt 4 yC S w A1 x.versions:=by
 obtain ⟨_,e,c0,c1⟩:=h
 obtain ⟨A1,k1,rfl,l1,m1,n1,s1⟩:=c1
 exact ⟨A1,k1,e,c0,l1,(by simpa [maxLen] using m1),n1,s1⟩
theorem z2n {S S':Nat->Prop} {w wr:World} {A:Option Addr} {l:List Item} {k:Nat} (s:SlAt 2 yW S w A l) (hk:k < l.length) (hb:Kept S S' w wr):
  ∃x b o A1 c1,l[k]? =some x/\l.drop k=x :: l.drop (k+1)/\x∈l/\A=some ⟨b,o,none⟩/\b < w.heap.size/\S b/\wr.cell? ⟨b,o+k*2,none⟩=some (.string x.name)/\wr.cell? ⟨b,o+k*2+1,none⟩=some (.slice A1 x.versions.length c1)/\yW S' wr [.string x.name,.slice A1 x.versions.length c1] x/\x.name.size<=140737488355328/\x.versions.length<=c1/\c1<=9223372036854775807/\x.versions.length<=140737488355328/\SlAt 4 yC S' wr A1 x.versions:=by
 obtain ⟨x,hx,hd,hm⟩:=z3e hk
 obtain ⟨b,o,_,hA,hS,_,hc,hR⟩:=s k _ hx
 have hR':=z3z hR hb
 obtain ⟨A1,c1,e,hrest⟩:=z3l hR'
 subst e
 have c0':wr.cell? ⟨b,o+k*2,none⟩=_:=Z0 (p:=⟨b,o+(k*2+0),none⟩) hb hS (hc 0 _ rfl)
 have c1':wr.cell? ⟨b,o+k*2+1,none⟩=_:=Z0 (p:=⟨b,o+(k*2+1),none⟩) hb hS (hc 1 _ rfl)
 exact ⟨x,b,o,A1,c1,hx,hd,hm,hA,zF (hc 0 _ rfl),hS,c0',c1',hR',hrest⟩
structure Wrap where
 name:ByteArray
 epoch:Int
 seed:Bool
def Y1:Rp Wrap:=fun S w cs x=>cs=[.string x.name,.int .i64 x.epoch,.bool x.seed]/\x.name.size<=140737488355328/\I64 x.epoch
theorem zJm {S:Nat->Prop} {w:World} {cs:List Value} {x:Wrap} (h:Y1 S w cs x):cs.length=3:=by
 obtain ⟨rfl,_,_⟩:=h
 rfl
theorem z20 {S S':Nat->Prop} {w w':World} {cs:List Value} {x:Wrap} (h:Y1 S w cs x) (k:Kept S S' w w'):Y1 S' w' cs x:=by
 obtain ⟨e,c0,c1⟩:=h
 exact ⟨e,c0,c1⟩
theorem zBv {S:Nat->Prop} {w:World} {cs:List Value} {x:Wrap} (h:Y1 S w cs x):∀u∈cs,u.oneCell'=true:=by
 obtain ⟨e,_,_⟩:=h
 intro u hu
 rw [e] at hu
 simp only [List.mem_cons,List.not_mem_nil,or_false] at hu
 rcases hu with rfl | rfl | rfl<;>rfl
theorem z21:RpOk 3 Y1:=⟨zJm,z20,zBv⟩
theorem z3m {S:Nat->Prop} {w:World} {cs:List Value} {x:Wrap} (h:Y1 S w cs x):cs=[.string x.name,.int .i64 x.epoch,.bool x.seed]/\x.name.size<=140737488355328/\I64 x.epoch:=by
 obtain ⟨e,c0,c1⟩:=h
 exact ⟨e,c0,c1⟩
theorem z6l {S S':Nat->Prop} {w wr:World} {A:Option Addr} {l:List Wrap} {k:Nat} (s:SlAt 3 Y1 S w A l) (hk:k < l.length) (hb:Kept S S' w wr):
  ∃x b o,l[k]? =some x/\l.drop k=x :: l.drop (k+1)/\x∈l/\A=some ⟨b,o,none⟩/\b < w.heap.size/\S b/\wr.cell? ⟨b,o+k*3,none⟩=some (.string x.name)/\wr.cell? ⟨b,o+k*3+1,none⟩=some (.int .i64 x.epoch)/\wr.cell? ⟨b,o+k*3+2,none⟩=some (.bool x.seed)/\Y1 S' wr [.string x.name,.int .i64 x.epoch,.bool x.seed] x/\x.name.size<=140737488355328/\I64 x.epoch:=by
 obtain ⟨x,hx,hd,hm⟩:=z3e hk
 obtain ⟨b,o,_,hA,hS,_,hc,hR⟩:=s k _ hx
 have hR':=z20 hR hb
 obtain ⟨e,hrest⟩:=z3m hR'
 subst e
 have c0':wr.cell? ⟨b,o+k*3,none⟩=_:=Z0 (p:=⟨b,o+(k*3+0),none⟩) hb hS (hc 0 _ rfl)
 have c1':wr.cell? ⟨b,o+k*3+1,none⟩=_:=Z0 (p:=⟨b,o+(k*3+1),none⟩) hb hS (hc 1 _ rfl)
 have c2':wr.cell? ⟨b,o+k*3+2,none⟩=_:=Z0 (p:=⟨b,o+(k*3+2),none⟩) hb hS (hc 2 _ rfl)
 exact ⟨x,b,o,hx,hd,hm,hA,zF (hc 0 _ rfl),hS,c0',c1',c2',hR',hrest⟩
structure Link where
 epoch:Int
 to:ByteArray
 seq:Int
def YK:Rp Link:=fun S w cs x=>cs=[.int .i64 x.epoch,.string x.to,.int .i64 x.seq]/\I64 x.epoch/\x.to.size<=140737488355328/\I64 x.seq
theorem zJn {S:Nat->Prop} {w:World} {cs:List Value} {x:Link} (h:YK S w cs x):cs.length=3:=by
 obtain ⟨rfl,_,_,_⟩:=h
 rfl
theorem z40 {S S':Nat->Prop} {w w':World} {cs:List Value} {x:Link} (h:YK S w cs x) (k:Kept S S' w w'):YK S' w' cs x:=by
 obtain ⟨e,c0,c1,c2⟩:=h
 exact ⟨e,c0,c1,c2⟩
theorem zJo {S:Nat->Prop} {w:World} {cs:List Value} {x:Link} (h:YK S w cs x):∀u∈cs,u.oneCell'=true:=by
 obtain ⟨e,_,_,_⟩:=h
 intro u hu
 rw [e] at hu
 simp only [List.mem_cons,List.not_mem_nil,or_false] at hu
 rcases hu with rfl | rfl | rfl<;>rfl
theorem z23:RpOk 3 YK:=⟨zJn,z40,zJo⟩
theorem z7m {S:Nat->Prop} {w:World} {cs:List Value} {x:Link} (h:YK S w cs x):cs=[.int .i64 x.epoch,.string x.to,.int .i64 x.seq]/\I64 x.epoch/\x.to.size<=140737488355328/\I64 x.seq:=by
 obtain ⟨e,c0,c1,c2⟩:=h
 exact ⟨e,c0,c1,c2⟩
theorem z9c {S S':Nat->Prop} {w wr:World} {A:Option Addr} {l:List Link} {k:Nat} (s:SlAt 3 YK S w A l) (hk:k < l.length) (hb:Kept S S' w wr):
  ∃x b o,l[k]? =some x/\l.drop k=x :: l.drop (k+1)/\x∈l/\A=some ⟨b,o,none⟩/\b < w.heap.size/\S b/\wr.cell? ⟨b,o+k*3,none⟩=some (.int .i64 x.epoch)/\wr.cell? ⟨b,o+k*3+1,none⟩=some (.string x.to)/\wr.cell? ⟨b,o+k*3+2,none⟩=some (.int .i64 x.seq)/\YK S' wr [.int .i64 x.epoch,.string x.to,.int .i64 x.seq] x/\I64 x.epoch/\x.to.size<=140737488355328/\I64 x.seq:=by
 obtain ⟨x,hx,hd,hm⟩:=z3e hk
 obtain ⟨b,o,_,hA,hS,_,hc,hR⟩:=s k _ hx
 have hR':=z40 hR hb
 obtain ⟨e,hrest⟩:=z7m hR'
 subst e
 have c0':wr.cell? ⟨b,o+k*3,none⟩=_:=Z0 (p:=⟨b,o+(k*3+0),none⟩) hb hS (hc 0 _ rfl)
 have c1':wr.cell? ⟨b,o+k*3+1,none⟩=_:=Z0 (p:=⟨b,o+(k*3+1),none⟩) hb hS (hc 1 _ rfl)
 have c2':wr.cell? ⟨b,o+k*3+2,none⟩=_:=Z0 (p:=⟨b,o+(k*3+2),none⟩) hb hS (hc 2 _ rfl)
 exact ⟨x,b,o,hx,hd,hm,hA,zF (hc 0 _ rfl),hS,c0',c1',c2',hR',hrest⟩
structure Folder where
 name:ByteArray
 turn:Int
 manifests:List Manifest
 epochs:List Epoch
 items:List Item
 wraps:List Wrap
 links:List Link
def ZE:Rp Folder:=fun S w cs x=>∃v2 v3 v4 v5 v6,cs=[.string x.name,.int .i64 x.turn,v2,v3,v4,v5,v6]/\x.name.size<=140737488355328/\I64 x.turn/\Sl 8 ZQ S w v2 x.manifests/\Sl 5 Y5 S w v3 x.epochs/\Sl 2 yW S w v4 x.items/\Sl 3 Y1 S w v5 x.wraps/\Sl 3 YK S w v6 x.links
theorem zFs {S:Nat->Prop} {w:World} {cs:List Value} {x:Folder} (h:ZE S w cs x):cs.length=7:=by
 obtain ⟨_,_,_,_,_,rfl,_,_,_,_,_,_,_⟩:=h
 rfl
theorem ZC {S S':Nat->Prop} {w w':World} {cs:List Value} {x:Folder} (h:ZE S w cs x) (k:Kept S S' w w'):ZE S' w' cs x:=by
 obtain ⟨v2,v3,v4,v5,v6,e,c0,c1,c2,c3,c4,c5,c6⟩:=h
 exact ⟨v2,v3,v4,v5,v6,e,c0,c1,c2.keep z14 (by decide) k,c3.keep z2m (by decide) k,c4.keep z1z (by decide) k,c5.keep z21 (by decide) k,c6.keep z23 (by decide) k⟩
theorem z8w {S:Nat->Prop} {w:World} {cs:List Value} {x:Folder} (h:ZE S w cs x):∀u∈cs,u.oneCell'=true:=by
 obtain ⟨_,_,_,_,_,e,_,_,c2,c3,c4,c5,c6⟩:=h
 obtain ⟨_,_,rfl,_⟩:=c2
 obtain ⟨_,_,rfl,_⟩:=c3
 obtain ⟨_,_,rfl,_⟩:=c4
 obtain ⟨_,_,rfl,_⟩:=c5
 obtain ⟨_,_,rfl,_⟩:=c6
 intro u hu
 rw [e] at hu
 simp only [List.mem_cons,List.not_mem_nil,or_false] at hu
 rcases hu with rfl | rfl | rfl | rfl | rfl | rfl | rfl<;>rfl
theorem z0b:RpOk 7 ZE:=⟨zFs,ZC,z8w⟩
theorem ZB {S:Nat->Prop} {w:World} {cs:List Value} {x:Folder} (h:ZE S w cs x):∃A2 c2 A3 c3 A4 c4 A5 c5 A6 c6,cs=[.string x.name,.int .i64 x.turn,.slice A2 x.manifests.length c2,.slice A3 x.epochs.length c3,.slice A4 x.items.length c4,.slice A5 x.wraps.length c5,.slice A6 x.links.length c6]/\x.name.size<=140737488355328/\I64 x.turn/\x.manifests.length<=c2/\c2<=9223372036854775807/\x.manifests.length<=140737488355328/\SlAt 8 ZQ S w A2 x.manifests/\x.epochs.length<=c3/\c3<=9223372036854775807/\x.epochs.length<=140737488355328/\SlAt 5 Y5 S w A3 x.epochs/\x.items.length<=c4/\c4<=9223372036854775807/\x.items.length<=140737488355328/\SlAt 2 yW S w A4 x.items/\x.wraps.length<=c5/\c5<=9223372036854775807/\x.wraps.length<=140737488355328/\SlAt 3 Y1 S w A5 x.wraps/\x.links.length<=c6/\c6<=9223372036854775807/\x.links.length<=140737488355328/\SlAt 3 YK S w A6 x.links:=by
 obtain ⟨_,_,_,_,_,e,c0,c1,c2,c3,c4,c5,c6⟩:=h
 obtain ⟨A2,k2,rfl,l2,m2,n2,s2⟩:=c2
 obtain ⟨A3,k3,rfl,l3,m3,n3,s3⟩:=c3
 obtain ⟨A4,k4,rfl,l4,m4,n4,s4⟩:=c4
 obtain ⟨A5,k5,rfl,l5,m5,n5,s5⟩:=c5
 obtain ⟨A6,k6,rfl,l6,m6,n6,s6⟩:=c6
 exact ⟨A2,k2,A3,k3,A4,k4,A5,k5,A6,k6,e,c0,c1,l2,(by simpa [maxLen] using m2),n2,s2,l3,(by simpa [maxLen] using m3),n3,s3,l4,(by simpa [maxLen] using m4),n4,s4,l5,(by simpa [maxLen] using m5),n5,s5,l6,(by simpa [maxLen] using m6),n6,s6⟩
theorem z2x {S S':Nat->Prop} {w wr:World} {A:Option Addr} {l:List Folder} {k:Nat} (s:SlAt 7 ZE S w A l) (hk:k < l.length) (hb:Kept S S' w wr):
  ∃x b o A2 c2 A3 c3 A4 c4 A5 c5 A6 c6,l[k]? =some x/\l.drop k=x :: l.drop (k+1)/\x∈l/\A=some ⟨b,o,none⟩/\b < w.heap.size/\S b/\wr.cell? ⟨b,o+k*7,none⟩=some (.string x.name)/\wr.cell? ⟨b,o+k*7+1,none⟩=some (.int .i64 x.turn)/\wr.cell? ⟨b,o+k*7+2,none⟩=some (.slice A2 x.manifests.length c2)/\wr.cell? ⟨b,o+k*7+3,none⟩=some (.slice A3 x.epochs.length c3)/\wr.cell? ⟨b,o+k*7+4,none⟩=some (.slice A4 x.items.length c4)/\wr.cell? ⟨b,o+k*7+5,none⟩=some (.slice A5 x.wraps.length c5)/\wr.cell? ⟨b,o+k*7+6,none⟩=some (.slice A6 x.links.length c6)/\ZE S' wr [.string x.name,.int .i64 x.turn,.slice A2 x.manifests.length c2,.slice A3 x.epochs.length c3,.slice A4 x.items.length c4,.slice A5 x.wraps.length c5,.slice A6 x.links.length c6] x/\x.name.size<=140737488355328/\I64 x.turn/\x.manifests.length<=c2/\c2<=9223372036854775807/\x.manifests.length<=140737488355328/\SlAt 8 ZQ S' wr A2 x.manifests/\x.epochs.length<=c3/\c3<=9223372036854775807/\x.epochs.length<=140737488355328/\SlAt 5 Y5 S' wr A3 x.epochs/\x.items.length<=c4/\c4<=9223372036854775807/\x.items.length<=140737488355328/\SlAt 2 yW S' wr A4 x.items/\x.wraps.length<=c5/\c5<=9223372036854775807/\x.wraps.length<=140737488355328/\SlAt 3 Y1 S' wr A5 x.wraps/\x.links.length<=c6/\c6<=9223372036854775807/\x.links.length<=140737488355328/\SlAt 3 YK S' wr A6 x.links:=by
 obtain ⟨x,hx,hd,hm⟩:=z3e hk
 obtain ⟨b,o,_,hA,hS,_,hc,hR⟩:=s k _ hx
 have hR':=ZC hR hb
 obtain ⟨A2,c2,A3,c3,A4,c4,A5,c5,A6,c6,e,hrest⟩:=ZB hR'
 subst e
 have c0':wr.cell? ⟨b,o+k*7,none⟩=_:=Z0 (p:=⟨b,o+(k*7+0),none⟩) hb hS (hc 0 _ rfl)
 have c1':wr.cell? ⟨b,o+k*7+1,none⟩=_:=Z0 (p:=⟨b,o+(k*7+1),none⟩) hb hS (hc 1 _ rfl)
 have c2':wr.cell? ⟨b,o+k*7+2,none⟩=_:=Z0 (p:=⟨b,o+(k*7+2),none⟩) hb hS (hc 2 _ rfl)
 have c3':wr.cell? ⟨b,o+k*7+3,none⟩=_:=Z0 (p:=⟨b,o+(k*7+3),none⟩) hb hS (hc 3 _ rfl)
 have c4':wr.cell? ⟨b,o+k*7+4,none⟩=_:=Z0 (p:=⟨b,o+(k*7+4),none⟩) hb hS (hc 4 _ rfl)
 have c5':wr.cell? ⟨b,o+k*7+5,none⟩=_:=Z0 (p:=⟨b,o+(k*7+5),none⟩) hb hS (hc 5 _ rfl)
 have c6':wr.cell? ⟨b,o+k*7+6,none⟩=_:=Z0 (p:=⟨b,o+(k*7+6),none⟩) hb hS (hc 6 _ rfl)
 exact ⟨x,b,o,A2,c2,A3,c3,A4,c4,A5,c5,A6,c6,hx,hd,hm,hA,zF (hc 0 _ rfl),hS,c0',c1',c2',c3',c4',c5',c6',hR',hrest⟩
structure Past where
 number:Int
 epoch:Int
 gone:Bool
 who:ByteArray
def z2y:Rp Past:=fun S w cs x=>cs=[.int .i64 x.number,.int .i64 x.epoch,.bool x.gone,.string x.who]/\I64 x.number/\I64 x.epoch/\x.who.size<=140737488355328
theorem zJp {S:Nat->Prop} {w:World} {cs:List Value} {x:Past} (h:z2y S w cs x):cs.length=4:=by
 obtain ⟨rfl,_,_,_⟩:=h
 rfl
theorem z9w {S S':Nat->Prop} {w w':World} {cs:List Value} {x:Past} (h:z2y S w cs x) (k:Kept S S' w w'):z2y S' w' cs x:=by
 obtain ⟨e,c0,c1,c2⟩:=h
 exact ⟨e,c0,c1,c2⟩
theorem zJq {S:Nat->Prop} {w:World} {cs:List Value} {x:Past} (h:z2y S w cs x):∀u∈cs,u.oneCell'=true:=by
 obtain ⟨e,_,_,_⟩:=h
 intro u hu
 rw [e] at hu
 simp only [List.mem_cons,List.not_mem_nil,or_false] at hu
 rcases hu with rfl | rfl | rfl | rfl<;>rfl
theorem z5e:RpOk 4 z2y:=⟨zJp,z9w,zJq⟩
theorem zJr {S:Nat->Prop} {w:World} {cs:List Value} {x:Past} (h:z2y S w cs x):cs=[.int .i64 x.number,.int .i64 x.epoch,.bool x.gone,.string x.who]/\I64 x.number/\I64 x.epoch/\x.who.size<=140737488355328:=by
 obtain ⟨e,c0,c1,c2⟩:=h
 exact ⟨e,c0,c1,c2⟩
theorem zE8 {S S':Nat->Prop} {w wr:World} {A:Option Addr} {l:List Past} {k:Nat} (s:SlAt 4 z2y S w A l) (hk:k < l.length) (hb:Kept S S' w wr):
  ∃x b o,l[k]? =some x/\l.drop k=x :: l.drop (k+1)/\x∈l/\A=some ⟨b,o,none⟩/\b < w.heap.size/\S b/\wr.cell? ⟨b,o+k*4,none⟩=some (.int .i64 x.number)/\wr.cell? ⟨b,o+k*4+1,none⟩=some (.int .i64 x.epoch)/\wr.cell? ⟨b,o+k*4+2,none⟩=some (.bool x.gone)/\wr.cell? ⟨b,o+k*4+3,none⟩=some (.string x.who)/\z2y S' wr [.int .i64 x.number,.int .i64 x.epoch,.bool x.gone,.string x.who] x/\I64 x.number/\I64 x.epoch/\x.who.size<=140737488355328:=by
 obtain ⟨x,hx,hd,hm⟩:=z3e hk
 obtain ⟨b,o,_,hA,hS,_,hc,hR⟩:=s k _ hx
 have hR':=z9w hR hb
 obtain ⟨e,hrest⟩:=zJr hR'
 subst e
 have c0':wr.cell? ⟨b,o+k*4,none⟩=_:=Z0 (p:=⟨b,o+(k*4+0),none⟩) hb hS (hc 0 _ rfl)
 have c1':wr.cell? ⟨b,o+k*4+1,none⟩=_:=Z0 (p:=⟨b,o+(k*4+1),none⟩) hb hS (hc 1 _ rfl)
 have c2':wr.cell? ⟨b,o+k*4+2,none⟩=_:=Z0 (p:=⟨b,o+(k*4+2),none⟩) hb hS (hc 2 _ rfl)
 have c3':wr.cell? ⟨b,o+k*4+3,none⟩=_:=Z0 (p:=⟨b,o+(k*4+3),none⟩) hb hS (hc 3 _ rfl)
 exact ⟨x,b,o,hx,hd,hm,hA,zF (hc 0 _ rfl),hS,c0',c1',c2',c3',hR',hrest⟩
structure Answer where
 err:Int
 number:Int
 who:ByteArray
 data:List Int
 names:List ByteArray
 members:List Member
 history:List Past
def yS:Rp Answer:=fun S w cs x=>∃v3 v4 v5 v6,cs=[.int .i64 x.err,.int .i64 x.number,.string x.who,v3,v4,v5,v6]/\I64 x.err/\I64 x.number/\x.who.size<=140737488355328/\Sl 1 yI S w v3 x.data/\Sl 1 z44 S w v4 x.names/\Sl 2 zV S w v5 x.members/\Sl 4 z2y S w v6 x.history
theorem Y8 {S S':Nat->Prop} {w w':World} {cs:List Value} {x:Answer} (h:yS S w cs x) (k:Kept S S' w w'):yS S' w' cs x:=by
 obtain ⟨v3,v4,v5,v6,e,c0,c1,c2,c3,c4,c5,c6⟩:=h
 exact ⟨v3,v4,v5,v6,e,c0,c1,c2,c3.keep rByte_ok (by decide) k,c4.keep z3k (by decide) k,c5.keep Z8 (by decide) k,c6.keep z5e (by decide) k⟩
structure Call where
 kind:Int
 user:ByteArray
 folder:ByteArray
 name:ByteArray
 other:ByteArray
 role:Int
 version:Int
 data:List Int
def z01:Rp Call:=fun S w cs x=>∃v7,cs=[.int .i64 x.kind,.string x.user,.string x.folder,.string x.name,.string x.other,.int .i64 x.role,.int .i64 x.version,v7]/\I64 x.kind/\x.user.size<=140737488355328/\x.folder.size<=140737488355328/\x.name.size<=140737488355328/\x.other.size<=140737488355328/\I64 x.role/\I64 x.version/\Sl 1 yI S w v7 x.data
theorem zJs {S:Nat->Prop} {w:World} {cs:List Value} {x:Call} (h:z01 S w cs x):cs.length=8:=by
 obtain ⟨_,rfl,_,_,_,_,_,_,_,_⟩:=h
 rfl
theorem yJ {S S':Nat->Prop} {w w':World} {cs:List Value} {x:Call} (h:z01 S w cs x) (k:Kept S S' w w'):z01 S' w' cs x:=by
 obtain ⟨v7,e,c0,c1,c2,c3,c4,c5,c6,c7⟩:=h
 exact ⟨v7,e,c0,c1,c2,c3,c4,c5,c6,c7.keep rByte_ok (by decide) k⟩
theorem zJt {S:Nat->Prop} {w:World} {cs:List Value} {x:Call} (h:z01 S w cs x):∀u∈cs,u.oneCell'=true:=by
 obtain ⟨_,e,_,_,_,_,_,_,_,c7⟩:=h
 obtain ⟨_,_,rfl,_⟩:=c7
 intro u hu
 rw [e] at hu
 simp only [List.mem_cons,List.not_mem_nil,or_false] at hu
 rcases hu with rfl | rfl | rfl | rfl | rfl | rfl | rfl | rfl<;>rfl
theorem z9d:RpOk 8 z01:=⟨zJs,yJ,zJt⟩
theorem yR {S:Nat->Prop} {w:World} {cs:List Value} {x:Call} (h:z01 S w cs x):∃A7 c7,cs=[.int .i64 x.kind,.string x.user,.string x.folder,.string x.name,.string x.other,.int .i64 x.role,.int .i64 x.version,.slice A7 x.data.length c7]/\I64 x.kind/\x.user.size<=140737488355328/\x.folder.size<=140737488355328/\x.name.size<=140737488355328/\x.other.size<=140737488355328/\I64 x.role/\I64 x.version/\x.data.length<=c7/\c7<=9223372036854775807/\x.data.length<=140737488355328/\SlAt 1 yI S w A7 x.data:=by
 obtain ⟨_,e,c0,c1,c2,c3,c4,c5,c6,c7⟩:=h
 obtain ⟨A7,k7,rfl,l7,m7,n7,s7⟩:=c7
 exact ⟨A7,k7,e,c0,c1,c2,c3,c4,c5,c6,l7,(by simpa [maxLen] using m7),n7,s7⟩
theorem zE9 {S S':Nat->Prop} {w wr:World} {A:Option Addr} {l:List Call} {k:Nat} (s:SlAt 8 z01 S w A l) (hk:k < l.length) (hb:Kept S S' w wr):
  ∃x b o A7 c7,l[k]? =some x/\l.drop k=x :: l.drop (k+1)/\x∈l/\A=some ⟨b,o,none⟩/\b < w.heap.size/\S b/\wr.cell? ⟨b,o+k*8,none⟩=some (.int .i64 x.kind)/\wr.cell? ⟨b,o+k*8+1,none⟩=some (.string x.user)/\wr.cell? ⟨b,o+k*8+2,none⟩=some (.string x.folder)/\wr.cell? ⟨b,o+k*8+3,none⟩=some (.string x.name)/\wr.cell? ⟨b,o+k*8+4,none⟩=some (.string x.other)/\wr.cell? ⟨b,o+k*8+5,none⟩=some (.int .i64 x.role)/\wr.cell? ⟨b,o+k*8+6,none⟩=some (.int .i64 x.version)/\wr.cell? ⟨b,o+k*8+7,none⟩=some (.slice A7 x.data.length c7)/\z01 S' wr [.int .i64 x.kind,.string x.user,.string x.folder,.string x.name,.string x.other,.int .i64 x.role,.int .i64 x.version,.slice A7 x.data.length c7] x/\I64 x.kind/\x.user.size<=140737488355328/\x.folder.size<=140737488355328/\x.name.size<=140737488355328/\x.other.size<=140737488355328/\I64 x.role/\I64 x.version/\x.data.length<=c7/\c7<=9223372036854775807/\x.data.length<=140737488355328/\SlAt 1 yI S' wr A7 x.data:=by
 obtain ⟨x,hx,hd,hm⟩:=z3e hk
 obtain ⟨b,o,_,hA,hS,_,hc,hR⟩:=s k _ hx
 have hR':=yJ hR hb
 obtain ⟨A7,c7,e,hrest⟩:=yR hR'
 subst e
 have c0':wr.cell? ⟨b,o+k*8,none⟩=_:=Z0 (p:=⟨b,o+(k*8+0),none⟩) hb hS (hc 0 _ rfl)
 have c1':wr.cell? ⟨b,o+k*8+1,none⟩=_:=Z0 (p:=⟨b,o+(k*8+1),none⟩) hb hS (hc 1 _ rfl)
 have c2':wr.cell? ⟨b,o+k*8+2,none⟩=_:=Z0 (p:=⟨b,o+(k*8+2),none⟩) hb hS (hc 2 _ rfl)
 have c3':wr.cell? ⟨b,o+k*8+3,none⟩=_:=Z0 (p:=⟨b,o+(k*8+3),none⟩) hb hS (hc 3 _ rfl)
 have c4':wr.cell? ⟨b,o+k*8+4,none⟩=_:=Z0 (p:=⟨b,o+(k*8+4),none⟩) hb hS (hc 4 _ rfl)
 have c5':wr.cell? ⟨b,o+k*8+5,none⟩=_:=Z0 (p:=⟨b,o+(k*8+5),none⟩) hb hS (hc 5 _ rfl)
 have c6':wr.cell? ⟨b,o+k*8+6,none⟩=_:=Z0 (p:=⟨b,o+(k*8+6),none⟩) hb hS (hc 6 _ rfl)
 have c7':wr.cell? ⟨b,o+k*8+7,none⟩=_:=Z0 (p:=⟨b,o+(k*8+7),none⟩) hb hS (hc 7 _ rfl)
 exact ⟨x,b,o,A7,c7,hx,hd,hm,hA,zF (hc 0 _ rfl),hS,c0',c1',c2',c3',c4',c5',c6',c7',hR',hrest⟩
theorem zOq {w:World}:Rd Tryz.prog w 41 z01:=by
 intro H enc base spare held fuel cs x h hz
 obtain ⟨hl,_,hf⟩:=zJf Tryz.underlying41 (by kernel_rfl) (by kernel_rfl) h hz
 match cs,hl with
 | [c0,c1,c2,c3,c4,c5,c6,c7],_=>
  obtain ⟨_,t0,z0⟩:=hf 0 _ rfl
  obtain ⟨a0,(e0:c0=_),b0⟩:=zB2 Tryz.underlying3 t0 z0
  obtain ⟨_,t1,z1⟩:=hf 1 _ rfl
  obtain ⟨a1,(e1:c1=_),b1⟩:=z8e Tryz.underlying9 t1 z1
  obtain ⟨_,t2,z2⟩:=hf 2 _ rfl
  obtain ⟨a2,(e2:c2=_),b2⟩:=z8e Tryz.underlying9 t2 z2
  obtain ⟨_,t3,z3⟩:=hf 3 _ rfl
  obtain ⟨a3,(e3:c3=_),b3⟩:=z8e Tryz.underlying9 t3 z3
  obtain ⟨_,t4,z4⟩:=hf 4 _ rfl
  obtain ⟨a4,(e4:c4=_),b4⟩:=z8e Tryz.underlying9 t4 z4
  obtain ⟨_,t5,z5⟩:=hf 5 _ rfl
  obtain ⟨a5,(e5:c5=_),b5⟩:=zB2 Tryz.underlying3 t5 z5
  obtain ⟨_,t6,z6⟩:=hf 6 _ rfl
  obtain ⟨a6,(e6:c6=_),b6⟩:=zB2 Tryz.underlying3 t6 z6
  obtain ⟨_,t7,z7⟩:=hf 7 _ rfl
  obtain ⟨a7,b7⟩:=zJe (zE4 Tryz.underlying39 (by kernel_rfl) (of_decide_eq_true (by kernel_rfl)) (by decide) (zNf Tryz.underlying5) rByte_ok.len) t7 z7
  have b7':Sl 1 yI _ w c7 a7:=b7
  subst e0 e1 e2 e3 e4 e5 e6
  exact ⟨⟨a0,a1,a2,a3,a4,a5,a6,a7⟩,⟨c7,rfl,b0,b1,b2,b3,b4,b5,b6,b7'⟩⟩
structure State where
 turn:Int
 users:List User
 deposits:List Pair
 folders:List Folder
def yF:Rp State:=fun S w cs x=>∃v1 v2 v3,cs=[.int .i64 x.turn,v1,v2,v3]/\I64 x.turn/\Sl 2 YS S w v1 x.users/\Sl 2 YN S w v2 x.deposits/\Sl 7 ZE S w v3 x.folders
theorem Z7 {S S':Nat->Prop} {w w':World} {cs:List Value} {x:State} (h:yF S w cs x) (k:Kept S S' w w'):yF S' w' cs x:=by
 obtain ⟨v1,v2,v3,e,c0,c1,c2,c3⟩:=h
 exact ⟨v1,v2,v3,e,c0,c1.keep z1x (by decide) k,c2.keep z13 (by decide) k,c3.keep z0b (by decide) k⟩
theorem y8 {S:Nat->Prop} {w:World} {cs:List Value} {x:State} (h:yF S w cs x):∃A1 c1 A2 c2 A3 c3,cs=[.int .i64 x.turn,.slice A1 x.users.length c1,.slice A2 x.deposits.length c2,.slice A3 x.folders.length c3]/\I64 x.turn/\x.users.length<=c1/\c1<=9223372036854775807/\x.users.length<=140737488355328/\SlAt 2 YS S w A1 x.users/\x.deposits.length<=c2/\c2<=9223372036854775807/\x.deposits.length<=140737488355328/\SlAt 2 YN S w A2 x.deposits/\x.folders.length<=c3/\c3<=9223372036854775807/\x.folders.length<=140737488355328/\SlAt 7 ZE S w A3 x.folders:=by
 obtain ⟨_,_,_,e,c0,c1,c2,c3⟩:=h
 obtain ⟨A1,k1,rfl,l1,m1,n1,s1⟩:=c1
 obtain ⟨A2,k2,rfl,l2,m2,n2,s2⟩:=c2
 obtain ⟨A3,k3,rfl,l3,m3,n3,s3⟩:=c3
 exact ⟨A1,k1,A2,k2,A3,k3,e,c0,l1,(by simpa [maxLen] using m1),n1,s1,l2,(by simpa [maxLen] using m2),n2,s2,l3,(by simpa [maxLen] using m3),n3,s3⟩
end
section
open Go.RowKit Go.Deep
def Elems {α:Type} (sz:Nat) (R:Rp α) (S:Nat->Prop) (w:World) (xs:List Value) (l:List α):Prop:=
 ∀i x,l[i]? =some x->∃ys:List Value,ys.length=sz/\(∀j y,ys[j]? =some y->xs[i*sz+j]? =some y)/\R S w ys x
def Own {α:Type} (e:TypeId) (sz:Nat) (R:Rp α) (S:Nat->Prop) (w:World) (base:Nat) (v:Value) (l:List α):Prop:=
 l.length<=140737488355328/\(∀b,S b->b < w.heap.size/\v.ownBlock≠some b)/\∃xs:List Value,w.ownsRow base e sz v l.length xs/\Elems sz R S w xs l
section
variable {α:Type} {e:TypeId} {sz:Nat} {R:Rp α} {S:Nat->Prop} {w w':World} {base:Nat} {v:Value} {l:List α}
theorem Own.nil (hS:∀b,S b->b < w.heap.size):Own e sz R S w base (.slice none 0 0) ([]:List α):=
 ⟨by simp,fun b hb=>⟨hS b hb,by simp [Value.ownBlock]⟩,[],World.ownsRow_nil w base e sz,fun i x hi=>by simp at hi⟩
theorem Own.empty {g:Nat} (hg:w.heap[g]? =some (.cells #[] e (0,0))) (hb:base<=g) (hS:∀b,S b->b < w.heap.size/\b≠g):Own e sz R S w base (.slice (some ⟨g,0,none⟩) 0 0) ([]:List α):=
 ⟨by simp,fun b hb=>⟨(hS b hb).1,by simp only [Value.ownBlock,ne_eq,Option.some.injEq];exact fun h=>(hS b hb).2 h.symm⟩,[],⟨by simp,.inr ⟨g,0,#[],rfl,hb,hg,Nat.le_refl _,Nat.zero_le _,by simp,by simp⟩⟩,fun i x hi=>by simp at hi⟩
theorem Elems.keep (ok:RpOk sz R) {S':Nat->Prop} {xs:List Value} (h:Elems sz R S w xs l) (k:Kept S S' w w'):Elems sz R S' w' xs l:=fun i x hx=>by
 obtain ⟨ys,h1,h2,h3⟩:=h i x hx
 exact ⟨ys,h1,h2,ok.keep h3 k⟩
theorem Own.keep (ok:RpOk sz R) {S':Nat->Prop} (h:Own e sz R S w base v l) (hk:∀b,v.ownBlock=some b->w'.heap[b]? =w.heap[b]?) (k:Kept S S' w w') (hS:∀b,S' b->b < w'.heap.size/\v.ownBlock≠some b):Own e sz R S' w' base v l:=by
 obtain ⟨h1,_,xs,⟨h3,h4⟩,h5⟩:=h
 refine ⟨h1,hS,xs,⟨h3,?_⟩,h5.keep ok k⟩
 rcases h4 with h4 | ⟨g,cap,cur,hv,hb,hg,r⟩
 ·exact .inl h4
 ·exact .inr ⟨g,cap,cur,hv,hb,(hk g (by rw [hv];rfl)).trans hg,r⟩
theorem Own.sl (ok:RpOk sz R) (h:Own e sz R S w base v l):Sl sz R (fun _=>True) w v l:=by
 obtain ⟨h1,_,_,⟨_,h4⟩,h5⟩:=h
 rcases h4 with ⟨hv,hn⟩ | ⟨g,cap,cur,hv,hb,hg,hnc,hcm,hcs,htk⟩
 ·have:l=[]:=List.eq_nil_of_length_eq_zero hn
  subst this
  subst hv
  exact z0s _ _ _ _
 ·refine ⟨some ⟨g,0,none⟩,cap,hv,hnc,hcm,h1,fun i x hx=>?_⟩
  obtain ⟨ys,y1,y2,y3⟩:=h5 i x hx
  refine ⟨g,0,ys,rfl,trivial,y1,fun j y hj=>?_,ok.keep y3 (Kept.refl w fun _ _=>trivial)⟩
  have hx':=y2 j y hj
  rw [cell_of_row w g _ cur e (0,0) hg]
  rw [<-htk,List.getElem?_take] at hx'
  split at hx'
  ·simpa using hx'
  ·cases hx'
theorem Own.base_le (h:Own e sz R S w base v l):∀b,v.ownBlock=some b->base<=b/\b < w.heap.size:=by
 obtain ⟨_,_,_,hown,_⟩:=h
 exact hown.lt
theorem Own.shape (h:Own e sz R S w base v l):∃A c,v= .slice A l.length c:=by
 obtain ⟨_,_,_,⟨_,h4⟩,_⟩:=h
 rcases h4 with ⟨hv,hn⟩ | ⟨g,cap,cur,hv,_⟩
 ·exact ⟨none,0,by rw [hv,hn]⟩
 ·exact ⟨_,_,hv⟩
end
theorem zBx {α:Type} {sz:Nat} {R:Rp α} {S:Nat->Prop} {w:World}:∀(l:List α) (f:Nat->List Value),(∀i,i < l.length->(f i).length=sz)->∃news:List Value,news.length=l.length*sz/\∀i j,i < l.length->j < sz->news[i*sz+j]? =(f i)[j]?
 | [],_,_=>⟨[],by simp,fun i j hi=>by simp at hi⟩
 | x :: l,f,h=>by
  obtain ⟨news,h1,h2⟩:=zBx (R:=R) (S:=S) (w:=w) l (fun i=>f (i+1)) (fun i hi=>h (i+1) (by simp;omega))
  have h0:=h 0 (by simp)
  refine ⟨f 0++news,by simp [h0,h1,Nat.add_mul,Nat.add_comm],fun i j hi hj=>?_⟩
  rcases i with _ | i
  ·rw [Nat.zero_mul,Nat.zero_add,List.getElem?_append_left (by omega)]
  ·have e:(i+1)*sz+j - (f 0).length=i*sz+j:=by rw [h0,Nat.add_mul];omega
   rw [List.getElem?_append_right (by rw [h0,Nat.add_mul];omega),e]
   exact h2 i j (by simp at hi;omega) hj
theorem zHm {n sz q:Nat} (hsz:0 < sz) (h:q < n*sz):q / sz < n/\q % sz < sz/\q=q / sz*sz+q % sz:=by
 have h2:=Nat.mod_lt q hsz
 have h3:=Nat.div_add_mod q sz
 refine ⟨(Nat.div_lt_iff_lt_mul hsz).2 h,h2,?_⟩
 rw [Nat.mul_comm] at h3;omega
section
variable {P:Program} {α:Type} {R:Rp α} {S:Nat->Prop}
theorem z6b (w:World) (t ty e:TypeId) (i:TypeInfo) (z:Value) (sz bytes:Nat) (ht:P.underlying t=some (.slice e)) (hi:P.info? e=some i) (hz:i.zero=some z)
  (hsize:i.size=sz) (hby:i.bytes=bytes) (hzs:z.cells.size=sz) (hsz:0 < sz) (ok:RpOk sz R) (base:Nat) (hbase:base<=w.heap.size) (v:Value) (l:List α) (hown:Own e sz R S w base v l)
  (A:Option Addr) (m c:Nat) (l2:List α) (hm:m=l2.length) (hs:SlAt sz R S w A l2) (hbytes:(l.length+m)*bytes<=140737488355328) (hb0:0 < bytes):
  ∃v' w',(Builtin.append_ #[t,t] ty #[v,.slice A m c]).run P w= .ok v' w'/\Own e sz R S w' base v' (l++l2)/\w.grownBy w' v.ownBlock/\(v'.ownBlock=v.ownBlock\/v'.ownBlock=some w.heap.size):=by
 obtain ⟨h1,h2,xs,h3,h4⟩:=hown
 have hlen:l.length+m<=140737488355328:=Nat.le_trans (Nat.le_mul_of_pos_right _ hb0) hbytes
 have hf:∃f:Nat->List Value,∀k,k < l2.length->(f k).length=sz/\(∃b o,A=some ⟨b,o,none⟩/\∀j y,(f k)[j]? =some y->w.cell? ⟨b,o+(k*sz+j),none⟩=some y)/\∀x,l2[k]? =some x->R S w (f k) x:=by
  classical
  have hk:∀k,∃ys:List Value,k < l2.length->ys.length=sz/\(∃b o,A=some ⟨b,o,none⟩/\∀j y,ys[j]? =some y->w.cell? ⟨b,o+(k*sz+j),none⟩=some y)/\∀x,l2[k]? =some x->R S w ys x:=by
   intro k
   by_cases hk:k < l2.length
   ·obtain ⟨b,o,ys,hA,_,hl,hc,hR⟩:=hs k _ (List.getElem?_eq_getElem hk)
    exact ⟨ys,fun _=>⟨hl,⟨b,o,hA,hc⟩,fun x hx=>by rw [List.getElem?_eq_getElem hk] at hx;cases hx;exact hR⟩⟩
   ·exact ⟨[],fun h=>absurd h hk⟩
  exact ⟨fun k=>Classical.choose (hk k),fun k h=>Classical.choose_spec (hk k) h⟩
 obtain ⟨f,hf⟩:=hf
 obtain ⟨news,n1,n2⟩:=zBx (R:=R) (S:=S) (w:=w) l2 f (fun k hk=>(hf k hk).1)
 have hnews:∀q u,news[q]? =some u->∃k j,k < l2.length/\j < sz/\q=k*sz+j/\(f k)[j]? =some u:=by
  intro q u hq
  have hql:q < l2.length*sz:=by rw [<-n1];exact (List.getElem?_eq_some_iff.1 hq).1
  obtain ⟨a1,a2,a3⟩:=zHm hsz hql
  refine ⟨q / sz,q % sz,a1,a2,a3,?_⟩
  rw [<-n2 _ _ a1 a2,<-a3]
  exact hq
 have hone:∀u∈news,u.oneCell'=true:=by
  intro u hu
  obtain ⟨q,hq⟩:=List.getElem?_of_mem hu
  obtain ⟨k,j,hk,hj,_,hu'⟩:=hnews q u hq
  exact ok.one ((hf k hk).2.2 _ (List.getElem?_eq_getElem hk)) u (List.mem_of_getElem? hu')
 have hrun:∃v' w',(Builtin.append_ #[t,t] ty #[v,.slice A m c]).run P w= .ok v' w'/\w'.ownsRow base e sz v' (l.length+m) (xs++news)/\w.grownBy w' v.ownBlock/\(v'.ownBlock=v.ownBlock\/v'.ownBlock=some w.heap.size):=by
  rcases A with _ | ad
  ·have hm0:m=0:=by
    rcases Nat.eq_zero_or_pos m with h0 | h0
    ·exact h0
    ·obtain ⟨_,⟨b,o,h,_⟩,_⟩:=hf 0 (by omega)
     cases h
   have hl0:l2=[]:=List.eq_nil_of_length_eq_zero (by omega)
   subst hl0
   subst hm0
   have hn0:news=[]:=List.eq_nil_of_length_eq_zero (by simpa using n1)
   subst hn0
   refine ⟨v,w,?_,by simpa using h3,World.grownBy.refl w _,.inl rfl⟩
   rcases h3.2 with ⟨rfl,hn⟩ | ⟨g,cap,cur,rfl,_,_,hnc,_⟩
   ·simp [Builtin.append_,run_underlying ht,sizeOf,typeInfo,hi,Builtin.lenOf,Builtin.firstCells]
   ·simp [Builtin.append_,run_underlying ht,sizeOf,typeInfo,hi,Builtin.lenOf,Builtin.firstCells,hnc,storeCells]
  ·have hcells:∀q u,news[q]? =some u->w.cell? (ad.add q)=some u:=by
    intro q u hq
    obtain ⟨k,j,hk,hj,rfl,hu⟩:=hnews q u hq
    obtain ⟨_,⟨b,o,hA,hc⟩,_⟩:=hf k hk
    cases hA
    have:=hc j u hu
    unfold Addr.add
    split
    ·rename_i h0;rw [h0] at this;exact this
    ·exact this
   obtain ⟨v',w',r1,r2,r3,_,r5⟩:=run_append_own_at (P:=P) w base t ty e i z sz bytes ht hi hz hsize hby hzs hsz v l.length xs h3 ad m c news (by rw [n1,hm]) hcells hone (by simp only [maxLen];omega) hbytes hbase
   exact ⟨v',w',r1,r2,r3,r5⟩
 obtain ⟨v',w',r1,r2,r3,r4⟩:=hrun
 have hSk:Kept S S w w':=fun b hb hl=>⟨hb,r3.block b hl (fun h=>(h2 b hb).2 h.symm)⟩
 refine ⟨v',w',r1,⟨by simp [<-hm];omega,fun b hb=>⟨Nat.lt_of_lt_of_le (h2 b hb).1 r3.size,?_⟩,xs++news,by simpa [<-hm] using r2,?_⟩,r3,r4⟩
 ·rcases r4 with h | h
  ·rw [h];exact (h2 b hb).2
  ·rw [h];simp only [ne_eq,Option.some.injEq];have:=(h2 b hb).1;omega
 ·intro k x hx
  rcases Nat.lt_or_ge k l.length with hlt | hge
  ·rw [List.getElem?_append_left hlt] at hx
   obtain ⟨ys,y1,y2,y3⟩:=h4 k x hx
   refine ⟨ys,y1,fun j y hj=>?_,ok.keep y3 hSk⟩
   have hyl:=(List.getElem?_eq_some_iff.1 (y2 j y hj)).1
   rw [List.getElem?_append_left hyl]
   exact y2 j y hj
  ·rw [List.getElem?_append_right hge] at hx
   have hkl:k - l.length < l2.length:=(List.getElem?_eq_some_iff.1 hx).1
   obtain ⟨f1,_,f3⟩:=hf _ hkl
   refine ⟨f (k - l.length),f1,fun j y hj=>?_,ok.keep (f3 x hx) hSk⟩
   have hjl:j < sz:=by have:=(List.getElem?_eq_some_iff.1 hj).1;omega
   have hxl:xs.length=l.length*sz:=h3.1
   have hksz:l.length*sz<=k*sz:=Nat.mul_le_mul_right _ hge
   rw [List.getElem?_append_right (by omega),hxl]
   have e1:k*sz+j - l.length*sz=(k - l.length)*sz+j:=by rw [Nat.sub_mul];omega
   rw [e1,n2 _ _ hkl hjl]
   exact hj
theorem z8u (w:World) {ops:Array Oper} {rest:List Oper} {o:Oper} {a:Act} {Q:Exit->Act->World->Prop} (hgd:o.guard=none) (s x:Operand) (t:TypeId)
  (ho:o.op= .call { callee:= .builtin .append,args:=#[s,x],argTypes:=#[t,t] })
  (e:TypeId) (i:TypeInfo) (z:Value) (sz bytes:Nat) (ht:P.underlying t=some (.slice e)) (hi:P.info? e=some i) (hz:i.zero=some z)
  (hsize:i.size=sz) (hby:i.bytes=bytes) (hzs:z.cells.size=sz) (hsz:0 < sz) (ok:RpOk sz R) (base:Nat) (hbase:base<=w.heap.size) (v:Value) (l:List α) (hs:a.eval s=v) (hown:Own e sz R S w base v l)
  (A:Option Addr) (m c:Nat) (hx:a.eval x= .slice A m c) (l2:List α) (hm:m=l2.length) (hsl:SlAt sz R S w A l2) (hbytes:(l.length+m)*bytes<=140737488355328) (hb0:0 < bytes)
  (h:∀v' w',Own e sz R S w' base v' (l++l2)->w.grownBy w' v.ownBlock->(v'.ownBlock=v.ownBlock\/v'.ownBlock=some w.heap.size)->wpList P ops Q rest (a.put o.dst v') w'):wpList P ops Q (o :: rest) a w:=by
 obtain ⟨v',w',r1,r2,r3,r4⟩:=z6b (P:=P) w t o.type e i z sz bytes ht hi hz hsize hby hzs hsz ok base hbase v l hown A m c l2 hm hsl hbytes hb0
 exact Lib.wpList_append_run w hgd s x t t ho _ _ hs hx v' w' r1 (h v' w' r2 r3 r4)
end
end
end Go.Proofs.YtdggplhnfhcieaaGreatDoor
