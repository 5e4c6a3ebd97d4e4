/- Part 1 of the proof of vaultGranted_holds. No condition. -/
import Derived.Maps.AppendAt
import Derived.OwnWalk
import Derived.Lib.AppendZeros
import Derived.WalkKit
import Derived.ProofKit
import Derived.OpenShut
import Derived.Below
import Derived.Carry
import Derived.Test.YtdggplhnfhcieaaGreatDoorRows
import Derived.LaidMore
import Derived.Lay
import Derived.Test.YtdggplhnfhcieaaGreatDoorTie
import Derived.ArgAppend
import Derived.Deep.AppendLies
import Derived.Test.YtdggplhnfhcieaaGreatDoorY00
set_option linter.unusedVariables false
set_option linter.unusedSimpArgs false
set_option linter.unusedSectionVars false
set_option maxRecDepth 100000
namespace Go.Proofs.YtdggplhnfhcieaaGreatDoor
section
open Go.RowKit Go.Deep
def Elems {α:Type} (sz:Nat) (R:Rp α) (S:Nat->Prop) (w:World) (xs:List Value) (l:List α):Prop:=
 ∀i x,l[i]? =some x->∃ys:List Value,ys.length=sz/\(∀j y,ys[j]? =some y->xs[i*sz+j]? =some y)/\R S w ys x
def Own {α:Type} (e:TypeId) (sz:Nat) (R:Rp α) (S:Nat->Prop) (w:World) (base:Nat) (v:Value) (l:List α):Prop:=
 l.length<=140737488355328/\(∀b,S b->b < w.heap.size/\v.ownBlock≠some b)/\∃xs:List Value,w.ownsRow base e sz v l.length xs/\Elems sz R S w xs l
section
variable {α:Type} {e:TypeId} {sz:Nat} {R:Rp α} {S:Nat->Prop} {w w':World} {base:Nat} {v:Value} {l:List α}
theorem Own.nil (hS:∀b,S b->b < w.heap.size):Own e sz R S w base (.slice none 0 0) ([]:List α):=
 ⟨by simp,fun b hb=>⟨hS b hb,by simp [Value.ownBlock]⟩,[],World.ownsRow_nil w base e sz,fun i x hi=>by simp at hi⟩
theorem Own.empty {g:Nat} (hg:w.heap[g]? =some (.cells #[] e (0,0))) (hb:base<=g) (hS:∀b,S b->b < w.heap.size/\b≠g):Own e sz R S w base (.slice (some ⟨g,0,none⟩) 0 0) ([]:List α):=
 ⟨by simp,fun b hb=>⟨(hS b hb).1,by simp only [Value.ownBlock,ne_eq,Option.some.injEq];exact fun h=>(hS b hb).2 h.symm⟩,[],⟨by simp,.inr ⟨g,0,#[],rfl,hb,hg,znl _,Nat.zero_le _,by simp,by simp⟩⟩,fun i x hi=>by simp at hi⟩
theorem Elems.keep (ok:RpOk sz R) {S':Nat->Prop} {xs:List Value} (h:Elems sz R S w xs l) (k:Kept S S' w w'):Elems sz R S' w' xs l:=fun i x hx=>by
 obtain ⟨ys,h1,h2,h3⟩:=h i x hx
 exact ⟨ys,h1,h2,ok.keep h3 k⟩
theorem Own.keep (ok:RpOk sz R) {S':Nat->Prop} (h:Own e sz R S w base v l) (hk:∀b,v.ownBlock=some b->w'.heap[b]? =w.heap[b]?) (k:Kept S S' w w') (hS:∀b,S' b->b < w'.heap.size/\v.ownBlock≠some b):Own e sz R S' w' base v l:=by
 obtain ⟨h1,_,xs,⟨h3,h4⟩,h5⟩:=h
 refine ⟨h1,hS,xs,⟨h3,?_⟩,h5.keep ok k⟩
 rcases h4 with h4 | ⟨g,cap,cur,hv,hb,hg,r⟩
 ·exact .inl h4
 exact .inr ⟨g,cap,cur,hv,hb,(hk g (by rw [hv];rfl)).trans hg,r⟩
theorem Own.sl (ok:RpOk sz R) (h:Own e sz R S w base v l):Sl sz R (fun _=>True) w v l:=by
 obtain ⟨h1,_,_,⟨_,h4⟩,h5⟩:=h
 rcases h4 with ⟨hv,hn⟩ | ⟨g,cap,cur,hv,hb,hg,hnc,hcm,hcs,htk⟩
 ·have:l=[]:=List.eq_nil_of_length_eq_zero hn
  subst this
  subst hv
  exact z00 _ _ _ _
 refine ⟨some ⟨g,0,none⟩,cap,hv,hnc,hcm,h1,fun i x hx=>?_⟩
 obtain ⟨ys,y1,y2,y3⟩:=h5 i x hx
 refine ⟨g,0,ys,rfl,trivial,y1,fun j y hj=>?_,ok.keep y3 (Kept.refl w fun _ _=>trivial)⟩
 have hx':=y2 j y hj
 rw [cell_of_row w g _ cur e (0,0) hg]
 rw [<-htk,List.getElem?_take] at hx'
 split at hx'
 ·simpa using hx'
 cases hx'
theorem Own.base_le (h:Own e sz R S w base v l):∀b,v.ownBlock=some b->base<=b/\b < w.heap.size:=by
 obtain ⟨_,_,_,hown,_⟩:=h
 exact hown.lt
theorem Own.shape (h:Own e sz R S w base v l):∃A c,v= .slice A l.length c:=by
 obtain ⟨_,_,_,⟨_,h4⟩,_⟩:=h
 rcases h4 with ⟨hv,hn⟩ | ⟨g,cap,cur,hv,_⟩
 ·exact ⟨none,0,by rw [hv,hn]⟩
 exact ⟨_,_,hv⟩
end
theorem zDz {α:Type} {sz:Nat} {R:Rp α} {S:Nat->Prop} {w:World}:∀(l:List α) (f:Nat->List Value),(∀i,i < l.length->(f i).length=sz)->∃news:List Value,news.length=l.length*sz/\∀i j,i < l.length->j < sz->news[i*sz+j]? =(f i)[j]?
 | [],_,_=>⟨[],by simp,fun i j hi=>by simp at hi⟩
 | x :: l,f,h=>by
  obtain ⟨news,h1,h2⟩:=zDz (R:=R) (S:=S) (w:=w) l (fun i=>f (i+1)) (fun i hi=>h (i+1) (by simp;omega))
  have h0:=h 0 (by simp)
  refine ⟨f 0++news,by simp [h0,h1,Nat.add_mul,Nat.add_comm],fun i j hi hj=>?_⟩
  rcases i with _ | i
  ·rw [Nat.zero_mul,Nat.zero_add,List.getElem?_append_left (by omega)]
  ·have e:(i+1)*sz+j - (f 0).length=i*sz+j:=by rw [h0,Nat.add_mul];omega
   rw [List.getElem?_append_right (by rw [h0,Nat.add_mul];omega),e]
   exact h2 i j (by simp at hi;omega) hj
theorem zIq {n sz q:Nat} (hsz:0 < sz) (h:q < n*sz):q / sz < n/\q % sz < sz/\q=q / sz*sz+q % sz:=by
 have h2:=Nat.mod_lt q hsz
 have h3:=Nat.div_add_mod q sz
 refine ⟨(Nat.div_lt_iff_lt_mul hsz).2 h,h2,?_⟩
 rw [Nat.mul_comm] at h3;omega
section
variable {P:Program} {α:Type} {R:Rp α} {S:Nat->Prop}
theorem z79 (w:World) (t ty e:TypeId) (i:TypeInfo) (z:Value) (sz bytes:Nat) (ht:P.underlying t=some (.slice e)) (hi:P.info? e=some i) (hz:i.zero=some z)
  (hsize:i.size=sz) (hby:i.bytes=bytes) (hzs:z.cells.size=sz) (hsz:0 < sz) (ok:RpOk sz R) (base:Nat) (hbase:base<=w.heap.size) (v:Value) (l:List α) (hown:Own e sz R S w base v l)
  (A:Option Addr) (m c:Nat) (l2:List α) (hm:m=l2.length) (hs:SlAt sz R S w A l2) (hbytes:(l.length+m)*bytes<=140737488355328) (hb0:0 < bytes):
  ∃v' w',(Builtin.append_ #[t,t] ty #[v,.slice A m c]).run P w= .ok v' w'/\Own e sz R S w' base v' (l++l2)/\w.grownBy w' v.ownBlock/\(v'.ownBlock=v.ownBlock\/v'.ownBlock=some w.heap.size):=by
 obtain ⟨h1,h2,xs,h3,h4⟩:=hown
 have hlen:l.length+m<=140737488355328:=Nat.le_trans (Nat.le_mul_of_pos_right _ hb0) hbytes
 have hf:∃f:Nat->List Value,∀k,k < l2.length->(f k).length=sz/\(∃b o,A=some ⟨b,o,none⟩/\∀j y,(f k)[j]? =some y->w.cell? ⟨b,o+(k*sz+j),none⟩=some y)/\∀x,l2[k]? =some x->R S w (f k) x:=by
  classical
  have hk:∀k,∃ys:List Value,k < l2.length->ys.length=sz/\(∃b o,A=some ⟨b,o,none⟩/\∀j y,ys[j]? =some y->w.cell? ⟨b,o+(k*sz+j),none⟩=some y)/\∀x,l2[k]? =some x->R S w ys x:=by
   intro k
   by_cases hk:k < l2.length
   ·obtain ⟨b,o,ys,hA,_,hl,hc,hR⟩:=hs k _ (List.getElem?_eq_getElem hk)
    exact ⟨ys,fun _=>⟨hl,⟨b,o,hA,hc⟩,fun x hx=>by rw [List.getElem?_eq_getElem hk] at hx;cases hx;exact hR⟩⟩
   ·exact ⟨[],fun h=>absurd h hk⟩
  exact ⟨fun k=>Classical.choose (hk k),fun k h=>Classical.choose_spec (hk k) h⟩
 obtain ⟨f,hf⟩:=hf
 obtain ⟨news,n1,n2⟩:=zDz (R:=R) (S:=S) (w:=w) l2 f (fun k hk=>(hf k hk).1)
 have hnews:∀q u,news[q]? =some u->∃k j,k < l2.length/\j < sz/\q=k*sz+j/\(f k)[j]? =some u:=by
  intro q u hq
  have hql:q < l2.length*sz:=by rw [<-n1];exact (zge hq).1
  obtain ⟨a1,a2,a3⟩:=zIq hsz hql
  refine ⟨q / sz,q % sz,a1,a2,a3,?_⟩
  rw [<-n2 _ _ a1 a2,<-a3]
  exact hq
 have hone:∀u∈news,u.oneCell'=true:=by
  intro u hu
  obtain ⟨q,hq⟩:=List.getElem?_of_mem hu
  obtain ⟨k,j,hk,hj,_,hu'⟩:=hnews q u hq
  exact ok.one ((hf k hk).2.2 _ (List.getElem?_eq_getElem hk)) u (zmg hu')
 have hrun:∃v' w',(Builtin.append_ #[t,t] ty #[v,.slice A m c]).run P w= .ok v' w'/\w'.ownsRow base e sz v' (l.length+m) (xs++news)/\w.grownBy w' v.ownBlock/\(v'.ownBlock=v.ownBlock\/v'.ownBlock=some w.heap.size):=by
  rcases A with _ | ad
  ·have hm0:m=0:=by
    rcases Nat.eq_zero_or_pos m with h0 | h0
    ·exact h0
    ·obtain ⟨_,⟨b,o,h,_⟩,_⟩:=hf 0 (by omega)
     cases h
   have hl0:l2=[]:=List.eq_nil_of_length_eq_zero (by omega)
   subst hl0
   subst hm0
   have hn0:news=[]:=List.eq_nil_of_length_eq_zero (by simpa using n1)
   subst hn0
   refine ⟨v,w,?_,by simpa using h3,World.grownBy.refl w _,.inl rfl⟩
   rcases h3.2 with ⟨rfl,hn⟩ | ⟨g,cap,cur,rfl,_,_,hnc,_⟩
   ·simp [Builtin.append_,run_underlying ht,sizeOf,typeInfo,hi,Builtin.lenOf,Builtin.firstCells]
   ·simp [Builtin.append_,run_underlying ht,sizeOf,typeInfo,hi,Builtin.lenOf,Builtin.firstCells,hnc,storeCells]
  ·have hcells:∀q u,news[q]? =some u->w.cell? (ad.add q)=some u:=by
    intro q u hq
    obtain ⟨k,j,hk,hj,rfl,hu⟩:=hnews q u hq
    obtain ⟨_,⟨b,o,hA,hc⟩,_⟩:=hf k hk
    cases hA
    have:=hc j u hu
    unfold Addr.add
    split
    ·rename_i h0;rw [h0] at this;exact this
    ·exact this
   obtain ⟨v',w',r1,r2,r3,_,r5⟩:=run_append_own_at (P:=P) w base t ty e i z sz bytes ht hi hz hsize hby hzs hsz v l.length xs h3 ad m c news (by rw [n1,hm]) hcells hone (by simp only [maxLen];omega) hbytes hbase
   exact ⟨v',w',r1,r2,r3,r5⟩
 obtain ⟨v',w',r1,r2,r3,r4⟩:=hrun
 have hSk:Kept S S w w':=fun b hb hl=>⟨hb,r3.block b hl (fun h=>(h2 b hb).2 h.symm)⟩
 refine ⟨v',w',r1,⟨by simp [<-hm];omega,fun b hb=>⟨zll (h2 b hb).1 r3.size,?_⟩,xs++news,by simpa [<-hm] using r2,?_⟩,r3,r4⟩
 ·rcases r4 with h | h
  ·rw [h];exact (h2 b hb).2
  rw [h];simp only [ne_eq,Option.some.injEq];have:=(h2 b hb).1;omega
 intro k x hx
 rcases Nat.lt_or_ge k l.length with hlt | hge
 ·rw [List.getElem?_append_left hlt] at hx
  obtain ⟨ys,y1,y2,y3⟩:=h4 k x hx
  refine ⟨ys,y1,fun j y hj=>?_,ok.keep y3 hSk⟩
  have hyl:=(zge (y2 j y hj)).1
  rw [List.getElem?_append_left hyl]
  exact y2 j y hj
 rw [List.getElem?_append_right hge] at hx
 have hkl:k - l.length < l2.length:=(zge hx).1
 obtain ⟨f1,_,f3⟩:=hf _ hkl
 refine ⟨f (k - l.length),f1,fun j y hj=>?_,ok.keep (f3 x hx) hSk⟩
 have hjl:j < sz:=by have:=(zge hj).1;omega
 have hxl:xs.length=l.length*sz:=h3.1
 have hksz:l.length*sz<=k*sz:=Nat.mul_le_mul_right _ hge
 rw [List.getElem?_append_right (by omega),hxl]
 have e1:k*sz+j - l.length*sz=(k - l.length)*sz+j:=by rw [Nat.sub_mul];omega
 rw [e1,n2 _ _ hkl hjl]
 exact hj
theorem z9p (w:World) {ops:Array Oper} {rest:List Oper} {o:Oper} {a:Act} {Q:Exit->Act->World->Prop} (hgd:o.guard=none) (s x:Operand) (t:TypeId)
  (ho:o.op= .call { callee:= .builtin .append,args:=#[s,x],argTypes:=#[t,t] })
  (e:TypeId) (i:TypeInfo) (z:Value) (sz bytes:Nat) (ht:P.underlying t=some (.slice e)) (hi:P.info? e=some i) (hz:i.zero=some z)
  (hsize:i.size=sz) (hby:i.bytes=bytes) (hzs:z.cells.size=sz) (hsz:0 < sz) (ok:RpOk sz R) (base:Nat) (hbase:base<=w.heap.size) (v:Value) (l:List α) (hs:a.eval s=v) (hown:Own e sz R S w base v l)
  (A:Option Addr) (m c:Nat) (hx:a.eval x= .slice A m c) (l2:List α) (hm:m=l2.length) (hsl:SlAt sz R S w A l2) (hbytes:(l.length+m)*bytes<=140737488355328) (hb0:0 < bytes)
  (h:∀v' w',Own e sz R S w' base v' (l++l2)->w.grownBy w' v.ownBlock->(v'.ownBlock=v.ownBlock\/v'.ownBlock=some w.heap.size)->wpList P ops Q rest (a.put o.dst v') w'):wpList P ops Q (o :: rest) a w:=by
 obtain ⟨v',w',r1,r2,r3,r4⟩:=z79 (P:=P) w t o.type e i z sz bytes ht hi hz hsize hby hzs hsz ok base hbase v l hown A m c l2 hm hsl hbytes hb0
 exact Lib.wpList_append_run w hgd s x t t ho _ _ hs hx v' w' r1 (h v' w' r2 r3 r4)
end
end
section
open Go.ChangeShapes Go.WideShapes Go.ChangeAt Go.RowKit
theorem zOl:ownKnob Tryz.prog.godebug=none:=by kernel_rfl
theorem zFh:laidOutB Tryz.prog=true:=by kernel_rfl
def z6s (P:Program) (ts:List TypeId):Bool:=ts.all fun t=>P.readableRec t && decide (t < P.types.size)
theorem z8e {H:Type} {enc:TypeId×Value->H} {P:Program} (hl:laidOutB P=true) {W W':World} (hb:Below W.heap.size W W') (sp:Nat->Bool):
  ∀(ts:List TypeId) (vs:List Value) (ds:List (DataW H)) (ps:List MemPlace),z6s P ts=true->DataW.TrodAll enc P W 0 (fun _=>true) true ts vs ds ps->
   (∀x∈ps,x.block < W.heap.size)->(∀x∈ps,sp x.block=true)->DataW.TrodAll enc P W' 0 sp true ts vs ds ps
 | [],[],[],ps,_,h,_,_=>h
 | t :: ts,v :: vs,d :: ds,ps,hr,h,hlt,hsp=>by
  obtain ⟨p,q,hp,hq,rfl⟩:=h
  unfold z6s at hr
  rw [List.all_cons,Bool.and_eq_true,Bool.and_eq_true] at hr
  obtain ⟨⟨h1,h2⟩,h3⟩:=hr
  exact ⟨p,q,WideElems.Trod_stays hl h1 (of_decide_eq_true h2) hp (fun x hx=>hb.same (hlt x (List.mem_append_left _ hx))) (fun x hx=>hsp x (List.mem_append_left _ hx)),
   z8e hl hb sp ts vs ds q h3 hq (fun x hx=>hlt x (List.mem_append_right _ hx)) (fun x hx=>hsp x (List.mem_append_right _ hx)),rfl⟩
 | [],_ :: _,_,_,_,h,_,_=>by cases h
 | _ :: _,[],_,_,_,h,_,_=>by cases h
 | [],[],_ :: _,_,_,h,_,_=>by cases h
 | _ :: _,_ :: _,[],_,_,h,_,_=>by cases h
theorem zMt {H:Type} {enc:TypeId×Value->H} {P:Program} {f:Func} {s:ChangeSpec} {tb:TypeId} {apart fresh handsOn again:Bool} {W W':World} {args:Array Value} {ds gs:List (DataW H)} {before:List MemPlace}
  (hW:DataW.Whole enc P f.params.toList s.vars apart W args.toList ds gs before) (hv:s.vars=[]) (hfn:s.fn H (ds++gs)={ results:=[.lit (.bool true)],args:=ds })
  (ht:f.resultTypes=#[tb]) (hbt:P.underlying tb=some .bool) (hl:laidOutB P=true) (hr:z6s P f.params.toList=true) (hb:Below W.heap.size W W'):
  s.post enc P f apart fresh handsOn again W args (.bool true) W':=by
 have hW':=hW
 obtain ⟨p,_,hA,hV,rfl,hfz,hnd⟩:=hW
 rw [hv] at hV
 obtain ⟨rfl,rfl⟩:=trodVars_none hV
 have hlt:∀x∈p++([]:List MemPlace),x.block < W.heap.size:=fun x hx=>hW'.lt x hx
 simp only [List.append_nil] at hlt hfz hnd hW'
 have hold:∀x∈p,(fun b=>decide (b < W.heap.size)) x.block=true:=fun x hx=>by simpa using hlt x hx
 have hvn:∀sp:Nat->Bool,DataW.TrodVars enc P W' sp s.vars ([]:List (DataW H)) []:=fun sp=>by rw [hv];rfl
 have hargs:∀sp:Nat->Bool,(∀x∈p,sp x.block=true)->DataW.TrodAll enc P W' 0 sp true f.params.toList args.toList ds p:=fun sp hsp=>z8e hl hb sp _ _ _ _ hr hA hlt hsp
 have hres:∀(b:Nat) (sp:Nat->Bool) (hd:Bool),DataW.TrodAll enc P W' b sp hd f.resultTypes.toList ((Value.bool true).resultList f.resultTypes.size) [.lit (.bool true)] []:=fun b sp hd=>by
  rw [ht]
  exact trodAll_mk1 (shut_bool hbt true)
 have hvars:(s.fn H (ds++[])).vars=[]:=by rw [hfn]
 refine ⟨ds,[],p,[],p,[],hW',?_,?_,?_,World.keptBut_mono (fun x hx=>⟨hx,?_⟩) (hb.frame (·∈p)),fun _=>?_⟩
 ·rw [hfn];exact hres _ _ _
 ·rw [hfn];exact hargs _ hold
 ·rw [hvars];exact hvn _
 ·simpa using hx
 refine ⟨ok_one ht rfl (okWide_bool_mk hbt true),[.lit (.bool true)]++ds,[],([]++p)++[],⟨[]++p,[],trodAll_append (hargs _ (fun _ _=>rfl)) (hres _ _ _),hvn _,rfl,?_,?_⟩,?_⟩
 ·intro b off hp
  have hin:MemPlace.cell b off∈p:=by simpa using hp
  rw [hb.frozen (hlt _ hin)]
  exact hfz b off hin
 ·intro ha
  simpa using hnd ha
 intro x hx _
 simpa using hx
end
section
def YR (k:Nat):Nat:=[0,0,9,9,1,21,21,5,67,35,1,3,3,1,4,0,4].getD k 0
section
variable (N:ByteArray->Bool)
def z11 (s:ByteArray):Bool:=decide (s=⟨#[]⟩)
def txt (s:ByteArray) (has:Bool):Bool:=if has then N s else z11 s
def num (n a b:Int) (has:Bool):Bool:=if has then decide (a<=n) && decide (n<=b) else decide (n=0)
def z33 (k:Int) (m:Nat):Bool:=YR k.toNat &&& m !=0
def z3m (kind:Int) (user folder name other:ByteArray) (role version len:Int):Bool:=
 decide (1<=kind) && decide (kind<=16) && N user && txt N folder (z33 kind 1) && txt N name (z33 kind 2) && txt N other (z33 kind 4 || z33 kind 8 && !z11 other) &&
 !(!z33 kind 1 && decide (other=user)) && !(decide (kind=2) && decide (other=folder)) && num role 1 4 (z33 kind 16) && num version 0 1099511627776 (z33 kind 32) && num len 0 512 (z33 kind 64)
def zAu (k:Int) (user folder name other:ByteArray) (role version len:Int):Bool:=
 N user && decide (1<=k) && decide (k<=16) && !((decide (k=14) || decide (k=16)) && (!N other || decide (other=user))) &&
 (if k=1\/14<=k then !(!z11 folder || (decide (k=1) || decide (k=15)) && !z11 other) else N folder) &&
 (if k=2\/k=3 then !(!z11 other && !N other || decide (k=2) && decide (other=folder)) else if 5<=k/\k<=7 then N other else !(decide (k < 14) && !z11 other)) &&
 !((decide (k=8) || decide (k=9) || decide (k=11) || decide (k=12)) && !N name) && !(!(decide (k=8) || decide (k=9) || decide (k=11) || decide (k=12)) && !z11 name) &&
 (if k=5\/k=6 then decide (1<=role) && decide (role<=4) else decide (role=0)) &&
 (if k=9 then decide (0<=version) && decide (version<=1099511627776) else decide (version=0)) &&
 (decide (len=0) || decide (k=8) && decide (len<=512))
theorem zLz (hN:N ⟨#[]⟩=false) (k:Int) (user folder name other:ByteArray) (role version len:Int) (hl:0<=len):z3m N k user folder name other role version len=zAu N k user folder name other role version len:=by
 by_cases h1:1<=k
 rotate_left
 ·unfold z3m zAu
  simp [h1]
 by_cases h2:k<=16
 rotate_left
 ·unfold z3m zAu
  simp [h2]
 cases hu:N user with
 | false=>unfold z3m zAu;simp [hu]
 | true=>
  have hne:user≠⟨#[]⟩:=fun e=>by rw [e,hN] at hu;cases hu
  have hlen:(decide (len=0) || decide (len<=512))=decide (len<=512):=by
   by_cases h0:len=0
   ·simp [h0]
   ·simp [h0]
  have hand:∀a b:Bool,(a && b)=(b && a):=Bool.and_comm
  have hk:k=1\/k=2\/k=3\/k=4\/k=5\/k=6\/k=7\/k=8\/k=9\/k=10\/k=11\/k=12\/k=13\/k=14\/k=15\/k=16:=by omega
  clear h1 h2
  rcases hk with rfl | rfl | rfl | rfl | rfl | rfl | rfl | rfl | rfl | rfl | rfl | rfl | rfl | rfl | rfl | rfl
  all_goals
   unfold z3m zAu
   simp only [z33,YR,txt,num,hu,z11]
   by_cases he:other=⟨#[]⟩
   ·subst he
    have hne2:¬((⟨#[]⟩:ByteArray)=user):=fun e=>hne e.symm
    simp [hN,hne2,hl,hlen]
    try (cases decide (folder=⟨#[]⟩)<;>cases decide (name=⟨#[]⟩)<;>cases N folder<;>cases N name<;>simp<;>omega)
   ·simp [he,hl,hlen]
    try (cases N other<;>cases decide (other=user)<;>cases decide (other=folder)<;>cases decide (name=⟨#[]⟩)<;>cases N folder<;>simp)
end
end
section
open Go.ChangeShapes Go.WideShapes Go.ChangeAt Go.RowKit
def fieldsZ:List Int:=[0,0,9,9,1,21,21,5,67,35,1,3,3,1,4,0,4]
theorem zKe:∀r:Fin 17,fieldsZ.getD r.val 0=(YR r.val:Nat):=by decide
theorem laid_cells {W:World} (h:laidMetH Tryz.prog [("bastille/call.fields",Rows.laid_bastille_call_fields)] W):0 < W.heap.size/\∀r:Nat,r < 17->W.cell? ⟨0,r,none⟩=some (.int .i64 (YR r:Nat)):=by
 rw [MakeChecks.laidMetH_plain _ _ _ (by kernel_rfl)] at h
 obtain ⟨_,⟨_,_,cs,_,_,_,hg,ht,hv,hd,_,_⟩,_⟩:=h
 obtain rfl:=zsi ((show Tryz.prog.globalNamed "bastille/call.fields"=some 0 by kernel_rfl).symm.trans hg)
 obtain rfl:=zsi ((show (Tryz.prog.globals[0]?).map (·.type)=some 134 by kernel_rfl).symm.trans ht)
 obtain ⟨xs,_,_,ex,_,_,hel⟩:=DataW.trod_array Tryz.underlying134 hd
 have c5:Tryz.prog.cellsOf 3=1:=by kernel_rfl
 have hlen:fieldsZ.length=17:=by decide
 have hcell:∀r:Nat,r < 17->W.cell? ⟨0,r,none⟩=some (.int .i64 (YR r:Nat)):=by
  intro r hr
  have hE:=hel r hr
  rw [c5,Nat.mul_one,List.getElem?_eq_getElem (by omega)] at hE
  obtain ⟨z,e1,e2,_⟩:=DataW.trod_int Tryz.underlying3 hE
  have e3:(xs.map (·.1))=fieldsZ.map fun n=> .lit (.int .i64 n):=(DataW.agg.inj (Prod.mk.inj ex).1).symm
  have e4:(xs.map (·.1))[r]? =(fieldsZ.map fun n=>(DataW.lit (.int .i64 n):DataW Unit))[r]? :=by rw [e3]
  rw [List.getElem?_map,List.getElem?_map,List.getElem?_eq_getElem (by omega:r < xs.length),List.getElem?_eq_getElem (by omega:r < fieldsZ.length),e2] at e4
  have hz:z=(YR r:Nat):=by
   simp only [Option.map_some,Option.some.injEq,DataW.lit.injEq,Lit.int.injEq,true_and] at e4
   rw [e4,<-zKe ⟨r,hr⟩,List.getD,List.getElem?_eq_getElem (by omega:r < fieldsZ.length)];rfl
  rw [World.var?_cell hg hv r,<-hz]
  have:cs.toList[r]? =some (.int .i64 z):=by
   have h0:((cs.toList.drop r).take 1)[0]? =some (.int .i64 z):=by rw [e1];rfl
   simpa using h0
  simpa using this
 exact ⟨World.block_lt_of_cell? W ⟨0,0,none⟩ (hcell 0 (by omega)),hcell⟩
end
section
open Go.RowKit Go.Deep
section
variable {w w':World} {b:Nat} {cs:Array Value} {T:TypeId} {o:Obj}
theorem zD (h:w.heap[b]? =some (.cells cs T (0,0))):(∀j v,cs[j]? =some v->w.cell? ⟨b,j,none⟩=some v)/\(∀j,w.frozen? ⟨b,j,none⟩=false):=
 ⟨fun j v hj=>by rw [cell_of_row w b j cs T (0,0) h];exact hj,fun j=>by unfold World.frozen?;rw [h];simp⟩
theorem zM (h:w.heap[b]? =some o):b < w.heap.size:=by
 rcases Nat.lt_or_ge b w.heap.size with h1 | h1
 ·exact h1
 rw [Array.getElem?_eq_none h1] at h;cases h
theorem zZ (o':Obj) (h:w.heap[b]? =some o):(w.alloc o').heap[b]? =some o:=by rw [heap_alloc_old _ _ (zM h)];exact h
theorem zJ (o:Obj) (h:b=w.heap.size):(w.alloc o).heap[b]? =some o:=by subst h;exact heap_alloc_new _ _
theorem zP {a:Addr} (u:Value) (h:w.heap[b]? =some o) (hne:b≠a.block):(w.setCell a u).heap[b]? =some o:=by rw [Below.heap_setCell _ _ _ _ hne];exact h
theorem zI {i:Nat} {cs':Array Value} (u:Value) (h:w.heap[b]? =some (.cells cs T (0,0))) (hc:cs.setIfInBounds i u=cs'):(w.setCell ⟨b,i,none⟩ u).heap[b]? =some (.cells cs' T (0,0)):=by
 subst hc
 exact heap_setCell_same w b i cs T u h
theorem ZH (h:w.heap[b]? =some o):w.drew.heap[b]? =some o:=h
end
def z12 (B:Nat->Prop) (w:World) (v:Value):Nat->Prop:=fun b=>b < w.heap.size/\¬B b/\v.ownBlock≠some b
def Grow {α:Type} (e:TypeId) (sz:Nat) (R:Rp α) (B:Nat->Prop) (w:World) (base:Nat) (v:Value) (l:List α):Prop:=Own e sz R (z12 B w v) w base v l
section
variable {P:Program} {α:Type} {e:TypeId} {sz:Nat} {R:Rp α} {B B':Nat->Prop} {w w':World} {base:Nat} {v:Value} {l:List α}
theorem Grow.nil:Grow e sz R B w base (.slice none 0 0) ([]:List α):=Own.nil fun b h=>h.1
theorem Grow.empty {g:Nat} (hg:w.heap[g]? =some (.cells #[] e (0,0))) (hb:base<=g):Grow e sz R B w base (.slice (some ⟨g,0,none⟩) 0 0) ([]:List α):=
 Own.empty hg hb fun b h=>⟨h.1,fun e=>h.2.2 (by rw [e];rfl)⟩
theorem Grow.base_le (h:Grow e sz R B w base v l):∀b,v.ownBlock=some b->base<=b/\b < w.heap.size:=Own.base_le h
theorem Grow.shape (h:Grow e sz R B w base v l):∃A c,v= .slice A l.length c:=Own.shape h
theorem Grow.shape' (h:Grow e sz R B w base v l):∃A n c,v= .slice A n c/\n=l.length:=by
 obtain ⟨A,c,h⟩:=h.shape
 exact ⟨A,_,c,h,rfl⟩
theorem Grow.keep (ok:RpOk sz R) (h:Grow e sz R B w base v l) (hz:w.heap.size<=w'.heap.size) (hB:∀b,b < w.heap.size->B' b->B b) (hk:∀b,b < w.heap.size->¬B b->w'.heap[b]? =w.heap[b]?) (hv:∀b,v.ownBlock=some b->w'.heap[b]? =w.heap[b]?):
  Grow e sz R B' w' base v l:=by
 refine Own.keep ok h hv (fun b hb hl=>⟨⟨by omega,fun h'=>hb.2.1 (hB b hl h'),hb.2.2⟩,hk b hl hb.2.1⟩) fun b hb=>⟨hb.1,hb.2.2⟩
theorem Grow.alloc (ok:RpOk sz R) (h:Grow e sz R B w base v l) (o:Obj):Grow e sz R B (w.alloc o) base v l:=
 h.keep ok (by simp) (fun _ _ h=>h) (fun b hl _=>heap_alloc_old _ _ hl) fun b hv=>heap_alloc_old _ _ (h.base_le b hv).2
theorem Grow.below (ok:RpOk sz R) (h:Grow e sz R B w base v l) (hb:Below w.heap.size w w'):Grow e sz R B w' base v l:=
 h.keep ok hb.size (fun _ _ h=>h) (fun b hl _=>hb.block b hl) fun b hv=>hb.block b (h.base_le b hv).2
theorem Grow.drew (ok:RpOk sz R) (h:Grow e sz R B w base v l):Grow e sz R B w.drew base v l:=
 h.keep ok (znl _) (fun _ _ h=>h) (fun b hl _=>rfl) fun b hv=>rfl
theorem Grow.sl (ok:RpOk sz R) (h:Grow e sz R B w base v l) {S:Nat->Prop} (hS:∀b,b < w.heap.size->¬B b->S b) (hv:∀b,v.ownBlock=some b->S b):Sl sz R S w v l:=by
 obtain ⟨A,c,hv',h1,h2,h3,_⟩:=Own.sl ok h
 obtain ⟨_,_,_,⟨_,h4'⟩,h5⟩:=h
 refine ⟨A,c,hv',h1,h2,h3,fun i x hx=>?_⟩
 rcases h4' with ⟨hv0,hn⟩ | ⟨g,cap,cur,hvg,hb,hg,hnc,hcm,hcs,htk⟩
 ·have:l=[]:=List.eq_nil_of_length_eq_zero hn
  subst this
  simp at hx
 obtain ⟨ys,y1,y2,y3⟩:=h5 i x hx
 have hA:A=some ⟨g,0,none⟩:=by rw [hvg] at hv';cases hv';rfl
 refine ⟨g,0,ys,hA,hv g (by rw [hvg];rfl),y1,fun j y hj=>?_,ok.keep y3 fun b hb' hl=>⟨?_,rfl⟩⟩
 ·have hx':=y2 j y hj
  rw [cell_of_row w g _ cur e (0,0) hg]
  rw [<-htk,List.getElem?_take] at hx'
  split at hx'
  ·simpa using hx'
  cases hx'
 exact hS b hl hb'.2.1
theorem yQ (w:World) {ops:Array Oper} {rest:List Oper} {o:Oper} {a:Act} {Q:Exit->Act->World->Prop} (hgd:o.guard=none) (s x:Operand) (t:TypeId)
  (ho:o.op= .call { callee:= .builtin .append,args:=#[s,x],argTypes:=#[t,t] })
  (e:TypeId) (i:TypeInfo) (z:Value) (sz bytes:Nat) (ht:P.underlying t=some (.slice e)) (hi:P.info? e=some i) (hz:i.zero=some z)
  (hsize:i.size=sz) (hby:i.bytes=bytes) (hzs:z.cells.size=sz) (hsz:0 < sz) (ok:RpOk sz R) (base:Nat) (hbase:base<=w.heap.size) (v:Value) (l:List α) (hs:a.eval s=v) (hown:Grow e sz R B w base v l)
  (A:Option Addr) (m c:Nat) (hx:a.eval x= .slice A m c) (l2:List α) (hm:m=l2.length) (hsl:SlAt sz R (z12 B w v) w A l2) (hbytes:(l.length+m)*bytes<=140737488355328) (hb0:0 < bytes)
  (h:∀v' w',Grow e sz R B w' base v' (l++l2)->w.grownBy w' v.ownBlock->(v'.ownBlock=v.ownBlock\/v'.ownBlock=some w.heap.size)->wpList P ops Q rest (a.put o.dst v') w'):wpList P ops Q (o :: rest) a w:=by
 refine z9p w hgd s x t ho e i z sz bytes ht hi hz hsize hby hzs hsz ok base hbase v l hs hown A m c hx l2 hm hsl hbytes hb0 fun v' w' g1 g2 g3=>h v' w' ?_ g2 g3
 refine Own.keep (S':=z12 B w' v') ok g1 (fun b _=>rfl) (fun b hb hl=>⟨⟨hl,hb.2.1,?_⟩,rfl⟩) fun b hb=>⟨hb.1,hb.2.2⟩
 rcases g3 with g3 | g3
 ·rw [g3];exact hb.2.2
 rw [g3];have:=hb.1;simp only [ne_eq,Option.some.injEq];omega
theorem zAc {S:Nat->Prop} {b o:Nat} {x:α} (ys:List Value) (hS:S b) (hl:ys.length=sz) (hc:∀j y,ys[j]? =some y->w.cell? ⟨b,o+j,none⟩=some y) (hR:R S w ys x):SlAt sz R S w (some ⟨b,o,none⟩) [x]:=by
 intro i z hi
 rcases i with _ | i
 ·simp at hi
  subst hi
  exact ⟨b,o,ys,rfl,hS,hl,fun j y hj=>by rw [Nat.zero_mul,Nat.zero_add];exact hc j y hj,hR⟩
 simp at hi
end
theorem zIr {B:Nat->Prop} {w:World} {v:Value} (o:Obj):Kept (z12 B w v) (z12 B (w.alloc o) v) w (w.alloc o):=fun b hb hl=>
 ⟨⟨by simp;omega,hb.2.1,hb.2.2⟩,heap_alloc_old _ _ hl⟩
theorem zGw {w w' w'':World} {row:Option Nat} (h:w.grownBy w' row) (k:w'.grownBy w'' row):w.grownBy w'' row:=
 ⟨k.os.trans h.os,k.tape.trans h.tape,k.output.trans h.output,Nat.le_trans h.size k.size,fun b hl hne=>(k.block b (zll hl h.size) hne).trans (h.block b hl hne)⟩
section
variable {P:Program} {α:Type} {e:TypeId} {sz:Nat} {R:Rp α} {B B':Nat->Prop} {base:Nat} {v:Value} {l:List α}
theorem YM (W:World) (ys:List Value) {ops:Array Oper} {rest:List Oper} {o:Oper} {a:Act} {Q:Exit->Act->World->Prop} (hgd:o.guard=none) (s x:Operand) (t:TypeId)
  (ho:o.op= .call { callee:= .builtin .append,args:=#[s,x],argTypes:=#[t,t] })
  (e:TypeId) (i:TypeInfo) (z:Value) (sz bytes:Nat) (ht:P.underlying t=some (.slice e)) (hi:P.info? e=some i) (hz:i.zero=some z)
  (hsize:i.size=sz) (hby:i.bytes=bytes) (hzs:z.cells.size=sz) (hsz:0 < sz) (ok:RpOk sz R) (base:Nat) (hbase:base<=W.heap.size) (v:Value) (l:List α) (hs:a.eval s=v) (hown:Grow e sz R B W base v l)
  (c N:Nat) (hx:a.eval x= .slice (some ⟨N,0,none⟩) 1 c) (hN:N=W.heap.size) (x0:α) (hB:∀b,B b->b < W.heap.size) (hR:R (z12 B W v) W ys x0) (hbytes:(l.length+1)*bytes<=140737488355328) (hb0:0 < bytes)
  (h:∀v' w',Grow e sz R B w' base v' (l++[x0])->W.grownBy w' v.ownBlock->(v'.ownBlock=v.ownBlock\/v'.ownBlock=some (W.heap.size+1))->wpList P ops Q rest (a.put o.dst v') w'):wpList P ops Q (o :: rest) a (W.alloc (.cells ys.toArray e)):=by
 subst hN
 refine yQ (B:=B) (W.alloc (.cells ys.toArray e)) hgd s x t ho e i z sz bytes ht hi hz hsize hby hzs hsz ok base (by simp;omega) v l hs (hown.alloc ok _) _ 1 c hx [x0] rfl ?_ hbytes hb0 ?_
 ·refine zAc ys ⟨by simp,fun h=>?_,fun h=>?_⟩ (ok.len hR) (fun j y hj=>?_) (ok.keep hR (zIr _))
  ·have:=hB _ h;omega
  ·have:=(hown.base_le _ h).2;omega
  rw [cell_of_row _ W.heap.size _ ys.toArray e (0,0) (heap_alloc_new W _)]
  simpa using hj
 intro v' w' g1 g2 g3
 refine h v' w' g1 (zGw (World.grownBy_alloc W _ _) g2) ?_
 simpa using g3
end
end
section
open Go.RowKit Go.Deep
theorem z8k {b:Nat} {T:TypeId}:∀(vs:List Value) (w:World) (o:Nat) (cs:Array Value),w.heap[b]? =some (.cells cs T (0,0))->o+vs.length<=cs.size->
  ∃cs',(w.setCells b o vs).heap[b]? =some (.cells cs' T (0,0))/\cs'.size=cs.size/\(∀j,j < vs.length->cs'[o+j]? =vs[j]?)/\∀j,(j < o\/o+vs.length<=j)->cs'[j]? =cs[j]?
 | [],w,o,cs,h,_=>⟨cs,h,rfl,fun j hj=>by simp at hj,fun j _=>rfl⟩
 | v :: vs,w,o,cs,h,hl=>by
  simp only [List.length_cons] at hl
  obtain ⟨cs',h1,h2,h3,h4⟩:=z8k vs (w.setCell ⟨b,o,none⟩ v) (o+1) (cs.setIfInBounds o v) (zI v h rfl) (by rw [Array.size_setIfInBounds];omega)
  refine ⟨cs',by simpa only [World.setCells] using h1,by rw [h2,Array.size_setIfInBounds],fun j hj=>?_,fun j hj=>?_⟩
  ·rcases j with _ | j
   ·rw [Nat.add_zero,h4 o (.inl (by omega)),Array.getElem?_setIfInBounds,if_pos rfl,if_pos (by omega)]
    rfl
   ·simp only [List.length_cons] at hj
    have:=h3 j (by omega)
    rw [show o+(j+1)=o+1+j by omega,this]
    rfl
  ·simp only [List.length_cons] at hj
   rw [h4 j (by omega),Array.getElem?_setIfInBounds,if_neg (by omega)]
theorem z17 (b:Nat):∀(vs:List Value) (w:World) (o:Nat),(w.setCells b o vs).os=w.os/\(w.setCells b o vs).tape=w.tape/\(w.setCells b o vs).output=w.output/\(w.setCells b o vs).heap.size=w.heap.size/\∀k,k≠b->(w.setCells b o vs).heap[k]? =w.heap[k]?
 | [],w,o=>⟨rfl,rfl,rfl,rfl,fun _ _=>rfl⟩
 | v :: vs,w,o=>by
  have h:=z17 b vs (w.setCell ⟨b,o,none⟩ v) (o+1)
  have e:w.setCells b o (v :: vs)=(w.setCell ⟨b,o,none⟩ v).setCells b (o+1) vs:=rfl
  have B:=(Below.refl 0 w).setCell (p:=⟨b,o,none⟩) (Nat.zero_le _) v
  rw [e]
  exact ⟨h.1.trans B.os,h.2.1.trans B.tape,h.2.2.1.trans B.output,h.2.2.2.1.trans (by simp),fun k hk=>(h.2.2.2.2 k hk).trans (Below.heap_setCell _ _ _ _ hk)⟩
theorem z4o {sz:Nat}:∀{l:List (List Value)},(∀x∈l,x.length=sz)->l.flatten.length=l.length*sz
 | [],_=>by simp
 | x :: l,h=>by
  have:=z4o (sz:=sz) (l:=l) fun y hy=>h y (zmc _ hy)
  rw [List.flatten_cons,List.length_append,this,h x (List.mem_cons_self ..),List.length_cons,Nat.add_mul]
  omega
def RowC (e:TypeId) (sz:Nat) (w:World) (v:Value) (l:List (List Value)):Prop:=
 (∀x∈l,x.length=sz/\∀u∈x,u.oneCell'=true)/\((v= .slice none 0 0/\l=[])\/∃g off cap cur,v= .slice (some ⟨g,off,none⟩) l.length cap/\w.heap[g]? =some (.cells cur e (0,0))/\l.length<=cap/\cap<=maxLen/\off+cap*sz<=cur.size/\∀q u,l.flatten[q]? =some u->cur[off+q]? =some u)
section
variable {e:TypeId} {sz:Nat}
theorem RowC.nil (w:World):RowC e sz w (.slice none 0 0) []:=⟨fun x hx=>by simp at hx,.inl ⟨rfl,rfl⟩⟩
theorem RowC.keep {w w':World} {v:Value} {l:List (List Value)} (h:RowC e sz w v l) (k:∀b,v.ownBlock=some b->w'.heap[b]? =w.heap[b]?):RowC e sz w' v l:=by
 obtain ⟨h0,h⟩:=h
 refine ⟨h0,?_⟩
 rcases h with h | ⟨g,off,cap,cur,hv,hg,r⟩
 ·exact .inl h
 exact .inr ⟨g,off,cap,cur,hv,(k g (by rw [hv];rfl)).trans hg,r⟩
theorem RowC.lt {w:World} {v:Value} {l:List (List Value)} (h:RowC e sz w v l):∀b,v.ownBlock=some b->b < w.heap.size:=by
 rcases h.2 with ⟨rfl,_⟩ | ⟨g,off,cap,cur,rfl,hg,r⟩
 ·intro b hb;cases hb
 intro b hb
 obtain rfl:g=b:=zsi hb
 exact zM hg
theorem RowC.shape {w:World} {v:Value} {l:List (List Value)} (h:RowC e sz w v l):∃A c,v= .slice A l.length c/\(l≠[]->∃g o,A=some ⟨g,o,none⟩):=by
 rcases h.2 with ⟨rfl,rfl⟩ | ⟨g,off,cap,cur,rfl,_⟩
 ·exact ⟨_,_,rfl,fun h=>absurd rfl h⟩
 exact ⟨_,_,rfl,fun _=>⟨_,_,rfl⟩⟩
end
end
section
open Go.RowKit
structure ButB (B:Nat->Prop) (w w':World):Prop where
 os:w'.os=w.os
 tape:w'.tape=w.tape
 output:w'.output=w.output
 size:w.heap.size<=w'.heap.size
 block:∀k,k < w.heap.size->¬B k->w'.heap[k]? =w.heap[k]?
section
variable {B:Nat->Prop} {w w1 w':World}
theorem ButB.refl (B:Nat->Prop) (w:World):ButB B w w:=⟨rfl,rfl,rfl,znl _,fun _ _ _=>rfl⟩
theorem ButB.of (h:Below w.heap.size w w'):ButB B w w':=⟨h.os,h.tape,h.output,h.size,fun k hk _=>h.block k hk⟩
theorem ButB.grown {m:Nat} (h:w.grownBy w' (some m)) (hB:B m):ButB B w w':=⟨h.os,h.tape,h.output,h.size,fun k hk hb=>h.block k hk fun e=>hb (by cases e;exact hB)⟩
theorem ButB.set (h:ButB B w w') (a:Addr) (v:Value) (ha:B a.block):ButB B w (w'.setCell a v):=have b:=(Below.refl 0 w').setCell (p:=a) (Nat.zero_le _) v
 ⟨b.os.trans h.os,b.tape.trans h.tape,b.output.trans h.output,by simpa using h.size,fun k hk hc=>(Below.heap_setCell _ _ _ _ (fun e=>hc (by rw [e];exact ha))).trans (h.block k hk hc)⟩
theorem ButB.trans (h:ButB B w w1) (k:ButB B w1 w'):ButB B w w':=⟨k.os.trans h.os,k.tape.trans h.tape,k.output.trans h.output,Nat.le_trans h.size k.size,fun b hb hc=>(k.block b (zll hb h.size) hc).trans (h.block b hb hc)⟩
theorem ButB.below {n:Nat} {w0:World} (h:Below n w0 w) (hn:n<=w.heap.size) (hB:∀k,B k->n<=k) (k:ButB B w w'):Below n w0 w':=
 ⟨k.os.trans h.os,k.tape.trans h.tape,k.output.trans h.output,Nat.le_trans h.size k.size,fun b hb=>(k.block b (by omega) fun hb'=>by have:=hB b hb';omega).trans (h.block b hb)⟩
end
theorem ButB.mono {B B':Nat->Prop} {w w':World} (h:ButB B w w') (k:∀x,B x->B' x):ButB B' w w':=⟨h.os,h.tape,h.output,h.size,fun x hx hb=>h.block x hx fun e=>hb (k x e)⟩
theorem ButB.kept {B S S':Nat->Prop} {w w':World} (h:ButB B w w') (hS:∀x,S x->S' x/\¬B x):Go.Proofs.YtdggplhnfhcieaaGreatDoor.Kept S S' w w':=fun x hx hl=>⟨(hS x hx).1,h.block x hl (hS x hx).2⟩
end
section
open Go.RowKit Go.Deep
section
variable {P:Program} {α:Type} {e:TypeId} {sz:Nat} {R:Rp α} {B B':Nat->Prop} {w w':World} {base:Nat} {v:Value} {l:List α}
theorem zE4 (w:World) {ops:Array Oper} {o:Oper} {a:Act} {K:Act->World->Prop} {Q:Exit->Act->World->Prop} {E:Prop} (hgd:o.guard=none) (s x:Operand) (t:TypeId)
  (ho:o.op= .call { callee:= .builtin .append,args:=#[s,x],argTypes:=#[t,t] })
  (e:TypeId) (i:TypeInfo) (z:Value) (sz bytes:Nat) (ht:P.underlying t=some (.slice e)) (hi:P.info? e=some i) (hz:i.zero=some z)
  (hsize:i.size=sz) (hby:i.bytes=bytes) (hzs:z.cells.size=sz) (hsz:0 < sz) (ok:RpOk sz R) (base:Nat) (hbase:base<=w.heap.size) (v:Value) (l:List α) (hs:a.eval s=v) (hown:Grow e sz R B w base v l)
  (A:Option Addr) (m c:Nat) (hx:a.eval x= .slice A m c) (l2:List α) (hm:m=l2.length) (hsl:SlAt sz R (z12 B w v) w A l2) (hbytes:(l.length+m)*bytes<=140737488355328) (hb0:0 < bytes)
  (h:∀v' w',Grow e sz R B w' base v' (l++l2)->w.grownBy w' v.ownBlock->K (a.put o.dst v') w'):if Region.wanted o (yielded ops a.tmps)=true then Oper.wp P o a w K Q else E:=by
 have hw:Region.wanted o (yielded ops a.tmps)=true:=by simp [Region.wanted,hgd]
 rw [if_pos hw]
 obtain ⟨v',w',r1,r2,r3,r4⟩:=z79 (P:=P) w t o.type e i z sz bytes ht hi hz hsize hby hzs hsz ok base hbase v l hown A m c l2 hm hsl hbytes hb0
 refine Lib.wp_append_run w s x t t ho _ _ hs hx v' w' r1 (h v' w' ?_ r3)
 refine Own.keep (S':=z12 B w' v') ok r2 (fun b _=>rfl) (fun b hb hl=>⟨⟨hl,hb.2.1,?_⟩,rfl⟩) fun b hb=>⟨hb.1,hb.2.2⟩
 rcases r4 with g3 | g3
 ·rw [g3];exact hb.2.2
 rw [g3];have:=hb.1;simp only [ne_eq,Option.some.injEq];omega
theorem Grow.one {g:Nat} {cs:Array Value} {x:α} (ok:RpOk sz R) (hg:w.heap[g]? =some (.cells cs e (0,0))) (hb:base<=g) (hcs:cs.size=sz) (hR:R (z12 B w (.slice (some ⟨g,0,none⟩) 1 1)) w cs.toList x):Grow e sz R B w base (.slice (some ⟨g,0,none⟩) 1 1) [x]:=by
 refine ⟨by simp,fun b hb'=>⟨hb'.1,hb'.2.2⟩,cs.toList,⟨by simp [hcs],.inr ⟨g,1,cs,rfl,hb,hg,znl _,by decide,by simp [hcs],List.take_of_length_le (by simp [hcs])⟩⟩,fun i y hy=>?_⟩
 rcases i with _ | i
 ·obtain rfl:x=y:=by simpa using hy
  exact ⟨cs.toList,by simp [hcs],fun j u hj=>by rw [Nat.zero_mul,Nat.zero_add];exact hj,hR⟩
 simp at hy
end
end
section
abbrev GN:=Bool×Nm×Int
def uN (s:Nm):GN:=(false,s,0)
def eN (s:Nm) (e:Int):GN:=(true,s,e)
inductive Reach (E:List (GN×GN)) (a:GN):GN->Prop
 | refl:Reach E a a
 | step {b c:GN}:Reach E a b->(b,c)∈E->Reach E a c
theorem Reach.closed {E:List (GN×GN)} {a:GN} (S:GN->Prop) (h0:S a) (hS:∀x∈E,S x.1->S x.2) {b:GN} (r:Reach E a b):S b:=by
 induction r with
 | refl=>exact h0
 | step _ hm ih=>exact hS _ hm ih
instance memDec (s:Nm) (l:List Nm):Decidable (s∈l):=decidable_of_iff (∃y∈l,y=s) (by simp)
def z5i {α:Type} (key:α->Nm) (out:List α) (x:α):List α:=if key x∈out.map key then out else out++[x]
def ZF {α:Type} (key:α->Nm) (l:List α):List α:=l.foldl (z5i key) []
theorem z4n {α:Type} {p:List α->Prop} (h0:p []) (hs:∀l x,p l->p (l++[x])) (l:List α):p l:=by
 have:∀r:List α,p r.reverse:=by
  intro r
  induction r with
  | nil=>exact h0
  | cons x r ih=>rw [List.reverse_cons];exact hs _ _ ih
 have h:=this l.reverse
 rwa [List.reverse_reverse] at h
section
variable {α:Type} (key:α->Nm)
theorem zAy (l:List α) (x:α):ZF key (l++[x])=z5i key (ZF key l) x:=by simp [ZF,List.foldl_append]
theorem z9s (l:List α) (s:Nm):s∈(ZF key l).map key↔s∈l.map key:=by
 induction l using z4n with
 | h0=>simp [ZF]
 | hs l x ih=>
  rw [zAy,z5i,List.map_append,List.mem_append,<-ih]
  split
  ·rename_i h
   constructor
   ·exact .inl
   rintro (h2 | h2)
   ·exact h2
   obtain rfl:s=key x:=by simpa using h2
   exact h
  rw [List.map_append,List.mem_append]
theorem YY (l:List α) (x:α):ZF key (l++[x])=if key x∈l.map key then ZF key l else ZF key l++[x]:=by
 rw [zAy,z5i]
 by_cases h:key x∈l.map key
 ·rw [if_pos h,if_pos ((z9s key l _).2 h)]
 rw [if_neg h,if_neg fun e=>h ((z9s key l _).1 e)]
theorem z4h (l:List α):(ZF key l).length<=l.length:=by
 induction l using z4n with
 | h0=>simp [ZF]
 | hs l x ih=>
  rw [YY]
  split
  ·rw [List.length_append];omega
  rw [List.length_append,List.length_append];simpa using ih
theorem zAz (l:List α) (x:α) (h:x∈ZF key l):x∈l:=by
 induction l using z4n with
 | h0=>simp [ZF] at h
 | hs l y ih=>
  rw [YY] at h
  split at h
  ·exact List.mem_append_left _ (ih h)
  rcases zmb h with h | h
  ·exact List.mem_append_left _ (ih h)
  exact List.mem_append_right _ h
theorem zIo (l:List α) (x:α):x∈ZF key l↔∃a b,l=a++x :: b/\key x∉a.map key:=by
 induction l using z4n with
 | h0=>simp [ZF]
 | hs l y ih=>
  rw [YY]
  constructor
  ·intro h
   split at h
   ·obtain ⟨a,b,rfl,h2⟩:=ih.1 h
    exact ⟨a,b++[y],by simp,h2⟩
   rename_i hn
   rcases zmb h with h | h
   ·obtain ⟨a,b,rfl,h2⟩:=ih.1 h
    exact ⟨a,b++[y],by simp,h2⟩
   obtain rfl:x=y:=by simpa using h
   exact ⟨l,[],rfl,hn⟩
  rintro ⟨a,b,e,h2⟩
  rcases List.eq_nil_or_concat b with rfl | ⟨b',z,rfl⟩
  ·obtain ⟨rfl,e2⟩:=List.append_inj' e rfl
   obtain rfl:y=x:=by simpa using e2
   rw [if_neg h2]
   exact List.mem_append_right _ (by simp)
  have e3:l++[y]=(a++x :: b')++[z]:=by rw [e];simp
  obtain ⟨rfl,_⟩:=List.append_inj' e3 rfl
  have:=ih.2 ⟨a,b',rfl,h2⟩
  split
  ·exact this
  exact List.mem_append_left _ this
theorem z52 (l:List α) (s:Nm) (x:α):l.find? (fun y=>decide (key y=s))=some x↔x∈ZF key l/\key x=s:=by
 rw [zIo]
 constructor
 ·intro h
  obtain ⟨h1,a,b,rfl,h2⟩:=List.find?_eq_some_iff_append.1 h
  have h1':key x=s:=by simpa using h1
  refine ⟨⟨a,b,rfl,fun hm=>?_⟩,h1'⟩
  obtain ⟨y,hy,e⟩:=List.mem_map.1 hm
  have:=h2 y hy
  simp [e,h1'] at this
 rintro ⟨⟨a,b,rfl,h2⟩,h1⟩
 refine List.find?_eq_some_iff_append.2 ⟨by simpa using h1,a,b,rfl,fun y hy=>?_⟩
 have:key y≠s:=fun e=>h2 (List.mem_map.2 ⟨y,hy,by rw [e,h1]⟩)
 simpa using this
end
def zV (st:State) (s:Nm):Option Folder:=st.folders.find? fun f=>decide (f.name=s)
theorem z1s {st:State} {s:Nm} {f:Folder} (h:zV st s=some f):f.name=s:=by simpa using List.find?_some h
theorem z15 {st:State} {s:Nm} {f:Folder} (h:zV st s=some f):f∈st.folders:=List.mem_of_find?_eq_some h
def z1c:List Epoch->Int->Int
 | [],e=>e
 | x :: l,e=>if x.place=1 then e else z1c l (e+1)
theorem zDx:∀(l:List Epoch) (e:Int),e<=z1c l e/\z1c l e<=e+l.length
 | [],e=>by simp [z1c]
 | x :: l,e=>by
  rw [z1c]
  have:=zDx l (e+1)
  split
  ·simp only [List.length_cons];omega
  ·simp only [List.length_cons];omega
def yT (l:List Epoch) (e:Int):Int:=if 1<=e/\e<=l.length then z1c (l.drop e.toNat) e else e
theorem zDy {l:List Epoch} {e:Int} (h1:1<=e) (h2:e<=l.length):e<=yT l e/\yT l e<=l.length:=by
 rw [yT,if_pos ⟨h1,h2⟩]
 have:=zDx (l.drop e.toNat) e
 rw [List.length_drop] at this
 omega
theorem z4i {l:List Epoch} {e:Int} (h:¬(1<=e/\e<=l.length)):yT l e=e:=by rw [yT,if_neg h]
def z1t (l:List Epoch) (w:Wrap):Int:=if w.seed then yT l w.epoch else w.epoch
def z03 (f:Folder) (l:List Wrap):List (GN×GN):=l.map fun w=>(uN w.name,eN f.name (z1t f.epochs w))
def z29 (f:Folder) (l:List Link):List (GN×GN):=l.map fun x=>(eN x.to x.seq,eN f.name x.epoch)
def z2a (s:Nm) (n:Nat):List (GN×GN):=(List.range n).map fun i:Nat=>(eN s ((i:Int)+2),eN s ((i:Int)+1))
def z0l (f:Folder):List (GN×GN):=z2a f.name (f.epochs.length - 1)++(z03 f (ZF Wrap.name f.wraps)++z29 f f.links)
def z04 (l:List Pair):List (GN×GN):=l.map fun p=>(uN p.to,uN p.frm)
def z3h (st:State):List (GN×GN):=z04 st.deposits++(ZF Folder.name st.folders).flatMap z0l
theorem z5a {st:State} {a b:GN}:(a,b)∈z3h st↔(∃p∈st.deposits,a=uN p.to/\b=uN p.frm)\/∃f∈ZF Folder.name st.folders,
  (∃e:Int,2<=e/\e<=f.epochs.length/\a=eN f.name e/\b=eN f.name (e - 1))\/(∃w∈ZF Wrap.name f.wraps,a=uN w.name/\b=eN f.name (z1t f.epochs w))\/∃x∈f.links,a=eN x.to x.seq/\b=eN f.name x.epoch:=by
 have hE:∀f:Folder,(a,b)∈z2a f.name (f.epochs.length - 1)↔∃e:Int,2<=e/\e<=f.epochs.length/\a=eN f.name e/\b=eN f.name (e - 1):=fun f=>by
  unfold z2a
  rw [List.mem_map]
  constructor
  ·rintro ⟨i,hi,h⟩
   rw [List.mem_range] at hi
   rw [Prod.mk.injEq] at h
   exact ⟨i+2,by omega,by omega,h.1.symm,by rw [<-h.2];congr 1;omega⟩
  ·rintro ⟨e,_,_,rfl,rfl⟩
   exact ⟨(e - 2).toNat,by rw [List.mem_range];omega,by rw [Prod.mk.injEq];constructor<;>(congr 1;omega)⟩
 unfold z3h z04
 rw [List.mem_append,List.mem_map,List.mem_flatMap]
 refine or_congr ?_ ?_
 ·constructor
  ·rintro ⟨p,hp,h⟩
   rw [Prod.mk.injEq] at h
   exact ⟨p,hp,h.1.symm,h.2.symm⟩
  rintro ⟨p,hp,rfl,rfl⟩
  exact ⟨p,hp,rfl⟩
 refine exists_congr fun f=>and_congr_right fun _=>?_
 unfold z0l z03 z29
 rw [List.mem_append,List.mem_append,hE,List.mem_map,List.mem_map]
 refine or_congr Iff.rfl (or_congr ?_ ?_)
 ·constructor
  ·rintro ⟨p,hp,h⟩
   rw [Prod.mk.injEq] at h
   exact ⟨p,hp,h.1.symm,h.2.symm⟩
  rintro ⟨p,hp,rfl,rfl⟩
  exact ⟨p,hp,rfl⟩
 constructor
 ·rintro ⟨p,hp,h⟩
  rw [Prod.mk.injEq] at h
  exact ⟨p,hp,h.1.symm,h.2.symm⟩
 rintro ⟨p,hp,rfl,rfl⟩
 exact ⟨p,hp,rfl⟩
def z60 (st:State) (u fo:Nm) (e:Int):Prop:=Reach (z3h st) (uN u) (eN fo e)
def IsMost (p:Int->Prop) (len:Nat) (n:Int):Prop:=0<=n/\n<=len/\(n=0\/p n)/\∀e:Int,1<=e->e<=len->p e->e<=n
theorem IsMost.one {p q:Int->Prop} {len:Nat} {n m:Int} (h:IsMost p len n) (k:IsMost q len m) (e:∀x,p x↔q x):n=m:=by
 obtain ⟨a1,a2,a3,a4⟩:=h
 obtain ⟨b1,b2,b3,b4⟩:=k
 have h1:n<=m:=by
  rcases a3 with rfl | h
  ·exact b1
  ·by_cases h0:1<=n
   ·exact b4 n h0 a2 ((e _).1 h)
   ·omega
 have h2:m<=n:=by
  rcases b3 with rfl | h
  ·exact a1
  ·by_cases h0:1<=m
   ·exact a4 m h0 b2 ((e _).2 h)
   ·omega
 omega
def IsReach (st:State) (u fo:Nm) (n:Int):Prop:=(zV st fo=none/\n=0)\/∃f,zV st fo=some f/\IsMost (z60 st u fo) f.epochs.length n
theorem IsReach.one {st:State} {u fo:Nm} {n m:Int} (h:IsReach st u fo n) (k:IsReach st u fo m):n=m:=by
 rcases h with ⟨h1,rfl⟩ | ⟨f,h1,h2⟩
 ·rcases k with ⟨k1,rfl⟩ | ⟨g,k1,k2⟩
  ·rfl
  rw [h1] at k1;cases k1
 rcases k with ⟨k1,rfl⟩ | ⟨g,k1,k2⟩
 ·rw [h1] at k1;cases k1
 obtain rfl:f=g:=zsi (h1.symm.trans k1)
 exact h2.one k2 fun _=>Iff.rfl
def z38 (nm:Nm) (len:Nat) (o:Int) (n:GN):Int:=if n.1=true/\n.2.1=nm/\1<=n.2.2/\n.2.2<=len then max o n.2.2 else o
def z0m (nm:Nm) (len:Nat) (l:List GN):Int:=l.foldl (z38 nm len) 0
theorem z9t (nm:Nm) (len:Nat) (l:List GN) (x:GN):z0m nm len (l++[x])=z38 nm len (z0m nm len l) x:=by simp [z0m,List.foldl_append]
theorem zKv (nm:Nm) (len:Nat) (l:List GN):IsMost (fun e=>eN nm e∈l) len (z0m nm len l):=by
 induction l using z4n with
 | h0=>exact ⟨by simp [z0m],by simp [z0m],.inl rfl,fun e _ _ h=>by simp at h⟩
 | hs l x ih=>
  obtain ⟨a1,a2,a3,a4⟩:=ih
  rw [z9t,z38]
  split
  ·rename_i h
   obtain ⟨h1,h2,h3,h4⟩:=h
   obtain ⟨x1,x2,x3⟩:=x
   dsimp only at h1 h2 h3 h4⊢
   subst h1 h2
   refine ⟨by omega,by omega,?_,fun e h5 h6 h7=>?_⟩
   ·rcases Int.le_total (z0m x2 len l) x3 with h9 | h9
    ·rw [Int.max_eq_right h9];exact .inr (List.mem_append_right _ (by simp [eN]))
    rw [Int.max_eq_left h9]
    exact a3.imp id fun h=>List.mem_append_left _ h
   rcases zmb h7 with h8 | h8
   ·have:=a4 e h5 h6 h8;omega
   have:eN x2 e=(true,x2,x3):=by simpa using h8
   simp only [eN,Prod.mk.injEq,true_and] at this
   omega
  rename_i h
  refine ⟨a1,a2,a3.imp id fun h=>List.mem_append_left _ h,fun e h5 h6 h7=>?_⟩
  rcases zmb h7 with h8 | h8
  ·exact a4 e h5 h6 h8
  have h9:eN nm e=x:=by simpa using h8
  subst h9
  exact absurd ⟨rfl,rfl,h5,h6⟩ h
theorem zIp {st:State} {u fo:Nm} {f:Folder} (hf:zV st fo=some f) {l:List GN} (h:∀x,x∈l↔Reach (z3h st) (uN u) x):IsReach st u fo (z0m f.name f.epochs.length l):=by
 refine .inr ⟨f,hf,?_⟩
 obtain ⟨a1,a2,a3,a4⟩:=zKv f.name f.epochs.length l
 rw [z1s hf] at a1 a2 a3 a4⊢
 exact ⟨a1,a2,a3.imp id fun k=>(h _).1 k,fun e h1 h2 h3=>a4 e h1 h2 ((h _).2 h3)⟩
structure GRep (E:List (GN×GN)) (m:Nat) (ns:List GN) (adj:List (List Nat)):Prop where
 nodup:ns.Nodup
 len:adj.length=ns.length
 lt:∀(i:Nat) (l:List Nat) (j:Nat),adj[i]? =some l->j∈l->j < ns.length
 edge:∀a b,(a,b)∈E↔∃(i j:Nat) (l:List Nat),ns[i]? =some a/\ns[j]? =some b/\adj[i]? =some l/\j∈l
 small:ns.length<=m
 deg:∀(i:Nat) (l:List Nat),adj[i]? =some l->l.length<=m
theorem zAb {α:Type} {l:List α} (h:l.Nodup) {i j:Nat} {x:α} (hi:l[i]? =some x) (hj:l[j]? =some x):i=j:=by
 have h1:=(zge hi)
 have h2:=(zge hj)
 rcases Nat.lt_trichotomy i j with k | k | k
 ·exact absurd (h1.2.trans h2.2.symm) (List.pairwise_iff_getElem.1 h i j h1.1 h2.1 k)
 ·exact k
 exact absurd (h2.2.trans h1.2.symm) (List.pairwise_iff_getElem.1 h j i h2.1 h1.1 k)
section
variable {E:List (GN×GN)} {m:Nat} {ns:List GN} {adj:List (List Nat)}
theorem GRep.start:GRep [] 0 [] []:=⟨List.nodup_nil,rfl,fun i l j h=>by simp at h,fun a b=>by simp,znl _,fun i l h=>by simp at h⟩
theorem GRep.mono (h:GRep E m ns adj) {m':Nat} (hm:m<=m'):GRep E m' ns adj:=⟨h.nodup,h.len,h.lt,h.edge,Nat.le_trans h.small hm,fun i l e=>Nat.le_trans (h.deg i l e) hm⟩
theorem GRep.again (h:GRep E m ns adj) {x:GN×GN} (hx:x∈E):GRep (E++[x]) m ns adj:=⟨h.nodup,h.len,h.lt,fun a b=>by
 rw [<-h.edge,List.mem_append]
 constructor
 ·rintro (k | k)
  ·exact k
  ·rw [zml k];exact hx
 ·exact .inl,h.small,h.deg⟩
theorem GRep.node (h:GRep E m ns adj) {k:GN} (hk:k∉ns):GRep E (m+1) (ns++[k]) (adj++[[]]):=by
 have hlt:∀i l j,(adj++[[]])[i]? =some l->j∈l->adj[i]? =some l/\j < ns.length:=fun i l j hi hj=>by
  rcases Nat.lt_or_ge i adj.length with hl | hl
  ·rw [List.getElem?_append_left hl] at hi
   exact ⟨hi,h.lt i l j hi hj⟩
  ·rw [List.getElem?_append_right hl] at hi
   have:l=[]:=by
    rcases hq:i - adj.length with _ | q
    ·rw [hq] at hi;exact (by simpa using hi:[]=l).symm
    ·rw [hq] at hi;simp at hi
   subst this
   cases hj
 refine ⟨?_,by simp [h.len],fun i l j hi hj=>?_,fun a b=>?_,by have:=h.small;simp;omega,fun i l hi=>?_⟩
 ·refine List.nodup_append.2 ⟨h.nodup,by simp,fun a ha b hb=>?_⟩
  obtain rfl:b=k:=by simpa using hb
  exact fun e=>hk (e▸ha)
 ·have:=(hlt i l j hi hj).2
  simp;omega
 ·rw [h.edge]
  constructor
  ·rintro ⟨i,j,l,h1,h2,h3,h4⟩
   refine ⟨i,j,l,?_,?_,?_,h4⟩
   ·rw [List.getElem?_append_left (zge h1).1];exact h1
   ·rw [List.getElem?_append_left (zge h2).1];exact h2
   rw [List.getElem?_append_left (zge h3).1];exact h3
  rintro ⟨i,j,l,h1,h2,h3,h4⟩
  obtain ⟨h5,h6⟩:=hlt i l j h3 h4
  have h7:i < ns.length:=by rw [<-h.len];exact (zge h5).1
  rw [List.getElem?_append_left h7] at h1
  rw [List.getElem?_append_left h6] at h2
  exact ⟨i,j,l,h1,h2,h5,h4⟩
 rcases Nat.lt_or_ge i adj.length with hl | hl
 ·rw [List.getElem?_append_left hl] at hi
  have:=h.deg i l hi
  omega
 rw [List.getElem?_append_right hl] at hi
 have:l=[]:=by
  rcases hq:i - adj.length with _ | q
  ·rw [hq] at hi;exact (by simpa using hi:[]=l).symm
  ·rw [hq] at hi;simp at hi
 subst this
 simp
theorem GRep.link (h:GRep E m ns adj) {a b:GN} {i j:Nat} {l:List Nat} (ha:ns[i]? =some a) (hb:ns[j]? =some b) (hl:adj[i]? =some l):GRep (E++[(a,b)]) (m+1) ns (adj.set i (l++[j])):=by
 have hil:=(zge hl).1
 have hjl:=(zge hb).1
 refine ⟨h.nodup,by rw [List.length_set];exact h.len,fun i' l' j' h1 h2=>?_,fun a' b'=>?_,by have:=h.small;omega,fun i' l' h1=>?_⟩
 ·rw [List.getElem?_set] at h1
  split at h1
  ·rename_i e
   subst e
   try rw [if_pos hil] at h1
   obtain rfl:=zsi h1
   rcases zmb h2 with h2 | h2
   ·exact h.lt _ _ _ hl h2
   obtain rfl:j'=j:=by simpa using h2
   exact hjl
  exact h.lt _ _ _ h1 h2
 ·rw [List.mem_append,h.edge]
  constructor
  ·rintro (⟨i',j',l',h1,h2,h3,h4⟩ | h9)
   ·by_cases e:i=i'
    ·subst e
     obtain rfl:l'=l:=zsi (h3.symm.trans hl)
     exact ⟨i,j',l'++[j],h1,h2,by rw [List.getElem?_set_self hil],List.mem_append_left _ h4⟩
    exact ⟨i',j',l',h1,h2,by rw [List.getElem?_set_ne e];exact h3,h4⟩
   have h9:(a',b')=(a,b):=by simpa using h9
   rw [Prod.mk.injEq] at h9
   obtain ⟨rfl,rfl⟩:=h9
   exact ⟨i,j,l++[j],ha,hb,by rw [List.getElem?_set_self hil],List.mem_append_right _ (by simp)⟩
  rintro ⟨i',j',l',h1,h2,h3,h4⟩
  rw [List.getElem?_set] at h3
  split at h3
  ·rename_i e
   subst e
   try rw [if_pos hil] at h3
   obtain rfl:=zsi h3
   rcases zmb h4 with h4 | h4
   ·exact .inl ⟨i,j',l,h1,h2,hl,h4⟩
   obtain rfl:j'=j:=by simpa using h4
   obtain rfl:=zsi (h1.symm.trans ha)
   obtain rfl:=zsi (h2.symm.trans hb)
   exact .inr (by simp)
  exact .inl ⟨i',j',l',h1,h2,h3,h4⟩
 rw [List.getElem?_set] at h1
 split at h1
 ·rename_i e
  subst e
  try rw [if_pos hil] at h1
  obtain rfl:=zsi h1
  have:=h.deg _ _ hl
  simp;omega
 have:=h.deg _ _ h1
 omega
end
structure Srch (E:List (GN×GN)) (s:GN) (all:List GN) (i:Nat):Prop where
 nodup:all.Nodup
 head:s∈all
 sound:∀x∈all,Reach E s x
 done:∀(k:Nat) (x:GN),k < i->all[k]? =some x->∀y,(x,y)∈E->y∈all
theorem Srch.start (E:List (GN×GN)) (s:GN):Srch E s [s] 0:=⟨by simp,by simp,fun x hx=>by rw [zml hx];exact .refl,fun k x hk=>by omega⟩
theorem Srch.add {E:List (GN×GN)} {s:GN} {all:List GN} {i:Nat} (h:Srch E s all i) {x y:GN} (hx:x∈all) (he:(x,y)∈E) (hy:y∉all) (hi:i<=all.length):Srch E s (all++[y]) i:=by
 refine ⟨List.nodup_append.2 ⟨h.nodup,by simp,fun a ha b hb=>?_⟩,List.mem_append_left _ h.head,fun z hz=>?_,fun k z hk hz v hv=>?_⟩
 ·obtain rfl:b=y:=by simpa using hb
  exact fun e=>hy (e▸ha)
 ·rcases zmb hz with hz | hz
  ·exact h.sound z hz
  rw [zml hz]
  exact .step (h.sound x hx) he
 rw [List.getElem?_append_left (by omega)] at hz
 exact List.mem_append_left _ (h.done k z hk hz v hv)
theorem Srch.next {E:List (GN×GN)} {s:GN} {all:List GN} {i:Nat} (h:Srch E s all i) {x:GN} (hx:all[i]? =some x) (hd:∀y,(x,y)∈E->y∈all):Srch E s all (i+1):=
 ⟨h.nodup,h.head,h.sound,fun k z hk hz y hy=>by
  rcases Nat.lt_or_ge k i with h1 | h1
  ·exact h.done k z h1 hz y hy
  ·obtain rfl:k=i:=by omega
   obtain rfl:=zsi (hx.symm.trans hz)
   exact hd y hy⟩
theorem Srch.all {E:List (GN×GN)} {s:GN} {all:List GN} {i:Nat} (h:Srch E s all i) (hi:all.length<=i) (x:GN):x∈all↔Reach E s x:=by
 refine ⟨h.sound x,fun r=>r.closed (·∈all) h.head fun e he h1=>?_⟩
 obtain ⟨k,hk⟩:=List.getElem?_of_mem h1
 have:=(zge hk).1
 exact h.done k _ (by omega) hk _ he
theorem z6g {α:Type}:∀{ks L:List α},ks.Nodup->(∀e∈ks,e∈L)->ks.length<=L.length
 | [],_,_,_=>Nat.zero_le _
 | k :: ks,L,hn,hs=>by
  obtain ⟨h1,h2⟩:=List.nodup_cons.1 hn
  obtain ⟨a,b,rfl⟩:=List.append_of_mem (hs k (List.mem_cons_self ..))
  have h3:=z6g (L:=a++b) h2 fun e he=>by
   have:=hs e (zmc _ he)
   simp only [List.mem_append,List.mem_cons] at this⊢
   rcases this with h | rfl | h
   ·exact .inl h
   ·exact absurd he h1
   ·exact .inr h
  simp only [List.length_append,List.length_cons] at h3⊢
  omega
theorem zMs {ns all:List GN} {s:GN} (hn:all.Nodup) (hs:∀x∈all,x=s\/x∈ns):all.length<=ns.length+1:=by
 have:=z6g hn (L:=s :: ns) (fun x hx=>by
  rcases hs x hx with rfl | h
  ·exact List.mem_cons_self ..
  ·exact zmc _ h)
 simpa using this
end
end Go.Proofs.YtdggplhnfhcieaaGreatDoor
