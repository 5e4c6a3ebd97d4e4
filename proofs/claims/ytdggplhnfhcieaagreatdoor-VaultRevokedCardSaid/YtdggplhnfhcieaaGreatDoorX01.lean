/- No condition. -/
import Derived.Maps.AppendAt
import Derived.OwnWalk
import Derived.Lib.AppendZeros
import Derived.WalkKit
import Derived.ProofKit
import Derived.OpenShut
import Derived.Below
import Derived.Carry
import Derived.Test.YtdggplhnfhcieaaGreatDoorRows
import Derived.LaidMore
import Derived.Lay
import Derived.Test.YtdggplhnfhcieaaGreatDoorTie
import Derived.ArgAppend
import Derived.Deep.AppendLies
import Derived.BigRegion
import Derived.Laws.StructEq
import Derived.BigQuiet
import Derived.Test.YtdggplhnfhcieaaGreatDoorX00
set_option linter.all false
set_option maxRecDepth 100000
namespace Go.Proofs.YtdggplhnfhcieaaGreatDoor
section
open Go.RowKit Go.Deep
def Elems {α:Type} (sz:Nat) (R:Rp α) (S:Nat->Prop) (w:World) (xs:List Value) (l:List α):Prop:=
 ∀i x,l[i]? =some x->∃ys:List Value,ys.length=sz/\(∀j y,ys[j]? =some y->xs[i*sz+j]? =some y)/\R S w ys x
def Own {α:Type} (e:TypeId) (sz:Nat) (R:Rp α) (S:Nat->Prop) (w:World) (base:Nat) (v:Value) (l:List α):Prop:=
 l.length<=140737488355328/\(∀b,S b->b < w.heap.size/\v.ownBlock≠some b)/\∃xs:List Value,w.ownsRow base e sz v l.length xs/\Elems sz R S w xs l
section
variable {α:Type} {e:TypeId} {sz:Nat} {R:Rp α} {S:Nat->Prop} {w w':World} {base:Nat} {v:Value} {l:List α}
theorem Own.nil (hS:∀b,S b->b < w.heap.size):Own e sz R S w base (.slice none 0 0) ([]:List α):=
 ⟨by simp,fun b hb=>⟨hS b hb,by simp [Value.ownBlock]⟩,[],World.ownsRow_nil w base e sz,fun i x hi=>by simp at hi⟩
theorem Own.empty {g:Nat} (hg:w.heap[g]? =some (.cells #[] e (0,0))) (hb:base<=g) (hS:∀b,S b->b < w.heap.size/\b≠g):Own e sz R S w base (.slice (some ⟨g,0,none⟩) 0 0) ([]:List α):=
 ⟨by simp,fun b hb=>⟨(hS b hb).1,by simp only [Value.ownBlock,ne_eq,Option.some.injEq];exact fun h=>(hS b hb).2 h.symm⟩,[],⟨by simp,.inr ⟨g,0,#[],rfl,hb,hg,znl _,Nat.zero_le _,by simp,by simp⟩⟩,fun i x hi=>by simp at hi⟩
theorem Elems.keep (ok:RpOk sz R) {S':Nat->Prop} {xs:List Value} (h:Elems sz R S w xs l) (k:Kept S S' w w'):Elems sz R S' w' xs l:=fun i x hx=>by
 obtain ⟨ys,h1,h2,h3⟩:=h i x hx;exact ⟨ys,h1,h2,ok.keep h3 k⟩
theorem Own.keep (ok:RpOk sz R) {S':Nat->Prop} (h:Own e sz R S w base v l) (hk:∀b,v.ownBlock=some b->w'.heap[b]? =w.heap[b]?) (k:Kept S S' w w') (hS:∀b,S' b->b < w'.heap.size/\v.ownBlock≠some b):Own e sz R S' w' base v l:=by
 obtain ⟨h1,_,xs,⟨h3,h4⟩,h5⟩:=h;refine ⟨h1,hS,xs,⟨h3,?_⟩,h5.keep ok k⟩;rcases h4 with h4 | ⟨g,cap,cur,hv,hb,hg,r⟩
 ·exact .inl h4
 exact .inr ⟨g,cap,cur,hv,hb,(hk g (by rw [hv];rfl)).trans hg,r⟩
theorem Own.sl (ok:RpOk sz R) (h:Own e sz R S w base v l):Sl sz R (fun _=>True) w v l:=by
 obtain ⟨h1,_,_,⟨_,h4⟩,h5⟩:=h;rcases h4 with ⟨hv,hn⟩ | ⟨g,cap,cur,hv,hb,hg,hnc,hcm,hcs,htk⟩
 ·have:l=[]:=List.eq_nil_of_length_eq_zero hn;subst this;subst hv;exact z0k _ _ _ _
 refine ⟨some ⟨g,0,none⟩,cap,hv,hnc,hcm,h1,fun i x hx=>?_⟩;obtain ⟨ys,y1,y2,y3⟩:=h5 i x hx;refine ⟨g,0,ys,rfl,trivial,y1,fun j y hj=>?_,ok.keep y3 (Kept.refl w fun _ _=>trivial)⟩;have hx':=y2 j y hj;rw [cell_of_row w g _ cur e (0,0) hg];rw [<-htk,List.getElem?_take] at hx';split at hx'
 ·simpa using hx'
 cases hx'
theorem Own.base_le (h:Own e sz R S w base v l):∀b,v.ownBlock=some b->base<=b/\b < w.heap.size:=by
 obtain ⟨_,_,_,hown,_⟩:=h;exact hown.lt
theorem Own.shape (h:Own e sz R S w base v l):∃A c,v= .slice A l.length c:=by
 obtain ⟨_,_,_,⟨_,h4⟩,_⟩:=h;rcases h4 with ⟨hv,hn⟩ | ⟨g,cap,cur,hv,_⟩
 ·exact ⟨none,0,by rw [hv,hn]⟩
 exact ⟨_,_,hv⟩
end
theorem zG7 {α:Type} {sz:Nat} {R:Rp α} {S:Nat->Prop} {w:World}:∀(l:List α) (f:Nat->List Value),(∀i,i < l.length->(f i).length=sz)->∃news:List Value,news.length=l.length*sz/\∀i j,i < l.length->j < sz->news[i*sz+j]? =(f i)[j]?
 | [],_,_=>⟨[],by simp,fun i j hi=>by simp at hi⟩
 | x :: l,f,h=>by
  obtain ⟨news,h1,h2⟩:=zG7 (R:=R) (S:=S) (w:=w) l (fun i=>f (i+1)) (fun i hi=>h (i+1) (by simp;omega));have h0:=h 0 (by simp);refine ⟨f 0++news,by simp [h0,h1,Nat.add_mul,Nat.add_comm],fun i j hi hj=>?_⟩;rcases i with _ | i
  ·rw [Nat.zero_mul,Nat.zero_add,qLlx (by omega)]
  ·have e:(i+1)*sz+j - (f 0).length=i*sz+j:=by rw [h0,Nat.add_mul];omega
   rw [qLrx (by rw [h0,Nat.add_mul];omega),e];exact h2 i j (by simp at hi;omega) hj
theorem zLl {n sz q:Nat} (hsz:0 < sz) (h:q < n*sz):q / sz < n/\q % sz < sz/\q=q / sz*sz+q % sz:=by
 have h2:=Nat.mod_lt q hsz;have h3:=Nat.div_add_mod q sz;refine ⟨(Nat.div_lt_iff_lt_mul hsz).2 h,h2,?_⟩;rw [Nat.mul_comm] at h3;omega
section
variable {P:Program} {α:Type} {R:Rp α} {S:Nat->Prop}
theorem z8s (w:World) (t ty e:TypeId) (i:TypeInfo) (z:Value) (sz bytes:Nat) (ht:P.underlying t=some (.slice e)) (hi:P.info? e=some i) (hz:i.zero=some z)
  (hsize:i.size=sz) (hby:i.bytes=bytes) (hzs:z.cells.size=sz) (hsz:0 < sz) (ok:RpOk sz R) (base:Nat) (hbase:base<=w.heap.size) (v:Value) (l:List α) (hown:Own e sz R S w base v l)
  (A:Option Addr) (m c:Nat) (l2:List α) (hm:m=l2.length) (hs:SlAt sz R S w A l2) (hbytes:(l.length+m)*bytes<=140737488355328) (hb0:0 < bytes):
  ∃v' w',(Builtin.append_ #[t,t] ty #[v,.slice A m c]).run P w= .ok v' w'/\Own e sz R S w' base v' (l++l2)/\w.grownBy w' v.ownBlock/\(v'.ownBlock=v.ownBlock\/v'.ownBlock=some w.heap.size):=by
 obtain ⟨h1,h2,xs,h3,h4⟩:=hown;have hlen:l.length+m<=140737488355328:=qNtx (Nat.le_mul_of_pos_right _ hb0) hbytes;have hf:∃f:Nat->List Value,∀k,k < l2.length->(f k).length=sz/\(∃b o,A=some ⟨b,o,none⟩/\∀j y,(f k)[j]? =some y->w.cell? ⟨b,o+(k*sz+j),none⟩=some y)/\∀x,l2[k]? =some x->R S w (f k) x:=by
  classical
  have hk:∀k,∃ys:List Value,k < l2.length->ys.length=sz/\(∃b o,A=some ⟨b,o,none⟩/\∀j y,ys[j]? =some y->w.cell? ⟨b,o+(k*sz+j),none⟩=some y)/\∀x,l2[k]? =some x->R S w ys x:=by
   intro k;by_cases hk:k < l2.length
   ·obtain ⟨b,o,ys,hA,_,hl,hc,hR⟩:=hs k _ (qLgx hk);exact ⟨ys,fun _=>⟨hl,⟨b,o,hA,hc⟩,fun x hx=>by rw [qLgx hk] at hx;cases hx;exact hR⟩⟩
   ·exact ⟨[],fun h=>absurd h hk⟩
  exact ⟨fun k=>Classical.choose (hk k),fun k h=>Classical.choose_spec (hk k) h⟩
 obtain ⟨f,hf⟩:=hf;obtain ⟨news,n1,n2⟩:=zG7 (R:=R) (S:=S) (w:=w) l2 f (fun k hk=>(hf k hk).1);have hnews:∀q u,news[q]? =some u->∃k j,k < l2.length/\j < sz/\q=k*sz+j/\(f k)[j]? =some u:=by
  intro q u hq;have hql:q < l2.length*sz:=by rw [<-n1];exact (zge hq).1
  obtain ⟨a1,a2,a3⟩:=zLl hsz hql;refine ⟨q / sz,q % sz,a1,a2,a3,?_⟩;rw [<-n2 _ _ a1 a2,<-a3];exact hq
 have hone:∀u∈news,u.oneCell'=true:=by
  intro u hu;obtain ⟨q,hq⟩:=List.getElem?_of_mem hu;obtain ⟨k,j,hk,hj,_,hu'⟩:=hnews q u hq;exact ok.one ((hf k hk).2.2 _ (qLgx hk)) u (zmg hu')
 have hrun:∃v' w',(Builtin.append_ #[t,t] ty #[v,.slice A m c]).run P w= .ok v' w'/\w'.ownsRow base e sz v' (l.length+m) (xs++news)/\w.grownBy w' v.ownBlock/\(v'.ownBlock=v.ownBlock\/v'.ownBlock=some w.heap.size):=by
  rcases A with _ | ad
  ·have hm0:m=0:=by
    rcases Nat.eq_zero_or_pos m with h0 | h0
    ·exact h0
    ·obtain ⟨_,⟨b,o,h,_⟩,_⟩:=hf 0 (by omega);cases h
   have hl0:l2=[]:=List.eq_nil_of_length_eq_zero (by omega);subst hl0;subst hm0;have hn0:news=[]:=List.eq_nil_of_length_eq_zero (by simpa using n1);subst hn0;refine ⟨v,w,?_,by simpa using h3,World.grownBy.refl w _,.inl rfl⟩;rcases h3.2 with ⟨rfl,hn⟩ | ⟨g,cap,cur,rfl,_,_,hnc,_⟩
   ·simp [Builtin.append_,run_underlying ht,sizeOf,typeInfo,hi,Builtin.lenOf,Builtin.firstCells]
   ·simp [Builtin.append_,run_underlying ht,sizeOf,typeInfo,hi,Builtin.lenOf,Builtin.firstCells,hnc,storeCells]
  ·have hcells:∀q u,news[q]? =some u->w.cell? (ad.add q)=some u:=by
    intro q u hq;obtain ⟨k,j,hk,hj,rfl,hu⟩:=hnews q u hq;obtain ⟨_,⟨b,o,hA,hc⟩,_⟩:=hf k hk;cases hA
    have:=hc j u hu;unfold Addr.add;split
    ·rename_i h0;rw [h0] at this;exact this
    ·exact this
   obtain ⟨v',w',r1,r2,r3,_,r5⟩:=run_append_own_at (P:=P) w base t ty e i z sz bytes ht hi hz hsize hby hzs hsz v l.length xs h3 ad m c news (by rw [n1,hm]) hcells hone (by simp only [maxLen];omega) hbytes hbase;exact ⟨v',w',r1,r2,r3,r5⟩
 obtain ⟨v',w',r1,r2,r3,r4⟩:=hrun;have hSk:Kept S S w w':=fun b hb hl=>⟨hb,r3.block b hl (fun h=>(h2 b hb).2 h.symm)⟩
 refine ⟨v',w',r1,⟨by simp [<-hm];omega,fun b hb=>⟨zll (h2 b hb).1 r3.size,?_⟩,xs++news,by simpa [<-hm] using r2,?_⟩,r3,r4⟩
 ·rcases r4 with h | h
  ·rw [h];exact (h2 b hb).2
  rw [h];simp only [ne_eq,Option.some.injEq];have:=(h2 b hb).1;omega
 intro k x hx;rcases Nat.lt_or_ge k l.length with hlt | hge
 ·rw [qLlx hlt] at hx;obtain ⟨ys,y1,y2,y3⟩:=h4 k x hx;refine ⟨ys,y1,fun j y hj=>?_,ok.keep y3 hSk⟩;have hyl:=(zge (y2 j y hj)).1;rw [qLlx hyl];exact y2 j y hj
 rw [qLrx hge] at hx;have hkl:k - l.length < l2.length:=(zge hx).1;obtain ⟨f1,_,f3⟩:=hf _ hkl;refine ⟨f (k - l.length),f1,fun j y hj=>?_,ok.keep (f3 x hx) hSk⟩;have hjl:j < sz:=by have:=(zge hj).1;omega
 have hxl:xs.length=l.length*sz:=h3.1;have hksz:l.length*sz<=k*sz:=Nat.mul_le_mul_right _ hge;rw [qLrx (by omega),hxl];have e1:k*sz+j - l.length*sz=(k - l.length)*sz+j:=by rw [Nat.sub_mul];omega
 rw [e1,n2 _ _ hkl hjl];exact hj
theorem zBi (w:World) {ops:Array Oper} {rest:List Oper} {o:Oper} {a:Act} {Q:Exit->Act->World->Prop} (hgd:o.guard=none) (s x:Operand) (t:TypeId)
  (ho:o.op= .call { callee:= .builtin .append,args:=#[s,x],argTypes:=#[t,t] })
  (e:TypeId) (i:TypeInfo) (z:Value) (sz bytes:Nat) (ht:P.underlying t=some (.slice e)) (hi:P.info? e=some i) (hz:i.zero=some z)
  (hsize:i.size=sz) (hby:i.bytes=bytes) (hzs:z.cells.size=sz) (hsz:0 < sz) (ok:RpOk sz R) (base:Nat) (hbase:base<=w.heap.size) (v:Value) (l:List α) (hs:a.eval s=v) (hown:Own e sz R S w base v l)
  (A:Option Addr) (m c:Nat) (hx:a.eval x= .slice A m c) (l2:List α) (hm:m=l2.length) (hsl:SlAt sz R S w A l2) (hbytes:(l.length+m)*bytes<=140737488355328) (hb0:0 < bytes)
  (h:∀v' w',Own e sz R S w' base v' (l++l2)->w.grownBy w' v.ownBlock->(v'.ownBlock=v.ownBlock\/v'.ownBlock=some w.heap.size)->wpList P ops Q rest (a.put o.dst v') w'):wpList P ops Q (o :: rest) a w:=by
 obtain ⟨v',w',r1,r2,r3,r4⟩:=z8s (P:=P) w t o.type e i z sz bytes ht hi hz hsize hby hzs hsz ok base hbase v l hown A m c l2 hm hsl hbytes hb0;exact Lib.wpList_append_run w hgd s x t t ho _ _ hs hx v' w' r1 (h v' w' r2 r3 r4)
end
end
section
open Go.ChangeShapes Go.WideShapes Go.ChangeAt Go.RowKit
theorem zSf:ownKnob Tryz.prog.godebug=none:=by kernel_rfl
theorem zHw:laidOutB Tryz.prog=true:=by kernel_rfl
def z8e (P:Program) (ts:List TypeId):Bool:=ts.all fun t=>P.readableRec t && decide (t < P.types.size)
theorem z9y {H:Type} {enc:TypeId×Value->H} {P:Program} (hl:laidOutB P=true) {W W':World} (hb:Below W.heap.size W W') (sp:Nat->Bool):
  ∀(ts:List TypeId) (vs:List Value) (ds:List (DataW H)) (ps:List MemPlace),z8e P ts=true->DataW.TrodAll enc P W 0 (fun _=>true) true ts vs ds ps->
   (∀x∈ps,x.block < W.heap.size)->(∀x∈ps,sp x.block=true)->DataW.TrodAll enc P W' 0 sp true ts vs ds ps
 | [],[],[],ps,_,h,_,_=>h
 | t :: ts,v :: vs,d :: ds,ps,hr,h,hlt,hsp=>by
  obtain ⟨p,q,hp,hq,rfl⟩:=h;unfold z8e at hr;rw [List.all_cons,qBqx,qBqx] at hr;obtain ⟨⟨h1,h2⟩,h3⟩:=hr;exact ⟨p,q,WideElems.Trod_stays hl h1 (of_decide_eq_true h2) hp (fun x hx=>hb.same (hlt x (List.mem_append_left _ hx))) (fun x hx=>hsp x (List.mem_append_left _ hx)),
   z9y hl hb sp ts vs ds q h3 hq (fun x hx=>hlt x (List.mem_append_right _ hx)) (fun x hx=>hsp x (List.mem_append_right _ hx)),rfl⟩
 | [],_ :: _,_,_,_,h,_,_=>by cases h
 | _ :: _,[],_,_,_,h,_,_=>by cases h
 | [],[],_ :: _,_,_,h,_,_=>by cases h
 | _ :: _,_ :: _,[],_,_,h,_,_=>by cases h
theorem zQ6 {H:Type} {enc:TypeId×Value->H} {P:Program} {f:Func} {s:ChangeSpec} {tb:TypeId} {apart fresh handsOn again:Bool} {W W':World} {args:Array Value} {ds gs:List (DataW H)} {before:List MemPlace}
  (hW:DataW.Whole enc P f.params.toList s.vars apart W args.toList ds gs before) (hv:s.vars=[]) (hfn:s.fn H (ds++gs)={ results:=[.lit (.bool true)],args:=ds })
  (ht:f.resultTypes=#[tb]) (hbt:P.underlying tb=some .bool) (hl:laidOutB P=true) (hr:z8e P f.params.toList=true) (hb:Below W.heap.size W W'):
  s.post enc P f apart fresh handsOn again W args (.bool true) W':=by
 have hW':=hW;obtain ⟨p,_,hA,hV,rfl,hfz,hnd⟩:=hW;rw [hv] at hV;obtain ⟨rfl,rfl⟩:=trodVars_none hV;have hlt:∀x∈p++([]:List MemPlace),x.block < W.heap.size:=fun x hx=>hW'.lt x hx
 simp only [List.append_nil] at hlt hfz hnd hW';have hold:∀x∈p,(fun b=>decide (b < W.heap.size)) x.block=true:=fun x hx=>by simpa using hlt x hx
 have hvn:∀sp:Nat->Bool,DataW.TrodVars enc P W' sp s.vars ([]:List (DataW H)) []:=fun sp=>by rw [hv];rfl
 have hargs:∀sp:Nat->Bool,(∀x∈p,sp x.block=true)->DataW.TrodAll enc P W' 0 sp true f.params.toList args.toList ds p:=fun sp hsp=>z9y hl hb sp _ _ _ _ hr hA hlt hsp
 have hres:∀(b:Nat) (sp:Nat->Bool) (hd:Bool),DataW.TrodAll enc P W' b sp hd f.resultTypes.toList ((Value.bool true).resultList f.resultTypes.size) [.lit (.bool true)] []:=fun b sp hd=>by
  rw [ht];exact trodAll_mk1 (shut_bool hbt true)
 have hvars:(s.fn H (ds++[])).vars=[]:=by rw [hfn]
 refine ⟨ds,[],p,[],p,[],hW',?_,?_,?_,World.keptBut_mono (fun x hx=>⟨hx,?_⟩) (hb.frame (·∈p)),fun _=>?_⟩
 ·rw [hfn];exact hres _ _ _
 ·rw [hfn];exact hargs _ hold
 ·rw [hvars];exact hvn _
 ·simpa using hx
 refine ⟨ok_one ht rfl (okWide_bool_mk hbt true),[.lit (.bool true)]++ds,[],([]++p)++[],⟨[]++p,[],trodAll_append (hargs _ (fun _ _=>rfl)) (hres _ _ _),hvn _,rfl,?_,?_⟩,?_⟩
 ·intro b off hp;have hin:MemPlace.cell b off∈p:=by simpa using hp
  rw [hb.frozen (hlt _ hin)];exact hfz b off hin
 ·intro ha;simpa using hnd ha
 intro x hx _;simpa using hx
end
section
def z0i (k:Nat):Nat:=[0,0,9,9,1,21,21,5,67,35,1,3,3,1,4,0,4].getD k 0
section
variable (N:ByteArray->Bool)
def z2l (s:ByteArray):Bool:=decide (s=⟨#[]⟩)
def txt (s:ByteArray) (has:Bool):Bool:=if has then N s else z2l s
def num (n a b:Int) (has:Bool):Bool:=if has then decide (a<=n) && decide (n<=b) else decide (n=0)
def z4c (k:Int) (m:Nat):Bool:=z0i k.toNat &&& m !=0
def z4y (kind:Int) (user folder name other:ByteArray) (role version len:Int):Bool:=
 decide (1<=kind) && decide (kind<=16) && N user && txt N folder (z4c kind 1) && txt N name (z4c kind 2) && txt N other (z4c kind 4 || z4c kind 8 && !z2l other) &&
 !(!z4c kind 1 && decide (other=user)) && !(decide (kind=2) && decide (other=folder)) && num role 1 4 (z4c kind 16) && num version 0 1099511627776 (z4c kind 32) && num len 0 512 (z4c kind 64)
def zDq (k:Int) (user folder name other:ByteArray) (role version len:Int):Bool:=
 N user && decide (1<=k) && decide (k<=16) && !((decide (k=14) || decide (k=16)) && (!N other || decide (other=user))) &&
 (if k=1\/14<=k then !(!z2l folder || (decide (k=1) || decide (k=15)) && !z2l other) else N folder) &&
 (if k=2\/k=3 then !(!z2l other && !N other || decide (k=2) && decide (other=folder)) else if 5<=k/\k<=7 then N other else !(decide (k < 14) && !z2l other)) &&
 !((decide (k=8) || decide (k=9) || decide (k=11) || decide (k=12)) && !N name) && !(!(decide (k=8) || decide (k=9) || decide (k=11) || decide (k=12)) && !z2l name) &&
 (if k=5\/k=6 then decide (1<=role) && decide (role<=4) else decide (role=0)) &&
 (if k=9 then decide (0<=version) && decide (version<=1099511627776) else decide (version=0)) &&
 (decide (len=0) || decide (k=8) && decide (len<=512))
theorem zOx (hN:N ⟨#[]⟩=false) (k:Int) (user folder name other:ByteArray) (role version len:Int) (hl:0<=len):z4y N k user folder name other role version len=zDq N k user folder name other role version len:=by
 by_cases h1:1<=k
 rotate_left
 ·unfold z4y zDq;simp [h1]
 by_cases h2:k<=16
 rotate_left
 ·unfold z4y zDq;simp [h2]
 cases hu:N user with
 | false=>unfold z4y zDq;simp [hu]
 | true=>
  have hne:user≠⟨#[]⟩:=fun e=>by rw [e,hN] at hu;cases hu
  have hlen:(decide (len=0) || decide (len<=512))=decide (len<=512):=by
   by_cases h0:len=0
   ·simp [h0]
   ·simp [h0]
  have hand:∀a b:Bool,(a && b)=(b && a):=Bool.and_comm;have hk:k=1\/k=2\/k=3\/k=4\/k=5\/k=6\/k=7\/k=8\/k=9\/k=10\/k=11\/k=12\/k=13\/k=14\/k=15\/k=16:=by omega
  clear h1 h2;rcases hk with rfl | rfl | rfl | rfl | rfl | rfl | rfl | rfl | rfl | rfl | rfl | rfl | rfl | rfl | rfl | rfl
  all_goals
   unfold z4y zDq;simp only [z4c,z0i,txt,num,hu,z2l];by_cases he:other=⟨#[]⟩
   ·subst he;have hne2:¬((⟨#[]⟩:ByteArray)=user):=fun e=>hne e.symm
    simp [hN,hne2,hl,hlen];try (cases decide (folder=⟨#[]⟩)<;>cases decide (name=⟨#[]⟩)<;>cases N folder<;>cases N name<;>simp<;>omega)
   ·simp [he,hl,hlen];try (cases N other<;>cases decide (other=user)<;>cases decide (other=folder)<;>cases decide (name=⟨#[]⟩)<;>cases N folder<;>simp)
end
end
section
open Go.ChangeShapes Go.WideShapes Go.ChangeAt Go.RowKit
def fieldsZ:List Int:=[0,0,9,9,1,21,21,5,67,35,1,3,3,1,4,0,4]
theorem zNf:∀r:Fin 17,fieldsZ.getD r.val 0=(z0i r.val:Nat):=by decide
theorem laid_cells {W:World} (h:laidMetH Tryz.prog [("bastille/call.fields",Rows.laid_bastille_call_fields)] W):0 < W.heap.size/\∀r:Nat,r < 17->W.cell? ⟨0,r,none⟩=some (.int .i64 (z0i r:Nat)):=by
 rw [MakeChecks.laidMetH_plain _ _ _ (by kernel_rfl)] at h;obtain ⟨_,⟨_,_,cs,_,_,_,hg,ht,hv,hd,_,_⟩,_⟩:=h;obtain rfl:=zsi ((show Tryz.prog.globalNamed "bastille/call.fields"=some 0 by kernel_rfl).symm.trans hg)
 obtain rfl:=zsi ((show (Tryz.prog.globals[0]?).map (·.type)=some 134 by kernel_rfl).symm.trans ht);obtain ⟨xs,_,_,ex,_,_,hel⟩:=DataW.trod_array Tryz.underlying134 hd;have c5:Tryz.prog.cellsOf 3=1:=by kernel_rfl
 have hlen:fieldsZ.length=17:=by decide
 have hcell:∀r:Nat,r < 17->W.cell? ⟨0,r,none⟩=some (.int .i64 (z0i r:Nat)):=by
  intro r hr;have hE:=hel r hr;rw [c5,Nat.mul_one,qLgx (by omega)] at hE;obtain ⟨z,e1,e2,_⟩:=DataW.trod_int Tryz.underlying3 hE;have e3:(xs.map (·.1))=fieldsZ.map fun n=> .lit (.int .i64 n):=(DataW.agg.inj (Prod.mk.inj ex).1).symm
  have e4:(xs.map (·.1))[r]? =(fieldsZ.map fun n=>(DataW.lit (.int .i64 n):DataW Unit))[r]? :=by rw [e3]
  rw [List.getElem?_map,List.getElem?_map,qLgx (by omega:r < xs.length),qLgx (by omega:r < fieldsZ.length),e2] at e4;have hz:z=(z0i r:Nat):=by
   simp only [Option.map_some,Option.some.injEq,DataW.lit.injEq,Lit.int.injEq,true_and] at e4;rw [e4,<-zNf ⟨r,hr⟩,List.getD,qLgx (by omega:r < fieldsZ.length)];rfl
  rw [World.var?_cell hg hv r,<-hz];have:cs.toList[r]? =some (.int .i64 z):=by
   have h0:((cs.toList.drop r).take 1)[0]? =some (.int .i64 z):=by rw [e1];rfl
   simpa using h0
  simpa using this
 exact ⟨World.block_lt_of_cell? W ⟨0,0,none⟩ (hcell 0 (by omega)),hcell⟩
end
section
open Go.RowKit Go.Deep
section
variable {w w':World} {b:Nat} {cs:Array Value} {T:TypeId} {o:Obj}
theorem zD (h:w.heap[b]? =some (.cells cs T (0,0))):(∀j v,cs[j]? =some v->w.cell? ⟨b,j,none⟩=some v)/\(∀j,w.frozen? ⟨b,j,none⟩=false):=
 ⟨fun j v hj=>by rw [cell_of_row w b j cs T (0,0) h];exact hj,fun j=>by unfold World.frozen?;rw [h];simp⟩
theorem zO (h:w.heap[b]? =some o):b < w.heap.size:=by
 rcases Nat.lt_or_ge b w.heap.size with h1 | h1
 ·exact h1
 rw [Array.getElem?_eq_none h1] at h;cases h
theorem zZ (o':Obj) (h:w.heap[b]? =some o):(w.alloc o').heap[b]? =some o:=by rw [heap_alloc_old _ _ (zO h)];exact h
theorem zJ (o:Obj) (h:b=w.heap.size):(w.alloc o).heap[b]? =some o:=by subst h;exact heap_alloc_new _ _
theorem zR {a:Addr} (u:Value) (h:w.heap[b]? =some o) (hne:b≠a.block):(w.setCell a u).heap[b]? =some o:=by rw [Below.heap_setCell _ _ _ _ hne];exact h
theorem zI {i:Nat} {cs':Array Value} (u:Value) (h:w.heap[b]? =some (.cells cs T (0,0))) (hc:cs.setIfInBounds i u=cs'):(w.setCell ⟨b,i,none⟩ u).heap[b]? =some (.cells cs' T (0,0)):=by
 subst hc;exact heap_setCell_same w b i cs T u h
theorem ZL (h:w.heap[b]? =some o):w.drew.heap[b]? =some o:=h
end
def z1z (B:Nat->Prop) (w:World) (v:Value):Nat->Prop:=fun b=>b < w.heap.size/\¬B b/\v.ownBlock≠some b
def Grow {α:Type} (e:TypeId) (sz:Nat) (R:Rp α) (B:Nat->Prop) (w:World) (base:Nat) (v:Value) (l:List α):Prop:=Own e sz R (z1z B w v) w base v l
section
variable {P:Program} {α:Type} {e:TypeId} {sz:Nat} {R:Rp α} {B B':Nat->Prop} {w w':World} {base:Nat} {v:Value} {l:List α}
theorem Grow.nil:Grow e sz R B w base (.slice none 0 0) ([]:List α):=Own.nil fun b h=>h.1
theorem Grow.empty {g:Nat} (hg:w.heap[g]? =some (.cells #[] e (0,0))) (hb:base<=g):Grow e sz R B w base (.slice (some ⟨g,0,none⟩) 0 0) ([]:List α):=
 Own.empty hg hb fun b h=>⟨h.1,fun e=>h.2.2 (by rw [e];rfl)⟩
theorem Grow.base_le (h:Grow e sz R B w base v l):∀b,v.ownBlock=some b->base<=b/\b < w.heap.size:=Own.base_le h
theorem Grow.shape (h:Grow e sz R B w base v l):∃A c,v= .slice A l.length c:=Own.shape h
theorem Grow.shape' (h:Grow e sz R B w base v l):∃A n c,v= .slice A n c/\n=l.length:=by
 obtain ⟨A,c,h⟩:=h.shape;exact ⟨A,_,c,h,rfl⟩
theorem Grow.keep (ok:RpOk sz R) (h:Grow e sz R B w base v l) (hz:w.heap.size<=w'.heap.size) (hB:∀b,b < w.heap.size->B' b->B b) (hk:∀b,b < w.heap.size->¬B b->w'.heap[b]? =w.heap[b]?) (hv:∀b,v.ownBlock=some b->w'.heap[b]? =w.heap[b]?):
  Grow e sz R B' w' base v l:=by
 refine Own.keep ok h hv (fun b hb hl=>⟨⟨by omega,fun h'=>hb.2.1 (hB b hl h'),hb.2.2⟩,hk b hl hb.2.1⟩) fun b hb=>⟨hb.1,hb.2.2⟩
theorem Grow.alloc (ok:RpOk sz R) (h:Grow e sz R B w base v l) (o:Obj):Grow e sz R B (w.alloc o) base v l:=
 h.keep ok (by simp) (fun _ _ h=>h) (fun b hl _=>heap_alloc_old _ _ hl) fun b hv=>heap_alloc_old _ _ (h.base_le b hv).2
theorem Grow.below (ok:RpOk sz R) (h:Grow e sz R B w base v l) (hb:Below w.heap.size w w'):Grow e sz R B w' base v l:=
 h.keep ok hb.size (fun _ _ h=>h) (fun b hl _=>hb.block b hl) fun b hv=>hb.block b (h.base_le b hv).2
theorem Grow.drew (ok:RpOk sz R) (h:Grow e sz R B w base v l):Grow e sz R B w.drew base v l:=
 h.keep ok (znl _) (fun _ _ h=>h) (fun b hl _=>rfl) fun b hv=>rfl
theorem Grow.sl (ok:RpOk sz R) (h:Grow e sz R B w base v l) {S:Nat->Prop} (hS:∀b,b < w.heap.size->¬B b->S b) (hv:∀b,v.ownBlock=some b->S b):Sl sz R S w v l:=by
 obtain ⟨A,c,hv',h1,h2,h3,_⟩:=Own.sl ok h;obtain ⟨_,_,_,⟨_,h4'⟩,h5⟩:=h;refine ⟨A,c,hv',h1,h2,h3,fun i x hx=>?_⟩;rcases h4' with ⟨hv0,hn⟩ | ⟨g,cap,cur,hvg,hb,hg,hnc,hcm,hcs,htk⟩
 ·have:l=[]:=List.eq_nil_of_length_eq_zero hn;subst this;simp at hx
 obtain ⟨ys,y1,y2,y3⟩:=h5 i x hx;have hA:A=some ⟨g,0,none⟩:=by rw [hvg] at hv';cases hv';rfl
 refine ⟨g,0,ys,hA,hv g (by rw [hvg];rfl),y1,fun j y hj=>?_,ok.keep y3 fun b hb' hl=>⟨?_,rfl⟩⟩
 ·have hx':=y2 j y hj;rw [cell_of_row w g _ cur e (0,0) hg];rw [<-htk,List.getElem?_take] at hx';split at hx'
  ·simpa using hx'
  cases hx'
 exact hS b hl hb'.2.1
theorem Y5 (w:World) {ops:Array Oper} {rest:List Oper} {o:Oper} {a:Act} {Q:Exit->Act->World->Prop} (hgd:o.guard=none) (s x:Operand) (t:TypeId)
  (ho:o.op= .call { callee:= .builtin .append,args:=#[s,x],argTypes:=#[t,t] })
  (e:TypeId) (i:TypeInfo) (z:Value) (sz bytes:Nat) (ht:P.underlying t=some (.slice e)) (hi:P.info? e=some i) (hz:i.zero=some z)
  (hsize:i.size=sz) (hby:i.bytes=bytes) (hzs:z.cells.size=sz) (hsz:0 < sz) (ok:RpOk sz R) (base:Nat) (hbase:base<=w.heap.size) (v:Value) (l:List α) (hs:a.eval s=v) (hown:Grow e sz R B w base v l)
  (A:Option Addr) (m c:Nat) (hx:a.eval x= .slice A m c) (l2:List α) (hm:m=l2.length) (hsl:SlAt sz R (z1z B w v) w A l2) (hbytes:(l.length+m)*bytes<=140737488355328) (hb0:0 < bytes)
  (h:∀v' w',Grow e sz R B w' base v' (l++l2)->w.grownBy w' v.ownBlock->(v'.ownBlock=v.ownBlock\/v'.ownBlock=some w.heap.size)->wpList P ops Q rest (a.put o.dst v') w'):wpList P ops Q (o :: rest) a w:=by
 refine zBi w hgd s x t ho e i z sz bytes ht hi hz hsize hby hzs hsz ok base hbase v l hs hown A m c hx l2 hm hsl hbytes hb0 fun v' w' g1 g2 g3=>h v' w' ?_ g2 g3
 refine Own.keep (S':=z1z B w' v') ok g1 (fun b _=>rfl) (fun b hb hl=>⟨⟨hl,hb.2.1,?_⟩,rfl⟩) fun b hb=>⟨hb.1,hb.2.2⟩
 rcases g3 with g3 | g3
 ·rw [g3];exact hb.2.2
 rw [g3];have:=hb.1;simp only [ne_eq,Option.some.injEq];omega
theorem z91 {S:Nat->Prop} {b o:Nat} {x:α} (ys:List Value) (hS:S b) (hl:ys.length=sz) (hc:∀j y,ys[j]? =some y->w.cell? ⟨b,o+j,none⟩=some y) (hR:R S w ys x):SlAt sz R S w (some ⟨b,o,none⟩) [x]:=by
 intro i z hi;rcases i with _ | i
 ·simp at hi;subst hi;exact ⟨b,o,ys,rfl,hS,hl,fun j y hj=>by rw [Nat.zero_mul,Nat.zero_add];exact hc j y hj,hR⟩
 simp at hi
end
theorem zLm {B:Nat->Prop} {w:World} {v:Value} (o:Obj):Kept (z1z B w v) (z1z B (w.alloc o) v) w (w.alloc o):=fun b hb hl=>
 ⟨⟨by simp;omega,hb.2.1,hb.2.2⟩,heap_alloc_old _ _ hl⟩
theorem z32 {w w' w'':World} {row:Option Nat} (h:w.grownBy w' row) (k:w'.grownBy w'' row):w.grownBy w'' row:=
 ⟨k.os.trans h.os,k.tape.trans h.tape,k.output.trans h.output,qNtx h.size k.size,fun b hl hne=>(k.block b (zll hl h.size) hne).trans (h.block b hl hne)⟩
section
variable {P:Program} {α:Type} {e:TypeId} {sz:Nat} {R:Rp α} {B B':Nat->Prop} {base:Nat} {v:Value} {l:List α}
theorem yZ (W:World) (ys:List Value) {ops:Array Oper} {rest:List Oper} {o:Oper} {a:Act} {Q:Exit->Act->World->Prop} (hgd:o.guard=none) (s x:Operand) (t:TypeId)
  (ho:o.op= .call { callee:= .builtin .append,args:=#[s,x],argTypes:=#[t,t] })
  (e:TypeId) (i:TypeInfo) (z:Value) (sz bytes:Nat) (ht:P.underlying t=some (.slice e)) (hi:P.info? e=some i) (hz:i.zero=some z)
  (hsize:i.size=sz) (hby:i.bytes=bytes) (hzs:z.cells.size=sz) (hsz:0 < sz) (ok:RpOk sz R) (base:Nat) (hbase:base<=W.heap.size) (v:Value) (l:List α) (hs:a.eval s=v) (hown:Grow e sz R B W base v l)
  (c N:Nat) (hx:a.eval x= .slice (some ⟨N,0,none⟩) 1 c) (hN:N=W.heap.size) (x0:α) (hB:∀b,B b->b < W.heap.size) (hR:R (z1z B W v) W ys x0) (hbytes:(l.length+1)*bytes<=140737488355328) (hb0:0 < bytes)
  (h:∀v' w',Grow e sz R B w' base v' (l++[x0])->W.grownBy w' v.ownBlock->(v'.ownBlock=v.ownBlock\/v'.ownBlock=some (W.heap.size+1))->wpList P ops Q rest (a.put o.dst v') w'):wpList P ops Q (o :: rest) a (W.alloc (.cells ys.toArray e)):=by
 subst hN;refine Y5 (B:=B) (W.alloc (.cells ys.toArray e)) hgd s x t ho e i z sz bytes ht hi hz hsize hby hzs hsz ok base (by simp;omega) v l hs (hown.alloc ok _) _ 1 c hx [x0] rfl ?_ hbytes hb0 ?_
 ·refine z91 ys ⟨by simp,fun h=>?_,fun h=>?_⟩ (ok.len hR) (fun j y hj=>?_) (ok.keep hR (zLm _))
  ·have:=hB _ h;omega
  ·have:=(hown.base_le _ h).2;omega
  rw [cell_of_row _ W.heap.size _ ys.toArray e (0,0) (heap_alloc_new W _)];simpa using hj
 intro v' w' g1 g2 g3;refine h v' w' g1 (z32 (World.grownBy_alloc W _ _) g2) ?_;simpa using g3
end
end
section
open Go.RowKit Go.Deep
theorem z7h {b:Nat} {T:TypeId}:∀(vs:List Value) (w:World) (o:Nat) (cs:Array Value),w.heap[b]? =some (.cells cs T (0,0))->o+vs.length<=cs.size->
  ∃cs',(w.setCells b o vs).heap[b]? =some (.cells cs' T (0,0))/\cs'.size=cs.size/\(∀j,j < vs.length->cs'[o+j]? =vs[j]?)/\∀j,(j < o\/o+vs.length<=j)->cs'[j]? =cs[j]?
 | [],w,o,cs,h,_=>⟨cs,h,rfl,fun j hj=>by simp at hj,fun j _=>rfl⟩
 | v :: vs,w,o,cs,h,hl=>by
  simp only [List.length_cons] at hl;obtain ⟨cs',h1,h2,h3,h4⟩:=z7h vs (w.setCell ⟨b,o,none⟩ v) (o+1) (cs.setIfInBounds o v) (zI v h rfl) (by rw [Array.size_setIfInBounds];omega);refine ⟨cs',by simpa only [World.setCells] using h1,by rw [h2,Array.size_setIfInBounds],fun j hj=>?_,fun j hj=>?_⟩
  ·rcases j with _ | j
   ·rw [Nat.add_zero,h4 o (.inl (by omega)),Array.getElem?_setIfInBounds,if_pos rfl,if_pos (by omega)];rfl
   ·simp only [List.length_cons] at hj;have:=h3 j (by omega);rw [show o+(j+1)=o+1+j by omega,this];rfl
  ·simp only [List.length_cons] at hj;rw [h4 j (by omega),Array.getElem?_setIfInBounds,if_neg (by omega)]
theorem z1b (b:Nat):∀(vs:List Value) (w:World) (o:Nat),(w.setCells b o vs).os=w.os/\(w.setCells b o vs).tape=w.tape/\(w.setCells b o vs).output=w.output/\(w.setCells b o vs).heap.size=w.heap.size/\∀k,k≠b->(w.setCells b o vs).heap[k]? =w.heap[k]?
 | [],w,o=>⟨rfl,rfl,rfl,rfl,fun _ _=>rfl⟩
 | v :: vs,w,o=>by
  have h:=z1b b vs (w.setCell ⟨b,o,none⟩ v) (o+1);have e:w.setCells b o (v :: vs)=(w.setCell ⟨b,o,none⟩ v).setCells b (o+1) vs:=rfl;have B:=(Below.refl 0 w).setCell (p:=⟨b,o,none⟩) (Nat.zero_le _) v;rw [e];exact ⟨h.1.trans B.os,h.2.1.trans B.tape,h.2.2.1.trans B.output,h.2.2.2.1.trans (by simp),fun k hk=>(h.2.2.2.2 k hk).trans (Below.heap_setCell _ _ _ _ hk)⟩
theorem z5b {sz:Nat}:∀{l:List (List Value)},(∀x∈l,x.length=sz)->l.flatten.length=l.length*sz
 | [],_=>by simp
 | x :: l,h=>by
  have:=z5b (sz:=sz) (l:=l) fun y hy=>h y (zmc _ hy)
  rw [List.flatten_cons,qLax,this,h x (List.mem_cons_self ..),List.length_cons,Nat.add_mul];omega
def RowC (e:TypeId) (sz:Nat) (w:World) (v:Value) (l:List (List Value)):Prop:=
 (∀x∈l,x.length=sz/\∀u∈x,u.oneCell'=true)/\((v= .slice none 0 0/\l=[])\/∃g off cap cur,v= .slice (some ⟨g,off,none⟩) l.length cap/\w.heap[g]? =some (.cells cur e (0,0))/\l.length<=cap/\cap<=maxLen/\off+cap*sz<=cur.size/\∀q u,l.flatten[q]? =some u->cur[off+q]? =some u)
section
variable {e:TypeId} {sz:Nat}
theorem RowC.nil (w:World):RowC e sz w (.slice none 0 0) []:=⟨fun x hx=>by simp at hx,.inl ⟨rfl,rfl⟩⟩
theorem RowC.keep {w w':World} {v:Value} {l:List (List Value)} (h:RowC e sz w v l) (k:∀b,v.ownBlock=some b->w'.heap[b]? =w.heap[b]?):RowC e sz w' v l:=by
 obtain ⟨h0,h⟩:=h;refine ⟨h0,?_⟩;rcases h with h | ⟨g,off,cap,cur,hv,hg,r⟩
 ·exact .inl h
 exact .inr ⟨g,off,cap,cur,hv,(k g (by rw [hv];rfl)).trans hg,r⟩
theorem RowC.lt {w:World} {v:Value} {l:List (List Value)} (h:RowC e sz w v l):∀b,v.ownBlock=some b->b < w.heap.size:=by
 rcases h.2 with ⟨rfl,_⟩ | ⟨g,off,cap,cur,rfl,hg,r⟩
 ·intro b hb;cases hb
 intro b hb;obtain rfl:g=b:=zsi hb;exact zO hg
theorem RowC.shape {w:World} {v:Value} {l:List (List Value)} (h:RowC e sz w v l):∃A c,v= .slice A l.length c/\(l≠[]->∃g o,A=some ⟨g,o,none⟩):=by
 rcases h.2 with ⟨rfl,rfl⟩ | ⟨g,off,cap,cur,rfl,_⟩
 ·exact ⟨_,_,rfl,fun h=>absurd rfl h⟩
 exact ⟨_,_,rfl,fun _=>⟨_,_,rfl⟩⟩
theorem zJh {P:Program} {t:TypeId} (i:TypeInfo) (z:Value) (bytes:Nat) (ht:P.underlying t=some (.slice e)) (hi:P.info? e=some i) (hz:i.zero=some z) (h1:i.size=sz) (h2:i.bytes=bytes) (hzs:z.cells.size=sz) (hsz:0 < sz) (hb128:bytes<=1000) (ty:TypeId) {W:World} {v:Value} {l:List (List Value)} (h:RowC e sz W v l) (hl:l.length<=10000) (x:List Value) (hx:x.length=sz) (hx1:∀u∈x,u.oneCell'=true) (c:Nat):
  ∃v' w',(Builtin.append_ #[t,t] ty #[v,.slice (some ⟨W.heap.size,0,none⟩) 1 c]).run P (W.alloc (.cells x.toArray e))= .ok v' w'/\RowC e sz w' v' (l++[x])/\W.grownBy w' v.ownBlock/\(v'.ownBlock=v.ownBlock\/∃k,v'.ownBlock=some k/\W.heap.size<=k):=by
 have hnew:∀(j:Nat) (u:Value),x[j]? =some u->(W.alloc (.cells x.toArray e)).cell? ((⟨W.heap.size,0,none⟩:Addr).add j)=some u:=by
  intro j u hj;rw [Addr.add_lit];rw [cell_of_row _ W.heap.size _ x.toArray _ (0,0) (heap_alloc_new W _)];simpa using hj
 have hal:=World.grownBy_alloc W (.cells x.toArray e) v.ownBlock;have hall:∀y∈l++[x],y.length=sz/\∀u∈y,u.oneCell'=true:=by
  intro y hy;rcases zmb hy with hy | hy
  ·exact h.1 y hy
  ·obtain rfl:y=x:=by simpa using hy
   exact ⟨hx,hx1⟩
 have hflat:(l++[x]).flatten=l.flatten++x:=by simp
 have hfl:l.flatten.length=l.length*sz:=z5b fun y hy=>(h.1 y hy).1
 rcases h.2 with ⟨rfl,rfl⟩ | ⟨g,off,cap,cur,rfl,hg,hlc,hcm,hoc,hcell⟩
 ·obtain ⟨v',w',r1,r2,r3,_,r5⟩:=run_append_own_at (P:=P) (W.alloc (.cells x.toArray e)) W.heap.size t ty e i z sz bytes ht hi hz h1 h2 hzs hsz (.slice none 0 0) 0 [] (World.ownsRow_nil _ _ _ _) ⟨W.heap.size,0,none⟩ 1 c x (by rw [hx];omega) hnew hx1 (by simp only [maxLen];omega) (by omega) (by simp);refine ⟨v',w',r1,⟨hall,?_⟩,z32 hal r3,?_⟩
  ·rcases r2.2 with ⟨_,h0⟩ | ⟨g,cap,cur,hv,hb,hg,hnc,hcm,hcs,htk⟩
   ·omega
   refine .inr ⟨g,0,cap,cur,by simpa using hv,hg,by simpa using hnc,hcm,by omega,fun j y hy=>?_⟩;rw [hflat] at hy;have hy':x[j]? =some y:=by simpa using hy
   have hj:=(zge hy').1;have h3:(cur.toList.take ((0+1)*sz))[j]? =some y:=by rw [htk];simpa using hy'
   rw [List.getElem?_take,if_pos (by omega)] at h3;simpa using h3
  rcases r5 with h | h
  ·exact .inl h
  exact .inr ⟨_,h,by simp⟩
 have hlt:=zO hg;have hg1:(W.alloc (.cells x.toArray e)).heap[g]? =some (.cells cur e (0,0)):=zZ _ hg;by_cases hroom:l.length+1<=cap
 rotate_left
 ·have hlc':l.length=cap:=by omega
  have holds:∀j u,l.flatten[j]? =some u->(W.alloc (.cells x.toArray e)).cell? ((⟨g,off,none⟩:Addr).add j)=some u:=by
   intro j u hj;rw [Addr.add_lit,cell_of_row _ g _ cur _ (0,0) hg1];exact hcell j u hj
  have hr:=run_append_grow (P:=P) (W.alloc (.cells x.toArray e)) t ty e i z ht hi hz ⟨g,off,none⟩ l.length cap l.flatten (by rw [h1];exact hfl) holds ⟨W.heap.size,0,none⟩ 1 c x (by rw [h1,hx];omega) hnew (by omega) (by omega) (growslice_fits (by omega) (by rw [h2];have:=Nat.mul_le_mul (show l.length+1<=10001 by omega) hb128;omega));have hge:=grownCap_ge (W.alloc (.cells x.toArray e)) (l.length+1) cap e;refine ⟨_,_,hr,⟨hall,.inr ⟨_,0,grownCap (W.alloc (.cells x.toArray e)) (l.length+1) cap e,_,by simp,heap_alloc_new _ _,by simpa using hge,grownCap_le_maxLen _ _ _ _ (by simp only [maxLen];omega),?_,fun j y hy=>?_⟩⟩,?_,.inr ⟨_,rfl,by simp⟩⟩
  ·simp only [Array.size_append,List.size_toArray,size_zeroCells,hzs,hfl,hx];rw [Nat.zero_add];generalize grownCap _ _ _ _=G at hge⊢;obtain ⟨d,rfl⟩:∃d,G=l.length+1+d:=⟨G - (l.length+1),by omega⟩;rw [Nat.add_sub_cancel_left,Nat.add_mul,Nat.add_mul,Nat.one_mul];exact znl _
  ·have hj1:=(zge hy).1;rw [hflat] at hy hj1;rw [qLax] at hj1;rw [Nat.zero_add,Array.getElem?_append_left (by simp only [Array.size_append,List.size_toArray];omega)];rw [show l.flatten.toArray++x.toArray=(l.flatten++x).toArray by simp];simpa using hy
  exact z32 hal ⟨rfl,rfl,rfl,by simp,fun q hq _=>Below.heap_alloc _ _ q hq⟩
 have hfit:off+l.length*sz+sz<=cur.size:=by
  have:=Nat.mul_le_mul_right sz hroom;rw [Nat.add_mul,Nat.one_mul] at this;omega
 have hs:∀j,j < x.length->((W.alloc (.cells x.toArray e)).cell? ⟨g,off+l.length*i.size+j,none⟩).isSome=true:=by
  intro j hj;rw [h1,cell_of_row _ g _ cur _ (0,0) hg1,Array.getElem?_eq_getElem (by omega)];rfl
 have hf:∀j,j < x.length->(W.alloc (.cells x.toArray e)).frozen? ⟨g,off+l.length*i.size+j,none⟩=false:=fun j _=>(zD hg1).2 _
 have hr:=run_append_room_cells (P:=P) (W.alloc (.cells x.toArray e)) t ty e i ht hi g off l.length cap ⟨W.heap.size,0,none⟩ 1 c x (by rw [h1,hx];omega) hnew hx1 hroom hs hf;rw [h1] at hr;obtain ⟨cur',k1,_,k3,k4⟩:=z7h x _ (off+l.length*sz) cur hg1 (by omega);obtain ⟨o1,o2,o3,o4,o5⟩:=z1b g x (W.alloc (.cells x.toArray e)) (off+l.length*sz);refine ⟨_,_,hr,⟨hall,.inr ⟨g,off,cap,cur',by simp,k1,by simpa using hroom,hcm,by omega,fun q y hy=>?_⟩⟩,?_,.inl rfl⟩
 ·rw [hflat] at hy;by_cases hjl:q < l.length*sz
  ·rw [qLlx (by omega)] at hy;rw [k4 _ (.inl (by omega))];exact hcell q y hy
  rw [qLrx (by omega),hfl] at hy;have hq:=(zge hy).1;have:=k3 (q - l.length*sz) hq;rw [show off+l.length*sz+(q - l.length*sz)=off+q by omega] at this;rw [this];exact hy
 exact z32 hal ⟨o1,o2,o3,by rw [o4];exact znl _,fun q _ hq=>o5 q fun e=>hq (by rw [e];rfl)⟩
theorem zJi {P:Program} (W:World) (x:List Value) {ops:Array Oper} {rest:List Oper} {o:Oper} {a:Act} {Q:Exit->Act->World->Prop} (hgd:o.guard=none) (s xo:Operand) (t:TypeId)
  (ho:o.op= .call { callee:= .builtin .append,args:=#[s,xo],argTypes:=#[t,t] })
  (i:TypeInfo) (z:Value) (bytes:Nat) (ht:P.underlying t=some (.slice e)) (hi:P.info? e=some i) (hz:i.zero=some z) (h1:i.size=sz) (h2:i.bytes=bytes) (hzs:z.cells.size=sz) (hsz:0 < sz) (hb128:bytes<=1000)
  (v:Value) (l:List (List Value)) (hs:a.eval s=v) (h:RowC e sz W v l) (hl:l.length<=10000) (hx:x.length=sz) (hx1:∀u∈x,u.oneCell'=true) (N c:Nat) (hxo:a.eval xo= .slice (some ⟨N,0,none⟩) 1 c) (hN:N=W.heap.size)
  (hK:∀v' w',RowC e sz w' v' (l++[x])->W.grownBy w' v.ownBlock->(v'.ownBlock=v.ownBlock\/∃k,v'.ownBlock=some k/\W.heap.size<=k)->wpList P ops Q rest (a.put o.dst v') w'):wpList P ops Q (o :: rest) a (W.alloc (.cells x.toArray e)):=by
 subst hN;obtain ⟨v',w',r1,r2,r3,r4⟩:=zJh (P:=P) i z bytes ht hi hz h1 h2 hzs hsz hb128 o.type h hl x hx hx1 c;exact Lib.wpList_append_run _ hgd s xo t t ho _ _ hs hxo v' w' r1 (hK v' w' r2 r3 r4)
end
end
section
open Go.RowKit
structure ButB (B:Nat->Prop) (w w':World):Prop where
 os:w'.os=w.os
 tape:w'.tape=w.tape
 output:w'.output=w.output
 size:w.heap.size<=w'.heap.size
 block:∀k,k < w.heap.size->¬B k->w'.heap[k]? =w.heap[k]?
section
variable {B:Nat->Prop} {w w1 w':World}
theorem ButB.refl (B:Nat->Prop) (w:World):ButB B w w:=⟨rfl,rfl,rfl,znl _,fun _ _ _=>rfl⟩
theorem ButB.of (h:Below w.heap.size w w'):ButB B w w':=⟨h.os,h.tape,h.output,h.size,fun k hk _=>h.block k hk⟩
theorem ButB.grown {m:Nat} (h:w.grownBy w' (some m)) (hB:B m):ButB B w w':=⟨h.os,h.tape,h.output,h.size,fun k hk hb=>h.block k hk fun e=>hb (by cases e;exact hB)⟩
theorem ButB.set (h:ButB B w w') (a:Addr) (v:Value) (ha:B a.block):ButB B w (w'.setCell a v):=have b:=(Below.refl 0 w').setCell (p:=a) (Nat.zero_le _) v
 ⟨b.os.trans h.os,b.tape.trans h.tape,b.output.trans h.output,by simpa using h.size,fun k hk hc=>(Below.heap_setCell _ _ _ _ (fun e=>hc (by rw [e];exact ha))).trans (h.block k hk hc)⟩
theorem ButB.trans (h:ButB B w w1) (k:ButB B w1 w'):ButB B w w':=⟨k.os.trans h.os,k.tape.trans h.tape,k.output.trans h.output,qNtx h.size k.size,fun b hb hc=>(k.block b (zll hb h.size) hc).trans (h.block b hb hc)⟩
theorem ButB.below {n:Nat} {w0:World} (h:Below n w0 w) (hn:n<=w.heap.size) (hB:∀k,B k->n<=k) (k:ButB B w w'):Below n w0 w':=
 ⟨k.os.trans h.os,k.tape.trans h.tape,k.output.trans h.output,qNtx h.size k.size,fun b hb=>(k.block b (by omega) fun hb'=>by have:=hB b hb';omega).trans (h.block b hb)⟩
end
theorem ButB.mono {B B':Nat->Prop} {w w':World} (h:ButB B w w') (k:∀x,B x->B' x):ButB B' w w':=⟨h.os,h.tape,h.output,h.size,fun x hx hb=>h.block x hx fun e=>hb (k x e)⟩
theorem ButB.kept {B S S':Nat->Prop} {w w':World} (h:ButB B w w') (hS:∀x,S x->S' x/\¬B x):Go.Proofs.YtdggplhnfhcieaaGreatDoor.Kept S S' w w':=fun x hx hl=>⟨(hS x hx).1,h.block x hl (hS x hx).2⟩
end
section
open Go.RowKit Go.Deep
section
variable {P:Program} {α:Type} {e:TypeId} {sz:Nat} {R:Rp α} {B B':Nat->Prop} {w w':World} {base:Nat} {v:Value} {l:List α}
theorem zA7 (w:World) {ops:Array Oper} {o:Oper} {a:Act} {K:Act->World->Prop} {Q:Exit->Act->World->Prop} {E:Prop} (hgd:o.guard=none) (s x:Operand) (t:TypeId)
  (ho:o.op= .call { callee:= .builtin .append,args:=#[s,x],argTypes:=#[t,t] })
  (e:TypeId) (i:TypeInfo) (z:Value) (sz bytes:Nat) (ht:P.underlying t=some (.slice e)) (hi:P.info? e=some i) (hz:i.zero=some z)
  (hsize:i.size=sz) (hby:i.bytes=bytes) (hzs:z.cells.size=sz) (hsz:0 < sz) (ok:RpOk sz R) (base:Nat) (hbase:base<=w.heap.size) (v:Value) (l:List α) (hs:a.eval s=v) (hown:Grow e sz R B w base v l)
  (A:Option Addr) (m c:Nat) (hx:a.eval x= .slice A m c) (l2:List α) (hm:m=l2.length) (hsl:SlAt sz R (z1z B w v) w A l2) (hbytes:(l.length+m)*bytes<=140737488355328) (hb0:0 < bytes)
  (h:∀v' w',Grow e sz R B w' base v' (l++l2)->w.grownBy w' v.ownBlock->K (a.put o.dst v') w'):if Region.wanted o (yielded ops a.tmps)=true then Oper.wp P o a w K Q else E:=by
 have hw:Region.wanted o (yielded ops a.tmps)=true:=by simp [Region.wanted,hgd]
 rw [if_pos hw];obtain ⟨v',w',r1,r2,r3,r4⟩:=z8s (P:=P) w t o.type e i z sz bytes ht hi hz hsize hby hzs hsz ok base hbase v l hown A m c l2 hm hsl hbytes hb0;refine Lib.wp_append_run w s x t t ho _ _ hs hx v' w' r1 (h v' w' ?_ r3);refine Own.keep (S':=z1z B w' v') ok r2 (fun b _=>rfl) (fun b hb hl=>⟨⟨hl,hb.2.1,?_⟩,rfl⟩) fun b hb=>⟨hb.1,hb.2.2⟩
 rcases r4 with g3 | g3
 ·rw [g3];exact hb.2.2
 rw [g3];have:=hb.1;simp only [ne_eq,Option.some.injEq];omega
theorem Grow.one {g:Nat} {cs:Array Value} {x:α} (ok:RpOk sz R) (hg:w.heap[g]? =some (.cells cs e (0,0))) (hb:base<=g) (hcs:cs.size=sz) (hR:R (z1z B w (.slice (some ⟨g,0,none⟩) 1 1)) w cs.toList x):Grow e sz R B w base (.slice (some ⟨g,0,none⟩) 1 1) [x]:=by
 refine ⟨by simp,fun b hb'=>⟨hb'.1,hb'.2.2⟩,cs.toList,⟨by simp [hcs],.inr ⟨g,1,cs,rfl,hb,hg,znl _,by decide,by simp [hcs],List.take_of_length_le (by simp [hcs])⟩⟩,fun i y hy=>?_⟩;rcases i with _ | i
 ·obtain rfl:x=y:=by simpa using hy
  exact ⟨cs.toList,by simp [hcs],fun j u hj=>by rw [Nat.zero_mul,Nat.zero_add];exact hj,hR⟩
 simp at hy
end
end
section
abbrev GN:=Bool×Nm×Int
def uN (s:Nm):GN:=(false,s,0)
def eN (s:Nm) (e:Int):GN:=(true,s,e)
inductive Reach (E:List (GN×GN)) (a:GN):GN->Prop
 | refl:Reach E a a
 | step {b c:GN}:Reach E a b->(b,c)∈E->Reach E a c
theorem Reach.closed {E:List (GN×GN)} {a:GN} (S:GN->Prop) (h0:S a) (hS:∀x∈E,S x.1->S x.2) {b:GN} (r:Reach E a b):S b:=by
 induction r with
 | refl=>exact h0
 | step _ hm ih=>exact hS _ hm ih
instance memDec (s:Nm) (l:List Nm):Decidable (s∈l):=decidable_of_iff (∃y∈l,y=s) (by simp)
def z6w {α:Type} (key:α->Nm) (out:List α) (x:α):List α:=if key x∈out.map key then out else out++[x]
def ZE {α:Type} (key:α->Nm) (l:List α):List α:=l.foldl (z6w key) []
theorem z60 {α:Type} {p:List α->Prop} (h0:p []) (hs:∀l x,p l->p (l++[x])) (l:List α):p l:=by
 have:∀r:List α,p r.reverse:=by
  intro r
  induction r with
  | nil=>exact h0
  | cons x r ih=>rw [List.reverse_cons];exact hs _ _ ih
 have h:=this l.reverse;rwa [List.reverse_reverse] at h
section
variable {α:Type} (key:α->Nm)
theorem zDy (l:List α) (x:α):ZE key (l++[x])=z6w key (ZE key l) x:=by simp [ZE,List.foldl_append]
theorem zBm (l:List α) (s:Nm):s∈(ZE key l).map key↔s∈l.map key:=by
 induction l using z60 with
 | h0=>simp [ZE]
 | hs l x ih=>
  rw [zDy,z6w,List.map_append,List.mem_append,<-ih];split
  ·rename_i h;constructor
   ·exact .inl
   rintro (h2 | h2)
   ·exact h2
   obtain rfl:s=key x:=by simpa using h2
   exact h
  rw [List.map_append,List.mem_append]
theorem z0q (l:List α) (x:α):ZE key (l++[x])=if key x∈l.map key then ZE key l else ZE key l++[x]:=by
 rw [zDy,z6w];by_cases h:key x∈l.map key
 ·rw [if_pos h,if_pos ((zBm key l _).2 h)]
 rw [if_neg h,if_neg fun e=>h ((zBm key l _).1 e)]
theorem z5s (l:List α):(ZE key l).length<=l.length:=by
 induction l using z60 with
 | h0=>simp [ZE]
 | hs l x ih=>
  rw [z0q];split
  ·rw [qLax];omega
  rw [qLax,qLax];simpa using ih
theorem z6x (l:List α) (x:α) (h:x∈ZE key l):x∈l:=by
 induction l using z60 with
 | h0=>simp [ZE] at h
 | hs l y ih=>
  rw [z0q] at h;split at h
  ·exact List.mem_append_left _ (ih h)
  rcases zmb h with h | h
  ·exact List.mem_append_left _ (ih h)
  exact List.mem_append_right _ h
theorem zDz (l:List α) (x:α):x∈ZE key l↔∃a b,l=a++x :: b/\key x∉a.map key:=by
 induction l using z60 with
 | h0=>simp [ZE]
 | hs l y ih=>
  rw [z0q];constructor
  ·intro h;split at h
   ·obtain ⟨a,b,rfl,h2⟩:=ih.1 h;exact ⟨a,b++[y],by simp,h2⟩
   rename_i hn;rcases zmb h with h | h
   ·obtain ⟨a,b,rfl,h2⟩:=ih.1 h;exact ⟨a,b++[y],by simp,h2⟩
   obtain rfl:x=y:=by simpa using h
   exact ⟨l,[],rfl,hn⟩
  rintro ⟨a,b,e,h2⟩;rcases List.eq_nil_or_concat b with rfl | ⟨b',z,rfl⟩
  ·obtain ⟨rfl,e2⟩:=List.append_inj' e rfl;obtain rfl:y=x:=by simpa using e2
   rw [if_neg h2];exact List.mem_append_right _ (by simp)
  have e3:l++[y]=(a++x :: b')++[z]:=by rw [e];simp
  obtain ⟨rfl,_⟩:=List.append_inj' e3 rfl;have:=ih.2 ⟨a,b',rfl,h2⟩;split
  ·exact this
  exact List.mem_append_left _ this
theorem z4z (l:List α) (s:Nm) (x:α):l.find? (fun y=>decide (key y=s))=some x↔x∈ZE key l/\key x=s:=by
 rw [zDz];constructor
 ·intro h;obtain ⟨h1,a,b,rfl,h2⟩:=List.find?_eq_some_iff_append.1 h;have h1':key x=s:=by simpa using h1
  refine ⟨⟨a,b,rfl,fun hm=>?_⟩,h1'⟩;obtain ⟨y,hy,e⟩:=List.mem_map.1 hm;have:=h2 y hy;simp [e,h1'] at this
 rintro ⟨⟨a,b,rfl,h2⟩,h1⟩;refine List.find?_eq_some_iff_append.2 ⟨by simpa using h1,a,b,rfl,fun y hy=>?_⟩;have:key y≠s:=fun e=>h2 (List.mem_map.2 ⟨y,hy,by rw [e,h1]⟩)
 simpa using this
end
def zP (st:State) (s:Nm):Option Folder:=st.folders.find? fun f=>decide (f.name=s)
theorem YM {st:State} {s:Nm} {f:Folder} (h:zP st s=some f):f.name=s:=by simpa using List.find?_some h
theorem z08 {st:State} {s:Nm} {f:Folder} (h:zP st s=some f):f∈st.folders:=List.mem_of_find?_eq_some h
def Y8:List Epoch->Int->Int
 | [],e=>e
 | x :: l,e=>if x.place=1 then e else Y8 l (e+1)
theorem zG6:∀(l:List Epoch) (e:Int),e<=Y8 l e/\Y8 l e<=e+l.length
 | [],e=>by simp [Y8]
 | x :: l,e=>by
  rw [Y8];have:=zG6 l (e+1);split
  ·simp only [List.length_cons];omega
  ·simp only [List.length_cons];omega
def yC (l:List Epoch) (e:Int):Int:=if 1<=e/\e<=l.length then Y8 (l.drop e.toNat) e else e
theorem zA3 {l:List Epoch} {e:Int} (h1:1<=e) (h2:e<=l.length):e<=yC l e/\yC l e<=l.length:=by
 rw [yC,if_pos ⟨h1,h2⟩];have:=zG6 (l.drop e.toNat) e;rw [List.length_drop] at this;omega
theorem z5t {l:List Epoch} {e:Int} (h:¬(1<=e/\e<=l.length)):yC l e=e:=by rw [yC,if_neg h]
def yR (l:List Epoch) (w:Wrap):Int:=if w.seed then yC l w.epoch else w.epoch
def z0t (f:Folder) (l:List Wrap):List (GN×GN):=l.map fun w=>(uN w.name,eN f.name (yR f.epochs w))
def z3c (f:Folder) (l:List Link):List (GN×GN):=l.map fun x=>(eN x.to x.seq,eN f.name x.epoch)
def z3d (s:Nm) (n:Nat):List (GN×GN):=(List.range n).map fun i:Nat=>(eN s ((i:Int)+2),eN s ((i:Int)+1))
def z1n (f:Folder):List (GN×GN):=z3d f.name (f.epochs.length - 1)++(z0t f (ZE Wrap.name f.wraps)++z3c f f.links)
def z0u (l:List Pair):List (GN×GN):=l.map fun p=>(uN p.to,uN p.frm)
def z3t (st:State):List (GN×GN):=z0u st.deposits++(ZE Folder.name st.folders).flatMap z1n
theorem z3j {st:State} {a b:GN}:(a,b)∈z3t st↔(∃p∈st.deposits,a=uN p.to/\b=uN p.frm)\/∃f∈ZE Folder.name st.folders,
  (∃e:Int,2<=e/\e<=f.epochs.length/\a=eN f.name e/\b=eN f.name (e - 1))\/(∃w∈ZE Wrap.name f.wraps,a=uN w.name/\b=eN f.name (yR f.epochs w))\/∃x∈f.links,a=eN x.to x.seq/\b=eN f.name x.epoch:=by
 have hE:∀f:Folder,(a,b)∈z3d f.name (f.epochs.length - 1)↔∃e:Int,2<=e/\e<=f.epochs.length/\a=eN f.name e/\b=eN f.name (e - 1):=fun f=>by
  unfold z3d;rw [List.mem_map];constructor
  ·rintro ⟨i,hi,h⟩;rw [List.mem_range] at hi;rw [Prod.mk.injEq] at h;exact ⟨i+2,by omega,by omega,h.1.symm,by rw [<-h.2];congr 1;omega⟩
  ·rintro ⟨e,_,_,rfl,rfl⟩;exact ⟨(e - 2).toNat,by rw [List.mem_range];omega,by rw [Prod.mk.injEq];constructor<;>(congr 1;omega)⟩
 unfold z3t z0u;rw [List.mem_append,List.mem_map,List.mem_flatMap];refine or_congr ?_ ?_
 ·constructor
  ·rintro ⟨p,hp,h⟩;rw [Prod.mk.injEq] at h;exact ⟨p,hp,h.1.symm,h.2.symm⟩
  rintro ⟨p,hp,rfl,rfl⟩;exact ⟨p,hp,rfl⟩
 refine exists_congr fun f=>and_congr_right fun _=>?_
 unfold z1n z0t z3c;rw [List.mem_append,List.mem_append,hE,List.mem_map,List.mem_map];refine or_congr Iff.rfl (or_congr ?_ ?_)
 ·constructor
  ·rintro ⟨p,hp,h⟩;rw [Prod.mk.injEq] at h;exact ⟨p,hp,h.1.symm,h.2.symm⟩
  rintro ⟨p,hp,rfl,rfl⟩;exact ⟨p,hp,rfl⟩
 constructor
 ·rintro ⟨p,hp,h⟩;rw [Prod.mk.injEq] at h;exact ⟨p,hp,h.1.symm,h.2.symm⟩
 rintro ⟨p,hp,rfl,rfl⟩;exact ⟨p,hp,rfl⟩
def z2w (st:State) (u fo:Nm) (e:Int):Prop:=Reach (z3t st) (uN u) (eN fo e)
def IsMost (p:Int->Prop) (len:Nat) (n:Int):Prop:=0<=n/\n<=len/\(n=0\/p n)/\∀e:Int,1<=e->e<=len->p e->e<=n
theorem IsMost.one {p q:Int->Prop} {len:Nat} {n m:Int} (h:IsMost p len n) (k:IsMost q len m) (e:∀x,p x↔q x):n=m:=by
 obtain ⟨a1,a2,a3,a4⟩:=h;obtain ⟨b1,b2,b3,b4⟩:=k;have h1:n<=m:=by
  rcases a3 with rfl | h
  ·exact b1
  ·by_cases h0:1<=n
   ·exact b4 n h0 a2 ((e _).1 h)
   ·omega
 have h2:m<=n:=by
  rcases b3 with rfl | h
  ·exact a1
  ·by_cases h0:1<=m
   ·exact a4 m h0 b2 ((e _).2 h)
   ·omega
 omega
def IsReach (st:State) (u fo:Nm) (n:Int):Prop:=(zP st fo=none/\n=0)\/∃f,zP st fo=some f/\IsMost (z2w st u fo) f.epochs.length n
theorem IsReach.one {st:State} {u fo:Nm} {n m:Int} (h:IsReach st u fo n) (k:IsReach st u fo m):n=m:=by
 rcases h with ⟨h1,rfl⟩ | ⟨f,h1,h2⟩
 ·rcases k with ⟨k1,rfl⟩ | ⟨g,k1,k2⟩
  ·rfl
  rw [h1] at k1;cases k1
 rcases k with ⟨k1,rfl⟩ | ⟨g,k1,k2⟩
 ·rw [h1] at k1;cases k1
 obtain rfl:f=g:=zsi (h1.symm.trans k1);exact h2.one k2 fun _=>Iff.rfl
theorem zE0 {st:State} {u fo:Nm} {f:Folder} (hf:zP st fo=some f) {n:Int} (hn:n<=f.epochs.length) (h:z2w st u fo n):∀(k:Nat),1<=n - k->z2w st u fo (n - k)
 | 0,_=>by simpa using h
 | k+1,hk=>by
  have ih:=zE0 hf hn h k (by omega);refine .step ih (z3j.2 (.inr ⟨f,((z4z Folder.name _ _ _).1 hf).1,.inl ⟨n - k,by omega,by omega,?_,?_⟩⟩))
  ·rw [YM hf]
  ·rw [YM hf];congr 1;omega
theorem IsReach.iff {st:State} {u fo:Nm} {n:Int} {f:Folder} (h:IsReach st u fo n) (hf:zP st fo=some f) {e:Int} (h1:1<=e) (h2:e<=f.epochs.length):e<=n↔z2w st u fo e:=by
 rcases h with ⟨h0,_⟩ | ⟨g,hg,a1,a2,a3,a4⟩
 ·rw [hf] at h0;cases h0
 obtain rfl:f=g:=zsi (hf.symm.trans hg);constructor
 ·intro he;rcases a3 with rfl | hr
  ·omega
  have:=zE0 hf a2 hr (n - e).toNat (by omega);rwa [show n - ((n - e).toNat:Int)=e by omega] at this
 exact a4 e h1 h2
def z4i (nm:Nm) (len:Nat) (o:Int) (n:GN):Int:=if n.1=true/\n.2.1=nm/\1<=n.2.2/\n.2.2<=len then max o n.2.2 else o
def z1o (nm:Nm) (len:Nat) (l:List GN):Int:=l.foldl (z4i nm len) 0
theorem zBn (nm:Nm) (len:Nat) (l:List GN) (x:GN):z1o nm len (l++[x])=z4i nm len (z1o nm len l) x:=by simp [z1o,List.foldl_append]
theorem zNv (nm:Nm) (len:Nat) (l:List GN):IsMost (fun e=>eN nm e∈l) len (z1o nm len l):=by
 induction l using z60 with
 | h0=>exact ⟨by simp [z1o],by simp [z1o],.inl rfl,fun e _ _ h=>by simp at h⟩
 | hs l x ih=>
  obtain ⟨a1,a2,a3,a4⟩:=ih;rw [zBn,z4i];split
  ·rename_i h;obtain ⟨h1,h2,h3,h4⟩:=h;obtain ⟨x1,x2,x3⟩:=x;dsimp only at h1 h2 h3 h4⊢;subst h1 h2;refine ⟨by omega,by omega,?_,fun e h5 h6 h7=>?_⟩
   ·rcases Int.le_total (z1o x2 len l) x3 with h9 | h9
    ·rw [Int.max_eq_right h9];exact .inr (List.mem_append_right _ (by simp [eN]))
    rw [Int.max_eq_left h9];exact a3.imp id fun h=>List.mem_append_left _ h
   rcases zmb h7 with h8 | h8
   ·have:=a4 e h5 h6 h8;omega
   have:eN x2 e=(true,x2,x3):=by simpa using h8
   simp only [eN,Prod.mk.injEq,true_and] at this;omega
  rename_i h;refine ⟨a1,a2,a3.imp id fun h=>List.mem_append_left _ h,fun e h5 h6 h7=>?_⟩;rcases zmb h7 with h8 | h8
  ·exact a4 e h5 h6 h8
  have h9:eN nm e=x:=by simpa using h8
  subst h9;exact absurd ⟨rfl,rfl,h5,h6⟩ h
theorem zLk {st:State} {u fo:Nm} {f:Folder} (hf:zP st fo=some f) {l:List GN} (h:∀x,x∈l↔Reach (z3t st) (uN u) x):IsReach st u fo (z1o f.name f.epochs.length l):=by
 refine .inr ⟨f,hf,?_⟩;obtain ⟨a1,a2,a3,a4⟩:=zNv f.name f.epochs.length l;rw [YM hf] at a1 a2 a3 a4⊢;exact ⟨a1,a2,a3.imp id fun k=>(h _).1 k,fun e h1 h2 h3=>a4 e h1 h2 ((h _).2 h3)⟩
structure GRep (E:List (GN×GN)) (m:Nat) (ns:List GN) (adj:List (List Nat)):Prop where
 nodup:ns.Nodup
 len:adj.length=ns.length
 lt:∀(i:Nat) (l:List Nat) (j:Nat),adj[i]? =some l->j∈l->j < ns.length
 edge:∀a b,(a,b)∈E↔∃(i j:Nat) (l:List Nat),ns[i]? =some a/\ns[j]? =some b/\adj[i]? =some l/\j∈l
 small:ns.length<=m
 deg:∀(i:Nat) (l:List Nat),adj[i]? =some l->l.length<=m
theorem zD9 {α:Type} {l:List α} (h:l.Nodup) {i j:Nat} {x:α} (hi:l[i]? =some x) (hj:l[j]? =some x):i=j:=by
 have h1:=(zge hi);have h2:=(zge hj);rcases Nat.lt_trichotomy i j with k | k | k
 ·exact absurd (h1.2.trans h2.2.symm) (List.pairwise_iff_getElem.1 h i j h1.1 h2.1 k)
 ·exact k
 exact absurd (h2.2.trans h1.2.symm) (List.pairwise_iff_getElem.1 h j i h2.1 h1.1 k)
section
variable {E:List (GN×GN)} {m:Nat} {ns:List GN} {adj:List (List Nat)}
theorem GRep.start:GRep [] 0 [] []:=⟨List.nodup_nil,rfl,fun i l j h=>by simp at h,fun a b=>by simp,znl _,fun i l h=>by simp at h⟩
theorem GRep.mono (h:GRep E m ns adj) {m':Nat} (hm:m<=m'):GRep E m' ns adj:=⟨h.nodup,h.len,h.lt,h.edge,qNtx h.small hm,fun i l e=>qNtx (h.deg i l e) hm⟩
theorem GRep.again (h:GRep E m ns adj) {x:GN×GN} (hx:x∈E):GRep (E++[x]) m ns adj:=⟨h.nodup,h.len,h.lt,fun a b=>by
 rw [<-h.edge,List.mem_append];constructor
 ·rintro (k | k)
  ·exact k
  ·rw [zml k];exact hx
 ·exact .inl,h.small,h.deg⟩
theorem GRep.node (h:GRep E m ns adj) {k:GN} (hk:k∉ns):GRep E (m+1) (ns++[k]) (adj++[[]]):=by
 have hlt:∀i l j,(adj++[[]])[i]? =some l->j∈l->adj[i]? =some l/\j < ns.length:=fun i l j hi hj=>by
  rcases Nat.lt_or_ge i adj.length with hl | hl
  ·rw [qLlx hl] at hi;exact ⟨hi,h.lt i l j hi hj⟩
  ·rw [qLrx hl] at hi;have:l=[]:=by
    rcases hq:i - adj.length with _ | q
    ·rw [hq] at hi;exact (by simpa using hi:[]=l).symm
    ·rw [hq] at hi;simp at hi
   subst this;cases hj
 refine ⟨?_,by simp [h.len],fun i l j hi hj=>?_,fun a b=>?_,by have:=h.small;simp;omega,fun i l hi=>?_⟩
 ·refine List.nodup_append.2 ⟨h.nodup,by simp,fun a ha b hb=>?_⟩;obtain rfl:b=k:=by simpa using hb
  exact fun e=>hk (e▸ha)
 ·have:=(hlt i l j hi hj).2;simp;omega
 ·rw [h.edge];constructor
  ·rintro ⟨i,j,l,h1,h2,h3,h4⟩;refine ⟨i,j,l,?_,?_,?_,h4⟩
   ·rw [qLlx (zge h1).1];exact h1
   ·rw [qLlx (zge h2).1];exact h2
   rw [qLlx (zge h3).1];exact h3
  rintro ⟨i,j,l,h1,h2,h3,h4⟩;obtain ⟨h5,h6⟩:=hlt i l j h3 h4;have h7:i < ns.length:=by rw [<-h.len];exact (zge h5).1
  rw [qLlx h7] at h1;rw [qLlx h6] at h2;exact ⟨i,j,l,h1,h2,h5,h4⟩
 rcases Nat.lt_or_ge i adj.length with hl | hl
 ·rw [qLlx hl] at hi;have:=h.deg i l hi;omega
 rw [qLrx hl] at hi;have:l=[]:=by
  rcases hq:i - adj.length with _ | q
  ·rw [hq] at hi;exact (by simpa using hi:[]=l).symm
  ·rw [hq] at hi;simp at hi
 subst this;simp
theorem GRep.link (h:GRep E m ns adj) {a b:GN} {i j:Nat} {l:List Nat} (ha:ns[i]? =some a) (hb:ns[j]? =some b) (hl:adj[i]? =some l):GRep (E++[(a,b)]) (m+1) ns (adj.set i (l++[j])):=by
 have hil:=(zge hl).1;have hjl:=(zge hb).1;refine ⟨h.nodup,by rw [List.length_set];exact h.len,fun i' l' j' h1 h2=>?_,fun a' b'=>?_,by have:=h.small;omega,fun i' l' h1=>?_⟩
 ·rw [List.getElem?_set] at h1;split at h1
  ·rename_i e;subst e;try rw [if_pos hil] at h1
   obtain rfl:=zsi h1;rcases zmb h2 with h2 | h2
   ·exact h.lt _ _ _ hl h2
   obtain rfl:j'=j:=by simpa using h2
   exact hjl
  exact h.lt _ _ _ h1 h2
 ·rw [List.mem_append,h.edge];constructor
  ·rintro (⟨i',j',l',h1,h2,h3,h4⟩ | h9)
   ·by_cases e:i=i'
    ·subst e;obtain rfl:l'=l:=zsi (h3.symm.trans hl);exact ⟨i,j',l'++[j],h1,h2,by rw [List.getElem?_set_self hil],List.mem_append_left _ h4⟩
    exact ⟨i',j',l',h1,h2,by rw [List.getElem?_set_ne e];exact h3,h4⟩
   have h9:(a',b')=(a,b):=by simpa using h9
   rw [Prod.mk.injEq] at h9;obtain ⟨rfl,rfl⟩:=h9;exact ⟨i,j,l++[j],ha,hb,by rw [List.getElem?_set_self hil],List.mem_append_right _ (by simp)⟩
  rintro ⟨i',j',l',h1,h2,h3,h4⟩;rw [List.getElem?_set] at h3;split at h3
  ·rename_i e;subst e;try rw [if_pos hil] at h3
   obtain rfl:=zsi h3;rcases zmb h4 with h4 | h4
   ·exact .inl ⟨i,j',l,h1,h2,hl,h4⟩
   obtain rfl:j'=j:=by simpa using h4
   obtain rfl:=zsi (h1.symm.trans ha);obtain rfl:=zsi (h2.symm.trans hb);exact .inr (by simp)
  exact .inl ⟨i',j',l',h1,h2,h3,h4⟩
 rw [List.getElem?_set] at h1;split at h1
 ·rename_i e;subst e;try rw [if_pos hil] at h1
  obtain rfl:=zsi h1;have:=h.deg _ _ hl;simp;omega
 have:=h.deg _ _ h1;omega
end
structure Srch (E:List (GN×GN)) (s:GN) (all:List GN) (i:Nat):Prop where
 nodup:all.Nodup
 head:s∈all
 sound:∀x∈all,Reach E s x
 done:∀(k:Nat) (x:GN),k < i->all[k]? =some x->∀y,(x,y)∈E->y∈all
theorem Srch.start (E:List (GN×GN)) (s:GN):Srch E s [s] 0:=⟨by simp,by simp,fun x hx=>by rw [zml hx];exact .refl,fun k x hk=>by omega⟩
theorem Srch.add {E:List (GN×GN)} {s:GN} {all:List GN} {i:Nat} (h:Srch E s all i) {x y:GN} (hx:x∈all) (he:(x,y)∈E) (hy:y∉all) (hi:i<=all.length):Srch E s (all++[y]) i:=by
 refine ⟨List.nodup_append.2 ⟨h.nodup,by simp,fun a ha b hb=>?_⟩,List.mem_append_left _ h.head,fun z hz=>?_,fun k z hk hz v hv=>?_⟩
 ·obtain rfl:b=y:=by simpa using hb
  exact fun e=>hy (e▸ha)
 ·rcases zmb hz with hz | hz
  ·exact h.sound z hz
  rw [zml hz];exact .step (h.sound x hx) he
 rw [qLlx (by omega)] at hz;exact List.mem_append_left _ (h.done k z hk hz v hv)
theorem Srch.next {E:List (GN×GN)} {s:GN} {all:List GN} {i:Nat} (h:Srch E s all i) {x:GN} (hx:all[i]? =some x) (hd:∀y,(x,y)∈E->y∈all):Srch E s all (i+1):=
 ⟨h.nodup,h.head,h.sound,fun k z hk hz y hy=>by
  rcases Nat.lt_or_ge k i with h1 | h1
  ·exact h.done k z h1 hz y hy
  ·obtain rfl:k=i:=by omega
   obtain rfl:=zsi (hx.symm.trans hz);exact hd y hy⟩
theorem Srch.all {E:List (GN×GN)} {s:GN} {all:List GN} {i:Nat} (h:Srch E s all i) (hi:all.length<=i) (x:GN):x∈all↔Reach E s x:=by
 refine ⟨h.sound x,fun r=>r.closed (·∈all) h.head fun e he h1=>?_⟩;obtain ⟨k,hk⟩:=List.getElem?_of_mem h1;have:=(zge hk).1;exact h.done k _ (by omega) hk _ he
theorem z7y {α:Type}:∀{ks L:List α},ks.Nodup->(∀e∈ks,e∈L)->ks.length<=L.length
 | [],_,_,_=>Nat.zero_le _
 | k :: ks,L,hn,hs=>by
  obtain ⟨h1,h2⟩:=List.nodup_cons.1 hn;obtain ⟨a,b,rfl⟩:=List.append_of_mem (hs k (List.mem_cons_self ..));have h3:=z7y (L:=a++b) h2 fun e he=>by
   have:=hs e (zmc _ he);simp only [List.mem_append,qLcx] at this⊢;rcases this with h | rfl | h
   ·exact .inl h
   ·exact absurd he h1
   ·exact .inr h
  simp only [qLax,List.length_cons] at h3⊢;omega
theorem zQ5 {ns all:List GN} {s:GN} (hn:all.Nodup) (hs:∀x∈all,x=s\/x∈ns):all.length<=ns.length+1:=by
 have:=z7y hn (L:=s :: ns) (fun x hx=>by
  rcases hs x hx with rfl | h
  ·exact List.mem_cons_self ..
  ·exact zmc _ h)
 simpa using this
end
section
open Go.RowKit Go.Deep Go.ChangeShapes Go.WideShapes
section
variable {H:Type} {enc:TypeId×Value->H} {P:Program} {w:World} {base:Nat} {spare:Nat->Bool} {held:Bool} {fuel:Nat} {t:TypeId} {v:Value} {x:DataW H×List MemPlace} {r:Go.Reach} {b0:Nat}
theorem zTs {α:Type} {e:TypeId} {sz:Nat} {R:Rp α} (ht:P.underlying t=some (.slice e)) (hR:Rd P w t (rSl sz R)) (hval:Value.okWide P w r b0 t v) (hf:DataW.trod enc P w base spare held fuel t v.cells.toList=some x) (hz:z90 P t x.1):∃l,Sl sz R (fun _=>True) w v l:=by
 obtain ⟨A,n,c,rfl⟩:=okWide_slice ht hval;exact zNg hR (v:= .slice A n c) hf hz
end
end
structure ShortF (f:Folder):Prop where
 name:f.name.size<=20
 man:∀x∈f.manifests,x.parent.size<=20/\x.members.length<=20/\∀y∈x.members,y.name.size<=20
 ep:∀x∈f.epochs,x.chain.length<=20/\∀y∈x.chain,y.name.size<=20
 item:∀x∈f.items,x.name.size<=20/\x.versions.length<=64
 wrap:∀x∈f.wraps,x.name.size<=20
 link:∀x∈f.links,x.to.size<=20
def z6y (f:Folder):Nat:=f.manifests.length+f.epochs.length+f.items.length+f.wraps.length+f.links.length
def z4l:List Folder->Nat
 | []=>0
 | f :: l=>z6y f+z4l l
theorem zDf:∀(l:List Folder) (f:Folder),f∈l->z6y f<=z4l l
 | [],f,h=>by simp at h
 | x :: l,f,h=>by
  rcases List.mem_cons.1 h with rfl | h
  ·simp [z4l]
  ·have:=zDf l f h;simp [z4l];omega
structure Small (st:State):Prop where
 users:∀x∈st.users,x.name.size<=20
 pairs:∀x∈st.deposits,x.frm.size<=20/\x.to.size<=20
 few8:st.folders.length<=64
 all:st.users.length+st.deposits.length+z4l st.folders<=1000
 short:∀f∈st.folders,ShortF f
section
open Go.RowKit Go.Deep
def z6o (c:Nat):Bool:=(decide (97<=c) && decide (c<=122)) || (decide (48<=c) && decide (c<=57))
def z73:List UInt8->Bool
 | []=>true
 | c :: l=>if z6o c.toNat then z73 l else false
def ZA (s:ByteArray):Bool:=if s.size < 1 then false else if 12 < s.size then false else z73 s.data.toList
theorem zSm {s:ByteArray} {k:Nat} (h:k < s.size):s.data.toList.drop k=s[k] :: s.data.toList.drop (k+1):=by
 have h':k < s.data.toList.length:=by simpa using h
 rw [List.drop_eq_getElem_cons h'];rfl
theorem zLt {s:ByteArray} {k:Nat} (h:k < s.size):z73 (s.data.toList.drop k)=if z6o s[k].toNat then z73 (s.data.toList.drop (k+1)) else false:=by
 rw [zSm h,z73]
theorem zLu (c:Nat):(c < 48/\z6o c=false)\/((48<=c/\c<=57)/\z6o c=true)\/((57 < c/\c < 97)/\z6o c=false)\/((97<=c/\c<=122)/\z6o c=true)\/(122 < c/\z6o c=false):=by
 simp only [z6o,Bool.or_eq_true,Bool.or_eq_false_iff,qBqx,Bool.and_eq_false_iff,decide_eq_true_eq,decide_eq_false_iff_not];omega
theorem zQi (s:ByteArray):s.data.toList.drop s.size=[]:=List.drop_of_length_le (by simp)
set_option maxHeartbeats 1000000 in
theorem z97 (s:ByteArray) (hs:s.size<=140737488355328) (w:World):Calls Tryz.prog 51 #[.string s] w fun e w'=>e= .returned (.bool (ZA s))/\w=w':=by
 have F:Hid (ZA s=(decide (1<=s.size) && (decide (s.size<=12) && z73 s.data.toList))):=by
  unfold ZA;show _=_
  by_cases h1:s.size < 1
  ·rw [if_pos h1,decide_eq_false (by omega)];rfl
  ·by_cases h2:12 < s.size
   ·rw [if_neg h1,if_pos h2,decide_eq_true (show 1<=s.size by omega),decide_eq_false (show ¬s.size<=12 by omega)];rfl
   ·rw [if_neg h1,if_neg h2,decide_eq_true (show 1<=s.size by omega),decide_eq_true (show s.size<=12 by omega)];rfl
 go_enter Tryz.func51,Tryz.ntmps51
 go_wp2;go_loop [7] (fun i=>∃k:Nat,k<=s.size/\i= .int .i64 k/\z73 (s.data.toList.drop k)=z73 s.data.toList) (fun i=>s.size - (intOf i).toNat)
 case atStart=>exact ⟨0,by omega,by go_num,by simp⟩
 obtain ⟨k,_,rfl,E⟩:=hrel;by_cases hlt:k < s.size
 rotate_left
 ·obtain rfl:k=s.size:=by omega
  rw [zQi] at E;have EH:=zh E;clear E;go_wp2;all_goals
   go_ret;exact ⟨ZM (by rw [F.out,<-EH.out,Bool.eq_iff_iff];simp [z73];omega),rfl⟩
 rw [zLt hlt] at E;rcases zLu s[k].toNat with ⟨h,o⟩ | ⟨h,o⟩ | ⟨h,o⟩ | ⟨h,o⟩ | ⟨h,o⟩
 all_goals
  rw [o] at E;have EH:=zh E;clear E o
 ·go_wp2;go_ret;exact ⟨ZM (by rw [F.out,<-EH.out];simp),rfl⟩
 ·go_wp2;go_round
  case rel=>exact ⟨k+1,by omega,by go_num,EH.out⟩
  case measure=>simp [intOf];omega
 ·go_wp2;go_ret;exact ⟨ZM (by rw [F.out,<-EH.out];simp),rfl⟩
 ·go_wp2;go_round
  case rel=>exact ⟨k+1,by omega,by go_num,EH.out⟩
  case measure=>simp [intOf];omega
 go_wp2;go_ret;exact ⟨ZM (by rw [F.out,<-EH.out];simp),rfl⟩
end
section
open Go.RowKit Go.Deep
section
theorem ButB.drew {B:Nat->Prop} {w w':World} (h:ButB B w w'):ButB B w w'.drew:=⟨h.os,h.tape,h.output,h.size,h.block⟩
theorem zM0 (B C:Nat) (w:World) (a0 a2 a3 a4 a5 a6 a7:Value) (q:Int) (s:ByteArray) (hB:w.heap[B]? =some (.cells #[a0,.int .i64 q,a2,a3,a4,a5,a6,a7] 84 (0,0))) (hC:w.cell? ⟨C,4,none⟩=some (.string s)) (hne:C≠B):
  Calls Tryz.prog 134 #[.pointer (some ⟨B,0,none⟩),.pointer (some ⟨C,0,none⟩)] w fun e w'=>e= .returned (.tuple #[])/\w'.heap[B]? =some (.cells #[a0,.int .i64 q,a2,.string s,a4,.int .i64 q,a6,a7] 84 (0,0))/\ButB (fun x=>x=B) w w':=by
 have c1:w.cell? ⟨B,1,none⟩=some (.int .i64 q):=(zD hB).1 1 _ rfl;have c3:w.cell? ⟨B,3,none⟩=some a3:=(zD hB).1 3 _ rfl;have c5:w.cell? ⟨B,5,none⟩=some a5:=(zD hB).1 5 _ rfl;have fz:=(zD hB).2;have HB:=zh hB;clear hB;go_enter Tryz.func134,Tryz.ntmps134
 go_wp2;go_region
 go_wp2;go_end0
 have h1:=zI (i:=3) (.string s) HB.out rfl;have h2:=zI (i:=5) (.int .i64 q) h1 rfl;exact ⟨rfl,h2,(((ButB.refl (fun x=>x=B) w).set ⟨B,3,none⟩ (.string s) rfl).set ⟨B,5,none⟩ (.int .i64 q) rfl).drew⟩
theorem zI8 (B:Nat) (w:World) (a0 a1 a2 a3 a4 a5 a6 a7:Value) (hB:w.heap[B]? =some (.cells #[a0,a1,a2,a3,a4,a5,a6,a7] 84 (0,0))):
  Calls Tryz.prog 137 #[.pointer (some ⟨B,0,none⟩)] w fun e w'=>e= .returned (.tuple #[])/\w'.heap[B]? =some (.cells #[a0,a1,a2,a3,a4,a5,.bool true,a7] 84 (0,0))/\ButB (fun x=>x=B) w w':=by
 have c6:w.cell? ⟨B,6,none⟩=some a6:=(zD hB).1 6 _ rfl;have fz:=(zD hB).2;have HB:=zh hB;clear hB;go_enter Tryz.func137,Tryz.ntmps137
 go_wp2;go_end0
 exact ⟨rfl,zI (i:=6) (.bool true) HB.out rfl,(ButB.refl (fun x=>x=B) _).set _ _ rfl⟩
theorem zHa (B L C:Nat) (w:World) (a0 a2 a3 a4 a5 a6 a7 v:Value) (q k:Int) (hB:w.heap[B]? =some (.cells #[a0,.int .i64 q,a2,a3,a4,a5,a6,a7] 84 (0,0))) (hv:∃A n c,v= .slice A n c) (hL:w.cell? ⟨L,0,none⟩=some v) (hC:w.cell? ⟨C,0,none⟩=some (.int .i64 k)) (hne:C≠B) (hne2:L≠B):
  Calls Tryz.prog 142 #[.pointer (some ⟨B,0,none⟩),.pointer (some ⟨L,0,none⟩),.pointer (some ⟨C,0,none⟩)] w fun e w'=>e= .returned (.tuple #[])/\w'.heap[B]? =some (.cells #[a0,.int .i64 q,a2,a3,v,if k=7 then .int .i64 q else a5,a6,a7] 84 (0,0))/\ButB (fun x=>x=B) w w':=by
 obtain ⟨A,n,c,rfl⟩:=hv;have c1:w.cell? ⟨B,1,none⟩=some (.int .i64 q):=(zD hB).1 1 _ rfl;have c4:w.cell? ⟨B,4,none⟩=some a4:=(zD hB).1 4 _ rfl;have c5:w.cell? ⟨B,5,none⟩=some a5:=(zD hB).1 5 _ rfl;have fz:=(zD hB).2;have HB:=zh hB;clear hB;by_cases hk:k=7
 ·have hd:(k==7)=true:=by simp [hk]
  have HK:=zh hk;clear hk;go_enter Tryz.func142,Tryz.ntmps142
  go_wp2;go_end0
  have h1:=zI (i:=4) (.slice A n c) HB.out rfl;have h2:=zI (i:=5) (.int .i64 q) h1 rfl;exact ⟨rfl,h2,((ButB.refl (fun x=>x=B) _).set _ _ rfl).set _ _ rfl⟩
 have hd:(k==7)=false:=by simp [hk]
 have HK:=zh hk;clear hk;go_enter Tryz.func142,Tryz.ntmps142
 go_wp2;go_end0
 have h1:=zI (i:=4) (.slice A n c) HB.out rfl;exact ⟨rfl,h1,(ButB.refl (fun x=>x=B) _).set _ _ rfl⟩
end
end
section
open Go.RowKit Go.Deep
theorem z2j {n:Nat} {w w':World} (h:Below n w w'):∀q,Below n w (w'.drewN q)
 | 0=>h
 | q+1=>(z2j h q).drew
end
end Go.Proofs.YtdggplhnfhcieaaGreatDoor
section
namespace Go.Proofs.YtdggplhnfhcieaaGreatDoor.Bd
open Go.RowKit Go.Deep
theorem zMx (f:Folder) (cs:List Value) (w:World) (S:Nat->Prop) (h:ZG S w cs f) (hb:f.items.length+f.wraps.length+f.links.length<=1000000):
  Calls Tryz.prog 184 #[.agg cs.toArray] w fun e w'=>e= .returned (.int .i64 ((f.items.length+f.wraps.length+f.links.length:Nat):Int))/\Below w.heap.size w w':=by
 obtain ⟨_,_,_,_,_,_,_,_,_,_,rfl,_,_,_,_,_,_,_,_,_,_,_,_,_,_,_,_,_,_,_,_,_,_⟩:=Z2 h;go_enter Tryz.func184,Tryz.ntmps184
 go_wp2;go_ret;exact ⟨by simp,by go_grown⟩
def verCount:List Item->Nat
 | []=>0
 | x :: l=>x.versions.length+verCount l
def large1 (f:Folder):Nat:=f.manifests.length+f.epochs.length+verCount f.items
theorem zMy (f:Folder) (cs:List Value) (w:World) (S:Nat->Prop) (h:ZG S w cs f) (hb:large1 f<=1000000):
  Calls Tryz.prog 185 #[.agg cs.toArray] w fun e w'=>e= .returned (.int .i64 ((large1 f:Nat):Int))/\Below w.heap.size w w':=by
 obtain ⟨_,_,_,_,_,_,_,_,_,_,rfl,_,_,_,_,_,_,_,_,_,_,_,_,_,f_items_s,_,_,_,_,_,_,_,_⟩:=Z2 h;unfold large1 at hb;go_enter Tryz.func185,Tryz.ntmps185
 go_wp2;go_loopw [3,16] (fun n i wr=>∃k m:Nat,k<=f.items.length/\i= .int .i64 k/\n= .int .i64 m/\m+verCount (f.items.drop k)=large1 f/\Below w.heap.size w wr) (fun n i _=>f.items.length - (intOf i).toNat)
 case atStart=>
  exact ⟨0,f.manifests.length+f.epochs.length,by omega,by go_num,by go_num,by simp [large1],by go_grown⟩
 obtain ⟨k,m,_,rfl,rfl,E,hbel⟩:=hrel;have hz:=hbel.size;by_cases hlt:k < f.items.length
 ·obtain ⟨x,_,_,_,_,x_k,x_d,_,rfl,_,_,_,_,_,_,_,_,_,_⟩:=z5a f_items_s hlt (zK hbel);rw [x_d,verCount] at E;have b1:m+x.versions.length<=1000000:=by unfold large1 at E;omega
  have EH:=zh E;clear x_k x_d E;go_wp2;go_roundw
  case rel=>exact ⟨k+1,m+x.versions.length,by omega,by go_num,by go_num,by rw [<-EH.out];omega,by go_grown⟩
  case measure=>simp [intOf];omega
 obtain rfl:k=f.items.length:=by omega
 rw [List.drop_length] at E;have EH:=zh E;clear E;go_wp2;go_ret;exact ⟨by rw [<-EH.out];simp [verCount],hbel⟩
end Go.Proofs.YtdggplhnfhcieaaGreatDoor.Bd
end
namespace Go.Proofs.YtdggplhnfhcieaaGreatDoor
section
open Go.RowKit Go.Deep
theorem z5e {sz:Nat}:∀{l:List (List Value)} {i:Nat} {x:List Value} {j:Nat},(∀y∈l,y.length=sz)->l[i]? =some x->j < sz->l.flatten[i*sz+j]? =x[j]?
 | [],i,x,j,_,hi,_=>by simp at hi
 | y :: l,0,x,j,h,hi,hj=>by
  obtain rfl:y=x:=by simpa using hi
  rw [List.flatten_cons,qLlx (by have:=h y (List.mem_cons_self ..);omega)];congr 1
  omega
 | y :: l,i+1,x,j,h,hi,hj=>by
  have hy:=h y (List.mem_cons_self ..);have e:(i+1)*sz+j - y.length=i*sz+j:=by rw [hy,Nat.add_mul];omega
  rw [List.flatten_cons,qLrx (by rw [hy,Nat.add_mul];omega),e];exact z5e (fun z hz=>h z (zmc _ hz)) (by simpa using hi) hj
theorem zHv {sz:Nat} (hsz:0 < sz) {l:List (List Value)} (h:∀y∈l,y.length=sz) {q:Nat} {u:Value} (hq:l.flatten[q]? =some u):∃i j x,q=i*sz+j/\j < sz/\l[i]? =some x/\x[j]? =some u:=by
 have hl:q < l.length*sz:=by
  have:=(zge hq).1;rwa [z5b h] at this
 have h2:=Nat.mod_lt q hsz;have h3:=Nat.div_add_mod q sz;have h4:q / sz < l.length:=(Nat.div_lt_iff_lt_mul hsz).2 hl;refine ⟨q / sz,q % sz,l[q / sz],by rw [Nat.mul_comm] at h3;omega,h2,qLgx h4,?_⟩;rw [<-z5e (sz:=sz) h (qLgx h4) h2];rw [show q / sz*sz+q % sz=q by rw [Nat.mul_comm] at h3;omega];exact hq
section
variable {e:TypeId} {sz:Nat}
theorem RowC.at {w:World} {v:Value} {l:List (List Value)} (h:RowC e sz w v l) {i:Nat} {x:List Value} (hi:l[i]? =some x):∃g off cap,v= .slice (some ⟨g,off,none⟩) l.length cap/\l.length<=cap/\cap<=maxLen/\g < w.heap.size/\(∀j u,x[j]? =some u->w.cell? ⟨g,off+i*sz+j,none⟩=some u)/\∀o,w.frozen? ⟨g,o,none⟩=false:=by
 obtain ⟨h0,h⟩:=h;rcases h with ⟨_,rfl⟩ | ⟨g,off,cap,cur,hv,hg,h1,h2,h3,h4⟩
 ·simp at hi
 refine ⟨g,off,cap,hv,h1,h2,zO hg,fun j u hj=>?_,(zD hg).2⟩;have hx:=(h0 x (zmg hi)).1;have hjl:=(zge hj).1;rw [cell_of_row w g _ cur _ (0,0) hg,Nat.add_assoc];exact h4 _ u (by rw [z5e (fun y hy=>(h0 y hy).1) hi (by omega)];exact hj)
theorem RowC.here {w:World} {g off n cap:Nat} {l:List (List Value)} (h:RowC e sz w (.slice (some ⟨g,off,none⟩) n cap) l) {i:Nat} {x:List Value} (hi:l[i]? =some x):n=l.length/\n<=cap/\cap<=9223372036854775807/\(∀j u,x[j]? =some u->w.cell? ⟨g,off+i*sz+j,none⟩=some u)/\∀o,w.frozen? ⟨g,o,none⟩=false:=by
 obtain ⟨_,_,_,hv,h1,h2,_,hc,hf⟩:=h.at hi;simp only [Value.slice.injEq,Option.some.injEq,Addr.mk.injEq,and_true] at hv;obtain ⟨⟨rfl,rfl⟩,rfl,rfl⟩:=hv;unfold maxLen at h2;exact ⟨rfl,h1,h2,hc,hf⟩
theorem RowC.write {w:World} {g off len cap:Nat} {l:List (List Value)} (h:RowC e sz w (.slice (some ⟨g,off,none⟩) len cap) l) (hsz:0 < sz) {i j:Nat} {x:List Value} (hi:l[i]? =some x) (hj:j < sz) (u:Value) (hu:u.oneCell'=true):RowC e sz (w.setCell ⟨g,off+i*sz+j,none⟩ u) (.slice (some ⟨g,off,none⟩) len cap) (l.set i (x.set j u)):=by
 obtain ⟨h0,h⟩:=h;have hx:=h0 x (zmg hi);have hil:=(zge hi).1;have h0':∀y∈l.set i (x.set j u),y.length=sz/\∀z∈y,z.oneCell'=true:=by
  intro y hy;rcases List.mem_or_eq_of_mem_set hy with hy | rfl
  ·exact h0 y hy
  ·refine ⟨by rw [List.length_set];exact hx.1,fun z hz=>?_⟩;rcases List.mem_or_eq_of_mem_set hz with hz | rfl
   ·exact hx.2 z hz
   ·exact hu
 refine ⟨h0',.inr ?_⟩;rcases h with ⟨h,_⟩ | ⟨g',off',cap',cur,hv,hg,h1,h2,h3,h4⟩
 ·cases h
 simp only [Value.slice.injEq,Option.some.injEq,Addr.mk.injEq,and_true] at hv;obtain ⟨⟨rfl,rfl⟩,rfl,rfl⟩:=hv;refine ⟨g,off,cap,cur.setIfInBounds (off+i*sz+j) u,by rw [List.length_set],zI _ hg rfl,by rw [List.length_set];exact h1,h2,by rw [Array.size_setIfInBounds];exact h3,fun q z hq=>?_⟩;obtain ⟨a,b,y,rfl,hb,ha,hz⟩:=zHv hsz (fun y hy=>(h0' y hy).1) hq;rw [Array.getElem?_setIfInBounds];have hfit:i*sz+sz<=l.length*sz:=by
  have:=Nat.mul_le_mul_right sz (show i+1<=l.length by omega);rw [Nat.add_mul] at this;omega
 have hcap:l.length*sz<=cap*sz:=Nat.mul_le_mul_right _ h1;by_cases hai:a=i
 ·subst hai;rw [List.getElem?_set_self hil] at ha;obtain rfl:=zsi ha;by_cases hbj:b=j
  ·subst hbj;rw [if_pos (by omega),if_pos (by omega)];rw [List.getElem?_set_self (by rw [hx.1];exact hb)] at hz;exact hz
  rw [if_neg (by omega)];rw [List.getElem?_set_ne (by omega)] at hz;exact h4 _ z (by rw [z5e (fun y hy=>(h0 y hy).1) hi hb];exact hz)
 rw [List.getElem?_set_ne (Ne.symm hai)] at ha;have:off+i*sz+j≠off+(a*sz+b):=by
  intro h9;rcases Nat.lt_or_gt_of_ne hai with h8 | h8
  ·have:=Nat.mul_le_mul_right sz (show a+1<=i by omega);rw [Nat.add_mul] at this;omega
  ·have:=Nat.mul_le_mul_right sz (show i+1<=a by omega);rw [Nat.add_mul] at this;omega
 rw [if_neg this];exact h4 _ z (by rw [z5e (fun y hy=>(h0 y hy).1) ha hb];exact hz)
end
end
end Go.Proofs.YtdggplhnfhcieaaGreatDoor
