/- No condition. -/
import Derived.Laws.Cover3
import Derived.Test.YtdggplhnfhcieaaGreatDoorX11
set_option linter.all false
set_option maxRecDepth 100000
set_option maxHeartbeats 16000000
section
namespace Go.Proofs.YtdggplhnfhcieaaGreatDoor.Ro
open Go.RowKit Go.Deep
abbrev LtM (a b:Member):Prop:=ltS a.name b.name=true
def zEb (p:Option ByteArray) (n:ByteArray):Bool:=match p with
 | none=>true
 | some q=>ltS q n
theorem zJt (p:Option ByteArray) (m:Member) (r:List Member):z2n p (m :: r)=if ZA m.name then (if isOf m.role then (if zEb p m.name then z2n (some m.name) r else false) else false) else false:=by
 cases p<;>rfl
theorem zGe:∀(l:List Member) (p:Option ByteArray),z2n p l=true↔(∀m∈l,ZA m.name=true/\isOf m.role=true)/\l.Pairwise LtM/\∀q,p=some q->∀m∈l,ltS q m.name=true
 | [],p=>by simp [z2n]
 | m :: r,p=>by
  rw [zJt];have ih:=zGe r (some m.name);have key:zEb p m.name=true↔∀q,p=some q->ltS q m.name=true:=by cases p<;>simp [zEb]
  constructor
  ·intro h;by_cases h1:ZA m.name=true
   ·rw [if_pos h1] at h;by_cases h2:isOf m.role=true
    ·rw [if_pos h2] at h;by_cases h3:zEb p m.name=true
     ·rw [if_pos h3] at h;obtain ⟨i1,i2,i3⟩:=ih.1 h;refine ⟨fun x hx=>?_,List.pairwise_cons.2 ⟨fun x hx=>i3 _ rfl x hx,i2⟩,fun q hq x hx=>?_⟩
      ·rcases List.mem_cons.1 hx with rfl | hx
       ·exact ⟨h1,h2⟩
       ·exact i1 x hx
      ·rcases List.mem_cons.1 hx with rfl | hx
       ·exact key.1 h3 q hq
       ·exact YP (key.1 h3 q hq) (i3 _ rfl x hx)
     ·rw [if_neg h3] at h;cases h
    ·rw [if_neg h2] at h;cases h
   ·rw [if_neg h1] at h;cases h
  ·rintro ⟨h1,h2,h3⟩;obtain ⟨a1,a2⟩:=h1 m (by simp);obtain ⟨b1,b2⟩:=List.pairwise_cons.1 h2;rw [if_pos a1,if_pos a2,if_pos (key.2 fun q hq=>h3 q hq m (by simp))];exact ih.2 ⟨fun x hx=>h1 x (by simp [hx]),b2,fun q hq x hx=>by cases hq;exact b1 x hx⟩
theorem zJu (n:ByteArray):∀l:List Member,zB1 n l=true↔∀m∈l,ltS m.name n=true
 | []=>by simp [zB1]
 | m :: r=>by
  have ih:=zJu n r;rw [zB1];by_cases h:ltS m.name n=true
  ·rw [if_pos h,ih];simp [h]
  ·rw [if_neg h];simp [h]
theorem z80:∀l:List Member,(∀m∈l,isOf m.role=true)->z07 l=own4 l
 | [],_=>rfl
 | m :: r,h=>by
  have ih:=z80 r fun x hx=>h x (by simp [hx])
  obtain ⟨_,_⟩:=z6p (h m (by simp));unfold z07 at ih⊢;rw [withAt_cons,own4,<-ih];by_cases h4:m.role=4
  ·rw [if_pos (by omega),if_pos (by simp [h4])];simp;omega
  ·rw [if_neg (by omega),if_neg (by simpa using h4)];omega
structure RightL (l:List Member):Prop where
 each:∀m∈l,ZA m.name=true/\isOf m.role=true
 sorted:l.Pairwise LtM
 few:l.length<=8
 own:0 < own4 l
theorem right_iff (l:List Member):rightOf l=true↔RightL l:=by
 unfold rightOf;simp only [qBqx,decide_eq_true_eq,zGe];constructor
 ·rintro ⟨⟨h1,h2,_⟩,h3,h4⟩;exact ⟨h1,h2,h3,by rw [<-z80 l fun m hm=>(h1 m hm).2];exact h4⟩
 rintro ⟨h1,h2,h3,h4⟩;exact ⟨⟨h1,h2,fun q hq=>by cases hq⟩,h3,by rw [z80 l fun m hm=>(h1 m hm).2];exact h4⟩
theorem RightL.owners {l:List Member} (h:RightL l):z07 l=own4 l:=z80 l fun m hm=>(h.each m hm).2
theorem zKv {l:List Member} (h:l.Pairwise LtM):∀{m:Member} {r:List Member},l=m :: r->∀x∈r,eqS x.name m.name=false:=by
 intro m r e x hx;subst e;exact z4m.2 fun e=>z5p ((List.pairwise_cons.1 h).1 x hx) e.symm
theorem of_pos {l:List Member} (h:∀m∈l,isOf m.role=true) (name:ByteArray):(z2r l name < 0/\ofOf l name=0)\/(0<=z2r l name/\1<=ofOf l name/\ofOf l name<=4):=by
 rcases atOf_cases name l 0 with ⟨h1,h2⟩ | ⟨i,x,h1,h2,h3,h4⟩
 ·left;exact ⟨by rw [show z2r l name= -1 from h1];decide,h2⟩
 right;obtain ⟨_,_⟩:=z6p (h x (zmg h2));exact ⟨by rw [show z2r l name=_ from h1];omega,by omega,by omega⟩
theorem z5g (name:ByteArray) (role:Int):∀l:List Member,withR name role true l=l.filter fun m=>!eqS m.name name
 | []=>rfl
 | m :: r=>by
  rw [withR,show (true || leS name m.name)=true from rfl,z5g name role r,List.filter_cons];cases h:eqS m.name name<;>simp
theorem z6h {name:ByteArray} {l:List Member} (h:∀x∈l,eqS x.name name=false):(l.filter fun m=>!eqS m.name name)=l:=
 List.filter_eq_self.2 fun x hx=>by rw [h x hx];rfl
theorem erase_with {name:ByteArray}:∀{l:List Member} {i:Nat} {x:Member},l.Pairwise LtM->l[i]? =some x->eqS x.name name=true->l.eraseIdx i=withOf l name 0
 | [],i,x,_,h,_=>by simp at h
 | m :: r,0,x,hp,h,hx=>by
  simp at h;subst h;have e:=yV.1 hx;subst e;rw [withOf,show ((0:Int)==0)=true from rfl,z5g,List.filter_cons,hx,List.eraseIdx_cons_zero]
  exact (z6h (zKv hp rfl)).symm
 | m :: r,i+1,x,hp,h,hx=>by
  have ih:=erase_with (List.pairwise_cons.1 hp).2 (by simpa using h) hx;have hm:eqS m.name name=false:=by
   rw [<-yV.1 hx];exact z4m.2 (z5p ((List.pairwise_cons.1 hp).1 x (zmg (by simpa using h))))
  rw [withOf,show ((0:Int)==0)=true from rfl,z5g] at ih⊢;rw [List.eraseIdx_cons_succ,List.filter_cons,hm,ih];rfl
theorem zGf {a b:ByteArray} (h:ltS b a=true):leS a b=false:=by
 unfold leS;rw [z3h h,z4m.2 (z5p h).symm];rfl
theorem zDh {a b:ByteArray} (h:ltS b a=false):leS a b=true:=by
 unfold leS;rcases z18 a b with h1 | h1 | h1
 ·rw [h1];rfl
 ·rw [h1,yV.2 rfl];simp
 rw [h] at h1;cases h1
theorem zGg {name:ByteArray} {n:Int}:∀{l:List Member} {i:Nat} {x:Member},l.Pairwise LtM->l[i]? =some x->eqS x.name name=true->l.set i ⟨x.name,n⟩=withR name n false l
 | [],i,x,_,h,_=>by simp at h
 | m :: r,0,x,hp,h,hx=>by
  simp at h;subst h;have e:=yV.1 hx;subst e;rw [withR,hx,zDh (YV _),show (false || true)=true from rfl,z5g,z6h (zKv hp rfl)]
  rfl
 | m :: r,i+1,x,hp,h,hx=>by
  have ih:=zGg (n:=n) (List.pairwise_cons.1 hp).2 (by simpa using h) hx;have hlt:=(List.pairwise_cons.1 hp).1 x (zmg (by simpa using h));have e:=yV.1 hx;subst e;rw [withR,zGf hlt,z4m.2 (z5p hlt),List.set_cons_succ,ih];rfl
theorem set_with {name:ByteArray} {n:Int} {l:List Member} {i:Nat} {x:Member} (hn:n≠0) (hp:l.Pairwise LtM) (h:l[i]? =some x) (hx:eqS x.name name=true):l.set i ⟨x.name,n⟩=withOf l name n:=by
 rw [withOf,show (n==0)=false from beq_eq_false_iff_ne.2 hn];exact zGg hp h hx
theorem zDi {name:ByteArray} {n:Int}:∀{l:List Member},l.Pairwise LtM->(∀x∈l,eqS x.name name=false)->(withR name n false l).Pairwise LtM/\∀y,y∈withR name n false l↔y=⟨name,n⟩\/y∈l
 | [],_,_=>by simp [withR]
 | m :: r,hp,hd=>by
  obtain ⟨p1,p2⟩:=List.pairwise_cons.1 hp;obtain ⟨i1,i2⟩:=zDi (n:=n) p2 fun x hx=>hd x (by simp [hx])
  have hm:=hd m (by simp);rw [withR,hm];cases hle:leS name m.name
  ·have hlt:ltS m.name name=true:=by
    rcases z18 m.name name with h | h | h
    ·exact h
    ·rw [yV.2 h] at hm;cases hm
    ·rw [zDh (z3h h)] at hle;cases hle
   simp only [Bool.not_false,Bool.and_false,Bool.false_eq_true,if_false,List.nil_append,List.singleton_append,Bool.or_false,List.pairwise_cons,qLcx];refine ⟨⟨fun y hy=>?_,i1⟩,fun y=>?_⟩
   ·rcases (i2 y).1 hy with rfl | hy
    ·exact hlt
    ·exact p1 y hy
   ·rw [i2 y];constructor
    ·rintro (h | h | h)
     ·exact .inr (.inl h)
     ·exact .inl h
     ·exact .inr (.inr h)
    ·rintro (h | h | h)
     ·exact .inr (.inl h)
     ·exact .inl h
     ·exact .inr (.inr h)
  ·have hlt:ltS name m.name=true:=by
    rcases z18 m.name name with h | h | h
    ·rw [zGf h] at hle;cases hle
    ·rw [yV.2 h] at hm;cases hm
    ·exact h
   rw [show (false || true)=true from rfl,z5g,z6h fun x hx=>hd x (by simp [hx])];simp only [Bool.not_false,Bool.and_true,if_true,Bool.false_eq_true,if_false,List.singleton_append,List.pairwise_cons,qLcx];refine ⟨⟨fun y hy=>?_,p1,p2⟩,fun y=>trivial⟩;rcases hy with rfl | hy
   ·exact hlt
   ·exact YP hlt (p1 y hy)
theorem zEc:∀{l r:List Member},l.Pairwise LtM->r.Pairwise LtM->(∀y,y∈l↔y∈r)->l=r
 | [],[],_,_,_=>rfl
 | [],b :: r,_,_,h=>by have:=(h b).2 (by simp);simp at this
 | a :: l,[],_,_,h=>by have:=(h a).1 (by simp);simp at this
 | a :: l,b :: r,hl,hr,h=>by
  obtain ⟨l1,l2⟩:=List.pairwise_cons.1 hl;obtain ⟨r1,r2⟩:=List.pairwise_cons.1 hr;have irr:∀x:Member,¬LtM x x:=fun x hx=>by have:=YV x.name;rw [show ltS x.name x.name=true from hx] at this;cases this
  have e:a=b:=by
   rcases List.mem_cons.1 ((h a).1 (by simp)) with e | e
   ·exact e
   ·rcases List.mem_cons.1 ((h b).2 (by simp)) with e' | e'
    ·exact e'.symm
    ·exact absurd (YP (l1 b e') (r1 a e)) (irr a)
  subst e;have:l=r:=zEc l2 r2 fun y=>by
   have hy:=h y;simp only [qLcx] at hy;constructor
   ·intro k;rcases hy.1 (.inr k) with e | e
    ·subst e;exact absurd (l1 y k) (irr y)
    ·exact e
   ·intro k;rcases hy.2 (.inr k) with e | e
    ·subst e;exact absurd (r1 y k) (irr y)
    ·exact e
  rw [this]
theorem share_with {name:ByteArray} {n:Int} {l l':List Member} (hn:n≠0) (hp:l.Pairwise LtM) (hd:∀x∈l,eqS x.name name=false) (h1:l'.Perm (l++[⟨name,n⟩])) (h2:∀(i j:Nat) (x y:Member),i < j->l'[i]? =some x->l'[j]? =some y->ltS y.name x.name=false):l'=withOf l name n:=by
 rw [withOf,show (n==0)=false from beq_eq_false_iff_ne.2 hn];obtain ⟨i1,i2⟩:=zDi (n:=n) hp hd;refine zEc ?_ i1 fun y=>?_
 ·
  have hnd:(l++[(⟨name,n⟩:Member)]).Pairwise fun a b:Member=>eqS a.name b.name=false:=by
   rw [List.pairwise_append];refine ⟨hp.imp fun h=>z4m.2 (z5p h),by simp,fun a ha b hb=>?_⟩;simp at hb;subst hb;exact hd a ha
  have hnd':l'.Pairwise fun a b:Member=>eqS a.name b.name=false:=(List.Perm.pairwise_iff (fun {a b} h=>by
   rw [z4m] at h⊢;exact fun e=>h e.symm) h1).2 hnd
  rw [List.pairwise_iff_getElem] at hnd'⊢;intro i j hi hj hij;have a1:=hnd' i j hi hj hij;have a2:=h2 i j _ _ hij (qLgx hi) (qLgx hj);rcases z18 l'[i].name l'[j].name with h | h | h
  ·exact h
  ·rw [yV.2 h] at a1;cases a1
  rw [h] at a2;cases a2
 rw [i2 y,h1.mem_iff,List.mem_append];simp only [List.mem_singleton];exact Or.comm
theorem of_none {name:ByteArray}:∀{l:List Member},(∀m∈l,isOf m.role=true)->ofOf l name=0->∀x∈l,eqS x.name name=false
 | [],_,_,x,hx=>by cases hx
 | m :: r,h,h0,x,hx=>by
  rw [ofOf] at h0;cases hm:eqS m.name name
  ·rw [hm] at h0;rcases List.mem_cons.1 hx with rfl | hx
   ·exact hm
   ·exact of_none (fun y hy=>h y (by simp [hy])) h0 x hx
  ·rw [hm] at h0;have:=z6p (h m (by simp));simp only [if_true] at h0;omega
end Go.Proofs.YtdggplhnfhcieaaGreatDoor.Ro
end
section
namespace Go.Proofs.YtdggplhnfhcieaaGreatDoor.Ro
open Go.RowKit Go.Deep
def zDj:Int->List Int->Int
 | m,[]=>m
 | m,x :: r=>zDj (max m x) r
theorem zKw {S:Nat->Prop} {w:World} {A:Option Addr} {l:List Int} {k:Nat} (s:SlAt 1 zHn S w A l) (hk:k < l.length):
  ∃x b o,l.drop k=x :: l.drop (k+1)/\A=some ⟨b,o,none⟩/\w.cell? ⟨b,o+k,none⟩=some (.int .i64 x)/\I64 x/\l[k]? =some x:=by
 obtain ⟨x,hx,hd,_⟩:=z5z hk;obtain ⟨b,o,_,hA,_,_,hc,hR⟩:=s k _ hx;obtain ⟨rfl,h64⟩:=hR;have:=hc 0 _ rfl;rw [show k*1+0=k by omega] at this;exact ⟨x,b,o,hd,hA,this,h64,hx⟩
theorem zSp (a:Int) (r:List Int) (v:Value) (w:World) (S:Nat->Prop) (h:Sl 1 zHn S w v (a :: r)):
  Calls Tryz.prog 194 #[v] w fun e w'=>e= .returned (.int .i64 (zDj a r))/\w=w':=by
 obtain ⟨_,_,rfl,hl,hc,hn,hs⟩:=h;unfold maxLen at hc;have hlen:(a :: r).length=r.length+1:=rfl;obtain ⟨_,_,_,d0,rfl,c0,_,g0⟩:=zKw hs (k:=0) (by simp);simp only [List.getElem?_cons_zero,Option.some.injEq] at g0;subst g0;rw [Nat.add_zero] at c0;rw [hlen] at hl hn⊢;clear d0;go_enter Tryz.func194,Tryz.ntmps194
 go_wp2;go_loop [3,4] (fun m i=>∃(k:Nat) (q:Int),k<=r.length/\i= .int .i64 ((k+1:Nat):Int)/\m= .int .i64 q/\zDj q (r.drop k)=zDj a r) (fun _ i=>r.length+1 - (intOf i).toNat)
 case atStart=>exact ⟨0,a,by omega,by go_num,rfl,by simp⟩
 obtain ⟨k,q,_,rfl,rfl,E⟩:=hrel;by_cases hlt:k < r.length
 ·obtain ⟨x,_,_,xd,xe,_,_,xg⟩:=zKw hs (k:=k+1) (by simp;omega);simp only [Option.some.injEq,Addr.mk.injEq,and_true] at xe;obtain ⟨rfl,rfl⟩:=xe;have hlt':decide (((k+1:Nat):Int) < ((r.length+1:Nat):Int))=true:=decide_eq_true (by omega);rw [show r.drop k=x :: r.drop (k+1) by simpa using xd,zDj] at E;have EH:=zh E;clear E xd xg;go_wp2;go_round
  case rel=>exact ⟨k+1,_,by omega,by go_num,rfl,EH.out⟩
  case measure=>simp [intOf];omega
 obtain rfl:k=r.length:=by omega
 rw [List.drop_length] at E;have EH:=zh E;clear E;go_wp2;go_ret;exact ⟨by rw [<-EH.out];rfl,rfl⟩
theorem zI9 (l:List Member) (by_:ByteArray) (a:Int) (r:List Int) (v u:Value) (w:World) (S S':Nat->Prop) (h:Sl 2 zY S w v l) (k:Sl 1 zHn S' w u (a :: r)):
  Calls Tryz.prog 171 #[v,.string by_,u] w fun e w'=>e= .returned (.bool (decide (3<=zDj a r) && decide (ofOf l by_ < 4)))/\Below w.heap.size w w':=by
 have cm:=zSp a r u w S' k;have co:=of_any by_ l v w S h;generalize zDj a r=m at cm⊢;generalize ofOf l by_=q at co⊢;clear h k;go_enter Tryz.func171,Tryz.ntmps171
 go_wp2_with (first | (go_at_call 194;refine zcm cm ?_;rintro e _ ⟨rfl,rfl⟩) | (go_at_call 157;refine zcm co ?_;rintro e _ ⟨rfl,_⟩))
 all_goals
  go_ret;exact ⟨ZM (by first | (simp_all;done) | (simp_all;omega)),by go_grown⟩
theorem zHb (w:World) (a:Option Addr) (n c:Nat):(binOp .eql 46 (.slice a n c) (.slice none 0 0)).run Tryz.prog w= .ok (.bool a.isNone) w:=by
 simp only [binOp];simp [run_equal_slice_nil w _ _ a n c Tryz.underlying46]
theorem zOc (l:List Member) (v:Value) (w:World) (S:Nat->Prop) (h:Sl 2 zY S w v l) (hne:0 < l.length) (hl0:l.length<=1000000):
  Calls Tryz.prog 78 #[v] w fun e w'=>(∃v',e= .returned v'/\Grow 87 2 zY (fun _=>False) w' w.heap.size v' l)/\Below w.heap.size w w':=by
 obtain ⟨iMember,hiMember,hzMember,h1Member,h2Member⟩:=info_parts (show (Tryz.prog.info? 87).map (fun i=>(i.zero,i.size,i.bytes))=some (some (.agg #[.string ⟨#[]⟩,.int .i64 0]),2,24) from by kernel_rfl);obtain ⟨_,_,rfl,hl,hc,_,hs⟩:=h;unfold maxLen at hc;obtain ⟨_,b,o,x0k,x0d,x0m,rfl,_,_,x00,x01,x0R,x0ok1,x0ok2⟩:=YW hs hne (Kept.refl w fun _ h=>h);clear x0k x0d x0m x00 x01 x0R x0ok1 x0ok2;have hsl:SlAt 2 zY (z1z (fun _=>False) (w.alloc (.cells #[] 87)) (.slice (some ⟨w.heap.size,0,none⟩) 0 0)) (w.alloc (.cells #[] 87)) (some ⟨b,o,none⟩) l:=
  hs.keep ZH (by decide) (fun b hb hl=>⟨⟨by simp;omega,fun h=>h,fun hb'=>by simp only [Value.ownBlock,Option.some.injEq] at hb';omega⟩,heap_alloc_old _ _ hl⟩)
 clear hs;have q22:=zHb;go_enter Tryz.func78,Tryz.ntmps78
 go_wp2_with (at_builtin;go_loud (refine Y5 (R:=zY) _ rfl (.tmp 5) (.tmp 6) 46 rfl 87 iMember _ 2 24 Tryz.underlying46 hiMember hzMember h1Member h2Member rfl (by decide) ZH w.heap.size (by go_size) _ _ rfl (Grow.empty (heap_alloc_new _ _) (znl _)) _ _ _ rfl _ rfl hsl (by simp;omega) (by decide) ?_);intro v1 w1 g1 gg1 go1;rw [List.nil_append] at g1;obtain ⟨_,_,_,rfl,hn1⟩:=g1.shape';clear hn1)
 go_ret;exact ⟨⟨_,rfl,g1⟩,Below.grown (Below.alloc zbr (znl _) _) gg1 (by simp) fun b hb=>by have:=zsi (show some w.heap.size=some b from hb);omega⟩
end Go.Proofs.YtdggplhnfhcieaaGreatDoor.Ro
end
section
namespace Go.Proofs.YtdggplhnfhcieaaGreatDoor.Ro
open Go.RowKit Go.Deep
theorem zM3 (w:World) (g o c:Nat) (ty:TypeId) (hc:∀j,j < 2->(w.cell? ⟨g,o+j,none⟩).isSome=true) (hf:∀j,w.frozen? ⟨g,j,none⟩=false):
  (Builtin.clear_ #[46] ty #[.slice (some ⟨g,o,none⟩) 1 c]).run Tryz.prog w= .ok (.tuple #[]) (w.setCells g o [.string ⟨#[]⟩,.int .i64 0]):=by
 have hzc:(Builtin.zeroCells (Value.agg #[.string ⟨#[]⟩,.int .i64 0]).cells 1).toList=[.string ⟨#[]⟩,.int .i64 0]:=by kernel_rfl
 have hst:=run_storeCells_cells (P:=Tryz.prog) g o [.string ⟨#[]⟩,.int .i64 0] 0 w (by simpa using hc) (fun j _=>hf _) (by intro v hv;simp at hv;rcases hv with rfl | rfl<;>rfl);simp only [Nat.add_zero] at hst;have hz:=Tryz.zeroValue87;simp [Builtin.clear_,run_underlying Tryz.underlying46,hz,hzc,hst]
def z6q (l:List Member):List Value:=l.flatMap z0p
theorem z9a:∀l:List Member,(z6q l).length=l.length*2
 | []=>rfl
 | m :: r=>by
  have:=z9a r;unfold z6q at this⊢;rw [List.flatMap_cons,qLax,this,List.length_cons];simp [z0p];omega
theorem zAd:∀(l:List Member) (k j:Nat) (x:Member),l[k]? =some x->j < 2->(z6q l)[k*2+j]? =(z0p x)[j]?
 | [],k,j,x,h,_=>by simp at h
 | m :: r,0,j,x,h,hj=>by
  simp at h;subst h;unfold z6q;rw [List.flatMap_cons,qLlx (by simp [z0p];omega)]
  simp
 | m :: r,k+1,j,x,h,hj=>by
  have:=zAd r k j x (by simpa using h) hj;unfold z6q at this⊢;rw [List.flatMap_cons,qLrx (by simp [z0p];omega),<-this];congr 1;simp [z0p];omega
theorem zM4 (l:List Member):∀u∈z6q l,u.oneCell'=true:=by
 intro u hu;obtain ⟨_,_,hx⟩:=List.mem_flatMap.1 hu;simp [z0p] at hx;rcases hx with rfl | rfl<;>rfl
theorem zM5 {l:List Member} {q:Nat} {u:Value} (h:(z6q l)[q]? =some u):∃k j x,k < l.length/\j < 2/\q=k*2+j/\l[k]? =some x/\(z0p x)[j]? =some u:=by
 have hq:q < l.length*2:=by rw [<-z9a];exact (zge h).1
 obtain ⟨x,hx⟩:∃x,l[q / 2]? =some x:=⟨_,qLgx (show q / 2 < l.length by omega)⟩;have:=zAd l (q / 2) (q % 2) x hx (by omega);rw [show q / 2*2+q % 2=q by omega] at this;exact ⟨q / 2,q % 2,x,by omega,by omega,by omega,hx,by rw [<-this];exact h⟩
theorem zM6 (l:List Member) (i:Nat) (hi:i < l.length) (hl0:l.length<=1000000) (v:Value) (w:World) (B:Nat->Prop) (base:Nat) (h:Grow 87 2 zY B w base v l):
  Calls Tryz.prog 175 #[v,.int .i64 i,.int .i64 ((i:Int)+1)] w fun e w'=>(∃v',e= .returned v'/\Sl 2 zY (fun b=>base<=b) w' v' (l.eraseIdx i))/\Below base w w':=by
 obtain ⟨_,h2,_,⟨_,h4⟩,h5⟩:=h;rcases h4 with ⟨rfl,h0⟩ | ⟨g,cap,cur,rfl,hbg,hg,hnc,hcm,hcs,htk⟩
 ·omega
 unfold maxLen at hcm;have hcell:∀k x,l[k]? =some x->(∀j y,(z0p x)[j]? =some y->w.cell? ⟨g,k*2+j,none⟩=some y)/\x.name.size<=140737488355328/\I64 x.role:=by
  intro k x hx;obtain ⟨_,_,y2,y3⟩:=h5 k x hx;obtain ⟨rfl,y4⟩:=z43 y3;refine ⟨fun j y hj=>?_,y4⟩;have hx':=y2 j y hj;rw [cell_of_row w g _ cur _ (0,0) hg];rw [<-htk,List.getElem?_take] at hx';split at hx'
  ·simpa using hx'
  ·cases hx'
 have hfz:∀j,w.frozen? ⟨g,j,none⟩=false:=(zD hg).2;have hlt:=zO hg;have hsome:∀q,q < cap*2->(w.cell? ⟨g,q,none⟩).isSome=true:=by
  intro q hq;rw [cell_of_row w g _ cur _ (0,0) hg,Array.getElem?_eq_getElem (by omega)];rfl
 obtain ⟨news,hnews⟩:∃news,news=z6q (l.drop (i+1)):=⟨_,rfl⟩;have hlen:news.length=(l.length - (i+1))*2:=by rw [hnews,z9a,List.length_drop]
 obtain ⟨A,_,hsrc⟩:∃A:Addr,(if cap=i+1 then some (⟨g,0,none⟩:Addr) else some ⟨g,(i+1)*2,none⟩)=some A/\Hid (∀t u,news[t]? =some u->w.drew.cell? (A.add t)=some u):=by
  by_cases hc:cap=i+1
  ·refine ⟨⟨g,0,none⟩,by simp [hc],fun t u hu=>?_⟩;have:news=[]:=List.eq_nil_of_length_eq_zero (by omega);rw [this] at hu;simp at hu
  ·refine ⟨⟨g,(i+1)*2,none⟩,by simp [hc],fun t u hu=>?_⟩;rw [hnews] at hu;obtain ⟨k,j,x,_,hj,rfl,hx,hu⟩:=zM5 hu;rw [List.getElem?_drop] at hx;have:=(hcell _ x hx).1 j u hu;rw [Addr.add_lit,show (i+1)*2+(k*2+j)=(i+1+k)*2+j by omega];exact this
 have s1:Hid (news.length=(l.length - (i+1))*2):=hlen;have s2:Hid (∀u∈news,u.oneCell'=true):=by rw [hnews];exact zM4 _
 have s3:Hid (∀t,t < news.length->(w.drew.cell? ⟨g,0+i*2+t,none⟩).isSome=true/\w.drew.frozen? ⟨g,0+i*2+t,none⟩=false):=by
  intro t ht;exact ⟨hsome _ (by omega),hfz _⟩
 obtain ⟨W1,hW1⟩:∃W1,W1=w.drew.setCells g (0+i*2) news:=⟨_,rfl⟩;have hW:Hid (W1=w.drew.setCells g (0+i*2) news):=hW1;have hf1:∀j,W1.frozen? ⟨g,j,none⟩=false:=fun j=>by rw [hW1,World.frozen?_setCells];exact hfz j
 have hs1:∀q,q < cap*2->(W1.cell? ⟨g,q,none⟩).isSome=true:=fun q hq=>by rw [hW1];exact World.isSome_setCells g news _ _ _ (hsome q hq)
 have hcl:∀ty,(Builtin.clear_ #[46] ty #[.slice (some ⟨g,(i+(l.length - (i+1)))*2,none⟩) (l.length - (i+(l.length - (i+1)))) (cap - (i+(l.length - (i+1))))]).run Tryz.prog W1= .ok (.tuple #[]) (W1.setCells g ((i+(l.length - (i+1)))*2) [.string ⟨#[]⟩,.int .i64 0]):=
  fun ty=>by rw [show l.length - (i+(l.length - (i+1)))=1 by omega];exact zM3 W1 g _ _ ty (fun j hj=>hs1 _ (by omega)) hf1
 have hend:Hid (∀k x,(l.eraseIdx i)[k]? =some x->(∀j y,(z0p x)[j]? =some y->(W1.setCells g ((i+(l.length - (i+1)))*2) [.string ⟨#[]⟩,.int .i64 0]).cell? ⟨g,k*2+j,none⟩=some y)/\x.name.size<=140737488355328/\I64 x.role):=by
  intro k x hx;have hkl:k < l.length - 1:=by
   have:=(zge hx).1;rwa [List.length_eraseIdx_of_lt hi] at this
  rw [List.getElem?_eraseIdx] at hx;by_cases hki:k < i
  ·rw [if_pos hki] at hx;obtain ⟨c1,c2⟩:=hcell k x hx;refine ⟨fun j y hj=>?_,c2⟩;have hj2:j < 2:=(zge hj).1;rw [World.cell?_setCells_out _ _ _ _ _ (fun _ _=> .inl (by show k*2+j < _;omega)),hW1,World.cell?_setCells_out _ _ _ _ _ (fun _ _=> .inl (by show k*2+j < _;omega))];exact c1 j y hj
  ·rw [if_neg hki] at hx;obtain ⟨c1,c2⟩:=hcell (k+1) x hx;refine ⟨fun j y hj=>?_,c2⟩;have hj2:j < 2:=(zge hj).1;rw [World.cell?_setCells_out _ _ _ _ _ (fun _ _=> .inl (by show k*2+j < _;omega)),hW1];have hq:(k - i)*2+j < news.length:=by omega
   have h9:=World.cell?_setCells_in g news (0+i*2) w.drew (fun j hj=>(s3.out j hj).1) ((k - i)*2+j) hq;rw [show 0+i*2+((k - i)*2+j)=k*2+j by omega] at h9;rw [h9];have h8:(l.drop (i+1))[k - i]? =some x:=by rw [List.getElem?_drop,show i+1+(k - i)=k+1 by omega];exact hx
   have h7:=zAd _ _ j x h8 hj2;rw [<-hnews,qLgx hq] at h7;rw [h7,hj]
 have hbel:Hid (Below base w (W1.setCells g ((i+(l.length - (i+1)))*2) [.string ⟨#[]⟩,.int .i64 0])):=by
  have hsz:∀(vs:List Value) (o:Nat) (w:World),(w.setCells g o vs).heap.size=w.heap.size:=by
   intro vs
   induction vs with
   | nil=>intro o w;rfl
   | cons v r ih=>intro o w;rw [World.setCells,ih];simp
  have hbk:∀(vs:List Value) (o:Nat) (w:World) (b:Nat),b≠g->(w.setCells g o vs).heap[b]? =w.heap[b]? :=by
   intro vs
   induction vs with
   | nil=>intro o w b _;rfl
   | cons v r ih=>intro o w b hb;rw [World.setCells,ih _ _ _ hb,Below.heap_setCell _ _ _ _ hb]
  have hos:∀(vs:List Value) (o:Nat) (w:World),(w.setCells g o vs).os=w.os/\(w.setCells g o vs).tape=w.tape/\(w.setCells g o vs).output=w.output:=by
   intro vs
   induction vs with
   | nil=>intro o w;exact ⟨rfl,rfl,rfl⟩
   | cons v r ih=>intro o w;rw [World.setCells];obtain ⟨a,b,c⟩:=ih (o+1) (w.setCell ⟨g,o,none⟩ v);exact ⟨a.trans rfl,b.trans rfl,c.trans rfl⟩
  obtain ⟨a1,a2,a3⟩:=hos [.string ⟨#[]⟩,.int .i64 0] ((i+(l.length - (i+1)))*2) W1;obtain ⟨b1,b2,b3⟩:=hos news (0+i*2) w.drew;rw [<-hW1] at b1 b2 b3;refine ⟨a1.trans b1,a2.trans b2,a3.trans b3,?_,fun b hb=>?_⟩
  ·rw [hsz,hW1,hsz];exact znl _
  ·rw [hbk _ _ _ _ (by omega),hW1,hbk _ _ _ _ (by omega)];rfl
 have hic:i<=cap:=by omega
 have hjc:i+1<=cap:=by omega
 have hb1:(0:Int)<=(i:Int)+1:=by omega
 have hb2:(i:Int)+1<=(l.length:Int):=by omega
 clear hW1 hs1 hf1 hsome hfz hcell hnews hlen h5 h2 htk hcs hg;obtain ⟨iMember,hiMember,_,h1Member,_⟩:=info_parts (show (Tryz.prog.info? 87).map (fun i=>(i.zero,i.size,i.bytes))=some (some (.agg #[.string ⟨#[]⟩,.int .i64 0]),2,24) from by kernel_rfl);go_enter Tryz.func175,Tryz.ntmps175
 go_wp2_with fail
 go_region_law (refine step_append_room rfl (.tmp 22) (.tmp 25) 46 rfl 87 iMember 2 Tryz.underlying46 hiMember h1Member g 0 i cap (by simp [Act.eval,Act.put]) A (l.length - (i+1)) (cap - (i+1)) news (by simp [Act.eval,Act.put];try omega) s1.out hsrc.out s2.out (by omega) s3.out ?_;rw [<-hW.out])
 go_wp2;go_ret;refine ⟨⟨.slice (some ⟨g,0,none⟩) (i+(l.length - (i+1))) cap,rfl,⟨some ⟨g,0,none⟩,cap,by rw [List.length_eraseIdx_of_lt hi,show l.length - 1=i+(l.length - (i+1)) by omega],by rw [List.length_eraseIdx_of_lt hi];omega,by unfold maxLen;omega,by rw [List.length_eraseIdx_of_lt hi];omega,fun k x hx=>?_⟩⟩,hbel.out⟩;obtain ⟨e1,e2⟩:=hend.out k x hx;exact ⟨g,0,z0p x,rfl,hbg,rfl,fun j y hj=>by rw [Nat.zero_add];exact e1 j y hj,rfl,e2⟩
end Go.Proofs.YtdggplhnfhcieaaGreatDoor.Ro
end
section
namespace Go.Proofs.YtdggplhnfhcieaaGreatDoor.Ro
open Go.RowKit Go.Deep
theorem zOd {B:Nat->Prop} {base:Nat} {v:Value} {l:List Member} {w:World} (h:Grow 87 2 zY B w base v l) (h0:0 < l.length) (h12:l.length<=12):
  Calls Tryz.prog 172 #[v,.func (.func 173) #[] #[]] w fun e w'=>
   e= .returned (.tuple #[])/\Below base w w'/\∃l',l'.Perm l/\(∀(i j:Nat) (x y:Member),i < j->l'[i]? =some x->l'[j]? =some y->ltS y.name x.name=false)/\Sl 2 zY (fun _=>True) w' v l':=by
 obtain ⟨_,_,_,⟨_,h4⟩,h5⟩:=h;rcases h4 with ⟨rfl,h0⟩ | ⟨g,cap,cur,rfl,hbg,hg,hnc,hcm,hcs,htk⟩
 ·omega
 have hc:∀k x,l[k]? =some x->(∀j y,(z0p x)[j]? =some y->cur[k*2+j]? =some y)/\x.name.size<=140737488355328/\I64 x.role:=by
  intro k x hx;obtain ⟨_,_,y2,y3⟩:=h5 k x hx;obtain ⟨rfl,y4⟩:=z43 y3;refine ⟨fun j y hj=>?_,y4⟩;have hx':=y2 j y hj;rw [<-htk,List.getElem?_take] at hx';split at hx'
  ·simpa using hx'
  ·cases hx'
 exact zQk l g cap base w cur _ hg hbg h12 hnc hcm (fun x hx=>by obtain ⟨k,hk⟩:=List.getElem?_of_mem hx;exact (hc k x hk).2) fun i x hx=>(hc i x hx).1
structure Cs (l:List Member) (v:Value) (w:World):Prop where
 right:∀W,Below w.heap.size w W->Calls Tryz.prog 168 #[v] W fun e w'=>e= .returned (.bool (rightOf l))/\Below w.heap.size w w'
 of:∀name W,Below w.heap.size w W->Calls Tryz.prog 157 #[v,.string name] W fun e w'=>e= .returned (.int .i64 (ofOf l name))/\Below w.heap.size w w'
 at_:∀name W,Below w.heap.size w W->Calls Tryz.prog 170 #[v,.string name] W fun e w'=>e= .returned (.int .i64 (z2r l name))/\Below w.heap.size w w'
 owners:∀W,Below w.heap.size w W->Calls Tryz.prog 174 #[v] W fun e w'=>e= .returned (.int .i64 (z07 l:Nat))/\Below w.heap.size w w'
 high1:∀by_ n W T,I64 n->Below w.heap.size w W->Calls Tryz.prog 171 #[v,.string by_,.slice (some ⟨W.heap.size,0,none⟩) 1 1] (W.alloc (.cells #[.int .i64 n] T)) fun e w'=>e= .returned (.bool (decide (3<=n) && decide (ofOf l by_ < 4)))/\Below w.heap.size w w'
 high2:∀by_ n m W T,I64 n->I64 m->Below w.heap.size w W->Calls Tryz.prog 171 #[v,.string by_,.slice (some ⟨W.heap.size,0,none⟩) 2 2] (W.alloc (.cells #[.int .i64 n,.int .i64 m] T)) fun e w'=>e= .returned (.bool (decide (3<=max n m) && decide (ofOf l by_ < 4)))/\Below w.heap.size w w'
 clone:0 < l.length->∀W,Below w.heap.size w W->Calls Tryz.prog 78 #[v] W fun e w'=>(∃v',e= .returned v'/\Grow 87 2 zY (fun _=>False) w' w.heap.size v' l)/\Below w.heap.size w w'
theorem Grow.base_mono {α:Type} {e:TypeId} {sz:Nat} {R:Rp α} {B:Nat->Prop} {w:World} {base base':Nat} {v:Value} {l:List α} (h:Grow e sz R B w base v l) (hb:base'<=base):Grow e sz R B w base' v l:=by
 obtain ⟨h1,h2,xs,⟨h3,h4⟩,h5⟩:=h;refine ⟨h1,h2,xs,⟨h3,?_⟩,h5⟩;rcases h4 with h4 | ⟨g,cap,cur,a1,a2,a3⟩
 ·exact .inl h4
 exact .inr ⟨g,cap,cur,a1,by omega,a3⟩
theorem zIa {W:World} {T:TypeId} (ns:List Int) (h:∀n∈ns,I64 n):SlAt 1 zHn (fun _=>True) (W.alloc (.cells (ns.map (Value.int .i64)).toArray T)) (some ⟨W.heap.size,0,none⟩) ns:=by
 intro i x hi;refine ⟨W.heap.size,0,[.int .i64 x],rfl,trivial,rfl,fun j y hj=>?_,rfl,h x (zmg hi)⟩;have hj0:j=0:=by have:=(zge hj).1;simpa using this
 subst hj0;simp at hj;subst hj;rw [cell_of_row _ W.heap.size _ _ T (0,0) (heap_alloc_new W _)];simp [hi]
theorem zIb {l:List Member} {v:Value} {w:World} {S:Nat->Prop} (h:Sl 2 zY S w v l) (hl0:l.length<=100000):Cs l v w where
 right W hb:=(zO8 l v W S (h.keep ZH (by decide) (zK hb)) (by omega)).mono fun _ _ hh=>⟨hh.1,zB hb hh.2⟩
 of name W hb:=(of_any name l v W S (h.keep ZH (by decide) (zK hb))).mono fun _ _ hh=>⟨hh.1,zB hb hh.2⟩
 at_ name W hb:=(z52 name l v W S (h.keep ZH (by decide) (zK hb))).mono fun _ _ hh=>⟨hh.1,zB hb hh.2⟩
 owners W hb:=(zEa l v W S (h.keep ZH (by decide) (zK hb)) (by omega)).mono fun _ _ hh=>⟨hh.1,zB hb hh.2⟩
 high1 by_ n W T hn hb:=(zI9 l by_ n [] v _ _ S _ (h.keep ZH (by decide) (zK (hb.alloc hb.size _))) ⟨_,1,rfl,by simp,by decide,by simp,zIa [n] (by simpa using hn)⟩).mono fun _ _ hh=>⟨hh.1,zB (hb.alloc hb.size _) hh.2⟩
 high2 by_ n m W T hn hm hb:=(zI9 l by_ n [m] v _ _ S _ (h.keep ZH (by decide) (zK (hb.alloc hb.size _))) ⟨_,2,rfl,by simp,by decide,by simp,zIa [n,m] (by simpa using ⟨hn,hm⟩)⟩).mono fun _ _ hh=>⟨hh.1,zB (hb.alloc hb.size _) hh.2⟩
 clone h0 W hb:=(zOc l v W S (h.keep ZH (by decide) (zK hb)) h0 (by omega)).mono fun _ _ ⟨⟨v',h1,h2⟩,h3⟩=>⟨⟨v',h1,Grow.base_mono h2 hb.size⟩,zB hb h3⟩
def z7l (r:Bool) (m a n:Int) (len:Nat):Int:=if r=false then 2 else if m < 3 then 40 else if 0<=a then 42 else if 3<=n/\m < 4 then 40 else if 8<=len then 3 else 0
theorem slM_new {S T:Nat->Prop} {w:World} {v:Value} {l:List Member} (h:Sl 2 zY S w v l) (k:∀b,v.ownBlock=some b->T b):Sl 2 zY T w v l:=by
 obtain ⟨A,c,rfl,h1,h2,h3,h4⟩:=h;refine ⟨A,c,rfl,h1,h2,h3,fun i x hx=>?_⟩;obtain ⟨b,o,ys,rfl,_,a2,a3,a4⟩:=h4 i x hx;exact ⟨b,o,ys,rfl,k b rfl,a2,a3,a4⟩
theorem z9b {l:List Member} (h:rightOf l=true):0 < l.length:=by
 unfold rightOf at h;simp only [qBqx,decide_eq_true_eq] at h;have h1:=h.2.2;unfold z07 at h1;have:=z74 l 4;omega
theorem share_any (l:List Member) (by_ name:ByteArray) (n:Int) (hname:name.size<=140737488355328) (hn:I64 n) (v:Value) (w:World) (S:Nat->Prop) (h:Sl 2 zY S w v l) (hl0:l.length<=100000):
  Calls Tryz.prog 138 #[v,.string by_,.string name,.int .i64 n] w fun e w'=>
   (∃v' l' k,e= .returned (.tuple #[v',.int .i64 k])/\k=z7l (rightOf l && (ZA name && isOf n)) (ofOf l by_) (z2r l name) n l.length/\Sl 2 zY (fun b=>w.heap.size<=b) w' v' l'/\
    ((k≠0/\l'=[])\/(k=0/\l'.Perm (l++[⟨name,n⟩])/\∀(i j:Nat) (x y:Member),i < j->l'[i]? =some x->l'[j]? =some y->ltS y.name x.name=false)))/\Below w.heap.size w w':=by
 obtain ⟨iMember,hiMember,hzMember,h1Member,h2Member⟩:=info_parts (show (Tryz.prog.info? 87).map (fun i=>(i.zero,i.size,i.bytes))=some (some (.agg #[.string ⟨#[]⟩,.int .i64 0]),2,24) from by kernel_rfl);have cs:=zIb h hl0;obtain ⟨r,hr⟩:∃r,r=rightOf l:=⟨_,rfl⟩;have hpos:r=true->0 < l.length:=fun e=>z9b (by rw [<-hr,e])
 have cR:=cs.right;have cn:∀W,Calls Tryz.prog 51 #[.string name] W fun e w'=>e= .returned (.bool (ZA name))/\w'=W:=fun W=>zAb name hname _ rfl W
 have ci:∀W,Calls Tryz.prog 169 #[.int .i64 n] W fun e w'=>e= .returned (.bool (isOf n))/\w'=W:=fun W=>zLw n _ rfl W
 have co:=cs.of by_;have ca:=cs.at_ name;have ch:=fun W T=>cs.high1 by_ n W T hn
 have cc:=cs.clone;rw [<-hr] at cR⊢;generalize ZA name=nk at cn⊢;generalize isOf n=ik at ci⊢;generalize ofOf l by_=m at co ch⊢;generalize z2r l name=a at ca⊢;obtain ⟨_,_,rfl,_,hc,_,hs⟩:=h;unfold maxLen at hc;have B0:Below w.heap.size w w:=Below.refl _ _;clear hs cs hr;go_enter Tryz.func138,Tryz.ntmps138
 go_wp2_with (first
  | (go_at_call 168;refine zcm (cR _ (by assumption)) ?_;rintro e _ ⟨rfl,_⟩)
  | (go_at_call 51;refine zcm (cn _) ?_;rintro e _ ⟨rfl,rfl⟩)
  | (go_at_call 169;refine zcm (ci _) ?_;rintro e _ ⟨rfl,rfl⟩)
  | (go_at_call 157;refine zcm (co _ (by assumption)) ?_;rintro e _ ⟨rfl,_⟩)
  | (go_at_call 170;refine zcm (ca _ (by assumption)) ?_;rintro e _ ⟨rfl,_⟩)
  | (go_at_call 171;refine zcm (ch _ _ (by assumption)) ?_;rintro e _ ⟨rfl,_⟩)
  | (go_at_call 78;refine zcm (cc (hpos (by assumption)) _ (by assumption)) ?_;rintro e _ ⟨⟨_,rfl,g7⟩,B7⟩;obtain ⟨_,_,_,rfl,hn7⟩:=g7.shape';clear hn7;have z7:=B7.size;have hb7:=g7.base_le)
  | (at_builtin;go_loud (refine yZ (R:=zY) _ _ rfl (.tmp 46) (.tmp 50) 46 rfl 87 iMember _ 2 24 Tryz.underlying46 hiMember hzMember h1Member h2Member rfl (by decide) ZH w.heap.size (by omega) _ _ rfl g7 _ _ rfl (by simp only [zS]) _ (by intro b hb;exact hb.elim) (zLx hname hn) (by omega) (by decide) ?_);intro v8 w8 g8 gg8 go8;have hb8:=g8.base_le;obtain ⟨_,_,_,rfl,hn8⟩:=g8.shape';clear hn8;go_loud (have B8:Below w.heap.size w w8:=Below.grown B7 gg8 (by omega) fun b hb=>(hb7 b hb).1))
  | (go_at_call 172;refine zcm (zOd g8 (by simp) (by simp;omega)) ?_;rintro e _ ⟨rfl,B9,l9,P9,S9,sl9⟩))
 all_goals go_ret2
 all_goals first
  | exact ⟨⟨_,l9,0,rfl,by unfold z7l;first | (simp_all;done) | (simp_all;omega),slM_new sl9 (fun b hb=>(hb8 b hb).1),.inr ⟨rfl,P9,S9⟩⟩,B8.trans B9⟩
  | exact ⟨⟨_,[],_,rfl,by unfold z7l;first | (simp_all;done) | (simp_all;omega),z0k _ _ _ _,.inl ⟨by decide,rfl⟩⟩,by assumption⟩
theorem zQl {B:Nat->Prop} {base:Nat} {v:Value} {l:List Member} {w:World} (h:Grow 87 2 zY B w base v l) (h0:0 < l.length):
  ∃g cap cur,v= .slice (some ⟨g,0,none⟩) l.length cap/\base<=g/\w.heap[g]? =some (.cells cur 87 (0,0))/\l.length<=cap/\cap<=maxLen/\cur.size=cap*2/\
   ∀k x,l[k]? =some x->(∀j y,(z0p x)[j]? =some y->cur[k*2+j]? =some y)/\x.name.size<=140737488355328/\I64 x.role:=by
 obtain ⟨_,_,_,⟨_,h4⟩,h5⟩:=h;rcases h4 with ⟨rfl,h0⟩ | ⟨g,cap,cur,rfl,hbg,hg,hnc,hcm,hcs,htk⟩
 ·omega
 refine ⟨g,cap,cur,rfl,hbg,hg,hnc,hcm,hcs,fun k x hx=>?_⟩;obtain ⟨_,_,y2,y3⟩:=h5 k x hx;obtain ⟨rfl,y4⟩:=z43 y3;refine ⟨fun j y hj=>?_,y4⟩;have hx':=y2 j y hj;rw [<-htk,List.getElem?_take] at hx';split at hx'
 ·simpa using hx'
 cases hx'
theorem zQm {S:Nat->Prop} {g cap:Nat} {cur:Array Value} {l:List Member} {w:World} {T:TypeId} {i:Nat} {x:Member} {n:Int} (hg:w.heap[g]? =some (.cells cur T (0,0))) (h1:l.length<=cap) (h2:cap<=maxLen) (h3:l.length<=100000) (hs:cur.size=cap*2) (hi:l[i]? =some x) (hn:I64 n)
  (hc:∀k x,l[k]? =some x->(∀j y,(z0p x)[j]? =some y->cur[k*2+j]? =some y)/\x.name.size<=140737488355328/\I64 x.role) (hS:S g):
  Sl 2 zY S (w.setCell ⟨g,i*2+1,none⟩ (.int .i64 n)) (.slice (some ⟨g,0,none⟩) l.length cap) (l.set i ⟨x.name,n⟩):=by
 have hil:=(zge hi).1;have hg':=zI (.int .i64 n) hg (i:=i*2+1) rfl;refine ⟨some ⟨g,0,none⟩,cap,by simp,by simpa using h1,h2,by simp;omega,fun k y hy=>?_⟩;have hkl:k < l.length:=by have:=(zge hy).1;simpa using this
 rw [List.getElem?_set] at hy;by_cases hki:i=k
 ·subst hki;rw [if_pos rfl,if_pos hil] at hy;cases hy
  obtain ⟨c1,c2,_⟩:=hc i x hi;refine ⟨g,0,[.string x.name,.int .i64 n],rfl,hS,rfl,fun j y hj=>?_,rfl,c2,hn⟩;rw [cell_of_row _ g _ _ _ (0,0) hg',Array.getElem?_setIfInBounds];have hj2:j < 2:=(zge hj).1;rcases (show j=0\/j=1 by omega) with h | h<;>subst h
  ·rw [if_neg (by omega),Nat.zero_add];exact c1 0 y hj
  rw [if_pos (by omega),if_pos (by omega)];simpa using hj
 rw [if_neg hki] at hy;obtain ⟨c1,c2⟩:=hc k y hy;refine ⟨g,0,z0p y,rfl,hS,rfl,fun j u hj=>?_,rfl,c2⟩;have hj2:j < 2:=(zge hj).1;rw [cell_of_row _ g _ _ _ (0,0) hg',Array.getElem?_setIfInBounds,if_neg (by omega),Nat.zero_add];exact c1 j u hj
def z7b (r:Bool) (m a its n:Int) (own:Nat):Int:=if r=false then 2 else if m < 3 then 40 else if a < 0 then 35 else if 3<=max n its/\m < 4 then 40 else if its=4/\n < 4/\own=1 then 46 else 0
theorem change_any (l:List Member) (by_ name:ByteArray) (n:Int) (hname:name.size<=140737488355328) (hn:I64 n) (v:Value) (w:World) (S:Nat->Prop) (h:Sl 2 zY S w v l) (hl0:l.length<=100000):
  Calls Tryz.prog 139 #[v,.string by_,.string name,.int .i64 n] w fun e w'=>
   (∃v' l' k,e= .returned (.tuple #[v',.int .i64 k])/\k=z7b (rightOf l && (ZA name && isOf n)) (ofOf l by_) (z2r l name) (ofOf l name) n (z07 l)/\Sl 2 zY (fun b=>w.heap.size<=b) w' v' l'/\
    ((k≠0/\l'=[])\/(k=0/\∃(i:Nat) (x:Member),l[i]? =some x/\eqS x.name name=true/\l'=l.set i ⟨x.name,n⟩)))/\Below w.heap.size w w':=by
 have cs:=zIb h hl0;obtain ⟨r,hr⟩:∃r,r=rightOf l:=⟨_,rfl⟩;have hpos:r=true->0 < l.length:=fun e=>z9b (by rw [<-hr,e])
 have cR:=cs.right;have cn:∀W,Calls Tryz.prog 51 #[.string name] W fun e w'=>e= .returned (.bool (ZA name))/\w'=W:=fun W=>zAb name hname _ rfl W
 have ci:∀W,Calls Tryz.prog 169 #[.int .i64 n] W fun e w'=>e= .returned (.bool (isOf n))/\w'=W:=fun W=>zLw n _ rfl W
 have co:=cs.of by_;have ca:=cs.at_ name;have cw:=cs.owners;have hle:=z74 l 4;change z07 l<=_ at hle;have ch:=fun m W T hm=>cs.high2 by_ n m W T hn hm
 have cc:=cs.clone;rw [<-hr] at cR⊢;generalize ZA name=nk at cn⊢;generalize isOf n=ik at ci⊢;generalize ofOf l by_=m at co ch⊢;generalize z07 l=q at cw hle⊢;have B0:Below w.heap.size w w:=Below.refl _ _;rcases atOf_cases name l 0 with ⟨h1,h2⟩ | ⟨i,x,h1,h2,h3,h4⟩
 ·rw [show z2r l name= -1 from h1] at ca⊢;rw [h2];obtain ⟨A,c,rfl,hl,hc,hnn,hs⟩:=h;unfold maxLen at hc;clear hs cs hr h1 h2;go_enter Tryz.func139,Tryz.ntmps139
  go_wp2_with (first
   | (go_at_call 168;refine zcm (cR _ (by assumption)) ?_;rintro e w1 ⟨rfl,B1⟩)
   | (go_at_call 51;refine zcm (cn _) ?_;rintro e w2 ⟨rfl,rfl⟩)
   | (go_at_call 169;refine zcm (ci _) ?_;rintro e w3 ⟨rfl,rfl⟩)
   | (go_at_call 157;refine zcm (co _ (by assumption)) ?_;rintro e w4 ⟨rfl,B4⟩)
   | (go_at_call 170;refine zcm (ca _ (by assumption)) ?_;rintro e w5 ⟨rfl,B5⟩))
  all_goals go_ret2
  all_goals exact ⟨⟨_,[],_,rfl,by unfold z7b;first | (simp_all;done) | (simp_all;omega),z0k _ _ _ _,.inl ⟨by decide,rfl⟩⟩,by assumption⟩
 rw [show z2r l name=(i:Int) by rw [z2r,h1];simp] at ca⊢;rw [h3];obtain ⟨A,c,rfl,hl,hc,hnn,hs⟩:=h;unfold maxLen at hc;have hil:i < l.length:=(zge h2).1;obtain ⟨x',x_b,x_o,x_k,x_d,x_m,rfl,_,_,x_0,x_1,x_R,_,x_role_ok⟩:=YW hs hil (Kept.refl w fun _ h=>h);have ex:x'=x:=zsi (x_k.symm.trans h2);subst ex;have H2:=zh h2;have k1:∀W,Below w.heap.size w W->W.cell? ⟨x_b,x_o+i*2+1,none⟩=some (.int .i64 x'.role):=z5u x_1;have ch':=fun W T=>ch x'.role W T x_role_ok
 clear hs cs hr h1 h2 h3 x_k x_d x_m x_R x_0 ch;go_enter Tryz.func139,Tryz.ntmps139
 go_wp2_with (first
  | (go_at_call 168;refine zcm (cR _ (by assumption)) ?_;rintro e w1 ⟨rfl,B1⟩)
  | (go_at_call 51;refine zcm (cn _) ?_;rintro e w2 ⟨rfl,rfl⟩)
  | (go_at_call 169;refine zcm (ci _) ?_;rintro e w3 ⟨rfl,rfl⟩)
  | (go_at_call 157;refine zcm (co _ (by assumption)) ?_;rintro e w4 ⟨rfl,B4⟩;have x4:=k1 w4 B4)
  | (go_at_call 170;refine zcm (ca _ (by assumption)) ?_;rintro e w5 ⟨rfl,B5⟩)
  | (go_at_call 171;refine zcm (ch' _ _ (by assumption)) ?_;rintro e w6 ⟨rfl,B6⟩;have x6:=k1 w6 B6)
  | (go_at_call 174;refine zcm (cw _ (by assumption)) ?_;rintro e _ ⟨rfl,_⟩)
  | (go_at_call 78;refine zcm (cc (hpos (by assumption)) _ (by assumption)) ?_;rintro e _ ⟨⟨_,rfl,g7⟩,B7⟩;obtain ⟨_,_,_,rfl,b7,hg7,l7,m7,s7,c7⟩:=zQl g7 (by omega);have y7:=(zD hg7).1 _ _ ((c7 i _ H2.out).1 1 _ rfl);have f7:=(zD hg7).2 (i*2+1)))
 all_goals go_ret2
 all_goals first
  | exact ⟨⟨_,l.set i ⟨x'.name,n⟩,0,rfl,by unfold z7b;first | (simp_all;done) | (simp_all;omega),zQm hg7 l7 m7 hl0 s7 H2.out hn c7 b7,.inr ⟨rfl,i,x',H2.out,h4,rfl⟩⟩,Below.setCell B7 b7 _⟩
  | exact ⟨⟨_,[],_,rfl,by unfold z7b;first | (simp_all;done) | (simp_all;omega),z0k _ _ _ _,.inl ⟨by decide,rfl⟩⟩,by assumption⟩
def z7c (r same:Bool) (m a its:Int) (own:Nat):Int:=if r=false then 2 else if same=false/\m < 3 then 40 else if a < 0 then 35 else if same=false/\3<=its/\m < 4 then 40 else if its=4/\own=1 then 46 else 0
theorem revoke_any (l:List Member) (by_ name:ByteArray) (hname:name.size<=140737488355328) (v:Value) (w:World) (S:Nat->Prop) (h:Sl 2 zY S w v l) (hl0:l.length<=100000):
  Calls Tryz.prog 140 #[v,.string by_,.string name] w fun e w'=>
   (∃v' l' k,e= .returned (.tuple #[v',.int .i64 k])/\k=z7c (rightOf l && ZA name) (eqS by_ name) (ofOf l by_) (z2r l name) (ofOf l name) (z07 l)/\Sl 2 zY (fun b=>w.heap.size<=b) w' v' l'/\
    ((k≠0/\l'=[])\/(k=0/\∃(i:Nat) (x:Member),l[i]? =some x/\eqS x.name name=true/\l'=l.eraseIdx i)))/\Below w.heap.size w w':=by
 have cs:=zIb h hl0;obtain ⟨r,hr⟩:∃r,r=rightOf l:=⟨_,rfl⟩;have hpos:r=true->0 < l.length:=fun e=>z9b (by rw [<-hr,e])
 have cR:=cs.right;have cn:∀W,Calls Tryz.prog 51 #[.string name] W fun e w'=>e= .returned (.bool (ZA name))/\w'=W:=fun W=>zAb name hname _ rfl W
 have co:=cs.of by_;have ca:=cs.at_ name;have cw:=cs.owners;have hle:=z74 l 4;change z07 l<=_ at hle;have ch:=fun m W T hm=>cs.high1 by_ m W T hm
 have cc:=cs.clone;rw [<-hr] at cR⊢;generalize ZA name=nk at cn⊢;generalize ofOf l by_=m at co ch⊢;generalize z07 l=q at cw hle⊢;have B0:Below w.heap.size w w:=Below.refl _ _;rcases atOf_cases name l 0 with ⟨h1,h2⟩ | ⟨i,x,h1,h2,h3,h4⟩
 ·rw [show z2r l name= -1 from h1] at ca⊢;rw [h2];obtain ⟨A,c,rfl,hl,hc,hnn,hs⟩:=h;unfold maxLen at hc;clear hs cs hr h1 h2;unfold eqS;cases he:(by_.toList==name.toList)
  all_goals
   go_enter Tryz.func140,Tryz.ntmps140
   go_wp2_with (first
    | (go_at_call 168;refine zcm (cR _ (by assumption)) ?_;rintro e w1 ⟨rfl,B1⟩)
    | (go_at_call 51;refine zcm (cn _) ?_;rintro e w2 ⟨rfl,rfl⟩)
    | (go_at_call 157;refine zcm (co _ (by assumption)) ?_;rintro e w4 ⟨rfl,B4⟩)
    | (go_at_call 170;refine zcm (ca _ (by assumption)) ?_;rintro e w5 ⟨rfl,B5⟩))
   all_goals go_ret2
   all_goals exact ⟨⟨_,[],_,rfl,by unfold z7c;first | (simp_all;done) | (simp_all;omega),z0k _ _ _ _,.inl ⟨by decide,rfl⟩⟩,by assumption⟩
 rw [show z2r l name=(i:Int) by rw [z2r,h1];simp] at ca⊢;rw [h3];obtain ⟨A,c,rfl,hl,hc,hnn,hs⟩:=h;unfold maxLen at hc;have hil:i < l.length:=(zge h2).1;obtain ⟨x',x_b,x_o,x_k,x_d,x_m,rfl,_,_,x_0,x_1,x_R,_,x_role_ok⟩:=YW hs hil (Kept.refl w fun _ h=>h);have ex:x'=x:=zsi (x_k.symm.trans h2);subst ex;have H2:=zh h2;have H4:=zh h4;have k1:∀W,Below w.heap.size w W->W.cell? ⟨x_b,x_o+i*2+1,none⟩=some (.int .i64 x'.role):=z5u x_1;have ch':=fun W T=>ch x'.role W T x_role_ok
 clear hs cs hr h1 h2 h3 h4 x_k x_d x_m x_R x_0 ch;obtain ⟨sm,hsm⟩:∃sm,sm=eqS by_ name:=⟨_,rfl⟩;rw [<-hsm];have hsm2:(by_.toList==name.toList)=sm:=by rw [hsm];rfl
 clear hsm;cases sm
 all_goals
  go_enter Tryz.func140,Tryz.ntmps140
  go_wp2_with (first
   | (go_at_call 168;refine zcm (cR _ (by assumption)) ?_;rintro e w1 ⟨rfl,B1⟩;have x1:=k1 w1 B1)
   | (go_at_call 51;refine zcm (cn _) ?_;rintro e w2 ⟨rfl,rfl⟩)
   | (go_at_call 157;refine zcm (co _ (by assumption)) ?_;rintro e w4 ⟨rfl,B4⟩;have x4:=k1 w4 B4)
   | (go_at_call 170;refine zcm (ca _ (by assumption)) ?_;rintro e w5 ⟨rfl,B5⟩)
   | (go_at_call 171;refine zcm (ch' _ _ (by assumption)) ?_;rintro e w6 ⟨rfl,B6⟩;have x6:=k1 w6 B6)
   | (go_at_call 174;refine zcm (cw _ (by assumption)) ?_;rintro e _ ⟨rfl,_⟩)
   | (go_at_call 78;refine zcm (cc (hpos (by assumption)) _ (by assumption)) ?_;rintro e _ ⟨⟨v7,rfl,g7⟩,B7⟩)
   | (go_at_call 175;refine zcm (zM6 l i hil (by omega) v7 _ _ _ g7) ?_;rintro e _ ⟨⟨_,rfl,s9⟩,B9⟩))
  all_goals go_ret2
  all_goals first
   | exact ⟨⟨_,l.eraseIdx i,0,rfl,by unfold z7c;first | (simp_all;done) | (simp_all;omega),s9,.inr ⟨rfl,i,x',H2.out,H4.out,rfl⟩⟩,B7.trans B9⟩
   | exact ⟨⟨_,[],_,rfl,by unfold z7c;first | (simp_all;done) | (simp_all;omega),z0k _ _ _ _,.inl ⟨by decide,rfl⟩⟩,by assumption⟩
end Go.Proofs.YtdggplhnfhcieaaGreatDoor.Ro
end
