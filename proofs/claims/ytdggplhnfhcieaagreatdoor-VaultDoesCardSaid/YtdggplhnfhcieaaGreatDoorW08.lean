/- No condition. -/
import Derived.Laws.Cover3
import Derived.Test.YtdggplhnfhcieaaGreatDoorW06
set_option linter.all false
set_option maxRecDepth 100000
namespace Go.Proofs.YtdggplhnfhcieaaGreatDoor.Ro
open Go.Proofs.Tryz Cd Ce List
open Go.RowKit Go.Deep
variable {l:List Member} {n:Int} {name:ByteArray}
abbrev LtM (a b:Member):Prop:=ltS a.name b.name=true
def zFx (p:Option ByteArray) (n:ByteArray):Bool:=match p with
 | none=>true
 | some q=>ltS q n
theorem zLy (p:Option ByteArray) (m:Member) (r:List Member):z3g p (m::r)=if Z1 m.name then(if isOf m.role then(if zFx p m.name then z3g (some m.name) r else false) else false) else false:=by
 cases p<;>rfl
theorem zI1:∀(l:List Member) (p:Option ByteArray),z3g p l=true↔(∀m∈l,Z1 m.name=true/\isOf m.role=true)/\l.Pairwise LtM/\∀q,p=some q->∀m∈l,ltS q m.name=true
 | [],p=>by simp[z3g]
 | m::r,p=>by
  rw[zLy];have j:=zI1 r (some m.name);have h:zFx p m.name=true↔∀q,p=some q->ltS q m.name=true:=by cases p<;>simp[zFx]
  constructor
  ·intro b;by_cases d:Z1 m.name=true
   ·rw[if_pos d] at b;by_cases g:isOf m.role=true
    ·rw[if_pos g] at b;by_cases e:zFx p m.name=true
     ·rw[if_pos e] at b;obtain⟨u,v,i⟩:=j.1 b;refine⟨λc a=>?_,pairwise_cons.2 ⟨λc a=>i _ rfl c a,v⟩,λq f c a=>?_⟩
      ·rcases mem_cons.1 a with rfl|a
       ·exact⟨d,g⟩
       ·exact u c a
      ·rcases mem_cons.1 a with rfl|a
       ·exact h.1 e q f
       ·exact z0e (h.1 e q f) (i _ rfl c a)
     ·rw[if_neg e] at b;cases b
    ·rw[if_neg g] at b;cases b
   ·rw[if_neg d] at b;cases b
  ·rintro⟨d,g,e⟩;obtain⟨k,o⟩:=d m sm;obtain⟨s,t⟩:=pairwise_cons.1 g;rw[if_pos k,if_pos o,if_pos (h.2 λq f=>e q f m sm)];exact j.2 ⟨λc a=>d c (by simp[a]),t,λq f c a=>by cases f;exact s c a⟩
theorem z9c:∀l:List Member,(∀m∈l,isOf m.role=true)->z0x l=own4 l
 | [],_=>rfl
 | m::r,h=>by
  have b:=z9c r λd c=>h d (by simp[c])
  obtain⟨_,_⟩:=z7y (h m sm);unfold z0x at b⊢;rw[withAt_cons,own4,<-b];by_cases a:m.role=4
  ·rw[if_pos om,if_pos (by simp[a])];simp;omega
  ·rw[if_neg om,if_neg (by simpa using a)];omega
structure RightL (l:List Member):Prop where
 each:∀m∈l,Z1 m.name=true/\isOf m.role=true
 sorted:l.Pairwise LtM
 few:l.length<=8
 own:0<own4 l
theorem right_iff (l:List Member):rightOf l=true↔RightL l:=by
 unfold rightOf;simp only[qBqx,decide_eq_true_eq,zI1];constructor
 ·rintro⟨⟨a,b,_⟩,c,d⟩;exact⟨a,b,c,by rw[<-z9c l λf e=>(a f e).2];exact d⟩
 rintro⟨a,b,c,d⟩;exact⟨⟨a,b,λh g=>by cases g⟩,c,by rw[z9c l λf e=>(a f e).2];exact d⟩
theorem RightL.owners (h:RightL l):z0x l=own4 l:=z9c l λm hm=>(h.each m hm).2
theorem zMs (h:l.Pairwise LtM):∀{m:Member} {r:List Member},l=m::r->∀x∈r,eqS x.name m.name=false:=by
 intro m r a x b;subst a;exact z5f.2 λa=>z4u ((pairwise_cons.1 h).1 x b) a.symm
theorem of_pos (h:∀m∈l,isOf m.role=true) (name:ByteArray):(z3k l name<0/\ofOf l name=0)\/(0<=z3k l name/\1<=ofOf l name/\ofOf l name<=4):=by
 rcases atOf_cases name l 0 with ⟨a,b⟩|⟨f,c,a,b,d,e⟩
 ·left;exact⟨by rw[show z3k l name= -1 from a];decide,b⟩
 right;obtain⟨_,_⟩:=z7y (h c (zmg b));exact⟨by rw[show z3k l name=_ from a];omega,om,om⟩
theorem z6e (name:ByteArray) (role:Int):∀l:List Member,withR name role true l=l.filter λm=>!eqS m.name name
 | []=>rfl
 | m::r=>by
  rw[withR,show(true||leS name m.name)=true from rfl,z6e name role r,filter_cons];cases a:eqS m.name name<;>simp
theorem z7m (h:∀x∈l,eqS x.name name=false):(l.filter λm=>!eqS m.name name)=l:=
 filter_eq_self.2 λx a=>by rw[h x a];rfl
theorem erase_with {name:ByteArray}:∀{l:List Member} {i:Nat} {x:Member},l.Pairwise LtM->l[i]? =some x->eqS x.name name=true->l.eraseIdx i=withOf l name 0
 | [],i,x,_,h,_=>by simp at h
 | m::r,0,x,hp,h,hx=>by
  simp at h;subst h;have b:=Y9.1 hx;subst b;rw[withOf,show((0:Int)==0)=true from rfl,z6e,filter_cons,hx,eraseIdx_cons_zero]
  exact(z7m (zMs hp rfl)).symm
 | m::r,i+1,x,hp,h,hx=>by
  have a:=erase_with (pairwise_cons.1 hp).2 (by simpa using h) hx;have c:eqS m.name name=false:=by
   rw[<-Y9.1 hx];exact z5f.2 (z4u ((pairwise_cons.1 hp).1 x (zmg (by simpa using h))))
  rw[withOf,show((0:Int)==0)=true from rfl,z6e] at a⊢;rw[eraseIdx_cons_succ,filter_cons,c,a];rfl
theorem zI2 {a b:ByteArray} (h:ltS b a=true):leS a b=false:=by
 unfold leS;rw[z2y h,z5f.2 (z4u h).symm];rfl
theorem zF4 {a b:ByteArray} (h:ltS b a=false):leS a b=true:=by
 unfold leS;rcases z1e a b with c|c|c
 ·rw[c];rfl
 ·rw[c,Y9.2 rfl];simp
 rw[h] at c;cases c
theorem zI3 {name:ByteArray} {n:Int}:∀{l:List Member} {i:Nat} {x:Member},l.Pairwise LtM->l[i]? =some x->eqS x.name name=true->l.set i ⟨x.name,n⟩=withR name n false l
 | [],i,x,_,h,_=>by simp at h
 | m::r,0,x,hp,h,hx=>by
  simp at h;subst h;have a:=Y9.1 hx;subst a;rw[withR,hx,zF4 (z07 _),show(false||true)=true from rfl,z6e,z7m (zMs hp rfl)]
  rfl
 | m::r,i+1,x,hp,h,hx=>by
  have c:=zI3 (n:=n) (pairwise_cons.1 hp).2 (by simpa using h) hx;have b:=(pairwise_cons.1 hp).1 x (zmg (by simpa using h));have a:=Y9.1 hx;subst a;rw[withR,zI2 b,z5f.2 (z4u b),set_cons_succ,c];rfl
theorem set_with {i:Nat} {x:Member} (hn:n≠0) (hp:l.Pairwise LtM) (h:l[i]? =some x) (hx:eqS x.name name=true):l.set i ⟨x.name,n⟩=withOf l name n:=by
 rw[withOf,show(n==0)=false from beq_eq_false_iff_ne.2 hn];exact zI3 hp h hx
theorem zF5 {name:ByteArray} {n:Int}:∀{l:List Member},l.Pairwise LtM->(∀x∈l,eqS x.name name=false)->(withR name n false l).Pairwise LtM/\∀y,y∈withR name n false l↔y=⟨name,n⟩\/y∈l
 | [],_,_=>by simp[withR]
 | m::r,hp,hd=>by
  obtain⟨g,i⟩:=pairwise_cons.1 hp;obtain⟨j,h⟩:=zF5 (n:=n) i λx f=>hd x (by simp[f])
  have c:=hd m sm;rw[withR,c];cases d:leS name m.name
  ·have e:ltS m.name name=true:=by
    rcases z1e m.name name with a|a|a
    ·exact a
    ·rw[Y9.2 a] at c;cases c
    ·rw[zF4 (z2y a)] at d;cases d
   simp only[Bool.not_false,Bool.and_false,Bool.false_eq_true,if_false,nil_append,singleton_append,Bool.or_false,pairwise_cons,qLcx];refine⟨⟨λy b=>?_,j⟩,λy=>?_⟩
   ·rcases(h y).1 b with rfl|b
    ·exact e
    ·exact g y b
   ·rw[h y];constructor
    ·rintro(a|a|a)
     ·exact .inr (.inl a)
     ·exact .inl a
     ·exact .inr (.inr a)
    ·rintro(a|a|a)
     ·exact .inr (.inl a)
     ·exact .inl a
     ·exact .inr (.inr a)
  ·have e:ltS name m.name=true:=by
    rcases z1e m.name name with a|a|a
    ·rw[zI2 a] at d;cases d
    ·rw[Y9.2 a] at c;cases c
    ·exact a
   rw[show(false||true)=true from rfl,z6e,z7m λx f=>hd x (by simp[f])];simp only[Bool.not_false,Bool.and_true,if_true,Bool.false_eq_true,if_false,singleton_append,pairwise_cons,qLcx];refine⟨⟨λy b=>?_,g,i⟩,λy=>trivial⟩;rcases b with rfl|b
   ·exact e
   ·exact z0e e (g y b)
theorem zFy:∀{l r:List Member},l.Pairwise LtM->r.Pairwise LtM->(∀y,y∈l↔y∈r)->l=r
 | [],[],_,_,_=>rfl
 | [],b::r,_,_,h=>by have:=(h b).2 sm;simp at this
 | a::l,[],_,_,h=>by have:=(h a).1 sm;simp at this
 | a::l,b::r,hl,hr,h=>by
  obtain⟨j,o⟩:=pairwise_cons.1 hl;obtain⟨k,p⟩:=pairwise_cons.1 hr;have i:∀d:Member,¬LtM d d:=λd m=>by have:=z07 d.name;rw[show ltS d.name d.name=true from m] at this;cases this
  have c:a=b:=by
   rcases mem_cons.1 ((h a).1 sm) with c|c
   ·exact c
   ·rcases mem_cons.1 ((h b).2 sm) with f|f
    ·exact f.symm
    ·exact absurd (z0e (j b f) (k a c)) (i a)
  subst c;have:l=r:=zFy o p λy=>by
   have g:=h y;simp only[qLcx] at g;constructor
   ·intro e;rcases g.1 (.inr e) with c|c
    ·subst c;exact absurd (j y e) (i y)
    ·exact c
   ·intro e;rcases g.2 (.inr e) with c|c
    ·subst c;exact absurd (k y e) (i y)
    ·exact c
  rw[this]
theorem share_with {b:List Member} (hn:n≠0) (hp:l.Pairwise LtM) (h:∀x∈l,eqS x.name name=false) (h1:b.Perm (l++[⟨name,n⟩])) (h2:∀(i j:Nat) (x y:Member),i<j->b[i]? =some x->b[j]? =some y->ltS y.name x.name=false):b=withOf l name n:=by
 rw[withOf,show(n==0)=false from beq_eq_false_iff_ne.2 hn];obtain⟨t,u⟩:=zF5 (n:=n) hp h;refine zFy ?_ t λy=>?_
 ·
  have s:(l++[(⟨name,n⟩:Member)]).Pairwise λc d:Member=>eqS c.name d.name=false:=by
   rw[pairwise_append];refine⟨hp.imp λa=>z5f.2 (z4u a),sm,λc r d g=>?_⟩;simp at g;subst g;exact h c r
  have p:b.Pairwise λc d:Member=>eqS c.name d.name=false:=(Perm.pairwise_iff (λ{c d} a=>by
   rw[z5f] at a⊢;exact λq=>a q.symm) h1).2 s
  rw[pairwise_iff_getElem] at p⊢;intro i j k o m;have e:=p i j k o m;have f:=h2 i j _ _ m (qLgx k) (qLgx o);rcases z1e b[i].name b[j].name with a|a|a
  ·exact a
  ·rw[Y9.2 a] at e;cases e
  rw[a] at f;cases f
 rw[u y,h1.mem_iff,mem_append];simp only[mem_singleton];exact Or.comm
theorem of_none {name:ByteArray}:∀{l:List Member},(∀m∈l,isOf m.role=true)->ofOf l name=0->∀x∈l,eqS x.name name=false
 | [],_,_,x,a=>by cases a
 | m::r,h,h0,x,a=>by
  rw[ofOf] at h0;cases b:eqS m.name name
  ·rw[b] at h0;rcases mem_cons.1 a with rfl|a
   ·exact b
   ·exact of_none (λd c=>h d (by simp[c])) h0 x a
  ·rw[b] at h0;have:=z7y (h m sm);simp only[if_true] at h0;omega
end Go.Proofs.YtdggplhnfhcieaaGreatDoor.Ro
namespace Go.Proofs.YtdggplhnfhcieaaGreatDoor.Ro
open Go.Proofs.Tryz Cd Ce List
open Go.RowKit Go.Deep
def zF6:Int->List Int->Int
 | m,[]=>m
 | m,x::r=>zF6 (max m x) r
theorem zMt {S:Nat->Prop} {w:World} {c:Option Addr} {l:List Int} {k:Nat} (s:SlAt 1 zJj S w c l) (hk:k<l):
  ∃x b a,l.drop k=x::l.drop (k+1)/\c=some ⟨b,a,none⟩/\cL w b (a+k) x/\I64 x/\l[k]? =some x:=by
 obtain⟨x,d,i,_⟩:=z68 hk;obtain⟨b,a,_,f,_,_,h,g⟩:=s k _ d;obtain⟨rfl,e⟩:=g;have:=h 0 _ rfl;rw[show k*1+0=k by omega] at this;exact⟨x,b,a,i,f,this,e,d⟩
theorem zUt (a:Int) (r:List Int) (v:Value) (w:World) (S:Nat->Prop) (h:Sl 1 zJj S w v (a::r)):
  Calls prog 194 #[v] w λe w'=>e= .returned (.int .i64 (zF6 a r))/\w=w':=by
 obtain⟨_,_,rfl,s,q,u,i⟩:=h;unfold maxLen at q;have t:(a::r).length=r.length+1:=rfl;obtain⟨_,_,_,p,rfl,o,_,g⟩:=zMt i (k:=0) sm;simp only[getElem?_cons_zero,Option.some.injEq] at g;subst g;rw[Nat.add_zero] at o;rw[t] at s u⊢;clear p;go_enter func194,ntmps194
 go_wp2;go_loop [3,4] (λx d=>∃(b:Nat) (f:Int),b<=r/\d= .int .i64 ((b+1:Nat):Int)/\x= .int .i64 f/\zF6 f (r.drop b)=zF6 a r) (λ_ d=>r.length+1-(intOf d).toNat)
 case atStart=>exact⟨0,a,om,gn,rfl,sm⟩
 obtain⟨b,f,_,rfl,rfl,c⟩:=hrel;by_cases A:b<r
 ·obtain⟨y,_,_,j,m,_,_,z⟩:=zMt i (k:=b+1) (by simp;omega);simp only[Option.some.injEq,Addr.mk.injEq,and_true] at m;obtain⟨rfl,rfl⟩:=m;have B:decide (((b+1:Nat):Int)<((r.length+1:Nat):Int))=true:=θ;rw[show r.drop b=y::r.drop (b+1) by simpa using j,zF6] at c;have EH:=zh c;clear c j z;go_wp2;go_round
  case rel=>exact⟨b+1,_,om,gn,rfl,EH.o⟩
  case measure=>simp[intOf];omega
 obtain rfl:b=r:=om
 rw[drop_length] at c;have EH:=zh c;clear c;exact mbD
theorem zK6 (l:List Member) (by_:ByteArray) (a:Int) (r:List Int) (v u:Value) (w:World) (S S':Nat->Prop) (h:Sl 2 zZ S w v l) (k:Sl 1 zJj S' w u (a::r)):
  (kB 171 #[v,by_,u] w (.bool (decide (3<=zF6 a r)&&decide (ofOf l by_<4))):Prop):=by
 have b:=zUt a r u w S' k;have c:=of_any by_ l v w S h;generalize zF6 a r=e at b⊢;generalize ofOf l by_=f at c⊢;clear h k;go_enter func171,ntmps171
 go_wp2_with (first|(go_at_call 194;refine zcm b ?_;rintro d _ ⟨rfl,rfl⟩)|(go_at_call 157;refine zcm c ?_;rintro d _ ⟨rfl,_⟩))
 all_goals
  go_ret;exact⟨ZM (by first|(simp_all;done)|(simp_all;omega)),gg⟩
theorem zJ0 (w:World) (a:Option Addr) (n c:Nat):(binOp .eql 46 (.slice a n c) ()).run prog w= .ok a.isNone w:=by
 simp only[binOp];simp[run_equal_slice_nil w _ _ a n c underlying46]
theorem zQ9 (l:List Member) (v:Value) (w:World) (S:Nat->Prop) (h:Sl 2 zZ S w v l) (r:0<l.length) (H:l.length<=1000000):
  Calls prog 78 #[v] w λe w'=>(∃v',e= .returned v'/\Grow 87 2 zZ (λ_=>False) w' w v' l)/\bW w w':=by
 obtain⟨u,p,t,j,k⟩:=info_parts (show(prog.info? 87).map (λd=>(d.zero,d.size,d.bytes))=some (some (.agg #["",'0']),2,24) from kr);obtain⟨_,_,rfl,g,o,_,c⟩:=h;unfold maxLen at o;obtain⟨_,a,x,C,B,D,rfl,_,_,y,z,A,E,F⟩:=yT c r (Kept.refl w λ_ h=>h);clear C B D y z A E F;have s:SlAt 2 zZ (z21 (λ_=>False) (w.alloc (.cells #[] 87)) (.slice (some ⟨w,0,none⟩) 0 0)) (w.alloc (.cells #[] 87)) (some ⟨a,x,none⟩) l:=
  c.keep ZA dc (λa f g=>⟨⟨by simp;omega,λh=>h,λm=>by simp only[Value.ownBlock,Option.some.injEq] at m;omega⟩,heap_alloc_old _ _ g⟩)
 clear c;have I:=zJ0;go_enter func78,ntmps78
 go_wp2_with (at_builtin;go_loud (refine YP (R:=zZ) _ rfl (.tmp 5) (.tmp 6) 46 rfl 87 u _ 2 24 underlying46 p t j k rfl dc ZA w (by go_size) _ _ rfl (Grow.empty (heap_alloc_new _ _) (znl _)) _ _ _ rfl _ rfl s (by simp;omega) dc ?_);intro J K b i G;rw[nil_append] at b;obtain⟨_,_,_,rfl,q⟩:=b.shape';clear q)
 go_ret;exact⟨⟨_,rfl,b⟩,Below.grown (Below.alloc zbr (znl _) _) i sm λa f=>by have:=zsi (show some w.heap.size=some a from f);omega⟩
end Go.Proofs.YtdggplhnfhcieaaGreatDoor.Ro
