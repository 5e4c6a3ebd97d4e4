/- No condition. -/
import Derived.Test.YtdggplhnfhcieaaGreatDoorW14
import Derived.Test.YtdggplhnfhcieaaGreatDoorW21
set_option linter.all false
set_option maxRecDepth 100000
set_option maxHeartbeats 16000000
namespace Go.Proofs.YtdggplhnfhcieaaGreatDoor
open Go.Proofs.Tryz Cd Ce List
open Go.RowKit Go.Deep
variable {k n:Nat} {p:Prop} {st:State}
theorem zIg {u f:Nm} {n:Int} (h:IsReach st u f n):reachN st u f=n:=by
 unfold reachN;rw[dif_pos ⟨n,h⟩];exact(Classical.choose_spec (p:=λn=>IsReach st u f n) ⟨n,h⟩).one h
theorem zB8 (s:Nm):∀l:List Nm,(z62 s l).Perm (s::l)
 | []=>Perm.refl _
 | x::r=>by
  rw[z62];split
  ·exact Perm.refl _
  ·exact((zB8 s r).cons x).trans (Perm.swap s x r)
theorem zDb {s:Nm}:∀{l:List Nm},(l.Pairwise λa b=>ltS b a=false)->(z62 s l).Pairwise λa b=>ltS b a=false
 | [],_=>pairwise_singleton _ _
 | x::r,h=>by
  rw[z62];obtain⟨m,o⟩:=pairwise_cons.1 h;split
  ·rename_i i;refine pairwise_cons.2 ⟨λg d=>?_,h⟩;rcases mem_cons.1 d with rfl|d
   ·cases j:ltS g s
    ·rfl
    ·exact absurd (z0e j i) (by rw[z07];simp)
   ·cases j:ltS g s
    ·rfl
    ·have:=m g d;rw[z0e j i] at this;cases this
  ·rename_i i;refine pairwise_cons.2 ⟨λg d=>?_,zDb o⟩;rcases mem_cons.1 ((zB8 s r).subset d) with rfl|d
   ·simpa using i
   ·exact m g d
theorem zOt (l:List Nm) (s:Nm):z8d (l++[s])=z62 s (z8d l):=by unfold z8d;rw[foldl_append];rfl
theorem zGh:∀(l a:List Nm),(a.Pairwise λa b=>ltS b a=false)->(l.foldl (λa s=>z62 s a) a).Perm (a++l)/\(l.foldl (λa s=>z62 s a) a).Pairwise λa b=>ltS b a=false
 | [],a,h=>⟨sm,h⟩
 | s::l,a,h=>by
  rw[foldl_cons];obtain⟨d,g⟩:=zGh l (z62 s a) (zDb h);refine⟨d.trans (((zB8 s a).append_right l).trans ?_),g⟩;exact perm_middle.symm
theorem z6x (l:List Nm):(z8d l).Perm l/\(z8d l).Pairwise λa b=>ltS b a=false:=zGh l [] Pairwise.nil
theorem zOu {g h:List Nm} (h1:g.Pairwise λa b=>ltS b a=false) (h2:h.Pairwise λa b=>ltS b a=false) (hp:g.Perm h):g=h:=by
 refine hp.eq_of_pairwise (le:=λa b=>ltS b a=false) (λa b _ _ i j=>?_) h1 h2;rcases z1e a b with d|d|d
 ·rw[d] at j;cases j
 ·exact d
 rw[d] at i;cases i
theorem zR7 {g:Type} {Q:Rp g} {S T:Nat->Prop} {w:World} {v:Value} {l:List g} (E:RpOk k Q) (h:Sl k Q S w v l) (z:∀d x,Q S w d x->Q T w d x) (hk:∀b,v.ownBlock=some b->T b):Sl k Q T w v l:=by
 obtain⟨i,c,rfl,s,t,u,y⟩:=h;refine⟨i,c,rfl,s,t,u,λB x A=>?_⟩;obtain⟨b,C,D,rfl,_,j,m,o⟩:=y B x A;exact⟨b,C,D,rfl,hk b rfl,j,m,z _ _ o⟩
section
variable {X:Nat->Prop} {base bw:Nat} {W W':World} {R R':RM} {c:Call} {dv:Value} {st:State} {done late:Bool}
theorem zGi (h:WK X base bw W R c dv st done late) {g t:Nat} (s:VInv n st) (hn:n<=41) (hu:c.user.size<=1000) (hk:ZB st c.folder=some k) (ha:foAt R k g t):
  (kB 148 #[pT bw,pO g t] W (.bool (z3a st c k)):Prop):=by
 have u:=zh (z0l (yO hk));have A:=zh (zN4 s hk);have B:=zh (zJy (s.small hn));have D:=zh h;have z:=zh (show ∀W':World,((bW W W':Prop))->Calls prog 158 #[pO g t] W' λe w'=>e= .returned (.int .i64 (fo st k).epochs.length)/\bW W' w' from λW' G=>(z3t (h.below G) u ha).mono (by rintro e w' ⟨rfl,rfl⟩;exact⟨rfl,Below.refl _ _⟩));obtain⟨_,_,_,_,_,_,_,_,K,L,I,J⟩:=TC12 h.cells.1;have H:=h.cells.1 1 _ rfl;obtain⟨_,_,_,_,_,_,_,_,_,_,E,hF,x,M,N,O,Q,S,T,_,F⟩:=h.fold (ZT u) ha;rw[A.o] at x;clear h ha s hk E hF M N O Q S T F;go_enter func148,ntmps148
 go_upto_region 1 with fail
 have l:=zh (HQb6 (zyB K) (zyB L) (zyB I) (zyB J) (zyB H) (zyB x));refine zE kr l (λb=>?_);refine zi 0 ?_;iterate 13 (refine zt b ?_;simp only[zA])
 refine zo ?_;refine zT 14 b ?_;simp only[zA];refine zr 13 λo i=>?_
 go_simp;go_at_call 179
 refine zcm (zE6 st c.user c.folder _ _ (λ_=>True) (D.below (zbr.drew)).state B hu) ?_;rintro Y U ⟨⟨_,rfl,v⟩,d⟩;have j:(bW W U:Prop):=zD (zbr.drew) d;clear d b;refine i.out _ _ (l.o _ j) (λb=>?_);clear i o;refine zr 15 λo i=>?_
 go_simp;go_at_call 158
 refine zcb (z.o _ (j)) λV d=>?_;have m:(bW W V:Prop):=zD (j) d;clear d b;refine i.out _ _ (l.o _ m) (λb=>?_);clear i o;refine zi 16 ?_;iterate 2 (refine zt b ?_;simp only[zA])
 refine zo ?_;refine wpAnyH_done kr ?_ _;clear b l;have C:=zh (zIg v);have y:=zh m;clear v j m;go_wp2;go_ret;refine⟨ZM ?_,y⟩;unfold z3a;rw[C.o]
end
def z5s (c:Call):Bool:=z58 Z1 c.kind c.user c.folder c.name c.other c.role c.version c.data
theorem zIr {s:Nm} (h:z3d s=true):s=⟨#[]⟩:=by simpa[z3d] using h
theorem zAb {c:Call} (h:z5s c=true) (hu:c.user.size<=20) (x:c.folder.size<=20) (hn:c.name.size<=20) (y:c.other.size<=20):CallOk c/\c.data.length<=512:=by
 unfold z5s at h;rw[zR1 Z1 (by rfl) _ _ _ _ _ _ _ _ om] at h;unfold yK at h;rw[qBqx,qBqx,qBqx,qBqx,qBqx,qBqx,qBqx,qBqx,qBqx,qBqx] at h;obtain⟨⟨⟨⟨⟨⟨⟨⟨⟨⟨s,u⟩,v⟩,j⟩,b⟩,l⟩,_⟩,_⟩,i⟩,g⟩,t⟩:=h;have z:1<=c.kind:=by simpa using u
 have A:c.kind<=16:=by simpa using v
 refine⟨⟨hu,x,hn,y,s,z,A,λa m=>?_,λa=>?_,λa m=>?_,λa=>?_,λa=>?_,λa=>?_,λa=>?_,λa=>?_,?_⟩,?_⟩
 ·rwa [if_neg om] at b
 ·rw[if_pos a] at b;cases d:z3d c.folder
  ·rw[d] at b;simp at b
  exact zIr d
 ·rwa [if_neg om,if_pos ⟨a,m⟩] at l
 ·rw[if_pos (a.imp id λe=>om)] at b;cases d:z3d c.other
  ·rw[d,show(decide (c.kind=1)||decide (c.kind=15))=true by simpa using a] at b;simp at b
  exact zIr d
 ·intro e;rw[if_pos (.inl a),e,a] at l;simp at l
 ·rw[if_pos a] at i;simpa using i
 ·rw[if_neg om] at i;simpa using i
 ·rw[show(decide (c.kind=14)||decide (c.kind=16))=true by simpa using a] at j;cases d:Z1 c.other
  ·rw[d] at j;simp at j
  rfl
 ·by_cases o:c.kind=9
  ·rw[if_pos o] at g;simpa using g
  rw[if_neg o] at g;have:c.version=0:=by simpa using g
  omega
 simp only[Bool.or_eq_true,qBqx,decide_eq_true_eq] at t;omega
structure Ok3 (st:State) (r:Res):Prop where
 same:r.2.2=false->r.1=st
 err:r.2.1.err≠0->r.2.1=ZD r.2.1.err/\r.2.2=false
section
variable {st st':State} {a:Answer} {e n:Int}
theorem z06:Ok3 st (st,ZD e,false):=⟨λ_=>rfl,λ_=>⟨rfl,rfl⟩⟩
theorem zNb:Ok3 st (st,Y2 n,false):=⟨λ_=>rfl,λb=>absurd rfl b⟩
theorem z4e:Ok3 st (st',Y2 n,true):=⟨λh=>(by cases h),λh=>absurd rfl h⟩
theorem zDy (h:a.err≠0->a=ZD a.err):Ok3 st (st,a,false):=⟨λ_=>rfl,λk=>⟨h k,rfl⟩⟩
theorem yC [Decidable p] {x y:Res} (hx:Ok3 st x) (hy:Ok3 st y):Ok3 st (if p then x else y):=by
 split
 ·exact hx
 exact hy
end
theorem zDz [Decidable p] {x y:Answer} (hx:x.err≠0->x=ZD x.err) (hy:y.err≠0->y=ZD y.err):(if p then x else y).err≠0->(if p then x else y)=ZD (if p then x else y).err:=by
 split
 ·exact hx
 exact hy
theorem z6a (e:Int):(ZD e).err≠0->ZD e=ZD (ZD e).err:=λ_=>rfl
theorem zTx (st:State) (c:Call) (late:Bool):Ok3 st (z12 st c late):=by
 unfold z12;refine yC z06 ?_;unfold doR;dsimp only;refine yC ?_ (yC ?_ (yC ?_ (yC ?_ (yC ?_ (yC ?_ (yC ?_ (yC ?_ (yC ?_ (yC ?_ (yC ?_ (yC ?_ (yC ?_ ?_))))))))))))
 ·exact yC z06 (yC z06 z4e)
 ·exact yC z06 (yC z06 (yC z06 z4e))
 ·exact yC z06 (yC zNb (yC z06 (yC z06 z4e)))
 ·exact yC z06 (yC z06 z4e)
 ·exact yC z06 (yC zNb z4e)
 ·unfold z3l;refine yC z06 ?_;split
  ·exact yC z06 z4e
  exact yC z06 z4e
 ·refine zDy ?_;unfold z54;split
  ·exact z6a _
  dsimp only;split
  ·exact z6a _
  exact zDz (z6a _) (zDz (z6a _) λb=>absurd rfl b)
 ·refine zDy ?_;unfold z5n;exact zDz (z6a _) λb=>absurd rfl b
 ·unfold z1j;refine yC z06 ?_;split
  ·exact z06
  exact yC z06 (yC z06 z4e)
 ·refine zDy ?_;unfold z0y;refine zDz (z6a _) ?_;split
  ·exact z6a _
  exact λb=>absurd rfl b
 ·exact yC z06 z4e
 ·exact z4e
 ·exact yC z06 (yC z06 z4e)
 exact zDy λb=>absurd rfl b
noncomputable def doV (st:State) (q r:Int) (c:Call) (late:Bool):State×Answer:=
 if (z12 st c late).2.2 then(if c.kind≠15/\c.kind≠16/\Bd.fitsOf (z12 st c late).1 q r≠0 then(st,ZD (Bd.fitsOf (z12 st c late).1 q r)) else((z12 st c late).1,(z12 st c late).2.1))
 else(st,(z12 st c late).2.1)
noncomputable def YT (st:State) (q r:Int) (c:Call):State×Answer:=if z5s c then doV st q r c false else(st,ZD 13)
theorem zRq {q r:Int} {c:Call} {late:Bool} (h:VInv n st) (b:CallOk c):VInv (n+1) (doV st q r c late).1:=by
 unfold doV;refine ZH (λ_=>ZH (λ_=>h.mono om) λ_=>zB2 h b) λ_=>h.mono om
theorem zRr {n:Nat}:∀{l:List Item},(∀x∈l,x.versions<=n)->Bd.verCount l<=n*l.length
 | [],_=>by simp[Bd.verCount]
 | x::l,h=>by
  have g:=h x (mem_cons_self ..);have i:=zRr (l:=l) λd b=>h d (zmc _ b)
  simp only[Bd.verCount,length_cons,Nat.mul_succ];omega
theorem zLh (g:Folder->Nat) (a b:Nat):∀{l:List Folder},(∀f∈l,g f<=a*yA f+b)->Bd.sumOf g l<=a*z1w l+b*l.length
 | [],_=>by simp[Bd.sumOf]
 | x::l,h=>by
  have j:=h x (mem_cons_self ..);have m:=zLh g a b (l:=l) λi d=>h i (zmc _ d)
  simp only[Bd.sumOf,z1w,length_cons,Nat.mul_succ,Nat.mul_add];omega
theorem zIs {n:Nat} (h:VInv n st) (hn:n<=41):Bd.smallOf st<=1000000/\Bd.largeOf st<=1000000:=by
 have m:=h.few;have o:=h.sum;have t:Bd.sumOf Bd.small1 st.folders<=1*z1w st.folders+16*st.folders.length:=zLh _ 1 16 λf b=>by
  obtain⟨k,d,e⟩:=getElem_of_mem b;have g:fo st k=f:=by unfold fo;rw[qLgx d,e];rfl
  have:=z5r h hn d;rw[g] at this;unfold Bd.small1 yA;omega
 have s:Bd.sumOf Bd.large1 st.folders<=42*z1w st.folders+0*st.folders.length:=zLh _ 42 0 λf b=>by
  have hF:=h.fol f b;have u:=zRr (n:=41) (l:=f.items) λj i=>by have:=(hF.it j i).2.1;omega
  unfold Bd.large1 yA;omega
 unfold Bd.smallOf Bd.largeOf;omega
def D5 (f:Folder):Prop:=∀d∈f.items,∀b∈d.versions,b.data.length<=512
def YY (st:State):Prop:=∀f∈st.folders,D5 f
section
variable {st:State} {c:Call} {f f':Folder} {k:Nat}
theorem zHi (h:D5 f) (e:f'.items=f.items):D5 f':=by
 unfold D5;rw[e];exact h
theorem zDf (h:YY st) (k:Nat):D5 (fo st k):=by
 unfold fo
 cases b:st.folders[k]? with
 | none=>exact λg d=>by simp[z0b] at d
 | some f=>exact h f (zmg b)
theorem zXd (h:D5 f) (j:Nat):∀v∈(ZY f j).versions,v.data.length<=512:=by
 unfold ZY
 cases b:f.items[j]? with
 | none=>exact λv d=>by simp at d
 | some x=>exact h x (zmg b)
theorem z9o (h:YY st) (d:D5 f'):YY (setF st k f'):=λb g=>by
 rcases mem_or_eq_of_mem_set g with e|e
 ·exact h b e
 ·rw[e];exact d
theorem zHj (h:YY st) {k:Nat}:YY (yN st k):=z9o h (zHi (zDf h k) (zAy st _ _).it)
theorem zVr (h:YY st) (k:Nat) (who:Nm):YY (z1g st k who):=z9o h (zHi (zHi (zDf h k) rfl) (zAx _ _ _).it)
theorem zUd (h:YY st) (k:Nat) (i:Option Nat) (name:Nm) (v:Version) (hv:v.data.length<=512):YY (z3z st k i name v).1:=by
 unfold z3z
 cases i with
 | none=>
  refine z9o h λl g=>?_
  rcases zmb g with e|e
  ·exact zDf h k l e
  rw[zml e];intro w d;rw[zml d]
  exact hv
 | some j=>
  refine z9o h λl g=>?_
  rcases mem_or_eq_of_mem_set g with e|e
  ·exact zDf h k l e
  rw[e];intro w d;rcases zmb d with b|b
  ·exact zXd (zDf h k) j w b
  rw[zml b];exact hv
theorem zRs (h:YY st) (s:Nm) (b:Bool):YY (lostS st s b):=by
 unfold lostS;split
 ·exact h
 exact h
theorem zRt (h:YY st) (i:c.data.length<=512) (late:Bool):YY (z12 st c late).1:=by
 unfold z12;refine ZH (λ_=>h) λ_=>?_
 unfold doR;dsimp only;refine ZH (λ_=>?_) λ_=>ZH (λ_=>?_) λ_=>ZH (λ_=>?_) λ_=>ZH (λ_=>?_) λ_=>ZH (λ_=>?_) λ_=>ZH (λ_=>?_) λ_=>ZH (λ_=>h) λ_=>ZH (λ_=>h) λ_=>ZH (λ_=>?_) λ_=>ZH (λ_=>h) λ_=>ZH (λ_=>?_) λ_=>ZH (λ_=>?_) λ_=>ZH (λ_=>?_) λ_=>h
 ·unfold YB;exact ZH (λ_=>h) λ_=>ZH (λ_=>h) λ_=>h
 ·unfold YR;refine ZH (λ_=>h) λ_=>ZH (λ_=>h) λ_=>ZH (λ_=>h) λ_=>?_
  unfold z4z;refine zHj (z9o (λg j=>?_) λl b=>by simp[z02] at b);rcases zmb j with e|e
  ·exact h g e
  rw[zml e];exact λl b=>by simp[z02] at b
 ·unfold z0t;refine ZH (λ_=>h) λ_=>ZH (λ_=>h) λ_=>ZH (λ_=>h) λ_=>ZH (λ_=>h) λ_=>?_
  generalize (ZB st c.folder).getD 0=k;exact zHj (st:=setF st k (YJ (fo st k) { zL (fo st k) with parent:=c.other,cut:=(zL (fo st k)).seq+1 } c.user)) (z9o h (zHi (zDf h k) rfl))
 ·unfold z04;exact ZH (λ_=>h) λ_=>ZH (λ_=>h) λ_=>z9o h (zHi (zDf h _) rfl)
 ·generalize (ZB st c.folder).getD 0=k;unfold yR;dsimp only;refine ZH (λ_=>h) λ_=>ZH (λ_=>h) λ_=>z9o h (zHi (f:=fo st k) (zDf h k) ?_)
  unfold YJ;dsimp only;split<;>rfl
 ·have d:YY (z5q st c ((ZB st c.folder).getD 0)).1:=by
   unfold z5q;refine zUd (zHj ?_) _ _ _ _ i;split
   ·exact zVr h _ _
   ·exact h
  unfold z3l;refine ZH (λ_=>h) λ_=>?_
  split
  ·exact ZH (λ_=>h) λ_=>d
  exact ZH (λ_=>h) λ_=>d
 ·unfold z1j;refine ZH (λ_=>h) λ_=>?_
  split
  ·exact h
  exact ZH (λ_=>h) λ_=>ZH (λ_=>h) λ_=>zUd h _ _ _ _ sm
 ·unfold z1v;exact ZH (λ_=>h) λ_=>h
 ·unfold z8f;exact zRs h _ _
 unfold z0k;exact ZH (λ_=>h) λ_=>ZH (λ_=>h) λ_=>zRs h _ _
end
structure VS (P:Nat->Prop) (bv:Nat) (w:World) (st:State) (q r:Int):Prop where
 box:∃v1 v2 v3,w.heap[bv]? =some (.cells #[st.turn,v1,v2,v3,q,r,true] 95 (0,0))/\Z5 (λb=>¬P b) w [st.turn,v1,v2,v3] st
 pb:P bv
 pl:∀b,P b->b<w.heap.size
section
variable {P:Nat->Prop} {bv:Nat} {w w':World} {st:State} {q r:Int}
theorem VS.lt (h:VS P bv w st q r):bv<w:=by
 obtain⟨_,_,_,b,_⟩:=h.box;exact zI b
theorem VS.below (h:VS P bv w st q r) (hb:(bW w w':Prop)):VS P bv w' st q r:=by
 obtain⟨j,l,m,d,g⟩:=h.box;exact⟨⟨j,l,m,by rw[hb.block bv h.lt];exact d,zM g (zK hb)⟩,h.pb,λb i=>zll (h.pl b i) hb.size⟩
theorem zHk {n:Nat} (d:VInv n st) (hn:n<=41) (j:YY st):CopyOk st:=by
 have b:=d.few;have v:=d.u16;refine⟨om,om,om,λf b=>?_,λf b t o=>?_,λf b e l=>?_,λf b i h=>⟨?_,λu s=>?_⟩⟩
 ·obtain⟨k,g,e⟩:=getElem_of_mem b;have m:fo st k=f:=by unfold fo;rw[qLgx g,e];rfl
  have:=z5r d hn g;rw[m] at this;omega
 ·have:=((d.fol f b).mn t o).2.1;omega
 ·have:=((d.fol f b).ec e l).1;omega
 ·have:=((d.fol f b).it i h).2.1;omega
 have:=j f b i h u s;omega
theorem zGr (h:VS P bv w st q r) (K:CopyOk st):
  Calls prog 19 #[pT bv] w λe w'=>∃C:List Value,e= .returned (.agg C.toArray)/\Z5 (λb=>¬P b) w' C st/\bW w w':=by
 obtain⟨_,_,_,F,m⟩:=h.box;have ah:=h.lt;have z:=zh h.pl;obtain⟨L,ab,M,ac,N,ad,E,_⟩:=ZF m;simp only[cons.injEq,true_and,and_true] at E;obtain⟨rfl,rfl,rfl⟩:=E;obtain⟨y,I,ae,af,g,ao⟩:=zP w #['0',(),(),()] 34;have aa:=zh (zbx I);have U:=zh g;have G:=(g.block bv ah).trans F;obtain⟨ap,aq,ar,au⟩:=zC4 (zB G).1;have J:y=w.heap.size+1:=by rw[<-I,World.size_alloc]
 have B:=zh J;have Y:=zh (zGq st (lS st L ab M ac N ad) y (λb=>¬P b/\b<w) (zM m λb o v=>⟨⟨o,v⟩,g.block b v⟩) K);clear J h F G m K ae af g;go_enter func19,ntmps19
 go_wp2_with fail
 refine zcm Y ?_;rintro D _ ⟨R,rfl,i,d,is⟩;obtain⟨O,ai,al,s⟩:=(d.row .us).shape3;obtain⟨Q,aj,am,t⟩:=(d.row .de).shape3;obtain⟨S,ak,an,u⟩:=(d.row .fo).shape3;have A:=zh (is.stateS d);have Z:=zh d;have l:=zh ((i.block _ ao).trans aa);have V:=zh (zD U i);rw[s,t,u];rw[s,t,u] at A;obtain⟨av,aw,ax,ay⟩:=zC4 (zB l).1;have az:=(zB l).2;clear d is i ap aq ar au s t u;go_wp2;try simp only[φ]
 obtain⟨T,j⟩:=zRp l st.turn (.slice O ai al) (.slice Q aj am) (.slice S ak an);refine bodyPost_ret (results_cell_row rfl _ _ w 34 _ (0,0) _ rfl T underlying34 rfl kr) rfl ?_;have ag:∀b,z01 R b->w.heap.size+1<=b:=λb ⟨k,e⟩=>by rw[<-B.o];exact Z.low k b e
 refine⟨_,rfl,zM A λb o v=>?_,(((V.setCell (znl _) _).setCell (znl _) _).setCell (znl _) _).setCell (znl _) _⟩;rcases o with e|⟨_,_,e⟩
 ·have:=ag b e;exact⟨λx=>by have:=z.o b x;omega,j b om⟩
 by_cases H:b<y
 ·obtain⟨D,_⟩:=e H;exact⟨D,j b om⟩
 rw[B.o] at H;exact⟨λx=>by have:=z.o b x;omega,j b om⟩
theorem zRu (w:World) (q r:Int):VS (·=w) w (w.alloc (.cells #['0',(),(),(),q,r,true] 95)) ⟨0,[],[],[]⟩ q r:=
 ⟨⟨.slice none 0 0,.slice none 0 0,.slice none 0 0,zJ _ rfl,_,_,_,rfl,⟨by show(_:Int)<=0;omega,by show(0:Int)<=_;omega⟩,y9,y9,y9⟩,rfl,λb d=>by have:b=w:=d;rw[World.size_alloc];omega⟩
theorem zLi (w:World) (q r:Int) (h:0<=q/\0<=r):
  Calls prog 10 #[q,r] w λe w'=>e= .returned (.tuple #[pT w,'0'])/\VS (·=w) w w' ⟨0,[],[],[]⟩ q r/\bW w w':=by
 have i:decide (q<0)=false:=η;have j:decide (r<0)=false:=η;have g:=zh (zRu w q r);have d:=ζ (Below w w (w.alloc (.cells #['0',(),(),(),q,r,true] 95))) (Below.alloc zbr (znl _) _);clear h;go_enter func10,ntmps10
 go_wp2;refine bodyPost_ret (results_tmp2 rfl _ _ _) rfl ?_;exact⟨rfl,g,d⟩
end
section
variable {X:Nat->Prop} {base bw:Nat} {W W':World} {R R':RM} {c:Call} {dv:Value} {st:State} {done late:Bool}
theorem zB9 {l:List Item} {q:Nat} {x:Item} (hx:l[q]? =some x):((l.take (q+1)).filter yX).map Item.name=((l.take q).filter yX).map Item.name++if yX x then[x.name] else[]:=by
 rw[qLtx,hx];simp only[Option.toList_some,filter_append,map_append];congr 1;cases b:yX x<;>simp[b]
theorem zGl {l:List Nm} (h:z3a st c k=true) (hl:l=z8d (((fo st k).items.filter yX).map Item.name)):z5n st c k=⟨0,0,⟨#[]⟩,[],l,[],[]⟩:=by
 rw[hl];unfold z5n;rw[h];rfl
theorem zEo (h:z3a st c k=false):z5n st c k=ZD 40:=by
 unfold z5n;rw[h];rfl
theorem zIj {S:Nat->Prop} {w:World} {v:Value} {l:List Nm} (h:Sl 1 z3u S w v l):yJ S w ['0','0',"",(),v,(),()] ⟨0,0,⟨#[]⟩,[],l,[],[]⟩:=
 ⟨_,_,_,_,rfl,(show I64 0 from⟨om,om⟩),(show I64 0 from⟨om,om⟩),(by decide:(⟨#[]⟩:Nm).size<=140737488355328),y9,h,y9,y9⟩
theorem mb2 (h:p:=by
 exact⟨b2,λe=>by have:=HW.lt;omega,λe=>by have:=HW.os.lt e;omega,λe=>by have:=HW.xl _ e;omega⟩):p:=h
theorem zRa (h:WK X base bw W R c dv st false late) (z:VInv n st) (hn:n<=41) (hu:c.user.size<=1000) (hk:ZB st c.folder=some k):
  Calls prog 94 #[pT bw] W (Did X base bw W R c dv late (st,z5n st c k,false)):=by
 obtain⟨bp,be,bo,a9,bb⟩:=info_parts (show(prog.info? 9).map (λj=>(j.zero,j.size,j.bytes))=some (some (.string ⟨#[]⟩),1,16) from kr);have HK:=zh hk;have m:=zh (z0l (yO hk));have ad:=zh (z.atF m);have aP:=zh (z5r z hn m);have ag:=zh z;obtain⟨U,aH⟩:=Ξ (W.alloc (.cells Z3 49));have ap:=yQ W;rw[aH] at ap;obtain⟨ao,Z,ai,aJ⟩:=ap;have t:=ao R h;have HW:=zh t;have af:=zh ai;have HB0:=zh Z;have ay:=t.lt;clear ao Z ai;have br:(cL U bw 2 c.folder:Prop):=t.cells.1 2 _ rfl;clear h hk t z;unfold Z3 at aH;go_enter func94,ntmps94
 go_wp2_with fail
 refine zcm (YK HW c.folder) ?_;rintro _ _ ⟨⟨hno,rfl⟩|⟨bq,bN,bU,ax,S,rfl⟩,D⟩
 ·exact ma6
 obtain rfl:_=bq:=zsi (HK.symm.trans ax);have aQ:=zh D;have ac:=zh S;have ab:=zh (HW.below D);obtain⟨_,_,_,_,_,_,_,_,_,_,al,hF,bs,bt,bu,bx,aI,bz,bA,bQ,_⟩:=ab.fold (ZT m) S;have aU:=zh al;clear D ax S al hF;clear br;have aZ:=zh (zGi ab ag hn hu HK ac);go_wp2_with fail
 refine zcb aZ λs E=>?_;have u:=zh (zD aQ E);have bY:=zy E aI;have H2:=zh (HW.below u);have aG:=H2.itSl m ac;have N:=aU.o;simp only[hdr,cons.injEq] at N;rw[N.2.2.2.2.1] at aG;obtain⟨_,_,am,_,bc,_,bd⟩:=aG;simp only[Value.slice.injEq] at am;obtain⟨rfl,_,rfl⟩:=am;unfold maxLen at bc;have bR:(fo st k).items.length<=5000:=by have:=aP.o;omega
 have aV:=zh (show(fo st k).items.length<=41*3 from by
  have ba:=z4q (z2u m);have bO:=ag.sum;unfold yA at ba;omega)
 clear E bs bt bu bx aI bz bA N
 cases aB:z3a st c k with
 | false=>
  have M:=zh aB;go_wp2_with fail
  refine zcb (ZU _ _) λ_ aa=>?_;obtain⟨BW,H2,a4,C,V,bH,bI,bJ,bK,bL,bM⟩:=zW u aa HW aJ af;clear aa;unfold ZV;go_wp2;try simp only[φ]
  obtain⟨I,F2⟩:=ZC a4.o (.int .i64 40) '0' "" () () () ();refine zrt I ?_;rw[show(st,z5n st c k,false)=(st,ZD 40,false) from by rw[zEo M.o]]
  exact mai
 | true=>
  have M:=zh aB;go_wp2;go_loopw [4,24] (λbB j wr=>∃(q:Nat) (d:List Nm),q<=(fo st k).items.length/\j= .int .i64 q/\Hid (Grow 9 1 z3u (λ_=>False) wr s bB d)/\Hid (d=(((fo st k).items.take q).filter yX).map Item.name)/\bW s wr) (λ_ j _=>(fo st k).items.length-(intOf j).toNat)
  case atStart=>exact⟨0,[],om,gn,zh Grow.nil,zh sm,Below.refl _ _⟩
  obtain⟨q,d,_,rfl,l,x,o⟩:=hrel;obtain⟨Y,_,aj,rfl,bg⟩:=l.shape';subst bg;have bn:=o.size;have L:=zh (show d.length<=41*3/\∀B∈d,B.size<=20 from by
   rw[x.o];refine⟨?_,λB T=>?_⟩
   ·rw[qLmx];refine qNtx (length_filter_le _ _) ?_;rw[length_take];have:=aV.o;omega
   ·obtain⟨i,A,rfl⟩:=mem_map.1 T;exact(ad.it i (mem_of_mem_take (mem_filter.1 A).1)).2.2)
  have bP:d.length<=5000:=by have:=L.1;omega
  by_cases ay:q<(fo st k).items.length
  ·obtain⟨i,b,_,aK,a6,A,_,bf,rfl,_,_,bF,bG,aq,az,bi,bj,bk,bl⟩:=z0w bd ay (zK o);have ah:=zh A;have aX:=zh az;obtain⟨bE,_,ak,a7,G,bV⟩:=zP wr #[i.name,.slice aK i.versions a6] 78;obtain⟨C,V⟩:=TC2 ak;have a1:=zh (z4j aq (zK G));have a3:=zh (length_pos_iff.2 (ad.it i bf).1);have aT:=zh G;have bS:(q:Int)<((fo st k).items.length:Int):=om
   clear A aq az bi bj bk bl ak a7 G;go_wp2_with fail
   refine zcb (zBz i a3 _ bE _ a1) λbC F=>?_;have bX:=zy F C;have v:=zh (zD aT F);have K:=zh (l.below z0r v);have bm:s<=bC.heap.size:=qNtx bn v.size;clear F C V bF bG
   cases aw:yX i with
   | false=>
    have H:=zh (by rw[zB9 ah.o,aw,x.o];simp:d=(((fo st k).items.take (q+1)).filter yX).map Item.name);go_wp2;go_roundw
    case rel=>exact⟨q+1,d,om,gn,K,H,zD o v⟩
    case measure=>exact qMx
   | true=>
    have H:=zh (by rw[zB9 ah.o,aw,x.o];simp:d++[i.name]=(((fo st k).items.take (q+1)).filter yX).map Item.name);go_wp2_with (at_builtin;go_loud (refine yZ (R:=z3u) _ _ rfl (.tmp 30) (.tmp 33) 45 rfl 9 bp _ 1 16 underlying45 be bo a9 bb rfl dc z0r s bm _ _ rfl K _ _ rfl (by simp only[zS]) _ (by intro b g;exact g.elim) ⟨rfl,aX⟩ om dc ?_);intro bZ b0 O an a8;obtain⟨_,_,_,rfl,bh⟩:=O.shape';have aL:=zh O;have aN:=zh an;clear bh O an a8)
    go_roundw
    case rel=>exact⟨q+1,d++[i.name],om,gn,aL,H,Below.grown (zD o v) aN.o om λb g=>(K.base_le b g).1⟩
    case measure=>exact qMx
  obtain rfl:q=(fo st k).items.length:=om
  have aW:=zh (by have:=x.o;rwa [qLnx] at this:d=((fo st k).items.filter yX).map Item.name);go_wp2_with fail
  refine zcm (zNp l (oh L.1) (λB T=>by have:=L.2 B T;omega)) ?_;rintro _ bD ⟨rfl,⟨a5,av,au,ar⟩,Q⟩;have aR:=zh (Below.grown o Q om λb g=>(l.base_le b g).1);have J:=zh (zD u aR);have aO:=zh (HW.below J);have ae:=zh ((J.block _ aJ).trans af);have a0:=ζ (a5=z8d (((fo st k).items.filter yX).map Item.name)) (zOu ar (z6x _).2 (au.trans (by rw[aW.o];exact(z6x _).1.symm)));have a2:=zh av;have aY:=ζ (∀b,(Value.slice Y d aj).ownBlock=some b->s.heap.size<=b/\b<bD.heap.size) (λb g=>⟨(l.base_le b g).1,zll (l.base_le b g).2 Q.size⟩);have y:=ae.o;unfold Z3 at y;obtain⟨C,V,bH,bI,bJ,bK,bL⟩:=zC7 (zB y).1;have bM:=(zB y).2;clear y av au ar Q;go_wp2;try simp only[φ]
  obtain⟨I,F2⟩:=ZC ae '0' '0' "" () (.slice Y d aj) () ();refine zrt I ?_;rw[zGl M.o a0.o];refine ZI aO (Mut.below (zD HB0 J)) (znl _) F2 (zIj (zR7 z0r a2 (λ_ _ e=>e) (λb g=>?_)));obtain⟨_,b2⟩:=aY.o b g;have bT:=u.size;exact mb2
end
end Go.Proofs.YtdggplhnfhcieaaGreatDoor
