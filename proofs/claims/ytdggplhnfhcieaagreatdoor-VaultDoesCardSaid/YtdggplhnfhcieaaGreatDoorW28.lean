/- No condition. -/
import Derived.Test.YtdggplhnfhcieaaGreatDoorW17
import Derived.Test.YtdggplhnfhcieaaGreatDoorW25
import Derived.Test.YtdggplhnfhcieaaGreatDoorW27
set_option linter.all false
set_option maxRecDepth 100000
set_option maxHeartbeats 16000000
namespace Go.Proofs.YtdggplhnfhcieaaGreatDoor
open Go.Proofs.Tryz Cd Ce List
open Go.RowKit Go.Deep
variable {L:List At} {g k n:Nat} {p:Prop} {x:At}
theorem IsMost.nil {p:Int->Prop} {len:Nat} (h:∀e,¬p e):IsMost p len 0:=⟨Int.le_refl _,om,.inl rfl,λe _ _ h1=>absurd h1 (h e)⟩
def AtK (L:List At) (fo:Nm) (k:Nat) (e:Int):Prop:=(⟨fo,e⟩:At)∈L.take k
theorem zBe {fo:Nm} (hx:L[k]? =some x) (e:Int):AtK L fo (k+1) e↔AtK L fo k e\/x=⟨fo,e⟩:=by
 unfold AtK;rw[qLtx,hx,mem_append];simp only[Option.toList_some,mem_singleton];exact or_congr Iff.rfl eq_comm
theorem zBf {fo:Nm} {len:Nat} {x:At} {n:Int} (h:IsMost (AtK L fo k) len n) (hx:L[k]? =some x) (hn:x.name=fo->n<x.seq->(len:Int)<x.seq):IsMost (AtK L fo (k+1)) len n:=by
 obtain⟨e,f,i,j⟩:=h;refine⟨e,f,i.imp id λh=>(zBe hx _).2 (.inl h),λa b d h=>?_⟩;rcases(zBe hx a).1 h with h|h
 ·exact j a b d h
 subst h;have:=hn rfl;dsimp only at this;omega
theorem zP0 {fo:Nm} {len:Nat} {n:Int} (h:IsMost (AtK L fo k) len n) (hx:L[k]? =some x) (h1:x.name=fo) (h2:n<x.seq) (h3:x.seq<=len):IsMost (AtK L fo (k+1)) len x.seq:=by
 obtain⟨_,_,_,e⟩:=h;subst h1;refine⟨om,h3,.inr ((zBe hx _).2 (.inr rfl)),λa b d h=>?_⟩;rcases(zBe hx a).1 h with h|h
 ·have:=e a b d h;omega
 have:x.seq=a:=by rw[h]
 omega
theorem maR (h:p:=by
 go_wp2_with fail
 go_quiet (fail)
 go_wp2;go_roundw
 case rel=>exact⟨k+1,n,om,gn,rfl,hn0,hn100,HN,y8 hbel _⟩
 case measure=>exact qMx):p:=h
theorem zAa (st:State) (V:Small st) (u fo:Nm) (hu:u.size<=1000) (K:List Value) (w:World) (S:Nat->Prop) (h:Z5 S w K st):Calls prog 28 #[.agg K.toArray,u,fo] w λe w'=>(∃n:Int,e= .returned (.int .i64 n)/\IsReach st u fo n)/\bW w w':=by
 have F:=zh (zM h (show Kept S (λaY=>aY<w) w w from λaZ _ az=>⟨az,rfl⟩));have G:=zh V;have ae:=zh hu;clear V hu;replace h:=F.o;obtain⟨aL,aP,aN,aQ,aO,aR,rfl,_,_,_,_,aV,_,_,_,aT,_,_,_,aU⟩:=ZF h;obtain⟨Z,aJ,t,am,D,a6⟩:=zP w (aS st aL aP aN aQ aO aR) 34;have j:=zh D;have E:=zh t;have H:=zh λW (ax:(bW Z W:Prop))=>zM F (zK (zD j ax))
 obtain⟨A,B,C,r⟩:=TC4 t;clear t am D aV aT;go_enter func28,ntmps28
 go_wp2_with fail
 clear aJ A B C r;refine zcb (z18 st fo _ Z _ (H.o _ zbr)) λw1 I=>?_;have m:=zh I;clear I
 cases hF:Z4 st fo with
 | none=>
  rw[z6r hF];have HN:=ζ (IsReach st u fo 0) (.inl ⟨hF,rfl⟩);clear hF;go_wp2;go_ret
  exact⟨⟨0,rfl,HN⟩,zD j m⟩
 | some f=>
  obtain⟨Y,P,q⟩:=z2w hF;rw[P];have a4:=(zge q).1;have a3:(Y:Int)<(st.folders:Int):=om
  have a2:decide ((Y:Int)<0)=false:=η;have a1:f.epochs.length<=1000:=(z5x G (zmg q)).2.1;have aa:=zh hF;have ab:=zh q;obtain⟨A,B,C,r⟩:=TC4 (zyA m E.o);clear hF P q;go_wp2_with fail
  clear A B C r;refine zcm (zOz st G u ae _ w1 _ (H.o _ m)) ?_;rintro e aW ⟨⟨_,L,rfl,aG,M,_⟩,J⟩;have s:=zh (zD m J);have ad:=zh M;obtain⟨_,_,rfl,_,ay,T,aH⟩:=aG;unfold maxLen at ay;clear J M;go_wp2;go_loopw [9,10] (λaK z wr=>∃(k:Nat) (n:Int),k<=L/\z= .int .i64 k/\aK= .int .i64 n/\0<=n/\n<=1000/\Hid (IsMost (AtK L fo k) f.epochs n)/\bW aW wr) (λ_ z _=>L.length-(intOf z).toNat)
  case atStart=>exact⟨0,0,om,gn,rfl,om,om,IsMost.nil (λe h=>by simp[AtK] at h),Below.refl _ _⟩
  obtain⟨k,n,_,rfl,rfl,hn0,hn100,a,hbel⟩:=hrel;by_cases Q:k<L
  rotate_left
  ·obtain rfl:k=L:=om
   have ac:=zh (show IsReach st u fo n from by
    refine .inr ⟨f,aa,?_⟩;obtain⟨an,ao,ap,aq⟩:=a.o;have U:∀e,AtK L fo L e↔z8v st u fo e:=λe=>by unfold AtK;rw[qLnx];exact ad.o fo e
    exact⟨an,ao,ap.imp id (U n).1,λe b d h=>aq e b d ((U e).2 h)⟩)
   clear a;go_wp2;go_ret;exact⟨⟨n,rfl,ac⟩,zD j (zD s hbel)⟩
  obtain⟨x,y⟩:∃x,L[k]? =some x:=⟨_,qLgx Q⟩;obtain⟨_,_,_,au,_,aw,O⟩:=SlAt.elem aH y dc hbel;obtain⟨rfl,_⟩:=z48 aw;obtain⟨aX,a7⟩:=TC2 O;rw[Nat.add_zero] at aX;subst au;obtain⟨_,_,_,ar,_,av,N⟩:=SlAt.elem aU ab dc (zD j (zD s hbel));obtain⟨_,_,_,_,_,_,_,_,_,_,rfl,_,_,_,_,_,ak,_,_,_,ah,_,_,_,ai,_,_,_,al,_,_,_,aj⟩:=Z9 av;have a0:=N 3 _ rfl;subst ar;have r:=zy (zD s hbel) (E.o 3 _ rfl);have o:=zh y;have a5:(k:Int)<(L:Int):=om
  clear y O N Q ak ah ai al aj;by_cases b:x.name=fo
  rotate_left
  ·have aI:(x.name.toList==fo.toList)=false:=YX b;have HN:=zh (zBf a o λh _=>absurd h b);clear b a;exact maR
  have aI:(x.name.toList==fo.toList)=true:=by rw[b];simp
  by_cases d:n<x.seq
  rotate_left
  ·have af:decide (n<x.seq)=false:=Γ d;have HN:=zh (zBf a o λ_ h=>absurd h d);clear b d a;exact maR
  have af:decide (n<x.seq)=true:=Δ d;by_cases i:x.seq<=f.epochs
  ·have ag:decide (x.seq<=(f.epochs:Int))=true:=Δ i;have HN:=zh (zP0 a o b d i);have aB:0<=x.seq:=om
   have T:x.seq<=1000:=om
   clear b d i a;go_wp2_with fail
   go_quiet (fail)
   go_wp2;go_roundw
   case rel=>exact⟨k+1,x.seq,om,gn,rfl,aB,T,HN,y8 hbel _⟩
   case measure=>exact qMx
  have ag:decide (x.seq<=(f.epochs:Int))=false:=Γ i;have HN:=zh (zBf a o λ_ _=>om);clear b d i a;exact maR
def z9n (st:State) (u fo it:Nm) (n:Int) (w:World) (e:Ending) (w':World):Prop:=(∃b:Bool,e= .returned (.bool b)/\(b=true↔z0j st u fo it n))/\bW w w'
theorem maW (h:p:=by
 exact⟨⟨false,rfl,⟨λh=>(by cases h),λh=>absurd h HNO⟩⟩,zD HB0 HB1⟩):p:=h
theorem zHf (st:State) (ao:Small st) (u fo it:Nm) (n:Int) (hu:u.size<=1000) (hn:I64 n) (ah:List Value) (w:World) (S:Nat->Prop) (h:Z5 S w ah st):Calls prog 29 #[.agg ah.toArray,u,fo,it,n] w (z9n st u fo it n w):=by
 have G:=zh (zM h (show Kept S (λbu=>bu<w) w w from λaI _ a7=>⟨a7,rfl⟩));have ay:=zh ao;have aG:=zh hu;clear ao hu hn;replace h:=G.o;obtain⟨Q,U,T,V,bi,Y,rfl,_,_,_,_,bl,_,_,_,bj,_,_,_,bk⟩:=ZF h;obtain⟨ar,bd,J,aQ,Z,bH⟩:=zP w (aS st Q U T V bi Y) 34;have HB0:=zh Z;have aa:=zh J;have aB:=zh λW (y:(bW ar W:Prop))=>zM G (zK (zD HB0 y))
 obtain⟨bf,bg,bh,P⟩:=TC4 J;clear J aQ Z bl bj;go_enter func29,ntmps29
 go_wp2_with fail
 clear bd bf bg bh P;refine zcb (z18 st fo _ ar _ (aB.o _ zbr)) λw1 ae=>?_;have HB1:=zh ae;clear ae
 cases hF:Z4 st fo with
 | none=>
  rw[z6r hF];have HNO:=ζ (¬z0j st u fo it n) (λ⟨g,_,_,h,_⟩=>by rw[hF] at h;cases h);clear hF;go_wp2;go_ret;unfold z9n
  exact maW
 | some f=>
  obtain⟨j,D,M⟩:=z2w hF;rw[D];have bE:=(zge M).1;have bC:(j:Int)<(st.folders:Int):=om
  have bB:decide ((j:Int)<0)=false:=η;have C:=zh hF;obtain⟨ag,ap,_,a1,_,a3,aj⟩:=SlAt.elem bk M dc (zD HB0 HB1);obtain⟨_,_,_,_,_,_,_,_,_,_,rfl,_,_,_,_,_,aO,_,_,_,aK,_,_,_,aL,_,_,_,aP,_,_,_,aN⟩:=Z9 a3;have aJ:=aj 4 _ rfl;subst a1;have P:=zy HB1 (aa.o 3 _ rfl);clear hF D M aj aO aK aP aN;go_wp2;clear P aJ;go_loop [13] (λO=>∃k:Nat,k<=f.items/\O= .int .i64 k/\Hid (∀m∈f.items.take k,isI it m=false)) (λO=>f.items.length-(intOf O).toNat)
  case atStart=>exact⟨0,om,gn,λm be=>by simp at be⟩
  obtain⟨k,_,rfl,o⟩:=hrel;by_cases an:k<f.items
  rotate_left
  ·obtain rfl:k=f.items:=om
   have HNO:=zh (show ¬z0j st u fo it n from by
    rintro⟨g,m,_,e,b,_⟩;obtain rfl:f=g:=zsi (C.symm.trans e);rw[zDk (p:=isI it) (l:=f.items) (by have:=o.o;rwa [qLnx] at this)] at b;cases b)
   clear o;go_wp2;go_ret;unfold z9n;exact maW
  obtain⟨x,N⟩:∃x,f.items[k]? =some x:=⟨_,qLgx an⟩;obtain⟨aI,_,_,aZ,_,a2,ak⟩:=SlAt.elem aL N dc (zD HB0 HB1);obtain⟨_,_,rfl,_,_,_,_,av⟩:=z4f a2;obtain⟨bm,bJ⟩:=TC2 ak;rw[Nat.add_zero] at bm;subst aZ;have bF:(k:Int)<(f.items:Int):=om
  have ad:=zh N;clear N ak an;by_cases d:x.name=it
  rotate_left
  ·have bc:(x.name.toList==it.toList)=false:=YX d;have ax:=zh (z0i o ad (by unfold isI;exact Γ d:isI it x=false));clear d o;go_wp2;go_round
   case rel=>exact⟨k+1,om,gn,ax⟩
   case measure=>exact qMx
  have bc:(x.name.toList==it.toList)=true:=by rw[d];simp
  have I:=zh (z7t o ad (by unfold isI;exact Δ d:isI it x=true));clear d o;have ac:Hid (∀B:Int,1<=B->∀v,n=B->B<=x.versions->x.versions[(B-1).toNat]? =some v->∀r,IsReach st u fo r->(z0j st u fo it n↔(v.gone=false/\1<=v.epoch/\v.epoch<=r))):=by
   intro B a8 v d a9 s r i;subst d;constructor
   ·rintro⟨g,m,bn,e,b,_,_,aU,aV,aW,_,aX,aY⟩;obtain rfl:f=g:=zsi (C.symm.trans e);obtain rfl:x=m:=zsi (I.symm.trans b);obtain rfl:v=bn:=zsi (s.symm.trans aU);obtain rfl:=aX.one i;exact⟨aV,aW,aY⟩
   ·rintro⟨e,b,aT⟩;exact⟨f,x,v,C,I,a8,a9,s,e,b,r,i,aT⟩
  by_cases z:n<1
  ·have HNO:=ζ (¬z0j st u fo it n) (λ⟨_,_,_,_,_,h,_⟩=>om);have ba:decide (n<1)=true:=Δ z;clear z;go_wp2;go_ret;unfold z9n;exact maW
  have ba:decide (n<1)=false:=Γ z;by_cases E:(x.versions:Int)<n
  ·have HNO:=zh (show ¬z0j st u fo it n from λ⟨g,m,_,e,b,_,bA,_⟩=>by
    obtain rfl:f=g:=zsi (C.symm.trans e);obtain rfl:x=m:=zsi (I.symm.trans b);omega)
   have bb:decide ((x.versions:Int)<n)=true:=Δ E;clear z E;go_wp2;go_ret;unfold z9n;exact maW
  have bb:decide ((x.versions:Int)<n)=false:=Γ E;obtain⟨a,rfl⟩:∃j:Nat,n=(j:Int)+1:=⟨(n-1).toNat,om⟩;have a6:a<x.versions:=om
  obtain⟨v,s⟩:∃v,x.versions[a]? =some v:=⟨_,qLgx a6⟩;have HGQ:=zh (λr i=>ac ((a:Int)+1) om v rfl om (by rw[show((a:Int)+1-1).toNat=a by omega];exact s) r i);obtain⟨_,_,_,a0,_,a4,al⟩:=SlAt.elem av s dc (zD HB0 HB1);obtain⟨bq,br,rfl,_,_,_,_,_,bs⟩:=z6n a4;obtain⟨bo,bp,bK,bL⟩:=TC4 al;rw[Nat.add_zero] at bo;subst a0;have bG:IntKind.i64.wrap ((a:Int)+1-1)=(a:Int):=by rw[IntWalk.i64_in _ om];omega
  have bD:(a:Int)<(x.versions:Int):=om
  clear z E s al ac av bs;obtain⟨g,am⟩:=Ξ v.gone;rw[am] at bp HGQ;clear am;obtain⟨au,_,K,aR,F,bI⟩:=zP w1 #[v.epoch,.bool g,v.who,.slice bq v.data br] 80;have HB5:=zh (zD (zD HB0 HB1) F);have ab:=zh K;have aw:=zh F;obtain⟨bv,bx⟩:=TC2 K;clear K aR F;obtain⟨aq,A⟩:=zBr st u fo
  cases g with
  | true=>
   have HNO:=ζ (¬z0j st u fo it ((a:Int)+1)) (λh=>by have:=((HGQ.o aq A).1 h).1;cases this);clear A;go_wp2;go_quiet (fail)
   go_wp2;go_ret;unfold z9n
   exact maZ
  | false=>
   by_cases q:1<=v.epoch
   rotate_left
   ·have HNO:=ζ (¬z0j st u fo it ((a:Int)+1)) (λh=>q ((HGQ.o aq A).1 h).2.1);have a5:decide (1<=v.epoch)=false:=Γ q;clear A q;go_wp2;go_quiet (fail)
    go_wp2;go_ret;unfold z9n;exact maZ
   have a5:decide (1<=v.epoch)=true:=Δ q;have HE:=zh q;have az:=zh (show ∀W:World,((bW au W:Prop))->(λW:World=>(cL W w 0 st.turn/\cL W w 1 (.slice Q st.users U)/\cL W w 2 (.slice T st.deposits V)/\cL W w 3 (.slice (some ⟨ag,ap,none⟩) st.folders Y))/\cL W w1 0 v.epoch/\cL W w1 1 false) W from λW y=>by
    have c:=λj v (D:((aS st Q U T V (some ⟨ag,ap,none⟩) Y):Array Value)[j]? =some v)=>zy (zD HB1 (zD aw y)) (aa.o j v D)
    exact⟨⟨c 0 _ rfl,c 1 _ rfl,c 2 _ rfl,c 3 _ rfl⟩,zy y (ab.o 0 _ rfl),zy y (ab.o 1 _ rfl)⟩)
   clear A q;go_wp2;have H:=az.o;refine zE kr H (λt=>?_);refine zi 0 ?_;iterate 14 (refine zt t ?_;simp only[zA])
   refine zo ?_;refine zr 14 λaH ai=>?_
   go_simp;go_at_call 28
   refine zcm (zAa st ay u fo aG _ _ _ (zM G (zK (zD HB5 zbr.drew)))) ?_;rintro bz bt ⟨⟨r,rfl,i⟩,af⟩;have B6:=ζ (bW au bt:Prop) (zD zbr.drew af);clear af t;refine ai.o _ _ (H _ B6.o) (λt=>?_);clear ai aH;have HRR:=zh i;clear i;refine zi 15 ?_;iterate 3 (refine zt t ?_;simp only[zA])
   refine zo ?_;refine wpAnyH_done kr ?_ _;clear t H;go_wp2;go_ret;unfold z9n;exact mbw
section
variable {X:Nat->Prop} {base bw:Nat} {W W1:World} {R R1:RM} {c:Call} {dv:Value} {st:State} {done late:Bool}
theorem WK.sub2 (h:WK X base bw W R c dv st done late) {i a:Nat} {f f':Folder} (E:st.folders[i]? =some f) (ha:foAt R i g a) {j:Nat} (G:R1 .us=R .us) (D:R1 .de=R .de) (d:R1 .fo=R .fo) (hj:j<7)
  (q:OS base W1 R1) (o:Mut bw R W R1 W1) (s:W1.heap[bw]? =W.heap[bw]?) {u:Value} (hu:u.oneCell'=true)
  (is:Kept (Imm X bw R W) (Imm X bw (zO R1 .fo (yI R i ((hdr R i f).set j u))) (W1.setCell (aD g (a+j)) u)) W (W1.setCell (aD g (a+j)) u)->
   IsSt (Imm X bw (zO R1 .fo (yI R i ((hdr R i f).set j u))) (W1.setCell (aD g (a+j)) u)) (W1.setCell (aD g (a+j)) u) (zO R1 .fo (yI R i ((hdr R i f).set j u))) { st with folders:=st.folders.set i f' }):
  WK X base bw (W1.setCell (aD g (a+j)) u) (zO R1 .fo (yI R i ((hdr R i f).set j u))) c dv { st with folders:=st.folders.set i f' } done late/\
  Mut bw R W (zO R1 .fo (yI R i ((hdr R i f).set j u))) (W1.setCell (aD g (a+j)) u):=by
 obtain⟨_,_,r,b,rfl⟩:=ha;have m:=q.row .fo;rw[d,b] at m;obtain⟨B,_⟩:=h.is.fo i f E;have H:=m.write (by decide:0<RK.fo.sz) B (show j<RK.fo.sz from hj) u hu;have F:z01 R g:=⟨.fo,by rw[b];rfl⟩;obtain⟨J,I⟩:=q.put (bw:=bw) (W':=W1.setCell (aD g (r+i*7+j)) u) (qNtx h.base_le o.but.size) .fo (yI R i ((hdr R i f).set j u))
  ((ButB.refl _ W1).set ⟨g,r+i*7+j,none⟩ u (by rw[d,b];rfl)) (by unfold yI;rw[b];exact H) (by have:=h.os.len .fo;simpa[yI] using this) (λK C=> .inl (by rw[d];exact C))
 have e:=o.trans I;refine⟨h.turn e J (is e.kept) ?_,e⟩;rw[Below.heap_setCell _ _ _ _ λt=>h.nb (by rw[show bw=g from t];exact F),s,h.box];have y:(zO R1 .fo (yI R i ((hdr R i f).set j u))) .us=R .us:=by rw[yB _ _ dc,G]
 have z:(zO R1 .fo (yI R i ((hdr R i f).set j u))) .de=R .de:=by rw[yB _ _ dc,D]
 have A:((zO R1 .fo (yI R i ((hdr R i f).set j u))) .fo).v=(R .fo).v:=by rw[YQ];rfl
 unfold z42;rw[y,z,A]
theorem WK.itTo (h:WK X base bw W R c dv st done late) {f:Nat} (hk:k<st.folders) (ha:foAt R k g f) {v':Value} {s:Nm} (hs:s.size<=()) (D:(fo st k).items.length<=9999) (hr:RowC 78 2 W1 v' ((R (.it k)).cells++[([.string s,()]:List Value)])) (hb:ButB (λB=>(R (.it k)).v.ownBlock=some B) W W1)
  (o:v'.ownBlock=(R (.it k)).v.ownBlock\/∃k,v'.ownBlock=some k/\W.heap.size<=k) (q:v'.oneCell'=true):
  Wrote X base bw W R c dv late (setF st k { fo st k with items:=(fo st k).items++[⟨s,[]⟩] }) done (W1.setCell (aD g (f+4)) v'):=by
 have b:=ZT hk;have C:(R (.it k)).cells.length=(fo st k).items.length:=(h.is.fo k _ b).2.itl;obtain⟨z,e,i,_⟩:=h.put (W':=W1) (.it k) ⟨v',(R (.it k)).cells++[([.string s,()]:List Value)]⟩ hb hr (by simp;omega) (λd hb=>o.imp (λa=>by rw[<-a];exact hb) λ⟨E,a,m⟩=>by
  rw[show v'.ownBlock=some d from hb] at a;obtain rfl:=zsi a;exact m)
 obtain⟨A,y⟩:=z.put (bw:=bw) (W':=W1) (qNtx h.base_le e.but.size) (.ve k (fo st k).items.length) ⟨.slice none 0 0,[]⟩ (ButB.refl _ _) (RowC.nil _) sm (λd hb=>by cases hb);obtain⟨h8,m8⟩:=h.sub2 b ha (j:=4) (u:=v') (f':={ fo st k with items:=(fo st k).items++[⟨s,[]⟩] }) (by rw[yB _ _ sm,yB _ _ sm]) (by rw[yB _ _ sm,yB _ _ sm]) (by rw[yB _ _ sm,yB _ _ sm]) om A (e.trans y) i q λt=>h.is.itNew (r:=⟨v',(R (.it k)).cells++[([.string s,()]:List Value)]⟩) b t hs rfl
 exact mb1
end
theorem VInv.smF {st:State} (h:VInv n st) (hn:n<=41):SmF st:=λb d=>by
 have hF:=h.fol b d;obtain⟨k,a,rfl⟩:∃k,k<st.folders.length/\fo st k=b:=by
  obtain⟨k,a,e⟩:=getElem_of_mem d;exact⟨k,a,by unfold fo;rw[qLgx a,e];rfl⟩
 obtain⟨_,_⟩:=z5r h hn a;exact⟨by have:=hF.nm;omega,om,hF.man,om⟩
theorem Mut.block {X:Nat->Prop} {bw:Nat} {W W':World} {R R':RM} (m:Mut bw R W R' W') {b:Nat} (hb:Imm X bw R W b):W'.heap[b]? =W.heap[b]?/\Imm X bw R' W' b:=by
 obtain⟨a,d⟩:=m.kept (X:=X) b hb hb.1;exact⟨d,a⟩
section
variable {X:Nat->Prop} {base bw:Nat} {W W':World} {R R':RM} {c:Call} {dv:Value} {st:State} {done late:Bool}
theorem Mut.own (h:WK X base bw W R c dv st done late) (m:Mut bw R W R' W') {b:Nat} (hx:X b):W'.heap[b]? =W.heap[b]? :=m.but.block b (h.xl b hx) λe=>h.nx b (e.symm.imp id id) hx
theorem zKy (h:VInv n st) (hk:k<st.folders) (s who:Nm):∃a,(if yH st s then z1g st k who else st)=setF st k a/\a.name=(fo st k).name/\a.manifests=(fo st k).manifests/\a.items=(fo st k).items/\FInv n (st.users.map User.name) a/\yA a<=yA (fo st k)+1:=by
 by_cases b:yH st s=true
 ·obtain⟨a,d,e,f,i,j,_⟩:=zKp h hk who;exact⟨a,by rw[if_pos b,d],e,f,i,j,om⟩
 exact⟨fo st k,by rw[if_neg b,z8r],rfl,rfl,rfl,h.atF hk,om⟩
def z7n (st:State) (k:Nat) (s:Nm):Bool:=match z00 (fo st k) s with
 | none=>decide (32<=(fo st k).items.length)
 | some j=>decide (256<=(ZY (fo st k) j).versions.length)
def z2p (f1:Folder) (s:Nm):Option Nat->Folder
 | none=>{ f1 with items:=f1.items++[⟨s,[]⟩] }
 | some _=>f1
def zB6 (f1:Folder) (i:Option Nat):Nat:=i.getD f1.items
theorem zVe {f1:Folder} {i:Option Nat} (s:Nm) (who:Nm) (b:List Int) (hi:∀j,i=some j->f1.items[j]? =some (ZY f1 j)) {N:Nat} (d:∀x∈f1.items,x.versions<=N):∃it,(z2p f1 s i).items[zB6 f1 i]? =some it/\it.versions.length<=N/\(z2p f1 s i).epochs=f1.epochs/\(z2p f1 s i).turn=f1.turn/\
  ∀(st:State) (k:Nat),k<st.folders->z3z (setF st k f1) k i s ⟨0,false,who,b⟩=(setF st k { z2p f1 s i with items:=(z2p f1 s i).items.set (zB6 f1 i) { it with versions:=it.versions++[⟨f1.epochs,false,who,b⟩] },turn:=f1.turn+1 },it.versions.length+1):=by
 cases i with
 | none=>
  refine⟨⟨s,[]⟩,by simp[z2p,zB6],Nat.zero_le _,rfl,rfl,λst k a=>?_⟩;unfold z3z;rw[z24 a];dsimp only;rw[z2k]
  simp[z2p,zB6]
 | some j=>
  refine⟨ZY f1 j,hi j rfl,d _ (zmg (hi j rfl)),rfl,rfl,λst k a=>?_⟩;unfold z3z;rw[z24 a];dsimp only;rw[z2k];rfl
theorem mb7 (h:p:=by
 go_wp2;go_meet
 case rel=>exact⟨by rw[HX2.o],rfl⟩):p:=h
theorem mca (h:p:=by
 have HWr:=zh hWr;clear hWr;go_wp2;go_meet
 case rel=>exact zh (by simp only[if_true];exact HWr)):p:=h
theorem zTa (h:WK X base bw W R c dv st false late) (ar:VInv n st) (hn:n<=40) (hk:ZB st c.folder=some k) (b1:c.data.length<=10000):
  Calls prog 92 #[pT bw] W (Did X base bw W R c dv late (z3l st c k)):=by
 obtain⟨dX,dK,dW,dB,dD⟩:=info_parts (show(prog.info? 78).map (λba=>(ba.zero,ba.size,ba.bytes))=some (some (.agg #["",()]),2,40) from kr);have HK:=zh hk;have m:=zh (z0l (yO hk));have K:=zh (ar.atF m);have aK:=zh (z5r ar om m);have B:=zh ar;have bu:=zh (z32 (yO hk));obtain⟨G,cc⟩:=Ξ (W.alloc (.cells Z3 49));have bZ:=yQ W;rw[cc] at bZ;obtain⟨bX,bk,bJ,bj⟩:=bZ;have r:=bX R h;have aX:=zh r;have aV:=zh bJ;have HB0:=zh bk;have eX:=r.lt;clear bX bk bJ;obtain⟨z,C,T,dM,cb,b2,b7,b8,dR,dT,bM,dw,bN,bO⟩:=yG r.call;obtain rfl:dv= .slice z c.data C:=by simpa[z4m] using T
 obtain⟨d4,d5,d6,d8,d9,bh,ea,eb⟩:=TC8 r.cells.1;obtain⟨ek,dU,du,dx,aI,bg⟩:=zP G (aC c z C) 41;have aO:=zh (zbx dU);have cQ:=ζ (Sl 1 Y1 (Imm (λe=>X e\/e=W) bw R G) G (.slice z c.data C) c.data) ⟨z,C,rfl,bM,by unfold maxLen;exact dw,bN,bO⟩;have bF:=ζ (c.user.size<=()/\c.folder.size<=()/\c.name.size<=()/\c.other.size<=()) ⟨cb,b2,b7,b8⟩;have cO:=zh aI;have aY:=zh (r.below aI);have c5:=ζ (Imm (λe=>X e\/e=W) bw R ek G) ⟨bg,λj=>by have:=r.lt;omega,λj=>by have:=r.os.lt j;omega,λj=>by have:=r.xl _ j;omega⟩;clear T dM cb b2 b7 b8 dR dT bM bN bO du dx aI;have bs:=zh b1;clear h hk r ar b1;unfold Z3 at cc;go_enter func92,ntmps92
 have az:=ψ aO 2 _ rfl;go_wp2_with fail
 refine zcm (YK aY c.folder) ?_;rintro a2 w1 ⟨⟨hno,rfl⟩|⟨dY,g,d1,b6,a8,rfl⟩,aH⟩
 ·exact ma6
 obtain rfl:_=dY:=zsi (HK.symm.trans b6);have bq:=zh aH;have J:=zh a8;have bl:=zh (aY.below aH);obtain⟨et,eM,eu,eO,ev,eP,D5,eQ,ew,eR,bQ,hF,ec,ed,ee,ef,cu,eg,eh,dG,eT⟩:=bl.fold (ZT m) a8;have cU:=zh bQ;clear aH b6 a8 bQ hF;clear d4 d5 d6 d8 d9 bh ea eb az;have c7:=zh ((bq.block _ bg).trans aO);have ce:=ψ c7 3 _ rfl;go_wp2_with fail
 refine zcb (z9e bl m J c.name) λej ab=>?_;have br:=zh (zD bq ab);have H2:=zh (aY.below br);have cv:=zy ab cu;have dH:g<ej:=zll dG ab.size;clear ab ec ed ee ef cu eg eh ce;go_wp2_with fail
 refine zcb (z6g H2 m J) λcw ac=>?_;have aN:=zh (zD br ac);have ai:=zh (zD cO aN);have Z:=zy ac cv;have eV:g<cw:=zll dH ac.size;have af:=zh (aX.below ai);have aQ:=zh ((aN.block _ bg).trans aO);clear ac cv;by_cases V:ZS st k c.user<2
 ·have dJ:decide (ZS st k c.user<2)=true:=Δ V;go_wp2_with fail
  refine zcb (ZU _ _) λel H=>?_;obtain⟨BW,H2,aZ,cz,cA,cB,cC,cD,cE,cF,cH⟩:=zW ai H aX bj aV;clear H;unfold ZV;go_wp2;try simp only[φ]
  obtain⟨I,F2⟩:=ZC aZ.o (.int .i64 40) '0' "" () () () ();refine zrt I ?_;rw[show(z3l st c k)=(st,ZD 40,false) from by unfold z3l;rw[if_pos V]];exact mai
 have dJ:decide (ZS st k c.user<2)=false:=Γ V;have bE:=zh V;clear V;go_upto_region 6 with fail
 generalize b4:iOf (z00 (fo st k) c.name)=ay;have al:=zh b4;clear b4;go_cut [24] from 25 to 50 (λd7 aa=>d7= .bool (z7n st k c.name)/\aa=cw)
 case first=>
  cases y:z00 (fo st k) c.name with
  | none=>
   have am:=zh (by unfold z7n;rw[y]:z7n st k c.name=decide (32<=(fo st k).items.length));obtain rfl:ay= -1:=by rw[<-al.o,y];rfl
   clear y;by_cases av:32<=(fo st k).items.length
   ·have b0:decide (32<=((fo st k).items.length:Int))=true:=θ;have HX2:=ζ (z7n st k c.name=true) (am.trans (Δ av));clear av am;exact mb7
   have b0:decide (32<=((fo st k).items.length:Int))=false:=η;have HX2:=ζ (z7n st k c.name=false) (am.trans (Γ av));clear av am;exact mb7
  | some q=>
   have O:=zh (z3n y);have bH:=ζ ((ZY (fo st k) q).versions.length<=41) (qNtx (K.it _ (zmg O.1)).2.1 om);have HX2:=zh (by unfold z7n;rw[y];exact Γ (oh bH.o):z7n st k c.name=false);obtain⟨eS,e7,eI,es,eF,a2,eD,eE,eW,eY,eZ,dF⟩:=af.itCells m J O.1;have a3:=cU.o;simp only[hdr,cons.injEq] at a3;have D:=a3.2.2.2.2.1.symm.trans a2;simp only[Value.slice.injEq] at D;obtain⟨rfl,_,rfl⟩:=D;have b5:(q:Int)<((fo st k).items.length:Int):=by have:=(zge O.1).1;omega
   have b0:decide (256<=((ZY (fo st k) q).versions.length:Int))=false:=Γ (oh bH.o);obtain rfl:ay=(q:Int):=by rw[<-al.o,y];rfl
   clear y a3 a2 dF;exact mb7
 obtain⟨rfl,dV⟩:=hcut;subst dV
 cases U:z7n st k c.name with
 | true=>
  go_wp2_with fail
  refine zcb (ZU _ _) λel H=>?_;obtain⟨BW,H2,aZ,cz,cA,cB,cC,cD,cE,cF,cH⟩:=zW ai H aX bj aV;clear H;unfold ZV;go_wp2;try simp only[φ]
  obtain⟨I,F2⟩:=ZC aZ.o (.int .i64 3) '0' "" () () () ();refine zrt I ?_;rw[show(z3l st c k)=(st,ZD 3,false) from by unfold z3l;rw[if_neg (oh bE.o)];unfold z7n at U;split at U<;>rename_i dQ<;>rw[dQ]<;>dsimp only<;>rw[if_pos (of_decide_eq_true U)]]
  exact mai
 | false=>
  have c0:=zh U;obtain⟨_,_,_,_,_,_,_,_,cs,ct,cq,cr⟩:=TC12 af.cells.1;have az:=ψ aQ 2 _ rfl;clear U Z;go_upto_region 8 with fail
  have aU:=zh (HQb5 (zyB cs) (zyB ct) (zyB cq) (zyB cr) (zyB az));refine zE kr aU (λaq=>?_);refine zi 0 ?_;iterate 6 (refine zt aq ?_;simp only[zA])
  refine zo ?_;refine zr 6 λdt bY=>?_
  go_simp;go_at_call 144
  refine zcb (zI0 st c.folder bF.2.1 _ _ (λ_=>True) (af.below zbr.drew).state) λcx bK=>?_;have A:(bW wc cx:Prop):=zD zbr.drew bK;clear bK aq;refine bY.o _ _ (aU.o _ A) (λaq=>?_);clear bY dt;refine wpAnyH_done kr ?_ _;clear aq aU;have aL:=zh (zD ai A);have aJ:=zh (af.below A);have cP:=zh (zD aN A);have c8:=zh ((A.block _ (zI aQ)).trans aQ);clear A cs ct cq cr az;generalize b9:yH st c.folder=cp;have dr:=zh b9;clear b9;go_upto_if 58 with fail
  go_cut [] from 59 to 61 (λaa=>Hid (Wrote (λe=>X e\/e=W) base bw cx R c (.slice z c.data C) late (if cp=true then z1g st k c.user else st) false aa))
  case first=>
   cases cp with
   | true=>
    go_wp2_with fail
    refine zcm (zOl aJ m J (by rw[bu.o.2.1];exact bu.2.2) (B.smF om) K.wr (oh aK.o) K.ep (oh aK.o) (λd0 dN=>qNtx (K.mn d0 dN).2.1 dc)) ?_;rintro D fb ⟨rfl,hWr⟩;exact mca
   | false=>
    go_wp2;go_meet
    case rel=>exact zh (by rw[if_neg sm];exact Wrote.refl aJ)
  have HWr:=hcut;rw[<-dr.o] at HWr;obtain⟨E,a5,a6,a7,dy,bR,dz⟩:=zKy B m c.folder c.user;rw[a5] at HWr;have aW:=zh (B.put m a6 (bR.mono (Nat.le_succ _) λ_ j=>j) om (by rw[z35 a7]) (by rw[z35 a7]));obtain⟨eC,bT,cf,D⟩:=HWr.o;have bp:=zh (J.keep D);have aR:=zh (by rw[z0m];exact m:k<(setF st k E).folders.length);have cV:=zh (z24 (f:=E) m);have cZ:=zh (by rw[z4i B.o.names m.o a6,if_pos rfl]:Z4 (setF st k E) E.name=some E);have bo:=zh (z5r aW om aR);have cY:=zh (aW.atF aR);have cK:=zh bT;have de:=zh cf;obtain⟨b,bc,d2,d3,cj,ck,cl⟩:=zKq (c:=c) B m;have dj:=zh (by rw[<-a5];exact bc c.user rfl:yN (setF st k E) k=setF st k b);have aj:=zh cj;have dm:=zh (bc c.user rfl);have cX:=zh ck;have ds:=zh cl;clear hcut HWr a5 a6 a7 dy bR dz bT cf D bc d2 d3 cj ck cl;go_wp2_with fail
  refine zcm (zAz cK aR bp (by rw[cV.o];exact cZ) (aW.smF om) cY.wr (oh bo.o) (oh bo.o)) ?_;rintro a4 bi ⟨rfl,hWr⟩;rw[dj.o] at hWr;obtain⟨Q,bU,cg,a4⟩:=hWr;have ah:=zh (bp.keep a4);have u:=zh bU;have P:=zh (de.trans cg);clear bU cg a4;have cR:=zh (cQ.keep rByte_ok dc (((Mut.below aL).trans P).kept));have c6:=zh (((Mut.own aJ P (.inr rfl)).trans (aL.block _ bj)).trans aV);have bv:=zh (Mut.block (Mut.below cP) c5).2;have bC:=zh ((Mut.block P bv).1.trans c8);have aT:=zh (by rw[z0m];exact m:k<(setF st k b).folders.length);have ak:=zh (z24 (f:=b) m);have bD:=zh (by rw[aj.o];have:=aK.o;omega:b.items.length<=5000);go_upto_if 66 with fail
  generalize b3:z00 (fo st k) c.name=d;have M:=zh b3;have c3:=zh (Mut.block P bv).2;clear b3;go_cut [5] from 67 to 83 (λbh aa=>bh= .int .i64 (zB6 b d)/\Hid (Wrote (λe=>X e\/e=W) base bw bi Q c (.slice z c.data C) late (setF st k (z2p b c.name d)) false aa))
  case first=>
   cases d with
   | some q=>
    obtain rfl:ay=(q:Int):=by rw[<-al.o,M.o];rfl
    have HWr:=zh (Wrote.refl u);go_wp2;go_meet
    case rel=>exact⟨rfl,HWr.o⟩
   | none=>
    obtain rfl:ay= -1:=by rw[<-al.o,M.o];rfl
    obtain⟨ex,e0,ey,e1,ae,ax,ez,e2,eA,e3,ap,dE,em,en,eo,ep,cy,eq,er,dI,bS⟩:=u.fold (ZT aT) ah;rw[ak.o] at ap cy;have aw:(Q (.it k)).v= .slice ae b.items ax:=by
     simp only[hdr,cons.injEq] at ap;exact ap.2.2.2.2.1
    have bG:=zh aw;have dq:=zh (by rw[<-aw];exact u.os.row (.it k):RowC 78 2 bi (.slice ae b.items ax) (Q (.it k)).cells);have db:=zh (show(Q (.it k)).cells.length<=9999 from by
     have:=(u.is.fo k _ (ZT aT)).2.itl;rw[ak.o] at this;rw[this];have:=bD.o;omega)
    have dh:=zh (show(Value.slice ae b.items ax).ownBlock≠some g from λj=>by
     rw[<-aw] at j;obtain⟨e5,eG,e6,dS,_⟩:=ah.o;have:=u.os.inj (.it k) .fo g j (by rw[dS];rfl);cases this)
    have ce:=ψ bC 3 _ rfl;have c1:=zh bS;clear ap dE aw em en eo ep eq er bS;go_wp2_with fail
    go_region_law (refine z1y bi _ [c.name,()] rfl (.tmp 76) (.tmp 80) 70 rfl dX _ 40 underlying70 dK dW dB dD rfl dc dc (.slice ae b.items ax) (Q (.it k)).cells rfl _ _ rfl dq gg (Nat.le_succ_of_le db) rfl (by intro e9 ca;simp at ca;rcases ca with rfl|rfl<;>rfl) (by repeat' first|with_reducible assumption|((with_reducible first|refine Z2 _ ?_ ?_|apply zJ);rotate_left;first|with_reducible rfl|((try dsimp only);first|with_reducible assumption|omega|(simp only[zS];done)|(simp only[zS];omega)))|with_reducible apply zH|with_reducible refine zR _ ?_|with_reducible refine ZQ ?_|refine(rfl:(_:Array Value)=_)) ?_;intro ei aB t bd ci;obtain⟨aG,e4,eJ,rfl⟩:=t.shape3;have dp:=zh t;have dk:=zh bd;have di:=zh ci;have bb:=bd.block g dI dh;have e8:=(World.cell?_of_block (a:=⟨g,d1+4,none⟩) bb).trans cy;have fc:∀be,aB.frozen? (aD g be)=false:=(λbe=>by unfold World.frozen?;rw[bb];exact c1.o be);clear bb t bd ci)
    all_goals
     have HWr:=zh (u.itTo aT ah (s:=c.name) bF.2.2.1 (by rw[ak.o];have:=bD.o;omega) dp (by rw[bG.o];exact dk) (by rw[bG.o];exact di) rfl);rw[ak.o,z2k] at HWr;go_wp2;go_meet
     case rel=>exact⟨rfl,HWr.o⟩
  obtain⟨rfl,HWr.o⟩:=hcut;obtain⟨o,cm,cn,bf,Z,co⟩:=zVe (f1:=b) (i:=d) c.name c.user c.data (λq b5=>by
   have dL:z00 (fo st k) c.name=some q:=M.trans b5;have:=z3n dL;have j:ZY b q=ZY (fo st k) q:=by unfold ZY;rw[aj.o]
   rw[j,aj.o];exact this.1) (N:=41) (λx cd=>by rw[aj.o] at cd;exact qNtx (K.it x cd).2.1 om)
  obtain⟨bI,bV,Y,T⟩:=HWr.o;have ag:=zh bV;have df:=zh Y;have cM:=zh (ah.keep T);have da:=zh (by rw[z0m];exact m:k<(setF st k (z2p b c.name d)).folders.length);have aP:=zh (z24 (f:=z2p b c.name d) m);have c9:=zh ((Mut.block Y c3).1.trans bC);have cS:=zh (cR.keep rByte_ok dc Y.kept);have bA:=zh ((Mut.own u Y (.inr rfl)).trans c6);have O:=zh (by rw[aP.o];exact cm:(fo (setF st k (z2p b c.name d)) k).items[zB6 b d]? =some o);have bx:=zh cn;have bt:=zh (by rw[aP.o];exact⟨bf,Z⟩:(fo (setF st k (z2p b c.name d)) k).epochs=b.epochs/\(fo (setF st k (z2p b c.name d)) k).turn=b.turn);have dZ:=ψ c9 7 _ rfl;have dl:=zh (show z3l st c k=(setF (setF st k (z2p b c.name d)) k { fo (setF st k (z2p b c.name d)) k with items:=(fo (setF st k (z2p b c.name d)) k).items.set (zB6 b d) { o with versions:=o.versions++[⟨((fo (setF st k (z2p b c.name d)) k).epochs.length:Int),false,c.user,c.data⟩] },turn:=(fo (setF st k (z2p b c.name d)) k).turn+1 },Y2 ((o.versions:Int)+1),true) from by
   rw[aP.o,z2k,bf,Z];have dO:z5q st c k=(setF st k { z2p b c.name d with items:=(z2p b c.name d).items.set (zB6 b d) { o with versions:=o.versions++[⟨b.epochs,false,c.user,c.data⟩] },turn:=b.turn+1 },o.versions.length+1):=by
    unfold z5q;dsimp only;rw[dm.o,M.o];exact co st k m
   have dP:z3l st c k=((z5q st c k).1,Y2 (z5q st c k).2,true):=by
    have F:=c0.o;unfold z3l;rw[if_neg (oh bE.o)];unfold z7n at F;rw[M.o] at F⊢
    cases d with
    | none=>dsimp only at F⊢;rw[if_neg (of_decide_eq_false F)]
    | some q=>dsimp only at F⊢;rw[if_neg (of_decide_eq_false F)]
   rw[dP,dO];simp)
  clear bV Y T cm cn bf Z co;go_wp2_with fail
  refine zcm (zGe c.data _ wc (Imm (λe=>X e\/e=W) bw bI wc) cS bs) ?_;rintro eL aB ⟨⟨ei,eH,rfl,t,a1,ao⟩,ad⟩;obtain⟨aG,bL,bP,_⟩:=t.shape;have a9:=a1.1;rw[a9] at bP;subst bP;have bn:=zh (ag.below ad);have cT:=ζ (Sl 1 Y1 (Imm (λe=>X e\/e=W) bw bI aB) aB (.slice aG c.data bL) c.data) (z3b rByte_ok t (by rw[a9];exact bs) (a1.imp λ_ _ j=>j) λe au=>⟨t.lt e au,λj=>by have:=ao e au;have:=ag.lt;omega,λj=>by have:=ao e au;have:=ag.os.lt j;omega,λj=>by have:=ao e au;have:=ag.xl e j;omega⟩);have cN:=zh ad;have bB:=zh ((ad.block _ (zI bA)).trans bA);have dn:=zh (zKx bn da cM O ⟨0,false,⟨#[]⟩,c.data⟩ aG bL cT (oh bx.o) (by rw[bt.o.2];have:=cX.tn;omega) (by
   rw[bt.o.1];have dA:=ds.o;have dC:=z4q (z2u m);have eU:=B.sum;unfold yA at dA dC;omega))
  have c4:=ζ (I64 ((o.versions:Int)+1)) ⟨om,by have:=bx.o;omega⟩;clear ad t a1 ao a9 dZ;go_wp2_with fail
  have dg:=zh (λj=>bn.nx W j (.inr rfl));refine zcm (dn) ?_;rintro eK fa ⟨rfl,eB,bm,a0,cJ⟩;have bz:=zh ((a0.but.block _ (zI bB) (λj=>dg.o (j.symm.imp id id))).trans bB);have an:=bz.o;unfold Z3 at an;obtain⟨cz,cA,cB,cC,cD,cE,cF⟩:=zC7 (zB an).1;have cH:=(zB an).2;have c2:=zh bm;have dd:=zh a0;clear bm a0 an cJ;unfold ZV;go_wp2;try simp only[φ]
  obtain⟨I,F2⟩:=ZC bz '0' (.int .i64 ((o.versions:Int)+1)) "" () () () ();refine zrt I ?_;rw[show z3l st c k=(setF (setF st k (z2p b c.name d)) k { fo (setF st k (z2p b c.name d)) k with items:=(fo (setF st k (z2p b c.name d)) k).items.set (zB6 b d) { o with versions:=o.versions++[⟨((fo (setF st k (z2p b c.name d)) k).epochs.length:Int),false,c.user,c.data⟩] },turn:=(fo (setF st k (z2p b c.name d)) k).turn+1 },Y2 ((o.versions:Int)+1),true) from by exact dl.o];exact ZI c2 (((Mut.below (zD HB0 aL)).trans (P.trans (df.trans (Mut.below cN)))).trans dd) (znl _) F2 (z33 c4)
end
theorem zQy {l:List Member} {name:Nm} {role:Int} (hp:l.Pairwise Ro.LtM) (hr:∀m∈l,Ro.isOf m.role=true) (h0:role≠0) (h:Ro.ofOf l name=role):Ro.withOf l name role=l:=by
 rcases Ro.atOf_cases name l 0 with ⟨_,a⟩|⟨f,m,_,b,a,e⟩
 ·rw[h] at a;exact absurd a h0
 rw[<-Ro.set_with h0 hp b e];have d:(⟨m.name,role⟩:Member)=m:=by rw[<-h,a]
 rw[d];exact lSq b
theorem zVj {l:List Member} {name:Nm} {role:Int} (h:Ro.withOf l name role=l):Ro.ofOf l name=role:=by
 have:=Ro.of_with_same (name:=name) (role:=role) (l:=l);rwa [h] at this
def zOn (c:Call) (l:List Member) (w:World) (e:Ending) (w':World):Prop:=
 (∃b a,e= .returned (.tuple #[b,.int .i64 (yD c l)])/\Sl 2 zZ (λd=>w<=d) w' b a/\(yD c l=0->a=Ro.withOf l c.other c.role))/\bW w w'
section
variable {c:Call} {l:List Member} {v:Value} {w:World} {S:Nat->Prop}
theorem zQz (e:CallOk c) (hk:c.kind=5) (hr:I64 c.role) (o:Ro.rightOf l=true) (h:Sl 2 zZ S w v l) (hl:l.length<=100000):
  Calls prog 138 #[v,c.user,c.other,c.role] w (zOn c l w):=by
 have u:=e.oth om om;have q:=e.role (.inl hk);have d:=(Ro.right_iff l).1 o;refine(Ro.share_any l c.user c.other c.role (oh e.o20) hr v w S h hl).mono ?_;rintro a _ ⟨⟨D,A,k,rfl,t,y,s⟩,r⟩;have m:k=Ro.shareD l c.user c.other c.role:=t.trans (Ro.share_err l c.user c.other c.role);have b:k=yD c l:=by
  rw[m];unfold Ro.shareD yD;rw[if_pos hk,o,u,if_neg (by unfold Ro.isOf;simp[q.1,q.2])]
 refine⟨⟨D,A,by rw[b],y,λj=>?_⟩,r⟩;rcases s with ⟨a,_⟩|⟨_,B,C⟩
 ·exact absurd (b.trans j) a
 have z:=Ro.shareD_zero (m.symm.trans (b.trans j));refine Ro.share_with om d.sorted (Ro.of_none (λi f=>(d.each i f).2) ?_) B C;rcases Ro.of_pos (λi f=>(d.each i f).2) c.other with ⟨_,a⟩|⟨_,a,_⟩
 ·exact a
 have:=z.2.2.2.1;omega
theorem zOo (a:CallOk c) (hk:c.kind=6) (hr:I64 c.role) (e:Ro.rightOf l=true) (h:Sl 2 zZ S w v l) (hl:l.length<=100000):
  Calls prog 139 #[v,c.user,c.other,c.role] w (zOn c l w):=by
 have t:=a.oth om om;have f:=a.role (.inr hk);have m:=(Ro.right_iff l).1 e;refine(Ro.change_any l c.user c.other c.role (oh a.o20) hr v w S h hl).mono ?_;rintro b _ ⟨⟨A,z,k,rfl,s,u,q⟩,o⟩;have j:k=Ro.changeD l c.user c.other c.role:=s.trans (Ro.change_err l c.user c.other c.role);have d:k=yD c l:=by
  rw[j];unfold Ro.changeD yD;rw[if_neg (by omega:¬c.kind=5),if_pos hk,e,t,if_neg (by unfold Ro.isOf;simp[f.1,f.2])]
 refine⟨⟨A,z,by rw[d],u,λi=>?_⟩,o⟩;rcases q with ⟨b,_⟩|⟨_,B,x,r,y,rfl⟩
 ·exact absurd (d.trans i) b
 exact Ro.set_with om m.sorted r y
theorem zOp (a:CallOk c) (hk:c.kind=7) (e:Ro.rightOf l=true) (h:Sl 2 zZ S w v l) (hl:l.length<=100000):
  Calls prog 140 #[v,c.user,c.other] w (zOn c l w):=by
 have s:=a.oth om om;have j:=(Ro.right_iff l).1 e;refine(Ro.revoke_any l c.user c.other (oh a.o20) v w S h hl).mono ?_;rintro b _ ⟨⟨z,y,k,rfl,r,t,o⟩,m⟩;have i:k=Ro.revokeD l c.user c.other:=r.trans (Ro.revoke_err l c.user c.other);have d:k=yD c l:=by
  rw[i];unfold Ro.revokeD yD;rw[if_neg (by omega:¬c.kind=5),if_neg (by omega:¬c.kind=6),e,s,if_neg sm]
 refine⟨⟨z,y,by rw[d],t,λf=>?_⟩,m⟩;rw[a.rol0 hk];rcases o with ⟨b,_⟩|⟨_,A,x,q,u,rfl⟩
 ·exact absurd (d.trans f) b
 exact Ro.erase_with j.sorted q u
theorem zL1 (a:CallOk c) (h5:5<=c.kind/\c.kind<=7) (d:Ro.rightOf l=true) (h0:yD c l=0):(Ro.withOf l c.other c.role=l)↔Ro.ofOf l c.other=c.role:=by
 have e:=(Ro.right_iff l).1 d;refine⟨zVj,λb=>?_⟩;by_cases i:c.kind=7
 ·exfalso;have h:Ro.revokeD l c.user c.other=0:=by
   unfold Ro.revokeD;unfold yD at h0;rw[if_neg (by omega:¬c.kind=5),if_neg (by omega:¬c.kind=6)] at h0;rw[d,a.oth om om,if_neg sm];exact h0
  have:=(Ro.revokeD_zero h).2.2.1;rw[b,a.rol0 i] at this;exact this rfl
 have m:=a.role om;exact zQy e.sorted (λj f=>(e.each j f).2) om b
end
theorem mb8 (h:p:=by
 go_wp2_with fail
 go_quiet (fail)
 go_wp2;go_ret;exact⟨⟨_,rfl,by simp[EH.o]⟩,yS hbel _⟩):p:=h
theorem zR0 (l r:List Member) (v u:Value) (w:World) (S S':Nat->Prop) (h:Sl 2 zZ S w v l) (k:Sl 2 zZ S' w u r):
  Calls prog 141 #[v,u] w λe w'=>(∃t:Bool,e= .returned (.bool t)/\(t=true↔l=r))/\bW w w':=by
 have J:prog.eqGuardType prog.depth 87=false:=kr
 have N:prog.stoodInHeld 87=false:=kr
 have O:=underlying87;obtain⟨_,_,rfl,_,B,_,G⟩:=h;obtain⟨_,_,rfl,_,C,_,H⟩:=k;unfold maxLen at B C;go_enter func141,ntmps141
 by_cases i:l=r.length
 rotate_left
 ·have D:((l:Int)==(r:Int))=false:=ν;have EH:=ζ (¬l=r) (λe=>i (by rw[e]));clear i;go_wp2;go_ret;exact⟨⟨_,rfl,by simp[EH.o]⟩,Below.refl _ _⟩
 have D:((l:Int)==(r:Int))=true:=beq_iff_eq.2 om;have q:=zh i;clear i;go_wp2;go_loopw [13] (λo wr=>∃(a:Nat),a<=l/\o= .int .i64 a/\Hid (l.take a=r.take a)/\bW w wr) (λo _=>l.length-(intOf o).toNat)
 case atStart=>exact⟨0,om,gn,zh (by simp:l.take 0=r.take 0),Below.refl _ _⟩
 obtain⟨a,_,rfl,s,hbel⟩:=hrel;by_cases E:a<l
 rotate_left
 ·obtain rfl:a=l:=om
  have EH:=zh (show l=r from(by
   have b:=s.o;rw[qLnx,q.o,qLnx] at b;exact b))
  go_wp2;go_ret;exact⟨⟨_,rfl,by simp[EH.o]⟩,hbel⟩
 have F:a<r:=by have:=q.o;omega
 obtain⟨x,_,_,y,_,_,rfl,_,_,A,I,_⟩:=yT G E (zK hbel);obtain⟨d,_,_,z,_,_,rfl,_⟩:=yT H F (zK hbel);have f:=zh y;have j:=zh z;clear y z;by_cases b:x.name=d.name
 rotate_left
 ·have EH:=zh (show ¬l=r from λe=>by
   rw[e] at f;have:=f.symm.trans j;simp only[Option.some.injEq] at this;exact b (by rw[this]))
  have K:(x.name.toList==d.name.toList)=false:=YX b;exact mb8
 by_cases m:x.role=d.role
 ·have EH:=zh (show l.take (a+1)=r.take (a+1) by
   rw[qLtx,qLtx,s.o,f.o,j.o];have:x=d:=by cases x;cases d;simp_all
   rw[this])
  rw[b] at A;rw[m] at I;go_wp2_with fail
  go_quiet (fail)
  go_wp2;go_roundw
  case rel=>exact⟨a+1,om,gn,EH,yS hbel _⟩
  case measure=>exact qMx
 have EH:=zh (show ¬l=r from λe=>by
  rw[e] at f;have:=f.symm.trans j;simp only[Option.some.injEq] at this;exact m (by rw[this]))
 have M:(x.role==d.role)=false:=beq_eq_false_iff_ne.2 m;rw[b] at A;exact mb8
theorem zDa {e:Type} {sz:Nat} {Q:Rp e} {S:Nat->Prop} {w:World} {T:TypeId} {a:List Value} {x:e} (hb:w.heap[g]? =some (.cells a.toArray T (0,0))) (h:S g) (hl:a=sz) (j:Q S w a x):Sl sz Q S w (.slice (some ⟨g,0,none⟩) 1 1) [x]:=by
 refine⟨_,_,rfl,sm,dc,sm,λm q d=>?_⟩;have f:m=0:=by have:=(zge d).1;simpa using this
 subst f;obtain rfl:x=q:=by simpa using d
 refine⟨g,0,a,rfl,h,hl,λb o i=>?_,j⟩;rw[show 0+(0*sz+b)=b by omega];exact(zB hb).1 b o (by rw[getElem?_toArray];exact i)
theorem zL6 {w:World} {e:TypeId} {sz:Nat} {a:List Value} (hb:w.heap[g]? =some (.cells a.toArray e (0,0))) (hl:a=sz) (d:∀u∈a,u.oneCell'=true):RowC e sz w (.slice (some ⟨g,0,none⟩) 1 1) [a]:=
 ⟨λx f=>by rw[zml f];exact⟨hl,d⟩,.inr ⟨g,0,1,a.toArray,rfl,hb,sm,dc,by simp[hl],λh u b=>by
  rw[flatten_singleton] at b;rw[Nat.zero_add,getElem?_toArray];exact b⟩⟩
section
variable {X:Nat->Prop} {base bw:Nat} {W W1 w1:World} {R:RM} {c:Call} {dv:Value} {st:State} {done late:Bool}
theorem OS.clear (h:OS base W R) (hb:base<=W) (k:RK):OS base W (zO R k ⟨.slice none 0 0,[]⟩)/\Mut bw R W (zO R k ⟨.slice none 0 0,[]⟩) W:=
 h.put (bw:=bw) (W':=W) hb k ⟨.slice none 0 0,[]⟩ (ButB.refl _ _) (RowC.nil _) sm (λa hb=>by cases hb)
theorem WK.foMore (h:WK X base bw W R c dv st done late) (q:(bW W W1:Prop)) {ma:Row} (G:RowC 84 8 W1 ma.v ma.cells) (H:∀b,ma.v.ownBlock=some b->W.heap.size<=b) {v8:Value} {f:Folder}
  (ad:st.folders.length<=9999) (hr:RowC 74 7 w1 v8 ((R .fo).cells++[([.string f.name,.int .i64 f.turn,ma.v,(),(),(),()]:List Value)]))
  (hb:ButB (λac=>(R .fo).v.ownBlock=some ac) W1 w1) (J:v8.ownBlock=(R .fo).v.ownBlock\/∃k,v8.ownBlock=some k/\W1.heap.size<=k)
  (hn:f.name.size<=()) (K:I64 f.turn) (o:f.epochs=[]/\f.items=[]/\f.wraps=[]/\f.links=[]) (hx:All2 (ZL (Imm X bw R W) W) ma.cells f.manifests) (hml:f.manifests.length<=10000):
  ∃R',WK X base bw (w1.setCell (aD bw 11) v8) R' c dv { st with folders:=st.folders++[f] } done late/\Mut bw R W R' (w1.setCell (aD bw 11) v8)/\(R' .fo).v=v8:=by
 have m:base<=W1:=qNtx h.base_le q.size;obtain⟨U,M⟩:=h.os.put (bw:=bw) (W':=W1) h.base_le (.ma st.folders) ma (ButB.of q) G (by rw[hx.1];exact hml) λb hb=> .inr (H b hb)
 obtain⟨V,N⟩:=U.clear (bw:=bw) m (.ep st.folders);obtain⟨Y,O⟩:=V.clear (bw:=bw) m (.it st.folders);obtain⟨Z,P⟩:=Y.clear (bw:=bw) m (.wr st.folders);obtain⟨aa,Q⟩:=Z.clear (bw:=bw) m (.li st.folders);have u:(zO (zO (zO (zO (zO R (.ma st.folders) ma) (.ep st.folders) ⟨.slice none 0 0,[]⟩) (.it st.folders) ⟨.slice none 0 0,[]⟩) (.wr st.folders) ⟨.slice none 0 0,[]⟩) (.li st.folders) ⟨.slice none 0 0,[]⟩) .fo=R .fo:=by simp[zO]
 obtain⟨A,z⟩:=aa.put (bw:=bw) (W':=w1) m .fo ⟨v8,(R .fo).cells++[([.string f.name,.int .i64 f.turn,ma.v,(),(),(),()]:List Value)]⟩ (by rw[u];exact hb) hr (by simp[h.is.fol];omega) (λb hb=>by
  rw[u];exact J.imp (λd=>by rw[<-d];exact hb) λ⟨af,d,F⟩=>by
   rw[show v8.ownBlock=some b from hb] at d;obtain rfl:=zsi d;exact F)
 have s:=M.trans (N.trans (O.trans (P.trans (Q.trans z))));generalize e:zO (zO (zO (zO (zO (zO R (.ma st.folders) ma) (.ep st.folders) ⟨.slice none 0 0,[]⟩) (.it st.folders) ⟨.slice none 0 0,[]⟩) (.wr st.folders) ⟨.slice none 0 0,[]⟩) (.li st.folders) ⟨.slice none 0 0,[]⟩) .fo ⟨v8,(R .fo).cells++[([.string f.name,.int .i64 f.turn,ma.v,(),(),(),()]:List Value)]⟩=R' at A z s;have I:¬z01 R' bw:=λd=>(s.fresh bw d).elim h.nb λae=>by have:=h.lt;omega
 have T:Mut bw R' w1 R' (w1.setCell (aD bw 11) v8):=⟨(ButB.refl _ w1).set ⟨bw,11,none⟩ v8 (.inl rfl),λ_ h=> .inl h⟩;have r:=s.trans T;have B:R' .us=R .us:=by rw[<-e];simp[zO]
 have C:R' .de=R .de:=by rw[<-e];simp[zO]
 have t:R' .fo=⟨v8,(R .fo).cells++[([.string f.name,.int .i64 f.turn,ma.v,(),(),(),()]:List Value)]⟩:=by rw[<-e];simp[zO]
 have D:R' (.ma st.folders)=ma:=by rw[<-e];simp[zO]
 have i:R' (.ep st.folders)=⟨.slice none 0 0,[]⟩/\R' (.it st.folders)=⟨.slice none 0 0,[]⟩/\R' (.wr st.folders)=⟨.slice none 0 0,[]⟩/\R' (.li st.folders)=⟨.slice none 0 0,[]⟩:=by rw[<-e];simp[zO]
 have ab:∀a,a≠st.folders.length->R' (.ma a)=R (.ma a)/\R' (.ep a)=R (.ep a)/\R' (.it a)=R (.it a)/\R' (.wr a)=R (.wr a)/\R' (.li a)=R (.li a)/\∀j,R' (.ve a j)=R (.ve a j):=λa E=>by
  rw[<-e];simp[zO,E]
 have ag:∀j,R' (.ve st.folders j)=R (.ve st.folders j):=λj=>by rw[<-e];simp[zO]
 clear e;refine⟨R',h.turn r (A.to λb hb=>Below.heap_setCell _ _ _ _ λd=>I (by rw[<-show b=bw from d];exact hb)) (h.is.snocF r.kept B C ab ?_ ?_) ?_,r,by rw[t]⟩
 ·rw[t];unfold hdr;rw[D,i.1,i.2.1,i.2.2.1,i.2.2.2]
 ·refine⟨hn,K,?_,?_,?_,λj x y=>?_,?_,?_⟩
  ·rw[D];exact hx.imp λ_ _ d=>yF d r.kept
  ·rw[i.1,o.1];exact All2.nil
  ·rw[i.2.1,o.2.1];rfl
  ·rw[o.2.1] at y;simp at y
  ·rw[i.2.2.1,o.2.2.1];exact All2.nil
  rw[i.2.2.2,o.2.2.2];exact All2.nil
 refine zH v8 ((hb.block bw (oh2 h.lt q.size) λd=>h.nb ⟨.fo,d⟩).trans ((q.block bw h.lt).trans h.box)) ?_;unfold z42;rw[B,C,t];rfl
theorem WK.epPut (h:WK X base bw W R c dv st done late) {e:Nat} (hk:k<st.folders) (ha:foAt R k g e) {r:Row} {l:List Epoch} (t:l.length<=9999) (hr:RowC 130 5 w1 r.v r.cells) (hb:(bW W w1:Prop))
  (m:∀b,r.v.ownBlock=some b->W.heap.size<=b) (o:r.v.oneCell'=true) (hx:All2 (YE (Imm X bw R W) W) r.cells l):
  Wrote X base bw W R c dv late (setF st k { fo st k with epochs:=l }) done (w1.setCell (aD g (e+3)) r.v):=by
 have a:=ZT hk;obtain⟨s,q,f,_⟩:=h.put (W':=w1) (.ep k) r (ButB.of hb) hr (by rw[hx.1];omega) (λb hb=> .inr (m b hb));obtain⟨h8,m8⟩:=h.sub a ha (k:= .ep k) (j:=3) (u:=r.v) (f':={ fo st k with epochs:=l }) ⟨sm,sm,sm⟩ om s q f o λd=>h.is.epRow (r:=r) a d (hx.imp λ_ _ i=>z2a i d)
 exact mb1
end
end Go.Proofs.YtdggplhnfhcieaaGreatDoor
