/- No condition. -/
import Derived.Test.YtdggplhnfhcieaaGreatDoorW19
import Derived.Test.YtdggplhnfhcieaaGreatDoorW22
set_option linter.all false
set_option maxRecDepth 100000
set_option maxHeartbeats 16000000
namespace Go.Proofs.YtdggplhnfhcieaaGreatDoor
open Go.Proofs.Tryz Cd Ce List
open Go.RowKit Go.Deep
variable {f:Folder} {g k:Nat} {p:Prop} {w:World}
theorem zXb {b:Func} {p:Tmp} (h:b.results=#[.cell p 74]) {tmps:Array Value} {a:Array Value}
  (hp:tmps.getD p undef= .pointer (some ⟨g,0,none⟩)) (hg:w.heap[g]? =some (.cells a 74 (0,0))) (hs:a.size=7) {R:Ending->World->Prop} (d:R (.returned (.agg a)) w):bodyPost prog b R .ret { tmps:=tmps,defers:=[] } w:=
 bodyPost_ret (results_cell_row h tmps w g _ a (0,0) _ hp hg underlying74 rfl (by rw[hs];kernel_rfl)) rfl d
abbrev zWs:Array Value:=#[.string ⟨#[]⟩,.int .i64 0,(),(),(),(),()]
theorem zQd {S:Nat->Prop} {l:List Manifest} {n:Int} {a b c d e g i v:Value} (h:Z6 S w [a,b,c,d,e,g,i] f) (hl:Sl 8 ZL S w v l) (hn:I64 n):Z6 S w [a,n,v,d,e,g,i] { f with manifests:=l,turn:=n }:=by
 obtain⟨_,_,_,_,_,e,j,_,_,m,o,q,r⟩:=h;simp only[cons.injEq,and_true] at e;obtain⟨rfl,rfl,rfl,rfl,rfl,rfl,rfl⟩:=e;exact⟨v,_,_,_,_,rfl,j,hn,hl,m,o,q,r⟩
theorem zUv {S:Nat->Prop} {m:Manifest} {n:Int} {who:Nm} {b d:Value} (h:ZL S w [m.folder,m.seq,b,m.parent,d,m.cut,m.gone,m.who] m) (hn:I64 n) (q:who.size<=()):ZL S w (zAr m n b d who).toList { m with seq:=n,who:=who }:=by
 obtain⟨_,_,a,e,_,i,j,l,o,_⟩:=h;simp only[cons.injEq,and_true] at a;obtain⟨-,-,rfl,-,rfl,-⟩:=a;exact⟨_,_,rfl,e,hn,i,j,l,o,q⟩
theorem zSv (m:Manifest) (n:Int) (who:Nm) {h B:Option Addr} {a b c d:Nat}:∀u∈(zAr m n (.slice h a b) (.slice B c d) who).toList,u.oneCell'=true:=λu e=>by
 unfold zAr at e;simp at e;rcases e with rfl|rfl|rfl|rfl|rfl|rfl|rfl|rfl<;>rfl
def zG5 (S:Nat->Prop) (f':Folder) (w:World) (e:Ending) (w':World):Prop:=(∃a:List Value,e= .returned (.agg a.toArray)/\Z6 (New S w) w' a f')/\bW w w'
theorem z7a (f:Folder) (m:Manifest) (who:Nm) (bP:who.size<=()) (cc:0<=f.turn/\f.turn<=1000000) (cb:0<=(zL f).seq/\(zL f).seq<=1000000) (hl:f.manifests.length<=9000) (aW aV:List Value) (w:World) (S:Nat->Prop) (h:Z6 S w aW f) (hm:ZL S w aV m):
  Calls prog 109 #[.agg aW.toArray,.agg aV.toArray,who] w (zG5 S (YJ f m who) w):=by
 have aN:=zh h;have bg:=zh hm;have bl:=zh bP;obtain⟨Y,ad,Z,ae,aa,af,ab,ag,ac,ah,rfl,_,_,bE,bF,bG,aX,_,_,_,bB,_,_,_,bC,_,_,_,bH,_,_,_,bD⟩:=Z9 h;obtain⟨F,H,G,I,rfl,_,_,_,_,_,b1,_,_,_,_,b0,_⟩:=ZO hm;obtain⟨a6,a1,E,aY,aZ⟩:=info_parts (show(prog.info? 84).map (λam=>(am.zero,am.size,am.bytes))=some (some (.agg oM),8,120) from kr);obtain⟨n,a5,bo,bI,av,a9⟩:=zP w (aF f Y ad Z ae aa af ab ag ac ah) 74;obtain⟨y,ak,bp,bJ,aw,ba⟩:=zP n (aM m F H G I) 84;obtain⟨o,D,bq,bK,ax,bb⟩:=zP y zWs 74;have T:=ZJ (by rw[<-D,<-ak,<-a5];exact zR _ (zR _ (zJ _ rfl)):o.heap[w.heap.size]? =some (.cells (aF f Y ad Z ae aa af ab ag ac ah) 74 (0,0)));have aR:=ZJ (by rw[<-D,<-ak];exact zR _ (zJ _ rfl):o.heap[n.heap.size]? =some (.cells (aM m F H G I) 84 (0,0)));have aT:=ZJ (zbx D);have M:=zh (zD (zD av aw) ax);have j:=ζ (w<n.heap.size/\n<y.heap.size/\y<o.heap.size) ⟨a9,ba,bb⟩;have u:=ζ (_/\_/\_) ⟨T,aR,aT⟩;have b6:=Below.refl o o;obtain⟨bs,bt,bu,bv,bx,bz,bA⟩:=TC7 T.a;have bd:=ζ (Sl 8 ZL S w (.slice Y f.manifests ad) f.manifests) ⟨_,_,rfl,bE,bF,bG,aX⟩;have cg:=z8g;clear bo bI bp bJ bq bK av aw ax a9 ba bb T aR aT aX bB bC bH bD b1 b0 h hm;go_enter func109,ntmps109
 go_wp2_with fail
 refine zcm (YW f _ o TT (zV aN (zH5 M))) ?_;rintro b q ⟨⟨_,rfl,aj⟩,ar⟩;obtain⟨_,_,_,_,rfl,aj⟩:=ZO aj;have cd:IntKind.i64.wrap ((zL f).seq+1)=(zL f).seq+1:=IntWalk.i64_in _ om;have A:=u.2.1 q ar;obtain⟨_,bm,_,_,_,_,_,bn⟩:=TC8 (zB A).1;have br:=(zB A).2;have bh:=zh A;have l:=zh ar;clear aj A a5 ak D;go_upto_region 4 with fail
 generalize al:World.setCell _ _ _=r;have aQ:r.heap[n.heap.size]? =some (.cells (zAr m ((zL f).seq+1) (.slice F m.prev H) (.slice G m.members I) who) 84 (0,0)):=by
  rw[<-al];exact zH (i:=7) _ (zH (i:=1) _ bh rfl) rfl
 have v:ButB (·=n) q r:=by
  rw[<-al];exact((ButB.refl (·=n) q).set _ _ rfl).set _ _ rfl
 have t:=zh (ButB.below (zD M l) (zD M l).size (λs E=>by have:=j.o;omega) v);have P:=(v.block _ (zI (u.1 q l)) (oh j.o)).trans (u.1 q l);have aP:=(v.block _ (zI (u.2.2 q l)) (oh j.o)).trans (u.2.2 q l);have O:=ζ (o<=r.heap.size) (qNtx l.size v.size);have aL:=zh aQ;have aG:=zh P;have aH:=zh aP;have bL:=ψ P 2 _ rfl;have be:=zh (bd.keep z16 dc (YL t));clear al aQ v P aP bm bn br bs bt bu bv bx bz bA;go_upto_region 5 with (at_builtin;refine z1n r rfl (.tmp 15) (.tmp 17) 68 rfl a6 _ 120 underlying68 a1 E aY aZ rfl dc dc dc z16 rfl _ f.manifests rfl (λa d=>zll d.2 t.size) be om ?_;intro cj b3 b7 ap aU e a7)
 obtain⟨J,an,U,rfl⟩:=ap.shape3;have Q:=(e.block _ (zI aL)).trans aL;have aI:=zh ((e.block _ (zI aG)).trans aG);have aJ:=zh ((e.block _ (zI aH)).trans aH);unfold zAr at Q;obtain⟨bR,bS,bT,bU,bV,bX,bY,bZ⟩:=zC8 (zB Q).1;have bk:=zh ap;have L:=zh aU;have N:=zh a7;have az:=zh e;have bi:=ζ ((Value.slice J an U).ownBlock≠some w.heap.size) (λb=>by have:=N.o _ b;have:=O.o;have:=j.o;omega);clear Q ap aU e a7 bL;go_upto_region 6 with (at_builtin;refine YD b3 (zAr m ((zL f).seq+1) (.slice F m.prev H) (.slice G m.members I) who).toList rfl (.tmp 19) (.tmp 21) 68 rfl a6 _ 120 underlying68 a1 E aY aZ rfl dc dc _ _ rfl bk (by rw[L.o.1];omega) rfl (zSv _ _ _) _ _ rfl rfl ?_;intro ck b4 aq ai a8;obtain⟨K,ao,V,rfl⟩:=aq.shape3;have aO:=zh aq;have aB:=zh ai;have bj:=zh a8;have x:=(ai.block _ (zI aI) bi.symm).trans aI;have bf:=zh x;have bQ:=ψ x 2 _ rfl;have cf:=(zB x).2;clear aq ai a8 x)
 have a0:∀a,(Value.slice J an U).ownBlock=some a->r.heap.size<=a:=N;have ce:IntKind.i64.wrap (f.turn+1)=f.turn+1:=IntWalk.i64_in _ om;have C:=(aB.block _ (zI aJ) (by have:=O.o;have:=j.o;intro b;have:=a0 _ (by first|exact b|exact b.symm);omega)).trans aJ;have aK:=zh C;obtain⟨_,_,_,_,_,x,_⟩:=zC7 (zB bf).1;obtain⟨_,_⟩:=zC7 (zB C).1;have ci:=(zB C).2;have bO:¬y=w.heap.size:=by have:=j.o;omega
 clear bQ C a0 bR bS bT bU bV bX bY bZ;go_wp2;try simp only[φ]
 have B:=((ButB.refl (·=w) b4).set ⟨w,2,none⟩ (.slice K ao V) rfl).set ⟨w,1,none⟩ (f.turn+1:Int) rfl;have bN:=(B.block _ (zI aK) bO).trans aK;obtain⟨bc,ay⟩:=ZC bN f.name (f.turn+1:Int) (.slice K ao V) (.slice Z f.epochs ae) (.slice aa f.items af) (.slice ab f.wraps ag) (.slice ac f.links ah);have e:=zD t az;have a3:∀a,(Value.slice J an U).ownBlock=some a->r.heap.size<=a:=N;have au:=Below.grown e aB e.size λa d=>qNtx t.size (a3 a d)
 have z:=ButB.below au au.size (λs (E:s=w\/s=y)=>by have:=j.o;omega) ((B.mono λ_ b=> .inl b).trans (ay.mono λ_ b=> .inr b));have a4:∀a,(Value.slice K ao V).ownBlock=some a->r.heap.size<=a:=λa d=>by
  rcases bj with b2|⟨k,bM,hl⟩
  ·exact a3 a (b2▸d)
  ·obtain rfl:k=a:=zsi (bM.symm.trans d);exact qNtx az.size hl
 refine zXb rfl rfl bc rfl ⟨⟨_,rfl,zQd (zV aN (z4o z)) (z34 z16 (aO.keep λa d=>?_) (by simp[L.o.1];omega) ((L.imp λ_ _ b=>yF b (zKe e z)).snoc (zUv (yF bg (z4o z)) (by constructor<;>omega) bl)) λa d=> .inr (qNtx t.size (a4 a d))) (by constructor<;>omega)⟩,z⟩;have a2:=aO.lt a d;have ca:=a4 a d;have b9:=O.o;have b8:=j.o;exact(ay.block _ (zll a2 B.size) om).trans (B.block _ a2 om)
theorem z1z {p:Addr} {v:Value} (h:w.cell? p=some v):∀W,((bW w W:Prop))->W.cell? p=some v:=λ_ hb=>(hb.cell (zF h)).trans h
theorem zHa (st:State):∀(n:Nat) (s:Nm),yV st n s<=n+1
 | 0,s=>by unfold yV;omega
 | n+1,s=>by
  unfold yV;have:∀(d:List Folder) (a:Nat),a<=n+1->d.foldl (λa f=>if inB s f then max a (yV st n f.name) else a) a<=n+1:=by
   intro d
   induction d with
   | nil=>intro a b;exact b
   | cons f d ih=>
    intro a b;rw[foldl_cons];refine ih _ ?_;split
    ·exact Nat.max_le.2 ⟨b,zHa st n f.name⟩
    ·exact b
  have:=this st.folders 0 (Nat.zero_le _);omega
def hiG (st:State):Nat->Folder->Nat
 | 0,_=>0
 | n+1,f=>yV st n f.name
def hiF (st:State) (n:Nat) (s:Nm) (l:List Folder):Nat:=l.foldl (λm f=>if inB s f then max m (hiG st n f) else m) 0
theorem zT6 (st:State) (n:Nat) (s:Nm) (l:List Folder) (f:Folder):hiF st n s (l++[f])=if inB s f then max (hiF st n s l) (hiG st n f) else hiF st n s l:=by unfold hiF;rw[foldl_append];rfl
theorem zT7 {st:State} {n:Nat} {s:Nm} (h:z6v st n s):yV st n s=hiF st n s st.folders+1:=by
 cases n with
 | succ n=>rfl
 | zero=>
  have:∀(a:List Folder),(∀f∈a,inB s f=false)->hiF st 0 s a=0:=by
   intro a
   induction a with
   | nil=>intro _;rfl
   | cons f a ih=>
    intro b;unfold hiF at ih⊢;rw[foldl_cons,b f (mem_cons_self ..)];exact ih λg d=>b g (zmc _ d)
  rw[this st.folders h];rfl
theorem zW9 (st:State) (n:Nat) (f:Folder):hiG st n f<=n+1:=by
 cases n with
 | zero=>exact Nat.zero_le _
 | succ n=>exact qNtx (zHa st n f.name) om
theorem mbB (h:p:=by
 go_wp2;go_roundw
 case rel=>exact⟨k+1,mx,om,rfl,gn,(by rw[HX.o,HIB.o];rw[HI.o];exact zh rfl),om,HIBO⟩
 case measure=>exact qMx):p:=h
theorem zbd {w W:World} {cs:Array Value} {T:TypeId} (h:(w.alloc (.cells cs T)).drew=W):W.heap[w.heap.size]? =some (.cells cs T (0,0)):=by rw[<-h];exact zJ _ rfl
theorem tNc {P:Program} {ops:Array Oper} {Q:Exit->Act->World->Prop} {md:Region.Mode} {S:World->Prop} {n:Nat} {fr:List Nat} {listed:Array Bool} {fuel:Nat} {w:World} (i:Nat) {c:Oper} {a:Act} {e:Prop} (k:e) (f:ops[i]? =some c:=by exact rfl) (hr:(decide (n<=i)&&decide (Region.ready md ops listed=[i]))=true:=by kernel_rfl) (h:Hid e->∀d:Act->World->Prop,Shut (∀a w,YU P md ops Q S n fr fuel (listed.setIfInBounds i true) a w->d a w)->if Region.wanted c (yielded ops a.tmps)=true then Oper.wp P c a w d Q else d (a.put c.dst undef) w:=by intro l o f;go_simp;refine f.out _ _ ?_;(try simp only[zA]);exact l.o):YU P md ops Q S n fr (fuel+1) listed a w:=zN hr f (h (zh k))
theorem zD8 (st:State) (n:Nat) (hn:n<=100) (s:Nm) (T:z6v st n s) (L:∀f∈st.folders,inB s f=true->∀(j:List Value) (w:World) (S:Nat->Prop),Z5 S w j st->(kB 108 #[.agg j.toArray,f.name] w (.int .i64 (hiG st n f:Nat)):Prop))
  (j:List Value) (w:World) (S:Nat->Prop) (h:Z5 S w j st):(kB 108 #[.agg j.toArray,s] w (.int .i64 (yV st n s:Nat)):Prop):=by
 have ag:=zh h;have ac:=zh (zT7 T);have ae:=zh L;obtain⟨aB,aI,aG,aJ,aH,aK,rfl,_,_,_,_,aO,_,_,_,aL,_,_,_,aN⟩:=ZF h;obtain⟨aQ,U,al,am,G,_⟩:=zP w (aS st aB aI aG aJ aH aK) 34;have t:=ZJ (zbx U);have r:=zh G;have af:=zh t;have az:=t.at 3 rfl;clear al am G t aO aL h L T;go_enter func108,ntmps108
 go_wp2_with fail
 clear U;go_loopw [5,6] (λaP B wr=>∃k mx:Nat,k<=st.folders/\aP= .int .i64 mx/\B= .int .i64 k/\Hid (mx=hiF st n s (st.folders.take k))/\mx<=n+1/\bW aQ wr) (λ_ B _=>st.folders.length-(intOf B).toNat)
 case atStart=>exact⟨0,0,om,rfl,gn,rfl,om,Below.refl _ _⟩
 obtain⟨D,rfl⟩:=ξ wr;obtain⟨k,mx,_,rfl,rfl,K,_,y⟩:=hrel;by_cases aq:k<st.folders
 rotate_left
 ·obtain rfl:k=st.folders:=om
  have ad:=zh (by rw[ac.o,K.o,qLnx]:yV st n s=mx+1);have bi:IntKind.i64.wrap ((mx:Int)+1)=(mx:Int)+1:=IntWalk.i64_in _ om;go_wp2;go_ret;exact⟨Z8 (by rw[ad.o];simp),zD r y⟩
 have ab:=zh (zD r y);obtain⟨b,a1,a8,_,_,_,_,_,_,_,_,_,_,F,a2,a6,rfl,_,_,E,aV,aW,aX,aY,aZ,a0,Y,_,_,_,_,_,a7,_,_,_,a3,_,_,_,a4,_,_,_,a9,_,_,_,a5⟩:=yP aN aq (zK ab);have HX:=zh (by rw[qLtx,F,Option.toList,zT6,<-K.o]:hiF st n s (st.folders.take (k+1))=if inB s b then max mx (hiG st n b) else mx);have ah:=zh (zmg F);have ai:=zh (YW b _ D _ Y);have bh:(k:Int)<(st.folders:Int):=om
 have be:=Below.refl D D;clear F a2 a6 Y a7 a3 a4 a9 a5;go_wp2_with fail
 refine zcm ai ?_;rintro bg aR ⟨⟨_,rfl,m⟩,o⟩;obtain⟨a,z⟩:=Ξ (zL b);rw[z] at m;obtain⟨au,aw,av,ax,rfl,m⟩:=ZO m;obtain⟨C,A,O,an,q,_⟩:=zP aR (aM a au aw av ax) 84;obtain⟨_,_,_,ak,_,_,v⟩:=TC7 O;have u:=zD y (zD o q);have Z:=zh (zD r u);have V:=(Below.cell (zD o q) (p:=aD a1 (a8+k*7)) (zF E)).trans E;have HIB:=zh (by unfold inB;rw[z]:inB s b=(!a.gone&&decide (a.parent=s)));clear m z O an q o E aV aW aX aY aZ a0;have HIBO:=zh u
 cases d:a.gone with
 | true=>
  rw[d] at v A;have HI:=zh (by rw[d];rfl:(!a.gone&&decide (a.parent=s))=false);clear d;exact mbB
 | false=>
 rw[d] at v A;by_cases i:a.parent=s
 rotate_left
 ·have ar:(a.parent.toList==s.toList)=false:=YX i;have HI:=zh (by rw[d,Γ i];rfl:(!a.gone&&decide (a.parent=s))=false);clear d i;exact mbB
 have ar:(a.parent.toList==s.toList)=true:=by rw[i];simp
 have HI:=zh (by rw[d,Δ i];rfl:(!a.gone&&decide (a.parent=s))=true);have M:=af.on u;obtain⟨ba,bb,bc,bd⟩:=TC4 M.a;have aU:=z1z V;have bf:=Below.refl C C;have aa:=zh (by rw[HIB.o];exact HI:inB s b=true);clear M d i az V;go_upto_region 7 with fail
 clear ak v A;refine zEC 8 λx=>?_;refine ziU 0 ?_;iterate 7 (refine ztU x ?_;simp only[zA])
 refine zoU ?_;refine tQa 7 λaj P=>?_;go_simp;go_at_call 108
 refine zcb (ae.o b ah aa _ _ _ (zM ag (Kept.below (zD Z (zbr.drew)) λ_ h=>h))) λaT N=>?_;have H:(bW C aT:Prop):=zD (zbr.drew) N;clear N x;refine P.o _ _ H (λx=>?_);clear P aj;try simp only[zA]
 refine tNc 8 ?_
 refine Z7 kr ?_ _;have I:=zh (zD HIBO H);obtain⟨e,l⟩:=Ξ (hiG st n b);have ap:=zW9 st n b;rw[l] at ap;rw[l];have J:=zh l;clear l ba bb bc bd aU;by_cases Q:mx<e
 ·have ao:decide ((mx:Int)<(e:Int))=true:=θ;go_wp2;go_roundw
  case rel=>exact⟨k+1,e,om,rfl,gn,(by rw[HX.o,HIB.o];rw[HI.o,if_pos rfl,J.o];exact(Nat.max_eq_right (Nat.le_of_lt Q)).symm),om,I⟩
  case measure=>exact qMx
 have ao:decide ((mx:Int)<(e:Int))=false:=η;go_wp2;go_roundw
 case rel=>exact⟨k+1,mx,om,rfl,gn,(by rw[HX.o,HIB.o];rw[HI.o,if_pos rfl,J.o];exact(Nat.max_eq_left (Nat.le_of_not_lt Q)).symm),om,I⟩
 case measure=>exact qMx
theorem z9y (st:State):∀(n:Nat),n<=100->∀(s:Nm),z6v st n s->∀(a:List Value) (w:World) (S:Nat->Prop),Z5 S w a st->(kB 108 #[.agg a.toArray,s] w (.int .i64 (yV st n s:Nat)):Prop)
 | 0,hn,s,hok,a,w,S,h=>zD8 st 0 hn s hok (λf d b=>by rw[hok f d] at b;cases b) a w S h
 | n+1,hn,s,hok,a,w,S,h=>zD8 st (n+1) hn s hok (λf d b=>z9y st n om f.name (hok f d b)) a w S h
theorem maI (h:p:=by
 unfold iOf;go_wp2;go_meet
 case rel=>exact⟨by rw[HX.o,HK.o,hi];rfl,HB9⟩):p:=h
theorem maY (h:p:=by
 have HK:=zh (Γ hk);clear hk;go_wp2;go_meet
 case rel=>exact⟨by rw[HX.o,HK.o];rfl,by assumption⟩):p:=h
theorem ma8 (h:p:=by
 have he:c.other.toList.isEmpty=true:=by rw[hx];exact z0o
 have HX:=ζ (isE c.other=true) (Δ hx);clear hx;go_wp2;go_meet
 case rel=>exact⟨by rw[HX.o];rfl,by assumption⟩):p:=h
theorem mcz (h:p:=by
 have hq:decide ((q:Int)<0)=false:=η;exact maI):p:=h
theorem zJ7 (st:State) (c:Call) (late:Bool) (T Q:List Value) (w:World) (S:Nat->Prop) (h:Z5 S w T st) (U:z09 S w Q c):
  (kB 57 #[.agg T.toArray,.agg Q.toArray,late] w (ZR st c late):Prop):=by
 have ak:=zh h;obtain⟨Y,ab,Z,ac,aa,ad,rfl,_,_,_,_,az,_,_,_,ax,_,_,_,ay⟩:=ZF h;obtain⟨am,an,rfl,_,_,_,_,_,_,_,_,_,_,ao⟩:=yG U;obtain⟨aJ,V,ap,ar,K,_⟩:=zP w (aS st Y ab Z ac aa ad) 34;obtain⟨e,H,aq,au,L,_⟩:=zP aJ (aC c am an) 41;have O:=ZJ (by rw[<-H,<-V];exact zR _ (zJ _ rfl):e.heap[w.heap.size]? =some (.cells (aS st Y ab Z ac aa ad) 34 (0,0)));have P:=ZJ (zbx H);have b:=zh (zD K L);have x:=zh λW (av:(bW e W:Prop))=>zM ak (YL (zD b av))
 have al:=Below.refl e e;obtain⟨aX,aY,aZ,a0⟩:=TC4 O.a;obtain⟨aP,aQ,aR,_,aT⟩:=TC5 P.a;clear O P ap ar aq au K L h U ax ay ao;go_enter func57,ntmps57
 by_cases n:c.kind=1
 ·have d:(c.kind==1)=true:=by simpa using n
  have a:=zh (by unfold ZR;rw[if_pos n]:ZR st c late=0);clear n;go_wp2;go_ret;exact⟨Z8 a.symm,b⟩
 have aU:(c.kind==1)=false:=by simpa using n
 have m:=zh n;clear n;go_wp2_with fail
 refine zcb (z5v st c.user _ _ _ (x.o _ al)) λ_ J=>?_;clear V H
 cases v:yU st c.user with
 | none=>
  have a:=zh (by unfold ZR;rw[if_neg m.o,v]:ZR st c late=41);have aj:=zh J;clear v;unfold iOf;go_wp2;go_ret
  exact⟨Z8 a.symm,zD b aj⟩
 | some u=>
 have aw:=(findIdx?_eq_some_iff_getElem.1 v).1;have t:=zh v;obtain⟨z,_,_,af,aN,aO,rfl,_,_,_,aK,aL,_⟩:=z71 az aw (zK (zD b J));have r:=zh (by rw[af];rfl:((st.users[u]?).map User.lost).getD false=z.lost);have aV:(u:Int)<(st.users:Int):=om
 have aW:decide ((u:Int)<0)=false:=η;clear v af aN aO aL;unfold iOf;go_upto_region 6 with fail
 go_cut [31] from 8 to 76 (λi l=>i= .bool ((z.lost&&decide (c.kind≠16))&&!late)/\bW e l)
 case first=>
  obtain⟨I,C⟩:=Ξ z.lost;rw[C] at aK;have A:=zh C;clear C;cases I
  ·go_wp2;go_meet
   case rel=>exact⟨by rw[A.o];rfl,by assumption⟩
  by_cases hk:c.kind=16
  ·have d:(c.kind !=16)=false:=by simpa using hk
   have HK:=ζ (decide (c.kind≠16)=false) (Γ (by simpa using hk));clear hk;go_wp2;go_meet
   case rel=>exact⟨by rw[A.o,HK.o];rfl,by assumption⟩
  have d:(c.kind !=16)=true:=by simpa using hk
  have HK:=ζ (decide (c.kind≠16)=true) (Δ hk);clear hk;go_wp2;go_meet
  case rel=>exact⟨by rw[A.o,HK.o];rfl,by assumption⟩
 case rest=>
 obtain⟨rfl,ah⟩:=hcut;obtain⟨aH,F⟩:=Ξ ((z.lost&&decide (c.kind≠16))&&!late);rw[F];have s:=zh F;clear F;cases aH
 rotate_left
 ·have a:=zh (by unfold ZR;rw[if_neg m.o,t.o];dsimp only;rw[r.o];rw[if_pos s.o]:ZR st c late=20);go_wp2;go_ret;exact⟨Z8 a.symm,zD b ah⟩
 go_upto_region 8 with fail
 go_cut [46] from 8 to 76 (λi l=>i= .bool ((!isE c.folder&&decide (c.kind≠2))&&(ZB st c.folder).isNone)/\bW e l)
 case first=>
  by_cases hx:c.folder=⟨#[]⟩
  ·have he:c.folder.toList.isEmpty=true:=by rw[hx];exact z0o
   have HX:=ζ (isE c.folder=true) (Δ hx);clear hx;go_wp2;go_meet
   case rel=>exact⟨by rw[HX.o];rfl,by assumption⟩
  have he:c.folder.toList.isEmpty=false:=z0n hx;have HX:=ζ (isE c.folder=false) (Γ hx);clear hx;by_cases hk:c.kind≠2
  rotate_left
  ·have d:(c.kind !=2)=false:=by simpa using hk
   exact maY
  have d:(c.kind !=2)=true:=by simpa using hk
  have HK:=zh (Δ hk);clear hk;go_wp2_with fail
  refine zcb (z17 st c.folder _ _ _ (x.o _ (by assumption))) λae o=>?_;have HB9:=zh (zD (by assumption) o)
  cases hi:ZB st c.folder with
  | none=>
   exact maI
  | some q=>
   exact mcz
 case rest=>
 obtain⟨rfl,ai⟩:=hcut;obtain⟨aI,G⟩:=Ξ ((!isE c.folder&&decide (c.kind≠2))&&(ZB st c.folder).isNone);rw[G];have y:=zh G;clear G;cases aI
 rotate_left
 ·have a:=zh (by unfold ZR;rw[if_neg m.o,t.o];dsimp only;rw[r.o];rw[if_neg (by rw[s.o];decide),if_pos y.o]:ZR st c late=41);go_wp2;go_ret;exact⟨Z8 a.symm,zD b ai⟩
 go_upto_region 10 with fail
 go_cut [61] from 8 to 76 (λi l=>i= .bool ((!isE c.other&&decide (c.kind=3))&&(ZB st c.other).isNone)/\bW e l)
 case first=>
  by_cases hx:c.other=⟨#[]⟩
  ·exact ma8
  have he:c.other.toList.isEmpty=false:=z0n hx;have HX:=ζ (isE c.other=false) (Γ hx);clear hx;by_cases hk:c.kind=3
  rotate_left
  ·have d:(c.kind==3)=false:=by simpa using hk
   exact maY
  have d:(c.kind==3)=true:=by simpa using hk
  have HK:=zh (Δ hk);clear hk;go_wp2_with fail
  refine zcb (z17 st c.other _ _ _ (x.o _ (by assumption))) λae o=>?_;have HB9:=zh (zD (by assumption) o)
  cases hi:ZB st c.other with
  | none=>
   exact maI
  | some q=>
   exact mcz
 case rest=>
 obtain⟨rfl,ag⟩:=hcut;obtain⟨aB,D⟩:=Ξ ((!isE c.other&&decide (c.kind=3))&&(ZB st c.other).isNone);rw[D];have B:=zh D;clear D;cases aB
 rotate_left
 ·have a:=zh (by unfold ZR;rw[if_neg m.o,t.o];dsimp only;rw[r.o];rw[if_neg (by rw[s.o];decide),if_neg (by rw[y.o];decide),if_pos B.o]:ZR st c late=41);go_wp2;go_ret;exact⟨Z8 a.symm,zD b ag⟩
 go_upto_region 12 with fail
 go_cut [76] from 8 to 76 (λi l=>i= .bool ((!isE c.other&&decide (3<c.kind))&&(yU st c.other).isNone)/\bW e l)
 case first=>
  by_cases hx:c.other=⟨#[]⟩
  ·exact ma8
  have he:c.other.toList.isEmpty=false:=z0n hx;have HX:=ζ (isE c.other=false) (Γ hx);clear hx;by_cases hk:3<c.kind
  rotate_left
  ·have d:decide (3<c.kind)=false:=Γ hk;exact maY
  have d:decide (3<c.kind)=true:=Δ hk;have HK:=zh (Δ hk);clear hk;go_wp2_with fail
  refine zcb (z5v st c.other _ _ _ (x.o _ (by assumption))) λae o=>?_;have HB9:=zh (zD (by assumption) o)
  cases hi:yU st c.other with
  | none=>
   exact maI
  | some q=>
   exact mcz
 case rest=>
 obtain⟨rfl,M⟩:=hcut;obtain⟨aG,E⟩:=Ξ ((!isE c.other&&decide (3<c.kind))&&(yU st c.other).isNone);rw[E];have N:=zh E;clear E;cases aG
 rotate_left
 ·have a:=zh (by unfold ZR;rw[if_neg m.o,t.o];dsimp only;rw[r.o];rw[if_neg (by rw[s.o];decide),if_neg (by rw[y.o];decide),if_neg (by rw[B.o];decide),if_pos N.o]:ZR st c late=41);go_wp2;go_ret;exact⟨Z8 a.symm,zD b M⟩
 have a:=zh (by unfold ZR;rw[if_neg m.o,t.o];dsimp only;rw[r.o];rw[if_neg (by rw[s.o];decide),if_neg (by rw[y.o];decide),if_neg (by rw[B.o];decide),if_neg (by rw[N.o];decide)]:ZR st c late=0);go_wp2;go_ret;exact⟨Z8 a.symm,zD b M⟩
theorem zI4 (st:State) (s:Nm):foI st s=(st.folders.map Folder.name).findIdx? λn=>decide (n=s):=by
 unfold foI;rw[findIdx?_map];rfl
theorem zF8 {st:State} (hk:k<st.folders) (hn:f.name=(fo st k).name) (s:Nm):foI (setF st k f) s=foI st s:=by
 rw[zI4,zI4];congr 1;unfold setF;dsimp only;rw[map_set,hn];exact lSq (by rw[getElem?_map,ZT hk];rfl)
theorem zD4 (eps:List Epoch) (name:Nm) (seed:Bool):∀l:List Wrap,(YI eps name seed l).length<=l.length+1
 | []=>by simp[YI]
 | w::r=>by
  unfold YI;have:=zD4 eps name seed r;split
  ·split<;>simp
  ·split
   ·simp
   ·simp;omega
theorem z8j (a:Member->Bool):∀(b:List Member) (f:Folder),(Y5 a f b).wraps.length<=f.wraps.length+b.length
 | [],f=>by unfold Y5;simp
 | m::r,f=>by
  have d:=z8j a r (YZ f m.name (a m));have e:=zD4 f.epochs m.name (a m) f.wraps;show(Y5 a (YZ f m.name (a m)) r).wraps.length<=_
  have h:(YZ f m.name (a m)).wraps.length=(YI f.epochs m.name (a m) f.wraps).length:=rfl;rw[length_cons];omega
theorem zD5 (a:Member->Bool):∀(b:List Member) (f:Folder),(Y5 a f b).links=f.links
 | [],f=>rfl
 | m::r,f=>(zD5 a r (YZ f m.name (a m))).trans rfl
theorem zEk {a:Member->Bool} {b:List Member} {n:Nat} {m:Member} (h:b[n]? =some m):Y5 a f (b.take (n+1))=YZ (Y5 a f (b.take n)) m.name (a m):=by
 rw[qLtx,h];exact zM4 a f _ m
section
variable {X:Nat->Prop} {base bw:Nat} {W W1 W2:World} {R:RM} {c:Call} {dv:Value} {st st1 st2:State} {done done1 done2 late:Bool}
theorem Wrote.refl (h:WK X base bw W R c dv st done late):Wrote X base bw W R c dv late st done W:=⟨R,h,Mut.refl _ _ _,rfl⟩
theorem Wrote.below (h:Wrote X base bw W R c dv late st done W1) (hb:(bW W1 W2:Prop)):Wrote X base bw W R c dv late st done W2:=by
 obtain⟨a,b,d,e⟩:=h;exact⟨a,b.below hb,d.trans (Mut.below hb),e⟩
theorem WK.liTo (h:WK X base bw W R c dv st done late) {d:Nat} (hk:k<st.folders) (ha:foAt R k g d) {w1:World} {v':Value} {cells:List (List Value)} (n:cells.length<=10000) (hr:RowC 151 3 w1 v' cells) (hb:ButB (λx=>(R (.li k)).v.ownBlock=some x) W w1)
  (o:v'.ownBlock=(R (.li k)).v.ownBlock\/∃k,v'.ownBlock=some k/\W.heap.size<=k) (q:v'.oneCell'=true) {l:List Link} (hl:All2 (z0g (λ_=>True) w1) cells l):
  Wrote X base bw W R c dv late (setF st k { fo st k with links:=l }) done (w1.setCell (aD g (d+6)) v'):=by
 have b:=ZT hk;obtain⟨v,t,i,_⟩:=h.put (W':=w1) (.li k) ⟨v',cells⟩ hb hr n (λe hb=>o.imp (λa=>by rw[<-a];exact hb) λ⟨y,a,m⟩=>by
  rw[show v'.ownBlock=some e from hb] at a;obtain rfl:=zsi a;exact m)
 obtain⟨h8,m8⟩:=h.sub b ha (k:= .li k) (j:=6) (u:=v') (f':={ fo st k with links:=l }) ⟨sm,sm,sm⟩ om v t i q λs=>h.is.liRow (r:=⟨v',cells⟩) b s (hl.imp λ_ _ a=>a)
 exact mb1
end
def SmF (st:State):Prop:=∀f∈st.folders,f.name.size<=1000/\(zL f).members.length<=100/\f.manifests≠[]/\f.epochs.length<=1000000
section
variable {X:Nat->Prop} {base bw:Nat} {W:World} {R:RM} {c:Call} {dv:Value} {st:State} {done late:Bool}
theorem Wrote.step {W1 W2:World} {st1 st2:State} {done1 done2:Bool} (h:Wrote X base bw W R c dv late st1 done1 W1) (k:∀a,WK X base bw W1 a c dv st1 done1 late->(a .fo).v=(R .fo).v->Wrote X base bw W1 a c dv late st2 done2 W2):Wrote X base bw W R c dv late st2 done2 W2:=by
 obtain⟨a,e,i,b⟩:=h;obtain⟨d,j,l,m⟩:=k a e b;exact⟨d,j,i.trans l,m.trans b⟩
theorem maf (h:p:=by
 go_simp;refine hK.o _ _ (HS _ gg) (λhHeld=>?_);clear hK K;refine zr 12 λK hK=>?_
 refine z1y w8 _ [.int .i64 (fo st k).epochs.length,x.name,.int .i64 (fo (setF st k f) j).epochs.length] rfl (.tmp 50) (.tmp 57) 72 rfl iLink _ 32 underlying72 hiLink hzLink h1Link h2Link rfl dc dc (.slice D6 f.links e6) (R1 (.li k)).cells rfl _ _ rfl HR8 gg om rfl (by intro u hu;simp at hu;rcases hu with rfl|rfl|rfl<;>rfl) (by repeat' first|with_reducible assumption|((with_reducible first|refine Z2 _ ?_ ?_|apply zJ);rotate_left;first|with_reducible rfl|((try dsimp only);first|with_reducible assumption|omega|(simp only[zS];done)|(simp only[zS];omega)))|with_reducible apply zH|with_reducible refine zR _ ?_|with_reducible refine ZQ ?_|refine(rfl:(_:Array Value)=_)) ?_;intro v9 w9 r9 p9 o9;obtain⟨A8,n8,cp8,rfl⟩:=r9.shape3;have HF9:=zh (HFI.o _ _ _ _ r9 p9 o9);have k9:=p9.block g hg8 HNG;have g96:=(World.cell?_of_block (a:=⟨g,o+6,none⟩) k9).trans y6;have z9:∀q,w9.frozen? (aD g q)=false:=λq=>by unfold World.frozen?;rw[k9];exact yz q
 have eE:=(World.cell?_of_block (a:=⟨W,0,none⟩) (p9.block _ (zF yE) HNE)).trans yE;have ex:=(World.cell?_of_block (a:=⟨wr,0,none⟩) (p9.block _ (zF yx) HNX)).trans yx;clear k9 r9 p9 o9;go_simp;refine hK.o _ _ ⟨eE,ex⟩ (λhHeld=>?_);clear hK K;refine zi 13 ?_;iterate 2 (refine zt hHeld ?_;simp only[zA])
 refine zo ?_;refine zr 15 λK hK=>?_
 go_simp;refine hK.o _ _ ⟨(World.cell?_setCell_other _ _ _ _ (by simp[hgE])).trans eE,(World.cell?_setCell_other _ _ _ _ (by simp[hgx])).trans ex⟩ (λhHeld=>?_);clear hK K;refine wpAnyH_done kr ?_ _;clear hHeld HS;go_wp2;try simp only[φ]
 refine bodyPost_ret (results_none rfl _ _ _) rfl ?_;exact⟨rfl,HF9⟩):p:=h
theorem zAz (h:WK X base bw W R c dv st done late) {o:Nat} (hk:k<st.folders) (ha:foAt R k g o) (b4:Z4 st (fo st k).name=some (fo st k)) (aQ:SmF st) (hr:z0v (fo st k).wraps) (el:(fo st k).wraps.length<=5000) (du:(fo st k).links.length<=5000):
  Calls prog 129 #[pT bw,pO g o] W λe w'=>e= .returned (.tuple #[])/\Wrote X base bw W R c dv late (yN st k) done w':=by
 obtain⟨iLink,hiLink,hzLink,h1Link,h2Link⟩:=info_parts (show(prog.info? 151).map (λt=>(t.zero,t.size,t.bytes))=some (some (.agg #['0',"",'0']),3,32) from kr);have bd:=zh h;have ct:=zh ha;have bc:=zh aQ;have cQ:=zh hr;have cB:=zh (z3t h hk ha);have dq:=(aQ _ (z2u hk)).2.2.2;have ei:=(aQ _ (z2u hk)).1;obtain⟨_,_,_,_,_,_,_,_,_,_,C,hF,ck,dT,dU,dV,dW,dX,dY,eb,Q⟩:=h.fold (ZT hk) ha;have d8:=h.lt;obtain⟨am,ce,de,dk,bB,dO⟩:=zP W #['0'] 3;have ax:am.heap[W.heap.size]? =some (.cells #['0'] 3 (0,0)):=by rw[<-ce];exact zJ _ rfl
 have ae:(cL am W 0 '0':Prop):=ψ ax 0 _ rfl;have af:=(zB ax).2;have cY:=zh ax;have cu:=zh bB;have c4:=zh ck;clear h ha aQ hr C hF Q de dk ax bB ck dT dU dV dW dX dY;go_enter func129,ntmps129
 go_wp2_with fail
 refine zcb cB λ_ b3=>?_;obtain rfl:=b3.symm;clear b3;go_wp2_with fail
 have ay:=zH (i:=0) (.int .i64 ((fo st k).epochs.length:Int)) cY rfl;have bg:ButB (·=W) am (am.setCell (aD W 0) (.int .i64 ((fo st k).epochs.length:Int))):=(ButB.refl (·=W) am).set _ _ rfl;generalize dB:World.setCell _ _ _=an at ay bg⊢;have bA:(bW W an:Prop):=ButB.below cu om (λz ci=>om) bg;have bG:=zh bA;have cZ:=zh ay;have a2:=zh (bd.below bA);have dD:W<an.heap.size:=zI ay;clear dB ay bg ae af ce dO;have cT:=zh (show ∀m:World,((bW an m:Prop))->(λm:World=>cL m bw 8 st.turn/\m.cell? ⟨bw,9,none⟩=some (R .us).v/\m.cell? ⟨bw,10,none⟩=some (R .de).v/\m.cell? ⟨bw,11,none⟩=some (R .fo).v/\cL m g o ((fo st k).name)) m from λm ag=>by
  have y:=a2.below ag;exact⟨y.cells.1 8 _ rfl,y.cells.1 9 _ rfl,y.cells.1 10 _ rfl,y.cells.1 11 _ rfl,zy (zD bG ag) c4⟩)
 have HS:=cT.o;refine zE kr HS (λhHeld=>?_);refine zi 0 ?_;iterate 8 (refine zt hHeld ?_;simp only[zA])
 refine zo ?_;refine zT 11 hHeld ?_;simp only[zA];refine zr 8 λK hK=>?_
 go_simp;go_at_call 67
 refine zcm (z3s st (fo st k).name om _ _ (λ_=>True) (a2.below zbr.drew).state) ?_;rintro bU N ⟨⟨al,rfl,cc⟩,bR⟩;have Y:=ζ (bW an N:Prop) (zD zbr.drew bR);have aH:=z1u b4 3;obtain⟨d,aJ⟩:=Ξ (zY st 3 (zL (fo st k)).parent);rw[aJ] at aH;have bL:=zh (by rw[aH];rfl:(zY st 4 (fo st k).name).drop 1=d);have ed:d.length<=4:=by rw[<-aJ];have:=z2c st 3 (zL (fo st k)).parent;omega
 have cN:=ζ (∀x∈d,∃f,Z4 st x.name=some f) (λx G=>z3y (n:=3) (s:=(zL (fo st k)).parent) (by rw[aJ];exact G));rw[aH] at cc;obtain⟨bz,bh,rfl,dL,dM,dN,cd⟩:=cc;unfold maxLen at dM;rw[length_cons] at dL dN⊢;obtain⟨aZ,bY⟩:=Ξ (if bh=1 then bz else Option.map (λx:Addr=>({ block:=x.block,off:=x.off+2 }:Addr)) bz);have cS:=zh (show SlAt 2 rAt (λE=>an<=E) N aZ d from λt x G=>by
  have ec:=(zge G).1;obtain⟨J,o9,co,bm,c9,da,db,dd⟩:=cd (t+1) x (by simpa using G);rw[if_neg om,bm] at bY;exact⟨J,o9+2,co,bY.symm,c9,da,λj O S=>by rw[show o9+2+(t*2+j)=o9+((t+1)*2+j) by omega];exact db j O S,dd⟩)
 have d7:(1:Int)<=(d:Int)+1:=om
 have ee:d.length<=bh-1:=om
 clear aJ aH bR hHeld b4 cd;refine hK.o _ _ (HS _ Y.o) (λhHeld=>?_);clear hK K;refine zi 9 ?_;iterate 2 (refine zt hHeld ?_;simp only[zA])
 refine zo ?_;refine wpAnyH_done kr ?_ _;clear hHeld HS;have cs:=zh (a2.below Y.o);have a4:=zh (zD bG Y.o);have cC:=zh ((Y.o.block _ dD).trans cZ);have em:=Y.o.size;go_wp2;go_loopw [23] (λt wr=>∃(r:Nat) (f:Folder),r<=d/\t= .int .i64 r/\Hid (Wrote X base bw N R c dv late (setF st k f) done wr)/\Hid (Gv (fo st k) f)/\Hid (YA st (d.drop r) f=YA st d (fo st k))/\Hid (f.links=(fo st k).links)/\f.wraps.length<=5000+100*r) (λt _=>d.length-(intOf t).toNat)
 case atStart=>exact⟨0,fo st k,om,gn,(by rw[z8r];exact Wrote.refl cs),Gv.refl _,rfl,rfl,om⟩
 obtain⟨r,f,_,rfl,be,A,a5,bM,_⟩:=hrel;by_cases aL:r<d
 rotate_left
 ·obtain rfl:r=d:=om
  have a7:=zh (show Wrote X base bw W R c dv late (yN st k) done wr from by
   have bn:yN st k=setF st k f:=by
    have bX:=a5.o;rw[drop_length] at bX;unfold yN;rw[bL.o,<-bX];rfl
   rw[bn];exact be.pre a4)
  go_wp2;go_end0
  exact⟨rfl,a7.o⟩
 have eh:(r:Int)<(d:Int):=om
 obtain⟨R1,b8,aN,b5⟩:=be.o;obtain⟨x,G⟩:∃x,d[r]? =some x:=⟨_,qLgx aL⟩;obtain⟨J,o9,co,bm,_,_,aG,bZ⟩:=cS.o r x G;obtain⟨rfl,cm,_⟩:=z48 bZ;have ba:=zh (show ∀E,W.heap.size<=E->E<N.heap.size->wr.heap[E]? =N.heap[E]? from λE d6 y=>aN.but.block E y λe=>by
  rcases e with e|e
  ·omega
  ·have:=bd.os.lt e;omega)
 have b1:J<N:=zF (aG 0 _ rfl);have ek:=aN.but.size;have dR:=(World.cell?_of_block (a:=⟨J,o9+r*2,none⟩) (ba.o J om b1)).trans (aG 0 _ rfl);have dS:=(World.cell?_of_block (a:=⟨J,o9+r*2+1,none⟩) (ba.o J om b1)).trans (aG 1 _ rfl);obtain⟨U,cf,df,dl,bC,dP⟩:=zP wr #["",'0'] 124;have ac:U.heap[wr.heap.size]? =some (.cells #["",'0'] 124 (0,0)):=by rw[<-cf];exact zJ _ rfl
 have ae:(cL U wr 0 "":Prop):=ψ ac 0 _ rfl;have bi:(cL U wr 1 '0':Prop):=ψ ac 1 _ rfl;have af:=(zB ac).2;have c0:=zh ac;have cv:=zh bC;have bK:=zh b8;have bb:=zh aN;have a8:=zh b5;have bP:=zh G;subst bm;clear b8 aN b5 G aG bZ df dl ac bC;go_wp2_with fail
 have H:=zH (i:=1) x.seq (zH (i:=0) x.name c0 rfl) rfl;have I:ButB (·=wr) U ((U.setCell (aD wr 0) x.name).setCell (aD wr 1) x.seq):=((ButB.refl (·=wr) U).set _ _ rfl).set _ _ rfl;generalize dC:World.setCell _ _ _=cl at H I⊢;have a1:(bW wr cl:Prop):=ButB.below cv om (λz ci=>om) I;have cw:=zh a1;have c1:=zh H;have bE:=zh (bK.below a1);have dE:wr<cl.heap.size:=zI H;clear dC H I a1 ae bi af cf dP dR dS;obtain⟨F,aI⟩:=cN.o x (zmg bP);obtain⟨j,S⟩:∃j,foI st x.name=some j:=by
  cases bn:foI st x.name with
  | none=>rw[zAv.1 bn] at aI;cases aI
  | some j=>exact⟨j,rfl⟩
 have M:foI (setF st k f) x.name=some j:=(zF8 hk A.name _).trans S;refine zcm (zDn bE x.name) ?_;rintro e6 bx ⟨⟨cb,_⟩|⟨dG,_,_,b7,b0,rfl⟩,Z⟩
 ·rw[M] at cb;cases cb
 obtain rfl:j=dG:=zsi (M.symm.trans b7);have a3:=zh (bE.below Z);have cx:=zh (zD cw Z);have bN:=zh ((Z.block _ dE).trans c1);have ap:=zh b0;have P:=zh S;have bJ:=ζ (F=fo st j) (zsi (aI.symm.trans (z41 S)));have aq:=zh (Alike.gv hk A);have dF:wr<bx.heap.size:=by have:=Z.size;omega
 clear S M b7 b0 aI Z;have cU:=zh (show ∀m:World,((bW bx m:Prop))->(λm:World=>cL m bw 8 st.turn/\m.cell? ⟨bw,9,none⟩=some (R1 .us).v/\m.cell? ⟨bw,10,none⟩=some (R1 .de).v/\m.cell? ⟨bw,11,none⟩=some (R1 .fo).v/\cL m wr 0 x.name) m from λm ag=>by
  have y:=a3.below ag;exact⟨y.cells.1 8 _ rfl,y.cells.1 9 _ rfl,y.cells.1 10 _ rfl,y.cells.1 11 _ rfl,zy ag (ψ bN 0 _ rfl)⟩)
 go_wp2_with fail
 have HS:=cU.o;refine zE kr HS (λhHeld=>?_);refine zi 0 ?_;iterate 6 (refine zt hHeld ?_;simp only[zA])
 refine zo ?_;refine zr 6 λK hK=>?_
 go_simp;go_at_call 144
 refine zcb (zI0 (setF st k f) x.name cm _ _ (λ_=>True) (a3.below zbr.drew).state) λV bS=>?_;have ao:=ζ (bW bx V:Prop) (zD zbr.drew bS);clear bS hHeld;refine hK.o _ _ (HS _ ao.o) (λhHeld=>?_);clear hK K;rw[aq.o.stale];refine zT 7 hHeld ?_;simp only[zA];refine wpAnyH_done kr ?_ _;clear hHeld HS;have bp:k<(setF st k f).folders.length:=by rw[z0m];exact hk
 have B:=zh (a3.below ao.o);have ar:=zh (zD cx ao.o);have a9:=ζ (fo (setF st k f) k=f) (z24 hk);have av:=zh (ct.keep a8);have cD:=zh ((ar.block W om).trans ((ba.o W (znl _) om).trans cC));have az:(cL V W 0 (.int .i64 ((fo st k).epochs.length:Int)):Prop):=ψ cD 0 _ rfl;have c2:=zh ((ao.o.block _ dF).trans bN);have aR:(cL V wr 0 x.name:Prop):=ψ c2 0 _ rfl;have a6:=zh (show d.drop r=x::d.drop (r+1) by
  obtain⟨dw,e⟩:=zge bP;rw[drop_eq_getElem_cons dw,e])
 have bH:=zh (show ∀bk,YA st (d.drop r) f=bk->yN st k=setF st k bk from λbk ds=>by
  unfold yN;rw[bL.o,<-a5.o,ds])
 cases bq:yH st x.name
 ·obtain⟨cp,L,cq,bU,cr,di,D5,dj,D6,e6,C,hF,aT,aU,aV,al,aW,aX,aY,b6,Q⟩:=B.fold (ZT bp) av;rw[a9.o] at C hF aT aU aV al aW aX aY;have aK:(R1 (.li k)).v= .slice D6 f.links e6:=by
   simp only[hdr,cons.injEq,and_true] at C;exact C.2.2.2.2.2.2
  have aB:=(B.is.fo k _ (ZT bp)).2.li;rw[a9.o] at aB;have bF:=zh aB;have cR:=zh (by rw[<-aK];exact B.os.row (.li k):RowC 151 3 V (.slice D6 f.links e6) (R1 (.li k)).cells);have cz:=zh (zV2 ((fo st k).epochs.length:Int) x.name W wr f.links (.slice D6 f.links e6) V (λ_=>True) (by rw[<-aK];exact z1h z1b (B.os.row (.li k)) (B.os.len _) aB) az aR);have ab:=zh aK;have c5:=zh aY;have cH:=zh Q;clear C hF aT aU aV al aW aX aK aB Q;go_wp2_with fail
  refine zcb cz λw8 v=>?_;cases b2:f.links.any (isL ((fo st k).epochs.length:Int) x.name)
  ·go_wp2_with fail
   have aa:=zh (B.below v);have ai:j<(setF st k f).folders.length:=by rw[z0m];exact z0l P
   have y6:=zy v c5;have yE:=zy v az;have yx:=zy v aR;have yz:∀q,w8.frozen? (aD g q)=false:=λq=>by unfold World.frozen?;rw[v.block g b6];exact cH.o q
   have hg8:g<w8:=by have:=v.size;omega
   have HNG:=zh (show(Value.slice D6 f.links e6).ownBlock≠some g from λe=>by
    rw[<-ab.o] at e;obtain⟨_,bh,o9,dz,_⟩:=av.o;have:=B.os.inj (.li k) .fo g e (by rw[dz];rfl);cases this)
   have d9:(R1 (.li k)).cells.length=f.links.length:=bF.1;have ea:f.links.length<=5000:=by rw[bM.o];exact du
   have HR8:=zh (cR.below v);have au:=zh v;clear v az aR;have cV:=zh (HQa2 (zyB yE) (zyB yx));have HNE:=zh (show(Value.slice D6 f.links e6).ownBlock≠some W.heap.size from λe=>by
    rw[<-ab.o] at e;rcases bb.fresh _ ⟨.li k,e⟩ with L|L
    ·have:=bd.os.lt L;omega
    ·omega)
   have HNX:=zh (show(Value.slice D6 f.links e6).ownBlock≠some wr.heap.size from λe=>by
    rw[<-ab.o] at e;have:=bK.os.lt ⟨.li k,e⟩;omega)
   have hgE:¬(g=W):=om
   have hgx:¬(g=wr):=om
   have HFI:=zh (show ∀(A8:Option Addr) (n8 cp8:Nat) (w9:World),RowC 151 3 w9 (.slice A8 n8 cp8) ((R1 (.li k)).cells++[[.int .i64 (fo st k).epochs.length,.string x.name,.int .i64 (fo (setF st k f) j).epochs.length]])->ButB (λz=>(Value.slice D6 f.links e6).ownBlock=some z) w8 w9->((Value.slice A8 n8 cp8).ownBlock=(Value.slice D6 f.links e6).ownBlock\/∃k,(Value.slice A8 n8 cp8).ownBlock=some k/\w8.heap.size<=k)->
     Wrote X base bw W R c dv late (yN st k) done (w9.setCell (aD g (o+6)) (.slice A8 n8 cp8)) from λA8 n8 cp8 w9 r9 p9 o9=>by
    have D:Z4 st x.name=some F:=by rw[bJ.o];exact z41 P
    have dr:(fo (setF st k f) j).epochs.length=((Z4 st x.name).getD z0b).epochs.length:=by
     have dh:=z41 ((zF8 hk A.name x.name).trans P);have L:=aq.eps x.name;rw[dh] at L;exact congrArg length L
    have ef:((Z4 st x.name).getD z0b).epochs.length<=1000000:=by
     rw[D];exact(bc.o F (z30 D)).2.2.2
    have dp:=bH { f with links:=f.links++[⟨f.epochs,x.name,((Z4 st x.name).getD z0b).epochs.length⟩] } (by
     rw[a6.o];unfold YA;rw[if_neg (by rw[bq];decide),if_neg];unfold zA3;rw[A.o.ep];rw[show(f.links.any λd=>decide (d.epoch=((fo st k).epochs.length:Int))&&decide (d.to=x.name))=f.links.any (isL ((fo st k).epochs.length:Int) x.name) from rfl,b2];decide)
    have aL:=aa.liTo bp av (v':= .slice A8 n8 cp8) (cells:=(R1 (.li k)).cells++[[.int .i64 (fo st k).epochs.length,.string x.name,.int .i64 (fo (setF st k f) j).epochs.length]]) (by simp;omega) r9 (by rw[ab.o];exact p9) (by rw[ab.o];exact o9) rfl (l:=f.links++[⟨f.epochs,x.name,((Z4 st x.name).getD z0b).epochs.length⟩]) ((bF.imp λ_ _ e=>e).snoc ⟨by rw[A.o.ep,dr],(show I64 (f.epochs:Int) from⟨om,by rw[A.o.ep];omega⟩),cm,(show I64 (((Z4 st x.name).getD z0b).epochs.length:Int) from⟨om,om⟩)⟩);rw[a9.o,z2k] at aL;rw[dp];obtain⟨bQ,T,aj,ak⟩:=aL;exact⟨bQ,T,(((Mut.below a4).trans bb).trans (Mut.below (zD ar au))).trans aj,ak.trans a8⟩)
   have HS:=cV.o;refine zE kr HS (λhHeld=>?_);refine zi 0 ?_;iterate 4 (refine zt hHeld ?_;simp only[zA])
   refine zo ?_;refine zi 5 ?_;iterate 4 (refine zt hHeld ?_;simp only[zA])
   refine zo ?_;refine wpAnyH_ready (rs:=[4,9]) kr sm ?_;refine AllReadyH.cons rfl (λK hK=>?_) (AllReadyH.cons rfl (λK hK=>?_) AllReadyH.nil)
   ·go_simp;refine hK.o _ _ (HS _ (zbr.drew)) (λhHeld=>?_);clear hK K;refine zr 9 λK hK=>?_
    go_simp;go_at_call 158
    refine zcb (z3t (aa.below zbr.drew) ai ap) λw9 bo=>?_;subst bo;refine hK.o _ _ (HS _ zbr.drew) (λhHeld=>?_);clear hK K;refine zT 10 hHeld ?_;simp only[zA];refine zr 11 λK hK=>?_
    exact maf
   go_simp;go_at_call 158
   refine zcb (z3t (aa.below zbr.drew) ai ap) λw9 bo=>?_;subst bo;refine hK.o _ _ (HS _ zbr.drew) (λhHeld=>?_);clear hK K;refine zT 10 hHeld ?_;simp only[zA];refine wpAnyH_ready (rs:=[4,11]) kr sm ?_;refine AllReadyH.cons rfl (λK hK=>?_) (AllReadyH.cons rfl (λK hK=>?_) AllReadyH.nil)
   ·go_simp;refine hK.o _ _ (HS _ (zbr.drew)) (λhHeld=>?_);clear hK K;refine zr 11 λK hK=>?_
    exact maf
   go_simp;refine hK.o _ _ (HS _ gg) (λhHeld=>?_);clear hK K;refine zr 4 λK hK=>?_
   exact maf
  have a7:=zh (bH.o f (by
   rw[a6.o];unfold YA;rw[if_neg (by rw[bq];decide),if_pos];unfold zA3;rw[A.o.ep];exact b2))
  go_wp2;try simp only[φ]
  refine bodyPost_ret (results_none rfl _ _ _) rfl ?_;refine⟨rfl,?_⟩;rw[a7.o];obtain⟨c8,bt,cj,bu⟩:=(be.below (zD ar v));exact⟨c8,bt,(Mut.below a4).trans cj,bu⟩
 have ai:j<(setF st k f).folders.length:=by rw[z0m];exact z0l P
 have D:Z4 st x.name=some F:=by rw[bJ.o];exact z41 P
 have M:=z41 ((zF8 hk A.name x.name).trans P);have aP:=aq.now x.name;rw[M,D] at aP;have ca:(fo (setF st k f) j).manifests≠[]:=by
  obtain⟨_,bV,dn,_⟩:=aq.hit D;rw[M] at bV;rw[zsi bV,dn];exact(bc.o F (z30 D)).2.2.1
 obtain⟨b,aO⟩:=Ξ (zL (fo (setF st k f) j));have eg:b.members.length<=100:=by
  have:=(bc.o F (z30 D)).2.1;rw[<-aO];have bj:zL (fo (setF st k f) j)=zL F:=aP;rw[bj];exact this
 have cX:=zh (show YA st (d.drop r) f=YA st (d.drop (r+1)) (Y5 (λ_=>false) f b.members) by
  rw[a6.o];conv=>lhs;unfold YA
  rw[if_pos bq,D,<-aO];have bj:zL (fo (setF st k f) j)=zL F:=aP;rw[bj];rfl)
 obtain⟨dH,dJ,dI,dK,⟨bt,cj,bu,bv,_⟩,aw⟩:=z7c B ai ap ca;rw[aO] at aw bt bu bv;obtain⟨cp,L,cq,bU,cr,di,D5,dj,D6,e6,C,hF,aT,aU,aV,al,aW,aX,aY,b6,Q⟩:=B.fold (ZT ai) ap;rw[C] at aw;have cO:=zh (aw V zbr);have cP:=zh bv;have en:=z2d b.folder b.parent b.who b.seq b.cut b.gone (.slice dH b.prev dJ) (.slice dI b.members dK);clear C hF Q aw bv aP aO M D ca az aR;go_wp2_with fail
 refine zcb cO λw8 v=>?_;have aa:=zh (B.below v);have au:=zh v;clear aT aU aV al aW aX aY v;go_wp2_with fail
 go_loopw [67] (λt d1=>∃q:Nat,q<=b.members/\t= .int .i64 q/\Hid (Wrote X base bw w8 R1 c dv late (setF st k (Y5 (λ_=>false) f (b.members.take q))) done d1)) (λt _=>b.members.length-(intOf t).toNat)
 case atStart=>exact⟨0,om,gn,Wrote.refl aa⟩
 obtain⟨q,_,rfl,bO⟩:=hrel;by_cases dx:q<b.members
 rotate_left
 ·obtain rfl:q=b.members:=om
  have cE:=zh (show Wrote X base bw N R c dv late (setF st k (Y5 (λ_=>false) f b.members)) done wr from by
   obtain⟨bf,T,aj,ak⟩:=bO.o;rw[qLnx] at T;exact⟨bf,T,(bb.trans (Mut.below (zD ar au))).trans aj,ak.trans a8⟩)
  have cF:=zh (A.trans (zAx (λ_=>false) b.members f));have cA:=zh (cX.symm.trans a5);have cK:=zh ((zD5 (λ_=>false) b.members f).trans bM);have b9:=z8j (λ_=>false) b.members f;go_wp2;go_roundw
  case rel=>exact⟨r+1,Y5 (λ_=>false) f b.members,om,gn,cE,cF,cA,cK,om⟩
  case measure=>exact qMx
 have ej:(q:Int)<(b.members:Int):=om
 obtain⟨bQ,y,bs,bT⟩:=bO;obtain⟨O,_,_,cn,d3,d4,rfl,_,_,_,_,d2,d5,_⟩:=yT cP dx (Mut.kept ((Mut.below au).trans bs));have c7:=zh cn;clear cn d3 d4 d2;obtain⟨w9,cg,dg,dm,bD,dQ⟩:=zP wr #["",'0'] 87;have ad:w9.heap[wr.heap.size]? =some (.cells #["",'0'] 87 (0,0)):=by rw[<-cg];exact zJ _ rfl
 have ae:(cL w9 wr 0 "":Prop):=ψ ad 0 _ rfl;have bi:(cL w9 wr 1 '0':Prop):=ψ ad 1 _ rfl;have af:=(zB ad).2;have c3:=zh ad;have cy:=zh bD;have cJ:=zh y;have cM:=zh bs;have bI:=zh bT;clear y bs bT dg dm ad bD;go_wp2_with fail
 have H:=zH (i:=1) O.role (zH (i:=0) O.name c3 rfl) rfl;have I:ButB (·=wr) w9 ((w9.setCell (aD wr 0) O.name).setCell (aD wr 1) O.role):=((ButB.refl (·=wr) w9).set _ _ rfl).set _ _ rfl;generalize dA:World.setCell _ _ _=dZ at H I⊢;have a0:(bW wr dZ:Prop):=ButB.below cy om (λz ci=>om) I;have dt:k<(setF st k (Y5 (λ_=>false) f (b.members.take q))).folders.length:=by rw[z0m];exact hk
 have ah:fo (setF st k (Y5 (λ_=>false) f (b.members.take q))) k=Y5 (λ_=>false) f (b.members.take q):=z24 hk;have bl:=zAx (λ_=>false) (b.members.take q) f;have b9:=z8j (λ_=>false) (b.members.take q) f;have dy:(b.members.take q).length<=100:=by rw[length_take];omega
 refine zcm (z9h (cJ.below a0) dt (av.keep bI) (by rw[ah];exact bl.wr (A.wr cQ)) (by rw[ah];omega) (by rw[ah,bl.ep,A.o.ep];exact dq) O.name d5 false) ?_;clear dA H I ae bi af cg dQ bl b9 dy;rintro _ d0 ⟨rfl,br⟩;have c6:=zh (show Wrote X base bw w8 R1 c dv late (setF st k (Y5 (λ_=>false) f (b.members.take (q+1)))) done d0 from by
  rw[ah,z2k] at br;rw[zEk c7.o];obtain⟨bf,T,aj,ak⟩:=br;exact⟨bf,T,(cM.trans (Mut.below a0)).trans aj,ak.trans bI⟩)
 clear br ah a0;go_wp2;go_roundw
 case rel=>exact⟨q+1,om,gn,c6⟩
 case measure=>exact qMx
end
end Go.Proofs.YtdggplhnfhcieaaGreatDoor
