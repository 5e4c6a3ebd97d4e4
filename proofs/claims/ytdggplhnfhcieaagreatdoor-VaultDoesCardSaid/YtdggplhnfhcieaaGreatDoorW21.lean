/- No condition. -/
import Derived.Test.YtdggplhnfhcieaaGreatDoorW20
set_option linter.all false
set_option maxRecDepth 100000
set_option maxHeartbeats 16000000
namespace Go.Proofs.YtdggplhnfhcieaaGreatDoor
open Go.Proofs.Tryz Cd Ce List
open Go.RowKit Go.Deep
variable {p:Prop} {s:Nm} {k n u:Nat}
def isP (p q:Pair):Bool:=decide (q.frm=p.frm)&&decide (q.to=p.to)
theorem mbK (h:p:=by
 go_wp2_with fail
 go_quiet (fail)
 go_wp2;go_roundw
 case rel=>exact⟨k+1,om,gn,EP,yS hbel _⟩
 case measure=>exact qMx):p:=h
theorem zOe (p:Pair) (l:List Pair) (v:Value) (w:World) (S:Nat->Prop) (h:Sl 2 z10 S w v l):
  (kB 182 #[v,.agg #[.string p.frm,.string p.to]] w (iOf (l.findIdx? (isP p))):Prop):=by
 have H:prog.eqGuardType prog.depth 126=false:=kr
 have L:prog.stoodInHeld 126=false:=kr
 have M:=underlying126;obtain⟨_,_,rfl,_,y,_,A⟩:=h;unfold maxLen at y;obtain⟨C,_,q,_,o,K⟩:=zP w #[p.frm,p.to] 126;obtain⟨F,G⟩:=TC2 q;have g:=zh o;clear q o;go_enter func182,ntmps182
 go_wp2;go_loopw [8] (λm wr=>∃(k:Nat),k<=l/\m= .int .i64 k/\Hid (∀t∈l.take k,isP p t=false)/\bW C wr) (λm _=>l.length-(intOf m).toNat)
 case atStart=>exact⟨0,om,gn,(λt B=>by simp at B),Below.refl _ _⟩
 obtain⟨k,_,rfl,d,hbel⟩:=hrel;by_cases z:k<l
 rotate_left
 ·obtain rfl:k=l:=om
  have f:=zh (z6s (p:=isP p) (l:=l) (by have:=d.o;rwa [qLnx] at this));go_wp2;go_ret;exact⟨by rw[f.o];rfl,zD g hbel⟩
 obtain⟨a,_,_,r,_,_,rfl,_,_,_,_,D,_⟩:=zAg A z (zK (zD g hbel));have i:=zh r;have x:=zy hbel F;have E:=zy hbel G;clear r D;by_cases b:p.frm=a.frm
 rotate_left
 ·have EP:=zh (z0i d i (by unfold isP;simp;intro j;exact absurd j.symm b:isP p a=false));have I:(p.frm.toList==a.frm.toList)=false:=YX b;exact mbK
 by_cases e:p.to=a.to
 ·have EP:=zh (by unfold isP;rw[b,e];simp:isP p a=true);have f:=zh (z4l d i EP.o);rw[b,e] at x E;go_wp2_with fail
  go_quiet (fail)
  go_wp2;go_ret;exact⟨by rw[f.o];rfl,zD g (yS hbel _)⟩
 have EP:=zh (z0i d i (by unfold isP;simp;intro _ j;exact e j.symm:isP p a=false));have J:(p.to.toList==a.to.toList)=false:=YX e;rw[b] at x;exact mbK
theorem zEl (p:Pair) (l:List Pair) (v:Value) (w:World) (S:Nat->Prop) (h:Sl 2 z10 S w v l):
  (kB 150 #[v,.agg #[.string p.frm,.string p.to]] w (l.any (isP p)):Prop):=by
 obtain⟨r,_,f,_,a,_⟩:=zP w #[p.frm,p.to] 126;obtain⟨x,y⟩:=TC2 f;have e:=zh a;have j:=zh (zOe p l v r S (h.keep z1r dc (zK a)));obtain⟨_,_,rfl,_⟩:=h;clear f a;go_enter func150,ntmps150
 go_wp2_with fail
 refine zcb j λ_ d=>?_
 cases g:l.findIdx? (isP p) with
 | none=>
  have b:=ζ (l.any (isP p)=false) (any_eq_false.2 λt q=>by simp[findIdx?_eq_none_iff.1 g t q]);simp only[iOf];go_wp2;go_ret
  exact⟨ZM b.o.symm,zD e d⟩
 | some i=>
  have b:=zh (show l.any (isP p)=true from by
   obtain⟨m,o,_⟩:=findIdx?_eq_some_iff_getElem.1 g;exact any_eq_true.2 ⟨_,getElem_mem m,o⟩)
  simp only[iOf];go_wp2;go_ret;exact⟨ZM b.o.symm,zD e d⟩
section
variable {X:Nat->Prop} {base bw:Nat} {W:World} {R:RM} {c:Call} {dv:Value} {st:State} {late:Bool}
theorem mai (h:p:=by
 exact ZI H2 (Mut.below (zD HB0 BW.o)) (znl _) F2 (ZW ⟨om,om⟩)):p:=h
theorem zJb (h:WK X base bw W R c dv st false late) (hl:st.users.length<=9999):
  Calls prog 87 #[pT bw] W (Did X base bw W R c dv late (YB st c)):=by
 obtain⟨aQ,aL,aP,aI,aJ⟩:=info_parts (show(prog.info? 91).map (λD=>(D.zero,D.size,D.bytes))=some (some (.agg #["",false]),2,24) from kr);obtain⟨_,_,aH,aN,ac,_⟩:=yG h.call;clear aH aN;have aB:=zh ac;obtain⟨y,ad⟩:=Ξ (W.alloc (.cells Z3 49));have ab:=yQ W;rw[ad] at ab;obtain⟨aa,K,Y,J⟩:=ab;have e:=aa R h;have t:=zh e;have A:=zh Y;have HB0:=zh K;have az:=zh (z2j e c.user);obtain⟨af,H⟩:cL y bw 1 c.user/\y.cell? ⟨bw,9,none⟩=some (R .us).v:=⟨e.cells.1 1 _ rfl,e.cells.1 9 _ rfl⟩;obtain⟨r,w,x,_⟩:=(h.os.row .us).shape;rw[h.is.users.1] at x;rw[x] at H;have o:=zh x;have aX:=e.lt;clear h x ac e aa K Y;unfold Z3 at ad;go_enter func87,ntmps87
 go_wp2_with fail
 refine zcb az λI i=>?_;have f:=zh i
 cases g:yU st c.user with
 | some u=>
  simp only[iOf];clear i;go_wp2_with fail
  refine zcb (ZU _ _) λaW j=>?_;obtain⟨BW,H2,B,ag,ah,ai,aj,ak,al,am,an⟩:=zW f j t J A;clear j;unfold ZV;go_wp2;try simp only[φ]
  obtain⟨m,F2⟩:=ZC B.o (.int .i64 42) '0' "" () () () ();refine zrt m ?_;rw[show(YB st c)=(st,ZD 42,false) from by unfold YB;rw[g];rfl]
  exact mai
 | none=>
  simp only[iOf];have aZ:=zy i af;have aU:=zy i H;clear i af H;by_cases Z:16<=st.users.length
  ·have aK:(decide (16<=(st.users:Int)))=true:=θ;go_wp2_with fail
   refine zcb (ZU _ _) λaW j=>?_;obtain⟨BW,H2,B,ag,ah,ai,aj,ak,al,am,an⟩:=zW f j t J A;clear j;unfold ZV;go_wp2;try simp only[φ]
   obtain⟨m,F2⟩:=ZC B.o (.int .i64 3) '0' "" () () () ();refine zrt m ?_;rw[show(YB st c)=(st,ZD 3,false) from by unfold YB;rw[g];simp[Z]];exact mai
  have aK:(decide (16<=(st.users:Int)))=false:=η;have d:=t.below f;have ay:=zh (by rw[<-o.o];exact d.os.row .us:RowC 91 2 I (.slice r st.users w) (R .us).cells);have P:=zh (by rw[d.is.users.1];exact hl:(R .us).cells.length<=9999);have av:=ζ ((Value.slice r st.users w).ownBlock≠some bw) (λb=>d.nb ⟨.us,by rw[o.o];exact b⟩);have au:=ζ ((Value.slice r st.users w).ownBlock≠some W.heap.size) (λb=>d.nx W (.inl ⟨.us,by rw[o.o];exact b⟩) (.inr rfl));have M:=zh ((f.block _ J).trans A);have aT:∀q,I.frozen? (aD bw q)=false:=d.cells.2;have aO:=d.lt;clear d;go_wp2_with fail
  go_region_law (refine z1y I _ [c.user,false] rfl (.tmp 27) (.tmp 34) 30 rfl aQ _ 24 underlying30 aL aP aI aJ rfl dc dc (.slice r st.users w) (R .us).cells rfl _ _ rfl ay gg (Nat.le_succ_of_le P) rfl (by intro u g;simp at g;rcases g with rfl|rfl<;>rfl) (by repeat' first|with_reducible assumption|((with_reducible first|refine Z2 _ ?_ ?_|apply zJ);rotate_left;first|with_reducible rfl|((try dsimp only);first|with_reducible assumption|omega|(simp only[zS];done)|(simp only[zS];omega)))|with_reducible apply zH|with_reducible refine zR _ ?_|with_reducible refine ZQ ?_|refine(rfl:(_:Array Value)=_)) ?_;intro a0 aV G F ae;obtain⟨ao,aR,aG,rfl⟩:=G.shape3;have ax:=zh G;have S:=zh F;have aw:=zh ae;have E:=F.block bw aO av;have aY:=(World.cell?_of_block (a:=⟨bw,9,none⟩) E).trans aU;have a1:∀q,aV.frozen? (aD bw q)=false:=(λq=>by unfold World.frozen?;rw[E];exact aT q);clear E G F ae)
  all_goals
   have T:=zh (t.below f);obtain⟨z,V⟩:=T.usTo (l:=st.users++[⟨c.user,false⟩]) (by simp;have:=P.o;omega) ax (by rw[o.o];exact S) (by rw[o.o];exact aw) (T.is.users.snoc ⟨rfl,aB.o⟩);have ar:=zh V;have Q:=zh (λb=>z.nx W b (.inr rfl));have U:=Z2 (a:=⟨bw,9,none⟩) (.slice ao aR aG) ((S.block _ (zI M) au).trans M) (λb=>Q.o (.inr b));have O:=zh U;go_wp2_with fail
   refine zcm (z40 z 0) ?_;clear z V U;rintro _ _ ⟨rfl,L,C⟩;have N:=zh ((C.but.block _ (zI O) (λb=>Q.o (b.symm.imp id id))).trans O);have v:=N.o;unfold Z3 at v;obtain⟨ag,ah,ai,aj,ak,al,am⟩:=zC7 (zB v).1;have an:=(zB v).2;have ap:=zh L;have aq:=zh C;clear L C v;unfold ZV;go_wp2;try simp only[φ]
   obtain⟨m,F2⟩:=ZC N '0' '0' "" () () () ();refine zrt m ?_;rw[show YB st c=({ st with users:=st.users++[⟨c.user,false⟩] },Y2 0,true) from by unfold YB;rw[g];simp[Z]];exact ZI ap ((Mut.below (zD HB0 f)).trans (ar.trans aq)) (znl _) F2 (z33 ⟨om,om⟩)
end
def hvN (st:State):Nat->Folder->Nat
 | 0,_=>0
 | n+1,f=>yV st n f.name
def z3i (st:State) (n:Nat) (s:Nm) (m:Nat) (f:Folder):Nat:=if inB s f then max m (hvN st n f) else m
theorem zVd {st:State} (h:z6v st n s):yV st n s=st.folders.foldl (z3i st n s) 0+1:=by
 cases n with
 | zero=>
  have f:∀(b:List Folder),(∀d∈b,inB s d=false)->∀a,b.foldl (z3i st 0 s) a=a:=λb=>by
   induction b with
   | nil=>intro _ a;rfl
   | cons d r ih=>
    intro e a;rw[foldl_cons];unfold z3i;rw[e d (mem_cons_self ..)];exact ih (λi g=>e i (zmc _ g)) a
  rw[f _ h]
  rfl
 | succ n=>rfl
theorem zOm {a d:Type} {f:d->a->d} {b:d} {l:List a} {x:a} (hx:l[k]? =some x):(l.take (k+1)).foldl f b=f ((l.take k).foldl f b) x:=by
 rw[qLtx,hx,foldl_append];rfl
section
variable {X:Nat->Prop} {base bw:Nat} {R:RM} {c:Call} {dv:Value} {st:State} {done late:Bool}
theorem zQt (st:State):∀(n:Nat) (f:Folder),hvN st n f<=n
 | 0,_=>znl _
 | n+1,f=>by
  show yV st n f.name<=n+1
  cases n with
  | zero=>exact znl _
  | succ n=>
   have e:∀(d:List Folder) (b:Nat),b<=n+1->d.foldl (z3i st (n+1) f.name) b<=n+1:=λd=>by
    induction d with
    | nil=>intro b a;exact a
    | cons x r ih=>
     intro b a;rw[foldl_cons];refine ih _ ?_;unfold z3i;split
     ·exact Nat.max_le.2 ⟨a,zQt st (n+1) x⟩
     ·exact a
   have:=e st.folders 0 om;show st.folders.foldl (z3i st (n+1) f.name) 0+1<=n+1+1
   omega
theorem zKw (st:State) (n:Nat) (s:Nm):∀(l:List Folder) (m:Nat),m<=n->l.foldl (z3i st n s) m<=n
 | [],m,h=>h
 | x::r,m,h=>by
  rw[foldl_cons];refine zKw st n s r _ ?_;unfold z3i;split
  ·exact Nat.max_le.2 ⟨h,zQt st n x⟩
  ·exact h
theorem zT8 (a b:Nat):(max (a:Int) (b:Int))=((max a b:Nat):Int):=om
theorem maK (h:p:=by
 rw[hg] at HS8;go_wp2_with fail
 obtain⟨_,F2⟩:=HS8;generalize hW6:World.setCell _ _ _=w6 at F2⊢;have B6:(bW W w6:Prop):=ButB.below (zD HB4 HB5) (oh ((zD HB4 HB5).size)) (λz hz=>om) F2;clear hW6 F2 y0 d0 d1 d2 d3 d4 d5 d6 d7 dz;go_wp2;go_roundw
 case rel=>exact⟨k+1,om,gn,by rw[HSTEP.o,HST.o],B6⟩
 case measure=>exact qMx):p:=h
theorem zGd (n:Nat) (hn:n<=1000) (s:Nm) (W:World) (h:WK X base bw W R c dv st done late) (J:z6v st n s) (K:∀f∈st.folders,inB s f=true->∀W,WK X base bw W R c dv st done late->(kB 132 #[pT bw,f.name] W (hvN st n f):Prop)):
  (kB 132 #[pT bw,s] W (yV st n s):Prop):=by
 have ac:=zh h;have aa:=zh K;have Y:=zh (zVd J);have Z:=zh (zKw st n s st.folders 0 om);obtain⟨_,_,L,_⟩:=(h.os.row .fo).shape;have N:=h.cells.1 11 _ rfl;have B:=h.foSl;rw[L] at N B;rw[h.is.fol] at N B;obtain⟨_,_,I,_,ah,_,an⟩:=B;simp only[Value.slice.injEq,true_and] at I;obtain⟨rfl,rfl⟩:=I;unfold maxLen at ah;have aT:=h.lt;clear h K J L;go_enter func132,ntmps132
 go_wp2_with fail
 go_loopw [5,15] (λa E wr=>∃k:Nat,k<=st.folders/\E= .int .i64 k/\a= .int .i64 ((st.folders.take k).foldl (z3i st n s) 0:Nat)/\bW W wr) (λ_ E _=>st.folders.length-(intOf E).toNat)
 case atStart=>exact⟨0,om,gn,rfl,Below.refl _ _⟩
 obtain⟨k,_,rfl,rfl,v⟩:=hrel;have hz:=v.size;by_cases al:k<st.folders
 rotate_left
 ·obtain rfl:k=st.folders:=om
  rw[qLnx];obtain⟨e,o⟩:=Ξ (st.folders.foldl (z3i st n s) 0);rw[o];have ab:=zh (by rw[Y.o,o]:yV st n s=e+1);have aX:e<=n:=by rw[<-o];exact Z
  have aY:IntKind.i64.wrap ((e:Int)+1)=(e:Int)+1:=by rw[IntKind.wrap_i64];omega
  clear o;go_wp2;go_ret;exact⟨Z8 (by rw[ab.o];rfl),v⟩
 have aU:(k:Int)<(st.folders:Int):=om
 obtain⟨d,_,_,av,aB,aw,aG,ax,aH,ay,aI,az,aJ,Q,aK,S,rfl,_,_,_,_,_,_,_,_,_,P,_,_,_,_,_,aP,_,_,_,aL,_,_,_,aN,_,_,_,aQ,_,_,_,aO⟩:=yP an al (zK v);have ad:=zh S;have ae:=zh P;have HSTEP:=zh (zOm (f:=z3i st n s) (b:=0) Q);obtain⟨e,o⟩:=Ξ ((st.folders.take k).foldl (z3i st n s) 0);rw[o] at HSTEP⊢;obtain⟨m,M,af,ai,G,_⟩:=zP wr oF 74;have j:m.heap[wr.heap.size]? =some (.cells oF 74 (0,0)):=by rw[<-M];exact zJ _ rfl
 have d0:(cL m wr 0 "":Prop):=ψ j 0 _ rfl;have d1:(cL m wr 1 '0':Prop):=ψ j 1 _ rfl;have d2:(cL m wr 2 ():Prop):=ψ j 2 _ rfl;have d3:(cL m wr 3 ():Prop):=ψ j 3 _ rfl;have d4:(cL m wr 4 ():Prop):=ψ j 4 _ rfl;have d5:(cL m wr 5 ():Prop):=ψ j 5 _ rfl;have d6:(cL m wr 6 ():Prop):=ψ j 6 _ rfl;have dz:=(zB j).2;have U:=zh j;have V:=zh G;clear af ai j G Q aK S P o aP aL aN aQ aO;go_wp2_with fail
 obtain⟨t,z⟩:=ZC U d.name d.turn (.slice av d.manifests aB) (.slice aw d.epochs aG) (.slice ax d.items aH) (.slice ay d.wraps aI) (.slice az d.links aJ);generalize ak:World.setCell _ _ _=O at t z⊢;have w:(bW wr O:Prop):=ButB.below V om (λaR hz=>om) z;refine zcm (z75 d _ O (λ_=>True) (zV ae (zK w))) ?_;clear ak z d0 d1 d2 d3 d4 d5 d6 dz M;rintro _ g ⟨⟨_,rfl,C⟩,x⟩;have H:=zh ((x.block _ (zI t)).trans t);have HB4:=zh (zD v (zD w x));have aZ:wr<g.heap.size:=zI H;obtain⟨a,D⟩:=Ξ (zL d);rw[D] at C;have A:=zh (by unfold inB;rw[D]:inB s d=(!a.gone&&decide (a.parent=s)));obtain⟨ap,ar,aq,au,rfl,_⟩:=ZO C;obtain⟨l,ao,ag,aj,y,_⟩:=zP g oM 84;have i:l.heap[g.heap.size]? =some (.cells oM 84 (0,0)):=by rw[<-ao];exact zJ _ rfl
 have d0:(cL l g 0 "":Prop):=ψ i 0 _ rfl;have d1:(cL l g 1 '0':Prop):=ψ i 1 _ rfl;have d2:(cL l g 2 ():Prop):=ψ i 2 _ rfl;have d3:(cL l g 3 "":Prop):=ψ i 3 _ rfl;have d4:(cL l g 4 ():Prop):=ψ i 4 _ rfl;have d5:(cL l g 5 '0':Prop):=ψ i 5 _ rfl;have d6:(cL l g 6 false:Prop):=ψ i 6 _ rfl;have d7:(cL l g 7 "":Prop):=ψ i 7 _ rfl;have dz:=(zB i).2;have HB5:=zh y;have y0:=zy y (ψ H 0 _ rfl);have HS8:=zh (z7w i a.folder a.seq (.slice ap a.prev ar) a.parent (.slice aq a.members au) a.cut a.gone a.who);have aV:¬(wr=g.heap.size):=om
 have aW:¬(g=wr.heap.size):=om
 clear ag aj i y C D t w x;cases hg:a.gone
 ·by_cases r:a.parent=s
  rotate_left
  ·have am:(a.parent.toList==s.toList)=false:=YX r;have q:=zh (by rw[A.o,hg,Γ r];rfl:inB s d=false);have HST:=zh (by unfold z3i;rw[q.o];rfl:z3i st n s e d=e);clear r;exact maK
  have am:(a.parent.toList==s.toList)=true:=by rw[r];simp
  have q:=zh (by rw[A.o,hg,Δ r];rfl:inB s d=true);have HST:=zh (by unfold z3i;rw[q.o];rfl:z3i st n s e d=max e (hvN st n d));clear r;rw[hg] at HS8;go_wp2_with fail
  obtain⟨_,F2⟩:=HS8;generalize hW6:World.setCell _ _ _=w6 at F2⊢;have B6:(bW W w6:Prop):=ButB.below (zD HB4 HB5) (oh ((zD HB4 HB5).size)) (λaR hz=>om) F2;refine zcm (aa.o d ad q w6 (ac.below B6)) ?_;clear hW6 F2 y0 d0 d1 d2 d3 d4 d5 d6 d7 dz;rintro _ _ ⟨rfl,F⟩;have T:=zD B6 F;clear F B6;go_wp2;go_roundw
  case rel=>exact⟨k+1,om,gn,by rw[HSTEP.o,HST.o,<-zT8],T⟩
  case measure=>exact qMx
 have q:=zh (by rw[A.o,hg];rfl:inB s d=false);have HST:=zh (by unfold z3i;rw[q.o];rfl:z3i st n s e d=e);exact maK
theorem zIe:∀(n:Nat),n<=1000->∀(s:Nm) (W:World),WK X base bw W R c dv st done late->z6v st n s->(kB 132 #[pT bw,s] W (yV st n s):Prop):=by
 intro n
 induction n with
 | zero=>exact λg s W e a=>zGd 0 g s W e a λb f d=>by rw[a b f] at d;cases d
 | succ n ih=>exact λg s W e a=>zGd (n+1) g s W e a λb f d i h=>ih om b.name i h (a b f d)
end
section
variable {X:Nat->Prop} {base bw:Nat} {W:World} {R:RM} {c:Call} {dv:Value} {st:State} {late:Bool}
theorem zKr (h:WK X base bw W R c dv st false late) (hl:st.deposits.length<=9999):
  Calls prog 97 #[pT bw] W (Did X base bw W R c dv late (z1v st c)):=by
 obtain⟨aW,aR,aV,aP,aQ⟩:=info_parts (show(prog.info? 126).map (λF=>(F.zero,F.size,F.bytes))=some (some (.agg #["",""]),2,32) from kr);obtain⟨_,_,aO,aT,al,_,_,aj,_⟩:=yG h.call;clear aO aT;have aJ:=zh al;have aB:=zh aj;obtain⟨b,am⟩:=Ξ (W.alloc (.cells Z3 49));have ah:=yQ W;rw[am] at ah;obtain⟨af,N,ad,ao⟩:=ah;have i:=af R h;have B:=zh i;have aa:=zh ad;have HB0:=zh N;obtain⟨aY,a0,L⟩:cL b bw 1 c.user/\cL b bw 4 c.other/\b.cell? ⟨bw,10,none⟩=some (R .de).v:=⟨i.cells.1 1 _ rfl,i.cells.1 4 _ rfl,i.cells.1 10 _ rfl⟩;obtain⟨g,m,w,_⟩:=(h.os.row .de).shape;rw[h.is.deps.1] at w;rw[w] at L;have j:=zh w;have bd:=i.lt;clear h w al aj i af N ad;unfold Z3 at am;go_enter func97,ntmps97
 go_upto_region 1 with fail
 go_cut [3] from 4 to 14 (λaZ a4=>aZ= .pointer (some ⟨b,0,none⟩)/\a4=(b.alloc (.cells #[c.user,c.other] 126)).drew)
 case first=>
  go_region_law fail
  all_goals
   go_wp2;go_meet
   case rel=>exact⟨rfl,rfl⟩
 obtain⟨rfl,E⟩:=hcut;have q:(bW b wc:Prop):=by rw[E];exact(Below.alloc zbr (znl _) _).drew
 have D:wc.heap[b.heap.size]? =some (.cells #[c.user,c.other] 126 (0,0)):=by rw[E];exact ZQ (zJ _ rfl)
 have H:(cL wc b 0 c.user:Prop):=ψ D 0 _ rfl;have I:(cL wc b 1 c.other:Prop):=ψ D 1 _ rfl;have M:(cL wc bw 10 (.slice g st.deposits m):Prop):=zy q L;have aq:=zh q;have ar:=zh (B.below q);have aI:=zh (by rw[<-j.o];exact ar.deSl:Sl 2 z10 (λ_=>True) wc (.slice g st.deposits m) st.deposits);clear E q D aY a0 L;go_upto_region 2 with fail
 have A:=zh (HQb3 (zyB M) (zyB H) (zyB I));refine zE kr A (λv=>?_);refine zi 0 ?_;iterate 6 (refine zt v ?_;simp only[zA])
 refine zo ?_;refine zr 6 λaK ag=>?_
 go_simp;go_at_call 150
 refine zcb (zEl ⟨c.user,c.other⟩ _ _ _ _ (aI.keep z1r dc (zK zbr.drew))) λx ae=>?_;have f:(bW wc x:Prop):=zD zbr.drew ae;clear ae v;refine ag.o _ _ (A.o _ f) (λv=>?_);clear ag aK;refine wpAnyH_done kr ?_ _;clear v A;have r:=zh (zD aq f);have a2:=zy f M;have be:=zy f H;have bf:=zy f I;clear f M H I
 cases ai:st.deposits.any (isP ⟨c.user,c.other⟩) with
 | true=>
  go_wp2_with fail
  refine zcb (ZU _ _) λ_ O=>?_;obtain⟨BW,H2,aL,a5,a6,a7,a8,a9,ba,bb,bc⟩:=zW r O B ao aa;clear O;unfold ZV;go_wp2;try simp only[φ]
  obtain⟨y,F2⟩:=ZC aL.o (.int .i64 42) '0' "" () () () ();refine zrt y ?_;rw[show(z1v st c)=(st,ZD 42,false) from by unfold z1v;rw[show z9d st c=true from ai];rfl]
  exact mai
 | false=>
  have e:=B.below r;have Q:=zh e;have aH:=zh (by rw[<-j.o];exact e.os.row .de:RowC 126 2 x (.slice g st.deposits m) (R .de).cells);have V:=zh (by rw[e.is.deps.1];exact hl:(R .de).cells.length<=9999);have ay:=ζ ((Value.slice g st.deposits m).ownBlock≠some bw) (λd=>e.nb ⟨.de,by rw[j.o];exact d⟩);have ax:=ζ ((Value.slice g st.deposits m).ownBlock≠some W.heap.size) (λd=>e.nx W (.inl ⟨.de,by rw[j.o];exact d⟩) (.inr rfl));have S:=zh ((r.block _ ao).trans aa);have a1:∀o,x.frozen? (aD bw o)=false:=e.cells.2;have aU:=e.lt;clear e;go_wp2_with fail
  go_region_law (refine z1y x _ [c.user,c.other] rfl (.tmp 28) (.tmp 30) 31 rfl aW _ 32 underlying31 aR aV aP aQ rfl dc dc (.slice g st.deposits m) (R .de).cells rfl _ _ rfl aH gg (Nat.le_succ_of_le V) rfl (by intro u ak;simp at ak;rcases ak with rfl|rfl<;>rfl) (by repeat' first|with_reducible assumption|((with_reducible first|refine Z2 _ ?_ ?_|apply zJ);rotate_left;first|with_reducible rfl|((try dsimp only);first|with_reducible assumption|omega|(simp only[zS];done)|(simp only[zS];omega)))|with_reducible apply zH|with_reducible refine zR _ ?_|with_reducible refine ZQ ?_|refine(rfl:(_:Array Value)=_)) ?_;intro bh a3 K J an;obtain⟨ap,aX,aN,rfl⟩:=K.shape3;have aG:=zh K;have Z:=zh J;have az:=zh an;have G:=J.block bw aU ay;have bg:=(World.cell?_of_block (a:=⟨bw,10,none⟩) G).trans a2;have bi:∀o,a3.frozen? (aD bw o)=false:=(λo=>by unfold World.frozen?;rw[G];exact a1 o);clear G K J an)
  all_goals
   obtain⟨z,ac⟩:=Q.deTo (l:=st.deposits++[⟨c.user,c.other⟩]) (by simp;have:=V.o;omega) aG (by rw[j.o];exact Z) (by rw[j.o];exact az) (Q.is.deps.snoc ⟨rfl,aJ.o,aB.o⟩);have aw:=zh ac;have Y:=zh (λd=>z.nx W d (.inr rfl));have ab:=Z2 (a:=⟨bw,10,none⟩) (.slice ap aX aN) ((Z.block _ (zI S) ax).trans S) (λd=>Y.o (.inr d));have U:=zh ab;go_wp2_with fail
   refine zcm (z40 z 0) ?_;clear z ac ab;rintro _ _ ⟨rfl,P,C⟩;have T:=zh ((C.but.block _ (zI U) (λd=>Y.o (d.symm.imp id id))).trans U);have t:=T.o;unfold Z3 at t;obtain⟨a5,a6,a7,a8,a9,ba,bb⟩:=zC7 (zB t).1;have bc:=(zB t).2;have au:=zh P;have av:=zh C;clear P C t;unfold ZV;go_wp2;try simp only[φ]
   obtain⟨y,F2⟩:=ZC T '0' '0' "" () () () ();refine zrt y ?_;rw[show z1v st c=({ st with deposits:=st.deposits++[⟨c.user,c.other⟩] },Y2 0,true) from by unfold z1v;rw[show z9d st c=false from ai];rfl];exact ZI au ((Mut.below (zD HB0 r)).trans (aw.trans av)) (znl _) F2 (z33 ⟨om,om⟩)
end
section
variable {X:Nat->Prop} {base bw:Nat} {W:World} {R:RM} {c:Call} {dv:Value} {st:State} {late:Bool}
theorem yO {st:State} (h:ZB st s=some k):foI st s=some k:=by
 unfold ZB at h
 cases a:foI st s with
 | none=>rw[a] at h;cases h
 | some j=>
  rw[a] at h;dsimp only at h;split at h
  ·cases h
  exact h
theorem ma6 (h:p:=by
 exact absurd (HK.symm.trans hno) sm):p:=h
theorem zQu (h:WK X base bw W R c dv st false late) (aa:VInv n st) (hk:ZB st c.folder=some k):
  Calls prog 100 #[pT bw] W (Did X base bw W R c dv late (st,z8e st k,false)):=by
 have HK:=zh hk;have o:=zh (z0l (yO hk));have V:=zh (aa.atF o).man;obtain⟨v,H⟩:=Ξ (W.alloc (.cells Z3 49));have D:=yQ W;rw[H] at D;obtain⟨C,w,z,ak⟩:=D;have e:=C R h;have q:=zh e;have Y:=zh z;have P:=zh w;have al:=e.lt;clear C w z;have am:(cL v bw 2 c.folder:Prop):=e.cells.1 2 _ rfl;clear h hk e;unfold Z3 at H;go_enter func100,ntmps100
 go_wp2_with fail
 refine zcm (YK q c.folder) ?_;rintro _ b ⟨⟨hno,rfl⟩|⟨ac,_,_,G,t,rfl⟩,i⟩
 ·exact ma6
 obtain rfl:_=ac:=zsi (HK.symm.trans G);have Q:=zh i;have O:=zh t;have x:=zh (q.below i);obtain⟨_,_,_,_,_,_,_,_,_,_,B,hF,_⟩:=x.fold (ZT o) t;have S:=zh B;clear i G t B hF;obtain⟨J,Z,d,g,E,F⟩:=z7c x o O V;have U:=zh E;have r:=F b zbr;rw[S.o] at r;have T:=zh r;clear E F r;go_wp2_with fail
 refine zcb T λaj j=>?_;obtain⟨I,_,A,_,m,_⟩:=zP aj (aM (zL (fo st k)) J Z d g) 84;obtain⟨_,an,_,_,ao⟩:=TC5 A;have l:=zh (zD Q (zD j m));have N:=zh (q.below l.o);have y:=zh ((l.o.block _ ak).trans Y);have f:=y.o;unfold Z3 at f;obtain⟨ap,aq,ar,au,av,aw,ax⟩:=zC7 (zB f).1;have ay:=(zB f).2;have K:=zh (zD j m);clear f A j m;go_wp2;try simp only[φ]
 obtain⟨L,M⟩:=ZC y '0' (.int .i64 (zL (fo st k)).seq) "" () () (.slice d (zL (fo st k)).members.length g) ();refine zrt L ?_;refine ZI N (Mut.below (zD P l.o)) (znl _) M ?_;obtain⟨ae,af,ag,ah,ai,_⟩:=U;have ad:Kept (Imm (λa=>X a\/a=W) bw R b) (Imm (λa=>X a\/a=W) bw R I) b I:=(Mut.below (bw:=bw) (R:=R) K.o).kept;have ab:Sl 2 zZ (Imm (λa=>X a\/a=W) bw R b) b (.slice d (zL (fo st k)).members.length g) (zL (fo st k)).members:=⟨d,g,rfl,ae,by unfold maxLen;exact af,ag,ah⟩;exact⟨_,_,_,_,rfl,(show I64 0 from⟨om,om⟩),ai,(by decide:(⟨#[]⟩:Nm).size<=140737488355328),y9,y9,ab.keep ZA dc ad,y9⟩
theorem zN4 {st:State} (a:VInv n st) (hk:ZB st s=some k):(fo st k).name=s:=(z32 (yO hk)).2.1
theorem z4q:∀{l:List Folder} {f:Folder},f∈l->yA f<=z1w l
 | [],f,a=>by simp at a
 | x::l,f,a=>by
  rw[z1w];rcases mem_cons.1 a with rfl|a
  ·omega
  ·have:=z4q a;omega
theorem WK.itSl {done:Bool} (h:WK X base bw W R c dv st done late) {g d:Nat} (hk:k<st.folders) (ha:foAt R k g d):Sl 2 YG (λ_=>True) W (R (.it k)).v (fo st k).items:=by
 obtain⟨_,_,_,_,_,_,_,_,_,_,b,hF,_⟩:=h.fold (ZT hk) ha;obtain⟨_,_,_,_,_,_,_,_,_,_,a,_,_,_,_,_,_,_,_,_,_,e,f,i,j,_⟩:=Z9 hF;simp only[cons.injEq,Value.slice.injEq,and_true,true_and] at a;obtain⟨⟨rfl,rfl⟩,⟨rfl,rfl⟩,⟨rfl,rfl⟩,⟨rfl,rfl⟩,⟨rfl,rfl⟩⟩:=a;simp only[hdr,cons.injEq] at b;rw[b.2.2.2.2.1];exact⟨_,_,rfl,e,f,i,j⟩
theorem z5r {n:Nat} (a:VInv n st) (hn:n<=41) (hk:k<st.folders):(zL (fo st k)).prev=[]/\(zL (fo st k)).members.length<=20/\(zL (fo st k)).parent.size<=20/\(0<=(zL (fo st k)).seq/\(zL (fo st k)).seq<=1000000)/\(0<=(fo st k).turn/\(fo st k).turn<=1000000)/\(fo st k).manifests.length<=9999/\(fo st k).epochs.length<=5000/\(fo st k).items.length<=5000/\(fo st k).links.length<=5000/\(fo st k).wraps.length<=16:=by
 have hF:=a.atF hk;have b:zL (fo st k)∈(fo st k).manifests:=z26 hF.man;have d:yA (fo st k)<=z1w st.folders:=z4q (z2u hk);have f:=a.sum;unfold yA at d;have e:=zI8 hF;rw[qLmx] at e;have g:=a.u16;refine⟨hF.pv _ b,(hF.mn _ b).2.1,(hF.mn _ b).1,⟨hF.sq.1,by have:=hF.sq.2;omega⟩,⟨hF.tn.1,by have:=hF.tn.2;omega⟩,om,om,om,om,om⟩
theorem zM9 (h:WK X base bw W R c dv st false late) (f:VInv n st) (hn:n<=41) (hk:ZB st c.folder=some k):
  Calls prog 90 #[pT bw] W (Did X base bw W R c dv late (z04 st c k)):=by
 have HK:=zh hk;have i:=zh (z0l (yO hk));have aa:=zh (f.atF i);have aU:=zh (zN4 f hk);have aJ:=zh (z5r f hn i);have aP:=zh (z8t f.names f.tree 5 c.folder om);have I:=ζ (0<=st.turn/\st.turn<=1000000) ⟨f.turn.1,by have:=f.turn.2;omega⟩;obtain⟨z,ao⟩:=Ξ (W.alloc (.cells Z3 49));have al:=yQ W;rw[ao] at al;obtain⟨ak,Y,ad,A⟩:=al;have l:=ak R h;have e:=zh l;have w:=zh ad;have HB0:=zh Y;have bi:=l.lt;clear ak Y ad;have a7:(cL z bw 2 c.folder:Prop):=l.cells.1 2 _ rfl;have aq:(cL z bw 8 st.turn:Prop):=l.cells.1 8 _ rfl;clear h hk l f;unfold Z3 at ao;go_enter func90,ntmps90
 go_wp2_with fail
 refine zcm (YK e c.folder) ?_;rintro _ _ ⟨⟨hno,rfl⟩|⟨a6,a0,bk,an,L,rfl⟩,B⟩
 ·exact ma6
 obtain rfl:_=a6:=zsi (HK.symm.trans an);have aK:=zh B;have r:=zh L;have D:=zh (e.below B);obtain⟨_,_,_,_,aG,aZ,_,_,_,_,aj,hF,au,a8,a9,ba,av,bb,bc,a2,_⟩:=D.fold (ZT i) L;have aN:=zh aj;clear B an L aj hF;have aL:=zh (by obtain⟨_,_,_,_,a1,_⟩:=z7c D i r aa.man;exact a1.2.2.2.2.2.1:I64 (zL (fo st k)).cut);clear a7;go_wp2_with fail
 refine zcb (z6g D i r) λay j=>?_;have t:=zh (zD aK j);have ar:=zy t aq;have aw:=zy j au;have ax:=zy j av;have bh:a0<ay:=zll a2 j.size;rw[aU.o] at aw;clear j au a8 a9 ba av bb bc aq;by_cases o:ZS st k c.user<4
 ·have a3:decide (ZS st k c.user<4)=true:=Δ o;go_wp2_with fail
  refine zcb (ZU _ _) λaz d=>?_;obtain⟨BW,H2,m,N,O,P,Q,S,T,U,V⟩:=zW t d e A w;clear d;unfold ZV;go_wp2;try simp only[φ]
  obtain⟨g,F2⟩:=ZC m.o (.int .i64 40) '0' "" () () () ();refine zrt g ?_;rw[show(z04 st c k)=(st,ZD 40,false) from by unfold z04;simp[o]];exact mai
 have a3:decide (ZS st k c.user<4)=false:=Γ o;have H:=zh o;clear o;go_wp2_with fail
 refine zcb (zIe 5 om c.folder ay (e.below t) aP) λbd q=>?_;have F:=zh (zD t q);have aB:=zy q ar;have bg:=zy q ax;clear q ar aw ax;by_cases y:1<yV st 5 c.folder
 ·have a4:decide (1<(yV st 5 c.folder:Int))=true:=θ;have G:=zh y;clear y;go_wp2_with fail
  refine zcb (ZU _ _) λaz d=>?_;obtain⟨BW,H2,m,N,O,P,Q,S,T,U,V⟩:=zW F d e A w;clear d;unfold ZV;go_wp2;try simp only[φ]
  obtain⟨g,F2⟩:=ZC m.o (.int .i64 47) '0' "" () () () ();refine zrt g ?_;rw[show(z04 st c k)=(st,ZD 47,false) from by unfold z04;rw[if_neg (oh H.o),if_pos (.inl (oh G.o))]];exact mai
 have a4:decide (1<(yV st 5 c.folder:Int))=false:=η;have G:=zh y;clear y;have aW:=zh (show Sl 2 YG (λ_=>True) bd (.slice aG (fo st k).items.length aZ) (fo st k).items from by
  have M:=(e.below F).itSl i r;have b:=aN.o;simp only[hdr,cons.injEq] at b;rw[<-b.2.2.2.2.1];exact M)
 go_wp2_with fail
 refine zcb (zV6 _ _ _ _ aW λbf a5=>length_pos_iff.2 (aa.it bf a5).1) λbe C=>?_;have v:=zh (zD F C);have bl:=zy C aB;clear C aB bg
 cases am:(fo st k).items.any yX with
 | true=>
  go_wp2_with fail
  refine zcb (ZU _ _) λaz d=>?_;obtain⟨BW,H2,m,N,O,P,Q,S,T,U,V⟩:=zW v d e A w;clear d;unfold ZV;go_wp2;try simp only[φ]
  obtain⟨g,F2⟩:=ZC m.o (.int .i64 47) '0' "" () () () ();refine zrt g ?_;rw[show(z04 st c k)=(st,ZD 47,false) from by unfold z04;rw[if_neg (oh H.o),if_pos (.inr am)]]
  exact mai
 | false=>
  have E:=zh (e.below v);have bm:∀M,be.frozen? (aD bw M)=false:=E.cells.2;have bj:IntKind.i64.wrap (st.turn+1)=st.turn+1:=by rw[IntKind.wrap_i64];have:=I.o;omega
  go_wp2_with fail
  obtain⟨K,ap⟩:=E.setTurn (st.turn+1) ⟨by have:=I.o;omega,by have:=I.o;omega⟩;have aI:=zh K;have aX:=zh ap;have ac:=zh (Z2 (a:=⟨bw,8,none⟩) (st.turn+1:Int) ((v.block _ A).trans w) (λb=>E.nx W (.inr b) (.inr rfl)));obtain⟨ae,af,aY,ag,ah,ai,_⟩:=aJ;have aV:=zh (zJ1 K (k:=k) i r rfl ae (by have:(zL (fo st k)).members.length<=20:=af;show(zL (fo st k)).members.length<=10000;omega) ag ah ai (by show(zL (fo st k)).parent.size<=_;omega) aL);have aQ:=ζ (I64 ((zL (fo st k)).seq+1)) ⟨om,om⟩;clear K ap ae af aY ag ah ai;have aT:=zh (λb=>aI.nx W b (.inr rfl));refine zcm (aV) ?_;rintro _ _ ⟨rfl,_,Z,J,aH⟩;have ab:=zh ((J.but.block _ (zI ac) (λb=>aT.o (b.symm.imp id id))).trans ac);have x:=ab.o;unfold Z3 at x;obtain⟨N,O,P,Q,S,T,U⟩:=zC7 (zB x).1;have V:=(zB x).2;have aO:=zh Z;have aR:=zh J;clear Z J x aH;unfold ZV;go_wp2;try simp only[φ]
  obtain⟨g,F2⟩:=ZC ab '0' ((zL (fo st k)).seq+1:Int) "" () () () ();refine zrt g ?_;rw[show z04 st c k=({ setF st k (YJ (fo st k) { zL (fo st k) with gone:=true } c.user) with turn:=st.turn+1 },Y2 ((zL (fo st k)).seq+1),true) from by unfold z04;rw[if_neg (oh H.o),if_neg (λb=>b.elim (λb=>by have:=G.o;omega) (λb=>by rw[am] at b;cases b))];rfl];exact ZI aO (((Mut.below (zD HB0 v)).trans aX.o).trans aR) (znl _) F2 (z33 aQ)
end
section
variable {X:Nat->Prop} {base bw:Nat} {W:World} {R:RM} {c:Call} {dv:Value} {st:State} {late:Bool}
theorem zFb {st:State} {x:User} (hu:yU st s=some u) (hx:st.users[u]? =some x) (b:Bool):lostS st s b={ st with users:=st.users.set u { x with lost:=b } }:=by
 unfold lostS;rw[hu];simp only[State.mk.injEq,and_true,true_and];apply ext_getElem?;intro e;rw[getElem?_modify,getElem?_set];have d:=(zge hx).1;by_cases a:u=e
 ·subst a;rw[if_pos rfl,if_pos d,hx];simp
 rw[if_neg a];simp[a]
theorem zA8 {st:State} (hu:yU st s=some u):∃x,st.users[u]? =some x/\x.name=s:=by
 obtain⟨a,b,_⟩:=findIdx?_eq_some_iff_getElem.1 hu;exact⟨_,qLgx a,by simpa[isU] using b⟩
theorem zQn (h:WK X base bw W R c dv st false late) (hu:yU st c.user=some u):
  Calls prog 98 #[pT bw] W (Did X base bw W R c dv late (z8f st c)):=by
 obtain⟨t,l,aj⟩:=zA8 hu;obtain⟨i,O⟩:=Ξ (W.alloc (.cells Z3 49));have J:=yQ W;rw[O] at J;obtain⟨I,v,G,an⟩:=J;have b:=I R h;have D:=zh b;have ae:=zh G;have Y:=zh v;have aq:=b.lt;clear I v G;have am:(cL i bw 1 c.user:Prop):=b.cells.1 1 _ rfl;have Q:i.cell? ⟨bw,9,none⟩=some (R .us).v:=b.cells.1 9 _ rfl;obtain⟨_,M,ak⟩:=b.is.users.at l;obtain⟨e,r,H,g,L,ah,ai,K,P⟩:=(b.os.row .us).at M;obtain⟨rfl,al⟩:=ak;have au:=(zge l).1;have N:(R .us).cells.length=st.users.length:=b.is.users.1;rw[N] at g L;rw[g] at Q;have T:(cL i e (r+u*2+1) t.lost:Prop):=K 1 _ rfl;have ag:=zh P;have af:=zh g;have ad:=ζ (¬(W=e)) (λf=>b.nx W (.inl ⟨.us,by rw[g,f];rfl⟩) (.inr rfl));have ar:((u:Int)<(st.users:Int)):=om
 unfold maxLen at ah;have ao:st.users<=H:=om
 have ap:H<=9223372036854775807:=om
 have E:=zh l;have B:=zh hu;clear h g M K P l hu L b aj N al;unfold Z3 at O;go_enter func98,ntmps98
 go_wp2_with fail
 go_region_law (go_simp;go_at_call 85;refine zcb (z2j (D.below zbr.drew) c.user) λS w=>?_;have d:=zh (zD zbr.drew w);have C:=B.o;rw[C];clear C w;simp only[iOf];have aw:=zy d Q;have av:=zy d am;have ay:(cL S e (r+u*2+1) t.lost:Prop):=zy d T;have aK:∀m,S.frozen? (aD e m)=false:=λm=>((z1q d).2 e m ai).trans (ag.o m))
 all_goals
  have y:=D.below d;obtain⟨o,F⟩:=y.usSet E af true;have ab:=zh F;have A:=zh (Z2 (a:=⟨e,r+u*2+1,none⟩) true ((d.block _ an).trans ae) ad);clear y F;have ac:=zh (λf=>o.nx W f (.inr rfl));go_wp2_with fail
  refine zcm (z40 o 0) ?_;clear o;rintro _ _ ⟨rfl,x,q⟩;have z:=zh ((q.but.block _ (zI A) (λf=>ac.o (f.symm.imp id id))).trans A);have j:=z.o;unfold Z3 at j;obtain⟨ax,T,az,aB,aG,aH,aI⟩:=zC7 (zB j).1;have aJ:=(zB j).2;have Z:=zh x;have aa:=zh q;clear x q j;unfold ZV;go_wp2;try simp only[φ]
  obtain⟨U,V⟩:=ZC z '0' '0' "" () () () ();refine zrt U ?_;rw[show z8f st c=({ st with users:=st.users.set u { t with lost:=true } },Y2 0,true) from by unfold z8f;rw[zFb B.o E.o]];exact ZI Z (((Mut.below (zD Y d)).trans ab).trans aa) (znl _) V (z33 ⟨om,om⟩)
theorem zQo {st:State} {u:Nat} {x:User} (hu:yU st s=some u) (hx:st.users[u]? =some x):zBx st s=x.lost:=by
 unfold zBx;rw[hu];simp[hx]
theorem zKs (h:WK X base bw W R c dv st false late) {B:Nat} (hu:yU st c.user=some u) (U:yU st c.other=some B):
  Calls prog 99 #[pT bw] W (Did X base bw W R c dv late (z0k st c)):=by
 obtain⟨C,J,bb⟩:=zA8 hu;obtain⟨ae,K,bc⟩:=zA8 U;obtain⟨f,aJ⟩:=Ξ (W.alloc (.cells Z3 49));have av:=yQ W;rw[aJ] at av;obtain⟨au,ag,aq,af⟩:=av;have b:=au R h;have y:=zh b;have N:=zh aq;have HB0:=zh ag;have bp:=b.lt;clear au ag aq;have Y:(cL f bw 1 c.user:Prop):=b.cells.1 1 _ rfl;have aa:(cL f bw 4 c.other:Prop):=b.cells.1 4 _ rfl;have ab:f.cell? ⟨bw,9,none⟩=some (R .us).v:=b.cells.1 9 _ rfl;have Z:f.cell? ⟨bw,10,none⟩=some (R .de).v:=b.cells.1 10 _ rfl;obtain⟨_,az,bd⟩:=b.is.users.at J;obtain⟨d,i,ar,q,ax,a9,T,aw,aK⟩:=(b.os.row .us).at az;obtain⟨rfl,bf⟩:=bd;obtain⟨_,aB,be⟩:=b.is.users.at K;obtain⟨_,_,_,aI,_,_,_,ay,_⟩:=(b.os.row .us).at aB;obtain⟨rfl,bg⟩:=be;have V:=aI;rw[q] at V;simp only[Value.slice.injEq,Option.some.injEq,Addr.mk.injEq,and_true] at V;obtain⟨⟨rfl,rfl⟩,_,rfl⟩:=V;have bs:=(zge J).1;have bt:=(zge K).1;have aG:(R .us).cells.length=st.users.length:=b.is.users.1;rw[aG] at q ax;rw[q] at ab;have D:(cL f d (i+u*2+1) C.lost:Prop):=aw 1 _ rfl;have E:(cL f d (i+B*2+1) ae.lost:Prop):=ay 1 _ rfl;have a7:=zh aK;have a5:=zh q;have a3:=ζ (¬(W=d)) (λm=>b.nx W (.inl ⟨.us,by rw[q,m];rfl⟩) (.inr rfl));have bq:((u:Int)<(st.users:Int)):=om
 have br:((B:Int)<(st.users:Int)):=om
 unfold maxLen at a9;have bn:st.users<=ar:=om
 have bo:ar<=9223372036854775807:=om
 obtain⟨aY,a8,I,_⟩:=(b.os.row .de).shape;rw[b.is.deps.1] at I;rw[I] at Z;have a4:=zh (by rw[<-I];exact b.deSl:Sl 2 z10 (λ_=>True) f (.slice aY st.deposits a8) st.deposits);have ao:=zh J;have al:=zh hu;have a6:=zh K;have am:=zh U;clear h q aI az aB aw ay aK J hu K U ax b bb bc aG bf bg I;unfold Z3 at aJ;go_enter func99,ntmps99
 go_upto_region 2 with fail
 have l:=zh (HQb3 (zyB Z) (zyB Y) (zyB aa));refine zE kr l (λe=>?_);refine zi 0 ?_;iterate 16 (refine zt e ?_;simp only[zA])
 refine zo ?_;refine zr 16 λO A=>?_
 go_simp;go_at_call 150
 refine zcb (zEl ⟨c.user,c.other⟩ _ _ _ _ (a4.keep z1r dc (zK zbr.drew))) λr z=>?_;have g:(bW f r:Prop):=zD zbr.drew z;clear z e;refine A.o _ _ (l.o _ g) (λe=>?_);clear A O;refine zi 17 ?_;iterate 2 (refine zt e ?_;simp only[zA])
 refine zo ?_;refine wpAnyH_done kr ?_ _;clear e l;have F:=zh g;have aL:=zy g Y;have aN:=zy g aa;have ac:=zy g ab;have aP:(cL r d (i+u*2+1) C.lost:Prop):=zy g D;have aO:(cL r d (i+B*2+1) ae.lost:Prop):=zy g E;clear g Y aa ab Z D E
 cases S:st.deposits.any (isP ⟨c.user,c.other⟩) with
 | false=>
  go_wp2_with fail
  refine zcb (ZU _ _) λbl t=>?_;obtain⟨BW,H2,P,aR,D,E,aT,aU,aV,aW,aX⟩:=zW F t y af N;clear t;unfold ZV;go_wp2;try simp only[φ]
  obtain⟨w,F2⟩:=ZC P.o (.int .i64 35) '0' "" () () () ();refine zrt w ?_;rw[show(z0k st c)=(st,ZD 35,false) from by unfold z0k;rw[show z9d st c=false from S];rfl]
  exact mai
 | true=>
  go_upto_region 4 with fail
  have G:=zh (zQo am a6);have l:=zh (HQb3 (zyB ac) (zyB aN) (zyB aO));refine zE kr l (λe=>?_);refine zi 0 ?_;iterate 11 (refine zt e ?_;simp only[zA])
  refine zo ?_;refine zr 11 λO A=>?_
  go_simp;go_at_call 85
  refine zcm ((by have j:=z2j ((y.below F).below zbr.drew) c.other;rw[am.o] at j;exact j:Calls _ _ _ _ λm bk=>m= .returned (.int .i64 (B:Int))/\Below r.drew r.drew bk)) ?_;rintro bm ad ⟨rfl,z⟩;have v:(bW r ad:Prop):=zD zbr.drew z;clear z e;refine A.o _ _ (l.o _ v) (λe=>?_);clear A O;refine zi 12 ?_;iterate 4 (refine zt e ?_;simp only[zA])
  refine zo ?_;refine wpAnyH_done kr ?_ _;clear e l;have o:=zh (zD F v);have bh:=zy v aL;have bj:=zy v ac;have bi:(cL ad d (i+u*2+1) C.lost:Prop):=zy o ((F.cell (p:=aD d (i+u*2+1)) T).symm.trans aP);clear v aL aN ac aP aO
  cases aH:ae.lost with
  | true=>
   rw[aH] at G;go_wp2_with fail
   refine zcb (ZU _ _) λbl t=>?_;obtain⟨BW,H2,P,aR,D,E,aT,aU,aV,aW,aX⟩:=zW o t y af N;clear t;unfold ZV;go_wp2;try simp only[φ]
   obtain⟨w,F2⟩:=ZC P.o (.int .i64 20) '0' "" () () () ();refine zrt w ?_;rw[show(z0k st c)=(st,ZD 20,false) from by unfold z0k;rw[show z9d st c=true from S,G.o];rfl]
   exact mai
  | false=>
   rw[aH] at G;have ba:d<ad:=zll T o.size;go_wp2_with fail
   go_region_law (go_simp;go_at_call 85;refine zcb (z2j ((y.below o).below zbr.drew) c.user) λaQ ah=>?_;have x:=zh (zD zbr.drew ah);have an:=al.o;rw[an];clear an ah;simp only[iOf];have bv:=zy x bj;have bu:=zy x bh;have bx:(cL aQ d (i+u*2+1) C.lost:Prop):=zy x bi;have bz:∀j,aQ.frozen? (aD d j)=false:=λj=>((z1q x).2 d j ba).trans (((z1q o).2 d j T).trans (a7.o j)))
   all_goals
    have L:=zh (zD o x);have H2:=y.below L.o;obtain⟨M,ap⟩:=H2.usSet ao a5 false;have a1:=zh ap;have ak:=zh (Z2 (a:=⟨d,i+u*2+1,none⟩) false ((L.o.block _ af).trans N) a3);clear H2 ap;have a2:=zh (λm=>M.nx W m (.inr rfl));go_wp2_with fail
    refine zcm (z40 M 0) ?_;clear M;rintro _ _ ⟨rfl,ai,Q⟩;have aj:=zh ((Q.but.block _ (zI ak) (λm=>a2.o (m.symm.imp id id))).trans ak);have H:=aj.o;unfold Z3 at H;obtain⟨aR,D,E,aT,aU,aV,aW⟩:=zC7 (zB H).1;have aX:=(zB H).2;have aZ:=zh ai;have a0:=zh Q;clear ai Q H;unfold ZV;go_wp2;try simp only[φ]
    obtain⟨w,F2⟩:=ZC aj '0' '0' "" () () () ();refine zrt w ?_;rw[show z0k st c=({ st with users:=st.users.set u { C with lost:=false } },Y2 0,true) from by unfold z0k;rw[show z9d st c=true from S,G.o,zFb al.o ao.o];rfl];exact ZI aZ (((Mut.below (zD HB0 L.o)).trans a1).trans a0) (znl _) F2 (z33 ⟨om,om⟩)
end
end Go.Proofs.YtdggplhnfhcieaaGreatDoor
