/- No condition. -/
import Derived.Laws.ResultCell
import Derived.Maps.OwnOps
import Derived.StringKeys
import Derived.Shelf.Slices.In.SortAlone
import Derived.Shelf.Slices.In.SortNone
import Derived.Shelf.Slices.CompactS
import Derived.Sort.OwnSorted
import Derived.Sort.EveryDepth
import Derived.Test.YtdggplhnfhcieaaGreatDoorW13
set_option linter.all false
set_option maxRecDepth 100000
set_option maxHeartbeats 16000000
namespace Go.Proofs.YtdggplhnfhcieaaGreatDoor
open Go.Proofs.Tryz Cd Ce List
variable {A:Option Addr} {S:Nat->Prop} {f:Folder} {base k:Nat} {l:List Epoch} {p:Prop} {b s:Nm} {st:State} {v:Value} {w:World} {α:Type} {x:α}
section
open Go.RowKit Go.Deep
theorem z86 {P:Program} {e:Func} {p u:Tmp} {c:TypeId} (h:e.results=#[.cell p c,.tmp u]) (tmps:Array Value) (w:World) (g:Nat) (t:TypeId) (a:Array Value) (i:Nat×Nat) (d:TypeDesc)
  (hp:tmps.getD p undef= .pointer (some ⟨g,0,none⟩)) (hg:w.heap[g]? =some (.cells a t i))
  (hu:P.underlying c=some d) (j:(match d with | .struct _ | .array _ _=>true|_=>false)=true) (hi:(P.info? c).map (·.size)=some a.size):
  (results e tmps).run P w= .ok (.tuple #[.agg a,tmps.getD u undef]) w:=by
 rw[results_cell_tmp h,hp];simp[asAddr,run_loadVar_row w g t c a i d hg hu j hi,Result.andThen]
theorem SlAt.elem {sz:Nat} {R:Rp α} {wr:World} {l:List α} (s:SlAt sz R S w A l) (hk:l[k]? =some x) (n:0<sz) (hb:(bW w wr:Prop)):
  ∃b a c,A=some ⟨b,a,none⟩/\b<w.heap.size/\R S w c x/\∀(j:Nat) (y:Value),c[j]? =some y->(cL wr b (a+k*sz+j) y:Prop):=by
 obtain⟨b,a,c,h,_,_,d,i⟩:=s k x hk;have e:=d 0 _ (qLgx om);refine⟨b,a,c,h,zF e,i,λj y m=>?_⟩;have g:=d j y m;rw[Nat.add_assoc];exact zy hb g
theorem Y9 {a:Nm}:(a.toList==b.toList)=decide (a=b):=by
 by_cases c:a=b
 ·subst c;simp
 rw[Γ c,<-Bool.not_eq_true,beq_iff_eq];exact λd=>c (toList_inj d)
theorem YX {a:Nm} (h:a≠b):(a.toList==b.toList)=false:=by
 rw[Y9];exact Γ h
def z0b:Folder:=⟨⟨#[]⟩,0,[],[],[],[],[]⟩
def zJd:Manifest:=⟨⟨#[]⟩,0,[],⟨#[]⟩,[],0,false,⟨#[]⟩⟩
def AtI {α:Type} (p:α->Bool) (l:List α) (i:Int):Prop:=(∃(k:Nat) (x:α),i=k/\l[k]? =some x/\l.find? p=some x)\/(i= -1/\l.find? p=none)
theorem z7t {p:α->Bool} {l:List α} {k:Nat} (h:∀y∈l.take k,p y=false) (hx:l[k]? =some x) (hp:p x=true):l.find? p=some x:=by
 have a:=zge hx;refine find?_eq_some_iff_append.2 ⟨hp,l.take k,l.drop (k+1),?_,λy c=>by simp[h y c]⟩;rw[<-a.2,<-drop_eq_getElem_cons a.1,take_append_drop]
theorem zDk {p:α->Bool} {l:List α} (h:∀y∈l,p y=false):l.find? p=none:=find?_eq_none.2 λy a=>by simp[h y a]
theorem z0i {α:Type} {p:α->Bool} {l:List α} {x:α} (h:∀y∈l.take k,p y=false) (hx:l[k]? =some x) (hp:p x=false):∀y∈l.take (k+1),p y=false:=by
 rw[qLtx,hx];intro y a;rcases zmb a with a|a
 ·exact h y a
 obtain rfl:y=x:=by simpa using a
 exact hp
def isF (s:Nm) (f:Folder):Bool:=decide (f.name=s)
theorem mbs (h:p:=by
 go_wp2;go_ret;exact⟨ZM E.o,gg⟩):p:=h
theorem zPt (s:Nm) (B:Nat) (x:Folder) (c:List Value) (w:World) (S:Nat->Prop) (h:Z6 S w c x) (d:(cL w B 0 s:Prop)):
  (kB 122 #[.agg c.toArray,pT B] w (isF s x):Prop):=by
 obtain⟨_,_,_,_,_,_,_,_,_,_,rfl,_⟩:=Z9 h;have e:=zF d;have E:=zh (Y9 (a:=x.name) (b:=s));go_enter func122,ntmps122
 exact mbs
theorem mar (h:p:=by
 have EH:=zh (z0i HN HX hpx);go_wp2;go_roundw
 case rel=>exact⟨k+1,om,gn,EH,zD hbel hb1⟩
 case measure=>exact qMx):p:=h
theorem mbU (h:p:=by
 have EH:=zh (z7t HN HX hpx);go_wp2;go_ret;exact⟨⟨_,rfl,.inl ⟨k,x,rfl,HX,EH.o⟩⟩,zD hbel hb1⟩):p:=h
theorem zNn (s:Nm) (B:Nat) (l:List Folder) (v:Value) (w:World) (S:Nat->Prop) (h:Sl 7 Z6 S w v l) (a:(cL w B 0 s:Prop)):
  Calls prog 121 #[v,.func (.func 122) #[] #[pT B]] w λe w'=>(∃i:Int,e= .returned (.int .i64 i)/\AtI (isF s) l i)/\bW w w':=by
 have g:=zh a;clear a;obtain⟨_,_,rfl,_,j,_,n⟩:=h;unfold maxLen at j;go_enter func121,ntmps121
 go_wp2;go_loopw [8] (λi wr=>∃(k:Nat),k<=l/\i= .int .i64 k/\Hid (∀d∈l.take k,isF s d=false)/\bW w wr) (λi _=>l.length-(intOf i).toNat)
 case atStart=>exact⟨0,om,gn,(λd o=>by simp at o),gg⟩
 obtain⟨k,_,rfl,HN,hbel⟩:=hrel;have u:=hbel.size;by_cases m:k<l
 rotate_left
 ·obtain rfl:k=l:=om
  have EH:=zh (zDk (p:=isF s) (l:=l) (by have:=HN.o;rwa [qLnx] at this));go_wp2;go_ret;exact⟨⟨_,rfl,.inr ⟨rfl,EH.o⟩⟩,hbel⟩
 obtain⟨x,_,_,_,_,_,_,_,_,_,_,_,_,c,r,_,rfl,_,_,_,_,_,_,_,_,_,q,_⟩:=yP n m (zK hbel);have HX:=zh c;clear c r;go_wp2_with fail
 refine zcb (zPt s B x _ _ S q (zy hbel g)) λ_ hb1=>?_;cases hpx:isF s x
 ·exact mar
 exact mbU
theorem z74 (st:State) (s:Nm):st.folders.find? (isF s)=Z4 st s:=rfl
theorem z8x (st:State) (s:Nm) (L:List Value) (w:World) (S:Nat->Prop) (h:Z5 S w L st):Calls prog 68 #[.agg L.toArray,s] w λe w'=>(∃J:List Value,e= .returned (.tuple #[.agg J.toArray,.bool (Z4 st s).isSome])/\Z6 S w' J ((Z4 st s).getD z0b))/\bW w w':=by
 have q:=h;obtain⟨aI,aK,aJ,aL,T,U,rfl,_,_,_,_,_,_,_,_,_,aN,aO,aP,V⟩:=ZF h;have Q:Sl 7 Z6 S w (.slice T st.folders U) st.folders:=⟨_,_,rfl,aN,(by unfold maxLen;exact aO),aP,V⟩;obtain⟨w0,i,M,ay,G,a7⟩:=zP w (aS st aI aK aJ aL T U) 34;obtain⟨a,j,N,az,z,a8⟩:=zP w0 #[s] 9;obtain⟨F,m,O,P,o,D⟩:=zP a oF 74;have y:(bW w F:Prop):=zD (zD G z) o;have u:(bW w0 F:Prop):=zD z o;have aR:=zy u (M 3 _ rfl);have aT:=zy o (N 0 _ rfl);have ac:=zh (zNn s w0 st.folders _ F S (Q.keep rFolder_ok dc (zK y)) aT);have ag:=zh aR;have Z:=zh O;have ab:=zh P;have Y:=zh y;have ae:=zh i;have af:=zh j;have I:=zh m;have X:=zh u;clear M N O ay az P i j m G z o y u Q q;go_enter func68,ntmps68
 have i:=ae.o;have j:=af.o;have m:=I.o;go_wp2_with fail
 refine zcm ac ?_;rintro e W ⟨⟨_,rfl,aG⟩,c⟩;have B:=zh (zD Y c);have aV:=zy c ag;have aa:=zh (λn v (aH:(oF:Array Value)[n]? =some v)=>zy c (Z.o n v aH));have aU:=λn=>(c.frozen (p:=aD a n) D).trans (ab.o n)
 obtain⟨a0,a1,a2,a3,a4,a5,a6⟩:=TC7 aa.o;have aZ:a<W.heap.size:=zll D c.size;have r:W.heap[a.heap.size]? =some (.cells oF 74 (0,0)):=(c.block _ D).trans (by rw[<-I.o];exact zJ _ rfl);have H:=zh r;have aY:w<=a.heap.size:=by have:=X.size;omega
 clear r;rcases aG with ⟨k,f,rfl,C,g⟩|⟨rfl,g⟩
 ·have d:=zh g;have aX:=(zge C).1;obtain⟨_,_,_,rfl,_,q,R⟩:=SlAt.elem V C dc B;have ad:=zh q;obtain⟨ah,am,ai,an,aj,ao,ak,ap,al,aq,rfl,_,_,_,_,_,aw,_,_,_,ar,_,_,_,au,_,_,_,ax,_,_,_,av⟩:=Z9 q;obtain⟨aQ,a9,ba,bb,bc,bd,be⟩:=TC7 R;rw[Nat.add_zero] at aQ;have aW:(k:Int)<(st.folders:Int):=om
  clear g C i j m R aw ar au ax av;go_wp2;try simp only[φ]
  have r:=H.o;refine bodyPost_ret (z86 rfl _ _ a 74 (aF f ah am ai an aj ao ak ap al aq) (0,0) _ rfl (by repeat' first|with_reducible assumption|((with_reducible first|refine Z2 _ ?_ ?_|apply zJ);rotate_left;first|with_reducible rfl|((try dsimp only);first|with_reducible assumption|omega|(simp only[zS];done)|(simp only[zS];omega)))|with_reducible apply zH|with_reducible refine zR _ ?_|with_reducible refine ZQ ?_|refine(rfl:(_:Array Value)=_)) underlying74 rfl kr) rfl ?_;have aB:=B.o;refine⟨⟨_,by rw[show(Z4 st s).isSome=true by rw[<-z74,d.o];rfl];rfl,?_⟩,gg⟩;rw[show(Z4 st s).getD z0b=f by rw[<-z74,d.o];rfl];exact zV ad (zK gg)
 have d:=zh g;clear g i j m;go_wp2;try simp only[φ]
 have r:=H.o;refine bodyPost_ret (z86 rfl _ _ a 74 oF (0,0) _ rfl (by repeat' first|with_reducible assumption|((with_reducible first|refine Z2 _ ?_ ?_|apply zJ);rotate_left;first|with_reducible rfl|((try dsimp only);first|with_reducible assumption|omega|(simp only[zS];done)|(simp only[zS];omega)))|with_reducible apply zH|with_reducible refine zR _ ?_|with_reducible refine ZQ ?_|refine(rfl:(_:Array Value)=_)) underlying74 rfl kr) rfl ?_;have aB:=B.o;refine⟨⟨_,by rw[show(Z4 st s).isSome=false by rw[<-z74,d.o];rfl];rfl,?_⟩,gg⟩;rw[show(Z4 st s).getD z0b=z0b by rw[<-z74,d.o];rfl];exact⟨_,_,_,_,_,rfl,Nat.zero_le _,(show I64 0 from⟨dc,dc⟩),z1p _ _ _ _,z1p _ _ _ _,z1p _ _ _ _,z1p _ _ _ _,z1p _ _ _ _⟩
def zL (f:Folder):Manifest:=f.manifests.getLast?.getD zJd
theorem mav (h:p:=by
 go_wp2;try simp only[φ]
 refine bodyPost_ret (results_cell_row rfl _ _ w0 84 _ (0,0) _ rfl (by repeat' first|with_reducible assumption|((with_reducible first|refine Z2 _ ?_ ?_|apply zJ);rotate_left;first|with_reducible rfl|((try dsimp only);first|with_reducible assumption|omega|(simp only[zS];done)|(simp only[zS];omega)))|with_reducible apply zH|with_reducible refine zR _ ?_|with_reducible refine ZQ ?_|refine(rfl:(_:Array Value)=_)) underlying84 rfl kr) rfl ?_;have hbb:=HB1.o;refine⟨⟨_,rfl,?_⟩,gg⟩;rw[HE.o];exact⟨_,_,rfl,Nat.zero_le _,(show I64 0 from⟨dc,dc⟩),z1p _ _ _ _,Nat.zero_le _,z1p _ _ _ _,(show I64 0 from⟨dc,dc⟩),Nat.zero_le _⟩):p:=h
theorem mZ0 (h:p:=by
 go_wp2;try simp only[φ]
 refine bodyPost_ret (results_cell_row rfl _ _ w0 84 _ (0,0) _ rfl (by repeat' first|with_reducible assumption|((with_reducible first|refine Z2 _ ?_ ?_|apply zJ);rotate_left;first|with_reducible rfl|((try dsimp only);first|with_reducible assumption|omega|(simp only[zS];done)|(simp only[zS];omega)))|with_reducible apply zH|with_reducible refine zR _ ?_|with_reducible refine ZQ ?_|refine(rfl:(_:Array Value)=_)) underlying84 rfl kr) rfl ?_;have hbb:=HB1.o;refine⟨⟨_,rfl,?_⟩,gg⟩;rw[HE.o];exact yF HR (zK gg)):p:=h
theorem z75 (f:Folder) (y:List Value) (w:World) (S:Nat->Prop) (h:Z6 S w y f):Calls prog 120 #[.agg y.toArray] w λe w'=>(∃u:List Value,e= .returned (.agg u.toArray)/\ZL S w' u (zL f))/\bW w w':=by
 obtain⟨L,Q,M,R,N,T,O,U,P,V,rfl,_,_,W,_,X,m,_,_,_,z,_,_,_,B,_,_,_,D,_,_,_,C⟩:=Z9 h;obtain⟨w0,H,i,_,g,ac⟩:=zP w (aF f L Q M R N T O U P V) 74;obtain⟨I,Z,j,_,d,_⟩:=zP w0 oM 84;have c:(bW w I:Prop):=zD g d;have J:=zy d (i 2 _ rfl);have HB1:=zh c;have ae:I.heap[w0.heap.size]? =some (.cells oM 84 (0,0)):=by rw[<-Z];exact zJ _ rfl
 obtain⟨ak,al,am,an,ao,ap,aq,ar⟩:=TC8 j;have af:w<=w0.heap.size:=Nat.le_of_lt ac;rcases Nat.eq_zero_or_pos f.manifests with a|a
 ·have HE:=zh (show zL f=zJd by
   have:f.manifests=[]:=eq_nil_of_length_eq_zero a;unfold zL;rw[this];rfl)
  rw[a] at J H⊢;clear a i j g d c m z B D C;go_enter func120,ntmps120
  exact mav
 obtain⟨r,o⟩:∃r,f.manifests.length=r+1:=⟨f.manifests.length-1,om⟩;obtain⟨q,n⟩:∃q,f.manifests[r]? =some q:=⟨_,qLgx om⟩;have HE:=zh (show zL f=q by
  unfold zL;rw[getLast?_eq_getElem?,o,Nat.add_sub_cancel,n];rfl)
 obtain⟨_,_,_,Y,_,F,G⟩:=SlAt.elem m n dc c;have HR:=zh F;obtain⟨ag,ai,ah,aj,rfl,_,_,_,_,_,ab,_,_,_,_,aa,_⟩:=ZO F;obtain⟨ad,au,av,aw,ax,ay,az,aB⟩:=TC8 G;rw[Nat.add_zero] at ad;rw[o] at J H W X⊢;subst Y;clear a o n G i j g d c m z B D C ab aa;go_enter func120,ntmps120
 exact mZ0
def z9r (f:Folder) (n:Int):Bool:=decide (1<=n)&&decide (n<=(f.epochs:Int))
theorem z78 {n:Int}:z9r f n=true↔1<=n/\n<=f.epochs:=by unfold z9r;simp
theorem zEx (f:Folder) (n:Int) (a:List Value) (w:World) (S:Nat->Prop) (h:Z6 S w a f):(kB 190 #[.agg a.toArray,n] w (z9r f n):Prop):=by
 obtain⟨_,_,_,_,_,_,_,_,_,_,rfl,_⟩:=Z9 h
 cases c:decide (1<=n) with
 | true=>
  have E:=zh (by unfold z9r;rw[c];rfl:z9r f n=decide (n<=(f.epochs:Int)));go_enter func190,ntmps190
  go_wp2;go_ret
  exact⟨ZM E.o.symm,gg⟩
 | false=>
  have E:=zh (by unfold z9r;rw[c];rfl:z9r f n=false);go_enter func190,ntmps190
  go_wp2;go_ret;exact⟨ZM E.o.symm,gg⟩
theorem maA (h:p:=by
 go_wp2;try simp only[φ]
 refine bodyPost_ret (results_cell_row rfl _ _ w 244 _ (0,0) _ rfl (by repeat' first|with_reducible assumption|((with_reducible first|refine Z2 _ ?_ ?_|apply zJ);rotate_left;first|with_reducible rfl|((try dsimp only);first|with_reducible assumption|omega|(simp only[zS];done)|(simp only[zS];omega)))|with_reducible apply zH|with_reducible refine zR _ ?_|with_reducible refine ZQ ?_|refine(rfl:(_:Array Value)=_)) underlying244 rfl kr) rfl ?_;exact⟨rfl,gg⟩):p:=h
theorem z8y (s:Nm) (w:World):(kB 200 #[s] w (vG (uN s)):Prop):=by
 go_enter func200,ntmps200
 exact maA
theorem z5u (s:Nm) (n:Int) (w:World):(kB 226 #[s,n] w (vG (eN s n)):Prop):=by
 go_enter func226,ntmps226
 exact maA
end
section
open Go.RowKit Go.Deep
theorem zJc (x:State) (aY:∀f∈x.folders,∀m∈f.manifests,m.prev=[]) (aj ak:List Value) (w:World) (S S':Nat->Prop) (h:Z5 S w aj x) (k:Z5 S' w ak x):
  (kB 18 #[.agg aj.toArray,.agg ak.toArray] w true:Prop):=by
 have aJ:=zh aY;obtain⟨W,ad,X,ae,Y,O,rfl,_,_,_,_,ar,_,_,_,au,_,_,_,av⟩:=ZF h;obtain⟨Z,af,aa,ag,ab,B,rfl,_,_,_,_,aw,_,_,_,ax,_,_,_,ay⟩:=ZF k;obtain⟨ac,am,ah,aU,L,_⟩:=zP w (aS x W ad X ae Y O) 34;obtain⟨d,aW,ai,aV,I,_⟩:=zP ac (aS x Z af aa ag ab B) 34;have bR:=L.size;have bS:=I.size;have aX:ac=w.heap.size+1:=by rw[<-am];simp
 have u:=ζ (∀(o:Nat) (v:Value),((aS x W ad X ae Y O):Array Value)[o]? =some v->∀z,((bW d z:Prop))->(cL z w o v:Prop)) (λo v P z c=>zy (zD I c) (ah o v P));have y:=ζ (∀(o:Nat) (v:Value),((aS x Z af aa ag ab B):Array Value)[o]? =some v->∀z,((bW d z:Prop))->(cL z (w.heap.size+1) o v:Prop)) (λo v P z c=>by rw[<-aX];exact zy c (ai o v P));have J:=zh (zD L I);have aN:=zh ar;have aQ:=zh aw;have aO:=zh au;have aR:=zh ax;have aP:=zh av;have aT:=zh ay;clear h k ar au av aw ax ay ah ai aU aV L I;have bQ:prog.eqGuardType prog.depth 91=false:=kr
 have bU:prog.stoodInHeld 91=false:=kr
 have bX:=underlying91;have bP:prog.eqGuardType prog.depth 126=false:=kr
 have bT:prog.stoodInHeld 126=false:=kr
 have bV:=underlying126;have bk:=u.o 0 _ rfl d zbr;have bL:=y.o 0 _ rfl d zbr;have bl:=u.o 1 _ rfl d zbr;have bM:=y.o 1 _ rfl d zbr;have bm:=u.o 2 _ rfl d zbr;have bN:=y.o 2 _ rfl d zbr;have bn:=u.o 3 _ rfl d zbr;have bO:=y.o 3 _ rfl d zbr;go_enter func18,ntmps18
 go_wp2_with fail
 clear bk bL bl bM bm bN bn bO am aW;go_loopw [5] (λe wr=>∃k:Nat,k<=x.users/\e= .int .i64 k/\bW d wr) (λe _=>x.users.length-(intOf e).toNat)
 case atStart=>exact⟨0,om,gn,Below.refl _ _⟩
 obtain⟨k,an,rfl,hbel⟩:=hrel;have D:=u.o 1 _ rfl wr hbel;have H:=y.o 1 _ rfl wr hbel;have q:=zD J hbel;by_cases r:k<x.users
 ·skip
  obtain⟨m,g,i,m_k,m_d,T,rfl,aq,ap,Q,R,m_R,bi⟩:=z71 aN.o r (zK q);obtain⟨G,j,n,y_k,y_d,aG,rfl,aB,az,U,V,y_R,bJ⟩:=z71 aQ.o r (zK q);obtain rfl:m=G:=zsi (m_k.symm.trans y_k);have ao:(k:Int)<(x.users:Int):=om
  exact mcC
 obtain rfl:k=x.users:=om
 go_wp2;clear D H;obtain⟨F,rfl⟩:∃F:World,F=wr:=⟨_,rfl⟩;go_loopw [6] (λe wr=>∃k:Nat,k<=x.deposits/\e= .int .i64 k/\bW d wr) (λe _=>x.deposits.length-(intOf e).toNat)
 case atStart=>exact⟨0,om,gn,hbel⟩
 obtain⟨k,an,rfl,hbel⟩:=hrel;have D:=u.o 2 _ rfl wr hbel;have H:=y.o 2 _ rfl wr hbel;have q:=zD J hbel;by_cases r:k<x.deposits
 ·skip
  obtain⟨m,g,i,m_k,m_d,T,rfl,aq,ap,Q,R,m_R,_⟩:=zAg aO.o r (zK q);obtain⟨G,j,n,y_k,y_d,aG,rfl,aB,az,U,V,y_R,_⟩:=zAg aR.o r (zK q);obtain rfl:m=G:=zsi (m_k.symm.trans y_k);have ao:(k:Int)<(x.deposits:Int):=om
  exact mcC
 obtain rfl:k=x.deposits:=om
 go_wp2;clear D H;obtain⟨F,rfl⟩:∃F:World,F=wr:=⟨_,rfl⟩;go_loopw [7] (λe wr=>∃k:Nat,k<=x.folders/\e= .int .i64 k/\bW d wr) (λe _=>x.folders.length-(intOf e).toNat)
 case atStart=>exact⟨0,om,gn,hbel⟩
 obtain⟨k,an,rfl,hbel⟩:=hrel;have D:=u.o 3 _ rfl wr hbel;have H:=y.o 3 _ rfl wr hbel;have q:=zD J hbel;by_cases r:k<x.folders
 rotate_left
 ·obtain rfl:k=x.folders:=om
  go_wp2;go_ret;exact⟨rfl,zD J hbel⟩
 skip
 obtain⟨m,g,i,a4,a9,a5,ba,a6,bb,a7,bc,a8,bd,m_k,m_d,T,rfl,aq,ap,Q,R,aZ,a0,a1,a2,a3,m_R,bi,_,_,_,_,bh,_,_,_,be,_,_,_,bf,_,_,_,bj,_,_,_,bg⟩:=yP aP.o r (zK q);obtain⟨G,j,n,bu,bA,bv,bB,bw,bC,bx,bD,bz,bE,y_k,y_d,aG,rfl,aB,az,U,V,bp,bq,br,bs,bt,y_R,bJ,_,_,_,_,bI,_,_,_,bF,_,_,_,bG,_,_,_,bK,_,_,_,bH⟩:=yP aT.o r (zK q);obtain rfl:m=G:=zsi (m_k.symm.trans y_k);have ao:(k:Int)<(x.folders:Int):=om
 have aK:=zh m_R;have aL:=zh y_R;have aI:=zh (aJ.o m T);clear bh bI;clear be bF;clear bf bG;clear bj bK;clear bg bH;clear m_k y_k m_d y_d m_R y_R;go_upto_region 16 with fail
 have N:=ζ (∀a:World,((bW wr a:Prop))->(λa:World=>bW wr a/\cL a w 3 (.slice (some ⟨g,i,none⟩) x.folders O)/\cL a (w.heap.size+1) 3 (.slice (some ⟨j,n,none⟩) x.folders B)/\cL a g (i+k*7) m.name/\cL a g (i+k*7+1) m.turn/\cL a g (i+k*7+2) (.slice a4 m.manifests a9)/\cL a g (i+k*7+3) (.slice a5 m.epochs ba)/\cL a g (i+k*7+4) (.slice a6 m.items bb)/\cL a g (i+k*7+5) (.slice a7 m.wraps bc)/\cL a g (i+k*7+6) (.slice a8 m.links bd)/\cL a j (n+k*7) m.name/\cL a j (n+k*7+1) m.turn/\cL a j (n+k*7+2) (.slice bu m.manifests bA)/\cL a j (n+k*7+3) (.slice bv m.epochs bB)/\cL a j (n+k*7+4) (.slice bw m.items bC)/\cL a j (n+k*7+5) (.slice bx m.wraps bD)/\cL a j (n+k*7+6) (.slice bz m.links bE)) a) (λa c=>⟨c,zy c D,zy c H,zy c Q,zy c R,zy c aZ,zy c a0,zy c a1,zy c a2,zy c a3,zy c U,zy c V,zy c bp,zy c bq,zy c br,zy c bs,zy c bt⟩);refine zE kr N (λC=>?_);refine zi 0 ?_;iterate 10 (refine zt C ?_;simp only[zA])
 refine zo ?_;refine zr 10 λK al=>?_
 go_simp;go_at_call 46
 refine zcb (zHo m aI _ _ _ S S' (zV aK (zK (zbr.drew))) (zV aL (zK (zbr.drew)))) λbo B=>?_;have M:(bW wr bo:Prop):=zD (zbr.drew) B;clear B C;refine al.out _ _ (N.o _ M) (λC=>?_);clear al K;refine zT 11 C ?_;simp only[zA];have aH:=zh (zD hbel M);refine wpAnyH_done kr ?_ _;clear C N;clear M;go_wp2;go_roundw
 case rel=>exact⟨k+1,om,gn,aH⟩
 case measure=>exact qMx
end
section
open Go.RowKit Go.Deep Go.Maps
theorem z7u (h1:1<=k) (h2:k<=l):z03 l k=z36 (l.drop k) k:=by
 rw[z03,if_pos ⟨om,om⟩];rfl
theorem zE5 {x:Epoch} (hx:l[k]? =some x) (hp:x.place=1) (e:Int):z36 (l.drop k) e=e:=by
 have a:=zge hx;rw[drop_eq_getElem_cons a.1,a.2,z36,if_pos hp]
theorem zHx {x:Epoch} (hx:l[k]? =some x) (hp:x.place≠1) (e:Int):z36 (l.drop k) e=z36 (l.drop (k+1)) (e+1):=by
 have a:=zge hx;rw[drop_eq_getElem_cons a.1,a.2,z36,if_neg hp]
theorem zSc (f:Folder) (n:Int) (hn:I64 n) (F:List Value) (w:World) (S:Nat->Prop) (h:Z6 S w F f):(kB 229 #[.agg F.toArray,n] w (z03 f.epochs n):Prop):=by
 have ae:=zh h;obtain⟨M,R,N,T,O,U,P,V,Q,W,rfl,_,_,_,_,_,aa,_,_,_,X,_,_,_,Y,_,_,_,ab,_,_,_,Z⟩:=Z9 h;obtain⟨w0,_,G,ac,C,ao⟩:=zP w (aF f M R N T O U P V Q W) 74;have L:=zh G;have J:=zh C;have ak:=zh hn;clear G ac C aa Y ab Z hn;go_enter func229,ntmps229
 go_wp2;go_loopw [1] (λu wr=>∃c:Int,u= .int .i64 c/\Hid (z03 f.epochs c=z03 f.epochs n)/\Hid ((c=n)\/(1<=c/\c<=f.epochs))/\bW w0 wr) (λu _=>f.epochs.length+1-(intOf u).toNat)
 case atStart=>exact⟨n,rfl,(by show _=_;rfl),.inl rfl,Below.refl _ _⟩
 obtain⟨c,rfl,o,_,q⟩:=hrel;have m:=zh (zD J q);obtain⟨ap,aq,ar,B,au,av,aw⟩:=TC7 (zyA q L.o);have i:=zh (zEx f c _ wr S (zV ae.o (zK m)))
 cases g:z9r f c with
 | false=>
  have e:=zh (show c=z03 f.epochs n by
   rw[<-o.o,z6q];exact λh=>by rw[z78.2 h] at g;cases g)
  rw[g] at i;clear g;go_wp2_with (go_at_call 190;refine zcb i λz a=>?_;have d:=zh (zD m a);clear a)
  go_ret
  exact⟨by rw[<-e.o];rfl,d⟩
 | true=>
  obtain⟨_,_⟩:=z78.1 g;rw[g] at i;clear g;obtain⟨k,rfl⟩:∃k:Nat,c=k:=⟨c.toNat,om⟩;by_cases af:k<f.epochs
  rotate_left
  ·obtain rfl:k=f.epochs:=om
   have e:=zh (show(f.epochs:Int)=z03 f.epochs n by
    rw[<-o.o,z7u om (znl _),drop_length];rfl)
   have al:decide ((f.epochs:Int)<(f.epochs:Int))=false:=η;go_wp2_with (go_at_call 190;refine zcb i λz a=>?_;have d:=zh (zD m a);have I:=zy a B;clear a)
   go_ret;exact⟨by rw[<-e.o];rfl,d⟩
  obtain⟨x,r⟩:∃x,f.epochs[k]? =some x:=⟨_,qLgx af⟩;obtain⟨b,an,_,ad,_,ah,H⟩:=SlAt.elem X r dc m;obtain⟨_,_,rfl,_,_,_,_,_,_,aj,_⟩:=z3p ah;have y:=H 0 _ rfl;rw[Nat.add_zero] at y;subst ad;have am:(k:Int)<(f.epochs:Int):=om
  have D:=zh r;clear H aj r;by_cases j:x.place=1
  ·have e:=zh (show(k:Int)=z03 f.epochs n by
    rw[<-o.o,z7u om om,zE5 D.o j])
   have ag:(x.place==1)=true:=beq_iff_eq.2 j;clear j;go_wp2_with (go_at_call 190;refine zcb i λz a=>?_;have d:=zh (zD m a);have I:=zy a B;have ai:=zy a y;clear a)
   go_ret;exact⟨by rw[<-e.o];rfl,d⟩
  have e:=zh (show z03 f.epochs ((k+1:Nat):Int)=z03 f.epochs n by
   rw[<-o.o,z7u om om,z7u (k:=k) om om,zHx D.o j];rfl)
  have ag:(x.place==1)=false:=by simpa using j
  clear j;go_wp2_with (go_at_call 190;refine zcb i λz a=>?_;have d:=zh (zD q a);have I:=zy a B;have ai:=zy a y;clear a)
  go_roundw
  case rel=>exact⟨((k+1:Nat):Int),gn,e,.inr ⟨om,om⟩,d⟩
  case measure=>exact qMx
end
section
open Go.RowKit Go.Deep Go.Maps Go.WideMaps
def kS (s:Nm):Lit:= .string s.data.toList
theorem zW3 {a:Nm}:kS a=kS b↔a=b:=by
 unfold kS;rw[Lit.string.injEq];exact⟨λc=>ByteArray.ext (Array.toList_inj.1 c),λc=>by rw[c]⟩
theorem zEy (s:Nm):WideAt.IsKeyLit (kS s):=by simp[kS,WideAt.IsKeyLit]
theorem zBp:Keyed prog 9:=string_keyed underlying9
theorem zW4 (h:s.size<=()):keyOf prog 9 s=some (kS s):=keyOf_string_mk underlying9 (by unfold maxLen;omega)
def z5p (l:List Nm) (s:Nm):Nat:=(l.filter λy=>decide (y=s)).length
theorem zPu (l:List Nm) (x s:Nm):z5p (l++[x]) s=z5p l s+if x=s then 1 else 0:=by
 unfold z5p;rw[filter_append,qLax];by_cases a:x=s<;>simp[a]
theorem zMp (l:List Nm) (s:Nm):z5p l s<=l.length:=length_filter_le _ _
theorem zHy (l:List Nm) (s:Nm):z5p l s=0↔s∉l:=by
 unfold z5p;rw[length_eq_zero_iff,filter_eq_nil_iff];constructor
 ·intro a d;exact absurd (Δ (rfl:s=s)) (a s d)
 intro a g e c;have:g=s:=of_decide_eq_true c;exact a (this▸e)
structure Cnt (D:DataW Unit) (l:List Nm):Prop where
 isMap:IsMap D
 val:∀s,D.atKey (kS s) (.lit (.int .i64 0))= .lit (.int .i64 (z5p l s))
theorem Cnt.start:Cnt (.map []) []:=⟨isMap_empty,λs=>by rw[atKey_of_not_has (by simp[Maps.has])];rfl⟩
theorem Cnt.put {d:DataW Unit} {l:List Nm} (h:Cnt d l) (x:Nm) {c:Int} (g:c=z5p l x+1):Cnt (d.put (kS x) (.lit (.int .i64 c))) (l++[x]):=by
 refine⟨h.isMap.put _ _,λs=>?_⟩;rw[zPu];by_cases a:x=s
 ·subst a;rw[atKey_put_same h.isMap (zEy _),if_pos rfl,g];simp
 rw[atKey_put_other λe=>a (zW3.1 e).symm,h.val,if_neg a];simp
theorem zA1 (x:Folder) (a:List Value) (w:World) (S:Nat->Prop) (h:Z6 S w a x):(kB 225 #[.agg a.toArray] w x.name:Prop):=by
 obtain⟨_,_,_,_,_,_,_,_,_,_,rfl,_⟩:=Z9 h;go_enter func225,ntmps225
 go_wp2;go_ret;exact⟨rfl,gg⟩
theorem zJx {l:List Folder} {x:Folder} (hx:l[k]? =some x):ZP Folder.name (l.take (k+1))=if x.name∈(l.take k).map Folder.name then ZP Folder.name (l.take k) else ZP Folder.name (l.take k)++[x]:=by
 rw[qLtx,hx];exact z1m Folder.name _ _
theorem may (h:p:=by
 rw[if_pos (Classical.not_not.1 hN)] at HT;have hq1:(((q+1:Nat):Int)==1)=false:=by simp;omega
 have hq2:((q:Int)+1==1)=false:=by simp;omega
 clear hmem hN
 go_wp2_with (first
  | (at_lookup;go_loud (refine wpList_lookup_own_int _ rfl _ _ 287 rfl 9 3 .i64 zBp underlying287 underlying3 (z6d _) w.heap.size (k+1) _ rfl O3.o _ _ rfl hkey ?_);intro c hat hwc;obtain rfl:c=((q+1:Nat):Int):=(by have:=hat.symm.trans E1.o;simpa using this);clear hat hwc))
 go_roundw
 case rel=>exact⟨k+1,_,ps,om,gn,W3,HPS.trans HT.symm,HPR,HOB,O3,HC2,B23.o⟩
 case measure=>exact qMx):p:=h
theorem mbz (h:p:=by
 rcases O4.o with h|⟨q,h,hq⟩
 ·exact HOB.o z (h.symm.trans hz2)
 obtain rfl:=zsi (h.symm.trans hz2);exact qNtx B23.o.size hq):p:=h
theorem mb4 (h:p:=by
 obtain rfl:k=l:=om
 go_wp2;go_ret;exact⟨⟨_,ps,rfl,HG,by rw[HPS.o,qLnx],HPR,HOB⟩,hbel⟩):p:=h
theorem zEz (l:List Folder) (v:Value) (w:World) (S:Nat->Prop) (h:Sl 7 Z6 S w v l) (hl:l.length<=1000):Calls prog 224 #[v,.func (.func 225) #[] #[]] w λe w'=>(∃(v':Value) (ps:List (List Value×Folder)),e= .returned v'/\RowC 74 7 w' v' (ps.map (·.1))/\ps.map (·.2)=ZP Folder.name l/\(∀p∈ps,Z6 S w p.1 p.2)/\∀z,v'.ownBlock=some z->w.heap.size<=z)/\bW w w':=by
 obtain⟨_,c,rfl,_,aT,_,aX⟩:=h;unfold maxLen at aT;have aW:=@run_makeMap prog;have aH:=zh hl;clear hl;obtain⟨aZ,aU,aY,aO,aP⟩:=info_parts (show(prog.info? 74).map (λg=>(g.zero,g.size,g.bytes))=some (some (.agg oF),7,144) from kr);go_enter func224,ntmps224
 go_wp2;clear aW;go_loopw [5,12] (λay g wr=>∃(k:Nat) (i:DataW Unit) (ps:List (List Value×Folder)),k<=l/\g= .int .i64 k/\Hid (RowC 74 7 wr ay (ps.map (·.1)))/\Hid (ps.map (·.2)=ZP Folder.name (l.take k))/\Hid (∀p∈ps,Z6 S w p.1 p.2)/\Hid (∀z,ay.ownBlock=some z->w.heap.size<=z)/\Hid (wr.ownsMap prog 9 (plainElem prog 3) w k i)/\Hid (Cnt i ((l.take k).map Folder.name))/\bW w wr) (λ_ g _=>l.length-(intOf g).toNat)
 case atStart=>exact⟨0,_,[],om,gn,RowC.nil _,(by show _=_;rfl),(λp d=>by simp at d),(λz W=>by cases W),World.ownsMap_made _ _ _ _,Cnt.start,gg⟩
 obtain⟨k,i,ps,_,rfl,HG,HPS,HPR,HOB,P,N,hbel⟩:=hrel;have W:=hbel.size;obtain⟨J,X,T,rfl⟩:=HG.shape3;by_cases aV:k<l
 rotate_left
 ·exact mb4
 obtain⟨x,V⟩:∃x,l[k]? =some x:=⟨_,qLgx aV⟩;obtain⟨b,_,_,aQ,_,an,aq⟩:=SlAt.elem aX V dc hbel;have ag:=zh V;have I:=zh an;obtain⟨o,C,r,D,u,F,y,G,B,H,rfl,a5,_,_,_,_,a4,_,_,_,a1,_,_,_,a2,_,_,_,a6,_,_,_,a3⟩:=Z9 an;obtain⟨a0,bx,bz,bA,bB,bC,bD⟩:=TC7 aq;rw[Nat.add_zero] at a0;subst aQ;have a8:(k:Int)<(l:Int):=om
 have a7:=aH.o;have ao:=zMp ((l.take k).map Folder.name) x.name;rw[qLmx,length_take] at ao;have aG:=zh (show ps.length<=k by
  have aN:ps.length=(ZP Folder.name (l.take k)).length:=by rw[<-HPS.o,qLmx]
  rw[aN];exact qNtx (z6p Folder.name (l.take k)) (by rw[length_take];exact Nat.min_le_left _ _))
 have ap:z5p ((l.take k).map Folder.name) x.name<=1000:=om
 have ac:=zh ap;have hkey:=zW4 a5;have a9:=P.lt;have HT:=zh (zJx ag);have HC2:=zh (N.put x.name (c:=((z5p ((l.take k).map Folder.name) x.name+1:Nat):Int)) rfl);rw[show(l.take k).map Folder.name++[x.name]=(l.take (k+1)).map Folder.name by rw[qLtx,ag.o];simp] at HC2;have ab:=zh (N.val x.name);have E1:=ζ ((i.put (kS x.name) (.lit (.int .i64 ((z5p ((l.take k).map Folder.name) x.name+1:Nat):Int)))).atKey (kS x.name) (.lit (.int .i64 0))=_) (atKey_put_same N.isMap (zEy _) _ _);have O:=zh (zHy ((l.take k).map Folder.name) x.name);clear V aq ao ap;generalize hq:z5p ((l.take k).map Folder.name) x.name=q at ac HC2 ab E1 O;clear hq a4 a1 a2 a6 a3;go_wp2_with fail
 refine zcb (zA1 x _ _ S (zV I (zK gg))) λaz U=>?_;have Q:az.heap[wr.heap.size]? =some (.cells (aF x o C r D u F y G B H) 74 (0,0)):=(U.block _ sm).trans (by repeat' first|with_reducible assumption|((with_reducible first|refine Z2 _ ?_ ?_|apply zJ);rotate_left;first|with_reducible rfl|((try dsimp only);first|with_reducible assumption|omega|(simp only[zS];done)|(simp only[zS];omega)))|with_reducible apply zH|with_reducible refine zR _ ?_|with_reducible refine ZQ ?_|refine(rfl:(_:Array Value)=_));have m:=ζ (bW wr az:Prop) (zD gg U);have aj:=zh (z2h P m.o);have ah:=(zB Q).1;obtain⟨bc,bd,be,bf,bg,bh,bi⟩:=TC7 ah;have ae:=zh Q;clear Q U ah;have ba:q<=1000:=ac;have bb:IntKind.i64.wrap ((q:Int)+1)=((q+1:Nat):Int):=by rw[IntWalk.i64_in _ om];rfl
 go_wp2_with (first
  | (at_lookup;go_loud (refine wpList_lookup_own_int _ rfl _ _ 287 rfl 9 3 .i64 zBp underlying287 underlying3 (z6d _) w.heap.size k i rfl aj.o _ _ rfl hkey ?_);intro c hat hwc;obtain rfl:c=(q:Int):=(by have:=hat.symm.trans ab.o;simpa using this);clear hat hwc)
  | (at_mapUpdate;go_loud (refine wpList_mapUpdate_own _ rfl _ _ _ 287 rfl 9 3 zBp underlying287 _ w.heap.size k i rfl aj.o (by unfold maxLen;omega) _ (.int .i64 ((q+1:Nat):Int)) _ rfl rfl hkey _ [] (plainElem_int underlying3 (by have h:I64 ((q+1:Nat):Int):=⟨om,om⟩;simp[Lit.wf];exact h)) ?_);intro Z av ar;have ak:=zh av;have M:=zh ar;clear av ar;have R:Z.heap[wr.heap.size]? =some (.cells (aF x o C r D u F y G B H) 74 (0,0)):=(M.o.block _ (zI ae) (by simp;omega)).trans ae;have a:=(zB R).1;have bj:=a 0 _ rfl;have bk:=a 1 _ rfl;have bl:=a 2 _ rfl;have bm:=a 3 _ rfl;have bn:=a 4 _ rfl;have bo:=a 5 _ rfl;have bp:=a 6 _ rfl;have af:=zh R;clear R a))
 have ad:=zh (show(Value.slice J X T).ownBlock≠some w.heap.size from λh=>by
  obtain⟨_,aR⟩:=Y0 HG h;exact z2s P aR rfl)
 have aL:=ζ (RowC 74 7 Z (.slice J X T) (ps.map (·.1))) ((HG.below m.o).keep λb j=>M.o.block b ((HG.below m.o).lt b j) λe=>ad.o (j.trans e));have L:=ζ (bW w Z:Prop) (Below.grown (zD hbel m.o) M.o (qNtx W m.o.size) λb j=>by obtain rfl:=zsi j;exact znl _);have aJ:=ak.o.lt;refine zcb (zA1 x _ _ S (zV I (zK L.o))) λaB n=>?_;have aa:=zh n;have O3:=zh (z2h ak.o aa.o);have am:aB.heap[wr.heap.size]? =some (.cells (aF x o C r D u F y G B H) 74 (0,0)):=(n.block _ (zI af)).trans af;have ai:=(zB am).1;obtain⟨bq,br,bs,bt,bu,bv,bw⟩:=TC7 ai;have W3:=zh (aL.o.below n);have B23:=zh (zD L.o n);clear am ai n L aa aJ;have au:(ps.map (·.1)).length<=1000:=by rw[qLmx];have:=aG.o;omega
 have aI:=zh au;clear au;by_cases hmem:q=0
 rotate_left
 ·have hN:¬(x.name∉(l.take k).map Folder.name):=λh=>hmem (O.2 h)
  exact may
 have hN:=O.1 hmem;rw[if_neg hN] at HT;subst hmem
 go_wp2_with (first
  | (at_lookup;go_loud (refine wpList_lookup_own_int _ rfl _ _ 287 rfl 9 3 .i64 zBp underlying287 underlying3 (z6d _) w.heap.size (k+1) _ rfl O3.o _ _ rfl hkey ?_);intro c hat hwc;obtain rfl:c=(1:Int):=(by have:=hat.symm.trans E1.o;simpa using this);clear hat hwc)
  | (at_builtin;refine z2b aB _ (lF x o C r D u F y G B H) rfl (.tmp 28) (.tmp 30) 32 rfl aZ _ 144 underlying32 aU aY aO aP rfl dc dc (.slice J X T) (ps.map (·.1)) rfl _ _ rfl W3.o gg (oh aI.o) rfl (zE2 I) (by repeat' first|with_reducible assumption|((with_reducible first|refine Z2 _ ?_ ?_|apply zJ);rotate_left;first|with_reducible rfl|((try dsimp only);first|with_reducible assumption|omega|(simp only[zS];done)|(simp only[zS];omega)))|with_reducible apply zH|with_reducible refine zR _ ?_|with_reducible refine ZQ ?_|refine(rfl:(_:Array Value)=_)) ?_;intro bE bF Y ax aw;obtain⟨_,_,_,rfl⟩:=Y.shape3;have aK:=zh Y;have al:=zh ax;have O4:=zh aw;clear Y ax aw))
 go_roundw
 case rel=>
  refine⟨k+1,_,ps++[([.string x.name,.int .i64 x.turn,.slice o x.manifests C,.slice r x.epochs D,.slice u x.items F,.slice y x.wraps G,.slice B x.links H],x)],om,gn,?_,?_,λp d=>?_,λz hz2=>?_,?_,HC2,?_⟩
  ·show RowC _ _ _ _ _
   rw[map_append];exact aK.o
  ·show _=_
   rw[map_append,HPS.o,HT.o];rfl
  ·rcases zmb d with d|d
   ·exact HPR.o p d
   obtain rfl:=zml d;exact I
  ·exact mbz
  ·exact z5l O3.o al.o ad
  exact ButB.below B23.o B23.o.size (λb j=>HOB.o b j) al.o
 case measure=>exact qMx
theorem zBq (x:Wrap) (a:List Value) (w:World) (S:Nat->Prop) (h:yL S w a x):(kB 228 #[.agg a.toArray] w x.name:Prop):=by
 obtain⟨rfl,_⟩:=z4g h;go_enter func228,ntmps228
 go_wp2;go_ret;exact⟨rfl,gg⟩
theorem zNo {l:List Wrap} {x:Wrap} (hx:l[k]? =some x):ZP Wrap.name (l.take (k+1))=if x.name∈(l.take k).map Wrap.name then ZP Wrap.name (l.take k) else ZP Wrap.name (l.take k)++[x]:=by
 rw[qLtx,hx];exact z1m Wrap.name _ _
theorem zGw (l:List Wrap) (v:Value) (w:World) (S:Nat->Prop) (h:Sl 3 yL S w v l) (hl:l.length<=1000):Calls prog 227 #[v,.func (.func 228) #[] #[]] w λe w'=>(∃(v':Value) (ps:List (List Value×Wrap)),e= .returned v'/\RowC 149 3 w' v' (ps.map (·.1))/\ps.map (·.2)=ZP Wrap.name l/\(∀p∈ps,yL S w p.1 p.2)/\∀z,v'.ownBlock=some z->w.heap.size<=z)/\bW w w':=by
 obtain⟨_,c,rfl,_,aH,_,aL⟩:=h;unfold maxLen at aH;have aK:=@run_makeMap prog;have aq:=zh hl;clear hl;obtain⟨aO,aI,aN,ay,az⟩:=info_parts (show(prog.info? 149).map (λd=>(d.zero,d.size,d.bytes))=some (some (.agg #["",'0',false]),3,32) from kr);go_enter func227,ntmps227
 go_wp2;clear aK;go_loopw [5,12] (λam d wr=>∃(k:Nat) (g:DataW Unit) (ps:List (List Value×Wrap)),k<=l/\d= .int .i64 k/\Hid (RowC 149 3 wr am (ps.map (·.1)))/\Hid (ps.map (·.2)=ZP Wrap.name (l.take k))/\Hid (∀p∈ps,yL S w p.1 p.2)/\Hid (∀z,am.ownBlock=some z->w.heap.size<=z)/\Hid (wr.ownsMap prog 9 (plainElem prog 3) w k g)/\Hid (Cnt g ((l.take k).map Wrap.name))/\bW w wr) (λ_ d _=>l.length-(intOf d).toNat)
 case atStart=>exact⟨0,_,[],om,gn,RowC.nil _,(by show _=_;rfl),(λp a=>by simp at a),(λz L=>by cases L),World.ownsMap_made _ _ _ _,Cnt.start,gg⟩
 obtain⟨k,g,ps,_,rfl,HG,HPS,HPR,HOB,D,B,hbel⟩:=hrel;have L:=hbel.size;obtain⟨r,M,H,rfl⟩:=HG.shape3;by_cases aJ:k<l
 rotate_left
 ·exact mb4
 obtain⟨x,J⟩:∃x,l[k]? =some x:=⟨_,qLgx aJ⟩;obtain⟨b,_,_,aB,_,ad,ag⟩:=SlAt.elem aL J dc hbel;have W:=zh J;have n:=zh ad;obtain⟨rfl,aQ,_⟩:=z4g ad;obtain⟨aP,a6,a7⟩:=TC3 ag;rw[Nat.add_zero] at aP;subst aB;have aT:(k:Int)<(l:Int):=om
 have aR:=aq.o;have ae:=zMp ((l.take k).map Wrap.name) x.name;rw[qLmx,length_take] at ae;have ap:=zh (show ps.length<=k by
  have ax:ps.length=(ZP Wrap.name (l.take k)).length:=by rw[<-HPS.o,qLmx]
  rw[ax];exact qNtx (z6p Wrap.name (l.take k)) (by rw[length_take];exact Nat.min_le_left _ _))
 have af:z5p ((l.take k).map Wrap.name) x.name<=1000:=om
 have R:=zh af;have hkey:=zW4 aQ;have aU:=D.lt;have HT:=zh (zNo W);have HC2:=zh (B.put x.name (c:=((z5p ((l.take k).map Wrap.name) x.name+1:Nat):Int)) rfl);rw[show(l.take k).map Wrap.name++[x.name]=(l.take (k+1)).map Wrap.name by rw[qLtx,W.o];simp] at HC2;have Q:=zh (B.val x.name);have E1:=ζ ((g.put (kS x.name) (.lit (.int .i64 ((z5p ((l.take k).map Wrap.name) x.name+1:Nat):Int)))).atKey (kS x.name) (.lit (.int .i64 0))=_) (atKey_put_same B.isMap (zEy _) _ _);have C:=zh (zHy ((l.take k).map Wrap.name) x.name);clear J ag ae af;generalize hq:z5p ((l.take k).map Wrap.name) x.name=q at R HC2 Q E1 C;clear hq;go_wp2_with fail
 refine zcb (zBq x _ _ S (z4k n (zK gg))) λan I=>?_;have F:an.heap[wr.heap.size]? =some (.cells #[x.name,x.epoch,x.seed] 149 (0,0)):=(I.block _ sm).trans (by repeat' first|with_reducible assumption|((with_reducible first|refine Z2 _ ?_ ?_|apply zJ);rotate_left;first|with_reducible rfl|((try dsimp only);first|with_reducible assumption|omega|(simp only[zS];done)|(simp only[zS];omega)))|with_reducible apply zH|with_reducible refine zR _ ?_|with_reducible refine ZQ ?_|refine(rfl:(_:Array Value)=_));have j:=ζ (bW wr an:Prop) (zD gg I);have Z:=zh (z2h D j.o);have X:=(zB F).1;obtain⟨aX,aY,aZ⟩:=TC3 X;have U:=zh F;clear F I X;have aV:q<=1000:=R;have aW:IntKind.i64.wrap ((q:Int)+1)=((q+1:Nat):Int):=by rw[IntWalk.i64_in _ om];rfl
 go_wp2_with (first
  | (at_lookup;go_loud (refine wpList_lookup_own_int _ rfl _ _ 287 rfl 9 3 .i64 zBp underlying287 underlying3 (z6d _) w.heap.size k g rfl Z.o _ _ rfl hkey ?_);intro c hat hwc;obtain rfl:c=(q:Int):=(by have:=hat.symm.trans Q.o;simpa using this);clear hat hwc)
  | (at_mapUpdate;go_loud (refine wpList_mapUpdate_own _ rfl _ _ _ 287 rfl 9 3 zBp underlying287 _ w.heap.size k g rfl Z.o (by unfold maxLen;omega) _ (.int .i64 ((q+1:Nat):Int)) _ rfl rfl hkey _ [] (plainElem_int underlying3 (by have h:I64 ((q+1:Nat):Int):=⟨om,om⟩;simp[Lit.wf];exact h)) ?_);intro O aj ah;have aa:=zh aj;have y:=zh ah;clear aj ah;have G:O.heap[wr.heap.size]? =some (.cells #[x.name,x.epoch,x.seed] 149 (0,0)):=(y.o.block _ (zI U) (by simp;omega)).trans U;have o:=(zB G).1;have a0:=o 0 _ rfl;have a1:=o 1 _ rfl;have a2:=o 2 _ rfl;have V:=zh G;clear G o))
 have T:=zh (show(Value.slice r M H).ownBlock≠some w.heap.size from λh=>by
  obtain⟨_,aG⟩:=Y0 HG h;exact z2s D aG rfl)
 have aw:=ζ (RowC 149 3 O (.slice r M H) (ps.map (·.1))) ((HG.below j.o).keep λb i=>y.o.block b ((HG.below j.o).lt b i) λe=>T.o (i.trans e));have u:=ζ (bW w O:Prop) (Below.grown (zD hbel j.o) y.o (qNtx L j.o.size) λb i=>by obtain rfl:=zsi i;exact znl _);have au:=aa.o.lt;refine zcb (zBq x _ _ S (z4k n (zK u.o))) λao m=>?_;have P:=zh m;have O3:=zh (z2h aa.o P.o);have ac:ao.heap[wr.heap.size]? =some (.cells #[x.name,x.epoch,x.seed] 149 (0,0)):=(m.block _ (zI V)).trans V;have Y:=(zB ac).1;obtain⟨a3,a4,a5⟩:=TC3 Y;have W3:=zh (aw.o.below m);have B23:=zh (zD u.o m);clear ac Y m u P au;have ai:(ps.map (·.1)).length<=1000:=by rw[qLmx];have:=ap.o;omega
 have ar:=zh ai;clear ai;by_cases hmem:q=0
 rotate_left
 ·have hN:¬(x.name∉(l.take k).map Wrap.name):=λh=>hmem (C.2 h)
  exact may
 have hN:=C.1 hmem;rw[if_neg hN] at HT;subst hmem
 go_wp2_with (first
  | (at_lookup;go_loud (refine wpList_lookup_own_int _ rfl _ _ 287 rfl 9 3 .i64 zBp underlying287 underlying3 (z6d _) w.heap.size (k+1) _ rfl O3.o _ _ rfl hkey ?_);intro c hat hwc;obtain rfl:c=(1:Int):=(by have:=hat.symm.trans E1.o;simpa using this);clear hat hwc)
  | (at_builtin;refine z2b ao _ [x.name,x.epoch,x.seed] rfl (.tmp 28) (.tmp 30) 71 rfl aO _ 32 underlying71 aI aN ay az rfl dc dc (.slice r M H) (ps.map (·.1)) rfl _ _ rfl W3.o gg (oh ar.o) rfl (zHs n) (by repeat' first|with_reducible assumption|((with_reducible first|refine Z2 _ ?_ ?_|apply zJ);rotate_left;first|with_reducible rfl|((try dsimp only);first|with_reducible assumption|omega|(simp only[zS];done)|(simp only[zS];omega)))|with_reducible apply zH|with_reducible refine zR _ ?_|with_reducible refine ZQ ?_|refine(rfl:(_:Array Value)=_)) ?_;intro a8 a9 N al ak;obtain⟨_,_,_,rfl⟩:=N.shape3;have av:=zh N;have ab:=zh al;have O4:=zh ak;clear N al ak))
 go_roundw
 case rel=>
  refine⟨k+1,_,ps++[([.string x.name,.int .i64 x.epoch,.bool x.seed],x)],om,gn,?_,?_,λp a=>?_,λz hz2=>?_,?_,HC2,?_⟩
  ·show RowC _ _ _ _ _
   rw[map_append];exact av.o
  ·show _=_
   rw[map_append,HPS.o,HT.o];rfl
  ·rcases zmb a with a|a
   ·exact HPR.o p a
   obtain rfl:=zml a;exact n
  ·exact mbz
  ·exact z5l O3.o ab.o T
  exact ButB.below B23.o B23.o.size (λb i=>HOB.o b i) ab.o
 case measure=>exact qMx
end
section
open Go.RowKit Go.Deep Go.Maps
structure GrW (w0:World) (K:Nat->Prop) (E:List (GN×GN)) (w:World) (t:Nat):Prop where
 ex:∃m B,Gr E m w t B/\m<=3*E.length/\∀z,B z->w0.heap.size<=z/\¬K z
 kl:∀z,K z->z<w.heap.size
 bel:(bW w0 w:Prop)
section
variable {w0 w w':World} {K K':Nat->Prop} {E:List (GN×GN)} {t:Nat}
theorem GrW.to (h:GrW w0 K E w t) (k:(bW w w':Prop)):GrW w0 K E w' t:=by
 obtain⟨i,a,c,d,e⟩:=h.ex;exact⟨⟨i,a,c.below k,d,e⟩,λj g=>zll (h.kl j g) k.size,zD h.bel k⟩
theorem GrW.add (h:GrW w0 K E w t) (k:(bW w w':Prop)) (i:∀a,K' a->K a\/(w.heap.size<=a/\a<w'.heap.size)):GrW w0 K' E w' t:=by
 obtain⟨o,j,e,m,g⟩:=h.ex;refine⟨⟨o,j,e.below k,m,λa d=>⟨(g a d).1,λn=>?_⟩⟩,λa d=>?_,zD h.bel k⟩
 ·rcases i a n with c|⟨c,_⟩
  ·exact(g a d).2 c
  have:=e.lt a d;omega
 rcases i a d with c|⟨_,c⟩
 ·exact zll (h.kl a c) k.size
 exact c
theorem GrW.cast {a:List (GN×GN)} (h:GrW w0 K E w t) (e:E=a):GrW w0 K a w t:=e▸h
theorem Gr.mono {m m':Nat} {B:Nat->Prop} (h:Gr E m w t B) (hm:m<=m'):Gr E m' w t B:=by
 obtain⟨b,d,g,i,j,e,c,a,h,rfl⟩:=h;exact⟨b,d,g,i,j,e,c,a,⟨h.gs,h.rep.mono hm,qNtx h.em hm⟩,rfl⟩
theorem zFp (h:GrW w0 K E w t) (hl:E.length<=1500) (x y:GN) (hx:OkG x) (hy:OkG y):Calls prog 223 #[pT t,vG x,vG y] w λe' w'=>(∃r,e'= .returned (.int .i64 r))/\GrW w0 K (E++[(x,y)]) w' t/\(∀a,K a->w'.heap[a]? =w.heap[a]?)/\w<=w'.heap.size:=by
 obtain⟨z,_,o,_,e⟩:=h.ex;refine zcm (zSb o om x y hx hy) ?_;rintro e' w' ⟨u,⟨j,q,m⟩,d⟩;refine⟨u,⟨⟨z+3,j,q,by simp;omega,λa c=>?_⟩,λa c=>zll (h.kl a c) d.size,ButB.below h.bel h.bel.size (λk g=>(e k g).1) d⟩,λa c=>d.block a (h.kl a c) λn=>(e a n).2 c,d.size⟩;rcases m a c with i|i
 ·exact e a i
 exact⟨qNtx h.bel.size i,λg=>by have:=h.kl a g;omega⟩
end
structure OkSt (st:State):Prop where
 dep:∀p∈st.deposits,p.to.size<=1000/\p.frm.size<=1000
 fol:∀f∈st.folders,f.name.size<=1000/\(∀w∈f.wraps,w.name.size<=1000)/\(∀x∈f.links,x.to.size<=1000)/\f.wraps.length<=1000
 few:(z5k st).length<=1000
 nf:st.folders.length<=1000
theorem okU (h:s.size<=1000):OkG (uN s):=⟨h,(show I64 0 from⟨dc,dc⟩)⟩
theorem okE {n:Int} (h:s.size<=1000) (hn:I64 n):OkG (eN s n):=⟨h,hn⟩
theorem zLp {l:List Pair} {x:Pair} (hx:l[k]? =some x):z1t (l.take (k+1))=z1t (l.take k)++[(uN x.to,uN x.frm)]:=by
 rw[qLtx,hx];simp[z1t]
theorem zF0 {α:Type} (l:List α) (k:Nat):(l.take k).length<=l.length:=by
 rw[length_take];omega
theorem zGx (st:State):(z1t st.deposits).length+((ZP Folder.name st.folders).flatMap z2f).length=(z5k st).length:=by
 unfold z5k;rw[qLax]
theorem zAk (l:List Pair):(z1t l).length=l.length:=by simp[z1t]
theorem zHz {α a:Type} (f:α->List a):∀{l:List α} {k:Nat} {x:α},l[k]? =some x->((l.take k).flatMap f).length+(f x).length<=(l.flatMap f).length
 | [],k,x,h=>by simp at h
 | y::l,0,x,h=>by
  obtain rfl:y=x:=by simpa using h
  simp[flatMap_cons]
 | y::l,k+1,x,h=>by
  have:=zHz f (l:=l) (k:=k) (x:=x) (by simpa using h);simp only[take_succ_cons,flatMap_cons,qLax];omega
theorem zAl (s:Nm) (n:Nat):(z4a s n).length=n:=by simp[z4a]
theorem zAm (f:Folder) (l:List Wrap):(z1s f l).length=l.length:=by simp[z1s]
theorem zFq (f:Folder) (l:List Link):(z49 f l).length=l.length:=by simp[z49]
theorem zFr (f:Folder):(z2f f).length=f.epochs.length-1+((ZP Wrap.name f.wraps).length+f.links.length):=by
 unfold z2f;rw[qLax,qLax,zAl,zAm,zFq]
theorem zLq (s:Nm) (n:Nat):z4a s (n+1)=z4a s n++[(eN s ((n:Int)+2),eN s ((n:Int)+1))]:=by
 unfold z4a;rw[range_succ,map_append];rfl
theorem zLr (f:Folder) {l:List Wrap} {x:Wrap} (hx:l[k]? =some x):z1s f (l.take (k+1))=z1s f (l.take k)++[(uN x.name,eN f.name (z3r f.epochs x))]:=by
 rw[qLtx,hx];simp[z1s]
theorem zLs (f:Folder) {l:List Link} {x:Link} (hx:l[k]? =some x):z49 f (l.take (k+1))=z49 f (l.take k)++[(eN x.to x.seq,eN f.name x.epoch)]:=by
 rw[qLtx,hx];simp[z49]
theorem zSd {w0 e W:World} {d:List Value} {x:Folder} (h:Z6 (λc=>c<w) e d x) (h0:w<=w0.heap.size) (i:(bW w0 e:Prop)) (g:(bW w0 W:Prop)):Z6 (λc=>c<w) W d x:=
 zV h λb a _=>⟨a,(g.block b (zll a h0)).trans (i.block b (zll a h0)).symm⟩
theorem zSe {x:Folder} {a b c d e f:Value} {n g:Nat} (h:Z6 S w [a,b,c,d,e,f,.slice A n g] x):SlAt 3 z0g S w A x.links:=by
 obtain⟨_,_,_,_,_,e,_,_,_,_,_,_,i⟩:=h;simp only[cons.injEq] at e;obtain⟨_,_,_,_,_,_,rfl,_⟩:=e;obtain⟨_,_,e,_,_,_,j⟩:=i;cases e
 exact j
theorem zSf {w:Wrap} (hl:l.length<=1001) (h:I64 w.epoch):I64 (z3r l w):=by
 unfold z3r;split
 ·by_cases a:1<=w.epoch/\w.epoch<=l
  ·have:=zHu a.1 a.2;unfold I64;omega
  rw[z6q a];exact h
 exact h
theorem zPv (st:State) (ca:List Value) (w:World) (S:Nat->Prop) (h:Z5 S w ca st) (co:OkSt st):Calls prog 198 #[.agg ca.toArray] w λe w'=>(∃t B,e= .returned (pT t)/\Gr (z5k st) 3000 w' t B/\∀a,B a->w.heap.size<=a)/\bW w w':=by
 have dd:=zM h (show Kept S (λa=>a<w) w w from λb _ dm=>⟨dm,rfl⟩);clear h;obtain⟨dA,dC,dB,dD,cp,cq,rfl,_,_,_,_,_,_,_,_,dE,dF,dG,dH,dI⟩:=ZF dd;obtain⟨w0,ds,bE,c7,bS,d2⟩:=zP w (aS st dA dC dB dD cp cq) 34;have cE:=zh bE;have aw:=zh bS;have aa:=zh co;have bP:=bE 2 _ rfl;clear co bE c7 bS;go_enter func198,ntmps198
 go_wp2_with fail
 clear ds;refine zcm (zUk _) ?_;rintro e bN ⟨⟨t,b,rfl,cf,cm,aP⟩,aH⟩;have bZ:=zh (show GrW w0 (λ_=>False) (z1t (st.deposits.take 0)) bN t from⟨⟨0,_,⟨b,0,_,_,_,_,_,_,cf,rfl⟩,sm,λa c=>⟨by
  rcases c with rfl|rfl|h|h|⟨v,bL,h⟩
  ·exact cm
  ·exact aP
  ·cases h
  ·cases h
  ·simp at bL,λh=>h⟩⟩,λa h=>h.elim,aH⟩)
 have bP:=zy aH bP;clear cf cm aP aH;go_wp2;clear bP;go_loopw [18] (λR wr=>∃k:Nat,k<=st.deposits/\R= .int .i64 k/\Hid (GrW w0 (λ_=>False) (z1t (st.deposits.take k)) wr t)) (λR _=>st.deposits.length-(intOf R).toNat)
 case atStart=>exact⟨0,om,gn,bZ⟩
 clear bZ;obtain⟨k,cg,rfl,n⟩:=hrel;by_cases ad:k<st.deposits
 ·obtain⟨x,bj⟩:∃x,st.deposits[k]? =some x:=⟨_,qLgx ad⟩;obtain⟨b,du,dU,bG,df,aX,aq⟩:=SlAt.elem dE bj dc (zD aw n.bel);obtain⟨rfl,_⟩:=zBl aX;obtain⟨ar,bm⟩:=TC2 aq;rw[Nat.add_zero] at ar;subst bG;have dl:(k:Int)<(st.deposits:Int):=om
  clear aq;have cX:=zh bj;have di:=aa.few;have ce:=zGx st;rw[zAk] at ce;have am:=zh (by rw[zAk];have:=zF0 st.deposits k;omega:(z1t (st.deposits.take k)).length<=1500);have bV:=zh (aa.dep x (zmg bj));obtain⟨aT,dt,cb,c8,bT,dy⟩:=zP wr #[x.frm,x.to] 126;have u:=ζ (GrW w0 (·=wr) (z1t (st.deposits.take k)) aT t) (n.add bT λa c=> .inr ⟨Nat.le_of_eq c.symm,c▸dy⟩);have bU:=zh cb;clear bj di ce cb c8 bT n;go_wp2;have ab:∀d:World,(∀a,(·=wr.heap.size) a->d.heap[a]? =aT.heap[a]?)->(λd:World=>cL d wr 0 x.frm/\cL d wr 1 x.to) d:=λd Q=>⟨(World.cell?_of_block (Q _ rfl)).trans (bU.o 0 _ rfl),(World.cell?_of_block (Q _ rfl)).trans (bU.o 1 _ rfl)⟩
  have o:∀d:World,(∀a,(·=wr.heap.size) a->d.heap[a]? =aT.heap[a]?)->(λd:World=>cL d wr 0 x.frm/\cL d wr 1 x.to) d:=ab;refine wp_region_held_drew (S:=λd:World=>cL d wr 0 x.frm/\cL d wr 1 x.to) kr (o _ λa _=>rfl) (λg=>?_);refine zi 0 ?_;iterate 3 (refine zt g ?_;simp only[zA])
  refine zo ?_;refine zi 4 ?_;iterate 2 (refine zt g ?_;simp only[zA])
  refine zo ?_;refine zr 3 λK j=>?_
  go_simp;go_at_call 200
  refine zcb (z8y _ _) λaj I=>?_;have F:(bW aT aj:Prop):=zD zbr.drew I;clear I g;refine j.out _ _ (o _ λa c=>F.block a (u.kl a c)) (λg=>?_);clear j K;refine zr 6 λK j=>?_
  go_simp;go_at_call 200
  refine zcb (z8y _ _) λak M=>?_;have r:(bW aT ak:Prop):=zD F M;clear M g;refine j.out _ _ (o _ λa c=>r.block a (u.kl a c)) (λg=>?_);clear j K;refine zr 7 λK j=>?_
  go_simp;go_at_call 223
  refine zcm (zFp (u.to r) am _ _ (okU bV.1) (okU bV.2)) ?_;rintro ba U ⟨⟨bl,rfl⟩,W,X,al⟩;have Z:=ζ (∀a,(·=wr.heap.size) a->U.heap[a]? =aT.heap[a]?) (λa c=>(X a c).trans (r.block a (u.kl a c)));have ag:=zh W;clear X W g;refine j.out _ _ (o _ Z.o) (λg=>?_);clear j K;refine wpAnyH_done kr ?_ _;clear g o F r al;go_wp2;go_roundw
  case rel=>exact⟨k+1,om,gn,(ag.o.cast (zLp cX).symm).add zbr λa c=>c.elim⟩
  case measure=>exact qMx
 obtain rfl:k=st.deposits:=om
 obtain⟨bO,rfl⟩:=ξ wr;rw[qLnx] at n;have dO:=zy n.bel (cE.o 3 _ rfl);have cT:=ζ (Sl 7 Z6 (λa=>a<w) w (.slice cp st.folders cq) st.folders) ⟨_,_,rfl,dF,dG,dH,dI⟩;clear cg ad;go_wp2_with fail
 clear dO;refine zcm (zEz st.folders _ bO (λa=>a<w) (cT.keep rFolder_ok dc (zK (zD aw n.bel))) aa.nf) ?_;rintro e bN ⟨⟨dN,q,rfl,aZ,bH,cj,ci⟩,aH⟩;have bt:=ζ (GrW w0 (λa=>dN.ownBlock=some a) (z1t st.deposits++((q.map (·.2)).take 0).flatMap z2f) bN t) ((n.cast sm).add aH λa c=> .inr ⟨ci a c,aZ.lt a c⟩);obtain⟨bo,ap,rfl,-⟩:=aZ.shape;rw[qLmx] at bt aZ⊢;have dY:q.length<=1000:=by
  have ah:q.length=(ZP Folder.name st.folders).length:=by rw[<-bH,qLmx]
  rw[ah];exact qNtx (z6p _ _) aa.nf
 have az:=zh aZ;have a2:=zh bH;have cM:=zh cj;have br:=zh n.bel;clear aZ bH cj ci aH n;go_wp2;go_loopw [35] (λR z=>∃k:Nat,k<=q/\R= .int .i64 k/\Hid (GrW w0 (λa=>(Value.slice bo q ap).ownBlock=some a) (z1t st.deposits++((q.map (·.2)).take k).flatMap z2f) z t)/\Hid (RowC 74 7 z (.slice bo q ap) (q.map (·.1)))) (λR _=>q.length-(intOf R).toNat)
 case atStart=>exact⟨0,om,gn,bt,az⟩
 clear bt az;obtain⟨z,rfl⟩:=ξ wr;obtain⟨k,cg,rfl,n,az⟩:=hrel;by_cases ad:k<q
 rotate_left
 ·obtain rfl:k=q:=om
  obtain⟨_,B,ah,bb,bc⟩:=n.ex;have bX:z1t st.deposits++((q.map (·.2)).take q).flatMap z2f=z5k st:=by
   rw[take_of_length_le (Nat.le_of_eq (qLmx _)),a2.o];rfl
  rw[bX] at ah bb;have bs:=ζ (Gr (z5k st) 3000 z t B/\(∀a,B a->w.heap.size<=a)/\bW w z) ⟨ah.mono (oh aa.few),λa c=>qNtx aw.size (bc a c).1,zD aw n.bel⟩;clear ah bb bc bX n az;go_wp2;go_ret;exact⟨⟨t,B,rfl,bs.1,bs.2.1⟩,bs.2.2⟩
 obtain⟨⟨dw,x⟩,bh⟩:∃p,q[k]? =some p:=⟨_,qLgx ad⟩;have aX:=cM.o _ (zmg bh);dsimp only at aX;obtain⟨aO,aQ,c1,bL,-,dg,-,aq,-⟩:=az.at (i:=k) (x:=dw) (by rw[getElem?_map,bh];rfl);unfold maxLen at dg;obtain⟨rfl,-,rfl⟩:bo=some ⟨aO,aQ,none⟩/\q.length=(q.map (·.1)).length/\ap=c1:=by simpa using bL
 have bw:=zh aX;have bv:=zh bh;obtain⟨cu,cy,cv,cz,cw,cA,bQ,bR,cx,cB,rfl,_,_,_,_,_,dS,_,_,_,dP,_,_,_,dQ,_,_,_,dT,_,_,_,dR⟩:=Z9 aX;obtain⟨ar,bm,bn,dJ,dK,dL,dM⟩:=TC7 aq;rw[Nat.add_zero] at ar;have dl:(k:Int)<(q:Int):=om
 have aN:=ζ (x∈st.folders) (zFm Folder.name _ _ (by rw[<-a2.o];exact mem_map.2 ⟨_,zmg bv,rfl⟩));obtain⟨af,bd⟩:=ξ (z1t st.deposits++((q.map (·.2)).take k).flatMap z2f);rw[<-bd] at n;have cF:=zh (show z1t st.deposits++((q.map (·.2)).take (k+1)).flatMap z2f=af++z2f x by
  rw[qLtx,getElem?_map,bv.o,bd];simp)
 have a5:=zh (show af.length+(x.epochs.length-1+((ZP Wrap.name x.wraps).length+x.links.length))<=1000 by
  have ah:=zHz z2f (by rw[getElem?_map,bv.o];rfl:(q.map (·.2))[k]? =some x);have bb:=zGx st;have bc:=aa.few;rw[a2.o] at ah;rw[bd,qLax,a2.o];rw[zFr] at ah;omega)
 obtain⟨au,cn,c4,c9,bq,dz⟩:=zP z (aF x cu cy cv cz cw cA bQ bR cx cB) 74;obtain⟨y,bf⟩:∃y:Nat->Prop,y=λa=>(Value.slice (some ⟨aO,aQ,none⟩) q ap).ownBlock=some a\/a=z:=⟨_,rfl⟩
 have ae:=zh (by rw[bf];exact .inr rfl:y z);have b4:=ζ (∀a,(Value.slice (some ⟨aO,aQ,none⟩) q ap).ownBlock=some a->y a) (λa c=>by rw[bf];exact .inl c);have b0:=zh (show GrW w0 y (af++z4a x.name 0) au t from(n.cast (by simp[z4a])).add bq λa c=>by
  rw[bf] at c;rcases c with c|rfl
  ·exact .inl c
  ·exact .inr ⟨znl _,dz⟩)
 have a3:=zh (by rw[<-cn];exact zJ _ rfl:au.heap[z.heap.size]? =some (.cells (aF x cu cy cv cz cw cA bQ bR cx cB) 74 (0,0)));have cQ:=zh (az.below bq);have dj:x.epochs.length<=1001:=by have:=a5.o;omega
 clear aq bh bd c4 c9 bq bf n az dS dP dQ dT dR;go_wp2;clear cn ar bm bn dJ dK dL dM;go_loopw [8] (λe ct=>∃L:Nat,L<=x.epochs.length-1/\e= .int .i64 ((L:Int)+2)/\Hid (GrW w0 y (af++z4a x.name L) ct t)/\Hid (∀a,y a->ct.heap[a]? =au.heap[a]?)) (λe _=>x.epochs.length+2-(intOf e).toNat)
 case atStart=>exact⟨0,Nat.zero_le _,rfl,b0,λa _=>rfl⟩
 clear b0;obtain⟨L,dp,rfl,n,Y⟩:=hrel;have aB:=(Y.o _ ae).trans a3;obtain⟨a8,_,_,I,_,bC⟩:=TC6 (zB aB).1;have dX:L<=1001:=om
 have dV:=a5.o;by_cases ad:L+2<=x.epochs
 ·have dn:(L:Int)+2<=(x.epochs:Int):=om
  have d1:IntKind.i64.wrap ((L:Int)+2-1)=(L:Int)+1:=by rw[IntWalk.i64_in _ om];omega
  have dt:IntKind.i64.wrap ((L:Int)+2+1)=(L:Int)+1+2:=by rw[IntWalk.i64_in _ om];omega
  have am:=zh (by rw[qLax,zAl];omega:(af++z4a x.name L).length<=1500);have u:=n;have ay:=zh (aa.fol x aN).1;have b3:=zh (by unfold I64;omega:I64 ((L:Int)+2)/\I64 ((L:Int)+1));clear aB n;go_wp2;have ab:∀d:World,(∀a,y a->d.heap[a]? =wr.heap[a]?)->(λd:World=>(cL d z 0 x.name:Prop)) d:=λd Q=>(World.cell?_of_block (Q _ ae.o)).trans a8
  have o:∀d:World,(∀a,(y) a->d.heap[a]? =wr.heap[a]?)->(λd:World=>(cL d z 0 x.name:Prop)) d:=ab;refine wp_region_held_drew (S:=λd:World=>(cL d z 0 x.name:Prop)) kr (o _ λa _=>rfl) (λg=>?_);refine zi 0 ?_;iterate 4 (refine zt g ?_;simp only[zA])
  refine zo ?_;refine zi 5 ?_;iterate 4 (refine zt g ?_;simp only[zA])
  refine zo ?_;refine zr 4 λK j=>?_
  go_simp;go_at_call 226
  refine zcb (z5u _ _ _) λaj I=>?_;have F:(bW wr aj:Prop):=zD zbr.drew I;clear I g;refine j.out _ _ (o _ λa c=>F.block a (u.kl a c)) (λg=>?_);clear j K;refine zr 9 λK j=>?_
  go_simp;go_at_call 226
  refine zcb (z5u _ _ _) λak M=>?_;have r:(bW wr ak:Prop):=zD F M;clear M g;refine j.out _ _ (o _ λa c=>r.block a (u.kl a c)) (λg=>?_);clear j K;refine zr 10 λK j=>?_
  go_simp;go_at_call 223
  refine zcm (zFp (u.to r) am _ _ (okE ay b3.1) (okE ay b3.2)) ?_;rintro ba U ⟨⟨bl,rfl⟩,W,X,al⟩;have Z:=ζ (∀a,(y) a->U.heap[a]? =wr.heap[a]?) (λa c=>(X a c).trans (r.block a (u.kl a c)));have ag:=zh W;clear X W g;refine j.out _ _ (o _ Z.o) (λg=>?_);clear j K;refine wpAnyH_done kr ?_ _;clear g o F r al;go_wp2;go_roundw
  case rel=>exact⟨L+1,om,gn,ag.o.cast (by rw[zLq,append_assoc]),λa c=>(Z.o a c).trans (Y.o a c)⟩
  case measure=>exact qMx
 have dn:¬(L:Int)+2<=(x.epochs:Int):=om
 have dq:L=x.epochs.length-1:=om
 obtain⟨cs,rfl⟩:=ξ wr;have cU:=zh (show Sl 3 yL (λa=>a<w) cs (.slice bQ x.wraps bR) x.wraps from by
  obtain⟨_,_,_,_,_,e,ah,bb,bc,_,_,db,_⟩:=zSd bw aw.size br n.bel;simp only[cons.injEq] at e;obtain⟨_,_,_,_,_,rfl,_⟩:=e;exact db)
 subst dq;clear dp aB ad;go_wp2_with fail
 clear a8 I bC;refine zcm (zGw x.wraps _ cs (λa=>a<w) cU (aa.fol x aN).2.2.2) ?_;rintro e aG ⟨⟨cr,H,rfl,a0,bJ,cl,ck⟩,bp⟩;obtain⟨V,be⟩:=ξ (af++z4a x.name (x.epochs.length-1));have bY:=zh (by rw[be,qLax,zAl]:V.length=af.length+(x.epochs.length-1));have cH:=zh be;obtain⟨P,bg⟩:∃P:Nat->Prop,P=λa=>y a\/cr.ownBlock=some a:=⟨_,rfl⟩
 have aJ:=ζ (∀a,y a->P a) (λa c=>by rw[bg];exact .inl c);have b5:=ζ (∀a,cr.ownBlock=some a->P a) (λa c=>by rw[bg];exact .inr c);have b1:=zh (show GrW w0 P (V++z1s x ((H.map (·.2)).take 0)) aG t from(n.cast (by simp[z1s,be])).add bp λa c=>by
  rw[bg] at c;rcases c with c|c
  ·exact .inl c
  ·exact .inr ⟨ck a c,a0.lt a c⟩)
 have b8:=ζ (∀a,y a->aG.heap[a]? =au.heap[a]?) (λa c=>(bp.block a (n.kl a c)).trans (Y.o a c));obtain⟨cD,c3,rfl,-⟩:=a0.shape;rw[qLmx] at a0 b5⊢;have bI:H.length=(ZP Wrap.name x.wraps).length:=by rw[<-bJ,qLmx]
 have cO:=zh cl;have b7:=zh bJ;have cP:=zh a0;have d0:H.length<=1000:=by rw[bI];omega
 have cN:=zh bI;have cV:=zh ((b8.o _ ae).trans a3);clear bg be n Y a0 bJ cl ck bp bI;go_wp2;go_loopw [61] (λR O=>∃N:Nat,N<=H/\R= .int .i64 N/\Hid (GrW w0 P (V++z1s x ((H.map (·.2)).take N)) O t)/\Hid (∀a,P a->O.heap[a]? =aG.heap[a]?)) (λR _=>H.length-(intOf R).toNat)
 case atStart=>exact⟨0,om,gn,b1,λa _=>rfl⟩
 clear b1;obtain⟨O,rfl⟩:=ξ wr;obtain⟨N,dk,rfl,n,Y⟩:=hrel;by_cases ad:N<H
 rotate_left
 ·obtain rfl:N=H:=om
  have b2:=ζ (GrW w0 y (V++z1s x (ZP Wrap.name x.wraps)++z49 x (x.links.take 0)) O t) ((n.cast (by rw[<-b7.o,take_of_length_le (Nat.le_of_eq (qLmx _))];simp[z49])).add zbr λa c=> .inl (aJ.o a c));have bx:=ζ (∀a,y a->O.heap[a]? =au.heap[a]?) (λa c=>(Y.o a (aJ.o a c)).trans (b8.o a c));have bD:=(zB ((bx.o _ ae).trans a3)).1 6 _ rfl;clear n Y dk ad;go_wp2;clear bD;go_loopw [85] (λR C=>∃G:Nat,G<=x.links/\R= .int .i64 G/\Hid (GrW w0 y (V++z1s x (ZP Wrap.name x.wraps)++z49 x (x.links.take G)) C t)/\Hid (∀a,y a->C.heap[a]? =au.heap[a]?)) (λR _=>x.links.length-(intOf R).toNat)
  case atStart=>exact⟨0,om,gn,b2,bx⟩
  clear b2 bx;obtain⟨C,rfl⟩:=ξ wr;obtain⟨G,aY,rfl,n,Y⟩:=hrel;by_cases ad:G<x.links
  rotate_left
  ·obtain rfl:G=x.links:=om
   have cJ:=ζ (GrW w0 (λa=>(Value.slice (some ⟨aO,aQ,none⟩) q ap).ownBlock=some a) (z1t st.deposits++((q.map (·.2)).take (k+1)).flatMap z2f) C t) ((n.cast (by rw[cF.o,cH.o,qLnx];simp[z2f])).add zbr λa c=> .inl (b4.o a c));have cR:=zh (cQ.keep (w':=C) λb aP=>Y.o b (b4.o b aP));clear n Y;go_wp2;go_roundw
   case rel=>
    have ac:∃T:Nat,T<=q/\Value.int .i64 ((k:Int)+1)= .int .i64 T/\Hid (GrW w0 (λa=>(Value.slice (some ⟨aO,aQ,none⟩) q ap).ownBlock=some a) (z1t st.deposits++((q.map (·.2)).take T).flatMap z2f) C t)/\Hid (RowC 74 7 C (.slice (some ⟨aO,aQ,none⟩) q ap) (q.map (·.1))):=⟨k+1,om,gn,cJ,cR⟩;first|exact ac|((repeat apply Exists.intro);refine⟨ac,?_⟩;first|rfl|((repeat' apply And.intro)<;>rfl)|(simp;(repeat' apply And.intro)<;>rfl))
   case measure=>exact qMx
  obtain⟨m,bk⟩:∃m,x.links[G]? =some m:=⟨_,qLgx ad⟩;obtain⟨b,du,dU,bG,df,de,aq⟩:=SlAt.elem (wr:=C) (zSe (zSd bw aw.size br n.bel)) bk dc zbr;subst bG;obtain⟨rfl,a1,_,cC⟩:=z7r de;obtain⟨ar,bm,bn⟩:=TC3 aq;rw[Nat.add_zero] at ar;have dZ:(G:Int)<(x.links:Int):=om
  have bB:=zh (zmg bk);have aK:=zh (zLs x bk);obtain⟨J,bi,a9,bF,av,bM⟩:=zP C #[m.epoch,m.to,m.seq] 151;obtain⟨D,ai⟩:∃D:Nat->Prop,D=λa=>y a\/a=C:=⟨_,rfl⟩
  have ax:=zh (by rw[ai];exact .inr rfl:D C);have bu:=ζ (∀a,y a->D a) (λa c=>by rw[ai];exact .inl c);have u:=zh (show GrW w0 D (V++z1s x (ZP Wrap.name x.wraps)++z49 x (x.links.take G)) J t from n.add av λa c=>by
   rw[ai] at c;rcases c with c|rfl
   ·exact .inl c
   ·exact .inr ⟨znl _,bM⟩)
  have aL:=ζ (∀a,y a->J.heap[a]? =au.heap[a]?) (λa c=>(av.block a (n.kl a c)).trans (Y.o a c));have a4:=zh ((aL.o _ ae).trans a3);have aI:=zh (by rw[<-bi];exact zJ _ rfl:J.heap[C.heap.size]? =some (.cells #[m.epoch,m.to,m.seq] 151 (0,0)));have am:=zh (show(V++z1s x (ZP Wrap.name x.wraps)++z49 x (x.links.take G)).length<=1500 by
   rw[qLax,qLax,zAm,zFq,bY.o];have:=a5.o;have:=zF0 x.links G;omega)
  have ay:=zh (aa.fol x aN).1;have a7:=zh ((aa.fol x aN).2.2.1 m bB);have aW:=ζ (I64 m.epoch/\I64 m.seq) ⟨a1,cC⟩;have bz:=ζ (∀d:World,(∀a,D a->d.heap[a]? =J.heap[a]?)->(λd:World=>cL d C 0 m.epoch/\cL d C 1 m.to/\cL d C 2 m.seq/\cL d z 0 x.name) d) (λd Q=>⟨(zB ((Q _ ax).trans aI)).1 0 _ rfl,(zB ((Q _ ax).trans aI)).1 1 _ rfl,(zB ((Q _ ax).trans aI)).1 2 _ rfl,(zB ((Q _ (bu.o _ ae)).trans a4)).1 0 _ rfl⟩);clear aq bk a9 bF av ai n a1 cC;go_wp2;have ab:=bz.o;have o:∀d:World,(∀a,(D) a->d.heap[a]? =J.heap[a]?)->(λd:World=>cL d C 0 m.epoch/\cL d C 1 m.to/\cL d C 2 m.seq/\cL d z 0 x.name) d:=ab;refine wp_region_held_drew (S:=λd:World=>cL d C 0 m.epoch/\cL d C 1 m.to/\cL d C 2 m.seq/\cL d z 0 x.name) kr (o _ λa _=>rfl) (λg=>?_);refine zi 0 ?_;iterate 5 (refine zt g ?_;simp only[zA])
  refine zo ?_;refine zi 6 ?_;iterate 4 (refine zt g ?_;simp only[zA])
  refine zo ?_;refine zr 5 λK j=>?_
  go_simp;go_at_call 226
  refine zcb (z5u _ _ _) λaj I=>?_;have F:(bW J aj:Prop):=zD zbr.drew I;clear I g;refine j.out _ _ (o _ λa c=>F.block a (u.kl a c)) (λg=>?_);clear j K;refine zr 10 λK j=>?_
  go_simp;go_at_call 226
  refine zcb (z5u _ _ _) λak M=>?_;have r:(bW J ak:Prop):=zD F M;clear M g;refine j.out _ _ (o _ λa c=>r.block a (u.kl a c)) (λg=>?_);clear j K;refine zr 11 λK j=>?_
  go_simp;go_at_call 223
  refine zcm (zFp (u.to r) am _ _ (okE a7 aW.2) (okE ay aW.1)) ?_;rintro ba U ⟨⟨bl,rfl⟩,W,X,al⟩;have Z:=ζ (∀a,(D) a->U.heap[a]? =J.heap[a]?) (λa c=>(X a c).trans (r.block a (u.kl a c)));have ag:=zh W;clear X W g;refine j.out _ _ (o _ Z.o) (λg=>?_);clear j K;refine wpAnyH_done kr ?_ _;clear g o F r al;go_wp2;go_roundw
  case rel=>
   have ac:∃T:Nat,T<=x.links/\Value.int .i64 ((G:Int)+1)= .int .i64 T/\Hid (GrW w0 y (V++z1s x (ZP Wrap.name x.wraps)++z49 x (x.links.take T)) U t)/\Hid (∀a,y a->U.heap[a]? =au.heap[a]?):=⟨G+1,om,gn,(ag.o.cast (by rw[aK.o,append_assoc])).add zbr λa c=> .inl (bu.o a c),λa c=>(Z.o a (bu.o a c)).trans (aL.o a c)⟩;first|exact ac|((repeat apply Exists.intro);refine⟨ac,?_⟩;first|rfl|((repeat' apply And.intro)<;>rfl)|(simp;(repeat' apply And.intro)<;>rfl))
  case measure=>exact qMx
 obtain⟨⟨dx,m⟩,aY⟩:∃p,H[N]? =some p:=⟨_,qLgx ad⟩;have cc:=cO.o _ (zmg aY);dsimp only at cc;obtain⟨da,dv,c2,dr,-,dh,-,cd,-⟩:=(cP.keep (w':=O) λb aP=>Y.o b (b5.o b aP)).at (i:=N) (x:=dx) (by rw[getElem?_map,aY];rfl);unfold maxLen at dh;obtain⟨rfl,-,rfl⟩:cD=some ⟨da,dv,none⟩/\H.length=(H.map (·.1)).length/\c3=c2:=by simpa using dr
 have b6:=zh aY;obtain⟨rfl,_,a1⟩:=z4g cc;obtain⟨ar,bm,bn⟩:=TC3 cd;obtain⟨aR,bK⟩:=Ξ m.seed;rw[bK] at bn;have b9:=zh bK;clear bK;rw[Nat.add_zero] at ar;have dW:(N:Int)<(H:Int):=om
 have bB:=ζ (m∈x.wraps) (zFm Wrap.name _ _ (by rw[<-b7.o];exact mem_map.2 ⟨_,zmg b6,rfl⟩));obtain⟨J,bi,a9,bF,av,bM⟩:=zP O #[m.name,m.epoch,aR] 149;obtain⟨D,ai⟩:∃D:Nat->Prop,D=λa=>P a\/a=O:=⟨_,rfl⟩
 have ax:=zh (by rw[ai];exact .inr rfl:D O);have ao:=ζ (∀a,P a->D a) (λa c=>by rw[ai];exact .inl c);have an:=zh (show GrW w0 D (V++z1s x ((H.map (·.2)).take N)) J t from n.add av λa c=>by
  rw[ai] at c;rcases c with c|rfl
  ·exact .inl c
  ·exact .inr ⟨znl _,bM⟩)
 have aL:=ζ (∀a,P a->J.heap[a]? =aG.heap[a]?) (λa c=>(av.block a (n.kl a c)).trans (Y.o a c));have aB:=(aL.o _ (aJ.o _ ae)).trans cV;have a4:=zh aB;obtain⟨a8,cZ,c0,I,M,bC,bD⟩:=zC7 (zB aB).1;obtain⟨_,c5,c6⟩:=TC3 a9;have aI:=zh (by rw[<-bi];exact zJ _ rfl:J.heap[O.heap.size]? =some (.cells #[m.name,m.epoch,aR] 149 (0,0)));have am:=zh (show(V++z1s x ((H.map (·.2)).take N)).length<=1500 by
  rw[qLax,zAm,length_take,qLmx,bY.o];have:=a5.o;have:=cN.o;omega)
 have ay:=zh (aa.fol x aN).1;have a7:=zh ((aa.fol x aN).2.1 m bB);have aW:=zh a1;have cY:=zh (zSd bw aw.size br an.bel);have cK:=zh (zSc x m.epoch aW _ J _ cY);have a6:=ζ (I64 (z3r x.epochs m)) (zSf dj aW);have aK:=zh (zLr x (by rw[getElem?_map,b6.o];rfl:(H.map (·.2))[N]? =some m));clear cd aY a9 bF av ai n aB a1;go_wp2_with fail
 ·obtain rfl:aR=true:=by assumption
  have bA:=zh (by unfold z3r;rw[b9.o];rfl:z3r x.epochs m=z03 x.epochs m.epoch);rw[bA.o] at a6 aK;refine zcb cK λaU aV=>?_;have u:=zh (an.to aV);have ab:∀d:World,(∀a,D a->d.heap[a]? =aU.heap[a]?)->(λd:World=>cL d O 0 m.name/\cL d z 0 x.name) d:=λd Q=>⟨(zB ((Q _ ax).trans ((aV.block _ (an.kl _ ax)).trans aI))).1 0 _ rfl,(zB ((Q _ (ao.o _ (aJ.o _ ae))).trans ((aV.block _ (an.kl _ (ao.o _ (aJ.o _ ae)))).trans a4))).1 0 _ rfl⟩
  have bz:=zh ab;have cS:=ζ (∀a,P a->aU.heap[a]? =aG.heap[a]?) (λa c=>(aV.block a (an.kl a (ao.o a c))).trans (aL.o a c));clear ab an aV c5 c6 a8 cZ c0 I M bC bD bi;go_wp2;have ab:=bz.o;have o:∀d:World,(∀a,(D) a->d.heap[a]? =aU.heap[a]?)->(λd:World=>cL d O 0 m.name/\cL d z 0 x.name) d:=ab;refine wp_region_held_drew (S:=λd:World=>cL d O 0 m.name/\cL d z 0 x.name) kr (o _ λa _=>rfl) (λg=>?_);refine zi 0 ?_;iterate 3 (refine zt g ?_;simp only[zA])
  refine zo ?_;refine zi 4 ?_;iterate 3 (refine zt g ?_;simp only[zA])
  refine zo ?_;refine zr 3 λK j=>?_
  go_simp;go_at_call 200
  refine zcb (z8y _ _) λaj I=>?_;have F:(bW aU aj:Prop):=zD zbr.drew I;clear I g;refine j.out _ _ (o _ λa c=>F.block a (u.kl a c)) (λg=>?_);clear j K;refine zr 7 λK j=>?_
  go_simp;go_at_call 226
  refine zcb (z5u _ _ _) λak M=>?_;have r:(bW aU ak:Prop):=zD F M;clear M g;refine j.out _ _ (o _ λa c=>r.block a (u.kl a c)) (λg=>?_);clear j K;refine zr 8 λK j=>?_
  go_simp;go_at_call 223
  refine zcm (zFp (u.to r) am _ _ (okU a7) (okE ay a6)) ?_;rintro ba U ⟨⟨bl,rfl⟩,W,X,al⟩;have Z:=ζ (∀a,(D) a->U.heap[a]? =aU.heap[a]?) (λa c=>(X a c).trans (r.block a (u.kl a c)));have ag:=zh W;clear X W g;refine j.out _ _ (o _ Z.o) (λg=>?_);clear j K;refine wpAnyH_done kr ?_ _;clear g o F r al;go_wp2;go_roundw
  case rel=>
   have ac:∃T:Nat,T<=H/\Value.int .i64 ((N:Int)+1)= .int .i64 T/\Hid (GrW w0 P (V++z1s x ((H.map (·.2)).take T)) U t)/\Hid (∀a,P a->U.heap[a]? =aG.heap[a]?):=⟨N+1,om,gn,(ag.o.cast (by rw[aK.o,append_assoc])).add zbr λa c=> .inl (ao.o a c),λa c=>(Z.o a (ao.o a c)).trans (cS.o a c)⟩;first|exact ac|((repeat apply Exists.intro);refine⟨ac,?_⟩;first|rfl|((repeat' apply And.intro)<;>rfl)|(simp;(repeat' apply And.intro)<;>rfl))
  case measure=>exact qMx
 obtain rfl:aR=false:=by assumption
 have bA:=zh (by unfold z3r;rw[b9.o];rfl:z3r x.epochs m=m.epoch);rw[bA.o] at a6 aK;have u:=an;have ab:∀d:World,(∀a,D a->d.heap[a]? =J.heap[a]?)->(λd:World=>cL d O 0 m.name/\cL d z 0 x.name) d:=λd Q=>⟨(zB ((Q _ ax).trans aI)).1 0 _ rfl,(zB ((Q _ (ao.o _ (aJ.o _ ae))).trans a4)).1 0 _ rfl⟩
 clear an;have o:∀d:World,(∀a,(D) a->d.heap[a]? =J.heap[a]?)->(λd:World=>cL d O 0 m.name/\cL d z 0 x.name) d:=ab;refine wp_region_held_drew (S:=λd:World=>cL d O 0 m.name/\cL d z 0 x.name) kr (o _ λa _=>rfl) (λg=>?_);refine zi 0 ?_;iterate 3 (refine zt g ?_;simp only[zA])
 refine zo ?_;refine zi 4 ?_;iterate 3 (refine zt g ?_;simp only[zA])
 refine zo ?_;refine zr 3 λK j=>?_
 go_simp;go_at_call 200
 refine zcb (z8y _ _) λaj I=>?_;have F:(bW J aj:Prop):=zD zbr.drew I;clear I g;refine j.out _ _ (o _ λa c=>F.block a (u.kl a c)) (λg=>?_);clear j K;refine zr 7 λK j=>?_
 go_simp;go_at_call 226
 refine zcb (z5u _ _ _) λak M=>?_;have r:(bW J ak:Prop):=zD F M;clear M g;refine j.out _ _ (o _ λa c=>r.block a (u.kl a c)) (λg=>?_);clear j K;refine zr 8 λK j=>?_
 go_simp;go_at_call 223
 refine zcm (zFp (u.to r) am _ _ (okU a7) (okE ay a6)) ?_;rintro ba U ⟨⟨bl,rfl⟩,W,X,al⟩;have Z:=ζ (∀a,(D) a->U.heap[a]? =J.heap[a]?) (λa c=>(X a c).trans (r.block a (u.kl a c)));have ag:=zh W;clear X W g;refine j.out _ _ (o _ Z.o) (λg=>?_);clear j K;refine wpAnyH_done kr ?_ _;clear g o F r al;go_wp2;go_roundw
 case rel=>
  have ac:∃T:Nat,T<=H/\Value.int .i64 ((N:Int)+1)= .int .i64 T/\Hid (GrW w0 P (V++z1s x ((H.map (·.2)).take T)) U t)/\Hid (∀a,P a->U.heap[a]? =aG.heap[a]?):=⟨N+1,om,gn,(ag.o.cast (by rw[aK.o,append_assoc])).add zbr λa c=> .inl (ao.o a c),λa c=>(Z.o a (ao.o a c)).trans (aL.o a c)⟩;first|exact ac|((repeat apply Exists.intro);refine⟨ac,?_⟩;first|rfl|((repeat' apply And.intro)<;>rfl)|(simp;(repeat' apply And.intro)<;>rfl))
 case measure=>exact qMx
end
section
open Go.RowKit Go.Deep Go.Maps
theorem zPw {nm:Nm} {len:Nat} {l:List GN} {x:GN} (hx:l[k]? =some x):z2g nm len (l.take (k+1))=z5b nm len (z2g nm len (l.take k)) x:=by
 rw[qLtx,hx];exact zE4 _ _ _ _
theorem mcb (h:p:=by
 go_roundw
 case rel=>exact⟨k+1,om,gn,by rw[<-HE.o],zD hbel HB1⟩
 case measure=>exact qMx):p:=h
theorem mce (h:p:=by
 go_wp2;go_roundw
 case rel=>exact⟨k+1,om,gn,by rw[<-HE.o],gg⟩
 case measure=>exact qMx):p:=h
theorem zSg (f:Folder) (l:List GN) (B:List Value) (v:Value) (w:World) (S:Nat->Prop) (h:Z6 S w B f) (hr:RowC 244 3 w v (l.map cG)) (hl:l.length<=6000):(kB 197 #[.agg B.toArray,v] w (z2g f.name f.epochs l):Prop):=by
 have J:=zh h;have z:=zh hr;obtain⟨P,V,Q,W,R,X,T,Y,U,Z,rfl,_,_,_,_,_,ad,_,_,_,aa,_,_,_,ab,_,_,_,ae,_,_,_,ac⟩:=Z9 h;obtain⟨w0,_,C,af,u,aK⟩:=zP w (aF f P V Q W R X T Y U Z) 74;have I:=zh C;have y:=zh u;obtain⟨A,N,rfl,-⟩:=hr.shape;rw[qLmx] at z⊢;clear C af u hr ad aa ab ae ac;go_enter func197,ntmps197
 go_wp2;go_loopw [5,10] (λao r wr=>∃k:Nat,k<=l/\r= .int .i64 k/\ao= .int .i64 (z2g f.name f.epochs (l.take k))/\bW w0 wr) (λ_ r _=>l.length-(intOf r).toNat)
 case atStart=>exact⟨0,om,gn,rfl,Below.refl _ _⟩
 obtain⟨k,_,rfl,rfl,hbel⟩:=hrel;have aJ:=hbel.size;have aI:w<wr.heap.size:=om
 by_cases al:k<l
 rotate_left
 ·obtain rfl:k=l:=om
  rw[qLnx];go_wp2;go_ret;exact⟨rfl,zD y hbel⟩
 obtain⟨x,q⟩:∃x,l[k]? =some x:=⟨_,qLgx al⟩;have o:=zh (zD y hbel);obtain⟨ag,ap,O,G,-,ak,-,D,-⟩:=(z.below o).at (i:=k) (x:=cG x) (by rw[getElem?_map,q];rfl);unfold maxLen at ak;obtain⟨rfl,-,rfl⟩:A=some ⟨ag,ap,none⟩/\l.length=(l.map cG).length/\N=O:=by simpa using G
 obtain⟨H,aq,ar⟩:=TC3 D;rw[Nat.add_zero] at H;have d:=zh (zPw (nm:=f.name) (len:=f.epochs.length) q);obtain⟨au,av,aw,ax,ay,az,aB⟩:=TC7 (zyA hbel I.o);have aH:(k:Int)<(l:Int):=om
 obtain⟨M,s,m⟩:=x;dsimp only at H aq ar;clear D G q;generalize am:z2g f.name f.epochs (l.take k)=j at d;clear am
 cases M with
 | false=>
  have HE:=zh (by rw[d.o,z5b,if_neg sm]:j=z2g f.name f.epochs (l.take (k+1)));exact mce
 | true=>
  by_cases g:s=f.name
  rotate_left
  ·have an:(s.toList==f.name.toList)=false:=YX g;have HE:=zh (by rw[d.o,z5b,if_neg (by simp[g])]:j=z2g f.name f.epochs (l.take (k+1)));clear g;exact mce
  subst g;have an:(f.name.toList==f.name.toList)=true:=sm
  have e:=zh (λL aj=>zEx f m _ L S (zV J (zK aj)))
  cases a:z9r f m with
  | true=>
   have F:=z78.1 a;have HE:=zh (by rw[d.o,z5b,if_pos ⟨rfl,rfl,F⟩]:Max.max j m=z2g f.name f.epochs (l.take (k+1)));rw[a] at e;clear a F;go_wp2_with (go_at_call 190;refine zcb (e.o _ (zD o gg)) λn c=>?_;have HB1:=ζ (bW wr n:Prop) (zD gg c);have aG:(cL n wr 2 m:Prop):=zy c sm;clear c)
   exact mcb
  | false=>
   have HE:=zh (show j=z2g f.name f.epochs (l.take (k+1)) by
    rw[d.o,z5b,if_neg];rintro⟨_,_,ah,ai⟩;rw[z78.2 ⟨ah,ai⟩] at a;cases a)
   rw[a] at e;clear a;go_wp2_with (go_at_call 190;refine zcb (e.o _ (zD o gg)) λn c=>?_;have HB1:=ζ (bW wr n:Prop) (zD gg c);clear c)
   exact mcb
theorem zPx (s:Nm) (w:World):(kB 200 #[s] w (.agg #[false,s,'0']):Prop):=z8y s w
theorem zUn {x:GN} {g:Nat} (h:w.heap[g]? =some (.cells #[x.1,x.2.1,x.2.2] 244 (0,0))):RowC 244 3 w (.slice (some ⟨g,0,none⟩) 1 1) [cG x]:=by
 refine⟨λi c=>?_,.inr ⟨g,0,1,_,rfl,h,znl _,by unfold maxLen;omega,sm,λd e a=>?_⟩⟩
 ·obtain rfl:=zml c;exact⟨zW1 _,zBo _⟩
 rw[Nat.zero_add];simpa[cG] using a
theorem zE6 (st:State) (u fo:Nm) (aq:List Value) (w:World) (S:Nat->Prop) (h:Z5 S w aq st) (aG:OkSt st) (hu:u.size<=1000):Calls prog 179 #[.agg aq.toArray,u,fo] w λe w'=>(∃n:Int,e= .returned (.int .i64 n)/\IsReach st u fo n)/\bW w w':=by
 have al:=zh h;obtain⟨U,X,V,Y,W,Z,rfl,_,_,_,_,bt,_,_,_,br,_,_,_,bs⟩:=ZF h;obtain⟨w0,bl,R,bb,ah,bm⟩:=zP w (aS st U X V Y W Z) 34;have O:=zh ah;have aJ:=zh R;have aP:=zh aG;obtain⟨bn,bo,bp,bq⟩:=TC4 R;clear R bb ah aG bt br bs;go_enter func179,ntmps179
 go_wp2_with fail
 clear bl;refine zcm (z8x st fo _ w0 S (zM al (zK O))) ?_;rintro e i ⟨⟨ap,rfl,j⟩,ac⟩;have aj:=zh ac;have bz:w<i.heap.size:=zll bm ac.size;clear bn bo bp bq
 cases hF:Z4 st fo with
 | none=>
  rw[hF] at j;replace j:Z6 S i ap z0b:=j;simp only[Option.isSome_none];have P:=zh hF;obtain⟨z,G,B,H,C,I,D,J,F,L,rfl,a6,a7,a3,a4,a5,ax,aU,aV,aW,au,aX,aY,aZ,av,a8,a9,ba,ay,a0,a1,a2,aw⟩:=Z9 j;clear hF;go_wp2;go_ret
  exact⟨⟨0,rfl,.inl ⟨P,rfl⟩⟩,by have be:=O.o;have bx:=zD be aj;go_grown⟩
 | some f=>
  rw[hF] at j;replace j:Z6 S i ap f:=j;simp only[Option.isSome_some];have P:=zh hF;have aL:=zh j;obtain⟨z,G,B,H,C,I,D,J,F,L,rfl,a6,a7,a3,a4,a5,ax,aU,aV,aW,au,aX,aY,aZ,av,a8,a9,ba,ay,a0,a1,a2,aw⟩:=Z9 j;obtain⟨q,_,ar,bc,N,bA⟩:=zP i (aF f z G B H C I D J F L) 74;have ab:=zh (zD aj N);have aK:=zh ar;have aQ:=zh (show ∀a:World,((bW q a:Prop))->(λa:World=>(cL a w 0 st.turn/\cL a w 1 (.slice U st.users X)/\cL a w 2 (.slice V st.deposits Y)/\cL a w 3 (.slice W st.folders Z))/\cL a i 0 f.name/\cL a i 1 f.turn/\cL a i 2 (.slice z f.manifests G)/\cL a i 3 (.slice B f.epochs H)/\cL a i 4 (.slice C f.items I)/\cL a i 5 (.slice D f.wraps J)/\cL a i 6 (.slice F f.links L)) a from λa az=>by
   have y:=λr v (T:((aS st U X V Y W Z):Array Value)[r]? =some v)=>zy (zD ab.o az) (aJ.o r v T)
   have o:=λr v (T:((aF f z G B H C I D J F L):Array Value)[r]? =some v)=>zy az (aK.o r v T)
   exact⟨⟨y 0 _ rfl,y 1 _ rfl,y 2 _ rfl,y 3 _ rfl⟩,o 0 _ rfl,o 1 _ rfl,o 2 _ rfl,o 3 _ rfl,o 4 _ rfl,o 5 _ rfl,o 6 _ rfl⟩)
  have ak:=zh (zD O ab.o);have aI:=zh N;clear hF ar bc N ax au av ay aw;go_wp2;have m:=aQ.o;refine zE kr m (λc=>?_);refine zi 0 ?_;iterate 2 (refine zt c ?_;simp only[zA])
  refine zo ?_;refine zT 3 c ?_;simp only[zA];refine zr 2 λK d=>?_
  go_simp;go_at_call 198
  refine zcm (zPv st _ _ S (zM al (zK (zD ak zbr.drew))) aP) ?_;rintro e bu ⟨⟨_,_,rfl,bg,_⟩,am⟩;have ad:(bW q bu:Prop):=zD zbr.drew am;clear am c;refine d.out _ _ (m _ ad) (λc=>?_);clear d K;refine zr 4 λK d=>?_
  go_simp;go_at_call 200
  refine zcb (zPx _ _) λaa Q=>?_;have ae:(bW q aa:Prop):=zD ad Q;have bh:=bg.below Q;clear Q c;refine d.out _ _ (m _ ae) (λc=>?_);clear d K;obtain⟨aH,aB,aT,bd,ai,_⟩:=zP aa #[false,u,'0'] 244;have bk:=zUn (w:=aH) (x:=uN u) (g:=aa.heap.size) (by rw[<-aB];exact zJ _ rfl);have af:(bW q aH:Prop):=zD ae ai;have aN:=zh (bh.below ai);refine zr 5 λK d=>?_
  go_simp;clear c;refine d.out _ _ (m _ af) (λc=>?_);clear d K aB aT bd;refine zr 6 λK d=>?_
  go_simp;go_at_call 199
  refine zcm (zPs aN dc (uN u) (okU hu) _ bk) ?_;rintro e bv ⟨_,aR,rfl,bf,bj,bi,-,an⟩;have M:(bW q bv:Prop):=zD af an;clear an c;refine d.out _ _ (m _ M) (λc=>?_);clear d K;refine zr 7 λK d=>?_
  go_simp;go_at_call 197
  refine zcb (zSg f aR _ _ _ S (zV aL (zK (zD aI M))) bf bi) λbw ao=>?_;have ag:=ζ (bW q bw:Prop) (zD M ao);clear ao c;refine d.out _ _ (m _ ag.o) (λc=>?_);clear d K;refine zT 8 c ?_;simp only[zA];refine wpAnyH_done kr ?_ _;clear c m;have aO:=zh (zNi (u:=u) P bj);go_wp2;go_ret;exact⟨⟨_,rfl,aO⟩,zD ak ag.o⟩
end
section
open Go.RowKit Go.Deep Go.Shelf Go.Sort Go.Proofs
def zLt:Go.Shelf.Ren:=⟨fun|190=>149|125=>181|258=>180|128=>210|129=>211|302=>201|303=>202|304=>203|305=>204|306=>205|307=>206|308=>207|309=>208|310=>209|333=>231|329=>232|330=>233|334=>234|335=>235|336=>187|344=>244|a=>a,fun|31=>45|9=>9|3=>3|46=>225|0=>0|51=>62|53=>256|4=>4|183=>248|182=>247|131=>208|5=>5|218=>271|222=>275|228=>288|229=>203|a=>a,fun|a=>a⟩
theorem zMq:Go.Proofs.Lays.n190 prog zLt:={
 mixed:=kr,
 f125:=func181.trans (congrArg some kr),
 f128:=func210.trans (congrArg some kr),
 f129:=func211.trans (congrArg some kr),
 f190:=func149.trans (congrArg some kr),
 f258:=func180.trans (congrArg some kr),
 f302:=func201.trans (congrArg some kr),
 f303:=func202.trans (congrArg some kr),
 f304:=func203.trans (congrArg some kr),
 f305:=func204.trans (congrArg some kr),
 f306:=func205.trans (congrArg some kr),
 f307:=func206.trans (congrArg some kr),
 f308:=func207.trans (congrArg some kr),
 f309:=func208.trans (congrArg some kr),
 f310:=func209.trans (congrArg some kr),
 f329:=func232.trans (congrArg some kr),
 f330:=func233.trans (congrArg some kr),
 f333:=func231.trans (congrArg some kr),
 f334:=func234.trans (congrArg some kr),
 f335:=func235.trans (congrArg some kr),
 f336:=func187.trans (congrArg some kr),
 f344:=func244.trans (congrArg some kr),
 t0:=underlying0,
 a0:=isAgg0,
 z0:=sizeOf0,
 v0:=zeroValue0,
 t3:=underlying3,
 a3:=isAgg3,
 z3:=sizeOf3,
 v3:=zeroValue3,
 t4:=underlying4,
 a4:=isAgg4,
 z4:=sizeOf4,
 v4:=zeroValue4,
 t5:=underlying5,
 a5:=isAgg5,
 z5:=sizeOf5,
 v5:=zeroValue5,
 t9:=underlying9,
 a9:=isAgg9,
 z9:=sizeOf9,
 v9:=zeroValue9,
 t31:=underlying45,
 a31:=isAgg45,
 z31:=sizeOf45,
 v31:=zeroValue45,
 t46:=underlying225,
 a46:=isAgg225,
 z46:=sizeOf225,
 v46:=zeroValue225,
 t51:=underlying62,
 a51:=isAgg62,
 z51:=sizeOf62,
 v51:=zeroValue62,
 t53:=underlying256,
 a53:=isAgg256,
 z53:=sizeOf256,
 v53:=zeroValue256,
 t131:=underlying208,
 a131:=isAgg208,
 z131:=sizeOf208,
 v131:=zeroValue208,
 t182:=underlying247,
 a182:=isAgg247,
 z182:=sizeOf247,
 v182:=zeroValue247,
 t183:=underlying248,
 a183:=isAgg248,
 z183:=sizeOf248,
 v183:=zeroValue248,
 t218:=underlying271,
 a218:=isAgg271,
 z218:=sizeOf271,
 v218:=zeroValue271,
 t222:=underlying275,
 a222:=isAgg275,
 z222:=sizeOf275,
 v222:=zeroValue275,
 t228:=underlying288,
 a228:=isAgg288,
 z228:=sizeOf288,
 v228:=zeroValue288,
 t229:=underlying203,
 a229:=isAgg203,
 z229:=sizeOf203,
 v229:=zeroValue203 }
theorem zMr:∀x y:List UInt8,Op.bytesLess x y=true↔x<y
 | [],[]=>by simp[Op.bytesLess]
 | [],_::_=>by simp[Op.bytesLess]
 | _::_,[]=>by simp[Op.bytesLess]
 | a::x,b::y=>by
  rw[cons_lt_cons_iff,<-zMr x y];simp[Op.bytesLess]
theorem zUo {S:Nat->Prop} {w:World} {a:List Value} {l:List Nm} (hl:a=l.length) (h:Elems 1 z3u S w a l):a=(l.map λs=>s.data.toList).map encStr:=by
 apply ext_getElem?;intro d;rw[getElem?_map,getElem?_map]
 cases c:l[d]? with
 | none=>
  rw[List.getElem?_eq_none_iff] at c;rw[getElem?_eq_none om]
  rfl
 | some x=>
  obtain⟨_,_,e,rfl,_⟩:=h d x c;have:=e 0 _ rfl;rw[Nat.mul_one,Nat.add_zero] at this;rw[this];rfl
abbrev Bs:=List UInt8
theorem zUp {e:TypeId} {ss:List Bs} (h:w.ownsRow base e 1 v ss (ss.map encStr)) (hl:ss.length<=2000):
  Calls prog 149 #[v] w λe' w'=>e'= .returned (.tuple #[])/\(∃ts:List Bs,w'.ownsRow base e 1 v ts (ts.map encStr)/\ts.Pairwise (λa b=>a<=b)/\ts.Perm ss)/\w.grownBy w' v.ownBlock:=by
 rcases h.2 with ⟨rfl,r⟩|⟨q,o,J,rfl,y,g,C,z,B,F⟩
 ·obtain rfl:ss=[]:=eq_nil_of_length_eq_zero r;refine zcm (calls_of_every_depth λd=>AnyS.slices_Sort_string_none_alone zMq d none 0 w) ?_;rintro e' w' ⟨rfl,rfl⟩;exact⟨rfl,⟨[],h,Pairwise.nil,Perm.refl _⟩,World.grownBy.refl _ _⟩
 have u:=holds_of_block g (ss:=ss) (by rw[<-F,Nat.mul_one]);refine zcm (calls_of_every_depth λd=>AnyS.slices_Sort_string_alone zMq d q 0 o ss w u (zI g) om) ?_;rintro e' w' ⟨rfl,G,H,rfl⟩;have i:=mergeSort_perm ss λx c=>decide (x<=c)
 have j:=pairwise_mergeSort (le:=λx c:Bs=>decide (x<=c)) (λa b I h k=>by simp at*;exact List.le_trans h k) (λa b=>by simp;exact List.le_total a b) ss;generalize ss.mergeSort (λx c=>decide (x<=c))=ts at i j⊢;have m:ts=ss.length:=i.length_eq;have D:=ownsRow_sorted (w:=w) (base:=base) (n:=G) (os:=H) (ss:=ss) (ts:=ts) m y g C z B;exact⟨rfl,⟨ts,by rw[m];exact D,j.imp λh=>by simpa using h,i⟩,grownBy_sorted _⟩
theorem zSh {ts:List Bs} {l:List Nm} (h:ts.Perm (l.map λs=>s.data.toList)):(ts.map λx=>(⟨x.toArray⟩:Nm)).Perm l:=by
 have:=h.map λx=>(⟨x.toArray⟩:Nm)
 rw[map_map] at this;have a:l.map ((λx=>(⟨x.toArray⟩:Nm)) ∘ λs=>s.data.toList)=l:=by
  conv=>rhs;rw[<-map_id l]
  exact map_congr_left λx _=>ByteArray.ext sm
 rwa [a] at this
theorem zW5 {a b:Bs} (h:a<=b):ltS (⟨b.toArray⟩:Nm) ⟨a.toArray⟩=false:=by
 cases c:ltS (⟨b.toArray⟩:Nm) ⟨a.toArray⟩
 ·rfl
 unfold ltS at c;rw[zMr,Lib.toList_data,Lib.toList_data] at c;exact absurd (by simpa using c) (List.not_lt.2 h)
theorem zNp {l:List Nm} (z:Grow 9 1 z3u (λ_=>False) w base v l) (hl:l.length<=2000) (J:∀s∈l,s.size<=1000):
  Calls prog 149 #[v] w λe w'=>e= .returned (.tuple #[])/\(∃R:List Nm,Sl 1 z3u (λ_=>True) w' v R/\R.Perm l/\R.Pairwise λa b=>ltS b a=false)/\w.grownBy w' v.ownBlock:=by
 obtain⟨_,_,T,o,C⟩:=id z;have O:T=l.length:=by rw[o.1,Nat.mul_one]
 have P:=zUo O C;subst P;have H:w.ownsRow base 9 1 v (l.map λs=>s.data.toList).length ((l.map λs=>s.data.toList).map encStr):=by rw[qLmx];exact o
 refine zcm (zUp H (by rw[qLmx];exact hl)) ?_;rintro e _ ⟨rfl,⟨h,L,I,i⟩,D⟩;refine⟨rfl,⟨h.map λx=>⟨x.toArray⟩,?_,zSh i,?_⟩,D⟩
 ·have j:∀d∈h,d.length<=1000:=λd j=>by
   obtain⟨x,c,rfl⟩:=mem_map.1 (i.mem_iff.1 j);have:=J x c;rw[Array.length_toList];exact this
  have N:=i.length_eq;rw[qLmx] at N;rcases L.2 with ⟨rfl,y⟩|⟨r,V,W,rfl,X,F,aa,B,Y,M⟩
  ·obtain rfl:h=[]:=eq_nil_of_length_eq_zero y;exact z1p _ _ _ _
  refine zU8 (by rw[qLmx]) om B om trivial λq x c=>?_
  rw[getElem?_map] at c
  cases g:h[q]? with
  | none=>rw[g] at c;cases c
  | some d=>
   rw[g] at c;obtain rfl:(⟨d.toArray⟩:Nm)=x:=by simpa using c
   have Z:=(zge g).1;have ab:=j d (zmg g);refine⟨[.string ⟨d.toArray⟩],rfl,λQ U n=>?_,rfl,by simp[ByteArray.size];omega⟩;have G:Q=0:=by have:=(zge n).1;simpa using this
   subst G;obtain rfl:Value.string ⟨d.toArray⟩=U:=by simpa using n
   rw[cell_of_row _ r _ _ _ (0,0) F,Nat.zero_add,Nat.mul_one,Nat.add_zero];have m:=congrArg (λl=>l[q]?) M;rw[getElem?_take,if_pos om,getElem?_map,g] at m;rw[<-Array.getElem?_toList,m];rfl
 rw[pairwise_map];exact I.imp λu=>zW5 u
end
section
open Go.RowKit Go.Deep
theorem zGy {S':Nat->Prop} {wr:World} {l:List Nm} (s:SlAt 1 z3u S w A l) (hk:k<l) (hb:Kept S S' w wr):
  ∃x b a,l[k]? =some x/\l.drop k=x::l.drop (k+1)/\x∈l/\A=some ⟨b,a,none⟩/\cL wr b (a+k) x:=by
 obtain⟨x,c,i,j⟩:=z68 hk;obtain⟨b,a,_,e,g,_,h,rfl,_⟩:=s k _ c;have d:=ZG (p:=aD b (a+(k*1+0))) hb g (h 0 _ rfl);rw[Nat.mul_one,Nat.add_zero] at d;exact⟨x,b,a,c,i,j,e,d⟩
def zF2 (l:List Nm) (s:Nm):Bool:=l.any λx=>decide (x=s)
theorem z3x {l:List Nm}:zF2 l s=true↔s∈l:=by simp[zF2]
theorem mbQ (h:p:=by
 go_wp2;go_ret;exact⟨ZM M.o.symm,rfl⟩):p:=h
theorem zPy (l:List Nm) (v:Value) (s:Nm) (w:World) (S:Nat->Prop) (h:Sl 1 z3u S w v l):Calls prog 49 #[v,s] w λe w'=>e= .returned (.bool (zF2 l s))/\w'=w:=by
 obtain⟨_,_,rfl,_,i,_,m⟩:=h;unfold maxLen at i;go_enter func49,ntmps49
 go_wp2;go_loop [5] (λd=>∃k:Nat,k<=l/\d= .int .i64 k/\Hid (s∉l.take k)) (λd=>l.length-(intOf d).toNat)
 case atStart=>exact⟨0,om,gn,by simp[Hid]⟩
 obtain⟨k,_,rfl,g⟩:=hrel;by_cases j:k<l
 rotate_left
 ·obtain rfl:k=l:=om
  have M:=zh (by rw[<-Bool.not_eq_true,z3x];have:=g.o;rwa [qLnx] at this:zF2 l s=false);exact mbQ
 obtain⟨x,_,_,c,_,a,rfl,_⟩:=zGy m j (Kept.refl w λ_ h=>h);by_cases e:x=s
 ·subst e;have M:=zh (z3x.2 a);clear c a;exact mbQ
 have n:=YX e;have HK2:=zh (by rw[qLtx,c];simp[Ne.symm e];exact g:s∉l.take (k+1));clear c a;exact ma2
end
section
open Go.RowKit Go.Deep
def isI (s:Nm) (x:Item):Bool:=decide (x.name=s)
theorem zPz (s:Nm) (B:Nat) (x:Item) (c:List Value) (w:World) (S:Nat->Prop) (h:YG S w c x) (d:(cL w B 0 s:Prop)):
  (kB 178 #[.agg c.toArray,pT B] w (isI s x):Prop):=by
 obtain⟨_,_,rfl,_⟩:=z4f h;have e:=zF d;have E:=zh (Y9 (a:=x.name) (b:=s));go_enter func178,ntmps178
 exact mbs
theorem zLu (s:Nm) (B:Nat) (l:List Item) (v:Value) (w:World) (S:Nat->Prop) (h:Sl 2 YG S w v l) (a:(cL w B 0 s:Prop)):
  Calls prog 167 #[v,.func (.func 178) #[] #[pT B]] w λe w'=>(∃i:Int,e= .returned (.int .i64 i)/\AtI (isI s) l i)/\bW w w':=by
 have g:=zh a;clear a;obtain⟨_,_,rfl,_,j,_,n⟩:=h;unfold maxLen at j;go_enter func167,ntmps167
 go_wp2;go_loopw [8] (λi wr=>∃(k:Nat),k<=l/\i= .int .i64 k/\Hid (∀d∈l.take k,isI s d=false)/\bW w wr) (λi _=>l.length-(intOf i).toNat)
 case atStart=>exact⟨0,om,gn,(λd o=>by simp at o),gg⟩
 obtain⟨k,_,rfl,HN,hbel⟩:=hrel;have u:=hbel.size;by_cases m:k<l
 rotate_left
 ·obtain rfl:k=l:=om
  have EH:=zh (zDk (p:=isI s) (l:=l) (by have:=HN.o;rwa [qLnx] at this));go_wp2;go_ret;exact⟨⟨_,rfl,.inr ⟨rfl,EH.o⟩⟩,hbel⟩
 obtain⟨x,_,_,_,_,c,r,_,rfl,_,_,_,_,q,_⟩:=z0w n m (zK hbel);have HX:=zh c;clear c r;go_wp2_with fail
 refine zcb (zPz s B x _ _ S q (zy hbel g)) λ_ hb1=>?_;cases hpx:isI s x
 ·exact mar
 exact mbU
def z0j (st:State) (u fo it:Nm) (n:Int):Prop:=∃f x v,Z4 st fo=some f/\f.items.find? (isI it)=some x/\1<=n/\n<=x.versions.length/\x.versions[(n-1).toNat]? =some v/\v.gone=false/\1<=v.epoch/\∃m,IsReach st u fo m/\v.epoch<=m
theorem zNq (h:(Z4 st s).getD z0b=f) {x:Item} {p:Item->Bool} (hx:f.items.find? p=some x):Z4 st s=some f:=by
 cases a:Z4 st s with
 | none=>
  rw[a] at h;subst h
  cases hx
 | some g=>
  rw[a] at h;exact congrArg some h
theorem zE7 (p:Int->Prop):∀len:Nat,∃n,IsMost p len n
 | 0=>⟨0,Int.le_refl _,sm,.inl rfl,λa e c _=>om⟩
 | len+1=>by
  by_cases d:p ((len+1:Nat):Int)
  ·exact⟨_,om,Int.le_refl _,.inr d,λa _ c _=>c⟩
  ·obtain⟨n,e,c,h,i⟩:=zE7 p len;exact⟨n,e,om,h,λa m o g=>by
    by_cases j:a=((len+1:Nat):Int)
    ·subst j;exact absurd g d
    ·exact i a m om g⟩
theorem zBr (st:State) (u fo:Nm):∃n,IsReach st u fo n:=by
 cases a:Z4 st fo with
 | none=>exact⟨0,.inl ⟨a,rfl⟩⟩
 | some f=>
  obtain⟨n,c⟩:=zE7 (z8v st u fo) f.epochs;exact⟨n,.inr ⟨f,a,c⟩⟩
theorem maZ (h:p:=by
 exact⟨⟨false,rfl,⟨λh=>(by cases h),λh=>absurd h HNO⟩⟩,y8 HB5 _⟩):p:=h
theorem mbw (h:p:=by
 exact⟨⟨_,rfl,by
  rw[HGQ.o r HRR.o,decide_eq_true_eq];exact⟨λh=>⟨(by first|rfl|trivial),HE,h⟩,λh=>h.2.2⟩⟩,zD HB5.o B6.o⟩):p:=h
theorem mch (h:p:=by
 go_wp2;go_ret;exact⟨⟨false,rfl,⟨λh=>(by cases h),λh=>absurd h HNO⟩⟩,HBA⟩):p:=h
theorem zLv (st:State) (u fo it:Nm) (n:Int) (au:List Value) (w:World) (S:Nat->Prop) (h:Z5 S w au st) (aP:OkSt st) (hu:u.size<=1000) (hn:I64 n):Calls prog 147 #[.agg au.toArray,u,fo,it,n] w λe w'=>(∃b:Bool,e= .returned (.bool b)/\(b=true↔z0j st u fo it n))/\bW w w':=by
 have aq:=zh h;obtain⟨Y,ab,Z,ac,aa,ad,rfl,_,_,_,_,bT,_,_,_,bR,_,_,_,bS⟩:=ZF h;obtain⟨w0,bJ,Q,bk,ag,bL⟩:=zP w (aS st Y ab Z ac aa ad) 34;obtain⟨b2,aO,av,bl,M,bM⟩:=zP w0 #[it] 9;have aV:=zh ag;have ai:=zh M;have aY:=zh Q;have aZ:=zh av;have a3:=zh aP;have a5:=zh hu;obtain⟨bN,bO,bP,bQ⟩:=TC4 (zyA M Q);clear Q bk ag av bl M aP hu hn bT bR bS;go_enter func147,ntmps147
 go_wp2_with fail
 clear bJ aO;have ah:=zh (zD aV ai);refine zcm (z8x st fo _ b2 S (zM aq (zK ah))) ?_;rintro e ae ⟨⟨_,rfl,aK⟩,L⟩;have aW:=zh L;have bH:w0<ae.heap.size:=zll bM L.size;have cc:w<ae.heap.size:=Nat.lt_trans bL bH;clear bN bO bP bQ L;obtain⟨f,W⟩:=Ξ ((Z4 st fo).getD z0b);rw[W] at aK;have an:=zh W;obtain⟨_,aN⟩:=Ξ ((Z4 st fo).isSome);rw[aN];obtain⟨a6,ba,a7,bb,ay,az,a8,bc,a9,bd,rfl,_,_,_,_,_,bi,_,_,_,be,bf,bg,aB,aG,_,_,_,bj,_,_,_,bh⟩:=Z9 aK;obtain⟨aR,bK,R,bm,N,cd⟩:=zP ae (aF f a6 ba a7 bb ay az a8 bc a9 bd) 74;have aj:=zh (zD aW N);have a0:=zh R;have aw:=R 4 _ rfl;have ap:=ζ (Sl 2 YG S aR (.slice ay f.items az) f.items) (Sl.keep z20 dc ⟨_,_,rfl,bf,bg,aB,aG⟩ (zK N));have ax:=zy aj (aZ.o 0 _ rfl);have a2:=zh (zLu it w0 f.items _ aR S ap ax);clear W aN R bm N bi be aG bj bh ax;go_wp2_with fail
 clear bK aw;refine zcm a2 ?_;rintro e af ⟨⟨_,rfl,bz⟩,F⟩;have al:=zh (zD aj F);have ak:=zh F;have HBA:=zh (zD ah al);have aw:=zy F (a0.o 4 _ rfl);clear F;rcases bz with ⟨k,x,rfl,X,y⟩|⟨rfl,y⟩
 rotate_left
 ·have z:=zh (show ¬z0j st u fo it n from by
   rintro⟨d,J,v,i,g,_⟩;have:f=d:=by rw[<-an.o,i];rfl
   subst this;rw[y] at g;cases g)
  clear y;go_wp2;go_ret;exact⟨⟨false,rfl,⟨λh=>(by cases h),λh=>absurd h z⟩⟩,HBA⟩
 have H:=zNq an y;have a1:=zh H;have z:=zh y;have b9:decide ((k:Int)<0)=false:=η;have cb:=(zge X).1;have ca:(k:Int)<(f.items:Int):=om
 have b7:f.items.length<=():=aB;obtain⟨_,_,U,-,-,-,bI⟩:=ap;cases U
 obtain⟨b,_,_,bu,_,bv,aI⟩:=SlAt.elem bI X dc ak;obtain⟨_,_,rfl,_,_,_,_,aU⟩:=z4f bv;obtain⟨bU,cf⟩:=TC2 aI;rw[Nat.add_zero] at bU;subst bu;have ao:Hid (∀D:Int,1<=D->∀v,n=D->D<=x.versions->x.versions[(D-1).toNat]? =some v->∀r,IsReach st u fo r->(z0j st u fo it n↔(v.gone=false/\1<=v.epoch/\v.epoch<=r))):=by
  intro D bC v bG bD q r j;subst bG;constructor
  ·rintro⟨d,J,bV,i,g,_,_,bp,bq,br,_,bs,bt⟩;obtain rfl:f=d:=zsi (H.symm.trans i);obtain rfl:x=J:=zsi (z.symm.trans g);obtain rfl:v=bV:=zsi (q.symm.trans bp);obtain rfl:=bs.one j;exact⟨bq,br,bt⟩
  ·rintro⟨i,g,bo⟩;exact⟨f,x,v,H,z,bC,bD,q,i,g,r,j,bo⟩
 clear H y X aI;by_cases B:n<1
 ·have HNO:=ζ (¬z0j st u fo it n) (λ⟨_,_,_,_,_,h,_⟩=>om);have bE:decide (n<1)=true:=Δ B;clear B;exact mch
 have bE:decide (n<1)=false:=Γ B;by_cases I:(x.versions:Int)<n
 ·have HNO:=zh (show ¬z0j st u fo it n from λ⟨d,J,_,i,g,_,b6,_⟩=>by
   obtain rfl:f=d:=zsi (a1.symm.trans i);obtain rfl:x=J:=zsi (z.symm.trans g);omega)
  have bF:decide ((x.versions:Int)<n)=true:=Δ I;clear B I;exact mch
 have bF:decide ((x.versions:Int)<n)=false:=Γ I;obtain⟨a,rfl⟩:∃a:Nat,n=(a:Int)+1:=⟨(n-1).toNat,om⟩;have bB:a<x.versions:=om
 obtain⟨v,q⟩:∃v,x.versions[a]? =some v:=⟨_,qLgx bB⟩;have HGQ:=zh (λr j=>ao ((a:Int)+1) om v rfl om (by rw[show((a:Int)+1-1).toNat=a by omega];exact q) r j);obtain⟨_,_,_,U,_,bw,aJ⟩:=SlAt.elem aU q dc ak;obtain⟨bZ,b0,rfl,_,_,_,_,_,b1⟩:=z6n bw;obtain⟨bX,bY,cg,ci⟩:=TC4 aJ;rw[Nat.add_zero] at bX;subst U;have aO:IntKind.i64.wrap ((a:Int)+1-1)=(a:Int):=by rw[IntWalk.i64_in _ om];omega
 have b8:(a:Int)<(x.versions:Int):=om
 clear B I q aJ ao aU b1;obtain⟨d,aL⟩:=Ξ v.gone;rw[aL] at bY HGQ;clear aL;obtain⟨aT,_,T,bn,O,ce⟩:=zP af #[v.epoch,.bool d,v.who,.slice bZ v.data b0] 80;have HB5:=zh (zD HBA O);have am:=zh T;have aX:=zh O;obtain⟨b4,b5⟩:=TC2 T;clear T bn O;obtain⟨aQ,C⟩:=zBr st u fo
 cases d with
 | true=>
  have HNO:=ζ (¬z0j st u fo it ((a:Int)+1)) (λh=>by have:=((HGQ.o aQ C).1 h).1;cases this);clear C;go_wp2;go_quiet (fail)
  go_wp2;go_ret
  exact maZ
 | false=>
  by_cases o:1<=v.epoch
  rotate_left
  ·have HNO:=ζ (¬z0j st u fo it ((a:Int)+1)) (λh=>o ((HGQ.o aQ C).1 h).2.1);have bx:decide (1<=v.epoch)=false:=Γ o;clear C o;go_wp2;go_quiet (fail)
   go_wp2;go_ret;exact maZ
  have bx:decide (1<=v.epoch)=true:=Δ o;have HE:=zh o;have a4:=zh (show ∀c:World,((bW aT c:Prop))->(λc:World=>(cL c w 0 st.turn/\cL c w 1 (.slice Y st.users ab)/\cL c w 2 (.slice Z st.deposits ac)/\cL c w 3 (.slice aa st.folders ad))/\cL c af 0 v.epoch/\cL c af 1 false) c from λc V=>by
   have G:=λa v (bA:((aS st Y ab Z ac aa ad):Array Value)[a]? =some v)=>zy (zD ai (zD al (zD aX V))) (aY.o a v bA)
   exact⟨⟨G 0 _ rfl,G 1 _ rfl,G 2 _ rfl,G 3 _ rfl⟩,zy V (am.o 0 _ rfl),zy V (am.o 1 _ rfl)⟩)
  clear C o;go_wp2;have P:=a4.o;refine zE kr P (λm=>?_);refine zi 0 ?_;iterate 12 (refine zt m ?_;simp only[zA])
  refine zo ?_;refine zi 13 ?_;iterate 2 (refine zt m ?_;simp only[zA])
  refine zo ?_;refine zr 12 λK aH=>?_
  go_simp;go_at_call 179
  refine zcm (zE6 st u fo _ _ S (zM aq (zK (zD HB5 zbr.drew))) a3 a5) ?_;rintro e b3 ⟨⟨r,rfl,j⟩,ar⟩;have B6:=ζ (bW aT b3:Prop) (zD zbr.drew ar);clear ar m;refine aH.out _ _ (P _ B6.o) (λm=>?_);clear aH K;have HRR:=zh j;clear j;refine zi 15 ?_;iterate 3 (refine zt m ?_;simp only[zA])
  refine zo ?_;refine wpAnyH_done kr ?_ _;clear m P;go_wp2;go_ret;exact mbw
end
theorem zE8 {a:Type} (g:Folder->List a) (l:List Folder):((ZP Folder.name l).flatMap g).length<=(l.flatMap g).length:=by
 induction l using z73 with
 | h0=>simp[ZP]
 | hs l x ih=>
  rw[z1m];split
  ·rw[flatMap_append,qLax];omega
  rw[flatMap_append,flatMap_append,qLax,qLax];omega
theorem zSi (l:List Folder):(l.flatMap z2f).length<=z5e l:=by
 induction l with
 | nil=>simp
 | cons f l ih=>
  rw[flatMap_cons,qLax,zFr,z5e,z88];have:=z6p Wrap.name f.wraps;omega
theorem zJy (h:Small st):OkSt st:=by
 refine⟨λp g=>?_,λf c=>?_,?_,by have:=h.few8;omega⟩
 ·have:=h.pairs p g;omega
 ·have a:=h.short f c;have e:=zF1 _ _ c;have o:=h.all;refine⟨by have:=a.name;omega,λw i=>by have:=a.wrap w i;omega,λx j=>by have:=a.link x j;omega,by unfold z88 at e;omega⟩
 have d:=zGx st;rw[zAk] at d;have m:=zE8 z2f st.folders;have n:=zSi st.folders;have:=h.all;omega
section
open Go.RowKit Go.Deep
def z2i (l:List Epoch):Nat->Nat
 | 0=>0
 | 1=>1
 | k+2=>if ((l[k+1]?).map Epoch.place)=some 1 then k+2 else z2i l (k+1)
def z0d (l:List Epoch) (e:Int):Int:=if 1<=e/\e<=l.length then z2i l e.toNat else e
theorem z9s {e:Int} (h:¬(1<=e/\e<=l)):z0d l e=e:=by rw[z0d,if_neg h]
theorem zFs (h1:1<=k) (h2:k<=l):z0d l k=z2i l k:=by
 rw[z0d,if_pos ⟨om,om⟩];rfl
theorem zE9 {x:Epoch} (hx:l[k+1]? =some x):z2i l (k+2)=if x.place=1 then k+2 else z2i l (k+1):=by
 rw[z2i,hx];simp
theorem z4h (f:Folder) (n:Int) (hn:I64 n) (D:List Value) (w:World) (S:Nat->Prop) (h:Z6 S w D f):(kB 163 #[.agg D.toArray,n] w (z0d f.epochs n):Prop):=by
 have H:=zh h;obtain⟨Q,W,R,X,T,Y,U,Z,V,aa,rfl,_,_,_,_,_,af,_,_,ab,ac,_,_,_,ad,_,_,_,ag,_,_,_,ae⟩:=Z9 h;obtain⟨w0,am,y,ah,u,ay⟩:=zP w (aF f Q W R X T Y U Z V aa) 74;have G:=zh y;have o:=zh u;have r:=zh (zEx f n _ w0 S (zV H (zK u)));obtain⟨I,J,L,M,N,O,P⟩:=TC7 y;clear y ah u af ad ag ae
 cases d:z9r f n with
 | false=>
  have j:=zh (z9s (l:=f.epochs) (e:=n) λh=>by rw[z78.2 h] at d;cases d);rw[d] at r;clear d;go_enter func163,ntmps163
  go_wp2_with (go_at_call 190;refine zcb r λao b=>?_;have i:=zh b;clear b)
  go_ret
  exact⟨by rw[j.o];rfl,zD o i⟩
 | true=>
  obtain⟨_,_⟩:=z78.1 d;rw[d] at r;obtain⟨k,rfl⟩:∃k:Nat,n=k:=⟨n.toNat,om⟩;have j:=zh (zFs (l:=f.epochs) (k:=k) om om);have ar:f.epochs.length<=():=ab;clear d hn;go_enter func163,ntmps163
  go_wp2_with (go_at_call 190;refine zcb r λao b=>?_;have i:=zh b;have aq:=zy b (G.o 3 _ rfl);clear b)
  clear am I J L M N O P;go_loop [1] (λB=>∃c:Nat,1<=c/\c<=k/\B= .int .i64 c/\Hid (z2i f.epochs c=z2i f.epochs k)) (λB=>(intOf B).toNat)
  case atStart=>exact⟨k,om,znl _,rfl,zh rfl⟩
  obtain⟨c,_,_,rfl,q⟩:=hrel;rcases Nat.lt_or_ge 1 c with ak|ak
  ·obtain⟨a,rfl⟩:∃a,c=a+2:=⟨c-2,om⟩;obtain⟨x,z⟩:∃x,f.epochs[a+1]? =some x:=⟨_,qLgx om⟩;obtain⟨b,_,_,ai,_,aj,F⟩:=SlAt.elem ac z dc (zD o i);obtain⟨_,_,rfl,_,_,_,_,_,_,ap,_⟩:=z3p aj;have an:=F 0 _ rfl;rw[Nat.add_zero] at an;subst ai;have av:((a+1:Nat):Int)<(f.epochs:Int):=om
   have aw:(a:Int)+1<(f.epochs:Int):=om
   have au:decide ((1:Int)<(a:Int)+2)=true:=θ;have ax:IntKind.i64.wrap ((a:Int)+2-1)=((a+1:Nat):Int):=by rw[IntWalk.i64_in _ om];omega
   have C:=zh (zE9 z);clear F z ap;by_cases g:x.place=1
   ·have al:(x.place==1)=true:=by simp[g]
    have m:=zh (by rw[j.o,<-q.o,C.o,if_pos g]:((a+2:Nat):Int)=z0d f.epochs k);clear g;go_wp2;go_ret;exact⟨by rw[<-m.o];rfl,zD o i⟩
   have al:(x.place==1)=false:=by simp[g]
   have m:=zh (by rw[<-q.o,C.o,if_neg g]:z2i f.epochs (a+1)=z2i f.epochs k);clear g;go_wp2;go_round
   case rel=>exact⟨a+1,om,om,gn,m⟩
   case measure=>first|(simp[intOf];done)|(simp[intOf];omega)
  obtain rfl:c=1:=om
  have m:=zh (by first|(rw[j.o,<-q.o];done)|(rw[j.o,<-q.o];rfl):(1:Int)=z0d f.epochs k);go_wp2;go_ret;exact⟨by rw[<-m.o];rfl,zD o i⟩
theorem mbJ (h:p:=by
 go_wp2;go_ret;exact⟨by rw[<-HG.o];rfl,HB0⟩):p:=h
theorem zBs (f:Folder) (n:Int) (hn:I64 n) (r:List Value) (w:World) (S:Nat->Prop) (h:Z6 S w r f):(kB 154 #[.agg r.toArray,n] w (z0d f.epochs n):Prop):=by
 obtain⟨z,G,B,H,C,I,D,J,F,L,rfl,_,_,_,_,_,Q,_,_,M,N,_,_,_,O,_,_,_,R,_,_,_,P⟩:=Z9 h;obtain⟨_,ae,u,T,q,_⟩:=zP w (aF f z G B H C I D J F L) 74;have HB0:=zh q;have ai:=u 3 _ rfl;clear u T q Q O R P;by_cases i:n<1
 ·have g:=zh (z9s (l:=f.epochs) (e:=n) λh=>om);have W:decide (n<1)=true:=Δ i;clear i;go_enter func154,ntmps154
  go_wp2;go_ret;exact⟨by rw[g.o];rfl,HB0⟩
 have W:decide (n<1)=false:=Γ i;by_cases j:(f.epochs:Int)<n
 ·have g:=zh (z9s (l:=f.epochs) (e:=n) λh=>om);have X:decide ((f.epochs:Int)<n)=true:=Δ j;clear i j;go_enter func154,ntmps154
  go_wp2;go_ret;exact⟨by rw[g.o];rfl,HB0⟩
 have X:decide ((f.epochs:Int)<n)=false:=Γ j;obtain⟨k,rfl⟩:∃k:Nat,n=k:=⟨n.toNat,om⟩;have Y:1<=k:=om
 have Z:k<=f.epochs:=om
 have g:=zh (zFs (l:=f.epochs) Y Z);have aj:f.epochs.length<=():=M;clear i j hn;go_enter func154,ntmps154
 go_wp2;clear ae;go_loop [5,6] (λs o=>∃a:Nat,a<=k/\o= .int .i64 ((a+1:Nat):Int)/\s= .int .i64 ((if a=0 then 1 else z2i f.epochs a:Nat):Int)) (λ_ o=>k+1-(intOf o).toNat)
 case atStart=>exact⟨0,om,rfl,rfl⟩
 obtain⟨a,_,rfl,rfl⟩:=hrel;rcases Nat.lt_or_ge a k with ab|ab
 ·obtain⟨x,m⟩:∃x,f.epochs[a]? =some x:=⟨_,qLgx om⟩;obtain⟨_,_,_,U,_,V,y⟩:=SlAt.elem N m dc HB0;obtain⟨_,_,rfl,_,_,_,_,_,_,ah,_⟩:=z3p V;have ag:=y 0 _ rfl;rw[Nat.add_zero] at ag;subst U;have ak:(a:Int)<(f.epochs:Int):=om
  have aa:decide ((a:Int)+1<=(k:Int))=true:=θ;have al:IntKind.i64.wrap ((a:Int)+1-1)=(a:Int):=by rw[IntWalk.i64_in _ om];omega
  have am:IntKind.i64.wrap ((a:Int)+1+1)=(a:Int)+1+1:=IntWalk.i64_in _ om;have d:=zh (show z2i f.epochs (a+1)=if x.place=1 then a+1 else if a=0 then 1 else z2i f.epochs a by
   rcases a with _|a
   ·by_cases c:x.place=1<;>simp[z2i,c]
   ·rw[zE9 m];simp)
  clear y m ah;generalize ad:(if a=0 then 1 else z2i f.epochs a:Nat)=af at d;clear ad;by_cases c:x.place=1
  ·have ac:(x.place==1)=true:=by simp[c]
   rw[if_pos c] at d;clear c;go_wp2;go_round
   case rel=>exact⟨a+1,om,gn,by first|(rw[if_neg om,d.o];done)|(rw[if_neg om,d.o];rfl)⟩
   case measure=>simp[intOf];omega
  have ac:(x.place==1)=false:=by simp[c]
  rw[if_neg c] at d;clear c;go_wp2;go_round
  case rel=>exact⟨a+1,om,gn,by rw[if_neg om,d.o]⟩
  case measure=>simp[intOf];omega
 obtain rfl:a=k:=om
 have aa:decide ((a:Int)+1<=(a:Int))=false:=η;have HG:=zh (by rw[g.o,if_neg om]:((if a=0 then 1 else z2i f.epochs a:Nat):Int)=z0d f.epochs a);generalize ((if a=0 then 1 else z2i f.epochs a:Nat):Int)=af at HG;exact mbJ
theorem zLw (f:Folder) (n:Int) (hn:I64 n) (y:List Value) (w:World) (S:Nat->Prop) (h:Z6 S w y f):(kB 83 #[.agg y.toArray,n] w (z03 f.epochs n):Prop):=by
 obtain⟨D,J,F,L,G,M,H,N,I,O,rfl,_,_,_,_,_,U,_,_,P,Q,_,_,_,R,_,_,_,V,_,_,_,T⟩:=Z9 h;obtain⟨_,_,z,W,q,_⟩:=zP w (aF f D J F L G M H N I O) 74;have HB0:=zh q;have ag:=z 3 _ rfl;clear z W q U R V T;by_cases g:n<1
 ·have C:=zh (z6q (l:=f.epochs) (e:=n) λh=>om);have Z:decide (n<1)=true:=Δ g;clear g;go_enter func83,ntmps83
  go_wp2;go_ret;exact⟨by rw[C.o];rfl,HB0⟩
 have Z:decide (n<1)=false:=Γ g;have ah:f.epochs.length<=():=P;obtain⟨k,rfl⟩:∃k:Nat,n=k:=⟨n.toNat,om⟩;have aa:1<=k:=om
 clear g hn;go_enter func83,ntmps83
 go_wp2;go_loop [5] (λo=>∃a:Nat,(a=k\/(k<=a/\a<=f.epochs))/\o= .int .i64 a/\Hid (k<=f.epochs->z36 (f.epochs.drop a) a=z03 f.epochs k)) (λo=>f.epochs.length-(intOf o).toNat)
 case atStart=>exact⟨k,.inl rfl,rfl,λh=>(z7u aa h).symm⟩
 obtain⟨a,_,rfl,i⟩:=hrel;rcases Nat.lt_or_ge a f.epochs with j|j
 ·obtain⟨x,m⟩:∃x,f.epochs[a]? =some x:=⟨_,qLgx j⟩;obtain⟨_,_,_,X,_,Y,B⟩:=SlAt.elem Q m dc HB0;obtain⟨_,_,rfl,_,_,_,_,_,_,af,_⟩:=z3p Y;have ae:=B 0 _ rfl;rw[Nat.add_zero] at ae;subst X;have ai:(a:Int)<(f.epochs:Int):=om
  have u:=zh m;have c:k<=f.epochs:=om
  have r:=zh c;clear B m af;by_cases d:x.place=1
  ·have ad:(x.place==1)=true:=by simp[d]
   have HG:=zh (by rw[<-i.o r.o,zE5 u.o d]:(a:Int)=z03 f.epochs k);clear d;exact mbJ
  have ad:(x.place==1)=false:=by simp[d]
  have HG:=zh (by rw[<-i.o r.o,zHx u.o d];rfl:z36 (f.epochs.drop (a+1)) ((a+1:Nat):Int)=z03 f.epochs k);clear d;go_wp2;go_round
  case rel=>exact⟨a+1,.inr ⟨om,om⟩,gn,λ_=>HG⟩
  case measure=>exact qMx
 have aj:decide ((a:Int)<(f.epochs:Int))=false:=η;rcases Nat.lt_or_ge f.epochs k with c|c
 ·have ab:decide ((f.epochs:Int)<(k:Int))=true:=θ;have HG:=ζ ((k:Int)=z03 f.epochs k) ((z6q om).symm);have ac:(f.epochs:Int)<(k:Int):=om
  clear c;exact mbJ
 have ab:decide ((f.epochs:Int)<(k:Int))=false:=η;have HG:=zh (show(f.epochs:Int)=z03 f.epochs k from by
  have:=i.o c;rw[drop_eq_nil_of_le j,z36] at this;rw[<-this];omega)
 have ac:¬(f.epochs:Int)<(k:Int):=om
 clear c;exact mbJ
end
section
open Go.RowKit Go.Deep
theorem YW (f:Folder) (y:List Value) (w:World) (S:Nat->Prop) (h:Z6 S w y f):Calls prog 25 #[.agg y.toArray] w λe w'=>(∃u:List Value,e= .returned (.agg u.toArray)/\ZL S w' u (zL f))/\bW w w':=by
 obtain⟨L,Q,M,R,N,T,O,U,P,V,rfl,_,_,W,_,X,m,_,_,_,z,_,_,_,B,_,_,_,D,_,_,_,C⟩:=Z9 h;obtain⟨w0,H,i,_,g,ac⟩:=zP w (aF f L Q M R N T O U P V) 74;obtain⟨I,Z,j,_,d,_⟩:=zP w0 oM 84;have c:(bW w I:Prop):=zD g d;have J:=zy d (i 2 _ rfl);have HB1:=zh c;have ae:I.heap[w0.heap.size]? =some (.cells oM 84 (0,0)):=by rw[<-Z];exact zJ _ rfl
 obtain⟨ak,al,am,an,ao,ap,aq,ar⟩:=TC8 j;have af:w<=w0.heap.size:=Nat.le_of_lt ac;rcases Nat.eq_zero_or_pos f.manifests with a|a
 ·have HE:=zh (show zL f=zJd by
   have:f.manifests=[]:=eq_nil_of_length_eq_zero a;unfold zL;rw[this];rfl)
  rw[a] at J H⊢;clear a i j g d c m z B D C;go_enter func25,ntmps25
  exact mav
 obtain⟨r,o⟩:∃r,f.manifests.length=r+1:=⟨f.manifests.length-1,om⟩;obtain⟨q,n⟩:∃q,f.manifests[r]? =some q:=⟨_,qLgx om⟩;have HE:=zh (show zL f=q by
  unfold zL;rw[getLast?_eq_getElem?,o,Nat.add_sub_cancel,n];rfl)
 obtain⟨_,_,_,Y,_,F,G⟩:=SlAt.elem m n dc c;have HR:=zh F;obtain⟨ag,ai,ah,aj,rfl,_,_,_,_,_,ab,_,_,_,_,aa,_⟩:=ZO F;obtain⟨ad,au,av,aw,ax,ay,az,aB⟩:=TC8 G;rw[Nat.add_zero] at ad;rw[o] at J H W X⊢;subst Y;clear a o n G i j g d c m z B D C ab aa;go_enter func25,ntmps25
 exact mZ0
theorem maX (h:p:=by
 have hse:(x.name.toList==s.toList)=false:=YX hnm;have HF:=zh (z0i HN HX (by unfold isF;exact Γ hnm:isF s x=false));clear hnm;go_wp2;go_round
 case rel=>exact⟨k+1,om,gn,HF⟩
 case measure=>exact qMx):p:=h
theorem zBt (st:State) (s:Nm) (g:List Value) (w:World) (S:Nat->Prop) (h:Z5 S w g st):Calls prog 21 #[.agg g.toArray,s] w λe w'=>(∃i:Int,e= .returned (.int .i64 i)/\AtI (isF s) st.folders i)/\bW w w':=by
 obtain⟨B,F,C,G,D,H,rfl,_,_,_,_,L,_,_,_,I,_,_,_,J⟩:=ZF h;obtain⟨_,y,j,o,d,_⟩:=zP w (aS st B F C G D H) 34;have a:=zh d;have T:=j 3 _ rfl;clear j o d L I;go_enter func21,ntmps21
 go_wp2;clear y;go_loop [5] (λi=>∃k:Nat,k<=st.folders/\i= .int .i64 k/\Hid (∀n∈st.folders.take k,isF s n=false)) (λi=>st.folders.length-(intOf i).toNat)
 case atStart=>exact⟨0,om,gn,λn z=>by simp at z⟩
 obtain⟨k,_,rfl,HN⟩:=hrel;by_cases u:k<st.folders
 rotate_left
 ·obtain rfl:k=st.folders:=om
  rw[qLnx] at HN;go_wp2;go_ret;exact⟨⟨_,rfl,.inr ⟨rfl,zDk HN⟩⟩,a⟩
 obtain⟨x,c⟩:∃x,st.folders[k]? =some x:=⟨_,qLgx u⟩;obtain⟨_,_,_,q,_,r,m⟩:=SlAt.elem J c dc a;obtain⟨_,_,_,_,_,_,_,_,_,_,rfl,_,_,_,_,_,Q,_,_,_,N,_,_,_,O,_,_,_,R,_,_,_,P⟩:=Z9 r;have M:=m 0 _ rfl;rw[Nat.add_zero] at M;subst q;have U:(k:Int)<(st.folders:Int):=om
 have HX:=zh c;clear m c Q N O R P;by_cases hnm:x.name=s
 ·have hse:(x.name.toList==s.toList)=true:=by rw[hnm];simp
  have HF:=zh (z7t HN HX (by unfold isF;exact Δ hnm:isF s x=true));clear hnm;go_wp2;go_ret;exact⟨⟨_,rfl,.inl ⟨k,x,rfl,HX,HF⟩⟩,a⟩
 exact maX
def zY (st:State):Nat->Nm->List At
 | 0,_=>[]
 | n+1,s=>match Z4 st s with
  | none=>[]
  | some f=>⟨s,(zL f).seq⟩::zY st n (zL f).parent
theorem z38 {st:State} {s:Nm} (h:Z4 st s=none):∀n,zY st n s=[]
 | 0=>rfl
 | n+1=>by rw[zY,h]
theorem z1u (h:Z4 st s=some f) (n:Nat):zY st (n+1) s=⟨s,(zL f).seq⟩::zY st n (zL f).parent:=by rw[zY,h]
theorem z2c (st:State):∀(n:Nat) (s:Nm),(zY st n s).length<=n
 | 0,_=>znl _
 | n+1,s=>by
  cases a:Z4 st s with
  | none=>rw[z38 a];simp
  | some f=>rw[z1u a];have:=z2c st n (zL f).parent;simp;omega
theorem zF3 {S T:Nat->Prop} {l:List At} (h:Sl 2 rAt S w v l) (k:∀b,v.ownBlock=some b->T b):Sl 2 rAt T w v l:=by
 exact mbn
theorem z3s (st:State) (name:Nm) (bk:name.size<=()) (aj:List Value) (w:World) (S:Nat->Prop) (h:Z5 S w aj st):Calls prog 67 #[.agg aj.toArray,name] w λe w'=>(∃v,e= .returned v/\Sl 2 rAt (λb=>w<=b) w' v (zY st 4 name))/\bW w w':=by
 have aQ:=zh h;obtain⟨bE,bH,bF,bI,bG,bJ,rfl,_,_,_,_,bM,_,_,_,bK,_,_,_,bL⟩:=ZF h;obtain⟨w0,bl,ak,ba,ad,b1⟩:=zP w (aS st bE bH bF bI bG bJ) 34;have r:=zh ad;have aK:=zh ak;clear ak ba ad bM bK bL;obtain⟨bn,bg,bm,bd,be⟩:=info_parts (show(prog.info? 124).map (λn=>(n.zero,n.size,n.bytes))=some (some (.agg #["",'0']),2,24) from kr);go_enter func67,ntmps67
 go_wp2;clear bl;go_loopw [1,5,9] (λs bS n wr=>∃(k:Nat) (i:Nm) (g:List At),k<=4/\n= .int .i64 k/\s= .string i/\i.size<=()/\Hid (Grow 124 2 rAt (λ_=>False) wr w0 bS g)/\Hid (g++zY st (4-k) i=zY st 4 name)/\g<=k/\bW w0 wr) (λ_ _ n _=>4-(intOf n).toNat)
 case atStart=>exact⟨0,name,[],om,gn,rfl,bk,Grow.nil,(zh rfl),sm,Below.refl _ _⟩
 obtain⟨k,i,g,_,rfl,rfl,bf,u,I,aq,D⟩:=hrel;have ab:=zh (zD r D);obtain⟨bA,bB,bC,bD⟩:=TC4 (zyA D aK.o);obtain⟨aB,bw,aR,rfl,bi⟩:=u.shape';clear bi;have b0:=D.size;rcases Nat.lt_or_ge k 4 with bh|bh
 ·have bU:(k:Int)<4:=om
  go_wp2_with fail
  clear bA bB bC bD;refine zcm (z8x st i _ wr S (zM aQ (zK ab.o))) ?_;rintro e F ⟨⟨ai,rfl,c⟩,z⟩;have ac:=zh (zD D z);have ae:=zh (u.below ZE z);have bV:=z.size;clear z
  cases hF:Z4 st i with
  | none=>
   rw[hF] at c;replace c:Z6 S F ai z0b:=c;simp only[Option.isSome_none];have o:=zh (by rw[<-I.o,z38 hF,append_nil]:g=zY st 4 name);obtain⟨f,ar⟩:=Ξ z0b;rw[ar] at c;obtain⟨L,Q,M,T,N,U,O,V,P,W,rfl,a5,a6,a2,a3,a4,ao,aT,aU,aV,al,aW,aX,aY,am,a7,a8,a9,ap,aZ,a0,a1,an⟩:=Z9 c;obtain⟨az,aw,C,X,d,bx⟩:=zP F (aF f L Q M T N U O V P W) 74;have y:=zh (ae.below ZE d);have H:=zh (zD r (zD ac.o d));clear hF ar C X d;go_wp2;go_ret
   exact⟨⟨_,rfl,by rw[<-o.o];exact zF3 (Own.sl ZE y) λb j=>qNtx r.size (y.base_le b j).1⟩,H⟩
  | some f=>
   rw[hF] at c;replace c:Z6 S F ai f:=c;simp only[Option.isSome_some];have aN:=zh c;obtain⟨m,aa⟩:=Ξ (zL f);have o:=zh (show(g++[(⟨i,m.seq⟩:At)])++zY st (4-(k+1)) m.parent=zY st 4 name by
    rw[<-I.o,show 4-k=(4-(k+1))+1 by omega,z1u hF,aa,append_assoc];rfl)
   obtain⟨L,Q,M,T,N,U,O,V,P,W,rfl,a5,a6,a2,a3,a4,ao,aT,aU,aV,al,aW,aX,aY,am,a7,a8,a9,ap,aZ,a0,a1,an⟩:=Z9 c;obtain⟨az,aw,C,X,d,bx⟩:=zP F (aF f L Q M T N U O V P W) 74;have y:=zh (ae.below ZE d);have H:=zh (zD ac.o d);obtain⟨bN,ax,bO,ay,bP,bQ,bR⟩:=TC7 C;have bX:=d.size;have aP:=zh (z75 f _ az S (zV aN (zK d)));clear hF C X d ao al am ap an;go_wp2_with fail
   clear aw bN ax bO ay bP bQ bR;refine zcm aP ?_;rintro e G ⟨⟨_,rfl,au⟩,B⟩;rw[aa] at au;have af:=zh (y.below ZE B);have aI:=zh (zD H B);have bY:=B.size;obtain⟨bo,bq,bp,br,rfl,_,bv,_,_,_,bu,bt,_,_,_,bs,_⟩:=ZO au;obtain⟨_,_,J,bb,q,bz⟩:=zP G (aM m bo bq bp br) 84;have ag:=zh (af.below ZE q);have aJ:=zh (zD aI q);have aL:=zh J;obtain⟨_,ax,_,ay⟩:=TC4 J;have bZ:=q.size;have bT:g.length<=4:=om
   have aO:=zh aq;clear J bb q B aa aq bu bs;go_wp2_with (at_builtin;go_loud (refine yZ (R:=rAt) _ _ rfl (.tmp 21) (.tmp 26) 121 rfl 124 bn _ 2 24 underlying121 bg bm bd be rfl dc ZE w0 om _ _ rfl ag _ _ rfl (by simp only[zS]) _ (by intro b j;exact j.elim) (show rAt _ _ _ (⟨i,m.seq⟩:At) from⟨rfl,bf,bv⟩) om dc ?_);intro b3 b4 Y Z bc;obtain⟨_,_,_,rfl,bj⟩:=Y.shape';have aG:=zh Y;have aH:=zh Z;have av:∀b,(Value.slice aB bw aR).ownBlock=some b->b≠G.heap.size:=(λb j e=>by have:=(af.base_le b j).2;omega);have ah:=(Z.block G bz λe=>av _ e.symm rfl);have b2:=(World.cell?_of_block (a:=⟨G,3,none⟩) ah).trans (aL.o 3 _ rfl);clear bj Y Z bc av ah)
   go_roundw
   case rel=>exact⟨k+1,m.parent,g++[⟨i,m.seq⟩],om,gn,rfl,bt,aG,o,by rw[qLax,length_singleton];have:=aO.o;omega,Below.grown aJ aH.o om λb j=>(ag.base_le b j).1⟩
   case measure=>exact qMx
 obtain rfl:k=4:=om
 have o:=zh (by have:=I.o;rwa [Nat.sub_self,zY,append_nil] at this:g=zY st 4 name);go_wp2;go_ret;exact⟨⟨_,rfl,by rw[<-o.o];exact zF3 (Own.sl ZE u) λb j=>qNtx r.size (u.base_le b j).1⟩,ab.o⟩
theorem zQ0 (st:State) (name:Nm) (d:name.size<=()) (a:List Value) (w:World) (S:Nat->Prop) (h:Z5 S w a st):Calls prog 67 #[.agg a.toArray,name] w λe w'=>(∃v,e= .returned v/\Sl 2 rAt (λ_=>True) w' v (zY st 4 name))/\bW w w':=
 (z3s st name d a w S h).mono λe w' ⟨⟨v,i,g⟩,c⟩=>⟨⟨v,i,zF3 g λ_ _=>trivial⟩,c⟩
end
section
open Go.RowKit Go.Deep
def zSj:Value->Nat
 | .slice _ n _=>n
 | _=>0
theorem Grow.on {α:Type} {e:TypeId} {sz:Nat} {R:Rp α} {B:Nat->Prop} {base:Nat} {l:List α} (h:Grow e sz R B w base v l) (z:∀b,base<=b->S b) (n:∀{d:List Value} {x:α},R (z21 B w v) w d x->R S w d x):Sl sz R S w v l:=by
 obtain⟨_,_,_,⟨N,y⟩,F⟩:=h;rcases y with ⟨rfl,u⟩|⟨g,Q,m,rfl,C,G,I,D,T,L⟩
 ·obtain rfl:=eq_nil_of_length_eq_zero u;exact z1p _ _ _ _
 refine zU8 rfl I D om (z g C) λa x M=>?_
 obtain⟨P,o,q,r⟩:=F a x M;refine⟨P,o,λc O H=>?_,n r⟩;have j:=q c O H;rw[Nat.zero_add,cell_of_row w g _ m e (0,0) G,<-Array.getElem?_toList];have J:a*sz+c<l.length*sz:=by rw[<-N];exact(zge j).1
 have i:=congrArg (λl=>l[a*sz+c]?) L;simp only[getElem?_take,if_pos J] at i;rw[i];exact j
theorem mbX (h:p:=by
 go_wp2;go_ret;exact⟨⟨_,rfl,by rw[<-HE.o];exact HG.on (λb hb=>qNtx HB0.size hb) λh=>h⟩,B0.o⟩):p:=h
theorem z4v (st:State) (name:Nm) (ax:List Value) (w:World) (S:Nat->Prop) (h:Z5 S w ax st):Calls prog 45 #[.agg ax.toArray,name] w λe w'=>(∃v,e= .returned v/\Sl 2 rAt (λb=>w.heap.size<=b) w' v (zY st 4 name))/\bW w w':=by
 have a1:=zh h;obtain⟨bM,bP,bN,bQ,bO,aL,rfl,_,_,_,_,bT,_,_,_,bR,_,_,_,bS⟩:=ZF h;obtain⟨w0,bs,Y,bc,ai,cb⟩:=zP w (aS st bM bP bN bQ bO aL) 34;have HB0:=zh ai;have J:=zh Y;have au:=zh λg (ac:(bW w0 g:Prop))=>zM a1 (zK (zD HB0 ac))
 obtain⟨C,D,F,i⟩:=TC4 Y;clear Y bc ai bT bR;obtain⟨bA,bl,bw,bf,bg⟩:=info_parts (show(prog.info? 124).map (λB=>(B.zero,B.size,B.bytes))=some (some (.agg #[.string ⟨#[]⟩,.int .i64 0]),2,24) from kr);go_enter func45,ntmps45
 go_wp2_with fail
 clear bs;refine zcm (zBt st name _ w0 S (au.o _ zbr)) ?_;rintro e _ ⟨⟨bx,rfl,aH⟩,ah⟩;have ap:=zh aH;have aj:=zh ah;clear C D F i aH ah;go_wp2;go_loopw [5,6] (λQ B wr=>∃(n:Int) (M:Nm) (c:List At),B= .int .i64 n/\zSj Q=c.length/\Hid (AtI (isF M) st.folders n)/\Hid (Grow 124 2 rAt (λ_=>False) wr w0.heap.size Q c)/\Hid (c++zY st (4-c.length) M=zY st 4 name)/\c.length<=4/\bW w0 wr) (λQ _ _=>4-zSj Q)
 case atStart=>exact⟨bx,name,[],rfl,rfl,ap,Grow.nil,(zh rfl),sm,aj⟩
 clear ap aj;obtain⟨n,M,c,rfl,bo,aX,HG,U,_,N⟩:=hrel;have B0:=zh (zD HB0 N);obtain⟨C,D,F,i⟩:=TC4 (zyA N J.o);obtain⟨R,_,X,rfl,bq⟩:=HG.shape';have ca:=N.size;subst bq;clear bo;rcases aX with ⟨k,f,rfl,O,m⟩|⟨rfl,m⟩
 rotate_left
 ·have HE:=zh (show c=zY st 4 name by rw[<-U.o,z38 m,List.append_nil]);clear m;exact mbX
 have b4:decide ((0:Int)<=(k:Int))=true:=decide_eq_true om;rcases Nat.lt_or_ge c.length 4 with bn|bn
 rotate_left
 ·have bm:c.length=4:=om
  have HE:=zh (show c=zY st 4 name by have:=U.o;rw[bm] at this;rwa [Nat.sub_self,zY,List.append_nil] at this);have bk:decide ((c.length:Int)<4)=false:=decide_eq_false om;clear m O;exact mbX
 have bk:decide ((c.length:Int)<4)=true:=decide_eq_true om;have b5:(k:Int)<(st.folders.length:Int):=by have:=(zge O).1;omega
 have br:f.name=M:=by simpa[isF] using List.find?_some m
 subst br;obtain⟨b,P,_,bh,bi,az,aB⟩:=SlAt.elem bS O dc B0.out;have a2:=zh az;obtain⟨_,_,_,_,_,_,_,_,_,_,rfl,ba,_,_,_,_,a9,_,_,_,a6,_,_,_,a7,_,_,_,bb,_,_,_,a8⟩:=Z9 az;obtain⟨q,bU,bV,bX,bY,bZ,b0⟩:=TC7 aB;rw[Nat.add_zero] at q;have av:=zh q;subst bh;obtain⟨d,ae⟩:∃d,zL f=d:=⟨_,rfl⟩;have HE:=zh (show(c++[(⟨f.name,d.seq⟩:At)])++zY st (4-(c++[(⟨f.name,d.seq⟩:At)]).length) d.parent=zY st 4 name by
  rw[<-U.o,qLax,List.length_singleton,show 4-c.length=(4-(c.length+1))+1 by omega,z1u (f:=f) m,ae,List.append_assoc];rfl)
 have aZ:=zh (YW f _ wr S (zV a2 (zK B0.out)));clear O m aB a9 a6 a7 bb a8;go_wp2_with fail
 clear C D F i q bU bV bX bY bZ b0;refine zcm aZ ?_;rintro e G ⟨⟨_,rfl,aJ⟩,y⟩;rw[ae] at aJ;have am:=zh (HG.below ZE y);have aT:=zh (zD N y);have b7:=y.size;obtain⟨bB,bD,bC,bE,rfl,_,bI,_,_,_,bH,bG,_,_,_,bF,_,_⟩:=ZO aJ;obtain⟨r,bt,Z,bd,u,bK⟩:=zP G (aM d bB bD bC bE) 84;have an:=zh (am.below ZE u);have ak:=zh (zD aT u);have aV:=zh Z;obtain⟨_,aN,_,ag⟩:=TC4 Z;have b8:=u.size;have i:=zy ak (J.o 3 _ rfl);have q:=(Below.cell (zD y u) (p:=aD b (P+k*7)) (zF av)).trans av;clear Z bd u y ae bH bF;go_wp2_with fail
 clear bt;have a4:=zh (HQa3 (λg ac=>zy ac aN:∀g:World,((bW r g:Prop))->(cL g G.heap.size 1 d.seq:Prop)) (zyB i) (zyB q));have b6:d.parent.size<=140737488355328:=bG;have a0:=zh bK;clear aN ag i q;have L:=a4.o;refine zE kr L (λj=>?_);refine zi 0 ?_;iterate 10 (refine zt j ?_;simp only[zA])
 refine zo ?_;obtain⟨H,bu,ay,be,aP,bL⟩:=zP r.drew #[f.name,d.seq] 124;have o:(bW r H:Prop):=zD zbr.drew aP;have ao:=zh (an.below ZE o);have al:=zh (zD ak o);have aW:=zh λaf v ad=>zy o (aV.o af v ad)
 have b9:=o.size;have a3:=zh (show SlAt 2 rAt (z21 (λ_=>False) H (.slice R c.length X)) H (some ⟨r.drew.heap.size,0,none⟩) [(⟨f.name,d.seq⟩:At)] from zAi [f.name,d.seq] ⟨bL,λh=>h,λe=>by have b2:=(an.base_le _ e).2;have b3:r.drew.heap.size=r.heap.size:=rfl;omega⟩ rfl (λaf b1 ad=>by rw[Nat.zero_add];exact ay af b1 (by simpa using ad)) ⟨rfl,ba,bI⟩);refine zr 10 λK z=>?_
 go_simp;clear j;refine z.out _ _ (L _ o) (λj=>?_);clear z K bu ay be;refine zr 11 λK z=>?_
 refine z7v H rfl (.tmp 24) (.tmp 34) 121 rfl 124 bA _ 2 24 underlying121 bl bw bf bg rfl dc ZE w0.heap.size om (.slice R c.length X) c rfl ao _ 1 _ rfl [(⟨f.name,d.seq⟩:At)] rfl a3 om dc ?_;intro cc aO aa ab;obtain⟨_,bJ,_,rfl,aK⟩:=aa.shape';have aQ:=zh aa;have aq:=zh aK;have aw:=λn (bv:n<H.heap.size) (bp:(Value.slice R c.length X).ownBlock≠some n)=>ab.block n bv λe=>bp e.symm
 have V:=aw G.heap.size (oh a0.o) λe=>by have:=(am.base_le _ e).2;omega
 have a5:=zh V;have I:=Below.grown al ab om (λb hb=>(ao.base_le b hb).1);have T:=zh I;have ar:(λg:World=>cL g G.heap.size 1 d.seq/\cL g w.heap.size 3 (.slice (some ⟨b,P,none⟩) st.folders.length aL)/\cL g b (P+k*7) f.name) aO:=by
  have aG:=L _ o;refine⟨(World.cell?_of_block V).trans aG.1,zy I (J.o 3 _ rfl),?_⟩;have bj:b<w0.heap.size:=zll bi HB0.size;exact zy (zD zbr I) (((al.cell (p:=aD b (P+k*7)) bj).symm).trans aG.2.2)
 clear aa ab aK aw V I j;refine z.out _ _ ar (λj=>?_);clear z K ar;refine zT 12 j ?_;simp only[zA];refine wpAnyH_done kr ?_ _;clear j L;have ag:=(World.cell?_of_block (a:=⟨G.heap.size,3,none⟩) a5).trans (aW.o 3 _ rfl);obtain⟨C,D,F,i⟩:=TC4 (zyA T J.o);go_wp2_with fail
 clear C D F i ag;refine zcm (zBt st d.parent _ aO S (au.o _ T)) ?_;rintro e _ ⟨⟨bz,rfl,aI⟩,W⟩;have aY:=zh aI;have aR:=zh (aQ.out.below ZE W);have aU:=zh (zD T W);clear W aI;go_wp2;go_roundw
 case rel=>exact⟨bz,d.parent,c++[⟨f.name,d.seq⟩],rfl,(by show bJ=_;exact aq),aY,aR,HE,by rw[qLax,List.length_singleton];omega,aU⟩
 have:=aq.o;rw[qLax,List.length_singleton] at this;simp[zSj];omega
theorem z8z (st:State) (name:Nm) (a:List Value) (w:World) (S:Nat->Prop) (h:Z5 S w a st):Calls prog 45 #[.agg a.toArray,name] w λe w'=>(∃v,e= .returned v/\Sl 2 rAt (λ_=>True) w' v (zY st 4 name))/\bW w w':=(z4v st name a w S h).mono λe w' ⟨⟨v,c,hs⟩,hb⟩=>⟨⟨v,c,hs.keep ZE dc (Kept.refl _ λ_ _=>trivial)⟩,hb⟩
end
section
open Go.RowKit Go.Deep
def z7j (st:State) (s:Nm):Int:=(zL ((Z4 st s).getD z0b)).cut
def z0h (st:State):List At->List At->Bool
 | w::ws,x::xs=>if w.name=x.name then(if w.seq<z7j st x.name then true else z0h st ws xs) else true
 | _,_=>false
def yH (st:State) (name:Nm):Bool:=match Z4 st name with
 | none=>false
 | some f=>match f.epochs.getLast? with
  | none=>false
  | some e=>if e.chain.length=(zY st 4 name).length then z0h st e.chain (zY st 4 name) else true
theorem z7k (h:Z4 st s=none):yH st s=false:=by rw[yH,h]
theorem z89 {f:Folder} (h:Z4 st s=some f) (h2:f.epochs.length=0):yH st s=false:=by
 rw[yH,h];dsimp only;rw[eq_nil_of_length_eq_zero h2];rfl
theorem z7l {f:Folder} {e:Epoch} {n:Nat} (h:Z4 st s=some f) (h2:f.epochs=n+1) (h3:f.epochs[n]? =some e):yH st s=if e.chain.length=(zY st 4 s).length then z0h st e.chain (zY st 4 s) else true:=by
 rw[yH,h];dsimp only;rw[getLast?_eq_getElem?,h2,Nat.add_sub_cancel,h3]
theorem z3y {st:State} {x:At}:∀{n:Nat} {s:Nm},x∈zY st n s->∃f,Z4 st x.name=some f
 | 0,_,a=>by cases a
 | n+1,s,a=>by
  cases c:Z4 st s with
  | none=>rw[z38 c] at a;cases a
  | some f=>
   rw[z1u c] at a;rcases mem_cons.1 a with rfl|a
   ·exact⟨f,c⟩
   ·exact z3y a
theorem zEa (a:List At):z0h st a []=false:=by cases a<;>rfl
theorem zFt {a b:List At} {y x:At} (ha:a[k]? =some y) (hb:b[k]? =some x):z0h st (a.drop k) (b.drop k)=if y.name=x.name then(if y.seq<z7j st x.name then true else z0h st (a.drop (k+1)) (b.drop (k+1))) else true:=by
 obtain⟨c,d⟩:=zge ha;obtain⟨e,g⟩:=zge hb;rw[drop_eq_getElem_cons c,drop_eq_getElem_cons e,d,g,z0h]
theorem zQ1 (a b c:Nm) (x y:Int) (g:Bool) (v u:Value) (w:World):(Instr.field 84 (.agg #[a,x,v,b,u,y,g,c]) 5).run prog w= .ok y w:=kr
theorem mbe (h:p:=by
 rw[if_neg hlen] at HSB;have hld:((e.chain:Int)==(now:Int))=false:=ν;clear hlen;go_wp2;go_ret;exact⟨by rw[HSB.o];rfl,zD HB0 (zD HB3 B5.o)⟩):p:=h
theorem mbr (h:p:=by
 obtain rfl:k=now:=om
 have HE:=zh (by rw[<-HG.o,drop_length,zEa]:yH st name=false);go_wp2;go_ret;exact⟨by rw[HE.o];rfl,zD HB0 B0r.o⟩):p:=h
theorem zI0 (st:State) (name:Nm) (cc:name.size<=()) (a9:List Value) (w:World) (S:Nat->Prop) (h:Z5 S w a9 st):(kB 144 #[.agg a9.toArray,name] w (yH st name):Prop):=by
 have bE:=zh h;obtain⟨P,T,Q,U,R,V,rfl,_,_,_,_,cr,_,_,_,cp,_,_,_,cq⟩:=ZF h;obtain⟨w0,cf,ag,b0,aT,co⟩:=zP w (aS st P T Q U R V) 34;have HB0:=zh aT;have aY:=zh ag;have ad:=zh λa (j:(bW w0 a:Prop))=>zM bE (zK (zD HB0 j))
 obtain⟨aK,aL,aN,aO⟩:=TC4 ag;clear ag b0 aT cr cp cq;go_enter func144,ntmps144
 go_wp2_with fail
 clear cf aK aL aN aO;refine zcm (z8x st name _ w0 S (ad.o _ zbr)) ?_;rintro e X ⟨⟨_,rfl,bj⟩,Z⟩;obtain⟨f,D⟩:=Ξ ((Z4 st name).getD z0b);rw[D] at bj;obtain⟨bK,bP,bL,be,bM,bQ,bN,bR,bO,bS,rfl,_,_,_,_,_,bY,_,_,bT,bU,_,_,_,bV,_,_,_,bZ,_,_,_,bX⟩:=Z9 bj;obtain⟨br,bl,ah,b1,aa,cF⟩:=zP X (aF f bK bP bL be bM bQ bN bR bO bS) 74;have bx:=zh ah;have aV:=zh aa;have HB3:=zh (zD Z aa);have ba:=ah 3 _ rfl;have cB:w<X.heap.size:=zll co Z.size;clear ah b1 aa Z bY bV bZ bX
 cases hF:Z4 st name with
 | none=>
  have HE:=zh (z7k hF);simp only[Option.isSome_none];clear hF D;go_wp2;go_ret
  exact⟨by rw[HE.o];rfl,zD HB0 HB3⟩
 | some f'=>
 have a3:=zh (by rw[hF] at D;rw[<-D,hF];rfl:Z4 st name=some f);simp only[Option.isSome_some];clear hF D;rcases Nat.eq_zero_or_pos f.epochs with H|H
 ·have HE:=zh (z89 a3 H);have bm:((f.epochs:Int)==0)=true:=by simp[H]
  clear H;go_wp2;go_ret;exact⟨by rw[HE.o];rfl,zD HB0 HB3⟩
 have bm:((f.epochs:Int)==0)=false:=ν;obtain⟨m,M⟩:∃m,f.epochs.length=m+1:=⟨f.epochs.length-1,om⟩;obtain⟨e,aw⟩:∃e,f.epochs[m]? =some e:=⟨_,qLgx om⟩;have HSB:=zh (z7l a3 M aw);obtain⟨a7,bn,_,b3,_,b7,bi⟩:=SlAt.elem bU aw dc aV;obtain⟨bb,bc,rfl,_,_,_,bH,bI,bd,bJ,_⟩:=z3p b7;have bp:=bi 3 _ rfl;subst b3;have cC:IntKind.i64.wrap (m:Int)=(m:Int):=IntWalk.i64_in _ (oh bT);have cA:(m:Int)<(m:Int)+1:=om
 have bG:=zh (show ∀a:World,((bW br a:Prop))->(λa:World=>(cL a w 0 st.turn/\cL a w 1 (.slice P st.users T)/\cL a w 2 (.slice Q st.deposits U)/\cL a w 3 (.slice R st.folders V))/\cL a X 3 (.slice (some ⟨a7,bn,none⟩) (m+1) be)/\cL a a7 (bn+m*5+3) (.slice bb e.chain bc)) a from λa j=>by
  have c:=λn v (F:((aS st P T Q U R V):Array Value)[n]? =some v)=>zy (zD HB3 j) (aY.o n v F)
  exact⟨⟨c 0 _ rfl,c 1 _ rfl,c 2 _ rfl,c 3 _ rfl⟩,by rw[<-M];exact zy j (bx.o 3 _ rfl),zy j bp⟩)
 have bA:=zh (Sl.keep ZE dc (show Sl 2 rAt S X (.slice bb e.chain bc) e.chain from⟨_,_,rfl,bH,bI,bd,bJ⟩) (zK aV));have cv:e.chain.length<=():=bd;rw[M] at bl ba;go_wp2;clear M H bm aw bi bl ba bp;have r:=bG.o;refine zE kr r (λi=>?_);refine zi 0 ?_;iterate 11 (refine zt i ?_;simp only[zA])
 refine zo ?_;refine zr 11 λK B=>?_
 go_simp;go_at_call 67
 refine zcm (zQ0 st name cc _ _ S (ad.o _ (zD HB3 zbr.drew))) ?_;rintro _ aP ⟨⟨_,rfl,N⟩,a5⟩;have B5:=ζ (bW br aP:Prop) (zD zbr.drew a5);clear a5 i;refine B.out _ _ (r _ B5.o) (λi=>?_);clear B K;have a4:=zh N;clear N;refine zi 12 ?_;iterate 2 (refine zt i ?_;simp only[zA])
 refine zo ?_;refine wpAnyH_done kr ?_ _;clear i r;obtain⟨now,aB⟩:=Ξ (zY st 4 name);rw[aB] at a4 HSB;have cz:now.length<=4:=by rw[<-aB];exact z2c _ _ _
 clear aB;obtain⟨_,_,rfl,_,ca,_,N⟩:=a4;unfold maxLen at ca;by_cases hlen:e.chain=now.length
 rotate_left
 ·exact mbe
 rw[if_pos hlen] at HSB;have ab:=zh hlen;have hld:((e.chain:Int)==(now:Int))=true:=beq_iff_eq.2 om;have bB:=zh (bA.keep ZE dc (zK B5.o));have Y:=zh (zD HB3 B5.o);clear hlen;go_wp2;clear hld;go_loopw [46] (λaJ wr=>∃k:Nat,k<=now/\aJ= .int .i64 k/\Hid (z0h st (e.chain.drop k) (now.drop k)=yH st name)/\bW aP wr) (λaJ _=>now.length-(intOf aJ).toNat)
 case atStart=>exact⟨0,om,gn,(by show _=_;rw[HSB.o];rfl),Below.refl _ _⟩
 obtain⟨k,_,rfl,HG,L⟩:=hrel;have B0r:=zh (zD Y.o L);by_cases cb:k<now
 rotate_left
 ·exact mbr
 obtain⟨x,aH⟩:∃x,now[k]? =some x:=⟨_,qLgx cb⟩;obtain⟨q,aI⟩:∃q,e.chain[k]? =some q:=⟨_,qLgx (oh ab.o)⟩;have ae:=zh (zFt (st:=st) aI aH);obtain⟨_,_,_,b6,_,b9,bh⟩:=SlAt.elem N aH dc L;obtain⟨_,_,b5,-,-,-,ce⟩:=bB;cases b5
 obtain⟨a8,bo,_,b4,_,b8,bg⟩:=SlAt.elem ce aI dc L;obtain⟨rfl,cu,_⟩:=z48 b9;obtain⟨rfl,_⟩:=z48 b8;obtain⟨cs,cK⟩:=TC2 bh;obtain⟨W,bq⟩:=TC2 bg;rw[Nat.add_zero] at cs W;subst b6;subst b4;have cx:(k:Int)<(now:Int):=om
 have cy:(k:Int)<(e.chain:Int):=by have:=ab.o;omega
 have cD:x.name.size<=():=cu;obtain⟨ct,cg,ai,b2,I,cH⟩:=zP wr #[x.name,x.seq] 124;have aZ:=zh ai;have bw:=zh (zD L I);have aU:=zh (zD B0r.o I);have bu:=ai 0 _ rfl;have aX:=zh I;have c:=λn v (F:((aS st P T Q U R V):Array Value)[n]? =some v)=>zy aU (aY.o n v F)
 obtain⟨aK,aL,aN,aO⟩:=TC4 c;clear c aH aI bh bg ai b2 I;go_wp2_with fail
 clear cg aK aL aN aO bu;refine zcm (z8x st x.name _ ct S (ad.o _ aU)) ?_;rintro _ o ⟨⟨_,rfl,ax⟩,af⟩;have a0:=ζ (z7j st x.name=(zL ((Z4 st x.name).getD z0b)).cut) rfl;obtain⟨g,ay⟩:=Ξ ((Z4 st x.name).getD z0b);rw[ay] at ax a0;obtain⟨_,aG⟩:=Ξ ((Z4 st x.name).isSome);rw[aG];have bC:=zh ax;obtain⟨ak,ap,al,aq,am,ar,an,au,ao,av,rfl,_⟩:=Z9 ax;obtain⟨bs,_,aj,bf,J,cJ⟩:=zP o (aF g ak ap al aq am ar an au ao av) 74;have bz:=zh aj;have y:=zh (zD af J);have bv:=zh J;have aQ:=zh (zD bw y.o);by_cases G:q.name=x.name
 rotate_left
 ·have z:=zh (by rw[<-HG.o,ae.o,if_neg G]:yH st name=true);have cd:(q.name.toList==x.name.toList)=false:=YX G;have bu:=zy y (aZ.o 0 _ rfl);have cE:=zy (zD aX y.o) W;clear G af ay aG aj bf J;go_wp2;go_quiet (fail)
  go_wp2;go_ret;exact⟨by rw[z.o];rfl,y8 (zD HB0 (zD Y.o aQ.o)) _⟩
 have ac:=zh G;have cd:(x.name.toList==x.name.toList)=true:=sm
 have bF:=zh (show ∀a:World,((bW bs a:Prop))->(λa:World=>cL a wr 0 x.name/\cL a a8 (bo+k*2) x.name/\cL a a8 (bo+k*2+1) q.seq/\cL a o 0 g.name/\cL a o 1 g.turn/\cL a o 2 (.slice ak g.manifests ap)/\cL a o 3 (.slice al g.epochs aq)/\cL a o 4 (.slice am g.items ar)/\cL a o 5 (.slice an g.wraps au)/\cL a o 6 (.slice ao g.links av)) a from λa j=>by
  have c:=λn v (F:((aF g ak ap al aq am ar an au ao av):Array Value)[n]? =some v)=>zy j (bz.o n v F)
  have b:=zD aX (zD y.o j);refine⟨zy (zD y.o j) (aZ.o 0 _ rfl),zy b (by rw[W,ac.o]),zy b bq,c 0 _ rfl,c 1 _ rfl,c 2 _ rfl,c 3 _ rfl,c 4 _ rfl,c 5 _ rfl,c 6 _ rfl⟩)
 have bD:=zh λa j=>z75 g _ a S (zV bC (zK j))
 clear G af ay aG aj bf J W bq;go_wp2;have r:=bF.o;refine zE kr r (λi=>?_);refine zi 0 ?_;iterate 10 (refine zt i ?_;simp only[zA])
 refine zo ?_;refine zi 12 ?_;iterate 5 (refine zt i ?_;simp only[zA])
 refine zo ?_;refine zr 10 λK B=>?_
 go_simp;go_at_call 120
 refine zcm (bD.o _ (zD bv.o zbr.drew)) ?_;rintro _ bt ⟨⟨_,rfl,bk⟩,a6⟩;have aR:=ζ (bW bs bt:Prop) (zD zbr.drew a6);clear a6 i;obtain⟨d,az⟩:=Ξ (zL g);rw[az] at bk;have a1:=zh (by rw[a0.o,az]:z7j st x.name=d.cut);clear az;obtain⟨ci,ck,cj,cl,rfl,_,_,_,_,_,cn,_,_,_,_,cm,_⟩:=ZO bk;have cw:=zQ1 d.folder d.parent d.who d.seq d.cut d.gone (.slice ci d.prev ck) (.slice cj d.members cl);refine B.out _ _ (r _ aR.o) (λi=>?_);clear B K cn cm;refine zT 11 i ?_;simp only[zA];refine zi 17 ?_;iterate 2 (refine zt i ?_;simp only[zA])
 refine zo ?_;refine wpAnyH_done kr ?_ _;clear i r;have aW:=zh (zD aQ.o aR.o);by_cases u:q.seq<d.cut
 ·have C:decide (q.seq<d.cut)=true:=Δ u;rw[C];have z:=zh (by rw[<-HG.o,ae.o,if_pos ac.o,a1.o,if_pos u]:yH st name=true);clear u C;go_wp2;go_ret;exact⟨by rw[z.o];rfl,zD HB0 (zD Y.o aW)⟩
 have C:decide (q.seq<d.cut)=false:=Γ u;rw[C];have z:=zh (by rw[<-HG.o,ae.o,if_pos ac.o,a1.o,if_neg u]:z0h st (e.chain.drop (k+1)) (now.drop (k+1))=yH st name);clear u C;go_wp2;go_roundw
 case rel=>
  have a2:∃O:Nat,O<=now/\Value.int .i64 ((k:Int)+1)= .int .i64 O/\Hid (z0h st (e.chain.drop O) (now.drop O)=yH st name)/\bW aP bt:=⟨k+1,om,gn,z,aW⟩;first|exact a2|((repeat apply Exists.intro);refine⟨a2,?_⟩;first|rfl|((repeat' apply And.intro)<;>rfl)|(simp;(repeat' apply And.intro)<;>first|rfl|(have:=ab.o;omega)))
 case measure=>exact qMx
end
end Go.Proofs.YtdggplhnfhcieaaGreatDoor
