/- No condition. -/
import Derived.Test.YtdggplhnfhcieaaGreatDoorW23
import Derived.Test.YtdggplhnfhcieaaGreatDoorW24
set_option linter.all false
set_option maxRecDepth 100000
set_option maxHeartbeats 16000000
namespace Go.Proofs.YtdggplhnfhcieaaGreatDoor
open Go.Proofs.Tryz Cd Ce List
open Go.RowKit Go.Deep
variable {it:Item} {g j k n:Nat}
section
variable {X:Nat->Prop} {base bw:Nat} {W:World} {R:RM} {c:Call} {dv:Value} {st:State} {done late:Bool}
theorem WK.verTo (h:WK X base bw W R c dv st done late) (hk:k<st.folders) {f oi A:Nat} (t:(fo st k).items[j]? =some it) (m:(R (.it k)).v= .slice (some ⟨f,oi,none⟩) n A) {w1:World} {a:Option Addr} {d b:Nat} {x:List Value} {p:Version} (O:it.versions.length<=9999)
  (hr:RowC 80 4 w1 (.slice a d b) ((R (.ve k j)).cells++[x])) (hb:ButB (λM=>(R (.ve k j)).v.ownBlock=some M) W w1) (H:(Value.slice a d b).ownBlock=(R (.ve k j)).v.ownBlock\/∃k,(Value.slice a d b).ownBlock=some k/\W.heap.size<=k) (hx:yM (Imm X bw R W) W x p):
  Wrote X base bw W R c dv late (setF st k { fo st k with items:=(fo st k).items.set j { it with versions:=it.versions++[p] } }) done (w1.setCell (aD f (oi+j*2+1)) (.slice a d b)):=by
 have s:=ZT hk;obtain⟨_,F⟩:=h.is.fo k _ s;obtain⟨J,_,v⟩:=F.it j it t;have N:(R (.ve k j)).cells.length=it.versions.length:=v.1;obtain⟨y,w,z,_⟩:=h.put (W':=w1) (.ve k j) ⟨.slice a d b,(R (.ve k j)).cells++[x]⟩ hb hr (by simp;omega) (λq hb=>H.imp (λe=>by rw[<-e];exact hb) λ⟨P,e,G⟩=>by
  rw[show(Value.slice a d b).ownBlock=some q from hb] at e;obtain rfl:=zsi e;exact G)
 have o:zO R (.ve k j) ⟨.slice a d b,(R (.ve k j)).cells++[x]⟩ (.it k)=R (.it k):=yB _ _ sm;have u:=y.row (.it k);rw[o,m] at u;have I:=u.write (by decide:(0:Nat)<2) J (by decide:1<2) (.slice a d b) rfl;have E:z01 R f:=⟨.it k,by rw[m];rfl⟩;obtain⟨L,K⟩:=y.put (bw:=bw) (W':=w1.setCell (aD f (oi+j*2+1)) (.slice a d b)) (qNtx h.base_le w.but.size) (.it k) ⟨(R (.it k)).v,(R (.it k)).cells.set j [it.name,.slice a d b]⟩
  ((ButB.refl _ w1).set ⟨f,oi+j*2+1,none⟩ _ (by rw[o,m];rfl)) (by rw[m];exact I) (by have:=h.os.len (.it k);simpa using this) (λq hb=> .inl (by rw[o];exact hb))
 have i:=w.trans K;have is:=h.is.veRow (r:=⟨.slice a d b,(R (.ve k j)).cells++[x]⟩) s t i.kept (l:=it.versions++[p]) ((v.imp λ_ _ e=>z0q e i.kept).snoc (z0q hx i.kept));refine⟨_,h.turn i L is ?_,i,by rw[yB _ _ sm,yB _ _ sm]⟩;rw[Below.heap_setCell _ _ _ _ λe=>h.nb (by rw[show bw=f from e];exact E),z,h.box];have B:(zO (zO R (.ve k j) ⟨.slice a d b,(R (.ve k j)).cells++[x]⟩) (.it k) ⟨(R (.it k)).v,(R (.it k)).cells.set j [it.name,.slice a d b]⟩) .us=R .us:=by rw[yB _ _ sm,yB _ _ sm]
 have C:(zO (zO R (.ve k j) ⟨.slice a d b,(R (.ve k j)).cells++[x]⟩) (.it k) ⟨(R (.it k)).v,(R (.it k)).cells.set j [it.name,.slice a d b]⟩) .de=R .de:=by rw[yB _ _ sm,yB _ _ sm]
 have D:(zO (zO R (.ve k j) ⟨.slice a d b,(R (.ve k j)).cells++[x]⟩) (.it k) ⟨(R (.it k)).v,(R (.it k)).cells.set j [it.name,.slice a d b]⟩) .fo=R .fo:=by rw[yB _ _ sm,yB _ _ sm]
 unfold z42;rw[B,C,D];rfl
theorem Wrote.turn1 {w1:World} {b:Nat} {f:Folder} (hk:k<st.folders) (ha:foAt R k g b) (h:Wrote X base bw W R c dv late (setF st k f) done w1) {n:Int} (hn:I64 n):Wrote X base bw W R c dv late (setF st k { f with turn:=n }) done (w1.setCell (aD g (b+1)) n):=by
 obtain⟨_,e,m,a⟩:=h;obtain⟨l,o⟩:=e.fturn (i:=k) (f:=f) (by show(st.folders.set k f)[k]? =_;rw[getElem?_set_self hk]) (ha.keep a) hn;refine⟨_,?_,m.trans o,by rw[YQ];exact a⟩;have d:({ setF st k f with folders:=(setF st k f).folders.set k { f with turn:=n } }:State)=setF st k { f with turn:=n }:=by
  unfold setF;simp
 rw[<-d];exact l
end
section
variable {X:Nat->Prop} {base bw:Nat} {W W':World} {R:RM} {c:Call} {dv:Value} {st:State} {done late:Bool}
theorem WK.enter2 (h:WK X base bw W R c dv st done late) (hb:(bW W W':Prop)) {a:Nat} (ha:W<=a) (hz:a<W'):WK (λb=>X b\/b=a) base bw W' R c dv st done late:=by
 have h':=h.below hb;have k:Kept (Imm X bw R W) (Imm (λb=>X b\/b=a) bw R W') W W':=λb ⟨d,f,i,l⟩ m=>⟨⟨om,f,i,λe=>e.elim l λe=>om⟩,hb.block b d⟩
 exact ma1
theorem zKx (h:WK X base bw W R c dv st done late) {aj:Nat} (hk:k<st.folders) (ha:foAt R k g aj) (ae:(fo st k).items[j]? =some it) (v:Version) (o:Option Addr) (q:Nat) (hv:Sl 1 Y1 (Imm X bw R W) W (.slice o v.data q) v.data) (cw:it.versions.length<=9998)
  (b2:0<=(fo st k).turn/\(fo st k).turn<=1000000) (cn:(fo st k).epochs.length<=1000000):
  Calls prog 146 #[pT bw,pO g aj,j,.agg #[.int .i64 v.epoch,.bool v.gone,.string v.who,.slice o v.data q]] W λe w'=>e= .returned (.agg (ZV 0 ((it.versions:Int)+1)))/\
   Wrote X base bw W R c dv late (setF st k { fo st k with items:=(fo st k).items.set j { it with versions:=it.versions++[{ v with epoch:=(fo st k).epochs.length,who:=c.user }] },turn:=(fo st k).turn+1 }) true w':=by
 obtain⟨b8,bZ,b7,bO,bP⟩:=info_parts (show(prog.info? 80).map (λag=>(ag.zero,ag.size,ag.bytes))=some (some (.agg #['0',false,"",()]),4,56) from kr);obtain⟨_,_,bI,b1,b3,_⟩:=yG h.call;clear bI b1;have bp:=zh b3;have I:=zh h;have F:=zh ha;have aG:=zh ae;have bq:=zh hv;have ck:=h.lt;have cu:j<(fo st k).items.length:=(zge ae).1;obtain⟨b,b5,bD,bM,ar,a4⟩:=zP W #[v.epoch,v.gone,v.who,.slice o v.data q] 80;obtain⟨r,b6,bE,bN,T,ca⟩:=zP b oA 49;have J:r.heap[W.heap.size]? =some (.cells #[v.epoch,v.gone,v.who,.slice o v.data q] 80 (0,0)):=(T.block _ a4).trans (by rw[<-b5];exact zJ _ rfl);have aR:r.heap[b.heap.size]? =some (.cells oA 49 (0,0)):=by rw[<-b6];exact zJ _ rfl
 have bl:=zh J;have bo:=zh aR;have Q:=zD ar T;have aB:=zh Q;have ax:=zh (I.below Q);have bF:(cL r W 0 v.epoch:Prop):=ψ J 0 _ rfl;have bG:(cL r W 2 v.who:Prop):=ψ J 2 _ rfl;have bH:∀D,r.frozen? (aD W D)=false:=(zB J).2;have cb:(cL r bw 1 c.user:Prop):=ax.cells.1 1 _ rfl;have cx:¬(bw=W):=om
 have cy:¬(W=bw):=om
 have cz:W<b.heap.size:=a4;clear h ha ae hv bD bM bE bN J aR ar T Q;go_enter func146,ntmps146
 go_upto_region 1 with fail
 go_cut [7] from 10 to 18 (λak a7=>ak= .pointer (some ⟨W,0,none⟩)/\Hid (a7.heap[W.heap.size]? =some (.cells #[.int .i64 (fo st k).epochs.length,v.gone,c.user,.slice o v.data q] 80 (0,0)))/\ButB (·=W) r a7)
 case first=>
  have aP:=zH (i:=2) c.user (zH (i:=0) (.int .i64 ((fo st k).epochs.length:Int)) bl rfl) rfl;have aQ:ButB (·=W) r ((r.setCell (aD W 0) (.int .i64 ((fo st k).epochs.length:Int))).setCell (aD W 2) c.user):=((ButB.refl (·=W) r).set _ _ rfl).set _ _ rfl;have bm:=zh aP;have bn:=zh aQ;clear aP aQ;go_region_law (go_simp;go_at_call 158;refine zcb (z3t (ax.below zbr.drew) hk F) λs ac=>?_;replace ac:=ac.symm;subst ac)
  all_goals
   go_wp2;go_meet
   case rel=>exact⟨rfl,bm,bn.drew⟩
 obtain⟨rfl,M,O⟩:=hcut;have S:(bW W wc:Prop):=ButB.below aB (oh aB.size) (λy cB=>om) O;have u:=zh (WK.enter2 I S (a:=b.heap.size) om (oh O.size));have V:=zh S;have aJ:=zh ((O.block _ ca om).trans bo);obtain⟨bY,aZ⟩:=u.is.fo k _ (ZT hk);obtain⟨a3,b9,ah⟩:=aZ.it j it aG;obtain⟨d,t,bC,G,bT,bU,aY,aW,a2⟩:=(u.os.row (.it k)).at a3;obtain⟨z,A,B,_⟩:=(u.os.row (.ve k j)).shape;rw[ah.1] at B;obtain⟨_,_,_,_,a8,bL,_,_,_,_,ab,hF,al,a5,am,an,a6,ao,ap,_,aV⟩:=u.fold (ZT hk) F;have ad:(R (.it k)).v= .slice a8 (fo st k).items.length bL:=by
  simp only[hdr,cons.injEq] at ab;exact ab.2.2.2.2.1
 rw[G] at ad;simp only[Value.slice.injEq] at ad;obtain⟨rfl,b0,rfl⟩:=ad;have P:wc.cell? ⟨d,t+j*2+1,none⟩=some (R (.ve k j)).v:=aW 1 _ rfl;rw[B] at P;have bk:=zh (by rw[<-B];exact u.os.row (.ve k j):RowC 80 4 wc (.slice z it.versions A) (R (.ve k j)).cells);have aK:=zh B;have br:=zh G;have a0:∀l,(Value.slice z it.versions A).ownBlock=some l->l<W.heap.size:=λl e=>I.os.lt ⟨.ve k j,by rw[B];exact e⟩
 have aI:=zh (show(Value.slice z it.versions A).ownBlock≠some d from λe=>by
  rw[<-B] at e;have:=u.os.inj (.ve k j) (.it k) d e (by rw[G];rfl);cases this)
 have bj:=ζ ((Value.slice z it.versions A).ownBlock≠some b.heap.size) (λe=>by have:=a0 _ e;omega);have cs:d<W:=I.os.lt ⟨.it k,by rw[G];rfl⟩;have cq:g<W:=I.os.lt F.row;have bd:=zh (show ¬(d=g) from λe=>by
  obtain⟨_,_,K,b4,_⟩:=F;have:=u.os.inj (.it k) .fo g (by rw[G,e];rfl) (by rw[b4];rfl);cases this)
 have ct:(j:Int)<((fo st k).items.length:Int):=om
 unfold maxLen at bU;have cl:(fo st k).items.length<=bC:=om
 have aX:(R (.ve k j)).cells.length=it.versions.length:=ah.1;have bt:=zh (show yM (Imm (λl=>X l\/l=b) bw R wc) wc ([.int .i64 (fo st k).epochs.length,v.gone,c.user,.slice o v.data q]:List Value) ({ v with epoch:=(fo st k).epochs.length,who:=c.user }:Version) from
  ⟨_,rfl,(show I64 ((fo st k).epochs.length:Int) from⟨om,om⟩),bp,bq.keep rByte_ok dc λl ⟨aT,bz,bA,bB⟩ cv=>⟨⟨zll aT V.size,bz,bA,λe=>e.elim bB λe=>om⟩,V.block l aT⟩⟩)
 have bc:=zh (show ∀(m:Option Addr) (x w:Nat) (s:World),RowC 80 4 s (.slice m x w) ((R (.ve k j)).cells++[[.int .i64 (fo st k).epochs.length,.bool v.gone,.string c.user,.slice o v.data q]])->ButB (λy=>(Value.slice z it.versions A).ownBlock=some y) wc s->((Value.slice m x w).ownBlock=(Value.slice z it.versions A).ownBlock\/∃k,(Value.slice m x w).ownBlock=some k/\wc.heap.size<=k)->
   Wrote (λl=>X l\/l=b) base bw wc R c dv late (setF st k { fo st k with items:=(fo st k).items.set j { it with versions:=it.versions++[{ v with epoch:=(fo st k).epochs.length,who:=c.user }] } }) done (s.setCell (aD d (t+j*2+1)) (.slice m x w))/\(s.setCell (aD d (t+j*2+1)) (.slice m x w)).heap[b.heap.size]? =some (.cells oA 49 (0,0))/\
    ∃L N,(s.setCell (aD d (t+j*2+1)) (.slice m x w)).cell? ⟨d,t+j*2+1,none⟩=some (.slice L (it.versions.length+1) N) from λm x w s H C K=>by
  refine⟨u.verTo hk aG br om H (by rw[aK.o];exact C) (by rw[aK.o];exact K) bt,Z2 _ ((C.block _ (zI aJ) bj).trans aJ) (by show b≠d;omega),?_⟩;obtain⟨L,N,bJ,_⟩:=H.shape;rw[bJ];refine⟨L,N,?_⟩;have bQ:=World.cell?_setCell_same s ⟨d,t+j*2+1,none⟩ (.slice L ((R (.ve k j)).cells++[([.int .i64 (fo st k).epochs.length,.bool v.gone,.string c.user,.slice o v.data q]:List Value)]).length N) ((World.cell?_of_block (a:=⟨d,t+j*2+1,none⟩) (C.block d aY aI)).trans P);rw[bQ,qLax,aX];rfl)
 have ce:(cL wc W 0 (.int .i64 (fo st k).epochs.length):Prop):=ψ M 0 _ rfl;have cf:(cL wc W 1 v.gone:Prop):=ψ M 1 _ rfl;have cg:(cL wc W 2 c.user:Prop):=ψ M 2 _ rfl;have ci:(cL wc W 3 (.slice o v.data q):Prop):=ψ M 3 _ rfl;have bu:=zh a2;have cm:(R (.ve k j)).cells.length<=10000:=om
 clear ab hF al a5 am an ao ap aV bY aZ a3 b9 ah B G aW a2 a0 aX O S bF bG bH cb b0 bT;go_upto_region 3 with fail
 go_cut [7] from 25 to 34 (λak aq=>ak= .pointer (some ⟨W,0,none⟩)/\Hid (Wrote (λl=>X l\/l=b) base bw wc R c dv late (setF st k { fo st k with items:=(fo st k).items.set j { it with versions:=it.versions++[{ v with epoch:=(fo st k).epochs.length,who:=c.user }] } }) done aq)/\Hid (aq.heap[b.heap.size]? =some (.cells oA 49 (0,0)))/\∃m aU,cL aq d (t+j*2+1) (.slice m (it.versions.length+1) aU))
 case first=>
  have cd:∀D,wc.frozen? (aD d D)=false:=bu;go_region_law (refine z1y wc _ [.int .i64 (fo st k).epochs.length,v.gone,c.user,.slice o v.data q] rfl (.tmp 29) (.tmp 31) 76 rfl b8 _ 56 underlying76 bZ b7 bO bP rfl dc dc (.slice z it.versions A) (R (.ve k j)).cells rfl _ _ rfl bk gg om rfl (by intro cC a1;simp at a1;rcases a1 with rfl|rfl|rfl|rfl<;>rfl) (by repeat' first|with_reducible assumption|((with_reducible first|refine Z2 _ ?_ ?_|apply zJ);rotate_left;first|with_reducible rfl|((try dsimp only);first|with_reducible assumption|omega|(simp only[zS];done)|(simp only[zS];omega)))|with_reducible apply zH|with_reducible refine zR _ ?_|with_reducible refine ZQ ?_|refine(rfl:(_:Array Value)=_)) ?_;intro cD s H C K;obtain⟨m,x,w,rfl⟩:=H.shape3;have Y:=zh (bc.o _ _ _ _ H C K);have ai:=C.block d aY aI;have cj:=(World.cell?_of_block (a:=⟨d,t+j*2+1,none⟩) ai).trans P;have cO:∀D,s.frozen? (aD d D)=false:=(λD=>by unfold World.frozen?;rw[ai];exact cd D);clear ai H C K)
  all_goals
   go_wp2;go_meet
   case rel=>exact⟨rfl,Y.1,Y.2.1,Y.2.2⟩
 obtain⟨rfl,aL,ba,m,aU,_⟩:=hcut;have Z:=ζ (0<=(fo st k).turn/\(fo st k).turn<=1000000) b2;have bs:=zh (aL.turn1 hk F (n:=(fo st k).turn+1) ⟨by have:=Z.o;omega,by have:=Z.o;omega⟩);obtain⟨_,az,bv,au⟩:=aL;obtain⟨_,_,_,_,_,_,_,_,_,_,bK,bR,al,a5,am,an,a6,ao,ap,bV,aV⟩:=az.fold (f:={ fo st k with items:=(fo st k).items.set j { it with versions:=it.versions++[{ v with epoch:=(fo st k).epochs.length,who:=c.user }] } }) (by show(st.folders.set k _)[k]? =_;rw[getElem?_set_self hk]) (F.keep au);have cA:IntKind.i64.wrap ((fo st k).turn+1)=(fo st k).turn+1:=by rw[IntKind.wrap_i64];have:=Z.o;omega
 have cr:¬(g=d):=λe=>bd.o e.symm
 have co:¬(g=b):=om
 have bX:¬(b=g):=om
 have cp:¬(d=b):=om
 clear bK bR al am an a6 ao ap az bv au bV;go_wp2_with fail
 obtain⟨bx,U,aO,av⟩:=bs;have bh:=zh aO;have bb:=zh av;have bi:=zh (λe=>U.nx b e (.inr rfl));have aN:=Z2 (a:=⟨g,aj+1,none⟩) ((fo st k).turn+1:Int) ba bX;have aH:=zh aN;refine zcm (z40 U ((it.versions:Int)+1)) ?_;clear U aO av aN;rintro _ E ⟨rfl,ay,aa⟩;have p:=(aa.but.block _ (zI aH) (λe=>bi.o (e.symm.imp id id))).trans aH;have bf:=zh p;have cE:(cL E b 0 '0':Prop):=ψ p 0 _ rfl;have P:(cL E b 1 '0':Prop):=ψ p 1 _ rfl;have cF:(cL E b 2 "":Prop):=ψ p 2 _ rfl;have cH:(cL E b 3 ():Prop):=ψ p 3 _ rfl;have cJ:(cL E b 4 ():Prop):=ψ p 4 _ rfl;have cK:(cL E b 5 ():Prop):=ψ p 5 _ rfl;have cM:(cL E b 6 ():Prop):=ψ p 6 _ rfl;have cN:=(zB p).2;have be:=zh ay;have bg:=zh aa;clear ay aa p;unfold ZV;go_wp2;try simp only[φ]
 obtain⟨a9,aw⟩:=ZC bf '0' (.int .i64 ((it.versions:Int)+1)) "" () () () ();refine bodyPost_ret (results_cell_row rfl _ _ b 49 _ (0,0) _ rfl a9 underlying49 rfl kr) rfl ?_;refine⟨rfl,bx,be.leave (aw.mono λcc af=> .inr af) λl bS=> .inl bS,(((Mut.below V).trans bh).trans bg).tail (aw.mono λcc af=>by rw[af];omega),bb⟩
end
section
variable {X:Nat->Prop} {base bw:Nat} {W:World} {R:RM} {c:Call} {dv:Value} {st:State} {late:Bool}
theorem WK.itCells {done:Bool} (h:WK X base bw W R c dv st done late) {w:Nat} (hk:k<st.folders) (ha:foAt R k g w) (i:(fo st k).items[j]? =some it):
  ∃d oi e a b,(R (.it k)).v= .slice (some ⟨d,oi,none⟩) (fo st k).items.length e/\(fo st k).items.length<=e/\e<=9223372036854775807/\d<W.heap.size/\cL W d (oi+j*2) it.name/\cL W d (oi+j*2+1) (.slice a it.versions b)/\YG (λ_=>True) W [it.name,.slice a it.versions b] it:=by
 have s:=(zge i).1;obtain⟨_,m,o,p,f,_,u⟩:=h.itSl hk ha;obtain⟨y,l,x,a,b,v,_,_,q,t,_,z,A,r,_⟩:=z0w u s (zK zbr);obtain rfl:y=it:=zsi (v.symm.trans i);subst q;unfold maxLen at f;exact⟨l,x,m,a,b,o,p,f,t,z,A,r⟩
theorem zQv (h:WK X base bw W R c dv st false late) (G:VInv n st) (hn:n<=41) (hk:ZB st c.folder=some k):
  Calls prog 95 #[pT bw] W (Did X base bw W R c dv late (z1j st c k)):=by
 have HK:=zh hk;have e:=zh (z0l (yO hk));have Z:=zh (G.atF e);have ay:=zh (z5r G hn e);obtain⟨y,am⟩:=Ξ (W.alloc (.cells Z3 49));have ai:=yQ W;rw[am] at ai;obtain⟨ah,Q,ad,z⟩:=ai;have f:=ah R h;have b:=zh f;have v:=zh ad;have HB0:=zh Q;have bg:=f.lt;clear ah Q ad;have a1:(cL y bw 2 c.folder:Prop):=f.cells.1 2 _ rfl;have ap:(cL y bw 3 c.name:Prop):=f.cells.1 3 _ rfl;clear h hk f G;unfold Z3 at am;go_enter func95,ntmps95
 go_wp2_with fail
 refine zcm (YK b c.folder) ?_;rintro E _ ⟨⟨hno,rfl⟩|⟨aZ,g,bi,al,H,rfl⟩,A⟩
 ·exact ma6
 obtain rfl:_=aZ:=zsi (HK.symm.trans al);have V:=zh A;have s:=zh H;have S:=zh (b.below A);obtain⟨_,_,_,_,_,_,_,_,_,_,ag,hF,a3,a4,a5,a6,aq,a7,a8,aV,_⟩:=S.fold (ZT e) H;have az:=zh ag;clear A al H ag hF;have a2:=zy V ap;clear a1 ap;go_wp2_with fail
 refine zcb (z9e S e s c.name) λa9 p=>?_;have Y:=zh (zD V p);have H2:=zh (b.below Y);have ar:=zy p aq;have aW:g<a9:=zll aV p.size;clear p a3 a4 a5 a6 aq a7 a8 a2;go_wp2_with fail
 refine zcb (z6g H2 e s) λba q=>?_;have t:=zh (zD Y q);have ao:=zy q ar;have bc:g<ba:=zll aW q.size;clear q ar;by_cases o:ZS st k c.user<2
 ·have aX:decide (ZS st k c.user<2)=true:=Δ o;go_wp2_with fail
  refine zcb (ZU _ _) λau a=>?_;obtain⟨BW,H2,m,I,J,K,L,M,N,O,P⟩:=zW t a b z v;clear a;unfold ZV;go_wp2;try simp only[φ]
  obtain⟨d,F2⟩:=ZC m.o (.int .i64 40) '0' "" () () () ();refine zrt d ?_;rw[show(z1j st c k)=(st,ZD 40,false) from by unfold z1j;rw[if_pos o]];exact mai
 have aX:decide (ZS st k c.user<2)=false:=Γ o;have B:=zh o;clear o
 cases x:z00 (fo st k) c.name with
 | none=>
  simp only[iOf];go_wp2_with fail
  refine zcb (ZU _ _) λau a=>?_;obtain⟨BW,H2,m,I,J,K,L,M,N,O,P⟩:=zW t a b z v;clear a;unfold ZV;go_wp2;try simp only[φ]
  obtain⟨d,F2⟩:=ZC m.o (.int .i64 35) '0' "" () () () ();refine zrt d ?_;rw[show(z1j st c k)=(st,ZD 35,false) from by unfold z1j;rw[if_neg (oh B.o),x]]
  exact mai
 | some j=>
  simp only[iOf];have aa:=zh x;have i:=zh (z3n x);have ax:=zh (b.below t);obtain⟨aU,a0,_,av,aT,E,_,_,bd,aY,an,aj⟩:=ax.itCells e s i.1;have F:=az.o;simp only[hdr,cons.injEq] at F;have af:=F.2.2.2.2.1.symm.trans E;simp only[Value.slice.injEq] at af;obtain⟨rfl,_,rfl⟩:=af;have bf:(j:Int)<((fo st k).items.length:Int):=by have:=(zge i.1).1;omega
  have aK:=zh aj;have l:=ζ ((ZY (fo st k) j).versions≠[]/\(ZY (fo st k) j).versions.length<=41) ⟨(Z.it _ (zmg i.1)).1,qNtx (Z.it _ (zmg i.1)).2.1 hn⟩;clear F E aj x;go_wp2_with fail
  refine zcb (zBz _ (length_pos_iff.2 l.1) _ _ _ aK) λbb r=>?_;have u:=zh (zD t r);have bj:=zy r ao;have bh:(cL bb aU (a0+j*2+1) (.slice av (ZY (fo st k) j).versions.length aT):Prop):=zy r an;clear r ao aY an
  cases ak:yX (ZY (fo st k) j) with
  | false=>
   go_wp2_with fail
   refine zcb (ZU _ _) λau a=>?_;obtain⟨BW,H2,m,I,J,K,L,M,N,O,P⟩:=zW u a b z v;clear a;unfold ZV;go_wp2;try simp only[φ]
   obtain⟨d,F2⟩:=ZC m.o (.int .i64 35) '0' "" () () () ();refine zrt d ?_;rw[show(z1j st c k)=(st,ZD 35,false) from by unfold z1j;rw[if_neg (oh B.o),aa.o];simp only[ak];rfl]
   exact mai
  | true=>
   have be:decide (256<=((ZY (fo st k) j).versions.length:Int))=false:=Γ (oh l.2);have U:=zh (b.below u);have ac:=zh ((u.block _ z).trans v);obtain⟨aL,aN,aO,aP,ae,aQ,aR,_⟩:=ay;have aJ:=zh (zKx U e s i.1 ⟨0,true,⟨#[]⟩,[]⟩ none 0 y9 (oh l.2) ae om);have aG:=ζ (I64 (((ZY (fo st k) j).versions.length:Int)+1)) ⟨om,by have:=l.2;omega⟩;clear aL aN aO aP ae aQ aR;go_wp2_with fail
   have aI:=zh (λD=>U.nx W D (.inr rfl));refine zcm (aJ) ?_;rintro _ _ ⟨rfl,_,T,C,aw⟩;have ab:=zh ((C.but.block _ (zI ac) (λD=>aI.o (D.symm.imp id id))).trans ac);have w:=ab.o;unfold Z3 at w;obtain⟨I,J,K,L,M,N,O⟩:=zC7 (zB w).1;have P:=(zB w).2;have aB:=zh T;have aH:=zh C;clear T C w aw;unfold ZV;go_wp2;try simp only[φ]
   obtain⟨d,F2⟩:=ZC ab '0' (.int .i64 (((ZY (fo st k) j).versions.length:Int)+1)) "" () () () ();refine zrt d ?_;rw[show z1j st c k=(setF st k { fo st k with items:=(fo st k).items.set j { ZY (fo st k) j with versions:=(ZY (fo st k) j).versions++[⟨(fo st k).epochs.length,true,c.user,[]⟩] },turn:=(fo st k).turn+1 },Y2 (((ZY (fo st k) j).versions.length:Int)+1),true) from by unfold z1j;rw[if_neg (oh B.o),aa.o];simp only[ak];rw[if_neg sm,if_neg (oh l.o.2)];rfl];exact ZI aB ((Mut.below (zD HB0 u)).trans aH) (znl _) F2 (z33 aG)
end
theorem zR8 {S:Nat->Prop} {w:World} {a:Option Addr} {c:Nat} (h:YG S w [it.name,.slice a it.versions c] it):it.versions<=c/\c<=9223372036854775807/\it.versions.length<=()/\SlAt 4 yM S w a it.versions:=by
 obtain⟨_,_,b,_,d,e,n,f⟩:=z4f h;simp only[cons.injEq,Value.slice.injEq,and_true,true_and] at b;obtain⟨rfl,rfl⟩:=b;exact⟨d,e,n,f⟩
theorem zGj (v:Version):∀(l:List Version) (n:Int),z05 (l++[v]) n=z05 l n++[⟨(l:Int)+n,v.epoch,v.gone,v.who⟩]
 | [],n=>by simp[z05]
 | x::l,n=>by
  rw[cons_append,z05,zGj v l (n+1),z05,cons_append,length_cons];congr 4;omega
theorem z9m:∀(l:List Version) (n:Int),(z05 l n).length=l.length
 | [],n=>rfl
 | x::l,n=>by rw[z05,length_cons,length_cons,z9m l]
theorem zGk {l:List Version} {q:Nat} {x:Version} (hx:l[q]? =some x):z05 (l.take (q+1)) 1=z05 (l.take q) 1++[⟨(q:Int)+1,x.epoch,x.gone,x.who⟩]:=by
 rw[qLtx,hx];simp only[Option.toList_some];rw[zGj,length_take,Nat.min_eq_left (Nat.le_of_lt (zge hx).1)]
section
variable {X:Nat->Prop} {base bw:Nat} {W W':World} {R R':RM} {c:Call} {dv:Value} {st:State} {done late:Bool}
theorem zN9 (h:z3a st c k=false):z0y st c k=ZD 40:=by
 unfold z0y;rw[h];rfl
theorem zIh (h:z3a st c k=true) (hi:z00 (fo st k) c.name=none):z0y st c k=ZD 35:=by
 unfold z0y;rw[h,hi];rfl
theorem zIi {j:Nat} {L:List Past} (h:z3a st c k=true) (hi:z00 (fo st k) c.name=some j) (a:L=z05 (ZY (fo st k) j).versions 1):z0y st c k=⟨0,0,⟨#[]⟩,[],[],[],L⟩:=by
 unfold z0y;rw[h,hi,a];rfl
theorem zL8 {S:Nat->Prop} {w:World} {v:Value} {l:List Past} (h:Sl 4 z3q S w v l):yJ S w ['0','0',"",(),(),(),v] ⟨0,0,⟨#[]⟩,[],[],[],l⟩:=
 ⟨_,_,_,_,rfl,(show I64 0 from⟨om,om⟩),(show I64 0 from⟨om,om⟩),(by decide:(⟨#[]⟩:Nm).size<=140737488355328),y9,y9,y9,h⟩
theorem zL9 (h:WK X base bw W R c dv st false late) (O:VInv n st) (hn:n<=41) (hu:c.user.size<=1000) (hk:ZB st c.folder=some k):
  Calls prog 96 #[pT bw] W (Did X base bw W R c dv late (st,z0y st c k,false)):=by
 obtain⟨bn,bc,bk,a8,a9⟩:=info_parts (show(prog.info? 99).map (λi=>(i.zero,i.size,i.bytes))=some (some (.agg #['0','0',false,""]),4,40) from kr);have HK:=zh hk;have w:=zh (z0l (yO hk));have ac:=zh (O.atF w);have a1:=zh O;obtain⟨B,av⟩:=Ξ (W.alloc (.cells Z3 49));have al:=yQ W;rw[av] at al;obtain⟨ak,Y,af,V⟩:=al;have o:=ak R h;have HW:=zh o;have J:=zh af;have HB0:=zh Y;have ap:=o.lt;clear ak Y af;have bp:(cL B bw 2 c.folder:Prop):=o.cells.1 2 _ rfl;have ax:(cL B bw 3 c.name:Prop):=o.cells.1 3 _ rfl;clear h hk o O;unfold Z3 at av;go_enter func96,ntmps96
 go_wp2_with fail
 refine zcm (YK HW c.folder) ?_;rintro L _ ⟨⟨hno,rfl⟩|⟨bo,g,bK,ao,P,rfl⟩,D⟩
 ·exact ma6
 obtain rfl:_=bo:=zsi (HK.symm.trans ao);have aa:=zh D;have F:=zh P;have Z:=zh (HW.below D);obtain⟨_,_,_,_,_,_,_,_,_,_,ai,hF,br,bs,bt,bu,ay,bv,bx,bb,_⟩:=Z.fold (ZT w) P;have aU:=zh ai;clear D ao P ai hF;have bq:=zy aa ax;clear bp ax;go_wp2_with fail
 refine zcb (z9e Z w F c.name) λbB s=>?_;have ab:=zh (zD aa s);have H2:=zh (HW.below ab);have az:=zy s ay;have bF:g<bB:=zll bb s.size;have aZ:=zh (zGi H2 a1 hn hu HK F);clear s br bs bt bu ay bv bx bq;go_wp2_with fail
 refine zcb aZ λC E=>?_;have p:=zh (zD ab E);have bL:=zy E az;clear E az
 cases au:z3a st c k with
 | false=>
  have x:=zh au;go_wp2_with fail
  refine zcb (ZU _ _) λbC l=>?_;obtain⟨BW,H2,K,Q,T,U,aB,aG,aH,aI,aJ⟩:=zW p l HW V J;clear l;unfold ZV;go_wp2;try simp only[φ]
  obtain⟨m,F2⟩:=ZC K.o (.int .i64 40) '0' "" () () () ();refine zrt m ?_;rw[show(st,z0y st c k,false)=(st,ZD 40,false) from by rw[zN9 x.o]]
  exact mai
 | true=>
  have x:=zh au
  cases A:z00 (fo st k) c.name with
  | none=>
   have H:=zh A;simp only[iOf];go_wp2_with fail
   refine zcb (ZU _ _) λbC l=>?_;obtain⟨BW,H2,K,Q,T,U,aB,aG,aH,aI,aJ⟩:=zW p l HW V J;clear l;unfold ZV;go_wp2;try simp only[φ]
   obtain⟨m,F2⟩:=ZC K.o (.int .i64 35) '0' "" () () () ();refine zrt m ?_;rw[show(st,z0y st c k,false)=(st,ZD 35,false) from by rw[zIh x.o H.o]]
   exact mai
  | some j=>
   simp only[iOf];have H:=zh A;have v:=zh (z3n A);have aQ:=zh (HW.below p);obtain⟨_,_,_,_,_,L,_,_,_,bm,_,am⟩:=aQ.itCells w F v.1;have M:=aU.o;simp only[hdr,cons.injEq] at M;have ah:=M.2.2.2.2.1.symm.trans L;simp only[Value.slice.injEq] at ah;obtain⟨rfl,_,rfl⟩:=ah;have bH:(j:Int)<((fo st k).items.length:Int):=by have:=(zge v.1).1;omega
   have a2:=ζ ((ZY (fo st k) j).versions≠[]/\(ZY (fo st k) j).versions.length<=41) ⟨(ac.it _ (zmg v.1)).1,qNtx (ac.it _ (zmg v.1)).2.1 hn⟩;obtain⟨_,_,_,bA⟩:=zR8 am;have bI:(ZY (fo st k) j).versions.length<=5000:=by have:=a2.2;omega
   clear M L am A bm;generalize an:(ZY (fo st k) j).versions=f at*;have a0:=zh an;clear an;go_wp2;go_loopw [5,41] (λbz i wr=>∃(a:Nat) (d:List Past),a<=f/\i= .int .i64 a/\Hid (Grow 99 4 z3q (λ_=>False) wr C bz d)/\Hid (d=z05 (f.take a) 1)/\bW C wr) (λ_ i _=>f.length-(intOf i).toNat)
   case atStart=>exact⟨0,[],om,gn,zh Grow.nil,zh (by simp[z05]),Below.refl _ _⟩
   obtain⟨a,d,_,rfl,u,I,z⟩:=hrel;obtain⟨aL,_,a5,rfl,bd⟩:=u.shape';subst bd;have bl:=z.size;have bE:d.length<=5000:=by rw[I.o,z9m,length_take];omega
   by_cases ap:a<f
   ·obtain⟨b,q,_,aK,a4,aw,_,_,rfl,_,_,_,_,_,_,ba,aq,ar,bf,bg,bh,bi⟩:=z3v bA ap (zK z);have a3:=zh aw;have aW:=zh aq;have aX:=zh ar;obtain⟨bD,_,ag,a6,t,_⟩:=zP wr #[b.epoch,b.gone,b.who,.slice aK b.data a4] 80;obtain⟨Q,T,U⟩:=TC3 ag;have aT:=zh t;have ad:=zh (u.below z72 t);have bj:C<=bD.heap.size:=qNtx bl t.size;have aN:=zh (by rw[zGk a3.o,I.o]:d++[⟨(a:Int)+1,b.epoch,b.gone,b.who⟩]=z05 (f.take (a+1)) 1);have aY:=ζ (I64 ((a:Int)+1)) ⟨om,om⟩;have bG:(a:Int)<(f:Int):=om
    clear aw ba aq ar bf bg bh bi ag a6 t;go_wp2_with (at_builtin;go_loud (refine yZ (R:=z3q) _ _ rfl (.tmp 46) (.tmp 56) 47 rfl 99 bn _ 4 40 underlying47 bc bk a8 a9 rfl dc z72 C bj _ _ rfl ad _ _ rfl (by simp only[zS]) _ (by intro q r;exact r.elim) (show z3q _ _ _ (⟨(a:Int)+1,b.epoch,b.gone,b.who⟩:Past) from⟨rfl,aY,aW,aX⟩) om dc ?_);intro bM bN N aj a7;obtain⟨_,_,_,rfl,be⟩:=N.shape';have aO:=zh N;have aP:=zh aj;clear be N aj a7)
    go_roundw
    case rel=>exact⟨a+1,_,om,gn,aO,aN,Below.grown (zD z aT) aP.o om λq r=>(ad.base_le q r).1⟩
    case measure=>exact qMx
   obtain rfl:a=f:=om
   have aV:=zh (by have:=I.o;rwa [qLnx,<-a0.o] at this:d=z05 (ZY (fo st k) j).versions 1);have G:=zh (zD p z);have aR:=zh (HW.below G);have ae:=zh ((G.block _ V).trans J);have y:=ae.o;unfold Z3 at y;obtain⟨Q,T,U,aB,aG,aH,aI⟩:=zC7 (zB y).1;have aJ:=(zB y).2;clear y;go_wp2;try simp only[φ]
   obtain⟨m,F2⟩:=ZC ae '0' '0' "" () () () (.slice aL d a5);refine zrt m ?_;rw[zIi x.o H.o aV.o];refine ZI aR (Mut.below (zD HB0 G)) (znl _) F2 (zL8 (zR7 z72 (u.sl z72 (S:=λ_=>True) (λ_ _ _=>trivial) (λ_ _=>trivial)) (λ_ _ e=>e) (λq r=>?_)));obtain⟨_,b2⟩:=u.base_le q r;have bJ:=p.size;exact mb2
end
end Go.Proofs.YtdggplhnfhcieaaGreatDoor
