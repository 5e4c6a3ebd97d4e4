/- No condition. -/
import Derived.Test.YtdggplhnfhcieaaGreatDoorW35
set_option linter.all false
set_option maxRecDepth 100000
set_option maxHeartbeats 16000000
namespace Go.Proofs.YtdggplhnfhcieaaGreatDoor
open Go.Proofs.Tryz Cd Ce List
open Go.RowKit Go.Deep
variable {c:Call} {n:Nat} {q r:Int} {st:State}
def MayOk (w:World):Prop:=0<w.heap.size/\∀r:Nat,r<17->(cL w 0 r (.int .i64 (z1d r:Nat)):Prop)
def z7p (c:Call):Prop:=c.user.size<=20/\c.folder.size<=20/\c.name.size<=20/\c.other.size<=20
section
variable {P:Nat->Prop} {bv base bw:Nat} {w w':World} {R:RM} {st st':State} {q r:Int} {c:Call} {dv:Value} {done late:Bool}
theorem MayOk.below (h:MayOk w) (hb:(bW w w':Prop)):MayOk w':=⟨zll h.1 hb.size,λr hr=>zy hb (h.2 r hr)⟩
theorem VS.more (h:VS P bv w st q r) (hb:(bW w w':Prop)) {Q:Nat->Prop} (d:∀b,Q b->w.heap.size<=b/\b<w'.heap.size):VS (λb=>P b\/Q b) bv w' st q r:=by
 obtain⟨j,k,l,e,f⟩:=h.box;exact⟨⟨j,k,l,(hb.block bv h.lt).trans e,zM f λb i g=>⟨λa=>a.elim i λa=>by have:=(d b a).1;omega,hb.block b g⟩⟩,.inl h.pb,λb a=>a.elim (λa=>zll (h.pl b a) hb.size) λa=>(d b a).2⟩
theorem VS.less {Q:Nat->Prop} (h:VS (λb=>P b\/Q b) bv w st q r) (hp:P bv) {B:Nat->Prop} (hb:ButB B w w') (d:∀b,B b->Q b/\b≠bv):VS P bv w' st q r:=by
 obtain⟨j,k,l,f,g⟩:=h.box;exact⟨⟨j,k,l,(hb.block bv h.lt λa=>(d bv a).2 rfl).trans f,zM g λb e i=>⟨λa=>e (.inl a),hb.block b i λa=>e (.inr (d b a).1)⟩⟩,hp,λb a=>zll (h.pl b (.inl a)) hb.size⟩
theorem zVt:zDg st (z12 st c late).1 q r c.kind (z12 st c late).2.2 (z12 st c late).2.1=doV st q r c late:=rfl
theorem zIt (h:VS P bv w st q r) (N:z09 (λb=>¬P b) w (z4m c dv) c) (am:VInv n st) (hn:n<=40) (an:YY st) (hm:MayOk w) (hs:z7p c):
  Calls prog 12 #[pT bv,.agg #[.int .i64 c.kind,.string c.user,.string c.folder,.string c.name,.string c.other,.int .i64 c.role,.int .i64 c.version,dv]] w λe w'=>∃L:Array Value,e= .returned (.agg L)/\VS P bv w' (YT st q r c).1 q r/\yJ (λb=>¬P b) w' L.toList (YT st q r c).2/\ButB (·=bv) w w':=by
 obtain⟨_,_,_,ak,_⟩:=h.box;have aq:=h.lt;obtain⟨i,l,aj,bC,av,ao,ar,au,bE,bF,_⟩:=yG N;obtain rfl:dv= .slice i c.data l:=by simpa[z4m] using aj
 obtain⟨az,aw,br,bu,Y,bG⟩:=zP w (aC c i l) 41;have ay:az=w.heap.size+1:=by rw[<-aw,World.size_alloc]
 obtain⟨p,S,bs,bx,G,bH⟩:=zP az Z3 49;have bb:=zh (by rw[<-S,World.size_alloc,ay]:p=w.heap.size+2);have g:=zh (zD Y G);have a2:=ζ (p.heap[w.heap.size]? =some (.cells (aC c i l) 41 (0,0))) ((G.block _ bG).trans (by rw[<-aw];exact zJ _ rfl));have ad:=zh (by rw[<-ay,<-S];exact zJ _ rfl:p.heap[w.heap.size+1]? =some (.cells Z3 49 (0,0)));have a5:=zh (h.more g (Q:=λb=>b=w+1) λb e=>by have:b=w+1:=e;rw[bb.o];omega);have aU:=ζ (z09 (λb=>¬(P b\/b=w+1)) p (z4m c (.slice i c.data l)) c) (YH N λb bD O=>⟨λe=>e.elim bD λe=>om,g.block b O⟩);have a8:=zh h;have ab:=zh am;have aW:=zh an;have u:=zh hs;have ac:=zh aq;have a3:=zh h.pb;have a1:=zh (zHg c.kind c.user c.folder c.name c.other c.role c.version i c.data l av ao ar au p (hm.below g).1 (hm.below g).2);have bI:=zy g (ψ ak 6 _ rfl);obtain⟨y,z,A,B,C,D,E,F⟩:=zC8 (zB a2).1;clear h N am an hm hs ak aq aj br bu Y bs bx G bH bC av ao ar au bE bF;unfold Z3 at S;go_enter func12,ntmps12
 go_wp2_with fail
 refine zcb a1 λbX a=>?_;have Z:=zh (zD g a);have t:=zh ((a.block _ (zI ad)).trans ad);have af:=zh (a5.below a);have aV:=zh (YH aU (zK a));replace y:=zy a y;replace z:=zy a z;replace A:=zy a A;replace B:=zy a B;replace C:=zy a C;replace D:=zy a D;replace E:=zy a E;replace F:=zy a F;clear a bI;have ap:z58 Z1 c.kind c.user c.folder c.name c.other c.role c.version (c.data:Int)=z5s c:=rfl;rw[ap];clear ap
 cases o:z5s c with
 | false=>
  have J:=zh (by unfold YT;rw[o];rfl:YT st q r c=(st,ZD 13));clear y z A B C D E F o;go_wp2_with fail
  refine zcb (ZU _ _) λbK f=>?_;have aa:=zh (zD Z f);have k:=zh ((f.block _ (zI t)).trans t);clear f;have d:=k.o;unfold Z3 at d;obtain⟨bN,bO,bP,bQ,bR,bS,bT⟩:=zC7 (zB d).1;have bU:=(zB d).2;clear d;unfold ZV;go_wp2;try simp only[φ]
  obtain⟨H,j⟩:=ZC k (.int .i64 13) '0' "" () () () ();refine bodyPost_ret (results_cell_row rfl _ _ (w.heap.size+1) 49 _ (0,0) _ rfl H underlying49 rfl kr) rfl ?_;have al:=ButB.below aa aa.size (λW U=>by have:W=w+1:=U;omega) j;rw[J.o]
  exact⟨_,rfl,a8.below al,ZW ⟨om,om⟩,ButB.of al⟩
 | true=>
  obtain⟨K,ah⟩:=zAb o u.1 u.2.1 u.2.2.1 u.2.2.2;have J:=zh (by unfold YT;rw[o];rfl:YT st q r c=doV st q r c false);have a4:=zh (zTz af aV ab hn aW K ah false);have aZ:=zh (zIs (zB2 (late:=false) ab K) om);clear o K ah;go_wp2_with fail
  refine zcm a4 ?_;rintro _ bJ ⟨_,bw,R,L,rfl,bB,X,M,x⟩;obtain⟨aB,bj,aH,bl,aJ,bn,aL,bp,rfl⟩:=Y6 x;generalize T:z12 st c false=bL at M x;have a9:=zh T;obtain⟨V,ag,bt⟩:=bL;obtain⟨_,_,ai,bz,s,_⟩:=zP bJ (aA ag aB bj aH bl aJ bn aL bp) 49;have I:=zh (zD X s);have a6:=zh (af.below I);have aO:=zh (M.below s);have aP:=zh (yY x (Mut.below (bw:=bw) (R:=R) s).kept);have ae:=zh ((I.block _ (zI t)).trans t);have aR:=zh (zD Z I);have a0:=zh (by have:=aZ.o;rw[T] at this;exact this:Bd.smallOf V<=1000000/\Bd.largeOf V<=1000000);have aY:=zh (zU2 aO a6 aP a0);obtain⟨bc,bd,be,bf,bg,bh,bi⟩:=TC7 ai;clear X M x T ai bz s y z A B C D E F bB;go_wp2_with fail
  refine zcm aY ?_;rintro bV bK ⟨_,rfl,v,m,f⟩;have aX:=zh (by rw[<-zVt,a9.o]:zDg st V q r c.kind bt ag=doV st q r c false);rw[aX.o] at v m;generalize ax:doV st q r c false=bM at v m;have ba:=zh ax;obtain⟨_,b⟩:=bM;obtain⟨aG,bk,aI,bm,aK,bo,aN,bq,rfl⟩:=Y6 m;have a7:=zh v;have aQ:=zh m;have aT:=zh f;have k:=zh ((f.block _ (zI ae) (λe=>by have:w+1=bv:=e;have:=ac.o;omega)).trans ae);clear v m f ax bc bd be bf bg bh bi;have d:=k.o;unfold Z3 at d;obtain⟨bN,bO,bP,bQ,bR,bS,bT⟩:=zC7 (zB d).1;have bU:=(zB d).2;clear d;go_wp2;try simp only[φ]
  obtain⟨H,j⟩:=ZC k b.err b.number b.who (.slice aG b.data bk) (.slice aI b.names bm) (.slice aK b.members bo) (.slice aN b.history bq);refine bodyPost_ret (results_cell_row rfl _ _ (w.heap.size+1) 49 _ (0,0) _ rfl H underlying49 rfl kr) rfl ?_;rw[J.o,ba.o];refine⟨_,rfl,a7.less a3 j λb e=>⟨e,λh=>by have:b=w+1:=e;have:=ac.o;omega⟩,yY aQ λb hn O=>⟨λe=>hn (.inl e),j.block b O λe=>hn (.inr e)⟩,?_⟩;have bA:ButB (·=bv) w _:=ButB.of aR;exact zDh (bA.trans aT) j (λW U=>by have:W=w+1:=U;omega)
end
def zHm (x:Call):Bool:=decide (x.user.size<=20)&&decide (x.folder.size<=20)&&decide (x.name.size<=20)&&decide (x.other.size<=20)&&decide (x.data.length<=600)
def zDi (l:List Call):Bool:=l.all zHm&&decide (l.length<=40)
theorem zFh {x:Call}:zHm x=true↔x.user.size<=20/\x.folder.size<=20/\x.name.size<=20/\x.other.size<=20/\x.data.length<=600:=by
 unfold zHm;simp only[qBqx,decide_eq_true_eq,and_assoc]
theorem zVw (l:List Call) (v:Value) (w:World) (S:Nat->Prop) (h:Sl 8 z09 S w v l):
  (kB 20 #[v] w (zDi l):Prop):=by
 obtain⟨_,_,rfl,_,F,_,I⟩:=h;unfold maxLen at F;go_enter func20,ntmps20
 go_wp2;go_loopw [7] (λm wr=>∃(b:Nat),b<=l/\m= .int .i64 b/\Hid (∀f∈l.take b,zHm f=true)/\bW w wr) (λm _=>l.length-(intOf m).toNat)
 case atStart=>exact⟨0,om,gn,(λf e=>by simp at e),gg⟩
 obtain⟨b,_,rfl,o,i⟩:=hrel;have W:=i.size;by_cases G:b<l
 rotate_left
 ·obtain rfl:b=l:=om
  have g:=zh (show zDi l=decide ((l:Int)<=40) by
   have p:=o.o;rw[qLnx] at p;unfold zDi;rw[all_eq_true.2 p,Bool.true_and];exact decide_eq_decide.2 om)
  go_wp2;go_ret;exact⟨ZM g.symm,i⟩
 obtain⟨a,_,_,_,_,k,_,j,rfl,_,_,_,_,_,_,_,_,_,_,H,_⟩:=zJq I G (zK i);obtain⟨B,C,D,E⟩:a.user.size<=()/\a.folder.size<=()/\a.name.size<=()/\a.other.size<=():=by obtain⟨_,_,_,J,K,L,M,_⟩:=H;exact⟨J,K,L,M⟩
 cases d:zHm a with
 | true=>
  obtain⟨u,x,y,z,A⟩:=zFh.1 d;have N:decide ((20:Int)<(a.user.size:Int))=false:=η;have O:decide ((20:Int)<(a.folder.size:Int))=false:=η;have Q:decide ((20:Int)<(a.name.size:Int))=false:=η;have T:decide ((20:Int)<(a.other.size:Int))=false:=η;have U:decide ((600:Int)<(a.data:Int))=false:=η;have s:=zh (show ∀f∈l.take (b+1),zHm f=true by
   rw[qLtx,k];intro f e;rcases zmb e with e|e
   ·exact o.o f e
   ·obtain rfl:f=a:=by simpa using e
    exact d)
  clear k j d u x y z A B C D E;go_wp2;go_roundw
  case rel=>exact⟨b+1,om,gn,s,gg⟩
  case measure=>exact qMx
 | false=>
  have g:=zh (show zDi l=false by
   unfold zDi;rw[Bool.and_eq_false_iff];exact .inl (all_eq_false.2 ⟨a,j,by rw[d];decide⟩))
  have t:=ζ (¬(a.user.size<=20/\a.folder.size<=20/\a.name.size<=20/\a.other.size<=20/\a.data.length<=600)) (λh=>by rw[zFh.2 h] at d;cases d);clear k j d;go_wp2
  all_goals first
   | (go_ret;exact⟨ZM g.symm,gg⟩)
   | (exfalso;have V:=t.o;simp_all;omega)
theorem zU5 {late:Bool} (h:YY st) (a:c.data.length<=512):YY (doV st q r c late).1:=by
 unfold doV;exact ZH (λ_=>ZH (λ_=>h) λ_=>zRt h a late) λ_=>h
theorem z7q (h:VInv n st) (a:YY st) (hs:z7p c):VInv (n+1) (YT st q r c).1/\YY (YT st q r c).1:=by
 unfold YT
 cases b:z5s c with
 | false=>exact⟨h.mono om,a⟩
 | true=>
  obtain⟨d,e⟩:=zAb b hs.1 hs.2.1 hs.2.2.1 hs.2.2.2;exact⟨zRq h d,zU5 a e⟩
def cA1:Call:=⟨1,⟨#[97]⟩,⟨#[]⟩,⟨#[]⟩,⟨#[]⟩,0,0,[]⟩
def cA2:Call:=⟨2,⟨#[97]⟩,⟨#[102]⟩,⟨#[]⟩,⟨#[]⟩,0,0,[]⟩
def cA3:Call:=⟨8,⟨#[97]⟩,⟨#[102]⟩,⟨#[120]⟩,⟨#[]⟩,0,0,[]⟩
noncomputable def sA1:State×Answer:=YT ⟨0,[],[],[]⟩ 1048576 1000 cA1
noncomputable def sA2:State×Answer:=YT sA1.1 1048576 1000 cA2
noncomputable def sA3:State×Answer:=YT sA2.1 1048576 1000 cA3
theorem eA1:sA1.2.err=0:=kr
theorem eA2:sA2.2.err=0:=kr
theorem eA3:sA3.2.err=0/\sA3.2.number=1:=⟨kr,kr⟩
theorem eA4:sA3.1.folders.map (λf=>f.items.length)=[1]:=kr
theorem zRy:z7p cA1:=⟨dc,dc,dc,dc⟩
theorem zRz:z7p cA2:=⟨dc,dc,dc,dc⟩
theorem zS0:z7p cA3:=⟨dc,dc,dc,dc⟩
theorem iA0:YY ⟨0,[],[],[]⟩:=λb a=>by cases a
theorem iA1:VInv 1 sA1.1/\YY sA1.1:=z7q VInv.start iA0 zRy
theorem iA2:VInv 2 sA2.1/\YY sA2.1:=z7q iA1.1 iA1.2 zRz
theorem iA3:VInv 3 sA3.1/\YY sA3.1:=z7q iA2.1 iA2.2 zS0
theorem zWq {S:Nat->Prop} {w:World} (c:Call) (hk:I64 c.kind) (hs:z7p c) (hr:c.role=0/\c.version=0/\c.data=[]):z09 S w (z4m c ()) c:=by
 obtain⟨_,_⟩:=hs;obtain⟨a,b,d⟩:=hr;refine⟨_,rfl,hk,om,om,om,om,?_,?_,?_⟩
 ·rw[a];exact⟨om,om⟩
 ·rw[b];exact⟨om,om⟩
 rw[d];exact z1p _ _ _ _
theorem zP6 (e n:Int) (s:Nm) (a b d f:Value) (w:World):(Instr.field 49 (.agg #[e,n,s,a,b,d,f]) 0).run prog w= .ok e w:=kr
section
variable {P:Nat->Prop} {bv:Nat} {w:World}
theorem zHn {e:Int} (h:VS P bv w st q r) (o:VInv n st) (hn:n<=40) (t:YY st) (hm:MayOk w) (hs:z7p c) (hk:I64 c.kind) (hr:c.role=0/\c.version=0/\c.data=[]) (u:(YT st q r c).2.err=e):
  Calls prog 12 #[pT bv,.agg #[.int .i64 c.kind,.string c.user,.string c.folder,.string c.name,.string c.other,.int .i64 c.role,.int .i64 c.version,()]] w λx w'=>∃a i d j f k g l,x= .returned (.agg #[e,.int .i64 (YT st q r c).2.number,.string (YT st q r c).2.who,.slice a (YT st q r c).2.data.length i,.slice d (YT st q r c).2.names.length j,.slice f (YT st q r c).2.members.length k,.slice g (YT st q r c).2.history.length l])/\VS P bv w' (YT st q r c).1 q r/\ButB (·=bv) w w':=by
 refine zcm (zIt h (zWq c hk hs hr) o hn t hm hs) ?_;rintro x w' ⟨_,rfl,m,p,s⟩;obtain⟨a,i,d,j,f,k,g,l,rfl⟩:=Y6 p;rw[u];exact⟨_,_,_,_,_,_,_,_,rfl,m,s⟩
end
theorem zS1 (w:World) (hm:MayOk w):(kB 8 #[] w true:Prop):=by
 have s:=zh hm;have aW:=zP6;clear hm;go_enter func8,ntmps8
 go_wp2_with fail
 refine zcm (zLi w 1048576 1000 ⟨om,om⟩) ?_;rintro _ _ ⟨rfl,G,z⟩;have o:=zh z;have ae:=zh G;clear G z;go_wp2_with fail
 refine zcm (zHn (c:=cA1) ae VInv.start om iA0 (s.below o) zRy ⟨dc,dc⟩ ⟨rfl,rfl,rfl⟩ eA1) ?_;rintro _ aR ⟨_,_,_,_,_,_,_,_,rfl,H,A⟩;have p:=zh (ButB.below o o.size (λg f=>by have:g=w:=f;omega) A);have af:=ζ (VS (·=w) w aR sA1.1 1048576 1000) H;clear H A;go_wp2_with fail
 refine zcm (zHn (c:=cA2) af iA1.1 om iA1.2 (s.below p) zRz ⟨dc,dc⟩ ⟨rfl,rfl,rfl⟩ eA2) ?_;rintro _ y ⟨U,ap,V,aq,D5,ar,W,au,rfl,I,B⟩;have ab:=zh (ButB.below p p.size (λg f=>by have:g=w:=f;omega) B);have E:=ζ (VS (·=w) w y sA2.1 1048576 1000) I;clear I B;obtain⟨aZ,aP,an,aB,m,_⟩:=zP y #['0',.int .i64 (YT sA1.1 1048576 1000 cA2).2.number,.string (YT sA1.1 1048576 1000 cA2).2.who,.slice U (YT sA1.1 1048576 1000 cA2).2.data.length ap,.slice V (YT sA1.1 1048576 1000 cA2).2.names.length aq,.slice D5 (YT sA1.1 1048576 1000 cA2).2.members.length ar,.slice W (YT sA1.1 1048576 1000 cA2).2.history.length au] 49;have u:=zh (zD ab m);have F:=zh (E.below m);clear an aB m;go_wp2_with fail
 refine zcm (zHn (c:=cA3) F iA2.1 om iA2.2 (s.below u) zS0 ⟨dc,dc⟩ ⟨rfl,rfl,rfl⟩ eA3.1) ?_;rintro _ O ⟨X,aw,Y,ax,Z,ay,aa,az,rfl,J,l⟩;have ac:=zh (ButB.below u u.size (λg f=>by have:g=w:=f;omega) l);have C:=zh l;have ag:=ζ (VS (·=w) w O sA3.1 1048576 1000) J;clear J l;rw[show(YT sA2.1 1048576 1000 cA3).2.number=1 from eA3.2];obtain⟨a0,aQ,ao,aG,h,_⟩:=zP O #['0','1',.string (YT sA2.1 1048576 1000 cA3).2.who,.slice X (YT sA2.1 1048576 1000 cA3).2.data.length aw,.slice Y (YT sA2.1 1048576 1000 cA3).2.names.length ax,.slice Z (YT sA2.1 1048576 1000 cA3).2.members.length ay,.slice aa (YT sA2.1 1048576 1000 cA3).2.history.length az] 49;have t:=zh (zbx aP);have D:=zh (zbx aQ);have aj:=zh (zD ac h);have ah:=zh (ag.below h);have ad:=zh ((h.block _ (zll (zI t) C.size)).trans ((C.block _ (zI t) (λav=>by have aV:y=w.heap.size:=av;have:=F.pl _ rfl;have:=E.lt;omega)).trans t));clear ao aG h;go_wp2_with fail
 refine zcm (zGr ah (zHk iA3.1 om iA3.2)) ?_;rintro _ aT ⟨_,rfl,N,b⟩;obtain⟨Q,ak,S,al,T,am,aJ,_,_,_,_,_,_,_,_,_,aN,_,aO,v⟩:=ZF N;subst aJ;have j:=eA4;obtain⟨i,hF⟩:=Ξ sA3.1.folders;rw[hF] at aN v j⊢;obtain⟨e,rfl⟩:∃e,i=[e]:=by
  have aI:i.length=1:=by have:=congrArg length j;simpa using this
  exact length_eq_one_iff.1 aI
 have aL:e.items.length=1:=by simpa using j
 rw[show[e].length=1 from rfl];obtain⟨_,_,K,aH,a,_⟩:=zP aT #[sA3.1.turn,.slice Q sA3.1.users.length ak,.slice S sA3.1.deposits.length al,.slice T 1 am] 34;obtain⟨_,_,_,rfl,aK,M,L⟩:=SlAt.elem v (k:=0) (x:=e) rfl dc a;obtain⟨_,_,_,_,_,_,_,_,_,_,rfl,_⟩:=Z9 M;have aU:=L 4 _ rfl;rw[aL] at aU;have a1:=zy (zD b a) (ψ D 0 _ rfl);have a2:=zy (zD b a) (ψ D 1 _ rfl);have aY:=zy (zD b a) (ψ ad 0 _ rfl);have aX:=K 3 _ rfl;have ai:=zh (zD aj (zD b a));clear aO N v M L j hF aK K aH a b;go_wp2;go_ret;exact⟨rfl,ai.o⟩
theorem zU6 {l:List Call} (h:zDi l=true):l.length<=40/\∀x∈l,z7p x:=by
 unfold zDi at h;rw[qBqx,decide_eq_true_eq,all_eq_true] at h;exact⟨h.2,λx f=>by obtain⟨a,b,d,e,_⟩:=zFh.1 (h.1 x f);exact⟨a,b,d,e⟩⟩
end Go.Proofs.YtdggplhnfhcieaaGreatDoor
