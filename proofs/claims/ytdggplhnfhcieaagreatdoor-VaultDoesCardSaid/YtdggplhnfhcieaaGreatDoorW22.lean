/- No condition. -/
import Derived.Test.YtdggplhnfhcieaaGreatDoorW20
set_option linter.all false
set_option maxRecDepth 100000
namespace Go.Proofs.YtdggplhnfhcieaaGreatDoor
open Go.Proofs.Tryz Cd Ce List
open Go.RowKit Go.Deep
variable {v:Value} {w:World}
theorem zUa {a:Type} {sz:Nat} {Q:Rp a} {S:Nat->Prop} {l:List a} (h:Sl sz Q TT w v l) (hv:∀b,v.ownBlock=some b->S b) (j:∀{c:List Value} {x:a},Q TT w c x->Q S w c x):Sl sz Q S w v l:=by
 obtain⟨d,e,rfl,k,m,n,o⟩:=h;refine⟨d,e,rfl,k,m,n,λq x p=>?_⟩;obtain⟨b,r,s,rfl,_,f,g,i⟩:=o q x p;exact⟨b,r,s,rfl,hv b rfl,f,g,j i⟩
def cW (x:Wrap):List Value:=[.string x.name,.int .i64 x.epoch,.bool x.seed]
theorem zUb {l:List Wrap} (h:RowC 149 3 w v (l.map cW)) (hl:l.length<=10000) (hx:∀x∈l,x.name.size<=()/\I64 x.epoch):Sl 3 yL TT w v l:=
 z1h (S:=TT) z08 h (by rw[qLmx];exact hl) ⟨qLmx _,λd x c b a=>by
  rw[getElem?_map,a] at b;obtain rfl:=zsi b;exact⟨rfl,(hx c (zmg a)).1,(hx c (zmg a)).2⟩⟩
def z5o (eps:List Epoch) (name:Nm) (seed:Bool) (d:Bool) (w:Wrap):List Wrap:=if w.name=name then[if z19 eps w seed then w else⟨name,eps,seed⟩] else if !d&&ltS name w.name then[⟨name,eps,seed⟩,w] else[w]
def z8i (name:Nm) (d:Bool) (w:Wrap):Bool:=decide (w.name=name)||(d||ltS name w.name)
theorem zOb (eps:List Epoch) (name:Nm) (seed d:Bool) (w:Wrap) (r:List Wrap):z43 eps name seed d (w::r)=z5o eps name seed d w++z43 eps name seed (z8i name d w) r:=by
 conv=>lhs;unfold z43
 unfold z5o z8i;by_cases a:w.name=name
 ·rw[if_pos a,if_pos a,Δ a];rfl
 rw[if_neg a,if_neg a,Γ a];cases d<;>cases ltS name w.name<;>rfl
theorem zA6 (x:Wrap):∀u∈cW x,u.oneCell'=true:=λu a=>by
 unfold cW at a;rcases mem_cons.1 a with rfl|a
 ·rfl
 rcases mem_cons.1 a with rfl|a
 ·rfl
 rcases zml a
 rfl
theorem z8s (l:List Wrap) (x:Wrap):l.map cW++[cW x]=(l++[x]).map cW:=sm
theorem z6f {w1 wr wb f:World} {d:Value} (hb:(bW w1 wr:Prop)) (a:(bW w1 wb:Prop)) (e:∀b,v.ownBlock=some b->w1.heap.size<=b) (g:wb.grownBy f v.ownBlock) (c:d.ownBlock=v.ownBlock\/∃k,d.ownBlock=some k/\wb.heap.size<=k):
  bW w1 f/\∀b,d.ownBlock=some b->w1.heap.size<=b:=
 ⟨Below.grown a g a.size e,λb hb=>by
  rcases c with c|⟨k,h,i⟩
  ·exact e b (c▸hb)
  ·obtain rfl:k=b:=zsi (h.symm.trans hb);exact qNtx a.size i⟩
theorem zXa {pb:Nat} {T:TypeId} {f b a:Value} (h:w.heap[pb]? =some (.cells #[f,b,a] T (0,0))) (a0 a1 a2:Value):
  (((w.setCell (aD pb 0) a0).setCell (aD pb 1) a1).setCell (aD pb 2) a2).heap[pb]? =some (.cells #[a0,a1,a2] T (0,0))/\ButB (·=pb) w (((w.setCell (aD pb 0) a0).setCell (aD pb 1) a1).setCell (aD pb 2) a2):=by
 have c:=zH (i:=0) (cs':=#[a0,b,a]) a0 h rfl;have d:=zH (i:=1) (cs':=#[a0,a1,a]) a1 c rfl;have e:=zH (i:=2) (cs':=#[a0,a1,a2]) a2 d rfl;exact⟨e,(((ButB.refl (·=pb) w).set _ _ rfl).set _ _ rfl).set _ _ rfl⟩
set_option maxHeartbeats 4000000 in
theorem z9v (f:Folder) (hr:z0v f.wraps) (name:Nm) (hn:name.size<=()) (seed:Bool) (hl:f.wraps.length<=4500) (aO:List Value) (w:World) (S:Nat->Prop) (h:Z6 S w aO f):
  Calls prog 115 #[.agg aO.toArray,name,seed] w λe w'=>(∃v,e= .returned v/\Sl 3 yL (λb=>w<=b) w' v (YI f.epochs name seed f.wraps))/\bW w w':=by
 have aI:=zh h;have bh:=zh hr;have bj:=zh hn;obtain⟨aT,aY,aU,aZ,aV,a0,aW,a1,aX,a2,rfl,cg,ci,cd,ce,cf,bw,b4,b5,b6,bt,b7,b8,b9,bu,cj,ck,cl,a3,ca,cb,cc,bv⟩:=Z9 h;obtain⟨K,u,D,G,H⟩:=info_parts (show(prog.info? 149).map (λr=>(r.zero,r.size,r.bytes))=some (some (.agg #["",'0',false]),3,32) from kr);obtain⟨bJ,a7,aP,bx,aB,bE⟩:=zP w (aF f aT aY aU aZ aV a0 aW a1 aX a2) 74;obtain⟨L,aw,bo,bz,aG,bF⟩:=zP bJ #[name,f.epochs.length,seed] 149;have ao:=ZJ (by rw[<-aw,<-a7];exact zR _ (zJ _ rfl):L.heap[w.heap.size]? =some (.cells (aF f aT aY aU aZ aV a0 aW a1 aX a2) 74 (0,0)));have aL:=ZJ (zbx aw);have A:=zh (zD aB aG);have bi:=zh ao;have an:=zh aL;have bT:=Below.refl L L;obtain⟨_,_,_,cq,_,cr⟩:=TC6 ao.a;have bS:=aP 3 _ rfl;clear aP bx bo bz aB bE aG bF bw bt bu bv h;go_enter func115,ntmps115
 go_wp2_with fail
 clear bS a7 aw ao aL;go_loopw [9,10,11] (λa9 bI r wr=>∃(j:Nat) (d:Bool) (o:List Wrap),j<=f.wraps/\bI= .bool d/\r= .int .i64 j/\o.length<=2*j/\Hid (o++z43 f.epochs name seed d (f.wraps.drop j)=z43 f.epochs name seed false f.wraps)/\Hid (RowC 149 3 wr a9 (o.map cW))/\Hid (∀b,a9.ownBlock=some b->L.heap.size<=b)/\bW L wr) (λ_ _ r _=>f.wraps.length-(intOf r).toNat)
 case atStart=>exact⟨0,false,[],om,rfl,gn,sm,rfl,RowC.nil _,(λb l=>by cases l),Below.refl _ _⟩
 obtain⟨j,d,o,co,rfl,rfl,cp,R,T,E,n⟩:=hrel;obtain⟨M,rfl⟩:=ξ wr;by_cases bB:j<f.wraps
 rotate_left
 ·obtain rfl:j=f.wraps:=om
  rw[drop_length] at R;have aJ:=zh (zG4 f.epochs name seed bh);have aH:=zh (show ∀a∈YI f.epochs name seed f.wraps,a.name.size<=()/\I64 a.epoch from λa ax=>by
   rcases z9f ax with rfl|ax
   ·exact⟨bj,by constructor<;>simp<;>omega⟩
   ·obtain⟨r,u⟩:=getElem?_of_mem ax;obtain⟨_,_,cF,_,_,_,_,a6⟩:=a3 r a u;exact⟨a6.2.1,a6.2.2⟩)
  cases d with
  | true=>
   have Q:=zh (by rw[<-aJ.o,<-R.o];unfold z43;simp:o=YI f.epochs name seed f.wraps);go_wp2;go_ret
   exact⟨⟨_,rfl,Q.o▸zUa (zUb T om (Q.o▸aH)) (λb l=>qNtx A.size (E.o b l)) λh=>h⟩,zD A.o n⟩
  | false=>
   have Q:=zh (by rw[<-aJ.o,<-R.o];unfold z43;simp:o++[(⟨name,f.epochs,seed⟩:Wrap)]=YI f.epochs name seed f.wraps);have t:=an.on n;have y:=t _ zbr;obtain⟨X,Y,Z⟩:=zC3 (zB y).1;clear t y;go_wp2_with (at_builtin;refine YD M (cW ⟨name,f.epochs,seed⟩) rfl (.tmp 79) (.tmp 81) 71 rfl K _ 32 underlying71 u D G H rfl dc dc _ _ rfl T (by rw[qLmx];omega) rfl (zA6 _) _ _ rfl rfl ?_;intro af ag c i k;rw[z8s] at c;have p:=zh c;have g:=zh (z6f n n E i k);clear c i k)
   go_ret;exact⟨⟨_,rfl,Q.o▸zUa (zUb p (by simp;omega) (Q.o▸aH)) (λb l=>qNtx A.size (g.2 b l)) λh=>h⟩,zD A.o g.1⟩
 have be:=zh (zD A n);obtain⟨a,cA,cD,bO,bb,bP,rfl,cB,cz,cw,cx,cy,bM,cC,bN⟩:=z8u a3 bB (zK be);have ac:=zh (by rw[<-zOb,<-bb];exact R:o++(z5o f.epochs name seed d a++z43 f.epochs name seed (z8i name d a) (f.wraps.drop (j+1)))=z43 f.epochs name seed false f.wraps);obtain⟨z,bD,aQ,a4,aj,bG⟩:=zP M #[a.name,a.epoch,a.seed] 149;have P:=zh (zbx bD);have F:=zD n aj;have aa:=zh (T.below aj);have am:=zh T.lt;have aK:=ζ (L<=M.heap.size/\M<z.heap.size) ⟨n.size,bG⟩;obtain⟨ap,aq,V⟩:=TC3 aQ;have aR:=a4;clear bO bb bP bM aQ a4 aj T R;by_cases J:a.name=name
 rotate_left
 ·have bC:(a.name.toList==name.toList)=false:=YX J;have s:=zh J;have t:=an.on F;have y:=t _ zbr;obtain⟨X,Y,Z⟩:=zC3 (zB y).1;have ak:=zh F;clear J t y;by_cases x:d=false/\ltS name a.name=true
  ·obtain⟨rfl,x⟩:=x;have l:Op.bytesLess a.name.toList name.toList=false:=z2y x;have m:=zh (by unfold z5o z8i;rw[if_neg s.o,x,Γ s.o];exact⟨rfl,rfl⟩:z5o f.epochs name seed false a=[⟨name,f.epochs,seed⟩,a]/\z8i name false a=true);clear x;go_upto_region 17 with (at_builtin;refine YD z (cW ⟨name,f.epochs,seed⟩) rfl (.tmp 69) (.tmp 71) 71 rfl K _ 32 underlying71 u D G H rfl dc dc _ _ rfl aa (by rw[qLmx];omega) rfl (zA6 _) _ _ rfl rfl ?_;intro cs bK az ar a8;rw[z8s] at az)
   have bl:=zh az;have al:=zh (z6f n ak E ar a8);have ba:=(ar.block _ (zI P) λe=>Nat.lt_irrefl _ (am.o _ e.symm)).trans P;obtain⟨ct,cu,cv⟩:=zC3 (zB ba).1;clear ba az ar a8 ap aq V aR X Y Z;go_wp2_with (at_builtin;refine YD bK (cW a) rfl (.tmp 73) (.tmp 75) 71 rfl K _ 32 underlying71 u D G H rfl dc dc _ _ rfl bl (by rw[qLmx,qLax,length_singleton];omega) rfl (zA6 a) _ _ rfl rfl ?_;intro af ag c i k;rw[z8s] at c;have p:=zh c;have g:=zh (z6f al.1 al.1 al.2 i k);clear c i k)
   go_roundw
   case rel=>exact⟨j+1,true,o++[(⟨name,f.epochs,seed⟩:Wrap)]++[a],om,rfl,gn,by simp;omega,(by rw[append_assoc,append_assoc,<-ac.o,m.o.1,m.o.2];exact zh rfl),p,g.2,g.1⟩
   case measure=>exact qMx
  have m:=zh (show z5o f.epochs name seed d a=[a]/\z8i name d a=d by
   unfold z5o z8i;rw[if_neg s.o,Γ s.o]
   cases d with
   | true=>exact⟨rfl,rfl⟩
   | false=>
    have:ltS name a.name=false:=Bool.eq_false_iff.2 λe=>x ⟨rfl,e⟩
    rw[this];exact⟨rfl,rfl⟩)
  have l:d=false->Op.bytesLess a.name.toList name.toList=true:=λe=>zKh (Ne.symm s) (Bool.eq_false_iff.2 λj=>x ⟨e,j⟩)
  clear x X Y Z;cases d
  ·replace l:=l rfl;go_wp2_with (at_builtin;refine YD z (cW a) rfl (.tmp 73) (.tmp 75) 71 rfl K _ 32 underlying71 u D G H rfl dc dc _ _ rfl aa (by rw[qLmx];omega) rfl (zA6 a) _ _ rfl rfl ?_;intro af ag c i k;rw[z8s] at c;have p:=zh c;have g:=zh (z6f n ak E i k);clear c i k)
   go_roundw
   case rel=>exact⟨j+1,false,o++[a],om,rfl,gn,by simp;omega,(by rw[append_assoc,<-ac.o,m.o.1,m.o.2];exact zh rfl),p,g.2,g.1⟩
   case measure=>exact qMx
  clear l;go_wp2_with (at_builtin;refine YD z (cW a) rfl (.tmp 73) (.tmp 75) 71 rfl K _ 32 underlying71 u D G H rfl dc dc _ _ rfl aa (by rw[qLmx];omega) rfl (zA6 a) _ _ rfl rfl ?_;intro af ag c i k;rw[z8s] at c;have p:=zh c;have g:=zh (z6f n ak E i k);clear c i k)
  go_roundw
  case rel=>exact⟨j+1,true,o++[a],om,rfl,gn,by simp;omega,(by rw[append_assoc,<-ac.o,m.o.1,m.o.2];exact zh rfl),p,g.2,g.1⟩
  case measure=>exact qMx
 have bC:(a.name.toList==name.toList)=true:=by rw[J];simp
 have s:=zh J;clear J;go_upto_region 11 with fail
 go_cut [13] from 21 to 76 (λbH ah=>bH= .bool (a.seed&&decide (z0d f.epochs a.epoch=z0d f.epochs f.epochs))/\bW z ah)
 case first=>
  cases W:a.seed with
  | false=>
   rw[W] at V;go_quiet (fail)
   go_wp2;go_meet
   case rel=>exact⟨by rw[W];rfl,⟨rfl,rfl,rfl,znl _,λ_ _=>rfl⟩⟩
  | true=>
   rw[W] at V;have aN:=bi.on F;have q:=ZJ P;rw[W] at q;obtain⟨bX,bY,bZ,b0,b1,b2,b3⟩:=TC7 aN.a;obtain⟨_,bQ,bR⟩:=TC3 q.a;clear aN q ap aq V;have bf:=zh λC (au:(bW z C:Prop))=>zBs f a.epoch bN _ C TT (zV aI (zH5 (zD A (zD F au))))
   have bg:=zh λC (au:(bW z C:Prop))=>zBs f f.epochs (by constructor<;>omega) _ C TT (zV aI (zH5 (zD A (zD F au))))
   go_region_held3 (λC=>(bW z C:Prop)) (first|exact zbr.drew|exact Below.drew (by assumption)|exact zD (by assumption) (by assumption)) (first|(go_at_call_of 154 a.epoch;refine zcm (bf.o _ (by assumption)) ?_;rintro e bU ⟨rfl,cm⟩)|(go_at_call_of 154 ((f.epochs.length:Nat):Int);refine zcm (bg.o _ (by assumption)) ?_;rintro e bV ⟨rfl,cn⟩))
   go_wp2;go_meet
   case rel=>exact⟨by rw[W];rfl,by assumption⟩
 obtain⟨rfl,O⟩:=hcut;obtain⟨bL,rfl⟩:=ξ wc;rename_i bm a5;refine a5 _ _ ?_;clear a5 bm;obtain⟨sm,av⟩:=Ξ (a.seed&&decide (z0d f.epochs a.epoch=z0d f.epochs f.epochs));rw[av];have U:=zh av;have ae:=zD F O;have q:=zh ((O.block _ (zI P)).trans P);have t:=an.on ae;have y:=(t _ zbr);obtain⟨X,Y,Z⟩:=zC3 (zB y).1;obtain⟨bp,bq,br⟩:=zC3 (zB q.o).1;have bs:=(zB q.o).2;clear av t y ap aq V aR;go_cut [] from 21 to 76 (λah=>Hid (ah.heap[M.heap.size]? =some (.cells (cW (if z19 f.epochs a seed then a else⟨name,f.epochs,seed⟩)).toArray 149 (0,0)))/\ButB (·=M) bL ah)
 case first=>
  have ab:=zh (zXa q.o name f.epochs seed)
  cases sm with
  | true=>
   have B:=zh (by unfold z19;rw[U.o];rfl:z19 f.epochs a seed=true);go_wp2;go_meet
   case rel=>exact⟨by rw[B.o];exact q.o,ButB.refl _ _⟩
  | false=>
   cases seed with
   | true=>
    have B:=zh (by unfold z19;rw[U.o];rfl:z19 f.epochs a true=false);go_wp2;go_meet
    case rel=>exact⟨by rw[B.o];exact ab.1,ab.2⟩
   | false=>
    by_cases I:a.epoch=(f.epochs:Int)
    ·have B:=zh (by unfold z19;rw[Δ I,U.o];rfl:z19 f.epochs a false=true);have bA:(a.epoch !=(f.epochs:Int))=false:=by simpa using I
     clear I;go_wp2;go_meet
     case rel=>exact⟨by rw[B.o];exact q.o,ButB.refl _ _⟩
    have B:=zh (by unfold z19;rw[Γ I,U.o];rfl:z19 f.epochs a false=false);have bA:(a.epoch !=(f.epochs:Int))=true:=by simpa using I
    clear I;go_wp2;go_meet
    case rel=>exact⟨by rw[B.o];exact ab.1,ab.2⟩
 obtain⟨ad,ai⟩:=hcut;go_upto_region 17 with fail
 have bn:=ButB.below ae ae.size (λbc D=>by have:=aK.o;omega) ai;have bk:=zh ((aa.below O).keep λb l=>ai.block b (zll (am.o b l) (qNtx (Nat.le_of_lt aK.2) O.size)) λe=>Nat.lt_irrefl _ (e▸am b l));have m:=zh (by unfold z5o z8i;rw[if_pos s.o,Δ s.o];exact⟨rfl,rfl⟩:z5o f.epochs name seed d a=[if z19 f.epochs a seed then a else⟨name,f.epochs,seed⟩]/\z8i name d a=true);generalize (if z19 f.epochs a seed then a else(⟨name,f.epochs,seed⟩:Wrap))=N at ad m;have cE:=ψ ad 0 N.name rfl;have bQ:=ψ ad 1 N.epoch rfl;have bR:=ψ ad 2 N.seed rfl;have bd:=zh bn;clear ai O ae X Y Z bp bq br bs U;go_wp2_with (at_builtin;refine YD wc (cW N) rfl (.tmp 73) (.tmp 75) 71 rfl K _ 32 underlying71 u D G H rfl dc dc _ _ rfl bk (by rw[qLmx];omega) rfl (zA6 N) _ _ rfl rfl ?_;intro af ag c i k;rw[z8s] at c;have p:=zh c;have g:=zh (z6f n bd E i k);clear c i k)
 go_roundw
 case rel=>exact⟨j+1,true,o++[N],om,rfl,gn,by simp;omega,(by rw[append_assoc,<-ac.o,m.o.1,m.o.2];exact zh rfl),p,g.2,g.1⟩
 case measure=>exact qMx
end Go.Proofs.YtdggplhnfhcieaaGreatDoor
