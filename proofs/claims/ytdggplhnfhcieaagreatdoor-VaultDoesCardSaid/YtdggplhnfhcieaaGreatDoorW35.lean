/- No condition. -/
import Derived.Test.YtdggplhnfhcieaaGreatDoorW33
set_option linter.all false
set_option maxRecDepth 100000
namespace Go.Proofs.YtdggplhnfhcieaaGreatDoor
open Go.Proofs.Tryz Cd Ce List
open Go.RowKit Go.Deep
section
variable {P:Nat->Prop} {bv base bw:Nat} {w w':World} {R:RM} {st st':State} {q r:Int} {c:Call} {dv:Value} {done late:Bool}
def zDg (st st':State) (q r:Int) (k:Int) (done:Bool) (a:Answer):State×Answer:=
 if done then(if k≠15/\k≠16/\Bd.fitsOf st' q r≠0 then(st,ZD (Bd.fitsOf st' q r)) else(st',a)) else(st,a)
theorem zU0 (st:State) (q r:Int):I64 (Bd.fitsOf st q r):=by
 unfold Bd.fitsOf;repeat' split
 all_goals exact⟨om,om⟩
theorem zDh {Y a:Nat->Prop} {w1 w2:World} (h:ButB Y w w1) (k:ButB a w1 w2) (f:∀b,a b->w.heap.size<=b):ButB Y w w2:=
 ⟨k.os.trans h.os,k.tape.trans h.tape,k.output.trans h.output,qNtx h.size k.size,λb d g=>(k.block b (zll d h.size) λe=>by have:=f b e;omega).trans (h.block b d g)⟩
theorem zNd {d:List Value} {a:Answer} (hp:P bv) (ha:yJ (Imm P bw R w) w d a) (hb:ButB (·=bv) w w'):yJ (λb=>¬P b) w' d a:=
 yY ha λb ⟨g,_,_,e⟩ _=>⟨e,hb.block b g λf=>e (by rw[show b=bv from f];exact hp)⟩
theorem zWp (hp:P bv) (d:WK P base bw w R c dv st' done late) (hb:ButB (·=bv) w w') (g:w'.heap[bv]? =some (.cells #[st'.turn,(R .us).v,(R .de).v,(R .fo).v,q,r,true] 95 (0,0))):VS P bv w' st' q r:=
 ⟨⟨_,_,_,g,zM (d.is.stateS d.os) λb i h=>by
  have f:¬P b:=i.elim (λa e=>d.nx b (.inl a) e) λa=>a.2.2.2
  exact⟨f,hb.block b h λa=>f (by rw[show b=bv from a];exact hp)⟩⟩,hp,λb e=>zll (d.xl b e) hb.size⟩
theorem zU1 {w1:World} {T:TypeId} {x o n m j k l:Value} (h:w1.heap[bv]? =some (.cells #[x,o,n,m,j,k,l] T (0,0))) (v:(bW w w1:Prop)) (a d e f:Value):
  ((((w1.setCell (aD bv 0) a).setCell (aD bv 1) d).setCell (aD bv 2) e).setCell (aD bv 3) f).heap[bv]? =some (.cells #[a,d,e,f,j,k,l] T (0,0))/\(∀b,b≠bv->((((w1.setCell (aD bv 0) a).setCell (aD bv 1) d).setCell (aD bv 2) e).setCell (aD bv 3) f).heap[b]? =w1.heap[b]?)/\
  ButB (·=bv) w ((((w1.setCell (aD bv 0) a).setCell (aD bv 1) d).setCell (aD bv 2) e).setCell (aD bv 3) f):=by
 have p:=zH (i:=0) (cs':=#[a,o,n,m,j,k,l]) a h rfl;have s:=zH (i:=1) (cs':=#[a,d,n,m,j,k,l]) d p rfl;have t:=zH (i:=2) (cs':=#[a,d,e,m,j,k,l]) e s rfl;have u:=zH (i:=3) (cs':=#[a,d,e,f,j,k,l]) f t rfl;refine⟨u,λb g=>by rw[Below.heap_setCell _ _ _ _ g,Below.heap_setCell _ _ _ _ g,Below.heap_setCell _ _ _ _ g,Below.heap_setCell _ _ _ _ g],?_⟩;have g:ButB (·=bv) w w1:=ButB.of v;exact(((g.set ⟨bv,0,none⟩ a rfl).set ⟨bv,1,none⟩ d rfl).set ⟨bv,2,none⟩ e rfl).set ⟨bv,3,none⟩ f rfl
theorem mbP {p:Prop} (h:p:=by
 have H15:=zh h15;clear h15;go_wp2;go_meet
 case rel=>exact⟨⟨_,rfl,zh (by have:=H15.o;simp[this])⟩,rfl⟩):p:=h
set_option maxHeartbeats 8000000 in
theorem zU2 (o:WK P base bw w R c dv st' done late) (h:VS P bv w st q r) {ay:Array Value} {a:Answer} (ha:yJ (Imm P bw R w) w ay.toList a) (aj:Bd.smallOf st'<=1000000/\Bd.largeOf st'<=1000000):
  Calls prog 35 #[pT bv,pT bw,.agg ay] w λe w'=>∃cs',e= .returned (.agg cs')/\VS P bv w' (zDg st st' q r c.kind done a).1 q r/\yJ (λb=>¬P b) w' cs'.toList (zDg st st' q r c.kind done a).2/\ButB (·=bv) w w':=by
 obtain⟨bO,bP,bQ,aB,aG⟩:=h.box;have ak:=h.lt;obtain⟨bF,bI,bG,bJ,bH,bK,az,_⟩:=ZF aG;simp only[cons.injEq,true_and,and_true] at az;obtain⟨rfl,rfl,rfl⟩:=az;obtain⟨H,M,I,N,J,O,K,Q,rfl⟩:=Y6 ha;obtain⟨p,A,D,S⟩:=(o.os.row .us).shape3;obtain⟨s,B,E,T⟩:=(o.os.row .de).shape3;obtain⟨t,C,F,U⟩:=(o.os.row .fo).shape3;obtain⟨aP,aK,bh,bj,ao,bq⟩:=zP w (aA a H M I N J O K Q) 49;have bp:aP=w.heap.size+1:=by rw[<-aK,World.size_alloc]
 obtain⟨j,aL,bi,bk,Z,br⟩:=zP aP Z3 49;have l:=zh (zD ao Z);have ae:=ζ (j.heap[w.heap.size]? =some (.cells (aA a H M I N J O K Q) 49 (0,0))) ((Z.block _ bq).trans (by rw[<-aK];exact zJ _ rfl));have m:=zh (by rw[<-bp,<-aL];exact zJ _ rfl:j.heap[w.heap.size+1]? =some (.cells Z3 49 (0,0)));have ag:=zh ((l.block bv ak).trans aB);have a7:=zh o;have n:=zh (o.below l);have x:=zh h;have ap:=zh ha;have ad:=zh ak;have a1:=zh aj.1;have a2:=zh aj.2;have ab:=ζ ((R .us).v= .slice p A D/\(R .de).v= .slice s B E/\(R .fo).v= .slice t C F) ⟨S,T,U⟩;have a6:=ζ (∀w',((bW j w':Prop))->Z5 (λ_=>True) w' [st'.turn,.slice p A D,.slice s B E,.slice t C F] st') (λw' bn=>by rw[<-S,<-T,<-U];exact(n.below bn).state);obtain⟨bB,-,-,-,-,-,-,-,X⟩:=TC9 n.cells.1;have Y:(cL j bw 9 (.slice p A D):Prop):=by rw[<-S];exact n.cells.1 9 _ rfl
 have V:(cL j bw 10 (.slice s B E):Prop):=by rw[<-T];exact n.cells.1 10 _ rfl
 have W:(cL j bw 11 (.slice t C F):Prop):=by rw[<-U];exact n.cells.1 11 _ rfl
 have bC:=n.cells.1 12 _ rfl;clear h o ha aj aB aG ak S T U bh bj ao bi bk Z br;unfold Z3 at aL;go_enter func35,ntmps35
 cases done with
 | false=>
  obtain⟨a9,ba,bb,bc,bd,be,bf⟩:=zC7 (zB ae).1;have d:=m.o;unfold Z3 at d;obtain⟨aR,aT,aU,aV,aW,aX,aY⟩:=zC7 (zB d).1;have aZ:=(zB d).2;clear d;go_wp2;try simp only[φ]
  obtain⟨u,k⟩:=ZC m a.err a.number a.who (.slice H a.data M) (.slice I a.names N) (.slice J a.members O) (.slice K a.history Q);refine bodyPost_ret (results_cell_row rfl _ _ (w.heap.size+1) 49 _ (0,0) _ rfl u underlying49 rfl kr) rfl ?_;have f:=ButB.below l l.size (λG z=>by have:G=w+1:=z;omega) k
  exact⟨_,rfl,x.below f,zNd x.pb ap (ButB.of f),ButB.of f⟩
 | true=>
  go_upto_region 3 with fail
  go_cut [27] from 14 to 27 (λbx am=>(∃b:Bool,bx= .bool b/\Hid (b=true↔(c.kind≠15/\c.kind≠16)))/\am=j)
  case first=>
    by_cases h15:c.kind=15
    ·have bl:(c.kind !=15)=false:=by simp[h15]
     have bm:decide (c.kind=15)=true:=Δ h15;exact mbP
    ·have bl:(c.kind !=15)=true:=by simp[h15]
     have bm:decide (c.kind=15)=false:=Γ h15;exact mbP
  obtain⟨⟨bg,rfl,ai⟩,rfl⟩:=hcut;rename_i a8 aI;refine aI _ _ ?_;clear aI a8;go_cut [7] from 28 to 44 (λbN am=>Hid (bW wc am)/\Hid (¬(c.kind≠15/\c.kind≠16/\Bd.fitsOf st' q r≠0)))
  case first=>
   cases bg with
   | false=>
    have v:=ζ (¬(c.kind≠15/\c.kind≠16/\Bd.fitsOf st' q r≠0)) (λe=>by have:=ai.o.2 ⟨e.1,e.2.1⟩;cases this);go_wp2;go_meet
    case rel=>exact⟨zh zbr,v⟩
   | true=>
    obtain⟨-,-,-,-,bD,bE⟩:=TC6 (zB ag).1;go_upto_region 4 with fail
    have af:=zh (HQb6 (zyB X) (zyB Y) (zyB V) (zyB W) (zyB bD) (zyB bE));refine zE kr af (λy=>?_);refine zi 0 ?_;iterate 12 (refine zt y ?_;simp only[zA])
    refine zo ?_;refine zr 12 λd aH=>?_
    go_simp;go_at_call 56
    refine zcb (Bd.fits_any st' q r a1 a2 _ _ (λ_=>True) (a6.o _ (zbr.drew))) λaQ ax=>?_;have aa:(bW wc aQ:Prop):=zD (zbr.drew) ax;clear ax y;refine aH.o _ _ (af.o _ aa) (λy=>?_);clear aH d;refine zT 13 y ?_;simp only[zA];refine wpAnyH_done kr ?_ _;clear y af;have aq:=zh aa;clear aa;by_cases i:Bd.fitsOf st' q r=0
    ·have v:=ζ (¬(c.kind≠15/\c.kind≠16/\Bd.fitsOf st' q r≠0)) (λe=>e.2.2 i);rw[i];clear i;go_wp2;go_meet
     case rel=>exact⟨aq,v⟩
    have bL:(Bd.fitsOf st' q r !=0)=true:=by simp[i]
    have bM:decide (Bd.fitsOf st' q r=0)=false:=Γ i;have ac:=zh (show zDg st st' q r c.kind true a=(st,ZD (Bd.fitsOf st' q r)) from by
     unfold zDg;rw[if_pos rfl,if_pos ⟨(ai.o.1 rfl).1,(ai.o.1 rfl).2,i⟩])
    clear i;go_wp2_with fail
    refine zcb (ZU (Bd.fitsOf st' q r) aQ) λbS an=>?_;have ar:=zh (zD aq an);have L:=zh (zD l ar);have au:=zh ((ar.block _ (zI m)).trans m);clear an;have d:=au.o;unfold Z3 at d;obtain⟨aR,aT,aU,aV,aW,aX,aY⟩:=zC7 (zB d).1;have aZ:=(zB d).2;clear d;unfold ZV;go_wp2;try simp only[φ]
    obtain⟨u,k⟩:=ZC au (Bd.fitsOf st' q r) '0' "" () () () ();refine bodyPost_ret (results_cell_row rfl _ _ (w.heap.size+1) 49 _ (0,0) _ rfl u underlying49 rfl kr) rfl ?_;have f:=ButB.below L L.size (λG z=>by have:G=w+1:=z;omega) k;rw[ac.o];exact⟨_,rfl,x.below f,ZW (zU0 st' q r),ButB.of f⟩
  obtain⟨g,v⟩:=hcut;rename_i bR;have L:=zh (zD l g);have ac:=zh (show zDg st st' q r c.kind true a=(st',a) from by
   unfold zDg;rw[if_pos rfl,if_neg v.o])
  have a3:=zh ((g.block _ (zI ae)).trans ae);have a5:=zh ((g.block _ (zI m)).trans m);have ah:=zh ((g.block _ (zI ag)).trans ag);replace X:=zy g X;replace Y:=zy g Y;replace V:=zy g V;replace W:=zy g W;obtain⟨bs,bt,bu,bz⟩:=zC4 (zB ah).1;have bA:=(zB ah).2;clear bB bC;go_upto_region 8 with fail
  have aJ:=zU1 ah L st'.turn (.slice p A D) (.slice s B E) (.slice t C F);generalize bo:(((wc.setCell (aD bv 0) st'.turn).setCell (aD bv 1) (.slice p A D)).setCell (aD bv 2) (.slice s B E)).setCell (aD bv 3) (.slice t C F)=bT at aJ⊢;obtain⟨aN,al,aO⟩:=aJ;have aw:=zh aN;have a0:=zh aO;have a4:=zh ((al w (oh ad.o)).trans a3);have av:=zh ((al (w.heap.size+1) (oh ad.o)).trans a5);clear aN al aO;clear bo bs bt bu bz bA X Y V W;obtain⟨a9,ba,bb,bc,bd,be,bf⟩:=zC7 (zB a4).1;have d:=av.o;unfold Z3 at d;obtain⟨aR,aT,aU,aV,aW,aX,aY⟩:=zC7 (zB d).1;have aZ:=(zB d).2;clear d;go_wp2;try simp only[φ]
  obtain⟨u,k⟩:=ZC av a.err a.number a.who (.slice H a.data M) (.slice I a.names N) (.slice J a.members O) (.slice K a.history Q);refine bodyPost_ret (results_cell_row rfl _ _ (w.heap.size+1) 49 _ (0,0) _ rfl u underlying49 rfl kr) rfl ?_;have f:=zDh a0 k (λG z=>by have:G=w+1:=z;omega);rw[ac.o];exact⟨_,rfl,zWp x.pb a7 f (by rw[ab.o.1,ab.o.2.1,ab.o.2.2];exact(k.block bv (zI aw) (λe=>by have:bv=w+1:=e;have:=ad.o;omega)).trans aw),zNd x.pb ap f,f⟩
end
end Go.Proofs.YtdggplhnfhcieaaGreatDoor
