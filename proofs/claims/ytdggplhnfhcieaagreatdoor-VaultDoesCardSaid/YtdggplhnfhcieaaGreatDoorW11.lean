/- No condition. -/
import Derived.Test.YtdggplhnfhcieaaGreatDoorW09
set_option linter.all false
set_option maxRecDepth 100000
namespace Go.Proofs.YtdggplhnfhcieaaGreatDoor
open Go.Proofs.Tryz Cd Ce List
variable {B:Nat->Prop} {E:List (GN×GN)} {m t:Nat} {w w':World}
section
open Go.RowKit Go.Deep Go.Maps
def Gr (E:List (GN×GN)) (m:Nat) (w:World) (t:Nat) (B:Nat->Prop):Prop:=∃a g b c d h f e,GSE E m w t a g b c d h f e/\B=GB t a b c d
theorem Gr.lt {E:List (GN×GN)} {m:Nat} {t:Nat} (h:Gr E m w t B):∀x,B x->x<w.heap.size:=by
 obtain⟨_,_,_,_,_,_,_,_,h,rfl⟩:=h;exact h.gs.lt h.rep.len
theorem Gr.of {w:World} (h:Gr E m w t B) (k:∀x,B x->w'.heap[x]? =w.heap[x]?):Gr E m w' t B:=by
 obtain⟨c,d,f,g,i,e,b,a,h,rfl⟩:=h;exact⟨c,d,f,g,i,e,b,a,⟨h.gs.of k,h.rep,h.em⟩,rfl⟩
theorem Gr.below (h:Gr E m w t B) (k:(bW w w':Prop)):Gr E m w' t B:=h.of λx hx=>k.block x (h.lt x hx)
theorem z5d {g:Nat} {x:GN} (h:∀j v,(#[x.1,x.2.1,x.2.2]:Array Value)[j]? =some v->(cL w g j v:Prop)) (k:w'.heap[g]? =w.heap[g]?):∀j v,(#[x.1,x.2.1,x.2.2]:Array Value)[j]? =some v->(cL w' g j v:Prop):=
 λj v a=>(World.cell?_of_block k).trans (h j v a)
theorem zHw {W:World} {d f:Nat} {x y:GN} {a b c:Value} {e:Nat} {T:TypeId} (n:w.heap[t]? =some (.cells #[a,b,c,e] T (0,0))) (hx:∀j v,(#[x.1,x.2.1,x.2.2]:Array Value)[j]? =some v->(cL w d j v:Prop)) (hy:∀j v,(#[y.1,y.2.1,y.2.2]:Array Value)[j]? =some v->(cL w f j v:Prop))
  (k:∀g,g=t\/g=d\/g=f->W.heap[g]? =w.heap[g]?):(cL W t 1 b/\cL W t 3 e)/\(cL W d 0 x.1/\cL W d 1 x.2.1/\cL W d 2 x.2.2)/\cL W f 0 y.1/\cL W f 1 y.2.1/\cL W f 2 y.2.2:=by
 have l:=(k t (.inl rfl)).trans n;have h:=z5d hx (k d (.inr (.inl rfl)));have i:=z5d hy (k f (.inr (.inr rfl)));exact⟨⟨ψ l 1 _ rfl,ψ l 3 _ rfl⟩,⟨h 0 _ rfl,h 1 _ rfl,h 2 _ rfl⟩,i 0 _ rfl,i 1 _ rfl,i 2 _ rfl⟩
theorem ButB.step {B':Nat->Prop} {w1 w2:World} (h:ButB B w w1) (k:ButB B' w1 w2) (hs:∀a,B' a->B a\/w.heap.size<=a):ButB B w w2:=
 ⟨k.os.trans h.os,k.tape.trans h.tape,k.output.trans h.output,qNtx h.size k.size,λa c b=>(k.block a (zll c h.size) λd=>(hs a d).elim b λe=>om).trans (h.block a c b)⟩
theorem zSa {A q:World} {b e e':Nat} {H y v v8:Value} {p:List Value} {R:List GN} {J:List (List Nat)} {W:DataW Unit} (h:GS A t b e H y p R J W) (hl:J.length=R.length) {i j g off ar ai:Nat} {l:List Nat} (hi:p[i]? =some v) (Y:J[i]? =some l) (aa:y= .slice (some ⟨g,off,none⟩) ar ai)
  (T:ButB (λa=>v.ownBlock=some a) A q) (M:RowC 3 1 q v8 (l.map cI++[cI j])) (ad:v8.ownBlock=v.ownBlock\/∃k,v8.ownBlock=some k/\A.heap.size<=k):
  GS ((q.setCell (aD g (off+i)) v8).setCell (aD t 3) (.int .i64 e')) t b e' H y (p.set i v8) R (J.set i (l++[j])) W/\ButB (GB t b H y p) A ((q.setCell (aD g (off+i)) v8).setCell (aD t 3) (.int .i64 e'))/\∀a,GB t b H y (p.set i v8) a->GB t b H y p a\/A.heap.size<=a:=by
 have G:=h.row i v l hi Y;have ay:=zI h.cell;have ax:t≠b:=z2s h.own h.cell;have u:y.ownBlock=some g:=by rw[aa];rfl
 have X:g≠t:=λe=>by
  subst e;obtain⟨C,ha⟩:=Y0 h.out u;exact mbu
 have aj:g≠b:=λe=>by
  subst e;obtain⟨C,ha⟩:=Y0 h.out u;exact z2s h.own ha rfl
 have aC:v.ownBlock≠some t:=λe=>by
  obtain⟨C,ha⟩:=Y0 G e;exact mbu
 have aB:v.ownBlock≠some b:=λe=>by
  obtain⟨C,ha⟩:=Y0 G e;exact z2s h.own ha rfl
 have aE:v.ownBlock≠some g:=λe=>z2t G h.out dc e u
 have U:ButB (λa=>a=g) q (q.setCell (aD g (off+i)) v8):=(ButB.refl _ _).set _ _ rfl;have V:ButB (λa=>a=t) (q.setCell (aD g (off+i)) v8) ((q.setCell (aD g (off+i)) v8).setCell (aD t 3) (.int .i64 e')):=(ButB.refl _ _).set _ _ rfl;have I:ButB (λa=>v.ownBlock=some a\/a=g\/a=t) A ((q.setCell (aD g (off+i)) v8).setCell (aD t 3) (.int .i64 e')):=
  ((T.mono λa n=> .inl n).trans (U.mono λa n=> .inr (.inl n))).trans (V.mono λa n=> .inr (.inr n))
 have N:=(T.block t ay aC).trans h.cell;have ah:=(U.block t (zI N) (λe=>X e.symm)).trans N;have ag:=zH (i:=3) (.int .i64 e') ah rfl;have S:=h.out.but T λa f o=>z2t G h.out dc o f
 have r:v8.oneCell'=true:=by
  obtain⟨_,_,_,ap⟩:=M.shape3;rw[ap];rfl
 have ao:(p.map λv=>[v])[i]? =some [v]:=by rw[List.getElem?_map,hi];rfl
 have av:RowC 234 1 (q.setCell (aD g (off+i)) v8) y ((p.set i v8).map λv=>[v]):=by
  rw[aa] at S⊢;have:=S.write (i:=i) (j:=0) (x:=[v]) dc ao dc v8 r;rw[Nat.mul_one,Nat.add_zero] at this;rw[List.map_set];exact this
 have au:=av.but V λa f o=>by
  rw[u] at f;have o:a=t:=o;obtain rfl:=zsi f;exact X o
 have O:=(zge hi).1;have ak:=(zge Y).1;have aA:v8.ownBlock≠some t:=λe=>by
  obtain⟨C,ha⟩:=Y0 M e;exact absurd (z37 ha N) dc
 have az:v8.ownBlock≠some g:=λe=>z2t M S dc e u
 have aw:=(M.but U λa f o=>by
  have o:a=g:=o;subst o;exact az f).but V λa f o=>by
  have o:a=t:=o;subst o;exact aA f
 refine⟨⟨ag,z5l h.own I ?_,h.idx,h.nodes.but I ?_,au,by rw[List.length_set];exact h.lenv,λk c aq d K=>?_,λk L c ae a d D r Q=>?_⟩,I.mono λa n=>?_,λa n=>?_⟩
 ·rintro(e|e|e)
  ·exact aB e
  ·exact aj e.symm
  exact ax e.symm
 ·rintro a f (e|e|e)
  ·exact z2t h.nodes G dc f e
  ·subst e;exact z2t h.nodes h.out dc f u
  subst e;obtain⟨C,ha⟩:=Y0 h.nodes f;exact mbu
 ·by_cases s:i=k
  ·subst s;rw[List.getElem?_set_self O] at d;rw[List.getElem?_set_self ak] at K;obtain rfl:=zsi d;obtain rfl:=zsi K;simpa[cI] using aw
  rw[List.getElem?_set_ne s] at d K;have P:=h.row k c aq d K;refine P.but I ?_;rintro a f (e|e|e)
  ·exact s (h.apart i k v c a hi d e f)
  ·subst e;exact z2t P h.out dc f u
  subst e;obtain⟨C,ha⟩:=Y0 P f;exact mbu
 ·have an:∀(k:Nat) c a,p[k]? =some c->c.ownBlock=some a->a<A.heap.size:=λk c a d n=>by
   have am:=(zge d).1;rw[h.lenv] at am;exact(h.row k c _ d (qLgx om)).lt a n
  have ac:∀(k:Nat) c,k≠i->p[k]? =some c->v8.ownBlock=some a->c.ownBlock=some a->False:=λk c al d Z n=>by
   rcases ad with z|⟨af,z,ab⟩
   ·exact al (h.apart k i c v a d hi n (z▸Z))
   ·obtain rfl:=zsi (z.symm.trans Z);have:=an k c af d n;omega
  by_cases s:i=k
  ·by_cases F:i=L
   ·exact s.symm.trans F
   subst s;rw[List.getElem?_set_self O] at d;rw[List.getElem?_set_ne F] at D;obtain rfl:=zsi d;exact(ac L ae (Ne.symm F) D r Q).elim
  rw[List.getElem?_set_ne s] at d;by_cases F:i=L
  ·subst F;rw[List.getElem?_set_self O] at D;obtain rfl:=zsi D;exact(ac k c (Ne.symm s) d Q r).elim
  rw[List.getElem?_set_ne F] at D;exact h.apart k L c ae a d D r Q
 ·rcases n with e|e|e
  ·exact .inr (.inr (.inr (.inr ⟨v,zmg hi,e⟩)))
  ·subst e;exact .inr (.inr (.inr (.inl u)))
  exact .inl e
 rcases n with e|e|e|e|⟨c,r,e⟩
 ·exact .inl (.inl e)
 ·exact .inl (.inr (.inl e))
 ·exact .inl (.inr (.inr (.inl e)))
 ·exact .inl (.inr (.inr (.inr (.inl e))))
 rcases List.mem_or_eq_of_mem_set r with r|rfl
 ·exact .inl (.inr (.inr (.inr (.inr ⟨c,r,e⟩))))
 rcases ad with z|⟨af,z,ab⟩
 ·exact .inl (.inr (.inr (.inr (.inr ⟨v,zmg hi,z▸e⟩))))
 obtain rfl:=zsi (z.symm.trans e);exact .inr ab
set_option maxHeartbeats 4000000 in
theorem zSb {E:List (GN×GN)} {m:Nat} {w:World} {t:Nat} {B:Nat->Prop} (h:Gr E m w t B) (hm:m<=5000) (x y:GN) (hx:OkG x) (hy:OkG y):Calls Tryz.prog 223 #[.pointer (some ⟨t,0,none⟩),vG x,vG y] w λe' w'=>(∃r,e'= .returned (.int .i64 r))/\(∃B',Gr (E++[(x,y)]) (m+3) w' t B'/\∀z,B' z->B z\/w.heap.size<=z)/\ButB B w w':=by
 obtain⟨b,e,vn,vo,vs,ns,adj,D,h,rfl⟩:=h;obtain⟨W1,hW1,b1,f1,B1,q1⟩:=zP w #[.bool x.1,.string x.2.1,.int .i64 x.2.2] 244;obtain⟨W2,hW2,b2,f2,B2,q2⟩:=zP W1 #[.bool y.1,.string y.2.1,.int .i64 y.2.2] 244;have B12:=B1.trans (B2.mono B1.size);have h2:GSE E m W2 t b e vn vo vs ns adj D:=⟨h.gs.below h.rep.len B12,h.rep,h.em⟩;have HX2:=zh (z5d b1 (B2.block _ q1));have HY2:=zh b2;have HI:=zh (zFn h2.gs);have HH:=zh (zUm h2 (by omega) x y hx hy);have HW1:=zh hW1;have HW2:=zh hW2;have H:=zh h;have H2:=zh h2;have HB:=zh B12;have HX:=zh hx;have HY:=zh hy;have x0:=HX2.o 0 _ rfl;have x1:=HX2.o 1 _ rfl;have x2:=HX2.o 2 _ rfl;have y0:=b2 0 _ rfl;have y1:=b2 1 _ rfl;have y2:=b2 2 _ rfl;have HQ1:=zh q1;have HQ2:=zh q2;clear h h2 hx hy hW1 hW2 B12 b1 b2 f1 f2 B1 B2 q1 q2;obtain⟨f,s,n⟩:=x;obtain⟨f',s',n'⟩:=y;simp only[vG] at HH⊢;dsimp only at x0 x1 x2 y0 y1 y2;go_enter Tryz.func223,Tryz.ntmps223
 have hW1:=HW1.o;have hW2:=HW2.o;dsimp only at hW1 hW2;go_wp2_with fail
 refine zcm HI ?_;rintro _ w3 ⟨rfl,rfl⟩;clear hW1;go_wp2_with fail
 refine zcm HH ?_;rintro e2 w3 ⟨⟨r,rfl,hr⟩,B3⟩;have HR:=zh hr;have HB3:=zh B3;clear hr B3 hW2
 cases r with
 | true=>
  go_wp2;go_ret
  exact⟨⟨_,rfl⟩,⟨_,⟨b,e,vn,vo,vs,ns,adj,D,⟨H2.gs.below H2.rep.len HB3,(H.rep.again (by first | exact HR.1 rfl | exact HR.1 trivial)).mono (by omega),by have:=H.em;omega⟩,rfl⟩,λz hz=> .inl hz⟩,ButB.of (HB.trans (HB3.mono HB.size))⟩
 | false=>
  obtain⟨A,cap,hvn,-⟩:=H.gs.nodes.shape;rw[qLmx] at hvn;have H3:=zh (H2.gs.below H2.rep.len HB3);have HX3:=zh (z5d (x:=(f,s,n)) HX2 (HB3.block _ (zll HQ1 (by have:=HQ2.o;omega))));have HY3:=zh (z5d (x:=(f',s',n')) HY2 (HB3.block _ HQ2));have hT3:=H3.cell;rw[hvn] at hT3;have HT3:=zh hT3;have hz2:W1.heap.size < w3.heap.size:=zll HQ2 HB3.size;have hz1:w.heap.size < w3.heap.size:=Nat.lt_trans HQ1 hz2;have htl:=zI hT3;have HF:=zh (zPr (H3.of (w':=w3.drew) λz _=>rfl) H2.rep.len (f,s,n) (f',s',n') HX HY);have hns:ns.length<=5000:=qNtx H.rep.small hm;have hem:e<=5000:=qNtx H.em hm;have he2:decide ((65536:Int)<=(e:Int))=false:=decide_eq_false (by omega);clear x0 x1 x2 y0 y1 y2 hT3;go_wp2_with fail
  refine wp_region_held_drew (S:=λW=>(W.cell? ⟨t,1,none⟩=some (.slice A ns.length cap)/\W.cell? ⟨t,3,none⟩=some (.int .i64 e))/\(W.cell? ⟨w.heap.size,0,none⟩=some (.bool f)/\W.cell? ⟨w.heap.size,1,none⟩=some (.string s)/\W.cell? ⟨w.heap.size,2,none⟩=some (.int .i64 n))/\W.cell? ⟨W1.heap.size,0,none⟩=some (.bool f')/\W.cell? ⟨W1.heap.size,1,none⟩=some (.string s')/\W.cell? ⟨W1.heap.size,2,none⟩=some (.int .i64 n')) (by kernel_rfl) (zHw (W:=w3.drew) (x:=(f,s,n)) (y:=(f',s',n')) HT3 HX3 HY3 λz _=>rfl) (λhHeld=>?_);refine zi 0 ?_;iterate 8 (refine zt hHeld ?_;simp only[zA])
  refine zo ?_;refine wpAnyH_ready (rs:=[8]) (by kernel_rfl) (by simp) ?_;refine AllReadyH.cons rfl (λK hK=>?_) ?_;rotate_left
  ·exact AllReadyH.nil
  go_simp;go_at_call 242
  refine zcm HF ?_;rintro _ w5 ⟨⟨nf,rfl,_,_⟩,B5⟩;have hgt:decide ((65536:Int) < (ns.length:Int)+nf)=false:=decide_eq_false (by omega);have hwr:IntKind.i64.wrap ((ns.length:Int)+nf)=(ns.length:Int)+nf:=IntWalk.i64_in _ (by omega);have b5:Below w3.heap.size w3 w5:=zD zbr.drew B5;clear B5 hHeld;refine hK.out _ _ (zHw (W:=w5) (x:=(f,s,n)) (y:=(f',s',n')) HT3 HX3 HY3 λz hz=>b5.block z (by rcases hz with rfl | rfl | rfl<;>assumption)) (λhHeld=>?_);clear hK K;refine zi 9 ?_;iterate 10 (refine zt hHeld ?_;simp only[zA])
  refine zo ?_;refine wpAnyH_done (by kernel_rfl) ?_ _;clear hHeld hgt hwr;have H5:=zh (H3.below H2.rep.len b5);have HX5:=zh (z5d (x:=(f,s,n)) HX3 (b5.block _ hz1));have HY5:=zh (z5d (x:=(f',s',n')) HY3 (b5.block _ hz2));have x0:=HX5.o 0 _ rfl;have x1:=HX5.o 1 _ rfl;have x2:=HX5.o 2 _ rfl;have HB5:=zh b5;clear b5;go_wp2_with fail
  refine zcm (zJw H5 H2.rep.len (by omega) (f,s,n) HX) ?_;rintro _ _ ⟨i,vn1,vo1,vs1,ns1,adj1,_,rfl,hi1,h6,alt1,gb1,bb1⟩;have rep1:GRep E (m+1) ns1 adj1:=by
   rcases alt1 with ⟨rfl,rfl⟩ | ⟨hn,rfl,rfl⟩
   ·exact H.rep.mono (by omega)
   ·exact H.rep.node hn
  have HBB1:=zh bb1;have HGB1:=zh gb1;have HI1:=zh hi1;have H6:=zh h6;have HR1:=zh rep1;have hgl:=H.gs.lt H.rep.len;have hns1:ns1.length<=9000:=qNtx rep1.small (by omega);have HY6:=zh (z5d (x:=(f',s',n')) HY5 (bb1.block _ (zll hz2 HB5.size) λh=>by have:=hgl _ h;have:=HQ1.o;omega));have y0:=HY6.o 0 _ rfl;have y1:=HY6.o 1 _ rfl;have y2:=HY6.o 2 _ rfl;clear x0 x1 x2 alt1 gb1 bb1 hi1 h6 rep1 hgl;go_wp2_with fail
  refine zcm (zJw H6 HR1.len hns1 (f',s',n') HY) ?_;rintro _ w7 ⟨j,vn2,vo2,vs2,ns2,adj2,_,rfl,hj2,h7,alt2,gb2,bb2⟩;have rep2:GRep E (m+2) ns2 adj2:=by
   rcases alt2 with ⟨rfl,rfl⟩ | ⟨hn,rfl,rfl⟩
   ·exact HR1.mono (by omega)
   ·exact HR1.node hn
  have hi2:ns2[i]? =some (f,s,n):=by
   rcases alt2 with ⟨rfl,rfl⟩ | ⟨hn,rfl,rfl⟩
   ·exact HI1
   ·rw[qLlx (zge HI1.o).1];exact HI1
  have hil:=(zge hi2).1;obtain⟨l,hl⟩:∃l,adj2[i]? =some l:=⟨_,qLgx (by rw[rep2.len];exact hil)⟩;obtain⟨v,hv⟩:∃v,vs2[i]? =some v:=⟨_,qLgx (by rw[h7.lenv];exact hil)⟩;have hrow:=h7.row i v l hv hl;have hll:l.length<=9000:=qNtx (rep2.deg i l hl) (by omega);obtain⟨go,oo,capo,hvo,-,hcm,hgol,hcz,hfz⟩:=h7.out.at (i:=i) (x:=[v]) (by rw[List.getElem?_map,hv];rfl);rw[qLmx,h7.lenv] at hvo;obtain⟨Av,nv,cv,rfl⟩:=hrow.shape3;have z0:=hcz 0 _ rfl;rw[Nat.mul_one,Nat.add_zero] at z0;have T7:=h7.cell;rw[hvo] at T7;have c2:=(zB T7).1 2 _ rfl;have c2a:∀o,(w7.alloc o).cell? ⟨t,2,none⟩=some (.slice (some ⟨go,oo,none⟩) ns2.length capo):=λo=>(zB (zR o T7)).1 2 _ rfl
  have z0a:∀o,(w7.alloc o).cell? ⟨go,oo+i,none⟩=some (.slice Av nv cv):=λo=>(World.cell?_alloc_lt _ _ _ hgol).trans z0
  have hii:(i:Int) < (ns2.length:Int):=by omega
  have HT7:=zh T7;have HVO:=zh hvo;have HBB2:=zh bb2;have HGB2:=zh gb2;have HJ2:=zh hj2;have HI2:=zh hi2;have H7:=zh h7;have HR2:=zh rep2;have HV:=zh hv;have HL:=zh hl;have HROW:=zh hrow;have HVT:=zh (show ¬(Value.slice Av nv cv).ownBlock=some t from λe=>by
   obtain⟨_,ha⟩:=Y0 hrow e;exact absurd (z37 ha h7.cell) (by decide))
  have HVG:=zh (show ¬(Value.slice Av nv cv).ownBlock=some go from λe=>z2t hrow h7.out (by decide) e (by rw[hvo];rfl));obtain⟨_,houtc⟩:=Y0 h7.out (x:=go) (by rw[hvo];rfl);have HGO:=zh houtc;have hgt:go≠t:=λe=>by
   subst e;exact absurd (z37 houtc h7.cell) (by decide)
  have hgt':=Ne.symm hgt;have FIN:∀(v8:Value) (w8:World),ButB (λz=>(Value.slice Av nv cv).ownBlock=some z) w7 w8->RowC 3 1 w8 v8 (l.map cI++[cI j])->(v8.ownBlock=(Value.slice Av nv cv).ownBlock\/∃k,v8.ownBlock=some k/\w7.heap.size<=k)->
    (∃B',Gr (E++[((f,s,n),(f',s',n'))]) (m+3) ((w8.setCell ⟨go,oo+i,none⟩ v8).setCell ⟨t,3,none⟩ (.int .i64 ((e+1:Nat):Int))) t B'/\∀z,B' z->GB t b vn vo vs z\/w.heap.size<=z)/\ButB (GB t b vn vo vs) w ((w8.setCell ⟨go,oo+i,none⟩ v8).setCell ⟨t,3,none⟩ (.int .i64 ((e+1:Nat):Int))):=by
   intro v8 w8 p8 r8 o8;have heq2:e<=m:=H.em;have e2:e=e:=rfl;obtain⟨q1,q2,q3⟩:=zSa (e':=e+1) H7 HR2.len HV HL HVO p8 r8 o8;have z5:=HB5.size;have z3:=HB3.size;have z2:=HB.size;have zb:=HBB1.size;have zc:=HBB2.size;have u1:Below w.heap.size w w5:=(HB.trans (HB3.mono z2)).trans (HB5.mono (by omega));have g1:∀z,GB t b vn1 vo1 vs1 z->GB t b vn vo vs z\/w.heap.size<=z:=λz hz=>(HGB1.o z hz).imp id λq=>by omega
   have g2:∀z,GB t b vn2 vo2 vs2 z->GB t b vn vo vs z\/w.heap.size<=z:=λz hz=>(HGB2.o z hz).elim (g1 z) λq=> .inr (by omega)
   exact⟨⟨_,⟨_,_,_,_,_,_,_,_,⟨q1,HR2.link HI2 HJ2 HL,by omega⟩,rfl⟩,λz hz=>(q3 z hz).elim (g2 z) λq=> .inr (by omega)⟩,(((ButB.of u1).trans HBB1).step HBB2 g1).step q2 g2⟩
  have HFIN:=zh FIN;clear FIN;have hvl:vs2.length<=9000:=by rw[h7.lenv];exact qNtx rep2.small (by omega)
  unfold maxLen at hcm;clear y0 y1 y2 alt2 gb2 bb2 hj2 hi2 h7 rep2 hil hv hl hrow hcz hfz hvo T7 hgol houtc;obtain⟨iI,hiI,hzI,h1I,h2I⟩:=info_parts (show(Tryz.prog.info? 3).map (λi=>(i.zero,i.size,i.bytes))=some (some (.int .i64 0),1,8) from by kernel_rfl);go_wp2_with fail
  go_region_law (refine z1y w7 _ [.int .i64 j] rfl (.tmp 54) (.tmp 56) 234 rfl iI _ 8 Tryz.underlying234 hiI hzI h1I h2I rfl (by decide) (by decide) (.slice Av nv cv) (l.map cI) rfl _ _ rfl HROW (by go_grown) (by rw[qLmx];omega) rfl (by intro u hu;simp at hu;subst hu;rfl) (by repeat' first|with_reducible assumption|((with_reducible first|refine Z2 _ ?_ ?_|apply zJ);rotate_left;first|with_reducible rfl|((try dsimp only);first|with_reducible assumption|omega|(simp only[zS];done)|(simp only[zS];omega)))|with_reducible apply zH|with_reducible refine zR _ ?_|with_reducible refine ZQ ?_|refine(rfl:(_:Array Value)=_)) ?_;intro v8 w8 r8 p8 o8;obtain⟨_,_,_,rfl⟩:=r8.shape3;have HR8:=zh r8;have HP8:=zh p8;have HO8:=zh o8;have HT8:=zh ((p8.block t (zI HT7) HVT).trans HT7);have HG8:=zh ((p8.block go (zI HGO) HVG).trans HGO);have c83:=(zB HT8).1 3 _ rfl;have c82:=(zB HT8).1 2 _ rfl;have f83:=(zB HT8).2;have g80:w8.cell? ⟨go,oo+i,none⟩=some (.slice Av nv cv):=(World.cell?_of_block (p8.block go (zI HGO) HVG)).trans z0;have f80:=(zB HG8).2;clear r8 p8 o8)
  all_goals
   clear c2 c2a z0 z0a;go_wp2;go_ret;exact⟨⟨_,rfl⟩,HFIN.o _ _ HP8 HR8 HO8⟩
end
end Go.Proofs.YtdggplhnfhcieaaGreatDoor
