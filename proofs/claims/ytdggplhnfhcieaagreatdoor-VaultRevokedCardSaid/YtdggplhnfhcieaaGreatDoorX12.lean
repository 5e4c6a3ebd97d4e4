/- No condition. -/
import Derived.Test.YtdggplhnfhcieaaGreatDoorX10
set_option linter.all false
set_option maxRecDepth 100000
namespace Go.Proofs.YtdggplhnfhcieaaGreatDoor
section
open Go.RowKit Go.Deep Go.Maps
def Gr (E:List (GN×GN)) (m:Nat) (w:World) (t:Nat) (B:Nat->Prop):Prop:=∃b e vn vo vs ns adj D,GSE E m w t b e vn vo vs ns adj D/\B=GB t b vn vo vs
theorem Gr.lt {E:List (GN×GN)} {m:Nat} {w:World} {t:Nat} {B:Nat->Prop} (h:Gr E m w t B):∀x,B x->x < w.heap.size:=by
 obtain ⟨_,_,_,_,_,_,_,_,h,rfl⟩:=h;exact h.gs.lt h.rep.len
theorem Gr.of {E:List (GN×GN)} {m:Nat} {w w':World} {t:Nat} {B:Nat->Prop} (h:Gr E m w t B) (k:∀x,B x->w'.heap[x]? =w.heap[x]?):Gr E m w' t B:=by
 obtain ⟨b,e,vn,vo,vs,ns,adj,D,h,rfl⟩:=h;exact ⟨b,e,vn,vo,vs,ns,adj,D,⟨h.gs.of k,h.rep,h.em⟩,rfl⟩
theorem Gr.below {E:List (GN×GN)} {m:Nat} {w w':World} {t:Nat} {B:Nat->Prop} (h:Gr E m w t B) (k:Below w.heap.size w w'):Gr E m w' t B:=h.of fun x hx=>k.block x (h.lt x hx)
theorem z4k {w w':World} {g:Nat} {x:GN} (h:∀j v,(#[.bool x.1,.string x.2.1,.int .i64 x.2.2]:Array Value)[j]? =some v->w.cell? ⟨g,j,none⟩=some v) (k:w'.heap[g]? =w.heap[g]?):∀j v,(#[.bool x.1,.string x.2.1,.int .i64 x.2.2]:Array Value)[j]? =some v->w'.cell? ⟨g,j,none⟩=some v:=
 fun j v hj=>(World.cell?_of_block k).trans (h j v hj)
theorem zG8 {w W:World} {t gx gy:Nat} {x y:GN} {a b c:Value} {e:Nat} {T:TypeId} (ht:w.heap[t]? =some (.cells #[a,b,c,.int .i64 e] T (0,0))) (hx:∀j v,(#[.bool x.1,.string x.2.1,.int .i64 x.2.2]:Array Value)[j]? =some v->w.cell? ⟨gx,j,none⟩=some v) (hy:∀j v,(#[.bool y.1,.string y.2.1,.int .i64 y.2.2]:Array Value)[j]? =some v->w.cell? ⟨gy,j,none⟩=some v)
  (k:∀z,z=t\/z=gx\/z=gy->W.heap[z]? =w.heap[z]?):(W.cell? ⟨t,1,none⟩=some b/\W.cell? ⟨t,3,none⟩=some (.int .i64 e))/\(W.cell? ⟨gx,0,none⟩=some (.bool x.1)/\W.cell? ⟨gx,1,none⟩=some (.string x.2.1)/\W.cell? ⟨gx,2,none⟩=some (.int .i64 x.2.2))/\W.cell? ⟨gy,0,none⟩=some (.bool y.1)/\W.cell? ⟨gy,1,none⟩=some (.string y.2.1)/\W.cell? ⟨gy,2,none⟩=some (.int .i64 y.2.2):=by
 have hT:=(k t (.inl rfl)).trans ht;have hX:=z4k hx (k gx (.inr (.inl rfl)));have hY:=z4k hy (k gy (.inr (.inr rfl)));exact ⟨⟨(zD hT).1 1 _ rfl,(zD hT).1 3 _ rfl⟩,⟨hX 0 _ rfl,hX 1 _ rfl,hX 2 _ rfl⟩,hY 0 _ rfl,hY 1 _ rfl,hY 2 _ rfl⟩
theorem ButB.step {B B':Nat->Prop} {w w1 w2:World} (h:ButB B w w1) (k:ButB B' w1 w2) (hs:∀z,B' z->B z\/w.heap.size<=z):ButB B w w2:=
 ⟨k.os.trans h.os,k.tape.trans h.tape,k.output.trans h.output,qNtx h.size k.size,fun z hz hb=>(k.block z (zll hz h.size) fun e=>(hs z e).elim hb fun q=>by omega).trans (h.block z hz hb)⟩
theorem zQ8 {w7 w8:World} {t b e e':Nat} {vn vo v v8:Value} {vs:List Value} {ns:List GN} {adj:List (List Nat)} {D:DataW Unit} (h:GS w7 t b e vn vo vs ns adj D) (hl:adj.length=ns.length) {i j g off nn cap:Nat} {l:List Nat} (hi:vs[i]? =some v) (hli:adj[i]? =some l) (hvo:vo= .slice (some ⟨g,off,none⟩) nn cap)
  (p8:ButB (fun z=>v.ownBlock=some z) w7 w8) (r8:RowC 3 1 w8 v8 (l.map cI++[cI j])) (o8:v8.ownBlock=v.ownBlock\/∃k,v8.ownBlock=some k/\w7.heap.size<=k):
  GS ((w8.setCell ⟨g,off+i,none⟩ v8).setCell ⟨t,3,none⟩ (.int .i64 e')) t b e' vn vo (vs.set i v8) ns (adj.set i (l++[j])) D/\ButB (GB t b vn vo vs) w7 ((w8.setCell ⟨g,off+i,none⟩ v8).setCell ⟨t,3,none⟩ (.int .i64 e'))/\∀z,GB t b vn vo (vs.set i v8) z->GB t b vn vo vs z\/w7.heap.size<=z:=by
 have hr:=h.row i v l hi hli;have tl:=zO h.cell;have tb:t≠b:=z26 h.own h.cell;have og:vo.ownBlock=some g:=by rw [hvo];rfl
 have gt:g≠t:=fun e=>by
  subst e;obtain ⟨a,ha⟩:=yI h.out og;exact absurd (z2h ha h.cell) (by decide)
 have gb:g≠b:=fun e=>by
  subst e;obtain ⟨a,ha⟩:=yI h.out og;exact z26 h.own ha rfl
 have vt:v.ownBlock≠some t:=fun e=>by
  obtain ⟨a,ha⟩:=yI hr e;exact absurd (z2h ha h.cell) (by decide)
 have vb:v.ownBlock≠some b:=fun e=>by
  obtain ⟨a,ha⟩:=yI hr e;exact z26 h.own ha rfl
 have vg:v.ownBlock≠some g:=fun e=>z27 hr h.out (by decide) e og
 have s1:ButB (fun z=>z=g) w8 (w8.setCell ⟨g,off+i,none⟩ v8):=(ButB.refl _ _).set _ _ rfl;have s2:ButB (fun z=>z=t) (w8.setCell ⟨g,off+i,none⟩ v8) ((w8.setCell ⟨g,off+i,none⟩ v8).setCell ⟨t,3,none⟩ (.int .i64 e')):=(ButB.refl _ _).set _ _ rfl;have PB:ButB (fun z=>v.ownBlock=some z\/z=g\/z=t) w7 ((w8.setCell ⟨g,off+i,none⟩ v8).setCell ⟨t,3,none⟩ (.int .i64 e')):=
  ((p8.mono fun z hz=> .inl hz).trans (s1.mono fun z hz=> .inr (.inl hz))).trans (s2.mono fun z hz=> .inr (.inr hz))
 have T8:=(p8.block t tl vt).trans h.cell;have T9:=(s1.block t (zO T8) (fun e=>gt e.symm)).trans T8;have T10:=zI (i:=3) (.int .i64 e') T9 rfl;have out8:=h.out.but p8 fun z e1 e2=>z27 hr h.out (by decide) e2 e1
 have hu:v8.oneCell'=true:=by
  obtain ⟨_,_,_,hv8⟩:=r8.shape3;rw [hv8];rfl
 have hmi:(vs.map fun v=>[v])[i]? =some [v]:=by rw [List.getElem?_map,hi];rfl
 have out9:RowC 234 1 (w8.setCell ⟨g,off+i,none⟩ v8) vo ((vs.set i v8).map fun v=>[v]):=by
  rw [hvo] at out8⊢;have:=out8.write (i:=i) (j:=0) (x:=[v]) (by decide) hmi (by decide) v8 hu;rw [Nat.mul_one,Nat.add_zero] at this;rw [List.map_set];exact this
 have out10:=out9.but s2 fun z e1 e2=>by
  rw [og] at e1;have e2:z=t:=e2;obtain rfl:=zsi e1;exact gt e2
 have hil:=(zge hi).1;have hal:=(zge hli).1;have v8t:v8.ownBlock≠some t:=fun e=>by
  obtain ⟨a,ha⟩:=yI r8 e;exact absurd (z2h ha T8) (by decide)
 have v8g:v8.ownBlock≠some g:=fun e=>z27 r8 out8 (by decide) e og
 have r10:=(r8.but s1 fun z e1 e2=>by
  have e2:z=g:=e2;subst e2;exact v8g e1).but s2 fun z e1 e2=>by
  have e2:z=t:=e2;subst e2;exact v8t e1
 refine ⟨⟨T10,z4t h.own PB ?_,h.idx,h.nodes.but PB ?_,out10,by rw [List.length_set];exact h.lenv,fun k u l' hk hl'=>?_,fun k q u u' z hk hq hu hu'=>?_⟩,PB.mono fun z hz=>?_,fun z hz=>?_⟩
 ·rintro (e | e | e)
  ·exact vb e
  ·exact gb e.symm
  exact tb e.symm
 ·rintro z e1 (e | e | e)
  ·exact z27 h.nodes hr (by decide) e1 e
  ·subst e;exact z27 h.nodes h.out (by decide) e1 og
  subst e;obtain ⟨a,ha⟩:=yI h.nodes e1;exact absurd (z2h ha h.cell) (by decide)
 ·by_cases hki:i=k
  ·subst hki;rw [List.getElem?_set_self hil] at hk;rw [List.getElem?_set_self hal] at hl';obtain rfl:=zsi hk;obtain rfl:=zsi hl';simpa [cI] using r10
  rw [List.getElem?_set_ne hki] at hk hl';have hrk:=h.row k u l' hk hl';refine hrk.but PB ?_;rintro z e1 (e | e | e)
  ·exact hki (h.apart i k v u z hi hk e e1)
  ·subst e;exact z27 hrk h.out (by decide) e1 og
  subst e;obtain ⟨a,ha⟩:=yI hrk e1;exact absurd (z2h ha h.cell) (by decide)
 ·have hlt:∀(k:Nat) u z,vs[k]? =some u->u.ownBlock=some z->z < w7.heap.size:=fun k u z hk hz=>by
   have hkl:=(zge hk).1;rw [h.lenv] at hkl;exact (h.row k u _ hk (qLgx (by omega))).lt z hz
  have key:∀(k:Nat) u,k≠i->vs[k]? =some u->v8.ownBlock=some z->u.ownBlock=some z->False:=fun k u hk1 hk hv hz=>by
   rcases o8 with o | ⟨y,o,hy⟩
   ·exact hk1 (h.apart k i u v z hk hi hz (o▸hv))
   ·obtain rfl:=zsi (o.symm.trans hv);have:=hlt k u y hk hz;omega
  by_cases hki:i=k
  ·by_cases hqi:i=q
   ·exact hki.symm.trans hqi
   subst hki;rw [List.getElem?_set_self hil] at hk;rw [List.getElem?_set_ne hqi] at hq;obtain rfl:=zsi hk;exact (key q u' (Ne.symm hqi) hq hu hu').elim
  rw [List.getElem?_set_ne hki] at hk;by_cases hqi:i=q
  ·subst hqi;rw [List.getElem?_set_self hil] at hq;obtain rfl:=zsi hq;exact (key k u (Ne.symm hki) hk hu' hu).elim
  rw [List.getElem?_set_ne hqi] at hq;exact h.apart k q u u' z hk hq hu hu'
 ·rcases hz with e | e | e
  ·exact .inr (.inr (.inr (.inr ⟨v,zmg hi,e⟩)))
  ·subst e;exact .inr (.inr (.inr (.inl og)))
  exact .inl e
 rcases hz with e | e | e | e | ⟨u,hu,e⟩
 ·exact .inl (.inl e)
 ·exact .inl (.inr (.inl e))
 ·exact .inl (.inr (.inr (.inl e)))
 ·exact .inl (.inr (.inr (.inr (.inl e))))
 rcases List.mem_or_eq_of_mem_set hu with hu | rfl
 ·exact .inl (.inr (.inr (.inr (.inr ⟨u,hu,e⟩))))
 rcases o8 with o | ⟨y,o,hy⟩
 ·exact .inl (.inr (.inr (.inr (.inr ⟨v,zmg hi,o▸e⟩))))
 obtain rfl:=zsi (o.symm.trans e);exact .inr hy
set_option maxHeartbeats 4000000 in
theorem zQ9 {E:List (GN×GN)} {m:Nat} {w:World} {t:Nat} {B:Nat->Prop} (h:Gr E m w t B) (hm:m<=5000) (x y:GN) (hx:OkG x) (hy:OkG y):Calls Tryz.prog 223 #[.pointer (some ⟨t,0,none⟩),vG x,vG y] w fun e' w'=>(∃r,e'= .returned (.int .i64 r))/\(∃B',Gr (E++[(x,y)]) (m+3) w' t B'/\∀z,B' z->B z\/w.heap.size<=z)/\ButB B w w':=by
 obtain ⟨b,e,vn,vo,vs,ns,adj,D,h,rfl⟩:=h;obtain ⟨W1,hW1,b1,f1,B1,q1⟩:=zQ w #[.bool x.1,.string x.2.1,.int .i64 x.2.2] 244;obtain ⟨W2,hW2,b2,f2,B2,q2⟩:=zQ W1 #[.bool y.1,.string y.2.1,.int .i64 y.2.2] 244;have B12:=B1.trans (B2.mono B1.size);have h2:GSE E m W2 t b e vn vo vs ns adj D:=⟨h.gs.below h.rep.len B12,h.rep,h.em⟩;have HX2:=zh (z4k b1 (B2.block _ q1));have HY2:=zh b2;have HI:=zh (zE1 h2.gs);have HH:=zh (zSi h2 (by omega) x y hx hy);have HW1:=zh hW1;have HW2:=zh hW2;have H:=zh h;have H2:=zh h2;have HB:=zh B12;have HX:=zh hx;have HY:=zh hy;have x0:=HX2.out 0 _ rfl;have x1:=HX2.out 1 _ rfl;have x2:=HX2.out 2 _ rfl;have y0:=b2 0 _ rfl;have y1:=b2 1 _ rfl;have y2:=b2 2 _ rfl;have HQ1:=zh q1;have HQ2:=zh q2;clear h h2 hx hy hW1 hW2 B12 b1 b2 f1 f2 B1 B2 q1 q2;obtain ⟨f,s,n⟩:=x;obtain ⟨f',s',n'⟩:=y;simp only [vG] at HH⊢;dsimp only at x0 x1 x2 y0 y1 y2;go_enter Tryz.func223,Tryz.ntmps223
 have hW1:=HW1.out;have hW2:=HW2.out;dsimp only at hW1 hW2;go_wp2_with fail
 refine zcm HI.out ?_;rintro _ w3 ⟨rfl,rfl⟩;clear hW1;go_wp2_with fail
 refine zcm HH.out ?_;rintro e2 w3 ⟨⟨r,rfl,hr⟩,B3⟩;have HR:=zh hr;have HB3:=zh B3;clear hr B3 hW2
 cases r with
 | true=>
  go_wp2;go_ret
  exact ⟨⟨_,rfl⟩,⟨_,⟨b,e,vn,vo,vs,ns,adj,D,⟨H2.out.gs.below H2.out.rep.len HB3.out,(H.out.rep.again (by first | exact HR.out.1 rfl | exact HR.out.1 trivial)).mono (by omega),by have:=H.out.em;omega⟩,rfl⟩,fun z hz=> .inl hz⟩,ButB.of (HB.out.trans (HB3.out.mono HB.out.size))⟩
 | false=>
  obtain ⟨A,cap,hvn,-⟩:=H.out.gs.nodes.shape;rw [qLmx] at hvn;have H3:=zh (H2.out.gs.below H2.out.rep.len HB3.out);have HX3:=zh (z4k (x:=(f,s,n)) HX2.out (HB3.out.block _ (zll HQ1.out (by have:=HQ2.out;omega))));have HY3:=zh (z4k (x:=(f',s',n')) HY2.out (HB3.out.block _ HQ2.out));have hT3:=H3.out.cell;rw [hvn] at hT3;have HT3:=zh hT3;have hz2:W1.heap.size < w3.heap.size:=zll HQ2.out HB3.out.size;have hz1:w.heap.size < w3.heap.size:=Nat.lt_trans HQ1.out hz2;have htl:=zO hT3;have HF:=zh (zNx (H3.out.of (w':=w3.drew) fun z _=>rfl) H2.out.rep.len (f,s,n) (f',s',n') HX.out HY.out);have hns:ns.length<=5000:=qNtx H.out.rep.small hm;have hem:e<=5000:=qNtx H.out.em hm;have he2:decide ((65536:Int)<=(e:Int))=false:=decide_eq_false (by omega);clear x0 x1 x2 y0 y1 y2 hT3;go_wp2_with fail
  refine wp_region_held_drew (S:=fun W=>(W.cell? ⟨t,1,none⟩=some (.slice A ns.length cap)/\W.cell? ⟨t,3,none⟩=some (.int .i64 e))/\(W.cell? ⟨w.heap.size,0,none⟩=some (.bool f)/\W.cell? ⟨w.heap.size,1,none⟩=some (.string s)/\W.cell? ⟨w.heap.size,2,none⟩=some (.int .i64 n))/\W.cell? ⟨W1.heap.size,0,none⟩=some (.bool f')/\W.cell? ⟨W1.heap.size,1,none⟩=some (.string s')/\W.cell? ⟨W1.heap.size,2,none⟩=some (.int .i64 n')) (by kernel_rfl) (zG8 (W:=w3.drew) (x:=(f,s,n)) (y:=(f',s',n')) HT3.out HX3.out HY3.out fun z _=>rfl) (fun hHeld=>?_);refine zi 0 ?_;iterate 8 (refine zt hHeld ?_;simp only [zA])
  refine zo ?_;refine wpAnyH_ready (rs:=[8]) (by kernel_rfl) (by simp) ?_;refine AllReadyH.cons rfl (fun K hK=>?_) ?_;rotate_left
  ·exact AllReadyH.nil
  go_simp;go_at_call 242
  refine zcm HF.out ?_;rintro _ w5 ⟨⟨nf,rfl,_,_⟩,B5⟩;have hgt:decide ((65536:Int) < (ns.length:Int)+nf)=false:=decide_eq_false (by omega);have hwr:IntKind.i64.wrap ((ns.length:Int)+nf)=(ns.length:Int)+nf:=IntWalk.i64_in _ (by omega);have b5:Below w3.heap.size w3 w5:=zB zbr.drew B5;clear B5 hHeld;refine hK.out _ _ (zG8 (W:=w5) (x:=(f,s,n)) (y:=(f',s',n')) HT3.out HX3.out HY3.out fun z hz=>b5.block z (by rcases hz with rfl | rfl | rfl<;>assumption)) (fun hHeld=>?_);clear hK K;refine zi 9 ?_;iterate 10 (refine zt hHeld ?_;simp only [zA])
  refine zo ?_;refine wpAnyH_done (by kernel_rfl) ?_ _;clear hHeld hgt hwr;have H5:=zh (H3.out.below H2.out.rep.len b5);have HX5:=zh (z4k (x:=(f,s,n)) HX3.out (b5.block _ hz1));have HY5:=zh (z4k (x:=(f',s',n')) HY3.out (b5.block _ hz2));have x0:=HX5.out 0 _ rfl;have x1:=HX5.out 1 _ rfl;have x2:=HX5.out 2 _ rfl;have HB5:=zh b5;clear b5;go_wp2_with fail
  refine zcm (zI0 H5.out H2.out.rep.len (by omega) (f,s,n) HX.out) ?_;rintro _ _ ⟨i,vn1,vo1,vs1,ns1,adj1,_,rfl,hi1,h6,alt1,gb1,bb1⟩;have rep1:GRep E (m+1) ns1 adj1:=by
   rcases alt1 with ⟨rfl,rfl⟩ | ⟨hn,rfl,rfl⟩
   ·exact H.out.rep.mono (by omega)
   ·exact H.out.rep.node hn
  have HBB1:=zh bb1;have HGB1:=zh gb1;have HI1:=zh hi1;have H6:=zh h6;have HR1:=zh rep1;have hgl:=H.out.gs.lt H.out.rep.len;have hns1:ns1.length<=9000:=qNtx rep1.small (by omega);have HY6:=zh (z4k (x:=(f',s',n')) HY5.out (bb1.block _ (zll hz2 HB5.out.size) fun h=>by have:=hgl _ h;have:=HQ1.out;omega));have y0:=HY6.out 0 _ rfl;have y1:=HY6.out 1 _ rfl;have y2:=HY6.out 2 _ rfl;clear x0 x1 x2 alt1 gb1 bb1 hi1 h6 rep1 hgl;go_wp2_with fail
  refine zcm (zI0 H6.out HR1.out.len hns1 (f',s',n') HY.out) ?_;rintro _ w7 ⟨j,vn2,vo2,vs2,ns2,adj2,_,rfl,hj2,h7,alt2,gb2,bb2⟩;have rep2:GRep E (m+2) ns2 adj2:=by
   rcases alt2 with ⟨rfl,rfl⟩ | ⟨hn,rfl,rfl⟩
   ·exact HR1.out.mono (by omega)
   ·exact HR1.out.node hn
  have hi2:ns2[i]? =some (f,s,n):=by
   rcases alt2 with ⟨rfl,rfl⟩ | ⟨hn,rfl,rfl⟩
   ·exact HI1.out
   ·rw [qLlx (zge HI1.out).1];exact HI1.out
  have hil:=(zge hi2).1;obtain ⟨l,hl⟩:∃l,adj2[i]? =some l:=⟨_,qLgx (by rw [rep2.len];exact hil)⟩;obtain ⟨v,hv⟩:∃v,vs2[i]? =some v:=⟨_,qLgx (by rw [h7.lenv];exact hil)⟩;have hrow:=h7.row i v l hv hl;have hll:l.length<=9000:=qNtx (rep2.deg i l hl) (by omega);obtain ⟨go,oo,capo,hvo,-,hcm,hgol,hcz,hfz⟩:=h7.out.at (i:=i) (x:=[v]) (by rw [List.getElem?_map,hv];rfl);rw [qLmx,h7.lenv] at hvo;obtain ⟨Av,nv,cv,rfl⟩:=hrow.shape3;have z0:=hcz 0 _ rfl;rw [Nat.mul_one,Nat.add_zero] at z0;have T7:=h7.cell;rw [hvo] at T7;have c2:=(zD T7).1 2 _ rfl;have c2a:∀o,(w7.alloc o).cell? ⟨t,2,none⟩=some (.slice (some ⟨go,oo,none⟩) ns2.length capo):=fun o=>(zD (zZ o T7)).1 2 _ rfl
  have z0a:∀o,(w7.alloc o).cell? ⟨go,oo+i,none⟩=some (.slice Av nv cv):=fun o=>(World.cell?_alloc_lt _ _ _ hgol).trans z0
  have hii:(i:Int) < (ns2.length:Int):=by omega
  have HT7:=zh T7;have HVO:=zh hvo;have HBB2:=zh bb2;have HGB2:=zh gb2;have HJ2:=zh hj2;have HI2:=zh hi2;have H7:=zh h7;have HR2:=zh rep2;have HV:=zh hv;have HL:=zh hl;have HROW:=zh hrow;have HVT:=zh (show ¬(Value.slice Av nv cv).ownBlock=some t from fun e=>by
   obtain ⟨_,ha⟩:=yI hrow e;exact absurd (z2h ha h7.cell) (by decide))
  have HVG:=zh (show ¬(Value.slice Av nv cv).ownBlock=some go from fun e=>z27 hrow h7.out (by decide) e (by rw [hvo];rfl));obtain ⟨_,houtc⟩:=yI h7.out (x:=go) (by rw [hvo];rfl);have HGO:=zh houtc;have hgt:go≠t:=fun e=>by
   subst e;exact absurd (z2h houtc h7.cell) (by decide)
  have hgt':=Ne.symm hgt;have FIN:∀(v8:Value) (w8:World),ButB (fun z=>(Value.slice Av nv cv).ownBlock=some z) w7 w8->RowC 3 1 w8 v8 (l.map cI++[cI j])->(v8.ownBlock=(Value.slice Av nv cv).ownBlock\/∃k,v8.ownBlock=some k/\w7.heap.size<=k)->
    (∃B',Gr (E++[((f,s,n),(f',s',n'))]) (m+3) ((w8.setCell ⟨go,oo+i,none⟩ v8).setCell ⟨t,3,none⟩ (.int .i64 ((e+1:Nat):Int))) t B'/\∀z,B' z->GB t b vn vo vs z\/w.heap.size<=z)/\ButB (GB t b vn vo vs) w ((w8.setCell ⟨go,oo+i,none⟩ v8).setCell ⟨t,3,none⟩ (.int .i64 ((e+1:Nat):Int))):=by
   intro v8 w8 p8 r8 o8;have heq2:e<=m:=H.out.em;have e2:e=e:=rfl;obtain ⟨q1,q2,q3⟩:=zQ8 (e':=e+1) H7.out HR2.out.len HV.out HL.out HVO.out p8 r8 o8;have z5:=HB5.out.size;have z3:=HB3.out.size;have z2:=HB.out.size;have zb:=HBB1.out.size;have zc:=HBB2.out.size;have u1:Below w.heap.size w w5:=(HB.out.trans (HB3.out.mono z2)).trans (HB5.out.mono (by omega));have g1:∀z,GB t b vn1 vo1 vs1 z->GB t b vn vo vs z\/w.heap.size<=z:=fun z hz=>(HGB1.out z hz).imp id fun q=>by omega
   have g2:∀z,GB t b vn2 vo2 vs2 z->GB t b vn vo vs z\/w.heap.size<=z:=fun z hz=>(HGB2.out z hz).elim (g1 z) fun q=> .inr (by omega)
   exact ⟨⟨_,⟨_,_,_,_,_,_,_,_,⟨q1,HR2.out.link HI2.out HJ2.out HL.out,by omega⟩,rfl⟩,fun z hz=>(q3 z hz).elim (g2 z) fun q=> .inr (by omega)⟩,(((ButB.of u1).trans HBB1.out).step HBB2.out g1).step q2 g2⟩
  have HFIN:=zh FIN;clear FIN;have hvl:vs2.length<=9000:=by rw [h7.lenv];exact qNtx rep2.small (by omega)
  unfold maxLen at hcm;clear y0 y1 y2 alt2 gb2 bb2 hj2 hi2 h7 rep2 hil hv hl hrow hcz hfz hvo T7 hgol houtc;obtain ⟨iI,hiI,hzI,h1I,h2I⟩:=info_parts (show (Tryz.prog.info? 3).map (fun i=>(i.zero,i.size,i.bytes))=some (some (.int .i64 0),1,8) from by kernel_rfl);go_wp2_with fail
  go_region_law (refine z1a w7 _ [.int .i64 j] rfl (.tmp 54) (.tmp 56) 234 rfl iI _ 8 Tryz.underlying234 hiI hzI h1I h2I rfl (by decide) (by decide) (.slice Av nv cv) (l.map cI) rfl _ _ rfl HROW.out (by go_grown) (by rw [qLmx];omega) rfl (by intro u hu;simp at hu;subst hu;rfl) (by repeat' first|with_reducible assumption|((with_reducible first|refine zR _ ?_ ?_|apply zJ);rotate_left;first|with_reducible rfl|((try dsimp only);first|with_reducible assumption|omega|(simp only [zS];done)|(simp only [zS];omega)))|with_reducible apply zI|with_reducible refine zZ _ ?_|with_reducible refine ZL ?_|refine (rfl:(_:Array Value)=_)) ?_;intro v8 w8 r8 p8 o8;obtain ⟨_,_,_,rfl⟩:=r8.shape3;have HR8:=zh r8;have HP8:=zh p8;have HO8:=zh o8;have HT8:=zh ((p8.block t (zO HT7.out) HVT.out).trans HT7.out);have HG8:=zh ((p8.block go (zO HGO.out) HVG.out).trans HGO.out);have c83:=(zD HT8.out).1 3 _ rfl;have c82:=(zD HT8.out).1 2 _ rfl;have f83:=(zD HT8.out).2;have g80:w8.cell? ⟨go,oo+i,none⟩=some (.slice Av nv cv):=(World.cell?_of_block (p8.block go (zO HGO.out) HVG.out)).trans z0;have f80:=(zD HG8.out).2;clear r8 p8 o8)
  all_goals
   clear c2 c2a z0 z0a;go_wp2;go_ret;exact ⟨⟨_,rfl⟩,HFIN.out _ _ HP8.out HR8.out HO8.out⟩
end
end Go.Proofs.YtdggplhnfhcieaaGreatDoor
