/- No condition. -/
import Derived.StillTailTactics
import Derived.Deep.RegionLaw
import Derived.Test.YtdggplhnfhcieaaGreatDoorW07
set_option linter.all false
set_option maxRecDepth 100000
namespace Go.Proofs.YtdggplhnfhcieaaGreatDoor
open Go.Proofs.Tryz Cd Ce List
variable {D:DataW Unit} {b:Nat} {w:World}
section
open Go.RowKit Go.Deep Go.Maps
theorem RowC.but {e:TypeId} {sz:Nat} {B:Nat->Prop} {w':World} {v:Value} {l:List (List Value)} (h:RowC e sz w v l) (k:ButB B w w') (c:∀a,v.ownBlock=some a->¬B a):RowC e sz w' v l:=h.keep λa hz=>k.block a (h.lt a hz) (c a hz)
theorem z5l {P:Program} {k:TypeId} {R:Value->Option (DataW Unit×List MemPlace)} {n:Nat} {B:Nat->Prop} {w w':World} (h:w.ownsMap P k R b n D) (hb:ButB B w w') (f:¬B b):w'.ownsMap P k R b n D:=by
 have g:=h.lt;obtain⟨c,a,d,e⟩:=h;exact⟨c,a,(hb.block b g f).trans d,e⟩
theorem z2t {w:World} {e e':TypeId} {sz j:Nat} {v v':Value} {l i:List (List Value)} (h:RowC e sz w v l) (h':RowC e' j w v' i) (f:e≠e') {a:Nat} (hz:v.ownBlock=some a) (g:v'.ownBlock=some a):False:=by
 obtain⟨_,c⟩:=Y0 h hz;obtain⟨_,d⟩:=Y0 h' g;exact f (z37 c d)
theorem mbu {p:Prop} (h:p:=by
 exact absurd (z37 ha h.cell) dc):p:=h
theorem zS9 {w4 w5 w6 w7:World} {t b e:Nat} {vn vo v6 v7:Value} {vs:List Value} {ns:List GN} {adj:List (List Nat)} {D:DataW Unit} {x:GN} (h:GS w4 t b e vn vo vs ns adj D) (hl:adj.length=ns.length) (hx:OkG x) (hn:x∉ns)
  (h5:w5.ownsMap prog 244 (plainElem prog 3) b (ns.length+1) (D.put (kG x) (.lit (.int .i64 ns.length)))) (g5:w4.grownBy w5 (some b))
  (p6:ButB (λz=>vn.ownBlock=some z) w5 w6) (r6:RowC 244 3 w6 v6 (ns.map cG++[cG x])) (o6:v6.ownBlock=vn.ownBlock\/∃k,v6.ownBlock=some k/\w5.heap.size<=k)
  (p7:ButB (λz=>vo.ownBlock=some z) (w6.setCell (aD t 1) v6) w7) (r7:RowC 234 1 w7 v7 (vs.map (λv=>[v])++[[.slice none 0 0]])) (o7:v7.ownBlock=vo.ownBlock\/∃k,v7.ownBlock=some k/\w6.heap.size<=k):
  GS (w7.setCell (aD t 2) v7) t b e v6 v7 (vs++[.slice none 0 0]) (ns++[x]) (adj++[[]]) (D.put (kG x) (.lit (.int .i64 ns.length)))/\ButB (GB t b vn vo vs) w4 (w7.setCell (aD t 2) v7)/\∀z,GB t b v6 v7 (vs++[.slice none 0 0]) z->GB t b vn vo vs z\/w4.heap.size<=z:=by
 have tl:=zI h.cell;have tb:t≠b:=z2s h.own h.cell;have tn:vn.ownBlock≠some t:=λe=>by
  obtain⟨a,ha⟩:=Y0 h.nodes e;exact mbu
 have tO:vo.ownBlock≠some t:=λe=>by
  obtain⟨a,ha⟩:=Y0 h.out e;exact mbu
 have bn:vn.ownBlock≠some b:=λe=>by
  obtain⟨a,ha⟩:=Y0 h.nodes e;exact z2s h.own ha rfl
 have bo:vo.ownBlock≠some b:=λe=>by
  obtain⟨a,ha⟩:=Y0 h.out e;exact z2s h.own ha rfl
 have T5:=(g5.block t tl (by simpa using tb)).trans h.cell;have tl5:=zI T5;have T6:=(p6.block t tl5 tn).trans T5;have T6':=zH (i:=1) v6 T6 rfl;have T7:=(p7.block t (zI T6') tO).trans T6';have T8:=zH (i:=2) v7 T7 rfl;have s1:ButB (λz=>z=t) w6 (w6.setCell (aD t 1) v6):=(ButB.refl _ _).set _ _ rfl;have s2:ButB (λz=>z=t) w7 (w7.setCell (aD t 2) v7):=(ButB.refl _ _).set _ _ rfl;have PB:ButB (λz=>z=t\/z=b\/vn.ownBlock=some z\/vo.ownBlock=some z) w4 (w7.setCell (aD t 2) v7):=
  (((((ButB.grown g5 (.inr (.inl rfl))).trans (p6.mono λz hz=> .inr (.inr (.inl hz)))).trans (s1.mono λz hz=> .inl hz)).trans (p7.mono λz hz=> .inr (.inr (.inr hz)))).trans (s2.mono λz hz=> .inl hz))
 have own5:=z5l h5 p6 bn;have own6:=z5l (z5l own5 s1 (Ne.symm tb)) p7 bo;have own8:=z5l own6 s2 (Ne.symm tb);have n6t:∀z,v6.ownBlock=some z->¬z=t:=λz hz e=>by
  subst e;obtain⟨a,ha⟩:=Y0 r6 hz;exact absurd (z37 ha T6) dc
 have out5:RowC 234 1 w5 vo (vs.map λv=>[v]):=h.out.keep λz hz=>g5.block z (h.out.lt z hz) (by simp only[ne_eq,Option.some.injEq];rintro rfl;exact bo hz)
 have out6:=out5.but p6 λz hz e=>z2t h.nodes h.out dc e hz
 have r7':=(r6.but s1 n6t).but p7 λz hz e=>z2t r6 out6 dc hz e
 have r8:=r7'.but s2 n6t;have r8':=r7.but s2 λz hz e=>by
  subst e;obtain⟨a,ha⟩:=Y0 r7 hz;exact absurd (z37 ha T7) dc
 have hrow:∀(i:Nat) v l,vs[i]? =some v->adj[i]? =some l->∀z,v.ownBlock=some z->¬(z=t\/z=b\/vn.ownBlock=some z\/vo.ownBlock=some z):=by
  intro i v l hv hl' z hz;have hr:=h.row i v l hv hl';obtain⟨a,ha⟩:=Y0 hr hz;rintro(rfl|rfl|e|e)
  ·exact mbu
  ·exact z2s h.own ha rfl
  ·exact z2t hr h.nodes dc hz e
  ·exact z2t hr h.out dc hz e
 have hlv:vs.length=adj.length:=h.lenv.trans hl.symm;refine⟨⟨T8,by simpa using own8,h.idx.put hx hn,by simpa using r8,by simpa using r8',by simp[h.lenv],λi v l hv hl'=>?_,λi j v u k hi hj hv hu=>?_⟩,PB.mono λz hz=>?_,λz hz=>?_⟩
 ·rcases Nat.lt_or_ge i vs.length with hi|hi
  ·rw[qLlx hi] at hv;rw[qLlx om] at hl';exact(h.row i v l hv hl').but PB (hrow i v l hv hl')
  rw[qLrx hi] at hv;rw[qLrx om] at hl';have h0:i-vs.length=0:=by have:=(zge hv).1;simp at this;omega
  rw[h0] at hv;rw[show i-adj.length=0 by omega] at hl';obtain rfl:Value.slice none 0 0=v:=by simpa using hv
  obtain rfl:[]=l:=by simpa using hl'
  exact RowC.nil _
 ·rcases Nat.lt_or_ge i vs.length with h1|h1
  ·rcases Nat.lt_or_ge j vs.length with h2|h2
   ·rw[qLlx h1] at hi;rw[qLlx h2] at hj;exact h.apart i j v u k hi hj hv hu
   rw[qLrx h2] at hj;have:u= .slice none 0 0:=by simpa using zmg hj
   subst this;cases hu
  rw[qLrx h1] at hi;have:v= .slice none 0 0:=by simpa using zmg hi
  subst this;cases hv
 ·rcases hz with h|h|h|h
  ·exact .inl h
  ·exact .inr (.inl h)
  ·exact .inr (.inr (.inl h))
  exact .inr (.inr (.inr (.inl h)))
 have z5:=g5.size;have z6:=p6.size;rcases hz with h|h|h|h|⟨v,hv,h⟩
 ·exact .inl (.inl h)
 ·exact .inl (.inr (.inl h))
 ·rcases o6 with o|⟨k,o,hk⟩
  ·exact .inl (.inr (.inr (.inl (o▸h))))
  obtain rfl:k=z:=zsi (o.symm.trans h);exact .inr om
 ·rcases o7 with o|⟨k,o,hk⟩
  ·exact .inl (.inr (.inr (.inr (.inl (o▸h)))))
  obtain rfl:k=z:=zsi (o.symm.trans h);exact .inr om
 rcases zmb hv with hv|hv
 ·exact .inl (.inr (.inr (.inr (.inr ⟨v,hv,h⟩))))
 obtain rfl:v= .slice none 0 0:=by simpa using hv
 cases h
set_option maxHeartbeats 2000000 in
theorem zJw {w:World} {t b e:Nat} {vn vo:Value} {vs:List Value} {ns:List GN} {adj:List (List Nat)} {D:DataW Unit} (h:GS w t b e vn vo vs ns adj D) (hl:adj.length=ns.length) (hm:ns.length<=9000) (x:GN) (hx:OkG x):Calls Tryz.prog 243 #[.pointer (some ⟨t,0,none⟩),vG x] w fun e' w'=>∃(i:Nat) (vn' vo':Value) (vs':List Value) (ns':List GN) (adj':List (List Nat)) (D':DataW Unit),e'= .returned (.int .i64 i)/\ns'[i]? =some x/\GS w' t b e vn' vo' vs' ns' adj' D'/\((ns'=ns/\adj'=adj)\/(x∉ns/\ns'=ns++[x]/\adj'=adj++[[]]))/\(∀z,GB t b vn' vo' vs' z->GB t b vn vo vs z\/w.heap.size<=z)/\ButB (GB t b vn vo vs) w w':=by
 obtain ⟨W1,hW1,b1,f1,B1,q1⟩:=zP w #[.bool x.1,.string x.2.1,.int .i64 x.2.2] 244;have h1:=h.below hl B1;obtain ⟨cb,_⟩:=zB h1.cell;have c0:=cb 0 _ rfl;have c1:=cb 1 _ rfl;obtain ⟨_,_,hvn,-⟩:=h.nodes.shape;rw [qLmx] at hvn;rw [hvn] at c1;obtain ⟨c,g,L⟩:=z5c ns x;have k1:=fun (W:World) (hW:W.heap=W1.heap)=>z8n h1.own h1.idx hx L hW
 have HW1:=zh hW1;have HB:=zh B1;have H:=zh h;have H1:=zh h1;have HL:=zh L;have HX:=zh hx;have Hl:=zh hl;clear cb h h1 L hx hW1 hl hvn;have hkey:=zEv HX.out;obtain ⟨f,s,n⟩:=x;simp only [vG] at k1 hkey⊢;have x0:=b1 0 _ rfl;have x1:=b1 1 _ rfl;have x2:=b1 2 _ rfl;dsimp only at x0 x1 x2;have k11:=fun q=>k1 (W1.drewN q) rfl
 have Hb1:=zh b1;clear k1 b1 f1
 cases g with
 | true=>
  obtain ⟨i,hi,rfl⟩:∃i:Nat,ns[i]? =some (f,s,n)/\c=i:=by
   rcases HL.out with ⟨_,h⟩ | ⟨h,_⟩
   ·exact h
   ·cases h
  have HI:=zh hi;clear hi;go_enter Tryz.func243,Tryz.ntmps243
  have hW1:=HW1.out;dsimp only at hW1;go_wp2_with fail
  go_quiet (fail)
  go_wp2;go_ret
  exact ⟨i,vn,vo,vs,ns,adj,D,rfl,HI.out,H.out.below Hl.out (y8 HB.out _),.inl ⟨rfl,rfl⟩,fun z hz=> .inl hz,ButB.of (y8 HB.out _)⟩
 | false=>
  have hn:(f,s,n)∉ns:=by
   rcases HL.out with ⟨h,_⟩ | ⟨_,h,_⟩
   ·cases h
   ·exact h
  have HN:=zh hn;clear hn;obtain ⟨iN,hiN,hzN,h1N,h2N⟩:=info_parts (show (Tryz.prog.info? 244).map (fun i=>(i.zero,i.size,i.bytes))=some (some (.agg #[.bool false,.string ⟨#[]⟩,.int .i64 0]),3,32) from by kernel_rfl);obtain ⟨iS,hiS,hzS,h1S,h2S⟩:=info_parts (show (Tryz.prog.info? 234).map (fun i=>(i.zero,i.size,i.bytes))=some (some (.slice none 0 0),1,24) from by kernel_rfl);go_enter Tryz.func243,Tryz.ntmps243
  have hW1:=HW1.out;dsimp only at hW1;go_wp2_with fail
  go_quiet (fail)
  go_wp2_with fail
  clear hW1;generalize hw3:World.drewN _ _=w3;have hh:w3.heap=W1.heap:=by rw [<-hw3];rfl
  have B3:Below w.heap.size w w3:=by rw [<-hw3];exact y8 HB.out _
  clear hw3;have H3:=zh (H1.out.of (w':=w3) fun z _=>by rw [hh]);have hb3:∀j v,(#[.bool f,.string s,.int .i64 n]:Array Value)[j]? =some v->w3.cell? ⟨w.heap.size,j,none⟩=some v:=fun j v hj=>(World.cell?_of_block (by rw [hh])).trans (Hb1.out j v hj)
  have hz3:w.heap.size < w3.heap.size:=by rw [hh];exact q1
  clear hh c0 c1 x0 x1 x2 k11 Hb1 H1;have c0:=(zB H3.out.cell).1 0 _ rfl;have x0:=hb3 0 _ rfl;have x1:=hb3 1 _ rfl;have x2:=hb3 2 _ rfl;have Hb3:=zh hb3;have HB3:=zh B3;clear hb3 B3;go_still_tail 6,(by kernel_rfl)
  change wpList _ _ _ _ _ (World.drew _);generalize hw4:World.drew _=w4;have hh:w4.heap=w3.heap:=by rw [<-hw4];rfl
  have B4:Below w.heap.size w w4:=by rw [<-hw4];exact HB3.out.drew
  clear hw4;have H4:=zh (H3.out.of (w':=w4) fun z _=>by rw [hh]);have hb4:∀j v,(#[.bool f,.string s,.int .i64 n]:Array Value)[j]? =some v->w4.cell? ⟨w.heap.size,j,none⟩=some v:=fun j v hj=>(World.cell?_of_block (by rw [hh])).trans (Hb3.out j v hj)
  have hz4:w.heap.size < w4.heap.size:=by rw [hh];exact hz3
  have HB4:=zh B4;have Hb4:=zh hb4;clear hh c0 x0 x1 x2 B4 hb4 Hb3 H3 hz3 HB3;trace "tail"
  go_wp2_with (at_mapUpdate;go_loud (refine wpList_mapUpdate_own _ rfl _ _ _ 280 rfl 244 3 keyNode Tryz.underlying280 _ b ns.length D rfl H4.out.own (by unfold maxLen;omega) _ (.int .i64 ns.length) _ rfl rfl hkey _ [] (plainElem_int Tryz.underlying3 (by have h:I64 (ns.length:Int):=⟨by omega,by omega⟩;simp [Lit.wf];exact h)) ?_);intro w5 hown5 hg5;have HO5:=zh hown5;have HG5:=zh hg5;clear hown5 hg5)
  have T5:w5.heap[t]? =some (.cells #[.map (some b),vn,vo,.int .i64 e] 283 (0,0)):=(HG5.out.block t (zI H4.out.cell) (by simpa using z2s H4.out.own H4.out.cell)).trans H4.out.cell;have hb5:∀j v,(#[.bool f,.string s,.int .i64 n]:Array Value)[j]? =some v->w5.cell? ⟨w.heap.size,j,none⟩=some v:=fun j v hj=>(World.cell?_of_block (HG5.out.block w.heap.size hz4 (by have:=H.out.own.lt;simp;omega))).trans (Hb4.out j v hj)
  have HR5:=zh (show RowC 244 3 w5 vn (ns.map cG) from H4.out.nodes.keep fun z hz=>HG5.out.block z (H4.out.nodes.lt z hz) (by
   obtain ⟨a,ha⟩:=Y0 H4.out.nodes hz;simpa using z2s H4.out.own ha))
  have c1:=(zB T5).1 1 _ rfl;have fr:=(zB T5).2;have c1a:∀o,(w5.alloc o).cell? ⟨t,1,none⟩=some vn:=fun o=>(zB (zR o T5)).1 1 _ rfl
  have x0:=hb5 0 _ rfl;have x1:=hb5 1 _ rfl;have x2:=hb5 2 _ rfl;have HT5:=zh T5;clear T5 hb5 hz4 Hb4;have HTN:=zh (show ¬vn.ownBlock=some t from fun e=>by
   obtain ⟨a,ha⟩:=Y0 H.out.nodes e;exact absurd (z37 ha H.out.cell) (by decide))
  have HTO:=zh (show ¬vo.ownBlock=some t from fun e=>by
   obtain ⟨a,ha⟩:=Y0 H.out.out e;exact absurd (z37 ha H.out.cell) (by decide))
  have HO5:=zh HO5.out;have HOUT5:=zh (show RowC 234 1 w5 vo (vs.map fun v=>[v]) from H4.out.out.keep fun z hz=>HG5.out.block z (H4.out.out.lt z hz) (by
   obtain ⟨a,ha⟩:=Y0 H4.out.out hz;simpa using z2s H4.out.own ha))
  have Hne:=zh (fun z (e1:vo.ownBlock=some z) (e2:vn.ownBlock=some z)=>z2t H.out.out H.out.nodes (by decide) e1 e2);have hvl:vs.length<=9000:=by rw [H.out.lenv];exact hm
  go_region_law (refine z1y w5 _ [.bool f,.string s,.int .i64 n] rfl (.tmp 33) (.tmp 35) 239 rfl iN _ 32 Tryz.underlying239 hiN hzN h1N h2N rfl (by decide) (by decide) vn (ns.map cG) rfl _ _ rfl HR5.out (by go_grown) (by rw [qLmx];omega) rfl (zBo (f,s,n)) (by repeat' first|with_reducible assumption|((with_reducible first|refine Z2 _ ?_ ?_|apply zJ);rotate_left;first|with_reducible rfl|((try dsimp only);first|with_reducible assumption|omega|(simp only [zS];done)|(simp only [zS];omega)))|with_reducible apply zH|with_reducible refine zR _ ?_|with_reducible refine ZQ ?_|refine (rfl:(_:Array Value)=_)) ?_;intro v6 w6 r6 p6 o6;obtain ⟨A6,n6,cp6,rfl⟩:=r6.shape3;have HR6:=zh r6;have HP6:=zh p6;have HO6:=zh o6;have HT6:=zh ((p6.block t (zI HT5.out) HTN.out).trans HT5.out);have c61:=(zB HT6.out).1 1 _ rfl;have c62:=(zB HT6.out).1 2 _ rfl;have f6:=(zB HT6.out).2;clear r6 p6 o6)
  all_goals
   have HOUT6:=zh ((HOUT5.out.but HP6.out fun z e1 e2=>Hne.out z e1 e2).but ((ButB.refl (fun z=>z=t) w6).set ⟨t,1,none⟩ (.slice A6 n6 cp6) rfl) fun z hz e=>HTO.out (e▸hz));have HT6':=zh (zH (i:=1) (.slice A6 n6 cp6) HT6.out rfl);clear c1 c1a fr x0 x1 x2;go_wp2_with (at_builtin;go_loud (refine z2b (w6.setCell ⟨t,1,none⟩ (.slice A6 n6 cp6)) _ [.slice none 0 0] rfl (.tmp 43) (.tmp 44) 281 rfl iS _ 24 Tryz.underlying281 hiS hzS h1S h2S rfl (by decide) (by decide) vo (vs.map fun v=>[v]) rfl _ _ rfl HOUT6.out (by go_grown) (by rw [qLmx];omega) rfl (by intro u hu;simp at hu;subst hu;rfl) (by repeat' first|with_reducible assumption|((with_reducible first|refine Z2 _ ?_ ?_|apply zJ);rotate_left;first|with_reducible rfl|((try dsimp only);first|with_reducible assumption|omega|(simp only [zS];done)|(simp only [zS];omega)))|with_reducible apply zH|with_reducible refine zR _ ?_|with_reducible refine ZQ ?_|refine (rfl:(_:Array Value)=_)) ?_);intro v7 w7 r7 p7 o7;obtain ⟨_,_,_,rfl⟩:=r7.shape3;have HR7:=zh r7;have HP7:=zh p7;have HO7:=zh o7;have HT7:=zh ((p7.block t (zI HT6'.out) HTO.out).trans HT6'.out);have c72:=(zB HT7.out).1 2 _ rfl;have f7:=(zB HT7.out).2;clear r7 p7 o7)
   go_ret;obtain ⟨e1,e2,e3⟩:=zS9 H4.out Hl.out HX.out HN.out HO5.out HG5.out HP6.out HR6.out HO6.out HP7.out HR7.out (by simpa using HO7.out);refine ⟨ns.length,_,_,_,_,_,_,rfl,?_,e1,.inr ⟨HN.out,rfl,rfl⟩,fun z hz=>?_,(ButB.of HB4.out).trans e2⟩
   ·rw [qLrx (znl _),Nat.sub_self];rfl
   ·exact (e3 z hz).imp id fun h=>qNtx HB4.out.size h
end
end Go.Proofs.YtdggplhnfhcieaaGreatDoor
