/- No condition. -/
import Derived.Test.YtdggplhnfhcieaaGreatDoorW18
set_option linter.all false
set_option maxRecDepth 100000
namespace Go.Proofs.YtdggplhnfhcieaaGreatDoor
open Go.Proofs.Tryz Cd Ce List
open Go.RowKit Go.Deep
variable {i k:Nat} {l:List Wrap} {name:Nm} {p:Prop}
section
variable {X:Nat->Prop} {base bw:Nat} {W:World} {R:RM} {c:Call} {dv:Value} {st:State} {done late:Bool}
theorem zV0 {k:RK} (hk:k≠ .fo) {r:Row} {a:List Value} (h:(R .fo).cells[i]? =some a):zO (zO R k r) .fo (yI R i a)=zO R k r:=by
 funext x
 by_cases b:x= .fo
 ·subst b;rw[YQ,yB R r hk.symm];unfold yI;rw[lSq h]
 rw[yB _ _ b]
theorem WK.wrIn (h:WK X base bw W R c dv st done late) (hk:k<st.folders) {w':World} {r:Row} (hv:r.v=(R (.wr k)).v) (q:OS base w' (zO R (.wr k) r)) (a:Mut bw R W (zO R (.wr k) r) w') (e:w'.heap[bw]? =W.heap[bw]?)
  (hl:All2 (yL (λ_=>True) w') r.cells l):Wrote X base bw W R c dv late (setF st k { fo st k with wraps:=l }) done w':=by
 have b:=ZT hk;have n:=(h.is.fo k _ b).1;have o:(hdr R k (fo st k)).set 5 r.v=hdr R k (fo st k):=by rw[hv];rfl
 have d:=h.is.wrRow (r:=r) b a.kept (hl.imp λ_ _ f=>f);rw[o,zV0 sm n] at d;refine⟨_,h.turn a q d ?_,a,by rw[yB _ _ sm]⟩;rw[e,h.box];have g:(zO R (.wr k) r) .us=R .us:=yB _ _ sm;have j:(zO R (.wr k) r) .de=R .de:=yB _ _ sm;have m:(zO R (.wr k) r) .fo=R .fo:=yB _ _ sm;unfold z42;rw[g,j,m];rfl
theorem mb1 (h:p:=by
 exact⟨_,h8,m8,by rw[YQ];rfl⟩):p:=h
theorem WK.wrTo (h:WK X base bw W R c dv st done late) {g d:Nat} (hk:k<st.folders) (ha:foAt R k g d) {w1:World} {v':Value} {cells:List (List Value)} (n:cells.length<=10000) (hr:RowC 149 3 w1 v' cells) (hb:ButB (λw=>(R (.wr k)).v.ownBlock=some w) W w1)
  (o:v'.ownBlock=(R (.wr k)).v.ownBlock\/∃k,v'.ownBlock=some k/\W.heap.size<=k) (q:v'.oneCell'=true) {l:List Wrap} (hl:All2 (yL (λ_=>True) w1) cells l):
  Wrote X base bw W R c dv late (setF st k { fo st k with wraps:=l }) done (w1.setCell (aD g (d+5)) v'):=by
 have b:=ZT hk;obtain⟨v,t,f,_⟩:=h.put (W':=w1) (.wr k) ⟨v',cells⟩ hb hr n (λe hb=>o.imp (λa=>by rw[<-a];exact hb) λ⟨x,a,m⟩=>by
  rw[show v'.ownBlock=some e from hb] at a;obtain rfl:=zsi a;exact m)
 obtain⟨h8,m8⟩:=h.sub b ha (k:= .wr k) (j:=5) (u:=v') (f':={ fo st k with wraps:=l }) ⟨sm,sm,sm⟩ om v t f q λs=>h.is.wrRow (r:=⟨v',cells⟩) b s (hl.imp λ_ _ a=>a)
 exact mb1
theorem Wrote.pre {w1 w':World} {st':State} {a:Bool} (h:Wrote X base bw w1 R c dv late st' a w') (hb:(bW W w1:Prop)):Wrote X base bw W R c dv late st' a w':=by
 obtain⟨b,d,e,f⟩:=h;exact⟨b,d,(Mut.below hb).trans e,f⟩
theorem zSx {eps:List Epoch} {seed:Bool} (h:z9w name l=false):YI eps name seed l=l.take (z0f name l)++⟨name,eps,seed⟩::l.drop (z0f name l):=by
 rw[zF7];unfold z9w at h
 cases a:l[z0f name l]? with
 | none=>
  have:=List.getElem?_eq_none_iff.1 a;dsimp only
  rw[take_of_length_le this,drop_eq_nil_of_le this]
 | some w=>
  rw[a] at h;dsimp only at h⊢;rw[if_neg (of_decide_eq_false h)]
theorem zQe {eps:List Epoch} {seed:Bool} {w:Wrap} (h:l[z0f name l]? =some w) (hn:w.name=name):YI eps name seed l=l.set (z0f name l) (if z19 eps w seed then w else⟨name,eps,seed⟩):=by
 rw[zF7,h];dsimp only;rw[if_pos hn]
theorem zSy (h:z9w name l=true):∃w,l[z0f name l]? =some w/\w.name=name:=by
 unfold z9w at h
 cases a:l[z0f name l]? with
 | none=>rw[a] at h;cases h
 | some w=>
  rw[a] at h;exact⟨w,rfl,of_decide_eq_true h⟩
theorem zMy (name:Nm) (l:List Wrap):z0f name l<=l.length:=by
 unfold z0f;exact(takeWhile_sublist _).length_le
theorem All2.ins {j m:Type} {p:j->m->Prop} {a:List j} {b:List m} (h:All2 p a b) (hi:i<=b) {x:j} {y:m} (k:p x y):All2 p (a.take i++x::a.drop i) (b.take i++y::b.drop i):=by
 refine⟨by simp[h.1],λf q r d e=>?_⟩;have n:(a.take i).length=i:=by rw[length_take,h.1];omega
 have o:(b.take i).length=i:=by rw[length_take];omega
 rcases Nat.lt_trichotomy f i with g|g|g
 ·rw[qLlx om,getElem?_take,if_pos g] at d e;exact h.2 f q r d e
 ·subst g;rw[qLrx om,n,Nat.sub_self] at d;rw[qLrx om,o,Nat.sub_self] at e;obtain rfl:=zsi d;obtain rfl:=zsi e;exact k
 rw[qLrx om,n,show f-i=(f-i-1)+1 by omega,getElem?_cons_succ,getElem?_drop] at d;rw[qLrx om,o,show f-i=(f-i-1)+1 by omega,getElem?_cons_succ,getElem?_drop] at e;exact h.2 _ q r d e
theorem WK.wrSet (h:WK X base bw W R c dv st done late) (hk:k<st.folders) {a b n w:Nat} (hv:(R (.wr k)).v= .slice (some ⟨a,b,none⟩) n w) {f:List Value} (o:(R (.wr k)).cells[i]? =some f) (y:Wrap) (hy:y.name.size<=()/\I64 y.epoch):
  Wrote X base bw W R c dv late (setF st k { fo st k with wraps:=(fo st k).wraps.set i y }) done (((W.setCell (aD a (b+i*3)) y.name).setCell (aD a (b+i*3+1)) y.epoch).setCell (aD a (b+i*3+2)) y.seed):=by
 have m:=h.os.row (.wr k);rw[hv] at m;have u:=(zge o).1;have C:f.length=3:=(m.1 f (zmg o)).1;obtain⟨g,e,d,rfl⟩:∃g e d,f=[g,e,d]:=by
  match f,C with
  | [g,e,d],_=>exact⟨g,e,d,rfl⟩
 have A:=m.write (by decide:(0:Nat)<3) o (by decide:0<3) y.name rfl;have x:((R (.wr k)).cells.set i [y.name,e,d])[i]? =some [.string y.name,e,d]:=by rw[getElem?_set_self u]
 have s:=A.write (by decide:(0:Nat)<3) x (by decide:1<3) y.epoch rfl;simp only[set_set] at s;have z:((R (.wr k)).cells.set i [y.name,y.epoch,d])[i]? =some [.string y.name,.int .i64 y.epoch,d]:=by rw[getElem?_set_self u]
 have t:=s.write (by decide:(0:Nat)<3) z (by decide:2<3) y.seed rfl;simp only[set_set] at t;have q:(R (.wr k)).v.ownBlock=some a:=by rw[hv];rfl
 have B:ButB (λF=>(R (.wr k)).v.ownBlock=some F) W (((W.setCell (aD a (b+i*3)) y.name).setCell (aD a (b+i*3+1)) y.epoch).setCell (aD a (b+i*3+2)) y.seed):=
  (((ButB.refl _ W).set ⟨a,b+i*3,none⟩ _ q).set ⟨a,b+i*3+1,none⟩ _ q).set ⟨a,b+i*3+2,none⟩ _ q
 obtain⟨E,D,v,_⟩:=h.put (.wr k) ⟨(R (.wr k)).v,(R (.wr k)).cells.set i [y.name,y.epoch,y.seed]⟩ B (by rw[hv];exact t) (by have:=h.os.len (.wr k);simpa using this) (λe j=> .inl j);exact h.wrIn hk (r:=⟨(R (.wr k)).v,(R (.wr k)).cells.set i [y.name,y.epoch,y.seed]⟩) rfl E D v (((h.is.fo k _ (ZT hk)).2.wr.imp λ_ _ j=>j).set i ⟨rfl,hy.1,hy.2⟩)
theorem maM (h:p:=by
 refine zo ?_;refine wpAnyH_done kr ?_ _;clear hHeld HS;have t5:=zy B6 t5;have r0:=zy B6 r0;have r1:=zy B6 r1;have r2:=zy B6 r2;have rz:∀q,w6.frozen? (aD gw q)=false:=λq=>by unfold World.frozen?;rw[B6.o.block gw hgw4,HB4.o.block gw hgw];exact hzw q
 go_wp2;go_end0
 exact⟨rfl,HE1.o _ (zD HB4 B6.o)⟩):p:=h
theorem mbg (h:p:=by
 refine wpAnyH_done kr ?_ _;clear hHeld HS;go_wp2;try simp only[φ]
 refine bodyPost_ret (results_none rfl _ _ _) rfl ?_;exact⟨rfl,HE1.o _ (zD HB4 B6.o)⟩):p:=h
set_option maxHeartbeats 8000000 in
theorem z9h (h:WK X base bw W R c dv st done late) {k g o:Nat} (hk:k < st.folders.length) (ha:foAt R k g o) (hr:z0v (fo st k).wraps) (hwl:(fo st k).wraps.length<=9999) (hel:(fo st k).epochs.length<=1000000) (name:Nm) (hnm:name.size<=140737488355328) (seed:Bool):
  Calls Tryz.prog 128 #[.pointer (some ⟨g,o,none⟩),.string name,.bool seed] W λe w'=>e= .returned (.tuple #[])/\Wrote X base bw W R c dv late (setF st k (YZ (fo st k) name seed)) done w':=by
 have HW:=zh h;have HA:=zh ha;have HE:=zh (z3t h hk ha);obtain⟨A2,c2,A3,c3,A4,c4,A5,c5,A6,c6,eh,hF,u0,u1,u2,u3,u4,u5,u6,hg,gz⟩:=h.fold (ZT hk) ha;have hwr:(R (.wr k)).v= .slice A5 (fo st k).wraps.length c5:=by
  simp only[hdr,List.cons.injEq] at eh;exact eh.2.2.2.2.2.1
 have HROW:=zh (show RowC 149 3 W (.slice A5 (fo st k).wraps.length c5) (R (.wr k)).cells from by rw[<-hwr];exact h.os.row (.wr k));have HAL:=zh (h.is.fo k _ (ZT hk)).2.wr;have HSW:=zh (show Sl 3 yL (λ_=>True) W (.slice A5 (fo st k).wraps.length c5) (fo st k).wraps from by rw[<-hwr];exact z1h z08 (h.os.row (.wr k)) (h.os.len _) (h.is.fo k _ (ZT hk)).2.wr);have HBS:=zh (zUy (fo st k).wraps hr (by omega) name _ W _ HSW);have HWR:=zh hwr;have HNG:=zh (show(Value.slice A5 (fo st k).wraps.length c5).ownBlock≠some g from λe=>by
  rw[<-hwr] at e;obtain⟨_,_,_,hv9,_⟩:=ha;have:=h.os.inj (.wr k) .fo g e (by rw[hv9];rfl);cases this)
 have HGZ:=zh gz;have HFR:=zh hF;have HU5:=zh u5;clear h ha hF eh gz hwr hr;go_enter Tryz.func128,Tryz.ntmps128
 go_wp2_with fail
 refine zcm HE ?_;rintro _ _ ⟨rfl,he1⟩;obtain rfl:=he1.symm;clear he1;go_wp2_with fail
 refine zcm HBS ?_;rintro _ w2 ⟨rfl,B2⟩;have hz2:=B2.size;have t5:=(B2.cell (p:=⟨g,o+5,none⟩) hg).trans u5;have z2:∀q,w2.frozen? ⟨g,q,none⟩=false:=λq=>by unfold World.frozen?;rw[B2.block g hg];exact HGZ.o q
 have HB2:=zh B2;cases hh:z9w name (fo st k).wraps
 ·have HN:=zh (zSx (eps:=(fo st k).epochs) (seed:=seed) hh);obtain⟨w3,hw3,cw3,fw3,Bw3,qw3⟩:=zP w2 #[.string name,.int .i64 (fo st k).epochs.length,.bool seed] 149;have T3:w3.heap[w2.heap.size]? =some (.cells [.string name,.int .i64 (fo st k).epochs.length,.bool seed].toArray 149 (0,0)):=by rw[<-hw3];exact zJ _ rfl
  have HT3:=zh T3;have HB3:=zh Bw3;clear cw3 fw3 T3 Bw3 u0 u1 u2 u3 u4 u5 u6 B2;go_wp2_with fail
  have hcl:(R (.wr k)).cells.length=(fo st k).wraps.length:=HAL.1;have BW3:=zD HB2 HB3;refine zcm (zUz (R (.wr k)).cells (.slice A5 (fo st k).wraps.length c5) w3 (z0f name (fo st k).wraps) (by rw[hcl];exact zMy _ _) [.string name,.int .i64 (fo st k).epochs.length,.bool seed] rfl (by intro u hu;simp at hu;rcases hu with rfl | rfl | rfl<;>rfl) w2.heap.size 1 HT3 (HROW.below BW3) (by omega) (λe=>by have:=HROW.lt _ e;omega)) ?_;rintro _ w4 ⟨v4,rfl,r4,p4,o4⟩;obtain⟨A8,n8,cp8,rfl⟩:=r4.shape3;have k4:=(p4.block g (by have:=BW3.size;omega) HNG).trans (BW3.block g hg);have g5:=(World.cell?_of_block (a:=⟨g,o+5,none⟩) k4).trans HU5;have z4:∀q,w4.frozen? ⟨g,q,none⟩=false:=λq=>by unfold World.frozen?;rw[k4];exact HGZ.o q
  have HEND:=zh (show Wrote X base bw W R c dv late (setF st k (YZ (fo st k) name seed)) done (w4.setCell ⟨g,o+5,none⟩ (.slice A8 n8 cp8)) from by
   unfold YZ;rw[HN.o];refine((HW.below BW3).wrTo hk HA (v':= .slice A8 n8 cp8) (cells:=(R (.wr k)).cells.take (z0f name (fo st k).wraps)++[.string name,.int .i64 (fo st k).epochs.length,.bool seed] :: (R (.wr k)).cells.drop (z0f name (fo st k).wraps)) (by simp;omega) r4 (by rw[HWR.o];exact p4) (by rw[HWR.o];exact o4) rfl ?_).pre BW3;exact(HAL.imp λ_ _ e=>e).ins (zMy _ _) ⟨rfl,hnm,(show I64 ((fo st k).epochs.length:Int) from⟨by omega,by omega⟩)⟩)
  clear r4 p4 o4 k4 BW3;go_wp2;refine bodyPost_ret (results_none rfl _ _ _) rfl ?_;exact⟨rfl,HEND⟩
 obtain⟨x,hx,hxn⟩:=zSy hh;have HY:=zh (zQe (eps:=(fo st k).epochs) (seed:=seed) hx hxn);have hil:=(zge hx).1;obtain⟨_,hcs,hcr⟩:=HAL.at hx;obtain⟨gw,ow,_,hv,hcap1,hcap2,hgw,hcw,hzw⟩:=HROW.at hcs;obtain⟨rfl,_,x_epoch_ok⟩:=z4g hcr;simp only[Value.slice.injEq] at hv;obtain⟨rfl,hlen,rfl⟩:=hv;have HCS:=zh hcs;have hcap3:(fo st k).wraps.length<=c5:=by omega
 unfold maxLen at hcap2;clear hlen hcap1;have r0:=(B2.cell (p:=⟨gw,ow+z0f name (fo st k).wraps*3,none⟩) hgw).trans (hcw 0 _ rfl);have r1:=(B2.cell (p:=⟨gw,ow+z0f name (fo st k).wraps*3+1,none⟩) hgw).trans (hcw 1 _ rfl);have r2:=(B2.cell (p:=⟨gw,ow+z0f name (fo st k).wraps*3+2,none⟩) hgw).trans (hcw 2 _ rfl);have HR0:=zh (hcw 0 _ rfl);have HR1:=zh (hcw 1 _ rfl);have HR2:=zh (hcw 2 _ rfl);have HXI:=zh hx;have hii:(z0f name (fo st k).wraps:Int) < ((fo st k).wraps.length:Int):=by omega
 obtain⟨w3,hw3,cw3,fw3,Bw3,qw3⟩:=zP w2 #[.string ⟨#[]⟩,.int .i64 0,.bool false] 149;have T3:w3.heap[w2.heap.size]? =some (.cells #[.string ⟨#[]⟩,.int .i64 0,.bool false] 149 (0,0)):=by rw[<-hw3];exact zJ _ rfl
 have HT3:=zh T3;have HB3:=zh Bw3;have d0:w3.cell? ⟨w2.heap.size,0,none⟩=some (.string ⟨#[]⟩):=(zB T3).1 0 _ rfl;have d1:w3.cell? ⟨w2.heap.size,1,none⟩=some (.int .i64 0):=(zB T3).1 1 _ rfl;have d2:w3.cell? ⟨w2.heap.size,2,none⟩=some (.bool false):=(zB T3).1 2 _ rfl;have dz:=(zB T3).2;have HU:=zh (And.intro u0 (And.intro u1 (And.intro u2 (And.intro u3 (And.intro u4 (And.intro u5 u6))))));clear cw3 fw3 T3 Bw3 u0 u1 u2 u3 u4 u5 u6 B2 hcs hcr hcw hx;go_wp2_with fail
 have E1:=zH (i:=0) (.string name) HT3 rfl;have E2:=zH (i:=1) (.int .i64 x.epoch) E1 rfl;have E3:=zH (i:=2) (.bool x.seed) E2 rfl;have E4:ButB (λz=>z=w2.heap.size) w3 (((w3.setCell ⟨w2.heap.size,0,none⟩ (.string name)).setCell ⟨w2.heap.size,1,none⟩ (.int .i64 x.epoch)).setCell ⟨w2.heap.size,2,none⟩ (.bool x.seed)):=((((ButB.refl (λz=>z=w2.heap.size) w3).set _ _ rfl).set _ _ rfl).set _ _ rfl);generalize hW4:World.setCell _ _ _=w4 at E3 E4⊢;have B4:Below W.heap.size W w4:=ButB.below (zD HB2 HB3) (by have:=(zD HB2 HB3).size;omega) (λz hz=>by omega) E4;have HB4:=zh B4;have b0:w4.cell? ⟨w2.heap.size,0,none⟩=some (.string name):=(zB E3).1 0 _ rfl;have b1:w4.cell? ⟨w2.heap.size,1,none⟩=some (.int .i64 x.epoch):=(zB E3).1 1 _ rfl;have b2:w4.cell? ⟨w2.heap.size,2,none⟩=some (.bool x.seed):=(zB E3).1 2 _ rfl;have HKEEP:=zh (show z19 (fo st k).epochs x seed=true->∀w',Below W.heap.size W w'->Wrote X base bw W R c dv late (setF st k (YZ (fo st k) name seed)) done w' from λhkp w' hb'=>by
  unfold YZ;rw[HY.o,if_pos hkp,lSq HXI.o];exact⟨R,by rw[show setF st k { fo st k with wraps:=(fo st k).wraps }=st from z8r];exact HW.below hb',Mut.below hb',rfl⟩)
 have HPUT:=zh (show z19 (fo st k).epochs x seed=false->∀w',Below W.heap.size W w'->Wrote X base bw W R c dv late (setF st k (YZ (fo st k) name seed)) done (((w'.setCell ⟨gw,ow+z0f name (fo st k).wraps*3,none⟩ (.string name)).setCell ⟨gw,ow+z0f name (fo st k).wraps*3+1,none⟩ (.int .i64 (fo st k).epochs.length)).setCell ⟨gw,ow+z0f name (fo st k).wraps*3+2,none⟩ (.bool seed)) from λhkp w' hb'=>by
  unfold YZ;rw[HY.o,if_neg (by rw[hkp];decide)];exact((HW.below hb').wrSet hk HWR HCS ⟨name,(fo st k).epochs.length,seed⟩ ⟨hnm,⟨by show -9223372036854775808<=((fo st k).epochs.length:Int);omega,by show((fo st k).epochs.length:Int)<=9223372036854775807;omega⟩⟩).pre hb')
 have t5:=(B4.cell (p:=⟨g,o+5,none⟩) hg).trans HU.2.2.2.2.2.1;have k4:=B4.block gw hgw;have r0:=(B4.cell (p:=⟨gw,ow+z0f name (fo st k).wraps*3,none⟩) hgw).trans HR0;have r1:=(B4.cell (p:=⟨gw,ow+z0f name (fo st k).wraps*3+1,none⟩) hgw).trans HR1;have r2:=(B4.cell (p:=⟨gw,ow+z0f name (fo st k).wraps*3+2,none⟩) hgw).trans HR2;have rz:∀q,w4.frozen? ⟨gw,q,none⟩=false:=λq=>by unfold World.frozen?;rw[k4];exact hzw q
 clear hW4 E1 E2 E3 E4 B4 k4 d0 d1 d2 dz hw3;cases hxs:x.seed
 ·rw[hxs] at b2;cases seed
  ·by_cases hep:x.epoch=(fo st k).epochs.length
   ·have hd:(x.epoch==((fo st k).epochs.length:Int))=true:=by simp[hep]
    have HE1:=zh (HKEEP.o (by unfold z19;rw[hxs];simp[hep]));clear hep;go_quiet (fail)
    go_wp2;try simp only[Exit.inBlock,Exit.then]
    refine bodyPost_ret (results_none rfl _ _ _) rfl ?_;exact⟨rfl,HE1.o _ (y8 HB4 _)⟩
   have hd:(x.epoch==((fo st k).epochs.length:Int))=false:=by simp[hep]
   have HE1:=zh (HPUT.o (by unfold z19;rw[hxs];simp[hep]));clear hep;go_quiet (fail)
   go_wp2;go_end0
   exact⟨rfl,HE1.o _ (y8 HB4 _)⟩
  have HE1:=zh (HPUT.o (by unfold z19;rw[hxs];simp));go_quiet (fail)
  go_wp2;go_end0
  exact⟨rfl,HE1.o _ (y8 HB4 _)⟩
 rw[hxs] at b2;have hg4:g < w4.heap.size:=by have:=HB4.size;omega
 have hgw4:gw < w4.heap.size:=by have:=HB4.size;omega
 have hB4:w2.heap.size < w4.heap.size:=zF b0;have HXE:=zh x_epoch_ok;have HLE:=zh (show I64 ((fo st k).epochs.length:Int) from⟨by omega,by omega⟩);have HSQ:=zh (show ∀W':World,Below w4.heap.size w4 W'->(λW':World=>W'.cell? ⟨g,o,none⟩=some (.string (fo st k).name)/\W'.cell? ⟨g,o+1,none⟩=some (.int .i64 (fo st k).turn)/\W'.cell? ⟨g,o+2,none⟩=some (.slice A2 (fo st k).manifests.length c2)/\W'.cell? ⟨g,o+3,none⟩=some (.slice A3 (fo st k).epochs.length c3)/\W'.cell? ⟨g,o+4,none⟩=some (.slice A4 (fo st k).items.length c4)/\W'.cell? ⟨g,o+5,none⟩=some (.slice (some ⟨gw,ow,none⟩) (fo st k).wraps.length c5)/\W'.cell? ⟨g,o+6,none⟩=some (.slice A6 (fo st k).links.length c6)/\W'.cell? ⟨w2.heap.size,0,none⟩=some (.string name)/\W'.cell? ⟨w2.heap.size,1,none⟩=some (.int .i64 x.epoch)/\W'.cell? ⟨w2.heap.size,2,none⟩=some (.bool true)) W' from λW' hW=>by
  have hW2:=zD HB4 hW;obtain⟨v0,v1,v2,v3,v4,v5,v6⟩:=HU;exact⟨(hW2.cell (p:=⟨g,o,none⟩) hg).trans v0,(hW2.cell (p:=⟨g,o+1,none⟩) hg).trans v1,(hW2.cell (p:=⟨g,o+2,none⟩) hg).trans v2,(hW2.cell (p:=⟨g,o+3,none⟩) hg).trans v3,(hW2.cell (p:=⟨g,o+4,none⟩) hg).trans v4,(hW2.cell (p:=⟨g,o+5,none⟩) hg).trans v5,(hW2.cell (p:=⟨g,o+6,none⟩) hg).trans v6,
   (hW.cell (p:=⟨w2.heap.size,0,none⟩) hB4).trans b0,(hW.cell (p:=⟨w2.heap.size,1,none⟩) hB4).trans b1,(hW.cell (p:=⟨w2.heap.size,2,none⟩) hB4).trans b2⟩)
 by_cases hfe:z0d (fo st k).epochs x.epoch=z0d (fo st k).epochs (fo st k).epochs.length
 ·have hd:(z0d (fo st k).epochs x.epoch==z0d (fo st k).epochs ((fo st k).epochs.length:Int))=true:=by simp[hfe]
  have HE1:=zh (HKEEP.o (by unfold z19;rw[hxs];simp[hfe]));clear hfe t5 r0 r1 r2 rz b0 b1 b2;have HS:=HSQ.o;refine zE (by kernel_rfl) HS (λhHeld=>?_);refine zi 0 ?_;iterate 8 (refine zt hHeld ?_;simp only[zA])
  refine zo ?_;refine zi 9 ?_;iterate 4 (refine zt hHeld ?_;simp only[zA])
  refine zo ?_;refine zr 8 λK hK=>?_
  go_simp;go_at_call 163
  refine zcm (z4h (fo st k) x.epoch HXE _ _ (λ_=>True) (zV HFR (zK (zD HB4 zbr.drew)))) ?_;rintro e5 w5 ⟨rfl,b5⟩;have B5:=zh (show Below w4.heap.size w4 w5 from zD zbr.drew b5);clear b5 hHeld;refine hK.out _ _ (HS _ B5.out) (λhHeld=>?_);clear hK K;refine zr 13 λK hK=>?_
  go_simp;go_at_call 163
  refine zcm (z4h (fo st k) ((fo st k).epochs.length:Int) HLE _ _ (λ_=>True) (zV HFR (zK (zD HB4 B5.out)))) ?_;rintro e6 w6 ⟨rfl,b6⟩;have B6:=zh (show Below w4.heap.size w4 w6 from zD B5.out b6);clear b6 hHeld;refine hK.out _ _ (HS _ B6.out) (λhHeld=>?_);clear hK K;refine zi 14 ?_;iterate 3 (refine zt hHeld ?_;simp only[zA])
  refine zo ?_;refine zX 17 hHeld ?_;simp only[zA];refine zX 18 hHeld ?_;simp only[zA];refine zX 19 hHeld ?_;simp only[zA];refine zX 20 hHeld ?_;simp only[zA];refine zX 21 hHeld ?_;simp only[zA];refine zX 22 hHeld ?_;simp only[zA];refine zX 23 hHeld ?_;simp only[zA];refine zX 24 hHeld ?_;simp only[zA];refine zT 25 hHeld ?_;simp only[zA];refine wpAnyH_done (by kernel_rfl) ?_ _;clear hHeld HS;go_wp2;try simp only[Exit.inBlock,Exit.then]
  refine bodyPost_ret (results_none rfl _ _ _) rfl ?_;exact⟨rfl,HE1.o _ (zD HB4 B6.out)⟩
 have hd:(z0d (fo st k).epochs x.epoch==z0d (fo st k).epochs ((fo st k).epochs.length:Int))=false:=by simp[hfe]
 cases seed
 ·by_cases hep:x.epoch=(fo st k).epochs.length
  ·have hd2:(x.epoch==((fo st k).epochs.length:Int))=true:=by simp[hep]
   have HE1:=zh (HKEEP.o (by unfold z19;rw[hxs];simp[hep]));clear hfe hep t5 r0 r1 r2 rz b0 b1 b2;have HS:=HSQ.o;refine zE (by kernel_rfl) HS (λhHeld=>?_);refine zi 0 ?_;iterate 8 (refine zt hHeld ?_;simp only[zA])
   refine zo ?_;refine zi 9 ?_;iterate 4 (refine zt hHeld ?_;simp only[zA])
   refine zo ?_;refine zr 8 λK hK=>?_
   go_simp;go_at_call 163
   refine zcm (z4h (fo st k) x.epoch HXE _ _ (λ_=>True) (zV HFR (zK (zD HB4 zbr.drew)))) ?_;rintro e5 w5 ⟨rfl,b5⟩;have B5:=zh (show Below w4.heap.size w4 w5 from zD zbr.drew b5);clear b5 hHeld;refine hK.out _ _ (HS _ B5.out) (λhHeld=>?_);clear hK K;refine zr 13 λK hK=>?_
   go_simp;go_at_call 163
   refine zcm (z4h (fo st k) ((fo st k).epochs.length:Int) HLE _ _ (λ_=>True) (zV HFR (zK (zD HB4 B5.out)))) ?_;rintro e6 w6 ⟨rfl,b6⟩;have B6:=zh (show Below w4.heap.size w4 w6 from zD B5.out b6);clear b6 hHeld;refine hK.out _ _ (HS _ B6.out) (λhHeld=>?_);clear hK K;refine zi 14 ?_;iterate 12 (refine zt hHeld ?_;simp only[zA])
   refine zo ?_;refine wpAnyH_done (by kernel_rfl) ?_ _;clear hHeld HS;go_wp2;try simp only[Exit.inBlock,Exit.then]
   refine bodyPost_ret (results_none rfl _ _ _) rfl ?_;exact⟨rfl,HE1.o _ (zD HB4 B6.out)⟩
  have hd2:(x.epoch==((fo st k).epochs.length:Int))=false:=by simp[hep]
  have HE1:=zh (HPUT.o (by unfold z19;rw[hxs];simp[hep,hfe]));clear hfe hep rz b0 b1 b2;have HS:=HSQ.o;refine zE (by kernel_rfl) HS (λhHeld=>?_);refine zi 0 ?_;iterate 8 (refine zt hHeld ?_;simp only[zA])
  refine zo ?_;refine zi 9 ?_;iterate 4 (refine zt hHeld ?_;simp only[zA])
  refine zo ?_;refine zr 8 λK hK=>?_
  go_simp;go_at_call 163
  refine zcm (z4h (fo st k) x.epoch HXE _ _ (λ_=>True) (zV HFR (zK (zD HB4 zbr.drew)))) ?_;rintro e5 w5 ⟨rfl,b5⟩;have B5:=zh (show Below w4.heap.size w4 w5 from zD zbr.drew b5);clear b5 hHeld;refine hK.out _ _ (HS _ B5.out) (λhHeld=>?_);clear hK K;refine zr 13 λK hK=>?_
  go_simp;go_at_call 163
  refine zcm (z4h (fo st k) ((fo st k).epochs.length:Int) HLE _ _ (λ_=>True) (zV HFR (zK (zD HB4 B5.out)))) ?_;rintro e6 w6 ⟨rfl,b6⟩;have B6:=zh (show Below w4.heap.size w4 w6 from zD B5.out b6);clear b6 hHeld;refine hK.out _ _ (HS _ B6.out) (λhHeld=>?_);clear hK K;refine zi 14 ?_;iterate 12 (refine zt hHeld ?_;simp only[zA])
  refine zo ?_;refine wpAnyH_done (by kernel_rfl) ?_ _;clear hHeld HS;have t5:=(B6.out.cell (p:=⟨g,o+5,none⟩) hg4).trans t5;have r0:=(B6.out.cell (p:=⟨gw,ow+z0f name (fo st k).wraps*3,none⟩) hgw4).trans r0;have r1:=(B6.out.cell (p:=⟨gw,ow+z0f name (fo st k).wraps*3+1,none⟩) hgw4).trans r1;have r2:=(B6.out.cell (p:=⟨gw,ow+z0f name (fo st k).wraps*3+2,none⟩) hgw4).trans r2;have rz:∀q,w6.frozen? ⟨gw,q,none⟩=false:=λq=>by unfold World.frozen?;rw[B6.out.block gw hgw4,HB4.o.block gw hgw];exact hzw q
  go_wp2;go_end0
  exact⟨rfl,HE1.o _ (zD HB4 B6.out)⟩
 have HE1:=zh (HPUT.o (by unfold z19;rw[hxs];simp[hfe]));clear hfe rz b0 b1 b2;have HS:=HSQ.o;refine zE (by kernel_rfl) HS (λhHeld=>?_);refine zi 0 ?_;iterate 8 (refine zt hHeld ?_;simp only[zA])
 refine zo ?_;refine zi 9 ?_;iterate 4 (refine zt hHeld ?_;simp only[zA])
 refine zo ?_;refine zr 8 λK hK=>?_
 go_simp;go_at_call 163
 refine zcm (z4h (fo st k) x.epoch HXE _ _ (λ_=>True) (zV HFR (zK (zD HB4 zbr.drew)))) ?_;rintro e5 w5 ⟨rfl,b5⟩;have B5:=zh (show Below w4.heap.size w4 w5 from zD zbr.drew b5);clear b5 hHeld;refine hK.out _ _ (HS _ B5.out) (λhHeld=>?_);clear hK K;refine zr 13 λK hK=>?_
 go_simp;go_at_call 163
 refine zcm (z4h (fo st k) ((fo st k).epochs.length:Int) HLE _ _ (λ_=>True) (zV HFR (zK (zD HB4 B5.out)))) ?_;rintro e6 w6 ⟨rfl,b6⟩;have B6:=zh (show Below w4.heap.size w4 w6 from zD B5.out b6);clear b6 hHeld;refine hK.out _ _ (HS _ B6.out) (λhHeld=>?_);clear hK K;refine zi 14 ?_;iterate 6 (refine zt hHeld ?_;simp only[zA])
 refine zo ?_;refine zX 20 hHeld ?_;simp only[zA];refine zX 21 hHeld ?_;simp only[zA];refine zX 22 hHeld ?_;simp only[zA];refine zX 23 hHeld ?_;simp only[zA];refine zi 24 ?_;iterate 2 (refine zt hHeld ?_;simp only[zA])
 refine zo ?_;refine wpAnyH_done (by kernel_rfl) ?_ _;clear hHeld HS;have t5:=(B6.out.cell (p:=⟨g,o+5,none⟩) hg4).trans t5;have r0:=(B6.out.cell (p:=⟨gw,ow+z0f name (fo st k).wraps*3,none⟩) hgw4).trans r0;have r1:=(B6.out.cell (p:=⟨gw,ow+z0f name (fo st k).wraps*3+1,none⟩) hgw4).trans r1;have r2:=(B6.out.cell (p:=⟨gw,ow+z0f name (fo st k).wraps*3+2,none⟩) hgw4).trans r2;have rz:∀q,w6.frozen? ⟨gw,q,none⟩=false:=λq=>by unfold World.frozen?;rw[B6.out.block gw hgw4,HB4.o.block gw hgw];exact hzw q
 go_wp2;go_end0
 exact⟨rfl,HE1.o _ (zD HB4 B6.out)⟩
end
end Go.Proofs.YtdggplhnfhcieaaGreatDoor
