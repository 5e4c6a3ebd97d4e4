/- No condition. -/
import Derived.Test.YtdggplhnfhcieaaGreatDoorX24
set_option linter.all false
set_option maxRecDepth 100000
namespace Go.Proofs.YtdggplhnfhcieaaGreatDoor
open Go.RowKit Go.Deep
section
section
variable {X:Nat->Prop} {base bw:Nat} {W:World} {R:RM} {c:Call} {dv:Value} {st:State} {done late:Bool}
theorem zT5 {k:RK} (hk:k≠ .fo) {r:Row} {i:Nat} {cs:List Value} (h:(R .fo).cells[i]? =some cs):zL (zL R k r) .fo (ZY R i cs)=zL R k r:=by
 funext x
 by_cases hx:x= .fo
 ·subst hx;rw [yU,ZQ R r hk.symm];unfold ZY;rw [List.set_eq_self_of h]
 rw [ZQ _ _ hx]
theorem WK.wrIn (h:WK X base bw W R c dv st done late) {k:Nat} (hk:k < st.folders.length) {w':World} {r:Row} (hv:r.v=(R (.wr k)).v) (o1:OS base w' (zL R (.wr k) r)) (m1:Mut bw R W (zL R (.wr k) r) w') (b1:w'.heap[bw]? =W.heap[bw]?) {l:List Wrap}
  (hl:All2 (YC (fun _=>True) w') r.cells l):Wrote X base bw W R c dv late (setF st k { fo st k with wraps:=l }) done w':=by
 have hf:=ZO hk;have hh:=(h.is.fo k _ hf).1;have hset:(hdr R k (fo st k)).set 5 r.v=hdr R k (fo st k):=by rw [hv];rfl
 have hi:=h.is.wrRow (r:=r) hf m1.kept (hl.imp fun _ _ e=>e);rw [hset,zT5 (by simp) hh] at hi;refine ⟨_,h.turn m1 o1 hi ?_,m1,by rw [ZQ _ _ (by simp)]⟩;rw [b1,h.box];have e1:(zL R (.wr k) r) .us=R .us:=ZQ _ _ (by simp);have e2:(zL R (.wr k) r) .de=R .de:=ZQ _ _ (by simp);have e3:(zL R (.wr k) r) .fo=R .fo:=ZQ _ _ (by simp);unfold z35;rw [e1,e2,e3];rfl
theorem WK.wrTo (h:WK X base bw W R c dv st done late) {k g o:Nat} (hk:k < st.folders.length) (ha:foAt R k g o) {w1:World} {v':Value} {cells:List (List Value)} (hlen:cells.length<=10000) (hr:RowC 149 3 w1 v' cells) (hb:ButB (fun z=>(R (.wr k)).v.ownBlock=some z) W w1)
  (ho:v'.ownBlock=(R (.wr k)).v.ownBlock\/∃k,v'.ownBlock=some k/\W.heap.size<=k) (hone:v'.oneCell'=true) {l:List Wrap} (hl:All2 (YC (fun _=>True) w1) cells l):
  Wrote X base bw W R c dv late (setF st k { fo st k with wraps:=l }) done (w1.setCell ⟨g,o+5,none⟩ v'):=by
 have hf:=ZO hk;obtain ⟨o1,m1,b1,_⟩:=h.put (W':=w1) (.wr k) ⟨v',cells⟩ hb hr hlen (fun b hb=>ho.imp (fun e=>by rw [<-e];exact hb) fun ⟨k2,e,hk2⟩=>by
  rw [show v'.ownBlock=some b from hb] at e;obtain rfl:=zsi e;exact hk2)
 obtain ⟨h8,m8⟩:=h.sub hf ha (k:= .wr k) (j:=5) (u:=v') (f':={ fo st k with wraps:=l }) ⟨by simp,by simp,by simp⟩ (by omega) o1 m1 b1 hone fun kp=>h.is.wrRow (r:=⟨v',cells⟩) hf kp (hl.imp fun _ _ e=>e)
 exact ⟨_,h8,m8,by rw [yU];rfl⟩
theorem Wrote.pre {w1 w':World} {st':State} {done':Bool} (h:Wrote X base bw w1 R c dv late st' done' w') (hb:Below W.heap.size W w1):Wrote X base bw W R c dv late st' done' w':=by
 obtain ⟨R',h1,h2,h3⟩:=h;exact ⟨R',h1,(Mut.below hb).trans h2,h3⟩
theorem zQz {eps:List Epoch} {name:Nm} {seed:Bool} {l:List Wrap} (h:z8k name l=false):z1m eps name seed l=l.take (YJ name l)++⟨name,eps.length,seed⟩ :: l.drop (YJ name l):=by
 rw [zDk];unfold z8k at h
 cases hx:l[YJ name l]? with
 | none=>
  have:=List.getElem?_eq_none_iff.1 hx;dsimp only
  rw [List.take_of_length_le this,List.drop_eq_nil_of_le this]
 | some w=>
  rw [hx] at h;dsimp only at h⊢;rw [if_neg (of_decide_eq_false h)]
theorem zOr {eps:List Epoch} {name:Nm} {seed:Bool} {l:List Wrap} {w:Wrap} (h:l[YJ name l]? =some w) (hn:w.name=name):z1m eps name seed l=l.set (YJ name l) (if z4d eps w seed then w else ⟨name,eps.length,seed⟩):=by
 rw [zDk,h];dsimp only;rw [if_pos hn]
theorem zR0 {name:Nm} {l:List Wrap} (h:z8k name l=true):∃w,l[YJ name l]? =some w/\w.name=name:=by
 unfold z8k at h
 cases hx:l[YJ name l]? with
 | none=>rw [hx] at h;cases h
 | some w=>
  rw [hx] at h;exact ⟨w,rfl,of_decide_eq_true h⟩
theorem zL4 (name:Nm) (l:List Wrap):YJ name l<=l.length:=by
 unfold YJ;exact (List.takeWhile_sublist _).length_le
theorem All2.ins {α β:Type} {p:α->β->Prop} {a:List α} {b:List β} (h:All2 p a b) {i:Nat} (hi:i<=b.length) {x:α} {y:β} (k:p x y):All2 p (a.take i++x :: a.drop i) (b.take i++y :: b.drop i):=by
 refine ⟨by simp [h.1],fun j u v hu hv=>?_⟩;have h1:(a.take i).length=i:=by rw [List.length_take,h.1];omega
 have h2:(b.take i).length=i:=by rw [List.length_take];omega
 rcases Nat.lt_trichotomy j i with e | e | e
 ·rw [qLlx (by omega),List.getElem?_take,if_pos e] at hu hv;exact h.2 j u v hu hv
 ·subst e;rw [qLrx (by omega),h1,Nat.sub_self] at hu;rw [qLrx (by omega),h2,Nat.sub_self] at hv;obtain rfl:=zsi hu;obtain rfl:=zsi hv;exact k
 rw [qLrx (by omega),h1,show j - i=(j - i - 1)+1 by omega,List.getElem?_cons_succ,List.getElem?_drop] at hu;rw [qLrx (by omega),h2,show j - i=(j - i - 1)+1 by omega,List.getElem?_cons_succ,List.getElem?_drop] at hv;exact h.2 _ u v hu hv
theorem WK.wrSet (h:WK X base bw W R c dv st done late) {k:Nat} (hk:k < st.folders.length) {gw ow n cap i:Nat} (hv:(R (.wr k)).v= .slice (some ⟨gw,ow,none⟩) n cap) {cs:List Value} (hcs:(R (.wr k)).cells[i]? =some cs) (y:Wrap) (hy:y.name.size<=140737488355328/\I64 y.epoch):
  Wrote X base bw W R c dv late (setF st k { fo st k with wraps:=(fo st k).wraps.set i y }) done (((W.setCell ⟨gw,ow+i*3,none⟩ (.string y.name)).setCell ⟨gw,ow+i*3+1,none⟩ (.int .i64 y.epoch)).setCell ⟨gw,ow+i*3+2,none⟩ (.bool y.seed)):=by
 have h0:=h.os.row (.wr k);rw [hv] at h0;have hil:=(zge hcs).1;have hcl:cs.length=3:=(h0.1 cs (zmg hcs)).1;obtain ⟨a,b,d,rfl⟩:∃a b d,cs=[a,b,d]:=by
  match cs,hcl with
  | [a,b,d],_=>exact ⟨a,b,d,rfl⟩
 have h1:=h0.write (show (0:Nat) < 3 by decide) hcs (show 0 < 3 by decide) (.string y.name) rfl;have e1:((R (.wr k)).cells.set i [.string y.name,b,d])[i]? =some [.string y.name,b,d]:=by rw [List.getElem?_set_self hil]
 have h2:=h1.write (show (0:Nat) < 3 by decide) e1 (show 1 < 3 by decide) (.int .i64 y.epoch) rfl;simp only [List.set_set] at h2;have e2:((R (.wr k)).cells.set i [.string y.name,.int .i64 y.epoch,d])[i]? =some [.string y.name,.int .i64 y.epoch,d]:=by rw [List.getElem?_set_self hil]
 have h3:=h2.write (show (0:Nat) < 3 by decide) e2 (show 2 < 3 by decide) (.bool y.seed) rfl;simp only [List.set_set] at h3;have hown:(R (.wr k)).v.ownBlock=some gw:=by rw [hv];rfl
 have hb:ButB (fun z=>(R (.wr k)).v.ownBlock=some z) W (((W.setCell ⟨gw,ow+i*3,none⟩ (.string y.name)).setCell ⟨gw,ow+i*3+1,none⟩ (.int .i64 y.epoch)).setCell ⟨gw,ow+i*3+2,none⟩ (.bool y.seed)):=
  (((ButB.refl _ W).set ⟨gw,ow+i*3,none⟩ _ hown).set ⟨gw,ow+i*3+1,none⟩ _ hown).set ⟨gw,ow+i*3+2,none⟩ _ hown
 obtain ⟨o1,m1,b1,_⟩:=h.put (.wr k) ⟨(R (.wr k)).v,(R (.wr k)).cells.set i [.string y.name,.int .i64 y.epoch,.bool y.seed]⟩ hb (by rw [hv];exact h3) (by have:=h.os.len (.wr k);simpa using this) (fun b e=> .inl e);exact h.wrIn hk (r:=⟨(R (.wr k)).v,(R (.wr k)).cells.set i [.string y.name,.int .i64 y.epoch,.bool y.seed]⟩) rfl o1 m1 b1 (((h.is.fo k _ (ZO hk)).2.wr.imp fun _ _ e=>e).set i ⟨rfl,hy.1,hy.2⟩)
set_option maxHeartbeats 8000000 in
theorem z85 (h:WK X base bw W R c dv st done late) {k g o:Nat} (hk:k < st.folders.length) (ha:foAt R k g o) (hr:z28 (fo st k).wraps) (hwl:(fo st k).wraps.length<=9999) (hel:(fo st k).epochs.length<=1000000) (name:Nm) (hnm:name.size<=140737488355328) (seed:Bool):
  Calls Tryz.prog 128 #[.pointer (some ⟨g,o,none⟩),.string name,.bool seed] W fun e w'=>e= .returned (.tuple #[])/\Wrote X base bw W R c dv late (setF st k (yO (fo st k) name seed)) done w':=by
 have HW:=zh h;have HA:=zh ha;have HE:=zh (z2z h hk ha);obtain ⟨A2,c2,A3,c3,A4,c4,A5,c5,A6,c6,eh,hF,u0,u1,u2,u3,u4,u5,u6,hg,gz⟩:=h.fold (ZO hk) ha;have hwr:(R (.wr k)).v= .slice A5 (fo st k).wraps.length c5:=by
  simp only [hdr,List.cons.injEq] at eh;exact eh.2.2.2.2.2.1
 have HROW:=zh (show RowC 149 3 W (.slice A5 (fo st k).wraps.length c5) (R (.wr k)).cells from by rw [<-hwr];exact h.os.row (.wr k));have HAL:=zh (h.is.fo k _ (ZO hk)).2.wr;have HSW:=zh (show Sl 3 YC (fun _=>True) W (.slice A5 (fo st k).wraps.length c5) (fo st k).wraps from by rw [<-hwr];exact z1e z3r (h.os.row (.wr k)) (h.os.len _) (h.is.fo k _ (ZO hk)).2.wr);have HBS:=zh (zT3 (fo st k).wraps hr (by omega) name _ W _ HSW.out);have HWR:=zh hwr;have HNG:=zh (show (Value.slice A5 (fo st k).wraps.length c5).ownBlock≠some g from fun e=>by
  rw [<-hwr] at e;obtain ⟨_,_,_,hv9,_⟩:=ha;have:=h.os.inj (.wr k) .fo g e (by rw [hv9];rfl);cases this)
 have HGZ:=zh gz;have HFR:=zh hF;have HU5:=zh u5;clear h ha hF eh gz hwr hr;go_enter Tryz.func128,Tryz.ntmps128
 go_wp2_with fail
 refine zcm HE.out ?_;rintro _ _ ⟨rfl,he1⟩;obtain rfl:=he1.symm;clear he1;go_wp2_with fail
 refine zcm HBS.out ?_;rintro _ w2 ⟨rfl,B2⟩;have hz2:=B2.size;have t5:=(B2.cell (p:=⟨g,o+5,none⟩) hg).trans u5;have z2:∀q,w2.frozen? ⟨g,q,none⟩=false:=fun q=>by unfold World.frozen?;rw [B2.block g hg];exact HGZ.out q
 have HB2:=zh B2;cases hh:z8k name (fo st k).wraps
 ·have HN:=zh (zQz (eps:=(fo st k).epochs) (seed:=seed) hh);obtain ⟨w3,hw3,cw3,fw3,Bw3,qw3⟩:=zQ w2 #[.string name,.int .i64 (fo st k).epochs.length,.bool seed] 149;have T3:w3.heap[w2.heap.size]? =some (.cells [.string name,.int .i64 (fo st k).epochs.length,.bool seed].toArray 149 (0,0)):=by rw [<-hw3];exact zJ _ rfl
  have HT3:=zh T3;have HB3:=zh Bw3;clear cw3 fw3 T3 Bw3 u0 u1 u2 u3 u4 u5 u6 B2;go_wp2_with fail
  have hcl:(R (.wr k)).cells.length=(fo st k).wraps.length:=HAL.out.1;have BW3:=zB HB2.out HB3.out;refine zcm (zT4 (R (.wr k)).cells (.slice A5 (fo st k).wraps.length c5) w3 (YJ name (fo st k).wraps) (by rw [hcl];exact zL4 _ _) [.string name,.int .i64 (fo st k).epochs.length,.bool seed] rfl (by intro u hu;simp at hu;rcases hu with rfl | rfl | rfl<;>rfl) w2.heap.size 1 HT3.out (HROW.out.below BW3) (by omega) (fun e=>by have:=HROW.out.lt _ e;omega)) ?_;rintro _ w4 ⟨v4,rfl,r4,p4,o4⟩;obtain ⟨A8,n8,cp8,rfl⟩:=r4.shape3;have k4:=(p4.block g (by have:=BW3.size;omega) HNG.out).trans (BW3.block g hg);have g5:=(World.cell?_of_block (a:=⟨g,o+5,none⟩) k4).trans HU5.out;have z4:∀q,w4.frozen? ⟨g,q,none⟩=false:=fun q=>by unfold World.frozen?;rw [k4];exact HGZ.out q
  have HEND:=zh (show Wrote X base bw W R c dv late (setF st k (yO (fo st k) name seed)) done (w4.setCell ⟨g,o+5,none⟩ (.slice A8 n8 cp8)) from by
   unfold yO;rw [HN.out];refine ((HW.out.below BW3).wrTo hk HA.out (v':= .slice A8 n8 cp8) (cells:=(R (.wr k)).cells.take (YJ name (fo st k).wraps)++[.string name,.int .i64 (fo st k).epochs.length,.bool seed] :: (R (.wr k)).cells.drop (YJ name (fo st k).wraps)) (by simp;omega) r4 (by rw [HWR.out];exact p4) (by rw [HWR.out];exact o4) rfl ?_).pre BW3;exact (HAL.out.imp fun _ _ e=>e).ins (zL4 _ _) ⟨rfl,hnm,(show I64 ((fo st k).epochs.length:Int) from ⟨by omega,by omega⟩)⟩)
  clear r4 p4 o4 k4 BW3;go_wp2;refine bodyPost_ret (results_none rfl _ _ _) rfl ?_;exact ⟨rfl,HEND.out⟩
 obtain ⟨x,hx,hxn⟩:=zR0 hh;have HY:=zh (zOr (eps:=(fo st k).epochs) (seed:=seed) hx hxn);have hil:=(zge hx).1;obtain ⟨_,hcs,hcr⟩:=HAL.out.at hx;obtain ⟨gw,ow,_,hv,hcap1,hcap2,hgw,hcw,hzw⟩:=HROW.out.at hcs;obtain ⟨rfl,_,x_epoch_ok⟩:=z3i hcr;simp only [Value.slice.injEq] at hv;obtain ⟨rfl,hlen,rfl⟩:=hv;have HCS:=zh hcs;have hcap3:(fo st k).wraps.length<=c5:=by omega
 unfold maxLen at hcap2;clear hlen hcap1;have r0:=(B2.cell (p:=⟨gw,ow+YJ name (fo st k).wraps*3,none⟩) hgw).trans (hcw 0 _ rfl);have r1:=(B2.cell (p:=⟨gw,ow+YJ name (fo st k).wraps*3+1,none⟩) hgw).trans (hcw 1 _ rfl);have r2:=(B2.cell (p:=⟨gw,ow+YJ name (fo st k).wraps*3+2,none⟩) hgw).trans (hcw 2 _ rfl);have HR0:=zh (hcw 0 _ rfl);have HR1:=zh (hcw 1 _ rfl);have HR2:=zh (hcw 2 _ rfl);have HXI:=zh hx;have hii:(YJ name (fo st k).wraps:Int) < ((fo st k).wraps.length:Int):=by omega
 obtain ⟨w3,hw3,cw3,fw3,Bw3,qw3⟩:=zQ w2 #[.string ⟨#[]⟩,.int .i64 0,.bool false] 149;have T3:w3.heap[w2.heap.size]? =some (.cells #[.string ⟨#[]⟩,.int .i64 0,.bool false] 149 (0,0)):=by rw [<-hw3];exact zJ _ rfl
 have HT3:=zh T3;have HB3:=zh Bw3;have d0:w3.cell? ⟨w2.heap.size,0,none⟩=some (.string ⟨#[]⟩):=(zD T3).1 0 _ rfl;have d1:w3.cell? ⟨w2.heap.size,1,none⟩=some (.int .i64 0):=(zD T3).1 1 _ rfl;have d2:w3.cell? ⟨w2.heap.size,2,none⟩=some (.bool false):=(zD T3).1 2 _ rfl;have dz:=(zD T3).2;have HU:=zh (And.intro u0 (And.intro u1 (And.intro u2 (And.intro u3 (And.intro u4 (And.intro u5 u6))))));clear cw3 fw3 T3 Bw3 u0 u1 u2 u3 u4 u5 u6 B2 hcs hcr hcw hx;go_wp2_with fail
 have E1:=zI (i:=0) (.string name) HT3.out rfl;have E2:=zI (i:=1) (.int .i64 x.epoch) E1 rfl;have E3:=zI (i:=2) (.bool x.seed) E2 rfl;have E4:ButB (fun z=>z=w2.heap.size) w3 (((w3.setCell ⟨w2.heap.size,0,none⟩ (.string name)).setCell ⟨w2.heap.size,1,none⟩ (.int .i64 x.epoch)).setCell ⟨w2.heap.size,2,none⟩ (.bool x.seed)):=((((ButB.refl (fun z=>z=w2.heap.size) w3).set _ _ rfl).set _ _ rfl).set _ _ rfl);generalize hW4:World.setCell _ _ _=w4 at E3 E4⊢;have B4:Below W.heap.size W w4:=ButB.below (zB HB2.out HB3.out) (by have:=(zB HB2.out HB3.out).size;omega) (fun z hz=>by omega) E4;have HB4:=zh B4;have b0:w4.cell? ⟨w2.heap.size,0,none⟩=some (.string name):=(zD E3).1 0 _ rfl;have b1:w4.cell? ⟨w2.heap.size,1,none⟩=some (.int .i64 x.epoch):=(zD E3).1 1 _ rfl;have b2:w4.cell? ⟨w2.heap.size,2,none⟩=some (.bool x.seed):=(zD E3).1 2 _ rfl;have HKEEP:=zh (show z4d (fo st k).epochs x seed=true->∀w',Below W.heap.size W w'->Wrote X base bw W R c dv late (setF st k (yO (fo st k) name seed)) done w' from fun hkp w' hb'=>by
  unfold yO;rw [HY.out,if_pos hkp,List.set_eq_self_of HXI.out];exact ⟨R,by rw [show setF st k { fo st k with wraps:=(fo st k).wraps }=st from z7d];exact HW.out.below hb',Mut.below hb',rfl⟩)
 have HPUT:=zh (show z4d (fo st k).epochs x seed=false->∀w',Below W.heap.size W w'->Wrote X base bw W R c dv late (setF st k (yO (fo st k) name seed)) done (((w'.setCell ⟨gw,ow+YJ name (fo st k).wraps*3,none⟩ (.string name)).setCell ⟨gw,ow+YJ name (fo st k).wraps*3+1,none⟩ (.int .i64 (fo st k).epochs.length)).setCell ⟨gw,ow+YJ name (fo st k).wraps*3+2,none⟩ (.bool seed)) from fun hkp w' hb'=>by
  unfold yO;rw [HY.out,if_neg (by rw [hkp];decide)];exact ((HW.out.below hb').wrSet hk HWR.out HCS.out ⟨name,(fo st k).epochs.length,seed⟩ ⟨hnm,⟨by show -9223372036854775808<=((fo st k).epochs.length:Int);omega,by show ((fo st k).epochs.length:Int)<=9223372036854775807;omega⟩⟩).pre hb')
 have t5:=(B4.cell (p:=⟨g,o+5,none⟩) hg).trans HU.out.2.2.2.2.2.1;have k4:=B4.block gw hgw;have r0:=(B4.cell (p:=⟨gw,ow+YJ name (fo st k).wraps*3,none⟩) hgw).trans HR0.out;have r1:=(B4.cell (p:=⟨gw,ow+YJ name (fo st k).wraps*3+1,none⟩) hgw).trans HR1.out;have r2:=(B4.cell (p:=⟨gw,ow+YJ name (fo st k).wraps*3+2,none⟩) hgw).trans HR2.out;have rz:∀q,w4.frozen? ⟨gw,q,none⟩=false:=fun q=>by unfold World.frozen?;rw [k4];exact hzw q
 clear hW4 E1 E2 E3 E4 B4 k4 d0 d1 d2 dz hw3;cases hxs:x.seed
 ·rw [hxs] at b2;cases seed
  ·by_cases hep:x.epoch=(fo st k).epochs.length
   ·have hd:(x.epoch==((fo st k).epochs.length:Int))=true:=by simp [hep]
    have HE1:=zh (HKEEP.out (by unfold z4d;rw [hxs];simp [hep]));clear hep;go_quiet (fail)
    go_wp2;try simp only [Exit.inBlock,Exit.then]
    refine bodyPost_ret (results_none rfl _ _ _) rfl ?_;exact ⟨rfl,HE1.out _ (ZN HB4.out _)⟩
   have hd:(x.epoch==((fo st k).epochs.length:Int))=false:=by simp [hep]
   have HE1:=zh (HPUT.out (by unfold z4d;rw [hxs];simp [hep]));clear hep;go_quiet (fail)
   go_wp2;go_end0
   exact ⟨rfl,HE1.out _ (ZN HB4.out _)⟩
  have HE1:=zh (HPUT.out (by unfold z4d;rw [hxs];simp));go_quiet (fail)
  go_wp2;go_end0
  exact ⟨rfl,HE1.out _ (ZN HB4.out _)⟩
 rw [hxs] at b2;have hg4:g < w4.heap.size:=by have:=HB4.out.size;omega
 have hgw4:gw < w4.heap.size:=by have:=HB4.out.size;omega
 have hB4:w2.heap.size < w4.heap.size:=zF b0;have HXE:=zh x_epoch_ok;have HLE:=zh (show I64 ((fo st k).epochs.length:Int) from ⟨by omega,by omega⟩);have HSQ:=zh (show ∀W':World,Below w4.heap.size w4 W'->(fun W':World=>W'.cell? ⟨g,o,none⟩=some (.string (fo st k).name)/\W'.cell? ⟨g,o+1,none⟩=some (.int .i64 (fo st k).turn)/\W'.cell? ⟨g,o+2,none⟩=some (.slice A2 (fo st k).manifests.length c2)/\W'.cell? ⟨g,o+3,none⟩=some (.slice A3 (fo st k).epochs.length c3)/\W'.cell? ⟨g,o+4,none⟩=some (.slice A4 (fo st k).items.length c4)/\W'.cell? ⟨g,o+5,none⟩=some (.slice (some ⟨gw,ow,none⟩) (fo st k).wraps.length c5)/\W'.cell? ⟨g,o+6,none⟩=some (.slice A6 (fo st k).links.length c6)/\W'.cell? ⟨w2.heap.size,0,none⟩=some (.string name)/\W'.cell? ⟨w2.heap.size,1,none⟩=some (.int .i64 x.epoch)/\W'.cell? ⟨w2.heap.size,2,none⟩=some (.bool true)) W' from fun W' hW=>by
  have hW2:=zB HB4.out hW;obtain ⟨v0,v1,v2,v3,v4,v5,v6⟩:=HU.out;exact ⟨(hW2.cell (p:=⟨g,o,none⟩) hg).trans v0,(hW2.cell (p:=⟨g,o+1,none⟩) hg).trans v1,(hW2.cell (p:=⟨g,o+2,none⟩) hg).trans v2,(hW2.cell (p:=⟨g,o+3,none⟩) hg).trans v3,(hW2.cell (p:=⟨g,o+4,none⟩) hg).trans v4,(hW2.cell (p:=⟨g,o+5,none⟩) hg).trans v5,(hW2.cell (p:=⟨g,o+6,none⟩) hg).trans v6,
   (hW.cell (p:=⟨w2.heap.size,0,none⟩) hB4).trans b0,(hW.cell (p:=⟨w2.heap.size,1,none⟩) hB4).trans b1,(hW.cell (p:=⟨w2.heap.size,2,none⟩) hB4).trans b2⟩)
 by_cases hfe:YG (fo st k).epochs x.epoch=YG (fo st k).epochs (fo st k).epochs.length
 ·have hd:(YG (fo st k).epochs x.epoch==YG (fo st k).epochs ((fo st k).epochs.length:Int))=true:=by simp [hfe]
  have HE1:=zh (HKEEP.out (by unfold z4d;rw [hxs];simp [hfe]));clear hfe t5 r0 r1 r2 rz b0 b1 b2;have HS:=HSQ.out;refine zE (by kernel_rfl) HS (fun hHeld=>?_);refine zi 0 ?_;iterate 8 (refine zt hHeld ?_;simp only [zA])
  refine zo ?_;refine zi 9 ?_;iterate 4 (refine zt hHeld ?_;simp only [zA])
  refine zo ?_;refine zr 8 fun K hK=>?_
  go_simp;go_at_call 163
  refine zcm (z3k (fo st k) x.epoch HXE.out _ _ (fun _=>True) (Z5 HFR.out (zK (zB HB4.out zbr.drew)))) ?_;rintro e5 w5 ⟨rfl,b5⟩;have B5:=zh (show Below w4.heap.size w4 w5 from zB zbr.drew b5);clear b5 hHeld;refine hK.out _ _ (HS _ B5.out) (fun hHeld=>?_);clear hK K;refine zr 13 fun K hK=>?_
  go_simp;go_at_call 163
  refine zcm (z3k (fo st k) ((fo st k).epochs.length:Int) HLE.out _ _ (fun _=>True) (Z5 HFR.out (zK (zB HB4.out B5.out)))) ?_;rintro e6 w6 ⟨rfl,b6⟩;have B6:=zh (show Below w4.heap.size w4 w6 from zB B5.out b6);clear b6 hHeld;refine hK.out _ _ (HS _ B6.out) (fun hHeld=>?_);clear hK K;refine zi 14 ?_;iterate 3 (refine zt hHeld ?_;simp only [zA])
  refine zo ?_;refine zX 17 hHeld ?_;simp only [zA];refine zX 18 hHeld ?_;simp only [zA];refine zX 19 hHeld ?_;simp only [zA];refine zX 20 hHeld ?_;simp only [zA];refine zX 21 hHeld ?_;simp only [zA];refine zX 22 hHeld ?_;simp only [zA];refine zX 23 hHeld ?_;simp only [zA];refine zX 24 hHeld ?_;simp only [zA];refine zT 25 hHeld ?_;simp only [zA];refine wpAnyH_done (by kernel_rfl) ?_ _;clear hHeld HS;go_wp2;try simp only [Exit.inBlock,Exit.then]
  refine bodyPost_ret (results_none rfl _ _ _) rfl ?_;exact ⟨rfl,HE1.out _ (zB HB4.out B6.out)⟩
 have hd:(YG (fo st k).epochs x.epoch==YG (fo st k).epochs ((fo st k).epochs.length:Int))=false:=by simp [hfe]
 cases seed
 ·by_cases hep:x.epoch=(fo st k).epochs.length
  ·have hd2:(x.epoch==((fo st k).epochs.length:Int))=true:=by simp [hep]
   have HE1:=zh (HKEEP.out (by unfold z4d;rw [hxs];simp [hep]));clear hfe hep t5 r0 r1 r2 rz b0 b1 b2;have HS:=HSQ.out;refine zE (by kernel_rfl) HS (fun hHeld=>?_);refine zi 0 ?_;iterate 8 (refine zt hHeld ?_;simp only [zA])
   refine zo ?_;refine zi 9 ?_;iterate 4 (refine zt hHeld ?_;simp only [zA])
   refine zo ?_;refine zr 8 fun K hK=>?_
   go_simp;go_at_call 163
   refine zcm (z3k (fo st k) x.epoch HXE.out _ _ (fun _=>True) (Z5 HFR.out (zK (zB HB4.out zbr.drew)))) ?_;rintro e5 w5 ⟨rfl,b5⟩;have B5:=zh (show Below w4.heap.size w4 w5 from zB zbr.drew b5);clear b5 hHeld;refine hK.out _ _ (HS _ B5.out) (fun hHeld=>?_);clear hK K;refine zr 13 fun K hK=>?_
   go_simp;go_at_call 163
   refine zcm (z3k (fo st k) ((fo st k).epochs.length:Int) HLE.out _ _ (fun _=>True) (Z5 HFR.out (zK (zB HB4.out B5.out)))) ?_;rintro e6 w6 ⟨rfl,b6⟩;have B6:=zh (show Below w4.heap.size w4 w6 from zB B5.out b6);clear b6 hHeld;refine hK.out _ _ (HS _ B6.out) (fun hHeld=>?_);clear hK K;refine zi 14 ?_;iterate 12 (refine zt hHeld ?_;simp only [zA])
   refine zo ?_;refine wpAnyH_done (by kernel_rfl) ?_ _;clear hHeld HS;go_wp2;try simp only [Exit.inBlock,Exit.then]
   refine bodyPost_ret (results_none rfl _ _ _) rfl ?_;exact ⟨rfl,HE1.out _ (zB HB4.out B6.out)⟩
  have hd2:(x.epoch==((fo st k).epochs.length:Int))=false:=by simp [hep]
  have HE1:=zh (HPUT.out (by unfold z4d;rw [hxs];simp [hep,hfe]));clear hfe hep rz b0 b1 b2;have HS:=HSQ.out;refine zE (by kernel_rfl) HS (fun hHeld=>?_);refine zi 0 ?_;iterate 8 (refine zt hHeld ?_;simp only [zA])
  refine zo ?_;refine zi 9 ?_;iterate 4 (refine zt hHeld ?_;simp only [zA])
  refine zo ?_;refine zr 8 fun K hK=>?_
  go_simp;go_at_call 163
  refine zcm (z3k (fo st k) x.epoch HXE.out _ _ (fun _=>True) (Z5 HFR.out (zK (zB HB4.out zbr.drew)))) ?_;rintro e5 w5 ⟨rfl,b5⟩;have B5:=zh (show Below w4.heap.size w4 w5 from zB zbr.drew b5);clear b5 hHeld;refine hK.out _ _ (HS _ B5.out) (fun hHeld=>?_);clear hK K;refine zr 13 fun K hK=>?_
  go_simp;go_at_call 163
  refine zcm (z3k (fo st k) ((fo st k).epochs.length:Int) HLE.out _ _ (fun _=>True) (Z5 HFR.out (zK (zB HB4.out B5.out)))) ?_;rintro e6 w6 ⟨rfl,b6⟩;have B6:=zh (show Below w4.heap.size w4 w6 from zB B5.out b6);clear b6 hHeld;refine hK.out _ _ (HS _ B6.out) (fun hHeld=>?_);clear hK K;refine zi 14 ?_;iterate 12 (refine zt hHeld ?_;simp only [zA])
  refine zo ?_;refine wpAnyH_done (by kernel_rfl) ?_ _;clear hHeld HS;have t5:=(B6.out.cell (p:=⟨g,o+5,none⟩) hg4).trans t5;have r0:=(B6.out.cell (p:=⟨gw,ow+YJ name (fo st k).wraps*3,none⟩) hgw4).trans r0;have r1:=(B6.out.cell (p:=⟨gw,ow+YJ name (fo st k).wraps*3+1,none⟩) hgw4).trans r1;have r2:=(B6.out.cell (p:=⟨gw,ow+YJ name (fo st k).wraps*3+2,none⟩) hgw4).trans r2;have rz:∀q,w6.frozen? ⟨gw,q,none⟩=false:=fun q=>by unfold World.frozen?;rw [B6.out.block gw hgw4,HB4.out.block gw hgw];exact hzw q
  go_wp2;go_end0
  exact ⟨rfl,HE1.out _ (zB HB4.out B6.out)⟩
 have HE1:=zh (HPUT.out (by unfold z4d;rw [hxs];simp [hfe]));clear hfe rz b0 b1 b2;have HS:=HSQ.out;refine zE (by kernel_rfl) HS (fun hHeld=>?_);refine zi 0 ?_;iterate 8 (refine zt hHeld ?_;simp only [zA])
 refine zo ?_;refine zi 9 ?_;iterate 4 (refine zt hHeld ?_;simp only [zA])
 refine zo ?_;refine zr 8 fun K hK=>?_
 go_simp;go_at_call 163
 refine zcm (z3k (fo st k) x.epoch HXE.out _ _ (fun _=>True) (Z5 HFR.out (zK (zB HB4.out zbr.drew)))) ?_;rintro e5 w5 ⟨rfl,b5⟩;have B5:=zh (show Below w4.heap.size w4 w5 from zB zbr.drew b5);clear b5 hHeld;refine hK.out _ _ (HS _ B5.out) (fun hHeld=>?_);clear hK K;refine zr 13 fun K hK=>?_
 go_simp;go_at_call 163
 refine zcm (z3k (fo st k) ((fo st k).epochs.length:Int) HLE.out _ _ (fun _=>True) (Z5 HFR.out (zK (zB HB4.out B5.out)))) ?_;rintro e6 w6 ⟨rfl,b6⟩;have B6:=zh (show Below w4.heap.size w4 w6 from zB B5.out b6);clear b6 hHeld;refine hK.out _ _ (HS _ B6.out) (fun hHeld=>?_);clear hK K;refine zi 14 ?_;iterate 6 (refine zt hHeld ?_;simp only [zA])
 refine zo ?_;refine zX 20 hHeld ?_;simp only [zA];refine zX 21 hHeld ?_;simp only [zA];refine zX 22 hHeld ?_;simp only [zA];refine zX 23 hHeld ?_;simp only [zA];refine zi 24 ?_;iterate 2 (refine zt hHeld ?_;simp only [zA])
 refine zo ?_;refine wpAnyH_done (by kernel_rfl) ?_ _;clear hHeld HS;have t5:=(B6.out.cell (p:=⟨g,o+5,none⟩) hg4).trans t5;have r0:=(B6.out.cell (p:=⟨gw,ow+YJ name (fo st k).wraps*3,none⟩) hgw4).trans r0;have r1:=(B6.out.cell (p:=⟨gw,ow+YJ name (fo st k).wraps*3+1,none⟩) hgw4).trans r1;have r2:=(B6.out.cell (p:=⟨gw,ow+YJ name (fo st k).wraps*3+2,none⟩) hgw4).trans r2;have rz:∀q,w6.frozen? ⟨gw,q,none⟩=false:=fun q=>by unfold World.frozen?;rw [B6.out.block gw hgw4,HB4.out.block gw hgw];exact hzw q
 go_wp2;go_end0
 exact ⟨rfl,HE1.out _ (zB HB4.out B6.out)⟩
end
end
end Go.Proofs.YtdggplhnfhcieaaGreatDoor
