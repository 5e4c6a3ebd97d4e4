/- No condition. -/
import Derived.Test.YtdggplhnfhcieaaGreatDoorX18
set_option linter.all false
set_option maxRecDepth 100000
set_option maxHeartbeats 16000000
namespace Go.Proofs.YtdggplhnfhcieaaGreatDoor
open Go.RowKit Go.Deep
def z2c (l:List Nm):List (List Value):=l.map fun s=>[.string s]
theorem z9s (l:List Nm):(z2c l).length=l.length:=List.length_map _
theorem z7r {l:List Nm} {i:Nat} {x:Nm} (h:l[i]? =some x):(z2c l)[i]? =some [.string x]:=by unfold z2c;rw [List.getElem?_map,h];rfl
theorem z9t {s:Nm}:∀{a b:List Nm},(∀x∈a,ltS s x=false)->(∀x∈b,ltS s x=true)->z3a s (a++b)=a++s :: b
 | [],[],_,_=>rfl
 | [],x :: b,_,h=>by rw [List.nil_append,z3a,if_pos (h x (List.mem_cons_self ..))];rfl
 | x :: a,b,h,k=>by
  have hx:=h x (List.mem_cons_self ..);rw [List.cons_append,z3a,hx];rw [z9t (fun y hy=>h y (zmc _ hy)) k];rfl
theorem zN7 {s:Nm} {l:List Nm} (hp:l.Pairwise (fun a b=>ltS a b=true)) {k:Nat} {y:Nm} (hy:l[k]? =some y) (h:ltS s y=false):∀x∈l.take (k+1),ltS s x=false:=by
 intro x hx;obtain ⟨i,hi⟩:=List.getElem?_of_mem hx;have hik:i < k+1:=by
  have:=(zge hi).1;rw [List.length_take] at this;omega
 rw [List.getElem?_take,if_pos hik] at hi;by_cases e:i=k
 ·subst e;rw [hy] at hi;rw [<-zsi hi];exact h
 have hi':=(zge hi);have hy':=(zge hy);have h1:ltS x y=true:=by
  have:=List.pairwise_iff_getElem.1 hp i k hi'.1 hy'.1 (by omega);rw [hi'.2,hy'.2] at this;exact this
 rw [<-Bool.not_eq_true];intro h2;rw [YP h2 h1] at h;cases h
theorem zPs {l:List Nm} {k:Nat} {x y:Nm} (hx:l[k]? =some x):(l.take (k+1)++y :: l.drop (k+1)).set (k+1) x=l.take k++x :: l.drop k:=by
 have hk:=(zge hx).1;have h1:l.take (k+1)=l.take k++[x]:=by rw [qLtx,hx];rfl
 have h2:l.drop k=x :: l.drop (k+1):=by
  have:=List.drop_eq_getElem_cons hk;rw [(zge hx).2] at this;exact this
 rw [List.set_append_right _ _ (by rw [List.length_take];omega)];rw [show k+1 - (l.take (k+1)).length=0 by rw [List.length_take];omega];rw [List.set_cons_zero,h1,h2];simp
theorem zRu {l:List Nm} {k:Nat} {s y:Nm} (hk:k<=l.length):(l.take k++y :: l.drop k).set k s=l.take k++s :: l.drop k:=by
 rw [List.set_append_right _ _ (by rw [List.length_take];omega)];rw [show k - (l.take k).length=0 by rw [List.length_take];omega];rfl
theorem zJa (l:List Nm) (k:Nat) (x:Nm):(z2c l).set k [.string x]=z2c (l.set k x):=by unfold z2c;rw [List.map_set]
theorem z8p (w:World) (g o:Nat) (u:Value):w.grownBy (w.setCell ⟨g,o,none⟩ u) (some g):=by
 have b:=(Below.refl 0 w).setCell (p:=⟨g,o,none⟩) (Nat.zero_le _) u;exact ⟨b.os,b.tape,b.output,by simp,fun k _ hk=>Below.heap_setCell _ _ _ _ fun e=>hk (by rw [e])⟩
theorem zD3 {w w1 w':World} {row:Option Nat} {g:Nat} (h:w.grownBy w1 row) (k:w1.grownBy w' (some g)) (o:some g=row\/∃q,some g=some q/\w.heap.size<=q):w.grownBy w' row:=by
 refine ⟨k.os.trans h.os,k.tape.trans h.tape,k.output.trans h.output,qNtx h.size k.size,fun b hb hne=>(k.block b (zll hb h.size) fun e=>?_).trans (h.block b hb hne)⟩;rcases o with o | ⟨q,hq,hl⟩
 ·exact hne (e.trans o)
 have:=zsi (e.trans hq);omega
theorem zRv {l:List Nm} {k i:Nat} {x y:Nm} (hi:i < k) (hk:k<=l.length) (hx:l[i]? =some x):(l.take k++y :: l.drop k)[i]? =some x:=by
 rw [qLlx (by rw [List.length_take];omega),List.getElem?_take,if_pos hi];exact hx
theorem zHh {w:World} {v:Value} {l:List Nm} (h:RowC 9 1 w v (z2c l)) (hl:l.length<=2000) (hp:l.Pairwise (fun a b=>ltS a b=true)) (s:Nm) (hsl:s∉l):Calls Tryz.prog 81 #[v,.string s] w fun e w'=>∃v',e= .returned v'/\RowC 9 1 w' v' (z2c (z3a s l))/\w.grownBy w' v.ownBlock/\(v'.ownBlock=v.ownBlock\/∃k,v'.ownBlock=some k/\w.heap.size<=k):=by
 obtain ⟨_,_,rfl,_⟩:=h.shape;rw [z9s] at h⊢;have HR:=zh h;obtain ⟨istring,histring,hzstring,h1string,h2string⟩:=info_parts (show (Tryz.prog.info? 9).map (fun i=>(i.zero,i.size,i.bytes))=some (some (.string ⟨#[]⟩),1,16) from by kernel_rfl);clear h;go_enter Tryz.func81,Tryz.ntmps81
 go_wp2_with (at_builtin;(refine zJi w [.string s] rfl (.tmp 8) (.tmp 10) 45 rfl istring _ 16 Tryz.underlying45 histring hzstring h1string h2string rfl (by decide) (by decide) _ _ rfl HR.out (by rw [z9s];omega) rfl (by intro u hu;simp at hu;subst hu;rfl) _ _ rfl rfl ?_);intro v1 w1 r1 g1 o1;have HG1:=zh g1;have HO1:=zh o1;have HR1:=zh (show RowC 9 1 w1 v1 (z2c (l++[s])) by rw [show z2c (l++[s])=z2c l++[[.string s]] by simp [z2c]];exact r1);clear r1 g1 o1)
 obtain ⟨_,c1,hv1,hA1⟩:=HR1.out.shape;obtain ⟨g,o,rfl⟩:=hA1 (by simp [z2c]);rw [z9s,qLax,List.length_singleton] at hv1;subst hv1;clear hA1;go_loopw [5] (fun i wr=>∃(k:Nat) (y:Nm),k<=l.length/\i= .int .i64 k/\Hid (RowC 9 1 wr (.slice (some ⟨g,o,none⟩) (l.length+1) c1) (z2c (l.take k++y :: l.drop k)))/\Hid (∀x∈l.drop k,ltS s x=true)/\Hid (w1.grownBy wr (some g))) (fun i _=>(intOf i).toNat)
 case atStart=>
  refine ⟨l.length,s,znl _,by go_num,?_,fun x hx=>by simp at hx,World.grownBy.refl _ _⟩;show RowC _ _ _ _ _
  rw [qLnx,List.drop_length];exact HR1.out
 obtain ⟨k,y,hk,rfl,HW,HD,HG⟩:=hrel;by_cases h0:k=0
 ·subst h0;have HF:=zh (show RowC 9 1 (wr.setCell ⟨g,o,none⟩ (.string s)) (.slice (some ⟨g,o,none⟩) (l.length+1) c1) (z2c (z3a s l)) by
   have:=HW.out.write (i:=0) (j:=0) (x:=[.string y]) (by decide) rfl (by decide) (.string s) rfl;rw [show o+0*1+0=o by omega] at this;have e:z3a s l=s :: l:=by have:=z9t (s:=s) (a:=[]) (b:=l) (fun x hx=>by simp at hx) (fun x hx=>HD.out x hx);simpa using this
   rw [e];exact this)
  obtain ⟨-,hnc,hcm,hc,hf⟩:=HW.out.here (i:=0) (x:=[.string y]) rfl;have x0:=hc 0 _ rfl;rw [show o+0*1+0=o by omega] at x0;have hi0:(0:Int) < (l.length:Int)+1:=by omega
  clear hc;go_wp2;go_ret;refine ⟨.slice (some ⟨g,o,none⟩) (l.length+1) c1,?_,HF.out,zD3 HG1.out (z32 HG.out (z8p wr g o _)) HO1.out,HO1.out⟩;rfl
 obtain ⟨k,rfl⟩:∃q,k=q+1:=⟨k - 1,by omega⟩;obtain ⟨x,hx⟩:∃x,l[k]? =some x:=⟨_,qLgx (by omega)⟩;have hgx:=zRv (y:=y) (show k < k+1 by omega) hk hx;have hgy:(l.take (k+1)++y :: l.drop (k+1))[k+1]? =some y:=by
  rw [qLrx (by rw [List.length_take];omega),show k+1 - (l.take (k+1)).length=0 by rw [List.length_take];omega];rfl
 obtain ⟨-,hnc,hcm,hcx,hf⟩:=HW.out.here (z7r hgx);obtain ⟨-,-,-,hcy,-⟩:=HW.out.here (z7r hgy);have x0:=hcx 0 _ rfl;have y0:=hcy 0 _ rfl;rw [show o+k*1+0=o+k by omega] at x0;rw [show o+(k+1)*1+0=o+(k+1) by omega] at y0;have hi1:(k:Int) < (l.length:Int)+1:=by omega
 have hi2:(k:Int)+1 < (l.length:Int)+1:=by omega
 have hk0:(0:Int) < (k:Int)+1:=by omega
 have hwk:IntKind.i64.wrap ((k:Int)+1 - 1)=(k:Int):=by rw [show (k:Int)+1 - 1=k by omega];exact IntWalk.i64_in _ (by omega)
 clear hcx hcy hgx hgy h0;simp only [Int.natCast_add,Int.natCast_one]
 cases hls:ltS s x with
 | true=>
  have hb:Op.bytesLess x.toList s.toList=false:=z3h hls;have he:=z03 (Ne.symm (z5p hls));have HW2:=zh (show RowC 9 1 (wr.setCell ⟨g,o+(k+1),none⟩ (.string x)) (.slice (some ⟨g,o,none⟩) (l.length+1) c1) (z2c (l.take k++x :: l.drop k)) by
   have:=HW.out.write (i:=k+1) (j:=0) (x:=[.string y]) (by decide) (z7r (by rw [qLrx (by rw [List.length_take];omega),show k+1 - (l.take (k+1)).length=0 by rw [List.length_take];omega];rfl)) (by decide) (.string x) rfl;rw [show o+(k+1)*1+0=o+(k+1) by omega] at this;rw [show [Value.string y].set 0 (.string x)=[.string x] from rfl,zJa,zPs hx] at this;exact this)
  have HD2:=zh (show ∀z∈l.drop k,ltS s z=true by
   have h2:l.drop k=x :: l.drop (k+1):=by
    have hk':=(zge hx);have:=List.drop_eq_getElem_cons hk'.1;rw [hk'.2] at this;exact this
   rw [h2];intro z hz;rcases List.mem_cons.1 hz with rfl | hz
   ·exact hls
   ·exact HD.out z hz)
  clear hls hx;go_wp2;go_roundw
  case rel=>exact ⟨k,x,by omega,by go_num,HW2,HD2,z32 HG.out (z8p wr g _ _)⟩
  case measure=>simp [intOf]
 | false=>
  have hb:Op.bytesLess x.toList s.toList=true:=by
   rcases z18 s x with h9 | h9 | h9
   ·rw [hls] at h9;cases h9
   ·exact absurd (zmg (h9▸hx)) hsl
   ·exact h9
  have HF:=zh (show RowC 9 1 (wr.setCell ⟨g,o+(k+1),none⟩ (.string s)) (.slice (some ⟨g,o,none⟩) (l.length+1) c1) (z2c (z3a s l)) by
   have:=HW.out.write (i:=k+1) (j:=0) (x:=[.string y]) (by decide) (z7r (by rw [qLrx (by rw [List.length_take];omega),show k+1 - (l.take (k+1)).length=0 by rw [List.length_take];omega];rfl)) (by decide) (.string s) rfl;rw [show o+(k+1)*1+0=o+(k+1) by omega] at this;rw [show [Value.string y].set 0 (.string s)=[.string s] from rfl,zJa,zRu hk] at this;have e:z3a s l=l.take (k+1)++s :: l.drop (k+1):=by
    have:=z9t (s:=s) (a:=l.take (k+1)) (b:=l.drop (k+1)) (zN7 hp hx hls) HD.out;rwa [List.take_append_drop] at this
   rw [e];exact this)
  clear hls hx;go_wp2;go_ret;exact ⟨.slice (some ⟨g,o,none⟩) (l.length+1) c1,rfl,HF.out,zD3 HG1.out (z32 HG.out (z8p wr g _ _)) HO1.out,HO1.out⟩
theorem zFz {w:World} {v:Value} {R:List Nm} (h:RowC 9 1 w v (z2c R)) (hl:R.length<=2000) (hs:∀s∈R,s.size<=1000):Sl 1 z06 (fun _=>True) w v R:=by
 rcases h.2 with ⟨rfl,h0⟩ | ⟨g,off,cap,cur,hv,hg,h1,h2,h3,h4⟩
 ·have:R=[]:=by cases R with
   | nil=>rfl
   | cons x R=>simp [z2c] at h0
  subst this;exact z0k _ _ _ _
 rw [z9s] at hv h1;subst hv;refine zS2 rfl h1 h2 (by omega) trivial fun i x hx=>⟨[.string x],rfl,fun j y hj=>?_,rfl,by have:=hs x (zmg hx);omega⟩
 obtain ⟨-,-,-,hc,-⟩:=(show RowC 9 1 w (.slice (some ⟨g,off,none⟩) R.length cap) (z2c R) from h).here (z7r hx);have:=hc j y hj;rwa [Nat.add_assoc] at this
def z7s (l:List Nm) (s:Nm):List Nm:=if s∈l then l else z3a s l
theorem zLf {P:Nm->Prop} {R:List Nm} (h:IsNames P R) (s:Nm):IsNames (fun x=>x=s\/P x) (z7s R s):=by
 unfold z7s;by_cases hs:s∈R
 ·rw [if_pos hs];refine ⟨h.1,fun x=>(h.2 x).trans ⟨.inr,?_⟩⟩;rintro (rfl | k)
  ·exact (h.2 x).1 hs
  exact k
 rw [if_neg hs];exact h.put fun k=>hs ((h.2 s).2 k)
theorem zJb (l:List Nm) (s:Nm):(z7s l s).length<=l.length+1:=by
 unfold z7s;split
 ·omega
 have:∀l:List Nm,(z3a s l).length=l.length+1:=by
  intro l
  induction l with
  | nil=>rfl
  | cons x l ih=>
   rw [z3a];split
   ·rfl
   ·rw [List.length_cons,ih,List.length_cons]
 rw [this];exact znl _
theorem zLg {w:World} {v:Value} {l:List Nm} (h:RowC 9 1 w v (z2c l)) (hl:l.length<=2000) (hz:∀x∈l,x.size<=1000) (hp:l.Pairwise (fun a b=>ltS a b=true)) (s:Nm):Calls Tryz.prog 48 #[v,.string s] w fun e w'=>∃v',e= .returned v'/\RowC 9 1 w' v' (z2c (z7s l s))/\w.grownBy w' v.ownBlock/\(v'.ownBlock=v.ownBlock\/∃k,v'.ownBlock=some k/\w.heap.size<=k):=by
 have HI:=zh (zE7 l v s w _ (zFz h (by omega) hz));have HR:=zh h;obtain ⟨_,_,_,rfl⟩:=h.shape3
 cases hm:z96 l s with
 | true=>
  have HE:=zh (show z7s l s=l by unfold z7s;rw [if_pos (z0v.1 hm)]);rw [hm] at HI;clear hm h;go_enter Tryz.func48,Tryz.ntmps48
  go_wp2_with (go_at_call 49;refine zcm HI.out ?_;rintro e w1 ⟨rfl,hw⟩;obtain rfl:=hw.symm;clear hw)
  go_ret
  exact ⟨_,rfl,by rw [HE.out];exact HR.out,World.grownBy.refl _ _,.inl rfl⟩
 | false=>
  have hs:s∉l:=fun k=>by rw [z0v.2 k] at hm;cases hm
  have HE:=zh (show z7s l s=z3a s l by unfold z7s;rw [if_neg hs]);have HSO:=zh (zHh HR.out hl hp s hs);rw [hm] at HI;clear hm h hs;go_enter Tryz.func48,Tryz.ntmps48
  go_wp2_with (first
   | (go_at_call 49;refine zcm HI.out ?_;rintro e w1 ⟨rfl,hw⟩;obtain rfl:=hw.symm;clear hw)
   | (go_at_call 81;refine zcm HSO.out ?_;rintro e _ ⟨_,rfl,h2⟩;have H2:=zh h2;clear h2))
  go_ret;exact ⟨_,rfl,by rw [HE.out];exact H2.out.1,H2.out.2.1,H2.out.2.2⟩
theorem zG0 (st:State) (hsm:Small st) (fo:Nm) (cs:List Value) (w:World) (S:Nat->Prop) (h:yB S w cs st):Calls Tryz.prog 27 #[.agg cs.toArray,.string fo] w fun e w'=>(∃(v:Value) (R:List Nm),e= .returned v/\Sl 1 z06 (fun _=>True) w' v R/\IsNames (zBc st fo) R)/\Below w.heap.size w w':=by
 have HR:=zh (Z0 h (show Kept S (fun z=>z < w.heap.size) w w from fun b _ hl=>⟨hl,rfl⟩));have HSM:=zh hsm;clear hsm;replace h:=HR.out;obtain ⟨st_A1,st_c1,st_A2,st_c2,st_A3,st_c3,rfl,st_turn_ok,st_users_l,st_users_m,st_users_n,st_users_s,st_deposits_l,st_deposits_m,st_deposits_n,st_deposits_s,st_folders_l,st_folders_m,st_folders_n,st_folders_s⟩:=ZP h;obtain ⟨w0,hw0,cw0,fw0,Bw0,qw0⟩:=zQ w #[.int .i64 st.turn,.slice st_A1 st.users.length st_c1,.slice st_A2 st.deposits.length st_c2,.slice st_A3 st.folders.length st_c3] 34;have HB0:=zh Bw0;have HC0:=zh cw0;have HST:=zh fun W (hW:Below w0.heap.size w0 W)=>Z0 HR.out (zK (zB HB0.out hW))
 have s0:=cw0 0 _ rfl;have s1:=cw0 1 _ rfl;have s2:=cw0 2 _ rfl;have s3:=cw0 3 _ rfl;clear cw0 fw0 Bw0 st_users_s;obtain ⟨istring,histring,hzstring,h1string,h2string⟩:=info_parts (show (Tryz.prog.info? 9).map (fun i=>(i.zero,i.size,i.bytes))=some (some (.string ⟨#[]⟩),1,16) from by kernel_rfl);go_enter Tryz.func27,Tryz.ntmps27
 go_wp2_with fail
 clear hw0 s0 s1 s2 s3;refine zcm (zA8 st fo _ w0 _ (HST.out _ zbr)) ?_;rintro e w1 ⟨⟨v1,rfl,hs1⟩,b1⟩;obtain ⟨c,hc⟩:∃c,zN st 4 fo=c:=⟨_,rfl⟩;have HCC:=zh hc;rw [hc] at hs1;have hc4:c.length<=4:=by rw [<-hc];exact z1k _ _ _
 obtain ⟨A1,c1,rfl,hl1,hcm1,hn1,hs1⟩:=hs1;unfold maxLen at hcm1;have HB1:=zh b1;clear hc b1;go_wp2;go_loopw [5,7] (fun vo i wr=>∃(k:Nat),k<=c.length/\i= .int .i64 k/\Hid (Grow 9 1 z06 (fun _=>False) wr w1.heap.size vo (z05 st (c.take k)))/\Below w1.heap.size w1 wr) (fun _ i _=>c.length - (intOf i).toNat)
 case atStart=>exact ⟨0,by omega,by go_num,Grow.nil,Below.refl _ _⟩
 obtain ⟨k,hk,rfl,HG,hbel⟩:=hrel;have B0:=zh (zB HB1.out hbel);obtain ⟨A2,n2,c2,rfl,hn2⟩:=HG.out.shape';clear hn2;have hz1:=hbel.size;by_cases hlt:k < c.length
 ·obtain ⟨x,hx⟩:∃x,c[k]? =some x:=⟨_,qLgx hlt⟩;obtain ⟨bx,ox,yx,hAx,hbx,hRx,hcx⟩:=SlAt.elem hs1 hx (by decide) hbel;obtain ⟨g,hg⟩:=z0d (st:=st) (x:=x) (by rw [HCC.out];exact zmg hx);obtain ⟨m,hme⟩:∃m,zH g=m:=⟨_,rfl⟩;have HM:=zh hme;have HMS:=zh (show z6t st x.name=m.members by rw [z6t,hg,<-hme];rfl);obtain ⟨j,hj,hgj⟩:=z2y hg;have HJ:=zh hj;have hjl:=(zge hgj).1;have hji:(j:Int) < (st.folders.length:Int):=by omega
  obtain ⟨bg,og,yg,hAg,hbg,hRg,hcg⟩:=SlAt.elem st_folders_s hgj (by decide) (zB HB0.out B0.out);have HGR:=zh hRg;obtain ⟨rfl,x_name_le,x_seq_ok⟩:=z3b hRx;obtain ⟨g_A2,g_c2,g_A3,g_c3,g_A4,g_c4,g_A5,g_c5,g_A6,g_c6,rfl,g_name_le,g_turn_ok,g_manifests_l,g_manifests_m,g_manifests_n,g_manifests_s,g_epochs_l,g_epochs_m,g_epochs_n,g_epochs_s,g_items_l,g_items_m,g_items_n,g_items_s,g_wraps_l,g_wraps_m,g_wraps_n,g_wraps_s,g_links_l,g_links_m,g_links_n,g_links_s⟩:=Z2 hRg;have u0:=hcx 0 _ rfl;have g0:=hcg 0 _ rfl;have g1:=hcg 1 _ rfl;have g2:=hcg 2 _ rfl;have g3:=hcg 3 _ rfl;have g4:=hcg 4 _ rfl;have g5:=hcg 5 _ rfl;have g6:=hcg 6 _ rfl;rw [Nat.add_zero] at u0 g0;subst hAx;subst hAg;have hki:(k:Int) < (c.length:Int):=by omega
  have HT:=zh (zKj (st:=st) hx);have HML:=zh (z9r HSM.out (c.take k));have hkl:(c.take k).length<=4:=by have:=z64 c k;omega
  have HSQ:=zh (show ∀W:World,Below wr.heap.size wr W->(fun W:World=>(W.cell? ⟨w.heap.size,0,none⟩=some (.int .i64 st.turn)/\W.cell? ⟨w.heap.size,1,none⟩=some (.slice st_A1 st.users.length st_c1)/\W.cell? ⟨w.heap.size,2,none⟩=some (.slice st_A2 st.deposits.length st_c2)/\W.cell? ⟨w.heap.size,3,none⟩=some (.slice (some ⟨bg,og,none⟩) st.folders.length st_c3))/\W.cell? ⟨bx,ox+k*2,none⟩=some (.string x.name)/\W.cell? ⟨bg,og+j*7,none⟩=some (.string g.name)/\W.cell? ⟨bg,og+j*7+1,none⟩=some (.int .i64 g.turn)/\W.cell? ⟨bg,og+j*7+2,none⟩=some (.slice g_A2 g.manifests.length g_c2)/\W.cell? ⟨bg,og+j*7+3,none⟩=some (.slice g_A3 g.epochs.length g_c3)/\W.cell? ⟨bg,og+j*7+4,none⟩=some (.slice g_A4 g.items.length g_c4)/\W.cell? ⟨bg,og+j*7+5,none⟩=some (.slice g_A5 g.wraps.length g_c5)/\W.cell? ⟨bg,og+j*7+6,none⟩=some (.slice g_A6 g.links.length g_c6)) W from fun W hW=>by
   have c:=fun j v hj=>((zB B0.out hW).cell (p:=⟨w.heap.size,j,none⟩) qw0).trans (HC0.out j v hj)
   have q:=fun (o:Nat) v (h:wr.cell? ⟨bg,o,none⟩=some v)=>(hW.cell (p:=⟨bg,o,none⟩) (zF h)).trans h
   exact ⟨⟨c 0 _ rfl,c 1 _ rfl,c 2 _ rfl,c 3 _ rfl⟩,(hW.cell (p:=⟨bx,ox+k*2,none⟩) (zF u0)).trans u0,q _ _ g0,q _ _ g1,q _ _ g2,q _ _ g3,q _ _ g4,q _ _ g5,q _ _ g6⟩)
  clear hx hg hme hj hgj hcx hcg u0 g0 g1 g2 g3 g4 g5 g6 g_manifests_s g_epochs_s g_items_s g_wraps_s g_links_s;go_wp2;have HS:=HSQ.out;refine zE (by kernel_rfl) HS (fun hHeld=>?_);refine zi 0 ?_;iterate 8 (refine zt hHeld ?_;simp only [zA])
  refine zo ?_;refine zr 8 fun K hK=>?_
  go_simp;go_at_call 21
  refine zcm (z1l st x.name _ _ _ (HST.out _ (zB B0.out zbr.drew))) ?_;rw [HJ.out];rintro e6 w6 ⟨rfl,b6⟩;have B6:Below wr.heap.size wr w6:=zB zbr.drew b6;clear b6 hHeld;refine hK.out _ _ (HS _ B6) (fun hHeld=>?_);clear hK K;refine zi 9 ?_;iterate 2 (refine zt hHeld ?_;simp only [zA])
  refine zo ?_;refine zr 11 fun K hK=>?_
  go_simp;go_at_call 25
  refine zcm (z4u g _ _ _ (Z5 HGR.out (zK (zB HB0.out (zB B0.out B6))))) ?_;rw [HM.out];rintro e7 w7 ⟨⟨cm,rfl,hm⟩,b7⟩;have B7:Below wr.heap.size wr w7:=zB B6 b7;clear b7 hHeld;obtain ⟨m_A2,m_c2,m_A4,m_c4,rfl,m_folder_le,m_seq_ok,m_prev_l,m_prev_m,m_prev_n,m_prev_s,m_parent_le,m_members_l,m_members_m,m_members_n,m_members_s,m_cut_ok,m_who_le⟩:=yF hm;have hfd:=zN6 m.folder m.parent m.who m.seq m.cut m.gone (.slice m_A2 m.prev.length m_c2) (.slice m_A4 m.members.length m_c4);refine hK.out _ _ (HS _ B7) (fun hHeld=>?_);clear hK K m_prev_s;refine zi 12 ?_;iterate 2 (refine zt hHeld ?_;simp only [zA])
  refine zo ?_;refine wpAnyH_done (by kernel_rfl) ?_ _;clear hHeld HS hfd;have HG5:=zh (HG.out.below ZT B7);have HB5:=zh (zB hbel B7);have hml:m.members.length<=20:=by have:=(z7q HSM.out x.name).1;rwa [HMS.out] at this
  clear B6 B7;go_wp2;go_loopw [5,9] (fun vo i wr2=>∃j:Nat,j<=m.members.length/\i= .int .i64 j/\Hid (Grow 9 1 z06 (fun _=>False) wr2 w1.heap.size vo (z05 st (c.take k)++(m.members.take j).map Member.name))/\Below w1.heap.size w1 wr2) (fun _ i _=>m.members.length - (intOf i).toNat)
  case atStart=>exact ⟨0,by omega,by go_num,(zh (by simpa using HG5.out)),HB5.out⟩
  clear HG HG5 hz1;obtain ⟨wr2,rfl⟩:∃q,q=wr:=⟨_,rfl⟩;obtain ⟨i,hi,rfl,HG,hbel2⟩:=hrel;obtain ⟨A6,n6,c6,rfl,hn6⟩:=HG.out.shape';clear hn6;by_cases hlj:i < m.members.length
  rotate_left
  ·obtain rfl:i=m.members.length:=by omega
   have HGE:=zh (show Grow 9 1 z06 (fun _=>False) wr2 w1.heap.size (.slice A6 n6 c6) (z05 st (c.take (k+1))) by rw [HT.out,HMS.out];have:=HG.out;rwa [qLnx] at this);clear HG;go_wp2;go_roundw
   case rel=>exact ⟨k+1,by omega,by go_num,HGE,hbel2⟩
   case measure=>exact qMx
  obtain ⟨y,hy⟩:∃y,m.members[i]? =some y:=⟨_,qLgx hlj⟩;obtain ⟨b',o',ys',hA',hSb,hlen',hcz',hRy⟩:=m_members_s i y hy;have hcy:=fun q v hq=>((zUq HB0.out.size (zB HB1.out HB5.out) (zB HB1.out hbel2)) b' hSb).trans rfl |> fun e=>(World.cell?_of_block (a:=⟨b',o'+(i*2+q),none⟩) e).trans (hcz' q v hq)
  obtain ⟨rfl,y_name_le,y_role_ok⟩:=z43 hRy;have u0:=hcy 0 _ rfl;have u1:=hcy 1 _ rfl;rw [Nat.add_zero] at u0;rw [<-Nat.add_assoc] at u1;subst hA';have hii:(i:Int) < (m.members.length:Int):=by omega
  have HTJ:=zh (show (z05 st (c.take k)++(m.members.take i).map Member.name)++[y.name]=z05 st (c.take k)++(m.members.take (i+1)).map Member.name by rw [qLtx,hy,List.map_append,List.append_assoc];rfl);have hll:(z05 st (c.take k)++(m.members.take i).map Member.name).length<=200:=by
   rw [qLax,qLmx];have:=HML.out;have:=z64 m.members i;omega
  have hz6:w1.heap.size<=wr2.heap.size:=hbel2.size;have HYL:=zh y_name_le;clear hy hcy;go_wp2_with (at_builtin;go_loud (refine yZ (R:=z06) _ _ rfl (.tmp 42) (.tmp 48) 45 rfl 9 istring _ 1 16 Tryz.underlying45 histring hzstring h1string h2string rfl (by decide) ZT w1.heap.size hz6 _ _ rfl HG.out _ _ rfl (by simp only [zS]) _ (by intro b hb;exact hb.elim) ⟨rfl,HYL.out⟩ (by omega) (by decide) ?_);intro v7 w8 g7 gg7 go7;obtain ⟨A7,n7,c7,rfl,hn7⟩:=g7.shape';have G7:=zh g7;have GG7:=zh gg7;clear hn7 g7 gg7 go7)
  go_roundw
  case rel=>
   refine ⟨i+1,by omega,by go_num,?_,?_⟩
   ·show Grow _ _ _ _ _ _ _ _
    rw [<-HTJ.out];exact G7.out
   exact Below.grown hbel2 GG7.out hz6 fun b hb=>(HG.out.base_le b hb).1
  case measure=>exact qMx
 obtain rfl:k=c.length:=by omega
 rw [qLnx] at HG;have hS80:(z05 st c).length<=80:=by have:=z9r HSM.out c;omega
 have hd100:st.deposits.length<=1000:=by have:=HSM.out.all;omega
 have HCL:=zh (Cl.start (z8n st.deposits) (z05 st c));clear hlt hk;go_wp2;go_loopw [5,10] (fun vo i wr=>∃(q:Nat) (L:List Nm),q<=L.length/\i= .int .i64 q/\Hid (Grow 9 1 z06 (fun _=>False) wr w1.heap.size vo L)/\Hid (Cl (z8n st.deposits) (z05 st c) L q)/\Below w1.heap.size w1 wr) (fun _ i _=>1200 - (intOf i).toNat)
 case atStart=>exact ⟨0,_,by omega,by go_num,HG,HCL,hbel⟩
 clear HG HCL hbel hz1 B0;obtain ⟨wr3,rfl⟩:∃q,q=wr:=⟨_,rfl⟩;obtain ⟨q,L,hq,rfl,HG,HCL,hbel⟩:=hrel;have B0:=zh (zB HB1.out hbel);obtain ⟨A6,n6,c6,rfl,hn6⟩:=HG.out.shape';have hLL:L.length<=1080:=by have:=HCL.out.len;rw [zJ4] at this;omega
 have hz1:=hbel.size;subst hn6;by_cases hlt:q < L.length
 rotate_left
 ·obtain rfl:q=L.length:=by omega
  have HALL:=zh (HCL.out.all (znl _));obtain ⟨A7,c7,hv7,hl7,hc7,hn7,hs7⟩:=Own.sl ZT HG.out;cases hv7
  unfold maxLen at hc7;have HS0:=zh (show IsNames (fun x=>x∈L.take 0) [] from IsNames.nil fun x hx=>by simp at hx);clear HG hlt hq;go_wp2;go_loopw [12,13] (fun vo i wr=>∃(q:Nat) (R:List Nm),q<=L.length/\i= .int .i64 q/\Hid (RowC 9 1 wr vo (z2c R))/\Hid (∀b,vo.ownBlock=some b->wr3.heap.size<=b)/\Hid (IsNames (fun x=>x∈L.take q) R)/\R.length<=q/\Below wr3.heap.size wr3 wr) (fun _ i _=>L.length - (intOf i).toNat)
  case atStart=>exact ⟨0,[],by omega,by go_num,RowC.nil _,(fun b hb=>by cases hb),HS0,znl _,Below.refl _ _⟩
  clear HS0;obtain ⟨wr5,rfl⟩:∃q,q=wr:=⟨_,rfl⟩;obtain ⟨q,R,hq,rfl,HRW,HOB,HI,hRq,hbel5⟩:=hrel;have HRZ:=zh (show ∀x∈R,x.size<=1000 from fun x hx=>zPr HSM.out ((HALL.out x).1 (List.mem_of_mem_take ((HI.out.2 x).1 hx))));by_cases hlt:q < L.length
  rotate_left
  ·obtain rfl:q=L.length:=by omega
   have HSL:=zh (zFz HRW.out (by omega) HRZ.out);have HIF:=zh (show IsNames (zBc st fo) R from ⟨HI.out.1,fun x=>(HI.out.2 x).trans (by rw [qLnx];exact (HALL.out x).trans (by rw [zBc,HCC.out]))⟩);have HBF:=zh (zB HB0.out (zB HB1.out (zB hbel hbel5)));clear HRW;go_wp2;go_ret;exact ⟨⟨_,R,rfl,HSL.out,HIF.out⟩,HBF.out⟩
  obtain ⟨y,b,o,hy,_,hym,hA7,q0⟩:=z8u hs7 hlt (zK hbel5);subst hA7;have hqi:(q:Int) < (L.length:Int):=by omega
  have HPU:=zh (zLg HRW.out (by omega) HRZ.out HI.out.1 y);have HI2:=zh (show IsNames (fun x=>x∈L.take (q+1)) (z7s R y) from by
   have h1:=zLf HI.out y;refine ⟨h1.1,fun x=>(h1.2 x).trans ?_⟩;show x=y\/x∈L.take q↔x∈L.take (q+1)
   rw [qLtx,hy,List.mem_append];simp [or_comm])
  have HPL:=zh (zJb R y);obtain ⟨A9,n9,c9,hv9⟩:=HRW.out.shape3;subst hv9;clear hy hym;go_wp2_with fail
  refine zcm HPU.out ?_;rintro e6 w6 ⟨v6,rfl,r6,g6,o6⟩;have HR6:=zh r6;have HO6:=zh (show ∀b,v6.ownBlock=some b->wr3.heap.size<=b from fun b hb=>by
   rcases o6 with o | ⟨z,o,hz⟩
   ·exact HOB.out b (o▸hb)
   ·obtain rfl:=zsi (o.symm.trans hb);exact qNtx hbel5.size hz)
  have HB6:=zh (Below.grown hbel5 g6 hbel5.size fun b hb=>HOB.out b hb);clear r6 g6 o6;go_wp2;go_roundw
  case rel=>exact ⟨q+1,_,by omega,by go_num,HR6,HO6,HI2,by have:=HPL.out;omega,HB6.out⟩
  case measure=>exact qMx
 obtain ⟨y,hy⟩:∃y,L[q]? =some y:=⟨_,qLgx hlt⟩;have HQ:=zh (show ∀r∈st.deposits.take 0,r.frm=y->r.to∈L from fun r hr=>by simp at hr);have HY:=zh hy;clear hy;go_wp2;go_loopw [5,11] (fun vo i wr=>∃(d:Nat) (L':List Nm),d<=st.deposits.length/\i= .int .i64 d/\q < L'.length/\Hid (L'[q]? =some y)/\Hid (Grow 9 1 z06 (fun _=>False) wr w1.heap.size vo L')/\Hid (Cl (z8n st.deposits) (z05 st c) L' q)/\Hid (∀r∈st.deposits.take d,r.frm=y->r.to∈L')/\Below w1.heap.size w1 wr) (fun _ i _=>st.deposits.length - (intOf i).toNat)
 case atStart=>exact ⟨0,L,by omega,by go_num,hlt,HY,HG,HCL,HQ,hbel⟩
 clear HQ HG HCL hbel hLL hlt hz1 B0 hq HY;obtain ⟨wr4,rfl⟩:∃q,q=wr:=⟨_,rfl⟩;obtain ⟨d,L',hd,rfl,hqL,HY,HG,HCL,HQ,hbel⟩:=hrel;have B0:=zh (zB HB1.out hbel);have hLL:L'.length<=1080:=by have:=HCL.out.len;rw [zJ4] at this;omega
 have hz1:=hbel.size;have s2:=(B0.out.cell (p:=⟨w.heap.size,2,none⟩) qw0).trans (HC0.out 2 _ rfl);obtain ⟨A7,c7,hv7,hl7,hc7,hn7,hs7⟩:=Own.sl ZT HG.out;subst hv7;unfold maxLen at hc7;by_cases hld:d < st.deposits.length
 rotate_left
 ·obtain rfl:d=st.deposits.length:=by omega
  have HN:=zh (HCL.out.next HY.out fun z hz=>by
   obtain ⟨p,hp,e1,e2⟩:=z9p.1 hz;subst e2;exact HQ.out p (by rw [qLnx];exact hp) e1)
  go_wp2;go_roundw
  case rel=>exact ⟨q+1,L',by omega,by go_num,HG,HN,hbel⟩
  case measure=>exact qMx
 obtain ⟨p,hp⟩:∃p,st.deposits[d]? =some p:=⟨_,qLgx hld⟩;obtain ⟨b,o,ys,hA,hbl,hRp,hcz⟩:=SlAt.elem st_deposits_s hp (by decide) (zB HB0.out B0.out);obtain ⟨y',by_,oy,hy',_,_,hA7,q0⟩:=z8u hs7 hqL (Kept.refl wr4 fun _ h=>h);obtain rfl:y=y':=zsi (HY.out.symm.trans hy');obtain ⟨rfl,p_frm_le,p_to_le⟩:=z7x hRp;have u0:=hcz 0 _ rfl;have u1:=hcz 1 _ rfl;rw [Nat.add_zero] at u0;subst hA;subst hA7;have hdi:(d:Int) < (st.deposits.length:Int):=by omega
 have hqi:(q:Int) < (L'.length:Int):=by omega
 have HPL:=zh p_to_le;have HP:=zh hp;have HSL:=zh (Own.sl ZT HG.out);clear hp hy' hcz;by_cases hfr:p.frm=y
 rotate_left
 ·have hse:(p.frm.toList==y.toList)=false:=z03 hfr;have HQ2:=zh (zAy HP.out (P:=fun x=>x∈L') HQ.out fun e=>absurd e hfr);clear hfr;go_wp2_with fail
  go_quiet (fail)
  go_wp2;go_roundw
  case rel=>exact ⟨d+1,L',by omega,by go_num,hqL,HY,(HG.out.below ZT (ZN zbr _)),HCL,HQ2,ZN hbel _⟩
  case measure=>exact qMx
 have hse:(p.frm.toList==y.toList)=true:=by rw [hfr];simp
 have HCN:=zh (fun nq=>zE7 L' _ p.to (wr4.drewN nq) _ (HSL.out.keep ZT (by decide) (zK (ZN zbr nq))));have HFR:=zh hfr;clear hfr
 cases hmem:z96 L' p.to with
 | true=>
  have HQ2:=zh (zAy HP.out (P:=fun x=>x∈L') HQ.out fun _=>z0v.1 hmem);rw [hmem] at HCN;clear hmem;go_wp2_with fail
  go_quiet ((go_at_call 49;refine Calls.quiet_of_same (HCN.out _)))
  go_wp2;go_roundw
  case rel=>exact ⟨d+1,L',by omega,by go_num,hqL,HY,(HG.out.below ZT (ZN zbr _)),HCL,HQ2,ZN hbel _⟩
  case measure=>exact qMx
 | false=>
  have HNM:=zh (show p.to∉L' from fun hm=>by rw [z0v.2 hm] at hmem;cases hmem);have HED:=zh (show (y,p.to)∈z8n st.deposits from z9p.2 ⟨p,zmg HP.out,HFR.out,rfl⟩);rw [hmem] at HCN;clear hmem;go_wp2_with fail
  go_quiet ((go_at_call 49;refine Calls.quiet_of_same (HCN.out _)))
  generalize hw7:wr4.drewN nq=w7;have B67:Below wr4.heap.size wr4 w7:=by rw [<-hw7];exact ZN zbr _
  have HG7:=zh (HG.out.below ZT B67);have u1':=(B67.cell (p:=⟨b,o+d*2+1,none⟩) (zF u1)).trans u1;have s2':=(B67.cell (p:=⟨w.heap.size,2,none⟩) (zF s2)).trans s2;have HB7:=zh (zB hbel B67);have hz7:w1.heap.size<=w7.heap.size:=HB7.out.size;clear hw7 B67 u0 u1 s2 q0;go_wp2_with (at_builtin;go_loud (refine yZ (R:=z06) _ _ rfl (.tmp 85) (.tmp 92) 45 rfl 9 istring _ 1 16 Tryz.underlying45 histring hzstring h1string h2string rfl (by decide) ZT w1.heap.size hz7 _ _ rfl HG7.out _ _ rfl (by simp only [zS]) _ (by intro b hb;exact hb.elim) ⟨rfl,HPL.out⟩ (by omega) (by decide) ?_);intro v8 w8 g8 gg8 go8;obtain ⟨A8,n8,c8,rfl,hn8⟩:=g8.shape';have G8:=zh g8;have GG8:=zh gg8;clear hn8 g8 gg8 go8)
  go_roundw
  case rel=>exact ⟨d+1,L'++[p.to],by omega,by go_num,by rw [qLax];omega,(zh (by rw [qLlx hqL];exact HY.out)),G8,(zh (HCL.out.add (zmg HY.out) HED.out HNM.out (by omega))),(zh (zAy HP.out (P:=fun x=>x∈L'++[p.to]) (fun r hr e=>List.mem_append_left _ (HQ.out r hr e)) fun _=>List.mem_append_right _ (by simp))),Below.grown HB7.out GG8.out hz7 fun b hb=>(HG7.out.base_le b hb).1⟩
  case measure=>exact qMx
end Go.Proofs.YtdggplhnfhcieaaGreatDoor
