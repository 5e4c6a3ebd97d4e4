/- No condition. -/
import Derived.Deep.CutRange
import Derived.Test.YtdggplhnfhcieaaGreatDoorX22
set_option linter.all false
set_option maxRecDepth 100000
namespace Go.Proofs.YtdggplhnfhcieaaGreatDoor
open Go.RowKit Go.Deep
theorem zBg {α:Type} {e T:TypeId} {sz:Nat} {R:Rp α} {B:Nat->Prop} {w:World} {base:Nat} {v:Value} {l:List α} (h:Grow e sz R B w base v l) {g:Nat} {cs:Array Value} (hg:w.heap[g]? =some (.cells cs T (0,0))) (ht:T≠e):v.ownBlock≠some g:=by
 obtain ⟨_,_,_,⟨_,hown⟩,_⟩:=h;intro e1;rcases hown with ⟨rfl,_⟩ | ⟨g',cap,cur,rfl,_,h2,_⟩
 ·cases e1
 obtain rfl:g'=g:=zsi e1;rw [hg] at h2;cases h2
 exact ht rfl
def zBh (l:List Wrap) (s:Nm) (b:Bool):Prop:=b=true↔s∉l.map Wrap.name
theorem zN9 {f:Folder} (h:f.epochs.length<=140737488355328) {e:Int} (he:I64 e):I64 (yC f.epochs e):=by
 by_cases h1:1<=e/\e<=f.epochs.length
 ·have:=zA3 h1.1 h1.2;have h2:=he;unfold I64 at h2⊢;omega
 rw [z5t h1];exact he
def z37 (st:State) (X:List At) (y:At):Bool:=match zP st y.name with
 | none=>false
 | some g=>decide (2<=y.seq) && decide (y.seq<=g.epochs.length) && !z9v X y.name (y.seq - 1)
def ED (st:State) (X:List At) (y:At):Prop:=∀f∈ZE Folder.name st.folders,∀b,(y,b)∈z7t f->b∈X
def LD (st:State) (X:List At) (y:At) (k:Nat):Prop:=∀(k':Nat) f b,k' < k->st.folders[k']? =some f->z00 st f.name=(k':Int)->(y,b)∈z7u f->b∈X
def MD (f:Folder) (X:List At) (y:At) (m:Nat):Prop:=∀x∈f.links.take m,x.to=y.name->x.seq=y.seq->(⟨f.name,x.epoch⟩:At)∈X
theorem zNa {st:State} {X:List At} {y:At} (h:z37 st X y=false):ED st X y:=fun f hf b hb=>by
 obtain ⟨h1,h2,h3,rfl⟩:=z5x.1 hb;have hF:zP st y.name=some f:=by rw [h1];exact (z4z Folder.name st.folders f.name f).2 ⟨hf,rfl⟩
 unfold z37 at h;rw [hF] at h;simp only [decide_eq_true h2,decide_eq_true h3,Bool.true_and,Bool.not_eq_false'] at h;rw [<-h1];exact z4q.1 h
theorem zPu {st:State} {X:List At} {y:At} (h:z37 st X y=true):(y,(⟨y.name,y.seq - 1⟩:At))∈z1u st/\(⟨y.name,y.seq - 1⟩:At)∉X/\2<=y.seq/\∃g∈st.folders,y.seq<=g.epochs.length:=by
 unfold z37 at h
 cases hF:zP st y.name with
 | none=>rw [hF] at h;cases h
 | some g=>
  rw [hF] at h;simp only [qBqx,decide_eq_true_eq,Bool.not_eq_true'] at h;obtain ⟨⟨h1,h2⟩,h3⟩:=h;have hn:=YM hF;refine ⟨z40.2 ⟨g,((z4z Folder.name st.folders y.name g).1 hF).1,.inl (z5x.2 ⟨hn.symm,h1,h2,by rw [hn]⟩)⟩,fun hm=>?_,h1,g,z08 hF,h2⟩;rw [z4q.2 hm] at h3;cases h3
theorem ED.after {st:State} {X:List At} {y:At} (he:(y,(⟨y.name,y.seq - 1⟩:At))∈z1u st):ED st (X++[⟨y.name,y.seq - 1⟩]) y:=fun f hf b hb=>by
 obtain ⟨h1,_,_,rfl⟩:=z5x.1 hb;rw [<-h1];exact List.mem_append_right _ (by simp)
theorem ED.more {st:State} {X:List At} {y z:At} (h:ED st X y):ED st (X++[z]) y:=fun f hf b hb=>List.mem_append_left _ (h f hf b hb)
theorem LD.more {st:State} {X:List At} {y z:At} {k:Nat} (h:LD st X y k):LD st (X++[z]) y k:=fun k' f b h1 h2 h3 h4=>List.mem_append_left _ (h k' f b h1 h2 h3 h4)
theorem LD.zero {st:State} {X:List At} {y:At}:LD st X y 0:=fun k' f b h1=>by omega
theorem LD.skip {st:State} {X:List At} {y:At} {k:Nat} {f:Folder} (h:LD st X y k) (hf:st.folders[k]? =some f) (hn:z00 st f.name≠(k:Int)):LD st X y (k+1):=fun k' g b h1 h2 h3 h4=>by
 rcases Nat.lt_or_ge k' k with h5 | h5
 ·exact h k' g b h5 h2 h3 h4
 ·obtain rfl:k'=k:=by omega
  obtain rfl:=zsi (h2.symm.trans hf);exact absurd h3 hn
theorem LD.next {st:State} {X:List At} {y:At} {k:Nat} {f:Folder} (h:LD st X y k) (hf:st.folders[k]? =some f) (hm:MD f X y f.links.length):LD st X y (k+1):=fun k' g b h1 h2 h3 h4=>by
 rcases Nat.lt_or_ge k' k with h5 | h5
 ·exact h k' g b h5 h2 h3 h4
 ·obtain rfl:k'=k:=by omega
  obtain rfl:=zsi (h2.symm.trans hf);obtain ⟨x,hx,e1,e2,rfl⟩:=z5y.1 h4;exact hm x (by rw [qLnx];exact hx) e1 e2
theorem MD.zero {f:Folder} {X:List At} {y:At}:MD f X y 0:=fun x hx=>by simp at hx
theorem MD.step {f:Folder} {X X':List At} {y:At} {m:Nat} {x:Link} (h:MD f X y m) (hx:f.links[m]? =some x) (hX:∀z∈X,z∈X') (hk:x.to=y.name->x.seq=y.seq->(⟨f.name,x.epoch⟩:At)∈X'):MD f X' y (m+1):=fun z hz e1 e2=>by
 rw [qLtx,hx] at hz;rcases zmb hz with hz | hz
 ·exact hX _ (h z hz e1 e2)
 ·obtain rfl:z=x:=by simpa using hz
  exact hk e1 e2
theorem zJd {st:State} {X:List At} {y:At} (h1:ED st X y) (h2:LD st X y st.folders.length):∀z,(y,z)∈z1u st->z∈X:=fun z hz=>by
 obtain ⟨f,hf,h | h⟩:=z40.1 hz
 ·exact h1 f hf z h
 ·obtain ⟨k,hk,ha⟩:=z7v.1 hf;exact h2 k f z (zge hk).1 hk ha h
theorem zKp {P:Program} {ops:Array Oper} {Q:Exit->Act->World->Prop} {id:Nat} {a:Act} {w:World} (hm:P.follows .mixedOrders=true)
  (h:wpAny P .any ops Q ops.size (Array.replicate ops.size false) a w.drew):(Code.region id ops true).wp P Q a w:=wp_region_any hm h
set_option maxHeartbeats 16000000 in
theorem zNb (st:State) (hsm:Small st) (u:Nm) (hu:u.size<=1000) (cs:List Value) (w:World) (S:Nat->Prop) (h:yB S w cs st):Calls Tryz.prog 50 #[.agg cs.toArray,.string u] w fun e w'=>(∃(v:Value) (L:List At),e= .returned v/\Sl 2 rAt (fun _=>True) w' v L/\(∀s n,(⟨s,n⟩:At)∈L↔z2w st u s n)/\L.length<=2400)/\Below w.heap.size w w':=by
 have HR:=zh (Z0 h (show Kept S (fun z=>z < w.heap.size) w w from fun b _ hl=>⟨hl,rfl⟩));have HSM:=zh hsm;have HUL:=zh hu;clear hsm hu;replace h:=HR.out;obtain ⟨st_A1,st_c1,st_A2,st_c2,st_A3,st_c3,rfl,st_turn_ok,st_users_l,st_users_m,st_users_n,st_users_s,st_deposits_l,st_deposits_m,st_deposits_n,st_deposits_s,st_folders_l,st_folders_m,st_folders_n,st_folders_s⟩:=ZP h;obtain ⟨w0,hw0,cw0,fw0,Bw0,qw0⟩:=zQ w #[.int .i64 st.turn,.slice st_A1 st.users.length st_c1,.slice st_A2 st.deposits.length st_c2,.slice st_A3 st.folders.length st_c3] 34;have HB0:=zh Bw0;have HC0:=zh cw0;have HST:=zh fun W (hW:Below w0.heap.size w0 W)=>Z0 HR.out (zK (zB HB0.out hW))
 have s0:=cw0 0 _ rfl;have s1:=cw0 1 _ rfl;have s2:=cw0 2 _ rfl;have s3:=cw0 3 _ rfl;clear cw0 fw0 Bw0 st_users_s st_deposits_s;obtain ⟨iAt,hiAt,hzAt,h1At,h2At⟩:=info_parts (show (Tryz.prog.info? 124).map (fun i=>(i.zero,i.size,i.bytes))=some (some (.agg #[.string ⟨#[]⟩,.int .i64 0]),2,24) from by kernel_rfl);go_enter Tryz.func50,Tryz.ntmps50
 go_wp2_with fail
 clear hw0 s0 s1 s2 s3;refine zcm (zKl st HSM.out u HUL.out _ w0 _ (HST.out _ zbr)) ?_;rintro e w1 ⟨⟨v1,L,rfl,hs1,hL,hLl⟩,b1⟩;have HSL:=zh hs1;have HL:=zh hL;have HB1:=zh b1;have HF8:=zh HSM.out.few8;clear hs1 hL hLl b1;go_wp2;go_loopw [6,7] (fun vo i wr=>∃(k:Nat),k<=st.folders.length/\i= .int .i64 k/\Hid (Grow 124 2 rAt (fun _=>False) wr w1.heap.size vo (YU L (st.folders.take k)))/\Below w1.heap.size w1 wr) (fun _ i _=>st.folders.length - (intOf i).toNat)
 case atStart=>exact ⟨0,by omega,by go_num,Grow.nil,Below.refl _ _⟩
 obtain ⟨k,hk,rfl,HG,hbel⟩:=hrel;have B0:=zh (zB HB1.out hbel);obtain ⟨A2,n2,c2,rfl,hn2⟩:=HG.out.shape';clear hn2;have hz1:=hbel.size;by_cases hlt:k < st.folders.length
 ·obtain ⟨f,hf⟩:∃f,st.folders[k]? =some f:=⟨_,qLgx hlt⟩;obtain ⟨bf,of,yf,hAf,hbf,hRf,hcf⟩:=SlAt.elem st_folders_s hf (by decide) (zB HB0.out B0.out);have HF:=zh hf;have HFM:=zh (zmg hf);have HFR:=zh hRf;obtain ⟨f_A2,f_c2,f_A3,f_c3,f_A4,f_c4,f_A5,f_c5,f_A6,f_c6,rfl,f_name_le,f_turn_ok,f_manifests_l,f_manifests_m,f_manifests_n,f_manifests_s,f_epochs_l,f_epochs_m,f_epochs_n,f_epochs_s,f_items_l,f_items_m,f_items_n,f_items_s,f_wraps_l,f_wraps_m,f_wraps_n,f_wraps_s,f_links_l,f_links_m,f_links_n,f_links_s⟩:=Z2 hRf;have g0:=hcf 0 _ rfl;have g1:=hcf 1 _ rfl;have g2:=hcf 2 _ rfl;have g3:=hcf 3 _ rfl;have g4:=hcf 4 _ rfl;have g5:=hcf 5 _ rfl;have g6:=hcf 6 _ rfl;rw [Nat.add_zero] at g0;subst hAf;have s0:=(B0.out.cell (p:=⟨w.heap.size,0,none⟩) qw0).trans (HC0.out 0 _ rfl);have s1:=(B0.out.cell (p:=⟨w.heap.size,1,none⟩) qw0).trans (HC0.out 1 _ rfl);have s2:=(B0.out.cell (p:=⟨w.heap.size,2,none⟩) qw0).trans (HC0.out 2 _ rfl);have s3:=(B0.out.cell (p:=⟨w.heap.size,3,none⟩) qw0).trans (HC0.out 3 _ rfl);obtain ⟨w2,hw2,cw2,fw2,Bw2,qw2⟩:=zQ wr #[.string f.name,.int .i64 f.turn,.slice f_A2 f.manifests.length f_c2,.slice f_A3 f.epochs.length f_c3,.slice f_A4 f.items.length f_c4,.slice f_A5 f.wraps.length f_c5,.slice f_A6 f.links.length f_c6] 74;have H8:=zh (zbx hw2);have HB2:=zh (zB hbel Bw2);have HG2:=zh (HG.out.below Z1 Bw2);have t0:=cw2 0 _ rfl;have s0':=(Bw2.cell (p:=⟨w.heap.size,0,none⟩) (zF s0)).trans s0;have s1':=(Bw2.cell (p:=⟨w.heap.size,1,none⟩) (zF s1)).trans s1;have s2':=(Bw2.cell (p:=⟨w.heap.size,2,none⟩) (zF s2)).trans s2;have s3':=(Bw2.cell (p:=⟨w.heap.size,3,none⟩) (zF s3)).trans s3;have hki:(k:Int) < (st.folders.length:Int):=by omega
  clear hf hcf cw2 fw2 Bw2 f_manifests_s f_epochs_s f_items_s f_links_s;go_wp2_with fail
  clear hw2 s0 s1 s2 s3 s0' s1' s2' s3' g0 g1 g2 g3 g4 g5 g6 t0;refine zcm (z1l st f.name _ w2 _ (HST.out _ (zB HB1.out HB2.out))) ?_;rintro e3 w3 ⟨rfl,b3⟩;have HB3:=zh (zB HB2.out b3);have HG3:=zh (HG2.out.below Z1 b3);have H83:=zh ((b3.block _ (zO H8.out)).trans H8.out);have hz3:w1.heap.size<=w3.heap.size:=HB3.out.size;clear b3;by_cases hat:z00 st f.name=(k:Int)
  rotate_left
  ·have hne:(z00 st f.name==(k:Int))=false:=beq_eq_false_iff_ne.2 hat;have HST2:=zh (zKn (S:=L) HF.out hat);obtain ⟨z,hz⟩:∃z,z00 st f.name=z:=⟨_,rfl⟩;rw [hz] at hne⊢;clear hat hz;have HG4:=zh (show Grow 124 2 rAt (fun _=>False) w3 w1.heap.size (.slice A2 n2 c2) (YU L (st.folders.take (k+1))) by rw [HST2.out];exact HG3.out);go_wp2;go_roundw
   case rel=>exact ⟨k+1,by omega,by go_num,HG4,HB3.out⟩
   case measure=>exact qMx
  rw [hat];have HST2:=zh (zKm (S:=L) HF.out hat);clear hat hlt;go_wp2;go_loopw [6,9] (fun vo i wr2=>∃(j:Nat),j<=f.wraps.length/\i= .int .i64 j/\Hid (Grow 124 2 rAt (fun _=>False) wr2 w1.heap.size vo (YU L (st.folders.take k)++z2m L f (f.wraps.take j)))/\Hid (wr2.heap[wr.heap.size]? =some (.cells #[.string f.name,.int .i64 f.turn,.slice f_A2 f.manifests.length f_c2,.slice f_A3 f.epochs.length f_c3,.slice f_A4 f.items.length f_c4,.slice f_A5 f.wraps.length f_c5,.slice f_A6 f.links.length f_c6] 74 (0,0)))/\Below w1.heap.size w1 wr2) (fun _ i _=>f.wraps.length - (intOf i).toNat)
  case atStart=>exact ⟨0,by omega,by go_num,(zh (by simpa [z2m,ZE] using HG3.out)),H83,HB3.out⟩
  clear HG HG2 HG3 H83 HB2 HB3 hz1 hz3 hbel;obtain ⟨wr2,rfl⟩:∃q,q=wr:=⟨_,rfl⟩;obtain ⟨j,hj,rfl,HG,H8,hbel⟩:=hrel;have hz1:=hbel.size;obtain ⟨A3,n3,c3,rfl,hn3⟩:=HG.out.shape';clear hn3;obtain ⟨p8,f8⟩:=zD H8.out;have t0:=p8 0 _ rfl;have t1:=p8 1 _ rfl;have t2:=p8 2 _ rfl;have t3:=p8 3 _ rfl;have t4:=p8 4 _ rfl;have t5:=p8 5 _ rfl;have t6:=p8 6 _ rfl;clear p8;by_cases hlj:j < f.wraps.length
  rotate_left
  ·obtain rfl:j=f.wraps.length:=by omega
   have HGE:=zh (show Grow 124 2 rAt (fun _=>False) wr2 w1.heap.size (.slice A3 n3 c3) (YU L (st.folders.take (k+1))) by rw [HST2.out];have:=HG.out;rwa [qLnx] at this);clear HG;go_wp2;go_roundw
   case rel=>exact ⟨k+1,by omega,by go_num,HGE,hbel⟩
   case measure=>exact qMx
  as_aux_lemma=>
   obtain ⟨x,hx⟩:∃x,f.wraps[j]? =some x:=⟨_,qLgx hlj⟩;obtain ⟨A9,c9,hv9,_,_,_,f_wraps_s'⟩:Sl 3 YC _ w (.slice f_A5 f.wraps.length f_c5) f.wraps:=⟨_,_,rfl,f_wraps_l,f_wraps_m,f_wraps_n,f_wraps_s⟩;cases hv9
   obtain ⟨bx,ox,yx,hAx,hbx,hRx,hcx⟩:=SlAt.elem f_wraps_s' hx (by decide) (zB HB0.out (zB HB1.out hbel));have HX:=zh hx;obtain ⟨rfl,x_name_le,x_epoch_ok⟩:=z3i hRx;have u0:=hcx 0 _ rfl;have u1:=hcx 1 _ rfl;have u2:=hcx 2 _ rfl;rw [Nat.add_zero] at u0;subst hAx;obtain ⟨sd,hsd⟩:∃sd,x.seed=sd:=⟨_,rfl⟩;rw [hsd] at u2;have HSD:=zh hsd;have hji:(j:Int) < (f.wraps.length:Int):=by omega
   obtain ⟨w9,hw9,cw9,fw9,Bw9,qw9⟩:=zQ wr2 #[.string x.name,.int .i64 x.epoch,.bool sd] 149;have HC9:=zh cw9;have HQ9:=zh qw9;have HG9:=zh (HG.out.below Z1 Bw9);have HB9:=zh (zB hbel Bw9);have H89:=zh ((Bw9.block _ (zO H8.out)).trans H8.out);have hz9:w1.heap.size<=w9.heap.size:=HB9.out.size;have HF0:=zh (show zBh (f.wraps.take 0) x.name true from by simp [zBh]);clear hx hcx cw9 fw9 Bw9 hsd hlj;go_wp2;clear hw9 u0 u1 u2 t0 t1 t2 t3 t4 t5 t6;go_loopw [11,12] (fun vb vi wr4=>∃(m:Nat) (fb:Bool),m<=j/\vi= .int .i64 m/\vb= .bool fb/\Hid (zBh (f.wraps.take m) x.name fb)/\Below w9.heap.size w9 wr4) (fun _ i _=>j - (intOf i).toNat)
   case atStart=>exact ⟨0,true,by omega,by go_num,rfl,HF0,Below.refl _ _⟩
   obtain ⟨wr3,rfl⟩:∃q,q=wr:=⟨_,rfl⟩;obtain ⟨m,fb,hm,rfl,rfl,HFB,hbel4⟩:=hrel;have H84:=zh ((hbel4.block _ (zO H89.out)).trans H89.out);obtain ⟨p8,f8⟩:=zD H84.out;have t0:=p8 0 _ rfl;have t5:=p8 5 _ rfl;have x0:=(hbel4.cell (p:=⟨wr2.heap.size,0,none⟩) HQ9.out).trans (HC9.out 0 _ rfl);have x1:=(hbel4.cell (p:=⟨wr2.heap.size,1,none⟩) HQ9.out).trans (HC9.out 1 _ rfl);have x2:=(hbel4.cell (p:=⟨wr2.heap.size,2,none⟩) HQ9.out).trans (HC9.out 2 _ rfl);by_cases hlm:m < j
   ·obtain ⟨y,hy⟩:∃y,f.wraps[m]? =some y:=⟨_,qLgx (by omega)⟩;have HTK:=zh (show (f.wraps.take (m+1)).map Wrap.name=(f.wraps.take m).map Wrap.name++[y.name] by rw [qLtx,hy,List.map_append];rfl);obtain ⟨by',oy,yy,hAy,hby,hRy,hcy⟩:=SlAt.elem f_wraps_s' hy (by decide) (zB HB0.out (zB HB1.out (zB HB9.out hbel4)));obtain ⟨rfl,y_name_le,y_epoch_ok⟩:=z3i hRy;have v0:=hcy 0 _ rfl;rw [Nat.add_zero] at v0;cases hAy
    have hmi:(m:Int) < (j:Int):=by omega
    have hml:(m:Int) < (f.wraps.length:Int):=by omega
    clear hy hcy p8 x1 x2
    cases fb with
    | false=>
     have HFB2:=zh (show zBh (f.wraps.take (m+1)) x.name false by
      refine ⟨fun h=>(by cases h),fun h=>absurd (HFB.out.2 fun h2=>h ?_) (by decide)⟩;rw [HTK.out];exact List.mem_append_left _ h2)
     go_wp2_with fail
     go_quiet (fail)
     go_wp2;go_roundw
     case rel=>exact ⟨m+1,false,by omega,by go_num,rfl,HFB2,ZN hbel4 _⟩
     case measure=>exact qMx
    | true=>
     by_cases hyx:y.name=x.name
     ·have hse:(y.name.toList==x.name.toList)=true:=by rw [hyx];simp
      have HFB2:=zh (show zBh (f.wraps.take (m+1)) x.name false by
       refine ⟨fun h=>(by cases h),fun h=>absurd ?_ h⟩;rw [HTK.out];exact List.mem_append_right _ (by rw [hyx];simp))
      clear hyx;go_wp2_with fail
      go_quiet (fail)
      go_wp2;go_roundw
      case rel=>exact ⟨m+1,false,by omega,by go_num,rfl,HFB2,ZN hbel4 _⟩
      case measure=>exact qMx
     have hse:(y.name.toList==x.name.toList)=false:=z03 hyx;have HFB2:=zh (show zBh (f.wraps.take (m+1)) x.name true by
      refine ⟨fun _ h=>?_,fun _=>rfl⟩;rw [HTK.out] at h;rcases zmb h with h | h
      ·exact HFB.out.1 rfl h
      ·exact hyx (zml h).symm)
     clear hyx;go_wp2_with fail
     go_quiet (fail)
     go_wp2;go_roundw
     case rel=>exact ⟨m+1,true,by omega,by go_num,rfl,HFB2,ZN hbel4 _⟩
     case measure=>exact qMx
   obtain rfl:m=j:=by omega
   have hLL:(YU L (st.folders.take k)++z2m L f (f.wraps.take m)).length<=2000:=by
    have h1:=zF8 HSM.out L (st.folders.take k) (List.take_sublist _ _);have h2:=zF7 L f (f.wraps.take m);have h3:=z64 f.wraps m;have h4:=(z56 HSM.out HFM.out).1;rw [qLax];omega
   have HFN:=zh (show f.epochs.length<=140737488355328 from by have:=(z56 HSM.out HFM.out).2.1;omega);clear p8
   cases fb with
   | false=>
    have HSK:=zh (zD4 (S:=L) (f:=f) HX.out (.inl (Decidable.not_not.1 fun h=>absurd (HFB.out.2 h) (by decide))));clear HFB;go_wp2;go_roundw
    case rel=>exact ⟨m+1,by omega,by go_num,(zh (by rw [HSK.out];exact HG9.out.below Z1 hbel4)),(hbel4.block _ (zO H89.out)).trans H89.out,zB HB9.out hbel4⟩
    case measure=>exact qMx
   | true=>
    have HCN:=zh (zE7 L _ x.name wr3 _ (HSL.out.keep ZT (by decide) (zK (zB HB9.out hbel4))))
    cases hmem:z96 L x.name with
    | false=>
     have HNM:=zh (show x.name∉L from fun hm=>by rw [z0v.2 hm] at hmem;cases hmem);rw [hmem] at HCN;clear hmem;have HSK:=zh (zD4 (S:=L) (f:=f) HX.out (.inr HNM.out));clear HFB HNM;go_wp2_with fail
     refine zcm HCN.out ?_;rintro e7 w7 ⟨rfl,hw7⟩;subst hw7;go_wp2;go_roundw
     case rel=>exact ⟨m+1,by omega,by go_num,(zh (by rw [HSK.out];exact HG9.out.below Z1 hbel4)),(hbel4.block _ (zO H89.out)).trans H89.out,zB HB9.out hbel4⟩
     case measure=>exact qMx
    | true=>
     have HSTW:=zh (zKo (f:=f) HX.out (HFB.out.1 rfl) (z0v.1 hmem));rw [hmem] at HCN;clear hmem HFB;go_wp2_with fail
     refine zcm HCN.out ?_;rintro e7 w7 ⟨rfl,hw7⟩;subst hw7;have B67:Below w9.heap.size w9 w7:=hbel4;have HG7:=zh (HG9.out.below Z1 B67);have HB7:=zh (zB HB9.out B67);have H87:=zh ((B67.block _ (zO H89.out)).trans H89.out);have hz7:w1.heap.size<=w7.heap.size:=HB7.out.size;have x1':=(B67.cell (p:=⟨wr2.heap.size,1,none⟩) HQ9.out).trans (HC9.out 1 _ rfl);have x2':=(B67.cell (p:=⟨wr2.heap.size,2,none⟩) HQ9.out).trans (HC9.out 2 _ rfl);clear B67 x0 x1 x2 t0 t5 f8;obtain ⟨p8,f8⟩:=zD H87.out;have t0:=p8 0 _ rfl;have t1:=p8 1 _ rfl;have t2:=p8 2 _ rfl;have t3:=p8 3 _ rfl;have t4:=p8 4 _ rfl;have t5:=p8 5 _ rfl;have t6:=p8 6 _ rfl;clear p8
     cases sd with
     | false=>
      have HWE:=zh (show yR f.epochs x=x.epoch from by rw [yR,HSD.out];rfl);have HI64:=zh x_epoch_ok;rw [HWE.out] at HSTW;have hzB:=hz7;go_wp2_with (at_builtin;go_loud (refine yZ (R:=rAt) _ _ rfl (.tmp 84) (.tmp 89) 121 rfl 124 iAt _ 2 24 Tryz.underlying121 hiAt hzAt h1At h2At rfl (by decide) Z1 w1.heap.size hzB _ _ rfl HG7.out _ _ rfl (by simp only [zS]) _ (by intro b hb;exact hb.elim) (show rAt _ _ _ (⟨f.name,x.epoch⟩:At) from ⟨rfl,f_name_le,HI64.out⟩) (by omega) (by decide) ?_);intro v16 w16 g16 gg16 go16;obtain ⟨A16,n16,c16,rfl,hn16⟩:=g16.shape';have G16:=zh g16;have GG16:=zh gg16;clear hn16 g16 gg16 go16)
      go_roundw
      case rel=>exact ⟨m+1,by omega,by go_num,(zh (by rw [HSTW.out,<-List.append_assoc];exact G16.out)),(GG16.out.block _ (zO H87.out) (fun e=>zBg HG7.out H87.out (by decide) e.symm)).trans H87.out,Below.grown HB7.out GG16.out hzB fun b hb=>(HG7.out.base_le b hb).1⟩
      case measure=>exact qMx
     | true=>
      have HWE:=zh (show yR f.epochs x=yC f.epochs x.epoch from by rw [yR,HSD.out];rfl);have HI64:=zh (zN9 HFN.out x_epoch_ok);rw [HWE.out] at HSTW;go_wp2_with fail
      clear t0 t1 t2 t3 t4 t5 t6 x1' x2' f8;refine zcm (zJr f x.epoch x_epoch_ok _ w7 _ (Z5 HFR.out (zK (zB HB0.out (zB HB1.out HB7.out))))) ?_;rintro e15 w15 ⟨rfl,b15⟩;have HG15:=zh (HG7.out.below Z1 b15);have HB15:=zh (zB HB7.out b15);have H815:=zh ((b15.block _ (zO H87.out)).trans H87.out);have hzB:w1.heap.size<=w15.heap.size:=HB15.out.size;clear b15;obtain ⟨p8,f8⟩:=zD H815.out;have t0:=p8 0 _ rfl;clear p8;obtain ⟨tq,hto⟩:∃tq,yC f.epochs x.epoch=tq:=⟨_,rfl⟩;rw [hto] at HSTW HI64⊢;clear hto HWE;go_wp2_with (at_builtin;go_loud (refine yZ (R:=rAt) _ _ rfl (.tmp 84) (.tmp 89) 121 rfl 124 iAt _ 2 24 Tryz.underlying121 hiAt hzAt h1At h2At rfl (by decide) Z1 w1.heap.size hzB _ _ rfl HG15.out _ _ rfl (by simp only [zS]) _ (by intro b hb;exact hb.elim) (show rAt _ _ _ (⟨f.name,tq⟩:At) from ⟨rfl,f_name_le,HI64.out⟩) (by omega) (by decide) ?_);intro v16 w16 g16 gg16 go16;obtain ⟨A16,n16,c16,rfl,hn16⟩:=g16.shape';have G16:=zh g16;have GG16:=zh gg16;clear hn16 g16 gg16 go16)
      go_roundw
      case rel=>exact ⟨m+1,by omega,by go_num,(zh (by rw [HSTW.out,<-List.append_assoc];exact G16.out)),(GG16.out.block _ (zO H815.out) (fun e=>zBg HG15.out H815.out (by decide) e.symm)).trans H815.out,Below.grown HB15.out GG16.out hzB fun b hb=>(HG15.out.base_le b hb).1⟩
      case measure=>exact qMx
 obtain rfl:k=st.folders.length:=by omega
 rw [qLnx] at HG;have hk8:st.folders.length<=64:=HF8.out;have hS80:(YU L st.folders).length<=1000:=zF8 HSM.out L st.folders (List.Sublist.refl _);have hE:(z1u st).length<=1000:=zN8 HSM.out;have HCL:=zh (Cl.start (z1u st) (YU L st.folders));have s3:=(B0.out.cell (p:=⟨w.heap.size,3,none⟩) qw0).trans (HC0.out 3 _ rfl);clear hlt hk B0 hz1;go_wp2;clear s3;go_loopw [6,14] (fun vo i wr=>∃(q:Nat) (X:List At),q<=X.length/\i= .int .i64 q/\Hid (Grow 124 2 rAt (fun _=>False) wr w1.heap.size vo X)/\Hid (Cl (z1u st) (YU L st.folders) X q)/\Below w1.heap.size w1 wr) (fun _ i _=>3000 - (intOf i).toNat)
 case atStart=>exact ⟨0,_,by omega,by go_num,HG,HCL,hbel⟩
 clear HG HCL hbel;obtain ⟨wr3,rfl⟩:∃q,q=wr:=⟨_,rfl⟩;obtain ⟨q,X,hq,rfl,HG,HCL,hbel⟩:=hrel;have B0:=zh (zB HB1.out hbel);have hXL:X.length<=2400:=by have:=HCL.out.len;omega
 have hz1:=hbel.size;obtain ⟨A7,c7,hv7,hl7,hc7,hn7,hs7⟩:=Own.sl Z1 HG.out;subst hv7;unfold maxLen at hc7;by_cases hlt:q < X.length
 rotate_left
 ·obtain rfl:q=X.length:=by omega
  have HALL:=zh (HCL.out.all (znl _));have HSLX:=zh (Own.sl Z1 HG.out);have HBF:=zh (zB HB0.out B0.out);have HIF:=zh (show ∀s n,(⟨s,n⟩:At)∈X↔z2w st u s n from fun s n=>(HALL.out _).trans (zPt HL.out s n));clear HG hs7;go_wp2;go_ret;exact ⟨⟨_,X,rfl,HSLX.out,HIF.out,hXL⟩,HBF.out⟩
 obtain ⟨y,hy⟩:∃y,X[q]? =some y:=⟨_,qLgx hlt⟩;obtain ⟨by_,oy,yy,hAy,hby,hRy,hcy⟩:=SlAt.elem hs7 hy (by decide) (Below.refl wr3.heap.size wr3);obtain ⟨rfl,y_name_le,y_seq_ok⟩:=z3b hRy;have y0:=hcy 0 _ rfl;have y1:=hcy 1 _ rfl;rw [Nat.add_zero] at y0;subst hAy;have HY:=zh hy;have hqi:(q:Int) < (X.length:Int):=by omega
 have s0:=(B0.out.cell (p:=⟨w.heap.size,0,none⟩) qw0).trans (HC0.out 0 _ rfl);have s1:=(B0.out.cell (p:=⟨w.heap.size,1,none⟩) qw0).trans (HC0.out 1 _ rfl);have s2:=(B0.out.cell (p:=⟨w.heap.size,2,none⟩) qw0).trans (HC0.out 2 _ rfl);have s3:=(B0.out.cell (p:=⟨w.heap.size,3,none⟩) qw0).trans (HC0.out 3 _ rfl);have HSQ:=zh (show ∀W:World,Below wr3.heap.size wr3 W->(fun W:World=>(W.cell? ⟨w.heap.size,0,none⟩=some (.int .i64 st.turn)/\W.cell? ⟨w.heap.size,1,none⟩=some (.slice st_A1 st.users.length st_c1)/\W.cell? ⟨w.heap.size,2,none⟩=some (.slice st_A2 st.deposits.length st_c2)/\W.cell? ⟨w.heap.size,3,none⟩=some (.slice st_A3 st.folders.length st_c3))/\W.cell? ⟨by_,oy+q*2,none⟩=some (.string y.name)) W from fun W hW=>by
  have q:=fun (b o:Nat) v (h:wr3.cell? ⟨b,o,none⟩=some v)=>(hW.cell (p:=⟨b,o,none⟩) (zF h)).trans h
  exact ⟨⟨q _ _ _ s0,q _ _ _ s1,q _ _ _ s2,q _ _ _ s3⟩,q _ _ _ y0⟩)
 have HY1:=zh y1;clear hy hcy s0 s1 s2 s3 y0 y1;go_wp2;have HS:=HSQ.out;refine wp_region_held_drew (S:=(fun W:World=>(W.cell? ⟨w.heap.size,0,none⟩=some (.int .i64 st.turn)/\W.cell? ⟨w.heap.size,1,none⟩=some (.slice st_A1 st.users.length st_c1)/\W.cell? ⟨w.heap.size,2,none⟩=some (.slice st_A2 st.deposits.length st_c2)/\W.cell? ⟨w.heap.size,3,none⟩=some (.slice st_A3 st.folders.length st_c3))/\W.cell? ⟨by_,oy+q*2,none⟩=some (.string y.name))) (by kernel_rfl) (HS _ zbr.drew) (fun hHeld=>?_);refine zi 0 ?_;iterate 6 (refine zt hHeld ?_;simp only [zA])
 refine zo ?_;refine zr 6 fun K hK=>?_
 go_simp;go_at_call 21
 refine zcm (z1l st y.name _ _ _ (HST.out _ (zB B0.out zbr.drew))) ?_;rintro e6 w6 ⟨rfl,b6⟩;have B6:Below wr3.heap.size wr3 w6:=zB zbr.drew b6;clear b6 hHeld;refine hK.out _ _ (HS _ B6) (fun hHeld=>?_);clear hK K;refine zT 7 hHeld ?_;simp only [zA];refine wpAnyH_done (by kernel_rfl) ?_ _;clear hHeld HS;have HB6:=zh B6;have HG6:=zh (HG.out.below Z1 B6);clear B6;obtain ⟨z,hz⟩:∃z,z00 st y.name=z:=⟨_,rfl⟩;rw [hz];have HZ:=zh hz;have HYM:=zh (zmg HY.out);have hzy:y.name.size<=140737488355328:=y_name_le;clear hz hlt;go_upto_region 26 with fail
 go_cut [144] from 91 to 224 (fun s wx=>s= .bool (z37 st X y)/\Below w6.heap.size w6 wx)
 case first=>
  as_aux_lemma=>
   have s3:=(HSQ.out _ HB6.out).1.2.2.2;have y0:=(HSQ.out _ HB6.out).2;have y1:=(HB6.out.cell (p:=⟨by_,oy+q*2+1,none⟩) (zF HY1.out)).trans HY1.out
   cases hF:zP st y.name with
   | none=>
    obtain rfl:z= -1:=HZ.out.symm.trans (z72 hF);have HNB:=zh (show z37 st X y=false by unfold z37;rw [hF]);clear hF;go_quiet (fail)
    go_wp2;go_meet
    case rel=>exact ⟨by rw [HNB.out],ZN zbr _⟩
   | some g=>
    obtain ⟨j,hj,hgj⟩:=z2y hF;obtain rfl:z=(j:Int):=HZ.out.symm.trans hj;have hjl:=(zge hgj).1;have hji:(j:Int) < (st.folders.length:Int):=by omega
    have hkd:decide ((0:Int)<=(j:Int))=true:=decide_eq_true (by omega);obtain ⟨bg,og,yg,hAg,hbg,hRg,hcg⟩:=SlAt.elem st_folders_s hgj (by decide) (zB HB0.out (zB B0.out HB6.out));obtain ⟨g_A2,g_c2,g_A3,g_c3,g_A4,g_c4,g_A5,g_c5,g_A6,g_c6,rfl,g_name_le,g_turn_ok,g_manifests_l,g_manifests_m,g_manifests_n,g_manifests_s,g_epochs_l,g_epochs_m,g_epochs_n,g_epochs_s,g_items_l,g_items_m,g_items_n,g_items_s,g_wraps_l,g_wraps_m,g_wraps_n,g_wraps_s,g_links_l,g_links_m,g_links_n,g_links_s⟩:=Z2 hRg;have g3:=hcg 3 _ rfl;subst hAg;have hgl:g.epochs.length<=1000:=(z56 HSM.out (zmg hgj)).2.1;have HGF:=zh hF;clear hcg hgj hF hj g_manifests_s g_epochs_s g_items_s g_wraps_s g_links_s;by_cases h2:2<=y.seq
    rotate_left
    ·have d2:decide ((2:Int)<=y.seq)=false:=decide_eq_false h2;have HNB:=zh (show z37 st X y=false by unfold z37;rw [HGF.out];simp only [d2];rfl);clear h2;go_quiet (fail)
     go_wp2;go_meet
     case rel=>exact ⟨by rw [HNB.out],ZN zbr _⟩
    have d2:decide ((2:Int)<=y.seq)=true:=decide_eq_true h2;by_cases h3:y.seq<=g.epochs.length
    rotate_left
    ·have d3:decide (y.seq<=(g.epochs.length:Int))=false:=decide_eq_false h3;have HNB:=zh (show z37 st X y=false by unfold z37;rw [HGF.out];simp only [d2,d3];rfl);clear h3;go_quiet (fail)
     go_wp2;go_meet
     case rel=>exact ⟨by rw [HNB.out],ZN zbr _⟩
    have d3:decide (y.seq<=(g.epochs.length:Int))=true:=decide_eq_true h3;have HSL6:=zh (Own.sl Z1 HG6.out);have HCN:=zh (fun nq=>zG1 X _ y.name (y.seq - 1) (w6.drewN nq) _ (HSL6.out.keep Z1 (by decide) (zK (ZN zbr nq))))
    cases hb:z9v X y.name (y.seq - 1) with
    | true=>
     have HNB:=zh (show z37 st X y=false by unfold z37;rw [HGF.out];simp [hb]);rw [hb] at HCN;clear hb;go_quiet ((go_at_call 84;refine Calls.quiet_of_same (HCN.out _)))
     go_wp2;go_meet
     case rel=>exact ⟨by rw [HNB.out],ZN zbr _⟩
    | false=>
     have HNB:=zh (show z37 st X y=true by unfold z37;rw [HGF.out];simp only [d2,d3,hb];rfl);rw [hb] at HCN;clear hb;go_quiet ((go_at_call 84;refine Calls.quiet_of_same (HCN.out _)))
     go_wp2;go_meet
     case rel=>exact ⟨by rw [HNB.out],ZN zbr _⟩
 obtain ⟨rfl,hcb⟩:=hcut;obtain ⟨wd,rfl⟩:∃wd:World,wd=wc:=⟨_,rfl⟩;have HGd:=zh (HG6.out.below Z1 hcb);have HBd:=zh (zB hbel (zB HB6.out hcb));clear hcb HSQ HB6 HG6 HG B0 hbel hz1 hs7
 cases hnb:z37 st X y with
 | false=>
  as_aux_lemma=>
   have HEX:=zh (zNa hnb);have HYX:=HY;have HGX:=HGd;have HCX:=HCL;have HBX:=HBd;have hqX:q < X.length:=by omega
   have sf:=((zB HB1.out HBd.out).cell (p:=⟨w.heap.size,3,none⟩) qw0).trans (HC0.out 3 _ rfl);clear hnb HGd HCL HBd HY hqi hXL hq;clear sf;go_wp2;go_loopw [6,16] (fun vo i wr=>∃(k:Nat) (X:List At),k<=st.folders.length/\i= .int .i64 k/\q < X.length/\Hid (X[q]? =some y)/\Hid (Grow 124 2 rAt (fun _=>False) wr w1.heap.size vo X)/\Hid (Cl (z1u st) (YU L st.folders) X q)/\Hid (ED st X y)/\Hid (LD st X y k)/\Below w1.heap.size w1 wr) (fun _ i _=>st.folders.length - (intOf i).toNat)
   case atStart=>exact ⟨0,_,by omega,by go_num,hqX,HYX,HGX,HCX,HEX,LD.zero,HBX.out⟩
   clear hqX HYX HGX HCX HEX HBX;obtain ⟨wr4,rfl⟩:∃q,q=wr:=⟨_,rfl⟩;obtain ⟨k,X2,hk,rfl,hqX,HYX,HGX,HCX,HEX,HLX,hbel2⟩:=hrel;obtain ⟨A11,n11,c11,rfl,hn11⟩:=HGX.out.shape';clear hn11;have B4:=zh (zB HB1.out hbel2);have hX2:X2.length<=2400:=by have:=HCX.out.len;omega
   have hz4:=hbel2.size;have s0:=(B4.out.cell (p:=⟨w.heap.size,0,none⟩) qw0).trans (HC0.out 0 _ rfl);have s1:=(B4.out.cell (p:=⟨w.heap.size,1,none⟩) qw0).trans (HC0.out 1 _ rfl);have s2:=(B4.out.cell (p:=⟨w.heap.size,2,none⟩) qw0).trans (HC0.out 2 _ rfl);have s3:=(B4.out.cell (p:=⟨w.heap.size,3,none⟩) qw0).trans (HC0.out 3 _ rfl);by_cases hlk:k < st.folders.length
   rotate_left
   ·obtain rfl:k=st.folders.length:=by omega
    have HN:=zh (HCX.out.next HYX.out (zJd HEX.out HLX.out));go_wp2;go_roundw
    case rel=>exact ⟨q+1,X2,by omega,by go_num,HGX,HN,hbel2⟩
    case measure=>exact qMx
   obtain ⟨f,hf⟩:∃f,st.folders[k]? =some f:=⟨_,qLgx hlk⟩;obtain ⟨bf,of,yf,hAf,hbf,hRf,hcf⟩:=SlAt.elem st_folders_s hf (by decide) (zB HB0.out B4.out);have HF:=zh hf;obtain ⟨f_A2,f_c2,f_A3,f_c3,f_A4,f_c4,f_A5,f_c5,f_A6,f_c6,rfl,f_name_le,f_turn_ok,f_manifests_l,f_manifests_m,f_manifests_n,f_manifests_s,f_epochs_l,f_epochs_m,f_epochs_n,f_epochs_s,f_items_l,f_items_m,f_items_n,f_items_s,f_wraps_l,f_wraps_m,f_wraps_n,f_wraps_s,f_links_l,f_links_m,f_links_n,f_links_s⟩:=Z2 hRf;have g0:=hcf 0 _ rfl;have g1:=hcf 1 _ rfl;have g2:=hcf 2 _ rfl;have g3:=hcf 3 _ rfl;have g4:=hcf 4 _ rfl;have g5:=hcf 5 _ rfl;have g6:=hcf 6 _ rfl;rw [Nat.add_zero] at g0;subst hAf;obtain ⟨w5,hw5,cw5,fw5,Bw5,qw5⟩:=zQ wr4 #[.string f.name,.int .i64 f.turn,.slice f_A2 f.manifests.length f_c2,.slice f_A3 f.epochs.length f_c3,.slice f_A4 f.items.length f_c4,.slice f_A5 f.wraps.length f_c5,.slice f_A6 f.links.length f_c6] 74;have H8:=zh (zbx hw5);have HB5:=zh (zB hbel2 Bw5);have HG5:=zh (HGX.out.below Z1 Bw5);have t0:=cw5 0 _ rfl;have s0':=(Bw5.cell (p:=⟨w.heap.size,0,none⟩) (zF s0)).trans s0;have s1':=(Bw5.cell (p:=⟨w.heap.size,1,none⟩) (zF s1)).trans s1;have s2':=(Bw5.cell (p:=⟨w.heap.size,2,none⟩) (zF s2)).trans s2;have s3':=(Bw5.cell (p:=⟨w.heap.size,3,none⟩) (zF s3)).trans s3;have hki:(k:Int) < (st.folders.length:Int):=by omega
   clear hf hcf cw5 fw5 Bw5 f_manifests_s f_epochs_s f_items_s f_wraps_s;go_wp2_with fail
   clear hw5 s0 s1 s2 s3 s0' s1' s2' s3' g0 g1 g2 g3 g4 g5 g6 t0;refine zcm (z1l st f.name _ w5 _ (HST.out _ (zB HB1.out HB5.out))) ?_;rintro e7 w7 ⟨rfl,b7⟩;have HB7:=zh (zB HB5.out b7);have HG7:=zh (HG5.out.below Z1 b7);have H87:=zh ((b7.block _ (zO H8.out)).trans H8.out);clear b7;by_cases hat:z00 st f.name=(k:Int)
   rotate_left
   ·have hne:(z00 st f.name==(k:Int))=false:=beq_eq_false_iff_ne.2 hat;have HL2:=zh (HLX.out.skip HF.out hat);obtain ⟨z2,hz2⟩:∃z,z00 st f.name=z:=⟨_,rfl⟩;rw [hz2] at hne⊢;clear hat hz2;go_wp2;go_roundw
    case rel=>exact ⟨k+1,X2,by omega,by go_num,hqX,HYX,HG7,HCX,HEX,HL2,HB7.out⟩
    case measure=>exact qMx
   rw [hat];have HAT:=zh hat;clear hat hlk hz4 hX2;go_wp2;go_loopw [6,18] (fun vo i wr=>∃(m:Nat) (X:List At),m<=f.links.length/\i= .int .i64 m/\q < X.length/\Hid (X[q]? =some y)/\Hid (Grow 124 2 rAt (fun _=>False) wr w1.heap.size vo X)/\Hid (Cl (z1u st) (YU L st.folders) X q)/\Hid (ED st X y)/\Hid (LD st X y k)/\Hid (MD f X y m)/\Hid (wr.heap[wr4.heap.size]? =some (.cells #[.string f.name,.int .i64 f.turn,.slice f_A2 f.manifests.length f_c2,.slice f_A3 f.epochs.length f_c3,.slice f_A4 f.items.length f_c4,.slice f_A5 f.wraps.length f_c5,.slice f_A6 f.links.length f_c6] 74 (0,0)))/\Below w1.heap.size w1 wr) (fun _ i _=>f.links.length - (intOf i).toNat)
   case atStart=>exact ⟨0,X2,by omega,by go_num,hqX,HYX,HG7,HCX,HEX,HLX,MD.zero,H87,HB7.out⟩
   clear hqX HYX HGX HCX HEX HLX HG5 HG7 H8 H87 HB5 HB7 hbel2 B4;obtain ⟨wr5,rfl⟩:∃q,q=wr:=⟨_,rfl⟩;obtain ⟨m,X3,hm,rfl,hqX,HYX,HGX,HCX,HEX,HLX,HMX,H8,hbel2⟩:=hrel;have hX3:X3.length<=2400:=by have:=HCX.out.len;omega
   have hz5:=hbel2.size;obtain ⟨A12,c12,hv12,hl12,hc12,hn12,hs12⟩:=Own.sl Z1 HGX.out;subst hv12;unfold maxLen at hc12;obtain ⟨p8,f8⟩:=zD H8.out;have t0:=p8 0 _ rfl;have t6:=p8 6 _ rfl;clear p8;by_cases hlm:m < f.links.length
   rotate_left
   ·obtain rfl:m=f.links.length:=by omega
    have HL2:=zh (HLX.out.next HF.out HMX.out);go_wp2;go_roundw
    case rel=>exact ⟨k+1,X3,by omega,by go_num,hqX,HYX,HGX,HCX,HEX,HL2,hbel2⟩
    case measure=>exact qMx
   obtain ⟨x,hx⟩:∃x,f.links[m]? =some x:=⟨_,qLgx hlm⟩;obtain ⟨bx,ox,yx,hAx,hbx,hRx,hcx⟩:=SlAt.elem f_links_s hx (by decide) (zB HB0.out (zB HB1.out hbel2));have HX:=zh hx;obtain ⟨rfl,x_epoch_ok,x_to_le,x_seq_ok⟩:=z6l hRx;have v0:=hcx 0 _ rfl;have v1_:=hcx 1 _ rfl;have v2:=hcx 2 _ rfl;rw [Nat.add_zero] at v0;subst hAx;obtain ⟨w9,hw9,cw9,fw9,Bw9,qw9⟩:=zQ wr5 #[.int .i64 x.epoch,.string x.to,.int .i64 x.seq] 151;obtain ⟨bz,oz,yz,hAz,hbz,hRz,hcz⟩:=SlAt.elem hs12 HYX.out (by decide) Bw9;obtain ⟨hyz,_,_⟩:=hRz;subst hyz;have y0:=hcz 0 _ rfl;have y1:=hcz 1 _ rfl;rw [Nat.add_zero] at y0;subst hAz;have HG9:=zh (HGX.out.below Z1 Bw9);have HB9:=zh (zB hbel2 Bw9);have H89:=zh ((Bw9.block _ (zO H8.out)).trans H8.out);have t0':=(zD H89.out).1 0 _ rfl;have x0:=cw9 0 _ rfl;have x1:=cw9 1 _ rfl;have x2:=cw9 2 _ rfl;have HQ9:=zh qw9;have HSL9:=zh (Own.sl Z1 HG9.out);have hmi:(m:Int) < (f.links.length:Int):=by omega
   have hqi2:(q:Int) < (X3.length:Int):=by omega
   have HEP:=zh x_epoch_ok;clear hx hcx hcz cw9 fw9 Bw9 hlm;go_wp2_with fail
   clear hw9 v0 v1_ v2 t0 t6;by_cases hto:x.to=y.name
   rotate_left
   ·have hse:(x.to.toList==y.name.toList)=false:=z03 hto;have HM2:=zh (HMX.out.step HX.out (fun z h=>h) fun e _=>absurd e hto);clear hto;go_quiet (fail)
    go_wp2;go_roundw
    case rel=>exact ⟨m+1,X3,by omega,by go_num,hqX,HYX,(HG9.out.below Z1 (ZN zbr _)),HCX,HEX,HLX,HM2,((ZN zbr _).block _ (zO H89.out)).trans H89.out,ZN HB9.out _⟩
    case measure=>exact qMx
   have hse:(x.to.toList==y.name.toList)=true:=by rw [hto];simp
   by_cases hsq:x.seq=y.seq
   rotate_left
   ·have hne:(x.seq==y.seq)=false:=beq_eq_false_iff_ne.2 hsq;have HM2:=zh (HMX.out.step HX.out (fun z h=>h) fun _ e=>absurd e hsq);clear hto hsq;go_quiet (fail)
    go_wp2;go_roundw
    case rel=>exact ⟨m+1,X3,by omega,by go_num,hqX,HYX,(HG9.out.below Z1 (ZN zbr _)),HCX,HEX,HLX,HM2,((ZN zbr _).block _ (zO H89.out)).trans H89.out,ZN HB9.out _⟩
    case measure=>exact qMx
   have hne:(x.seq==y.seq)=true:=by rw [hsq];simp
   have HCN:=zh (fun nq=>zG1 X3 _ f.name x.epoch (w9.drewN nq) _ (HSL9.out.keep Z1 (by decide) (zK (ZN zbr nq))));have HED:=zh (show (y,(⟨f.name,x.epoch⟩:At))∈z1u st from z40.2 ⟨f,z7v.2 ⟨k,HF.out,HAT.out⟩,.inr (z5y.2 ⟨x,zmg HX.out,hto,hsq,rfl⟩)⟩);clear hto hsq
   cases hb:z9v X3 f.name x.epoch with
   | true=>
    have HM2:=zh (HMX.out.step HX.out (fun z h=>h) fun _ _=>z4q.1 hb);rw [hb] at HCN;clear hb;go_quiet ((go_at_call 84;refine Calls.quiet_of_same (HCN.out _)))
    go_wp2;go_roundw
    case rel=>exact ⟨m+1,X3,by omega,by go_num,hqX,HYX,(HG9.out.below Z1 (ZN zbr _)),HCX,HEX,HLX,HM2,((ZN zbr _).block _ (zO H89.out)).trans H89.out,ZN HB9.out _⟩
    case measure=>exact qMx
   | false=>
    have HNM:=zh (show (⟨f.name,x.epoch⟩:At)∉X3 from fun hm=>by rw [z4q.2 hm] at hb;cases hb);rw [hb] at HCN;clear hb;have HM2:=zh (HMX.out.step (X':=X3++[⟨f.name,x.epoch⟩]) HX.out (fun z h=>List.mem_append_left _ h) fun _ _=>List.mem_append_right _ (by simp));go_quiet ((go_at_call 84;refine Calls.quiet_of_same (HCN.out _)))
    generalize hw10:w9.drewN nq=w10;have B10:Below w9.heap.size w9 w10:=by rw [<-hw10];exact ZN zbr _
    have HG10:=zh (HG9.out.below Z1 B10);have HB10:=zh (zB HB9.out B10);have H810:=zh ((B10.block _ (zO H89.out)).trans H89.out);have t0:=(zD H810.out).1 0 _ rfl;have x0':=(B10.cell (p:=⟨wr5.heap.size,0,none⟩) HQ9.out).trans x0;have hzB:w1.heap.size<=w10.heap.size:=HB10.out.size;clear hw10 B10 x0 x1 x2 y0 y1 t0';go_wp2_with (at_builtin;go_loud (refine yZ (R:=rAt) _ _ rfl (.tmp 217) (.tmp 223) 121 rfl 124 iAt _ 2 24 Tryz.underlying121 hiAt hzAt h1At h2At rfl (by decide) Z1 w1.heap.size hzB _ _ rfl HG10.out _ _ rfl (by simp only [zS]) _ (by intro b hb;exact hb.elim) (show rAt _ _ _ (⟨f.name,x.epoch⟩:At) from ⟨rfl,f_name_le,HEP.out⟩) (by omega) (by decide) ?_);intro v16 w16 g16 gg16 go16;obtain ⟨A16,n16,c16,rfl,hn16⟩:=g16.shape';have G16:=zh g16;have GG16:=zh gg16;clear hn16 g16 gg16 go16)
    go_roundw
    case rel=>exact ⟨m+1,X3++[⟨f.name,x.epoch⟩],by omega,by go_num,by rw [qLax];omega,(zh (by rw [qLlx hqX];exact HYX.out)),G16,(zh (HCX.out.add (zmg HYX.out) HED.out HNM.out (by omega))),(zh HEX.out.more),(zh HLX.out.more),HM2,(GG16.out.block _ (zO H810.out) (fun e=>zBg HG10.out H810.out (by decide) e.symm)).trans H810.out,Below.grown HB10.out GG16.out hzB fun b hb=>(HG10.out.base_le b hb).1⟩
    case measure=>exact qMx
 | true=>
  as_aux_lemma=>
   have HNT:=zh (zPu hnb);obtain ⟨A13,c13,hv13,hl13,hc13,hn13,hs13⟩:=Own.sl Z1 HGd.out;cases hv13
   obtain ⟨bz,oz,yz,hAz,hbz,hRz,hcz⟩:=SlAt.elem hs13 HY.out (by decide) (Below.refl wd.heap.size wd);obtain ⟨hyz,_,_⟩:=hRz;subst hyz;have y0:=hcz 0 _ rfl;have y1:=hcz 1 _ rfl;rw [Nat.add_zero] at y0;cases hAz
   have h2y:2<=y.seq:=HNT.out.2.2.1;have h3y:y.seq<=1000:=by
    obtain ⟨g,hg,hle⟩:=HNT.out.2.2.2;have:=(z56 HSM.out hg).2.1;omega
   have HI:=zh (show I64 (y.seq - 1) from by have:=y_seq_ok;unfold I64 at this⊢;omega);clear hnb hcz;go_upto_region 27 with fail
   go_cut [6] from 91 to 224 (fun s6 wx=>Hid (Grow 124 2 rAt (fun _=>False) wx w1.heap.size s6 (X++[(⟨y.name,y.seq - 1⟩:At)]))/\Below w1.heap.size w1 wx)
   case first=>
    have hwr:IntKind.i64.wrap (y.seq - 1)=y.seq - 1:=IntWalk.i64_in _ (by omega);have HB5:=zh (zB HBd.out (Below.refl wd.heap.size wd).drew);have HG5:=zh (HGd.out.drew Z1);have hz5:=HB5.out.size;have hz6:w1.heap.size<=wd.drew.heap.size:=hz5;refine zKp (by kernel_rfl) ?_;refine wpAny_take (i:=0) (oi:=?_) (v:=?_) ?_ (by kernel_rfl) (by kernel_rfl) (by kernel_rfl) ?_ (Or.inl ⟨?_,?_⟩) ?_;rotate_left 2
    ·simp only [List.getElem?_toArray,List.getElem?_cons_zero];exact rfl
    ·exact fun _ _ _ h=>h
    ·rfl
    ·(intro W';go_simp;try with_reducible rfl)
    try simp only [zA]
    refine wpAny_take (i:=1) (oi:=?_) (v:=?_) ?_ (by kernel_rfl) (by kernel_rfl) (by kernel_rfl) ?_ (Or.inl ⟨?_,?_⟩) ?_;rotate_left 2
    ·simp only [List.getElem?_toArray,List.getElem?_cons_succ,List.getElem?_cons_zero];exact rfl
    ·exact fun _ _ _ h=>h
    ·rfl
    ·(intro W';go_simp;try with_reducible rfl)
    try simp only [zA]
    refine wpAny_take (i:=2) (oi:=?_) (v:=?_) ?_ (by kernel_rfl) (by kernel_rfl) (by kernel_rfl) ?_ (Or.inl ⟨?_,?_⟩) ?_;rotate_left 2
    ·simp only [List.getElem?_toArray,List.getElem?_cons_succ,List.getElem?_cons_zero];exact rfl
    ·exact fun _ _ _ h=>h
    ·rfl
    ·(intro W';go_simp;try with_reducible rfl)
    try simp only [zA]
    refine wpAny_take (i:=3) (oi:=?_) (v:=?_) ?_ (by kernel_rfl) (by kernel_rfl) (by kernel_rfl) ?_ (Or.inl ⟨?_,?_⟩) ?_;rotate_left 2
    ·simp only [List.getElem?_toArray,List.getElem?_cons_succ,List.getElem?_cons_zero];exact rfl
    ·exact fun _ _ _ h=>h
    ·rfl
    ·(intro W';go_simp;try with_reducible rfl)
    try simp only [zA]
    refine wpAny_take (i:=4) (oi:=?_) (v:=?_) ?_ (by kernel_rfl) (by kernel_rfl) (by kernel_rfl) ?_ (Or.inl ⟨?_,?_⟩) ?_;rotate_left 2
    ·simp only [List.getElem?_toArray,List.getElem?_cons_succ,List.getElem?_cons_zero];exact rfl
    ·exact fun _ _ _ h=>h
    ·rfl
    ·(intro W';go_simp;try with_reducible rfl)
    try simp only [zA]
    refine wpAny_take (i:=6) (oi:=?_) (v:=?_) ?_ (by kernel_rfl) (by kernel_rfl) (by kernel_rfl) ?_ (Or.inl ⟨?_,?_⟩) ?_;rotate_left 2
    ·simp only [List.getElem?_toArray,List.getElem?_cons_succ,List.getElem?_cons_zero];exact rfl
    ·exact fun _ _ _ h=>h
    ·rfl
    ·(intro W';go_simp;try with_reducible rfl)
    try simp only [zA]
    refine wpAny_take (i:=7) (oi:=?_) (v:=?_) ?_ (by kernel_rfl) (by kernel_rfl) (by kernel_rfl) ?_ (Or.inl ⟨?_,?_⟩) ?_;rotate_left 2
    ·simp only [List.getElem?_toArray,List.getElem?_cons_succ,List.getElem?_cons_zero];exact rfl
    ·exact fun _ _ _ h=>h
    ·rfl
    ·(intro W';go_simp;try with_reducible rfl)
    try simp only [zA]
    refine wpAny_take (i:=8) (oi:=?_) (v:=?_) ?_ (by kernel_rfl) (by kernel_rfl) (by kernel_rfl) ?_ (Or.inl ⟨?_,?_⟩) ?_;rotate_left 2
    ·simp only [List.getElem?_toArray,List.getElem?_cons_succ,List.getElem?_cons_zero];exact rfl
    ·exact fun _ _ _ h=>h
    ·rfl
    ·(intro W';go_simp;try with_reducible rfl)
    try simp only [zA]
    refine wpAny_take (i:=9) (oi:=?_) (v:=?_) ?_ (by kernel_rfl) (by kernel_rfl) (by kernel_rfl) ?_ (Or.inl ⟨?_,?_⟩) ?_;rotate_left 2
    ·simp only [List.getElem?_toArray,List.getElem?_cons_succ,List.getElem?_cons_zero];exact rfl
    ·exact fun _ _ _ h=>h
    ·rfl
    ·(intro W';go_simp;try with_reducible rfl)
    try simp only [zA]
    refine wpAny_ready (rs:=[5,10]) (by kernel_rfl) (by simp) ?_;refine AllReady.cons rfl (fun K hK=>?_) (AllReady.cons rfl (fun K hK=>?_) AllReady.nil)
    ·go_simp;refine hK _ _ ?_;clear hK K;refine wpAny_ready (rs:=[10]) (by kernel_rfl) (by simp) ?_;refine AllReady.cons rfl (fun K hK=>?_) AllReady.nil;go_simp;refine hK _ _ ?_;clear hK K;refine wpAny_take (i:=11) (oi:=?_) (v:=?_) ?_ (by kernel_rfl) (by kernel_rfl) (by kernel_rfl) ?_ (Or.inl ⟨?_,?_⟩) ?_;rotate_left 2
     ·simp only [List.getElem?_toArray,List.getElem?_cons_succ,List.getElem?_cons_zero];exact rfl
     ·exact fun _ _ _ h=>h
     ·rfl
     ·(intro W';go_simp;try with_reducible rfl)
     try simp only [zA]
     refine wpAny_take (i:=12) (oi:=?_) (v:=?_) ?_ (by kernel_rfl) (by kernel_rfl) (by kernel_rfl) ?_ (Or.inl ⟨?_,?_⟩) ?_;rotate_left 2
     ·simp only [List.getElem?_toArray,List.getElem?_cons_succ,List.getElem?_cons_zero];exact rfl
     ·exact fun _ _ _ h=>h
     ·rfl
     ·(intro W';go_simp;try with_reducible rfl)
     try simp only [zA]
     refine wpAny_ready (rs:=[13]) (by kernel_rfl) (by simp) ?_;refine AllReady.cons rfl (fun K hK=>?_) AllReady.nil;go_simp;refine hK _ _ ?_;clear hK K;obtain ⟨w5,hw5,cw5,fw5,Bw5,qw5⟩:=zQ wd #[.string y.name,.int .i64 (y.seq - 1)] 124;have B5:Below wd.heap.size wd w5.drew:=zB Bw5 zbr.drew;have HG6':=zh (HGd.out.below Z1 B5);have HB6':=zh (zB HBd.out B5);have hz6':=HB6'.out.size;have HROW:=zh (show SlAt 2 rAt (z1z (fun _=>False) w5.drew (.slice (some ⟨by_,oy,none⟩) X.length c7)) w5.drew (some ⟨wd.heap.size,0,none⟩) [(⟨y.name,y.seq - 1⟩:At)] from z91 [.string y.name,.int .i64 (y.seq - 1)] ⟨qw5,fun h=>h,fun e=>by have h1:=(HGd.out.base_le _ e).2;omega⟩ rfl (fun j y hj=>by rw [Nat.zero_add];exact cw5 j y (by simpa using hj)) ⟨rfl,hzy,HI.out⟩);clear cw5 fw5 Bw5 B5 qw5;subst hw5;refine wpAny_ready (rs:=[14]) (by kernel_rfl) (by simp) ?_;refine AllReady.cons rfl (fun K hK=>?_) AllReady.nil;refine zA7 _ rfl (.tmp 145) (.tmp 158) 121 rfl 124 iAt _ 2 24 Tryz.underlying121 hiAt hzAt h1At h2At rfl (by decide) Z1 w1.heap.size hz6' (.slice (some ⟨by_,oy,none⟩) X.length c7) X rfl HG6'.out _ 1 _ rfl [(⟨y.name,y.seq - 1⟩:At)] rfl HROW.out (by omega) (by decide) ?_;intro v6 w6' g6 gg6;refine hK _ _ ?_;clear hK K;change wpAny _ _ _ _ _ _ (Act.put _ (some 159) v6) _;have G6:=zh g6;have GG6:=zh gg6;clear g6 gg6;refine wpAny_take (i:=15) (oi:=?_) (v:=?_) ?_ (by kernel_rfl) (by kernel_rfl) (by kernel_rfl) ?_ (Or.inl ⟨?_,?_⟩) ?_;rotate_left 2
     ·simp only [List.getElem?_toArray,List.getElem?_cons_succ,List.getElem?_cons_zero];exact rfl
     ·exact fun _ _ _ h=>h
     ·rfl
     ·(intro W';go_simp;try with_reducible rfl)
     try simp only [zA]
     refine wpAny_done (by kernel_rfl) ?_ _;go_wp2;go_meet
     case rel=>exact ⟨G6,Below.grown HB6'.out GG6.out hz6' fun b hb=>(HG6'.out.base_le b hb).1⟩
    go_simp;refine hK _ _ ?_;clear hK K;refine wpAny_take (i:=11) (oi:=?_) (v:=?_) ?_ (by kernel_rfl) (by kernel_rfl) (by kernel_rfl) ?_ (Or.inl ⟨?_,?_⟩) ?_;rotate_left 2
    ·simp only [List.getElem?_toArray,List.getElem?_cons_succ,List.getElem?_cons_zero];exact rfl
    ·exact fun _ _ _ h=>h
    ·rfl
    ·(intro W';go_simp;try with_reducible rfl)
    try simp only [zA]
    refine wpAny_ready (rs:=[5]) (by kernel_rfl) (by simp) ?_;refine AllReady.cons rfl (fun K hK=>?_) AllReady.nil;go_simp;refine hK _ _ ?_;clear hK K;refine wpAny_take (i:=12) (oi:=?_) (v:=?_) ?_ (by kernel_rfl) (by kernel_rfl) (by kernel_rfl) ?_ (Or.inl ⟨?_,?_⟩) ?_;rotate_left 2
    ·simp only [List.getElem?_toArray,List.getElem?_cons_succ,List.getElem?_cons_zero];exact rfl
    ·exact fun _ _ _ h=>h
    ·rfl
    ·(intro W';go_simp;try with_reducible rfl)
    try simp only [zA]
    refine wpAny_ready (rs:=[13]) (by kernel_rfl) (by simp) ?_;refine AllReady.cons rfl (fun K hK=>?_) AllReady.nil;go_simp;refine hK _ _ ?_;clear hK K;obtain ⟨w5,hw5,cw5,fw5,Bw5,qw5⟩:=zQ wd #[.string y.name,.int .i64 (y.seq - 1)] 124;have B5:Below wd.heap.size wd w5.drew:=zB Bw5 zbr.drew;have HG6':=zh (HGd.out.below Z1 B5);have HB6':=zh (zB HBd.out B5);have hz6':=HB6'.out.size;have HROW:=zh (show SlAt 2 rAt (z1z (fun _=>False) w5.drew (.slice (some ⟨by_,oy,none⟩) X.length c7)) w5.drew (some ⟨wd.heap.size,0,none⟩) [(⟨y.name,y.seq - 1⟩:At)] from z91 [.string y.name,.int .i64 (y.seq - 1)] ⟨qw5,fun h=>h,fun e=>by have h1:=(HGd.out.base_le _ e).2;omega⟩ rfl (fun j y hj=>by rw [Nat.zero_add];exact cw5 j y (by simpa using hj)) ⟨rfl,hzy,HI.out⟩);clear cw5 fw5 Bw5 B5 qw5;subst hw5;refine wpAny_ready (rs:=[14]) (by kernel_rfl) (by simp) ?_;refine AllReady.cons rfl (fun K hK=>?_) AllReady.nil;refine zA7 _ rfl (.tmp 145) (.tmp 158) 121 rfl 124 iAt _ 2 24 Tryz.underlying121 hiAt hzAt h1At h2At rfl (by decide) Z1 w1.heap.size hz6' (.slice (some ⟨by_,oy,none⟩) X.length c7) X rfl HG6'.out _ 1 _ rfl [(⟨y.name,y.seq - 1⟩:At)] rfl HROW.out (by omega) (by decide) ?_;intro v6 w6' g6 gg6;refine hK _ _ ?_;clear hK K;change wpAny _ _ _ _ _ _ (Act.put _ (some 159) v6) _;have G6:=zh g6;have GG6:=zh gg6;clear g6 gg6;refine wpAny_take (i:=15) (oi:=?_) (v:=?_) ?_ (by kernel_rfl) (by kernel_rfl) (by kernel_rfl) ?_ (Or.inl ⟨?_,?_⟩) ?_;rotate_left 2
    ·simp only [List.getElem?_toArray,List.getElem?_cons_succ,List.getElem?_cons_zero];exact rfl
    ·exact fun _ _ _ h=>h
    ·rfl
    ·(intro W';go_simp;try with_reducible rfl)
    try simp only [zA]
    refine wpAny_done (by kernel_rfl) ?_ _;go_wp2;go_meet
    case rel=>exact ⟨G6,Below.grown HB6'.out GG6.out hz6' fun b hb=>(HG6'.out.base_le b hb).1⟩
   case rest=>
   obtain ⟨GC,BC⟩:=hcut;obtain ⟨we,rfl⟩:∃we:World,we=wc:=⟨_,rfl⟩;have HBC:=zh BC;obtain ⟨A16,n16,c16,rfl,hn16⟩:=GC.out.shape';clear hn16 BC;have HEX:=zh (show ED st (X++[(⟨y.name,y.seq - 1⟩:At)]) y from ED.after HNT.out.1);have HYX:=zh (show (X++[(⟨y.name,y.seq - 1⟩:At)])[q]? =some y from by rw [qLlx (by omega)];exact HY.out);have HGX:=GC;have HCX:=zh (HCL.out.add HYM.out HNT.out.1 HNT.out.2.1 (by omega));have HBX:=HBC;have hqX:q < (X++[(⟨y.name,y.seq - 1⟩:At)]).length:=by rw [qLax];omega
   clear y0 y1 HGd HBd HNT HCL HY hqi hXL hq GC HBC h2y h3y;go_wp2;go_loopw [6,16] (fun vo i wr=>∃(k:Nat) (X:List At),k<=st.folders.length/\i= .int .i64 k/\q < X.length/\Hid (X[q]? =some y)/\Hid (Grow 124 2 rAt (fun _=>False) wr w1.heap.size vo X)/\Hid (Cl (z1u st) (YU L st.folders) X q)/\Hid (ED st X y)/\Hid (LD st X y k)/\Below w1.heap.size w1 wr) (fun _ i _=>st.folders.length - (intOf i).toNat)
   case atStart=>exact ⟨0,_,by omega,by go_num,hqX,HYX,HGX,HCX,HEX,LD.zero,HBX.out⟩
   clear hqX HYX HGX HCX HEX HBX;obtain ⟨wr4,rfl⟩:∃q,q=wr:=⟨_,rfl⟩;obtain ⟨k,X2,hk,rfl,hqX,HYX,HGX,HCX,HEX,HLX,hbel2⟩:=hrel;obtain ⟨A11,n11,c11,rfl,hn11⟩:=HGX.out.shape';clear hn11;have B4:=zh (zB HB1.out hbel2);have hX2:X2.length<=2400:=by have:=HCX.out.len;omega
   have hz4:=hbel2.size;have s0:=(B4.out.cell (p:=⟨w.heap.size,0,none⟩) qw0).trans (HC0.out 0 _ rfl);have s1:=(B4.out.cell (p:=⟨w.heap.size,1,none⟩) qw0).trans (HC0.out 1 _ rfl);have s2:=(B4.out.cell (p:=⟨w.heap.size,2,none⟩) qw0).trans (HC0.out 2 _ rfl);have s3:=(B4.out.cell (p:=⟨w.heap.size,3,none⟩) qw0).trans (HC0.out 3 _ rfl);by_cases hlk:k < st.folders.length
   rotate_left
   ·obtain rfl:k=st.folders.length:=by omega
    have HN:=zh (HCX.out.next HYX.out (zJd HEX.out HLX.out));go_wp2;go_roundw
    case rel=>exact ⟨q+1,X2,by omega,by go_num,HGX,HN,hbel2⟩
    case measure=>exact qMx
   obtain ⟨f,hf⟩:∃f,st.folders[k]? =some f:=⟨_,qLgx hlk⟩;obtain ⟨bf,of,yf,hAf,hbf,hRf,hcf⟩:=SlAt.elem st_folders_s hf (by decide) (zB HB0.out B4.out);have HF:=zh hf;obtain ⟨f_A2,f_c2,f_A3,f_c3,f_A4,f_c4,f_A5,f_c5,f_A6,f_c6,rfl,f_name_le,f_turn_ok,f_manifests_l,f_manifests_m,f_manifests_n,f_manifests_s,f_epochs_l,f_epochs_m,f_epochs_n,f_epochs_s,f_items_l,f_items_m,f_items_n,f_items_s,f_wraps_l,f_wraps_m,f_wraps_n,f_wraps_s,f_links_l,f_links_m,f_links_n,f_links_s⟩:=Z2 hRf;have g0:=hcf 0 _ rfl;have g1:=hcf 1 _ rfl;have g2:=hcf 2 _ rfl;have g3:=hcf 3 _ rfl;have g4:=hcf 4 _ rfl;have g5:=hcf 5 _ rfl;have g6:=hcf 6 _ rfl;rw [Nat.add_zero] at g0;subst hAf;obtain ⟨w5,hw5,cw5,fw5,Bw5,qw5⟩:=zQ wr4 #[.string f.name,.int .i64 f.turn,.slice f_A2 f.manifests.length f_c2,.slice f_A3 f.epochs.length f_c3,.slice f_A4 f.items.length f_c4,.slice f_A5 f.wraps.length f_c5,.slice f_A6 f.links.length f_c6] 74;have H8:=zh (zbx hw5);have HB5:=zh (zB hbel2 Bw5);have HG5:=zh (HGX.out.below Z1 Bw5);have t0:=cw5 0 _ rfl;have s0':=(Bw5.cell (p:=⟨w.heap.size,0,none⟩) (zF s0)).trans s0;have s1':=(Bw5.cell (p:=⟨w.heap.size,1,none⟩) (zF s1)).trans s1;have s2':=(Bw5.cell (p:=⟨w.heap.size,2,none⟩) (zF s2)).trans s2;have s3':=(Bw5.cell (p:=⟨w.heap.size,3,none⟩) (zF s3)).trans s3;have hki:(k:Int) < (st.folders.length:Int):=by omega
   clear hf hcf cw5 fw5 Bw5 f_manifests_s f_epochs_s f_items_s f_wraps_s;go_wp2_with fail
   clear hw5 s0 s1 s2 s3 s0' s1' s2' s3' g0 g1 g2 g3 g4 g5 g6 t0;refine zcm (z1l st f.name _ w5 _ (HST.out _ (zB HB1.out HB5.out))) ?_;rintro e7 w7 ⟨rfl,b7⟩;have HB7:=zh (zB HB5.out b7);have HG7:=zh (HG5.out.below Z1 b7);have H87:=zh ((b7.block _ (zO H8.out)).trans H8.out);clear b7;by_cases hat:z00 st f.name=(k:Int)
   rotate_left
   ·have hne:(z00 st f.name==(k:Int))=false:=beq_eq_false_iff_ne.2 hat;have HL2:=zh (HLX.out.skip HF.out hat);obtain ⟨z2,hz2⟩:∃z,z00 st f.name=z:=⟨_,rfl⟩;rw [hz2] at hne⊢;clear hat hz2;go_wp2;go_roundw
    case rel=>exact ⟨k+1,X2,by omega,by go_num,hqX,HYX,HG7,HCX,HEX,HL2,HB7.out⟩
    case measure=>exact qMx
   rw [hat];have HAT:=zh hat;clear hat hlk hz4 hX2;go_wp2;go_loopw [6,18] (fun vo i wr=>∃(m:Nat) (X:List At),m<=f.links.length/\i= .int .i64 m/\q < X.length/\Hid (X[q]? =some y)/\Hid (Grow 124 2 rAt (fun _=>False) wr w1.heap.size vo X)/\Hid (Cl (z1u st) (YU L st.folders) X q)/\Hid (ED st X y)/\Hid (LD st X y k)/\Hid (MD f X y m)/\Hid (wr.heap[wr4.heap.size]? =some (.cells #[.string f.name,.int .i64 f.turn,.slice f_A2 f.manifests.length f_c2,.slice f_A3 f.epochs.length f_c3,.slice f_A4 f.items.length f_c4,.slice f_A5 f.wraps.length f_c5,.slice f_A6 f.links.length f_c6] 74 (0,0)))/\Below w1.heap.size w1 wr) (fun _ i _=>f.links.length - (intOf i).toNat)
   case atStart=>exact ⟨0,X2,by omega,by go_num,hqX,HYX,HG7,HCX,HEX,HLX,MD.zero,H87,HB7.out⟩
   clear hqX HYX HGX HCX HEX HLX HG5 HG7 H8 H87 HB5 HB7 hbel2 B4;obtain ⟨wr5,rfl⟩:∃q,q=wr:=⟨_,rfl⟩;obtain ⟨m,X3,hm,rfl,hqX,HYX,HGX,HCX,HEX,HLX,HMX,H8,hbel2⟩:=hrel;have hX3:X3.length<=2400:=by have:=HCX.out.len;omega
   have hz5:=hbel2.size;obtain ⟨A12,c12,hv12,hl12,hc12,hn12,hs12⟩:=Own.sl Z1 HGX.out;subst hv12;unfold maxLen at hc12;obtain ⟨p8,f8⟩:=zD H8.out;have t0:=p8 0 _ rfl;have t6:=p8 6 _ rfl;clear p8;by_cases hlm:m < f.links.length
   rotate_left
   ·obtain rfl:m=f.links.length:=by omega
    have HL2:=zh (HLX.out.next HF.out HMX.out);go_wp2;go_roundw
    case rel=>exact ⟨k+1,X3,by omega,by go_num,hqX,HYX,HGX,HCX,HEX,HL2,hbel2⟩
    case measure=>exact qMx
   obtain ⟨x,hx⟩:∃x,f.links[m]? =some x:=⟨_,qLgx hlm⟩;obtain ⟨bx,ox,yx,hAx,hbx,hRx,hcx⟩:=SlAt.elem f_links_s hx (by decide) (zB HB0.out (zB HB1.out hbel2));have HX:=zh hx;obtain ⟨rfl,x_epoch_ok,x_to_le,x_seq_ok⟩:=z6l hRx;have v0:=hcx 0 _ rfl;have v1_:=hcx 1 _ rfl;have v2:=hcx 2 _ rfl;rw [Nat.add_zero] at v0;subst hAx;obtain ⟨w9,hw9,cw9,fw9,Bw9,qw9⟩:=zQ wr5 #[.int .i64 x.epoch,.string x.to,.int .i64 x.seq] 151;obtain ⟨bz,oz,yz,hAz,hbz,hRz,hcz⟩:=SlAt.elem hs12 HYX.out (by decide) Bw9;obtain ⟨hyz,_,_⟩:=hRz;subst hyz;have y0:=hcz 0 _ rfl;have y1:=hcz 1 _ rfl;rw [Nat.add_zero] at y0;subst hAz;have HG9:=zh (HGX.out.below Z1 Bw9);have HB9:=zh (zB hbel2 Bw9);have H89:=zh ((Bw9.block _ (zO H8.out)).trans H8.out);have t0':=(zD H89.out).1 0 _ rfl;have x0:=cw9 0 _ rfl;have x1:=cw9 1 _ rfl;have x2:=cw9 2 _ rfl;have HQ9:=zh qw9;have HSL9:=zh (Own.sl Z1 HG9.out);have hmi:(m:Int) < (f.links.length:Int):=by omega
   have hqi2:(q:Int) < (X3.length:Int):=by omega
   have HEP:=zh x_epoch_ok;clear hx hcx hcz cw9 fw9 Bw9 hlm;go_wp2_with fail
   clear hw9 v0 v1_ v2 t0 t6;by_cases hto:x.to=y.name
   rotate_left
   ·have hse:(x.to.toList==y.name.toList)=false:=z03 hto;have HM2:=zh (HMX.out.step HX.out (fun z h=>h) fun e _=>absurd e hto);clear hto;go_quiet (fail)
    go_wp2;go_roundw
    case rel=>exact ⟨m+1,X3,by omega,by go_num,hqX,HYX,(HG9.out.below Z1 (ZN zbr _)),HCX,HEX,HLX,HM2,((ZN zbr _).block _ (zO H89.out)).trans H89.out,ZN HB9.out _⟩
    case measure=>exact qMx
   have hse:(x.to.toList==y.name.toList)=true:=by rw [hto];simp
   by_cases hsq:x.seq=y.seq
   rotate_left
   ·have hne:(x.seq==y.seq)=false:=beq_eq_false_iff_ne.2 hsq;have HM2:=zh (HMX.out.step HX.out (fun z h=>h) fun _ e=>absurd e hsq);clear hto hsq;go_quiet (fail)
    go_wp2;go_roundw
    case rel=>exact ⟨m+1,X3,by omega,by go_num,hqX,HYX,(HG9.out.below Z1 (ZN zbr _)),HCX,HEX,HLX,HM2,((ZN zbr _).block _ (zO H89.out)).trans H89.out,ZN HB9.out _⟩
    case measure=>exact qMx
   have hne:(x.seq==y.seq)=true:=by rw [hsq];simp
   have HCN:=zh (fun nq=>zG1 X3 _ f.name x.epoch (w9.drewN nq) _ (HSL9.out.keep Z1 (by decide) (zK (ZN zbr nq))));have HED:=zh (show (y,(⟨f.name,x.epoch⟩:At))∈z1u st from z40.2 ⟨f,z7v.2 ⟨k,HF.out,HAT.out⟩,.inr (z5y.2 ⟨x,zmg HX.out,hto,hsq,rfl⟩)⟩);clear hto hsq
   cases hb:z9v X3 f.name x.epoch with
   | true=>
    have HM2:=zh (HMX.out.step HX.out (fun z h=>h) fun _ _=>z4q.1 hb);rw [hb] at HCN;clear hb;go_quiet ((go_at_call 84;refine Calls.quiet_of_same (HCN.out _)))
    go_wp2;go_roundw
    case rel=>exact ⟨m+1,X3,by omega,by go_num,hqX,HYX,(HG9.out.below Z1 (ZN zbr _)),HCX,HEX,HLX,HM2,((ZN zbr _).block _ (zO H89.out)).trans H89.out,ZN HB9.out _⟩
    case measure=>exact qMx
   | false=>
    have HNM:=zh (show (⟨f.name,x.epoch⟩:At)∉X3 from fun hm=>by rw [z4q.2 hm] at hb;cases hb);rw [hb] at HCN;clear hb;have HM2:=zh (HMX.out.step (X':=X3++[⟨f.name,x.epoch⟩]) HX.out (fun z h=>List.mem_append_left _ h) fun _ _=>List.mem_append_right _ (by simp));go_quiet ((go_at_call 84;refine Calls.quiet_of_same (HCN.out _)))
    generalize hw10:w9.drewN nq=w10;have B10:Below w9.heap.size w9 w10:=by rw [<-hw10];exact ZN zbr _
    have HG10:=zh (HG9.out.below Z1 B10);have HB10:=zh (zB HB9.out B10);have H810:=zh ((B10.block _ (zO H89.out)).trans H89.out);have t0:=(zD H810.out).1 0 _ rfl;have x0':=(B10.cell (p:=⟨wr5.heap.size,0,none⟩) HQ9.out).trans x0;have hzB:w1.heap.size<=w10.heap.size:=HB10.out.size;clear hw10 B10 x0 x1 x2 y0 y1 t0';go_wp2_with (at_builtin;go_loud (refine yZ (R:=rAt) _ _ rfl (.tmp 217) (.tmp 223) 121 rfl 124 iAt _ 2 24 Tryz.underlying121 hiAt hzAt h1At h2At rfl (by decide) Z1 w1.heap.size hzB _ _ rfl HG10.out _ _ rfl (by simp only [zS]) _ (by intro b hb;exact hb.elim) (show rAt _ _ _ (⟨f.name,x.epoch⟩:At) from ⟨rfl,f_name_le,HEP.out⟩) (by omega) (by decide) ?_);intro v16 w16 g16 gg16 go16;obtain ⟨A16,n16,c16,rfl,hn16⟩:=g16.shape';have G16:=zh g16;have GG16:=zh gg16;clear hn16 g16 gg16 go16)
    go_roundw
    case rel=>exact ⟨m+1,X3++[⟨f.name,x.epoch⟩],by omega,by go_num,by rw [qLax];omega,(zh (by rw [qLlx hqX];exact HYX.out)),G16,(zh (HCX.out.add (zmg HYX.out) HED.out HNM.out (by omega))),(zh HEX.out.more),(zh HLX.out.more),HM2,(GG16.out.block _ (zO H810.out) (fun e=>zBg HG10.out H810.out (by decide) e.symm)).trans H810.out,Below.grown HB10.out GG16.out hzB fun b hb=>(HG10.out.base_le b hb).1⟩
    case measure=>exact qMx
end Go.Proofs.YtdggplhnfhcieaaGreatDoor
