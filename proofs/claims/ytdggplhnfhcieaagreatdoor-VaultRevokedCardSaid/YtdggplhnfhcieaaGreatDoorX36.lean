/- No condition. -/
import Derived.Test.YtdggplhnfhcieaaGreatDoorX23
set_option linter.all false
set_option maxRecDepth 100000
set_option maxHeartbeats 16000000
namespace Go.Proofs.YtdggplhnfhcieaaGreatDoor
open Go.RowKit Go.Deep
theorem IsMost.nil {p:Int->Prop} {len:Nat} (h:∀e,¬p e):IsMost p len 0:=⟨Int.le_refl _,by omega,.inl rfl,fun e _ _ h1=>absurd h1 (h e)⟩
def AtK (L:List At) (fo:Nm) (k:Nat) (e:Int):Prop:=(⟨fo,e⟩:At)∈L.take k
theorem z9w {L:List At} {fo:Nm} {k:Nat} {x:At} (hx:L[k]? =some x) (e:Int):AtK L fo (k+1) e↔AtK L fo k e\/x=⟨fo,e⟩:=by
 unfold AtK;rw [qLtx,hx,List.mem_append];simp only [Option.toList_some,List.mem_singleton];exact or_congr Iff.rfl eq_comm
theorem z9x {L:List At} {fo:Nm} {k len:Nat} {x:At} {n:Int} (h:IsMost (AtK L fo k) len n) (hx:L[k]? =some x) (hn:x.name=fo->n < x.seq->(len:Int) < x.seq):IsMost (AtK L fo (k+1)) len n:=by
 obtain ⟨h1,h2,h3,h4⟩:=h;refine ⟨h1,h2,h3.imp id fun h=>(z9w hx _).2 (.inl h),fun e e1 e2 h=>?_⟩;rcases (z9w hx e).1 h with h | h
 ·exact h4 e e1 e2 h
 subst h;have:=hn rfl;dsimp only at this;omega
theorem zNc {L:List At} {fo:Nm} {k len:Nat} {x:At} {n:Int} (h:IsMost (AtK L fo k) len n) (hx:L[k]? =some x) (h1:x.name=fo) (h2:n < x.seq) (h3:x.seq<=len):IsMost (AtK L fo (k+1)) len x.seq:=by
 obtain ⟨_,_,_,k4⟩:=h;subst h1;refine ⟨by omega,h3,.inr ((z9w hx _).2 (.inr rfl)),fun e e1 e2 h=>?_⟩;rcases (z9w hx e).1 h with h | h
 ·have:=k4 e e1 e2 h;omega
 have:x.seq=e:=by rw [h]
 omega
theorem zG2 (st:State) (hsm:Small st) (u fo:Nm) (hu:u.size<=1000) (cs:List Value) (w:World) (S:Nat->Prop) (h:yB S w cs st):Calls Tryz.prog 28 #[.agg cs.toArray,.string u,.string fo] w fun e w'=>(∃n:Int,e= .returned (.int .i64 n)/\IsReach st u fo n)/\Below w.heap.size w w':=by
 have HR:=zh (Z0 h (show Kept S (fun z=>z < w.heap.size) w w from fun b _ hl=>⟨hl,rfl⟩));have HSM:=zh hsm;have HUL:=zh hu;clear hsm hu;replace h:=HR.out;obtain ⟨st_A1,st_c1,st_A2,st_c2,st_A3,st_c3,rfl,_,_,_,_,st_users_s,_,_,_,st_deposits_s,_,_,_,st_folders_s⟩:=ZP h;obtain ⟨w0,hw0,cw0,fw0,Bw0,qw0⟩:=zQ w #[.int .i64 st.turn,.slice st_A1 st.users.length st_c1,.slice st_A2 st.deposits.length st_c2,.slice st_A3 st.folders.length st_c3] 34;have HB0:=zh Bw0;have HC0:=zh cw0;have HST:=zh fun W (hW:Below w0.heap.size w0 W)=>Z0 HR.out (zK (zB HB0.out hW))
 have s0:=cw0 0 _ rfl;have s1:=cw0 1 _ rfl;have s2:=cw0 2 _ rfl;have s3:=cw0 3 _ rfl;clear cw0 fw0 Bw0 st_users_s st_deposits_s;go_enter Tryz.func28,Tryz.ntmps28
 go_wp2_with fail
 clear hw0 s0 s1 s2 s3;refine zcm (z1l st fo _ w0 _ (HST.out _ zbr)) ?_;rintro e w1 ⟨rfl,b1⟩;have HB1:=zh b1;clear b1
 cases hF:zP st fo with
 | none=>
  rw [z72 hF];have HN:=zh (show IsReach st u fo 0 from .inl ⟨hF,rfl⟩);clear hF;go_wp2;go_ret
  exact ⟨⟨0,rfl,HN.out⟩,zB HB0.out HB1.out⟩
 | some f=>
  obtain ⟨j,hj,hfj⟩:=z2y hF;rw [hj];have hjl:=(zge hfj).1;have hji:(j:Int) < (st.folders.length:Int):=by omega
  have hj0:decide ((j:Int) < 0)=false:=decide_eq_false (by omega);have hgl:f.epochs.length<=1000:=(z56 HSM.out (zmg hfj)).2.1;have HF:=zh hF;have HFJ:=zh hfj;have s0:=(HB1.out.cell (p:=⟨w.heap.size,0,none⟩) qw0).trans (HC0.out 0 _ rfl);have s1:=(HB1.out.cell (p:=⟨w.heap.size,1,none⟩) qw0).trans (HC0.out 1 _ rfl);have s2:=(HB1.out.cell (p:=⟨w.heap.size,2,none⟩) qw0).trans (HC0.out 2 _ rfl);have s3:=(HB1.out.cell (p:=⟨w.heap.size,3,none⟩) qw0).trans (HC0.out 3 _ rfl);clear hF hj hfj;go_wp2_with fail
  clear s0 s1 s2 s3;refine zcm (zNb st HSM.out u HUL.out _ w1 _ (HST.out _ HB1.out)) ?_;rintro e w2 ⟨⟨_,L,rfl,hs2,hL,_⟩,b2⟩;have HB2:=zh (zB HB1.out b2);have HL:=zh hL;obtain ⟨_,_,rfl,_,hc2,hn2,hs3⟩:=hs2;unfold maxLen at hc2;clear b2 hL;go_wp2;go_loopw [9,10] (fun m i wr=>∃(k:Nat) (n:Int),k<=L.length/\i= .int .i64 k/\m= .int .i64 n/\0<=n/\n<=1000/\Hid (IsMost (AtK L fo k) f.epochs.length n)/\Below w2.heap.size w2 wr) (fun _ i _=>L.length - (intOf i).toNat)
  case atStart=>exact ⟨0,0,by omega,by go_num,rfl,by omega,by omega,IsMost.nil (fun e h=>by simp [AtK] at h),Below.refl _ _⟩
  obtain ⟨k,n,_,rfl,rfl,hn0,hn100,HM,hbel⟩:=hrel;by_cases hlt:k < L.length
  rotate_left
  ·obtain rfl:k=L.length:=by omega
   have HI:=zh (show IsReach st u fo n from by
    refine .inr ⟨f,HF.out,?_⟩;obtain ⟨h1,h2,h3,h4⟩:=HM.out;have hp:∀e,AtK L fo L.length e↔z2w st u fo e:=fun e=>by unfold AtK;rw [qLnx];exact HL.out fo e
    exact ⟨h1,h2,h3.imp id (hp n).1,fun e e1 e2 h=>h4 e e1 e2 ((hp e).2 h)⟩)
   clear HM;go_wp2;go_ret;exact ⟨⟨n,rfl,HI.out⟩,zB HB0.out (zB HB2.out hbel)⟩
  obtain ⟨x,hx⟩:∃x,L[k]? =some x:=⟨_,qLgx hlt⟩;obtain ⟨_,_,_,hAx,_,hRx,hcx⟩:=SlAt.elem hs3 hx (by decide) hbel;obtain ⟨rfl,_,_⟩:=z3b hRx;have x0:=hcx 0 _ rfl;have x1:=hcx 1 _ rfl;rw [Nat.add_zero] at x0;subst hAx;obtain ⟨_,_,_,hAf,_,hRf,hcf⟩:=SlAt.elem st_folders_s HFJ.out (by decide) (zB HB0.out (zB HB2.out hbel));obtain ⟨_,_,_,_,_,_,_,_,_,_,rfl,_,_,_,_,_,f_manifests_s,_,_,_,f_epochs_s,_,_,_,f_items_s,_,_,_,f_wraps_s,_,_,_,f_links_s⟩:=Z2 hRf;have f3:=hcf 3 _ rfl;subst hAf;have s3:=((zB HB2.out hbel).cell (p:=⟨w.heap.size,3,none⟩) qw0).trans (HC0.out 3 _ rfl);have HX:=zh hx;have hki:(k:Int) < (L.length:Int):=by omega
  clear hx hcx hcf hlt f_manifests_s f_epochs_s f_items_s f_wraps_s f_links_s;by_cases e1:x.name=fo
  rotate_left
  ·have hse:(x.name.toList==fo.toList)=false:=z03 e1;have HN:=zh (z9x HM.out HX.out fun h _=>absurd h e1);clear e1 HM;go_wp2_with fail
   go_quiet (fail)
   go_wp2;go_roundw
   case rel=>exact ⟨k+1,n,by omega,by go_num,rfl,hn0,hn100,HN,ZN hbel _⟩
   case measure=>exact qMx
  have hse:(x.name.toList==fo.toList)=true:=by rw [e1];simp
  by_cases e2:n < x.seq
  rotate_left
  ·have d2:decide (n < x.seq)=false:=decide_eq_false e2;have HN:=zh (z9x HM.out HX.out fun _ h=>absurd h e2);clear e1 e2 HM;go_wp2_with fail
   go_quiet (fail)
   go_wp2;go_roundw
   case rel=>exact ⟨k+1,n,by omega,by go_num,rfl,hn0,hn100,HN,ZN hbel _⟩
   case measure=>exact qMx
  have d2:decide (n < x.seq)=true:=decide_eq_true e2;by_cases e3:x.seq<=f.epochs.length
  ·have d3:decide (x.seq<=(f.epochs.length:Int))=true:=decide_eq_true e3;have HN:=zh (zNc HM.out HX.out e1 e2 e3);have hn1:0<=x.seq:=by omega
   have hn2:x.seq<=1000:=by omega
   clear e1 e2 e3 HM;go_wp2_with fail
   go_quiet (fail)
   go_wp2;go_roundw
   case rel=>exact ⟨k+1,x.seq,by omega,by go_num,rfl,hn1,hn2,HN,ZN hbel _⟩
   case measure=>exact qMx
  have d3:decide (x.seq<=(f.epochs.length:Int))=false:=decide_eq_false e3;have HN:=zh (z9x HM.out HX.out fun _ _=>by omega);clear e1 e2 e3 HM;go_wp2_with fail
  go_quiet (fail)
  go_wp2;go_roundw
  case rel=>exact ⟨k+1,n,by omega,by go_num,rfl,hn0,hn100,HN,ZN hbel _⟩
  case measure=>exact qMx
def zNd (st:State) (fo:Nm) (n:Int) (x:Nm):Prop:=∃f,zP st fo=some f/\n<=f.epochs.length/\z2w st x fo n
theorem zTl {st:State} {fo:Nm} {n m:Int} {x:Nm} (hn:1<=n) (h:IsReach st x fo m):n<=m↔zNd st fo n x:=by
 constructor
 ·intro k;rcases h with ⟨h1,rfl⟩ | ⟨f,hf,h2⟩
  ·omega
  have h5:=h2.2.1;exact ⟨f,hf,by omega,(IsReach.iff (.inr ⟨f,hf,h2⟩) hf hn (by omega)).1 k⟩
 rintro ⟨f,hf,h1,h2⟩;exact (h.iff hf hn h1).2 h2
def z8q (st:State) (fo:Nm) (n:Int) (k:Nat) (x:Nm):Prop:=(∃u∈st.users.take k,u.name=x)/\zNd st fo n x
theorem zPv {st:State} {fo:Nm} {n:Int}:IsNames (z8q st fo n 0) []:=IsNames.nil fun x hx=>by obtain ⟨⟨_,hu,_⟩,_⟩:=hx;simp at hu
theorem zPw {st:State} {fo:Nm} {n:Int} {k:Nat} {y:User} {R:List Nm} (h:IsNames (z8q st fo n k) R) (hy:st.users[k]? =some y) (hno:¬zNd st fo n y.name):IsNames (z8q st fo n (k+1)) R:=by
 refine ⟨h.1,fun x=>(h.2 x).trans ?_⟩;unfold z8q;rw [zKu hy];constructor
 ·rintro ⟨h1,h2⟩;exact ⟨.inl h1,h2⟩
 rintro ⟨h1 | rfl,h2⟩
 ·exact ⟨h1,h2⟩
 exact absurd h2 hno
theorem zRy {st:State} {fo:Nm} {n:Int} {k:Nat} {y:User} {R:List Nm} (h:IsNames (z8q st fo n k) R) (hy:st.users[k]? =some y) (hc:zNd st fo n y.name):IsNames (z8q st fo n (k+1)) (z7s R y.name):=by
 have h1:=zLf h y.name;refine ⟨h1.1,fun x=>(h1.2 x).trans ?_⟩;unfold z8q;rw [zKu hy];constructor
 ·rintro (rfl | ⟨h2,h3⟩)
  ·exact ⟨.inr rfl,hc⟩
  exact ⟨.inl h2,h3⟩
 rintro ⟨h2 | rfl,h3⟩
 ·exact .inr ⟨h2,h3⟩
 exact .inl rfl
theorem zRz {st:State} {fo:Nm} {n:Int} (hn:1<=n) {R:List Nm} (h:IsNames (z8q st fo n st.users.length) R):IsNames (zFe st fo n) R:=by
 refine ⟨h.1,fun x=>(h.2 x).trans ?_⟩;unfold z8q zFe;rw [qLnx];constructor
 ·rintro ⟨h1,f,hf,h2,h3⟩;exact ⟨f,hf,hn,h2,h1,h3⟩
 rintro ⟨f,hf,_,h2,h1,h3⟩;exact ⟨h1,f,hf,h2,h3⟩
theorem zNe (st:State) (hsm:Small st) (fo:Nm) (n:Int) (hus:∀u∈st.users,u.name.size<=1000) (hul:st.users.length<=200) (cs:List Value) (w:World) (S:Nat->Prop) (h:yB S w cs st):Calls Tryz.prog 24 #[.agg cs.toArray,.string fo,.int .i64 n] w fun e w'=>(∃(v:Value) (R:List Nm),e= .returned v/\Sl 1 z06 (fun _=>True) w' v R/\IsNames (zFe st fo n) R/\R.length<=st.users.length)/\Below w.heap.size w w':=by
 have HR:=zh (Z0 h (show Kept S (fun z=>z < w.heap.size) w w from fun b _ hl=>⟨hl,rfl⟩));have HSM:=zh hsm;have HUS:=zh hus;clear hsm hus;replace h:=HR.out;obtain ⟨st_A1,st_c1,st_A2,st_c2,st_A3,st_c3,rfl,_,_,_,_,st_users_s,_,_,_,st_deposits_s,_,_,_,st_folders_s⟩:=ZP h;obtain ⟨w0,hw0,cw0,fw0,Bw0,qw0⟩:=zQ w #[.int .i64 st.turn,.slice st_A1 st.users.length st_c1,.slice st_A2 st.deposits.length st_c2,.slice st_A3 st.folders.length st_c3] 34;have HB0:=zh Bw0;have HC0:=zh cw0;have HST:=zh fun W (hW:Below w0.heap.size w0 W)=>Z0 HR.out (zK (zB HB0.out hW))
 clear cw0 fw0 Bw0 st_folders_s st_deposits_s;by_cases hn:n < 1
 ·have HNO:=zh (show IsNames (zFe st fo n) [] from IsNames.nil fun x hx=>by obtain ⟨_,_,_,_⟩:=hx;omega);have hn':decide (n < 1)=true:=decide_eq_true hn;clear hn;go_enter Tryz.func24,Tryz.ntmps24
  go_wp2;go_ret;exact ⟨⟨_,[],rfl,z0k _ _ _ _,HNO.out,by simp⟩,HB0.out⟩
 have hn1:1<=n:=by omega
 have hn':decide (n < 1)=false:=decide_eq_false hn;clear hn;go_enter Tryz.func24,Tryz.ntmps24
 go_wp2;clear hw0;go_loopw [7,8] (fun vo i wr=>∃(k:Nat) (R:List Nm),k<=st.users.length/\i= .int .i64 k/\Hid (RowC 9 1 wr vo (z2c R))/\Hid (∀b,vo.ownBlock=some b->w0.heap.size<=b)/\Hid (IsNames (z8q st fo n k) R)/\R.length<=k/\Below w0.heap.size w0 wr) (fun _ i _=>st.users.length - (intOf i).toNat)
 case atStart=>exact ⟨0,[],by omega,by go_num,RowC.nil _,(fun b hb=>by cases hb),zPv,znl _,Below.refl _ _⟩
 obtain ⟨wr3,rfl⟩:∃q,q=wr:=⟨_,rfl⟩;obtain ⟨k,R,_,rfl,HRW,HOB,HI,hRk,hbel⟩:=hrel;have HRZ:=zh (show ∀x∈R,x.size<=1000 from fun x hx=>by
  obtain ⟨⟨u,hu,rfl⟩,_⟩:=(HI.out.2 x).1 hx;exact HUS.out u (List.mem_of_mem_take hu))
 have hz3:=hbel.size;have s0:=(hbel.cell (p:=⟨w.heap.size,0,none⟩) qw0).trans (HC0.out 0 _ rfl);have s1:=(hbel.cell (p:=⟨w.heap.size,1,none⟩) qw0).trans (HC0.out 1 _ rfl);have s2:=(hbel.cell (p:=⟨w.heap.size,2,none⟩) qw0).trans (HC0.out 2 _ rfl);have s3:=(hbel.cell (p:=⟨w.heap.size,3,none⟩) qw0).trans (HC0.out 3 _ rfl);obtain ⟨_,_,_,hv9⟩:=HRW.out.shape3;subst hv9;by_cases hlt:k < st.users.length
 rotate_left
 ·obtain rfl:k=st.users.length:=by omega
  have HSL:=zh (zFz HRW.out (by omega) HRZ.out);have HIA:=zh (zRz hn1 HI.out);have HBF:=zh (zB HB0.out hbel);clear HRW HI s0 s2 s3;go_wp2;go_ret;exact ⟨⟨_,R,rfl,HSL.out,HIA.out,hRk⟩,HBF.out⟩
 obtain ⟨x,hx⟩:∃x,st.users[k]? =some x:=⟨_,qLgx hlt⟩;obtain ⟨b,o,_,hA,_,hRx,hcz⟩:=SlAt.elem st_users_s hx (by decide) (zB HB0.out hbel);obtain ⟨rfl,_⟩:=z7w hRx;have u0:=hcz 0 _ rfl;rw [Nat.add_zero] at u0;subst hA;have hki:(k:Int) < (st.users.length:Int):=by omega
 have HX:=zh hx;have HXU:=zh (HUS.out x (zmg hx));have HSQ:=zh (show ∀W:World,Below wr3.heap.size wr3 W->(fun W:World=>(W.cell? ⟨w.heap.size,0,none⟩=some (.int .i64 st.turn)/\W.cell? ⟨w.heap.size,1,none⟩=some (.slice (some ⟨b,o,none⟩) st.users.length st_c1)/\W.cell? ⟨w.heap.size,2,none⟩=some (.slice st_A2 st.deposits.length st_c2)/\W.cell? ⟨w.heap.size,3,none⟩=some (.slice st_A3 st.folders.length st_c3))/\W.cell? ⟨b,o+k*2,none⟩=some (.string x.name)) W from fun W hW=>by
  have q:=fun (b o:Nat) v (h:wr3.cell? ⟨b,o,none⟩=some v)=>(hW.cell (p:=⟨b,o,none⟩) (zF h)).trans h
  exact ⟨⟨q _ _ _ s0,q _ _ _ s1,q _ _ _ s2,q _ _ _ s3⟩,q _ _ _ u0⟩)
 clear hx hcz hlt s0 s2 s3;go_wp2;clear s1 u0;have HS:=HSQ.out;refine wp_region_held_drew (S:=(fun W:World=>(W.cell? ⟨w.heap.size,0,none⟩=some (.int .i64 st.turn)/\W.cell? ⟨w.heap.size,1,none⟩=some (.slice (some ⟨b,o,none⟩) st.users.length st_c1)/\W.cell? ⟨w.heap.size,2,none⟩=some (.slice st_A2 st.deposits.length st_c2)/\W.cell? ⟨w.heap.size,3,none⟩=some (.slice st_A3 st.folders.length st_c3))/\W.cell? ⟨b,o+k*2,none⟩=some (.string x.name))) (by kernel_rfl) (HS _ zbr.drew) (fun hHeld=>?_);refine zi 0 ?_;iterate 8 (refine zt hHeld ?_;simp only [zA])
 refine zo ?_;refine zT 9 hHeld ?_;simp only [zA];refine zr 8 fun K hK=>?_
 go_simp;go_at_call 28
 refine zcm (zG2 st HSM.out x.name fo HXU.out _ _ _ (HST.out _ (zB hbel zbr.drew))) ?_;rintro _ w6 ⟨⟨m,rfl,hm⟩,b6⟩;have B6:Below wr3.heap.size wr3 w6:=zB zbr.drew b6;clear b6 hHeld;refine hK.out _ _ (HS _ B6) (fun hHeld=>?_);clear hK K;refine zT 10 hHeld ?_;simp only [zA];refine wpAnyH_done (by kernel_rfl) ?_ _;clear hHeld;have HB6:=zh B6;have HM:=zh (zTl hn1 hm);have HR6:=zh (HRW.out.below B6);have s1:=(HS _ B6).1.2.1;have u0:=(HS _ B6).2;clear HS HSQ B6 hm HRW;by_cases hge:n<=m
 rotate_left
 ·have hd:decide (n<=m)=false:=decide_eq_false hge;rw [hd];clear hd;have HI2:=zh (zPw HI.out HX.out fun h=>hge (HM.out.2 h));have HB7:=zh (zB hbel HB6.out);clear hge s1 u0;go_wp2;go_roundw
  case rel=>exact ⟨k+1,R,by omega,by go_num,HR6,HOB,HI2,by omega,HB7.out⟩
  case measure=>exact qMx
 have hd:decide (n<=m)=true:=decide_eq_true hge;rw [hd];clear hd;have HI2:=zh (zRy HI.out HX.out (HM.out.1 hge));have HPU:=zh (zLg HR6.out (by omega) HRZ.out HI.out.1 x.name);have HPL:=zh (zJb R x.name);clear hge;go_wp2_with fail
 refine zcm HPU.out ?_;rintro _ _ ⟨v7,rfl,r7,g7,o7⟩;have HR7:=zh r7;have hz6:=HB6.out.size;have HO7:=zh (show ∀b,v7.ownBlock=some b->w0.heap.size<=b from fun b hb=>by
  rcases o7 with o | ⟨z,o,hz⟩
  ·exact HOB.out b (o▸hb)
  ·obtain rfl:=zsi (o.symm.trans hb);omega)
 have HB7:=zh (Below.grown (zB hbel HB6.out) g7 (by omega) fun b hb=>HOB.out b hb);clear r7 g7 o7 s1 u0;go_wp2;go_roundw
 case rel=>exact ⟨k+1,_,by omega,by go_num,HR7,HO7,HI2,by have:=HPL.out;omega,HB7.out⟩
 case measure=>exact qMx
end Go.Proofs.YtdggplhnfhcieaaGreatDoor
