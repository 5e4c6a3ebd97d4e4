/- No condition. -/
import Derived.Shelf.Slices.In.SortAlone
import Derived.Shelf.Slices.In.SortNone
import Derived.Shelf.Slices.CompactS
import Derived.Sort.OwnSorted
import Derived.Sort.EveryDepth
import Derived.Test.YtdggplhnfhcieaaGreatDoorX16
set_option linter.all false
set_option maxRecDepth 100000
set_option maxHeartbeats 16000000
namespace Go.Proofs.YtdggplhnfhcieaaGreatDoor
section
open Go.RowKit Go.Deep Go.Maps
theorem zO2 {nm:Nm} {len:Nat} {l:List GN} {k:Nat} {x:GN} (hx:l[k]? =some x):z1o nm len (l.take (k+1))=z4i nm len (z1o nm len (l.take k)) x:=by
 rw [qLtx,hx];exact zBn _ _ _ _
theorem zQe (f:Folder) (l:List GN) (cs:List Value) (v:Value) (w:World) (S:Nat->Prop) (h:ZG S w cs f) (hr:RowC 244 3 w v (l.map cG)) (hl:l.length<=6000):Calls Tryz.prog 197 #[.agg cs.toArray,v] w fun e w'=>e= .returned (.int .i64 (z1o f.name f.epochs.length l))/\Below w.heap.size w w':=by
 have HR:=zh h;have HL:=zh hr;obtain ⟨f_A2,f_c2,f_A3,f_c3,f_A4,f_c4,f_A5,f_c5,f_A6,f_c6,rfl,_,_,_,_,_,f_manifests_s,_,_,_,f_epochs_s,_,_,_,f_items_s,_,_,_,f_wraps_s,_,_,_,f_links_s⟩:=Z2 h;obtain ⟨w0,_,cw0,fw0,Bw0,qw0⟩:=zQ w #[.string f.name,.int .i64 f.turn,.slice f_A2 f.manifests.length f_c2,.slice f_A3 f.epochs.length f_c3,.slice f_A4 f.items.length f_c4,.slice f_A5 f.wraps.length f_c5,.slice f_A6 f.links.length f_c6] 74;have HC0:=zh cw0;have HB0:=zh Bw0;obtain ⟨A,c,rfl,-⟩:=hr.shape;rw [qLmx] at HL⊢;clear cw0 fw0 Bw0 hr f_manifests_s f_epochs_s f_items_s f_wraps_s f_links_s;go_enter Tryz.func197,Tryz.ntmps197
 go_wp2;go_loopw [5,10] (fun o i wr=>∃k:Nat,k<=l.length/\i= .int .i64 k/\o= .int .i64 (z1o f.name f.epochs.length (l.take k))/\Below w0.heap.size w0 wr) (fun _ i _=>l.length - (intOf i).toNat)
 case atStart=>exact ⟨0,by omega,by go_num,rfl,Below.refl _ _⟩
 obtain ⟨k,_,rfl,rfl,hbel⟩:=hrel;have hz:=hbel.size;have hq:w.heap.size < wr.heap.size:=by omega
 by_cases hlt:k < l.length
 rotate_left
 ·obtain rfl:k=l.length:=by omega
  rw [qLnx];go_wp2;go_ret;exact ⟨rfl,zB HB0.out hbel⟩
 obtain ⟨x,hx⟩:∃x,l[k]? =some x:=⟨_,qLgx hlt⟩;have HB:=zh (zB HB0.out hbel);obtain ⟨g,off,cap,hv,-,hcm,-,hcz,-⟩:=(HL.out.below HB.out).at (i:=k) (x:=cG x) (by rw [List.getElem?_map,hx];rfl);unfold maxLen at hcm;obtain ⟨rfl,-,rfl⟩:A=some ⟨g,off,none⟩/\l.length=(l.map cG).length/\c=cap:=by simpa using hv
 have u0:=hcz 0 _ rfl;have u1:=hcz 1 _ rfl;have u2:=hcz 2 _ rfl;rw [Nat.add_zero] at u0;have HT:=zh (zO2 (nm:=f.name) (len:=f.epochs.length) hx);have b0:=(hbel.cell (p:=⟨w.heap.size,0,none⟩) qw0).trans (HC0.out 0 _ rfl);have b1:=(hbel.cell (p:=⟨w.heap.size,1,none⟩) qw0).trans (HC0.out 1 _ rfl);have b2:=(hbel.cell (p:=⟨w.heap.size,2,none⟩) qw0).trans (HC0.out 2 _ rfl);have b3:=(hbel.cell (p:=⟨w.heap.size,3,none⟩) qw0).trans (HC0.out 3 _ rfl);have b4:=(hbel.cell (p:=⟨w.heap.size,4,none⟩) qw0).trans (HC0.out 4 _ rfl);have b5:=(hbel.cell (p:=⟨w.heap.size,5,none⟩) qw0).trans (HC0.out 5 _ rfl);have b6:=(hbel.cell (p:=⟨w.heap.size,6,none⟩) qw0).trans (HC0.out 6 _ rfl);have hki:(k:Int) < (l.length:Int):=by omega
 obtain ⟨a,s,n⟩:=x;dsimp only at u0 u1 u2;clear hcz hv hx;generalize hm:z1o f.name f.epochs.length (l.take k)=m at HT;clear hm
 cases a with
 | false=>
  have HE:=zh (show m=z1o f.name f.epochs.length (l.take (k+1)) by rw [HT.out,z4i,if_neg (by simp)]);go_wp2;go_roundw
  case rel=>exact ⟨k+1,by omega,by go_num,by rw [<-HE.out],by go_grown⟩
  case measure=>exact qMx
 | true=>
  by_cases hs:s=f.name
  rotate_left
  ·have hse:(s.toList==f.name.toList)=false:=z03 hs;have HE:=zh (show m=z1o f.name f.epochs.length (l.take (k+1)) by rw [HT.out,z4i,if_neg (by simp [hs])]);clear hs;go_wp2;go_roundw
   case rel=>exact ⟨k+1,by omega,by go_num,by rw [<-HE.out],by go_grown⟩
   case measure=>exact qMx
  subst hs;have hse:(f.name.toList==f.name.toList)=true:=by simp
  have HH:=zh (fun W hW=>zDc f n _ W S (Z5 HR.out (zK hW)))
  cases hh:z8g f n with
  | true=>
   have hh2:=z63.1 hh;have HE:=zh (show max m n=z1o f.name f.epochs.length (l.take (k+1)) by rw [HT.out,z4i,if_pos ⟨rfl,rfl,hh2⟩]);rw [hh] at HH;clear hh hh2;go_wp2_with (go_at_call 190;refine zcm (HH.out _ (zB HB.out (by go_grown))) ?_;rintro e w1 ⟨rfl,B1⟩;have HB1:=zh (show Below wr.heap.size wr w1 from zB (by go_grown) B1);have d2:w1.cell? ⟨wr.heap.size,2,none⟩=some (.int .i64 n):=(B1.cell (p:=⟨wr.heap.size,2,none⟩) (by simp)).trans (by simp);clear B1)
   go_roundw
   case rel=>exact ⟨k+1,by omega,by go_num,by rw [<-HE.out],zB hbel HB1.out⟩
   case measure=>exact qMx
  | false=>
   have HE:=zh (show m=z1o f.name f.epochs.length (l.take (k+1)) by
    rw [HT.out,z4i,if_neg];rintro ⟨_,_,h3,h4⟩;rw [z63.2 ⟨h3,h4⟩] at hh;cases hh)
   rw [hh] at HH;clear hh;go_wp2_with (go_at_call 190;refine zcm (HH.out _ (zB HB.out (by go_grown))) ?_;rintro e w1 ⟨rfl,B1⟩;have HB1:=zh (show Below wr.heap.size wr w1 from zB (by go_grown) B1);clear B1)
   go_roundw
   case rel=>exact ⟨k+1,by omega,by go_num,by rw [<-HE.out],zB hbel HB1.out⟩
   case measure=>exact qMx
theorem zO3 (s:Nm) (w:World):Calls Tryz.prog 200 #[.string s] w fun e w'=>e= .returned (.agg #[.bool false,.string s,.int .i64 0])/\Below w.heap.size w w':=z7j s w
theorem zSj {w:World} {x:GN} {g:Nat} (h:w.heap[g]? =some (.cells #[.bool x.1,.string x.2.1,.int .i64 x.2.2] 244 (0,0))):RowC 244 3 w (.slice (some ⟨g,0,none⟩) 1 1) [cG x]:=by
 refine ⟨fun y hy=>?_,.inr ⟨g,0,1,_,rfl,h,znl _,by unfold maxLen;omega,by simp,fun q u hq=>?_⟩⟩
 ·obtain rfl:=zml hy;exact ⟨zTr _,zA4 _⟩
 rw [Nat.zero_add];simpa [cG] using hq
theorem zBp (st:State) (u fo:Nm) (cs:List Value) (w:World) (S:Nat->Prop) (h:yB S w cs st) (ok:OkSt st) (hu:u.size<=1000):Calls Tryz.prog 179 #[.agg cs.toArray,.string u,.string fo] w fun e w'=>(∃n:Int,e= .returned (.int .i64 n)/\IsReach st u fo n)/\Below w.heap.size w w':=by
 have HR:=zh h;obtain ⟨st_A1,st_c1,st_A2,st_c2,st_A3,st_c3,rfl,_,_,_,_,st_users_s,_,_,_,st_deposits_s,_,_,_,st_folders_s⟩:=ZP h;obtain ⟨w0,hw0,cw0,fw0,Bw0,qw0⟩:=zQ w #[.int .i64 st.turn,.slice st_A1 st.users.length st_c1,.slice st_A2 st.deposits.length st_c2,.slice st_A3 st.folders.length st_c3] 34;have HB0:=zh Bw0;have HC0:=zh cw0;have HOK:=zh ok;have s0:=cw0 0 _ rfl;have s1:=cw0 1 _ rfl;have s2:=cw0 2 _ rfl;have s3:=cw0 3 _ rfl;clear cw0 fw0 Bw0 ok st_users_s st_deposits_s st_folders_s;go_enter Tryz.func179,Tryz.ntmps179
 go_wp2_with fail
 clear hw0;refine zcm (z7i st fo _ w0 S (Z0 HR.out (zK HB0.out))) ?_;rintro e w1 ⟨⟨cf,rfl,hf⟩,B1⟩;have HB1:=zh B1;have hq1:w.heap.size < w1.heap.size:=zll qw0 B1.size;clear s0 s1 s2 s3
 cases hF:zP st fo with
 | none=>
  rw [hF] at hf;replace hf:ZG S w1 cf yH:=hf;simp only [Option.isSome_none];have HF:=zh hF;obtain ⟨f_A2,f_c2,f_A3,f_c3,f_A4,f_c4,f_A5,f_c5,f_A6,f_c6,rfl,f_name_le,f_turn_ok,f_manifests_l,f_manifests_m,f_manifests_n,f_manifests_s,f_epochs_l,f_epochs_m,f_epochs_n,f_epochs_s,f_items_l,f_items_m,f_items_n,f_items_s,f_wraps_l,f_wraps_m,f_wraps_n,f_wraps_s,f_links_l,f_links_m,f_links_n,f_links_s⟩:=Z2 hf;clear hF;go_wp2;go_ret
  exact ⟨⟨0,rfl,.inl ⟨HF.out,rfl⟩⟩,by have h0:=HB0.out;have h1:=zB h0 HB1.out;go_grown⟩
 | some f=>
  rw [hF] at hf;replace hf:ZG S w1 cf f:=hf;simp only [Option.isSome_some];have HF:=zh hF;have HFR:=zh hf;obtain ⟨f_A2,f_c2,f_A3,f_c3,f_A4,f_c4,f_A5,f_c5,f_A6,f_c6,rfl,f_name_le,f_turn_ok,f_manifests_l,f_manifests_m,f_manifests_n,f_manifests_s,f_epochs_l,f_epochs_m,f_epochs_n,f_epochs_s,f_items_l,f_items_m,f_items_n,f_items_s,f_wraps_l,f_wraps_m,f_wraps_n,f_wraps_s,f_links_l,f_links_m,f_links_n,f_links_s⟩:=Z2 hf;obtain ⟨w2,_,cw2,fw2,Bw2,qw2⟩:=zQ w1 #[.string f.name,.int .i64 f.turn,.slice f_A2 f.manifests.length f_c2,.slice f_A3 f.epochs.length f_c3,.slice f_A4 f.items.length f_c4,.slice f_A5 f.wraps.length f_c5,.slice f_A6 f.links.length f_c6] 74;have B02:=zh (zB HB1.out Bw2);have HC2:=zh cw2;have HSQ:=zh (show ∀W:World,Below w2.heap.size w2 W->(fun W:World=>(W.cell? ⟨w.heap.size,0,none⟩=some (.int .i64 st.turn)/\W.cell? ⟨w.heap.size,1,none⟩=some (.slice st_A1 st.users.length st_c1)/\W.cell? ⟨w.heap.size,2,none⟩=some (.slice st_A2 st.deposits.length st_c2)/\W.cell? ⟨w.heap.size,3,none⟩=some (.slice st_A3 st.folders.length st_c3))/\W.cell? ⟨w1.heap.size,0,none⟩=some (.string f.name)/\W.cell? ⟨w1.heap.size,1,none⟩=some (.int .i64 f.turn)/\W.cell? ⟨w1.heap.size,2,none⟩=some (.slice f_A2 f.manifests.length f_c2)/\W.cell? ⟨w1.heap.size,3,none⟩=some (.slice f_A3 f.epochs.length f_c3)/\W.cell? ⟨w1.heap.size,4,none⟩=some (.slice f_A4 f.items.length f_c4)/\W.cell? ⟨w1.heap.size,5,none⟩=some (.slice f_A5 f.wraps.length f_c5)/\W.cell? ⟨w1.heap.size,6,none⟩=some (.slice f_A6 f.links.length f_c6)) W from fun W hW=>by
   have c:=fun j v (hj:(#[.int .i64 st.turn,.slice st_A1 st.users.length st_c1,.slice st_A2 st.deposits.length st_c2,.slice st_A3 st.folders.length st_c3]:Array Value)[j]? =some v)=>((zB B02.out hW).cell (p:=⟨w.heap.size,j,none⟩) qw0).trans (HC0.out j v hj)
   have d:=fun j v (hj:(#[.string f.name,.int .i64 f.turn,.slice f_A2 f.manifests.length f_c2,.slice f_A3 f.epochs.length f_c3,.slice f_A4 f.items.length f_c4,.slice f_A5 f.wraps.length f_c5,.slice f_A6 f.links.length f_c6]:Array Value)[j]? =some v)=>(hW.cell (p:=⟨w1.heap.size,j,none⟩) qw2).trans (HC2.out j v hj)
   exact ⟨⟨c 0 _ rfl,c 1 _ rfl,c 2 _ rfl,c 3 _ rfl⟩,d 0 _ rfl,d 1 _ rfl,d 2 _ rfl,d 3 _ rfl,d 4 _ rfl,d 5 _ rfl,d 6 _ rfl⟩)
  have HB2:=zh (zB HB0.out B02.out);have HBF:=zh Bw2;clear hF cw2 fw2 Bw2 f_manifests_s f_epochs_s f_items_s f_wraps_s f_links_s;go_wp2;have HS:=HSQ.out;refine zE (by kernel_rfl) HS (fun hHeld=>?_);refine zi 0 ?_;iterate 2 (refine zt hHeld ?_;simp only [zA])
  refine zo ?_;refine zT 3 hHeld ?_;simp only [zA];refine zr 2 fun K hK=>?_
  go_simp;go_at_call 198
  refine zcm (zO1 st _ _ S (Z0 HR.out (zK (zB HB2.out zbr.drew))) HOK.out) ?_;rintro e w3 ⟨⟨_,_,rfl,hg,_⟩,b3⟩;have B3:Below w2.heap.size w2 w3:=zB zbr.drew b3;clear b3 hHeld;refine hK.out _ _ (HS _ B3) (fun hHeld=>?_);clear hK K;refine zr 4 fun K hK=>?_
  go_simp;go_at_call 200
  refine zcm (zO3 _ _) ?_;rintro e w4 ⟨rfl,b4⟩;have B4:Below w2.heap.size w2 w4:=zB B3 b4;have hg4:=hg.below b4;clear b4 hHeld;refine hK.out _ _ (HS _ B4) (fun hHeld=>?_);clear hK K;obtain ⟨w5,hw5,cw5,fw5,Bw5,_⟩:=zQ w4 #[.bool false,.string u,.int .i64 0] 244;have hrow:=zSj (w:=w5) (x:=uN u) (g:=w4.heap.size) (by rw [<-hw5];exact zJ _ rfl);have B5:Below w2.heap.size w2 w5:=zB B4 Bw5;have HG5:=zh (hg4.below Bw5);refine zr 5 fun K hK=>?_
  go_simp;clear hHeld;refine hK.out _ _ (HS _ B5) (fun hHeld=>?_);clear hK K hw5 cw5 fw5;refine zr 6 fun K hK=>?_
  go_simp;go_at_call 199
  refine zcm (zNy HG5.out (by decide) (uN u) (okU hu) _ hrow) ?_;rintro e w6 ⟨_,all,rfl,hall,hmem,hlen,-,b6⟩;have B6:Below w2.heap.size w2 w6:=zB B5 b6;clear b6 hHeld;refine hK.out _ _ (HS _ B6) (fun hHeld=>?_);clear hK K;refine zr 7 fun K hK=>?_
  go_simp;go_at_call 197
  refine zcm (zQe f all _ _ _ S (Z5 HFR.out (zK (zB HBF.out B6))) hall hlen) ?_;rintro e w7 ⟨rfl,b7⟩;have B7:=zh (show Below w2.heap.size w2 w7 from zB B6 b7);clear b7 hHeld;refine hK.out _ _ (HS _ B7.out) (fun hHeld=>?_);clear hK K;refine zT 8 hHeld ?_;simp only [zA];refine wpAnyH_done (by kernel_rfl) ?_ _;clear hHeld HS;have HM:=zh (zLk (u:=u) HF.out hmem);go_wp2;go_ret;exact ⟨⟨_,rfl,HM.out⟩,zB HB2.out B7.out⟩
end
section
open Go.RowKit Go.Deep Go.Shelf Go.Sort Go.Proofs
def zJo:Go.Shelf.Ren:=⟨fun | 190=>149 | 125=>181 | 258=>180 | 128=>210 | 129=>211 | 302=>201 | 303=>202 | 304=>203 | 305=>204 | 306=>205 | 307=>206 | 308=>207 | 309=>208 | 310=>209 | 333=>231 | 329=>232 | 330=>233 | 334=>234 | 335=>235 | 336=>187 | 344=>244 | n=>n,fun | 31=>45 | 9=>9 | 3=>3 | 46=>225 | 0=>0 | 51=>62 | 53=>256 | 4=>4 | 183=>248 | 182=>247 | 131=>208 | 5=>5 | 218=>271 | 222=>275 | 228=>288 | 229=>203 | n=>n,fun | n=>n⟩
theorem zKs:Go.Proofs.Lays.n190 Tryz.prog zJo:={
 mixed:=by kernel_rfl,
 f125:=Tryz.func181.trans (congrArg some (by kernel_rfl)),
 f128:=Tryz.func210.trans (congrArg some (by kernel_rfl)),
 f129:=Tryz.func211.trans (congrArg some (by kernel_rfl)),
 f190:=Tryz.func149.trans (congrArg some (by kernel_rfl)),
 f258:=Tryz.func180.trans (congrArg some (by kernel_rfl)),
 f302:=Tryz.func201.trans (congrArg some (by kernel_rfl)),
 f303:=Tryz.func202.trans (congrArg some (by kernel_rfl)),
 f304:=Tryz.func203.trans (congrArg some (by kernel_rfl)),
 f305:=Tryz.func204.trans (congrArg some (by kernel_rfl)),
 f306:=Tryz.func205.trans (congrArg some (by kernel_rfl)),
 f307:=Tryz.func206.trans (congrArg some (by kernel_rfl)),
 f308:=Tryz.func207.trans (congrArg some (by kernel_rfl)),
 f309:=Tryz.func208.trans (congrArg some (by kernel_rfl)),
 f310:=Tryz.func209.trans (congrArg some (by kernel_rfl)),
 f329:=Tryz.func232.trans (congrArg some (by kernel_rfl)),
 f330:=Tryz.func233.trans (congrArg some (by kernel_rfl)),
 f333:=Tryz.func231.trans (congrArg some (by kernel_rfl)),
 f334:=Tryz.func234.trans (congrArg some (by kernel_rfl)),
 f335:=Tryz.func235.trans (congrArg some (by kernel_rfl)),
 f336:=Tryz.func187.trans (congrArg some (by kernel_rfl)),
 f344:=Tryz.func244.trans (congrArg some (by kernel_rfl)),
 t0:=Tryz.underlying0,
 a0:=Tryz.isAgg0,
 z0:=Tryz.sizeOf0,
 v0:=Tryz.zeroValue0,
 t3:=Tryz.underlying3,
 a3:=Tryz.isAgg3,
 z3:=Tryz.sizeOf3,
 v3:=Tryz.zeroValue3,
 t4:=Tryz.underlying4,
 a4:=Tryz.isAgg4,
 z4:=Tryz.sizeOf4,
 v4:=Tryz.zeroValue4,
 t5:=Tryz.underlying5,
 a5:=Tryz.isAgg5,
 z5:=Tryz.sizeOf5,
 v5:=Tryz.zeroValue5,
 t9:=Tryz.underlying9,
 a9:=Tryz.isAgg9,
 z9:=Tryz.sizeOf9,
 v9:=Tryz.zeroValue9,
 t31:=Tryz.underlying45,
 a31:=Tryz.isAgg45,
 z31:=Tryz.sizeOf45,
 v31:=Tryz.zeroValue45,
 t46:=Tryz.underlying225,
 a46:=Tryz.isAgg225,
 z46:=Tryz.sizeOf225,
 v46:=Tryz.zeroValue225,
 t51:=Tryz.underlying62,
 a51:=Tryz.isAgg62,
 z51:=Tryz.sizeOf62,
 v51:=Tryz.zeroValue62,
 t53:=Tryz.underlying256,
 a53:=Tryz.isAgg256,
 z53:=Tryz.sizeOf256,
 v53:=Tryz.zeroValue256,
 t131:=Tryz.underlying208,
 a131:=Tryz.isAgg208,
 z131:=Tryz.sizeOf208,
 v131:=Tryz.zeroValue208,
 t182:=Tryz.underlying247,
 a182:=Tryz.isAgg247,
 z182:=Tryz.sizeOf247,
 v182:=Tryz.zeroValue247,
 t183:=Tryz.underlying248,
 a183:=Tryz.isAgg248,
 z183:=Tryz.sizeOf248,
 v183:=Tryz.zeroValue248,
 t218:=Tryz.underlying271,
 a218:=Tryz.isAgg271,
 z218:=Tryz.sizeOf271,
 v218:=Tryz.zeroValue271,
 t222:=Tryz.underlying275,
 a222:=Tryz.isAgg275,
 z222:=Tryz.sizeOf275,
 v222:=Tryz.zeroValue275,
 t228:=Tryz.underlying288,
 a228:=Tryz.isAgg288,
 z228:=Tryz.sizeOf288,
 v228:=Tryz.zeroValue288,
 t229:=Tryz.underlying203,
 a229:=Tryz.isAgg203,
 z229:=Tryz.sizeOf203,
 v229:=Tryz.zeroValue203 }
theorem zKt:∀x y:List UInt8,Op.bytesLess x y=true↔x < y
 | [],[]=>by simp [Op.bytesLess]
 | [],_ :: _=>by simp [Op.bytesLess]
 | _ :: _,[]=>by simp [Op.bytesLess]
 | a :: x,b :: y=>by
  rw [List.cons_lt_cons_iff,<-zKt x y];simp [Op.bytesLess]
theorem zSk {S:Nat->Prop} {w:World} {xs:List Value} {l:List Nm} (hl:xs.length=l.length) (h:Elems 1 z06 S w xs l):xs=(l.map fun s=>s.data.toList).map encStr:=by
 apply List.ext_getElem?;intro i;rw [List.getElem?_map,List.getElem?_map]
 cases hx:l[i]? with
 | none=>
  rw [List.getElem?_eq_none_iff] at hx;rw [List.getElem?_eq_none (by omega)]
  rfl
 | some x=>
  obtain ⟨_,_,h2,rfl,_⟩:=h i x hx;have:=h2 0 _ rfl;rw [Nat.mul_one,Nat.add_zero] at this;rw [this];rfl
abbrev Bs:=List UInt8
theorem zSl {w:World} {base:Nat} {e:TypeId} {v:Value} {ss:List Bs} (h:w.ownsRow base e 1 v ss.length (ss.map encStr)) (hl:ss.length<=2000):
  Calls Tryz.prog 149 #[v] w fun e' w'=>e'= .returned (.tuple #[])/\(∃ts:List Bs,w'.ownsRow base e 1 v ts.length (ts.map encStr)/\ts.Pairwise (fun a b=>a<=b)/\ts.Perm ss)/\w.grownBy w' v.ownBlock:=by
 rcases h.2 with ⟨rfl,h0⟩ | ⟨g,cap,cur,rfl,hb,hg,hnc,hcm,hcs,htk⟩
 ·obtain rfl:ss=[]:=List.eq_nil_of_length_eq_zero h0;refine zcm (calls_of_every_depth fun D=>AnyS.slices_Sort_string_none_alone zKs D none 0 w) ?_;rintro e' w' ⟨rfl,rfl⟩;exact ⟨rfl,⟨[],h,List.Pairwise.nil,List.Perm.refl _⟩,World.grownBy.refl _ _⟩
 have hH:=holds_of_block hg (ss:=ss) (by rw [<-htk,Nat.mul_one]);refine zcm (calls_of_every_depth fun D=>AnyS.slices_Sort_string_alone zKs D g 0 cap ss w hH (zO hg) (by omega)) ?_;rintro e' w' ⟨rfl,n,os,rfl⟩;have hperm:=List.mergeSort_perm ss fun x y=>decide (x<=y)
 have hsorted:=List.pairwise_mergeSort (le:=fun x y:Bs=>decide (x<=y)) (fun a b c h k=>by simp at*;exact List.le_trans h k) (fun a b=>by simp;exact List.le_total a b) ss;generalize ss.mergeSort (fun x y=>decide (x<=y))=ts at hperm hsorted⊢;have htl:ts.length=ss.length:=hperm.length_eq;have hown:=ownsRow_sorted (w:=w) (base:=base) (n:=n) (os:=os) (ss:=ss) (ts:=ts) htl hb hg hnc hcm hcs;exact ⟨rfl,⟨ts,by rw [htl];exact hown,hsorted.imp fun h=>by simpa using h,hperm⟩,grownBy_sorted _⟩
theorem zQf {ts:List Bs} {l:List Nm} (h:ts.Perm (l.map fun s=>s.data.toList)):(ts.map fun x=>(⟨x.toArray⟩:Nm)).Perm l:=by
 have:=h.map fun x=>(⟨x.toArray⟩:Nm)
 rw [List.map_map] at this;have e:l.map ((fun x=>(⟨x.toArray⟩:Nm)) ∘ fun s=>s.data.toList)=l:=by
  conv=>rhs;rw [<-List.map_id l]
  exact List.map_congr_left fun x _=>ByteArray.ext (by simp)
 rwa [e] at this
theorem zTv {a b:Bs} (h:a<=b):ltS (⟨b.toArray⟩:Nm) ⟨a.toArray⟩=false:=by
 cases hx:ltS (⟨b.toArray⟩:Nm) ⟨a.toArray⟩
 ·rfl
 unfold ltS at hx;rw [zKt,Lib.toList_data,Lib.toList_data] at hx;exact absurd (by simpa using hx) (List.not_lt.2 h)
theorem zLr {w:World} {base:Nat} {v:Value} {l:List Nm} (hG:Grow 9 1 z06 (fun _=>False) w base v l) (hl:l.length<=2000) (hsz:∀s∈l,s.size<=1000):
  Calls Tryz.prog 149 #[v] w fun e w'=>e= .returned (.tuple #[])/\(∃R:List Nm,Sl 1 z06 (fun _=>True) w' v R/\R.Perm l/\R.Pairwise fun a b=>ltS b a=false)/\w.grownBy w' v.ownBlock:=by
 obtain ⟨_,_,xs,hrow,hel⟩:=id hG;have hxl:xs.length=l.length:=by rw [hrow.1,Nat.mul_one]
 have hxs:=zSk hxl hel;subst hxs;have hrow2:w.ownsRow base 9 1 v (l.map fun s=>s.data.toList).length ((l.map fun s=>s.data.toList).map encStr):=by rw [qLmx];exact hrow
 refine zcm (zSl hrow2 (by rw [qLmx];exact hl)) ?_;rintro e _ ⟨rfl,⟨ts,ht,hso,hp⟩,hg⟩;refine ⟨rfl,⟨ts.map fun x=>⟨x.toArray⟩,?_,zQf hp,?_⟩,hg⟩
 ·have hz:∀z∈ts,z.length<=1000:=fun z hz=>by
   obtain ⟨x,hx,rfl⟩:=List.mem_map.1 (hp.mem_iff.1 hz);have:=hsz x hx;rw [Array.length_toList];exact this
  have htl:=hp.length_eq;rw [qLmx] at htl;rcases ht.2 with ⟨rfl,h0⟩ | ⟨g,cap,cur,rfl,hb,hg2,hnc,hcm,hcs,htk⟩
  ·obtain rfl:ts=[]:=List.eq_nil_of_length_eq_zero h0;exact z0k _ _ _ _
  refine zS2 (by rw [qLmx]) (by omega) hcm (by omega) trivial fun i x hx=>?_
  rw [List.getElem?_map] at hx
  cases hy:ts[i]? with
  | none=>rw [hy] at hx;cases hx
  | some z=>
   rw [hy] at hx;obtain rfl:(⟨z.toArray⟩:Nm)=x:=by simpa using hx
   have hil:=(zge hy).1;have hzl:=hz z (zmg hy);refine ⟨[.string ⟨z.toArray⟩],rfl,fun j y hj=>?_,rfl,by simp [ByteArray.size];omega⟩;have hj0:j=0:=by have:=(zge hj).1;simpa using this
   subst hj0;obtain rfl:Value.string ⟨z.toArray⟩=y:=by simpa using hj
   rw [cell_of_row _ g _ _ _ (0,0) hg2,Nat.zero_add,Nat.mul_one,Nat.add_zero];have h9:=congrArg (fun l=>l[i]?) htk;rw [List.getElem?_take,if_pos (by omega),List.getElem?_map,hy] at h9;rw [<-Array.getElem?_toList,h9];rfl
 rw [List.pairwise_map];exact hso.imp fun h=>zTv h
end
section
open Go.RowKit Go.Deep Go.Maps
def zFe (st:State) (fo:Nm) (n:Int) (x:Nm):Prop:=∃f,zP st fo=some f/\1<=n/\n<=f.epochs.length/\(∃u∈st.users,u.name=x)/\z2w st x fo n
theorem zKu {l:List User} {k:Nat} {y:User} (hy:l[k]? =some y) (x:Nm):(∃u∈l.take (k+1),u.name=x)↔(∃u∈l.take k,u.name=x)\/x=y.name:=by
 rw [qLtx,hy];constructor
 ·rintro ⟨u,hu,rfl⟩;rcases zmb hu with h | h
  ·exact .inl ⟨u,h,rfl⟩
  obtain rfl:u=y:=by simpa using h
  exact .inr rfl
 rintro (⟨u,hu,rfl⟩ | rfl)
 ·exact ⟨u,List.mem_append_left _ hu,rfl⟩
 exact ⟨y,List.mem_append_right _ (by simp),rfl⟩
end
section
open Go.RowKit Go.Deep
theorem z8u {S S':Nat->Prop} {w wr:World} {A:Option Addr} {l:List Nm} {k:Nat} (s:SlAt 1 z06 S w A l) (hk:k < l.length) (hb:Kept S S' w wr):
  ∃x b o,l[k]? =some x/\l.drop k=x :: l.drop (k+1)/\x∈l/\A=some ⟨b,o,none⟩/\wr.cell? ⟨b,o+k,none⟩=some (.string x):=by
 obtain ⟨x,hx,hd,hm⟩:=z5z hk;obtain ⟨b,o,_,hA,hS,_,hc,rfl,_⟩:=s k _ hx;have q:=Z9 (p:=⟨b,o+(k*1+0),none⟩) hb hS (hc 0 _ rfl);rw [Nat.mul_one,Nat.add_zero] at q;exact ⟨x,b,o,hx,hd,hm,hA,q⟩
def z96 (l:List Nm) (s:Nm):Bool:=l.any fun x=>decide (x=s)
theorem z0v {l:List Nm} {s:Nm}:z96 l s=true↔s∈l:=by simp [z96]
theorem zE7 (l:List Nm) (v:Value) (s:Nm) (w:World) (S:Nat->Prop) (h:Sl 1 z06 S w v l):Calls Tryz.prog 49 #[v,.string s] w fun e w'=>e= .returned (.bool (z96 l s))/\w'=w:=by
 obtain ⟨_,_,rfl,_,hc,_,hs⟩:=h;unfold maxLen at hc;go_enter Tryz.func49,Tryz.ntmps49
 go_wp2;go_loop [5] (fun i=>∃k:Nat,k<=l.length/\i= .int .i64 k/\Hid (s∉l.take k)) (fun i=>l.length - (intOf i).toNat)
 case atStart=>exact ⟨0,by omega,by go_num,by simp [Hid]⟩
 obtain ⟨k,_,rfl,HK⟩:=hrel;by_cases hlt:k < l.length
 rotate_left
 ·obtain rfl:k=l.length:=by omega
  have M:=zh (show z96 l s=false by rw [<-Bool.not_eq_true,z0v];have:=HK.out;rwa [qLnx] at this);go_wp2;go_ret;exact ⟨ZM M.out.symm,rfl⟩
 obtain ⟨x,_,_,hx,_,hm,rfl,_⟩:=z8u hs hlt (Kept.refl w fun _ h=>h);by_cases e:x=s
 ·subst e;have M:=zh (z0v.2 hm);clear hx hm;go_wp2;go_ret;exact ⟨ZM M.out.symm,rfl⟩
 have e1:=z03 e;have HK2:=zh (show s∉l.take (k+1) by rw [qLtx,hx];simp [Ne.symm e];exact HK.out);clear hx hm;go_wp2;go_round
 case rel=>exact ⟨k+1,by omega,by go_num,HK2⟩
 case measure=>exact qMx
end
section
open Go.RowKit Go.Deep
def isI (s:Nm) (x:Item):Bool:=decide (x.name=s)
theorem zO4 (s:Nm) (B:Nat) (x:Item) (cs:List Value) (w:World) (S:Nat->Prop) (h:YB S w cs x) (hB:w.cell? ⟨B,0,none⟩=some (.string s)):
  Calls Tryz.prog 178 #[.agg cs.toArray,.pointer (some ⟨B,0,none⟩)] w fun e w'=>e= .returned (.bool (isI s x))/\Below w.heap.size w w':=by
 obtain ⟨_,_,rfl,_,_,_,_,_⟩:=z4h h;have hBl:=zF hB;have E:=zh (yV (a:=x.name) (b:=s));go_enter Tryz.func178,Tryz.ntmps178
 go_wp2;go_ret;exact ⟨ZM E.out,by go_grown⟩
theorem zJp (s:Nm) (B:Nat) (l:List Item) (v:Value) (w:World) (S:Nat->Prop) (h:Sl 2 YB S w v l) (hB:w.cell? ⟨B,0,none⟩=some (.string s)):
  Calls Tryz.prog 167 #[v,.func (.func 178) #[] #[.pointer (some ⟨B,0,none⟩)]] w fun e w'=>(∃i:Int,e= .returned (.int .i64 i)/\AtI (isI s) l i)/\Below w.heap.size w w':=by
 have HB:=zh hB;clear hB;obtain ⟨_,_,rfl,_,hc,_,hs⟩:=h;unfold maxLen at hc;go_enter Tryz.func167,Tryz.ntmps167
 go_wp2;go_loopw [8] (fun i wr=>∃(k:Nat),k<=l.length/\i= .int .i64 k/\Hid (∀y∈l.take k,isI s y=false)/\Below w.heap.size w wr) (fun i _=>l.length - (intOf i).toNat)
 case atStart=>exact ⟨0,by omega,by go_num,(fun y hy=>by simp at hy),by go_grown⟩
 obtain ⟨k,_,rfl,HN,hbel⟩:=hrel;have hz:=hbel.size;by_cases hlt:k < l.length
 rotate_left
 ·obtain rfl:k=l.length:=by omega
  have EH:=zh (zFb (p:=isI s) (l:=l) (by have:=HN.out;rwa [qLnx] at this));go_wp2;go_ret;exact ⟨⟨_,rfl,.inr ⟨rfl,EH.out⟩⟩,hbel⟩
 obtain ⟨x,_,_,_,_,x_k,x_d,_,rfl,_,_,_,_,x_R,_,_,_,_,_⟩:=z5a hs hlt (zK hbel);have HX:=zh x_k;clear x_k x_d;go_wp2_with fail
 refine zcm (zO4 s B x _ _ S x_R ((hbel.cell (p:=⟨B,0,none⟩) (zF HB.out)).trans HB.out)) ?_;rintro e _ ⟨rfl,hb1⟩;cases hpx:isI s x
 ·have EH:=zh (z0l HN.out HX.out hpx);go_wp2;go_roundw
  case rel=>exact ⟨k+1,by omega,by go_num,EH,zB hbel hb1⟩
  case measure=>exact qMx
 have EH:=zh (z7z HN.out HX.out hpx);go_wp2;go_ret;exact ⟨⟨_,rfl,.inl ⟨k,x,rfl,HX.out,EH.out⟩⟩,zB hbel hb1⟩
def z3u (st:State) (u fo it:Nm) (n:Int):Prop:=∃f x v,zP st fo=some f/\f.items.find? (isI it)=some x/\1<=n/\n<=x.versions.length/\x.versions[(n - 1).toNat]? =some v/\v.gone=false/\1<=v.epoch/\∃m,IsReach st u fo m/\v.epoch<=m
theorem zLs {st:State} {s:Nm} {f:Folder} (h:(zP st s).getD yH=f) {x:Item} {p:Item->Bool} (hx:f.items.find? p=some x):zP st s=some f:=by
 cases hf:zP st s with
 | none=>
  rw [hf] at h;subst h
  cases hx
 | some g=>
  rw [hf] at h;exact congrArg some h
theorem zBq (p:Int->Prop):∀len:Nat,∃n,IsMost p len n
 | 0=>⟨0,Int.le_refl _,by simp,.inl rfl,fun e h1 h2 _=>by omega⟩
 | len+1=>by
  by_cases h:p ((len+1:Nat):Int)
  ·exact ⟨_,by omega,Int.le_refl _,.inr h,fun e _ h2 _=>h2⟩
  ·obtain ⟨n,h1,h2,h3,h4⟩:=zBq p len;exact ⟨n,h1,by omega,h3,fun e k1 k2 k3=>by
    by_cases he:e=((len+1:Nat):Int)
    ·subst he;exact absurd k3 h
    ·exact h4 e k1 (by omega) k3⟩
theorem zI2 (st:State) (u fo:Nm):∃n,IsReach st u fo n:=by
 cases hf:zP st fo with
 | none=>exact ⟨0,.inl ⟨hf,rfl⟩⟩
 | some f=>
  obtain ⟨n,hn⟩:=zBq (z2w st u fo) f.epochs.length;exact ⟨n,.inr ⟨f,hf,hn⟩⟩
theorem zJq (st:State) (u fo it:Nm) (n:Int) (cs:List Value) (w:World) (S:Nat->Prop) (h:yB S w cs st) (ok:OkSt st) (hu:u.size<=1000) (hn:I64 n):Calls Tryz.prog 147 #[.agg cs.toArray,.string u,.string fo,.string it,.int .i64 n] w fun e w'=>(∃b:Bool,e= .returned (.bool b)/\(b=true↔z3u st u fo it n))/\Below w.heap.size w w':=by
 have HR:=zh h;obtain ⟨st_A1,st_c1,st_A2,st_c2,st_A3,st_c3,rfl,_,_,_,_,st_users_s,_,_,_,st_deposits_s,_,_,_,st_folders_s⟩:=ZP h;obtain ⟨w0,hw0,cw0,fw0,Bw0,qw0⟩:=zQ w #[.int .i64 st.turn,.slice st_A1 st.users.length st_c1,.slice st_A2 st.deposits.length st_c2,.slice st_A3 st.folders.length st_c3] 34;obtain ⟨w1,hw1,cw1,fw1,Bw1,qw1⟩:=zQ w0 #[.string it] 9;have HB0:=zh Bw0;have HB1:=zh Bw1;have HC0:=zh cw0;have HC1:=zh cw1;have HOK:=zh ok;have HU:=zh hu;have s0:=(Bw1.cell (p:=⟨w.heap.size,0,none⟩) qw0).trans (cw0 0 _ rfl);have s1:=(Bw1.cell (p:=⟨w.heap.size,1,none⟩) qw0).trans (cw0 1 _ rfl);have s2:=(Bw1.cell (p:=⟨w.heap.size,2,none⟩) qw0).trans (cw0 2 _ rfl);have s3:=(Bw1.cell (p:=⟨w.heap.size,3,none⟩) qw0).trans (cw0 3 _ rfl);clear cw0 fw0 Bw0 cw1 fw1 Bw1 ok hu hn st_users_s st_deposits_s st_folders_s;go_enter Tryz.func147,Tryz.ntmps147
 go_wp2_with fail
 clear hw0 hw1;have HB01:=zh (zB HB0.out HB1.out);refine zcm (z7i st fo _ w1 S (Z0 HR.out (zK HB01.out))) ?_;rintro e w2 ⟨⟨_,rfl,hf⟩,B2⟩;have HB2:=zh B2;have hq1:w0.heap.size < w2.heap.size:=zll qw1 B2.size;have hq0:w.heap.size < w2.heap.size:=Nat.lt_trans qw0 hq1;clear s0 s1 s2 s3 B2;obtain ⟨f,hfe⟩:∃f,(zP st fo).getD yH=f:=⟨_,rfl⟩;rw [hfe] at hf;have HFE:=zh hfe;obtain ⟨_,hok2⟩:∃b,(zP st fo).isSome=b:=⟨_,rfl⟩;rw [hok2];obtain ⟨f_A2,f_c2,f_A3,f_c3,f_A4,f_c4,f_A5,f_c5,f_A6,f_c6,rfl,_,_,_,_,_,f_manifests_s,_,_,_,f_epochs_s,f_items_l,f_items_m,f_items_n,f_items_s,_,_,_,f_wraps_s,_,_,_,f_links_s⟩:=Z2 hf;obtain ⟨w3,hw3,cw3,fw3,Bw3,qw3⟩:=zQ w2 #[.string f.name,.int .i64 f.turn,.slice f_A2 f.manifests.length f_c2,.slice f_A3 f.epochs.length f_c3,.slice f_A4 f.items.length f_c4,.slice f_A5 f.wraps.length f_c5,.slice f_A6 f.links.length f_c6] 74;have HB3:=zh (zB HB2.out Bw3);have HC3:=zh cw3;have d4:=cw3 4 _ rfl;have HIS:=zh (show Sl 2 YB S w3 (.slice f_A4 f.items.length f_c4) f.items from Sl.keep z3p (by decide) ⟨_,_,rfl,f_items_l,f_items_m,f_items_n,f_items_s⟩ (zK Bw3));have e0:=(HB3.out.cell (p:=⟨w0.heap.size,0,none⟩) qw1).trans (HC1.out 0 _ rfl);have HI:=zh (zJp it w0.heap.size f.items _ w3 S HIS.out e0);clear hfe hok2 cw3 fw3 Bw3 f_manifests_s f_epochs_s f_items_s f_wraps_s f_links_s e0;go_wp2_with fail
 clear hw3 d4;refine zcm HI.out ?_;rintro e w4 ⟨⟨_,rfl,hi⟩,B4⟩;have HB4:=zh (zB HB3.out B4);have HB34:=zh B4;have HBA:=zh (zB HB01.out HB4.out);have d4:=(B4.cell (p:=⟨w2.heap.size,4,none⟩) qw3).trans (HC3.out 4 _ rfl);clear B4;rcases hi with ⟨k,x,rfl,hk,hx⟩ | ⟨rfl,hx⟩
 rotate_left
 ·have HX:=zh (show ¬z3u st u fo it n from by
   rintro ⟨g,y,v,h1,h2,_⟩;have:f=g:=by rw [<-HFE.out,h1];rfl
   subst this;rw [hx] at h2;cases h2)
  clear hx;go_wp2;go_ret;exact ⟨⟨false,rfl,⟨fun h=>(by cases h),fun h=>absurd h HX.out⟩⟩,HBA.out⟩
 have hff:=zLs HFE.out hx;have HFF:=zh hff;have HX:=zh hx;have hk0:decide ((k:Int) < 0)=false:=decide_eq_false (by omega);have hkl:=(zge hk).1;have hki:(k:Int) < (f.items.length:Int):=by omega
 have hfn:f.items.length<=140737488355328:=f_items_n;obtain ⟨_,_,hA',-,-,-,hsl⟩:=HIS.out;cases hA'
 obtain ⟨b,_,_,hA,_,hR,hcz⟩:=SlAt.elem hsl hk (by decide) HB34.out;obtain ⟨_,_,rfl,_,_,_,_,x_versions_s⟩:=z4h hR;have u0:=hcz 0 _ rfl;have u1:=hcz 1 _ rfl;rw [Nat.add_zero] at u0;subst hA;have HGP:Hid (∀m:Int,1<=m->∀v,n=m->m<=x.versions.length->x.versions[(m - 1).toNat]? =some v->∀r,IsReach st u fo r->(z3u st u fo it n↔(v.gone=false/\1<=v.epoch/\v.epoch<=r))):=by
  intro m hm v hnm hml hv r hr;subst hnm;constructor
  ·rintro ⟨g,y,v',h1,h2,_,_,h5,h6,h7,_,h8,h9⟩;obtain rfl:f=g:=zsi (hff.symm.trans h1);obtain rfl:x=y:=zsi (HX.out.symm.trans h2);obtain rfl:v=v':=zsi (hv.symm.trans h5);obtain rfl:=h8.one hr;exact ⟨h6,h7,h9⟩
  ·rintro ⟨h1,h2,h3⟩;exact ⟨f,x,v,hff,HX.out,hm,hml,hv,h1,h2,r,hr,h3⟩
 clear hff hx hk hcz;by_cases hn1:n < 1
 ·have HNO:=zh (show ¬z3u st u fo it n from fun ⟨_,_,_,_,_,h,_⟩=>by omega);have hn1':decide (n < 1)=true:=decide_eq_true hn1;clear hn1;go_wp2;go_ret;exact ⟨⟨false,rfl,⟨fun h=>(by cases h),fun h=>absurd h HNO.out⟩⟩,HBA.out⟩
 have hn1':decide (n < 1)=false:=decide_eq_false hn1;by_cases hn2:(x.versions.length:Int) < n
 ·have HNO:=zh (show ¬z3u st u fo it n from fun ⟨g,y,_,h1,h2,_,h4,_⟩=>by
   obtain rfl:f=g:=zsi (HFF.out.symm.trans h1);obtain rfl:x=y:=zsi (HX.out.symm.trans h2);omega)
  have hn2':decide ((x.versions.length:Int) < n)=true:=decide_eq_true hn2;clear hn1 hn2;go_wp2;go_ret;exact ⟨⟨false,rfl,⟨fun h=>(by cases h),fun h=>absurd h HNO.out⟩⟩,HBA.out⟩
 have hn2':decide ((x.versions.length:Int) < n)=false:=decide_eq_false hn2;obtain ⟨j,rfl⟩:∃j:Nat,n=(j:Int)+1:=⟨(n - 1).toNat,by omega⟩;have hjl:j < x.versions.length:=by omega
 obtain ⟨v,hv⟩:∃v,x.versions[j]? =some v:=⟨_,qLgx hjl⟩;have HGQ:=zh (fun r hr=>HGP ((j:Int)+1) (by omega) v rfl (by omega) (by rw [show ((j:Int)+1 - 1).toNat=j by omega];exact hv) r hr);obtain ⟨_,_,_,hA',_,hRv,hcz'⟩:=SlAt.elem x_versions_s hv (by decide) HB34.out;obtain ⟨v_A3,v_c3,rfl,_,_,_,_,_,v_data_s⟩:=zA2 hRv;have v0:=hcz' 0 _ rfl;have v1:=hcz' 1 _ rfl;have v2:=hcz' 2 _ rfl;have v3:=hcz' 3 _ rfl;rw [Nat.add_zero] at v0;subst hA';have hw1:IntKind.i64.wrap ((j:Int)+1 - 1)=(j:Int):=by rw [IntWalk.i64_in _ (by omega)];omega
 have hji:(j:Int) < (x.versions.length:Int):=by omega
 clear hn1 hn2 hv hcz' HGP x_versions_s v_data_s;obtain ⟨g,hg⟩:∃g,v.gone=g:=⟨_,rfl⟩;rw [hg] at v1 HGQ;clear hg;obtain ⟨w5,_,cw5,fw5,Bw5,qw5⟩:=zQ w4 #[.int .i64 v.epoch,.bool g,.string v.who,.slice v_A3 v.data.length v_c3] 80;have HB5:=zh (zB HBA.out Bw5);have HC5:=zh cw5;have HBW5:=zh Bw5;have d0:=cw5 0 _ rfl;have d1:=cw5 1 _ rfl;clear cw5 fw5 Bw5;obtain ⟨rr,hrr⟩:=zI2 st u fo
 cases g with
 | true=>
  have HNO:=zh (show ¬z3u st u fo it ((j:Int)+1) from fun h=>by have:=((HGQ.out rr hrr).1 h).1;cases this);clear hrr;go_wp2;go_quiet (fail)
  go_wp2;go_ret
  exact ⟨⟨false,rfl,⟨fun h=>(by cases h),fun h=>absurd h HNO.out⟩⟩,ZN HB5.out _⟩
 | false=>
  by_cases he:1<=v.epoch
  rotate_left
  ·have HNO:=zh (show ¬z3u st u fo it ((j:Int)+1) from fun h=>he ((HGQ.out rr hrr).1 h).2.1);have hed:decide (1<=v.epoch)=false:=decide_eq_false he;clear hrr he;go_wp2;go_quiet (fail)
   go_wp2;go_ret;exact ⟨⟨false,rfl,⟨fun h=>(by cases h),fun h=>absurd h HNO.out⟩⟩,ZN HB5.out _⟩
  have hed:decide (1<=v.epoch)=true:=decide_eq_true he;have HE:=zh he;have HSQ:=zh (show ∀W:World,Below w5.heap.size w5 W->(fun W:World=>(W.cell? ⟨w.heap.size,0,none⟩=some (.int .i64 st.turn)/\W.cell? ⟨w.heap.size,1,none⟩=some (.slice st_A1 st.users.length st_c1)/\W.cell? ⟨w.heap.size,2,none⟩=some (.slice st_A2 st.deposits.length st_c2)/\W.cell? ⟨w.heap.size,3,none⟩=some (.slice st_A3 st.folders.length st_c3))/\W.cell? ⟨w4.heap.size,0,none⟩=some (.int .i64 v.epoch)/\W.cell? ⟨w4.heap.size,1,none⟩=some (.bool false)) W from fun W hW=>by
   have c:=fun j v (hj:(#[.int .i64 st.turn,.slice st_A1 st.users.length st_c1,.slice st_A2 st.deposits.length st_c2,.slice st_A3 st.folders.length st_c3]:Array Value)[j]? =some v)=>((zB HB1.out (zB HB4.out (zB HBW5.out hW))).cell (p:=⟨w.heap.size,j,none⟩) qw0).trans (HC0.out j v hj)
   exact ⟨⟨c 0 _ rfl,c 1 _ rfl,c 2 _ rfl,c 3 _ rfl⟩,(hW.cell (p:=⟨w4.heap.size,0,none⟩) qw5).trans (HC5.out 0 _ rfl),(hW.cell (p:=⟨w4.heap.size,1,none⟩) qw5).trans (HC5.out 1 _ rfl)⟩)
  clear hrr he;go_wp2;have HS:=HSQ.out;refine zE (by kernel_rfl) HS (fun hHeld=>?_);refine zi 0 ?_;iterate 12 (refine zt hHeld ?_;simp only [zA])
  refine zo ?_;refine zi 13 ?_;iterate 2 (refine zt hHeld ?_;simp only [zA])
  refine zo ?_;refine zr 12 fun K hK=>?_
  go_simp;go_at_call 179
  refine zcm (zBp st u fo _ _ S (Z0 HR.out (zK (zB HB5.out zbr.drew))) HOK.out HU.out) ?_;rintro e w6 ⟨⟨r,rfl,hr⟩,b6⟩;have B6:=zh (show Below w5.heap.size w5 w6 from zB zbr.drew b6);clear b6 hHeld;refine hK.out _ _ (HS _ B6.out) (fun hHeld=>?_);clear hK K;have HRR:=zh hr;clear hr;refine zi 15 ?_;iterate 3 (refine zt hHeld ?_;simp only [zA])
  refine zo ?_;refine wpAnyH_done (by kernel_rfl) ?_ _;clear hHeld HS;go_wp2;go_ret;exact ⟨⟨_,rfl,by
   rw [HGQ.out r HRR.out,decide_eq_true_eq];exact ⟨fun h=>⟨(by first | rfl | trivial),HE.out,h⟩,fun h=>h.2.2⟩⟩,zB HB5.out B6.out⟩
end
theorem zBr {β:Type} (g:Folder->List β) (l:List Folder):((ZE Folder.name l).flatMap g).length<=(l.flatMap g).length:=by
 induction l using z60 with
 | h0=>simp [ZE]
 | hs l x ih=>
  rw [z0q];split
  ·rw [List.flatMap_append,qLax];omega
  rw [List.flatMap_append,List.flatMap_append,qLax,qLax];omega
theorem zQg (l:List Folder):(l.flatMap z1n).length<=z4l l:=by
 induction l with
 | nil=>simp
 | cons f l ih=>
  rw [List.flatMap_cons,qLax,zE6,z4l,z6y];have:=z5s Wrap.name f.wraps;omega
theorem zI3 {st:State} (h:Small st):OkSt st:=by
 refine ⟨fun p hp=>?_,fun f hf=>?_,?_,by have:=h.few8;omega⟩
 ·have:=h.pairs p hp;omega
 ·have hs:=h.short f hf;have hm:=zDf _ _ hf;have ha:=h.all;refine ⟨by have:=hs.name;omega,fun w hw=>by have:=hs.wrap w hw;omega,fun x hx=>by have:=hs.link x hx;omega,by unfold z6y at hm;omega⟩
 have h1:=zFd st;rw [z93] at h1;have h2:=zBr z1n st.folders;have h3:=zQg st.folders;have:=h.all;omega
section
open Go.RowKit Go.Deep
def z04 (l:List Epoch):Nat->Nat
 | 0=>0
 | 1=>1
 | k+2=>if ((l[k+1]?).map Epoch.place)=some 1 then k+2 else z04 l (k+1)
def YG (l:List Epoch) (e:Int):Int:=if 1<=e/\e<=l.length then z04 l e.toNat else e
theorem z8h {l:List Epoch} {e:Int} (h:¬(1<=e/\e<=l.length)):YG l e=e:=by rw [YG,if_neg h]
theorem zE8 {l:List Epoch} {k:Nat} (h1:1<=k) (h2:k<=l.length):YG l k=z04 l k:=by
 rw [YG,if_pos ⟨by omega,by omega⟩];rfl
theorem zBs {l:List Epoch} {k:Nat} {x:Epoch} (hx:l[k+1]? =some x):z04 l (k+2)=if x.place=1 then k+2 else z04 l (k+1):=by
 rw [z04,hx];simp
theorem z3k (f:Folder) (n:Int) (hn:I64 n) (cs:List Value) (w:World) (S:Nat->Prop) (h:ZG S w cs f):Calls Tryz.prog 163 #[.agg cs.toArray,.int .i64 n] w fun e w'=>e= .returned (.int .i64 (YG f.epochs n))/\Below w.heap.size w w':=by
 have HR:=zh h;obtain ⟨f_A2,f_c2,f_A3,f_c3,f_A4,f_c4,f_A5,f_c5,f_A6,f_c6,rfl,_,_,_,_,_,f_manifests_s,_,_,f_epochs_n,f_epochs_s,_,_,_,f_items_s,_,_,_,f_wraps_s,_,_,_,f_links_s⟩:=Z2 h;obtain ⟨w0,hw0,cw0,fw0,Bw0,qw0⟩:=zQ w #[.string f.name,.int .i64 f.turn,.slice f_A2 f.manifests.length f_c2,.slice f_A3 f.epochs.length f_c3,.slice f_A4 f.items.length f_c4,.slice f_A5 f.wraps.length f_c5,.slice f_A6 f.links.length f_c6] 74;have HC0:=zh cw0;have HB0:=zh Bw0;have HH:=zh (zDc f n _ w0 S (Z5 HR.out (zK Bw0)));have b0:=cw0 0 _ rfl;have b1:=cw0 1 _ rfl;have b2:=cw0 2 _ rfl;have b3:=cw0 3 _ rfl;have b4:=cw0 4 _ rfl;have b5:=cw0 5 _ rfl;have b6:=cw0 6 _ rfl;clear cw0 fw0 Bw0 f_manifests_s f_items_s f_wraps_s f_links_s
 cases hh:z8g f n with
 | false=>
  have HE:=zh (z8h (l:=f.epochs) (e:=n) fun h=>by rw [z63.2 h] at hh;cases hh);rw [hh] at HH;clear hh;go_enter Tryz.func163,Tryz.ntmps163
  go_wp2_with (go_at_call 190;refine zcm HH.out ?_;rintro e w1 ⟨rfl,b⟩;have HB1:=zh b;clear b)
  go_ret
  exact ⟨by rw [HE.out];rfl,zB HB0.out HB1.out⟩
 | true=>
  obtain ⟨_,_⟩:=z63.1 hh;rw [hh] at HH;obtain ⟨k,rfl⟩:∃k:Nat,n=k:=⟨n.toNat,by omega⟩;have HE:=zh (zE8 (l:=f.epochs) (k:=k) (by omega) (by omega));have hfl:f.epochs.length<=140737488355328:=f_epochs_n;clear hh hn;go_enter Tryz.func163,Tryz.ntmps163
  go_wp2_with (go_at_call 190;refine zcm HH.out ?_;rintro e w1 ⟨rfl,b⟩;have HB1:=zh b;have d3:=(b.cell (p:=⟨w.heap.size,3,none⟩) qw0).trans (HC0.out 3 _ rfl);clear b)
  clear hw0 b0 b1 b2 b3 b4 b5 b6;go_loop [1] (fun i=>∃m:Nat,1<=m/\m<=k/\i= .int .i64 m/\Hid (z04 f.epochs m=z04 f.epochs k)) (fun i=>(intOf i).toNat)
  case atStart=>exact ⟨k,by omega,znl _,rfl,zh rfl⟩
  obtain ⟨m,_,_,rfl,HF⟩:=hrel;rcases Nat.lt_or_ge 1 m with hm1 | hm1
  ·obtain ⟨q,rfl⟩:∃q,m=q+2:=⟨m - 2,by omega⟩;obtain ⟨x,hx⟩:∃x,f.epochs[q+1]? =some x:=⟨_,qLgx (by omega)⟩;obtain ⟨b,_,_,hA,_,hRx,hcz⟩:=SlAt.elem f_epochs_s hx (by decide) (zB HB0.out HB1.out);obtain ⟨_,_,rfl,_,_,_,_,_,_,x_chain_s,_⟩:=z3o hRx;have u0:=hcz 0 _ rfl;rw [Nat.add_zero] at u0;subst hA;have hqi:((q+1:Nat):Int) < (f.epochs.length:Int):=by omega
   have hqi2:(q:Int)+1 < (f.epochs.length:Int):=by omega
   have hg:decide ((1:Int) < (q:Int)+2)=true:=decide_eq_true (by omega);have hw1:IntKind.i64.wrap ((q:Int)+2 - 1)=((q+1:Nat):Int):=by rw [IntWalk.i64_in _ (by omega)];omega
   have HS:=zh (zBs hx);clear hcz hx x_chain_s;by_cases hp:x.place=1
   ·have hpe:(x.place==1)=true:=by simp [hp]
    have HG:=zh (show ((q+2:Nat):Int)=YG f.epochs k by rw [HE.out,<-HF.out,HS.out,if_pos hp]);clear hp;go_wp2;go_ret;exact ⟨by rw [<-HG.out];rfl,zB HB0.out HB1.out⟩
   have hpe:(x.place==1)=false:=by simp [hp]
   have HG:=zh (show z04 f.epochs (q+1)=z04 f.epochs k by rw [<-HF.out,HS.out,if_neg hp]);clear hp;go_wp2;go_round
   case rel=>exact ⟨q+1,by omega,by omega,by go_num,HG⟩
   case measure=>first | (simp [intOf];done) | (simp [intOf];omega)
  obtain rfl:m=1:=by omega
  have HG:=zh (show (1:Int)=YG f.epochs k by first | (rw [HE.out,<-HF.out];done) | (rw [HE.out,<-HF.out];rfl));go_wp2;go_ret;exact ⟨by rw [<-HG.out];rfl,zB HB0.out HB1.out⟩
theorem zTw (f:Folder) (n:Int) (hn:I64 n) (cs:List Value) (w:World) (S:Nat->Prop) (h:ZG S w cs f):Calls Tryz.prog 154 #[.agg cs.toArray,.int .i64 n] w fun e w'=>e= .returned (.int .i64 (YG f.epochs n))/\Below w.heap.size w w':=by
 obtain ⟨f_A2,f_c2,f_A3,f_c3,f_A4,f_c4,f_A5,f_c5,f_A6,f_c6,rfl,_,_,_,_,_,f_manifests_s,_,_,f_epochs_n,f_epochs_s,_,_,_,f_items_s,_,_,_,f_wraps_s,_,_,_,f_links_s⟩:=Z2 h;obtain ⟨_,hw0,cw0,fw0,Bw0,_⟩:=zQ w #[.string f.name,.int .i64 f.turn,.slice f_A2 f.manifests.length f_c2,.slice f_A3 f.epochs.length f_c3,.slice f_A4 f.items.length f_c4,.slice f_A5 f.wraps.length f_c5,.slice f_A6 f.links.length f_c6] 74;have HB0:=zh Bw0;have b3:=cw0 3 _ rfl;clear cw0 fw0 Bw0 f_manifests_s f_items_s f_wraps_s f_links_s;by_cases h1:n < 1
 ·have HE:=zh (z8h (l:=f.epochs) (e:=n) fun h=>by omega);have hd:decide (n < 1)=true:=decide_eq_true h1;clear h1;go_enter Tryz.func154,Tryz.ntmps154
  go_wp2;go_ret;exact ⟨by rw [HE.out];rfl,HB0.out⟩
 have hd:decide (n < 1)=false:=decide_eq_false h1;by_cases h2:(f.epochs.length:Int) < n
 ·have HE:=zh (z8h (l:=f.epochs) (e:=n) fun h=>by omega);have hd2:decide ((f.epochs.length:Int) < n)=true:=decide_eq_true h2;clear h1 h2;go_enter Tryz.func154,Tryz.ntmps154
  go_wp2;go_ret;exact ⟨by rw [HE.out];rfl,HB0.out⟩
 have hd2:decide ((f.epochs.length:Int) < n)=false:=decide_eq_false h2;obtain ⟨k,rfl⟩:∃k:Nat,n=k:=⟨n.toNat,by omega⟩;have hk1:1<=k:=by omega
 have hk2:k<=f.epochs.length:=by omega
 have HE:=zh (zE8 (l:=f.epochs) hk1 hk2);have hfl:f.epochs.length<=140737488355328:=f_epochs_n;clear h1 h2 hn;go_enter Tryz.func154,Tryz.ntmps154
 go_wp2;clear hw0;go_loop [5,6] (fun s i=>∃m:Nat,m<=k/\i= .int .i64 ((m+1:Nat):Int)/\s= .int .i64 ((if m=0 then 1 else z04 f.epochs m:Nat):Int)) (fun _ i=>k+1 - (intOf i).toNat)
 case atStart=>exact ⟨0,by omega,rfl,rfl⟩
 obtain ⟨m,_,rfl,rfl⟩:=hrel;rcases Nat.lt_or_ge m k with hmk | hmk
 ·obtain ⟨x,hx⟩:∃x,f.epochs[m]? =some x:=⟨_,qLgx (by omega)⟩;obtain ⟨_,_,_,hA,_,hRx,hcz⟩:=SlAt.elem f_epochs_s hx (by decide) HB0.out;obtain ⟨_,_,rfl,_,_,_,_,_,_,x_chain_s,_⟩:=z3o hRx;have u0:=hcz 0 _ rfl;rw [Nat.add_zero] at u0;subst hA;have hmi:(m:Int) < (f.epochs.length:Int):=by omega
  have hle:decide ((m:Int)+1<=(k:Int))=true:=decide_eq_true (by omega);have hw1:IntKind.i64.wrap ((m:Int)+1 - 1)=(m:Int):=by rw [IntWalk.i64_in _ (by omega)];omega
  have hw2:IntKind.i64.wrap ((m:Int)+1+1)=(m:Int)+1+1:=IntWalk.i64_in _ (by omega);have HS:=zh (show z04 f.epochs (m+1)=if x.place=1 then m+1 else if m=0 then 1 else z04 f.epochs m by
   rcases m with _ | m
   ·by_cases hp:x.place=1<;>simp [z04,hp]
   ·rw [zBs hx];simp)
  clear hcz hx x_chain_s;generalize hq:(if m=0 then 1 else z04 f.epochs m:Nat)=q at HS;clear hq;by_cases hp:x.place=1
  ·have hpe:(x.place==1)=true:=by simp [hp]
   rw [if_pos hp] at HS;clear hp;go_wp2;go_round
   case rel=>exact ⟨m+1,by omega,by go_num,by first | (rw [if_neg (by omega),HS.out];done) | (rw [if_neg (by omega),HS.out];rfl)⟩
   case measure=>simp [intOf];omega
  have hpe:(x.place==1)=false:=by simp [hp]
  rw [if_neg hp] at HS;clear hp;go_wp2;go_round
  case rel=>exact ⟨m+1,by omega,by go_num,by rw [if_neg (by omega),HS.out]⟩
  case measure=>simp [intOf];omega
 obtain rfl:m=k:=by omega
 have hle:decide ((m:Int)+1<=(m:Int))=false:=decide_eq_false (by omega);have HG:=zh (show ((if m=0 then 1 else z04 f.epochs m:Nat):Int)=YG f.epochs m by rw [HE.out,if_neg (by omega)]);generalize ((if m=0 then 1 else z04 f.epochs m:Nat):Int)=q at HG;go_wp2;go_ret;exact ⟨by rw [<-HG.out];rfl,HB0.out⟩
theorem zJr (f:Folder) (n:Int) (hn:I64 n) (cs:List Value) (w:World) (S:Nat->Prop) (h:ZG S w cs f):Calls Tryz.prog 83 #[.agg cs.toArray,.int .i64 n] w fun e w'=>e= .returned (.int .i64 (yC f.epochs n))/\Below w.heap.size w w':=by
 obtain ⟨f_A2,f_c2,f_A3,f_c3,f_A4,f_c4,f_A5,f_c5,f_A6,f_c6,rfl,_,_,_,_,_,f_manifests_s,_,_,f_epochs_n,f_epochs_s,_,_,_,f_items_s,_,_,_,f_wraps_s,_,_,_,f_links_s⟩:=Z2 h;obtain ⟨_,_,cw0,fw0,Bw0,_⟩:=zQ w #[.string f.name,.int .i64 f.turn,.slice f_A2 f.manifests.length f_c2,.slice f_A3 f.epochs.length f_c3,.slice f_A4 f.items.length f_c4,.slice f_A5 f.wraps.length f_c5,.slice f_A6 f.links.length f_c6] 74;have HB0:=zh Bw0;have b3:=cw0 3 _ rfl;clear cw0 fw0 Bw0 f_manifests_s f_items_s f_wraps_s f_links_s;by_cases h1:n < 1
 ·have HE:=zh (z5t (l:=f.epochs) (e:=n) fun h=>by omega);have hd:decide (n < 1)=true:=decide_eq_true h1;clear h1;go_enter Tryz.func83,Tryz.ntmps83
  go_wp2;go_ret;exact ⟨by rw [HE.out];rfl,HB0.out⟩
 have hd:decide (n < 1)=false:=decide_eq_false h1;have hfl:f.epochs.length<=140737488355328:=f_epochs_n;obtain ⟨k,rfl⟩:∃k:Nat,n=k:=⟨n.toNat,by omega⟩;have hk1:1<=k:=by omega
 clear h1 hn;go_enter Tryz.func83,Tryz.ntmps83
 go_wp2;go_loop [5] (fun i=>∃m:Nat,(m=k\/(k<=m/\m<=f.epochs.length))/\i= .int .i64 m/\Hid (k<=f.epochs.length->Y8 (f.epochs.drop m) m=yC f.epochs k)) (fun i=>f.epochs.length - (intOf i).toNat)
 case atStart=>exact ⟨k,.inl rfl,rfl,fun h=>(z6m hk1 h).symm⟩
 obtain ⟨m,_,rfl,HL⟩:=hrel;rcases Nat.lt_or_ge m f.epochs.length with hml | hml
 ·obtain ⟨x,hx⟩:∃x,f.epochs[m]? =some x:=⟨_,qLgx hml⟩;obtain ⟨_,_,_,hA,_,hRx,hcz⟩:=SlAt.elem f_epochs_s hx (by decide) HB0.out;obtain ⟨_,_,rfl,_,_,_,_,_,_,x_chain_s,_⟩:=z3o hRx;have u0:=hcz 0 _ rfl;rw [Nat.add_zero] at u0;subst hA;have hmi:(m:Int) < (f.epochs.length:Int):=by omega
  have HX:=zh hx;have hkl:k<=f.epochs.length:=by omega
  have HK:=zh hkl;clear hcz hx x_chain_s;by_cases hp:x.place=1
  ·have hpe:(x.place==1)=true:=by simp [hp]
   have HG:=zh (show (m:Int)=yC f.epochs k by rw [<-HL.out HK.out,zBo HX.out hp]);clear hp;go_wp2;go_ret;exact ⟨by rw [<-HG.out];rfl,HB0.out⟩
  have hpe:(x.place==1)=false:=by simp [hp]
  have HG:=zh (show Y8 (f.epochs.drop (m+1)) ((m+1:Nat):Int)=yC f.epochs k by rw [<-HL.out HK.out,zG9 HX.out hp];rfl);clear hp;go_wp2;go_round
  case rel=>exact ⟨m+1,.inr ⟨by omega,by omega⟩,by go_num,fun _=>HG.out⟩
  case measure=>exact qMx
 have hml2:decide ((m:Int) < (f.epochs.length:Int))=false:=decide_eq_false (by omega);rcases Nat.lt_or_ge f.epochs.length k with hkl | hkl
 ·have hkd:decide ((f.epochs.length:Int) < (k:Int))=true:=decide_eq_true (by omega);have HG:=zh (show (k:Int)=yC f.epochs k from (z5t (by omega)).symm);have hkp:(f.epochs.length:Int) < (k:Int):=by omega
  clear hkl;go_wp2;go_ret;exact ⟨by rw [<-HG.out];rfl,HB0.out⟩
 have hkd:decide ((f.epochs.length:Int) < (k:Int))=false:=decide_eq_false (by omega);have HG:=zh (show (f.epochs.length:Int)=yC f.epochs k from by
  have:=HL.out hkl;rw [List.drop_eq_nil_of_le hml,Y8] at this;rw [<-this];omega)
 have hkp:¬(f.epochs.length:Int) < (k:Int):=by omega
 clear hkl;go_wp2;go_ret;exact ⟨by rw [<-HG.out];rfl,HB0.out⟩
end
section
open Go.RowKit Go.Deep
theorem z4u (f:Folder) (cs:List Value) (w:World) (S:Nat->Prop) (h:ZG S w cs f):Calls Tryz.prog 25 #[.agg cs.toArray] w fun e w'=>(∃cm:List Value,e= .returned (.agg cm.toArray)/\ZR S w' cm (zH f))/\Below w.heap.size w w':=by
 obtain ⟨f_A2,f_c2,f_A3,f_c3,f_A4,f_c4,f_A5,f_c5,f_A6,f_c6,rfl,_,_,f_manifests_l,_,f_manifests_n,f_manifests_s,_,_,_,f_epochs_s,_,_,_,f_items_s,_,_,_,f_wraps_s,_,_,_,f_links_s⟩:=Z2 h;obtain ⟨w0,hw0,cw0,_,Bw0,qw0⟩:=zQ w #[.string f.name,.int .i64 f.turn,.slice f_A2 f.manifests.length f_c2,.slice f_A3 f.epochs.length f_c3,.slice f_A4 f.items.length f_c4,.slice f_A5 f.wraps.length f_c5,.slice f_A6 f.links.length f_c6] 74;obtain ⟨w1,hw1,cw1,_,Bw1,_⟩:=zQ w0 #[.string ⟨#[]⟩,.int .i64 0,.slice none 0 0,.string ⟨#[]⟩,.slice none 0 0,.int .i64 0,.bool false,.string ⟨#[]⟩] 84;have B1:Below w.heap.size w w1:=zB Bw0 Bw1;have x2:=(Bw1.cell (p:=⟨w.heap.size,2,none⟩) qw0).trans (cw0 2 _ rfl);have HB1:=zh B1;have hblk:w1.heap[w0.heap.size]? =some (.cells #[.string ⟨#[]⟩,.int .i64 0,.slice none 0 0,.string ⟨#[]⟩,.slice none 0 0,.int .i64 0,.bool false,.string ⟨#[]⟩] 84 (0,0)):=by rw [<-hw1];exact zJ _ rfl
 have o0:=cw1 0 _ rfl;have o1:=cw1 1 _ rfl;have o2:=cw1 2 _ rfl;have o3:=cw1 3 _ rfl;have o4:=cw1 4 _ rfl;have o5:=cw1 5 _ rfl;have o6:=cw1 6 _ rfl;have o7:=cw1 7 _ rfl;have hwl:w.heap.size<=w0.heap.size:=Nat.le_of_lt qw0;rcases Nat.eq_zero_or_pos f.manifests.length with h0 | h0
 ·have HE:=zh (show zH f=zE3 by
   have:f.manifests=[]:=List.eq_nil_of_length_eq_zero h0;unfold zH;rw [this];rfl)
  rw [h0] at x2 hw0⊢;clear h0 cw0 cw1 Bw0 Bw1 B1 f_manifests_s f_epochs_s f_items_s f_wraps_s f_links_s;go_enter Tryz.func25,Tryz.ntmps25
  go_wp2;try simp only [Exit.inBlock,Exit.then]
  refine bodyPost_ret (results_cell_row rfl _ _ w0.heap.size 84 _ (0,0) _ rfl (by repeat' first|with_reducible assumption|((with_reducible first|refine zR _ ?_ ?_|apply zJ);rotate_left;first|with_reducible rfl|((try dsimp only);first|with_reducible assumption|omega|(simp only [zS];done)|(simp only [zS];omega)))|with_reducible apply zI|with_reducible refine zZ _ ?_|with_reducible refine ZL ?_|refine (rfl:(_:Array Value)=_)) Tryz.underlying84 rfl (by kernel_rfl)) rfl ?_;have hbb:=HB1.out;refine ⟨⟨_,rfl,?_⟩,by go_grown⟩;rw [HE.out];exact ⟨_,_,rfl,Nat.zero_le _,(show I64 0 from ⟨by decide,by decide⟩),z0k _ _ _ _,Nat.zero_le _,z0k _ _ _ _,(show I64 0 from ⟨by decide,by decide⟩),Nat.zero_le _⟩
 obtain ⟨n,hn⟩:∃n,f.manifests.length=n+1:=⟨f.manifests.length - 1,by omega⟩;obtain ⟨m,hm⟩:∃m,f.manifests[n]? =some m:=⟨_,qLgx (by omega)⟩;have HE:=zh (show zH f=m by
  unfold zH;rw [List.getLast?_eq_getElem?,hn,Nat.add_sub_cancel,hm];rfl)
 obtain ⟨_,_,_,hA,_,hR,hcz⟩:=SlAt.elem f_manifests_s hm (by decide) B1;have HR:=zh hR;obtain ⟨m_A2,m_c2,m_A4,m_c4,rfl,_,_,_,_,_,m_prev_s,_,_,_,_,m_members_s,_,_⟩:=yF hR;have u0:=hcz 0 _ rfl;have u1:=hcz 1 _ rfl;have u2:=hcz 2 _ rfl;have u3:=hcz 3 _ rfl;have u4:=hcz 4 _ rfl;have u5:=hcz 5 _ rfl;have u6:=hcz 6 _ rfl;have u7:=hcz 7 _ rfl;rw [Nat.add_zero] at u0;rw [hn] at x2 hw0 f_manifests_l f_manifests_n⊢;subst hA;clear h0 hn hm hcz cw0 cw1 Bw0 Bw1 B1 f_manifests_s f_epochs_s f_items_s f_wraps_s f_links_s m_prev_s m_members_s;go_enter Tryz.func25,Tryz.ntmps25
 go_wp2;try simp only [Exit.inBlock,Exit.then]
 refine bodyPost_ret (results_cell_row rfl _ _ w0.heap.size 84 _ (0,0) _ rfl (by repeat' first|with_reducible assumption|((with_reducible first|refine zR _ ?_ ?_|apply zJ);rotate_left;first|with_reducible rfl|((try dsimp only);first|with_reducible assumption|omega|(simp only [zS];done)|(simp only [zS];omega)))|with_reducible apply zI|with_reducible refine zZ _ ?_|with_reducible refine ZL ?_|refine (rfl:(_:Array Value)=_)) Tryz.underlying84 rfl (by kernel_rfl)) rfl ?_;have hbb:=HB1.out;refine ⟨⟨_,rfl,?_⟩,by go_grown⟩;rw [HE.out];exact YF HR.out (zK (by go_grown))
theorem zGc (st:State) (s:Nm) (cs:List Value) (w:World) (S:Nat->Prop) (h:yB S w cs st):Calls Tryz.prog 21 #[.agg cs.toArray,.string s] w fun e w'=>(∃i:Int,e= .returned (.int .i64 i)/\AtI (isF s) st.folders i)/\Below w.heap.size w w':=by
 obtain ⟨st_A1,st_c1,st_A2,st_c2,st_A3,st_c3,rfl,_,_,_,_,st_users_s,_,_,_,st_deposits_s,_,_,_,st_folders_s⟩:=ZP h;obtain ⟨_,hw0,cw0,fw0,Bw0,_⟩:=zQ w #[.int .i64 st.turn,.slice st_A1 st.users.length st_c1,.slice st_A2 st.deposits.length st_c2,.slice st_A3 st.folders.length st_c3] 34;have HB0:=zh Bw0;have b3:=cw0 3 _ rfl;clear cw0 fw0 Bw0 st_users_s st_deposits_s;go_enter Tryz.func21,Tryz.ntmps21
 go_wp2;clear hw0;go_loop [5] (fun i=>∃k:Nat,k<=st.folders.length/\i= .int .i64 k/\Hid (∀y∈st.folders.take k,isF s y=false)) (fun i=>st.folders.length - (intOf i).toNat)
 case atStart=>exact ⟨0,by omega,by go_num,fun y hy=>by simp at hy⟩
 obtain ⟨k,_,rfl,HN⟩:=hrel;by_cases hlt:k < st.folders.length
 rotate_left
 ·obtain rfl:k=st.folders.length:=by omega
  rw [qLnx] at HN;go_wp2;go_ret;exact ⟨⟨_,rfl,.inr ⟨rfl,zFb HN.out⟩⟩,HB0.out⟩
 obtain ⟨x,hx⟩:∃x,st.folders[k]? =some x:=⟨_,qLgx hlt⟩;obtain ⟨_,_,_,hA,_,hRx,hcz⟩:=SlAt.elem st_folders_s hx (by decide) HB0.out;obtain ⟨_,_,_,_,_,_,_,_,_,_,rfl,_,_,_,_,_,x_manifests_s,_,_,_,x_epochs_s,_,_,_,x_items_s,_,_,_,x_wraps_s,_,_,_,x_links_s⟩:=Z2 hRx;have u0:=hcz 0 _ rfl;rw [Nat.add_zero] at u0;subst hA;have hki:(k:Int) < (st.folders.length:Int):=by omega
 have HX:=zh hx;clear hcz hx x_manifests_s x_epochs_s x_items_s x_wraps_s x_links_s;by_cases hnm:x.name=s
 ·have hse:(x.name.toList==s.toList)=true:=by rw [hnm];simp
  have HF:=zh (z7z HN.out HX.out (show isF s x=true by unfold isF;exact decide_eq_true hnm));clear hnm;go_wp2;go_ret;exact ⟨⟨_,rfl,.inl ⟨k,x,rfl,HX.out,HF.out⟩⟩,HB0.out⟩
 have hse:(x.name.toList==s.toList)=false:=z03 hnm;have HF:=zh (z0l HN.out HX.out (show isF s x=false by unfold isF;exact decide_eq_false hnm));clear hnm;go_wp2;go_round
 case rel=>exact ⟨k+1,by omega,by go_num,HF⟩
 case measure=>exact qMx
def zN (st:State):Nat->Nm->List At
 | 0,_=>[]
 | n+1,s=>match zP st s with
  | none=>[]
  | some f=>⟨s,(zH f).seq⟩ :: zN st n (zH f).parent
theorem z1q {st:State} {s:Nm} (h:zP st s=none):∀n,zN st n s=[]
 | 0=>rfl
 | n+1=>by rw [zN,h]
theorem z0w {st:State} {s:Nm} {f:Folder} (h:zP st s=some f) (n:Nat):zN st (n+1) s=⟨s,(zH f).seq⟩ :: zN st n (zH f).parent:=by rw [zN,h]
theorem z1k (st:State):∀(n:Nat) (s:Nm),(zN st n s).length<=n
 | 0,_=>znl _
 | n+1,s=>by
  cases h:zP st s with
  | none=>rw [z1q h];simp
  | some f=>rw [z0w h];have:=z1k st n (zH f).parent;simp;omega
theorem zDg {S T:Nat->Prop} {w:World} {v:Value} {l:List At} (h:Sl 2 rAt S w v l) (k:∀b,v.ownBlock=some b->T b):Sl 2 rAt T w v l:=by
 obtain ⟨A,c,rfl,h1,h2,h3,h4⟩:=h;refine ⟨A,c,rfl,h1,h2,h3,fun i x hx=>?_⟩;obtain ⟨b,o,ys,rfl,_,a2,a3,a4⟩:=h4 i x hx;exact ⟨b,o,ys,rfl,k b rfl,a2,a3,a4⟩
theorem z2x (st:State) (name:Nm) (hnm:name.size<=140737488355328) (cs:List Value) (w:World) (S:Nat->Prop) (h:yB S w cs st):Calls Tryz.prog 67 #[.agg cs.toArray,.string name] w fun e w'=>(∃v,e= .returned v/\Sl 2 rAt (fun b=>w.heap.size<=b) w' v (zN st 4 name))/\Below w.heap.size w w':=by
 have HR:=zh h;obtain ⟨st_A1,st_c1,st_A2,st_c2,st_A3,st_c3,rfl,_,_,_,_,st_users_s,_,_,_,st_deposits_s,_,_,_,st_folders_s⟩:=ZP h;obtain ⟨w0,hw0,cw0,fw0,Bw0,qw0⟩:=zQ w #[.int .i64 st.turn,.slice st_A1 st.users.length st_c1,.slice st_A2 st.deposits.length st_c2,.slice st_A3 st.folders.length st_c3] 34;have HB0:=zh Bw0;have HC0:=zh cw0;clear cw0 fw0 Bw0 st_users_s st_deposits_s st_folders_s;obtain ⟨iAt,hiAt,hzAt,h1At,h2At⟩:=info_parts (show (Tryz.prog.info? 124).map (fun i=>(i.zero,i.size,i.bytes))=some (some (.agg #[.string ⟨#[]⟩,.int .i64 0]),2,24) from by kernel_rfl);go_enter Tryz.func67,Tryz.ntmps67
 go_wp2;clear hw0;go_loopw [1,5,9] (fun s vo i wr=>∃(k:Nat) (cur:Nm) (L:List At),k<=4/\i= .int .i64 k/\s= .string cur/\cur.size<=140737488355328/\Hid (Grow 124 2 rAt (fun _=>False) wr w0.heap.size vo L)/\Hid (L++zN st (4 - k) cur=zN st 4 name)/\L.length<=k/\Below w0.heap.size w0 wr) (fun _ _ i _=>4 - (intOf i).toNat)
 case atStart=>exact ⟨0,name,[],by omega,by go_num,rfl,hnm,Grow.nil,(zh rfl),by simp,Below.refl _ _⟩
 obtain ⟨k,cur,L,_,rfl,rfl,hcur,HG,HL,hLk,hbel⟩:=hrel;have B0:=zh (zB HB0.out hbel);have s0:=(hbel.cell (p:=⟨w.heap.size,0,none⟩) qw0).trans (HC0.out 0 _ rfl);have s1:=(hbel.cell (p:=⟨w.heap.size,1,none⟩) qw0).trans (HC0.out 1 _ rfl);have s2:=(hbel.cell (p:=⟨w.heap.size,2,none⟩) qw0).trans (HC0.out 2 _ rfl);have s3:=(hbel.cell (p:=⟨w.heap.size,3,none⟩) qw0).trans (HC0.out 3 _ rfl);obtain ⟨A2,n2,c2,rfl,hn2⟩:=HG.out.shape';clear hn2;have hzr:=hbel.size;rcases Nat.lt_or_ge k 4 with hk4 | hk4
 ·have hkl:(k:Int) < 4:=by omega
  go_wp2_with fail
  clear s0 s1 s2 s3;refine zcm (z7i st cur _ wr S (Z0 HR.out (zK B0.out))) ?_;rintro e w1 ⟨⟨cf,rfl,hf⟩,b1⟩;have B1:=zh (zB hbel b1);have HG1:=zh (HG.out.below Z1 b1);have hz1:=b1.size;clear b1
  cases hF:zP st cur with
  | none=>
   rw [hF] at hf;replace hf:ZG S w1 cf yH:=hf;simp only [Option.isSome_none];have HE:=zh (show L=zN st 4 name by rw [<-HL.out,z1q hF,List.append_nil]);obtain ⟨f,hfz⟩:∃f,yH=f:=⟨_,rfl⟩;rw [hfz] at hf;obtain ⟨f_A2,f_c2,f_A3,f_c3,f_A4,f_c4,f_A5,f_c5,f_A6,f_c6,rfl,f_name_le,f_turn_ok,f_manifests_l,f_manifests_m,f_manifests_n,f_manifests_s,f_epochs_l,f_epochs_m,f_epochs_n,f_epochs_s,f_items_l,f_items_m,f_items_n,f_items_s,f_wraps_l,f_wraps_m,f_wraps_n,f_wraps_s,f_links_l,f_links_m,f_links_n,f_links_s⟩:=Z2 hf;obtain ⟨w2,hw2,cw2,fw2,Bw2,qw2⟩:=zQ w1 #[.string f.name,.int .i64 f.turn,.slice f_A2 f.manifests.length f_c2,.slice f_A3 f.epochs.length f_c3,.slice f_A4 f.items.length f_c4,.slice f_A5 f.wraps.length f_c5,.slice f_A6 f.links.length f_c6] 74;have HG2:=zh (HG1.out.below Z1 Bw2);have HB2:=zh (zB HB0.out (zB B1.out Bw2));clear hF hfz cw2 fw2 Bw2;go_wp2;go_ret
   exact ⟨⟨_,rfl,by rw [<-HE.out];exact zDg (Own.sl Z1 HG2.out) fun b hb=>qNtx HB0.out.size (HG2.out.base_le b hb).1⟩,HB2.out⟩
  | some f=>
   rw [hF] at hf;replace hf:ZG S w1 cf f:=hf;simp only [Option.isSome_some];have HFR:=zh hf;obtain ⟨m,hm⟩:∃m,zH f=m:=⟨_,rfl⟩;have HE:=zh (show (L++[(⟨cur,m.seq⟩:At)])++zN st (4 - (k+1)) m.parent=zN st 4 name by
    rw [<-HL.out,show 4 - k=(4 - (k+1))+1 by omega,z0w hF,hm,List.append_assoc];rfl)
   obtain ⟨f_A2,f_c2,f_A3,f_c3,f_A4,f_c4,f_A5,f_c5,f_A6,f_c6,rfl,f_name_le,f_turn_ok,f_manifests_l,f_manifests_m,f_manifests_n,f_manifests_s,f_epochs_l,f_epochs_m,f_epochs_n,f_epochs_s,f_items_l,f_items_m,f_items_n,f_items_s,f_wraps_l,f_wraps_m,f_wraps_n,f_wraps_s,f_links_l,f_links_m,f_links_n,f_links_s⟩:=Z2 hf;obtain ⟨w2,hw2,cw2,fw2,Bw2,qw2⟩:=zQ w1 #[.string f.name,.int .i64 f.turn,.slice f_A2 f.manifests.length f_c2,.slice f_A3 f.epochs.length f_c3,.slice f_A4 f.items.length f_c4,.slice f_A5 f.wraps.length f_c5,.slice f_A6 f.links.length f_c6] 74;have HG2:=zh (HG1.out.below Z1 Bw2);have HB2:=zh (zB B1.out Bw2);have t0:=cw2 0 _ rfl;have t1:=cw2 1 _ rfl;have t2:=cw2 2 _ rfl;have t3:=cw2 3 _ rfl;have t4:=cw2 4 _ rfl;have t5:=cw2 5 _ rfl;have t6:=cw2 6 _ rfl;have hz2:=Bw2.size;have HN:=zh (z62 f _ w2 S (Z5 HFR.out (zK Bw2)));clear hF cw2 fw2 Bw2 f_manifests_s f_epochs_s f_items_s f_wraps_s f_links_s;go_wp2_with fail
   clear hw2 t0 t1 t2 t3 t4 t5 t6;refine zcm HN.out ?_;rintro e w3 ⟨⟨_,rfl,hmr⟩,b3⟩;rw [hm] at hmr;have HG3:=zh (HG2.out.below Z1 b3);have HB3:=zh (zB HB2.out b3);have hz3:=b3.size;obtain ⟨m_A2,m_c2,m_A4,m_c4,rfl,_,m_seq_ok,_,_,_,m_prev_s,m_parent_le,_,_,_,m_members_s,_,_⟩:=yF hmr;obtain ⟨_,_,cw4,fw4,Bw4,qw4⟩:=zQ w3 #[.string m.folder,.int .i64 m.seq,.slice m_A2 m.prev.length m_c2,.string m.parent,.slice m_A4 m.members.length m_c4,.int .i64 m.cut,.bool m.gone,.string m.who] 84;have HG4:=zh (HG3.out.below Z1 Bw4);have HB4:=zh (zB HB3.out Bw4);have HC4:=zh cw4;have t1:=cw4 1 _ rfl;have t3:=cw4 3 _ rfl;have hz4:=Bw4.size;have hLL:L.length<=4:=by omega
   have HLK:=zh hLk;clear cw4 fw4 Bw4 b3 hm hLk m_prev_s m_members_s;go_wp2_with (at_builtin;go_loud (refine yZ (R:=rAt) _ _ rfl (.tmp 21) (.tmp 26) 121 rfl 124 iAt _ 2 24 Tryz.underlying121 hiAt hzAt h1At h2At rfl (by decide) Z1 w0.heap.size (by omega) _ _ rfl HG4.out _ _ rfl (by simp only [zS]) _ (by intro b hb;exact hb.elim) (show rAt _ _ _ (⟨cur,m.seq⟩:At) from ⟨rfl,hcur,m_seq_ok⟩) (by omega) (by decide) ?_);intro v5 w5 g5 gg5 go5;obtain ⟨_,_,_,rfl,hn5⟩:=g5.shape';have G5:=zh g5;have GG5:=zh gg5;have hne:∀b,(Value.slice A2 n2 c2).ownBlock=some b->b≠w3.heap.size:=(fun b hb e=>by have:=(HG3.out.base_le b hb).2;omega);have T:=(gg5.block w3.heap.size qw4 fun e=>hne _ e.symm rfl);have t3':=(World.cell?_of_block (a:=⟨w3.heap.size,3,none⟩) T).trans (HC4.out 3 _ rfl);clear hn5 g5 gg5 go5 hne T)
   go_roundw
   case rel=>exact ⟨k+1,m.parent,L++[⟨cur,m.seq⟩],by omega,by go_num,rfl,m_parent_le,G5,HE,by rw [qLax,List.length_singleton];have:=HLK.out;omega,Below.grown HB4.out GG5.out (by omega) fun b hb=>(HG4.out.base_le b hb).1⟩
   case measure=>exact qMx
 obtain rfl:k=4:=by omega
 have HE:=zh (show L=zN st 4 name by have:=HL.out;rwa [Nat.sub_self,zN,List.append_nil] at this);go_wp2;go_ret;exact ⟨⟨_,rfl,by rw [<-HE.out];exact zDg (Own.sl Z1 HG.out) fun b hb=>qNtx HB0.out.size (HG.out.base_le b hb).1⟩,B0.out⟩
theorem zO5 (st:State) (name:Nm) (hnm:name.size<=140737488355328) (cs:List Value) (w:World) (S:Nat->Prop) (h:yB S w cs st):Calls Tryz.prog 67 #[.agg cs.toArray,.string name] w fun e w'=>(∃v,e= .returned v/\Sl 2 rAt (fun _=>True) w' v (zN st 4 name))/\Below w.heap.size w w':=
 (z2x st name hnm cs w S h).mono fun e w' ⟨⟨v,hv,hs⟩,hb⟩=>⟨⟨v,hv,zDg hs fun _ _=>trivial⟩,hb⟩
end
section
open Go.RowKit Go.Deep
def zQh:Value->Nat
 | .slice _ n _=>n
 | _=>0
theorem zA8 (st:State) (name:Nm) (cs:List Value) (w:World) (S:Nat->Prop) (h:yB S w cs st):Calls Tryz.prog 45 #[.agg cs.toArray,.string name] w fun e w'=>(∃v,e= .returned v/\Sl 2 rAt (fun _=>True) w' v (zN st 4 name))/\Below w.heap.size w w':=by
 have HR:=zh h;obtain ⟨st_A1,st_c1,st_A2,st_c2,st_A3,st_c3,rfl,_,_,_,_,st_users_s,_,_,_,st_deposits_s,_,_,_,st_folders_s⟩:=ZP h;obtain ⟨w0,hw0,cw0,fw0,Bw0,qw0⟩:=zQ w #[.int .i64 st.turn,.slice st_A1 st.users.length st_c1,.slice st_A2 st.deposits.length st_c2,.slice st_A3 st.folders.length st_c3] 34;have HB0:=zh Bw0;have HC0:=zh cw0;have HST:=zh fun W (hW:Below w0.heap.size w0 W)=>Z0 HR.out (zK (zB HB0.out hW))
 have s0:=cw0 0 _ rfl;have s1:=cw0 1 _ rfl;have s2:=cw0 2 _ rfl;have s3:=cw0 3 _ rfl;clear cw0 fw0 Bw0 st_users_s st_deposits_s;obtain ⟨iAt,hiAt,hzAt,h1At,h2At⟩:=info_parts (show (Tryz.prog.info? 124).map (fun i=>(i.zero,i.size,i.bytes))=some (some (.agg #[.string ⟨#[]⟩,.int .i64 0]),2,24) from by kernel_rfl);go_enter Tryz.func45,Tryz.ntmps45
 go_wp2_with fail
 clear hw0;refine zcm (zGc st name _ w0 S (HST.out _ zbr)) ?_;rintro e _ ⟨⟨i0,rfl,hi0⟩,B1⟩;have HI0:=zh hi0;have HB1:=zh B1;clear s0 s1 s2 s3 hi0 B1;go_wp2;go_loopw [5,6] (fun vo i wr=>∃(z:Int) (cur:Nm) (L:List At),i= .int .i64 z/\zQh vo=L.length/\Hid (AtI (isF cur) st.folders z)/\Hid (Grow 124 2 rAt (fun _=>False) wr w0.heap.size vo L)/\Hid (L++zN st (4 - L.length) cur=zN st 4 name)/\L.length<=4/\Below w0.heap.size w0 wr) (fun vo _ _=>4 - zQh vo)
 case atStart=>exact ⟨i0,name,[],rfl,rfl,HI0,Grow.nil,(zh rfl),by simp,HB1.out⟩
 clear HI0 HB1;obtain ⟨z,cur,L,rfl,hlv,HI,HG,HL,_,hbel⟩:=hrel;have B0:=zh (zB HB0.out hbel);have s0:=(hbel.cell (p:=⟨w.heap.size,0,none⟩) qw0).trans (HC0.out 0 _ rfl);have s1:=(hbel.cell (p:=⟨w.heap.size,1,none⟩) qw0).trans (HC0.out 1 _ rfl);have s2:=(hbel.cell (p:=⟨w.heap.size,2,none⟩) qw0).trans (HC0.out 2 _ rfl);have s3:=(hbel.cell (p:=⟨w.heap.size,3,none⟩) qw0).trans (HC0.out 3 _ rfl);obtain ⟨A2,_,c2,rfl,hn2⟩:=HG.out.shape';have hzr:=hbel.size;subst hn2;clear hlv;rcases HI.out with ⟨k,f,rfl,hk,hff⟩ | ⟨rfl,hff⟩
 rotate_left
 ·have HE:=zh (show L=zN st 4 name by rw [<-HL.out,z1q hff,List.append_nil]);clear hff;go_wp2;go_ret;exact ⟨⟨_,rfl,by rw [<-HE.out];exact Own.sl Z1 HG.out⟩,B0.out⟩
 have hkd:decide ((0:Int)<=(k:Int))=true:=decide_eq_true (by omega);rcases Nat.lt_or_ge L.length 4 with hl4 | hl4
 rotate_left
 ·have hl:L.length=4:=by omega
  have HE:=zh (show L=zN st 4 name by have:=HL.out;rw [hl] at this;rwa [Nat.sub_self,zN,List.append_nil] at this);have hd:decide ((L.length:Int) < 4)=false:=decide_eq_false (by omega);clear hff hk;go_wp2;go_ret;exact ⟨⟨_,rfl,by rw [<-HE.out];exact Own.sl Z1 HG.out⟩,B0.out⟩
 have hd:decide ((L.length:Int) < 4)=true:=decide_eq_true (by omega);have hki:(k:Int) < (st.folders.length:Int):=by have:=(zge hk).1;omega
 have hnm:f.name=cur:=by simpa [isF] using List.find?_some hff
 subst hnm;obtain ⟨b,o,_,hA,hbl,hRf,hcz⟩:=SlAt.elem st_folders_s hk (by decide) B0.out;have HRF:=zh hRf;obtain ⟨_,_,_,_,_,_,_,_,_,_,rfl,f_name_le,_,_,_,_,f_manifests_s,_,_,_,f_epochs_s,_,_,_,f_items_s,_,_,_,f_wraps_s,_,_,_,f_links_s⟩:=Z2 hRf;have u0:=hcz 0 _ rfl;have u1:=hcz 1 _ rfl;have u2:=hcz 2 _ rfl;have u3:=hcz 3 _ rfl;have u4:=hcz 4 _ rfl;have u5:=hcz 5 _ rfl;have u6:=hcz 6 _ rfl;rw [Nat.add_zero] at u0;have HU0:=zh u0;subst hA;obtain ⟨m,hm⟩:∃m,zH f=m:=⟨_,rfl⟩;have HE:=zh (show (L++[(⟨f.name,m.seq⟩:At)])++zN st (4 - (L++[(⟨f.name,m.seq⟩:At)]).length) m.parent=zN st 4 name by
  rw [<-HL.out,qLax,List.length_singleton,show 4 - L.length=(4 - (L.length+1))+1 by omega,z0w (f:=f) hff,hm,List.append_assoc];rfl)
 have HN:=zh (z4u f _ wr S (Z5 HRF.out (zK B0.out)));clear hk hff hcz f_manifests_s f_epochs_s f_items_s f_wraps_s f_links_s;go_wp2_with fail
 clear s0 s1 s2 s3 u0 u1 u2 u3 u4 u5 u6;refine zcm HN.out ?_;rintro e w3 ⟨⟨_,rfl,hmr⟩,b3⟩;rw [hm] at hmr;have HG3:=zh (HG.out.below Z1 b3);have HB3:=zh (zB hbel b3);have hz3:=b3.size;obtain ⟨m_A2,m_c2,m_A4,m_c4,rfl,_,m_seq_ok,_,_,_,m_prev_s,m_parent_le,_,_,_,m_members_s,_,_⟩:=yF hmr;obtain ⟨w4,hw4,cw4,fw4,Bw4,qw4⟩:=zQ w3 #[.string m.folder,.int .i64 m.seq,.slice m_A2 m.prev.length m_c2,.string m.parent,.slice m_A4 m.members.length m_c4,.int .i64 m.cut,.bool m.gone,.string m.who] 84;have HG4:=zh (HG3.out.below Z1 Bw4);have HB4:=zh (zB HB3.out Bw4);have HC4:=zh cw4;have t1:=cw4 1 _ rfl;have t3:=cw4 3 _ rfl;have hz4:=Bw4.size;have s3:=(HB4.out.cell (p:=⟨w.heap.size,3,none⟩) qw0).trans (HC0.out 3 _ rfl);have u0:=(Below.cell (zB b3 Bw4) (p:=⟨b,o+k*7,none⟩) (zF HU0.out)).trans HU0.out;clear cw4 fw4 Bw4 b3 hm m_prev_s m_members_s;go_wp2_with fail
 clear hw4;have HSQ:=zh (show ∀W:World,Below w4.heap.size w4 W->(fun W:World=>W.cell? ⟨w3.heap.size,1,none⟩=some (.int .i64 m.seq)/\W.cell? ⟨w.heap.size,3,none⟩=some (.slice (some ⟨b,o,none⟩) st.folders.length st_c3)/\W.cell? ⟨b,o+k*7,none⟩=some (.string f.name)) W from fun W hW=>⟨(hW.cell (p:=⟨w3.heap.size,1,none⟩) qw4).trans t1,(hW.cell (p:=⟨w.heap.size,3,none⟩) (zF s3)).trans s3,(hW.cell (p:=⟨b,o+k*7,none⟩) (zF u0)).trans u0⟩);have hml:m.parent.size<=140737488355328:=m_parent_le;have HQ4:=zh qw4;clear t1 t3 s3 u0;have HS:=HSQ.out;refine zE (by kernel_rfl) HS (fun hHeld=>?_);refine zi 0 ?_;iterate 10 (refine zt hHeld ?_;simp only [zA])
 refine zo ?_;obtain ⟨w5,hw5,cw5,fw5,Bw5,qw5⟩:=zQ w4.drew #[.string f.name,.int .i64 m.seq] 124;have B5:Below w4.heap.size w4 w5:=zB zbr.drew Bw5;have HG5:=zh (HG4.out.below Z1 B5);have HB5:=zh (zB HB4.out B5);have HC5:=zh fun j v hj=>(B5.cell (p:=⟨w3.heap.size,j,none⟩) qw4).trans (HC4.out j v hj)
 have hz5:=B5.size;have HROW:=zh (show SlAt 2 rAt (z1z (fun _=>False) w5 (.slice A2 L.length c2)) w5 (some ⟨w4.drew.heap.size,0,none⟩) [(⟨f.name,m.seq⟩:At)] from z91 [.string f.name,.int .i64 m.seq] ⟨qw5,fun h=>h,fun e=>by have h1:=(HG4.out.base_le _ e).2;have h2:w4.drew.heap.size=w4.heap.size:=rfl;omega⟩ rfl (fun j y hj=>by rw [Nat.zero_add];exact cw5 j y (by simpa using hj)) ⟨rfl,f_name_le,m_seq_ok⟩);refine zr 10 fun K hK=>?_
 go_simp;clear hHeld;refine hK.out _ _ (HS _ B5) (fun hHeld=>?_);clear hK K hw5 cw5 fw5;refine zr 11 fun K hK=>?_
 refine zA7 w5 rfl (.tmp 24) (.tmp 34) 121 rfl 124 iAt _ 2 24 Tryz.underlying121 hiAt hzAt h1At h2At rfl (by decide) Z1 w0.heap.size (by omega) (.slice A2 L.length c2) L rfl HG5.out _ 1 _ rfl [(⟨f.name,m.seq⟩:At)] rfl HROW.out (by omega) (by decide) ?_;intro v6 w6 g6 gg6;obtain ⟨_,n6,_,rfl,hn6⟩:=g6.shape';have G6:=zh g6;have HN6:=zh hn6;have T:=fun z (hz:z < w5.heap.size) (hn:(Value.slice A2 L.length c2).ownBlock≠some z)=>gg6.block z hz fun e=>hn e.symm
 have T3:=T w3.heap.size (by have:=HQ4.out;omega) fun e=>by have:=(HG3.out.base_le _ e).2;omega
 have HT3:=zh T3;have B6:=Below.grown HB5.out gg6 (by omega) (fun b hb=>(HG5.out.base_le b hb).1);have HB6:=zh B6;have HS6:(fun W:World=>W.cell? ⟨w3.heap.size,1,none⟩=some (.int .i64 m.seq)/\W.cell? ⟨w.heap.size,3,none⟩=some (.slice (some ⟨b,o,none⟩) st.folders.length st_c3)/\W.cell? ⟨b,o+k*7,none⟩=some (.string f.name)) w6:=by
  have hh:=HS _ B5;refine ⟨(World.cell?_of_block T3).trans hh.1,(B6.cell (p:=⟨w.heap.size,3,none⟩) qw0).trans (HC0.out 3 _ rfl),?_⟩;have hbl0:b < w0.heap.size:=zll hbl HB0.out.size;exact ((zB zbr B6).cell (p:=⟨b,o+k*7,none⟩) hbl0).trans (((HB5.out.cell (p:=⟨b,o+k*7,none⟩) hbl0).symm).trans hh.2.2)
 clear g6 gg6 hn6 T T3 B6 hHeld;refine hK.out _ _ HS6 (fun hHeld=>?_);clear hK K HS6;refine zT 12 hHeld ?_;simp only [zA];refine wpAnyH_done (by kernel_rfl) ?_ _;clear hHeld HS;have t3:=(World.cell?_of_block (a:=⟨w3.heap.size,3,none⟩) HT3.out).trans (HC5.out 3 _ rfl);have s0:=(HB6.out.cell (p:=⟨w.heap.size,0,none⟩) qw0).trans (HC0.out 0 _ rfl);have s1:=(HB6.out.cell (p:=⟨w.heap.size,1,none⟩) qw0).trans (HC0.out 1 _ rfl);have s2:=(HB6.out.cell (p:=⟨w.heap.size,2,none⟩) qw0).trans (HC0.out 2 _ rfl);have s3:=(HB6.out.cell (p:=⟨w.heap.size,3,none⟩) qw0).trans (HC0.out 3 _ rfl);go_wp2_with fail
 clear s0 s1 s2 s3 t3;refine zcm (zGc st m.parent _ w6 S (HST.out _ HB6.out)) ?_;rintro e _ ⟨⟨i7,rfl,hi7⟩,b7⟩;have HI7:=zh hi7;have G7:=zh (G6.out.below Z1 b7);have HB7:=zh (zB HB6.out b7);clear b7 hi7;go_wp2;go_roundw
 case rel=>exact ⟨i7,m.parent,L++[⟨f.name,m.seq⟩],rfl,(by show n6=_;exact HN6.out),HI7,G7,HE,by rw [qLax,List.length_singleton];omega,HB7.out⟩
 have:=HN6.out;rw [qLax,List.length_singleton] at this;simp [zQh];omega
end
section
open Go.RowKit Go.Deep
def YE (st:State) (s:Nm):Int:=(zH ((zP st s).getD yH)).cut
def Y0 (st:State):List At->List At->Bool
 | w :: ws,x :: xs=>if w.name=x.name then (if w.seq < YE st x.name then true else Y0 st ws xs) else true
 | _,_=>false
def ZJ (st:State) (name:Nm):Bool:=match zP st name with
 | none=>false
 | some f=>match f.epochs.getLast? with
  | none=>false
  | some e=>if e.chain.length=(zN st 4 name).length then Y0 st e.chain (zN st 4 name) else true
theorem z6f {st:State} {s:Nm} (h:zP st s=none):ZJ st s=false:=by rw [ZJ,h]
theorem z6z {st:State} {s:Nm} {f:Folder} (h:zP st s=some f) (h2:f.epochs.length=0):ZJ st s=false:=by
 rw [ZJ,h];dsimp only;rw [List.eq_nil_of_length_eq_zero h2];rfl
theorem z6g {st:State} {s:Nm} {f:Folder} {e:Epoch} {n:Nat} (h:zP st s=some f) (h2:f.epochs.length=n+1) (h3:f.epochs[n]? =some e):ZJ st s=if e.chain.length=(zN st 4 s).length then Y0 st e.chain (zN st 4 s) else true:=by
 rw [ZJ,h];dsimp only;rw [List.getLast?_eq_getElem?,h2,Nat.add_sub_cancel,h3]
theorem z0d {st:State} {x:At}:∀{n:Nat} {s:Nm},x∈zN st n s->∃f,zP st x.name=some f
 | 0,_,h=>by cases h
 | n+1,s,h=>by
  cases hf:zP st s with
  | none=>rw [z1q hf] at h;cases h
  | some f=>
   rw [z0w hf] at h;rcases List.mem_cons.1 h with rfl | h
   ·exact ⟨f,hf⟩
   ·exact z0d h
theorem zBt {st:State} (a:List At):Y0 st a []=false:=by cases a<;>rfl
theorem zE9 {st:State} {a b:List At} {k:Nat} {y x:At} (ha:a[k]? =some y) (hb:b[k]? =some x):Y0 st (a.drop k) (b.drop k)=if y.name=x.name then (if y.seq < YE st x.name then true else Y0 st (a.drop (k+1)) (b.drop (k+1))) else true:=by
 obtain ⟨h1,h2⟩:=zge ha;obtain ⟨h3,h4⟩:=zge hb;rw [List.drop_eq_getElem_cons h1,List.drop_eq_getElem_cons h3,h2,h4,Y0]
theorem zO6 (a b c:Nm) (x y:Int) (g:Bool) (v u:Value) (w:World):(Instr.field 84 (.agg #[.string a,.int .i64 x,v,.string b,u,.int .i64 y,.bool g,.string c]) 5).run Tryz.prog w= .ok (.int .i64 y) w:=by kernel_rfl
theorem zGd (st:State) (name:Nm) (hnm:name.size<=140737488355328) (cs:List Value) (w:World) (S:Nat->Prop) (h:yB S w cs st):Calls Tryz.prog 144 #[.agg cs.toArray,.string name] w fun e w'=>e= .returned (.bool (ZJ st name))/\Below w.heap.size w w':=by
 have HR:=zh h;obtain ⟨st_A1,st_c1,st_A2,st_c2,st_A3,st_c3,rfl,_,_,_,_,st_users_s,_,_,_,st_deposits_s,_,_,_,st_folders_s⟩:=ZP h;obtain ⟨w0,hw0,cw0,fw0,Bw0,qw0⟩:=zQ w #[.int .i64 st.turn,.slice st_A1 st.users.length st_c1,.slice st_A2 st.deposits.length st_c2,.slice st_A3 st.folders.length st_c3] 34;have HB0:=zh Bw0;have HC0:=zh cw0;have HST:=zh fun W (hW:Below w0.heap.size w0 W)=>Z0 HR.out (zK (zB HB0.out hW))
 have s0:=cw0 0 _ rfl;have s1:=cw0 1 _ rfl;have s2:=cw0 2 _ rfl;have s3:=cw0 3 _ rfl;clear cw0 fw0 Bw0 st_users_s st_deposits_s st_folders_s;go_enter Tryz.func144,Tryz.ntmps144
 go_wp2_with fail
 clear hw0 s0 s1 s2 s3;refine zcm (z7i st name _ w0 S (HST.out _ zbr)) ?_;rintro e w2 ⟨⟨_,rfl,hf⟩,B2⟩;obtain ⟨f,hfe⟩:∃f,(zP st name).getD yH=f:=⟨_,rfl⟩;rw [hfe] at hf;obtain ⟨f_A2,f_c2,f_A3,f_c3,f_A4,f_c4,f_A5,f_c5,f_A6,f_c6,rfl,_,_,_,_,_,f_manifests_s,_,_,f_epochs_n,f_epochs_s,_,_,_,f_items_s,_,_,_,f_wraps_s,_,_,_,f_links_s⟩:=Z2 hf;obtain ⟨w3,hw3,cw3,fw3,Bw3,qw3⟩:=zQ w2 #[.string f.name,.int .i64 f.turn,.slice f_A2 f.manifests.length f_c2,.slice f_A3 f.epochs.length f_c3,.slice f_A4 f.items.length f_c4,.slice f_A5 f.wraps.length f_c5,.slice f_A6 f.links.length f_c6] 74;have HC3:=zh cw3;have HB23:=zh Bw3;have HB3:=zh (zB B2 Bw3);have d3:=cw3 3 _ rfl;have hq2:w.heap.size < w2.heap.size:=zll qw0 B2.size;clear cw3 fw3 Bw3 B2 f_manifests_s f_items_s f_wraps_s f_links_s
 cases hF:zP st name with
 | none=>
  have HE:=zh (z6f hF);simp only [Option.isSome_none];clear hF hfe;go_wp2;go_ret
  exact ⟨by rw [HE.out];rfl,zB HB0.out HB3.out⟩
 | some f'=>
 have HFF:=zh (show zP st name=some f by rw [hF] at hfe;rw [<-hfe,hF];rfl);simp only [Option.isSome_some];clear hF hfe;rcases Nat.eq_zero_or_pos f.epochs.length with hz | hz
 ·have HE:=zh (z6z HFF.out hz);have hzd:((f.epochs.length:Int)==0)=true:=by simp [hz]
  clear hz;go_wp2;go_ret;exact ⟨by rw [HE.out];rfl,zB HB0.out HB3.out⟩
 have hzd:((f.epochs.length:Int)==0)=false:=beq_eq_false_iff_ne.2 (by omega);obtain ⟨n,hn⟩:∃n,f.epochs.length=n+1:=⟨f.epochs.length - 1,by omega⟩;obtain ⟨e,he⟩:∃e,f.epochs[n]? =some e:=⟨_,qLgx (by omega)⟩;have HSB:=zh (z6g HFF.out hn he);obtain ⟨be,oe,_,hA,_,hRe,hcz⟩:=SlAt.elem f_epochs_s he (by decide) HB23.out;obtain ⟨e_A3,e_c3,rfl,_,_,_,e_chain_l,e_chain_m,e_chain_n,e_chain_s,_⟩:=z3o hRe;have u3:=hcz 3 _ rfl;subst hA;have hw1:IntKind.i64.wrap (n:Int)=(n:Int):=IntWalk.i64_in _ (by have:=f_epochs_n;omega);have hni:(n:Int) < (n:Int)+1:=by omega
 have HSQ:=zh (show ∀W:World,Below w3.heap.size w3 W->(fun W:World=>(W.cell? ⟨w.heap.size,0,none⟩=some (.int .i64 st.turn)/\W.cell? ⟨w.heap.size,1,none⟩=some (.slice st_A1 st.users.length st_c1)/\W.cell? ⟨w.heap.size,2,none⟩=some (.slice st_A2 st.deposits.length st_c2)/\W.cell? ⟨w.heap.size,3,none⟩=some (.slice st_A3 st.folders.length st_c3))/\W.cell? ⟨w2.heap.size,3,none⟩=some (.slice (some ⟨be,oe,none⟩) (n+1) f_c3)/\W.cell? ⟨be,oe+n*5+3,none⟩=some (.slice e_A3 e.chain.length e_c3)) W from fun W hW=>by
  have c:=fun j v (hj:(#[.int .i64 st.turn,.slice st_A1 st.users.length st_c1,.slice st_A2 st.deposits.length st_c2,.slice st_A3 st.folders.length st_c3]:Array Value)[j]? =some v)=>((zB HB3.out hW).cell (p:=⟨w.heap.size,j,none⟩) qw0).trans (HC0.out j v hj)
  exact ⟨⟨c 0 _ rfl,c 1 _ rfl,c 2 _ rfl,c 3 _ rfl⟩,by rw [<-hn];exact (hW.cell (p:=⟨w2.heap.size,3,none⟩) qw3).trans (HC3.out 3 _ rfl),(hW.cell (p:=⟨be,oe+n*5+3,none⟩) (zF u3)).trans u3⟩)
 have HCH:=zh (Sl.keep Z1 (by decide) (show Sl 2 rAt S w2 (.slice e_A3 e.chain.length e_c3) e.chain from ⟨_,_,rfl,e_chain_l,e_chain_m,e_chain_n,e_chain_s⟩) (zK HB23.out));have hcl:e.chain.length<=140737488355328:=e_chain_n;rw [hn] at hw3 d3;go_wp2;clear hn hz hzd he hcz hw3 d3 u3;have HS:=HSQ.out;refine zE (by kernel_rfl) HS (fun hHeld=>?_);refine zi 0 ?_;iterate 11 (refine zt hHeld ?_;simp only [zA])
 refine zo ?_;refine zr 11 fun K hK=>?_
 go_simp;go_at_call 67
 refine zcm (zO5 st name hnm _ _ S (HST.out _ (zB HB3.out zbr.drew))) ?_;rintro _ w5 ⟨⟨_,rfl,hs5⟩,b5⟩;have B5:=zh (show Below w3.heap.size w3 w5 from zB zbr.drew b5);clear b5 hHeld;refine hK.out _ _ (HS _ B5.out) (fun hHeld=>?_);clear hK K;have HS5:=zh hs5;clear hs5;refine zi 12 ?_;iterate 2 (refine zt hHeld ?_;simp only [zA])
 refine zo ?_;refine wpAnyH_done (by kernel_rfl) ?_ _;clear hHeld HS;obtain ⟨now,hnow⟩:∃now,zN st 4 name=now:=⟨_,rfl⟩;rw [hnow] at HS5 HSB;have hn4:now.length<=4:=by rw [<-hnow];exact z1k _ _ _
 clear hnow;obtain ⟨_,_,rfl,_,hc5,_,hs5⟩:=HS5.out;unfold maxLen at hc5;by_cases hlen:e.chain.length=now.length
 rotate_left
 ·rw [if_neg hlen] at HSB;have hld:((e.chain.length:Int)==(now.length:Int))=false:=beq_eq_false_iff_ne.2 (by omega);clear hlen;go_wp2;go_ret;exact ⟨by rw [HSB.out];rfl,zB HB0.out (zB HB3.out B5.out)⟩
 rw [if_pos hlen] at HSB;have HLEN:=zh hlen;have hld:((e.chain.length:Int)==(now.length:Int))=true:=beq_iff_eq.2 (by omega);have HCH5:=zh (HCH.out.keep Z1 (by decide) (zK B5.out));have B05:=zh (zB HB3.out B5.out);clear hlen;go_wp2;clear hld;go_loopw [46] (fun i wr=>∃k:Nat,k<=now.length/\i= .int .i64 k/\Hid (Y0 st (e.chain.drop k) (now.drop k)=ZJ st name)/\Below w5.heap.size w5 wr) (fun i _=>now.length - (intOf i).toNat)
 case atStart=>exact ⟨0,by omega,by go_num,(by show _=_;rw [HSB.out];rfl),Below.refl _ _⟩
 obtain ⟨k,_,rfl,HG,hbel⟩:=hrel;have B0r:=zh (zB B05.out hbel);by_cases hlt:k < now.length
 rotate_left
 ·obtain rfl:k=now.length:=by omega
  have HE:=zh (show ZJ st name=false by rw [<-HG.out,List.drop_length,zBt]);go_wp2;go_ret;exact ⟨by rw [HE.out];rfl,zB HB0.out B0r.out⟩
 obtain ⟨x,hx⟩:∃x,now[k]? =some x:=⟨_,qLgx hlt⟩;obtain ⟨y,hy⟩:∃y,e.chain[k]? =some y:=⟨_,qLgx (by have:=HLEN.out;omega)⟩;have HST2:=zh (zE9 (st:=st) hy hx);obtain ⟨_,_,_,hAx,_,hRx,hcx⟩:=SlAt.elem hs5 hx (by decide) hbel;obtain ⟨_,_,hAw',-,-,-,hsw⟩:=HCH5.out;cases hAw'
 obtain ⟨bw,ow,_,hAw,_,hRw,hcw⟩:=SlAt.elem hsw hy (by decide) hbel;obtain ⟨rfl,x_name_le,_⟩:=z3b hRx;obtain ⟨rfl,_,_⟩:=z3b hRw;have u0:=hcx 0 _ rfl;have u1:=hcx 1 _ rfl;have v0:=hcw 0 _ rfl;have v1:=hcw 1 _ rfl;rw [Nat.add_zero] at u0 v0;subst hAx;subst hAw;have hki:(k:Int) < (now.length:Int):=by omega
 have hki2:(k:Int) < (e.chain.length:Int):=by have:=HLEN.out;omega
 have hxn:x.name.size<=140737488355328:=x_name_le;obtain ⟨w6,hw6,cw6,fw6,Bw6,qw6⟩:=zQ wr #[.string x.name,.int .i64 x.seq] 124;have HC6:=zh cw6;have HB6:=zh (zB hbel Bw6);have HB06:=zh (zB B0r.out Bw6);have x0:=cw6 0 _ rfl;have HBW6:=zh Bw6;have c:=fun j v (hj:(#[.int .i64 st.turn,.slice st_A1 st.users.length st_c1,.slice st_A2 st.deposits.length st_c2,.slice st_A3 st.folders.length st_c3]:Array Value)[j]? =some v)=>(HB06.out.cell (p:=⟨w.heap.size,j,none⟩) qw0).trans (HC0.out j v hj)
 have s0:=c 0 _ rfl;have s1:=c 1 _ rfl;have s2:=c 2 _ rfl;have s3:=c 3 _ rfl;clear c hx hy hcx hcw cw6 fw6 Bw6;go_wp2_with fail
 clear hw6 s0 s1 s2 s3 x0;refine zcm (z7i st x.name _ w6 S (HST.out _ HB06.out)) ?_;rintro _ w7 ⟨⟨_,rfl,hg⟩,b7⟩;have HCUT:=zh (show YE st x.name=(zH ((zP st x.name).getD yH)).cut from rfl);obtain ⟨g,hge⟩:∃g,(zP st x.name).getD yH=g:=⟨_,rfl⟩;rw [hge] at hg HCUT;obtain ⟨_,hok7⟩:∃b,(zP st x.name).isSome=b:=⟨_,rfl⟩;rw [hok7];have HGR:=zh hg;obtain ⟨g_A2,g_c2,g_A3,g_c3,g_A4,g_c4,g_A5,g_c5,g_A6,g_c6,rfl,_,_,_,_,_,_,_,_,_,_,_,_,_,_,_,_,_,_,_,_,_,_⟩:=Z2 hg;obtain ⟨w8,_,cw8,fw8,Bw8,qw8⟩:=zQ w7 #[.string g.name,.int .i64 g.turn,.slice g_A2 g.manifests.length g_c2,.slice g_A3 g.epochs.length g_c3,.slice g_A4 g.items.length g_c4,.slice g_A5 g.wraps.length g_c5,.slice g_A6 g.links.length g_c6] 74;have HC8:=zh cw8;have B68:=zh (zB b7 Bw8);have B78:=zh Bw8;have B58:=zh (zB HB6.out B68.out);by_cases hne:y.name=x.name
 rotate_left
 ·have HEND:=zh (show ZJ st name=true by rw [<-HG.out,HST2.out,if_neg hne]);have hse:(y.name.toList==x.name.toList)=false:=z03 hne;have x0:=(B68.out.cell (p:=⟨wr.heap.size,0,none⟩) qw6).trans (HC6.out 0 _ rfl);have q0:=((zB HBW6.out B68.out).cell (p:=⟨bw,ow+k*2,none⟩) (zF v0)).trans v0;clear hne b7 hge hok7 cw8 fw8 Bw8;go_wp2;go_quiet (fail)
  go_wp2;go_ret;exact ⟨by rw [HEND.out];rfl,ZN (zB HB0.out (zB B05.out B58.out)) _⟩
 have HNE:=zh hne;have hse:(x.name.toList==x.name.toList)=true:=by simp
 have HS8:=zh (show ∀W:World,Below w8.heap.size w8 W->(fun W:World=>W.cell? ⟨wr.heap.size,0,none⟩=some (.string x.name)/\W.cell? ⟨bw,ow+k*2,none⟩=some (.string x.name)/\W.cell? ⟨bw,ow+k*2+1,none⟩=some (.int .i64 y.seq)/\W.cell? ⟨w7.heap.size,0,none⟩=some (.string g.name)/\W.cell? ⟨w7.heap.size,1,none⟩=some (.int .i64 g.turn)/\W.cell? ⟨w7.heap.size,2,none⟩=some (.slice g_A2 g.manifests.length g_c2)/\W.cell? ⟨w7.heap.size,3,none⟩=some (.slice g_A3 g.epochs.length g_c3)/\W.cell? ⟨w7.heap.size,4,none⟩=some (.slice g_A4 g.items.length g_c4)/\W.cell? ⟨w7.heap.size,5,none⟩=some (.slice g_A5 g.wraps.length g_c5)/\W.cell? ⟨w7.heap.size,6,none⟩=some (.slice g_A6 g.links.length g_c6)) W from fun W hW=>by
  have c:=fun j v (hj:(#[.string g.name,.int .i64 g.turn,.slice g_A2 g.manifests.length g_c2,.slice g_A3 g.epochs.length g_c3,.slice g_A4 g.items.length g_c4,.slice g_A5 g.wraps.length g_c5,.slice g_A6 g.links.length g_c6]:Array Value)[j]? =some v)=>(hW.cell (p:=⟨w7.heap.size,j,none⟩) qw8).trans (HC8.out j v hj)
  have b:=zB HBW6.out (zB B68.out hW);refine ⟨((zB B68.out hW).cell (p:=⟨wr.heap.size,0,none⟩) qw6).trans (HC6.out 0 _ rfl),(b.cell (p:=⟨bw,ow+k*2,none⟩) (zF v0)).trans (by rw [v0,HNE.out]),(b.cell (p:=⟨bw,ow+k*2+1,none⟩) (zF v1)).trans v1,c 0 _ rfl,c 1 _ rfl,c 2 _ rfl,c 3 _ rfl,c 4 _ rfl,c 5 _ rfl,c 6 _ rfl⟩)
 have HNW:=zh fun W hW=>z62 g _ W S (Z5 HGR.out (zK hW))
 clear hne b7 hge hok7 cw8 fw8 Bw8 v0 v1;go_wp2;have HS:=HS8.out;refine zE (by kernel_rfl) HS (fun hHeld=>?_);refine zi 0 ?_;iterate 10 (refine zt hHeld ?_;simp only [zA])
 refine zo ?_;refine zi 12 ?_;iterate 5 (refine zt hHeld ?_;simp only [zA])
 refine zo ?_;refine zr 10 fun K hK=>?_
 go_simp;go_at_call 120
 refine zcm (HNW.out _ (zB B78.out zbr.drew)) ?_;rintro _ w9 ⟨⟨_,rfl,hm⟩,b9⟩;have B9:=zh (show Below w8.heap.size w8 w9 from zB zbr.drew b9);clear b9 hHeld;obtain ⟨m,hme⟩:∃m,zH g=m:=⟨_,rfl⟩;rw [hme] at hm;have HCUT2:=zh (show YE st x.name=m.cut by rw [HCUT.out,hme]);clear hme;obtain ⟨m_A2,m_c2,m_A4,m_c4,rfl,_,_,_,_,_,m_prev_s,_,_,_,_,m_members_s,_,_⟩:=yF hm;have hfd:=zO6 m.folder m.parent m.who m.seq m.cut m.gone (.slice m_A2 m.prev.length m_c2) (.slice m_A4 m.members.length m_c4);refine hK.out _ _ (HS _ B9.out) (fun hHeld=>?_);clear hK K m_prev_s m_members_s;refine zT 11 hHeld ?_;simp only [zA];refine zi 17 ?_;iterate 2 (refine zt hHeld ?_;simp only [zA])
 refine zo ?_;refine wpAnyH_done (by kernel_rfl) ?_ _;clear hHeld HS;have HB9:=zh (zB B58.out B9.out);by_cases hct:y.seq < m.cut
 ·have hcd:decide (y.seq < m.cut)=true:=decide_eq_true hct;rw [hcd];have HEND:=zh (show ZJ st name=true by rw [<-HG.out,HST2.out,if_pos HNE.out,HCUT2.out,if_pos hct]);clear hct hcd;go_wp2;go_ret;exact ⟨by rw [HEND.out];rfl,zB HB0.out (zB B05.out HB9.out)⟩
 have hcd:decide (y.seq < m.cut)=false:=decide_eq_false hct;rw [hcd];have HEND:=zh (show Y0 st (e.chain.drop (k+1)) (now.drop (k+1))=ZJ st name by rw [<-HG.out,HST2.out,if_pos HNE.out,HCUT2.out,if_neg hct]);clear hct hcd;go_wp2;go_roundw
 case rel=>
  have HF:∃j':Nat,j'<=now.length/\Value.int .i64 ((k:Int)+1)= .int .i64 j'/\Hid (Y0 st (e.chain.drop j') (now.drop j')=ZJ st name)/\Below w5.heap.size w5 w9:=⟨k+1,by omega,by go_num,HEND,HB9.out⟩;first | exact HF | ((repeat apply Exists.intro);refine ⟨HF,?_⟩;first | rfl | ((repeat' apply And.intro)<;>rfl) | (simp;(repeat' apply And.intro)<;>first | rfl | (have:=HLEN.out;omega)))
 case measure=>exact qMx
end
end Go.Proofs.YtdggplhnfhcieaaGreatDoor
