/- No condition. -/
import Derived.Laws.ResultCell
import Derived.Maps.OwnOps
import Derived.StringKeys
import Derived.Test.YtdggplhnfhcieaaGreatDoorX14
set_option linter.all false
set_option maxRecDepth 100000
set_option maxHeartbeats 16000000
namespace Go.Proofs.YtdggplhnfhcieaaGreatDoor
section
open Go.RowKit Go.Deep
theorem z6v {P:Program} {fn:Func} {p u:Tmp} {ty:TypeId} (h:fn.results=#[.cell p ty,.tmp u]) (tmps:Array Value) (w:World) (g:Nat) (t:TypeId) (cs:Array Value) (fr:Nat×Nat) (d:TypeDesc)
  (hp:tmps.getD p undef= .pointer (some ⟨g,0,none⟩)) (hg:w.heap[g]? =some (.cells cs t fr))
  (hu:P.underlying ty=some d) (hd:(match d with | .struct _ | .array _ _=>true | _=>false)=true) (hi:(P.info? ty).map (·.size)=some cs.size):
  (results fn tmps).run P w= .ok (.tuple #[.agg cs,tmps.getD u undef]) w:=by
 rw [results_cell_tmp h,hp];simp [asAddr,run_loadVar_row w g t ty cs fr d hg hu hd hi,Result.andThen]
theorem SlAt.elem {α:Type} {sz:Nat} {R:Rp α} {S:Nat->Prop} {w wr:World} {A:Option Addr} {l:List α} {k:Nat} {x:α} (s:SlAt sz R S w A l) (hk:l[k]? =some x) (hsz:0 < sz) (hb:Below w.heap.size w wr):
  ∃b o ys,A=some ⟨b,o,none⟩/\b < w.heap.size/\R S w ys x/\∀(j:Nat) (y:Value),ys[j]? =some y->wr.cell? ⟨b,o+k*sz+j,none⟩=some y:=by
 obtain ⟨b,o,ys,hA,_,_,hc,hR⟩:=s k x hk;have h0:=hc 0 _ (qLgx (by omega));refine ⟨b,o,ys,hA,zF h0,hR,fun j y hj=>?_⟩;have h1:=hc j y hj;rw [Nat.add_assoc];exact (hb.cell (p:=⟨b,o+(k*sz+j),none⟩) (zF h1)).trans h1
theorem yV {a b:Nm}:(a.toList==b.toList)=decide (a=b):=by
 by_cases h:a=b
 ·subst h;simp
 rw [decide_eq_false h,<-Bool.not_eq_true,beq_iff_eq];exact fun e=>h (toList_inj e)
theorem z03 {a b:Nm} (h:a≠b):(a.toList==b.toList)=false:=by
 rw [yV];exact decide_eq_false h
def yH:Folder:=⟨⟨#[]⟩,0,[],[],[],[],[]⟩
def zE3:Manifest:=⟨⟨#[]⟩,0,[],⟨#[]⟩,[],0,false,⟨#[]⟩⟩
def AtI {α:Type} (p:α->Bool) (l:List α) (i:Int):Prop:=(∃(k:Nat) (x:α),i=k/\l[k]? =some x/\l.find? p=some x)\/(i= -1/\l.find? p=none)
theorem z7z {α:Type} {p:α->Bool} {l:List α} {k:Nat} {x:α} (h:∀y∈l.take k,p y=false) (hx:l[k]? =some x) (hp:p x=true):l.find? p=some x:=by
 have hk:=zge hx;refine List.find?_eq_some_iff_append.2 ⟨hp,l.take k,l.drop (k+1),?_,fun y hy=>by simp [h y hy]⟩;rw [<-hk.2,<-List.drop_eq_getElem_cons hk.1,List.take_append_drop]
theorem zFb {α:Type} {p:α->Bool} {l:List α} (h:∀y∈l,p y=false):l.find? p=none:=List.find?_eq_none.2 fun y hy=>by simp [h y hy]
theorem z0l {α:Type} {p:α->Bool} {l:List α} {k:Nat} {x:α} (h:∀y∈l.take k,p y=false) (hx:l[k]? =some x) (hp:p x=false):∀y∈l.take (k+1),p y=false:=by
 rw [qLtx,hx];intro y hy;rcases zmb hy with hy | hy
 ·exact h y hy
 obtain rfl:y=x:=by simpa using hy
 exact hp
def isF (s:Nm) (f:Folder):Bool:=decide (f.name=s)
theorem zNz (s:Nm) (B:Nat) (x:Folder) (cs:List Value) (w:World) (S:Nat->Prop) (h:ZG S w cs x) (hB:w.cell? ⟨B,0,none⟩=some (.string s)):
  Calls Tryz.prog 122 #[.agg cs.toArray,.pointer (some ⟨B,0,none⟩)] w fun e w'=>e= .returned (.bool (isF s x))/\Below w.heap.size w w':=by
 obtain ⟨_,_,_,_,_,_,_,_,_,_,rfl,_,_,_,_,_,_,_,_,_,_,_,_,_,_,_,_,_,_,_,_,_,_⟩:=Z2 h;have hBl:=zF hB;have E:=zh (yV (a:=x.name) (b:=s));go_enter Tryz.func122,Tryz.ntmps122
 go_wp2;go_ret;exact ⟨ZM E.out,by go_grown⟩
theorem zLp (s:Nm) (B:Nat) (l:List Folder) (v:Value) (w:World) (S:Nat->Prop) (h:Sl 7 ZG S w v l) (hB:w.cell? ⟨B,0,none⟩=some (.string s)):
  Calls Tryz.prog 121 #[v,.func (.func 122) #[] #[.pointer (some ⟨B,0,none⟩)]] w fun e w'=>(∃i:Int,e= .returned (.int .i64 i)/\AtI (isF s) l i)/\Below w.heap.size w w':=by
 have HB:=zh hB;clear hB;obtain ⟨_,_,rfl,_,hc,_,hs⟩:=h;unfold maxLen at hc;go_enter Tryz.func121,Tryz.ntmps121
 go_wp2;go_loopw [8] (fun i wr=>∃(k:Nat),k<=l.length/\i= .int .i64 k/\Hid (∀y∈l.take k,isF s y=false)/\Below w.heap.size w wr) (fun i _=>l.length - (intOf i).toNat)
 case atStart=>exact ⟨0,by omega,by go_num,(fun y hy=>by simp at hy),by go_grown⟩
 obtain ⟨k,_,rfl,HN,hbel⟩:=hrel;have hz:=hbel.size;by_cases hlt:k < l.length
 rotate_left
 ·obtain rfl:k=l.length:=by omega
  have EH:=zh (zFb (p:=isF s) (l:=l) (by have:=HN.out;rwa [qLnx] at this));go_wp2;go_ret;exact ⟨⟨_,rfl,.inr ⟨rfl,EH.out⟩⟩,hbel⟩
 obtain ⟨x,_,_,_,_,_,_,_,_,_,_,_,_,x_k,x_d,_,rfl,_,_,_,_,_,_,_,_,_,x_R,_,_,_,_,_,_,_,_,_,_,_,_,_,_,_,_,_,_,_,_,_,_⟩:=z4s hs hlt (zK hbel);have HX:=zh x_k;clear x_k x_d;go_wp2_with fail
 refine zcm (zNz s B x _ _ S x_R ((hbel.cell (p:=⟨B,0,none⟩) (zF HB.out)).trans HB.out)) ?_;rintro e _ ⟨rfl,hb1⟩;cases hpx:isF s x
 ·have EH:=zh (z0l HN.out HX.out hpx);go_wp2;go_roundw
  case rel=>exact ⟨k+1,by omega,by go_num,EH,zB hbel hb1⟩
  case measure=>exact qMx
 have EH:=zh (z7z HN.out HX.out hpx);go_wp2;go_ret;exact ⟨⟨_,rfl,.inl ⟨k,x,rfl,HX.out,EH.out⟩⟩,zB hbel hb1⟩
theorem z61 (st:State) (s:Nm):st.folders.find? (isF s)=zP st s:=rfl
theorem z7i (st:State) (s:Nm) (cs:List Value) (w:World) (S:Nat->Prop) (h:yB S w cs st):Calls Tryz.prog 68 #[.agg cs.toArray,.string s] w fun e w'=>(∃cf:List Value,e= .returned (.tuple #[.agg cf.toArray,.bool (zP st s).isSome])/\ZG S w' cf ((zP st s).getD yH))/\Below w.heap.size w w':=by
 have hR:=h;obtain ⟨st_A1,st_c1,st_A2,st_c2,st_A3,st_c3,rfl,_,_,_,_,_,_,_,_,_,st_folders_l,st_folders_m,st_folders_n,st_folders_s⟩:=ZP h;have hSl:Sl 7 ZG S w (.slice st_A3 st.folders.length st_c3) st.folders:=⟨_,_,rfl,st_folders_l,(by unfold maxLen;exact st_folders_m),st_folders_n,st_folders_s⟩;obtain ⟨w0,hw0,cw0,fw0,Bw0,qw0⟩:=zQ w #[.int .i64 st.turn,.slice st_A1 st.users.length st_c1,.slice st_A2 st.deposits.length st_c2,.slice st_A3 st.folders.length st_c3] 34;obtain ⟨w1,hw1,cw1,fw1,Bw1,qw1⟩:=zQ w0 #[.string s] 9;obtain ⟨w2,hw2,cw2,fw2,Bw2,qw2⟩:=zQ w1 #[.string ⟨#[]⟩,.int .i64 0,.slice none 0 0,.slice none 0 0,.slice none 0 0,.slice none 0 0,.slice none 0 0] 74;have B2:Below w.heap.size w w2:=zB (zB Bw0 Bw1) Bw2;have B02:Below w0.heap.size w0 w2:=zB Bw1 Bw2;have x3:=(B02.cell (p:=⟨w.heap.size,3,none⟩) qw0).trans (cw0 3 _ rfl);have y0:=(Bw2.cell (p:=⟨w0.heap.size,0,none⟩) qw1).trans (cw1 0 _ rfl);have HI:=zh (zLp s w0.heap.size st.folders _ w2 S (hSl.keep YX (by decide) (zK B2)) y0);have HX3:=zh x3;have HC2:=zh cw2;have HF2:=zh fw2;have HB2:=zh B2;have HW0:=zh hw0;have HW1:=zh hw1;have HW2:=zh hw2;have HB02:=zh B02;clear cw0 cw1 cw2 fw0 fw1 fw2 hw0 hw1 hw2 Bw0 Bw1 Bw2 B2 B02 hSl hR;go_enter Tryz.func68,Tryz.ntmps68
 have hw0:=HW0.out;have hw1:=HW1.out;have hw2:=HW2.out;go_wp2_with fail
 refine zcm HI.out ?_;rintro e w3 ⟨⟨_,rfl,hi⟩,B3⟩;have HB3:=zh (zB HB2.out B3);have hc3:=(B3.cell (p:=⟨w.heap.size,3,none⟩) (zll qw0 HB02.out.size)).trans HX3.out;have HC3:=zh (fun j v (hj:(#[.string ⟨#[]⟩,.int .i64 0,.slice none 0 0,.slice none 0 0,.slice none 0 0,.slice none 0 0,.slice none 0 0]:Array Value)[j]? =some v)=>(B3.cell (p:=⟨w1.heap.size,j,none⟩) qw2).trans (HC2.out j v hj));have f3:=fun j=>(B3.frozen (p:=⟨w1.heap.size,j,none⟩) qw2).trans (HF2.out j)
 have o0:=HC3.out 0 _ rfl;have o1:=HC3.out 1 _ rfl;have o2:=HC3.out 2 _ rfl;have o3:=HC3.out 3 _ rfl;have o4:=HC3.out 4 _ rfl;have o5:=HC3.out 5 _ rfl;have o6:=HC3.out 6 _ rfl;have hz3:w1.heap.size < w3.heap.size:=zll qw2 B3.size;have hblk:w3.heap[w1.heap.size]? =some (.cells #[.string ⟨#[]⟩,.int .i64 0,.slice none 0 0,.slice none 0 0,.slice none 0 0,.slice none 0 0,.slice none 0 0] 74 (0,0)):=(B3.block _ qw2).trans (by rw [<-HW2.out];exact zJ _ rfl);have HBLK:=zh hblk;have hwl:w.heap.size<=w1.heap.size:=by have:=HB02.out.size;omega
 clear hblk;rcases hi with ⟨k,f,rfl,hk,hf⟩ | ⟨rfl,hf⟩
 ·have HF:=zh hf;have hlt:=(zge hk).1;obtain ⟨_,_,_,rfl,_,hR,hcz⟩:=SlAt.elem st_folders_s hk (by decide) HB3.out;have HR:=zh hR;obtain ⟨f_A2,f_c2,f_A3,f_c3,f_A4,f_c4,f_A5,f_c5,f_A6,f_c6,rfl,_,_,_,_,_,f_manifests_s,_,_,_,f_epochs_s,_,_,_,f_items_s,_,_,_,f_wraps_s,_,_,_,f_links_s⟩:=Z2 hR;have u0:=hcz 0 _ rfl;have u1:=hcz 1 _ rfl;have u2:=hcz 2 _ rfl;have u3:=hcz 3 _ rfl;have u4:=hcz 4 _ rfl;have u5:=hcz 5 _ rfl;have u6:=hcz 6 _ rfl;rw [Nat.add_zero] at u0;have hki:(k:Int) < (st.folders.length:Int):=by omega
  clear hf hk hw0 hw1 hw2 hcz f_manifests_s f_epochs_s f_items_s f_wraps_s f_links_s;go_wp2;try simp only [Exit.inBlock,Exit.then]
  have hblk:=HBLK.out;refine bodyPost_ret (z6v rfl _ _ w1.heap.size 74 #[.string f.name,.int .i64 f.turn,.slice f_A2 f.manifests.length f_c2,.slice f_A3 f.epochs.length f_c3,.slice f_A4 f.items.length f_c4,.slice f_A5 f.wraps.length f_c5,.slice f_A6 f.links.length f_c6] (0,0) _ rfl (by repeat' first|with_reducible assumption|((with_reducible first|refine zR _ ?_ ?_|apply zJ);rotate_left;first|with_reducible rfl|((try dsimp only);first|with_reducible assumption|omega|(simp only [zS];done)|(simp only [zS];omega)))|with_reducible apply zI|with_reducible refine zZ _ ?_|with_reducible refine ZL ?_|refine (rfl:(_:Array Value)=_)) Tryz.underlying74 rfl (by kernel_rfl)) rfl ?_;have hbb:=HB3.out;refine ⟨⟨_,by rw [show (zP st s).isSome=true by rw [<-z61,HF.out];rfl];rfl,?_⟩,by go_grown⟩;rw [show (zP st s).getD yH=f by rw [<-z61,HF.out];rfl];exact Z5 HR.out (zK (by go_grown))
 have HF:=zh hf;clear hf hw0 hw1 hw2;go_wp2;try simp only [Exit.inBlock,Exit.then]
 have hblk:=HBLK.out;refine bodyPost_ret (z6v rfl _ _ w1.heap.size 74 #[.string ⟨#[]⟩,.int .i64 0,.slice none 0 0,.slice none 0 0,.slice none 0 0,.slice none 0 0,.slice none 0 0] (0,0) _ rfl (by repeat' first|with_reducible assumption|((with_reducible first|refine zR _ ?_ ?_|apply zJ);rotate_left;first|with_reducible rfl|((try dsimp only);first|with_reducible assumption|omega|(simp only [zS];done)|(simp only [zS];omega)))|with_reducible apply zI|with_reducible refine zZ _ ?_|with_reducible refine ZL ?_|refine (rfl:(_:Array Value)=_)) Tryz.underlying74 rfl (by kernel_rfl)) rfl ?_;have hbb:=HB3.out;refine ⟨⟨_,by rw [show (zP st s).isSome=false by rw [<-z61,HF.out];rfl];rfl,?_⟩,by go_grown⟩;rw [show (zP st s).getD yH=yH by rw [<-z61,HF.out];rfl];exact ⟨_,_,_,_,_,rfl,Nat.zero_le _,(show I64 0 from ⟨by decide,by decide⟩),z0k _ _ _ _,z0k _ _ _ _,z0k _ _ _ _,z0k _ _ _ _,z0k _ _ _ _⟩
def zH (f:Folder):Manifest:=f.manifests.getLast?.getD zE3
theorem z62 (f:Folder) (cs:List Value) (w:World) (S:Nat->Prop) (h:ZG S w cs f):Calls Tryz.prog 120 #[.agg cs.toArray] w fun e w'=>(∃cm:List Value,e= .returned (.agg cm.toArray)/\ZR S w' cm (zH f))/\Below w.heap.size w w':=by
 obtain ⟨f_A2,f_c2,f_A3,f_c3,f_A4,f_c4,f_A5,f_c5,f_A6,f_c6,rfl,_,_,f_manifests_l,_,f_manifests_n,f_manifests_s,_,_,_,f_epochs_s,_,_,_,f_items_s,_,_,_,f_wraps_s,_,_,_,f_links_s⟩:=Z2 h;obtain ⟨w0,hw0,cw0,_,Bw0,qw0⟩:=zQ w #[.string f.name,.int .i64 f.turn,.slice f_A2 f.manifests.length f_c2,.slice f_A3 f.epochs.length f_c3,.slice f_A4 f.items.length f_c4,.slice f_A5 f.wraps.length f_c5,.slice f_A6 f.links.length f_c6] 74;obtain ⟨w1,hw1,cw1,_,Bw1,_⟩:=zQ w0 #[.string ⟨#[]⟩,.int .i64 0,.slice none 0 0,.string ⟨#[]⟩,.slice none 0 0,.int .i64 0,.bool false,.string ⟨#[]⟩] 84;have B1:Below w.heap.size w w1:=zB Bw0 Bw1;have x2:=(Bw1.cell (p:=⟨w.heap.size,2,none⟩) qw0).trans (cw0 2 _ rfl);have HB1:=zh B1;have hblk:w1.heap[w0.heap.size]? =some (.cells #[.string ⟨#[]⟩,.int .i64 0,.slice none 0 0,.string ⟨#[]⟩,.slice none 0 0,.int .i64 0,.bool false,.string ⟨#[]⟩] 84 (0,0)):=by rw [<-hw1];exact zJ _ rfl
 have o0:=cw1 0 _ rfl;have o1:=cw1 1 _ rfl;have o2:=cw1 2 _ rfl;have o3:=cw1 3 _ rfl;have o4:=cw1 4 _ rfl;have o5:=cw1 5 _ rfl;have o6:=cw1 6 _ rfl;have o7:=cw1 7 _ rfl;have hwl:w.heap.size<=w0.heap.size:=Nat.le_of_lt qw0;rcases Nat.eq_zero_or_pos f.manifests.length with h0 | h0
 ·have HE:=zh (show zH f=zE3 by
   have:f.manifests=[]:=List.eq_nil_of_length_eq_zero h0;unfold zH;rw [this];rfl)
  rw [h0] at x2 hw0⊢;clear h0 cw0 cw1 Bw0 Bw1 B1 f_manifests_s f_epochs_s f_items_s f_wraps_s f_links_s;go_enter Tryz.func120,Tryz.ntmps120
  go_wp2;try simp only [Exit.inBlock,Exit.then]
  refine bodyPost_ret (results_cell_row rfl _ _ w0.heap.size 84 _ (0,0) _ rfl (by repeat' first|with_reducible assumption|((with_reducible first|refine zR _ ?_ ?_|apply zJ);rotate_left;first|with_reducible rfl|((try dsimp only);first|with_reducible assumption|omega|(simp only [zS];done)|(simp only [zS];omega)))|with_reducible apply zI|with_reducible refine zZ _ ?_|with_reducible refine ZL ?_|refine (rfl:(_:Array Value)=_)) Tryz.underlying84 rfl (by kernel_rfl)) rfl ?_;have hbb:=HB1.out;refine ⟨⟨_,rfl,?_⟩,by go_grown⟩;rw [HE.out];exact ⟨_,_,rfl,Nat.zero_le _,(show I64 0 from ⟨by decide,by decide⟩),z0k _ _ _ _,Nat.zero_le _,z0k _ _ _ _,(show I64 0 from ⟨by decide,by decide⟩),Nat.zero_le _⟩
 obtain ⟨n,hn⟩:∃n,f.manifests.length=n+1:=⟨f.manifests.length - 1,by omega⟩;obtain ⟨m,hm⟩:∃m,f.manifests[n]? =some m:=⟨_,qLgx (by omega)⟩;have HE:=zh (show zH f=m by
  unfold zH;rw [List.getLast?_eq_getElem?,hn,Nat.add_sub_cancel,hm];rfl)
 obtain ⟨_,_,_,hA,_,hR,hcz⟩:=SlAt.elem f_manifests_s hm (by decide) B1;have HR:=zh hR;obtain ⟨m_A2,m_c2,m_A4,m_c4,rfl,_,_,_,_,_,m_prev_s,_,_,_,_,m_members_s,_,_⟩:=yF hR;have u0:=hcz 0 _ rfl;have u1:=hcz 1 _ rfl;have u2:=hcz 2 _ rfl;have u3:=hcz 3 _ rfl;have u4:=hcz 4 _ rfl;have u5:=hcz 5 _ rfl;have u6:=hcz 6 _ rfl;have u7:=hcz 7 _ rfl;rw [Nat.add_zero] at u0;rw [hn] at x2 hw0 f_manifests_l f_manifests_n⊢;subst hA;clear h0 hn hm hcz cw0 cw1 Bw0 Bw1 B1 f_manifests_s f_epochs_s f_items_s f_wraps_s f_links_s m_prev_s m_members_s;go_enter Tryz.func120,Tryz.ntmps120
 go_wp2;try simp only [Exit.inBlock,Exit.then]
 refine bodyPost_ret (results_cell_row rfl _ _ w0.heap.size 84 _ (0,0) _ rfl (by repeat' first|with_reducible assumption|((with_reducible first|refine zR _ ?_ ?_|apply zJ);rotate_left;first|with_reducible rfl|((try dsimp only);first|with_reducible assumption|omega|(simp only [zS];done)|(simp only [zS];omega)))|with_reducible apply zI|with_reducible refine zZ _ ?_|with_reducible refine ZL ?_|refine (rfl:(_:Array Value)=_)) Tryz.underlying84 rfl (by kernel_rfl)) rfl ?_;have hbb:=HB1.out;refine ⟨⟨_,rfl,?_⟩,by go_grown⟩;rw [HE.out];exact YF HR.out (zK (by go_grown))
def z8g (f:Folder) (n:Int):Bool:=decide (1<=n) && decide (n<=(f.epochs.length:Int))
theorem z63 {f:Folder} {n:Int}:z8g f n=true↔1<=n/\n<=f.epochs.length:=by unfold z8g;simp
theorem zDc (f:Folder) (n:Int) (cs:List Value) (w:World) (S:Nat->Prop) (h:ZG S w cs f):Calls Tryz.prog 190 #[.agg cs.toArray,.int .i64 n] w fun e w'=>e= .returned (.bool (z8g f n))/\Below w.heap.size w w':=by
 obtain ⟨_,_,_,_,_,_,_,_,_,_,rfl,_,_,_,_,_,_,_,_,_,_,_,_,_,_,_,_,_,_,_,_,_,_⟩:=Z2 h
 cases h1:decide (1<=n) with
 | true=>
  have E:=zh (show z8g f n=decide (n<=(f.epochs.length:Int)) by unfold z8g;rw [h1];rfl);go_enter Tryz.func190,Tryz.ntmps190
  go_wp2;go_ret
  exact ⟨ZM E.out.symm,by go_grown⟩
 | false=>
  have E:=zh (show z8g f n=false by unfold z8g;rw [h1];rfl);go_enter Tryz.func190,Tryz.ntmps190
  go_wp2;go_ret;exact ⟨ZM E.out.symm,by go_grown⟩
theorem z7j (s:Nm) (w:World):Calls Tryz.prog 200 #[.string s] w fun e w'=>e= .returned (vG (uN s))/\Below w.heap.size w w':=by
 go_enter Tryz.func200,Tryz.ntmps200
 go_wp2;try simp only [Exit.inBlock,Exit.then]
 refine bodyPost_ret (results_cell_row rfl _ _ w.heap.size 244 _ (0,0) _ rfl (by repeat' first|with_reducible assumption|((with_reducible first|refine zR _ ?_ ?_|apply zJ);rotate_left;first|with_reducible rfl|((try dsimp only);first|with_reducible assumption|omega|(simp only [zS];done)|(simp only [zS];omega)))|with_reducible apply zI|with_reducible refine zZ _ ?_|with_reducible refine ZL ?_|refine (rfl:(_:Array Value)=_)) Tryz.underlying244 rfl (by kernel_rfl)) rfl ?_;exact ⟨rfl,by go_grown⟩
theorem z52 (s:Nm) (n:Int) (w:World):Calls Tryz.prog 226 #[.string s,.int .i64 n] w fun e w'=>e= .returned (vG (eN s n))/\Below w.heap.size w w':=by
 go_enter Tryz.func226,Tryz.ntmps226
 go_wp2;try simp only [Exit.inBlock,Exit.then]
 refine bodyPost_ret (results_cell_row rfl _ _ w.heap.size 244 _ (0,0) _ rfl (by repeat' first|with_reducible assumption|((with_reducible first|refine zR _ ?_ ?_|apply zJ);rotate_left;first|with_reducible rfl|((try dsimp only);first|with_reducible assumption|omega|(simp only [zS];done)|(simp only [zS];omega)))|with_reducible apply zI|with_reducible refine zZ _ ?_|with_reducible refine ZL ?_|refine (rfl:(_:Array Value)=_)) Tryz.underlying244 rfl (by kernel_rfl)) rfl ?_;exact ⟨rfl,by go_grown⟩
end
section
open Go.RowKit Go.Deep Go.Maps
theorem z6m {l:List Epoch} {k:Nat} (h1:1<=k) (h2:k<=l.length):yC l k=Y8 (l.drop k) k:=by
 rw [yC,if_pos ⟨by omega,by omega⟩];rfl
theorem zBo {l:List Epoch} {k:Nat} {x:Epoch} (hx:l[k]? =some x) (hp:x.place=1) (e:Int):Y8 (l.drop k) e=e:=by
 have hk:=zge hx;rw [List.drop_eq_getElem_cons hk.1,hk.2,Y8,if_pos hp]
theorem zG9 {l:List Epoch} {k:Nat} {x:Epoch} (hx:l[k]? =some x) (hp:x.place≠1) (e:Int):Y8 (l.drop k) e=Y8 (l.drop (k+1)) (e+1):=by
 have hk:=zge hx;rw [List.drop_eq_getElem_cons hk.1,hk.2,Y8,if_neg hp]
theorem zQa (f:Folder) (n:Int) (hn:I64 n) (cs:List Value) (w:World) (S:Nat->Prop) (h:ZG S w cs f):Calls Tryz.prog 229 #[.agg cs.toArray,.int .i64 n] w fun e w'=>e= .returned (.int .i64 (yC f.epochs n))/\Below w.heap.size w w':=by
 have hR:=zh h;obtain ⟨f_A2,f_c2,f_A3,f_c3,f_A4,f_c4,f_A5,f_c5,f_A6,f_c6,rfl,_,_,_,_,_,f_manifests_s,_,_,_,f_epochs_s,_,_,_,f_items_s,_,_,_,f_wraps_s,_,_,_,f_links_s⟩:=Z2 h;obtain ⟨w0,_,cw0,fw0,Bw0,qw0⟩:=zQ w #[.string f.name,.int .i64 f.turn,.slice f_A2 f.manifests.length f_c2,.slice f_A3 f.epochs.length f_c3,.slice f_A4 f.items.length f_c4,.slice f_A5 f.wraps.length f_c5,.slice f_A6 f.links.length f_c6] 74;have HCW:=zh cw0;have HB0:=zh Bw0;have hI:=zh hn;clear cw0 fw0 Bw0 f_manifests_s f_items_s f_wraps_s f_links_s hn;go_enter Tryz.func229,Tryz.ntmps229
 go_wp2;go_loopw [1] (fun i wr=>∃m:Int,i= .int .i64 m/\Hid (yC f.epochs m=yC f.epochs n)/\Hid ((m=n)\/(1<=m/\m<=f.epochs.length))/\Below w0.heap.size w0 wr) (fun i _=>f.epochs.length+1 - (intOf i).toNat)
 case atStart=>exact ⟨n,rfl,(by show _=_;rfl),.inl rfl,Below.refl _ _⟩
 obtain ⟨m,rfl,HE,_,hbel⟩:=hrel;have HB:=zh (zB HB0.out hbel);have x0:=(hbel.cell (p:=⟨w.heap.size,0,none⟩) qw0).trans (HCW.out 0 _ rfl);have x1:=(hbel.cell (p:=⟨w.heap.size,1,none⟩) qw0).trans (HCW.out 1 _ rfl);have x2:=(hbel.cell (p:=⟨w.heap.size,2,none⟩) qw0).trans (HCW.out 2 _ rfl);have x3:=(hbel.cell (p:=⟨w.heap.size,3,none⟩) qw0).trans (HCW.out 3 _ rfl);have x4:=(hbel.cell (p:=⟨w.heap.size,4,none⟩) qw0).trans (HCW.out 4 _ rfl);have x5:=(hbel.cell (p:=⟨w.heap.size,5,none⟩) qw0).trans (HCW.out 5 _ rfl);have x6:=(hbel.cell (p:=⟨w.heap.size,6,none⟩) qw0).trans (HCW.out 6 _ rfl);have HH:=zh (zDc f m _ wr S (Z5 hR.out (zK HB.out)))
 cases hh:z8g f m with
 | false=>
  have HR:=zh (show m=yC f.epochs n by
   rw [<-HE.out,z5t];exact fun h=>by rw [z63.2 h] at hh;cases hh)
  rw [hh] at HH;clear hh;go_wp2_with (go_at_call 190;refine zcm HH.out ?_;rintro e w1 ⟨rfl,B1⟩;have HB1:=zh (zB HB.out B1);clear B1)
  go_ret
  exact ⟨by rw [<-HR.out];rfl,HB1.out⟩
 | true=>
  obtain ⟨_,_⟩:=z63.1 hh;rw [hh] at HH;clear hh;obtain ⟨k,rfl⟩:∃k:Nat,m=k:=⟨m.toNat,by omega⟩;by_cases hk:k < f.epochs.length
  rotate_left
  ·obtain rfl:k=f.epochs.length:=by omega
   have HR:=zh (show (f.epochs.length:Int)=yC f.epochs n by
    rw [<-HE.out,z6m (by omega) (znl _),List.drop_length];rfl)
   have hf0:decide ((f.epochs.length:Int) < (f.epochs.length:Int))=false:=decide_eq_false (by omega);go_wp2_with (go_at_call 190;refine zcm HH.out ?_;rintro e w1 ⟨rfl,B1⟩;have HB1:=zh (zB HB.out B1);have v3:=(B1.cell (p:=⟨w.heap.size,3,none⟩) (zF x3)).trans x3;clear B1)
   go_ret;exact ⟨by rw [<-HR.out];rfl,HB1.out⟩
  obtain ⟨x,hx⟩:∃x,f.epochs[k]? =some x:=⟨_,qLgx hk⟩;obtain ⟨b,o,_,hA,_,hxR,hcz⟩:=SlAt.elem f_epochs_s hx (by decide) HB.out;obtain ⟨_,_,rfl,_,_,_,_,_,_,x_chain_s,_⟩:=z3o hxR;have u0:=hcz 0 _ rfl;rw [Nat.add_zero] at u0;subst hA;have hkk:(k:Int) < (f.epochs.length:Int):=by omega
  have HX:=zh hx;clear hcz x_chain_s hx;by_cases hp:x.place=1
  ·have HR:=zh (show (k:Int)=yC f.epochs n by
    rw [<-HE.out,z6m (by omega) (by omega),zBo HX.out hp])
   have hp2:(x.place==1)=true:=beq_iff_eq.2 hp;clear hp;go_wp2_with (go_at_call 190;refine zcm HH.out ?_;rintro e w1 ⟨rfl,B1⟩;have HB1:=zh (zB HB.out B1);have v3:=(B1.cell (p:=⟨w.heap.size,3,none⟩) (zF x3)).trans x3;have v0:=(B1.cell (p:=⟨b,o+k*5,none⟩) (zF u0)).trans u0;clear B1)
   go_ret;exact ⟨by rw [<-HR.out];rfl,HB1.out⟩
  have HR:=zh (show yC f.epochs ((k+1:Nat):Int)=yC f.epochs n by
   rw [<-HE.out,z6m (by omega) (by omega),z6m (k:=k) (by omega) (by omega),zG9 HX.out hp];rfl)
  have hp2:(x.place==1)=false:=by simpa using hp
  clear hp;go_wp2_with (go_at_call 190;refine zcm HH.out ?_;rintro e w1 ⟨rfl,B1⟩;have HB1:=zh (zB hbel B1);have v3:=(B1.cell (p:=⟨w.heap.size,3,none⟩) (zF x3)).trans x3;have v0:=(B1.cell (p:=⟨b,o+k*5,none⟩) (zF u0)).trans u0;clear B1)
  go_roundw
  case rel=>exact ⟨((k+1:Nat):Int),by go_num,HR,.inr ⟨by omega,by omega⟩,HB1.out⟩
  case measure=>exact qMx
end
section
open Go.RowKit Go.Deep Go.Maps Go.WideMaps
def kS (s:Nm):Lit:= .string s.data.toList
theorem zTt {a b:Nm}:kS a=kS b↔a=b:=by
 unfold kS;rw [Lit.string.injEq];exact ⟨fun h=>ByteArray.ext (Array.toList_inj.1 h),fun h=>by rw [h]⟩
theorem zDd (s:Nm):WideAt.IsKeyLit (kS s):=by simp [kS,WideAt.IsKeyLit]
theorem zA5:Keyed Tryz.prog 9:=string_keyed Tryz.underlying9
theorem zTu {s:Nm} (h:s.size<=140737488355328):keyOf Tryz.prog 9 (.string s)=some (kS s):=keyOf_string_mk Tryz.underlying9 (by unfold maxLen;omega)
def z4w (l:List Nm) (s:Nm):Nat:=(l.filter fun y=>decide (y=s)).length
theorem zO0 (l:List Nm) (x s:Nm):z4w (l++[x]) s=z4w l s+if x=s then 1 else 0:=by
 unfold z4w;rw [List.filter_append,qLax];by_cases h:x=s<;>simp [h]
theorem zKr (l:List Nm) (s:Nm):z4w l s<=l.length:=List.length_filter_le _ _
theorem zGa (l:List Nm) (s:Nm):z4w l s=0↔s∉l:=by
 unfold z4w;rw [List.length_eq_zero_iff,List.filter_eq_nil_iff];constructor
 ·intro h hs;exact absurd (decide_eq_true (rfl:s=s)) (h s hs)
 intro h y hy e;have:y=s:=of_decide_eq_true e;exact h (this▸hy)
structure Cnt (D:DataW Unit) (l:List Nm):Prop where
 isMap:IsMap D
 val:∀s,D.atKey (kS s) (.lit (.int .i64 0))= .lit (.int .i64 (z4w l s))
theorem Cnt.start:Cnt (.map []) []:=⟨isMap_empty,fun s=>by rw [atKey_of_not_has (by simp [Maps.has])];rfl⟩
theorem Cnt.put {D:DataW Unit} {l:List Nm} (h:Cnt D l) (x:Nm) {c:Int} (hc:c=z4w l x+1):Cnt (D.put (kS x) (.lit (.int .i64 c))) (l++[x]):=by
 refine ⟨h.isMap.put _ _,fun s=>?_⟩;rw [zO0];by_cases e:x=s
 ·subst e;rw [atKey_put_same h.isMap (zDd _),if_pos rfl,hc];simp
 rw [atKey_put_other fun e2=>e (zTt.1 e2).symm,h.val,if_neg e];simp
theorem z8t (x:Folder) (cs:List Value) (w:World) (S:Nat->Prop) (h:ZG S w cs x):Calls Tryz.prog 225 #[.agg cs.toArray] w fun e w'=>e= .returned (.string x.name)/\Below w.heap.size w w':=by
 obtain ⟨_,_,_,_,_,_,_,_,_,_,rfl,_,_,_,_,_,_,_,_,_,_,_,_,_,_,_,_,_,_,_,_,_,_⟩:=Z2 h;go_enter Tryz.func225,Tryz.ntmps225
 go_wp2;go_ret;exact ⟨rfl,by go_grown⟩
theorem zI1 {l:List Folder} {k:Nat} {x:Folder} (hx:l[k]? =some x):ZE Folder.name (l.take (k+1))=if x.name∈(l.take k).map Folder.name then ZE Folder.name (l.take k) else ZE Folder.name (l.take k)++[x]:=by
 rw [qLtx,hx];exact z0q Folder.name _ _
theorem zDe (l:List Folder) (v:Value) (w:World) (S:Nat->Prop) (h:Sl 7 ZG S w v l) (hl:l.length<=1000):Calls Tryz.prog 224 #[v,.func (.func 225) #[] #[]] w fun e w'=>(∃(v':Value) (ps:List (List Value×Folder)),e= .returned v'/\RowC 74 7 w' v' (ps.map (·.1))/\ps.map (·.2)=ZE Folder.name l/\(∀p∈ps,ZG S w p.1 p.2)/\∀z,v'.ownBlock=some z->w.heap.size<=z)/\Below w.heap.size w w':=by
 obtain ⟨_,c,rfl,_,hc,_,hs⟩:=h;unfold maxLen at hc;have hmm:=@run_makeMap Tryz.prog;have HL:=zh hl;clear hl;obtain ⟨iFolder,hiFolder,hzFolder,h1Folder,h2Folder⟩:=info_parts (show (Tryz.prog.info? 74).map (fun i=>(i.zero,i.size,i.bytes))=some (some (.agg #[.string ⟨#[]⟩,.int .i64 0,.slice none 0 0,.slice none 0 0,.slice none 0 0,.slice none 0 0,.slice none 0 0]),7,144) from by kernel_rfl);go_enter Tryz.func224,Tryz.ntmps224
 go_wp2;clear hmm;go_loopw [5,12] (fun vo i wr=>∃(k:Nat) (D:DataW Unit) (ps:List (List Value×Folder)),k<=l.length/\i= .int .i64 k/\Hid (RowC 74 7 wr vo (ps.map (·.1)))/\Hid (ps.map (·.2)=ZE Folder.name (l.take k))/\Hid (∀p∈ps,ZG S w p.1 p.2)/\Hid (∀z,vo.ownBlock=some z->w.heap.size<=z)/\Hid (wr.ownsMap Tryz.prog 9 (plainElem Tryz.prog 3) w.heap.size k D)/\Hid (Cnt D ((l.take k).map Folder.name))/\Below w.heap.size w wr) (fun _ i _=>l.length - (intOf i).toNat)
 case atStart=>exact ⟨0,_,[],by omega,by go_num,RowC.nil _,(by show _=_;rfl),(fun p hp=>by simp at hp),(fun z hz=>by cases hz),World.ownsMap_made _ _ _ _,Cnt.start,by go_grown⟩
 obtain ⟨k,D,ps,_,rfl,HG,HPS,HPR,HOB,HO,HC,hbel⟩:=hrel;have hz:=hbel.size;obtain ⟨A2,n2,c2,rfl⟩:=HG.out.shape3;by_cases hlt:k < l.length
 rotate_left
 ·obtain rfl:k=l.length:=by omega
  go_wp2;go_ret;exact ⟨⟨_,ps,rfl,HG.out,by rw [HPS.out,qLnx],HPR.out,HOB.out⟩,hbel⟩
 obtain ⟨x,hx⟩:∃x,l[k]? =some x:=⟨_,qLgx hlt⟩;obtain ⟨b,_,_,hA,_,hR,hcz⟩:=SlAt.elem hs hx (by decide) hbel;have HX:=zh hx;have HR:=zh hR;obtain ⟨x_A2,x_c2,x_A3,x_c3,x_A4,x_c4,x_A5,x_c5,x_A6,x_c6,rfl,x_name_le,_,_,_,_,x_manifests_s,_,_,_,x_epochs_s,_,_,_,x_items_s,_,_,_,x_wraps_s,_,_,_,x_links_s⟩:=Z2 hR;have u0:=hcz 0 _ rfl;have u1:=hcz 1 _ rfl;have u2:=hcz 2 _ rfl;have u3:=hcz 3 _ rfl;have u4:=hcz 4 _ rfl;have u5:=hcz 5 _ rfl;have u6:=hcz 6 _ rfl;rw [Nat.add_zero] at u0;subst hA;have hki:(k:Int) < (l.length:Int):=by omega
 have HLL:=HL.out;have hcn:=zKr ((l.take k).map Folder.name) x.name;rw [qLmx,List.length_take] at hcn;have HFL:=zh (show ps.length<=k by
  have h1:ps.length=(ZE Folder.name (l.take k)).length:=by rw [<-HPS.out,qLmx]
  rw [h1];exact qNtx (z5s Folder.name (l.take k)) (by rw [List.length_take];exact Nat.min_le_left _ _))
 have hcn2:z4w ((l.take k).map Folder.name) x.name<=1000:=by omega
 have HCN:=zh hcn2;have hkey:=zTu x_name_le;have hob:=HO.out.lt;have HT:=zh (zI1 HX.out);have HC2:=zh (HC.out.put x.name (c:=((z4w ((l.take k).map Folder.name) x.name+1:Nat):Int)) rfl);rw [show (l.take k).map Folder.name++[x.name]=(l.take (k+1)).map Folder.name by rw [qLtx,HX.out];simp] at HC2;have E0:=zh (HC.out.val x.name);have E1:=zh (show (D.put (kS x.name) (.lit (.int .i64 ((z4w ((l.take k).map Folder.name) x.name+1:Nat):Int)))).atKey (kS x.name) (.lit (.int .i64 0))=_ from atKey_put_same HC.out.isMap (zDd _) _ _);have HM:=zh (zGa ((l.take k).map Folder.name) x.name);clear hx hcz hcn hcn2;generalize hq:z4w ((l.take k).map Folder.name) x.name=q at HCN HC2 E0 E1 HM;clear hq x_manifests_s x_epochs_s x_items_s x_wraps_s x_links_s;go_wp2_with fail
 refine zcm (z8t x _ _ S (Z5 HR.out (zK (by go_grown)))) ?_;rintro e w1 ⟨rfl,hb1⟩;have T1:w1.heap[wr.heap.size]? =some (.cells #[.string x.name,.int .i64 x.turn,.slice x_A2 x.manifests.length x_c2,.slice x_A3 x.epochs.length x_c3,.slice x_A4 x.items.length x_c4,.slice x_A5 x.wraps.length x_c5,.slice x_A6 x.links.length x_c6] 74 (0,0)):=(hb1.block _ (by simp)).trans (by repeat' first|with_reducible assumption|((with_reducible first|refine zR _ ?_ ?_|apply zJ);rotate_left;first|with_reducible rfl|((try dsimp only);first|with_reducible assumption|omega|(simp only [zS];done)|(simp only [zS];omega)))|with_reducible apply zI|with_reducible refine zZ _ ?_|with_reducible refine ZL ?_|refine (rfl:(_:Array Value)=_));have B1:=zh (show Below wr.heap.size wr w1 from zB (by go_grown) hb1);have O1:=zh (z1p HO.out B1.out);have K1:=(zD T1).1;have k1_0:=K1 0 _ rfl;have k1_1:=K1 1 _ rfl;have k1_2:=K1 2 _ rfl;have k1_3:=K1 3 _ rfl;have k1_4:=K1 4 _ rfl;have k1_5:=K1 5 _ rfl;have k1_6:=K1 6 _ rfl;have HT1:=zh T1;clear T1 hb1 K1;have hqb:q<=1000:=HCN.out;have hwr:IntKind.i64.wrap ((q:Int)+1)=((q+1:Nat):Int):=by rw [IntWalk.i64_in _ (by omega)];rfl
 go_wp2_with (first
  | (at_lookup;go_loud (refine wpList_lookup_own_int _ rfl _ _ 287 rfl 9 3 .i64 zA5 Tryz.underlying287 Tryz.underlying3 (z5f _) w.heap.size k D rfl O1.out _ _ rfl hkey ?_);intro c hat hwc;obtain rfl:c=(q:Int):=(by have:=hat.symm.trans E0.out;simpa using this);clear hat hwc)
  | (at_mapUpdate;go_loud (refine wpList_mapUpdate_own _ rfl _ _ _ 287 rfl 9 3 zA5 Tryz.underlying287 _ w.heap.size k D rfl O1.out (by unfold maxLen;omega) _ (.int .i64 ((q+1:Nat):Int)) _ rfl rfl hkey _ [] (plainElem_int Tryz.underlying3 (by have h:I64 ((q+1:Nat):Int):=⟨by omega,by omega⟩;simp [Lit.wf];exact h)) ?_);intro w2 hown2 hg2;have O2:=zh hown2;have G2:=zh hg2;clear hown2 hg2;have T2:w2.heap[wr.heap.size]? =some (.cells #[.string x.name,.int .i64 x.turn,.slice x_A2 x.manifests.length x_c2,.slice x_A3 x.epochs.length x_c3,.slice x_A4 x.items.length x_c4,.slice x_A5 x.wraps.length x_c5,.slice x_A6 x.links.length x_c6] 74 (0,0)):=(G2.out.block _ (zO HT1.out) (by simp;omega)).trans HT1.out;have K2:=(zD T2).1;have k2_0:=K2 0 _ rfl;have k2_1:=K2 1 _ rfl;have k2_2:=K2 2 _ rfl;have k2_3:=K2 3 _ rfl;have k2_4:=K2 4 _ rfl;have k2_5:=K2 5 _ rfl;have k2_6:=K2 6 _ rfl;have HT2:=zh T2;clear T2 K2))
 have HNB:=zh (show (Value.slice A2 n2 c2).ownBlock≠some w.heap.size from fun h=>by
  obtain ⟨_,ha⟩:=yI HG.out h;exact z26 HO.out ha rfl)
 have W2:=zh (show RowC 74 7 w2 (.slice A2 n2 c2) (ps.map (·.1)) from (HG.out.below B1.out).keep fun b hb=>G2.out.block b ((HG.out.below B1.out).lt b hb) fun e=>HNB.out (hb.trans e));have B2:=zh (show Below w.heap.size w w2 from Below.grown (zB hbel B1.out) G2.out (qNtx hz B1.out.size) fun b hb=>by obtain rfl:=zsi hb;exact znl _);have KM:=O2.out.lt;refine zcm (z8t x _ _ S (Z5 HR.out (zK B2.out))) ?_;rintro e w3 ⟨rfl,hb3⟩;have B3:=zh hb3;have O3:=zh (z1p O2.out B3.out);have T3:w3.heap[wr.heap.size]? =some (.cells #[.string x.name,.int .i64 x.turn,.slice x_A2 x.manifests.length x_c2,.slice x_A3 x.epochs.length x_c3,.slice x_A4 x.items.length x_c4,.slice x_A5 x.wraps.length x_c5,.slice x_A6 x.links.length x_c6] 74 (0,0)):=(hb3.block _ (zO HT2.out)).trans HT2.out;have K3:=(zD T3).1;have k3_0:=K3 0 _ rfl;have k3_1:=K3 1 _ rfl;have k3_2:=K3 2 _ rfl;have k3_3:=K3 3 _ rfl;have k3_4:=K3 4 _ rfl;have k3_5:=K3 5 _ rfl;have k3_6:=K3 6 _ rfl;have W3:=zh (W2.out.below hb3);have B23:=zh (zB B2.out hb3);clear T3 K3 hb3 B2 B3 KM;have hlen:(ps.map (·.1)).length<=1000:=by rw [qLmx];have:=HFL.out;omega
 have HLE:=zh hlen;clear hlen;by_cases hmem:q=0
 rotate_left
 ·have hN:¬(x.name∉(l.take k).map Folder.name):=fun h=>hmem (HM.out.2 h)
  rw [if_pos (Classical.not_not.1 hN)] at HT;have hq1:(((q+1:Nat):Int)==1)=false:=by simp;omega
  have hq2:((q:Int)+1==1)=false:=by simp;omega
  clear hmem hN
  go_wp2_with (first
   | (at_lookup;go_loud (refine wpList_lookup_own_int _ rfl _ _ 287 rfl 9 3 .i64 zA5 Tryz.underlying287 Tryz.underlying3 (z5f _) w.heap.size (k+1) _ rfl O3.out _ _ rfl hkey ?_);intro c hat hwc;obtain rfl:c=((q+1:Nat):Int):=(by have:=hat.symm.trans E1.out;simpa using this);clear hat hwc))
  go_roundw
  case rel=>exact ⟨k+1,_,ps,by omega,by go_num,W3,HPS.out.trans HT.out.symm,HPR,HOB,O3,HC2,B23.out⟩
  case measure=>exact qMx
 have hN:=HM.out.1 hmem;rw [if_neg hN] at HT;subst hmem
 go_wp2_with (first
  | (at_lookup;go_loud (refine wpList_lookup_own_int _ rfl _ _ 287 rfl 9 3 .i64 zA5 Tryz.underlying287 Tryz.underlying3 (z5f _) w.heap.size (k+1) _ rfl O3.out _ _ rfl hkey ?_);intro c hat hwc;obtain rfl:c=(1:Int):=(by have:=hat.symm.trans E1.out;simpa using this);clear hat hwc)
  | (at_builtin;refine z1j w3 _ [.string x.name,.int .i64 x.turn,.slice x_A2 x.manifests.length x_c2,.slice x_A3 x.epochs.length x_c3,.slice x_A4 x.items.length x_c4,.slice x_A5 x.wraps.length x_c5,.slice x_A6 x.links.length x_c6] rfl (.tmp 28) (.tmp 30) 32 rfl iFolder _ 144 Tryz.underlying32 hiFolder hzFolder h1Folder h2Folder rfl (by decide) (by decide) (.slice A2 n2 c2) (ps.map (·.1)) rfl _ _ rfl W3.out (by go_grown) (by have:=HLE.out;omega) rfl (zBl HR.out) (by repeat' first|with_reducible assumption|((with_reducible first|refine zR _ ?_ ?_|apply zJ);rotate_left;first|with_reducible rfl|((try dsimp only);first|with_reducible assumption|omega|(simp only [zS];done)|(simp only [zS];omega)))|with_reducible apply zI|with_reducible refine zZ _ ?_|with_reducible refine ZL ?_|refine (rfl:(_:Array Value)=_)) ?_;intro v4 w4 r4 p4 o4;obtain ⟨_,_,_,rfl⟩:=r4.shape3;have R4:=zh r4;have P4:=zh p4;have O4:=zh o4;clear r4 p4 o4))
 go_roundw
 case rel=>
  refine ⟨k+1,_,ps++[([.string x.name,.int .i64 x.turn,.slice x_A2 x.manifests.length x_c2,.slice x_A3 x.epochs.length x_c3,.slice x_A4 x.items.length x_c4,.slice x_A5 x.wraps.length x_c5,.slice x_A6 x.links.length x_c6],x)],by omega,by go_num,?_,?_,fun p hp=>?_,fun z hz2=>?_,?_,HC2,?_⟩
  ·show RowC _ _ _ _ _
   rw [List.map_append];exact R4.out
  ·show _=_
   rw [List.map_append,HPS.out,HT.out];rfl
  ·rcases zmb hp with hp | hp
   ·exact HPR.out p hp
   obtain rfl:=zml hp;exact HR.out
  ·rcases O4.out with h | ⟨q,h,hq⟩
   ·exact HOB.out z (h.symm.trans hz2)
   obtain rfl:=zsi (h.symm.trans hz2);exact qNtx B23.out.size hq
  ·exact z4t O3.out P4.out HNB.out
  exact ButB.below B23.out B23.out.size (fun b hb=>HOB.out b hb) P4.out
 case measure=>exact qMx
theorem zA6 (x:Wrap) (cs:List Value) (w:World) (S:Nat->Prop) (h:YC S w cs x):Calls Tryz.prog 228 #[.agg cs.toArray] w fun e w'=>e= .returned (.string x.name)/\Below w.heap.size w w':=by
 obtain ⟨rfl,_,_⟩:=z3i h;go_enter Tryz.func228,Tryz.ntmps228
 go_wp2;go_ret;exact ⟨rfl,by go_grown⟩
theorem zLq {l:List Wrap} {k:Nat} {x:Wrap} (hx:l[k]? =some x):ZE Wrap.name (l.take (k+1))=if x.name∈(l.take k).map Wrap.name then ZE Wrap.name (l.take k) else ZE Wrap.name (l.take k)++[x]:=by
 rw [qLtx,hx];exact z0q Wrap.name _ _
theorem zFc (l:List Wrap) (v:Value) (w:World) (S:Nat->Prop) (h:Sl 3 YC S w v l) (hl:l.length<=1000):Calls Tryz.prog 227 #[v,.func (.func 228) #[] #[]] w fun e w'=>(∃(v':Value) (ps:List (List Value×Wrap)),e= .returned v'/\RowC 149 3 w' v' (ps.map (·.1))/\ps.map (·.2)=ZE Wrap.name l/\(∀p∈ps,YC S w p.1 p.2)/\∀z,v'.ownBlock=some z->w.heap.size<=z)/\Below w.heap.size w w':=by
 obtain ⟨_,c,rfl,_,hc,_,hs⟩:=h;unfold maxLen at hc;have hmm:=@run_makeMap Tryz.prog;have HL:=zh hl;clear hl;obtain ⟨iWrap,hiWrap,hzWrap,h1Wrap,h2Wrap⟩:=info_parts (show (Tryz.prog.info? 149).map (fun i=>(i.zero,i.size,i.bytes))=some (some (.agg #[.string ⟨#[]⟩,.int .i64 0,.bool false]),3,32) from by kernel_rfl);go_enter Tryz.func227,Tryz.ntmps227
 go_wp2;clear hmm;go_loopw [5,12] (fun vo i wr=>∃(k:Nat) (D:DataW Unit) (ps:List (List Value×Wrap)),k<=l.length/\i= .int .i64 k/\Hid (RowC 149 3 wr vo (ps.map (·.1)))/\Hid (ps.map (·.2)=ZE Wrap.name (l.take k))/\Hid (∀p∈ps,YC S w p.1 p.2)/\Hid (∀z,vo.ownBlock=some z->w.heap.size<=z)/\Hid (wr.ownsMap Tryz.prog 9 (plainElem Tryz.prog 3) w.heap.size k D)/\Hid (Cnt D ((l.take k).map Wrap.name))/\Below w.heap.size w wr) (fun _ i _=>l.length - (intOf i).toNat)
 case atStart=>exact ⟨0,_,[],by omega,by go_num,RowC.nil _,(by show _=_;rfl),(fun p hp=>by simp at hp),(fun z hz=>by cases hz),World.ownsMap_made _ _ _ _,Cnt.start,by go_grown⟩
 obtain ⟨k,D,ps,_,rfl,HG,HPS,HPR,HOB,HO,HC,hbel⟩:=hrel;have hz:=hbel.size;obtain ⟨A2,n2,c2,rfl⟩:=HG.out.shape3;by_cases hlt:k < l.length
 rotate_left
 ·obtain rfl:k=l.length:=by omega
  go_wp2;go_ret;exact ⟨⟨_,ps,rfl,HG.out,by rw [HPS.out,qLnx],HPR.out,HOB.out⟩,hbel⟩
 obtain ⟨x,hx⟩:∃x,l[k]? =some x:=⟨_,qLgx hlt⟩;obtain ⟨b,_,_,hA,_,hR,hcz⟩:=SlAt.elem hs hx (by decide) hbel;have HX:=zh hx;have HR:=zh hR;obtain ⟨rfl,x_name_le,_⟩:=z3i hR;have u0:=hcz 0 _ rfl;have u1:=hcz 1 _ rfl;have u2:=hcz 2 _ rfl;rw [Nat.add_zero] at u0;subst hA;have hki:(k:Int) < (l.length:Int):=by omega
 have HLL:=HL.out;have hcn:=zKr ((l.take k).map Wrap.name) x.name;rw [qLmx,List.length_take] at hcn;have HFL:=zh (show ps.length<=k by
  have h1:ps.length=(ZE Wrap.name (l.take k)).length:=by rw [<-HPS.out,qLmx]
  rw [h1];exact qNtx (z5s Wrap.name (l.take k)) (by rw [List.length_take];exact Nat.min_le_left _ _))
 have hcn2:z4w ((l.take k).map Wrap.name) x.name<=1000:=by omega
 have HCN:=zh hcn2;have hkey:=zTu x_name_le;have hob:=HO.out.lt;have HT:=zh (zLq HX.out);have HC2:=zh (HC.out.put x.name (c:=((z4w ((l.take k).map Wrap.name) x.name+1:Nat):Int)) rfl);rw [show (l.take k).map Wrap.name++[x.name]=(l.take (k+1)).map Wrap.name by rw [qLtx,HX.out];simp] at HC2;have E0:=zh (HC.out.val x.name);have E1:=zh (show (D.put (kS x.name) (.lit (.int .i64 ((z4w ((l.take k).map Wrap.name) x.name+1:Nat):Int)))).atKey (kS x.name) (.lit (.int .i64 0))=_ from atKey_put_same HC.out.isMap (zDd _) _ _);have HM:=zh (zGa ((l.take k).map Wrap.name) x.name);clear hx hcz hcn hcn2;generalize hq:z4w ((l.take k).map Wrap.name) x.name=q at HCN HC2 E0 E1 HM;clear hq;go_wp2_with fail
 refine zcm (zA6 x _ _ S (z3q HR.out (zK (by go_grown)))) ?_;rintro e w1 ⟨rfl,hb1⟩;have T1:w1.heap[wr.heap.size]? =some (.cells #[.string x.name,.int .i64 x.epoch,.bool x.seed] 149 (0,0)):=(hb1.block _ (by simp)).trans (by repeat' first|with_reducible assumption|((with_reducible first|refine zR _ ?_ ?_|apply zJ);rotate_left;first|with_reducible rfl|((try dsimp only);first|with_reducible assumption|omega|(simp only [zS];done)|(simp only [zS];omega)))|with_reducible apply zI|with_reducible refine zZ _ ?_|with_reducible refine ZL ?_|refine (rfl:(_:Array Value)=_));have B1:=zh (show Below wr.heap.size wr w1 from zB (by go_grown) hb1);have O1:=zh (z1p HO.out B1.out);have K1:=(zD T1).1;have k1_0:=K1 0 _ rfl;have k1_1:=K1 1 _ rfl;have k1_2:=K1 2 _ rfl;have HT1:=zh T1;clear T1 hb1 K1;have hqb:q<=1000:=HCN.out;have hwr:IntKind.i64.wrap ((q:Int)+1)=((q+1:Nat):Int):=by rw [IntWalk.i64_in _ (by omega)];rfl
 go_wp2_with (first
  | (at_lookup;go_loud (refine wpList_lookup_own_int _ rfl _ _ 287 rfl 9 3 .i64 zA5 Tryz.underlying287 Tryz.underlying3 (z5f _) w.heap.size k D rfl O1.out _ _ rfl hkey ?_);intro c hat hwc;obtain rfl:c=(q:Int):=(by have:=hat.symm.trans E0.out;simpa using this);clear hat hwc)
  | (at_mapUpdate;go_loud (refine wpList_mapUpdate_own _ rfl _ _ _ 287 rfl 9 3 zA5 Tryz.underlying287 _ w.heap.size k D rfl O1.out (by unfold maxLen;omega) _ (.int .i64 ((q+1:Nat):Int)) _ rfl rfl hkey _ [] (plainElem_int Tryz.underlying3 (by have h:I64 ((q+1:Nat):Int):=⟨by omega,by omega⟩;simp [Lit.wf];exact h)) ?_);intro w2 hown2 hg2;have O2:=zh hown2;have G2:=zh hg2;clear hown2 hg2;have T2:w2.heap[wr.heap.size]? =some (.cells #[.string x.name,.int .i64 x.epoch,.bool x.seed] 149 (0,0)):=(G2.out.block _ (zO HT1.out) (by simp;omega)).trans HT1.out;have K2:=(zD T2).1;have k2_0:=K2 0 _ rfl;have k2_1:=K2 1 _ rfl;have k2_2:=K2 2 _ rfl;have HT2:=zh T2;clear T2 K2))
 have HNB:=zh (show (Value.slice A2 n2 c2).ownBlock≠some w.heap.size from fun h=>by
  obtain ⟨_,ha⟩:=yI HG.out h;exact z26 HO.out ha rfl)
 have W2:=zh (show RowC 149 3 w2 (.slice A2 n2 c2) (ps.map (·.1)) from (HG.out.below B1.out).keep fun b hb=>G2.out.block b ((HG.out.below B1.out).lt b hb) fun e=>HNB.out (hb.trans e));have B2:=zh (show Below w.heap.size w w2 from Below.grown (zB hbel B1.out) G2.out (qNtx hz B1.out.size) fun b hb=>by obtain rfl:=zsi hb;exact znl _);have KM:=O2.out.lt;refine zcm (zA6 x _ _ S (z3q HR.out (zK B2.out))) ?_;rintro e w3 ⟨rfl,hb3⟩;have B3:=zh hb3;have O3:=zh (z1p O2.out B3.out);have T3:w3.heap[wr.heap.size]? =some (.cells #[.string x.name,.int .i64 x.epoch,.bool x.seed] 149 (0,0)):=(hb3.block _ (zO HT2.out)).trans HT2.out;have K3:=(zD T3).1;have k3_0:=K3 0 _ rfl;have k3_1:=K3 1 _ rfl;have k3_2:=K3 2 _ rfl;have W3:=zh (W2.out.below hb3);have B23:=zh (zB B2.out hb3);clear T3 K3 hb3 B2 B3 KM;have hlen:(ps.map (·.1)).length<=1000:=by rw [qLmx];have:=HFL.out;omega
 have HLE:=zh hlen;clear hlen;by_cases hmem:q=0
 rotate_left
 ·have hN:¬(x.name∉(l.take k).map Wrap.name):=fun h=>hmem (HM.out.2 h)
  rw [if_pos (Classical.not_not.1 hN)] at HT;have hq1:(((q+1:Nat):Int)==1)=false:=by simp;omega
  have hq2:((q:Int)+1==1)=false:=by simp;omega
  clear hmem hN
  go_wp2_with (first
   | (at_lookup;go_loud (refine wpList_lookup_own_int _ rfl _ _ 287 rfl 9 3 .i64 zA5 Tryz.underlying287 Tryz.underlying3 (z5f _) w.heap.size (k+1) _ rfl O3.out _ _ rfl hkey ?_);intro c hat hwc;obtain rfl:c=((q+1:Nat):Int):=(by have:=hat.symm.trans E1.out;simpa using this);clear hat hwc))
  go_roundw
  case rel=>exact ⟨k+1,_,ps,by omega,by go_num,W3,HPS.out.trans HT.out.symm,HPR,HOB,O3,HC2,B23.out⟩
  case measure=>exact qMx
 have hN:=HM.out.1 hmem;rw [if_neg hN] at HT;subst hmem
 go_wp2_with (first
  | (at_lookup;go_loud (refine wpList_lookup_own_int _ rfl _ _ 287 rfl 9 3 .i64 zA5 Tryz.underlying287 Tryz.underlying3 (z5f _) w.heap.size (k+1) _ rfl O3.out _ _ rfl hkey ?_);intro c hat hwc;obtain rfl:c=(1:Int):=(by have:=hat.symm.trans E1.out;simpa using this);clear hat hwc)
  | (at_builtin;refine z1j w3 _ [.string x.name,.int .i64 x.epoch,.bool x.seed] rfl (.tmp 28) (.tmp 30) 71 rfl iWrap _ 32 Tryz.underlying71 hiWrap hzWrap h1Wrap h2Wrap rfl (by decide) (by decide) (.slice A2 n2 c2) (ps.map (·.1)) rfl _ _ rfl W3.out (by go_grown) (by have:=HLE.out;omega) rfl (zG5 HR.out) (by repeat' first|with_reducible assumption|((with_reducible first|refine zR _ ?_ ?_|apply zJ);rotate_left;first|with_reducible rfl|((try dsimp only);first|with_reducible assumption|omega|(simp only [zS];done)|(simp only [zS];omega)))|with_reducible apply zI|with_reducible refine zZ _ ?_|with_reducible refine ZL ?_|refine (rfl:(_:Array Value)=_)) ?_;intro v4 w4 r4 p4 o4;obtain ⟨_,_,_,rfl⟩:=r4.shape3;have R4:=zh r4;have P4:=zh p4;have O4:=zh o4;clear r4 p4 o4))
 go_roundw
 case rel=>
  refine ⟨k+1,_,ps++[([.string x.name,.int .i64 x.epoch,.bool x.seed],x)],by omega,by go_num,?_,?_,fun p hp=>?_,fun z hz2=>?_,?_,HC2,?_⟩
  ·show RowC _ _ _ _ _
   rw [List.map_append];exact R4.out
  ·show _=_
   rw [List.map_append,HPS.out,HT.out];rfl
  ·rcases zmb hp with hp | hp
   ·exact HPR.out p hp
   obtain rfl:=zml hp;exact HR.out
  ·rcases O4.out with h | ⟨q,h,hq⟩
   ·exact HOB.out z (h.symm.trans hz2)
   obtain rfl:=zsi (h.symm.trans hz2);exact qNtx B23.out.size hq
  ·exact z4t O3.out P4.out HNB.out
  exact ButB.below B23.out B23.out.size (fun b hb=>HOB.out b hb) P4.out
 case measure=>exact qMx
end
section
open Go.RowKit Go.Deep Go.Maps
structure GrW (w0:World) (K:Nat->Prop) (E:List (GN×GN)) (w:World) (t:Nat):Prop where
 ex:∃m B,Gr E m w t B/\m<=3*E.length/\∀z,B z->w0.heap.size<=z/\¬K z
 kl:∀z,K z->z < w.heap.size
 bel:Below w0.heap.size w0 w
section
variable {w0 w w':World} {K K':Nat->Prop} {E:List (GN×GN)} {t:Nat}
theorem GrW.to (h:GrW w0 K E w t) (k:Below w.heap.size w w'):GrW w0 K E w' t:=by
 obtain ⟨m,B,h1,h2,h3⟩:=h.ex;exact ⟨⟨m,B,h1.below k,h2,h3⟩,fun z hz=>zll (h.kl z hz) k.size,zB h.bel k⟩
theorem GrW.add (h:GrW w0 K E w t) (k:Below w.heap.size w w') (hK:∀z,K' z->K z\/(w.heap.size<=z/\z < w'.heap.size)):GrW w0 K' E w' t:=by
 obtain ⟨m,B,h1,h2,h3⟩:=h.ex;refine ⟨⟨m,B,h1.below k,h2,fun z hz=>⟨(h3 z hz).1,fun hk=>?_⟩⟩,fun z hz=>?_,zB h.bel k⟩
 ·rcases hK z hk with q | ⟨q,_⟩
  ·exact (h3 z hz).2 q
  have:=h1.lt z hz;omega
 rcases hK z hz with q | ⟨_,q⟩
 ·exact zll (h.kl z q) k.size
 exact q
theorem GrW.cast {E':List (GN×GN)} (h:GrW w0 K E w t) (e:E=E'):GrW w0 K E' w t:=e▸h
theorem Gr.mono {m m':Nat} {B:Nat->Prop} (h:Gr E m w t B) (hm:m<=m'):Gr E m' w t B:=by
 obtain ⟨b,e,vn,vo,vs,ns,adj,D,h,rfl⟩:=h;exact ⟨b,e,vn,vo,vs,ns,adj,D,⟨h.gs,h.rep.mono hm,qNtx h.em hm⟩,rfl⟩
theorem zE4 (h:GrW w0 K E w t) (hl:E.length<=1500) (x y:GN) (hx:OkG x) (hy:OkG y):Calls Tryz.prog 223 #[.pointer (some ⟨t,0,none⟩),vG x,vG y] w fun e' w'=>(∃r,e'= .returned (.int .i64 r))/\GrW w0 K (E++[(x,y)]) w' t/\(∀z,K z->w'.heap[z]? =w.heap[z]?)/\w.heap.size<=w'.heap.size:=by
 obtain ⟨m,_,hg,_,hB⟩:=h.ex;refine zcm (zQ9 hg (by omega) x y hx hy) ?_;rintro e' w' ⟨hr,⟨B',hg',hB'⟩,hb⟩;refine ⟨hr,⟨⟨m+3,B',hg',by simp;omega,fun z hz=>?_⟩,fun z hz=>zll (h.kl z hz) hb.size,ButB.below h.bel h.bel.size (fun k hk=>(hB k hk).1) hb⟩,fun z hz=>hb.block z (h.kl z hz) fun hbz=>(hB z hbz).2 hz,hb.size⟩;rcases hB' z hz with q | q
 ·exact hB z q
 exact ⟨qNtx h.bel.size q,fun hk=>by have:=h.kl z hk;omega⟩
end
structure OkSt (st:State):Prop where
 dep:∀p∈st.deposits,p.to.size<=1000/\p.frm.size<=1000
 fol:∀f∈st.folders,f.name.size<=1000/\(∀w∈f.wraps,w.name.size<=1000)/\(∀x∈f.links,x.to.size<=1000)/\f.wraps.length<=1000
 few:(z3t st).length<=1000
 nf:st.folders.length<=1000
theorem okU {s:Nm} (h:s.size<=1000):OkG (uN s):=⟨h,(show I64 0 from ⟨by decide,by decide⟩)⟩
theorem okE {s:Nm} {n:Int} (h:s.size<=1000) (hn:I64 n):OkG (eN s n):=⟨h,hn⟩
theorem zJk {l:List Pair} {k:Nat} {x:Pair} (hx:l[k]? =some x):z0u (l.take (k+1))=z0u (l.take k)++[(uN x.to,uN x.frm)]:=by
 rw [qLtx,hx];simp [z0u]
theorem z64 {α:Type} (l:List α) (k:Nat):(l.take k).length<=l.length:=by
 rw [List.length_take];omega
theorem zFd (st:State):(z0u st.deposits).length+((ZE Folder.name st.folders).flatMap z1n).length=(z3t st).length:=by
 unfold z3t;rw [qLax]
theorem z93 (l:List Pair):(z0u l).length=l.length:=by simp [z0u]
theorem zGb {α β:Type} (f:α->List β):∀{l:List α} {k:Nat} {x:α},l[k]? =some x->((l.take k).flatMap f).length+(f x).length<=(l.flatMap f).length
 | [],k,x,h=>by simp at h
 | y :: l,0,x,h=>by
  obtain rfl:y=x:=by simpa using h
  simp [List.flatMap_cons]
 | y :: l,k+1,x,h=>by
  have:=zGb f (l:=l) (k:=k) (x:=x) (by simpa using h);simp only [List.take_succ_cons,List.flatMap_cons,qLax];omega
theorem z94 (s:Nm) (n:Nat):(z3d s n).length=n:=by simp [z3d]
theorem z95 (f:Folder) (l:List Wrap):(z0t f l).length=l.length:=by simp [z0t]
theorem zE5 (f:Folder) (l:List Link):(z3c f l).length=l.length:=by simp [z3c]
theorem zE6 (f:Folder):(z1n f).length=f.epochs.length - 1+((ZE Wrap.name f.wraps).length+f.links.length):=by
 unfold z1n;rw [qLax,qLax,z94,z95,zE5]
theorem zJl (s:Nm) (n:Nat):z3d s (n+1)=z3d s n++[(eN s ((n:Int)+2),eN s ((n:Int)+1))]:=by
 unfold z3d;rw [List.range_succ,List.map_append];rfl
theorem zJm (f:Folder) {l:List Wrap} {k:Nat} {x:Wrap} (hx:l[k]? =some x):z0t f (l.take (k+1))=z0t f (l.take k)++[(uN x.name,eN f.name (yR f.epochs x))]:=by
 rw [qLtx,hx];simp [z0t]
theorem zJn (f:Folder) {l:List Link} {k:Nat} {x:Link} (hx:l[k]? =some x):z3c f (l.take (k+1))=z3c f (l.take k)++[(eN x.to x.seq,eN f.name x.epoch)]:=by
 rw [qLtx,hx];simp [z3c]
theorem zQb {w w0 wq W:World} {cs:List Value} {x:Folder} (h:ZG (fun z=>z < w.heap.size) wq cs x) (h0:w.heap.size<=w0.heap.size) (hq:Below w0.heap.size w0 wq) (hW:Below w0.heap.size w0 W):ZG (fun z=>z < w.heap.size) W cs x:=
 Z5 h fun b hb _=>⟨hb,(hW.block b (zll hb h0)).trans (hq.block b (zll hb h0)).symm⟩
theorem zQc {S:Nat->Prop} {w:World} {x:Folder} {a b c d e f:Value} {A:Option Addr} {n c6:Nat} (h:ZG S w [a,b,c,d,e,f,.slice A n c6] x):SlAt 3 z0g S w A x.links:=by
 obtain ⟨_,_,_,_,_,e,_,_,_,_,_,_,h7⟩:=h;simp only [List.cons.injEq] at e;obtain ⟨_,_,_,_,_,_,rfl,_⟩:=e;obtain ⟨_,_,e,_,_,_,hs⟩:=h7;cases e
 exact hs
theorem zQd {l:List Epoch} {w:Wrap} (hl:l.length<=1001) (h:I64 w.epoch):I64 (yR l w):=by
 unfold yR;split
 ·by_cases h2:1<=w.epoch/\w.epoch<=l.length
  ·have:=zA3 h2.1 h2.2;unfold I64;omega
  rw [z5t h2];exact h
 exact h
theorem zO1 (st:State) (cs:List Value) (w:World) (S:Nat->Prop) (h:yB S w cs st) (ok:OkSt st):Calls Tryz.prog 198 #[.agg cs.toArray] w fun e w'=>(∃t B,e= .returned (.pointer (some ⟨t,0,none⟩))/\Gr (z3t st) 3000 w' t B/\∀z,B z->w.heap.size<=z)/\Below w.heap.size w w':=by
 have hR0:=Z0 h (show Kept S (fun z=>z < w.heap.size) w w from fun b _ hl=>⟨hl,rfl⟩);clear h;obtain ⟨st_A1,st_c1,st_A2,st_c2,st_A3,st_c3,rfl,_,_,_,_,_,_,_,_,st_deposits_s,st_folders_l,st_folders_m,st_folders_n,st_folders_s⟩:=ZP hR0;obtain ⟨w0,hw0,cw0,fw0,Bw0,qw0⟩:=zQ w #[.int .i64 st.turn,.slice st_A1 st.users.length st_c1,.slice st_A2 st.deposits.length st_c2,.slice st_A3 st.folders.length st_c3] 34;have HC0:=zh cw0;have HB0:=zh Bw0;have HOK:=zh ok;have x2:=cw0 2 _ rfl;clear ok cw0 fw0 Bw0;go_enter Tryz.func198,Tryz.ntmps198
 go_wp2_with fail
 clear hw0;refine zcm (zSg _) ?_;rintro e w1 ⟨⟨t,b,rfl,hg,ht,hb⟩,B1⟩;have HG1:=zh (show GrW w0 (fun _=>False) (z0u (st.deposits.take 0)) w1 t from ⟨⟨0,_,⟨b,0,_,_,_,_,_,_,hg,rfl⟩,by simp,fun z hz=>⟨by
  rcases hz with rfl | rfl | h | h | ⟨v,hv,h⟩
  ·exact ht
  ·exact hb
  ·cases h
  ·cases h
  ·simp at hv,fun h=>h⟩⟩,fun z h=>h.elim,B1⟩)
 have x2:=(B1.cell (p:=⟨w.heap.size,2,none⟩) qw0).trans x2;clear hg ht hb B1;go_wp2;clear x2;go_loopw [18] (fun i wr=>∃k:Nat,k<=st.deposits.length/\i= .int .i64 k/\Hid (GrW w0 (fun _=>False) (z0u (st.deposits.take k)) wr t)) (fun i _=>st.deposits.length - (intOf i).toNat)
 case atStart=>exact ⟨0,by omega,by go_num,HG1⟩
 clear HG1;obtain ⟨k,hk,rfl,HG⟩:=hrel;by_cases hlt:k < st.deposits.length
 ·obtain ⟨x,hx⟩:∃x,st.deposits[k]? =some x:=⟨_,qLgx hlt⟩;obtain ⟨b,o,ys,hA,hbl,hR,hcz⟩:=SlAt.elem st_deposits_s hx (by decide) (zB HB0.out HG.out.bel);obtain ⟨rfl,_,_⟩:=z7x hR;have u0:=hcz 0 _ rfl;have u1:=hcz 1 _ rfl;rw [Nat.add_zero] at u0;subst hA;have hki:(k:Int) < (st.deposits.length:Int):=by omega
  clear hcz;have HX:=zh hx;have hdl:=HOK.out.few;have hdd:=zFd st;rw [z93] at hdd;have HEL:=zh (show (z0u (st.deposits.take k)).length<=1500 by rw [z93];have:=z64 st.deposits k;omega);have HDP:=zh (HOK.out.dep x (zmg hx));obtain ⟨w2,hw2,cw2,fw2,Bw2,qw2⟩:=zQ wr #[.string x.frm,.string x.to] 126;have HGE:=zh (show GrW w0 (fun z=>z=wr.heap.size) (z0u (st.deposits.take k)) w2 t from HG.out.add Bw2 fun z hz=> .inr ⟨Nat.le_of_eq hz.symm,hz▸qw2⟩);have HCW:=zh cw2;clear hx hdl hdd cw2 fw2 Bw2 HG;go_wp2;have HSP:∀W:World,(∀z,(fun z=>z=wr.heap.size) z->W.heap[z]? =w2.heap[z]?)->(fun W:World=>W.cell? ⟨wr.heap.size,0,none⟩=some (.string x.frm)/\W.cell? ⟨wr.heap.size,1,none⟩=some (.string x.to)) W:=fun W hW=>⟨(World.cell?_of_block (hW _ rfl)).trans (HCW.out 0 _ rfl),(World.cell?_of_block (hW _ rfl)).trans (HCW.out 1 _ rfl)⟩
  have HS:∀W:World,(∀z,(fun z=>z=wr.heap.size) z->W.heap[z]? =w2.heap[z]?)->(fun W:World=>W.cell? ⟨wr.heap.size,0,none⟩=some (.string x.frm)/\W.cell? ⟨wr.heap.size,1,none⟩=some (.string x.to)) W:=HSP;refine wp_region_held_drew (S:=fun W:World=>W.cell? ⟨wr.heap.size,0,none⟩=some (.string x.frm)/\W.cell? ⟨wr.heap.size,1,none⟩=some (.string x.to)) (by kernel_rfl) (HS _ fun z _=>rfl) (fun hHeld=>?_);refine zi 0 ?_;iterate 3 (refine zt hHeld ?_;simp only [zA])
  refine zo ?_;refine zi 4 ?_;iterate 2 (refine zt hHeld ?_;simp only [zA])
  refine zo ?_;refine zr 3 fun K hK=>?_
  go_simp;go_at_call 200
  refine zcm (z7j _ _) ?_;rintro e3 wE3 ⟨rfl,b3⟩;have B3:Below w2.heap.size w2 wE3:=zB zbr.drew b3;clear b3 hHeld;refine hK.out _ _ (HS _ fun z hz=>B3.block z (HGE.out.kl z hz)) (fun hHeld=>?_);clear hK K;refine zr 6 fun K hK=>?_
  go_simp;go_at_call 200
  refine zcm (z7j _ _) ?_;rintro e4 wE4 ⟨rfl,b4⟩;have B4:Below w2.heap.size w2 wE4:=zB B3 b4;clear b4 hHeld;refine hK.out _ _ (HS _ fun z hz=>B4.block z (HGE.out.kl z hz)) (fun hHeld=>?_);clear hK K;refine zr 7 fun K hK=>?_
  go_simp;go_at_call 223
  refine zcm (zE4 (HGE.out.to B4) HEL.out _ _ (okU HDP.out.1) (okU HDP.out.2)) ?_;rintro e5 wE5 ⟨⟨r5,rfl⟩,g5,k5,z5⟩;have K5:=zh (show ∀z,(fun z=>z=wr.heap.size) z->wE5.heap[z]? =w2.heap[z]? from fun z hz=>(k5 z hz).trans (B4.block z (HGE.out.kl z hz)));have G5:=zh g5;clear k5 g5 hHeld;refine hK.out _ _ (HS _ K5.out) (fun hHeld=>?_);clear hK K;refine wpAnyH_done (by kernel_rfl) ?_ _;clear hHeld HS B3 B4 z5;go_wp2;go_roundw
  case rel=>exact ⟨k+1,by omega,by go_num,(G5.out.cast (zJk HX.out).symm).add zbr fun z hz=>hz.elim⟩
  case measure=>exact qMx
 obtain rfl:k=st.deposits.length:=by omega
 obtain ⟨wq,rfl⟩:∃wq,wq=wr:=⟨_,rfl⟩;rw [qLnx] at HG;have x3:=(HG.out.bel.cell (p:=⟨w.heap.size,3,none⟩) qw0).trans (HC0.out 3 _ rfl);have HSF:=zh (show Sl 7 ZG (fun z=>z < w.heap.size) w (.slice st_A3 st.folders.length st_c3) st.folders from ⟨_,_,rfl,st_folders_l,st_folders_m,st_folders_n,st_folders_s⟩);clear hk hlt;go_wp2_with fail
 clear x3;refine zcm (zDe st.folders _ wq (fun z=>z < w.heap.size) (HSF.out.keep YX (by decide) (zK (zB HB0.out HG.out.bel))) HOK.out.nf) ?_;rintro e w1 ⟨⟨v',ps,rfl,hrow,hps,hpr,hob⟩,B1⟩;have HG2:=zh (show GrW w0 (fun z=>v'.ownBlock=some z) (z0u st.deposits++((ps.map (·.2)).take 0).flatMap z1n) w1 t from (HG.out.cast (by simp)).add B1 fun z hz=> .inr ⟨hob z hz,hrow.lt z hz⟩);obtain ⟨Av,cv,rfl,-⟩:=hrow.shape;rw [qLmx] at HG2 hrow⊢;have hpl:ps.length<=1000:=by
  have h1:ps.length=(ZE Folder.name st.folders).length:=by rw [<-hps,qLmx]
  rw [h1];exact qNtx (z5s _ _) HOK.out.nf
 have HROW:=zh hrow;have HPS:=zh hps;have HPR:=zh hpr;have HBQ:=zh HG.out.bel;clear hrow hps hpr hob B1 HG;go_wp2;go_loopw [35] (fun i wr2=>∃k:Nat,k<=ps.length/\i= .int .i64 k/\Hid (GrW w0 (fun z=>(Value.slice Av ps.length cv).ownBlock=some z) (z0u st.deposits++((ps.map (·.2)).take k).flatMap z1n) wr2 t)/\Hid (RowC 74 7 wr2 (.slice Av ps.length cv) (ps.map (·.1)))) (fun i _=>ps.length - (intOf i).toNat)
 case atStart=>exact ⟨0,by omega,by go_num,HG2,HROW⟩
 clear HG2 HROW;obtain ⟨wr2,rfl⟩:∃x,x=wr:=⟨_,rfl⟩;obtain ⟨k,hk,rfl,HG,HROW⟩:=hrel;by_cases hlt:k < ps.length
 rotate_left
 ·obtain rfl:k=ps.length:=by omega
  obtain ⟨_,B,h1,h2,h3⟩:=HG.out.ex;have HE:z0u st.deposits++((ps.map (·.2)).take ps.length).flatMap z1n=z3t st:=by
   rw [List.take_of_length_le (Nat.le_of_eq (List.length_map _)),HPS.out];rfl
  rw [HE] at h1 h2;have HFIN:=zh (show Gr (z3t st) 3000 wr2 t B/\(∀z,B z->w.heap.size<=z)/\Below w.heap.size w wr2 from ⟨h1.mono (by have:=HOK.out.few;omega),fun z hz=>qNtx HB0.out.size (h3 z hz).1,zB HB0.out HG.out.bel⟩);clear h1 h2 h3 HE HG HROW;go_wp2;go_ret;exact ⟨⟨t,B,rfl,HFIN.out.1,HFIN.out.2.1⟩,HFIN.out.2.2⟩
 obtain ⟨⟨pc,x⟩,hp⟩:∃p,ps[k]? =some p:=⟨_,qLgx hlt⟩;have hR:=HPR.out _ (zmg hp);dsimp only at hR;obtain ⟨g,off,cap,hv,-,hcm,-,hcz,-⟩:=HROW.out.at (i:=k) (x:=pc) (by rw [List.getElem?_map,hp];rfl);unfold maxLen at hcm;obtain ⟨rfl,-,rfl⟩:Av=some ⟨g,off,none⟩/\ps.length=(ps.map (·.1)).length/\cv=cap:=by simpa using hv
 have HR:=zh hR;have HP:=zh hp;obtain ⟨x_A2,x_c2,x_A3,x_c3,x_A4,x_c4,x_A5,x_c5,x_A6,x_c6,rfl,_,_,_,_,_,x_manifests_s,_,_,_,x_epochs_s,_,_,_,x_items_s,_,_,_,x_wraps_s,_,_,_,x_links_s⟩:=Z2 hR;have u0:=hcz 0 _ rfl;have u1:=hcz 1 _ rfl;have u2:=hcz 2 _ rfl;have u3:=hcz 3 _ rfl;have u4:=hcz 4 _ rfl;have u5:=hcz 5 _ rfl;have u6:=hcz 6 _ rfl;rw [Nat.add_zero] at u0;have hki:(k:Int) < (ps.length:Int):=by omega
 have HXF:=zh (show x∈st.folders from z6x Folder.name _ _ (by rw [<-HPS.out];exact List.mem_map.2 ⟨_,zmg HP.out,rfl⟩));obtain ⟨E0,hE0⟩:∃E0,E0=z0u st.deposits++((ps.map (·.2)).take k).flatMap z1n:=⟨_,rfl⟩;rw [<-hE0] at HG;have HE1:=zh (show z0u st.deposits++((ps.map (·.2)).take (k+1)).flatMap z1n=E0++z1n x by
  rw [qLtx,List.getElem?_map,HP.out,hE0];simp)
 have HTOT:=zh (show E0.length+(x.epochs.length - 1+((ZE Wrap.name x.wraps).length+x.links.length))<=1000 by
  have h1:=zGb z1n (show (ps.map (·.2))[k]? =some x by rw [List.getElem?_map,HP.out];rfl);have h2:=zFd st;have h3:=HOK.out.few;rw [HPS.out] at h1;rw [hE0,qLax,HPS.out];rw [zE6] at h1;omega)
 obtain ⟨w3,hw3,cw3,fw3,Bw3,qw3⟩:=zQ wr2 #[.string x.name,.int .i64 x.turn,.slice x_A2 x.manifests.length x_c2,.slice x_A3 x.epochs.length x_c3,.slice x_A4 x.items.length x_c4,.slice x_A5 x.wraps.length x_c5,.slice x_A6 x.links.length x_c6] 74;obtain ⟨K3,hK3⟩:∃K3:Nat->Prop,K3=fun z=>(Value.slice (some ⟨g,off,none⟩) ps.length cv).ownBlock=some z\/z=wr2.heap.size:=⟨_,rfl⟩
 have HK3:=zh (show K3 wr2.heap.size by rw [hK3];exact .inr rfl);have HK3':=zh (show ∀z,(Value.slice (some ⟨g,off,none⟩) ps.length cv).ownBlock=some z->K3 z from fun z hz=>by rw [hK3];exact .inl hz);have HG3:=zh (show GrW w0 K3 (E0++z3d x.name 0) w3 t from (HG.out.cast (by simp [z3d])).add Bw3 fun z hz=>by
  rw [hK3] at hz;rcases hz with hz | rfl
  ·exact .inl hz
  ·exact .inr ⟨znl _,qw3⟩)
 have HT3:=zh (show w3.heap[wr2.heap.size]? =some (.cells #[.string x.name,.int .i64 x.turn,.slice x_A2 x.manifests.length x_c2,.slice x_A3 x.epochs.length x_c3,.slice x_A4 x.items.length x_c4,.slice x_A5 x.wraps.length x_c5,.slice x_A6 x.links.length x_c6] 74 (0,0)) by rw [<-hw3];exact zJ _ rfl);have HR3:=zh (HROW.out.below Bw3);have hel:x.epochs.length<=1001:=by have:=HTOT.out;omega
 clear hcz hp hE0 cw3 fw3 Bw3 hK3 HG HROW x_manifests_s x_epochs_s x_items_s x_wraps_s x_links_s;go_wp2;clear hw3 u0 u1 u2 u3 u4 u5 u6;go_loopw [8] (fun e wr3=>∃n:Nat,n<=x.epochs.length - 1/\e= .int .i64 ((n:Int)+2)/\Hid (GrW w0 K3 (E0++z3d x.name n) wr3 t)/\Hid (∀z,K3 z->wr3.heap[z]? =w3.heap[z]?)) (fun e _=>x.epochs.length+2 - (intOf e).toNat)
 case atStart=>exact ⟨0,Nat.zero_le _,rfl,HG3,fun z _=>rfl⟩
 clear HG3;obtain ⟨n,hn,rfl,HG,HSAME⟩:=hrel;have hT:=(HSAME.out _ HK3.out).trans HT3.out;have b0:=(zD hT).1 0 _ rfl;have b3:=(zD hT).1 3 _ rfl;have b5:=(zD hT).1 5 _ rfl;have hnl:n<=1001:=by omega
 have HTT:=HTOT.out;by_cases hlt:n+2<=x.epochs.length
 ·have hle:(n:Int)+2<=(x.epochs.length:Int):=by omega
  have hw1:IntKind.i64.wrap ((n:Int)+2 - 1)=(n:Int)+1:=by rw [IntWalk.i64_in _ (by omega)];omega
  have hw2:IntKind.i64.wrap ((n:Int)+2+1)=(n:Int)+1+2:=by rw [IntWalk.i64_in _ (by omega)];omega
  have HEL:=zh (show (E0++z3d x.name n).length<=1500 by rw [qLax,z94];omega);have HGE:=HG;have HNM:=zh (HOK.out.fol x HXF.out).1;have HI1:=zh (show I64 ((n:Int)+2)/\I64 ((n:Int)+1) by unfold I64;omega);clear hT HG;go_wp2;have HSP:∀W:World,(∀z,K3 z->W.heap[z]? =wr.heap[z]?)->(fun W:World=>W.cell? ⟨wr2.heap.size,0,none⟩=some (.string x.name)) W:=fun W hW=>(World.cell?_of_block (hW _ HK3.out)).trans b0
  have HS:∀W:World,(∀z,(K3) z->W.heap[z]? =wr.heap[z]?)->(fun W:World=>W.cell? ⟨wr2.heap.size,0,none⟩=some (.string x.name)) W:=HSP;refine wp_region_held_drew (S:=fun W:World=>W.cell? ⟨wr2.heap.size,0,none⟩=some (.string x.name)) (by kernel_rfl) (HS _ fun z _=>rfl) (fun hHeld=>?_);refine zi 0 ?_;iterate 4 (refine zt hHeld ?_;simp only [zA])
  refine zo ?_;refine zi 5 ?_;iterate 4 (refine zt hHeld ?_;simp only [zA])
  refine zo ?_;refine zr 4 fun K hK=>?_
  go_simp;go_at_call 226
  refine zcm (z52 _ _ _) ?_;rintro e3 wE3 ⟨rfl,b3⟩;have B3:Below wr.heap.size wr wE3:=zB zbr.drew b3;clear b3 hHeld;refine hK.out _ _ (HS _ fun z hz=>B3.block z (HGE.out.kl z hz)) (fun hHeld=>?_);clear hK K;refine zr 9 fun K hK=>?_
  go_simp;go_at_call 226
  refine zcm (z52 _ _ _) ?_;rintro e4 wE4 ⟨rfl,b4⟩;have B4:Below wr.heap.size wr wE4:=zB B3 b4;clear b4 hHeld;refine hK.out _ _ (HS _ fun z hz=>B4.block z (HGE.out.kl z hz)) (fun hHeld=>?_);clear hK K;refine zr 10 fun K hK=>?_
  go_simp;go_at_call 223
  refine zcm (zE4 (HGE.out.to B4) HEL.out _ _ (okE HNM.out HI1.out.1) (okE HNM.out HI1.out.2)) ?_;rintro e5 wE5 ⟨⟨r5,rfl⟩,g5,k5,z5⟩;have K5:=zh (show ∀z,(K3) z->wE5.heap[z]? =wr.heap[z]? from fun z hz=>(k5 z hz).trans (B4.block z (HGE.out.kl z hz)));have G5:=zh g5;clear k5 g5 hHeld;refine hK.out _ _ (HS _ K5.out) (fun hHeld=>?_);clear hK K;refine wpAnyH_done (by kernel_rfl) ?_ _;clear hHeld HS B3 B4 z5;go_wp2;go_roundw
  case rel=>exact ⟨n+1,by omega,by go_num,G5.out.cast (by rw [zJl,List.append_assoc]),fun z hz=>(K5.out z hz).trans (HSAME.out z hz)⟩
  case measure=>exact qMx
 have hle:¬(n:Int)+2<=(x.epochs.length:Int):=by omega
 have hnx:n=x.epochs.length - 1:=by omega
 obtain ⟨w4,rfl⟩:∃q,q=wr:=⟨_,rfl⟩;have HSW:=zh (show Sl 3 YC (fun z=>z < w.heap.size) w4 (.slice x_A5 x.wraps.length x_c5) x.wraps from by
  obtain ⟨_,_,_,_,_,e,h1,h2,h3,_,_,h6,_⟩:=zQb HR.out HB0.out.size HBQ.out HG.out.bel;simp only [List.cons.injEq] at e;obtain ⟨_,_,_,_,_,rfl,_⟩:=e;exact h6)
 subst hnx;clear hn hT hlt;go_wp2_with fail
 clear b0 b3 b5;refine zcm (zFc x.wraps _ w4 (fun z=>z < w.heap.size) HSW.out (HOK.out.fol x HXF.out).2.2.2) ?_;rintro e w5 ⟨⟨vw,qs,rfl,qrow,hqs,hqr,hqb⟩,B5⟩;obtain ⟨E1,hE1⟩:∃E1,E1=E0++z3d x.name (x.epochs.length - 1):=⟨_,rfl⟩;have HE1L:=zh (show E1.length=E0.length+(x.epochs.length - 1) by rw [hE1,qLax,z94]);have HEE:=zh hE1;obtain ⟨K4,hK4⟩:∃K4:Nat->Prop,K4=fun z=>K3 z\/vw.ownBlock=some z:=⟨_,rfl⟩
 have HK4:=zh (show ∀z,K3 z->K4 z from fun z hz=>by rw [hK4];exact .inl hz);have HK4':=zh (show ∀z,vw.ownBlock=some z->K4 z from fun z hz=>by rw [hK4];exact .inr hz);have HG4:=zh (show GrW w0 K4 (E1++z0t x ((qs.map (·.2)).take 0)) w5 t from (HG.out.cast (by simp [z0t,hE1])).add B5 fun z hz=>by
  rw [hK4] at hz;rcases hz with hz | hz
  ·exact .inl hz
  ·exact .inr ⟨hqb z hz,qrow.lt z hz⟩)
 have HS4:=zh (show ∀z,K3 z->w5.heap[z]? =w3.heap[z]? from fun z hz=>(B5.block z (HG.out.kl z hz)).trans (HSAME.out z hz));obtain ⟨Aw,cw,rfl,-⟩:=qrow.shape;rw [qLmx] at qrow HK4'⊢;have hql:qs.length=(ZE Wrap.name x.wraps).length:=by rw [<-hqs,qLmx]
 have HQR:=zh hqr;have HQS:=zh hqs;have HQW:=zh qrow;have hql2:qs.length<=1000:=by rw [hql];omega
 have HQL:=zh hql;have HT5:=zh ((HS4.out _ HK3.out).trans HT3.out);clear hK4 hE1 HG HSAME qrow hqs hqr hqb B5 hql;go_wp2;go_loopw [61] (fun i wr4=>∃j:Nat,j<=qs.length/\i= .int .i64 j/\Hid (GrW w0 K4 (E1++z0t x ((qs.map (·.2)).take j)) wr4 t)/\Hid (∀z,K4 z->wr4.heap[z]? =w5.heap[z]?)) (fun i _=>qs.length - (intOf i).toNat)
 case atStart=>exact ⟨0,by omega,by go_num,HG4,fun z _=>rfl⟩
 clear HG4;obtain ⟨wr4,rfl⟩:∃q,q=wr:=⟨_,rfl⟩;obtain ⟨j,hj,rfl,HG,HSAME⟩:=hrel;by_cases hlt:j < qs.length
 rotate_left
 ·obtain rfl:j=qs.length:=by omega
  have HGL:=zh (show GrW w0 K3 (E1++z0t x (ZE Wrap.name x.wraps)++z3c x (x.links.take 0)) wr4 t from (HG.out.cast (by rw [<-HQS.out,List.take_of_length_le (Nat.le_of_eq (List.length_map _))];simp [z3c])).add zbr fun z hz=> .inl (HK4.out z hz));have HSL:=zh (show ∀z,K3 z->wr4.heap[z]? =w3.heap[z]? from fun z hz=>(HSAME.out z (HK4.out z hz)).trans (HS4.out z hz));have b6:=(zD ((HSL.out _ HK3.out).trans HT3.out)).1 6 _ rfl;clear HG HSAME hj hlt;go_wp2;clear b6;go_loopw [85] (fun i wr5=>∃q:Nat,q<=x.links.length/\i= .int .i64 q/\Hid (GrW w0 K3 (E1++z0t x (ZE Wrap.name x.wraps)++z3c x (x.links.take q)) wr5 t)/\Hid (∀z,K3 z->wr5.heap[z]? =w3.heap[z]?)) (fun i _=>x.links.length - (intOf i).toNat)
  case atStart=>exact ⟨0,by omega,by go_num,HGL,HSL⟩
  clear HGL HSL;obtain ⟨wr5,rfl⟩:∃q,q=wr:=⟨_,rfl⟩;obtain ⟨q,hq,rfl,HG,HSAME⟩:=hrel;by_cases hlt:q < x.links.length
  rotate_left
  ·obtain rfl:q=x.links.length:=by omega
   have HEND:=zh (show GrW w0 (fun z=>(Value.slice (some ⟨g,off,none⟩) ps.length cv).ownBlock=some z) (z0u st.deposits++((ps.map (·.2)).take (k+1)).flatMap z1n) wr5 t from (HG.out.cast (by rw [HE1.out,HEE.out,qLnx];simp [z1n])).add zbr fun z hz=> .inl (HK3'.out z hz));have HRE:=zh (HR3.out.keep (w':=wr5) fun b hb=>HSAME.out b (HK3'.out b hb));clear HG HSAME;go_wp2;go_roundw
   case rel=>
    have HF:∃j':Nat,j'<=ps.length/\Value.int .i64 ((k:Int)+1)= .int .i64 j'/\Hid (GrW w0 (fun z=>(Value.slice (some ⟨g,off,none⟩) ps.length cv).ownBlock=some z) (z0u st.deposits++((ps.map (·.2)).take j').flatMap z1n) wr5 t)/\Hid (RowC 74 7 wr5 (.slice (some ⟨g,off,none⟩) ps.length cv) (ps.map (·.1))):=⟨k+1,by omega,by go_num,HEND,HRE⟩;first | exact HF | ((repeat apply Exists.intro);refine ⟨HF,?_⟩;first | rfl | ((repeat' apply And.intro)<;>rfl) | (simp;(repeat' apply And.intro)<;>rfl))
   case measure=>exact qMx
  obtain ⟨y,hy⟩:∃y,x.links[q]? =some y:=⟨_,qLgx hlt⟩;obtain ⟨b,o,ys,hA,hbl,hRL,hcz⟩:=SlAt.elem (wr:=wr5) (zQc (zQb HR.out HB0.out.size HBQ.out HG.out.bel)) hy (by decide) zbr;subst hA;obtain ⟨rfl,y_epoch_ok,_,y_seq_ok⟩:=z6l hRL;have u0:=hcz 0 _ rfl;have u1:=hcz 1 _ rfl;have u2:=hcz 2 _ rfl;rw [Nat.add_zero] at u0;have hqi:(q:Int) < (x.links.length:Int):=by omega
  have HYM:=zh (zmg hy);have HNXT:=zh (zJn x hy);obtain ⟨w6,hw6,cw6,fw6,Bw6,qw6⟩:=zQ wr5 #[.int .i64 y.epoch,.string y.to,.int .i64 y.seq] 151;obtain ⟨K6,hK6⟩:∃K6:Nat->Prop,K6=fun z=>K3 z\/z=wr5.heap.size:=⟨_,rfl⟩
  have HK6:=zh (show K6 wr5.heap.size by rw [hK6];exact .inr rfl);have HK63:=zh (show ∀z,K3 z->K6 z from fun z hz=>by rw [hK6];exact .inl hz);have HGE:=zh (show GrW w0 K6 (E1++z0t x (ZE Wrap.name x.wraps)++z3c x (x.links.take q)) w6 t from HG.out.add Bw6 fun z hz=>by
   rw [hK6] at hz;rcases hz with hz | rfl
   ·exact .inl hz
   ·exact .inr ⟨znl _,qw6⟩)
  have HS6:=zh (show ∀z,K3 z->w6.heap[z]? =w3.heap[z]? from fun z hz=>(Bw6.block z (HG.out.kl z hz)).trans (HSAME.out z hz));have HT6:=zh ((HS6.out _ HK3.out).trans HT3.out);have HD:=zh (show w6.heap[wr5.heap.size]? =some (.cells #[.int .i64 y.epoch,.string y.to,.int .i64 y.seq] 151 (0,0)) by rw [<-hw6];exact zJ _ rfl);have HEL:=zh (show (E1++z0t x (ZE Wrap.name x.wraps)++z3c x (x.links.take q)).length<=1500 by
   rw [qLax,qLax,z95,zE5,HE1L.out];have:=HTOT.out;have:=z64 x.links q;omega)
  have HNM:=zh (HOK.out.fol x HXF.out).1;have HYN:=zh ((HOK.out.fol x HXF.out).2.2.1 y HYM.out);have HYI:=zh (show I64 y.epoch/\I64 y.seq from ⟨y_epoch_ok,y_seq_ok⟩);have HSQ:=zh (show ∀W:World,(∀z,K6 z->W.heap[z]? =w6.heap[z]?)->(fun W:World=>W.cell? ⟨wr5.heap.size,0,none⟩=some (.int .i64 y.epoch)/\W.cell? ⟨wr5.heap.size,1,none⟩=some (.string y.to)/\W.cell? ⟨wr5.heap.size,2,none⟩=some (.int .i64 y.seq)/\W.cell? ⟨wr2.heap.size,0,none⟩=some (.string x.name)) W from fun W hW=>⟨(zD ((hW _ HK6.out).trans HD.out)).1 0 _ rfl,(zD ((hW _ HK6.out).trans HD.out)).1 1 _ rfl,(zD ((hW _ HK6.out).trans HD.out)).1 2 _ rfl,(zD ((hW _ (HK63.out _ HK3.out)).trans HT6.out)).1 0 _ rfl⟩);clear hcz hy cw6 fw6 Bw6 hK6 HG y_epoch_ok y_seq_ok;go_wp2;have HSP:=HSQ.out;have HS:∀W:World,(∀z,(K6) z->W.heap[z]? =w6.heap[z]?)->(fun W:World=>W.cell? ⟨wr5.heap.size,0,none⟩=some (.int .i64 y.epoch)/\W.cell? ⟨wr5.heap.size,1,none⟩=some (.string y.to)/\W.cell? ⟨wr5.heap.size,2,none⟩=some (.int .i64 y.seq)/\W.cell? ⟨wr2.heap.size,0,none⟩=some (.string x.name)) W:=HSP;refine wp_region_held_drew (S:=fun W:World=>W.cell? ⟨wr5.heap.size,0,none⟩=some (.int .i64 y.epoch)/\W.cell? ⟨wr5.heap.size,1,none⟩=some (.string y.to)/\W.cell? ⟨wr5.heap.size,2,none⟩=some (.int .i64 y.seq)/\W.cell? ⟨wr2.heap.size,0,none⟩=some (.string x.name)) (by kernel_rfl) (HS _ fun z _=>rfl) (fun hHeld=>?_);refine zi 0 ?_;iterate 5 (refine zt hHeld ?_;simp only [zA])
  refine zo ?_;refine zi 6 ?_;iterate 4 (refine zt hHeld ?_;simp only [zA])
  refine zo ?_;refine zr 5 fun K hK=>?_
  go_simp;go_at_call 226
  refine zcm (z52 _ _ _) ?_;rintro e3 wE3 ⟨rfl,b3⟩;have B3:Below w6.heap.size w6 wE3:=zB zbr.drew b3;clear b3 hHeld;refine hK.out _ _ (HS _ fun z hz=>B3.block z (HGE.out.kl z hz)) (fun hHeld=>?_);clear hK K;refine zr 10 fun K hK=>?_
  go_simp;go_at_call 226
  refine zcm (z52 _ _ _) ?_;rintro e4 wE4 ⟨rfl,b4⟩;have B4:Below w6.heap.size w6 wE4:=zB B3 b4;clear b4 hHeld;refine hK.out _ _ (HS _ fun z hz=>B4.block z (HGE.out.kl z hz)) (fun hHeld=>?_);clear hK K;refine zr 11 fun K hK=>?_
  go_simp;go_at_call 223
  refine zcm (zE4 (HGE.out.to B4) HEL.out _ _ (okE HYN.out HYI.out.2) (okE HNM.out HYI.out.1)) ?_;rintro e5 wE5 ⟨⟨r5,rfl⟩,g5,k5,z5⟩;have K5:=zh (show ∀z,(K6) z->wE5.heap[z]? =w6.heap[z]? from fun z hz=>(k5 z hz).trans (B4.block z (HGE.out.kl z hz)));have G5:=zh g5;clear k5 g5 hHeld;refine hK.out _ _ (HS _ K5.out) (fun hHeld=>?_);clear hK K;refine wpAnyH_done (by kernel_rfl) ?_ _;clear hHeld HS B3 B4 z5;go_wp2;go_roundw
  case rel=>
   have HF:∃j':Nat,j'<=x.links.length/\Value.int .i64 ((q:Int)+1)= .int .i64 j'/\Hid (GrW w0 K3 (E1++z0t x (ZE Wrap.name x.wraps)++z3c x (x.links.take j')) wE5 t)/\Hid (∀z,K3 z->wE5.heap[z]? =w3.heap[z]?):=⟨q+1,by omega,by go_num,(G5.out.cast (by rw [HNXT.out,List.append_assoc])).add zbr fun z hz=> .inl (HK63.out z hz),fun z hz=>(K5.out z (HK63.out z hz)).trans (HS6.out z hz)⟩;first | exact HF | ((repeat apply Exists.intro);refine ⟨HF,?_⟩;first | rfl | ((repeat' apply And.intro)<;>rfl) | (simp;(repeat' apply And.intro)<;>rfl))
  case measure=>exact qMx
 obtain ⟨⟨qc,y⟩,hq⟩:∃p,qs[j]? =some p:=⟨_,qLgx hlt⟩;have hR2:=HQR.out _ (zmg hq);dsimp only at hR2;obtain ⟨g2,off2,cap2,hv2,-,hcm2,-,hcz2,-⟩:=(HQW.out.keep (w':=wr4) fun b hb=>HSAME.out b (HK4'.out b hb)).at (i:=j) (x:=qc) (by rw [List.getElem?_map,hq];rfl);unfold maxLen at hcm2;obtain ⟨rfl,-,rfl⟩:Aw=some ⟨g2,off2,none⟩/\qs.length=(qs.map (·.1)).length/\cw=cap2:=by simpa using hv2
 have HQ:=zh hq;obtain ⟨rfl,_,y_epoch_ok⟩:=z3i hR2;have u0:=hcz2 0 _ rfl;have u1:=hcz2 1 _ rfl;have u2:=hcz2 2 _ rfl;obtain ⟨sd,hsd⟩:∃sd,y.seed=sd:=⟨_,rfl⟩;rw [hsd] at u2;have HSD:=zh hsd;clear hsd;rw [Nat.add_zero] at u0;have hji:(j:Int) < (qs.length:Int):=by omega
 have HYM:=zh (show y∈x.wraps from z6x Wrap.name _ _ (by rw [<-HQS.out];exact List.mem_map.2 ⟨_,zmg HQ.out,rfl⟩));obtain ⟨w6,hw6,cw6,fw6,Bw6,qw6⟩:=zQ wr4 #[.string y.name,.int .i64 y.epoch,.bool sd] 149;obtain ⟨K6,hK6⟩:∃K6:Nat->Prop,K6=fun z=>K4 z\/z=wr4.heap.size:=⟨_,rfl⟩
 have HK6:=zh (show K6 wr4.heap.size by rw [hK6];exact .inr rfl);have HK64:=zh (show ∀z,K4 z->K6 z from fun z hz=>by rw [hK6];exact .inl hz);have HG6:=zh (show GrW w0 K6 (E1++z0t x ((qs.map (·.2)).take j)) w6 t from HG.out.add Bw6 fun z hz=>by
  rw [hK6] at hz;rcases hz with hz | rfl
  ·exact .inl hz
  ·exact .inr ⟨znl _,qw6⟩)
 have HS6:=zh (show ∀z,K4 z->w6.heap[z]? =w5.heap[z]? from fun z hz=>(Bw6.block z (HG.out.kl z hz)).trans (HSAME.out z hz));have hT:=(HS6.out _ (HK4.out _ HK3.out)).trans HT5.out;have HT6:=zh hT;obtain ⟨b0,b1,b2,b3,b4,b5,b6⟩:=zC7 (zD hT).1;have d1:=cw6 1 _ rfl;have d2:=cw6 2 _ rfl;have HD:=zh (show w6.heap[wr4.heap.size]? =some (.cells #[.string y.name,.int .i64 y.epoch,.bool sd] 149 (0,0)) by rw [<-hw6];exact zJ _ rfl);have HEL:=zh (show (E1++z0t x ((qs.map (·.2)).take j)).length<=1500 by
  rw [qLax,z95,List.length_take,qLmx,HE1L.out];have:=HTOT.out;have:=HQL.out;omega)
 have HNM:=zh (HOK.out.fol x HXF.out).1;have HYN:=zh ((HOK.out.fol x HXF.out).2.1 y HYM.out);have HYI:=zh y_epoch_ok;have HXR:=zh (zQb HR.out HB0.out.size HBQ.out HG6.out.bel);have HLA:=zh (zQa x y.epoch HYI.out _ w6 _ HXR.out);have HWE:=zh (show I64 (yR x.epochs y) from zQd hel HYI.out);have HNXT:=zh (zJm x (show (qs.map (·.2))[j]? =some y by rw [List.getElem?_map,HQ.out];rfl));clear hcz2 hq cw6 fw6 Bw6 hK6 HG hT y_epoch_ok;go_wp2_with fail
 ·obtain rfl:sd=true:=by assumption
  have HWV:=zh (show yR x.epochs y=yC x.epochs y.epoch by unfold yR;rw [HSD.out];rfl);rw [HWV.out] at HWE HNXT;refine zcm HLA.out ?_;rintro e w7 ⟨rfl,B7⟩;have HGE:=zh (HG6.out.to B7);have HSP:∀W:World,(∀z,K6 z->W.heap[z]? =w7.heap[z]?)->(fun W:World=>W.cell? ⟨wr4.heap.size,0,none⟩=some (.string y.name)/\W.cell? ⟨wr2.heap.size,0,none⟩=some (.string x.name)) W:=fun W hW=>⟨(zD ((hW _ HK6.out).trans ((B7.block _ (HG6.out.kl _ HK6.out)).trans HD.out))).1 0 _ rfl,(zD ((hW _ (HK64.out _ (HK4.out _ HK3.out))).trans ((B7.block _ (HG6.out.kl _ (HK64.out _ (HK4.out _ HK3.out)))).trans HT6.out))).1 0 _ rfl⟩
  have HSQ:=zh HSP;have HS7:=zh (show ∀z,K4 z->w7.heap[z]? =w5.heap[z]? from fun z hz=>(B7.block z (HG6.out.kl z (HK64.out z hz))).trans (HS6.out z hz));clear HSP HG6 B7 d1 d2 b0 b1 b2 b3 b4 b5 b6 hw6;go_wp2;have HSP:=HSQ.out;have HS:∀W:World,(∀z,(K6) z->W.heap[z]? =w7.heap[z]?)->(fun W:World=>W.cell? ⟨wr4.heap.size,0,none⟩=some (.string y.name)/\W.cell? ⟨wr2.heap.size,0,none⟩=some (.string x.name)) W:=HSP;refine wp_region_held_drew (S:=fun W:World=>W.cell? ⟨wr4.heap.size,0,none⟩=some (.string y.name)/\W.cell? ⟨wr2.heap.size,0,none⟩=some (.string x.name)) (by kernel_rfl) (HS _ fun z _=>rfl) (fun hHeld=>?_);refine zi 0 ?_;iterate 3 (refine zt hHeld ?_;simp only [zA])
  refine zo ?_;refine zi 4 ?_;iterate 3 (refine zt hHeld ?_;simp only [zA])
  refine zo ?_;refine zr 3 fun K hK=>?_
  go_simp;go_at_call 200
  refine zcm (z7j _ _) ?_;rintro e3 wE3 ⟨rfl,b3⟩;have B3:Below w7.heap.size w7 wE3:=zB zbr.drew b3;clear b3 hHeld;refine hK.out _ _ (HS _ fun z hz=>B3.block z (HGE.out.kl z hz)) (fun hHeld=>?_);clear hK K;refine zr 7 fun K hK=>?_
  go_simp;go_at_call 226
  refine zcm (z52 _ _ _) ?_;rintro e4 wE4 ⟨rfl,b4⟩;have B4:Below w7.heap.size w7 wE4:=zB B3 b4;clear b4 hHeld;refine hK.out _ _ (HS _ fun z hz=>B4.block z (HGE.out.kl z hz)) (fun hHeld=>?_);clear hK K;refine zr 8 fun K hK=>?_
  go_simp;go_at_call 223
  refine zcm (zE4 (HGE.out.to B4) HEL.out _ _ (okU HYN.out) (okE HNM.out HWE.out)) ?_;rintro e5 wE5 ⟨⟨r5,rfl⟩,g5,k5,z5⟩;have K5:=zh (show ∀z,(K6) z->wE5.heap[z]? =w7.heap[z]? from fun z hz=>(k5 z hz).trans (B4.block z (HGE.out.kl z hz)));have G5:=zh g5;clear k5 g5 hHeld;refine hK.out _ _ (HS _ K5.out) (fun hHeld=>?_);clear hK K;refine wpAnyH_done (by kernel_rfl) ?_ _;clear hHeld HS B3 B4 z5;go_wp2;go_roundw
  case rel=>
   have HF:∃j':Nat,j'<=qs.length/\Value.int .i64 ((j:Int)+1)= .int .i64 j'/\Hid (GrW w0 K4 (E1++z0t x ((qs.map (·.2)).take j')) wE5 t)/\Hid (∀z,K4 z->wE5.heap[z]? =w5.heap[z]?):=⟨j+1,by omega,by go_num,(G5.out.cast (by rw [HNXT.out,List.append_assoc])).add zbr fun z hz=> .inl (HK64.out z hz),fun z hz=>(K5.out z (HK64.out z hz)).trans (HS7.out z hz)⟩;first | exact HF | ((repeat apply Exists.intro);refine ⟨HF,?_⟩;first | rfl | ((repeat' apply And.intro)<;>rfl) | (simp;(repeat' apply And.intro)<;>rfl))
  case measure=>exact qMx
 obtain rfl:sd=false:=by assumption
 have HWV:=zh (show yR x.epochs y=y.epoch by unfold yR;rw [HSD.out];rfl);rw [HWV.out] at HWE HNXT;have HGE:=HG6;have HSP:∀W:World,(∀z,K6 z->W.heap[z]? =w6.heap[z]?)->(fun W:World=>W.cell? ⟨wr4.heap.size,0,none⟩=some (.string y.name)/\W.cell? ⟨wr2.heap.size,0,none⟩=some (.string x.name)) W:=fun W hW=>⟨(zD ((hW _ HK6.out).trans HD.out)).1 0 _ rfl,(zD ((hW _ (HK64.out _ (HK4.out _ HK3.out))).trans HT6.out)).1 0 _ rfl⟩
 clear HG6;have HS:∀W:World,(∀z,(K6) z->W.heap[z]? =w6.heap[z]?)->(fun W:World=>W.cell? ⟨wr4.heap.size,0,none⟩=some (.string y.name)/\W.cell? ⟨wr2.heap.size,0,none⟩=some (.string x.name)) W:=HSP;refine wp_region_held_drew (S:=fun W:World=>W.cell? ⟨wr4.heap.size,0,none⟩=some (.string y.name)/\W.cell? ⟨wr2.heap.size,0,none⟩=some (.string x.name)) (by kernel_rfl) (HS _ fun z _=>rfl) (fun hHeld=>?_);refine zi 0 ?_;iterate 3 (refine zt hHeld ?_;simp only [zA])
 refine zo ?_;refine zi 4 ?_;iterate 3 (refine zt hHeld ?_;simp only [zA])
 refine zo ?_;refine zr 3 fun K hK=>?_
 go_simp;go_at_call 200
 refine zcm (z7j _ _) ?_;rintro e3 wE3 ⟨rfl,b3⟩;have B3:Below w6.heap.size w6 wE3:=zB zbr.drew b3;clear b3 hHeld;refine hK.out _ _ (HS _ fun z hz=>B3.block z (HGE.out.kl z hz)) (fun hHeld=>?_);clear hK K;refine zr 7 fun K hK=>?_
 go_simp;go_at_call 226
 refine zcm (z52 _ _ _) ?_;rintro e4 wE4 ⟨rfl,b4⟩;have B4:Below w6.heap.size w6 wE4:=zB B3 b4;clear b4 hHeld;refine hK.out _ _ (HS _ fun z hz=>B4.block z (HGE.out.kl z hz)) (fun hHeld=>?_);clear hK K;refine zr 8 fun K hK=>?_
 go_simp;go_at_call 223
 refine zcm (zE4 (HGE.out.to B4) HEL.out _ _ (okU HYN.out) (okE HNM.out HWE.out)) ?_;rintro e5 wE5 ⟨⟨r5,rfl⟩,g5,k5,z5⟩;have K5:=zh (show ∀z,(K6) z->wE5.heap[z]? =w6.heap[z]? from fun z hz=>(k5 z hz).trans (B4.block z (HGE.out.kl z hz)));have G5:=zh g5;clear k5 g5 hHeld;refine hK.out _ _ (HS _ K5.out) (fun hHeld=>?_);clear hK K;refine wpAnyH_done (by kernel_rfl) ?_ _;clear hHeld HS B3 B4 z5;go_wp2;go_roundw
 case rel=>
  have HF:∃j':Nat,j'<=qs.length/\Value.int .i64 ((j:Int)+1)= .int .i64 j'/\Hid (GrW w0 K4 (E1++z0t x ((qs.map (·.2)).take j')) wE5 t)/\Hid (∀z,K4 z->wE5.heap[z]? =w5.heap[z]?):=⟨j+1,by omega,by go_num,(G5.out.cast (by rw [HNXT.out,List.append_assoc])).add zbr fun z hz=> .inl (HK64.out z hz),fun z hz=>(K5.out z (HK64.out z hz)).trans (HS6.out z hz)⟩;first | exact HF | ((repeat apply Exists.intro);refine ⟨HF,?_⟩;first | rfl | ((repeat' apply And.intro)<;>rfl) | (simp;(repeat' apply And.intro)<;>rfl))
 case measure=>exact qMx
end
end Go.Proofs.YtdggplhnfhcieaaGreatDoor
