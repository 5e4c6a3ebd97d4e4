/- No condition. -/
import Derived.Test.YtdggplhnfhcieaaGreatDoorW16
set_option linter.all false
set_option maxRecDepth 100000
namespace Go.Proofs.YtdggplhnfhcieaaGreatDoor
open Go.Proofs.Tryz Cd Ce List
open Go.RowKit Go.Deep
variable {X:List At} {f:Folder} {k:Nat} {p:Prop} {st:State} {y:At}
theorem zDv {c:Type} {e T:TypeId} {sz:Nat} {R:Rp c} {B:Nat->Prop} {w:World} {base:Nat} {v:Value} {l:List c} (h:Grow e sz R B w base v l) {g:Nat} {d:Array Value} (hg:w.heap[g]? =some (.cells d T (0,0))) (m:T≠e):v.ownBlock≠some g:=by
 obtain⟨_,_,_,⟨_,j⟩,_⟩:=h;intro a;rcases j with ⟨rfl,_⟩|⟨i,n,o,rfl,_,b,_⟩
 ·cases a
 obtain rfl:i=g:=zsi a;rw[hg] at b;cases b
 exact m rfl
def zDw (l:List Wrap) (s:Nm) (b:Bool):Prop:=b=true↔s∉l.map Wrap.name
theorem zOx (h:f.epochs.length<=()) {e:Int} (b:I64 e):I64 (z03 f.epochs e):=by
 by_cases a:1<=e/\e<=f.epochs
 ·have:=zHu a.1 a.2;have c:=b;unfold I64 at c⊢;omega
 rw[z6q a];exact b
def z44 (st:State) (X:List At) (y:At):Bool:=match Z4 st y.name with
 | none=>false
 | some g=>decide (2<=y.seq)&&decide (y.seq<=g.epochs)&&!zBd X y.name (y.seq-1)
def ED (st:State) (X:List At) (y:At):Prop:=∀f∈ZP Folder.name st.folders,∀b,(y,b)∈z98 f->b∈X
def LD (st:State) (X:List At) (y:At) (k:Nat):Prop:=∀(a:Nat) f b,a<k->st.folders[a]? =some f->z0s st f.name=(a:Int)->(y,b)∈z99 f->b∈X
def MD (f:Folder) (X:List At) (y:At) (m:Nat):Prop:=∀x∈f.links.take m,x.to=y.name->x.seq=y.seq->(⟨f.name,x.epoch⟩:At)∈X
theorem zOy (h:z44 st X y=false):ED st X y:=λf a b hb=>by
 obtain⟨h1,h2,h3,rfl⟩:=z6y.1 hb;have hF:Z4 st y.name=some f:=by rw[h1];exact(z7i Folder.name st.folders f.name f).2 ⟨a,rfl⟩
 unfold z44 at h;rw[hF] at h;simp only[Δ h2,Δ h3,Bool.true_and,Bool.not_eq_false'] at h;rw[<-h1];exact z5i.1 h
theorem zRd (h:z44 st X y=true):(y,(⟨y.name,y.seq-1⟩:At))∈z2l st/\(⟨y.name,y.seq-1⟩:At)∉X/\2<=y.seq/\∃g∈st.folders,y.seq<=g.epochs:=by
 unfold z44 at h
 cases hF:Z4 st y.name with
 | none=>rw[hF] at h;cases h
 | some g=>
  rw[hF] at h;simp only[qBqx,decide_eq_true_eq,Bool.not_eq_true'] at h;obtain⟨⟨a,b⟩,c⟩:=h;have d:=z2v hF;refine⟨z4r.2 ⟨g,((z7i Folder.name st.folders y.name g).1 hF).1,.inl (z6y.2 ⟨d.symm,a,b,by rw[d]⟩)⟩,λe=>?_,a,g,z30 hF,b⟩;rw[z5i.2 e] at c;cases c
theorem ED.after (d:(y,(⟨y.name,y.seq-1⟩:At))∈z2l st):ED st (X++[⟨y.name,y.seq-1⟩]) y:=λf e c b=>by
 obtain⟨a,_,_,rfl⟩:=z6y.1 b;rw[<-a];exact mem_append_right _ sm
theorem ED.more {c:At} (h:ED st X y):ED st (X++[c]) y:=λf a b hb=>mem_append_left _ (h f a b hb)
theorem LD.more {c:At} (h:LD st X y k):LD st (X++[c]) y k:=λa f b h1 h2 h3 h4=>mem_append_left _ (h a f b h1 h2 h3 h4)
theorem LD.zero:LD st X y 0:=λc f a b=>om
theorem LD.skip (h:LD st X y k) (c:st.folders[k]? =some f) (hn:z0s st f.name≠(k:Int)):LD st X y (k+1):=λa g b h1 h2 h3 h4=>by
 rcases Nat.lt_or_ge a k with h5|h5
 ·exact h a g b h5 h2 h3 h4
 ·obtain rfl:a=k:=om
  obtain rfl:=zsi (h2.symm.trans c);exact absurd h3 hn
theorem LD.next (h:LD st X y k) (d:st.folders[k]? =some f) (hm:MD f X y f.links):LD st X y (k+1):=λa g b h1 h2 h3 h4=>by
 rcases Nat.lt_or_ge a k with h5|h5
 ·exact h a g b h5 h2 h3 h4
 ·obtain rfl:a=k:=om
  obtain rfl:=zsi (h2.symm.trans d);obtain⟨x,hx,c,e2,rfl⟩:=z6z.1 h4;exact hm x (by rw[qLnx];exact hx) c e2
theorem MD.zero:MD f X y 0:=λb a=>by simp at a
theorem MD.step {X':List At} {m:Nat} {x:Link} (h:MD f X y m) (hx:f.links[m]? =some x) (c:∀a∈X,a∈X') (hk:x.to=y.name->x.seq=y.seq->(⟨f.name,x.epoch⟩:At)∈X'):MD f X' y (m+1):=λa hz b e2=>by
 rw[qLtx,hx] at hz;rcases zmb hz with hz|hz
 ·exact c _ (h a hz b e2)
 ·obtain rfl:a=x:=by simpa using hz
  exact hk b e2
theorem zLf (h1:ED st X y) (h2:LD st X y st.folders):∀a,(y,a)∈z2l st->a∈X:=λa hz=>by
 obtain⟨f,b,h|h⟩:=z4r.1 hz
 ·exact h1 f b a h
 ·obtain⟨k,hk,ha⟩:=z9a.1 b;exact h2 k f a (zge hk).1 hk ha h
theorem zMj {P:Program} {b:Array Oper} {Q:Exit->Act->World->Prop} {id:Nat} {a:Act} {w:World} (hm:P.follows .mixedOrders=true)
  (h:wpAny P .any b Q b.size (Array.replicate b.size false) a w.drew):(Code.region id b true).wp P Q a w:=wp_region_any hm h
theorem mcm (h:p:=by
 go_wp2;go_roundw
 case rel=>exact⟨m+1,X3,om,gn,hqX,HYX,(HG9.below ZE (y8 zbr _)),HCX,HEX,HLX,HM2,((y8 zbr _).block _ (zI H89)).trans H89,y8 HB9 _⟩
 case measure=>exact qMx):p:=h
theorem mag (h:p:=by
 go_wp2;go_loopw [6,16] (λvo i wr=>∃(k:Nat) (X:List At),k<=st.folders/\i= .int .i64 k/\q<X/\Hid (X[q]? =some y)/\Hid (Grow 124 2 rAt (λ_=>False) wr w1 vo X)/\Hid (Cl (z2l st) (z0p L st.folders) X q)/\Hid (ED st X y)/\Hid (LD st X y k)/\bW w1 wr) (λ_ i _=>st.folders.length-(intOf i).toNat)
 case atStart=>exact⟨0,_,om,gn,hqX,HYX,HGX,HCX,HEX,LD.zero,HBX⟩
 clear hqX HYX HGX HCX HEX HBX;obtain⟨wr4,rfl⟩:=ξ wr;obtain⟨k,X2,hk,rfl,hqX,HYX,HGX,HCX,HEX,HLX,hbel2⟩:=hrel;obtain⟨A11,n11,c11,rfl,hn11⟩:=HGX.shape';clear hn11;have B4:=zh (zD HB1 hbel2);have hX2:X2.length<=2400:=by have:=HCX.len;omega
 have hz4:=hbel2.size;obtain⟨s0,s1,s2,s3⟩:=TC4 (zyA B4 HC0.o);by_cases hlk:k<st.folders
 rotate_left
 ·obtain rfl:k=st.folders:=om
  have HN:=zh (HCX.next HYX (zLf HEX HLX));go_wp2;go_roundw
  case rel=>exact⟨q+1,X2,om,gn,HGX,HN,hbel2⟩
  case measure=>exact qMx
 obtain⟨f,hf⟩:∃f,st.folders[k]? =some f:=⟨_,qLgx hlk⟩;obtain⟨bf,of,yf,hAf,hbf,hRf,hcf⟩:=SlAt.elem st_folders_s hf dc (zD HB0 B4.o);have HF:=zh hf;obtain⟨f_A2,f_c2,f_A3,f_c3,f_A4,f_c4,f_A5,f_c5,f_A6,f_c6,rfl,f_name_le,f_turn_ok,f_manifests_l,f_manifests_m,f_manifests_n,f_manifests_s,f_epochs_l,f_epochs_m,f_epochs_n,f_epochs_s,f_items_l,f_items_m,f_items_n,f_items_s,f_wraps_l,f_wraps_m,f_wraps_n,f_wraps_s,f_links_l,f_links_m,f_links_n,f_links_s⟩:=Z9 hRf;obtain⟨g0,g1,g2,g3,g4,g5,g6⟩:=TC7 hcf;rw[Nat.add_zero] at g0;subst hAf;obtain⟨w5,hw5,cw5,fw5,Bw5,qw5⟩:=zP wr4 (aF f f_A2 f_c2 f_A3 f_c3 f_A4 f_c4 f_A5 f_c5 f_A6 f_c6) 74;have H8:=zh (zbx hw5);have HB5:=zh (zD hbel2 Bw5);have HG5:=zh (HGX.below ZE Bw5);have t0:=cw5 0 _ rfl;have s0':=zy Bw5 s0;have s1':=zy Bw5 s1;have s2':=zy Bw5 s2;have s3':=zy Bw5 s3;have hki:(k:Int)<(st.folders:Int):=om
 clear hf hcf cw5 fw5 Bw5 f_manifests_s f_epochs_s f_items_s f_wraps_s;go_wp2_with fail
 clear hw5 s0 s1 s2 s3 s0' s1' s2' s3' g0 g1 g2 g3 g4 g5 g6 t0;refine zcb (z18 st f.name _ w5 _ (HST.o _ (zD HB1 HB5))) λw7 b7=>?_;have HB7:=zh (zD HB5 b7);have HG7:=zh (HG5.below ZE b7);have H87:=zh ((b7.block _ (zI H8)).trans H8);clear b7;by_cases hat:z0s st f.name=(k:Int)
 rotate_left
 ·have hne:(z0s st f.name==(k:Int))=false:=beq_eq_false_iff_ne.2 hat;have HL2:=zh (HLX.skip HF hat);obtain⟨z2,hz2⟩:=Ξ (z0s st f.name);rw[hz2] at hne⊢;clear hat hz2;go_wp2;go_roundw
  case rel=>exact⟨k+1,X2,om,gn,hqX,HYX,HG7,HCX,HEX,HL2,HB7⟩
  case measure=>exact qMx
 rw[hat];have HAT:=zh hat;clear hat hlk hz4 hX2;go_wp2;go_loopw [6,18] (λvo i wr=>∃(m:Nat) (X:List At),m<=f.links/\i= .int .i64 m/\q<X/\Hid (X[q]? =some y)/\Hid (Grow 124 2 rAt (λ_=>False) wr w1 vo X)/\Hid (Cl (z2l st) (z0p L st.folders) X q)/\Hid (ED st X y)/\Hid (LD st X y k)/\Hid (MD f X y m)/\Hid (wr.heap[wr4.heap.size]? =some (.cells (aF f f_A2 f_c2 f_A3 f_c3 f_A4 f_c4 f_A5 f_c5 f_A6 f_c6) 74 (0,0)))/\bW w1 wr) (λ_ i _=>f.links.length-(intOf i).toNat)
 case atStart=>exact⟨0,X2,om,gn,hqX,HYX,HG7,HCX,HEX,HLX,MD.zero,H87,HB7⟩
 clear hqX HYX HGX HCX HEX HLX HG5 HG7 H8 H87 HB5 HB7 hbel2 B4;obtain⟨wr5,rfl⟩:=ξ wr;obtain⟨m,X3,hm,rfl,hqX,HYX,HGX,HCX,HEX,HLX,HMX,H8,hbel2⟩:=hrel;have hX3:X3.length<=2400:=by have:=HCX.len;omega
 have hz5:=hbel2.size;obtain⟨A12,c12,hv12,hl12,hc12,hn12,hs12⟩:=Own.sl ZE HGX;subst hv12;unfold maxLen at hc12;obtain⟨p8,f8⟩:=zB H8;obtain⟨t0,_,_,_,_,_,t6⟩:=TC7 p8;clear p8;by_cases hlm:m<f.links
 rotate_left
 ·obtain rfl:m=f.links:=om
  have HL2:=zh (HLX.next HF HMX);go_wp2;go_roundw
  case rel=>exact⟨k+1,X3,om,gn,hqX,HYX,HGX,HCX,HEX,HL2,hbel2⟩
  case measure=>exact qMx
 obtain⟨x,hx⟩:∃x,f.links[m]? =some x:=⟨_,qLgx hlm⟩;obtain⟨bx,ox,yx,hAx,hbx,hRx,hcx⟩:=SlAt.elem f_links_s hx dc (zD HB0 (zD HB1 hbel2));have HX:=zh hx;obtain⟨rfl,x_epoch_ok,x_to_le,x_seq_ok⟩:=z7r hRx;obtain⟨v0,v1_,v2⟩:=TC3 hcx;rw[Nat.add_zero] at v0;subst hAx;obtain⟨w9,hw9,cw9,fw9,Bw9,qw9⟩:=zP wr5 #[x.epoch,x.to,x.seq] 151;obtain⟨bz,oz,yz,hAz,hbz,hRz,hcz⟩:=SlAt.elem hs12 HYX dc Bw9;obtain⟨hyz,_⟩:=hRz;subst hyz;obtain⟨y0,y1⟩:=TC2 hcz;rw[Nat.add_zero] at y0;subst hAz;have HG9:=zh (HGX.below ZE Bw9);have HB9:=zh (zD hbel2 Bw9);have H89:=zh ((Bw9.block _ (zI H8)).trans H8);have t0':=ψ H89 0 _ rfl;obtain⟨x0,x1,x2⟩:=TC3 cw9;have HQ9:=zh qw9;have HSL9:=zh (Own.sl ZE HG9);have hmi:(m:Int)<(f.links:Int):=om
 have hqi2:(q:Int)<(X3:Int):=om
 have HEP:=zh x_epoch_ok;clear hx hcx hcz cw9 fw9 Bw9 hlm;go_wp2_with fail
 clear hw9 v0 v1_ v2 t0 t6;by_cases hto:x.to=y.name
 rotate_left
 ·have hse:(x.to.toList==y.name.toList)=false:=YX hto;have HM2:=zh (HMX.step HX (λz h=>h) λe _=>absurd e hto);clear hto;go_quiet (fail)
  exact mcm
 have hse:(x.to.toList==y.name.toList)=true:=by rw[hto];simp
 by_cases hsq:x.seq=y.seq
 rotate_left
 ·have hne:(x.seq==y.seq)=false:=beq_eq_false_iff_ne.2 hsq;have HM2:=zh (HMX.step HX (λz h=>h) λ_ e=>absurd e hsq);clear hto hsq;go_quiet (fail)
  exact mcm
 have hne:(x.seq==y.seq)=true:=by rw[hsq];simp
 have HCN:=zh (λnq=>zHe X3 _ f.name x.epoch (w9.drewN nq) _ (HSL9.keep ZE dc (zK (y8 zbr nq))));have HED:=ζ ((y,(⟨f.name,x.epoch⟩:At))∈z2l st) (z4r.2 ⟨f,z9a.2 ⟨k,HF,HAT⟩,.inr (z6z.2 ⟨x,zmg HX,hto,hsq,rfl⟩)⟩);clear hto hsq
 cases hb:zBd X3 f.name x.epoch with
 | true=>
  have HM2:=zh (HMX.step HX (λz h=>h) λ_ _=>z5i.1 hb);rw[hb] at HCN;clear hb;go_quiet ((go_at_call 84;refine Calls.quiet_of_same (HCN.o _)))
  exact mcm
 | false=>
  have HNM:=ζ ((⟨f.name,x.epoch⟩:At)∉X3) (λhm=>by rw[z5i.2 hm] at hb;cases hb);rw[hb] at HCN;clear hb;have HM2:=zh (HMX.step (X':=X3++[⟨f.name,x.epoch⟩]) HX (λz h=>mem_append_left _ h) λ_ _=>mem_append_right _ sm);go_quiet ((go_at_call 84;refine Calls.quiet_of_same (HCN.o _)))
  generalize hw10:w9.drewN nq=w10;have B10:(bW w9 w10:Prop):=by rw[<-hw10];exact y8 zbr _
  have HG10:=zh (HG9.below ZE B10);have HB10:=zh (zD HB9 B10);have H810:=zh ((B10.block _ (zI H89)).trans H89);have t0:=ψ H810 0 _ rfl;have x0':=zy B10 x0;have hzB:w1<=w10.heap.size:=HB10.size;clear hw10 B10 x0 x1 x2 y0 y1 t0';go_wp2_with (at_builtin;go_loud (refine yZ (R:=rAt) _ _ rfl (.tmp 217) (.tmp 223) 121 rfl 124 iAt _ 2 24 underlying121 hiAt hzAt h1At h2At rfl dc ZE w1 hzB _ _ rfl HG10 _ _ rfl (by simp only[zS]) _ (by intro b hb;exact hb.elim) (show rAt _ _ _ (⟨f.name,x.epoch⟩:At) from⟨rfl,f_name_le,HEP⟩) om dc ?_);intro v16 w16 g16 gg16 go16;obtain⟨A16,n16,c16,rfl,hn16⟩:=g16.shape';have G16:=zh g16;have GG16:=zh gg16;clear hn16 g16 gg16 go16)
  go_roundw
  case rel=>exact⟨m+1,X3++[⟨f.name,x.epoch⟩],om,gn,by rw[qLax];omega,(zh (by rw[qLlx hqX];exact HYX)),G16,(zh (HCX.add (zmg HYX) HED.o HNM.o om)),(zh HEX.more),(zh HLX.more),HM2,(GG16.o.block _ (zI H810) (λe=>zDv HG10.o H810 dc e.symm)).trans H810,Below.grown HB10 GG16.o hzB λb hb=>(HG10.base_le b hb).1⟩
  case measure=>exact qMx):p:=h
theorem mcL (h:p:=by
 simp only[getElem?_toArray,getElem?_cons_succ,getElem?_cons_zero];exact rfl):p:=h
theorem mcK (h:p:=by
 refine wpAny_take (i:=12) (oi:=?_) (v:=?_) ?_ kr kr kr ?_ (Or.inl ⟨?_,?_⟩) ?_;rotate_left 2
 ·exact mcL
 ·exact λ_ _ _ h=>h
 ·rfl
 ·(intro W';go_simp;try with_reducible rfl)
 try simp only[zA]
 refine wpAny_ready (rs:=[13]) kr sm ?_;refine AllReady.cons rfl (λK hK=>?_) AllReady.nil;go_simp;refine hK _ _ ?_;clear hK K;obtain⟨w5,hw5,cw5,fw5,Bw5,qw5⟩:=zP wd #[y.name,.int .i64 (y.seq-1)] 124;have B5:Below wd wd w5.drew:=zD Bw5 zbr.drew;have HG6':=zh (HGd.below ZE B5);have HB6':=zh (zD HBd B5);have hz6':=HB6'.size;have HROW:=ζ (SlAt 2 rAt (z21 (λ_=>False) w5.drew (.slice (some ⟨by_,oy,none⟩) X c7)) w5.drew (some ⟨wd,0,none⟩) [(⟨y.name,y.seq-1⟩:At)]) (zAi [y.name,.int .i64 (y.seq-1)] ⟨qw5,λh=>h,λe=>by have h1:=(HGd.base_le _ e).2;omega⟩ rfl (λj y hj=>by rw[Nat.zero_add];exact cw5 j y (by simpa using hj)) ⟨rfl,hzy,HI⟩);clear cw5 fw5 Bw5 B5 qw5;subst hw5;refine wpAny_ready (rs:=[14]) kr sm ?_;refine AllReady.cons rfl (λK hK=>?_) AllReady.nil;refine z7v _ rfl (.tmp 145) (.tmp 158) 121 rfl 124 iAt _ 2 24 underlying121 hiAt hzAt h1At h2At rfl dc ZE w1 hz6' (.slice (some ⟨by_,oy,none⟩) X c7) X rfl HG6' _ 1 _ rfl [(⟨y.name,y.seq-1⟩:At)] rfl HROW om dc ?_;intro v6 w6' g6 gg6;refine hK _ _ ?_;clear hK K;change wpAny _ _ _ _ _ _ (Act.put _ (some 159) v6) _;have G6:=zh g6;have GG6:=zh gg6;clear g6 gg6;refine wpAny_take (i:=15) (oi:=?_) (v:=?_) ?_ kr kr kr ?_ (Or.inl ⟨?_,?_⟩) ?_;rotate_left 2
 ·exact mcL
 ·exact λ_ _ _ h=>h
 ·rfl
 ·(intro W';go_simp;try with_reducible rfl)
 try simp only[zA]
 refine wpAny_done kr ?_ _;go_wp2;go_meet
 case rel=>exact⟨G6,Below.grown HB6' GG6.o hz6' λb hb=>(HG6'.base_le b hb).1⟩):p:=h
theorem ma4 (h:p:=by
 go_wp2;go_meet
 case rel=>exact⟨by rw[HNB.o],y8 zbr _⟩):p:=h
theorem mbj (h:p:=by
 go_wp2;go_roundw
 case rel=>exact⟨m+1,om,gn,(zh (by rw[HSK.o];exact HG9.below ZE hbel4)),(hbel4.block _ (zI H89)).trans H89,zD HB9 hbel4⟩
 case measure=>exact qMx):p:=h
theorem mbA (h:p:=by
 go_wp2_with fail
 go_quiet (fail)
 go_wp2;go_roundw
 case rel=>exact⟨m+1,false,om,gn,rfl,HFB2,y8 hbel4 _⟩
 case measure=>exact qMx):p:=h
theorem mcD (h:p:=by
 rw[hb] at HCN;clear hb;go_quiet ((go_at_call 84;refine Calls.quiet_of_same (HCN.o _)))
 exact ma4):p:=h
set_option maxHeartbeats 16000000 in
theorem zOz (st:State) (bo:Small st) (u:Nm) (hu:u.size<=1000) (be:List Value) (w:World) (S:Nat->Prop) (h:Z5 S w be st):Calls prog 50 #[.agg be.toArray,u] w λe w'=>(∃(v:Value) (L:List At),e= .returned v/\Sl 2 rAt (λ_=>True) w' v L/\(∀s n,(⟨s,n⟩:At)∈L↔z8v st u s n)/\L.length<=2400)/\bW w w':=by
 have a9:=zh (zM h (show Kept S (λz=>z<w.heap.size) w w from λb _ cc=>⟨cc,rfl⟩));have o:=zh bo;have bP:=zh hu;clear bo hu;replace h:=a9.o;obtain⟨aO,aR,aP,aT,aQ,aU,rfl,dK,dL,dM,dN,ct,dE,dF,dG,cs,dH,dI,dJ,st_folders_s⟩:=ZF h;obtain⟨bs,ck,ay,bU,a2,dC⟩:=zP w (aS st aO aR aP aT aQ aU) 34;have HB0:=zh a2;have HC0:=zh ay;have HST:=zh λc (aH:(bW bs c:Prop))=>zM a9 (zK (zD HB0 aH))
 obtain⟨s0,s1,s2,s3⟩:=TC4 ay;clear ay bU a2 ct cs;obtain⟨iAt,hiAt,hzAt,h1At,h2At⟩:=info_parts (show(prog.info? 124).map (λi=>(i.zero,i.size,i.bytes))=some (some (.agg #[.string ⟨#[]⟩,.int .i64 0]),2,24) from kr);go_enter func50,ntmps50
 go_wp2_with fail
 clear ck s0 s1 s2 s3;refine zcm (zMf st o u bP _ bs _ (HST.o _ zbr)) ?_;rintro e w1 ⟨⟨dO,L,rfl,bn,bi,b5⟩,bc⟩;have bM:=zh bn;have bL:=zh bi;have HB1:=zh bc;have bF:=zh o.few8;clear bn bi b5 bc;go_wp2;go_loopw [6,7] (λvo i wr=>∃(k:Nat),k<=st.folders.length/\i= .int .i64 k/\Hid (Grow 124 2 rAt (λ_=>False) wr w1.heap.size vo (z0p L (st.folders.take k)))/\bW w1 wr) (λ_ i _=>st.folders.length-(intOf i).toNat)
 case atStart=>exact⟨0,om,gn,Grow.nil,Below.refl _ _⟩
 obtain⟨k,hk,rfl,a,d⟩:=hrel;have g:=zh (zD HB1 d);obtain⟨bw,cn,bS,rfl,cd⟩:=a.shape';clear cd;have V:=d.size;by_cases H:k<st.folders.length
 ·obtain⟨f,hf⟩:∃f,st.folders[k]? =some f:=⟨_,qLgx H⟩;obtain⟨bf,of,yf,hAf,hbf,hRf,hcf⟩:=SlAt.elem st_folders_s hf dc (zD HB0 g.out);have HF:=zh hf;have a7:=zh (zmg hf);have bH:=zh hRf;obtain⟨f_A2,f_c2,f_A3,f_c3,f_A4,f_c4,f_A5,f_c5,f_A6,f_c6,rfl,f_name_le,f_turn_ok,f_manifests_l,f_manifests_m,f_manifests_n,f_manifests_s,f_epochs_l,f_epochs_m,f_epochs_n,f_epochs_s,f_items_l,f_items_m,f_items_n,f_items_s,f_wraps_l,f_wraps_m,f_wraps_n,f_wraps_s,f_links_l,f_links_m,f_links_n,f_links_s⟩:=Z9 hRf;obtain⟨g0,g1,g2,g3,g4,g5,g6⟩:=TC7 hcf;rw[Nat.add_zero] at g0;subst hAf;obtain⟨s0,s1,s2,s3⟩:=TC4 (zyA g HC0.o);obtain⟨cy,bp,bg,bV,r,dD⟩:=zP wr (aF f f_A2 f_c2 f_A3 f_c3 f_A4 f_c4 f_A5 f_c5 f_A6 f_c6) 74;have H8:=zh (zbx bp);have ap:=zh (zD d r);have a8:=zh (a.below ZE r);have t0:=bg 0 _ rfl;have s0':=zy r s0;have s1':=zy r s1;have s2':=zy r s2;have s3':=zy r s3;have hki:(k:Int)<(st.folders.length:Int):=om
  clear hf hcf bg bV r f_manifests_s f_epochs_s f_items_s f_links_s;go_wp2_with fail
  clear bp s0 s1 s2 s3 s0' s1' s2' s3' g0 g1 g2 g3 g4 g5 g6 t0;refine zcb (z18 st f.name _ cy _ (HST.o _ (zD HB1 ap))) λbt ag=>?_;have aa:=zh (zD ap ag);have ar:=zh (a8.below ZE ag);have a3:=zh ((ag.block _ (zI H8)).trans H8);have cl:w1.heap.size<=bt.heap.size:=aa.size;clear ag;by_cases hat:z0s st f.name=(k:Int)
  rotate_left
  ·have hne:(z0s st f.name==(k:Int))=false:=beq_eq_false_iff_ne.2 hat;have aw:=zh (zMh (S:=L) HF hat);obtain⟨z,J⟩:∃z,z0s st f.name=z:=⟨_,rfl⟩;rw[J] at hne⊢;clear hat J;have bI:=zh (show Grow 124 2 rAt (λ_=>False) bt w1.heap.size (.slice bw cn bS) (z0p L (st.folders.take (k+1))) by rw[aw.o];exact ar);go_wp2;go_roundw
   case rel=>exact⟨k+1,om,gn,bI,aa⟩
   case measure=>exact qMx
  rw[hat];have aw:=zh (zMg (S:=L) HF hat);clear hat H;go_wp2;go_loopw [6,9] (λvo i M=>∃(j:Nat),j<=f.wraps.length/\i= .int .i64 j/\Hid (Grow 124 2 rAt (λ_=>False) M w1.heap.size vo (z0p L (st.folders.take k)++z3f L f (f.wraps.take j)))/\Hid (M.heap[wr.heap.size]? =some (.cells (aF f f_A2 f_c2 f_A3 f_c3 f_A4 f_c4 f_A5 f_c5 f_A6 f_c6) 74 (0,0)))/\bW w1 M) (λ_ i _=>f.wraps.length-(intOf i).toNat)
  case atStart=>exact⟨0,om,gn,(zh (by simpa[z3f,ZP] using ar.o)),a3,aa⟩
  clear a a8 ar a3 ap aa V cl d;obtain⟨M,rfl⟩:∃q,q=wr:=⟨_,rfl⟩;obtain⟨j,hj,rfl,a,H8,d⟩:=hrel;have V:=d.size;obtain⟨bA,co,bT,rfl,ce⟩:=a.shape';clear ce;obtain⟨p8,f8⟩:=zB H8;obtain⟨t0,aV,aW,aX,aY,W,t6⟩:=TC7 p8;clear p8;by_cases bk:j<f.wraps.length
  rotate_left
  ·obtain rfl:j=f.wraps.length:=om
   have bJ:=zh (show Grow 124 2 rAt (λ_=>False) M w1.heap.size (.slice bA co bT) (z0p L (st.folders.take (k+1))) by rw[aw.o];have:=a.o;rwa [qLnx] at this);clear a;go_wp2;go_roundw
   case rel=>exact⟨k+1,om,gn,bJ,d⟩
   case measure=>exact qMx
  as_aux_lemma=>
   obtain⟨x,hx⟩:∃x,f.wraps[j]? =some x:=⟨_,qLgx bk⟩;obtain⟨cF,cM,cj,_,_,_,bh⟩:Sl 3 yL _ w (.slice f_A5 f.wraps.length f_c5) f.wraps:=⟨_,_,rfl,f_wraps_l,f_wraps_m,f_wraps_n,f_wraps_s⟩;cases cj
   obtain⟨bx,ox,yx,hAx,hbx,hRx,hcx⟩:=SlAt.elem bh hx dc (zD HB0 (zD HB1 d));have HX:=zh hx;obtain⟨rfl,dP,x_epoch_ok⟩:=z4g hRx;obtain⟨bq,cu,br⟩:=TC3 hcx;rw[Nat.add_zero] at bq;subst hAx;obtain⟨al,aL⟩:∃al,x.seed=al:=⟨_,rfl⟩;rw[aL] at br;have ba:=zh aL;have cb:(j:Int)<(f.wraps.length:Int):=om
   obtain⟨w9,hw9,cw9,fw9,Bw9,qw9⟩:=zP M #[x.name,x.epoch,al] 149;have a6:=zh cw9;have HQ9:=zh qw9;have HG9:=zh (a.below ZE Bw9);have HB9:=zh (zD d Bw9);have H89:=zh ((Bw9.block _ (zI H8)).trans H8);have dA:w1.heap.size<=w9.heap.size:=HB9.size;have bE:=zh (show zDw (f.wraps.take 0) x.name true from by simp[zDw]);clear hx hcx cw9 fw9 Bw9 aL bk;go_wp2;clear hw9 bq cu br t0 aV aW aX aY W t6;go_loopw [11,12] (λcv cw wr4=>∃(m:Nat) (P:Bool),m<=j/\cw= .int .i64 m/\cv= .bool P/\Hid (zDw (f.wraps.take m) x.name P)/\bW w9 wr4) (λ_ i _=>j-(intOf i).toNat)
   case atStart=>exact⟨0,true,om,gn,rfl,bE,Below.refl _ _⟩
   obtain⟨C,rfl⟩:∃q,q=wr:=⟨_,rfl⟩;obtain⟨m,P,hm,rfl,rfl,t,hbel4⟩:=hrel;have bB:=zh ((hbel4.block _ (zI H89)).trans H89);obtain⟨p8,f8⟩:=zB bB;obtain⟨t0,_,_,_,_,W⟩:=TC6 p8;obtain⟨x0,x1,x2⟩:=TC3 (zyA hbel4 a6.o);by_cases hlm:m<j
   ·obtain⟨y,B⟩:∃y,f.wraps[m]? =some y:=⟨_,qLgx om⟩;have ax:=zh (show(f.wraps.take (m+1)).map Wrap.name=(f.wraps.take m).map Wrap.name++[y.name] by rw[qLtx,B,List.map_append];rfl);obtain⟨cJ,oy,cC,aB,b8,aG,U⟩:=SlAt.elem bh B dc (zD HB0 (zD HB1 (zD HB9 hbel4)));obtain⟨rfl,bv,dQ⟩:=z4g aG;have v0:=U 0 _ rfl;rw[Nat.add_zero] at v0;cases aB
    have hmi:(m:Int)<(j:Int):=om
    have dv:(m:Int)<(f.wraps.length:Int):=om
    clear B U p8 x1 x2
    cases P with
    | false=>
     have HFB2:=zh (show zDw (f.wraps.take (m+1)) x.name false by
      refine⟨λh=>(by cases h),λh=>absurd (t.2 λG=>h ?_) dc⟩;rw[ax.o];exact List.mem_append_left _ G)
     exact mbA
    | true=>
     by_cases I:y.name=x.name
     ·have hse:(y.name.toList==x.name.toList)=true:=by rw[I];simp
      have HFB2:=zh (show zDw (f.wraps.take (m+1)) x.name false by
       refine⟨λh=>(by cases h),λh=>absurd ?_ h⟩;rw[ax.o];exact List.mem_append_right _ (by rw[I];simp))
      clear I;exact mbA
     have hse:(y.name.toList==x.name.toList)=false:=YX I;have HFB2:=zh (show zDw (f.wraps.take (m+1)) x.name true by
      refine⟨λ_ h=>?_,λ_=>rfl⟩;rw[ax.o] at h;rcases zmb h with h|h
      ·exact t.1 rfl h
      ·exact I (zml h).symm)
     clear I;go_wp2_with fail
     go_quiet (fail)
     go_wp2;go_roundw
     case rel=>exact⟨m+1,true,om,gn,rfl,HFB2,y8 hbel4 _⟩
     case measure=>exact qMx
   obtain rfl:m=j:=om
   have dj:(z0p L (st.folders.take k)++z3f L f (f.wraps.take m)).length<=2000:=by
    have h1:=zGo o L (st.folders.take k) (List.take_sublist _ _);have G:=zGn L f (f.wraps.take m);have ai:=zF0 f.wraps m;have dh:=(z5x o a7).1;rw[qLax];omega
   have bG:=zh (show f.epochs.length<=140737488355328 from by have:=(z5x o a7).2.1;omega);clear p8
   cases P with
   | false=>
    have HSK:=zh (zEq (S:=L) (f:=f) HX (.inl (Decidable.not_not.1 λh=>absurd (t.2 h) dc)));clear t;exact mbj
   | true=>
    have HCN:=zh (zPy L _ x.name C _ (bM.keep z0r dc (zK (zD HB9 hbel4))))
    cases A:zF2 L x.name with
    | false=>
     have HNM:=zh (show x.name∉L from λhm=>by rw[z3x.2 hm] at A;cases A);rw[A] at HCN;clear A;have HSK:=zh (zEq (S:=L) (f:=f) HX (.inr HNM));clear t HNM;go_wp2_with fail
     refine zcb HCN λam aN=>?_;subst aN;exact mbj
    | true=>
     have O:=zh (zMi (f:=f) HX (t.1 rfl) (z3x.1 A));rw[A] at HCN;clear A t;go_wp2_with fail
     refine zcb HCN λam aN=>?_;subst aN;have N:(bW w9 am:Prop):=hbel4;have HG7:=zh (HG9.below ZE N);have HB7:=zh (zD HB9 N);have H87:=zh ((N.block _ (zI H89)).trans H89);have cm:w1.heap.size<=am.heap.size:=HB7.size;obtain⟨_,cz,cA⟩:=TC3 (zyA N a6.o);clear N x0 x1 x2 t0 W f8;obtain⟨p8,f8⟩:=zB H87;obtain⟨t0,aV,aW,aX,aY,W,t6⟩:=TC7 p8;clear p8
     cases al with
     | false=>
      have ae:=zh (show z3r f.epochs x=x.epoch from by rw[z3r,ba.o];rfl);have ac:=zh x_epoch_ok;rw[ae.o] at O;have hzB:=cm;go_wp2_with (at_builtin;go_loud (refine yZ (R:=rAt) _ _ rfl (.tmp 84) (.tmp 89) 121 rfl 124 iAt _ 2 24 underlying121 hiAt hzAt h1At h2At rfl dc ZE w1.heap.size hzB _ _ rfl HG7 _ _ rfl (by simp only[zS]) _ (by intro b hb;exact hb.elim) (show rAt _ _ _ (⟨f.name,x.epoch⟩:At) from⟨rfl,f_name_le,ac⟩) om dc ?_);intro v16 w16 g16 gg16 go16;obtain⟨A16,n16,c16,rfl,hn16⟩:=g16.shape';have G16:=zh g16;have GG16:=zh gg16;clear hn16 g16 gg16 go16)
      go_roundw
      case rel=>exact⟨m+1,om,gn,(zh (by rw[O.o,<-List.append_assoc];exact G16.out)),(GG16.out.block _ (zI H87) (λe=>zDv HG7.o H87 dc e.symm)).trans H87,Below.grown HB7 GG16.out hzB λb hb=>(HG7.base_le b hb).1⟩
      case measure=>exact qMx
     | true=>
      have ae:=zh (show z3r f.epochs x=z03 f.epochs x.epoch from by rw[z3r,ba.o];rfl);have ac:=zh (zOx bG x_epoch_ok);rw[ae.o] at O;go_wp2_with fail
      clear t0 aV aW aX aY W t6 cz cA f8;refine zcb (zLw f x.epoch x_epoch_ok _ am _ (zV bH (zK (zD HB0 (zD HB1 HB7))))) λcx af=>?_;have aq:=zh (HG7.below ZE af);have a4:=zh (zD HB7 af);have Z:=zh ((af.block _ (zI H87)).trans H87);have hzB:w1.heap.size<=cx.heap.size:=a4.size;clear af;obtain⟨p8,f8⟩:=zB Z;have t0:=p8 0 _ rfl;clear p8;obtain⟨aZ,hto⟩:∃aZ,z03 f.epochs x.epoch=aZ:=⟨_,rfl⟩;rw[hto] at O ac⊢;clear hto ae;go_wp2_with (at_builtin;go_loud (refine yZ (R:=rAt) _ _ rfl (.tmp 84) (.tmp 89) 121 rfl 124 iAt _ 2 24 underlying121 hiAt hzAt h1At h2At rfl dc ZE w1.heap.size hzB _ _ rfl aq _ _ rfl (by simp only[zS]) _ (by intro b hb;exact hb.elim) (show rAt _ _ _ (⟨f.name,aZ⟩:At) from⟨rfl,f_name_le,ac⟩) om dc ?_);intro v16 w16 g16 gg16 go16;obtain⟨A16,n16,c16,rfl,hn16⟩:=g16.shape';have G16:=zh g16;have GG16:=zh gg16;clear hn16 g16 gg16 go16)
      go_roundw
      case rel=>exact⟨m+1,om,gn,(zh (by rw[O.o,<-List.append_assoc];exact G16.out)),(GG16.out.block _ (zI Z) (λe=>zDv aq.o Z dc e.symm)).trans Z,Below.grown a4 GG16.out hzB λb hb=>(aq.base_le b hb).1⟩
      case measure=>exact qMx
 obtain rfl:k=st.folders.length:=om
 rw[qLnx] at a;have dq:st.folders.length<=64:=bF;have dk:(z0p L st.folders).length<=1000:=zGo o L st.folders (List.Sublist.refl _);have di:(z2l st).length<=1000:=zOw o;have l:=zh (Cl.start (z2l st) (z0p L st.folders));have s3:=zy g (HC0.o 3 _ rfl);clear H hk g V;go_wp2;clear s3;go_loopw [6,14] (λvo i wr=>∃(q:Nat) (X:List At),q<=X.length/\i= .int .i64 q/\Hid (Grow 124 2 rAt (λ_=>False) wr w1.heap.size vo X)/\Hid (Cl (z2l st) (z0p L st.folders) X q)/\bW w1 wr) (λ_ i _=>3000-(intOf i).toNat)
 case atStart=>exact⟨0,_,om,gn,a,l,d⟩
 clear a l d;obtain⟨C,rfl⟩:∃q,q=wr:=⟨_,rfl⟩;obtain⟨q,X,bl,rfl,a,l,d⟩:=hrel;have g:=zh (zD HB1 d);have aI:X.length<=2400:=by have:=l.len;omega
 have V:=d.size;obtain⟨cE,c7,ci,dt,b9,dx,aK⟩:=Own.sl ZE a;subst ci;unfold maxLen at b9;by_cases H:q<X.length
 rotate_left
 ·obtain rfl:q=X.length:=om
  have bC:=zh (l.all (znl _));have bO:=zh (Own.sl ZE a);have bD:=zh (zD HB0 g.out);have bK:=zh (show ∀s n,(⟨s,n⟩:At)∈X↔z8v st u s n from λs n=>(bC.o _).trans (zRc bL s n));clear a aK;go_wp2;go_ret;exact⟨⟨_,X,rfl,bO,bK,aI⟩,bD⟩
 obtain⟨y,B⟩:∃y,X[q]? =some y:=⟨_,qLgx H⟩;obtain⟨by_,oy,cC,aB,b8,aG,U⟩:=SlAt.elem aK B dc (Below.refl C.heap.size C);obtain⟨rfl,bv,cB⟩:=z48 aG;obtain⟨y0,y1⟩:=TC2 U;rw[Nat.add_zero] at y0;subst aB;have F:=zh B;have bm:(q:Int)<(X.length:Int):=om
 obtain⟨s0,s1,s2,s3⟩:=TC4 (zyA g HC0.o);have ad:=zh (show ∀c:World,((bW C c:Prop))->(λc:World=>(cL c w.heap.size 0 st.turn/\cL c w.heap.size 1 (.slice aO st.users.length aR)/\cL c w.heap.size 2 (.slice aP st.deposits.length aT)/\cL c w.heap.size 3 (.slice aQ st.folders.length aU))/\cL c by_ (oy+q*2) y.name) c from λc aH=>by
  have q:=λ(b cp:Nat) v (h:(cL C b cp v:Prop))=>zy aH h
  exact⟨⟨q _ _ _ s0,q _ _ _ s1,q _ _ _ s2,q _ _ _ s3⟩,q _ _ _ y0⟩)
 have bQ:=zh y1;clear B U s0 s1 s2 s3 y0 y1;go_wp2;have av:=ad.o;refine wp_region_held_drew (S:=(λc:World=>(cL c w.heap.size 0 st.turn/\cL c w.heap.size 1 (.slice aO st.users.length aR)/\cL c w.heap.size 2 (.slice aP st.deposits.length aT)/\cL c w.heap.size 3 (.slice aQ st.folders.length aU))/\cL c by_ (oy+q*2) y.name)) kr (av _ zbr.drew) (λT=>?_);refine zi 0 ?_;iterate 6 (refine zt T ?_;simp only[zA])
 refine zo ?_;refine zr 6 λK hK=>?_
 go_simp;go_at_call 21
 refine zcb (z18 st y.name _ _ _ (HST.o _ (zD g.out zbr.drew))) λa0 bd=>?_;have Y:(bW C a0:Prop):=zD zbr.drew bd;clear bd T;refine hK.out _ _ (av _ Y) (λT=>?_);clear hK K;refine zT 7 T ?_;simp only[zA];refine wpAnyH_done kr ?_ _;clear T av;have D:=zh Y;have au:=zh (a.below ZE Y);clear Y;obtain⟨z,J⟩:∃z,z0s st y.name=z:=⟨_,rfl⟩;rw[J];have bb:=zh J;have bR:=zh (zmg F);have hzy:y.name.size<=140737488355328:=bv;clear J H;go_upto_region 26 with fail
 go_cut [144] from 91 to 224 (λs an=>s= .bool (z44 st X y)/\bW a0 an)
 case first=>
  as_aux_lemma=>
   have s3:=(ad.o _ D).1.2.2.2;have y0:=(ad.o _ D).2;have y1:=zy D bQ
   cases hF:Z4 st y.name with
   | none=>
    obtain rfl:z= -1:=bb.symm.trans (z6r hF);have HNB:=zh (show z44 st X y=false by unfold z44;rw[hF]);clear hF;go_quiet (fail)
    exact ma4
   | some Q=>
    obtain⟨j,hj,aj⟩:=z2w hF;obtain rfl:z=(j:Int):=bb.symm.trans hj;have dp:=(zge aj).1;have cb:(j:Int)<(st.folders.length:Int):=om
    have dr:decide ((0:Int)<=(j:Int))=true:=decide_eq_true om;obtain⟨cH,dB,dR,b4,dl,b6,bj⟩:=SlAt.elem st_folders_s aj dc (zD HB0 (zD g.out D));obtain⟨cN,cS,cO,cT,cP,cU,cQ,cV,cR,cX,rfl,db,dd,c8,c9,da,b0,cY,cZ,c0,bX,c1,c2,c3,bY,de,df,dg,b1,c4,c5,c6,bZ⟩:=Z9 b6;have g3:=bj 3 _ rfl;subst b4;have dn:Q.epochs.length<=1000:=(z5x o (zmg aj)).2.1;have ab:=zh hF;clear bj aj hF hj b0 bX bY b1 bZ;by_cases G:2<=y.seq
    rotate_left
    ·have ah:decide ((2:Int)<=y.seq)=false:=decide_eq_false G;have HNB:=zh (show z44 st X y=false by unfold z44;rw[ab.o];simp only[ah];rfl);clear G;go_quiet (fail)
     exact ma4
    have ah:decide ((2:Int)<=y.seq)=true:=decide_eq_true G;by_cases ai:y.seq<=Q.epochs.length
    rotate_left
    ·have az:decide (y.seq<=(Q.epochs.length:Int))=false:=decide_eq_false ai;have HNB:=zh (show z44 st X y=false by unfold z44;rw[ab.o];simp only[ah,az];rfl);clear ai;go_quiet (fail)
     exact ma4
    have az:decide (y.seq<=(Q.epochs.length:Int))=true:=decide_eq_true ai;have bN:=zh (Own.sl ZE au);have HCN:=zh (λnq=>zHe X _ y.name (y.seq-1) (a0.drewN nq) _ (bN.keep ZE dc (zK (y8 zbr nq))))
    cases hb:zBd X y.name (y.seq-1) with
    | true=>
     have HNB:=zh (show z44 st X y=false by unfold z44;rw[ab.o];simp[hb]);exact mcD
    | false=>
     have HNB:=zh (show z44 st X y=true by unfold z44;rw[ab.o];simp only[ah,az,hb];rfl);exact mcD
 obtain⟨rfl,aJ⟩:=hcut;obtain⟨wd,rfl⟩:∃wd:World,wd=wc:=⟨_,rfl⟩;have HGd:=zh (au.below ZE aJ);have HBd:=zh (zD d (zD D aJ));clear aJ ad D au a g d V aK
 cases ak:z44 st X y with
 | false=>
  as_aux_lemma=>
   have HEX:=zh (zOy ak);have HYX:=F;have HGX:=HGd;have HCX:=l;have HBX:=HBd;have hqX:q<X.length:=om
   have cr:=zy (zD HB1 HBd) (HC0.o 3 _ rfl);clear ak HGd l HBd F bm aI bl;clear cr;exact mag
 | true=>
  as_aux_lemma=>
   have E:=zh (zRd ak);obtain⟨cD,cK,cg,ds,dm,dw,cf⟩:=Own.sl ZE HGd;cases cg
   obtain⟨bz,oz,yz,hAz,hbz,hRz,hcz⟩:=SlAt.elem cf F dc (Below.refl wd.heap.size wd);obtain⟨hyz,_,_⟩:=hRz;subst hyz;obtain⟨y0,y1⟩:=TC2 hcz;rw[Nat.add_zero] at y0;cases hAz
   have b2:2<=y.seq:=E.2.2.1;have b3:y.seq<=1000:=by
    obtain⟨Q,ca,du⟩:=E.2.2.2;have:=(z5x o ca).2.1;omega
   have HI:=zh (show I64 (y.seq-1) from by have:=cB;unfold I64 at this⊢;omega);clear ak hcz;go_upto_region 27 with fail
   go_cut [6] from 91 to 224 (λcq an=>Hid (Grow 124 2 rAt (λ_=>False) an w1.heap.size cq (X++[(⟨y.name,y.seq-1⟩:At)]))/\bW w1 an)
   case first=>
    have dy:IntKind.i64.wrap (y.seq-1)=y.seq-1:=IntWalk.i64_in _ om;have HB5:=zh (zD HBd (Below.refl wd.heap.size wd).drew);have HG5:=zh (HGd.drew ZE);have hz5:=HB5.size;have dz:w1.heap.size<=wd.drew.heap.size:=hz5;refine zMj kr ?_;refine wpAny_take (i:=0) (oi:=?_) (v:=?_) ?_ kr kr kr ?_ (Or.inl ⟨?_,?_⟩) ?_;rotate_left 2
    ·simp only[List.getElem?_toArray,List.getElem?_cons_zero];exact rfl
    ·exact λ_ _ _ h=>h
    ·rfl
    ·(intro W';go_simp;try with_reducible rfl)
    try simp only[zA]
    refine wpAny_take (i:=1) (oi:=?_) (v:=?_) ?_ kr kr kr ?_ (Or.inl ⟨?_,?_⟩) ?_;rotate_left 2
    ·exact mcL
    ·exact λ_ _ _ h=>h
    ·rfl
    ·(intro W';go_simp;try with_reducible rfl)
    try simp only[zA]
    refine wpAny_take (i:=2) (oi:=?_) (v:=?_) ?_ kr kr kr ?_ (Or.inl ⟨?_,?_⟩) ?_;rotate_left 2
    ·exact mcL
    ·exact λ_ _ _ h=>h
    ·rfl
    ·(intro W';go_simp;try with_reducible rfl)
    try simp only[zA]
    refine wpAny_take (i:=3) (oi:=?_) (v:=?_) ?_ kr kr kr ?_ (Or.inl ⟨?_,?_⟩) ?_;rotate_left 2
    ·exact mcL
    ·exact λ_ _ _ h=>h
    ·rfl
    ·(intro W';go_simp;try with_reducible rfl)
    try simp only[zA]
    refine wpAny_take (i:=4) (oi:=?_) (v:=?_) ?_ kr kr kr ?_ (Or.inl ⟨?_,?_⟩) ?_;rotate_left 2
    ·exact mcL
    ·exact λ_ _ _ h=>h
    ·rfl
    ·(intro W';go_simp;try with_reducible rfl)
    try simp only[zA]
    refine wpAny_take (i:=6) (oi:=?_) (v:=?_) ?_ kr kr kr ?_ (Or.inl ⟨?_,?_⟩) ?_;rotate_left 2
    ·exact mcL
    ·exact λ_ _ _ h=>h
    ·rfl
    ·(intro W';go_simp;try with_reducible rfl)
    try simp only[zA]
    refine wpAny_take (i:=7) (oi:=?_) (v:=?_) ?_ kr kr kr ?_ (Or.inl ⟨?_,?_⟩) ?_;rotate_left 2
    ·exact mcL
    ·exact λ_ _ _ h=>h
    ·rfl
    ·(intro W';go_simp;try with_reducible rfl)
    try simp only[zA]
    refine wpAny_take (i:=8) (oi:=?_) (v:=?_) ?_ kr kr kr ?_ (Or.inl ⟨?_,?_⟩) ?_;rotate_left 2
    ·exact mcL
    ·exact λ_ _ _ h=>h
    ·rfl
    ·(intro W';go_simp;try with_reducible rfl)
    try simp only[zA]
    refine wpAny_take (i:=9) (oi:=?_) (v:=?_) ?_ kr kr kr ?_ (Or.inl ⟨?_,?_⟩) ?_;rotate_left 2
    ·exact mcL
    ·exact λ_ _ _ h=>h
    ·rfl
    ·(intro W';go_simp;try with_reducible rfl)
    try simp only[zA]
    refine wpAny_ready (rs:=[5,10]) kr sm ?_;refine AllReady.cons rfl (λK hK=>?_) (AllReady.cons rfl (λK hK=>?_) AllReady.nil)
    ·go_simp;refine hK _ _ ?_;clear hK K;refine wpAny_ready (rs:=[10]) kr sm ?_;refine AllReady.cons rfl (λK hK=>?_) AllReady.nil;go_simp;refine hK _ _ ?_;clear hK K;refine wpAny_take (i:=11) (oi:=?_) (v:=?_) ?_ kr kr kr ?_ (Or.inl ⟨?_,?_⟩) ?_;rotate_left 2
     ·exact mcL
     ·exact λ_ _ _ h=>h
     ·rfl
     ·(intro W';go_simp;try with_reducible rfl)
     try simp only[zA]
     exact mcK
    go_simp;refine hK _ _ ?_;clear hK K;refine wpAny_take (i:=11) (oi:=?_) (v:=?_) ?_ kr kr kr ?_ (Or.inl ⟨?_,?_⟩) ?_;rotate_left 2
    ·exact mcL
    ·exact λ_ _ _ h=>h
    ·rfl
    ·(intro W';go_simp;try with_reducible rfl)
    try simp only[zA]
    refine wpAny_ready (rs:=[5]) kr sm ?_;refine AllReady.cons rfl (λK hK=>?_) AllReady.nil;go_simp;refine hK _ _ ?_;clear hK K;exact mcK
   case rest=>
   obtain⟨ao,a1⟩:=hcut;obtain⟨bu,rfl⟩:∃bu:World,bu=wc:=⟨_,rfl⟩;have a5:=zh a1;obtain⟨A16,n16,c16,rfl,hn16⟩:=ao.out.shape';clear hn16 a1;have HEX:=zh (show ED st (X++[(⟨y.name,y.seq-1⟩:At)]) y from ED.after E.1);have HYX:=zh (show(X++[(⟨y.name,y.seq-1⟩:At)])[q]? =some y from by rw[qLlx om];exact F);have HGX:=ao;have HCX:=zh (l.add bR E.1 E.2.1 om);have HBX:=a5;have hqX:q<(X++[(⟨y.name,y.seq-1⟩:At)]).length:=by rw[qLax];omega
   clear y0 y1 HGd HBd E l F bm aI bl ao a5 b2 b3;exact mag
end Go.Proofs.YtdggplhnfhcieaaGreatDoor
