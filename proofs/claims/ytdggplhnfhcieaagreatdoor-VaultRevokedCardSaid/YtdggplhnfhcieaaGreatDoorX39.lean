/- No condition. -/
import Derived.SevenTiedAt
import Derived.Stop.Joined
import Derived.Test.YtdggplhnfhcieaaGreatDoorCards
import Derived.Test.YtdggplhnfhcieaaGreatDoorX36
import Derived.Test.YtdggplhnfhcieaaGreatDoorX38
set_option linter.all false
set_option maxRecDepth 100000
set_option maxHeartbeats 16000000
namespace Go.Proofs.YtdggplhnfhcieaaGreatDoor
section
open Go.RowKit Go.Deep
theorem zBe {name:Nm} {role:Int}:∀{l:List Member},(⟨name,role⟩:Member)∈Ro.withR name role false l
 | []=>by simp [Ro.withR]
 | m :: r=>by
  rw [Ro.withR];cases h:Ro.leS name m.name
  ·simp only [Bool.not_false,Bool.and_false,Bool.false_eq_true,if_false,List.nil_append,Bool.or_false];exact List.mem_append_right _ zBe
  ·simp
theorem zH2 {name:Nm} {role:Int} {x:Member} (hx:x.name≠name):∀{l:List Member} {d:Bool},x∈l->x∈Ro.withR name role d l
 | [],_,h=>by cases h
 | m :: r,d,h=>by
  rw [Ro.withR];refine List.mem_append_right _ ?_;rcases List.mem_cons.1 h with rfl | h
  ·refine List.mem_append_left _ ?_;have:Ro.eqS x.name name=false:=by
    unfold Ro.eqS;simpa using fun e=>hx (toList_inj e)
   rw [this];simp
  ·exact List.mem_append_right _ (zH2 hx h)
theorem zH3 {name:Nm} {role:Int} {x:Member}:∀{l:List Member},x∈Ro.withR name role true l->x∈l
 | [],h=>by simp [Ro.withR] at h
 | m :: r,h=>by
  rw [Ro.withR] at h;simp only [Bool.not_true,Bool.false_and,Bool.false_eq_true,if_false,List.nil_append,Bool.true_or] at h;rcases zmb h with h | h
  ·split at h
   ·cases h
   ·exact List.mem_cons.2 (.inl (zml h))
  ·exact zmc _ (zH3 h)
theorem z6s (f:Folder) (m:Manifest) (who:Nm):zH (y9 f m who)={ m with seq:=(zH f).seq+1,who:=who }:=by unfold y9 zH;simp
section
variable {n:Nat} {st:State} {c:Call} {k:Nat} {f':Folder}
theorem VInv.turned {t:Int} (h:VInv n st) (ht:0<=t/\t<=n):VInv n { st with turn:=t }:=⟨h.names,h.top,h.tree,h.fol,h.us20,h.u16,h.ds20,h.few,h.sum,ht⟩
theorem zBf {f:Folder} (hL:LInv f) {m:Manifest} (who:Nm) (hc:m.cut<=(zH f).seq+1) (hm:∀x∈m.members,∃y∈(zH f).members,y.name=x.name):LInv (y9 f m who):=by
 have hnow:=z6s f m who;refine ⟨by rw [hnow];exact hc,hL.pl,hL.lk,fun e he=>?_,?_,fun e he w hw hs hwe=>?_⟩
 ·have:=hL.fr e he;rw [hnow];show e.frm<=(zH f).seq+1
  omega
 ·rw [hnow];intro x hx;obtain ⟨y,hy,e⟩:=hm x hx;obtain ⟨w,h1,h2,h3⟩:=hL.mb y hy;exact ⟨w,h1,h2.trans e,h3⟩
 obtain ⟨q,h1,h2⟩:=hL.sd e he w hw hs hwe;exact ⟨q,List.mem_append_left _ h1,h2⟩
theorem zPl (hV:VInv n st) (hR:RInv st) (hW:z1t st) (hc:CallOk c) (hk5:5<=c.kind/\c.kind<=7) (hk:k < st.folders.length) (he:yM c (zH (fo st k)).members=0):RInv
  (setF st k (y9 (if c.kind=5\/(c.kind=6/\2<=c.role) then yO (fo st k) c.other (decide (2<=c.role)) else fo st k) { zH (fo st k) with members:=Ro.withOf (zH (fo st k)).members c.other c.role,cut:=if c.kind=7 then (zH (fo st k)).seq+1 else (zH (fo st k)).cut } c.user)):=by
 have hL:=hR.fol _ (yN hk);have hwok:=z5w hW hk;have h1:=z54 hV hk;by_cases k7:c.kind=7
 ·rw [if_neg (by omega),if_pos k7,hc.rol0 k7];have hl:=zBf hL (m:={ zH (fo st k) with members:=Ro.withOf (zH (fo st k)).members c.other 0,cut:=(zH (fo st k)).seq+1 }) c.user (Int.le_refl _) (fun x hx=>⟨x,zH3 hx,rfl⟩);have hnow:=z6s (fo st k) { zH (fo st k) with members:=Ro.withOf (zH (fo st k)).members c.other 0,cut:=(zH (fo st k)).seq+1 } c.user;exact hR.writeB hV hk rfl rfl (by have e:=zBd (f':=y9 (fo st k) { zH (fo st k) with members:=Ro.withOf (zH (fo st k)).members c.other 0,cut:=(zH (fo st k)).seq+1 } c.user) hV hk rfl (by rw [hnow]) (by rw [hnow]);rw [e];exact hV.tree) (by rw [hnow]) (.inl (by rw [hnow])) hl
 have hr:=hc.role (by omega);have hwo:Ro.withOf (zH (fo st k)).members c.other c.role=Ro.withR c.other c.role false (zH (fo st k)).members:=by
  unfold Ro.withOf;rw [show (c.role==0)=false from beq_eq_false_iff_ne.2 (by omega)]
 rw [if_neg k7,hwo];have hkeep:∀m∈(zH (fo st k)).members,∃m'∈Ro.withR c.other c.role false (zH (fo st k)).members,m'.name=m.name:=fun m hm=>by
  by_cases e:m.name=c.other
  ·exact ⟨⟨c.other,c.role⟩,zBe,e.symm⟩
  ·exact ⟨m,zH2 e hm,rfl⟩
 by_cases hgv:c.kind=5\/(c.kind=6/\2<=c.role)
 rotate_left
 ·rw [if_neg hgv];have hnow:=z6s (fo st k) { zH (fo st k) with members:=Ro.withR c.other c.role false (zH (fo st k)).members,cut:=(zH (fo st k)).cut } c.user;have hoth:∃y∈(zH (fo st k)).members,y.name=c.other:=by
   unfold yM at he;rw [if_neg (by omega),if_pos (by omega)] at he;refine zJ8 fun e=>?_
   unfold Ro.changeE at he;rw [e] at he;split at he
   ·cases he
   ·rw [if_pos rfl] at he;cases he
  have hl:=zBf hL (m:={ zH (fo st k) with members:=Ro.withR c.other c.role false (zH (fo st k)).members,cut:=(zH (fo st k)).cut }) c.user (by have:=hL.ct;show (zH (fo st k)).cut<=_;omega) (fun x hx=>by
   rcases z83 hx with e | e
   ·obtain ⟨y,hy,e2⟩:=hoth;exact ⟨y,hy,e2.trans e.symm⟩
   ·exact ⟨x,e,rfl⟩)
  exact hR.writeA hV hk rfl rfl rfl (by rw [hnow]) (by rw [hnow]) (by rw [hnow]) (by rw [hnow];show (zH (fo st k)).seq<=(zH (fo st k)).seq+1;omega) (by rw [hnow];exact hkeep) hl fun w hw hwe=> .inl ⟨w,hw,rfl,hwe⟩
 rw [if_pos hgv];have hgro:=z9o hwok h1 c.other (decide (2<=c.role));have hnow:=z6s (yO (fo st k) c.other (decide (2<=c.role))) { zH (fo st k) with members:=Ro.withR c.other c.role false (zH (fo st k)).members,cut:=(zH (fo st k)).cut } c.user;have hnew:∀w∈z1m (fo st k).epochs c.other (decide (2<=c.role)) (fo st k).wraps,w=⟨c.other,(fo st k).epochs.length,decide (2<=c.role)⟩\/w∈(fo st k).wraps:=fun w hw=>z5h hw
 refine hR.writeA hV hk rfl rfl rfl (by rw [hnow]) (by rw [hnow]) (by rw [hnow]) (by rw [hnow];show (zH (fo st k)).seq<=(zH (fo st k)).seq+1;omega) (by rw [hnow];exact hkeep) ⟨?_,hL.pl,hL.lk,fun e he'=>?_,?_,fun e he' w hw hs hwe=>?_⟩ fun w hw hwe=>?_
 ·rw [hnow];have:=hL.ct;show (zH (fo st k)).cut<=(zH (fo st k)).seq+1
  omega
 ·have:=hL.fr e he';rw [hnow];show e.frm<=(zH (fo st k)).seq+1
  omega
 ·rw [hnow];intro m hm;by_cases e:m.name=c.other
  ·obtain ⟨w,a1,a2,a3⟩:=zAv (fo st k).epochs h1 c.other (decide (2<=c.role)) hwok;exact ⟨w,a1,a2.trans e.symm,a3⟩
  have hmo:m∈(zH (fo st k)).members:=(z83 hm).elim (fun e2=>absurd e2 e) id;obtain ⟨w,a1,a2,a3⟩:=hL.mb m hmo;obtain ⟨w',b1,b2,b3⟩:=zDt hgro rfl a1 a3;exact ⟨w',b1,b2.trans a2,b3⟩
 ·rcases hnew w hw with rfl | h
  ·refine ⟨_,List.mem_append_right _ (List.mem_singleton.2 rfl),?_,⟨c.other,c.role⟩,zBe,rfl,by simpa using hs⟩;have:=hL.fr e he';show e.frm<=(zH (fo st k)).seq+1
   omega
  obtain ⟨q,a1,a2⟩:=hL.sd e he' w h hs hwe;exact ⟨q,List.mem_append_left _ a1,a2⟩
 rcases hnew w hw with rfl | h
 ·exact .inr ⟨⟨c.other,c.role⟩,by rw [hnow];exact zBe,rfl⟩
 exact .inl ⟨w,h,rfl,hwe⟩
theorem zS8 (hV:VInv n st) (hR:RInv st) (hW:z1t st) (hk:Z3 st c.folder=some k):RInv (z1r st c k).1:=by
 obtain ⟨hfo,hg⟩:=z1h hk;obtain ⟨hkl,hn,_⟩:=Y9 hfo;obtain ⟨_,p1,p2,p3,_,p5,_⟩:=zEk (c:=c) hV hkl;have hp:=p1 c.user rfl;unfold z1r;dsimp only;have hs1:∃s1,(if ZJ st c.folder then YR st k c.user else st)=s1/\VInv (n+1) s1/\RInv s1/\z1t s1/\k < s1.folders.length:=by
  by_cases hs:ZJ st c.folder=true
  ·rw [if_pos hs];obtain ⟨_,b1,b2,b3,_,b5,_⟩:=zDm hV hkl c.user;have hst:¬z0y st (fo st k):=fun h=>by
    have:=(z8b hV (yN hkl) hg).2 h;rw [hn,hs] at this;cases this
   have hgro:=(zAu (z5w hW hkl) (z2b st (fo st k) c.user));have hgr:=z34 hW hkl (hgro.trans (zAt (fun x=>decide (2<=x.role)) (zH (fo st k)).members hgro.2.1 hgro.2.2));refine ⟨_,rfl,?_,zTh hV hR hW hkl hg hst c.user,hgr.wa,by unfold YR;rw [Y4];exact hkl⟩;rw [b1];exact hV.put hkl b2 (b5.mono (by omega) fun _ h=>h) (by omega) (by rw [z0c b3]) (by rw [z0c b3])
  ·rw [if_neg hs];exact ⟨st,rfl,hV.mono (by omega),hR,hW,hkl⟩
 obtain ⟨s1,e1,v1,r1,w1,l1⟩:=hs1;rw [e1] at hp⊢;have hrc:=zFw v1 r1 w1 l1;rw [hp] at hrc⊢;exact zS7 (n:=n+1) (hV.put hkl p2 (p5.mono (by omega) fun _ h=>h) (by omega) (by rw [z0c p3]) (by rw [z0c p3])) hrc (by rw [Y4];exact hkl) _ _ _
theorem zUc (hV:VInv n st) (hR:RInv st) (hW:z1t st) (hc:CallOk c) (hk:Z3 st c.folder=some k) (ho:c.other=⟨#[]⟩\/∃q,Z3 st c.other=some q)
  (h1:(zN st 4 c.other).any (fun x=>decide (x.name=c.folder))=false) (h2:(zN st 4 c.other).length+YN st 5 c.folder<=4):RInv (z6i st k c):=by
 obtain ⟨hfo,hg⟩:=z1h hk;obtain ⟨hkl,hn,_⟩:=Y9 hfo;have hF:=hV.atF hkl;obtain ⟨w1,_,w3,w4⟩:=hF.write (m:={ zH (fo st k) with parent:=c.other,cut:=(zH (fo st k)).seq+1 }) (who:=c.user) hc.o20 hF.mem (hF.mn _ (YK hF.man)).2.2 (show (zH (fo st k)).prev=[] from hF.pv _ (YK hF.man));have hp:=zOk ho;have hv1:VInv (n+1) (setF st k (y9 (fo st k) { zH (fo st k) with parent:=c.other,cut:=(zH (fo st k)).seq+1 } c.user)):=by
  refine hV.turnF hkl w3 w1 (by omega) ?_ st.turn (by have:=hV.turn;omega);rw [w3,w4,hn];show Inv (upd (Z8 st) c.folder (c.other,(zH (fo st k)).gone))
  rw [hg];have hl:=z69 hk;refine hV.tree.move hl hp (fun hm=>?_) (z8x hV.names hV.tree 5 c.folder hl (by omega)) (by rw [<-z82 hV.tree hV.top hp];exact h2);rw [(zGi hV.tree hV.top hp c.folder).2 hm] at h1;cases h1
 have hl:=zBf (hR.fol _ (yN hkl)) (m:={ zH (fo st k) with parent:=c.other,cut:=(zH (fo st k)).seq+1 }) c.user (Int.le_refl _) (fun x hx=>⟨x,hx,rfl⟩);have hr1:=hR.writeB hV hkl (f':=y9 (fo st k) { zH (fo st k) with parent:=c.other,cut:=(zH (fo st k)).seq+1 } c.user) rfl rfl hv1.tree (by rw [w4]) (.inl (by rw [w4])) hl;have hgr:=z34 hW hkl (z8a ⟨GrowF.refl _,z5w hW hkl,z54 hV hkl⟩ { zH (fo st k) with parent:=c.other,cut:=(zH (fo st k)).seq+1 } c.user);unfold z6i;dsimp only;exact (zFw hv1 hr1 hgr.wa (by rw [Y4];exact hkl)).flds rfl
theorem zRo (hV:VInv n st) (hR:RInv st) (hk:Z3 st c.folder=some k) (hh:YN st 5 c.folder<=1):
  RInv { setF st k (y9 (fo st k) { zH (fo st k) with gone:=true } c.user) with turn:=st.turn+1 }:=by
 have hv:=zAj hV hk hh;obtain ⟨hfo,_⟩:=z1h hk;obtain ⟨hkl,_,_⟩:=Y9 hfo;have hnow:=z6s (fo st k) { zH (fo st k) with gone:=true } c.user;have hL:=hR.fol _ (yN hkl);have hl:=zBf hL (m:={ zH (fo st k) with gone:=true }) c.user (by have:=hL.ct;show (zH (fo st k)).cut<=_;omega) (fun x hx=>⟨x,hx,rfl⟩);exact (hR.writeB hV hkl (f':=y9 (fo st k) { zH (fo st k) with gone:=true } c.user) rfl rfl hv.tree (by rw [hnow]) (.inr (by rw [hnow])) hl).flds rfl
end
end
section
open Go.RowKit Go.Deep
section
variable {n:Nat} {st:State} {c:Call}
theorem zN4 (h:VInv n st) (hc:CallOk c) (hk:c.kind=2) (hu:c.user∈st.users.map User.name) (h1:foI st c.folder=none) (h2:z1w st c=0) (h3:(zN st 4 c.other).length < 4) (e1:List At) (he1:zN { st with folders:=st.folders++[ZI st c] } 4 c.folder=e1):
  VInv (n+1) { st with folders:=st.folders++[{ ZI st c with epochs:=[⟨1,1,1,e1,c.user⟩] }] }:=by
 have hno:=z68.1 h1;have hne:=z3e (hc.fol (by omega) (by omega));have hp:c.other=Top\/ZC (Z8 st) c.other=true:=by
  unfold z1w at h2;by_cases ho:c.other=⟨#[]⟩
  ·exact .inl ho
  ·right;rw [if_neg (by simpa [isE] using ho)] at h2
   cases ht:Z3 st c.other with
   | none=>rw [ht] at h2;simp at h2
   | some k=>exact z69 ht
 have hch:∀{i:Nat} {s:Nm} {g:Folder} {x:At},g.name=c.folder->x∈zN { st with folders:=st.folders++[g] } i s->x.name.size<=20:=fun {i s g x} hg hx=>by
  obtain ⟨f,hf⟩:=z0d hx;rw [z4p (by rw [hg];exact hno)] at hf;split at hf
  ·rename_i e;rw [e,hg];exact hc.f20
  ·have:=(h.fol f (z08 hf)).nm;rwa [YM hf] at this
 have hnow:zH { ZI st c with epochs:=[⟨1,1,1,e1,c.user⟩] }=⟨c.folder,1,[],c.other,[⟨c.user,4⟩],0,false,c.user⟩:=rfl;have hF:FInv (n+1) (st.users.map User.name) { ZI st c with epochs:=[⟨1,1,1,e1,c.user⟩] }:=by
  refine ⟨hc.f20,by simp [ZI],by simp,by simp [ZI,z28],fun w hw=>?_,fun x hx=>by simp [ZI] at hx,?_,fun m hm=>?_,fun l hl=>by simp [ZI] at hl,fun e he=>?_,?_,?_,fun m hm=>?_⟩
  ·simp [ZI] at hw;rw [hw];exact hu
  ·rw [hnow];refine (Ro.right_iff _).2 ⟨fun m hm=>?_,by simp,by simp,by simp [Ro.own4]⟩;rw [zml hm];exact ⟨hc.user,by simp [Ro.isOf]⟩
  ·simp [ZI] at hm;subst hm;exact ⟨hc.o20,by simp,fun x hx=>by rw [zml hx];exact hu⟩
  ·rw [zml he];exact ⟨by have:=z1k { st with folders:=st.folders++[ZI st c] } 4 c.folder;rw [he1] at this;show e1.length<=20;omega,fun y hy=>hch (g:=ZI st c) rfl (by rw [he1];exact hy)⟩
  ·show (0:Int)<=1/\(1:Int)<=((n+1:Nat):Int)
   omega
  ·rw [hnow];show (0:Int)<=1/\(1:Int)<=((n+1:Nat):Int)
   omega
  ·simp [ZI] at hm;subst hm;rfl
 have hI:Inv (upd (Z8 st) c.folder (c.other,false)):=by
  refine h.tree.add ?_ hne hp ?_
  ·unfold ZC Z8;rw [hno];rfl
  ·rw [<-z82 h.tree h.top hp];omega
 have:=(h.folAdd (g:={ ZI st c with epochs:=[⟨1,1,1,e1,c.user⟩] }) hno hne hF (by unfold ZW ZI;simp) hI).turned (t:=st.turn) (by have:=h.turn;omega);exact this
theorem zRp (hV:VInv n st) (hR:RInv st) (hW:z1t st) (hc:CallOk c) (hk:c.kind=2) (hu:c.user∈st.users.map User.name) (h1:foI st c.folder=none) (h2:z1w st c=0) (h3:(zN st 4 c.other).length < 4):RInv (z1v st c):=by
 have hno:=z68.1 h1;have hne:=z3e (hc.fol (by omega) (by omega));obtain ⟨e1,he1⟩:∃e1:List At,zN { st with folders:=st.folders++[ZI st c] } 4 c.folder=e1:=⟨_,rfl⟩;have hV1:=zN4 hV hc hk hu h1 h2 h3 e1 he1;have hfind:∀s,zP { st with folders:=st.folders++[{ ZI st c with epochs:=[⟨1,1,1,e1,c.user⟩] }] } s=if s=c.folder then some { ZI st c with epochs:=[⟨1,1,1,e1,c.user⟩] } else zP st s:=fun s=>z4p (g:={ ZI st c with epochs:=[⟨1,1,1,e1,c.user⟩] }) hno s
 have hdead:ZC (Z8 st) c.folder=false:=by unfold ZC Z8;rw [hno];rfl
 have hW1:z1t { st with folders:=st.folders++[{ ZI st c with epochs:=[⟨1,1,1,e1,c.user⟩] }] }:=fun f hf=>by
  rcases zmb hf with e | e
  ·exact hW f e
  ·rw [zml e];intro w hw;simp [ZI] at hw;rw [hw];simp
 have hR1:RInv { st with folders:=st.folders++[{ ZI st c with epochs:=[⟨1,1,1,e1,c.user⟩] }] }:=by
  have hnow:zH { ZI st c with epochs:=[⟨1,1,1,e1,c.user⟩] }=⟨c.folder,1,[],c.other,[⟨c.user,4⟩],0,false,c.user⟩:=rfl;have hend:z1x { ZI st c with epochs:=[⟨1,1,1,e1,c.user⟩] } ⟨c.user,1,true⟩:=z5m (l:=[⟨1,1,1,e1,c.user⟩]) (znl _) c.user true;have hoff:∀{x:Nm},x≠c.folder->zP { st with folders:=st.folders++[{ ZI st c with epochs:=[⟨1,1,1,e1,c.user⟩] }] } x=zP st x:=fun {x} hx=>by rw [hfind,if_neg hx]
  have hlne:∀{x:Nm},ZC (Z8 st) x=true->x≠c.folder:=fun {x} hx e=>by rw [e,hdead] at hx;cases hx
  have hfs:Z8 { st with folders:=st.folders++[{ ZI st c with epochs:=[⟨1,1,1,e1,c.user⟩] }] }=upd (Z8 st) c.folder (c.other,false):=by
   funext s
   unfold Z8 upd;rw [hfind];split<;>rfl
  have hch:∀{x:Nm},x≠c.folder->ch (Z8 { st with folders:=st.folders++[{ ZI st c with epochs:=[⟨1,1,1,e1,c.user⟩] }] }) x=ch (Z8 st) x:=fun {x} hx=>by rw [hfs];exact zAz hV.tree hdead hne 5 x hx
  have hcut:∀{x:Nm},x≠c.folder->YE { st with folders:=st.folders++[{ ZI st c with epochs:=[⟨1,1,1,e1,c.user⟩] }] } x=YE st x:=fun {x} hx=>by unfold YE;rw [hoff hx]
  have hseq:∀s,z1y st s<=z1y { st with folders:=st.folders++[{ ZI st c with epochs:=[⟨1,1,1,e1,c.user⟩] }] } s:=fun s=>by
   unfold z1y;rw [hfind];split
   ·rename_i e;rw [e,hno];show (0:Int)<=1
    omega
   ·exact Int.le_refl _
  refine ⟨fun f hf=>?_,fun f hf e he y hy=>?_,fun f hf hgone hF=>?_⟩
  ·rcases zmb hf with e | e
   ·exact hR.fol f e
   ·rw [zml e];refine ⟨(show (0:Int)<=1 by decide),fun x hx=>by rw [zml hx];exact (show (1:Int)<=1 by decide),fun l hl=>by simp [ZI] at hl,fun x hx=>?_,fun m hm=>?_,fun x hx w hw _ _=>?_⟩
    ·obtain rfl:(⟨1,1,1,e1,c.user⟩:Epoch)=x:=by simpa using hx
     exact (show (1:Int)<=1 by decide)
    ·rw [hnow] at hm;rw [zml hm];exact ⟨⟨c.user,1,true⟩,by simp [ZI],rfl,hend⟩
    ·obtain rfl:(⟨1,1,1,e1,c.user⟩:Epoch)=x:=by simpa using hx
     obtain rfl:w=⟨c.user,1,true⟩:=by simpa [ZI] using hw
     exact ⟨⟨c.folder,1,[],c.other,[⟨c.user,4⟩],0,false,c.user⟩,by simp [ZI],(show (1:Int)<=1 by decide),⟨c.user,4⟩,by simp,rfl,(show (2:Int)<=4 by decide)⟩
  ·rcases zmb hf with e2 | e2
   ·exact Int.le_trans (hR.ks f e2 e he y hy) (hseq _)
   ·rw [zml e2] at he;obtain rfl:(⟨1,1,1,e1,c.user⟩:Epoch)=e:=by simpa using he
    have hy':y∈zN { st with folders:=st.folders++[ZI st c] } 4 c.folder:=by rw [he1];exact hy
    rw [z8c hy'];unfold z1y;rw [hfind,z4p (g:=ZI st c) hno];by_cases e3:y.name=c.folder
    ·rw [if_pos e3,if_pos (show y.name=(ZI st c).name from e3)];exact Int.le_refl _
    ·rw [if_neg e3,if_neg (show ¬y.name=(ZI st c).name from e3)];exact Int.le_refl _
  ·rcases zmb hf with e2 | e2
   ·have hlive:ZC (Z8 st) f.name=true:=z1g.2 ⟨f,z1f hV.names e2,hgone⟩;have hfn:=hlne hlive;have hF0:z0y st f:=by
     obtain ⟨e,a1,a2,a3⟩:=hF;rw [hch hfn] at a2;refine ⟨e,a1,a2,fun y hy=>?_⟩;rw [<-hcut (hlne (z1i (by rw [<-a2];exact List.mem_map.2 ⟨y,hy,rfl⟩)))];exact a3 y hy
    obtain ⟨j1,j2⟩:=hR.ns f e2 hgone hF0;constructor
    ·intro w hw hwe;obtain ⟨x,hx,g,hg,m,hm,e⟩:=j1 w hw hwe;exact ⟨x,by rw [hch hfn];exact hx,g,by rw [hoff (hlne (z1i hx))];exact hg,m,hm,e⟩
    ·intro l hl hle;obtain ⟨b1,G,b2,b3,b4⟩:=j2 l hl hle;have hpar:yQ (Z8 { st with folders:=st.folders++[{ ZI st c with epochs:=[⟨1,1,1,e1,c.user⟩] }] }) f.name=yQ (Z8 st) f.name:=by rw [hfs,z4r,if_neg hfn]
     have hpn:yQ (Z8 st) f.name≠c.folder:=by
      rcases hV.tree.up f.name hlive with e | e
      ·rw [e];exact fun e=>hne e.symm
      ·exact hlne e
     have hln:=hlne (z1i b1);refine ⟨by rw [hpar,hch hpn];exact b1,G,by rw [hoff hln];exact b2,?_,b4⟩;have hGn:G.name=l.to:=YM b2;obtain ⟨e,a1,a2,a3⟩:=b3;refine ⟨e,a1,by rw [hGn,hch hln,<-hGn];exact a2,fun y hy=>?_⟩;rw [hcut (hlne (z1i (by rw [<-a2];exact List.mem_map.2 ⟨y,hy,rfl⟩)))];exact a3 y hy
   ·obtain rfl:=zml e2;constructor
    ·intro w hw _;obtain rfl:w=⟨c.user,1,true⟩:=by simpa [ZI] using hw
     have hgf:zP { st with folders:=st.folders++[{ ZI st c with epochs:=[⟨1,1,1,e1,c.user⟩] }] } c.folder=some { ZI st c with epochs:=[⟨1,1,1,e1,c.user⟩] }:=by rw [hfind,if_pos rfl]
     exact ⟨c.folder,z38 hV1.tree (z1g.2 ⟨_,hgf,rfl⟩),_,hgf,⟨c.user,4⟩,by rw [hnow];simp,rfl⟩
    ·intro l hl;simp [ZI] at hl
 unfold z1v;dsimp only;rw [he1,z6r];exact (zFw hV1 hR1 hW1 (by simp)).flds rfl
theorem zUv {late:Bool} (h:VInv n st) (hR:RInv st) (hW:z1t st) (hc:CallOk c) (hb:ZV st c late=0):RInv (doR st c).1:=by
 unfold doR;dsimp only;by_cases k1:c.kind=1
 ·rw [if_pos k1];unfold YS;exact zM (fun _=>hR) fun _=>zM (fun _=>hR) fun h2=>hR.flds rfl
 rw [if_neg k1];obtain ⟨⟨_,hu⟩,hfol,hoth,_⟩:=z5i hc k1 hb;by_cases k2:c.kind=2
 ·rw [if_pos k2];unfold YH;refine zM (fun _=>hR) fun h1=>zM (fun _=>hR) fun h2=>zM (fun _=>hR) fun h3=>?_
  exact zRp h hR hW hc k2 (zDl hu) (by simpa using h1) (by simpa using h2) (by omega)
 rw [if_neg k2];have hthere:c.kind<=13->∃k,Z3 st c.folder=some k:=fun h13=>hfol (z3e (hc.fol (by have:=hc.k1;omega) h13)) k2
 by_cases k3:c.kind=3
 ·rw [if_pos k3];obtain ⟨k,hk⟩:=hthere (by omega);rw [hk,Option.getD_some];unfold z2o;refine zM (fun _=>hR) fun _=>zM (fun _=>hR) fun _=>zM (fun _=>hR) fun h1=>zM (fun _=>hR) fun h2=>?_
  refine zUc h hR hW hc hk ?_ (by simpa using h1) (by omega);by_cases ho:c.other=⟨#[]⟩
  ·exact .inl ho
  exact .inr (hoth ho k3)
 rw [if_neg k3];by_cases k4:c.kind=4
 ·rw [if_pos k4];obtain ⟨k,hk⟩:=hthere (by omega);rw [hk,Option.getD_some];unfold z0m;exact zM (fun _=>hR) fun _=>zM (fun _=>hR) fun h1=>zRo h hR hk (by omega)
 rw [if_neg k4];by_cases k5:c.kind=5\/c.kind=6\/c.kind=7
 ·rw [if_pos k5];obtain ⟨k,hk⟩:=hthere (by omega);rw [hk,Option.getD_some];unfold Y2;dsimp only;exact zM (fun _=>hR) fun h1=>zM (fun _=>hR) fun _=>zPl h hR hW hc (by omega) (Y9 (z1h hk).1).1 (by omega)
 rw [if_neg k5];by_cases k8:c.kind=8
 ·rw [if_pos k8];obtain ⟨k,hk⟩:=hthere (by omega);rw [hk,Option.getD_some];unfold z2s;refine zM (fun _=>hR) fun _=>?_
  split
  ·exact zM (fun _=>hR) fun _=>zS8 h hR hW hk
  exact zM (fun _=>hR) fun _=>zS8 h hR hW hk
 rw [if_neg k8];by_cases k9:c.kind=9
 ·rw [if_pos k9];exact hR
 rw [if_neg k9];by_cases k10:c.kind=10
 ·rw [if_pos k10];exact hR
 rw [if_neg k10];by_cases k11:c.kind=11
 ·rw [if_pos k11];obtain ⟨k,hk⟩:=hthere (by omega);rw [hk,Option.getD_some];unfold z2p;refine zM (fun _=>hR) fun _=>?_
  split
  ·exact hR
  exact zM (fun _=>hR) fun _=>zM (fun _=>hR) fun _=>zS7 h hR (Y9 (z1h hk).1).1 _ _ _
 rw [if_neg k11];by_cases k12:c.kind=12
 ·rw [if_pos k12];exact hR
 rw [if_neg k12];have hlost:∀(s:Nm) (b:Bool),RInv (lostS st s b):=fun s b=>by
  unfold lostS;split
  ·exact hR
  ·exact hR.flds rfl
 by_cases k14:c.kind=14
 ·rw [if_pos k14];unfold z1d;exact zM (fun _=>hR) fun _=>hR.flds rfl
 rw [if_neg k14];by_cases k15:c.kind=15
 ·rw [if_pos k15];exact hlost _ _
 rw [if_neg k15];by_cases k16:c.kind=16
 ·rw [if_pos k16];unfold z0h;exact zM (fun _=>hR) fun _=>zM (fun _=>hR) fun _=>hlost _ _
 rw [if_neg k16];exact hR
theorem zD1 {q r:Int} (h:VInv n st) (hR:RInv st) (hW:z1t st) (hs:z4e c):RInv (ZU st q r c).1:=by
 unfold ZU
 cases hm:z6c c with
 | false=>exact hR
 | true=>
  obtain ⟨k1,k2⟩:=z7e hm hs.1 hs.2.1 hs.2.2.1 hs.2.2.2;have hn:RInv (yY st c false).1:=by
   unfold yY;split
   ·exact hR
   ·rename_i hb;exact zUv h hR hW k1 (by simpa using hb)
  show RInv (doV st q r c false).1
  unfold doV;exact zM (fun _=>zM (fun _=>hR) fun _=>hn) fun _=>hR
theorem RInv.start:RInv ⟨0,[],[],[]⟩:=⟨fun _ h=>(by cases h),fun _ h=>(by cases h),fun _ h=>(by cases h)⟩
end
end
section
open Go.RowKit Go.Deep
section
variable {n:Nat} {st:State} {c:Call}
theorem zRt {q r:Int} (h8:c.kind=8) (hV:VInv n st) (hs:z4e c) (he:(ZU st q r c).2.err=0):z6c c=true/\∃k,Z3 st c.folder=some k/\ZU st q r c=((z1r st c k).1,YO (z1r st c k).2):=by
 unfold ZU at he⊢
 cases hm:z6c c with
 | false=>rw [hm] at he;exact absurd he (show ¬(13:Int)=0 by decide)
 | true=>
  rw [hm] at he;rw [if_pos rfl] at he⊢;refine ⟨rfl,?_⟩;obtain ⟨hc,_⟩:=z7e hm hs.1 hs.2.1 hs.2.2.1 hs.2.2.2;by_cases hb:ZV st c false=0
  rotate_left
  ·exfalso;have hn:yY st c false=(st,ZF (ZV st c false),false):=by
    unfold yY;rw [if_pos hb]
   unfold doV at he;rw [hn,if_neg (show ¬false=true by decide)] at he;exact hb he
  obtain ⟨_,hfol,_,_⟩:=z5i hc (by omega) hb;obtain ⟨k,hk⟩:=hfol (z3e (hc.fol (by omega) (by omega))) (by omega);refine ⟨k,hk,?_⟩;have hn:yY st c false=z2s st c k:=by
   unfold yY;rw [if_neg (by rw [hb];decide)];unfold doR;dsimp only;rw [hk,Option.getD_some];simp [h8]
  have hput:∀x:Res,z2s st c k=x->x.2.1.err=0->x=((z1r st c k).1,YO (z1r st c k).2,true):=fun x hx h0=>by
   unfold z2s at hx;split at hx
   ·rw [<-hx] at h0;exact absurd h0 (show ¬(40:Int)=0 by decide)
   ·split at hx
    ·split at hx
     ·rw [<-hx] at h0;exact absurd h0 (show ¬(3:Int)=0 by decide)
     ·exact hx.symm
    ·split at hx
     ·rw [<-hx] at h0;exact absurd h0 (show ¬(3:Int)=0 by decide)
     ·exact hx.symm
  unfold doV at he⊢;rw [hn] at he⊢;obtain ⟨x,hx⟩:∃x,z2s st c k=x:=⟨_,rfl⟩;rw [hx] at he⊢;by_cases h0:x.2.1.err=0
  ·obtain rfl:=hput x hx h0;rw [if_pos rfl] at he⊢;split at he
   ·rename_i hf;exact absurd he hf.2.2
   rename_i hf;rw [if_neg hf]
  exfalso;split at he
  ·split at he
   ·rename_i hf;exact absurd he hf.2.2
   exact h0 he
  exact h0 he
structure PutOk (st st':State) (s it:Nm) (num:Int):Prop where
 ex:∃(k j:Nat) (f:Folder) (x:Item) (v:Version),st'.folders[k]? =some f/\z00 st' s=k/\k < st.folders.length/\f.name=s/\f.items[j]? =some x/\z01 f it=some j/\num=x.versions.length/\1<=x.versions.length/\
  x.versions[x.versions.length - 1]? =some v/\v.epoch=f.epochs.length/\1<=f.epochs.length/\(ZJ st s=true->(f.epochs.length:Int)=(fo st k).epochs.length+1)/\
  (∀m∈(zH f).members,zFe st' s f.epochs.length m.name)/\∀u,zFe st' s f.epochs.length u->zBc st' s u
 fresh:ZJ st' s=false
theorem zTj {q r:Int} (h8:c.kind=8) (hV:VInv n st) (hR:RInv st) (hW:z1t st) (hN:NInv st) (hd:yX st) (hs:z4e c) (he:(ZU st q r c).2.err=0):PutOk st (ZU st q r c).1 c.folder c.name (ZU st q r c).2.number:=by
 obtain ⟨_,k,hk,e⟩:=zRt h8 hV hs he;have hV':=(z4a (q:=q) (r:=r) hV hd hs).1;have hR':=zD1 (q:=q) (r:=r) hV hR hW hs;have hN':=zD2 (q:=q) (r:=r) hN hs;have hW':=(zF3 (q:=q) (r:=r) hV hW hs).wa;rw [e] at hV' hR' hN' hW'⊢;dsimp only at hV' hR' hN' hW'⊢;obtain ⟨hfo,hg⟩:=z1h hk;obtain ⟨hkl,hn,_⟩:=Y9 hfo;obtain ⟨f1,p1,p2,p3,p4,_,_⟩:=zEk (c:=c) hV hkl;have hp:=p1 c.user rfl;have hnow1:=z0c p3;obtain ⟨s1,hs1⟩:∃s1,(if ZJ st c.folder then YR st k c.user else st)=s1:=⟨_,rfl⟩;rw [hs1] at hp;have hl1:k < s1.folders.length:=by
  rw [<-hs1];split
  ·unfold YR;rw [Y4];exact hkl
  ·exact hkl
 have hF1:z0y st (fo s1 k)/\(fo s1 k).name=(fo st k).name/\(ZJ st c.folder=true->((fo s1 k).epochs.length:Int)=(fo st k).epochs.length+1):=by
  rw [<-hs1];by_cases hst:ZJ st c.folder=true
  ·rw [if_pos hst];refine ⟨zKh hV hR hkl hg c.user,?_,fun _=>?_⟩
   ·unfold YR;rw [Y3 hkl];exact (z4v _ _ _).name
   ·unfold YR;rw [Y3 hkl,(z4v _ _ _).ep];simp
  ·rw [if_neg hst];refine ⟨(z8b hV (yN hkl) hg).1 (by rw [hn];simpa using hst),rfl,fun h=>absurd h hst⟩
 have hep1:f1.epochs=(fo s1 k).epochs:=by
  have h1:fo (yJ s1 k) k=f1:=by rw [hp,Y3 hkl]
  rw [<-h1];unfold yJ;rw [Y3 hl1];exact (z3y s1 _ _).ep
 have hput:∃(f':Folder) (j:Nat) (x:Item) (v:Version),(z1r st c k).1=setF st k f'/\f'.name=f1.name/\f'.manifests=f1.manifests/\f'.epochs=f1.epochs/\f'.items[j]? =some x/\x.name=c.name/\((z1r st c k).2:Nat)=x.versions.length/\1<=x.versions.length/\x.versions[x.versions.length - 1]? =some v/\v.epoch=f1.epochs.length:=by
  unfold z1r;dsimp only;rw [hs1,hp];unfold z4b;rw [Y3 hkl];dsimp only
  cases hi:z01 (fo st k) c.name with
  | none=>
   dsimp only;rw [z0n]
   exact ⟨_,f1.items.length,⟨c.name,[⟨f1.epochs.length,false,c.user,c.data⟩]⟩,_,rfl,rfl,rfl,rfl,by simp,rfl,rfl,znl _,rfl,rfl⟩
  | some j=>
   dsimp only;rw [z0n];obtain ⟨i1,i2⟩:=z5j hi;have i3:ZX f1 j=ZX (fo st k) j:=by unfold ZX;rw [p4]
   have hjl:j < f1.items.length:=by rw [p4];exact (zge i1).1
   exact ⟨_,j,{ ZX f1 j with versions:=(ZX f1 j).versions++[⟨f1.epochs.length,false,c.user,c.data⟩] },⟨f1.epochs.length,false,c.user,c.data⟩,rfl,rfl,rfl,rfl,by rw [List.getElem?_set_self hjl],by rw [<-i2,<-i3],by simp,by simp,by simp,rfl⟩
 obtain ⟨f',j,x,v,q1,q2,q3,q4,q5,q6,q7,q8,q9,q10⟩:=hput;rw [q1] at hV' hR' hN' hW'⊢;have hname:f'.name=(fo st k).name:=q2.trans p2;have hnow:zH f'=zH (fo st k):=(z0c q3).trans hnow1;have hat:(setF st k f').folders[k]? =some f':=by unfold setF;rw [List.getElem?_set_self hkl]
 have hmem:f'∈(setF st k f').folders:=zmg hat;have hgone:(zH f').gone=false:=by rw [hnow];exact hg
 have hcs:f'.name=c.folder:=hname.trans hn;have hep:f'.epochs=(fo s1 k).epochs:=q4.trans hep1;have hfs:=zBd hV hkl hname (by rw [hnow]) (by rw [hnow]);have hfr:z0y (setF st k f') f':=(zDv hfs (fun s=>by unfold YE;rw [zJ9 hV hkl hname hnow]) f').2 (z6d hF1.1 (hname.trans hF1.2.1.symm) hep);have hpos:1<=f'.epochs.length:=List.length_pos_iff.2 (hV'.fol f' hmem).ep;have hfind:=z1f hV'.names hmem;refine ⟨⟨k,j,f',x,v,hat,?_,hkl,hcs,q5,?_,by show ((z1r st c k).2:Int)=_;rw [q7],q8,q9,by rw [q10,q4],hpos,fun hst=>by rw [hep];exact hF1.2.2 hst,fun m hm2=>?_,fun u hu=>?_⟩,?_⟩
 ·unfold z00;rw [show (setF st k f').folders.findIdx? (isF c.folder)=some k from by rw [<-hcs];exact zPm Folder.name hV'.names hat]
 ·rw [<-q6];exact zPm Item.name (hN'.fn f' hmem).2.1 q5
 ·have hu:=((hV'.fol f' hmem).mn _ (YK (hV'.fol f' hmem).man)).2.2 m hm2;obtain ⟨y,hy,hye⟩:=List.mem_map.1 hu;refine ⟨f',by rw [<-hcs];exact hfind,by omega,Int.le_refl _,⟨y,hy,hye⟩,?_⟩;rw [<-hcs];exact zJ7 hV' hR' hmem hm2
 ·obtain ⟨_,_,_,_,_,g5⟩:=hu;rw [<-hcs] at g5⊢;exact zKg hV' hR' hW' hmem hgone hfr g5
 rw [<-hcs];exact (z8b hV' hmem hgone).2 hfr
end
end
section
open Go.RowKit Go.Deep
theorem zKi (f:Folder) (s:Nm) (cs:List Value) (w:World) (S:Nat->Prop) (h:ZG S w cs f):Calls Tryz.prog 22 #[.agg cs.toArray,.string s] w fun e w'=>e= .returned (.int .i64 (iOf (z01 f s)))/\Below w.heap.size w w':=by
 obtain ⟨f_A2,f_c2,f_A3,f_c3,f_A4,f_c4,f_A5,f_c5,f_A6,f_c6,rfl,_,_,_,_,_,f_manifests_s,_,_,_,f_epochs_s,_,_,_,f_items_s,_,_,_,f_wraps_s,_,_,_,f_links_s⟩:=Z2 h;obtain ⟨_,hw0,cw0,fw0,Bw0,_⟩:=zQ w #[.string f.name,.int .i64 f.turn,.slice f_A2 f.manifests.length f_c2,.slice f_A3 f.epochs.length f_c3,.slice f_A4 f.items.length f_c4,.slice f_A5 f.wraps.length f_c5,.slice f_A6 f.links.length f_c6] 74;have HB0:=zh Bw0;have b4:=cw0 4 _ rfl;clear cw0 fw0 Bw0 f_manifests_s f_epochs_s f_wraps_s f_links_s;go_enter Tryz.func22,Tryz.ntmps22
 go_wp2;clear hw0;go_loop [5] (fun i=>∃k:Nat,k<=f.items.length/\i= .int .i64 k/\Hid (∀y∈f.items.take k,isI s y=false)) (fun i=>f.items.length - (intOf i).toNat)
 case atStart=>exact ⟨0,by omega,by go_num,fun y hy=>by simp at hy⟩
 obtain ⟨k,_,rfl,HN⟩:=hrel;by_cases hlt:k < f.items.length
 rotate_left
 ·obtain rfl:k=f.items.length:=by omega
  rw [qLnx] at HN;go_wp2;go_ret;exact ⟨by rw [show z01 f s=none from List.findIdx?_eq_none_iff.2 HN.out];rfl,HB0.out⟩
 obtain ⟨x,hx⟩:∃x,f.items[k]? =some x:=⟨_,qLgx hlt⟩;obtain ⟨_,_,_,hA,_,hRx,hcz⟩:=SlAt.elem f_items_s hx (by decide) HB0.out;obtain ⟨_,_,rfl,_,_,_,_,x_versions_s⟩:=z4h hRx;have u0:=hcz 0 _ rfl;rw [Nat.add_zero] at u0;subst hA;have hki:(k:Int) < (f.items.length:Int):=by omega
 have HX:=zh hx;clear hcz hx x_versions_s;by_cases hnm:x.name=s
 ·have hse:(x.name.toList==s.toList)=true:=by rw [hnm];simp
  have HF:=zh (show z01 f s=some k from z4o HN.out HX.out (show isI s x=true by unfold isI;exact decide_eq_true hnm));clear hnm;go_wp2;go_ret;exact ⟨by rw [HF.out];rfl,HB0.out⟩
 have hse:(x.name.toList==s.toList)=false:=z03 hnm;have HF:=zh (z0l HN.out HX.out (show isI s x=false by unfold isI;exact decide_eq_false hnm));clear hnm;go_wp2;go_round
 case rel=>exact ⟨k+1,by omega,by go_num,HF⟩
 case measure=>exact qMx
theorem zH4 (l L:List Nm) (v u:Value) (w:World) (S S':Nat->Prop) (h:Sl 1 z06 S w v l) (k:Sl 1 z06 S' w u L) (hs:∀x∈l,x∈L):Calls Tryz.prog 26 #[v,u] w fun e w'=>e= .returned (.bool true)/\Below w.heap.size w w':=by
 have HS:=zh hs;clear hs;obtain ⟨_,_,rfl,_,hc,_,h1⟩:=h;obtain ⟨_,_,rfl,_,kd,_,k1⟩:=k;unfold maxLen at hc kd;go_enter Tryz.func26,Tryz.ntmps26
 go_wp2;go_loop [12] (fun i=>∃p:Nat,p<=l.length/\i= .int .i64 p) (fun i=>l.length - (intOf i).toNat)
 case atStart=>exact ⟨0,by omega,by go_num⟩
 obtain ⟨p,_,rfl⟩:=hrel;by_cases hlt:p < l.length
 rotate_left
 ·obtain rfl:p=l.length:=by omega
  go_wp2;go_ret;exact ⟨rfl,Below.refl _ _⟩
 obtain ⟨x,hx⟩:∃x,l[p]? =some x:=⟨_,qLgx hlt⟩;obtain ⟨_,_,_,hA,_,⟨rfl,_⟩,hcz⟩:=SlAt.elem h1 hx (by decide) (Below.refl w.heap.size w);have u0:=hcz 0 _ rfl;rw [Nat.add_zero,Nat.mul_one] at u0;subst hA;have hki:(p:Int) < (l.length:Int):=by omega
 have HX:=zh (HS.out x (zmg hx));clear hcz hx;go_wp2;go_loop [7,18] (fun vb i=>∃(q:Nat) (fb:Bool),q<=L.length/\vb= .bool fb/\i= .int .i64 q/\Hid (fb=true↔x∈L.take q)) (fun _ i=>L.length - (intOf i).toNat)
 case atStart=>exact ⟨0,false,by omega,rfl,by go_num,zh (by simp)⟩
 obtain ⟨q,fb,_,rfl,rfl,HQ⟩:=hrel;by_cases hlt2:q < L.length
 rotate_left
 ·obtain rfl:q=L.length:=by omega
  obtain rfl:fb=true:=by
   have:=HQ.out;rw [qLnx] at this;exact this.2 HX.out
  go_wp2;go_round
  case rel=>exact ⟨p+1,by omega,by go_num⟩
  case measure=>exact qMx
 obtain ⟨y,hy⟩:∃y,L[q]? =some y:=⟨_,qLgx hlt2⟩;obtain ⟨_,_,_,hB,_,⟨rfl,_⟩,hcz2⟩:=SlAt.elem k1 hy (by decide) (Below.refl w.heap.size w);have u1:=hcz2 0 _ rfl;rw [Nat.add_zero,Nat.mul_one] at u1;subst hB;have hqi:(q:Int) < (L.length:Int):=by omega
 have HY:=zh hy;clear hcz2 hy
 cases fb with
 | true=>
  have HQ2:=zh (show true=true↔x∈L.take (q+1) by
   rw [qLtx,HY.out];exact ⟨fun _=>List.mem_append_left _ (HQ.out.1 rfl),fun _=>rfl⟩)
  go_wp2;go_round
  case rel=>exact ⟨q+1,true,by omega,rfl,by go_num,HQ2⟩
  case measure=>exact qMx
 | false=>
  by_cases hnm:x=y
  ·have hse:(x.toList==y.toList)=true:=by rw [hnm];simp
   have HQ2:=zh (show true=true↔x∈L.take (q+1) by
    rw [qLtx,HY.out];exact ⟨fun _=>List.mem_append_right _ (by simp [hnm]),fun _=>rfl⟩)
   clear hnm;go_wp2;go_round
   case rel=>exact ⟨q+1,true,by omega,rfl,by go_num,HQ2⟩
   case measure=>exact qMx
  have hse:(x.toList==y.toList)=false:=z03 hnm;have HQ2:=zh (show false=true↔x∈L.take (q+1) by
   rw [qLtx,HY.out,List.mem_append];constructor
   ·intro h;cases h
   ·rintro (h | h)
    ·exact HQ.out.2 h
    ·exact absurd (by simpa using h) hnm)
  clear hnm;go_wp2;go_round
  case rel=>exact ⟨q+1,false,by omega,rfl,by go_num,HQ2⟩
  case measure=>exact qMx
end
section
open Go.RowKit Go.Deep
theorem zS0 {l:List Call} (h:zAx l=true):l.length<=40/\∀x∈l,z4e x:=by
 unfold zAx at h;rw [qBqx,decide_eq_true_eq,List.all_eq_true] at h;exact ⟨h.2,fun x hx=>by obtain ⟨h1,h2,h3,h4,_⟩:=zDw.1 (h.1 x hx);exact ⟨h1,h2,h3,h4⟩⟩
structure HI (k:Nat) (st:State):Prop where
 v:VInv k st
 d:yX st
 n:NInv st
 w:z1t st
 r:RInv st
theorem HI.start:HI 0 ⟨0,[],[],[]⟩:=⟨VInv.start,iA0,NInv.start,fun f hf=>(by cases hf),RInv.start⟩
theorem HI.next {k:Nat} {st:State} (h:HI k st) {q r:Int} {x:Call} (hs:z4e x):HI (k+1) (ZU st q r x).1:=
 ⟨(z4a h.v h.d hs).1,(z4a h.v h.d hs).2,zD2 h.n hs,(zF3 h.v h.w hs).wa,zD1 h.v h.r h.w hs⟩
theorem zPx {n m:Nat} (h:n=m+1) (hb:n<=140737488355328):IntKind.i64.wrap ((n:Int) - 1)=(m:Int):=by
 rw [IntWalk.i64_in _ (by omega)];omega
theorem walkR (w:World) (l:List Call) (v:Value) (h:Sl 8 z2a (fun _=>True) w v l) (hm:MayOk w):
  Calls Tryz.prog 6 #[v] w fun e w'=>e= .returned (.bool true)/\Below w.heap.size w w':=by
 have HC:=zh h;have HM:=zh hm;obtain ⟨A,c,rfl,hl,hc,hln,hs⟩:=h;unfold maxLen at hc;obtain ⟨istring,histring,hzstring,h1string,h2string⟩:=info_parts (show (Tryz.prog.info? 9).map (fun i=>(i.zero,i.size,i.bytes))=some (some (.string ⟨#[]⟩),1,16) from by kernel_rfl);clear hm;go_enter Tryz.func6,Tryz.ntmps6
 go_wp2_with fail
 refine zcm (zPq w HM.out) ?_;rintro e1 w1 ⟨rfl,B1⟩;have HB1:=zh B1;clear B1
 cases hf:zAx l with
 | false=>
  have HF:=zh hf;clear hf;go_wp2_with fail
  refine zcm (zLe l _ w1 (fun _=>True) (HC.out.keep zD8 (by decide) (zK HB1.out))) ?_;rw [HF.out];rintro e6 w6 ⟨rfl,B6⟩;have HX6:=zh (zB HB1.out B6);clear B6;go_wp2;go_ret
  exact ⟨rfl,HX6.out⟩
 | true=>
  have HF:=zh hf;have HL:=zh (zS0 hf);clear hf;go_wp2_with fail
  refine zcm (zLe l _ w1 (fun _=>True) (HC.out.keep zD8 (by decide) (zK HB1.out))) ?_;rw [HF.out];rintro e6 w6 ⟨rfl,B6⟩;have HX6:=zh (zB HB1.out B6);clear B6;go_wp2_with fail
  refine zcm (zJ0 w6 1073741824 1048576 ⟨by omega,by omega⟩) ?_;rintro e7 w7 ⟨rfl,V7,B7⟩;have HX7:=zh (zB HX6.out B7);have HLT:=zh (show w.heap.size<=w6.heap.size from HX6.out.size);have HG0:=zh HI.start;generalize (⟨0,[],[],[]⟩:State)=st0 at V7 HG0;have HV7:=zh V7;clear V7 B7;go_wp2_with fail
  go_loopw [29] (fun i wr=>∃(k:Nat) (st:State),k<=l.length/\i= .int .i64 k/\Hid (VS (fun b=>b=w6.heap.size) w6.heap.size wr st 1073741824 1048576)/\Hid (HI k st)/\Hid (Below w.heap.size w wr)) (fun i _=>l.length - (intOf i).toNat)
  case atStart=>exact ⟨0,st0,by omega,by go_num,HV7,HG0,HX7⟩
  obtain ⟨wr1,rfl⟩:∃q,q=wr:=⟨_,rfl⟩;obtain ⟨k,st,hk,rfl,HV,HG,HB⟩:=hrel;by_cases hlt:k < l.length
  rotate_left
  ·obtain rfl:k=l.length:=by omega
   go_wp2;go_ret;exact ⟨rfl,HB.out⟩
  obtain ⟨x,b,o,A7,c7,hx,_,hxm,rfl,hb,_,x0,x1,x2,x3,x4,x5,x6,x7,hrc,_⟩:=zHu (S':=fun b=>¬(b=w6.heap.size)) hs hlt (fun b _ hl=>⟨fun e=>by have:=HLT.out;omega,HB.out.block b hl⟩);have HS:=zh (HL.out.2 x hxm);have hk40:k<=39:=by have:=HL.out.1;omega
  have HCK:=zh (zBb HG.out.v (by omega) HG.out.d);obtain ⟨wb,hwb,cwb,fwb,Bwb,qwb⟩:=zQ wr1 #[.int .i64 x.kind,.string x.user,.string x.folder,.string x.name,.string x.other,.int .i64 x.role,.int .i64 x.version,.slice A7 x.data.length c7] 41;have HNB:=zh (zbx hwb);have HBb:=zh (zB HB.out Bwb);have HVb:=zh (HV.out.below Bwb);have HRC:=zh hrc;have HWB:=zh Bwb;have HLB:=zh (show w6.heap.size < wr1.heap.size from HV.out.lt);clear hx hxm hrc cwb fwb Bwb hb;go_wp2_with fail
  refine zcm (z9n HVb.out HCK.out) ?_;rintro e1 z1 ⟨cs,rfl,hst,C1⟩;have HSA:=zh hst;obtain ⟨A1,c1,A2,c2,A3,c3,hcs,_,_,_,_,_,_,_,_,_,_,_,_,hsf1⟩:=ZP hst;subst hcs;obtain ⟨y1,hy1,cy1,fy1,By1,qy1⟩:=zQ z1 #[.int .i64 st.turn,.slice A1 st.users.length c1,.slice A2 st.deposits.length c2,.slice A3 st.folders.length c3] 34;have HNS:=zh (zbx hy1);have HB1':=zh (zB C1 By1);have HBy:=zh (zB HBb.out (zB C1 By1));have HVy:=zh (HVb.out.below HB1'.out);have HSY:=zh (Z0 HSA.out (zK By1));have HSL1:=zh (hsf1.keep YX (by decide) (zK By1));have HNC:=zh ((HB1'.out.block _ (zO HNB.out)).trans HNB.out);have HLZ:=zh (show w6.heap.size < z1.heap.size from zll HVb.out.lt C1.size);obtain ⟨k0,k1,k2,k3,k4,k5,k6,k7⟩:=zC8 (zD HNC.out).1;clear hst C1 cy1 fy1 By1 hsf1;go_wp2_with fail
  refine zcm (zGx (c:=x) HVy.out (YZ HRC.out (zK (zB HWB.out HB1'.out))) HG.out.v (by omega) HG.out.d (HM.out.below HBy.out) HS.out) ?_;rintro e5 z5 ⟨cs5,rfl,V5,ha5,C5⟩;have HGN:=zh (HG.out.next (q:=1073741824) (r:=1048576) HS.out);have HPO:=zh (show x.kind=8->(ZU st 1073741824 1048576 x).2.err=0->PutOk st (ZU st 1073741824 1048576 x).1 x.folder x.name (ZU st 1073741824 1048576 x).2.number from fun h8 he=>zTj h8 HG.out.v HG.out.r HG.out.w HG.out.n HG.out.d HS.out he);generalize ZU st 1073741824 1048576 x=y at V5 ha5 HGN HPO;obtain ⟨st5,a⟩:=y;dsimp only at V5 ha5;obtain ⟨P3,p3,P4,p4,P5,p5,P6,p6,rfl⟩:=yG ha5;obtain ⟨y5,hy5,cy5,fy5,By5,qy5⟩:=zQ z5 #[.int .i64 a.err,.int .i64 a.number,.string a.who,.slice P3 a.data.length p3,.slice P4 a.names.length p4,.slice P5 a.members.length p5,.slice P6 a.history.length p6] 49;have HNA:=zh (zbx hy5);have HC5:=zh (C5.trans (ButB.of By5));have HB5:=zh (ButB.below HBy.out HBy.out.size (fun z hz=>by have:z=w6.heap.size:=hz;have:=HLT.out;omega) HC5.out);have HV5:=zh (V5.below By5);have HNS5:=zh ((HC5.out.block _ (zO HNS.out) (fun e=>by have e':z1.heap.size=w6.heap.size:=e;have:=HLZ.out;omega)).trans HNS.out);have HNC5:=zh ((HC5.out.block _ (zO HNC.out) (fun e=>by have e':wr1.heap.size=w6.heap.size:=e;have:=HLB.out;omega)).trans HNC.out);have HS5:=zh (Z0 HSY.out (HC5.out.kept (S':=fun b=>¬b=w6.heap.size) fun x hx=>⟨hx,hx⟩));have HSL5:=zh (HSL1.out.keep YX (by decide) (HC5.out.kept (S':=fun b=>¬b=w6.heap.size) fun x hx=>⟨hx,hx⟩));have m0:=(zD HNC5.out).1 0 _ rfl;have a0:=(zD HNA.out).1 0 _ rfl;clear V5 ha5 C5 By5 cy5 fy5 k0 k1 k2 k3 k4 k5 k6 k7;by_cases h8:x.kind=8
  rotate_left
  ·have g8:(x.kind !=8)=true:=by simpa using h8
   clear h8;go_wp2;go_roundw
   case rel=>exact ⟨k+1,st5,by omega,by go_num,HV5,HGN,HB5⟩
   case measure=>exact qMx
  rw [h8] at m0;by_cases he:a.err=0
  rotate_left
  ·have ge:(a.err !=0)=true:=by simpa using he
   clear h8 he;go_wp2;go_roundw
   case rel=>exact ⟨k+1,st5,by omega,by go_num,HV5,HGN,HB5⟩
   case measure=>exact qMx
  obtain ⟨⟨kf,j,f,it,vv,hkf,hat,hks,hfn,hit,hii,hnum,hnv,hvv,hve,hel,hsl,hmw,hwr⟩,hfr⟩:=HPO.out h8 he;obtain ⟨m,hm⟩:∃m,it.versions.length=m+1:=⟨it.versions.length - 1,by omega⟩;rw [hm,Nat.add_sub_cancel] at hvv;have a1:=(zD HNA.out).1 1 _ rfl;dsimp only at hnum;rw [he] at a0;rw [hnum] at a1;have HKF:=zh hkf;have HAT:=zh hat;have HIT:=zh hit;have HII:=zh hii;have HVM:=zh hm;have HVV:=zh hvv;have HVE:=zh hve;have HSL:=zh hsl;have HMW:=zh hmw;have HWR:=zh hwr;have HFR:=zh hfr;have HKS:=zh hks;have HCK5:=zh (zBb HGN.out.v (by omega) HGN.out.d);clear h8 he hkf hat hfn hit hii hnum hnv hvv hve hel hsl hmw hwr hfr hks hm HPO;go_wp2_with fail
  refine zcm (z9n HV5.out HCK5.out) ?_;rintro e6 z6 ⟨cs6,rfl,hst6,C6⟩;have HSA6:=zh hst6;obtain ⟨E1,g1,E2,g2,E3,g3,hcs6,_,_,_,_,_,_,_,_,_,_,_,_,hsf6⟩:=ZP hst6;subst hcs6;obtain ⟨y6,hy6,cy6,fy6,By6,qy6⟩:=zQ z6 #[.int .i64 st5.turn,.slice E1 st5.users.length g1,.slice E2 st5.deposits.length g2,.slice E3 st5.folders.length g3] 34;have HNT:=zh (zbx hy6);have HC6:=zh (zB C6 By6);have HSY6:=zh (Z0 HSA6.out (zK By6));have HS6:=zh (Z0 HS5.out (zK HC6.out));have HSF:=zh (hsf6.keep YX (by decide) (zK By6));have HM6:=zh ((HC6.out.block _ (zO HNC5.out)).trans HNC5.out);have HZ6:=zh ((HC6.out.block _ (zO HNS5.out)).trans HNS5.out);have A1:=(HC6.out.cell (p:=⟨z5.heap.size,1,none⟩) (zF a1)).trans a1;have m2:=(zD HM6.out).1 2 _ rfl;obtain ⟨t0,t1,t2,t3⟩:=zC4 (zD HNT.out).1;clear hst6 C6 cy6 fy6 By6 m0 a0 a1 hsf6;go_wp2_with fail
  refine zcm (z1l st5 x.folder [.int .i64 st5.turn,.slice E1 st5.users.length g1,.slice E2 st5.deposits.length g2,.slice E3 st5.folders.length g3] y6 _ HSY6.out) ?_;rw [HAT.out];rintro e7 z7 ⟨rfl,B7⟩;have HB7:=zh B7;obtain ⟨fx,fb,fof,F2,n2,F3,n3,F4,n4,F5,n5,F6,n6,hfx,_,hfm,rfl,hfb,_,f0,f1,f2,f3,f4,f5,f6,hrf,_,_,_,_,_,_,_,_,_,_,il,im,inn,isl,_⟩:=z4s HSF.out (show kf < st5.folders.length from (zge HKF.out).1) (zK HB7.out);obtain rfl:fx=f:=zsi (hfx.symm.trans HKF.out);have hjl:j < fx.items.length:=(zge HIT.out).1;obtain ⟨ix,ib,io,X1,x1',hix,_,_,rfl,hib,_,i0,i1,_,_,_,_,hvn,vsl⟩:=z5a isl hjl (zK zbr);obtain rfl:ix=it:=zsi (hix.symm.trans HIT.out);have hml:m < ix.versions.length:=by rw [HVM.out];exact Nat.lt_succ_self _
  obtain ⟨vx,vb,vo,X3,x3',hvx,_,_,rfl,hvb,_,v0,_⟩:=z8d vsl hml (zK zbr);obtain rfl:vx=vv:=zsi (hvx.symm.trans HVV.out);rw [HVE.out] at v0;have HVN:=zh hvn;clear i0 isl vsl hix hvx hvn;obtain ⟨y7,hy7,cy7,fy7,By7,qy7⟩:=zQ z7 #[.string fx.name,.int .i64 fx.turn,.slice F2 fx.manifests.length n2,.slice F3 fx.epochs.length n3,.slice (some ⟨ib,io,none⟩) fx.items.length n4,.slice F5 fx.wraps.length n5,.slice F6 fx.links.length n6] 74;have HNF:=zh (zbx hy7);have HC7:=zh (zB B7 By7);have HRF:=zh (Z5 hrf (zK By7));have d0:decide ((kf:Int) < 0)=false:=by simp
  have d1:decide ((ix.versions.length:Int) < 1)=false:=by have:=HVM.out;simp;omega
  have d2:(kf:Int) < (st5.folders.length:Int):=by have:=(zge HKF.out).1;omega
  replace A1:=(B7.cell (p:=⟨z5.heap.size,1,none⟩) (zF A1)).trans A1;have T3:=(B7.cell (p:=⟨z6.heap.size,3,none⟩) (zF t3)).trans t3;have m3:=(zD (show y7.heap[wr1.heap.size]? =_ from (HC7.out.block _ (zO HM6.out)).trans HM6.out)).1 3 _ rfl;obtain ⟨q0,q1,q2,q3,q4,q5,q6⟩:=zC7 (zD HNF.out).1;have i1':=(By7.cell (p:=⟨ib,io+j*2+1,none⟩) (zF i1)).trans i1;have v0':=(By7.cell (p:=⟨vb,vo+m*4,none⟩) (zF v0)).trans v0;have A1':=(By7.cell (p:=⟨z5.heap.size,1,none⟩) (zF A1)).trans A1;clear hfx hfm hrf cy7 fy7 By7 hfb B7 t0 t1 t2 t3 m2 i1 v0 hib hvb;go_wp2_with fail
  refine zcm (zKi fx x.name [.string fx.name,.int .i64 fx.turn,.slice F2 fx.manifests.length n2,.slice F3 fx.epochs.length n3,.slice (some ⟨ib,io,none⟩) fx.items.length n4,.slice F5 fx.wraps.length n5,.slice F6 fx.links.length n6] y7 _ HRF.out) ?_;rw [HII.out,show iOf (some j)=(j:Int) from rfl];rintro e8 z8 ⟨rfl,B8⟩;have HC8:=zh (zB HC7.out B8);have HB8:=zh B8;have p4:=(B8.cell (p:=⟨z7.heap.size,4,none⟩) (zF q4)).trans q4;have pi:=(B8.cell (p:=⟨ib,io+j*2+1,none⟩) (zF i1')).trans i1';have pv:=(B8.cell (p:=⟨vb,vo+m*4,none⟩) (zF v0')).trans v0';have pa:=(B8.cell (p:=⟨z5.heap.size,1,none⟩) (zF A1')).trans A1';have d3:decide ((j:Int) < 0)=false:=by simp
  have d4:(j:Int) < (fx.items.length:Int):=by omega
  have d5:(m:Int) < (ix.versions.length:Int):=by omega
  have d6:IntKind.i64.wrap ((ix.versions.length:Int) - 1)=(m:Int):=zPx HVM.out HVN.out;clear B8 q0 q1 q2 q3 q4 q5 q6 A1 A1' T3 m3 i1' v0' d0 d1 d2;go_upto_region 18 with fail
  have HSQ:=zh (show ∀W':World,Below z8.heap.size z8 W'->(fun W':World=>Below z8.heap.size z8 W'/\W'.cell? ⟨z7.heap.size,4,none⟩=some (.slice (some ⟨ib,io,none⟩) fx.items.length n4)/\W'.cell? ⟨ib,io+j*2+1,none⟩=some (.slice (some ⟨vb,vo,none⟩) ix.versions.length x1')/\W'.cell? ⟨z5.heap.size,1,none⟩=some (.int .i64 ix.versions.length)) W' from fun W' hW=>⟨hW,(hW.cell (p:=⟨z7.heap.size,4,none⟩) (zF p4)).trans p4,(hW.cell (p:=⟨ib,io+j*2+1,none⟩) (zF pi)).trans pi,(hW.cell (p:=⟨z5.heap.size,1,none⟩) (zF pa)).trans pa⟩);refine zE (by kernel_rfl) HSQ.out (fun hHeld=>?_);refine zi 0 ?_;iterate 14 (refine zt hHeld ?_;simp only [zA])
  refine zo ?_;refine wpAnyH_done (by kernel_rfl) ?_ _;clear hHeld HSQ;go_upto_region 20 with fail
  generalize hz9:World.drew z8=z9;have B9:Below z8.heap.size z8 z9:=by rw [<-hz9];exact zbr.drew
  have HB9:=zh B9;have o4:=(B9.cell (p:=⟨z7.heap.size,4,none⟩) (zF p4)).trans p4;have oi:=(B9.cell (p:=⟨ib,io+j*2+1,none⟩) (zF pi)).trans pi;have ov:=(B9.cell (p:=⟨vb,vo+m*4,none⟩) (zF pv)).trans pv;have oa:=(B9.cell (p:=⟨z5.heap.size,1,none⟩) (zF pa)).trans pa;clear hz9 B9 p4 pi pv pa;have HSQ:=zh (show ∀W':World,Below z9.heap.size z9 W'->(fun W':World=>Below z9.heap.size z9 W'/\W'.cell? ⟨z7.heap.size,4,none⟩=some (.slice (some ⟨ib,io,none⟩) fx.items.length n4)/\W'.cell? ⟨ib,io+j*2+1,none⟩=some (.slice (some ⟨vb,vo,none⟩) ix.versions.length x1')/\W'.cell? ⟨vb,vo+m*4,none⟩=some (.int .i64 fx.epochs.length)/\W'.cell? ⟨z5.heap.size,1,none⟩=some (.int .i64 ix.versions.length)) W' from fun W' hW=>⟨hW,(hW.cell (p:=⟨z7.heap.size,4,none⟩) (zF o4)).trans o4,(hW.cell (p:=⟨ib,io+j*2+1,none⟩) (zF oi)).trans oi,(hW.cell (p:=⟨vb,vo+m*4,none⟩) (zF ov)).trans ov,(hW.cell (p:=⟨z5.heap.size,1,none⟩) (zF oa)).trans oa⟩);refine zE (by kernel_rfl) HSQ.out (fun hHeld=>?_);refine zi 0 ?_;iterate 13 (refine zt hHeld ?_;simp only [zA])
  refine zo ?_;refine wpAnyH_done (by kernel_rfl) ?_ _;clear hHeld HSQ;generalize hz10:World.drew z9=z10;have B10:Below z9.heap.size z9 z10:=by rw [<-hz10];exact zbr.drew
  have HC10:=zh (zB HC8.out (zB HB9.out B10));have HY10:=zh (zB HB8.out (zB HB9.out B10));have HF10:=zh (((zB HB8.out (zB HB9.out B10)).block _ (zO HNF.out)).trans HNF.out);have HT10:=zh ((HC10.out.block _ (zO HNT.out)).trans HNT.out);have HM10:=zh ((HC10.out.block _ (zO HM6.out)).trans HM6.out);have HZ10:=zh ((HC10.out.block _ (zO HZ6.out)).trans HZ6.out);have q3:=(zD HF10.out).1 3 _ rfl;obtain ⟨t0,t1,t2,t3⟩:=zC4 (zD HT10.out).1;have m2:=(zD HM10.out).1 2 _ rfl;clear hz10 B10 o4 oi ov oa d3 d4 d5 d6;go_wp2_with fail
  refine zcm (zAa st5 x.folder [.int .i64 st5.turn,.slice E1 st5.users.length g1,.slice E2 st5.deposits.length g2,.slice (some ⟨fb,fof,none⟩) st5.folders.length g3] z10 _ (Z0 HSY6.out (zK HC10.out))) ?_;rw [HFR.out];rintro e11 z11 ⟨rfl,B11⟩;have HC11:=zh (zB HC10.out B11);have HY11:=zh (zB HY10.out B11);have HF11:=zh ((B11.block _ (zO HF10.out)).trans HF10.out);have HT11:=zh ((B11.block _ (zO HT10.out)).trans HT10.out);have HM11:=zh ((B11.block _ (zO HM10.out)).trans HM10.out);have HZ11:=zh ((B11.block _ (zO HZ10.out)).trans HZ10.out);clear q3 t0 t1 t2 t3 m2 B11;have m2:=(zD HM11.out).1 2 _ rfl;obtain ⟨r0,r1,r2,r3⟩:=zC4 (zD HZ11.out).1;go_wp2_with fail
  refine zcm (zAa st x.folder [.int .i64 st.turn,.slice A1 st.users.length c1,.slice A2 st.deposits.length c2,.slice A3 st.folders.length c3] z11 _ (Z0 HS6.out (zK HC11.out))) ?_;rintro e12 z12 ⟨rfl,B12⟩;have HC12:=zh (zB HC11.out B12);have HY12:=zh (zB HY11.out B12);have HF12:=zh ((B12.block _ (zO HF11.out)).trans HF11.out);have HT12:=zh ((B12.block _ (zO HT11.out)).trans HT11.out);have HM12:=zh ((B12.block _ (zO HM11.out)).trans HM11.out);have HZ12:=zh ((B12.block _ (zO HZ11.out)).trans HZ11.out);clear m2 r0 r1 r2 r3 B12;obtain ⟨gx,gb,gof,_,_,G3,h3',_,_,_,_,_,_,hgx,_,_,hA3,hgb,_,_,_,_,g3',_,_,_,_,_,_,_,_,_,_,_,_,g9,_⟩:=z4s HSL5.out HKS.out (zK (zB HC6.out HC12.out));subst hA3;have HGL:=zh (show ZJ st x.folder=true->(fx.epochs.length:Int)=(gx.epochs.length:Int)+1 from fun h=>by have:=HSL.out h;unfold fo at this;rw [hgx] at this;exact this);have HGW:=zh g9;have d2:(kf:Int) < (st.folders.length:Int):=by have:=HKS.out;omega
  have r3:=(zD HZ12.out).1 3 _ rfl;obtain ⟨t0,t1,t2,t3⟩:=zC4 (zD HT12.out).1;have m2:=(zD HM12.out).1 2 _ rfl;have HSY12:=zh (Z0 HSY6.out (zK HC12.out));clear hgx hgb g9;have HD7:=zh (show ZJ st x.folder=true->IntKind.i64.wrap ((gx.epochs.length:Int)+1)=(fx.epochs.length:Int) from fun hb=>by rw [HGL.out hb];exact IntWalk.i64_in _ (by have:=HGW.out;omega));rcases Bool.eq_false_or_eq_true (ZJ st x.folder) with hb | hb
  all_goals
   rw [hb];try have d7:=HD7.out hb
   clear hb
  all_goals (go_upto_region 23 with fail)
  all_goals
   go_wp2_with fail
   clear r3 g3' d2;refine zcm (zNe st5 (HGN.out.v.small (by omega)) x.folder (fx.epochs.length:Int) (fun u hu=>by have:=HGN.out.v.us20 u hu;omega) (by have:=HGN.out.v.u16;omega) [.int .i64 st5.turn,.slice E1 st5.users.length g1,.slice E2 st5.deposits.length g2,.slice (some ⟨fb,fof,none⟩) st5.folders.length g3] z12 _ HSY12.out) ?_;rintro e13 z13 ⟨⟨v13,Rw,rfl,hsw,hnw,hlw⟩,B13⟩;have HC13:=zh (zB HC12.out B13);have HY13:=zh (zB HY12.out B13);have HSW:=zh hsw;have HNW:=zh hnw;obtain ⟨AW,cw,rfl,_⟩:=hsw;have HF13:=zh ((B13.block _ (zO HF12.out)).trans HF12.out);obtain ⟨q0,q1,q2,q3,q4,q5,q6⟩:=zC7 (zD HF13.out).1;clear hnw hlw B13 t0 t1 t2 t3 m2;have HNWF:=zh (z4u fx [.string fx.name,.int .i64 fx.turn,.slice F2 fx.manifests.length n2,.slice F3 fx.epochs.length n3,.slice (some ⟨ib,io,none⟩) fx.items.length n4,.slice F5 fx.wraps.length n5,.slice F6 fx.links.length n6] z13 _ (Z5 HRF.out (zK HY13.out)));go_wp2_with fail
   refine zcm HNWF.out ?_;obtain ⟨mn,hmn⟩:∃mn,zH fx=mn:=⟨_,rfl⟩;rw [hmn];rintro e14 z14 ⟨⟨cm,rfl,hmm⟩,B14⟩;have HMN:=zh hmn;have HML:=zh (show mn.members.length<=20 from by
    have hmem:=zmg HKF.out;have:=(((HGN.out.v.fol fx hmem).mn _ (YK (HGN.out.v.fol fx hmem).man)).2).1;rwa [hmn] at this)
   have HC14:=zh (zB HC13.out B14);have HSW14:=zh (HSW.out.keep ZT (by decide) (zK B14));obtain ⟨mn_A2,mn_c2,mn_A4,mn_c4,rfl,mn_folder_le,mn_seq_ok,mn_prev_l,mn_prev_m,mn_prev_n,mn_prev_s,mn_parent_le,mn_members_l,mn_members_m,mn_members_n,mn_members_s,mn_cut_ok,mn_who_le⟩:=yF hmm;have hfd:=z48 mn.folder mn.parent mn.who mn.seq mn.cut mn.gone (.slice mn_A2 mn.prev.length mn_c2) (.slice mn_A4 mn.members.length mn_c4);clear hmn B14 q0 q1 q2 q3 q4 q5 q6 mn_prev_s;go_wp2_with fail
   clear hfd;go_loopw [15,132] (fun vo i wr=>∃jj:Nat,jj<=mn.members.length/\i= .int .i64 jj/\Hid (Grow 9 1 z06 (fun _=>False) wr z14.heap.size vo ((mn.members.take jj).map Member.name))/\Hid (Below z14.heap.size z14 wr)) (fun _ i _=>mn.members.length - (intOf i).toNat)
   case atStart=>exact ⟨0,by omega,by go_num,zh (by rw [List.take_zero,List.map_nil];exact Grow.nil),zh zbr⟩
   case round=>
    obtain ⟨wr2,rfl⟩:∃q,q=wr:=⟨_,rfl⟩;obtain ⟨jj,hjj,rfl,HG2,HB2⟩:=hrel;obtain ⟨A6,n6,c6,rfl,hn6⟩:=HG2.out.shape';clear hn6;by_cases hlj:jj < mn.members.length
    ·obtain ⟨y,mb,mo,hy,_,_,rfl,hmb,_,u0,u1,_,hyl,_⟩:=YW mn_members_s hlj (zK HB2.out);obtain ⟨ws,hws,cws,fws,Bws,qws⟩:=zQ wr2 #[.string y.name,.int .i64 y.role] 87;have HNW2:=zh (zbx hws);have HGs:=zh (HG2.out.below ZT Bws);have HBs:=zh (zB HB2.out Bws);have w0:=(zD HNW2.out).1 0 _ rfl;have hii:(jj:Int) < (mn.members.length:Int):=by omega
     have HTJ:=zh (show (mn.members.take jj).map Member.name++[y.name]=(mn.members.take (jj+1)).map Member.name by rw [qLtx,hy,List.map_append];rfl);have hll:((mn.members.take jj).map Member.name).length<=200:=by
      rw [qLmx];have:=HML.out;have:=z64 mn.members jj;omega
     have hz6:z14.heap.size<=ws.heap.size:=HBs.out.size;have HYL:=zh hyl;clear hy hyl cws fws Bws hmb;go_wp2_with (at_builtin;go_loud (refine yZ (R:=z06) _ _ rfl (.tmp 136) (.tmp 139) 45 rfl 9 istring _ 1 16 Tryz.underlying45 histring hzstring h1string h2string rfl (by decide) ZT z14.heap.size hz6 _ _ rfl HGs.out _ _ rfl (by simp only [zS]) _ (by intro b hb;exact hb.elim) ⟨rfl,HYL.out⟩ (by omega) (by decide) ?_);intro v7 w8 g7 gg7 go7;obtain ⟨A7',n7',c7',rfl,hn7⟩:=g7.shape';have G7:=zh g7;have GG7:=zh gg7;clear hn7 g7 gg7 go7)
     go_roundw
     case rel=>
      refine ⟨jj+1,by omega,by go_num,?_,?_⟩
      ·show Grow _ _ _ _ _ _ _ _
       rw [<-HTJ.out];exact G7.out
      ·exact zh (Below.grown HBs.out GG7.out hz6 fun b hb=>(HGs.out.base_le b hb).1)
     case measure=>exact qMx
    ·obtain rfl:jj=mn.members.length:=by omega
     rw [qLnx] at HG2;have HS1:=zh (show ∀u∈mn.members.map Member.name,u∈Rw from fun u hu=>by
      obtain ⟨q,hq,rfl⟩:=List.mem_map.1 hu;exact (HNW.out.2 _).2 (HMW.out q (by rw [HMN.out];exact hq)))
     go_wp2_with fail
     refine zcm (zH4 _ Rw _ _ wr2 (fun _=>True) (fun _=>True) (HG2.out.sl (S:=fun _=>True) ZT (fun _ _ _=>trivial) (fun _ _=>trivial)) (HSW14.out.keep ZT (by decide) (zK HB2.out)) HS1.out) ?_;rintro e15 z15 ⟨rfl,B15⟩;have HC15:=zh (zB HC14.out (zB HB2.out B15));have HSW15:=zh (HSW14.out.keep ZT (by decide) (zK (zB HB2.out B15)));have HT15:=zh ((HC15.out.block _ (zO HNT.out)).trans HNT.out);have HM15:=zh ((HC15.out.block _ (zO HM6.out)).trans HM6.out);obtain ⟨t0,t1,t2,t3⟩:=zC4 (zD HT15.out).1;have m2:=(zD HM15.out).1 2 _ rfl;clear B15;go_wp2_with fail
     refine zcm (zG0 st5 (HGN.out.v.small (by omega)) x.folder [.int .i64 st5.turn,.slice E1 st5.users.length g1,.slice E2 st5.deposits.length g2,.slice (some ⟨fb,fof,none⟩) st5.folders.length g3] z15 _ (Z0 HSY6.out (zK HC15.out))) ?_;rintro e16 z16 ⟨⟨v16,Rr,rfl,hsr,hnr⟩,B16⟩;have HSR:=zh hsr;obtain ⟨AR,cr,rfl,_⟩:=hsr;have HS2:=zh (show ∀u∈Rw,u∈Rr from fun u hu=>(hnr.2 u).2 (HWR.out u ((HNW.out.2 u).1 hu)));have HC16:=zh (zB HC15.out B16);have HSW16:=zh (HSW15.out.keep ZT (by decide) (zK B16));clear B16 hnr t0 t1 t2 t3 m2;go_wp2_with fail
     refine zcm (zH4 Rw Rr _ _ z16 (fun _=>True) (fun _=>True) HSW16.out HSR.out HS2.out) ?_;rintro e17 z17 ⟨rfl,B17⟩;have HE5:=zh (zB HC6.out (zB HC16.out B17));have HVz:=zh (HV5.out.below HE5.out);have HBz:=zh (zB HB5.out HE5.out);clear B17;go_wp2;go_roundw
     case rel=>exact ⟨k+1,st5,by omega,by go_num,HVz,HGN,HBz⟩
     case measure=>exact qMx
end
section
open Go.ChangeShapes Go.WideShapes Go.ChangeAt Go.RowKit Go.Deep Go.Maps
theorem zBj (w:World) (l:List Call) (v:Value) (h:Sl 8 z2a (fun _=>True) w v l) (hL:laidMetH Tryz.prog Rows.vaultRevokedRow.laid w):
  Calls Tryz.prog 6 #[v] w fun e w'=>e= .returned (.bool true)/\Below w.heap.size w w':=walkR w l v h (laid_cells hL)
theorem zA0 (os:Os) (started:os.Started) (H:Type) (enc:TypeId×Value->H):
  ReturnsInHanded {} Tryz.checked os 6 .any (fun w args=>(Rows.vaultRevokedSpec.pre enc Tryz.prog Tryz.f6 Rows.vaultRevokedRow.domain false w args/\laidMetH Tryz.prog Rows.vaultRevokedRow.laid w)/\sizedMet enc Tryz.prog Tryz.f6 (OpenSpec.ofChange Rows.vaultRevokedSpec) false w args) (Rows.vaultRevokedSpec.post enc Tryz.prog Tryz.f6 false true false false):=by
 refine returnsInHanded_of_change_and (C:=Tryz.checked) (X:=fun w _=>laidMetH Tryz.prog Rows.vaultRevokedRow.laid w) (fun _ _ _ hh h=>h.of_heap hh) zSf started (by kernel_rfl) Tryz.func6
  (ChangeSpec.witness_shaped (enc:=enc) (C:=Tryz.checked) (os:=os) (X:=fun w _=>laidMetH Tryz.prog Rows.vaultRevokedRow.laid w) false (World.laidAll Tryz.prog os Rows.vaultRevokedRow.laid) #[.slice none 0 0] 8 (World.laidAll_os _ _ _)
   (World.shaped_of_ZipB (by kernel_rfl) (by kernel_rfl)) (by kernel_rfl) (by kernel_rfl) (by kernel_rfl)
   (by rw [MakeChecks.laidMetH_plain _ _ _ (by kernel_rfl)];exact laidMet_laidAll _ (by kernel_rfl) (by kernel_rfl))) ?_
 intro W base args ds gs before hval0 hW hcnd hsz0 hL _;have hval:∀(j:Nat) t v,Tryz.f6.params[j]? =some t->args[j]? =some v->Value.okWide Tryz.prog W .any base t v:=hval0;have hW':=hW;obtain ⟨p,q,hA0,hV,rfl,_,_⟩:=hW;have hA:DataW.TrodAll enc Tryz.prog W 0 (fun _=>true) true Tryz.f6.params.toList args.toList ds p:=hA0;rw [Tryz.params6] at hA hval;obtain ⟨v0,_,_,_,_,_,hargs,rfl,rfl,h0,r0⟩:=trodAll_cons hA;obtain ⟨rfl,rfl,rfl⟩:=trodAll_nil r0;obtain rfl:args=#[v0]:=by cases args;simp_all
 obtain ⟨rfl,rfl⟩:=trodVars_none hV;clear hargs;obtain ⟨_,hf0⟩:=h0;obtain ⟨a0,hx0⟩:=zTs Tryz.underlying63 (zHo Tryz.underlying63 (by kernel_rfl) (of_decide_eq_true (by kernel_rfl)) (by decide) zTp (zD8).len) (hval 0 63 v0 rfl rfl) hf0 (fun q hq=>by simpa using List.all_eq_true.1 hsz0 q (DataW.weights_mem_each (j:=0) rfl rfl q hq));refine (zBj W a0 _ hx0 hL).mono fun e W' ⟨he,hg⟩=>?_
 subst he;exact ⟨_,rfl,zQ6 hW' rfl rfl rfl Tryz.underlying4 zHw (by kernel_rfl) hg⟩
theorem z8r:Rows.VaultRevokedSaid:=
 OpenClaim.holds_of_wide 6 Tryz.f6 rfl rfl rfl rfl rfl rfl rfl ⟨rfl,rfl,rfl,rfl,rfl⟩ rfl rfl rfl rfl rfl (by kernel_rfl) Tryz.func6 (by kernel_rfl)
  (of_decide_eq_true (by kernel_rfl)) (by unfold Func.isWrapper;first | (rw [if_pos (by decide+kernel)];kernel_rfl) | (rw [if_neg (by decide+kernel)];exact ⟨rfl,rfl⟩))
  (fun os started H enc _=>zA0 os started H enc)
theorem vaultRevoked_holds:Rows.VaultRevokedCardSaid:=
 Claim7.holds_tied_plain_at .later [] [.data] true (true, "0a5bf4cfdda4f0b6f93d0f43be3f98d9f32645af79d4df54a64809a6d578d50f") false z8r (fun _ h=>by cases h) (by kernel_rfl) (fun _ h=>by cases h) vaultRevoked_row_tie rfl ⟨rfl,rfl⟩ (by kernel_rfl) rfl
  (fun f fn hf hfn=>by
   obtain rfl:f=6:=zsi ((show Tryz.prog.funcNamed Rows.vaultRevokedRow.func=some 6 by kernel_rfl).symm.trans hf) |>.symm
   obtain rfl:fn=Tryz.f6:=(zsi (Tryz.func6.symm.trans hfn)).symm;exact ⟨by kernel_rfl,fun j t ht=>by
    rw [Tryz.params6] at ht;have hm:t∈[63]:=by simpa using Array.mem_of_getElem? ht
    have hall:([63].all fun u=>!Tryz.prog.wantsStandIn u)=true:=by kernel_rfl
    exact (show Tryz.prog.wantsStandIn t=false by simpa using List.all_eq_true.1 hall t hm)⟩)
  (by kernel_rfl)
end
end Go.Proofs.YtdggplhnfhcieaaGreatDoor
