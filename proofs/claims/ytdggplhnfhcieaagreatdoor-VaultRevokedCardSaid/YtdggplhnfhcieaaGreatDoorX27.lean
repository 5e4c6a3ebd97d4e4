/- No condition. -/
import Derived.Test.YtdggplhnfhcieaaGreatDoorX08
import Derived.Test.YtdggplhnfhcieaaGreatDoorX22
import Derived.Test.YtdggplhnfhcieaaGreatDoorX26
set_option linter.all false
set_option maxRecDepth 100000
set_option maxHeartbeats 16000000
namespace Go.Proofs.YtdggplhnfhcieaaGreatDoor
open Go.RowKit Go.Deep
section
section
variable {X:Nat->Prop} {base bw:Nat} {W:World} {R:RM} {c:Call} {dv:Value} {st:State} {late:Bool}
theorem YI {st:State} {s:Nm} {k:Nat} (h:Z3 st s=some k):foI st s=some k:=by
 unfold Z3 at h
 cases e:foI st s with
 | none=>rw [e] at h;cases h
 | some j=>
  rw [e] at h;dsimp only at h;split at h
  ·cases h
  exact h
theorem zOq (h:WK X base bw W R c dv st false late) {n k:Nat} (hI:VInv n st) (hk:Z3 st c.folder=some k):
  Calls Tryz.prog 100 #[.pointer (some ⟨bw,0,none⟩)] W (Did X base bw W R c dv late (st,zHi st k,false)):=by
 have HK:=zh hk;have HKL:=zh (z2i (YI hk));have HNE:=zh (hI.atF HKL.out).man;obtain ⟨w0,hw0⟩:∃w0,W.alloc (.cells zV 49)=w0:=⟨_,rfl⟩;have hN:=yA W;rw [hw0] at hN;obtain ⟨hE,B0,T0,z0⟩:=hN;have H0:=hE R h;have HW:=zh H0;have HT0:=zh T0;have HB0:=zh B0;have hlt:=H0.lt;clear hE B0 T0;have s2:w0.cell? ⟨bw,2,none⟩=some (.string c.folder):=H0.cells.1 2 _ rfl;clear h hk H0;unfold zV at hw0;go_enter Tryz.func100,Tryz.ntmps100
 go_wp2_with fail
 refine zcm (yS HW.out c.folder) ?_;rintro _ w1 ⟨⟨hno,rfl⟩ | ⟨k',_,_,hk',ha,rfl⟩,B1⟩
 ·exact absurd (HK.out.symm.trans hno) (by simp)
 obtain rfl:_=k':=zsi (HK.out.symm.trans hk');have HB1:=zh B1;have HA:=zh ha;have H1:=zh (HW.out.below B1);obtain ⟨_,_,_,_,_,_,_,_,_,_,eh,hF,_,_,_,_,_,_,_,_,_⟩:=H1.out.fold (ZO HKL.out) ha;have HE:=zh eh;clear B1 hk' ha eh hF;obtain ⟨A2,c2,A4,c4,hNC,hNow⟩:=z6a H1.out HKL.out HA.out HNE.out;have HNC:=zh hNC;have hN1:=hNow w1 zbr;rw [HE.out] at hN1;have HN1:=zh hN1;clear hNC hNow hN1;go_wp2_with fail
 refine zcm HN1.out ?_;rintro _ w2 ⟨rfl,B2⟩;obtain ⟨w3,_,cw3,_,Bw3,_⟩:=zQ w2 #[.string (zH (fo st k)).folder,.int .i64 (zH (fo st k)).seq,.slice A2 (zH (fo st k)).prev.length c2,.string (zH (fo st k)).parent,.slice A4 (zH (fo st k)).members.length c4,.int .i64 (zH (fo st k)).cut,.bool (zH (fo st k)).gone,.string (zH (fo st k)).who] 84;have x1:=cw3 1 _ rfl;have x4:=cw3 4 _ rfl;have BW:=zh (zB HB1.out (zB B2 Bw3));have H3:=zh (HW.out.below BW.out);have HK3:=zh ((BW.out.block _ z0).trans HT0.out);have K3:=HK3.out;unfold zV at K3;obtain ⟨y0,y1,y2,y3,y4,y5,y6⟩:=zC7 (zD K3).1;have yz:=(zD K3).2;have B13:=zh (zB B2 Bw3);clear K3 cw3 B2 Bw3;go_wp2;try simp only [Exit.inBlock,Exit.then]
 obtain ⟨F1,F2⟩:=Z6 HK3.out (.int .i64 0) (.int .i64 (zH (fo st k)).seq) (.string ⟨#[]⟩) (.slice none 0 0) (.slice none 0 0) (.slice A4 (zH (fo st k)).members.length c4) (.slice none 0 0);refine bodyPost_ret (zq rfl rfl F1 rfl) rfl ?_;refine Z7 H3.out (Mut.below (zB HB0.out BW.out)) (znl _) F2 ?_;obtain ⟨n1,n2,n3,n4,n5,_,_⟩:=HNC.out;have kp:Kept (Imm (fun b=>X b\/b=W.heap.size) bw R w1) (Imm (fun b=>X b\/b=W.heap.size) bw R w3) w1 w3:=(Mut.below (bw:=bw) (R:=R) B13.out).kept;have hs:Sl 2 zY (Imm (fun b=>X b\/b=W.heap.size) bw R w1) w1 (.slice A4 (zH (fo st k)).members.length c4) (zH (fo st k)).members:=⟨A4,c4,rfl,n1,by unfold maxLen;exact n2,n3,n4⟩;exact ⟨_,_,_,_,rfl,(show I64 0 from ⟨by omega,by omega⟩),n5,(show (⟨#[]⟩:Nm).size<=140737488355328 by decide),yP,yP,hs.keep ZH (by decide) kp,yP⟩
theorem zL1 {st:State} {n k:Nat} (hI:VInv n st) {s:Nm} (hk:Z3 st s=some k):(fo st k).name=s:=(Y9 (YI hk)).2.1
theorem z9h:∀{l:List Folder} {f:Folder},f∈l->ZW f<=z0x l
 | [],f,h=>by simp at h
 | x :: l,f,h=>by
  rw [z0x];rcases List.mem_cons.1 h with rfl | h
  ·omega
  ·have:=z9h h;omega
theorem WK.itSl {done:Bool} (h:WK X base bw W R c dv st done late) {k g o:Nat} (hk:k < st.folders.length) (ha:foAt R k g o):Sl 2 YB (fun _=>True) W (R (.it k)).v (fo st k).items:=by
 obtain ⟨_,_,_,_,_,_,_,_,_,_,eh,hF,_,_,_,_,_,_,_,_,_⟩:=h.fold (ZO hk) ha;obtain ⟨_,_,_,_,_,_,_,_,_,_,e,_,_,_,_,_,_,_,_,_,_,x_items_l,x_items_m,x_items_n,x_items_s,_⟩:=Z2 hF;simp only [List.cons.injEq,Value.slice.injEq,and_true,true_and] at e;obtain ⟨⟨rfl,rfl⟩,⟨rfl,rfl⟩,⟨rfl,rfl⟩,⟨rfl,rfl⟩,⟨rfl,rfl⟩⟩:=e;simp only [hdr,List.cons.injEq] at eh;rw [eh.2.2.2.2.1];exact ⟨_,_,rfl,x_items_l,x_items_m,x_items_n,x_items_s⟩
theorem z8j {n k:Nat} (hI:VInv n st) (hn:n<=41) (hk:k < st.folders.length):(zH (fo st k)).prev=[]/\(zH (fo st k)).members.length<=20/\(zH (fo st k)).parent.size<=20/\(0<=(zH (fo st k)).seq/\(zH (fo st k)).seq<=1000000)/\(0<=(fo st k).turn/\(fo st k).turn<=1000000)/\(fo st k).manifests.length<=9999/\(fo st k).epochs.length<=5000/\(fo st k).items.length<=5000/\(fo st k).links.length<=5000/\(fo st k).wraps.length<=16:=by
 have hF:=hI.atF hk;have hm:zH (fo st k)∈(fo st k).manifests:=YK hF.man;have h4:ZW (fo st k)<=z0x st.folders:=z9h (yN hk);have hs:=hI.sum;unfold ZW at h4;have hw:=zGk hF;rw [qLmx] at hw;have hu:=hI.u16;refine ⟨hF.pv _ hm,(hF.mn _ hm).2.1,(hF.mn _ hm).1,⟨hF.sq.1,by have:=hF.sq.2;omega⟩,⟨hF.tn.1,by have:=hF.tn.2;omega⟩,by omega,by omega,by omega,by omega,by omega⟩
theorem zK4 (h:WK X base bw W R c dv st false late) {n k:Nat} (hI:VInv n st) (hn:n<=41) (hk:Z3 st c.folder=some k):
  Calls Tryz.prog 90 #[.pointer (some ⟨bw,0,none⟩)] W (Did X base bw W R c dv late (z0m st c k)):=by
 have HK:=zh hk;have HKL:=zh (z2i (YI hk));have HFI:=zh (hI.atF HKL.out);have HNM:=zh (zL1 hI hk);have HA2:=zh (z8j hI hn HKL.out);have HHO:=zh (zB4 hI.names hI.tree 5 c.folder (by omega));have HTN:=zh (show 0<=st.turn/\st.turn<=1000000 from ⟨hI.turn.1,by have:=hI.turn.2;omega⟩);obtain ⟨w0,hw0⟩:∃w0,W.alloc (.cells zV 49)=w0:=⟨_,rfl⟩;have hN:=yA W;rw [hw0] at hN;obtain ⟨hE,B0,T0,z0⟩:=hN;have H0:=hE R h;have HW:=zh H0;have HT0:=zh T0;have HB0:=zh B0;have hlt:=H0.lt;clear hE B0 T0;have s2:w0.cell? ⟨bw,2,none⟩=some (.string c.folder):=H0.cells.1 2 _ rfl;have s8:w0.cell? ⟨bw,8,none⟩=some (.int .i64 st.turn):=H0.cells.1 8 _ rfl;clear h hk H0 hI;unfold zV at hw0;go_enter Tryz.func90,Tryz.ntmps90
 go_wp2_with fail
 refine zcm (yS HW.out c.folder) ?_;rintro _ _ ⟨⟨hno,rfl⟩ | ⟨k',g,o,hk',ha,rfl⟩,B1⟩
 ·exact absurd (HK.out.symm.trans hno) (by simp)
 obtain rfl:_=k':=zsi (HK.out.symm.trans hk');have HB1:=zh B1;have HA:=zh ha;have H1:=zh (HW.out.below B1);obtain ⟨_,_,_,_,D4,f4,_,_,_,_,eh,hF,u0,u1,u2,u3,u4,u5,u6,hg,_⟩:=H1.out.fold (ZO HKL.out) ha;have HE:=zh eh;clear B1 hk' ha eh hF;have HCT:=zh (show I64 (zH (fo st k)).cut from by obtain ⟨_,_,_,_,hNC,_⟩:=z6a H1.out HKL.out HA.out HFI.out.man;exact hNC.2.2.2.2.2.1);clear s2;go_wp2_with fail
 refine zcm (z5k H1.out HKL.out HA.out) ?_;rintro _ w2 ⟨rfl,B2⟩;have HB2:=zh (zB HB1.out B2);have t8:=(HB2.out.cell (p:=⟨bw,8,none⟩) hlt).trans s8;have v0:=(B2.cell (p:=⟨g,o,none⟩) hg).trans u0;have v4:=(B2.cell (p:=⟨g,o+4,none⟩) hg).trans u4;have hg2:g < w2.heap.size:=zll hg B2.size;rw [HNM.out] at v0;clear B2 u0 u1 u2 u3 u4 u5 u6 s8;by_cases hr:yW st k c.user < 4
 ·have hgd:decide (yW st k c.user < 4)=true:=decide_eq_true hr;go_wp2_with fail
  refine zcm (ZK 40 w2) ?_;rintro eq wq ⟨rfl,Bq⟩;obtain ⟨BW,H2,K2,y0,y1,y2,y3,y4,y5,y6,yz⟩:=zW HB2.out Bq HW.out z0 HT0.out;clear Bq;unfold yD;go_wp2;try simp only [Exit.inBlock,Exit.then]
  obtain ⟨F1,F2⟩:=Z6 K2.out (.int .i64 40) (.int .i64 0) (.string ⟨#[]⟩) (.slice none 0 0) (.slice none 0 0) (.slice none 0 0) (.slice none 0 0);refine bodyPost_ret (zq rfl rfl F1 rfl) rfl ?_;rw [show (z0m st c k)=(st,ZF 40,false) from by unfold z0m;simp [hr]];exact Z7 H2.out (Mut.below (zB HB0.out BW.out)) (znl _) F2 (y8 ⟨by omega,by omega⟩)
 have hgd:decide (yW st k c.user < 4)=false:=decide_eq_false hr;have HR:=zh hr;clear hr;go_wp2_with fail
 refine zcm (zGo 5 (by omega) c.folder w2 (HW.out.below HB2.out) HHO.out) ?_;rintro _ w3 ⟨rfl,B3⟩;have HB3:=zh (zB HB2.out B3);have x8:=(B3.cell (p:=⟨bw,8,none⟩) (zF t8)).trans t8;have x4:=(B3.cell (p:=⟨g,o+4,none⟩) hg2).trans v4;clear B3 t8 v0 v4;by_cases hh:1 < YN st 5 c.folder
 ·have hgh:decide (1 < (YN st 5 c.folder:Int))=true:=decide_eq_true (by omega);have HH:=zh hh;clear hh;go_wp2_with fail
  refine zcm (ZK 47 w3) ?_;rintro eq wq ⟨rfl,Bq⟩;obtain ⟨BW,H2,K2,y0,y1,y2,y3,y4,y5,y6,yz⟩:=zW HB3.out Bq HW.out z0 HT0.out;clear Bq;unfold yD;go_wp2;try simp only [Exit.inBlock,Exit.then]
  obtain ⟨F1,F2⟩:=Z6 K2.out (.int .i64 47) (.int .i64 0) (.string ⟨#[]⟩) (.slice none 0 0) (.slice none 0 0) (.slice none 0 0) (.slice none 0 0);refine bodyPost_ret (zq rfl rfl F1 rfl) rfl ?_;rw [show (z0m st c k)=(st,ZF 47,false) from by unfold z0m;rw [if_neg (by have:=HR.out;omega),if_pos (.inl (by have:=HH.out;omega))]];exact Z7 H2.out (Mut.below (zB HB0.out BW.out)) (znl _) F2 (y8 ⟨by omega,by omega⟩)
 have hgh:decide (1 < (YN st 5 c.folder:Int))=false:=decide_eq_false (by omega);have HH:=zh hh;clear hh;have HSI:=zh (show Sl 2 YB (fun _=>True) w3 (.slice D4 (fo st k).items.length f4) (fo st k).items from by
  have q:=(HW.out.below HB3.out).itSl HKL.out HA.out;have e:=HE.out;simp only [hdr,List.cons.injEq] at e;rw [<-e.2.2.2.2.1];exact q)
 go_wp2_with fail
 refine zcm (zT0 _ _ _ _ HSI.out fun x hx=>List.length_pos_iff.2 (HFI.out.it x hx).1) ?_;rintro _ w4 ⟨rfl,B4⟩;have HB4:=zh (zB HB3.out B4);have z8:=(B4.cell (p:=⟨bw,8,none⟩) (zF x8)).trans x8;clear B4 x8 x4
 cases hb:(fo st k).items.any z09 with
 | true=>
  go_wp2_with fail
  refine zcm (ZK 47 w4) ?_;rintro eq wq ⟨rfl,Bq⟩;obtain ⟨BW,H2,K2,y0,y1,y2,y3,y4,y5,y6,yz⟩:=zW HB4.out Bq HW.out z0 HT0.out;clear Bq;unfold yD;go_wp2;try simp only [Exit.inBlock,Exit.then]
  obtain ⟨F1,F2⟩:=Z6 K2.out (.int .i64 47) (.int .i64 0) (.string ⟨#[]⟩) (.slice none 0 0) (.slice none 0 0) (.slice none 0 0) (.slice none 0 0);refine bodyPost_ret (zq rfl rfl F1 rfl) rfl ?_;rw [show (z0m st c k)=(st,ZF 47,false) from by unfold z0m;rw [if_neg (by have:=HR.out;omega),if_pos (.inr hb)]]
  exact Z7 H2.out (Mut.below (zB HB0.out BW.out)) (znl _) F2 (y8 ⟨by omega,by omega⟩)
 | false=>
  have H4:=zh (HW.out.below HB4.out);have zf:∀q,w4.frozen? ⟨bw,q,none⟩=false:=H4.out.cells.2;have hwt:IntKind.i64.wrap (st.turn+1)=st.turn+1:=by rw [IntKind.wrap_i64];have:=HTN.out;omega
  go_wp2_with fail
  obtain ⟨h5,m5⟩:=H4.out.setTurn (st.turn+1) ⟨by have:=HTN.out;omega,by have:=HTN.out;omega⟩;have H5:=zh h5;have M5:=zh m5;have HK5:=zh (zR (a:=⟨bw,8,none⟩) (.int .i64 (st.turn+1)) ((HB4.out.block _ z0).trans HT0.out) (fun e=>H4.out.nx W.heap.size (.inr e) (.inr rfl)));obtain ⟨a1,a2,a3,a4,a5,a6,_⟩:=HA2.out;have HQ:=zh (zHd h5 (k:=k) HKL.out HA.out rfl a1 (by have:(zH (fo st k)).members.length<=20:=a2;show (zH (fo st k)).members.length<=10000;omega) a4 a5 a6 (by show (zH (fo st k)).parent.size<=_;omega) HCT.out);have HI64:=zh (show I64 ((zH (fo st k)).seq+1) from ⟨by omega,by omega⟩);clear h5 m5 a1 a2 a3 a4 a5 a6;have HN9:=zh (fun e=>H5.out.nx W.heap.size e (.inr rfl));refine zcm (HQ.out) ?_;rintro _ _ ⟨rfl,_,H10,M10,E10⟩;have HK10:=zh ((M10.but.block _ (zO HK5.out) (fun e=>HN9.out (e.symm.imp id id))).trans HK5.out);have K10:=HK10.out;unfold zV at K10;obtain ⟨y0,y1,y2,y3,y4,y5,y6⟩:=zC7 (zD K10).1;have yz:=(zD K10).2;have HH10:=zh H10;have HM10:=zh M10;clear H10 M10 K10 E10;unfold yD;go_wp2;try simp only [Exit.inBlock,Exit.then]
  obtain ⟨F1,F2⟩:=Z6 HK10.out (.int .i64 0) (.int .i64 ((zH (fo st k)).seq+1)) (.string ⟨#[]⟩) (.slice none 0 0) (.slice none 0 0) (.slice none 0 0) (.slice none 0 0);refine bodyPost_ret (zq rfl rfl F1 rfl) rfl ?_;rw [show z0m st c k=({ setF st k (y9 (fo st k) { zH (fo st k) with gone:=true } c.user) with turn:=st.turn+1 },YO ((zH (fo st k)).seq+1),true) from by unfold z0m;rw [if_neg (by have:=HR.out;omega),if_neg (fun e=>e.elim (fun e=>by have:=HH.out;omega) (fun e=>by rw [hb] at e;cases e))];rfl];exact Z7 HH10.out (((Mut.below (zB HB0.out HB4.out)).trans M5.out).trans HM10.out) (znl _) F2 (z2t HI64.out)
end
end
section
theorem zP2 {st:State} {u f:Nm} {n:Int} (h:IsReach st u f n):reachN st u f=n:=by
 unfold reachN;rw [dif_pos ⟨n,h⟩];exact (Classical.choose_spec (p:=fun n=>IsReach st u f n) ⟨n,h⟩).one h
theorem z9l (s:Nm):∀l:List Nm,(z75 s l).Perm (s :: l)
 | []=>List.Perm.refl _
 | x :: r=>by
  rw [z75];split
  ·exact List.Perm.refl _
  ·exact ((z9l s r).cons x).trans (List.Perm.swap s x r)
theorem zAn {s:Nm}:∀{l:List Nm},(l.Pairwise fun a b=>ltS b a=false)->(z75 s l).Pairwise fun a b=>ltS b a=false
 | [],_=>List.pairwise_singleton _ _
 | x :: r,h=>by
  rw [z75];obtain ⟨h1,h2⟩:=List.pairwise_cons.1 h;split
  ·rename_i hlt;refine List.pairwise_cons.2 ⟨fun y hy=>?_,h⟩;rcases List.mem_cons.1 hy with rfl | hy
   ·cases hc:ltS y s
    ·rfl
    ·exact absurd (YP hc hlt) (by rw [YV];simp)
   ·cases hc:ltS y s
    ·rfl
    ·have:=h1 y hy;rw [YP hc hlt] at this;cases this
  ·rename_i hlt;refine List.pairwise_cons.2 ⟨fun y hy=>?_,zAn h2⟩;rcases List.mem_cons.1 ((z9l s r).subset hy) with rfl | hy
   ·simpa using hlt
   ·exact h1 y hy
theorem zEu:∀(l a:List Nm),(a.Pairwise fun a b=>ltS b a=false)->(l.foldl (fun a s=>z75 s a) a).Perm (a++l)/\(l.foldl (fun a s=>z75 s a) a).Pairwise fun a b=>ltS b a=false
 | [],a,h=>⟨by simp,h⟩
 | s :: l,a,h=>by
  rw [List.foldl_cons];obtain ⟨h1,h2⟩:=zEu l (z75 s a) (zAn h);refine ⟨h1.trans (((z9l s a).append_right l).trans ?_),h2⟩;exact List.perm_middle.symm
theorem zEv (l:List Nm):(zEe l).Perm l/\(zEe l).Pairwise fun a b=>ltS b a=false:=zEu l [] List.Pairwise.nil
theorem zMu {l1 l2:List Nm} (h1:l1.Pairwise fun a b=>ltS b a=false) (h2:l2.Pairwise fun a b=>ltS b a=false) (hp:l1.Perm l2):l1=l2:=by
 refine hp.eq_of_pairwise (le:=fun a b=>ltS b a=false) (fun a b _ _ ha hb=>?_) h1 h2;rcases z18 a b with h | h | h
 ·rw [h] at hb;cases hb
 ·exact h
 rw [h] at ha;cases ha
theorem zP3 {α:Type} {k:Nat} {Q:Rp α} {S T:Nat->Prop} {w:World} {v:Value} {l:List α} (ok:RpOk k Q) (h:Sl k Q S w v l) (hQ:∀cs x,Q S w cs x->Q T w cs x) (hk:∀b,v.ownBlock=some b->T b):Sl k Q T w v l:=by
 obtain ⟨A,c,rfl,h1,h2,h3,h4⟩:=h;refine ⟨A,c,rfl,h1,h2,h3,fun i x hx=>?_⟩;obtain ⟨b,o,ys,rfl,_,a2,a3,a4⟩:=h4 i x hx;exact ⟨b,o,ys,rfl,hk b rfl,a2,a3,hQ _ _ a4⟩
section
variable {X:Nat->Prop} {base bw:Nat} {W W':World} {R R':RM} {c:Call} {dv:Value} {st:State} {done late:Bool}
theorem zEw (h:WK X base bw W R c dv st done late) {n k g o:Nat} (hI:VInv n st) (hn:n<=41) (hu:c.user.size<=1000) (hk:Z3 st c.folder=some k) (ha:foAt R k g o):
  Calls Tryz.prog 148 #[.pointer (some ⟨bw,0,none⟩),.pointer (some ⟨g,o,none⟩)] W fun e w'=>e= .returned (.bool (z4n st c k))/\Below W.heap.size W w':=by
 have HKL:=zh (z2i (YI hk));have HNM:=zh (zL1 hI hk);have HOK:=zh (zI3 (hI.small hn));have HW:=zh h;have HEP:=zh (show ∀W':World,Below W.heap.size W W'->Calls Tryz.prog 158 #[.pointer (some ⟨g,o,none⟩)] W' fun e w'=>e= .returned (.int .i64 (fo st k).epochs.length)/\Below W'.heap.size W' w' from fun W' hb=>(z2z (h.below hb) HKL.out ha).mono (by rintro e w' ⟨rfl,rfl⟩;exact ⟨rfl,Below.refl _ _⟩));have t8:=h.cells.1 8 _ rfl;have t9:=h.cells.1 9 _ rfl;have t10:=h.cells.1 10 _ rfl;have t11:=h.cells.1 11 _ rfl;have t1:=h.cells.1 1 _ rfl;obtain ⟨_,_,_,_,_,_,_,_,_,_,eh,hF,u0,u1,u2,u3,u4,u5,u6,_,gz⟩:=h.fold (ZO HKL.out) ha;rw [HNM.out] at u0;clear h ha hI hk eh hF u1 u2 u3 u4 u5 u6 gz;go_enter Tryz.func148,Tryz.ntmps148
 go_upto_region 1 with fail
 have HSQ:=zh (show ∀W':World,Below W.heap.size W W'->(fun W':World=>Below W.heap.size W W'/\W'.cell? ⟨bw,8,none⟩=some (.int .i64 st.turn)/\W'.cell? ⟨bw,9,none⟩=some ((R .us).v)/\W'.cell? ⟨bw,10,none⟩=some ((R .de).v)/\W'.cell? ⟨bw,11,none⟩=some ((R .fo).v)/\W'.cell? ⟨bw,1,none⟩=some (.string c.user)/\W'.cell? ⟨g,o,none⟩=some (.string c.folder)) W' from fun W' hW=>⟨hW,(hW.cell (p:=⟨bw,8,none⟩) (zF t8)).trans t8,(hW.cell (p:=⟨bw,9,none⟩) (zF t9)).trans t9,(hW.cell (p:=⟨bw,10,none⟩) (zF t10)).trans t10,(hW.cell (p:=⟨bw,11,none⟩) (zF t11)).trans t11,(hW.cell (p:=⟨bw,1,none⟩) (zF t1)).trans t1,(hW.cell (p:=⟨g,o,none⟩) (zF u0)).trans u0⟩);refine zE (by kernel_rfl) HSQ.out (fun hHeld=>?_);refine zi 0 ?_;iterate 13 (refine zt hHeld ?_;simp only [zA])
 refine zo ?_;refine zT 14 hHeld ?_;simp only [zA];refine zr 13 fun K hK=>?_
 go_simp;go_at_call 179
 refine zcm (zBp st c.user c.folder _ _ (fun _=>True) (HW.out.below (zbr.drew)).state HOK.out hu) ?_;rintro e3 w3 ⟨⟨_,rfl,hr3⟩,b3⟩;have Bw3:Below W.heap.size W w3:=zB (zbr.drew) b3;clear b3 hHeld;refine hK.out _ _ (HSQ.out _ Bw3) (fun hHeld=>?_);clear hK K;refine zr 15 fun K hK=>?_
 go_simp;go_at_call 158
 refine zcm (HEP.out _ (Bw3)) ?_;rintro e3 w4 ⟨rfl,b3⟩;have Bw4:Below W.heap.size W w4:=zB (Bw3) b3;clear b3 hHeld;refine hK.out _ _ (HSQ.out _ Bw4) (fun hHeld=>?_);clear hK K;refine zi 16 ?_;iterate 2 (refine zt hHeld ?_;simp only [zA])
 refine zo ?_;refine wpAnyH_done (by kernel_rfl) ?_ _;clear hHeld HSQ;have HR3:=zh (zP2 hr3);have HB:=zh Bw4;clear hr3 Bw3 Bw4;go_wp2;go_ret;refine ⟨ZM ?_,HB.out⟩;unfold z4n;rw [HR3.out]
end
end
section
def z6c (c:Call):Bool:=z4y ZA c.kind c.user c.folder c.name c.other c.role c.version c.data.length
theorem zGv {s:Nm} (h:z2l s=true):s=⟨#[]⟩:=by simpa [z2l] using h
theorem z7e {c:Call} (h:z6c c=true) (hu:c.user.size<=20) (hf:c.folder.size<=20) (hn:c.name.size<=20) (ho:c.other.size<=20):CallOk c/\c.data.length<=512:=by
 unfold z6c at h;rw [zOx ZA (by rfl) _ _ _ _ _ _ _ _ (by omega)] at h;unfold zDq at h;rw [qBqx,qBqx,qBqx,qBqx,qBqx,qBqx,qBqx,qBqx,qBqx,qBqx] at h;obtain ⟨⟨⟨⟨⟨⟨⟨⟨⟨⟨h1,h2⟩,h3⟩,h4⟩,h5⟩,h6⟩,_⟩,_⟩,h9⟩,h10⟩,h11⟩:=h;have k1:1<=c.kind:=by simpa using h2
 have k16:c.kind<=16:=by simpa using h3
 refine ⟨⟨hu,hf,hn,ho,h1,k1,k16,fun a b=>?_,fun a=>?_,fun a b=>?_,fun a=>?_,fun a=>?_,fun a=>?_,fun a=>?_,fun a=>?_,?_⟩,?_⟩
 ·rwa [if_neg (by omega)] at h5
 ·rw [if_pos a] at h5;cases he:z2l c.folder
  ·rw [he] at h5;simp at h5
  exact zGv he
 ·rwa [if_neg (by omega),if_pos ⟨a,b⟩] at h6
 ·rw [if_pos (a.imp id fun e=>by omega)] at h5;cases he:z2l c.other
  ·rw [he,show (decide (c.kind=1) || decide (c.kind=15))=true by simpa using a] at h5;simp at h5
  exact zGv he
 ·intro e;rw [if_pos (.inl a),e,a] at h6;simp at h6
 ·rw [if_pos a] at h9;simpa using h9
 ·rw [if_neg (by omega)] at h9;simpa using h9
 ·rw [show (decide (c.kind=14) || decide (c.kind=16))=true by simpa using a] at h4;cases he:ZA c.other
  ·rw [he] at h4;simp at h4
  rfl
 ·by_cases k9:c.kind=9
  ·rw [if_pos k9] at h10;simpa using h10
  rw [if_neg k9] at h10;have:c.version=0:=by simpa using h10
  omega
 simp only [Bool.or_eq_true,qBqx,decide_eq_true_eq] at h11;omega
structure Ok3 (st:State) (r:Res):Prop where
 same:r.2.2=false->r.1=st
 err:r.2.1.err≠0->r.2.1=ZF r.2.1.err/\r.2.2=false
section
variable {st st':State} {a:Answer} {e n:Int}
theorem YA:Ok3 st (st,ZF e,false):=⟨fun _=>rfl,fun _=>⟨rfl,rfl⟩⟩
theorem zLa:Ok3 st (st,YO n,false):=⟨fun _=>rfl,fun h=>absurd rfl h⟩
theorem z3g:Ok3 st (st',YO n,true):=⟨fun h=>(by cases h),fun h=>absurd rfl h⟩
theorem zB9 (h:a.err≠0->a=ZF a.err):Ok3 st (st,a,false):=⟨fun _=>rfl,fun k=>⟨h k,rfl⟩⟩
theorem ZS {p:Prop} [Decidable p] {x y:Res} (hx:Ok3 st x) (hy:Ok3 st y):Ok3 st (if p then x else y):=by
 split
 ·exact hx
 exact hy
end
theorem zBa {p:Prop} [Decidable p] {x y:Answer} (hx:x.err≠0->x=ZF x.err) (hy:y.err≠0->y=ZF y.err):(if p then x else y).err≠0->(if p then x else y)=ZF (if p then x else y).err:=by
 split
 ·exact hx
 exact hy
theorem z5d (e:Int):(ZF e).err≠0->ZF e=ZF (ZF e).err:=fun _=>rfl
theorem zRh (st:State) (c:Call) (late:Bool):Ok3 st (yY st c late):=by
 unfold yY;refine ZS YA ?_;unfold doR;dsimp only;refine ZS ?_ (ZS ?_ (ZS ?_ (ZS ?_ (ZS ?_ (ZS ?_ (ZS ?_ (ZS ?_ (ZS ?_ (ZS ?_ (ZS ?_ (ZS ?_ (ZS ?_ ?_))))))))))))
 ·exact ZS YA (ZS YA z3g)
 ·exact ZS YA (ZS YA (ZS YA z3g))
 ·exact ZS YA (ZS zLa (ZS YA (ZS YA z3g)))
 ·exact ZS YA (ZS YA z3g)
 ·exact ZS YA (ZS zLa z3g)
 ·unfold z2s;refine ZS YA ?_;split
  ·exact ZS YA z3g
  exact ZS YA z3g
 ·refine zB9 ?_;unfold z4x;split
  ·exact z5d _
  dsimp only;split
  ·exact z5d _
  exact zBa (z5d _) (zBa (z5d _) fun h=>absurd rfl h)
 ·refine zB9 ?_;unfold z6j;exact zBa (z5d _) fun h=>absurd rfl h
 ·unfold z2p;refine ZS YA ?_;split
  ·exact YA
  exact ZS YA (ZS YA z3g)
 ·refine zB9 ?_;unfold z1c;refine zBa (z5d _) ?_;split
  ·exact z5d _
  exact fun h=>absurd rfl h
 ·exact ZS YA z3g
 ·exact z3g
 ·exact ZS YA (ZS YA z3g)
 exact zB9 fun h=>absurd rfl h
noncomputable def doV (st:State) (q r:Int) (c:Call) (late:Bool):State×Answer:=
 if (yY st c late).2.2 then (if c.kind≠15/\c.kind≠16/\Bd.fitsOf (yY st c late).1 q r≠0 then (st,ZF (Bd.fitsOf (yY st c late).1 q r)) else ((yY st c late).1,(yY st c late).2.1))
 else (st,(yY st c late).2.1)
noncomputable def ZU (st:State) (q r:Int) (c:Call):State×Answer:=if z6c c then doV st q r c false else (st,ZF 13)
theorem zPa {n:Nat} {st:State} {q r:Int} {c:Call} {late:Bool} (h:VInv n st) (hc:CallOk c):VInv (n+1) (doV st q r c late).1:=by
 unfold doV;refine zM (fun _=>zM (fun _=>h.mono (by omega)) fun _=>zEl h hc) fun _=>h.mono (by omega)
theorem zPb {n:Nat}:∀{l:List Item},(∀x∈l,x.versions.length<=n)->Bd.verCount l<=n*l.length
 | [],_=>by simp [Bd.verCount]
 | x :: l,h=>by
  have h1:=h x (List.mem_cons_self ..);have h2:=zPb (l:=l) fun y hy=>h y (zmc _ hy)
  simp only [Bd.verCount,List.length_cons,Nat.mul_succ];omega
theorem zIz (g:Folder->Nat) (a b:Nat):∀{l:List Folder},(∀f∈l,g f<=a*ZW f+b)->Bd.sumOf g l<=a*z0x l+b*l.length
 | [],_=>by simp [Bd.sumOf]
 | x :: l,h=>by
  have h1:=h x (List.mem_cons_self ..);have h2:=zIz g a b (l:=l) fun y hy=>h y (zmc _ hy)
  simp only [Bd.sumOf,z0x,List.length_cons,Nat.mul_succ,Nat.mul_add];omega
theorem zPc {n:Nat} {st:State} (h:VInv n st) (hn:n<=41):Bd.smallOf st<=1000000/\Bd.largeOf st<=1000000:=by
 have h1:=h.few;have h2:=h.sum;have hs:Bd.sumOf Bd.small1 st.folders<=1*z0x st.folders+16*st.folders.length:=zIz _ 1 16 fun f hf=>by
  obtain ⟨k,hk,e⟩:=List.getElem_of_mem hf;have hfo:fo st k=f:=by unfold fo;rw [qLgx hk,e];rfl
  have:=z8j h hn hk;rw [hfo] at this;unfold Bd.small1 ZW;omega
 have hl:Bd.sumOf Bd.large1 st.folders<=42*z0x st.folders+0*st.folders.length:=zIz _ 42 0 fun f hf=>by
  have hF:=h.fol f hf;have hv:=zPb (n:=41) (l:=f.items) fun x hx=>by have:=(hF.it x hx).2.1;omega
  unfold Bd.large1 ZW;omega
 unfold Bd.smallOf Bd.largeOf;omega
end
section
def D5 (f:Folder):Prop:=∀x∈f.items,∀v∈x.versions,v.data.length<=512
def yX (st:State):Prop:=∀f∈st.folders,D5 f
section
variable {st:State} {c:Call} {f f':Folder} {k:Nat}
theorem zFt (h:D5 f) (e:f'.items=f.items):D5 f':=by
 unfold D5;rw [e];exact h
theorem zAr (h:yX st) (k:Nat):D5 (fo st k):=by
 unfold fo
 cases hk:st.folders[k]? with
 | none=>exact fun x hx=>by simp [yH] at hx
 | some f=>exact h f (zmg hk)
theorem zUt (h:D5 f) (j:Nat):∀v∈(ZX f j).versions,v.data.length<=512:=by
 unfold ZX
 cases hk:f.items[j]? with
 | none=>exact fun v hv=>by simp at hv
 | some x=>exact h x (zmg hk)
theorem z88 (h:yX st) (hf:D5 f'):yX (setF st k f'):=fun g hg=>by
 rcases List.mem_or_eq_of_mem_set hg with e | e
 ·exact h g e
 ·rw [e];exact hf
theorem zFu (h:yX st) {k:Nat}:yX (yJ st k):=z88 h (zFt (zAr h k) (z3y st _ _).it)
theorem zTd (h:yX st) (k:Nat) (who:Nm):yX (YR st k who):=z88 h (zFt (zFt (zAr h k) rfl) (z4v _ _ _).it)
theorem zS5 (h:yX st) (k:Nat) (i:Option Nat) (name:Nm) (v:Version) (hv:v.data.length<=512):yX (z4b st k i name v).1:=by
 unfold z4b
 cases i with
 | none=>
  refine z88 h fun x hx=>?_
  rcases zmb hx with e | e
  ·exact zAr h k x e
  rw [zml e];intro w hw;rw [zml hw]
  exact hv
 | some j=>
  refine z88 h fun x hx=>?_
  rcases List.mem_or_eq_of_mem_set hx with e | e
  ·exact zAr h k x e
  rw [e];intro w hw;rcases zmb hw with e2 | e2
  ·exact zUt (zAr h k) j w e2
  rw [zml e2];exact hv
theorem zPd (h:yX st) (s:Nm) (b:Bool):yX (lostS st s b):=by
 unfold lostS;split
 ·exact h
 exact h
theorem zPe (h:yX st) (hd:c.data.length<=512) (late:Bool):yX (yY st c late).1:=by
 unfold yY;refine zM (fun _=>h) fun _=>?_
 unfold doR;dsimp only;refine zM (fun _=>?_) fun _=>zM (fun _=>?_) fun _=>zM (fun _=>?_) fun _=>zM (fun _=>?_) fun _=>zM (fun _=>?_) fun _=>zM (fun _=>?_) fun _=>zM (fun _=>h) fun _=>zM (fun _=>h) fun _=>zM (fun _=>?_) fun _=>zM (fun _=>h) fun _=>zM (fun _=>?_) fun _=>zM (fun _=>?_) fun _=>zM (fun _=>?_) fun _=>h
 ·unfold YS;exact zM (fun _=>h) fun _=>zM (fun _=>h) fun _=>h
 ·unfold YH;refine zM (fun _=>h) fun _=>zM (fun _=>h) fun _=>zM (fun _=>h) fun _=>?_
  unfold z1v;refine zFu (z88 (fun g hg=>?_) fun x hx=>by simp [ZI] at hx);rcases zmb hg with e | e
  ·exact h g e
  rw [zml e];exact fun x hx=>by simp [ZI] at hx
 ·unfold z2o;refine zM (fun _=>h) fun _=>zM (fun _=>h) fun _=>zM (fun _=>h) fun _=>zM (fun _=>h) fun _=>?_
  generalize (Z3 st c.folder).getD 0=k;exact zFu (st:=setF st k (y9 (fo st k) { zH (fo st k) with parent:=c.other,cut:=(zH (fo st k)).seq+1 } c.user)) (z88 h (zFt (zAr h k) rfl))
 ·unfold z0m;exact zM (fun _=>h) fun _=>zM (fun _=>h) fun _=>z88 h (zFt (zAr h _) rfl)
 ·generalize (Z3 st c.folder).getD 0=k;unfold Y2;dsimp only;refine zM (fun _=>h) fun _=>zM (fun _=>h) fun _=>z88 h (zFt (f:=fo st k) (zAr h k) ?_)
  unfold y9;dsimp only;split<;>rfl
 ·have hp:yX (z1r st c ((Z3 st c.folder).getD 0)).1:=by
   unfold z1r;refine zS5 (zFu ?_) _ _ _ _ hd;split
   ·exact zTd h _ _
   ·exact h
  unfold z2s;refine zM (fun _=>h) fun _=>?_
  split
  ·exact zM (fun _=>h) fun _=>hp
  exact zM (fun _=>h) fun _=>hp
 ·unfold z2p;refine zM (fun _=>h) fun _=>?_
  split
  ·exact h
  exact zM (fun _=>h) fun _=>zM (fun _=>h) fun _=>zS5 h _ _ _ _ (by simp)
 ·unfold z1d;exact zM (fun _=>h) fun _=>h
 ·unfold z99;exact zPd h _ _
 unfold z0h;exact zM (fun _=>h) fun _=>zM (fun _=>h) fun _=>zPd h _ _
end
end
section
structure VS (P:Nat->Prop) (bv:Nat) (w:World) (st:State) (q r:Int):Prop where
 box:∃v1 v2 v3,w.heap[bv]? =some (.cells #[.int .i64 st.turn,v1,v2,v3,.int .i64 q,.int .i64 r,.bool true] 95 (0,0))/\yB (fun b=>¬P b) w [.int .i64 st.turn,v1,v2,v3] st
 pb:P bv
 pl:∀b,P b->b < w.heap.size
section
variable {P:Nat->Prop} {bv:Nat} {w w':World} {st:State} {q r:Int}
theorem VS.lt (h:VS P bv w st q r):bv < w.heap.size:=by
 obtain ⟨_,_,_,h1,_⟩:=h.box;exact zO h1
theorem VS.below (h:VS P bv w st q r) (hb:Below w.heap.size w w'):VS P bv w' st q r:=by
 obtain ⟨v1,v2,v3,h1,h2⟩:=h.box;exact ⟨⟨v1,v2,v3,by rw [hb.block bv h.lt];exact h1,Z0 h2 (zK hb)⟩,h.pb,fun b hp=>zll (h.pl b hp) hb.size⟩
theorem zBb {n:Nat} (hI:VInv n st) (hn:n<=41) (hd:yX st):CopyOk st:=by
 have hf:=hI.few;have hu:=hI.u16;refine ⟨by omega,by omega,by omega,fun f hf=>?_,fun f hf m hm=>?_,fun f hf e he=>?_,fun f hf x hx=>⟨?_,fun v hv=>?_⟩⟩
 ·obtain ⟨k,hk,e⟩:=List.getElem_of_mem hf;have hfo:fo st k=f:=by unfold fo;rw [qLgx hk,e];rfl
  have:=z8j hI hn hk;rw [hfo] at this;omega
 ·have:=((hI.fol f hf).mn m hm).2.1;omega
 ·have:=((hI.fol f hf).ec e he).1;omega
 ·have:=((hI.fol f hf).it x hx).2.1;omega
 have:=hd f hf x hx v hv;omega
theorem z9n (h:VS P bv w st q r) (ok:CopyOk st):
  Calls Tryz.prog 19 #[.pointer (some ⟨bv,0,none⟩)] w fun e w'=>∃cs:List Value,e= .returned (.agg cs.toArray)/\yB (fun b=>¬P b) w' cs st/\Below w.heap.size w w':=by
 obtain ⟨_,_,_,h1,h2⟩:=h.box;have hlt:=h.lt;have HPL:=zh h.pl;obtain ⟨A1,c1,A2,c2,A3,c3,e3,_⟩:=ZP h2;simp only [List.cons.injEq,true_and,and_true] at e3;obtain ⟨rfl,rfl,rfl⟩:=e3;obtain ⟨w0,hw0,cw0,fw0,Bw0,qw0⟩:=zQ w #[.int .i64 0,.slice none 0 0,.slice none 0 0,.slice none 0 0] 34;have HR0:=zh (zbx hw0);have HB0:=zh Bw0;have h1':=(Bw0.block bv hlt).trans h1;obtain ⟨s0,s1,s2,s3⟩:=zC4 (zD h1').1;have hz0:w0.heap.size=w.heap.size+1:=by rw [<-hw0,World.size_alloc]
 have HZ0:=zh hz0;have HC:=zh (zEz st [.int .i64 st.turn,.slice A1 st.users.length c1,.slice A2 st.deposits.length c2,.slice A3 st.folders.length c3] w0 (fun b=>¬P b/\b < w.heap.size) (Z0 h2 fun b hb hl=>⟨⟨hb,hl⟩,Bw0.block b hl⟩) ok);clear hz0 h h1 h1' h2 ok cw0 fw0 Bw0;go_enter Tryz.func19,Tryz.ntmps19
 go_wp2_with fail
 refine zcm HC.out ?_;rintro e1 _ ⟨R,rfl,B1,os,is⟩;obtain ⟨E1,n1,p1,he1⟩:=(os.row .us).shape3;obtain ⟨E2,n2,p2,he2⟩:=(os.row .de).shape3;obtain ⟨E3,n3,p3,he3⟩:=(os.row .fo).shape3;have HRS:=zh (is.stateS os);have HOS:=zh os;have HR1:=zh ((B1.block _ qw0).trans HR0.out);have HB1:=zh (zB HB0.out B1);rw [he1,he2,he3];rw [he1,he2,he3] at HRS;obtain ⟨b0,b1,b2,b3⟩:=zC4 (zD HR1.out).1;have bz:=(zD HR1.out).2;clear os is B1 s0 s1 s2 s3 he1 he2 he3;go_wp2;try simp only [Exit.inBlock,Exit.then]
 obtain ⟨F1,F2⟩:=zP9 HR1.out (.int .i64 st.turn) (.slice E1 n1 p1) (.slice E2 n2 p2) (.slice E3 n3 p3);refine bodyPost_ret (results_cell_row rfl _ _ w.heap.size 34 _ (0,0) _ rfl F1 Tryz.underlying34 rfl (by kernel_rfl)) rfl ?_;have hlow:∀b,Y7 R b->w.heap.size+1<=b:=fun b ⟨k,e⟩=>by rw [<-HZ0.out];exact HOS.out.low k b e
 refine ⟨_,rfl,Z0 HRS.out fun b hb hl=>?_,(((HB1.out.setCell (znl _) _).setCell (znl _) _).setCell (znl _) _).setCell (znl _) _⟩;rcases hb with e | ⟨_,_,e⟩
 ·have:=hlow b e;exact ⟨fun hp=>by have:=HPL.out b hp;omega,F2 b (by omega)⟩
 by_cases hl0:b < w0.heap.size
 ·obtain ⟨e1,_⟩:=e hl0;exact ⟨e1,F2 b (by omega)⟩
 rw [HZ0.out] at hl0;exact ⟨fun hp=>by have:=HPL.out b hp;omega,F2 b (by omega)⟩
theorem zPf (w:World) (q r:Int):VS (fun b=>b=w.heap.size) w.heap.size (w.alloc (.cells #[.int .i64 0,.slice none 0 0,.slice none 0 0,.slice none 0 0,.int .i64 q,.int .i64 r,.bool true] 95)) ⟨0,[],[],[]⟩ q r:=
 ⟨⟨.slice none 0 0,.slice none 0 0,.slice none 0 0,zJ _ rfl,_,_,_,rfl,⟨by show (_:Int)<=0;omega,by show (0:Int)<=_;omega⟩,yP,yP,yP⟩,rfl,fun b hb=>by have:b=w.heap.size:=hb;rw [World.size_alloc];omega⟩
theorem zJ0 (w:World) (q r:Int) (hq:0<=q/\0<=r):
  Calls Tryz.prog 10 #[.int .i64 q,.int .i64 r] w fun e w'=>e= .returned (.tuple #[.pointer (some ⟨w.heap.size,0,none⟩),.int .i64 0])/\VS (fun b=>b=w.heap.size) w.heap.size w' ⟨0,[],[],[]⟩ q r/\Below w.heap.size w w':=by
 have h1:decide (q < 0)=false:=decide_eq_false (by omega);have h2:decide (r < 0)=false:=decide_eq_false (by omega);have HV:=zh (zPf w q r);have HB:=zh (show Below w.heap.size w (w.alloc (.cells #[.int .i64 0,.slice none 0 0,.slice none 0 0,.slice none 0 0,.int .i64 q,.int .i64 r,.bool true] 95)) from Below.alloc zbr (znl _) _);clear hq;go_enter Tryz.func10,Tryz.ntmps10
 go_wp2;refine bodyPost_ret (results_tmp2 rfl _ _ _) rfl ?_;exact ⟨rfl,HV.out,HB.out⟩
end
end
end Go.Proofs.YtdggplhnfhcieaaGreatDoor
