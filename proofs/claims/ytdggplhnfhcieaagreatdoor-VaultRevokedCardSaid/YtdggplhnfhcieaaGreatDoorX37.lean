/- No condition. -/
import Derived.Test.YtdggplhnfhcieaaGreatDoorX28
import Derived.Test.YtdggplhnfhcieaaGreatDoorX33
import Derived.Test.YtdggplhnfhcieaaGreatDoorX34
import Derived.Test.YtdggplhnfhcieaaGreatDoorX35
set_option linter.all false
set_option maxRecDepth 100000
set_option maxHeartbeats 16000000
namespace Go.Proofs.YtdggplhnfhcieaaGreatDoor
open Go.RowKit Go.Deep
theorem yG {S:Nat->Prop} {w:World} {cs:Array Value} {a:Answer} (h:YY S w cs.toList a):∃A3 c3 A4 c4 A5 c5 A6 c6,cs=#[.int .i64 a.err,.int .i64 a.number,.string a.who,.slice A3 a.data.length c3,.slice A4 a.names.length c4,.slice A5 a.members.length c5,.slice A6 a.history.length c6]:=by
 obtain ⟨_,_,_,_,e,_,_,_,d3,d4,d5,d6⟩:=h;obtain ⟨A3,c3,rfl,_⟩:=d3;obtain ⟨A4,c4,rfl,_⟩:=d4;obtain ⟨A5,c5,rfl,_⟩:=d5;obtain ⟨A6,c6,rfl,_⟩:=d6;exact ⟨A3,c3,A4,c4,A5,c5,A6,c6,by rw [<-e]⟩
section
section
variable {X:Nat->Prop} {base bw:Nat} {W W':World} {R R':RM} {c:Call} {dv:Value} {st:State} {done late:Bool}
theorem zUf (h:WK X base bw W R c dv st false late) {n:Nat} (hI:VInv n st) (hn:n<=40) (hc:CallOk c) (hd:c.data.length<=512) (hkd:c.kind=1):
  Calls Tryz.prog 55 #[.pointer (some ⟨bw,0,none⟩)] W (Did X base bw W R c dv late (doR st c)):=by
 rw [show doR st c=YS st c from by unfold doR;dsimp only;simp only [hkd];rfl];have HVI:=zh hI;obtain ⟨w0,hw0⟩:∃w0,W.alloc (.cells zV 49)=w0:=⟨_,rfl⟩;have hN:=yA W;rw [hw0] at hN;obtain ⟨hE,B0,T0,_⟩:=hN;have H0:=hE R h;have HW:=zh H0;have HT0:=zh T0;have HB0:=zh B0;have hlt:=H0.lt;clear hE B0 T0;have s0:w0.cell? ⟨bw,0,none⟩=some (.int .i64 1):=by rw [<-hkd];exact H0.cells.1 0 _ rfl
 have hcon:=zHf H0 (by have:=HVI.out.u16;omega);generalize YS st c=r at hcon⊢;obtain ⟨_,a,_⟩:=r;have HCON:=zh hcon;clear hcon h H0 hI hc hkd hd;unfold zV at hw0;go_enter Tryz.func55,Tryz.ntmps55
 go_wp2_with fail
 refine zcm HCON.out ?_;rintro _ _ ⟨_,rfl,_,hK1,m1,ha⟩;obtain ⟨A3,c3,A4,c4,A5,c5,A6,c6,rfl⟩:=yG ha;have HA:=zh ha;have H1:=zh hK1;have HM1:=zh m1;have HK1:=zh ((Mut.own HW.out HM1.out (.inr rfl)).trans HT0.out);have K1:=HK1.out;unfold zV at K1;obtain ⟨y0,y1,y2,y3,y4,y5,y6⟩:=zC7 (zD K1).1;have yz:=(zD K1).2;clear K1 ha hK1 m1;go_wp2;try simp only [Exit.inBlock,Exit.then]
 obtain ⟨F1,F2⟩:=Z6 HK1.out (.int .i64 a.err) (.int .i64 a.number) (.string a.who) (.slice A3 a.data.length c3) (.slice A4 a.names.length c4) (.slice A5 a.members.length c5) (.slice A6 a.history.length c6);refine bodyPost_ret (zq rfl rfl F1 rfl) rfl ?_;exact Z7 H1.out ((Mut.below HB0.out).trans HM1.out) (znl _) F2 HA.out
theorem zUg (h:WK X base bw W R c dv st false late) {n:Nat} (hI:VInv n st) (hn:n<=40) (hc:CallOk c) (hd:c.data.length<=512) (hkd:c.kind=2):
  Calls Tryz.prog 55 #[.pointer (some ⟨bw,0,none⟩)] W (Did X base bw W R c dv late (doR st c)):=by
 rw [show doR st c=YH st c from by unfold doR;dsimp only;simp only [hkd];rfl];have HVI:=zh hI;have HC:=zh hc;obtain ⟨w0,hw0⟩:∃w0,W.alloc (.cells zV 49)=w0:=⟨_,rfl⟩;have hN:=yA W;rw [hw0] at hN;obtain ⟨hE,B0,T0,_⟩:=hN;have H0:=hE R h;have HW:=zh H0;have HT0:=zh T0;have HB0:=zh B0;have hlt:=H0.lt;clear hE B0 T0;have s0:w0.cell? ⟨bw,0,none⟩=some (.int .i64 2):=by rw [<-hkd];exact H0.cells.1 0 _ rfl
 have hcon:=zKb H0 HVI.out hn HC.out;generalize YH st c=r at hcon⊢;obtain ⟨_,a,_⟩:=r;have HCON:=zh hcon;clear hcon h H0 hI hc hkd hd;unfold zV at hw0;go_enter Tryz.func55,Tryz.ntmps55
 go_wp2_with fail
 refine zcm HCON.out ?_;rintro _ _ ⟨_,rfl,_,hK1,m1,ha⟩;obtain ⟨A3,c3,A4,c4,A5,c5,A6,c6,rfl⟩:=yG ha;have HA:=zh ha;have H1:=zh hK1;have HM1:=zh m1;have HK1:=zh ((Mut.own HW.out HM1.out (.inr rfl)).trans HT0.out);have K1:=HK1.out;unfold zV at K1;obtain ⟨y0,y1,y2,y3,y4,y5,y6⟩:=zC7 (zD K1).1;have yz:=(zD K1).2;clear K1 ha hK1 m1;go_wp2;try simp only [Exit.inBlock,Exit.then]
 obtain ⟨F1,F2⟩:=Z6 HK1.out (.int .i64 a.err) (.int .i64 a.number) (.string a.who) (.slice A3 a.data.length c3) (.slice A4 a.names.length c4) (.slice A5 a.members.length c5) (.slice A6 a.history.length c6);refine bodyPost_ret (zq rfl rfl F1 rfl) rfl ?_;exact Z7 H1.out ((Mut.below HB0.out).trans HM1.out) (znl _) F2 HA.out
theorem zUh (h:WK X base bw W R c dv st false late) {n:Nat} (hI:VInv n st) (hn:n<=40) (hc:CallOk c) (hd:c.data.length<=512) (hkd:c.kind=3) {k:Nat} (hk:Z3 st c.folder=some k):
  Calls Tryz.prog 55 #[.pointer (some ⟨bw,0,none⟩)] W (Did X base bw W R c dv late (doR st c)):=by
 rw [show doR st c=z2o st c k from by unfold doR;dsimp only;rw [hk];simp only [hkd];rfl];have HVI:=zh hI;have HC:=zh hc;have HK:=zh hk;obtain ⟨w0,hw0⟩:∃w0,W.alloc (.cells zV 49)=w0:=⟨_,rfl⟩;have hN:=yA W;rw [hw0] at hN;obtain ⟨hE,B0,T0,_⟩:=hN;have H0:=hE R h;have HW:=zh H0;have HT0:=zh T0;have HB0:=zh B0;have hlt:=H0.lt;clear hE B0 T0;have s0:w0.cell? ⟨bw,0,none⟩=some (.int .i64 3):=by rw [<-hkd];exact H0.cells.1 0 _ rfl
 have hcon:=zOz H0 HVI.out hn HK.out HC.out;generalize z2o st c k=r at hcon⊢;obtain ⟨_,a,_⟩:=r;have HCON:=zh hcon;clear hcon h H0 hI hc hkd hd hk;unfold zV at hw0;go_enter Tryz.func55,Tryz.ntmps55
 go_wp2_with fail
 refine zcm HCON.out ?_;rintro _ _ ⟨_,rfl,_,hK1,m1,ha⟩;obtain ⟨A3,c3,A4,c4,A5,c5,A6,c6,rfl⟩:=yG ha;have HA:=zh ha;have H1:=zh hK1;have HM1:=zh m1;have HK1:=zh ((Mut.own HW.out HM1.out (.inr rfl)).trans HT0.out);have K1:=HK1.out;unfold zV at K1;obtain ⟨y0,y1,y2,y3,y4,y5,y6⟩:=zC7 (zD K1).1;have yz:=(zD K1).2;clear K1 ha hK1 m1;go_wp2;try simp only [Exit.inBlock,Exit.then]
 obtain ⟨F1,F2⟩:=Z6 HK1.out (.int .i64 a.err) (.int .i64 a.number) (.string a.who) (.slice A3 a.data.length c3) (.slice A4 a.names.length c4) (.slice A5 a.members.length c5) (.slice A6 a.history.length c6);refine bodyPost_ret (zq rfl rfl F1 rfl) rfl ?_;exact Z7 H1.out ((Mut.below HB0.out).trans HM1.out) (znl _) F2 HA.out
theorem zUi (h:WK X base bw W R c dv st false late) {n:Nat} (hI:VInv n st) (hn:n<=40) (hc:CallOk c) (hd:c.data.length<=512) (hkd:c.kind=4) {k:Nat} (hk:Z3 st c.folder=some k):
  Calls Tryz.prog 55 #[.pointer (some ⟨bw,0,none⟩)] W (Did X base bw W R c dv late (doR st c)):=by
 rw [show doR st c=z0m st c k from by unfold doR;dsimp only;rw [hk];simp only [hkd];rfl];have HVI:=zh hI;have HK:=zh hk;obtain ⟨w0,hw0⟩:∃w0,W.alloc (.cells zV 49)=w0:=⟨_,rfl⟩;have hN:=yA W;rw [hw0] at hN;obtain ⟨hE,B0,T0,_⟩:=hN;have H0:=hE R h;have HW:=zh H0;have HT0:=zh T0;have HB0:=zh B0;have hlt:=H0.lt;clear hE B0 T0;have s0:w0.cell? ⟨bw,0,none⟩=some (.int .i64 4):=by rw [<-hkd];exact H0.cells.1 0 _ rfl
 have hcon:=zK4 H0 HVI.out (by omega) HK.out;generalize z0m st c k=r at hcon⊢;obtain ⟨_,a,_⟩:=r;have HCON:=zh hcon;clear hcon h H0 hI hc hkd hd hk;unfold zV at hw0;go_enter Tryz.func55,Tryz.ntmps55
 go_wp2_with fail
 refine zcm HCON.out ?_;rintro _ _ ⟨_,rfl,_,hK1,m1,ha⟩;obtain ⟨A3,c3,A4,c4,A5,c5,A6,c6,rfl⟩:=yG ha;have HA:=zh ha;have H1:=zh hK1;have HM1:=zh m1;have HK1:=zh ((Mut.own HW.out HM1.out (.inr rfl)).trans HT0.out);have K1:=HK1.out;unfold zV at K1;obtain ⟨y0,y1,y2,y3,y4,y5,y6⟩:=zC7 (zD K1).1;have yz:=(zD K1).2;clear K1 ha hK1 m1;go_wp2;try simp only [Exit.inBlock,Exit.then]
 obtain ⟨F1,F2⟩:=Z6 HK1.out (.int .i64 a.err) (.int .i64 a.number) (.string a.who) (.slice A3 a.data.length c3) (.slice A4 a.names.length c4) (.slice A5 a.members.length c5) (.slice A6 a.history.length c6);refine bodyPost_ret (zq rfl rfl F1 rfl) rfl ?_;exact Z7 H1.out ((Mut.below HB0.out).trans HM1.out) (znl _) F2 HA.out
theorem zUj (h:WK X base bw W R c dv st false late) {n:Nat} (hI:VInv n st) (hn:n<=40) (hc:CallOk c) (hd:c.data.length<=512) (hkd:c.kind=5) {k:Nat} (hk:Z3 st c.folder=some k):
  Calls Tryz.prog 55 #[.pointer (some ⟨bw,0,none⟩)] W (Did X base bw W R c dv late (doR st c)):=by
 rw [show doR st c=Y2 st c k from by unfold doR;dsimp only;rw [hk];simp only [hkd];rfl];have HVI:=zh hI;have HC:=zh hc;have HK:=zh hk;obtain ⟨w0,hw0⟩:∃w0,W.alloc (.cells zV 49)=w0:=⟨_,rfl⟩;have hN:=yA W;rw [hw0] at hN;obtain ⟨hE,B0,T0,_⟩:=hN;have H0:=hE R h;have HW:=zh H0;have HT0:=zh T0;have HB0:=zh B0;have hlt:=H0.lt;clear hE B0 T0;have s0:w0.cell? ⟨bw,0,none⟩=some (.int .i64 5):=by rw [<-hkd];exact H0.cells.1 0 _ rfl
 have hcon:=z7o H0 HVI.out hn HK.out HC.out (by omega);generalize Y2 st c k=r at hcon⊢;obtain ⟨_,a,_⟩:=r;have HCON:=zh hcon;clear hcon h H0 hI hc hkd hd hk;unfold zV at hw0;go_enter Tryz.func55,Tryz.ntmps55
 go_wp2_with fail
 refine zcm HCON.out ?_;rintro _ _ ⟨_,rfl,_,hK1,m1,ha⟩;obtain ⟨A3,c3,A4,c4,A5,c5,A6,c6,rfl⟩:=yG ha;have HA:=zh ha;have H1:=zh hK1;have HM1:=zh m1;have HK1:=zh ((Mut.own HW.out HM1.out (.inr rfl)).trans HT0.out);have K1:=HK1.out;unfold zV at K1;obtain ⟨y0,y1,y2,y3,y4,y5,y6⟩:=zC7 (zD K1).1;have yz:=(zD K1).2;clear K1 ha hK1 m1;go_wp2;try simp only [Exit.inBlock,Exit.then]
 obtain ⟨F1,F2⟩:=Z6 HK1.out (.int .i64 a.err) (.int .i64 a.number) (.string a.who) (.slice A3 a.data.length c3) (.slice A4 a.names.length c4) (.slice A5 a.members.length c5) (.slice A6 a.history.length c6);refine bodyPost_ret (zq rfl rfl F1 rfl) rfl ?_;exact Z7 H1.out ((Mut.below HB0.out).trans HM1.out) (znl _) F2 HA.out
end
end
section
section
variable {X:Nat->Prop} {base bw:Nat} {W W':World} {R R':RM} {c:Call} {dv:Value} {st:State} {done late:Bool}
theorem zUk (h:WK X base bw W R c dv st false late) {n:Nat} (hI:VInv n st) (hn:n<=40) (hc:CallOk c) (hd:c.data.length<=512) (hkd:c.kind=6) {k:Nat} (hk:Z3 st c.folder=some k):
  Calls Tryz.prog 55 #[.pointer (some ⟨bw,0,none⟩)] W (Did X base bw W R c dv late (doR st c)):=by
 rw [show doR st c=Y2 st c k from by unfold doR;dsimp only;rw [hk];simp only [hkd];rfl];have HVI:=zh hI;have HC:=zh hc;have HK:=zh hk;obtain ⟨w0,hw0⟩:∃w0,W.alloc (.cells zV 49)=w0:=⟨_,rfl⟩;have hN:=yA W;rw [hw0] at hN;obtain ⟨hE,B0,T0,_⟩:=hN;have H0:=hE R h;have HW:=zh H0;have HT0:=zh T0;have HB0:=zh B0;have hlt:=H0.lt;clear hE B0 T0;have s0:w0.cell? ⟨bw,0,none⟩=some (.int .i64 6):=by rw [<-hkd];exact H0.cells.1 0 _ rfl
 have hcon:=z7o H0 HVI.out hn HK.out HC.out (by omega);generalize Y2 st c k=r at hcon⊢;obtain ⟨_,a,_⟩:=r;have HCON:=zh hcon;clear hcon h H0 hI hc hkd hd hk;unfold zV at hw0;go_enter Tryz.func55,Tryz.ntmps55
 go_wp2_with fail
 refine zcm HCON.out ?_;rintro _ _ ⟨_,rfl,_,hK1,m1,ha⟩;obtain ⟨A3,c3,A4,c4,A5,c5,A6,c6,rfl⟩:=yG ha;have HA:=zh ha;have H1:=zh hK1;have HM1:=zh m1;have HK1:=zh ((Mut.own HW.out HM1.out (.inr rfl)).trans HT0.out);have K1:=HK1.out;unfold zV at K1;obtain ⟨y0,y1,y2,y3,y4,y5,y6⟩:=zC7 (zD K1).1;have yz:=(zD K1).2;clear K1 ha hK1 m1;go_wp2;try simp only [Exit.inBlock,Exit.then]
 obtain ⟨F1,F2⟩:=Z6 HK1.out (.int .i64 a.err) (.int .i64 a.number) (.string a.who) (.slice A3 a.data.length c3) (.slice A4 a.names.length c4) (.slice A5 a.members.length c5) (.slice A6 a.history.length c6);refine bodyPost_ret (zq rfl rfl F1 rfl) rfl ?_;exact Z7 H1.out ((Mut.below HB0.out).trans HM1.out) (znl _) F2 HA.out
theorem zUl (h:WK X base bw W R c dv st false late) {n:Nat} (hI:VInv n st) (hn:n<=40) (hc:CallOk c) (hd:c.data.length<=512) (hkd:c.kind=7) {k:Nat} (hk:Z3 st c.folder=some k):
  Calls Tryz.prog 55 #[.pointer (some ⟨bw,0,none⟩)] W (Did X base bw W R c dv late (doR st c)):=by
 rw [show doR st c=Y2 st c k from by unfold doR;dsimp only;rw [hk];simp only [hkd];rfl];have HVI:=zh hI;have HC:=zh hc;have HK:=zh hk;obtain ⟨w0,hw0⟩:∃w0,W.alloc (.cells zV 49)=w0:=⟨_,rfl⟩;have hN:=yA W;rw [hw0] at hN;obtain ⟨hE,B0,T0,_⟩:=hN;have H0:=hE R h;have HW:=zh H0;have HT0:=zh T0;have HB0:=zh B0;have hlt:=H0.lt;clear hE B0 T0;have s0:w0.cell? ⟨bw,0,none⟩=some (.int .i64 7):=by rw [<-hkd];exact H0.cells.1 0 _ rfl
 have hcon:=z7o H0 HVI.out hn HK.out HC.out (by omega);generalize Y2 st c k=r at hcon⊢;obtain ⟨_,a,_⟩:=r;have HCON:=zh hcon;clear hcon h H0 hI hc hkd hd hk;unfold zV at hw0;go_enter Tryz.func55,Tryz.ntmps55
 go_wp2_with fail
 refine zcm HCON.out ?_;rintro _ _ ⟨_,rfl,_,hK1,m1,ha⟩;obtain ⟨A3,c3,A4,c4,A5,c5,A6,c6,rfl⟩:=yG ha;have HA:=zh ha;have H1:=zh hK1;have HM1:=zh m1;have HK1:=zh ((Mut.own HW.out HM1.out (.inr rfl)).trans HT0.out);have K1:=HK1.out;unfold zV at K1;obtain ⟨y0,y1,y2,y3,y4,y5,y6⟩:=zC7 (zD K1).1;have yz:=(zD K1).2;clear K1 ha hK1 m1;go_wp2;try simp only [Exit.inBlock,Exit.then]
 obtain ⟨F1,F2⟩:=Z6 HK1.out (.int .i64 a.err) (.int .i64 a.number) (.string a.who) (.slice A3 a.data.length c3) (.slice A4 a.names.length c4) (.slice A5 a.members.length c5) (.slice A6 a.history.length c6);refine bodyPost_ret (zq rfl rfl F1 rfl) rfl ?_;exact Z7 H1.out ((Mut.below HB0.out).trans HM1.out) (znl _) F2 HA.out
theorem zUm (h:WK X base bw W R c dv st false late) {n:Nat} (hI:VInv n st) (hn:n<=40) (hc:CallOk c) (hd:c.data.length<=512) (hkd:c.kind=8) {k:Nat} (hk:Z3 st c.folder=some k):
  Calls Tryz.prog 55 #[.pointer (some ⟨bw,0,none⟩)] W (Did X base bw W R c dv late (doR st c)):=by
 rw [show doR st c=z2s st c k from by unfold doR;dsimp only;rw [hk];simp only [hkd];rfl];have HVI:=zh hI;have HK:=zh hk;obtain ⟨w0,hw0⟩:∃w0,W.alloc (.cells zV 49)=w0:=⟨_,rfl⟩;have hN:=yA W;rw [hw0] at hN;obtain ⟨hE,B0,T0,_⟩:=hN;have H0:=hE R h;have HW:=zh H0;have HT0:=zh T0;have HB0:=zh B0;have hlt:=H0.lt;clear hE B0 T0;have s0:w0.cell? ⟨bw,0,none⟩=some (.int .i64 8):=by rw [<-hkd];exact H0.cells.1 0 _ rfl
 have hcon:=zR3 H0 HVI.out hn HK.out (by omega);generalize z2s st c k=r at hcon⊢;obtain ⟨_,a,_⟩:=r;have HCON:=zh hcon;clear hcon h H0 hI hc hkd hd hk;unfold zV at hw0;go_enter Tryz.func55,Tryz.ntmps55
 go_wp2_with fail
 refine zcm HCON.out ?_;rintro _ _ ⟨_,rfl,_,hK1,m1,ha⟩;obtain ⟨A3,c3,A4,c4,A5,c5,A6,c6,rfl⟩:=yG ha;have HA:=zh ha;have H1:=zh hK1;have HM1:=zh m1;have HK1:=zh ((Mut.own HW.out HM1.out (.inr rfl)).trans HT0.out);have K1:=HK1.out;unfold zV at K1;obtain ⟨y0,y1,y2,y3,y4,y5,y6⟩:=zC7 (zD K1).1;have yz:=(zD K1).2;clear K1 ha hK1 m1;go_wp2;try simp only [Exit.inBlock,Exit.then]
 obtain ⟨F1,F2⟩:=Z6 HK1.out (.int .i64 a.err) (.int .i64 a.number) (.string a.who) (.slice A3 a.data.length c3) (.slice A4 a.names.length c4) (.slice A5 a.members.length c5) (.slice A6 a.history.length c6);refine bodyPost_ret (zq rfl rfl F1 rfl) rfl ?_;exact Z7 H1.out ((Mut.below HB0.out).trans HM1.out) (znl _) F2 HA.out
theorem zUn (h:WK X base bw W R c dv st false late) {n:Nat} (hI:VInv n st) (hn:n<=40) (hc:CallOk c) (hd:c.data.length<=512) (hkd:c.kind=9) {k:Nat} (hk:Z3 st c.folder=some k):
  Calls Tryz.prog 55 #[.pointer (some ⟨bw,0,none⟩)] W (Did X base bw W R c dv late (doR st c)):=by
 rw [show doR st c=(st,z4x st c k,false) from by unfold doR;dsimp only;rw [hk];simp only [hkd];rfl];have HVI:=zh hI;have HC:=zh hc;have HK:=zh hk;obtain ⟨w0,hw0⟩:∃w0,W.alloc (.cells zV 49)=w0:=⟨_,rfl⟩;have hN:=yA W;rw [hw0] at hN;obtain ⟨hE,B0,T0,_⟩:=hN;have H0:=hE R h;have HW:=zh H0;have HT0:=zh T0;have HB0:=zh B0;have hlt:=H0.lt;clear hE B0 T0;have s0:w0.cell? ⟨bw,0,none⟩=some (.int .i64 9):=by rw [<-hkd];exact H0.cells.1 0 _ rfl
 have hcon:=zRd H0 HVI.out (by omega) HC.out HK.out;generalize (st,z4x st c k,false)=r at hcon⊢;obtain ⟨_,a,_⟩:=r;have HCON:=zh hcon;clear hcon h H0 hI hc hkd hd hk;unfold zV at hw0;go_enter Tryz.func55,Tryz.ntmps55
 go_wp2_with fail
 refine zcm HCON.out ?_;rintro _ _ ⟨_,rfl,_,hK1,m1,ha⟩;obtain ⟨A3,c3,A4,c4,A5,c5,A6,c6,rfl⟩:=yG ha;have HA:=zh ha;have H1:=zh hK1;have HM1:=zh m1;have HK1:=zh ((Mut.own HW.out HM1.out (.inr rfl)).trans HT0.out);have K1:=HK1.out;unfold zV at K1;obtain ⟨y0,y1,y2,y3,y4,y5,y6⟩:=zC7 (zD K1).1;have yz:=(zD K1).2;clear K1 ha hK1 m1;go_wp2;try simp only [Exit.inBlock,Exit.then]
 obtain ⟨F1,F2⟩:=Z6 HK1.out (.int .i64 a.err) (.int .i64 a.number) (.string a.who) (.slice A3 a.data.length c3) (.slice A4 a.names.length c4) (.slice A5 a.members.length c5) (.slice A6 a.history.length c6);refine bodyPost_ret (zq rfl rfl F1 rfl) rfl ?_;exact Z7 H1.out ((Mut.below HB0.out).trans HM1.out) (znl _) F2 HA.out
theorem zU1 (h:WK X base bw W R c dv st false late) {n:Nat} (hI:VInv n st) (hn:n<=40) (hc:CallOk c) (hd:c.data.length<=512) (hkd:c.kind=10) {k:Nat} (hk:Z3 st c.folder=some k):
  Calls Tryz.prog 55 #[.pointer (some ⟨bw,0,none⟩)] W (Did X base bw W R c dv late (doR st c)):=by
 rw [show doR st c=(st,z6j st c k,false) from by unfold doR;dsimp only;rw [hk];simp only [hkd];rfl];have HVI:=zh hI;have HC:=zh hc;have HK:=zh hk;obtain ⟨w0,hw0⟩:∃w0,W.alloc (.cells zV 49)=w0:=⟨_,rfl⟩;have hN:=yA W;rw [hw0] at hN;obtain ⟨hE,B0,T0,_⟩:=hN;have H0:=hE R h;have HW:=zh H0;have HT0:=zh T0;have HB0:=zh B0;have hlt:=H0.lt;clear hE B0 T0;have s0:w0.cell? ⟨bw,0,none⟩=some (.int .i64 10):=by rw [<-hkd];exact H0.cells.1 0 _ rfl
 have hcon:=zP5 H0 HVI.out (by omega) (by have:=HC.out.u20;omega) HK.out;generalize (st,z6j st c k,false)=r at hcon⊢;obtain ⟨_,a,_⟩:=r;have HCON:=zh hcon;clear hcon h H0 hI hc hkd hd hk;unfold zV at hw0;go_enter Tryz.func55,Tryz.ntmps55
 go_wp2_with fail
 refine zcm HCON.out ?_;rintro _ _ ⟨_,rfl,_,hK1,m1,ha⟩;obtain ⟨A3,c3,A4,c4,A5,c5,A6,c6,rfl⟩:=yG ha;have HA:=zh ha;have H1:=zh hK1;have HM1:=zh m1;have HK1:=zh ((Mut.own HW.out HM1.out (.inr rfl)).trans HT0.out);have K1:=HK1.out;unfold zV at K1;obtain ⟨y0,y1,y2,y3,y4,y5,y6⟩:=zC7 (zD K1).1;have yz:=(zD K1).2;clear K1 ha hK1 m1;go_wp2;try simp only [Exit.inBlock,Exit.then]
 obtain ⟨F1,F2⟩:=Z6 HK1.out (.int .i64 a.err) (.int .i64 a.number) (.string a.who) (.slice A3 a.data.length c3) (.slice A4 a.names.length c4) (.slice A5 a.members.length c5) (.slice A6 a.history.length c6);refine bodyPost_ret (zq rfl rfl F1 rfl) rfl ?_;exact Z7 H1.out ((Mut.below HB0.out).trans HM1.out) (znl _) F2 HA.out
end
end
section
section
variable {X:Nat->Prop} {base bw:Nat} {W W':World} {R R':RM} {c:Call} {dv:Value} {st:State} {done late:Bool}
theorem zU2 (h:WK X base bw W R c dv st false late) {n:Nat} (hI:VInv n st) (hn:n<=40) (hc:CallOk c) (hd:c.data.length<=512) (hkd:c.kind=11) {k:Nat} (hk:Z3 st c.folder=some k):
  Calls Tryz.prog 55 #[.pointer (some ⟨bw,0,none⟩)] W (Did X base bw W R c dv late (doR st c)):=by
 rw [show doR st c=z2p st c k from by unfold doR;dsimp only;rw [hk];simp only [hkd];rfl];have HVI:=zh hI;have HK:=zh hk;obtain ⟨w0,hw0⟩:∃w0,W.alloc (.cells zV 49)=w0:=⟨_,rfl⟩;have hN:=yA W;rw [hw0] at hN;obtain ⟨hE,B0,T0,_⟩:=hN;have H0:=hE R h;have HW:=zh H0;have HT0:=zh T0;have HB0:=zh B0;have hlt:=H0.lt;clear hE B0 T0;have s0:w0.cell? ⟨bw,0,none⟩=some (.int .i64 11):=by rw [<-hkd];exact H0.cells.1 0 _ rfl
 have hcon:=zOs H0 HVI.out (by omega) HK.out;generalize z2p st c k=r at hcon⊢;obtain ⟨_,a,_⟩:=r;have HCON:=zh hcon;clear hcon h H0 hI hc hkd hd hk;unfold zV at hw0;go_enter Tryz.func55,Tryz.ntmps55
 go_wp2_with fail
 refine zcm HCON.out ?_;rintro _ _ ⟨_,rfl,_,hK1,m1,ha⟩;obtain ⟨A3,c3,A4,c4,A5,c5,A6,c6,rfl⟩:=yG ha;have HA:=zh ha;have H1:=zh hK1;have HM1:=zh m1;have HK1:=zh ((Mut.own HW.out HM1.out (.inr rfl)).trans HT0.out);have K1:=HK1.out;unfold zV at K1;obtain ⟨y0,y1,y2,y3,y4,y5,y6⟩:=zC7 (zD K1).1;have yz:=(zD K1).2;clear K1 ha hK1 m1;go_wp2;try simp only [Exit.inBlock,Exit.then]
 obtain ⟨F1,F2⟩:=Z6 HK1.out (.int .i64 a.err) (.int .i64 a.number) (.string a.who) (.slice A3 a.data.length c3) (.slice A4 a.names.length c4) (.slice A5 a.members.length c5) (.slice A6 a.history.length c6);refine bodyPost_ret (zq rfl rfl F1 rfl) rfl ?_;exact Z7 H1.out ((Mut.below HB0.out).trans HM1.out) (znl _) F2 HA.out
theorem zU3 (h:WK X base bw W R c dv st false late) {n:Nat} (hI:VInv n st) (hn:n<=40) (hc:CallOk c) (hd:c.data.length<=512) (hkd:c.kind=12) {k:Nat} (hk:Z3 st c.folder=some k):
  Calls Tryz.prog 55 #[.pointer (some ⟨bw,0,none⟩)] W (Did X base bw W R c dv late (doR st c)):=by
 rw [show doR st c=(st,z1c st c k,false) from by unfold doR;dsimp only;rw [hk];simp only [hkd];rfl];have HVI:=zh hI;have HC:=zh hc;have HK:=zh hk;obtain ⟨w0,hw0⟩:∃w0,W.alloc (.cells zV 49)=w0:=⟨_,rfl⟩;have hN:=yA W;rw [hw0] at hN;obtain ⟨hE,B0,T0,_⟩:=hN;have H0:=hE R h;have HW:=zh H0;have HT0:=zh T0;have HB0:=zh B0;have hlt:=H0.lt;clear hE B0 T0;have s0:w0.cell? ⟨bw,0,none⟩=some (.int .i64 12):=by rw [<-hkd];exact H0.cells.1 0 _ rfl
 have hcon:=zIx H0 HVI.out (by omega) (by have:=HC.out.u20;omega) HK.out;generalize (st,z1c st c k,false)=r at hcon⊢;obtain ⟨_,a,_⟩:=r;have HCON:=zh hcon;clear hcon h H0 hI hc hkd hd hk;unfold zV at hw0;go_enter Tryz.func55,Tryz.ntmps55
 go_wp2_with fail
 refine zcm HCON.out ?_;rintro _ _ ⟨_,rfl,_,hK1,m1,ha⟩;obtain ⟨A3,c3,A4,c4,A5,c5,A6,c6,rfl⟩:=yG ha;have HA:=zh ha;have H1:=zh hK1;have HM1:=zh m1;have HK1:=zh ((Mut.own HW.out HM1.out (.inr rfl)).trans HT0.out);have K1:=HK1.out;unfold zV at K1;obtain ⟨y0,y1,y2,y3,y4,y5,y6⟩:=zC7 (zD K1).1;have yz:=(zD K1).2;clear K1 ha hK1 m1;go_wp2;try simp only [Exit.inBlock,Exit.then]
 obtain ⟨F1,F2⟩:=Z6 HK1.out (.int .i64 a.err) (.int .i64 a.number) (.string a.who) (.slice A3 a.data.length c3) (.slice A4 a.names.length c4) (.slice A5 a.members.length c5) (.slice A6 a.history.length c6);refine bodyPost_ret (zq rfl rfl F1 rfl) rfl ?_;exact Z7 H1.out ((Mut.below HB0.out).trans HM1.out) (znl _) F2 HA.out
theorem zU4 (h:WK X base bw W R c dv st false late) {n:Nat} (hI:VInv n st) (hn:n<=40) (hc:CallOk c) (hd:c.data.length<=512) (hkd:c.kind=13) {k:Nat} (hk:Z3 st c.folder=some k):
  Calls Tryz.prog 55 #[.pointer (some ⟨bw,0,none⟩)] W (Did X base bw W R c dv late (doR st c)):=by
 rw [show doR st c=(st,zHi st k,false) from by unfold doR;dsimp only;rw [hk];simp only [hkd];rfl];have HVI:=zh hI;have HK:=zh hk;obtain ⟨w0,hw0⟩:∃w0,W.alloc (.cells zV 49)=w0:=⟨_,rfl⟩;have hN:=yA W;rw [hw0] at hN;obtain ⟨hE,B0,T0,_⟩:=hN;have H0:=hE R h;have HW:=zh H0;have HT0:=zh T0;have HB0:=zh B0;have hlt:=H0.lt;clear hE B0 T0;have s0:w0.cell? ⟨bw,0,none⟩=some (.int .i64 13):=by rw [<-hkd];exact H0.cells.1 0 _ rfl
 have hcon:=zOq H0 HVI.out HK.out;generalize (st,zHi st k,false)=r at hcon⊢;obtain ⟨_,a,_⟩:=r;have HCON:=zh hcon;clear hcon h H0 hI hc hkd hd hk;unfold zV at hw0;go_enter Tryz.func55,Tryz.ntmps55
 go_wp2_with fail
 refine zcm HCON.out ?_;rintro _ _ ⟨_,rfl,_,hK1,m1,ha⟩;obtain ⟨A3,c3,A4,c4,A5,c5,A6,c6,rfl⟩:=yG ha;have HA:=zh ha;have H1:=zh hK1;have HM1:=zh m1;have HK1:=zh ((Mut.own HW.out HM1.out (.inr rfl)).trans HT0.out);have K1:=HK1.out;unfold zV at K1;obtain ⟨y0,y1,y2,y3,y4,y5,y6⟩:=zC7 (zD K1).1;have yz:=(zD K1).2;clear K1 ha hK1 m1;go_wp2;try simp only [Exit.inBlock,Exit.then]
 obtain ⟨F1,F2⟩:=Z6 HK1.out (.int .i64 a.err) (.int .i64 a.number) (.string a.who) (.slice A3 a.data.length c3) (.slice A4 a.names.length c4) (.slice A5 a.members.length c5) (.slice A6 a.history.length c6);refine bodyPost_ret (zq rfl rfl F1 rfl) rfl ?_;exact Z7 H1.out ((Mut.below HB0.out).trans HM1.out) (znl _) F2 HA.out
theorem zU5 (h:WK X base bw W R c dv st false late) {n:Nat} (hI:VInv n st) (hn:n<=40) (hc:CallOk c) (hd:c.data.length<=512) (hkd:c.kind=14):
  Calls Tryz.prog 55 #[.pointer (some ⟨bw,0,none⟩)] W (Did X base bw W R c dv late (doR st c)):=by
 rw [show doR st c=z1d st c from by unfold doR;dsimp only;simp only [hkd];rfl];have HVI:=zh hI;obtain ⟨w0,hw0⟩:∃w0,W.alloc (.cells zV 49)=w0:=⟨_,rfl⟩;have hN:=yA W;rw [hw0] at hN;obtain ⟨hE,B0,T0,_⟩:=hN;have H0:=hE R h;have HW:=zh H0;have HT0:=zh T0;have HB0:=zh B0;have hlt:=H0.lt;clear hE B0 T0;have s0:w0.cell? ⟨bw,0,none⟩=some (.int .i64 14):=by rw [<-hkd];exact H0.cells.1 0 _ rfl
 have hcon:=zIu H0 (by have:=HVI.out.few;omega);generalize z1d st c=r at hcon⊢;obtain ⟨_,a,_⟩:=r;have HCON:=zh hcon;clear hcon h H0 hI hc hkd hd;unfold zV at hw0;go_enter Tryz.func55,Tryz.ntmps55
 go_wp2_with fail
 refine zcm HCON.out ?_;rintro _ _ ⟨_,rfl,_,hK1,m1,ha⟩;obtain ⟨A3,c3,A4,c4,A5,c5,A6,c6,rfl⟩:=yG ha;have HA:=zh ha;have H1:=zh hK1;have HM1:=zh m1;have HK1:=zh ((Mut.own HW.out HM1.out (.inr rfl)).trans HT0.out);have K1:=HK1.out;unfold zV at K1;obtain ⟨y0,y1,y2,y3,y4,y5,y6⟩:=zC7 (zD K1).1;have yz:=(zD K1).2;clear K1 ha hK1 m1;go_wp2;try simp only [Exit.inBlock,Exit.then]
 obtain ⟨F1,F2⟩:=Z6 HK1.out (.int .i64 a.err) (.int .i64 a.number) (.string a.who) (.slice A3 a.data.length c3) (.slice A4 a.names.length c4) (.slice A5 a.members.length c5) (.slice A6 a.history.length c6);refine bodyPost_ret (zq rfl rfl F1 rfl) rfl ?_;exact Z7 H1.out ((Mut.below HB0.out).trans HM1.out) (znl _) F2 HA.out
theorem zU6 (h:WK X base bw W R c dv st false late) {n:Nat} (hI:VInv n st) (hn:n<=40) (hc:CallOk c) (hd:c.data.length<=512) (hkd:c.kind=15) {u:Nat} (hu:Y6 st c.user=some u):
  Calls Tryz.prog 55 #[.pointer (some ⟨bw,0,none⟩)] W (Did X base bw W R c dv late (doR st c)):=by
 rw [show doR st c=z99 st c from by unfold doR;dsimp only;simp only [hkd];rfl];obtain ⟨w0,hw0⟩:∃w0,W.alloc (.cells zV 49)=w0:=⟨_,rfl⟩;have hN:=yA W;rw [hw0] at hN;obtain ⟨hE,B0,T0,_⟩:=hN;have H0:=hE R h;have HW:=zh H0;have HT0:=zh T0;have HB0:=zh B0;have hlt:=H0.lt;clear hE B0 T0;have s0:w0.cell? ⟨bw,0,none⟩=some (.int .i64 15):=by rw [<-hkd];exact H0.cells.1 0 _ rfl
 have hcon:=zP0 H0 hu;generalize z99 st c=r at hcon⊢;obtain ⟨_,a,_⟩:=r;have HCON:=zh hcon;clear hcon h H0 hI hc hkd hd hu;unfold zV at hw0;go_enter Tryz.func55,Tryz.ntmps55
 go_wp2_with fail
 refine zcm HCON.out ?_;rintro _ _ ⟨_,rfl,_,hK1,m1,ha⟩;obtain ⟨A3,c3,A4,c4,A5,c5,A6,c6,rfl⟩:=yG ha;have HA:=zh ha;have H1:=zh hK1;have HM1:=zh m1;have HK1:=zh ((Mut.own HW.out HM1.out (.inr rfl)).trans HT0.out);have K1:=HK1.out;unfold zV at K1;obtain ⟨y0,y1,y2,y3,y4,y5,y6⟩:=zC7 (zD K1).1;have yz:=(zD K1).2;clear K1 ha hK1 m1;go_wp2;try simp only [Exit.inBlock,Exit.then]
 obtain ⟨F1,F2⟩:=Z6 HK1.out (.int .i64 a.err) (.int .i64 a.number) (.string a.who) (.slice A3 a.data.length c3) (.slice A4 a.names.length c4) (.slice A5 a.members.length c5) (.slice A6 a.history.length c6);refine bodyPost_ret (zq rfl rfl F1 rfl) rfl ?_;exact Z7 H1.out ((Mut.below HB0.out).trans HM1.out) (znl _) F2 HA.out
theorem zU7 (h:WK X base bw W R c dv st false late) {n:Nat} (hI:VInv n st) (hn:n<=40) (hc:CallOk c) (hd:c.data.length<=512) (hkd:c.kind=16) {u v:Nat} (hu:Y6 st c.user=some u) (ho:Y6 st c.other=some v):
  Calls Tryz.prog 55 #[.pointer (some ⟨bw,0,none⟩)] W (Did X base bw W R c dv late (doR st c)):=by
 rw [show doR st c=z0h st c from by unfold doR;dsimp only;simp only [hkd];rfl];obtain ⟨w0,hw0⟩:∃w0,W.alloc (.cells zV 49)=w0:=⟨_,rfl⟩;have hN:=yA W;rw [hw0] at hN;obtain ⟨hE,B0,T0,_⟩:=hN;have H0:=hE R h;have HW:=zh H0;have HT0:=zh T0;have HB0:=zh B0;have hlt:=H0.lt;clear hE B0 T0;have s0:w0.cell? ⟨bw,0,none⟩=some (.int .i64 16):=by rw [<-hkd];exact H0.cells.1 0 _ rfl
 have hcon:=zIw H0 hu ho;generalize z0h st c=r at hcon⊢;obtain ⟨_,a,_⟩:=r;have HCON:=zh hcon;clear hcon h H0 hI hc hkd hd hu ho;unfold zV at hw0;go_enter Tryz.func55,Tryz.ntmps55
 go_wp2_with fail
 refine zcm HCON.out ?_;rintro _ _ ⟨_,rfl,_,hK1,m1,ha⟩;obtain ⟨A3,c3,A4,c4,A5,c5,A6,c6,rfl⟩:=yG ha;have HA:=zh ha;have H1:=zh hK1;have HM1:=zh m1;have HK1:=zh ((Mut.own HW.out HM1.out (.inr rfl)).trans HT0.out);have K1:=HK1.out;unfold zV at K1;obtain ⟨y0,y1,y2,y3,y4,y5,y6⟩:=zC7 (zD K1).1;have yz:=(zD K1).2;clear K1 ha hK1 m1;go_wp2;try simp only [Exit.inBlock,Exit.then]
 obtain ⟨F1,F2⟩:=Z6 HK1.out (.int .i64 a.err) (.int .i64 a.number) (.string a.who) (.slice A3 a.data.length c3) (.slice A4 a.names.length c4) (.slice A5 a.members.length c5) (.slice A6 a.history.length c6);refine bodyPost_ret (zq rfl rfl F1 rfl) rfl ?_;exact Z7 H1.out ((Mut.below HB0.out).trans HM1.out) (znl _) F2 HA.out
end
end
section
section
variable {X:Nat->Prop} {base bw:Nat} {W:World} {R:RM} {c:Call} {dv:Value} {st:State} {late:Bool}
theorem zTb (h:WK X base bw W R c dv st false late) {n:Nat} (hI:VInv n st) (hn:n<=40) (hc:CallOk c) (hd:c.data.length<=512) (hb:ZV st c late=0):
  Calls Tryz.prog 55 #[.pointer (some ⟨bw,0,none⟩)] W (Did X base bw W R c dv late (doR st c)):=by
 have k1:=hc.k1;have k16:=hc.k16;by_cases h1:c.kind=1
 ·exact zUf h hI hn hc hd h1
 obtain ⟨⟨_,hu⟩,hfol,_,hou⟩:=z5i hc h1 hb;by_cases h2:c.kind=2
 ·exact zUg h hI hn hc hd h2
 by_cases h14:c.kind=14
 ·exact zU5 h hI hn hc hd h14
 by_cases h15:c.kind=15
 ·exact zU6 h hI hn hc hd h15 hu
 by_cases h16:c.kind=16
 ·obtain ⟨_,hv⟩:=hou (z3e (hc.dep (.inr h16))) (by omega);exact zU7 h hI hn hc hd h16 hu hv
 obtain ⟨_,hk⟩:=hfol (z3e (hc.fol (by omega) (by omega))) h2;rcases (show c.kind=3\/c.kind=4\/c.kind=5\/c.kind=6\/c.kind=7\/c.kind=8\/c.kind=9\/c.kind=10\/c.kind=11\/c.kind=12\/c.kind=13 from by omega) with e | e | e | e | e | e | e | e | e | e | e
 ·exact zUh h hI hn hc hd e hk
 ·exact zUi h hI hn hc hd e hk
 ·exact zUj h hI hn hc hd e hk
 ·exact zUk h hI hn hc hd e hk
 ·exact zUl h hI hn hc hd e hk
 ·exact zUm h hI hn hc hd e hk
 ·exact zUn h hI hn hc hd e hk
 ·exact zU1 h hI hn hc hd e hk
 ·exact zU2 h hI hn hc hd e hk
 ·exact zU3 h hI hn hc hd e hk
 exact zU4 h hI hn hc hd e hk
end
end
section
theorem z3z {P:Program} {fn:Func} {p u:Tmp} {ty:TypeId} (h:fn.results=#[.tmp u,.cell p ty]) (tmps:Array Value) (w:World) (g:Nat) (t:TypeId) (cs:Array Value) (fr:Nat×Nat) (d:TypeDesc)
  (hp:tmps.getD p undef= .pointer (some ⟨g,0,none⟩)) (hg:w.heap[g]? =some (.cells cs t fr))
  (hu:P.underlying ty=some d) (hd:(match d with | .struct _ | .array _ _=>true | _=>false)=true) (hi:(P.info? ty).map (·.size)=some cs.size):
  (results fn tmps).run P w= .ok (.tuple #[tmps.getD u undef,.agg cs]) w:=by
 have hp':tmps[p]?.getD undef= .pointer (some ⟨g,0,none⟩):=by simpa using hp
 simp [results,h,hp',asAddr,run_loadVar_row w g t ty cs fr d hg hu hd hi,Sem.run_bind,Result.andThen]
section
variable {P:Nat->Prop} {bv:Nat} {w w':World} {st:State} {q r:Int} {c:Call} {dv:Value}
theorem WK.make {X S T:Nat->Prop} {w2 w3 wb:World} {R:RM} {late:Bool} (os:OS w2.heap.size w3 R) (is:IsSt (fun b=>b < w3.heap.size/\¬Y7 R b/\(b < w2.heap.size->S b)) w3 R st) (hS:∀b,S b->¬X b) (hX:∀b,X b->b < w2.heap.size) (hz:w2.heap.size<=w3.heap.size)
  (hb:w3.alloc (.cells (z35 R c dv st false late).toArray 112)=wb) (hc:z2a T w3 (z3v c dv) c) (hT:∀b,T b->b < w2.heap.size/\¬X b):WK X w2.heap.size w3.heap.size wb R c dv st false late:=by
 have hB:Below w3.heap.size w3 wb:=by rw [<-hb];exact Below.alloc zbr (znl _) _
 have hzb:wb.heap.size=w3.heap.size+1:=by rw [<-hb,World.size_alloc]
 have hlow:∀b,Y7 R b->w2.heap.size<=b:=fun b ⟨k,e⟩=>os.low k b e
 have hlt:∀b,Y7 R b->b < w3.heap.size:=fun b hr=>os.lt hr
 refine ⟨os.below hB,is.keep fun b ⟨h1,h2,h3⟩ hl=>⟨⟨by omega,by omega,h2,fun e=>hS b (h3 (hX b e)) e⟩,hB.block b hl⟩,by rw [<-hb];exact zJ _ rfl,YZ hc fun b ht hl=>⟨⟨by omega,by omega,fun e=>by have:=hlow b e;have:=(hT b ht).1;omega,(hT b ht).2⟩,hB.block b hl⟩,fun e=>by have:=hlt _ e;omega,hz,fun b e hx=>?_,fun b hx=>by have:=hX b hx;omega⟩;have:=hX b hx;rcases e with e | e
 ·have:=hlow b e;omega
 omega
def zUu (P:Nat->Prop) (w:World) (st:State) (c:Call) (dv:Value) (late:Bool) (e:Ending) (w':World):Prop:=
 ∃base bw R cs,e= .returned (.tuple #[.pointer (some ⟨bw,0,none⟩),.agg cs])/\w.heap.size<=bw/\Below w.heap.size w w'/\WK P base bw w' R c dv (yY st c late).1 (yY st c late).2.2 late/\YY (Imm P bw R w') w' cs.toList (yY st c late).2.1
theorem zFv {late done:Bool} {base bw a:Nat} {w1 w2:World} {R:RM} {cs:Array Value} {A:Answer} (h:WK (fun b=>P b\/b=a) base bw w1 R c dv st done late) (F2:ButB (fun x=>x=a) w1 w2) (hr:YY (Imm (fun b=>P b\/b=a) bw R w1) w1 cs.toList A):WK P base bw w2 R c dv st done late/\YY (Imm P bw R w2) w2 cs.toList A:=
 ⟨h.leave (F2.mono fun x hx=> .inr hx) fun b hb=> .inl hb,z2g hr fun b ⟨h1,h2,h3,h4⟩ _=>⟨⟨zll h1 F2.size,h2,h3,fun e=>h4 (.inl e)⟩,F2.block b h1 fun e=>h4 (.inr e)⟩⟩
theorem zMz (st:State) (c:Call) (late:Bool):I64 (ZV st c late):=by
 unfold ZV;repeat' split
 all_goals exact ⟨by omega,by omega⟩
theorem zTe {late:Bool} (h:ZV st c late≠0):yY st c late=(st,ZF (ZV st c late),false):=by unfold yY;rw [if_pos h]
theorem zLb {late:Bool} (h:ZV st c late=0):yY st c late=doR st c:=by unfold yY;rw [if_neg (by simp [h])]
theorem zRi {X:Nat->Prop} {base bw:Nat} {W0 W':World} {R0 R':RM} {done late:Bool} (h:WK X base bw W0 R0 c dv st done late) (m:Mut bw R0 W0 R' W') {B:Nat} {w:World} (hb:Below B w W0) (hB:B<=base):Below B w W':=
 hb.trans ⟨m.but.os,m.but.tape,m.but.output,m.but.size,fun b hl=>m.but.block b (by have:=h.base_le;omega) fun e=>by
  rcases e with e | ⟨k,e⟩
  ·have:=h.bb;omega
  ·have:=h.os.low k b e;omega⟩
theorem zRj (h:VS P bv w st q r) (hc:z2a (fun b=>¬P b) w (z3v c dv) c) {n:Nat} (hI:VInv n st) (hn:n<=40) (hd:yX st) (ck:CallOk c) (cd:c.data.length<=512) (late:Bool):
  Calls Tryz.prog 34 #[.pointer (some ⟨bv,0,none⟩),.agg #[.int .i64 c.kind,.string c.user,.string c.folder,.string c.name,.string c.other,.int .i64 c.role,.int .i64 c.version,dv],.bool late] w (zUu P w st c dv late):=by
 obtain ⟨_,_,_,h1,h2⟩:=h.box;have hlt:=h.lt;have HPL:=zh h.pl;obtain ⟨A1,c1,A2,c2,A3,c3,e3,_⟩:=ZP h2;simp only [List.cons.injEq,true_and,and_true] at e3;obtain ⟨rfl,rfl,rfl⟩:=e3;obtain ⟨A7,c7,e7,_⟩:=YQ hc;obtain rfl:dv= .slice A7 c.data.length c7:=by simpa [z3v] using e7
 have HI:=zh hI;have HK:=zh ck;have HCD:=zh cd;obtain ⟨w0,hw0,cw0,fw0,Bw0,qw0⟩:=zQ w #[.int .i64 c.kind,.string c.user,.string c.folder,.string c.name,.string c.other,.int .i64 c.role,.int .i64 c.version,.slice A7 c.data.length c7] 41;have hz0:w0.heap.size=w.heap.size+1:=by rw [<-hw0,World.size_alloc]
 obtain ⟨w1,hw1,cw1,fw1,Bw1,qw1⟩:=zQ w0 zV 49;have hz1:w1.heap.size=w.heap.size+2:=by rw [<-hw1,World.size_alloc,hz0]
 have HR1:=zh (show w1.heap[w.heap.size+1]? =some (.cells zV 49 (0,0)) from by rw [<-hz0,<-hw1];exact zJ _ rfl);have HB1:=zh (zB Bw0 Bw1);have HZ1:=zh hz1;have h1':=((zB Bw0 Bw1).block bv hlt).trans h1;obtain ⟨s0,s1,s2,s3⟩:=zC4 (zD h1').1;have k0:=(Bw1.cell (p:=⟨w.heap.size,0,none⟩) qw0).trans (cw0 0 _ rfl);have k1:=(Bw1.cell (p:=⟨w.heap.size,1,none⟩) qw0).trans (cw0 1 _ rfl);have k2:=(Bw1.cell (p:=⟨w.heap.size,2,none⟩) qw0).trans (cw0 2 _ rfl);have k3:=(Bw1.cell (p:=⟨w.heap.size,3,none⟩) qw0).trans (cw0 3 _ rfl);have k4:=(Bw1.cell (p:=⟨w.heap.size,4,none⟩) qw0).trans (cw0 4 _ rfl);have k5:=(Bw1.cell (p:=⟨w.heap.size,5,none⟩) qw0).trans (cw0 5 _ rfl);have k6:=(Bw1.cell (p:=⟨w.heap.size,6,none⟩) qw0).trans (cw0 6 _ rfl);have k7:=(Bw1.cell (p:=⟨w.heap.size,7,none⟩) qw0).trans (cw0 7 _ rfl);have HRS:=zh (show yB (fun b=>¬P b/\b < w.heap.size) w1 [.int .i64 st.turn,.slice A1 st.users.length c1,.slice A2 st.deposits.length c2,.slice A3 st.folders.length c3] st from Z0 h2 fun b hb hl=>⟨⟨hb,hl⟩,(zB Bw0 Bw1).block b hl⟩);have HRC:=zh (show z2a (fun b=>¬P b/\b < w.heap.size) w1 (z3v c (.slice A7 c.data.length c7)) c from YZ hc fun b hb hl=>⟨⟨hb,hl⟩,(zB Bw0 Bw1).block b hl⟩);have HOK:=zh (zBb hI (by omega) hd);clear h hc hI hd ck cd h1 h1' h2 e7 cw0 fw0 Bw0 cw1 fw1 Bw1 qw1 hz1;unfold zV at hw1;go_enter Tryz.func34,Tryz.ntmps34
 go_upto_region 1 with fail
 have HSQ:=zh (show ∀W':World,Below w1.heap.size w1 W'->(fun W':World=>Below w1.heap.size w1 W'/\W'.cell? ⟨bv,0,none⟩=some (.int .i64 st.turn)/\W'.cell? ⟨bv,1,none⟩=some (.slice A1 st.users.length c1)/\W'.cell? ⟨bv,2,none⟩=some (.slice A2 st.deposits.length c2)/\W'.cell? ⟨bv,3,none⟩=some (.slice A3 st.folders.length c3)/\W'.cell? ⟨w.heap.size,0,none⟩=some (.int .i64 c.kind)/\W'.cell? ⟨w.heap.size,1,none⟩=some (.string c.user)/\W'.cell? ⟨w.heap.size,2,none⟩=some (.string c.folder)/\W'.cell? ⟨w.heap.size,3,none⟩=some (.string c.name)/\W'.cell? ⟨w.heap.size,4,none⟩=some (.string c.other)/\W'.cell? ⟨w.heap.size,5,none⟩=some (.int .i64 c.role)/\W'.cell? ⟨w.heap.size,6,none⟩=some (.int .i64 c.version)/\W'.cell? ⟨w.heap.size,7,none⟩=some (.slice A7 c.data.length c7)) W' from fun W' hW=>⟨hW,(hW.cell (p:=⟨bv,0,none⟩) (zF s0)).trans s0,(hW.cell (p:=⟨bv,1,none⟩) (zF s1)).trans s1,(hW.cell (p:=⟨bv,2,none⟩) (zF s2)).trans s2,(hW.cell (p:=⟨bv,3,none⟩) (zF s3)).trans s3,(hW.cell (p:=⟨w.heap.size,0,none⟩) (zF k0)).trans k0,(hW.cell (p:=⟨w.heap.size,1,none⟩) (zF k1)).trans k1,(hW.cell (p:=⟨w.heap.size,2,none⟩) (zF k2)).trans k2,(hW.cell (p:=⟨w.heap.size,3,none⟩) (zF k3)).trans k3,(hW.cell (p:=⟨w.heap.size,4,none⟩) (zF k4)).trans k4,(hW.cell (p:=⟨w.heap.size,5,none⟩) (zF k5)).trans k5,(hW.cell (p:=⟨w.heap.size,6,none⟩) (zF k6)).trans k6,(hW.cell (p:=⟨w.heap.size,7,none⟩) (zF k7)).trans k7⟩);refine yT (S:=fun W':World=>Below w1.heap.size w1 W'/\W'.cell? ⟨bv,0,none⟩=some (.int .i64 st.turn)/\W'.cell? ⟨bv,1,none⟩=some (.slice A1 st.users.length c1)/\W'.cell? ⟨bv,2,none⟩=some (.slice A2 st.deposits.length c2)/\W'.cell? ⟨bv,3,none⟩=some (.slice A3 st.folders.length c3)/\W'.cell? ⟨w.heap.size,0,none⟩=some (.int .i64 c.kind)/\W'.cell? ⟨w.heap.size,1,none⟩=some (.string c.user)/\W'.cell? ⟨w.heap.size,2,none⟩=some (.string c.folder)/\W'.cell? ⟨w.heap.size,3,none⟩=some (.string c.name)/\W'.cell? ⟨w.heap.size,4,none⟩=some (.string c.other)/\W'.cell? ⟨w.heap.size,5,none⟩=some (.int .i64 c.role)/\W'.cell? ⟨w.heap.size,6,none⟩=some (.int .i64 c.version)/\W'.cell? ⟨w.heap.size,7,none⟩=some (.slice A7 c.data.length c7)) 8 [] (by kernel_rfl) (HSQ.out _ zbr.drew) (fun hHeld=>?_);refine ziU 0 ?_;iterate 5 (refine ztU hHeld ?_;simp only [zA])
 refine zoU ?_;refine zU 6 hHeld ?_;simp only [zA];refine yK (i:=5) (by kernel_rfl) rfl (fun K hK=>?_);go_simp;go_at_call 47
 refine zcm (zEz st [.int .i64 st.turn,.slice A1 st.users.length c1,.slice A2 st.deposits.length c2,.slice A3 st.folders.length c3] _ (fun b=>¬P b/\b < w.heap.size) (Z0 HRS.out (zK (zbr.drew))) HOK.out) ?_;rintro e3 w3 ⟨R,rfl,b3,os,is⟩;have Bw3:Below w1.heap.size w1 w3:=zB (zbr.drew) b3;clear b3 hHeld;refine hK.out _ _ (HSQ.out _ Bw3) (fun hHeld=>?_);clear hK K;try simp only [zA]
 obtain ⟨_,_,_,he1⟩:=(os.row .us).shape3;obtain ⟨_,_,_,he2⟩:=(os.row .de).shape3;obtain ⟨_,_,_,he3⟩:=(os.row .fo).shape3;have HOS:=zh os;have HIS:=zh is;have HE1:=zh he1;have HE2:=zh he2;have HE3:=zh he3;rw [he1,he2,he3];have HBw3:=zh Bw3;clear os is he1 he2 he3 Bw3 s0 s1 s2 s3 k0 k1 k2 k3 k4 k5 k6 k7;refine zU 7 hHeld ?_;simp only [zA];refine Z4 (i:=8) (by kernel_rfl) rfl (fun K hK=>?_);go_simp;refine hK.out _ _ ?_;clear hK K;try simp only [zA]
 refine Z4 (i:=9) (by kernel_rfl) rfl (fun K hK=>?_);go_simp;refine hK.out _ _ ?_;clear hK K;try simp only [zA]
 refine z0f (by kernel_rfl) ?_ _;generalize hwb:World.alloc w3 _=wb;have HZ3:=zh (show w.heap.size+2<=w3.heap.size from by have:=HBw3.out.size;have:=HZ1.out;omega);have hwd:w1.drew.heap.size=w.heap.size+2:=by rw [World.size_drew,HZ1.out]
 have hXS:∀b,(¬P b/\b < w.heap.size)->¬(P b\/b=w.heap.size+1):=fun b hb hx=>hx.elim hb.1 fun e=>by have:=hb.2;omega
 have HW:=zh (WK.make (wb:=wb) (X:=fun b=>P b\/b=w.heap.size+1) (S:=fun b=>¬P b/\b < w.heap.size) (T:=fun b=>¬P b/\b < w.heap.size) (w2:=w1.drew) (late:=late) HOS.out HIS.out hXS (fun b hx=>by rw [hwd];exact hx.elim (fun e=>by have:=HPL.out b e;omega) fun e=>by omega) (by rw [hwd];exact HZ3.out) (by unfold z35;rw [HE1.out,HE2.out,HE3.out];exact hwb) (YZ HRC.out (zK HBw3.out)) (fun b hb=>⟨by have:=hb.2;omega,hXS b hb⟩));clear hXS;have HBW:=zh (show w.heap.size<=w3.heap.size from by have:=HZ3.out;omega);have HB3b:=zh (show Below w3.heap.size w3 wb from by rw [<-hwb];exact Below.alloc zbr (znl _) _);have HBb:=zh (zB (zB HB1.out HBw3.out) HB3b.out);have HRb:=zh ((HB3b.out.block _ (by have:=HZ3.out;omega)).trans ((HBw3.out.block _ (by rw [HZ1.out];omega)).trans HR1.out));have HBE:=zh (zKa HW.out HK.out.k1 (fun e=>⟨HK.out.nof (.inr (by omega)),HK.out.noo (.inr e)⟩));clear hwb;go_wp2_with fail
 refine zcm HBE.out ?_;rintro _ w4 ⟨rfl,B4⟩;have H4:=zh (HW.out.below B4);have HB4:=zh (zB HBb.out B4);have HR4:=zh ((B4.block _ (zO HRb.out)).trans HRb.out);clear B4;by_cases hbe:ZV st c late=0
 rotate_left
 ·have hg1:(ZV st c late !=0)=true:=by simp [hbe]
  have hg2:decide (ZV st c late=0)=false:=decide_eq_false hbe;have hg3:(ZV st c late==0)=false:=by simp [hbe]
  have HNX:=zh (zTe hbe);clear hbe;go_wp2_with fail
  refine zcm (ZK (ZV st c late) w4) ?_;rintro e5 w5 ⟨rfl,B5⟩;have H5:=zh (H4.out.below B5);have HB5:=zh (zB HB4.out B5);have HR5:=zh ((B5.block _ (zO HR4.out)).trans HR4.out);clear B5;have K:=HR5.out;unfold zV at K;obtain ⟨y0,y1,y2,y3,y4,y5,y6⟩:=zC7 (zD K).1;have yz:=(zD K).2;clear K;unfold yD;go_wp2;try simp only [Exit.inBlock,Exit.then]
  obtain ⟨F1,F2⟩:=Z6 HR5.out (.int .i64 (ZV st c late)) (.int .i64 0) (.string ⟨#[]⟩) (.slice none 0 0) (.slice none 0 0) (.slice none 0 0) (.slice none 0 0);refine bodyPost_ret (z3z rfl _ _ (w.heap.size+1) 49 #[.int .i64 (ZV st c late),.int .i64 0,.string ⟨#[]⟩,.slice none 0 0,.slice none 0 0,.slice none 0 0,.slice none 0 0] (0,0) _ rfl F1 Tryz.underlying49 rfl (by kernel_rfl)) rfl ?_;obtain ⟨r1,r2⟩:=zFv H5.out F2 (y8 (zMz st c late));exact ⟨_,_,_,_,rfl,HBW.out,ButB.below HB5.out (by have:=HB5.out.size;omega) (fun z hz=>by have:z=w.heap.size+1:=hz;omega) F2,by rw [HNX.out];exact r1,by rw [HNX.out];exact r2⟩
 have HBE0:=zh hbe;have hdo:=zTb H4.out HI.out hn HK.out HCD.out hbe;obtain ⟨res,hres⟩:∃r,doR st c=r:=⟨_,rfl⟩;rw [hres] at hdo;have HOK3:=zh (show Ok3 st res from by rw [<-hres,<-zLb HBE0.out];exact zRh st c late);have HNX:=zh ((zLb HBE0.out).trans hres);obtain ⟨st5,a,dn⟩:=res;have HDO:=zh hdo;rw [hbe];clear hbe hdo hres;go_wp2_with fail
 refine zcm HDO.out ?_;rintro e5 w5 ⟨_,rfl,R5,h5,m5,ha⟩;obtain ⟨A3',c3',A4',c4',A5',c5',A6',c6',rfl⟩:=yG ha;obtain ⟨w6,hw6,cw6,fw6,Bw6,_⟩:=zQ w5 #[.int .i64 a.err,.int .i64 a.number,.string a.who,.slice A3' a.data.length c3',.slice A4' a.names.length c4',.slice A5' a.members.length c5',.slice A6' a.history.length c6'] 49;have HB5:=zh (zRi H4.out m5 HB4.out (by rw [World.size_drew,HZ1.out];omega));have H6:=zh (h5.below Bw6);have HB6:=zh (zB HB5.out Bw6);have HA6:=zh (z2g ha (Mut.below (bw:=w3.heap.size) (R:=R5) Bw6).kept);have hr5:=(Mut.own H4.out m5 (.inr rfl)).trans HR4.out;have HR6:=zh ((Bw6.block _ (zO hr5)).trans hr5);have HN6:=zh (zbx hw6);have hnb:¬(w5.heap.size=w.heap.size+1):=by have:=zO hr5;omega
 have a0:=cw6 0 _ rfl;have a1:=cw6 1 _ rfl;have a2:=cw6 2 _ rfl;have a3:=cw6 3 _ rfl;have a4:=cw6 4 _ rfl;have a5:=cw6 5 _ rfl;have a6:=cw6 6 _ rfl;have HLT5:=zh (show w3.heap.size < w5.heap.size from h5.lt);clear ha h5 m5 cw6 fw6 Bw6 hr5;by_cases hae:a.err=0
 ·have hg1:(a.err !=0)=false:=by simp [hae]
  have hg2:decide (a.err=0)=true:=decide_eq_true hae;have hg3:(a.err==0)=true:=by simp [hae]
  clear hae;have K:=HR6.out;unfold zV at K;obtain ⟨y0,y1,y2,y3,y4,y5,y6⟩:=zC7 (zD K).1;have yz:=(zD K).2;clear K;go_upto_region 8 with fail
  have HSQ:=zh (show ∀W':World,Below w6.heap.size w6 W'->(fun W':World=>Below w6.heap.size w6 W'/\W'.cell? ⟨w5.heap.size,0,none⟩=some (.int .i64 a.err)/\W'.cell? ⟨w5.heap.size,1,none⟩=some (.int .i64 a.number)/\W'.cell? ⟨w5.heap.size,2,none⟩=some (.string a.who)/\W'.cell? ⟨w5.heap.size,3,none⟩=some (.slice A3' a.data.length c3')/\W'.cell? ⟨w5.heap.size,4,none⟩=some (.slice A4' a.names.length c4')/\W'.cell? ⟨w5.heap.size,5,none⟩=some (.slice A5' a.members.length c5')/\W'.cell? ⟨w5.heap.size,6,none⟩=some (.slice A6' a.history.length c6')) W' from fun W' hW=>⟨hW,(hW.cell (p:=⟨w5.heap.size,0,none⟩) (zF a0)).trans a0,(hW.cell (p:=⟨w5.heap.size,1,none⟩) (zF a1)).trans a1,(hW.cell (p:=⟨w5.heap.size,2,none⟩) (zF a2)).trans a2,(hW.cell (p:=⟨w5.heap.size,3,none⟩) (zF a3)).trans a3,(hW.cell (p:=⟨w5.heap.size,4,none⟩) (zF a4)).trans a4,(hW.cell (p:=⟨w5.heap.size,5,none⟩) (zF a5)).trans a5,(hW.cell (p:=⟨w5.heap.size,6,none⟩) (zF a6)).trans a6⟩);refine yT (S:=fun W':World=>Below w6.heap.size w6 W'/\W'.cell? ⟨w5.heap.size,0,none⟩=some (.int .i64 a.err)/\W'.cell? ⟨w5.heap.size,1,none⟩=some (.int .i64 a.number)/\W'.cell? ⟨w5.heap.size,2,none⟩=some (.string a.who)/\W'.cell? ⟨w5.heap.size,3,none⟩=some (.slice A3' a.data.length c3')/\W'.cell? ⟨w5.heap.size,4,none⟩=some (.slice A4' a.names.length c4')/\W'.cell? ⟨w5.heap.size,5,none⟩=some (.slice A5' a.members.length c5')/\W'.cell? ⟨w5.heap.size,6,none⟩=some (.slice A6' a.history.length c6')) 3 [] (by kernel_rfl) (HSQ.out _ zbr.drew) (fun hHeld=>?_);refine ziU 0 ?_;iterate 3 (refine ztU hHeld ?_;simp only [zA])
  refine zoU ?_;refine Z4 (i:=3) (by kernel_rfl) rfl (fun K hK=>?_);go_simp;refine hK.out _ _ ?_;clear hK K;try simp only [zA]
  refine z0f (by kernel_rfl) ?_ _;go_wp2;try simp only [Exit.inBlock,Exit.then]
  obtain ⟨F1,F2⟩:=Z6 HR6.out (.int .i64 a.err) (.int .i64 a.number) (.string a.who) (.slice A3' a.data.length c3') (.slice A4' a.names.length c4') (.slice A5' a.members.length c5') (.slice A6' a.history.length c6');replace F1:=ZL F1;replace F2:=F2.trans (ButB.of (zbr.drew));refine bodyPost_ret (z3z rfl _ _ (w.heap.size+1) 49 #[.int .i64 a.err,.int .i64 a.number,.string a.who,.slice A3' a.data.length c3',.slice A4' a.names.length c4',.slice A5' a.members.length c5',.slice A6' a.history.length c6'] (0,0) _ rfl F1 Tryz.underlying49 rfl (by kernel_rfl)) rfl ?_;obtain ⟨r1,r2⟩:=zFv H6.out F2 HA6.out;exact ⟨_,_,_,_,rfl,HBW.out,ButB.below HB6.out (by have:=HB6.out.size;omega) (fun z hz=>by have:z=w.heap.size+1:=hz;omega) F2,by rw [HNX.out];exact r1,by rw [HNX.out];exact r2⟩
 have hg1:(a.err !=0)=true:=by simp [hae]
 have hg2:decide (a.err=0)=false:=decide_eq_false hae;have hg3:(a.err==0)=false:=by simp [hae]
 obtain rfl:dn=false:=(HOK3.out.err hae).2;clear hae;have t12:=H6.out.cells.1 12 _ rfl;have tz:=H6.out.cells.2;obtain ⟨h7,m7⟩:=H6.out.setDone false;have HH7:=zh h7;have HM7:=zh m7;clear h7 m7;have hlw:=H6.out.lt;have HNE:=zh (show w5.heap.size≠w3.heap.size/\w.heap.size+1≠w3.heap.size from ⟨fun e=>by have:=HB5.out.size;have:=H4.out.lt;have:=HLT5.out;omega,by have:=HZ3.out;omega⟩);go_upto_region 8 with fail
 generalize hw7:World.setCell w6 _ _=w7;have HH7':=zh (show WK (fun b=>P b\/b=w.heap.size+1) _ w3.heap.size w7 R5 c _ st5 false late from by rw [<-hw7];exact HH7.out);have HA7:=zh (show YY (Imm (fun b=>P b\/b=w.heap.size+1) w3.heap.size R5 w7) w7 _ a from by rw [<-hw7];exact z2g HA6.out HM7.out.kept);have HN7:=zh (show w7.heap[w5.heap.size]? =some (.cells #[.int .i64 a.err,.int .i64 a.number,.string a.who,.slice A3' a.data.length c3',.slice A4' a.names.length c4',.slice A5' a.members.length c5',.slice A6' a.history.length c6'] 49 (0,0)) from by rw [<-hw7];exact zR (a:=⟨w3.heap.size,12,none⟩) _ HN6.out HNE.out.1);have HR7:=zh (show w7.heap[w.heap.size+1]? =some (.cells zV 49 (0,0)) from by rw [<-hw7];exact zR (a:=⟨w3.heap.size,12,none⟩) _ HR6.out HNE.out.2);have HB7:=zh (show Below w.heap.size w w7 from by rw [<-hw7];exact HB6.out.setCell (by have:=HZ3.out;show w.heap.size<=w3.heap.size;omega) _);clear a0 a1 a2 a3 a4 a5 a6 t12 tz hw7 hlw;obtain ⟨a0,a1,a2,a3,a4,a5,a6⟩:=zC7 (zD HN7.out).1;have K:=HR7.out;unfold zV at K;obtain ⟨y0,y1,y2,y3,y4,y5,y6⟩:=zC7 (zD K).1;have yz:=(zD K).2;clear K;have HSQ:=zh (show ∀W':World,Below w7.heap.size w7 W'->(fun W':World=>Below w7.heap.size w7 W'/\W'.cell? ⟨w5.heap.size,0,none⟩=some (.int .i64 a.err)/\W'.cell? ⟨w5.heap.size,1,none⟩=some (.int .i64 a.number)/\W'.cell? ⟨w5.heap.size,2,none⟩=some (.string a.who)/\W'.cell? ⟨w5.heap.size,3,none⟩=some (.slice A3' a.data.length c3')/\W'.cell? ⟨w5.heap.size,4,none⟩=some (.slice A4' a.names.length c4')/\W'.cell? ⟨w5.heap.size,5,none⟩=some (.slice A5' a.members.length c5')/\W'.cell? ⟨w5.heap.size,6,none⟩=some (.slice A6' a.history.length c6')) W' from fun W' hW=>⟨hW,(hW.cell (p:=⟨w5.heap.size,0,none⟩) (zF a0)).trans a0,(hW.cell (p:=⟨w5.heap.size,1,none⟩) (zF a1)).trans a1,(hW.cell (p:=⟨w5.heap.size,2,none⟩) (zF a2)).trans a2,(hW.cell (p:=⟨w5.heap.size,3,none⟩) (zF a3)).trans a3,(hW.cell (p:=⟨w5.heap.size,4,none⟩) (zF a4)).trans a4,(hW.cell (p:=⟨w5.heap.size,5,none⟩) (zF a5)).trans a5,(hW.cell (p:=⟨w5.heap.size,6,none⟩) (zF a6)).trans a6⟩);refine yT (S:=fun W':World=>Below w7.heap.size w7 W'/\W'.cell? ⟨w5.heap.size,0,none⟩=some (.int .i64 a.err)/\W'.cell? ⟨w5.heap.size,1,none⟩=some (.int .i64 a.number)/\W'.cell? ⟨w5.heap.size,2,none⟩=some (.string a.who)/\W'.cell? ⟨w5.heap.size,3,none⟩=some (.slice A3' a.data.length c3')/\W'.cell? ⟨w5.heap.size,4,none⟩=some (.slice A4' a.names.length c4')/\W'.cell? ⟨w5.heap.size,5,none⟩=some (.slice A5' a.members.length c5')/\W'.cell? ⟨w5.heap.size,6,none⟩=some (.slice A6' a.history.length c6')) 3 [] (by kernel_rfl) (HSQ.out _ zbr.drew) (fun hHeld=>?_);refine ziU 0 ?_;iterate 3 (refine ztU hHeld ?_;simp only [zA])
 refine zoU ?_;refine Z4 (i:=3) (by kernel_rfl) rfl (fun K hK=>?_);go_simp;refine hK.out _ _ ?_;clear hK K;try simp only [zA]
 refine z0f (by kernel_rfl) ?_ _;go_wp2;try simp only [Exit.inBlock,Exit.then]
 obtain ⟨F1,F2⟩:=Z6 HR7.out (.int .i64 a.err) (.int .i64 a.number) (.string a.who) (.slice A3' a.data.length c3') (.slice A4' a.names.length c4') (.slice A5' a.members.length c5') (.slice A6' a.history.length c6');replace F1:=ZL F1;replace F2:=F2.trans (ButB.of (zbr.drew));refine bodyPost_ret (z3z rfl _ _ (w.heap.size+1) 49 #[.int .i64 a.err,.int .i64 a.number,.string a.who,.slice A3' a.data.length c3',.slice A4' a.names.length c4',.slice A5' a.members.length c5',.slice A6' a.history.length c6'] (0,0) _ rfl F1 Tryz.underlying49 rfl (by kernel_rfl)) rfl ?_;obtain ⟨r1,r2⟩:=zFv HH7'.out F2 HA7.out;exact ⟨_,_,_,_,rfl,HBW.out,ButB.below HB7.out (by have:=HB7.out.size;omega) (fun z hz=>by have:z=w.heap.size+1:=hz;omega) F2,by rw [HNX.out];exact r1,by rw [HNX.out];exact r2⟩
end
end
end Go.Proofs.YtdggplhnfhcieaaGreatDoor
