/- No condition. -/
import Derived.Test.YtdggplhnfhcieaaGreatDoorW31
set_option linter.all false
set_option maxRecDepth 100000
set_option maxHeartbeats 16000000
namespace Go.Proofs.YtdggplhnfhcieaaGreatDoor
open Go.Proofs.Tryz Cd Ce List
open Go.RowKit Go.Deep
variable {late:Bool} {k n:Nat} {p:Prop}
theorem Y6 {S:Nat->Prop} {w:World} {cs:Array Value} {a:Answer} (h:yJ S w cs.toList a):∃A3 c3 A4 c4 A5 c5 A6 c6,cs=#[.int .i64 a.err,.int .i64 a.number,.string a.who,.slice A3 a.data.length c3,.slice A4 a.names.length c4,.slice A5 a.members.length c5,.slice A6 a.history.length c6]:=by
 obtain⟨_,_,_,_,e,_,_,_,d3,d4,d5,d6⟩:=h;obtain⟨A3,c3,rfl,_⟩:=d3;obtain⟨A4,c4,rfl,_⟩:=d4;obtain⟨A5,c5,rfl,_⟩:=d5;obtain⟨A6,c6,rfl,_⟩:=d6;exact⟨A3,c3,A4,c4,A5,c5,A6,c6,by rw[<-e]⟩
section
variable {X:Nat->Prop} {base bw:Nat} {W W':World} {R R':RM} {c:Call} {dv:Value} {st:State} {done late:Bool}
theorem mab (h:p:=by
 unfold Z3 at hw0;go_enter func55,ntmps55
 go_wp2_with fail
 refine zcm HCON ?_;rintro _ _ ⟨_,rfl,_,hK1,m1,ha⟩;obtain⟨A3,c3,A4,c4,A5,c5,A6,c6,rfl⟩:=Y6 ha;have HA:=zh ha;have H1:=zh hK1;have HM1:=zh m1;have HK1:=zh ((Mut.own HW HM1 (.inr rfl)).trans HT0);have K1:=HK1.o;unfold Z3 at K1;obtain⟨y0,y1,y2,y3,y4,y5,y6⟩:=zC7 (zB K1).1;have yz:=(zB K1).2;clear K1 ha hK1 m1;go_wp2;try simp only[φ]
 refine bodyPost_ret (zq rfl rfl (ZC HK1 _ _ _ _ _ _ _).1 rfl) rfl ?_;exact ZI H1 ((Mut.below HB0).trans HM1) (znl _) (ZC HK1 _ _ _ _ _ _ _).2 HA):p:=h
theorem mcv (h:p:=by
 obtain⟨_,a,_⟩:=r;have HCON:=zh hcon;clear hcon h H0 hI hc hkd hd;exact mab):p:=h
theorem zWv (h:WK X base bw W R c dv st false late) (hI:VInv n st) (hn:n<=40) (hc:CallOk c) (hd:c.data.length<=512) (hkd:c.kind=1):
  Calls prog 55 #[pT bw] W (Did X base bw W R c dv late (doR st c)):=by
 rw[show doR st c=YB st c from by unfold doR;dsimp only;simp only[hkd];rfl];have i:=zh hI;obtain⟨b,hw0⟩:=Ξ (W.alloc (.cells Z3 49));have g:=yQ W;rw[hw0] at g;obtain⟨f,d,e,_⟩:=g;have H0:=f R h;have HW:=zh H0;have HT0:=zh e;have HB0:=zh d;have j:=H0.lt;clear f d e;have l:(cL b bw 0 '1':Prop):=by rw[<-hkd];exact H0.cells.1 0 _ rfl
 have hcon:=zJb H0 (oh i.u16);generalize YB st c=r at hcon⊢;exact mcv
theorem zWw (h:WK X base bw W R c dv st false late) (hI:VInv n st) (hn:n<=40) (hc:CallOk c) (hd:c.data.length<=512) (hkd:c.kind=2):
  Calls prog 55 #[pT bw] W (Did X base bw W R c dv late (doR st c)):=by
 rw[show doR st c=YR st c from by unfold doR;dsimp only;simp only[hkd];rfl];have j:=zh hI;have i:=zh hc;obtain⟨b,hw0⟩:=Ξ (W.alloc (.cells Z3 49));have g:=yQ W;rw[hw0] at g;obtain⟨f,d,e,_⟩:=g;have H0:=f R h;have HW:=zh H0;have HT0:=zh e;have HB0:=zh d;have l:=H0.lt;clear f d e;have m:(cL b bw 0 (.int .i64 2):Prop):=by rw[<-hkd];exact H0.cells.1 0 _ rfl
 have hcon:=zMd H0 j hn i;generalize YR st c=r at hcon⊢;exact mcv
theorem mck (h:p:=by
 obtain⟨_,a,_⟩:=r;have HCON:=zh hcon;clear hcon h H0 hI hc hkd hd hk;exact mab):p:=h
theorem zWx (h:WK X base bw W R c dv st false late) (hI:VInv n st) (hn:n<=40) (hc:CallOk c) (hd:c.data.length<=512) (hkd:c.kind=3) (hk:ZB st c.folder=some k):
  Calls prog 55 #[pT bw] W (Did X base bw W R c dv late (doR st c)):=by
 rw[show doR st c=z0t st c k from by unfold doR;dsimp only;rw[hk];simp only[hkd];rfl];have l:=zh hI;have i:=zh hc;have j:=zh hk;obtain⟨b,hw0⟩:=Ξ (W.alloc (.cells Z3 49));have g:=yQ W;rw[hw0] at g;obtain⟨f,d,e,_⟩:=g;have H0:=f R h;have HW:=zh H0;have HT0:=zh e;have HB0:=zh d;have m:=H0.lt;clear f d e;have o:(cL b bw 0 (.int .i64 3):Prop):=by rw[<-hkd];exact H0.cells.1 0 _ rfl
 have hcon:=zR2 H0 l hn j i;generalize z0t st c k=r at hcon⊢;exact mck
theorem zWy (h:WK X base bw W R c dv st false late) (hI:VInv n st) (hn:n<=40) (hc:CallOk c) (hd:c.data.length<=512) (hkd:c.kind=4) (hk:ZB st c.folder=some k):
  Calls prog 55 #[pT bw] W (Did X base bw W R c dv late (doR st c)):=by
 rw[show doR st c=z04 st c k from by unfold doR;dsimp only;rw[hk];simp only[hkd];rfl];have j:=zh hI;have i:=zh hk;obtain⟨b,hw0⟩:=Ξ (W.alloc (.cells Z3 49));have g:=yQ W;rw[hw0] at g;obtain⟨f,d,e,_⟩:=g;have H0:=f R h;have HW:=zh H0;have HT0:=zh e;have HB0:=zh d;have l:=H0.lt;clear f d e;have m:(cL b bw 0 (.int .i64 4):Prop):=by rw[<-hkd];exact H0.cells.1 0 _ rfl
 have hcon:=zM9 H0 j om i;generalize z04 st c k=r at hcon⊢;exact mck
theorem mcH (h:p:=by
 have hcon:=z94 H0 HVI hn HK HC om;generalize yR st c k=r at hcon⊢;exact mck):p:=h
theorem zWz (h:WK X base bw W R c dv st false late) (hI:VInv n st) (hn:n<=40) (hc:CallOk c) (hd:c.data.length<=512) (hkd:c.kind=5) (hk:ZB st c.folder=some k):
  Calls prog 55 #[pT bw] W (Did X base bw W R c dv late (doR st c)):=by
 rw[show doR st c=yR st c k from by unfold doR;dsimp only;rw[hk];simp only[hkd];rfl];have HVI:=zh hI;have HC:=zh hc;have HK:=zh hk;obtain⟨b,hw0⟩:=Ξ (W.alloc (.cells Z3 49));have g:=yQ W;rw[hw0] at g;obtain⟨f,d,e,_⟩:=g;have H0:=f R h;have HW:=zh H0;have HT0:=zh e;have HB0:=zh d;have i:=H0.lt;clear f d e;have j:(cL b bw 0 (.int .i64 5):Prop):=by rw[<-hkd];exact H0.cells.1 0 _ rfl
 exact mcH
end
section
variable {X:Nat->Prop} {base bw:Nat} {W W':World} {R R':RM} {c:Call} {dv:Value} {st:State} {done late:Bool}
theorem zX0 (h:WK X base bw W R c dv st false late) (hI:VInv n st) (hn:n<=40) (hc:CallOk c) (hd:c.data.length<=512) (hkd:c.kind=6) (hk:ZB st c.folder=some k):
  Calls prog 55 #[pT bw] W (Did X base bw W R c dv late (doR st c)):=by
 rw[show doR st c=yR st c k from by unfold doR;dsimp only;rw[hk];simp only[hkd];rfl];have HVI:=zh hI;have HC:=zh hc;have HK:=zh hk;obtain⟨b,hw0⟩:=Ξ (W.alloc (.cells Z3 49));have g:=yQ W;rw[hw0] at g;obtain⟨f,d,e,_⟩:=g;have H0:=f R h;have HW:=zh H0;have HT0:=zh e;have HB0:=zh d;have i:=H0.lt;clear f d e;have j:(cL b bw 0 (.int .i64 6):Prop):=by rw[<-hkd];exact H0.cells.1 0 _ rfl
 exact mcH
theorem zX1 (h:WK X base bw W R c dv st false late) (hI:VInv n st) (hn:n<=40) (hc:CallOk c) (hd:c.data.length<=512) (hkd:c.kind=7) (hk:ZB st c.folder=some k):
  Calls prog 55 #[pT bw] W (Did X base bw W R c dv late (doR st c)):=by
 rw[show doR st c=yR st c k from by unfold doR;dsimp only;rw[hk];simp only[hkd];rfl];have HVI:=zh hI;have HC:=zh hc;have HK:=zh hk;obtain⟨b,hw0⟩:=Ξ (W.alloc (.cells Z3 49));have g:=yQ W;rw[hw0] at g;obtain⟨f,d,e,_⟩:=g;have H0:=f R h;have HW:=zh H0;have HT0:=zh e;have HB0:=zh d;have i:=H0.lt;clear f d e;have j:(cL b bw 0 (.int .i64 7):Prop):=by rw[<-hkd];exact H0.cells.1 0 _ rfl
 exact mcH
theorem zX2 (h:WK X base bw W R c dv st false late) (hI:VInv n st) (hn:n<=40) (hc:CallOk c) (hd:c.data.length<=512) (hkd:c.kind=8) (hk:ZB st c.folder=some k):
  Calls prog 55 #[pT bw] W (Did X base bw W R c dv late (doR st c)):=by
 rw[show doR st c=z3l st c k from by unfold doR;dsimp only;rw[hk];simp only[hkd];rfl];have j:=zh hI;have i:=zh hk;obtain⟨b,hw0⟩:=Ξ (W.alloc (.cells Z3 49));have g:=yQ W;rw[hw0] at g;obtain⟨f,d,e,_⟩:=g;have H0:=f R h;have HW:=zh H0;have HT0:=zh e;have HB0:=zh d;have l:=H0.lt;clear f d e;have m:(cL b bw 0 (.int .i64 8):Prop):=by rw[<-hkd];exact H0.cells.1 0 _ rfl
 have hcon:=zTa H0 j hn i om;generalize z3l st c k=r at hcon⊢;exact mck
theorem zX3 (h:WK X base bw W R c dv st false late) (hI:VInv n st) (hn:n<=40) (hc:CallOk c) (hd:c.data.length<=512) (hkd:c.kind=9) (hk:ZB st c.folder=some k):
  Calls prog 55 #[pT bw] W (Did X base bw W R c dv late (doR st c)):=by
 rw[show doR st c=(st,z54 st c k,false) from by unfold doR;dsimp only;rw[hk];simp only[hkd];rfl];have l:=zh hI;have i:=zh hc;have j:=zh hk;obtain⟨b,hw0⟩:=Ξ (W.alloc (.cells Z3 49));have g:=yQ W;rw[hw0] at g;obtain⟨f,d,e,_⟩:=g;have H0:=f R h;have HW:=zh H0;have HT0:=zh e;have HB0:=zh d;have m:=H0.lt;clear f d e;have o:(cL b bw 0 (.int .i64 9):Prop):=by rw[<-hkd];exact H0.cells.1 0 _ rfl
 have hcon:=zTf H0 l om i j;generalize (st,z54 st c k,false)=r at hcon⊢;exact mck
theorem zWh (h:WK X base bw W R c dv st false late) (hI:VInv n st) (hn:n<=40) (hc:CallOk c) (hd:c.data.length<=512) (hkd:c.kind=10) (hk:ZB st c.folder=some k):
  Calls prog 55 #[pT bw] W (Did X base bw W R c dv late (doR st c)):=by
 rw[show doR st c=(st,z5n st c k,false) from by unfold doR;dsimp only;rw[hk];simp only[hkd];rfl];have l:=zh hI;have i:=zh hc;have j:=zh hk;obtain⟨b,hw0⟩:=Ξ (W.alloc (.cells Z3 49));have g:=yQ W;rw[hw0] at g;obtain⟨f,d,e,_⟩:=g;have H0:=f R h;have HW:=zh H0;have HT0:=zh e;have HB0:=zh d;have m:=H0.lt;clear f d e;have o:(cL b bw 0 (.int .i64 10):Prop):=by rw[<-hkd];exact H0.cells.1 0 _ rfl
 have hcon:=zRa H0 l om (oh i.u20) j;generalize (st,z5n st c k,false)=r at hcon⊢;exact mck
end
section
variable {X:Nat->Prop} {base bw:Nat} {W W':World} {R R':RM} {c:Call} {dv:Value} {st:State} {done late:Bool}
theorem zWi (h:WK X base bw W R c dv st false late) (hI:VInv n st) (hn:n<=40) (hc:CallOk c) (hd:c.data.length<=512) (hkd:c.kind=11) (hk:ZB st c.folder=some k):
  Calls prog 55 #[pT bw] W (Did X base bw W R c dv late (doR st c)):=by
 rw[show doR st c=z1j st c k from by unfold doR;dsimp only;rw[hk];simp only[hkd];rfl];have j:=zh hI;have i:=zh hk;obtain⟨b,hw0⟩:=Ξ (W.alloc (.cells Z3 49));have g:=yQ W;rw[hw0] at g;obtain⟨f,d,e,_⟩:=g;have H0:=f R h;have HW:=zh H0;have HT0:=zh e;have HB0:=zh d;have l:=H0.lt;clear f d e;have m:(cL b bw 0 (.int .i64 11):Prop):=by rw[<-hkd];exact H0.cells.1 0 _ rfl
 have hcon:=zQv H0 j om i;generalize z1j st c k=r at hcon⊢;exact mck
theorem zWj (h:WK X base bw W R c dv st false late) (hI:VInv n st) (hn:n<=40) (hc:CallOk c) (hd:c.data.length<=512) (hkd:c.kind=12) (hk:ZB st c.folder=some k):
  Calls prog 55 #[pT bw] W (Did X base bw W R c dv late (doR st c)):=by
 rw[show doR st c=(st,z0y st c k,false) from by unfold doR;dsimp only;rw[hk];simp only[hkd];rfl];have l:=zh hI;have i:=zh hc;have j:=zh hk;obtain⟨b,hw0⟩:=Ξ (W.alloc (.cells Z3 49));have g:=yQ W;rw[hw0] at g;obtain⟨f,d,e,_⟩:=g;have H0:=f R h;have HW:=zh H0;have HT0:=zh e;have HB0:=zh d;have m:=H0.lt;clear f d e;have o:(cL b bw 0 (.int .i64 12):Prop):=by rw[<-hkd];exact H0.cells.1 0 _ rfl
 have hcon:=zL9 H0 l om (oh i.u20) j;generalize (st,z0y st c k,false)=r at hcon⊢;exact mck
theorem zWk (h:WK X base bw W R c dv st false late) (hI:VInv n st) (hn:n<=40) (hc:CallOk c) (hd:c.data.length<=512) (hkd:c.kind=13) (hk:ZB st c.folder=some k):
  Calls prog 55 #[pT bw] W (Did X base bw W R c dv late (doR st c)):=by
 rw[show doR st c=(st,z8e st k,false) from by unfold doR;dsimp only;rw[hk];simp only[hkd];rfl];have j:=zh hI;have i:=zh hk;obtain⟨b,hw0⟩:=Ξ (W.alloc (.cells Z3 49));have g:=yQ W;rw[hw0] at g;obtain⟨f,d,e,_⟩:=g;have H0:=f R h;have HW:=zh H0;have HT0:=zh e;have HB0:=zh d;have l:=H0.lt;clear f d e;have m:(cL b bw 0 (.int .i64 13):Prop):=by rw[<-hkd];exact H0.cells.1 0 _ rfl
 have hcon:=zQu H0 j i;generalize (st,z8e st k,false)=r at hcon⊢;exact mck
theorem zWl (h:WK X base bw W R c dv st false late) (hI:VInv n st) (hn:n<=40) (hc:CallOk c) (hd:c.data.length<=512) (hkd:c.kind=14):
  Calls prog 55 #[pT bw] W (Did X base bw W R c dv late (doR st c)):=by
 rw[show doR st c=z1v st c from by unfold doR;dsimp only;simp only[hkd];rfl];have i:=zh hI;obtain⟨b,hw0⟩:=Ξ (W.alloc (.cells Z3 49));have g:=yQ W;rw[hw0] at g;obtain⟨f,d,e,_⟩:=g;have H0:=f R h;have HW:=zh H0;have HT0:=zh e;have HB0:=zh d;have j:=H0.lt;clear f d e;have l:(cL b bw 0 (.int .i64 14):Prop):=by rw[<-hkd];exact H0.cells.1 0 _ rfl
 have hcon:=zKr H0 (oh i.few);generalize z1v st c=r at hcon⊢;exact mcv
theorem zWm (h:WK X base bw W R c dv st false late) (j:VInv n st) (hn:n<=40) (l:CallOk c) (m:c.data.length<=512) (hkd:c.kind=15) {u:Nat} (hu:yU st c.user=some u):
  Calls prog 55 #[pT bw] W (Did X base bw W R c dv late (doR st c)):=by
 rw[show doR st c=z8f st c from by unfold doR;dsimp only;simp only[hkd];rfl];obtain⟨d,hw0⟩:=Ξ (W.alloc (.cells Z3 49));have i:=yQ W;rw[hw0] at i;obtain⟨g,e,f,_⟩:=i;have a:=g R h;have HW:=zh a;have HT0:=zh f;have HB0:=zh e;have s:=a.lt;clear g e f;have t:(cL d bw 0 (.int .i64 15):Prop):=by rw[<-hkd];exact a.cells.1 0 _ rfl
 have b:=zQn a hu;generalize z8f st c=r at b⊢;obtain⟨_,o,_⟩:=r;have HCON:=zh b;clear b h a j l hkd m hu;exact mab
theorem zWn (h:WK X base bw W R c dv st false late) (l:VInv n st) (hn:n<=40) (m:CallOk c) (o:c.data.length<=512) (hkd:c.kind=16) {u v:Nat} (hu:yU st c.user=some u) (j:yU st c.other=some v):
  Calls prog 55 #[pT bw] W (Did X base bw W R c dv late (doR st c)):=by
 rw[show doR st c=z0k st c from by unfold doR;dsimp only;simp only[hkd];rfl];obtain⟨d,hw0⟩:=Ξ (W.alloc (.cells Z3 49));have i:=yQ W;rw[hw0] at i;obtain⟨g,e,f,_⟩:=i;have a:=g R h;have HW:=zh a;have HT0:=zh f;have HB0:=zh e;have t:=a.lt;clear g e f;have x:(cL d bw 0 (.int .i64 16):Prop):=by rw[<-hkd];exact a.cells.1 0 _ rfl
 have b:=zKs a hu j;generalize z0k st c=r at b⊢;obtain⟨_,s,_⟩:=r;have HCON:=zh b;clear b h a l m hkd o hu j;exact mab
end
section
variable {X:Nat->Prop} {base bw:Nat} {W:World} {R:RM} {c:Call} {dv:Value} {st:State} {late:Bool}
theorem zVq (h:WK X base bw W R c dv st false late) (b:VInv n st) (hn:n<=40) (a:CallOk c) (d:c.data.length<=512) (hb:ZR st c late=0):
  Calls prog 55 #[pT bw] W (Did X base bw W R c dv late (doR st c)):=by
 have v:=a.k1;have x:=a.k16;by_cases g:c.kind=1
 ·exact zWv h b hn a d g
 obtain⟨⟨_,l⟩,s,_,t⟩:=zD7 a g hb;by_cases j:c.kind=2
 ·exact zWw h b hn a d j
 by_cases m:c.kind=14
 ·exact zWl h b hn a d m
 by_cases o:c.kind=15
 ·exact zWm h b hn a d o l
 by_cases i:c.kind=16
 ·obtain⟨_,u⟩:=t (z3m (a.dep (.inr i))) om;exact zWn h b hn a d i l u
 obtain⟨_,f⟩:=s (z3m (a.fol om om)) j;rcases(show c.kind=3\/c.kind=4\/c.kind=5\/c.kind=6\/c.kind=7\/c.kind=8\/c.kind=9\/c.kind=10\/c.kind=11\/c.kind=12\/c.kind=13 from om) with e|e|e|e|e|e|e|e|e|e|e
 ·exact zWx h b hn a d e f
 ·exact zWy h b hn a d e f
 ·exact zWz h b hn a d e f
 ·exact zX0 h b hn a d e f
 ·exact zX1 h b hn a d e f
 ·exact zX2 h b hn a d e f
 ·exact zX3 h b hn a d e f
 ·exact zWh h b hn a d e f
 ·exact zWi h b hn a d e f
 ·exact zWj h b hn a d e f
 exact zWk h b hn a d e f
end
theorem z4s {P:Program} {e:Func} {p u:Tmp} {b:TypeId} (h:e.results=#[.tmp u,.cell p b]) (tmps:Array Value) (w:World) (g:Nat) (t:TypeId) (a:Array Value) (f:Nat×Nat) (d:TypeDesc)
  (hp:tmps.getD p undef= .pointer (some ⟨g,0,none⟩)) (hg:w.heap[g]? =some (.cells a t f))
  (hu:P.underlying b=some d) (i:(match d with | .struct _ | .array _ _=>true|_=>false)=true) (hi:(P.info? b).map (·.size)=some a.size):
  (results e tmps).run P w= .ok (.tuple #[tmps.getD u undef,.agg a]) w:=by
 have j:tmps[p]?.getD undef= .pointer (some ⟨g,0,none⟩):=by simpa using hp
 simp[results,h,j,asAddr,run_loadVar_row w g t b a f d hg hu i hi,Sem.run_bind,Result.andThen]
section
variable {P:Nat->Prop} {bv:Nat} {w w':World} {st:State} {q r:Int} {c:Call} {dv:Value}
theorem WK.make {X S T:Nat->Prop} {w2 d wb:World} {R:RM} (os:OS w2 d R) (is:IsSt (λb=>b<d/\¬z01 R b/\(b<w2->S b)) d R st) (s:∀b,S b->¬X b) (f:∀b,X b->b<w2.heap.size) (hz:w2<=d.heap.size)
  (hb:d.alloc (.cells (z42 R c dv st false late).toArray 112)=wb) (t:z09 T d (z4m c dv) c) (i:∀b,T b->b<w2.heap.size/\¬X b):WK X w2 d wb R c dv st false late:=by
 have e:(bW d wb:Prop):=by rw[<-hb];exact Below.alloc zbr (znl _) _
 have y:wb=d.heap.size+1:=by rw[<-hb,World.size_alloc]
 have j:∀b,z01 R b->w2.heap.size<=b:=λb ⟨k,a⟩=>os.low k b a
 have u:∀b,z01 R b->b<d.heap.size:=λb v=>os.lt v
 refine⟨os.below e,is.keep λb ⟨x,m,o⟩ g=>⟨⟨om,om,m,λa=>s b (o (f b a)) a⟩,e.block b g⟩,by rw[<-hb];exact zJ _ rfl,YH t λb l g=>⟨⟨om,om,λa=>by have:=j b a;have:=(i b l).1;omega,(i b l).2⟩,e.block b g⟩,λa=>by have:=u _ a;omega,hz,λb a h=>?_,λb h=>by have:=f b h;omega⟩;have:=f b h;rcases a with a|a
 ·have:=j b a;omega
 omega
def zXe (P:Nat->Prop) (w:World) (st:State) (c:Call) (dv:Value) (late:Bool) (e:Ending) (w':World):Prop:=
 ∃base bw R a,e= .returned (.tuple #[pT bw,.agg a])/\w.heap.size<=bw/\bW w w'/\WK P base bw w' R c dv (z12 st c late).1 (z12 st c late).2.2 late/\yJ (Imm P bw R w') w' a.toList (z12 st c late).2.1
theorem zHl {done:Bool} {base bw a:Nat} {w1 w2:World} {R:RM} {g:Array Value} {f:Answer} (h:WK (λb=>P b\/b=a) base bw w1 R c dv st done late) (d:ButB (·=a) w1 w2) (hr:yJ (Imm (λb=>P b\/b=a) bw R w1) w1 g.toList f):WK P base bw w2 R c dv st done late/\yJ (Imm P bw R w2) w2 g.toList f:=
 ⟨h.leave (d.mono λx s=> .inr s) λb o=> .inl o,yY hr λb ⟨i,l,m,j⟩ _=>⟨⟨zll i d.size,l,m,λe=>j (.inl e)⟩,d.block b i λe=>j (.inr e)⟩⟩
theorem zGs (st:State) (c:Call) (late:Bool):I64 (ZR st c late):=by
 unfold ZR;repeat' split
 all_goals exact⟨om,om⟩
theorem zVs (h:ZR st c late≠0):z12 st c late=(st,ZD (ZR st c late),false):=by unfold z12;rw[if_pos h]
theorem zNc (h:ZR st c late=0):z12 st c late=doR st c:=by unfold z12;rw[if_neg (by simp[h])]
theorem zTy {X:Nat->Prop} {base bw:Nat} {W0 W':World} {b R':RM} {done:Bool} (h:WK X base bw W0 b c dv st done late) (m:Mut bw b W0 R' W') {B:Nat} {w:World} (hb:Below B w W0) (e:B<=base):Below B w W':=
 hb.trans ⟨m.but.os,m.but.tape,m.but.output,m.but.size,λd f=>m.but.block d (oh h.base_le) λa=>by
  rcases a with a|⟨k,a⟩
  ·have:=h.bb;omega
  ·have:=h.os.low k d a;omega⟩
theorem zTz (h:VS P bv w st q r) (aK:z09 (λb=>¬P b) w (z4m c dv) c) (aH:VInv n st) (hn:n<=40) (bl:YY st) (bd:CallOk c) (bc:c.data.length<=512) (late:Bool):
  Calls prog 34 #[pT bv,.agg #[.int .i64 c.kind,.string c.user,.string c.folder,.string c.name,.string c.other,.int .i64 c.role,.int .i64 c.version,dv],late] w (zXe P w st c dv late):=by
 obtain⟨_,_,_,bh,aB⟩:=h.box;have cp:=h.lt;have cf:=zh h.pl;obtain⟨aV,a9,aW,ba,aX,bb,az,_⟩:=ZF aB;simp only[cons.injEq,true_and,and_true] at az;obtain⟨rfl,rfl,rfl⟩:=az;obtain⟨ap,ay,bg,_⟩:=yG aK;obtain rfl:dv= .slice ap c.data ay:=by simpa[z4m] using bg
 have b6:=zh aH;have ae:=zh bd;have bZ:=zh bc;obtain⟨bJ,cr,be,cm,J,cB⟩:=zP w (aC c ap ay) 41;have bq:bJ=w.heap.size+1:=by rw[<-cr,World.size_alloc]
 obtain⟨t,aQ,ck,cn,z,ct⟩:=zP bJ Z3 49;have br:t=w.heap.size+2:=by rw[<-aQ,World.size_alloc,bq]
 have cg:=zh (by rw[<-bq,<-aQ];exact zJ _ rfl:t.heap[w.heap.size+1]? =some (.cells Z3 49 (0,0)));have bV:=zh (zD J z);have af:=zh br;have bi:=((zD J z).block bv cp).trans bh;obtain⟨bF,bG,bH,bI⟩:=zC4 (zB bi).1;obtain⟨bs,bt,bu,bx,bz,bA,bB,bC⟩:=TC8 (zyA z be);have cj:=ζ (Z5 (λb=>¬P b/\b<w) t (lS st aV a9 aW ba aX bb) st) (zM aB λb m Q=>⟨⟨m,Q⟩,(zD J z).block b Q⟩);have ci:=ζ (z09 (λb=>¬P b/\b<w) t (z4m c (.slice ap c.data ay)) c) (YH aK λb m Q=>⟨⟨m,Q⟩,(zD J z).block b Q⟩);have cc:=zh (zHk aH om bl);clear h aK aH bl bd bc bh bi aB bg be cm J ck cn z ct br;unfold Z3 at aQ;go_enter func34,ntmps34
 go_upto_region 1 with fail
 have A:=zh (HQb12 (zyB bF) (zyB bG) (zyB bH) (zyB bI) (zyB bs) (zyB bt) (zyB bu) (zyB bx) (zyB bz) (zyB bA) (zyB bB) (zyB bC));refine zET 8 A.o λj=>?_;refine ziU 0 ?_;iterate 5 (refine ztU j ?_;simp only[zA])
 refine zoU ?_;refine zU 6 j ?_;simp only[zA];refine tQa 5 λe bk=>?_;go_simp;go_at_call 47
 refine zcm (zGq st (lS st aV a9 aW ba aX bb) _ (λb=>¬P b/\b<w) (zM cj (zK (zbr.drew))) cc) ?_;rintro az f ⟨R,rfl,a8,V,is⟩;have aq:(bW t f:Prop):=zD (zbr.drew) a8;clear a8 j;refine bk.o _ _ (A.o _ aq) (λj=>?_);clear bk e;try simp only[zA]
 obtain⟨_,_,_,aN⟩:=(V.row .us).shape3;obtain⟨_,_,_,aO⟩:=(V.row .de).shape3;obtain⟨_,_,_,aP⟩:=(V.row .fo).shape3;have ce:=zh V;have b7:=zh is;have b1:=zh aN;have b2:=zh aO;have b3:=zh aP;rw[aN,aO,aP];have ad:=zh aq;clear V is aN aO aP aq bF bG bH bI bs bt bu bx bz bA bB bC;refine zU 7 j ?_;simp only[zA];refine tNc 8 ?_
 refine tNc 9 ?_
 refine Z7 kr ?_ _;generalize aR:World.alloc f _=bK;have O:=zh (by have:=ad.size;have:=af.o;omega:w+2<=f.heap.size);have bp:t.drew=w.heap.size+2:=by rw[World.size_drew,af.o]
 have aI:∀b,(¬P b/\b<w.heap.size)->¬(P b\/b=w.heap.size+1):=λb m aT=>aT.elim m.1 λF=>by have:=m.2;omega
 have a7:=zh (WK.make (wb:=bK) (X:=λb=>P b\/b=w+1) (S:=λb=>¬P b/\b<w) (T:=λb=>¬P b/\b<w) (w2:=t.drew) (late:=late) ce b7 aI (λb aT=>by rw[bp];exact aT.elim (λF=>by have:=cf.o b F;omega) λF=>om) (by rw[bp];exact O) (by unfold z42;rw[b1.o,b2.o,b3.o];exact aR) (YH ci (zK ad)) (λb m=>⟨by have:=m.2;omega,aI b m⟩));clear aI;have au:=zh (by have:=O.o;omega:w<=f.heap.size);have aZ:=zh (by rw[<-aR];exact Below.alloc zbr (znl _) _:(bW f bK:Prop));have bY:=zh (zD (zD bV ad) aZ);have a6:=zh ((aZ.block _ (oh O.o)).trans ((ad.block _ (by rw[af.o];omega)).trans cg));have bX:=zh (zMa a7 ae.k1 (λF=>⟨ae.nof (.inr om),ae.noo (.inr F)⟩));clear aR;go_wp2_with fail
 refine zcb bX λcx ab=>?_;have L:=zh (a7.below ab);have a0:=zh (zD bY ab);have av:=zh ((ab.block _ (zI a6)).trans a6);clear ab;by_cases o:ZR st c late=0
 rotate_left
 ·have bm:(ZR st c late !=0)=true:=by simp[o]
  have bn:decide (ZR st c late=0)=false:=Γ o;have bo:(ZR st c late==0)=false:=by simp[o]
  have s:=zh (zVs o);clear o;go_wp2_with fail
  refine zcb (ZU (ZR st c late) cx) λH ac=>?_;have bT:=zh (L.below ac);have N:=zh (zD a0 ac);have a4:=zh ((ac.block _ (zI av)).trans av);clear ac;have e:=a4.o;unfold Z3 at e;obtain⟨bL,bM,bN,bO,bP,bQ,bR⟩:=zC7 (zB e).1;have bS:=(zB e).2;clear e;unfold ZV;go_wp2;try simp only[φ]
  obtain⟨i,g⟩:=ZC a4 (ZR st c late) '0' "" () () () ();refine bodyPost_ret (z4s rfl _ _ (w.heap.size+1) 49 #[.int .i64 (ZR st c late),'0',"",(),(),(),()] (0,0) _ rfl i underlying49 rfl kr) rfl ?_;obtain⟨Y,Z⟩:=zHl bT g (ZW (zGs st c late));exact⟨_,_,_,_,rfl,au,ButB.below N (oh N.size) (λaa U=>by have:aa=w+1:=U;omega) g,by rw[s.o];exact Y,by rw[s.o];exact Z⟩
 have a2:=zh o;have aL:=zVq L b6 hn ae bZ o;obtain⟨bE,ao⟩:=Ξ (doR st c);rw[ao] at aL;have cd:=zh (by rw[<-ao,<-zNc a2.o];exact zTx st c late:Ok3 st bE);have s:=zh ((zNc a2).trans ao);obtain⟨cu,d,cl⟩:=bE;have b0:=zh aL;rw[o];clear o aL ao;go_wp2_with fail
 refine zcm b0 ?_;rintro cz H ⟨_,rfl,ax,aG,aU,aJ⟩;obtain⟨u,B,v,C,x,D,y,E,rfl⟩:=Y6 aJ;obtain⟨cy,cs,bf,co,K,_⟩:=zP H (aA d u B v C x D y E) 49;have N:=zh (zTy L aU a0 (by rw[World.size_drew,af.o];omega));have M:=zh (aG.below K);have ar:=zh (zD N K);have aY:=zh (yY aJ (Mut.below (bw:=f.heap.size) (R:=ax) K).kept);have an:=(Mut.own L aU (.inr rfl)).trans av;have aw:=zh ((K.block _ (zI an)).trans an);have ca:=zh (zbx cs);have cA:¬(H=w.heap.size+1):=by have:=zI an;omega
 obtain⟨ag,ah,ai,aj,ak,al,am⟩:=TC7 bf;have b8:=ζ (f<H.heap.size) aG.lt;clear aJ aG aU bf co K an;by_cases l:d.err=0
 ·have bm:(d.err !=0)=false:=by simp[l]
  have bn:decide (d.err=0)=true:=Δ l;have bo:(d.err==0)=true:=by simp[l]
  clear l;have e:=aw.o;unfold Z3 at e;obtain⟨bL,bM,bN,bO,bP,bQ,bR⟩:=zC7 (zB e).1;have bS:=(zB e).2;clear e;go_upto_region 8 with fail
  have A:=zh (HQb7 (zyB ag) (zyB ah) (zyB ai) (zyB aj) (zyB ak) (zyB al) (zyB am));refine zET 3 A.o λj=>?_;refine ziU 0 ?_;iterate 3 (refine ztU j ?_;simp only[zA])
  refine zoU ?_;refine tNc 3 ?_
  refine Z7 kr ?_ _;go_wp2;try simp only[φ]
  obtain⟨i,g⟩:=ZC aw d.err d.number d.who (.slice u d.data B) (.slice v d.names C) (.slice x d.members D) (.slice y d.history E);replace i:=ZQ i;replace g:=g.trans (ButB.of (zbr.drew));refine bodyPost_ret (z4s rfl _ _ (w.heap.size+1) 49 (aA d u B v C x D y E) (0,0) _ rfl i underlying49 rfl kr) rfl ?_;obtain⟨Y,Z⟩:=zHl M g aY;exact⟨_,_,_,_,rfl,au,ButB.below ar (oh ar.size) (λaa U=>by have:aa=w+1:=U;omega) g,by rw[s.o];exact Y,by rw[s.o];exact Z⟩
 have bm:(d.err !=0)=true:=by simp[l]
 have bn:decide (d.err=0)=false:=Γ l;have bo:(d.err==0)=false:=by simp[l]
 obtain rfl:cl=false:=(cd.err l).2;clear l;have cv:=M.cells.1 12 _ rfl;have cw:=M.cells.2;obtain⟨bj,bD⟩:=M.setDone false;have b4:=zh bj;have b9:=zh bD;clear bj bD;have cq:=M.lt;have a3:=ζ (H≠f.heap.size/\w+1≠f.heap.size) ⟨λF=>by have:=N.size;have:=L.lt;have:=b8.o;omega,by have:=O.o;omega⟩;go_upto_region 8 with fail
 generalize G:World.setCell cy _ _=I;have b5:=zh (by rw[<-G];exact b4:WK (λb=>P b\/b=w+1) _ f I ax c _ cu false late);have bU:=zh (by rw[<-G];exact yY aY b9.kept:yJ (Imm (λb=>P b\/b=w+1) f ax I) I _ d);have cb:=zh (by rw[<-G];exact Z2 (a:=⟨f,12,none⟩) _ ca a3.1:I.heap[H.heap.size]? =some (.cells (aA d u B v C x D y E) 49 (0,0)));have a5:=zh (by rw[<-G];exact Z2 (a:=⟨f,12,none⟩) _ aw a3.2:I.heap[w.heap.size+1]? =some (.cells Z3 49 (0,0)));have a1:=zh (by rw[<-G];exact ar.setCell (by have:=O.o;show w<=f.heap.size;omega) _:(bW w I:Prop));clear ag ah ai aj ak al am cv cw G cq;obtain⟨ag,ah,ai,aj,ak,al,am⟩:=zC7 (zB cb).1;have e:=a5.o;unfold Z3 at e;obtain⟨bL,bM,bN,bO,bP,bQ,bR⟩:=zC7 (zB e).1;have bS:=(zB e).2;clear e;have A:=zh (HQb7 (zyB ag) (zyB ah) (zyB ai) (zyB aj) (zyB ak) (zyB al) (zyB am));refine zET 3 A.o λj=>?_;refine ziU 0 ?_;iterate 3 (refine ztU j ?_;simp only[zA])
 refine zoU ?_;refine tNc 3 ?_
 refine Z7 kr ?_ _;go_wp2;try simp only[φ]
 obtain⟨i,g⟩:=ZC a5 d.err d.number d.who (.slice u d.data B) (.slice v d.names C) (.slice x d.members D) (.slice y d.history E);replace i:=ZQ i;replace g:=g.trans (ButB.of (zbr.drew));refine bodyPost_ret (z4s rfl _ _ (w.heap.size+1) 49 (aA d u B v C x D y E) (0,0) _ rfl i underlying49 rfl kr) rfl ?_;obtain⟨Y,Z⟩:=zHl b5 g bU;exact⟨_,_,_,_,rfl,au,ButB.below a1 (oh a1.size) (λaa U=>by have:aa=w+1:=U;omega) g,by rw[s.o];exact Y,by rw[s.o];exact Z⟩
end
end Go.Proofs.YtdggplhnfhcieaaGreatDoor
