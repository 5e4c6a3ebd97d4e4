/- No condition. -/
import Derived.Test.YtdggplhnfhcieaaGreatDoorX21
set_option linter.all false
set_option maxRecDepth 100000
set_option maxHeartbeats 16000000
namespace Go.Proofs.YtdggplhnfhcieaaGreatDoor
section
open Go.RowKit Go.Deep
section
variable {X:Nat->Prop} {base bw:Nat} {W:World} {R:RM} {c:Call} {dv:Value} {st:State} {done late:Bool}
def Wrote (X:Nat->Prop) (base bw:Nat) (W:World) (R:RM) (c:Call) (dv:Value) (late:Bool) (st':State) (done':Bool) (w':World):Prop:=∃R',WK X base bw w' R' c dv st' done' late/\Mut bw R W R' w'/\(R' .fo).v=(R .fo).v
theorem zKx {a B:Nat} {w1 w2:World} {v:Value} {l:List Member} (h:Sl 2 zY (Imm (zFj X a B) bw R w1) w1 v l) (hb:ButB (fun x=>x=B) w1 w2):Sl 2 zY (Imm (zFj X a B) bw R w2) w2 v l:=
 h.keep ZH (by decide) (hb.kept fun b ⟨h1,h2,h3,h4⟩=>⟨⟨zll h1 hb.size,h2,h3,h4⟩,fun e=>h4 (.inr e)⟩)
theorem zK1 (h:WK X base bw W R c dv st done late) {k g o:Nat} (hk:k < st.folders.length) (ha:foAt R k g o) {m:Manifest} (hm:zH (fo st k)=m) (hpv:m.prev=[]) (hml:m.members.length<=10000)
  (hn:0<=m.seq/\m.seq<=1000000) (ht:0<=(fo st k).turn/\(fo st k).turn<=1000000) (hl:(fo st k).manifests.length<=9999) (C:Nat) (s:Nm) (hC:W.cell? ⟨C,4,none⟩=some (.string s)) (hs:s.size<=140737488355328):
  Calls Tryz.prog 133 #[.pointer (some ⟨bw,0,none⟩),.pointer (some ⟨g,o,none⟩),.func (.func 134) #[] #[.pointer (some ⟨C,0,none⟩)]] W fun e w'=>e= .returned (.agg (yD 0 (m.seq+1)))/\
   Wrote X base bw W R c dv late (setF st k { fo st k with manifests:=(fo st k).manifests++[{ m with seq:=m.seq+1,who:=c.user,parent:=s,cut:=m.seq+1 }],turn:=(fo st k).turn+1 }) true w':=by
 refine z9c h hk ha (m':={ m with parent:=s,cut:=m.seq+1 }) hm ⟨hpv,hpv,rfl⟩ hml hn ht hl hs (show I64 (m.seq+1) from ⟨by omega,by omega⟩) 134 #[.pointer (some ⟨C,0,none⟩)] (enters_of Tryz.func134 (by kernel_rfl) rfl) fun w1 B pv mv hb hB hT hS=>?_
 have hCl:=zF hC;refine (zM0 B C w1 _ _ _ _ _ _ _ _ s hT ((hb.cell (p:=⟨C,4,none⟩) hCl).trans hC) (by show C≠B;have:C < W.heap.size:=hCl;omega)).mono ?_;rintro e _ ⟨rfl,h1,h2⟩;exact ⟨rfl,h2,mv,h1,zKx hS h2⟩
theorem zHd (h:WK X base bw W R c dv st done late) {k g o:Nat} (hk:k < st.folders.length) (ha:foAt R k g o) {m:Manifest} (hm:zH (fo st k)=m) (hpv:m.prev=[]) (hml:m.members.length<=10000)
  (hn:0<=m.seq/\m.seq<=1000000) (ht:0<=(fo st k).turn/\(fo st k).turn<=1000000) (hl:(fo st k).manifests.length<=9999) (hps:m.parent.size<=140737488355328) (hcut:I64 m.cut):
  Calls Tryz.prog 133 #[.pointer (some ⟨bw,0,none⟩),.pointer (some ⟨g,o,none⟩),.func (.func 137) #[] #[]] W fun e w'=>e= .returned (.agg (yD 0 (m.seq+1)))/\
   Wrote X base bw W R c dv late (setF st k { fo st k with manifests:=(fo st k).manifests++[{ m with seq:=m.seq+1,who:=c.user,gone:=true }],turn:=(fo st k).turn+1 }) true w':=by
 refine z9c h hk ha (m':={ m with gone:=true }) hm ⟨hpv,hpv,rfl⟩ hml hn ht hl hps hcut 137 #[] (enters_of Tryz.func137 (by kernel_rfl) rfl) fun w1 B pv mv hb hB hT hS=>?_
 refine (zI8 B w1 _ _ _ _ _ _ _ _ hT).mono ?_;rintro e _ ⟨rfl,h1,h2⟩;exact ⟨rfl,h2,mv,h1,zKx hS h2⟩
theorem zFk (h:WK X base bw W R c dv st done late) {k g o:Nat} (hk:k < st.folders.length) (ha:foAt R k g o) {m:Manifest} (hm:zH (fo st k)=m) (hpv:m.prev=[]) (hml:m.members.length<=10000)
  (hn:0<=m.seq/\m.seq<=1000000) (ht:0<=(fo st k).turn/\(fo st k).turn<=1000000) (hl:(fo st k).manifests.length<=9999) (hps:m.parent.size<=140737488355328) (hcut:I64 m.cut) (L C:Nat) (v:Value) (ms:List Member) (q:Int)
  (hL:W.cell? ⟨L,0,none⟩=some v) (hC:W.cell? ⟨C,0,none⟩=some (.int .i64 q)) (hv:Sl 2 zY (Imm X bw R W) W v ms):
  Calls Tryz.prog 133 #[.pointer (some ⟨bw,0,none⟩),.pointer (some ⟨g,o,none⟩),.func (.func 142) #[] #[.pointer (some ⟨L,0,none⟩),.pointer (some ⟨C,0,none⟩)]] W fun e w'=>e= .returned (.agg (yD 0 (m.seq+1)))/\
   Wrote X base bw W R c dv late (setF st k { fo st k with manifests:=(fo st k).manifests++[{ m with seq:=m.seq+1,who:=c.user,members:=ms,cut:=if q=7 then m.seq+1 else m.cut }],turn:=(fo st k).turn+1 }) true w':=by
 have hcut':I64 (if q=7 then m.seq+1 else m.cut):=by
  split
  ·exact ⟨by omega,by omega⟩
  ·exact hcut
 refine z9c h hk ha (m':={ m with members:=ms,cut:=if q=7 then m.seq+1 else m.cut }) hm ⟨hpv,hpv,rfl⟩ hml hn ht hl hps hcut' 142 #[.pointer (some ⟨L,0,none⟩),.pointer (some ⟨C,0,none⟩)] (enters_of Tryz.func142 (by kernel_rfl) rfl) fun w1 B pv mv hb hB hT hS=>?_
 have hCl:C < W.heap.size:=zF hC;have hLl:L < W.heap.size:=zF hL;have hsh:∃A n c,v= .slice A n c:=by
  obtain ⟨A,n,e,_⟩:=hv;exact ⟨A,_,n,e⟩
 refine (zHa B L C w1 _ _ _ _ _ _ _ v _ q hT hsh ((hb.cell (p:=⟨L,0,none⟩) hLl).trans hL) ((hb.cell (p:=⟨C,0,none⟩) hCl).trans hC) (by omega) (by omega)).mono ?_;rintro e _ ⟨rfl,h1,h2⟩;refine ⟨rfl,h2,v,?_,hv.keep ZH (by decide) fun b ⟨b1,b2,b3,b4⟩ hl=>⟨⟨zll b1 (qNtx hb.size h2.size),b2,b3,fun e=>?_⟩,(h2.block b (zll b1 hb.size) (by omega)).trans (hb.block b b1)⟩⟩
 ·rw [h1];unfold zQt;by_cases hq:q=7<;>simp [hq]
 rcases e with (e | e) | e
 ·exact b4 e
 ·omega
 omega
end
end
end Go.Proofs.YtdggplhnfhcieaaGreatDoor
section
namespace Go.Proofs.YtdggplhnfhcieaaGreatDoor
open Go.RowKit Go.Deep
section
variable {X:Nat->Prop} {base bw:Nat} {W:World} {R:RM} {c:Call} {dv:Value} {st:State} {done late:Bool}
def Did (X:Nat->Prop) (base bw:Nat) (W:World) (R:RM) (c:Call) (dv:Value) (late:Bool) (r:Res) (e:Ending) (w':World):Prop:=
 ∃cs,e= .returned (.agg cs)/\∃R',WK X base bw w' R' c dv r.1 r.2.2 late/\Mut bw R W R' w'/\YY (Imm X bw R' w') w' cs.toList r.2.1
theorem yP {α:Type} {k:Nat} {Q:Rp α} {S:Nat->Prop} {w:World}:Sl k Q S w (.slice none 0 0) []:=⟨none,0,rfl,Nat.zero_le _,Nat.zero_le _,Nat.zero_le _,fun i x hx=>by simp at hx⟩
theorem z2t {S:Nat->Prop} {w:World} {n:Int} (hn:I64 n):YY S w (yD 0 n).toList (YO n):=
 ⟨_,_,_,_,rfl,(show I64 0 from ⟨by omega,by omega⟩),hn,(show (⟨#[]⟩:Nm).size<=140737488355328 by decide),yP,yP,yP,yP⟩
theorem y8 {S:Nat->Prop} {w:World} {e:Int} (hn:I64 e):YY S w (yD e 0).toList (ZF e):=
 ⟨_,_,_,_,rfl,hn,(show I64 0 from ⟨by omega,by omega⟩),(show (⟨#[]⟩:Nm).size<=140737488355328 by decide),yP,yP,yP,yP⟩
theorem WK.usTo (h:WK X base bw W R c dv st done late) {w1:World} {v8:Value} {cells:List (List Value)} {l:List User} (hlen:cells.length<=10000)
  (hr:RowC 91 2 w1 v8 cells) (hb:ButB (fun z=>(R .us).v.ownBlock=some z) W w1) (ho:v8.ownBlock=(R .us).v.ownBlock\/∃k,v8.ownBlock=some k/\W.heap.size<=k) (hx:All2 (z0s (Imm X bw R W) W) cells l):
  WK X base bw (w1.setCell ⟨bw,9,none⟩ v8) (zL R .us ⟨v8,cells⟩) c dv { st with users:=l } done late/\Mut bw R W (zL R .us ⟨v8,cells⟩) (w1.setCell ⟨bw,9,none⟩ v8):=by
 obtain ⟨o1,m1,b1,n1⟩:=h.put (W':=w1) .us ⟨v8,cells⟩ hb hr hlen (fun b hb=>ho.imp (fun e=>by rw [<-e];exact hb) fun ⟨k2,e,hk2⟩=>by
  rw [show v8.ownBlock=some b from hb] at e;obtain rfl:=zsi e;exact hk2)
 have m2:Mut bw (zL R .us ⟨v8,cells⟩) w1 (zL R .us ⟨v8,cells⟩) (w1.setCell ⟨bw,9,none⟩ v8):=⟨(ButB.refl _ w1).set ⟨bw,9,none⟩ v8 (.inl rfl),fun _ h=> .inl h⟩;have m:=m1.trans m2;refine ⟨h.turn m (o1.to fun b hb=>Below.heap_setCell _ _ _ _ fun e=>n1 (by rw [<-show b=bw from e];exact hb)) (h.is.usRow m.kept (hx.imp fun _ _ e=>z2v e m.kept)) ?_,m⟩;refine zI v8 (b1.trans h.box) ?_;unfold z35;rw [yU,ZQ _ _ (by simp),ZQ _ _ (by simp)];rfl
theorem WK.deTo (h:WK X base bw W R c dv st done late) {w1:World} {v8:Value} {cells:List (List Value)} {l:List Pair} (hlen:cells.length<=10000)
  (hr:RowC 126 2 w1 v8 cells) (hb:ButB (fun z=>(R .de).v.ownBlock=some z) W w1) (ho:v8.ownBlock=(R .de).v.ownBlock\/∃k,v8.ownBlock=some k/\W.heap.size<=k) (hx:All2 (z0o (Imm X bw R W) W) cells l):
  WK X base bw (w1.setCell ⟨bw,10,none⟩ v8) (zL R .de ⟨v8,cells⟩) c dv { st with deposits:=l } done late/\Mut bw R W (zL R .de ⟨v8,cells⟩) (w1.setCell ⟨bw,10,none⟩ v8):=by
 obtain ⟨o1,m1,b1,n1⟩:=h.put (W':=w1) .de ⟨v8,cells⟩ hb hr hlen (fun b hb=>ho.imp (fun e=>by rw [<-e];exact hb) fun ⟨k2,e,hk2⟩=>by
  rw [show v8.ownBlock=some b from hb] at e;obtain rfl:=zsi e;exact hk2)
 have m2:Mut bw (zL R .de ⟨v8,cells⟩) w1 (zL R .de ⟨v8,cells⟩) (w1.setCell ⟨bw,10,none⟩ v8):=⟨(ButB.refl _ w1).set ⟨bw,10,none⟩ v8 (.inl rfl),fun _ h=> .inl h⟩;have m:=m1.trans m2;refine ⟨h.turn m (o1.to fun b hb=>Below.heap_setCell _ _ _ _ fun e=>n1 (by rw [<-show b=bw from e];exact hb)) (h.is.deRow m.kept (hx.imp fun _ _ e=>z3n e m.kept)) ?_,m⟩;refine zI v8 (b1.trans h.box) ?_;unfold z35;rw [yU,ZQ _ _ (by simp),ZQ _ _ (by simp)];rfl
theorem WK.usSet (h:WK X base bw W R c dv st done late) {u:Nat} {x:User} (hu:st.users[u]? =some x) {a o n cp:Nat} (hv:(R .us).v= .slice (some ⟨a,o,none⟩) n cp) (b:Bool):
  WK X base bw (W.setCell ⟨a,o+u*2+1,none⟩ (.bool b)) (zL R .us ⟨(R .us).v,(R .us).cells.set u [.string x.name,.bool b]⟩) c dv { st with users:=st.users.set u { x with lost:=b } } done late/\Mut bw R W (zL R .us ⟨(R .us).v,(R .us).cells.set u [.string x.name,.bool b]⟩) (W.setCell ⟨a,o+u*2+1,none⟩ (.bool b)):=by
 obtain ⟨_,hcs,hx⟩:=h.is.users.at hu;have hx':=hx;unfold z0s at hx';obtain ⟨rfl,hxs⟩:=hx';have hrow:=h.os.row .us;rw [hv] at hrow;have hw:=hrow.write (show (0:Nat) < 2 by decide) hcs (show 1 < 2 by decide) (.bool b) rfl;have ha:Y7 R a:=⟨.us,by rw [hv];rfl⟩;obtain ⟨o1,m1,b1,_⟩:=h.put (W':=W.setCell ⟨a,o+u*2+1,none⟩ (.bool b)) .us ⟨(R .us).v,(R .us).cells.set u [.string x.name,.bool b]⟩ ((ButB.refl _ W).set ⟨a,o+u*2+1,none⟩ _ (by rw [hv];rfl)) (by rw [hv];exact hw) (by have:=h.os.len .us;simpa using this) (fun _ hb=> .inl hb);refine ⟨h.turn m1 o1 (h.is.usRow m1.kept ((h.is.users.imp fun _ _ e=>z2v e m1.kept).set u ?_)) ?_,m1⟩
 ·exact ⟨rfl,hxs⟩
 rw [b1,h.box];unfold z35;rw [yU,ZQ _ _ (by simp),ZQ _ _ (by simp)]
theorem Z7 {a:Nat} {w1 w2:World} {R1:RM} {r:Res} {cs:Array Value} (h:WK (fun b=>X b\/b=a) base bw w1 R1 c dv r.1 r.2.2 late) (m:Mut bw R W R1 w1) (ha:W.heap.size<=a) (F2:ButB (fun x=>x=a) w1 w2) (hr:YY (Imm (fun b=>X b\/b=a) bw R1 w1) w1 cs.toList r.2.1):Did X base bw W R c dv late r (.returned (.agg cs)) w2:=
 ⟨cs,rfl,R1,h.leave (F2.mono fun x hx=> .inr hx) fun b hb=> .inl hb,m.tail (F2.mono fun x hx=>by rw [hx];exact ha),z2g hr fun b ⟨h1,h2,h3,h4⟩ _=>⟨⟨zll h1 F2.size,h2,h3,fun e=>h4 (.inl e)⟩,F2.block b h1 fun e=>h4 (.inr e)⟩⟩
def zV:Array Value:=#[.int .i64 0,.int .i64 0,.string ⟨#[]⟩,.slice none 0 0,.slice none 0 0,.slice none 0 0,.slice none 0 0]
theorem yA (W:World):(∀R:RM,∀{X:Nat->Prop} {base bw:Nat} {c:Call} {dv:Value} {st:State} {done late:Bool},WK X base bw W R c dv st done late->WK (fun b=>X b\/b=W.heap.size) base bw (W.alloc (.cells zV 49)) R c dv st done late)/\Below W.heap.size W (W.alloc (.cells zV 49))/\(W.alloc (.cells zV 49)).heap[W.heap.size]? =some (.cells zV 49 (0,0))/\W.heap.size < (W.alloc (.cells zV 49)).heap.size:=by
 have hb:Below W.heap.size W (W.alloc (.cells zV 49)):=Below.alloc zbr (znl _) _;have hz:W.heap.size < (W.alloc (.cells zV 49)).heap.size:=by rw [World.size_alloc];omega
 exact ⟨fun R _ _ _ _ _ _ _ _ h=>h.enter hb hz,hb,zJ _ rfl,hz⟩
end
end Go.Proofs.YtdggplhnfhcieaaGreatDoor
end
section
namespace Go.Proofs.YtdggplhnfhcieaaGreatDoor
open Go.RowKit Go.Deep
theorem zW {X:Nat->Prop} {base bw b:Nat} {w0 w3 wq:World} {R:RM} {c:Call} {dv:Value} {st:State} {done late:Bool} {T:TypeId} (hb:Below w0.heap.size w0 w3) (bq:Below w3.heap.size w3 wq) (hw:WK X base bw w0 R c dv st done late) (z0:b < w0.heap.size) (ht:w0.heap[b]? =some (.cells zV T (0,0))):Hid (Below w0.heap.size w0 wq)/\Hid (WK X base bw wq R c dv st done late)/\Hid (wq.heap[b]? =some (.cells zV T (0,0)))/\wq.cell? ⟨b,0,none⟩=some (.int .i64 0)/\wq.cell? ⟨b,1,none⟩=some (.int .i64 0)/\wq.cell? ⟨b,2,none⟩=some (.string ⟨#[]⟩)/\wq.cell? ⟨b,3,none⟩=some (.slice none 0 0)/\wq.cell? ⟨b,4,none⟩=some (.slice none 0 0)/\wq.cell? ⟨b,5,none⟩=some (.slice none 0 0)/\wq.cell? ⟨b,6,none⟩=some (.slice none 0 0)/\∀j,wq.frozen? ⟨b,j,none⟩=false:=by
 have B:=zB hb bq;have K:=(B.block _ z0).trans ht;have k:=(zD K).1;exact ⟨B,hw.below B,K,k 0 _ rfl,k 1 _ rfl,k 2 _ rfl,k 3 _ rfl,k 4 _ rfl,k 5 _ rfl,k 6 _ rfl,(zD K).2⟩
end Go.Proofs.YtdggplhnfhcieaaGreatDoor
end
section
namespace Go.Proofs.YtdggplhnfhcieaaGreatDoor
open Go.RowKit Go.Deep
theorem zq {fn:Func} {p:Tmp} (h:fn.results=#[.cell p 49]) {tmps:Array Value} {w:World} {g:Nat} {cs:Array Value} (hp:tmps.getD p undef= .pointer (some ⟨g,0,none⟩)) (hg:w.heap[g]? =some (.cells cs 49 (0,0))) (hs:cs.size=7):(results fn tmps).run Tryz.prog w= .ok (.agg cs) w:=results_cell_row h tmps w g 49 cs (0,0) _ hp hg Tryz.underlying49 rfl (by rw [hs];kernel_rfl)
end Go.Proofs.YtdggplhnfhcieaaGreatDoor
end
namespace Go.Proofs.YtdggplhnfhcieaaGreatDoor
section
open Go.RowKit Go.Deep
def z9g (now:List Member) (frm:Int) (m:Manifest):Bool:=m.members.all fun x=>!(decide (frm<=m.seq) && (decide (2<=x.role) && decide (Ro.ofOf now x.name=0)))
theorem zL0 (f:Folder) (frm:Int):z5v f frm=f.manifests.all (z9g (zH f).members frm):=rfl
theorem zMh {now:List Member} {frm:Int} {m:Manifest} (h:m.seq < frm):z9g now frm m=true:=by
 unfold z9g;rw [List.all_eq_true];intro x _;rw [decide_eq_false (by omega)];rfl
def zEm (now:List Member) (s:Nm):Bool:=!decide (Ro.ofOf now s=0)
theorem zMi {now:List Member} {frm:Int} {m:Manifest} (h:¬m.seq < frm):z9g now frm m=(Ro.withAt m.members 2).all (zEm now):=by
 unfold z9g;rw [decide_eq_true (show frm<=m.seq by omega)];generalize m.members=l
 induction l with
 | nil=>rfl
 | cons x r ih=>
  rw [List.all_cons,ih,Ro.withAt_cons];by_cases hx:2<=x.role
  ·rw [if_pos hx,List.all_cons,decide_eq_true hx];rfl
  rw [if_neg hx,decide_eq_false hx];rfl
theorem zDn {α:Type} {p:α->Bool} {l:List α} {k:Nat} {x:α} (h:∀y∈l.take k,p y=true) (hx:l[k]? =some x) (hp:p x=true):∀y∈l.take (k+1),p y=true:=fun y hy=>by
 rw [qLtx,hx] at hy;rcases zmb hy with e | e
 ·exact h y e
 ·simp at e;rw [e];exact hp
theorem zIl {α:Type} {p:α->Bool} {l:List α} (h:∀y∈l.take l.length,p y=true):l.all p=true:=by
 rw [qLnx] at h;exact List.all_eq_true.2 h
theorem zGn {α:Type} {p:α->Bool} {l:List α} {k:Nat} {x:α} (hx:l[k]? =some x) (hp:p x=false):l.all p=false:=by
 rw [List.all_eq_false];exact ⟨x,zmg hx,by rw [hp];decide⟩
section
variable {X:Nat->Prop} {base bw:Nat} {W:World} {R:RM} {c:Call} {dv:Value} {st:State} {done late:Bool}
theorem zOm (h:WK X base bw W R c dv st done late) {k g o:Nat} (hk:k < st.folders.length) (ha:foAt R k g o) (frm:Int) (hml:∀m∈(fo st k).manifests,m.members.length<=1000000):
  Calls Tryz.prog 177 #[.pointer (some ⟨g,o,none⟩),.int .i64 frm] W fun e w'=>e= .returned (.bool (z5v (fo st k) frm))/\Below W.heap.size W w':=by
 obtain ⟨_,_,_,_,_,_,_,_,_,_,eh,hF,u0,u1,u2,u3,u4,u5,u6,hg,gz⟩:=h.fold (ZO hk) ha;have HN:=zh (z62 (fo st k) _ W _ hF);obtain ⟨f,hf⟩:∃f,fo st k=f:=⟨_,rfl⟩;rw [hf] at hF u0 u1 u2 u3 u4 u5 u6 HN hml⊢;obtain ⟨_,_,B3,_,B4,_,B5,_,_,_,e,_,_,_,_,_,f_manifests_s,_⟩:=Z2 hF;simp only [List.cons.injEq,Value.slice.injEq,and_true,true_and] at e;obtain ⟨⟨rfl,rfl⟩,⟨rfl,rfl⟩,⟨rfl,rfl⟩,⟨rfl,rfl⟩,⟨rfl,rfl⟩⟩:=e;have HML:=zh hml;clear h ha eh gz hF hf hml;go_enter Tryz.func177,Tryz.ntmps177
 go_wp2_with fail
 refine zcm HN.out ?_;rintro _ w1 ⟨⟨_,rfl,hm⟩,B1⟩;have t2:=(B1.cell (p:=⟨g,o+2,none⟩) hg).trans u2;have HB1:=zh B1;obtain ⟨m0,hm0⟩:∃m0,zH f=m0:=⟨_,rfl⟩;rw [hm0] at hm;have HM0:=zh hm0;obtain ⟨a_A2,a_c2,a_A4,a_c4,rfl,_,_,_,_,_,a_prev_s,_,a_members_l,a_members_m,a_members_n,a_members_s,_,_⟩:=yF hm;have HMS:=zh (show Sl 2 zY (fun _=>True) w1 (.slice a_A4 m0.members.length a_c4) m0.members from ⟨_,_,rfl,a_members_l,a_members_m,a_members_n,a_members_s⟩);have qm:=z48 m0.folder m0.parent m0.who m0.seq m0.cut m0.gone (.slice a_A2 m0.prev.length a_c2) (.slice a_A4 m0.members.length a_c4);clear hm hm0 B1 u0 u1 u2 u3 u4 u5 u6 HN a_prev_s a_members_s;go_wp2_with fail
 go_loopw [20] (fun i wr=>∃k:Nat,k<=f.manifests.length/\i= .int .i64 k/\Hid (∀y∈f.manifests.take k,z9g m0.members frm y=true)/\Below w1.heap.size w1 wr) (fun i _=>f.manifests.length - (intOf i).toNat)
 case atStart=>exact ⟨0,by omega,by go_num,fun y hy=>by simp at hy,Below.refl _ _⟩
 obtain ⟨k,hk,rfl,HNN,hbel⟩:=hrel;have HBL:=zh (zB HB1.out hbel);have hz:=hbel.size;by_cases hlt:k < f.manifests.length
 rotate_left
 ·obtain rfl:k=f.manifests.length:=by omega
  have HE:=zh (show z5v f frm=true by rw [zL0,HM0.out];exact zIl HNN.out);go_wp2;go_ret;exact ⟨ZM HE.out.symm,HBL.out⟩
 have hki:(k:Int) < (f.manifests.length:Int):=by omega
 obtain ⟨m,_,_,m_A2,m_c2,m_A4,m_c4,m_k,m_d,m_m,rfl,_,_,_,_,_,_,_,_,_,_,m_R,_,_,_,_,_,m_prev_s,_,m_members_l,m_members_m,m_members_n,m_members_s,_,_⟩:=zHq f_manifests_s hlt (zK HBL.out);have HX:=zh m_k;have HMM:=zh (HML.out m m_m);have HMR:=zh (show Sl 2 zY (fun _=>True) wr (.slice m_A4 m.members.length m_c4) m.members from ⟨_,_,rfl,m_members_l,m_members_m,m_members_n,m_members_s⟩);obtain ⟨w2,hw2,cw2,fw2,Bw2,_⟩:=zQ wr #[.string ⟨#[]⟩,.int .i64 0,.slice none 0 0,.string ⟨#[]⟩,.slice none 0 0,.int .i64 0,.bool false,.string ⟨#[]⟩] 84;have HT2:w2.heap[wr.heap.size]? =some (.cells #[.string ⟨#[]⟩,.int .i64 0,.slice none 0 0,.string ⟨#[]⟩,.slice none 0 0,.int .i64 0,.bool false,.string ⟨#[]⟩] 84 (0,0)):=by rw [<-hw2];exact zJ _ rfl
 have d0:w2.cell? ⟨wr.heap.size,0,none⟩=some (.string ⟨#[]⟩):=(zD HT2).1 0 _ rfl;have d1:w2.cell? ⟨wr.heap.size,1,none⟩=some (.int .i64 0):=(zD HT2).1 1 _ rfl;have d2:w2.cell? ⟨wr.heap.size,2,none⟩=some (.slice none 0 0):=(zD HT2).1 2 _ rfl;have d3:w2.cell? ⟨wr.heap.size,3,none⟩=some (.string ⟨#[]⟩):=(zD HT2).1 3 _ rfl;have d4:w2.cell? ⟨wr.heap.size,4,none⟩=some (.slice none 0 0):=(zD HT2).1 4 _ rfl;have d5:w2.cell? ⟨wr.heap.size,5,none⟩=some (.int .i64 0):=(zD HT2).1 5 _ rfl;have d6:w2.cell? ⟨wr.heap.size,6,none⟩=some (.bool false):=(zD HT2).1 6 _ rfl;have d7:w2.cell? ⟨wr.heap.size,7,none⟩=some (.string ⟨#[]⟩):=(zD HT2).1 7 _ rfl;have dz:=(zD HT2).2;have H2:=zh HT2;have HB2:=zh Bw2;clear cw2 fw2 HT2 Bw2 m_k m_d m_R m_prev_s m_members_s;by_cases hsq:m.seq < frm
 ·have HS:=zh (zDn HNN.out HX.out (zMh hsq));go_wp2_with fail
  obtain ⟨E1,E2⟩:=z6n H2.out (.string m.folder) (.int .i64 m.seq) (.slice m_A2 m.prev.length m_c2) (.string m.parent) (.slice m_A4 m.members.length m_c4) (.int .i64 m.cut) (.bool m.gone) (.string m.who);generalize hW3:World.setCell _ _ _=w3 at E1 E2⊢;have B3:Below w1.heap.size w1 w3:=ButB.below (zB hbel HB2.out) (by omega) (fun z hz=>by omega) E2;clear hW3 E1 E2;go_wp2;go_roundw
  case rel=>exact ⟨k+1,by omega,by go_num,HS,B3⟩
  case measure=>exact qMx
 go_wp2_with fail
 obtain ⟨E1,E2⟩:=z6n H2.out (.string m.folder) (.int .i64 m.seq) (.slice m_A2 m.prev.length m_c2) (.string m.parent) (.slice m_A4 m.members.length m_c4) (.int .i64 m.cut) (.bool m.gone) (.string m.who);generalize hW3:World.setCell _ _ _=w3 at E1 E2⊢;have B3r:Below wr.heap.size wr w3:=ButB.below HB2.out (by omega) (fun z hz=>by omega) E2;have HB3:=zh (zB hbel B3r);have HWM:=zh (zMi (now:=m0.members) (frm:=frm) (m:=m) (by omega));refine zcm (Ro.with_any m.members 2 _ w3 (fun _=>True) (HMR.out.keep ZH (by decide) (zK B3r)) HMM.out) ?_;clear hW3 E1 E2 B3r hsq d0 d1 d2 d3 d4 d5 d6 d7 dz hw2;rintro _ w4 ⟨⟨_,rfl,s4⟩,B4⟩;obtain ⟨ns,hns⟩:∃ns,Ro.withAt m.members 2=ns:=⟨_,rfl⟩;rw [hns] at s4;have HNS:=zh hns;obtain ⟨_,_,rfl,_,n2,_,hs9⟩:=s4;unfold maxLen at n2;have HB4:=zh (zB HB3.out B4);clear B4 hns;go_wp2_with fail
 go_loopw [32] (fun i wq=>∃j:Nat,j<=ns.length/\i= .int .i64 j/\Hid (∀y∈ns.take j,zEm m0.members y=true)/\Below w4.heap.size w4 wq) (fun i _=>ns.length - (intOf i).toNat)
 case atStart=>exact ⟨0,by omega,by go_num,fun y hy=>by simp at hy,Below.refl _ _⟩
 obtain ⟨j,_,rfl,HJ,hbq⟩:=hrel;have HBQ:=zh (zB HB4.out hbq);by_cases hjl:j < ns.length
 rotate_left
 ·obtain rfl:j=ns.length:=by omega
  have HS:=zh (zDn HNN.out HX.out (show z9g m0.members frm m=true by rw [HWM.out,HNS.out];exact zIl HJ.out));go_wp2;go_roundw
  case rel=>exact ⟨k+1,by omega,by go_num,HS,HBQ.out⟩
  case measure=>exact qMx
 have hji:(j:Int) < (ns.length:Int):=by omega
 obtain ⟨s,_,_,hsk,hsd,_,rfl,_⟩:=z8u hs9 hjl (zK hbq);have HSK:=zh hsk;clear hsk hsd;go_wp2_with fail
 refine zcm (Ro.of_any s m0.members _ _ (fun _=>True) (HMS.out.keep ZH (by decide) (zK HBQ.out))) ?_;rintro _ _ ⟨rfl,B5⟩;obtain ⟨z,hz0⟩:∃z,Ro.ofOf m0.members s=z:=⟨_,rfl⟩;have HZ:=zh hz0;rw [hz0];clear hz0;by_cases hzz:z=0
 ·have hd:(z==0)=true:=by simp [hzz]
  have HE:=zh (show z5v f frm=false by
   rw [zL0,HM0.out];refine zGn HX.out ?_;rw [HWM.out,HNS.out];refine zGn HSK.out ?_;unfold zEm;rw [HZ.out,hzz];rfl)
  go_wp2;go_ret;exact ⟨ZM HE.out.symm,zB HB1.out (zB HBQ.out B5)⟩
 have hd:(z==0)=false:=by simp [hzz]
 have HS:=zh (zDn HJ.out HSK.out (show zEm m0.members s=true by unfold zEm;rw [HZ.out,decide_eq_false hzz];rfl));have B5q:=zB hbq B5;clear B5;go_wp2;go_roundw
 case rel=>exact ⟨j+1,by omega,by go_num,HS,B5q⟩
 case measure=>exact qMx
end
end
section
open Go.RowKit Go.Deep
theorem zQx (f:Folder) (b o n f_c2 f_c3 f_c4 f_c5 f_c6 m_c2 m_c4:Nat) (f_A3 f_A4 f_A5 f_A6 m_A2 m_A4:Option Addr) (m:Manifest) (w:World) (hn:f.manifests.length=n+1) (hc:f.manifests.length<=f_c2) (hl:f.manifests.length<=140737488355328) (hc2:f_c2<=9223372036854775807)
  (u0:w.cell? ⟨b,o+n*8,none⟩=some (.string m.folder)) (u1:w.cell? ⟨b,o+n*8+1,none⟩=some (.int .i64 m.seq)) (u2:w.cell? ⟨b,o+n*8+2,none⟩=some (.slice m_A2 m.prev.length m_c2)) (u3:w.cell? ⟨b,o+n*8+3,none⟩=some (.string m.parent))
  (u4:w.cell? ⟨b,o+n*8+4,none⟩=some (.slice m_A4 m.members.length m_c4)) (u5:w.cell? ⟨b,o+n*8+5,none⟩=some (.int .i64 m.cut)) (u6:w.cell? ⟨b,o+n*8+6,none⟩=some (.bool m.gone)) (u7:w.cell? ⟨b,o+n*8+7,none⟩=some (.string m.who)):
  Calls Tryz.prog 120 #[.agg #[.string f.name,.int .i64 f.turn,.slice (some ⟨b,o,none⟩) f.manifests.length f_c2,.slice f_A3 f.epochs.length f_c3,.slice f_A4 f.items.length f_c4,.slice f_A5 f.wraps.length f_c5,.slice f_A6 f.links.length f_c6]] w fun e w'=>
   e= .returned (.agg #[.string m.folder,.int .i64 m.seq,.slice m_A2 m.prev.length m_c2,.string m.parent,.slice m_A4 m.members.length m_c4,.int .i64 m.cut,.bool m.gone,.string m.who])/\Below w.heap.size w w':=by
 obtain ⟨w0,hw0,cw0,_,Bw0,qw0⟩:=zQ w #[.string f.name,.int .i64 f.turn,.slice (some ⟨b,o,none⟩) f.manifests.length f_c2,.slice f_A3 f.epochs.length f_c3,.slice f_A4 f.items.length f_c4,.slice f_A5 f.wraps.length f_c5,.slice f_A6 f.links.length f_c6] 74;obtain ⟨w1,hw1,cw1,_,Bw1,_⟩:=zQ w0 #[.string ⟨#[]⟩,.int .i64 0,.slice none 0 0,.string ⟨#[]⟩,.slice none 0 0,.int .i64 0,.bool false,.string ⟨#[]⟩] 84;have B1:Below w.heap.size w w1:=zB Bw0 Bw1;have hb:b < w.heap.size:=zF u0;have x2:=(Bw1.cell (p:=⟨w.heap.size,2,none⟩) qw0).trans (cw0 2 _ rfl);have HB1:=zh B1;have hblk:w1.heap[w0.heap.size]? =some (.cells #[.string ⟨#[]⟩,.int .i64 0,.slice none 0 0,.string ⟨#[]⟩,.slice none 0 0,.int .i64 0,.bool false,.string ⟨#[]⟩] 84 (0,0)):=by rw [<-hw1];exact zJ _ rfl
 have o0:=cw1 0 _ rfl;have o1:=cw1 1 _ rfl;have o2:=cw1 2 _ rfl;have o3:=cw1 3 _ rfl;have o4:=cw1 4 _ rfl;have o5:=cw1 5 _ rfl;have o6:=cw1 6 _ rfl;have o7:=cw1 7 _ rfl;have hwl:w.heap.size<=w0.heap.size:=Nat.le_of_lt qw0;replace u0:=(B1.cell (p:=⟨b,o+n*8,none⟩) hb).trans u0;replace u1:=(B1.cell (p:=⟨b,o+n*8+1,none⟩) hb).trans u1;replace u2:=(B1.cell (p:=⟨b,o+n*8+2,none⟩) hb).trans u2;replace u3:=(B1.cell (p:=⟨b,o+n*8+3,none⟩) hb).trans u3;replace u4:=(B1.cell (p:=⟨b,o+n*8+4,none⟩) hb).trans u4;replace u5:=(B1.cell (p:=⟨b,o+n*8+5,none⟩) hb).trans u5;replace u6:=(B1.cell (p:=⟨b,o+n*8+6,none⟩) hb).trans u6;replace u7:=(B1.cell (p:=⟨b,o+n*8+7,none⟩) hb).trans u7;rw [hn] at x2 hw0 hc hl⊢;clear hn cw0 cw1 Bw0 Bw1 B1;go_enter Tryz.func120,Tryz.ntmps120
 go_wp2;try simp only [Exit.inBlock,Exit.then]
 refine bodyPost_ret (results_cell_row rfl _ _ w0.heap.size 84 _ (0,0) _ rfl (by repeat' first|with_reducible assumption|((with_reducible first|refine zR _ ?_ ?_|apply zJ);rotate_left;first|with_reducible rfl|((try dsimp only);first|with_reducible assumption|omega|(simp only [zS];done)|(simp only [zS];omega)))|with_reducible apply zI|with_reducible refine zZ _ ?_|with_reducible refine ZL ?_|refine (rfl:(_:Array Value)=_)) Tryz.underlying84 rfl (by kernel_rfl)) rfl ?_;have hbb:=HB1.out;exact ⟨rfl,by go_grown⟩
section
variable {X:Nat->Prop} {base bw:Nat} {W:World} {R:RM} {c:Call} {dv:Value} {st:State} {done late:Bool}
def zUs (S:Nat->Prop) (W:World) (m:Manifest) (A2:Option Addr) (c2:Nat) (A4:Option Addr) (c4:Nat):Prop:=
 m.members.length<=c4/\c4<=9223372036854775807/\m.members.length<=140737488355328/\SlAt 2 zY S W A4 m.members/\I64 m.seq/\I64 m.cut/\m.parent.size<=140737488355328
theorem z6a (h:WK X base bw W R c dv st done late) {k g o:Nat} (hk:k < st.folders.length) (ha:foAt R k g o) (hne:(fo st k).manifests≠[]):∃A2 c2 A4 c4,zUs (Imm X bw R W) W (zH (fo st k)) A2 c2 A4 c4/\∀w',Below W.heap.size W w'->
  Calls Tryz.prog 120 #[.agg (hdr R k (fo st k)).toArray] w' fun e w''=>e= .returned (.agg #[.string (zH (fo st k)).folder,.int .i64 (zH (fo st k)).seq,.slice A2 (zH (fo st k)).prev.length c2,.string (zH (fo st k)).parent,.slice A4 (zH (fo st k)).members.length c4,.int .i64 (zH (fo st k)).cut,.bool (zH (fo st k)).gone,.string (zH (fo st k)).who])/\Below w'.heap.size w' w'':=by
 obtain ⟨n,hn⟩:∃n,(fo st k).manifests.length=n+1:=⟨(fo st k).manifests.length - 1,by have:=List.length_pos_iff.2 hne;omega⟩;have hx:(fo st k).manifests[n]? =some (zH (fo st k)):=by
  unfold zH;rw [List.getLast?_eq_getElem?,hn,Nat.add_sub_cancel,qLgx (by omega)];rfl
 obtain ⟨_,hcs,hcr⟩:=(h.is.fo k _ (ZO hk)).2.man.at hx;obtain ⟨gm,om,cap,hv,_,h2,hgm,hcell,_⟩:=(h.os.row (.ma k)).at hcs;obtain ⟨A2,c2,A4,c4,rfl,_,m_seq_ok,_,_,_,_,m_parent_le,m_members_l,m_members_m,m_members_n,m_members_s,m_cut_ok,_⟩:=yF hcr;refine ⟨A2,c2,A4,c4,⟨m_members_l,m_members_m,m_members_n,m_members_s,m_seq_ok,m_cut_ok,m_parent_le⟩,fun w' hb=>?_⟩;obtain ⟨_,_,D3,e3,D4,e4,D5,e5,D6,e6,eh,_,_,_,_,_,_,_,_,_,_⟩:=h.fold (ZO hk) ha;have hml:(R (.ma k)).cells.length=(fo st k).manifests.length:=(h.is.fo k _ (ZO hk)).2.man.1;have eh2:=eh;simp only [hdr,List.cons.injEq,and_true,true_and] at eh2;rw [hv] at eh2;simp only [Value.slice.injEq] at eh2;obtain ⟨⟨rfl,_,rfl⟩,_⟩:=eh2;rw [eh];unfold maxLen at h2;have hlen:=h.os.len (.ma k);exact zQx (fo st k) gm om n cap e3 e4 e5 e6 c2 c4 D3 D4 D5 D6 A2 A4 (zH (fo st k)) w' hn (by omega) (by omega) h2 ((hb.cell (p:=⟨gm,om+n*8,none⟩) hgm).trans (hcell 0 _ rfl)) ((hb.cell (p:=⟨gm,om+n*8+1,none⟩) hgm).trans (hcell 1 _ rfl)) ((hb.cell (p:=⟨gm,om+n*8+2,none⟩) hgm).trans (hcell 2 _ rfl)) ((hb.cell (p:=⟨gm,om+n*8+3,none⟩) hgm).trans (hcell 3 _ rfl)) ((hb.cell (p:=⟨gm,om+n*8+4,none⟩) hgm).trans (hcell 4 _ rfl)) ((hb.cell (p:=⟨gm,om+n*8+5,none⟩) hgm).trans (hcell 5 _ rfl)) ((hb.cell (p:=⟨gm,om+n*8+6,none⟩) hgm).trans (hcell 6 _ rfl)) ((hb.cell (p:=⟨gm,om+n*8+7,none⟩) hgm).trans (hcell 7 _ rfl))
end
end
end Go.Proofs.YtdggplhnfhcieaaGreatDoor
