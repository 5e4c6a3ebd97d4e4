/- No condition. -/
import Derived.Test.YtdggplhnfhcieaaGreatDoorX15
import Derived.Test.YtdggplhnfhcieaaGreatDoorX18
set_option linter.all false
set_option maxRecDepth 100000
namespace Go.Proofs.YtdggplhnfhcieaaGreatDoor
section
open Go.RowKit Go.Deep
section
variable {X:Nat->Prop} {base bw:Nat} {W:World} {R:RM} {c:Call} {dv:Value} {st:State} {done late:Bool}
theorem WK.usSl (h:WK X base bw W R c dv st done late):Sl 2 z0s (fun _=>True) W (R .us).v st.users:=z1e z3m (h.os.row .us) (h.os.len _) h.is.users
theorem WK.deSl (h:WK X base bw W R c dv st done late):Sl 2 z0o (fun _=>True) W (R .de).v st.deposits:=z1e z2e (h.os.row .de) (h.os.len _) h.is.deps
theorem WK.foSl (h:WK X base bw W R c dv st done late):Sl 7 ZG (fun _=>True) W (R .fo).v st.folders:=by
 obtain ⟨_,_,_,e,_,_,_,h4⟩:=h.state;simp only [List.cons.injEq] at e;obtain ⟨_,_,_,rfl,_⟩:=e;exact h4
theorem z1s (h:WK X base bw W R c dv st done late) (s:Nm):Calls Tryz.prog 85 #[.pointer (some ⟨bw,0,none⟩),.string s] W fun e w'=>e= .returned (.int .i64 (iOf (Y6 st s)))/\Below W.heap.size W w':=by
 obtain ⟨w0,_,cw0,fw0,Bw0,_⟩:=zQ W #[.string s] 9;have HI:=zh (zLy s W.heap.size st.users _ w0 _ (h.usSl.keep z3m (by decide) (zK Bw0)) (cw0 0 _ rfl));obtain ⟨_,_,hv,_⟩:=(h.os.row .us).shape;have s9:=(Bw0.cell (p:=⟨bw,9,none⟩) h.lt).trans (h.cells.1 9 _ rfl);rw [hv] at s9 HI;have HB:=zh Bw0;clear h hv cw0 fw0 Bw0;go_enter Tryz.func85,Tryz.ntmps85
 go_wp2_with fail
 refine zcm HI.out ?_;rintro e _ ⟨rfl,B3⟩;go_wp2;go_ret;exact ⟨rfl,zB HB.out B3⟩
theorem WK.fold (h:WK X base bw W R c dv st done late) {i g o:Nat} {f:Folder} (hf:st.folders[i]? =some f) (ha:foAt R i g o):
  ∃(A2:Option Addr) (c2:Nat) (A3:Option Addr) (c3:Nat) (A4:Option Addr) (c4:Nat) (A5:Option Addr) (c5:Nat) (A6:Option Addr) (c6:Nat),
   hdr R i f=[.string f.name,.int .i64 f.turn,.slice A2 f.manifests.length c2,.slice A3 f.epochs.length c3,.slice A4 f.items.length c4,.slice A5 f.wraps.length c5,.slice A6 f.links.length c6]/\
   ZG (fun _=>True) W [.string f.name,.int .i64 f.turn,.slice A2 f.manifests.length c2,.slice A3 f.epochs.length c3,.slice A4 f.items.length c4,.slice A5 f.wraps.length c5,.slice A6 f.links.length c6] f/\
   W.cell? ⟨g,o,none⟩=some (.string f.name)/\W.cell? ⟨g,o+1,none⟩=some (.int .i64 f.turn)/\W.cell? ⟨g,o+2,none⟩=some (.slice A2 f.manifests.length c2)/\W.cell? ⟨g,o+3,none⟩=some (.slice A3 f.epochs.length c3)/\
   W.cell? ⟨g,o+4,none⟩=some (.slice A4 f.items.length c4)/\W.cell? ⟨g,o+5,none⟩=some (.slice A5 f.wraps.length c5)/\W.cell? ⟨g,o+6,none⟩=some (.slice A6 f.links.length c6)/\g < W.heap.size/\∀q,W.frozen? ⟨g,q,none⟩=false:=by
 have hF:=(h.is.fo i f hf).2.folder h.os;obtain ⟨_,_,ha',_,hg,hc,hz⟩:=h.fat hf;obtain ⟨_,_,_,hv,rfl⟩:=ha;obtain ⟨_,_,_,hv',rfl⟩:=ha';rw [hv] at hv';simp only [Value.slice.injEq,Option.some.injEq,Addr.mk.injEq] at hv';obtain ⟨⟨rfl,rfl,_⟩,_⟩:=hv';obtain ⟨A2,c2,A3,c3,A4,c4,A5,c5,A6,c6,e,_⟩:=Z2 hF;rw [e] at hF hc;exact ⟨A2,c2,A3,c3,A4,c4,A5,c5,A6,c6,e,hF,hc 0 _ rfl,hc 1 _ rfl,hc 2 _ rfl,hc 3 _ rfl,hc 4 _ rfl,hc 5 _ rfl,hc 6 _ rfl,hg,hz⟩
theorem zB2 (h:WK X base bw W R c dv st done late) (s:Nm):Calls Tryz.prog 125 #[.pointer (some ⟨bw,0,none⟩),.string s] W fun e w'=>
  ((foI st s=none/\e= .returned (.pointer none))\/∃k g o,foI st s=some k/\foAt R k g o/\e= .returned (.pointer (some ⟨g,o,none⟩)))/\Below W.heap.size W w':=by
 obtain ⟨w0,_,cw0,fw0,Bw0,_⟩:=zQ W #[.string s] 9;have HI:=zh (zI7 s W.heap.size st.folders _ w0 _ (h.foSl.keep YX (by decide) (zK Bw0)) (cw0 0 _ rfl));obtain ⟨_,_,hv,_⟩:=(h.os.row .fo).shape;have s11:=(Bw0.cell (p:=⟨bw,11,none⟩) h.lt).trans (h.cells.1 11 _ rfl);rw [hv,h.is.fol] at s11 HI;have HB:=zh Bw0;have HW:=zh h;have HV:=zh hv;have hlt:=h.lt;have hlt0:bw < w0.heap.size:=by have:=Bw0.size;omega
 clear h cw0 fw0 Bw0 hv;go_enter Tryz.func125,Tryz.ntmps125
 go_wp2_with fail
 refine zcm HI.out ?_;rintro e _ ⟨rfl,B3⟩;have t11:=(B3.cell (p:=⟨bw,11,none⟩) hlt0).trans s11
 cases hk:foI st s with
 | none=>
  rw [show st.folders.findIdx? (isF s)=none from hk];unfold iOf;go_wp2;go_ret
  exact ⟨.inl ⟨hk,rfl⟩,zB HB.out B3⟩
 | some k=>
  have hkl:k < st.folders.length:=(List.findIdx?_eq_some_iff_getElem.1 hk).1;rw [show st.folders.findIdx? (isF s)=some k from hk];unfold iOf;obtain ⟨g,o,ha,_⟩:=HW.out.fat (qLgx hkl);have HA:=zh ha;obtain ⟨_,_,_,hv',rfl⟩:=ha;rw [HV.out] at hv';simp only [Value.slice.injEq] at hv';obtain ⟨rfl,rfl,rfl⟩:=hv';go_wp2;go_ret;exact ⟨.inr ⟨k,_,_,hk,HA.out,rfl⟩,zB HB.out B3⟩
theorem zGh {st:State} {s:Nm} {k:Nat} (h:foI st s=some k):Z3 st s=if (zH (fo st k)).gone then none else some k:=by unfold Z3;rw [h]
theorem zJv {st:State} {s:Nm} (h:foI st s=none):Z3 st s=none:=by unfold Z3;rw [h]
theorem z2i {st:State} {s:Nm} {k:Nat} (h:foI st s=some k):k < st.folders.length:=(List.findIdx?_eq_some_iff_getElem.1 h).1
theorem ZO {st:State} {k:Nat} (h:k < st.folders.length):st.folders[k]? =some (fo st k):=by unfold fo;rw [qLgx h];rfl
theorem zEf (a b c:Nm) (x y:Int) (g:Bool) (v u:Value) (w:World):(Instr.field 84 (.agg #[.string a,.int .i64 x,v,.string b,u,.int .i64 y,.bool g,.string c]) 1).run Tryz.prog w= .ok (.int .i64 x) w:=by kernel_rfl
theorem zH9 (a b c:Nm) (x y:Int) (g:Bool) (v u:Value) (w:World):(Instr.field 84 (.agg #[.string a,.int .i64 x,v,.string b,u,.int .i64 y,.bool g,.string c]) 3).run Tryz.prog w= .ok (.string b) w:=by kernel_rfl
theorem z48 (a b c:Nm) (x y:Int) (g:Bool) (v u:Value) (w:World):(Instr.field 84 (.agg #[.string a,.int .i64 x,v,.string b,u,.int .i64 y,.bool g,.string c]) 4).run Tryz.prog w= .ok (u) w:=by kernel_rfl
theorem zJw (a b c:Nm) (x y:Int) (g:Bool) (v u:Value) (w:World):(Instr.field 84 (.agg #[.string a,.int .i64 x,v,.string b,u,.int .i64 y,.bool g,.string c]) 6).run Tryz.prog w= .ok (.bool g) w:=by kernel_rfl
theorem yS (h:WK X base bw W R c dv st done late) (s:Nm):Calls Tryz.prog 86 #[.pointer (some ⟨bw,0,none⟩),.string s] W fun e w'=>
  ((Z3 st s=none/\e= .returned (.pointer none))\/∃k g o,Z3 st s=some k/\foAt R k g o/\e= .returned (.pointer (some ⟨g,o,none⟩)))/\Below W.heap.size W w':=by
 have HI:=zh (zB2 h s);have HW:=zh h;clear h;go_enter Tryz.func86,Tryz.ntmps86
 go_wp2_with fail
 refine zcm HI.out ?_;rintro e w1 ⟨⟨hk,rfl⟩ | ⟨k,g,o,hk,ha,rfl⟩,B1⟩
 ·go_wp2;go_ret;exact ⟨.inl ⟨zJv hk,rfl⟩,B1⟩
 have hkl:=z2i hk;have hW1:=HW.out.below B1;obtain ⟨_,_,_,_,_,_,_,_,_,_,_,hF,_,_,_,_,_,_,_,_,_⟩:=hW1.fold (ZO hkl) ha;have HA:=zh ha;have HN:=zh (z62 (fo st k) _ w1 _ hF);have HB1:=zh B1;have qg:=zJw;clear hW1 hF ha B1;go_wp2_with fail
 refine zcm HN.out ?_;rintro e _ ⟨⟨_,rfl,hm⟩,B2⟩;obtain ⟨_,_,_,_,rfl,hm⟩:=yF hm;clear hm;cases hgn:(zH (fo st k)).gone
 ·go_wp2;go_ret;exact ⟨.inr ⟨k,g,o,by rw [zGh hk,hgn];rfl,HA.out,rfl⟩,zB HB1.out B2⟩
 go_wp2;go_ret;exact ⟨.inl ⟨by rw [zGh hk,hgn];rfl,rfl⟩,zB HB1.out B2⟩
end
end
section
section
variable {β:Type} {g:Folder->β} {p:Folder->Bool} {f f':Folder}
theorem zAf (hp:p f'=p f) (hg:g f'=g f):∀{l:List Folder} {k:Nat},l[k]? =some f->((l.set k f').find? p).map g=(l.find? p).map g
 | [],k,h=>by simp at h
 | x :: l,0,h=>by
  obtain rfl:x=f:=by simpa using h
  rw [List.set_cons_zero,List.find?_cons,List.find?_cons,hp];cases p x
  ·rfl
  ·simp [hg]
 | x :: l,k+1,h=>by
  rw [List.set_cons_succ,List.find?_cons,List.find?_cons];cases p x
  ·exact zAf hp hg (by simpa using h)
  ·rfl
end
def Alike (st st':State):Prop:=∀s,(zP st s).map (fun f=>(f.manifests,f.epochs))=(zP st' s).map fun f=>(f.manifests,f.epochs)
theorem Alike.miss {a b:State} (h:Alike a b) {s:Nm} (k:zP a s=none):zP b s=none:=by
 have:=h s;rw [k] at this
 cases hb:zP b s with
 | none=>rfl
 | some f=>rw [hb] at this;cases this
theorem Alike.hit {a b:State} (h:Alike a b) {s:Nm} {f:Folder} (k:zP a s=some f):∃f',zP b s=some f'/\f'.manifests=f.manifests/\f'.epochs=f.epochs:=by
 have:=h s;rw [k] at this
 cases hb:zP b s with
 | none=>rw [hb] at this;cases this
 | some f'=>
  rw [hb] at this;simp only [Option.map_some,Option.some.injEq,Prod.mk.injEq] at this;exact ⟨f',rfl,this.1.symm,this.2.symm⟩
theorem z0c {f f':Folder} (h:f'.manifests=f.manifests):zH f'=zH f:=by unfold zH;rw [h]
theorem Alike.now {a b:State} (h:Alike a b) (s:Nm):zH ((zP b s).getD yH)=zH ((zP a s).getD yH):=by
 cases k:zP a s with
 | none=>rw [h.miss k]
 | some f=>
  obtain ⟨_,k',hm,_⟩:=h.hit k;rw [k'];exact z0c hm
theorem Alike.eps {a b:State} (h:Alike a b) (s:Nm):((zP b s).getD yH).epochs=((zP a s).getD yH).epochs:=by
 cases k:zP a s with
 | none=>rw [h.miss k]
 | some f=>
  obtain ⟨_,k',_,he⟩:=h.hit k;rw [k'];exact he
theorem Alike.chain {a b:State} (h:Alike a b):∀(n:Nat) (s:Nm),zN b n s=zN a n s
 | 0,s=>rfl
 | n+1,s=>by
  cases k:zP a s with
  | none=>rw [z1q k,z1q (h.miss k)]
  | some f=>
   obtain ⟨_,k',hm,_⟩:=h.hit k;rw [z0w k,z0w k',z0c hm,h.chain n]
theorem Alike.cut {a b:State} (h:Alike a b) (s:Nm):YE b s=YE a s:=by unfold YE;rw [h.now s]
theorem Alike.go {a b:State} (h:Alike a b):∀(x y:List At),Y0 b x y=Y0 a x y
 | [],y=>by cases y<;>rfl
 | x :: r,[]=>rfl
 | x :: r,y :: q=>by unfold Y0;rw [h.cut,h.go r q]
theorem Alike.stale {a b:State} (h:Alike a b) (s:Nm):ZJ b s=ZJ a s:=by
 cases k:zP a s with
 | none=>rw [z6f k,z6f (h.miss k)]
 | some f=>
  obtain ⟨_,k',_,he⟩:=h.hit k;rcases Nat.eq_zero_or_pos f.epochs.length with h0 | h0
  ·rw [z6z k h0,z6z k' (by rw [he];exact h0)]
  obtain ⟨n,hn⟩:∃n,f.epochs.length=n+1:=⟨f.epochs.length - 1,by omega⟩;have hx:f.epochs[n]? =some (f.epochs[n]'(by omega)):=qLgx _;rw [z6g k hn hx,z6g k' (by rw [he];exact hn) (by rw [he];exact hx),h.chain,h.go]
theorem zEj {st:State} {k:Nat} {f f':Folder} (h:st.folders[k]? =some f) (hn:f'.name=f.name) (hm:f'.manifests=f.manifests) (he:f'.epochs=f.epochs):Alike st (setF st k f'):=fun s=>by
 unfold setF zP;exact (zAf (by rw [hn]) (by rw [hm,he]) h).symm
theorem Y3 {st:State} {k:Nat} {f:Folder} (h:k < st.folders.length):fo (setF st k f) k=f:=by
 unfold fo setF;dsimp only;rw [List.getElem?_set_self h];rfl
theorem z0n {st:State} {k:Nat} {f g:Folder}:setF (setF st k f) k g=setF st k g:=by
 unfold setF;simp
theorem z7d {st:State} {k:Nat}:setF st k (fo st k)=st:=by
 unfold setF fo
 cases h:st.folders[k]? with
 | none=>
  have:st.folders.length<=k:=List.getElem?_eq_none_iff.1 h
  rw [List.set_eq_of_length_le this]
 | some f=>
  have:=List.set_eq_self_of h;rw [Option.getD_some,this]
theorem Y4 {st:State} {k:Nat} {f:Folder}:(setF st k f).folders.length=st.folders.length:=by unfold setF;simp
theorem z3x {st:State} {s:Nm} {k:Nat} (h:foI st s=some k):zP st s=some (fo st k):=by
 unfold foI at h;obtain ⟨hk,hp,hn⟩:=List.findIdx?_eq_some_iff_getElem.1 h;have hf:=fo_at' hk;rw [<-z61];exact z7z (k:=k) (fun y hy=>by
  obtain ⟨j,_,rfl⟩:=List.mem_take_iff_getElem.1 hy;have:=hn j (by omega);simpa using this) hf (by rw [<-hp];unfold fo;rw [qLgx hk];rfl)
where fo_at' {st:State} {k:Nat} (h:k < st.folders.length):st.folders[k]? =some (fo st k):=by unfold fo;rw [qLgx h];rfl
theorem z68 {st:State} {s:Nm}:foI st s=none↔zP st s=none:=by
 unfold foI;rw [List.findIdx?_eq_none_iff,<-z61,List.find?_eq_none];simp
def YJ (name:Nm) (l:List Wrap):Nat:=(l.takeWhile fun w=>ltS w.name name).length
def z28 (l:List Wrap):Prop:=l.Pairwise fun a b=>ltS a.name b.name=true
theorem zOg {a b:Nm} (h:a≠b) (k:ltS a b=false):ltS b a=true:=by
 rcases z18 a b with e | e | e
 ·rw [e] at k;cases k
 ·exact absurd e h
 exact e
theorem zDk (eps:List Epoch) (name:Nm) (seed:Bool):∀(l:List Wrap),z1m eps name seed l=match l[YJ name l]? with
  | some w=>if w.name=name then l.set (YJ name l) (if z4d eps w seed then w else ⟨name,eps.length,seed⟩) else l.take (YJ name l)++⟨name,eps.length,seed⟩ :: l.drop (YJ name l)
  | none=>l++[⟨name,eps.length,seed⟩]
 | []=>rfl
 | w :: r=>by
  unfold z1m YJ;by_cases h1:w.name=name
  ·rw [if_pos h1,List.takeWhile_cons];have:ltS w.name name=false:=by rw [h1];exact YV _
   simp only [this,Bool.false_eq_true,if_false];simp [h1]
  ·rw [if_neg h1,List.takeWhile_cons];cases h2:ltS w.name name
   ·rw [if_pos (zOg h1 h2)];simp [h1]
   ·rw [if_neg (by rw [z3h h2];decide)];have ih:=zDk eps name seed r;unfold YJ at ih;rw [ih];simp only [if_true,List.length_cons,List.getElem?_cons_succ,List.set_cons_succ,List.take_succ_cons,List.drop_succ_cons,List.cons_append];split
    ·split<;>rfl
    ·rfl
theorem z5h {eps:List Epoch} {name:Nm} {seed:Bool}:∀{l:List Wrap} {x:Wrap},x∈z1m eps name seed l->x=⟨name,eps.length,seed⟩\/x∈l
 | [],x,h=>by simpa [z1m] using h
 | w :: r,x,h=>by
  unfold z1m at h;split at h
  ·split at h
   ·exact .inr h
   ·rcases List.mem_cons.1 h with h | h
    ·exact .inl h
    ·exact .inr (zmc _ h)
  ·split at h
   ·rcases List.mem_cons.1 h with h | h
    ·exact .inl h
    ·exact .inr h
   ·rcases List.mem_cons.1 h with h | h
    ·exact .inr (by rw [h];exact List.mem_cons_self ..)
    ·exact (z5h h).imp id fun h=>zmc _ h
theorem z7n (eps:List Epoch) (name:Nm) (seed:Bool):∀{l:List Wrap},z28 l->z28 (z1m eps name seed l)
 | [],_=>by unfold z1m z28;simp
 | w :: r,h=>by
  unfold z28 at h⊢;obtain ⟨h1,h2⟩:=List.pairwise_cons.1 h;unfold z1m;split
  ·rename_i e;split
   ·exact h
   ·exact List.pairwise_cons.2 ⟨fun b hb=>by rw [<-e];exact h1 b hb,h2⟩
  ·split
   ·rename_i e1 e2;exact List.pairwise_cons.2 ⟨fun b hb=>by
     rcases List.mem_cons.1 hb with rfl | hb
     ·exact e2
     ·exact YP e2 (h1 b hb),h⟩
   ·rename_i e1 e2;refine List.pairwise_cons.2 ⟨fun b hb=>?_,z7n eps name seed h2⟩;rcases z5h hb with rfl | hb
    ·exact zOg (fun e=>e1 e.symm) (by simpa using e2)
    ·exact h1 b hb
structure Gv (f f':Folder):Prop where
 name:f'.name=f.name
 turn:f'.turn=f.turn
 man:f'.manifests=f.manifests
 ep:f'.epochs=f.epochs
 it:f'.items=f.items
 wr:z28 f.wraps->z28 f'.wraps
theorem Gv.refl (f:Folder):Gv f f:=⟨rfl,rfl,rfl,rfl,rfl,id⟩
theorem Gv.trans {a b c:Folder} (h:Gv a b) (k:Gv b c):Gv a c:=⟨k.name.trans h.name,k.turn.trans h.turn,k.man.trans h.man,k.ep.trans h.ep,k.it.trans h.it,fun x=>k.wr (h.wr x)⟩
theorem Gv.now {f f':Folder} (h:Gv f f'):zH f'=zH f:=z0c h.man
theorem zSq (f:Folder) (name:Nm) (seed:Bool):Gv f (yO f name seed):=⟨rfl,rfl,rfl,rfl,rfl,fun h=>z7n _ _ _ h⟩
theorem z4v (sd:Member->Bool):∀(ms:List Member) (f:Folder),Gv f (ZZ sd f ms)
 | [],f=>Gv.refl f
 | m :: r,f=>(zSq f m.name (sd m)).trans (z4v sd r (yO f m.name (sd m)))
theorem z3y (st:State):∀(l:List At) (f:Folder),Gv f (Y1 st l f)
 | [],f=>Gv.refl f
 | x :: r,f=>by
  unfold Y1;split
  ·exact (z4v _ _ f).trans (z3y st r _)
  ·split
   ·exact Gv.refl f
   ·exact ⟨rfl,rfl,rfl,rfl,rfl,id⟩
theorem zK2 (sd:Member->Bool) (f:Folder) (ms:List Member) (m:Member):ZZ sd f (ms++[m])=yO (ZZ sd f ms) m.name (sd m):=by unfold ZZ;simp
theorem Alike.gv {st:State} {k:Nat} {f':Folder} (hk:k < st.folders.length) (h:Gv (fo st k) f'):Alike st (setF st k f'):=
 zEj (by unfold fo;rw [qLgx hk];rfl) h.name h.man h.ep
end
def Z8 (st:State):Fs:=fun s=>(zP st s).map fun f=>((zH f).parent,(zH f).gone)
def z36 (st:State):Prop:=(st.folders.map Folder.name).Nodup
theorem z1f {st:State} (h:z36 st) {f:Folder} (hf:f∈st.folders):zP st f.name=some f:=by
 unfold zP z36 at*;generalize st.folders=l at*
 induction l with
 | nil=>simp at hf
 | cons x r ih=>
  rw [List.map_cons,List.nodup_cons] at h;rw [List.find?_cons];by_cases e:x.name=f.name
  ·have hx:f=x:=by
    rcases List.mem_cons.1 hf with e2 | e2
    ·exact e2
    ·exact absurd (show x.name∈r.map Folder.name by rw [e];exact List.mem_map.2 ⟨f,e2,rfl⟩) h.1
   rw [<-hx];simp
  rw [decide_eq_false e];refine ih h.2 ?_;rcases List.mem_cons.1 hf with e2 | e2
  ·exact absurd (by rw [e2]) e
  exact e2
theorem zOh {st:State} (h:z36 st) {f:Folder} (hf:f∈st.folders):Z8 st f.name=some ((zH f).parent,(zH f).gone):=by unfold Z8;rw [z1f h hf];rfl
theorem z1g {st:State} {s:Nm}:ZC (Z8 st) s=true↔∃f,zP st s=some f/\(zH f).gone=false:=by
 unfold ZC Z8
 cases hf:zP st s with
 | none=>simp
 | some f=>simp
theorem zOi {st:State} {s:Nm} {f:Folder} (h:zP st s=some f):yQ (Z8 st) s=(zH f).parent:=by unfold yQ Z8;rw [h];rfl
theorem zMe {st:State} {s:Nm}:(Z3 st s).isSome=ZC (Z8 st) s:=by
 unfold Z3
 cases h:foI st s with
 | none=>
  have:=z68.1 h;unfold ZC Z8;rw [this]
  rfl
 | some k=>
  have:=z3x h;unfold ZC Z8;rw [this];dsimp only [Option.map_some];cases (zH (fo st k)).gone<;>rfl
theorem z1h {st:State} {s:Nm} {k:Nat} (h:Z3 st s=some k):foI st s=some k/\(zH (fo st k)).gone=false:=by
 unfold Z3 at h
 cases h1:foI st s with
 | none=>rw [h1] at h;cases h
 | some j=>
  rw [h1] at h;dsimp only at h;cases h2:(zH (fo st j)).gone
  ·rw [h2] at h;simp only [Bool.false_eq_true,if_false,Option.some.injEq] at h;subst h;exact ⟨rfl,h2⟩
  rw [h2] at h;simp at h
theorem yN {st:State} {k:Nat} (h:k < st.folders.length):fo st k∈st.folders:=by
 unfold fo;rw [qLgx h];exact List.getElem_mem h
theorem zQu {st:State} {s:Nm} {k:Nat} (h:foI st s=some k):(fo st k).name=s:=YM (z3x h)
theorem zSr {st:State} {s:Nm} {k:Nat} (h:foI st s=some k):k < st.folders.length:=(List.findIdx?_eq_some_iff_getElem.1 h).1
theorem zB3 {st:State} (h:z36 st) {f:Folder} (hf:f∈st.folders) (s:Nm):inB s f=true↔ZC (Z8 st) f.name=true/\yQ (Z8 st) f.name=s:=by
 have h1:=z1f h hf;rw [zOi h1];unfold inB ZC;rw [zOh h hf];simp
def zAg (st:State):Nat->Nm->Prop
 | 0,s=>∀f∈st.folders,inB s f=false
 | n+1,s=>∀f∈st.folders,inB s f=true->zAg st n f.name
theorem zB4 {st:State} (hN:z36 st) (hI:Inv (Z8 st)):∀(n:Nat) (s:Nm),4<=(ch (Z8 st) s).length+n->zAg st n s
 | 0,s,h=>fun f hf=>by
  cases hb:inB s f
  ·rfl
  ·obtain ⟨h1,h2⟩:=(zB3 hN hf s).1 hb;have h3:=z2u hI h1;rw [h2] at h3;have:=hI.deep f.name
   omega
 | n+1,s,h=>fun f hf hb=>by
  obtain ⟨h1,h2⟩:=(zB3 hN hf s).1 hb;have h3:=z2u hI h1;rw [h2] at h3;exact zB4 hN hI n f.name (by omega)
theorem zFl {α:Type} (p:α->Bool) (g:α->Nat):∀(l:List α) (m:Nat),m<=l.foldl (fun m f=>if p f then max m (g f) else m) m/\(∀f∈l,p f=true->g f<=l.foldl (fun m f=>if p f then max m (g f) else m) m)/\
  (l.foldl (fun m f=>if p f then max m (g f) else m) m=m\/∃f∈l,p f=true/\l.foldl (fun m f=>if p f then max m (g f) else m) m=g f)
 | [],m=>⟨znl _,fun f hf=>by simp at hf,.inl rfl⟩
 | x :: l,m=>by
  rw [List.foldl_cons];cases hx:p x
  ·simp only [Bool.false_eq_true,if_false];obtain ⟨h1,h2,h3⟩:=zFl p g l m;refine ⟨h1,fun f hf hp=>?_,h3.imp id fun ⟨f,a,b⟩=>⟨f,zmc _ a,b⟩⟩;rcases List.mem_cons.1 hf with e | e
   ·rw [e,hx] at hp;cases hp
   ·exact h2 f e hp
  ·simp only [if_true];obtain ⟨h1,h2,h3⟩:=zFl p g l (max m (g x));have hm:m<=max m (g x):=Nat.le_max_left ..;have hg:g x<=max m (g x):=Nat.le_max_right ..;refine ⟨qNtx hm h1,fun f hf hp=>?_,?_⟩
   ·rcases List.mem_cons.1 hf with e | e
    ·rw [e];exact qNtx hg h1
    ·exact h2 f e hp
   ·rcases h3 with h3 | ⟨f,a,b,c⟩
    ·rcases Nat.le_total (g x) m with e | e
     ·exact .inl (h3.trans (Nat.max_eq_left e))
     ·exact .inr ⟨x,List.mem_cons_self ..,hx,h3.trans (Nat.max_eq_right e)⟩
    ·exact .inr ⟨f,zmc _ a,b,c⟩
theorem z8x {st:State} (hN:z36 st) (hI:Inv (Z8 st)):∀(n:Nat) (s:Nm),ZC (Z8 st) s=true->4<=(ch (Z8 st) s).length+n->IsHigh (Z8 st) s (YN st n s)
 | 0,s,hs,h=>by
  refine IsHigh.up (m:=0) hI hs (fun c c1 c2=>?_) (.inl rfl);have h3:=z2u hI c1;rw [c2] at h3;have:=hI.deep c
  omega
 | n+1,s,hs,h=>by
  obtain ⟨_,f2,f3⟩:=zFl (inB s) (fun f=>YN st n f.name) st.folders 0;refine IsHigh.up hI hs (fun c c1 c2=>?_) ?_
  ·obtain ⟨f,hf,_⟩:=z1g.1 c1;have hfm:=z08 hf;have hfn:=YM hf;have h3:=z2u hI c1;rw [c2] at h3;refine ⟨_,z8x hN hI n c c1 (by omega),?_⟩;have:=f2 f hfm ((zB3 hN hfm s).2 (by rw [hfn];exact ⟨c1,c2⟩));rw [hfn] at this;exact this
  ·rcases f3 with e | ⟨f,a,b,e⟩
   ·exact .inl e
   ·obtain ⟨c1,c2⟩:=(zB3 hN a s).1 b;have h3:=z2u hI c1;rw [c2] at h3;refine .inr ⟨f.name,c1,c2,?_⟩;rw [e];exact z8x hN hI n f.name c1 (by omega)
theorem z5c {st:State} (hI:Inv (Z8 st)) (hT:zP st Top=none):∀(n:Nat) (s:Nm),s=Top\/ZC (Z8 st) s=true->(ch (Z8 st) s).length<=n->(zN st n s).map At.name=ch (Z8 st) s
 | n,s,hs,hn=>by
  by_cases hl:ZC (Z8 st) s=true
  ·obtain ⟨f,hf,_⟩:=z1g.1 hl;have h3:=z2u hI hl
   cases n with
   | zero=>omega
   | succ n=>
    rw [z0w hf,z29 hI hl,List.map_cons];have hp:=zOi hf;have hup:=hI.up s hl;rw [hp] at h3 hup⊢;rw [z5c hI hT n (zH f).parent hup (by omega)]
  ·rcases hs with rfl | hs
   ·rw [zDx hI hI.no,z1q hT];rfl
   ·exact absurd hs hl
theorem z82 {st:State} (hI:Inv (Z8 st)) (hT:zP st Top=none) {s:Nm} (hs:s=Top\/ZC (Z8 st) s=true):(zN st 4 s).length=(ch (Z8 st) s).length:=by
 rw [<-z5c hI hT 4 s hs (hI.deep s),qLmx]
theorem zGi {st:State} (hI:Inv (Z8 st)) (hT:zP st Top=none) {s:Nm} (hs:s=Top\/ZC (Z8 st) s=true) (x:Nm):(zN st 4 s).any (fun a=>decide (a.name=x))=true↔x∈ch (Z8 st) s:=by
 rw [<-z5c hI hT 4 s hs (hI.deep s),List.any_eq_true];simp
section
open Go.RowKit Go.Deep
theorem zEo (x:Wrap) (name:Nm) (cs:List Value) (w:World) (S:Nat->Prop) (h:YC S w cs x):Calls Tryz.prog 160 #[.agg cs.toArray,.string name] w fun e w'=>e= .returned (.int .i64 (Ro.cmpOf x.name name))/\Below w.heap.size w w':=by
 obtain ⟨rfl,_,_⟩:=z3i h;have HC:=zh fun w=>Ro.cmp_any x.name name w
 go_enter Tryz.func160,Tryz.ntmps160
 go_wp2_with fail
 refine zcm (HC.out _) ?_;rintro e _ ⟨rfl,rfl⟩;go_wp2;go_ret;exact ⟨rfl,by go_grown⟩
theorem zL2 {a b:Nm}:(Ro.cmpOf a b < 0)↔ltS a b=true:=by
 unfold Ro.cmpOf;rw [show Ro.ltS a b=ltS a b from rfl,show Ro.ltS b a=ltS b a from rfl];cases ltS a b
 ·cases ltS b a<;>simp
 simp
theorem zQy {a b:Nm}:(Ro.cmpOf a b=0)↔a=b:=by
 unfold Ro.cmpOf;rw [show Ro.ltS a b=ltS a b from rfl,show Ro.ltS b a=ltS b a from rfl];constructor
 ·intro h;rcases z18 a b with e | e | e
  ·rw [if_pos e] at h;cases h
  ·exact e
  rw [if_neg (by rw [z3h e];decide),if_pos e] at h;cases h
 rintro rfl;rw [YV];rfl
theorem zBw {α:Type} {p:α->Bool}:∀{l:List α} {i:Nat},i<=l.length->(∀y∈l.take i,p y=true)->(∀y∈l.drop i,p y=false)->(l.takeWhile p).length=i
 | [],i,h,_,_=>by simp at h;simp [h]
 | x :: r,0,_,_,h2=>by
  rw [List.takeWhile_cons,h2 x (by simp)]
  rfl
 | x :: r,i+1,h,h1,h2=>by
  rw [List.takeWhile_cons,h1 x (by simp),if_pos rfl,List.length_cons,zBw (by simpa using h) (fun y hy=>h1 y (by simp [hy])) (fun y hy=>h2 y (by simpa using hy))]
theorem zT1 {l:List Wrap} (h:z28 l) {name:Nm} {k:Nat} {x:Wrap} (hx:l[k]? =some x) (hl:ltS x.name name=true):∀y∈l.take (k+1),ltS y.name name=true:=fun y hy=>by
 obtain ⟨j,_,rfl⟩:=List.mem_take_iff_getElem.1 hy;obtain ⟨hk,rfl⟩:=zge hx;rcases Nat.lt_or_eq_of_le (show j<=k by omega) with e | e
 ·exact YP (List.pairwise_iff_getElem.1 h j k (by omega) hk e) hl
 ·subst e;exact hl
theorem zT2 {l:List Wrap} (h:z28 l) {name:Nm} {k:Nat} {x:Wrap} (hx:l[k]? =some x) (hl:ltS x.name name=false):∀y∈l.drop k,ltS y.name name=false:=fun y hy=>by
 obtain ⟨j,hj,e⟩:=List.mem_iff_getElem.1 hy;rw [List.getElem_drop] at e;obtain ⟨hk,rfl⟩:=zge hx;cases hc:ltS y.name name
 ·rfl
 ·subst e;rcases Nat.eq_zero_or_pos j with e | e
  ·subst e;simp only [Nat.add_zero] at hc;rw [hc] at hl;cases hl
  ·have:=YP (List.pairwise_iff_getElem.1 h k (k+j) hk (by simp at hj;omega) (by omega)) hc;rw [this] at hl;cases hl
def z8k (name:Nm) (l:List Wrap):Bool:=match l[YJ name l]? with
 | some w=>decide (w.name=name)
 | none=>false
set_option maxHeartbeats 4000000 in
theorem zT3 (l:List Wrap) (hr:z28 l) (hl0:l.length<=1000000) (name:Nm) (v:Value) (w:World) (S:Nat->Prop) (h:Sl 3 YC S w v l):
  Calls Tryz.prog 159 #[v,.string name,.func (.func 160) #[] #[]] w fun e w'=>e= .returned (.tuple #[.int .i64 (YJ name l),.bool (z8k name l)])/\Below w.heap.size w w':=by
 obtain ⟨_,_,rfl,_,hc,_,hs⟩:=h;unfold maxLen at hc;have HR:=zh hr;clear hr;go_enter Tryz.func159,Tryz.ntmps159
 go_wp2;go_loopw [9,10] (fun i j wr=>∃a b:Nat,a<=b/\b<=l.length/\i= .int .i64 a/\j= .int .i64 b/\Hid ((∀y∈l.take a,ltS y.name name=true)/\∀y∈l.drop b,ltS y.name name=false)/\Below w.heap.size w wr) (fun i j _=>(intOf j).toNat - (intOf i).toNat)
 case atStart=>exact ⟨0,l.length,by omega,by omega,by go_num,by go_num,⟨fun y hy=>by simp at hy,fun y hy=>by simp at hy⟩,by go_grown⟩
 obtain ⟨a,b,_,hb,rfl,rfl,HN,hbel⟩:=hrel;have hz:=hbel.size;by_cases hlt:a < b
 rotate_left
 ·obtain rfl:a=b:=by omega
  have HI:=zh (show YJ name l=a from zBw hb HN.out.1 HN.out.2);by_cases hal:a < l.length
  rotate_left
  ·have HW:=zh (show z8k name l=false by unfold z8k;rw [HI.out,List.getElem?_eq_none (by omega)]);have hali:¬((a:Int) < (l.length:Int)):=by omega
   go_wp2;go_ret2
   exact ⟨by rw [HI.out,HW.out];rfl,hbel⟩
  have hali:(a:Int) < (l.length:Int):=by omega
  obtain ⟨x,x_b,x_o,x_k,x_d,x_m,rfl,x_l,x_S,x_0,x_1,x_2,x_R,x_name_le,x_epoch_ok⟩:=zHt hs hal (zK hbel);have HW:=zh (show z8k name l=decide (x.name=name) by unfold z8k;rw [HI.out,x_k]);clear x_k x_d;go_wp2_with fail
  refine zcm (zEo x name _ wr S x_R) ?_;rintro e w1 ⟨rfl,B1⟩;have HB1:=zh (zB hbel B1);obtain ⟨z,hz0⟩:∃z,Ro.cmpOf x.name name=z:=⟨_,rfl⟩;have HZ:=zh (show decide (x.name=name)=(z==0) by
   rw [<-hz0,Bool.eq_iff_iff,decide_eq_true_eq,beq_iff_eq,zQy])
  rw [hz0];clear hz0 x_R;go_wp2;go_ret2
  exact ⟨by rw [HI.out,HW.out,HZ.out];rfl,HB1.out⟩
 have hai:(a:Int) < (b:Int):=by omega
 have hm:(a+b) / 2 < l.length:=by omega
 obtain ⟨x,x_b,x_o,x_k,x_d,x_m,rfl,x_l,x_S,x_0,x_1,x_2,x_R,x_name_le,x_epoch_ok⟩:=zHt hs hm (zK hbel);have HX:=zh x_k;clear x_k x_d;go_wp2_with fail
 refine zcm (zEo x name _ wr S x_R) ?_;rintro e w1 ⟨rfl,B1⟩;have HB1:=zh (zB hbel B1);obtain ⟨z,hz0⟩:∃z,Ro.cmpOf x.name name=z:=⟨_,rfl⟩;have HZ:=zh hz0;rw [hz0];clear hz0 x_R;by_cases hneg:z < 0
 ·have HN2:=zh (show (∀y∈l.take ((a+b) / 2+1),ltS y.name name=true)/\∀y∈l.drop b,ltS y.name name=false from ⟨zT1 HR.out HX.out (zL2.1 (by rw [HZ.out];exact hneg)),HN.out.2⟩);go_wp2;go_roundw
  case rel=>exact ⟨(a+b) / 2+1,b,by omega,by omega,by go_num,by go_num,HN2,HB1.out⟩
  case measure=>simp [intOf];omega
 have HN2:=zh (show (∀y∈l.take a,ltS y.name name=true)/\∀y∈l.drop ((a+b) / 2),ltS y.name name=false from ⟨HN.out.1,zT2 HR.out HX.out (by
  cases hh:ltS x.name name
  ·rfl
  ·exact absurd (by rw [<-HZ.out];exact zL2.2 hh) hneg)⟩)
 go_wp2;go_roundw
 case rel=>exact ⟨a,(a+b) / 2,by omega,by omega,by go_num,by go_num,HN2,HB1.out⟩
 case measure=>simp [intOf];omega
end
structure FInv (n:Nat) (us:List Nm) (f:Folder):Prop where
 nm:f.name.size<=20
 man:f.manifests≠[]
 ep:f.epochs≠[]
 wr:z28 f.wraps
 wn:∀w∈f.wraps,w.name∈us
 it:∀x∈f.items,x.versions≠[]/\x.versions.length<=n/\x.name.size<=20
 mem:Ro.rightOf (zH f).members=true
 mn:∀m∈f.manifests,m.parent.size<=20/\m.members.length<=20/\∀x∈m.members,x.name∈us
 lk:∀l∈f.links,l.to.size<=20
 ec:∀e∈f.epochs,e.chain.length<=20/\∀y∈e.chain,y.name.size<=20
 tn:0<=f.turn/\f.turn<=n
 sq:0<=(zH f).seq/\(zH f).seq<=n
 pv:∀m∈f.manifests,m.prev=[]
theorem FInv.mono {n m:Nat} {us vs:List Nm} {f:Folder} (h:FInv n us f) (hn:n<=m) (hu:∀x∈us,x∈vs):FInv m vs f:=
 ⟨h.nm,h.man,h.ep,h.wr,fun w hw=>hu _ (h.wn w hw),fun x hx=>⟨(h.it x hx).1,qNtx (h.it x hx).2.1 hn,(h.it x hx).2.2⟩,h.mem,fun m hm=>⟨(h.mn m hm).1,(h.mn m hm).2.1,fun x hx=>hu _ ((h.mn m hm).2.2 x hx)⟩,h.lk,h.ec,
  ⟨h.tn.1,by have:=h.tn.2;omega⟩,⟨h.sq.1,by have:=h.sq.2;omega⟩,h.pv⟩
def ZW (f:Folder):Nat:=f.manifests.length+f.epochs.length+f.items.length+f.links.length
def z0x:List Folder->Nat
 | []=>0
 | f :: l=>ZW f+z0x l
theorem zGj:∀(l:List Folder) (f:Folder),z0x (l++[f])=z0x l+ZW f
 | [],f=>by simp [z0x]
 | x :: l,f=>by rw [List.cons_append,z0x,z0x,zGj l f];omega
theorem zIh:∀{l:List Folder} {k:Nat} {f f':Folder},l[k]? =some f->z0x (l.set k f')+ZW f=z0x l+ZW f'
 | [],k,f,f',h=>by simp at h
 | x :: l,0,f,f',h=>by
  obtain rfl:x=f:=by simpa using h
  rw [List.set_cons_zero,z0x,z0x]
  omega
 | x :: l,k+1,f,f',h=>by
  have:=zIh (f':=f') (l:=l) (k:=k) (f:=f) (by simpa using h);rw [List.set_cons_succ,z0x,z0x];omega
structure VInv (n:Nat) (st:State):Prop where
 names:z36 st
 top:zP st Top=none
 tree:Inv (Z8 st)
 fol:∀f∈st.folders,FInv n (st.users.map User.name) f
 us20:∀u∈st.users,u.name.size<=20
 u16:st.users.length<=16
 ds20:∀p∈st.deposits,p.frm.size<=20/\p.to.size<=20
 few:st.users.length+st.deposits.length+st.folders.length<=n
 sum:z0x st.folders<=3*n
 turn:0<=st.turn/\st.turn<=n
theorem VInv.start:VInv 0 ⟨0,[],[],[]⟩ where
 names:=List.nodup_nil
 top:=rfl
 tree:=Inv.start
 fol:=fun f hf=>by simp at hf
 us20:=fun f hf=>by simp at hf
 u16:=by simp
 ds20:=fun f hf=>by simp at hf
 few:=by simp
 sum:=by simp [z0x]
 turn:=by simp
theorem VInv.mono {n m:Nat} {st:State} (h:VInv n st) (hn:n<=m):VInv m st where
 names:=h.names
 top:=h.top
 tree:=h.tree
 fol:=fun f hf=>(h.fol f hf).mono hn fun x hx=>hx
 us20:=h.us20
 u16:=h.u16
 ds20:=h.ds20
 few:=qNtx h.few hn
 sum:=by have:=h.sum;omega
 turn:=⟨h.turn.1,by have:=h.turn.2;omega⟩
theorem VInv.atF {n:Nat} {st:State} (h:VInv n st) {k:Nat} (hk:k < st.folders.length):FInv n (st.users.map User.name) (fo st k):=h.fol _ (yN hk)
theorem zAh {l:List Wrap} (h:z28 l):(l.map Wrap.name).Nodup:=List.pairwise_map.2 (h.imp fun h=>z5p h)
theorem zGk {n:Nat} {us:List Nm} {f:Folder} (h:FInv n us f):f.wraps.length<=us.length:=by
 rw [<-List.length_map (f:=Wrap.name)];exact z7y (zAh h.wr) fun e he=>by
  obtain ⟨w,hw,rfl⟩:=List.mem_map.1 he;exact h.wn w hw
theorem zKy {n k:Nat} {us:List Nm} (hu:us.length<=k):∀(l:List Folder),(∀f∈l,FInv n us f)->z4l l<=z0x l+k*l.length
 | [],_=>by simp [z4l,z0x]
 | f :: l,h=>by
  have h1:=zGk (h f (List.mem_cons_self ..));have h2:=zKy hu l fun x hx=>h x (zmc _ hx)
  rw [z4l,z0x,List.length_cons,Nat.mul_succ];unfold z6y ZW;omega
theorem VInv.small {n:Nat} {st:State} (h:VInv n st) (hn:n<=41):Small st where
 users:=h.us20
 pairs:=h.ds20
 few8:=by have:=h.few;omega
 all:=by
  have h1:=zKy (n:=n) (k:=16) (us:=st.users.map User.name) (by rw [qLmx];exact h.u16) st.folders h.fol;have h2:=h.sum;have h3:=h.few;omega
 short:=fun f hf=>by
  have hF:=h.fol f hf;have hsz:∀s∈st.users.map User.name,s.size<=20:=fun s hs=>by
   obtain ⟨u,hu,rfl⟩:=List.mem_map.1 hs;exact h.us20 u hu
  exact ⟨hF.nm,fun m hm=>⟨(hF.mn m hm).1,(hF.mn m hm).2.1,fun y hy=>hsz _ ((hF.mn m hm).2.2 y hy)⟩,hF.ec,fun x hx=>⟨(hF.it x hx).2.2,by have:=(hF.it x hx).2.1;omega⟩,fun w hw=>hsz _ (hF.wn w hw),hF.lk⟩
theorem z9e {st:State} {k:Nat} {f':Folder} (hk:k < st.folders.length) (hn:f'.name=(fo st k).name):(setF st k f').folders.map Folder.name=st.folders.map Folder.name:=by
 unfold setF;dsimp only;rw [List.map_set,hn];have:st.folders[k]? =some (fo st k):=by unfold fo;rw [qLgx hk];rfl
 rw [List.set_eq_self_of (by rw [List.getElem?_map,this];rfl)]
theorem YT {st:State} (hN:z36 st) {k:Nat} {f':Folder} (hk:k < st.folders.length) (hn:f'.name=(fo st k).name) (s:Nm):zP (setF st k f') s=if s=f'.name then some f' else zP st s:=by
 have hN':z36 (setF st k f'):=by unfold z36;rw [z9e hk hn];exact hN
 have hmem:f'∈(setF st k f').folders:=by
  unfold setF;exact zmg (i:=k) (by rw [List.getElem?_set_self hk])
 split
 ·rename_i e;rw [e];exact z1f hN' hmem
 rename_i e
 cases hf:zP st s with
 | none=>
  unfold zP;rw [List.find?_eq_none];intro x hx;unfold setF at hx;rcases List.mem_or_eq_of_mem_set hx with hx | e3
  ·unfold zP at hf;exact List.find?_eq_none.1 hf x hx
  rw [e3]
  simpa using fun e2:f'.name=s=>e e2.symm
 | some g=>
  have hgm:=z08 hf;have hgn:=YM hf;rw [<-hgn];refine z1f hN' ?_;obtain ⟨j,hj,hje⟩:=List.mem_iff_getElem.1 hgm;have hjk:k≠j:=fun e2=>by
   subst e2;refine e ?_;rw [hn,<-hgn,<-hje];unfold fo;rw [qLgx hk];rfl
  unfold setF;exact zmg (i:=j) (by dsimp only;rw [List.getElem?_set_ne hjk,qLgx hj,hje])
theorem zKz {st:State} (hN:z36 st) {k:Nat} {f':Folder} (hk:k < st.folders.length) (hn:f'.name=(fo st k).name):Z8 (setF st k f')=upd (Z8 st) f'.name ((zH f').parent,(zH f').gone):=by
 funext s
 unfold Z8 upd;rw [YT hN hk hn];split<;>rfl
theorem zIi {F:Fs} {s:Nm} {v:Nm×Bool} (h:F s=some v):upd F s v=F:=by
 funext x
 unfold upd;split
 ·rename_i e;rw [e,h]
 rfl
theorem zS3 {st:State} (hN:z36 st) {k:Nat} (hk:k < st.folders.length):Z8 st (fo st k).name=some ((zH (fo st k)).parent,(zH (fo st k)).gone):=zOh hN (yN hk)
theorem VInv.turnF {n:Nat} {st:State} (h:VInv n st) {k:Nat} (hk:k < st.folders.length) {f':Folder} (hn:f'.name=(fo st k).name) (hF:FInv (n+1) (st.users.map User.name) f') (hs:ZW f'<=ZW (fo st k)+3)
  (hI:Inv (upd (Z8 st) f'.name ((zH f').parent,(zH f').gone))) (t:Int) (ht:0<=t/\t<=n+1):VInv (n+1) { setF st k f' with turn:=t } where
 names:=by unfold z36;exact (z9e hk hn).symm▸h.names
 top:=by
  have h1:=YT h.names hk hn Top;have h2:zP { setF st k f' with turn:=t } Top=zP (setF st k f') Top:=rfl;rw [h2,h1,if_neg,h.top];intro e;have:=z1f h.names (yN hk);rw [<-hn,<-e,h.top] at this;cases this
 tree:=by
  have h2:Z8 { setF st k f' with turn:=t }=Z8 (setF st k f'):=rfl;rw [h2,zKz h.names hk hn];exact hI
 fol:=fun f hf=>by
  rcases List.mem_or_eq_of_mem_set hf with hx | rfl
  ·exact (h.fol f hx).mono (by omega) fun x hx=>hx
  ·exact hF
 us20:=h.us20
 u16:=h.u16
 ds20:=h.ds20
 few:=by
  have:=h.few;have h2:(setF st k f').folders.length=st.folders.length:=Y4;dsimp only;have h3:(setF st k f').users=st.users:=rfl;have h4:(setF st k f').deposits=st.deposits:=rfl;rw [h2,h3,h4];omega
 sum:=by
  have h1:st.folders[k]? =some (fo st k):=by unfold fo;rw [qLgx hk];rfl
  have h2:=zIh (f':=f') h1;have h3:=h.sum;show z0x (st.folders.set k f')<=3*(n+1)
  omega
 turn:=ht
section
section
variable {n:Nat} {us:List Nm} {f:Folder}
theorem FInv.give (h:FInv n us f) {name:Nm} (hn:name∈us) (seed:Bool):FInv n us (yO f name seed):=
 ⟨h.nm,h.man,h.ep,z7n _ _ _ h.wr,fun w hw=>(z5h hw).elim (fun e=>by rw [e];exact hn) (h.wn w),h.it,h.mem,h.mn,h.lk,h.ec,h.tn,h.sq,h.pv⟩
theorem FInv.gives (sd:Member->Bool):∀{ms:List Member} {f:Folder},FInv n us f->(∀m∈ms,m.name∈us)->FInv n us (ZZ sd f ms)
 | [],_,h,_=>h
 | m :: r,f,h,hm=>show FInv n us (ZZ sd (yO f m.name (sd m)) r) from FInv.gives sd (h.give (hm m (List.mem_cons_self ..)) _) fun x hx=>hm x (zmc _ hx)
theorem z8i (sd:Member->Bool):∀(ms:List Member) (f:Folder),ZW (ZZ sd f ms)=ZW f
 | [],_=>rfl
 | m :: r,f=>(z8i sd r (yO f m.name (sd m))).trans rfl
theorem YK (h:f.manifests≠[]):zH f∈f.manifests:=by
 unfold zH;rw [List.getLast?_eq_some_getLast h];exact List.getLast_mem h
theorem zIj {st:State} (h:VInv n st) (s:Nm):∀m∈(zH ((zP st s).getD yH)).members,m.name∈st.users.map User.name:=by
 cases hf:zP st s with
 | none=>intro m hm;simp [zH,yH,zE3] at hm
 | some g=>
  have hg:=h.fol g (z08 hf);exact (hg.mn _ (YK hg.man)).2.2
theorem zAi {st:State} (hm:∀s,∀m∈(zH ((zP st s).getD yH)).members,m.name∈us) {m:Nat}:∀(l:List At) {f:Folder},(∀x∈l,x.name.size<=20)->FInv m us f->FInv m us (Y1 st l f)/\ZW (Y1 st l f)<=ZW f+1
 | [],f,_,hf=>⟨hf,by unfold Y1;omega⟩
 | x :: r,f,hl,hf=>by
  unfold Y1;split
  ·obtain ⟨h1,h2⟩:=zAi hm r (fun y hy=>hl y (zmc _ hy)) (hf.gives (fun _=>false) (hm x.name));exact ⟨h1,by rw [z8i] at h2;exact h2⟩
  ·split
   ·exact ⟨hf,by omega⟩
   ·refine ⟨⟨hf.nm,hf.man,hf.ep,hf.wr,hf.wn,hf.it,hf.mem,hf.mn,fun l hl2=>?_,hf.ec,hf.tn,hf.sq,hf.pv⟩,by unfold ZW;simp;omega⟩;rcases zmb hl2 with e | e
    ·exact hf.lk l e
    ·rw [zml e];exact hl x (List.mem_cons_self ..)
theorem zK3 {st:State} (h:VInv n st) {k:Nat} {s:Nm} {x:At} (hx:x∈zN st k s):x.name.size<=20:=by
 obtain ⟨f,hf⟩:=z0d hx;have:=(h.fol f (z08 hf)).nm;rwa [YM hf] at this
theorem FInv.write (h:FInv n us f) {m:Manifest} {who:Nm} (hp:m.parent.size<=20) (hr:Ro.rightOf m.members=true) (hm:∀x∈m.members,x.name∈us) (hv:m.prev=[]):FInv (n+1) us (y9 f m who)/\ZW (y9 f m who)=ZW f+1/\(y9 f m who).name=f.name/\zH (y9 f m who)={ m with seq:=(zH f).seq+1,who:=who }:=by
 have hnow:zH (y9 f m who)={ m with seq:=(zH f).seq+1,who:=who }:=by unfold y9 zH;simp
 refine ⟨⟨h.nm,by unfold y9;simp,h.ep,h.wr,h.wn,fun x hx=>⟨(h.it x hx).1,by have:=(h.it x hx).2.1;omega,(h.it x hx).2.2⟩,by rw [hnow];exact hr,fun y hy=>?_,h.lk,h.ec,?_,?_,fun y hy=>?_⟩,by unfold y9 ZW;simp;omega,rfl,hnow⟩
 ·rcases zmb hy with e | e
  ·exact h.mn y e
  rw [zml e];exact ⟨hp,by have:=((Ro.right_iff _).1 hr).few;show m.members.length<=20;omega,hm⟩
 ·have:=h.tn;show 0<=f.turn+1/\f.turn+1<=((n+1:Nat):Int)
  omega
 ·rw [hnow];have:=h.sq;show 0<=(zH f).seq+1/\(zH f).seq+1<=((n+1:Nat):Int)
  omega
 rcases zmb hy with e | e
 ·exact h.pv y e
 rw [zml e];exact hv
theorem FInv.begins {st:State} (h:FInv n us f) (hc:∀x∈zN st 4 f.name,x.name.size<=20) (who:Nm) (sd:Member->Bool):FInv n us (ZZ sd { f with epochs:=f.epochs++[z2b st f who] } (zH f).members)/\ZW (ZZ sd { f with epochs:=f.epochs++[z2b st f who] } (zH f).members)=ZW f+1:=by
 have h1:FInv n us { f with epochs:=f.epochs++[z2b st f who] }:=⟨h.nm,h.man,by simp,h.wr,h.wn,h.it,h.mem,h.mn,h.lk,fun e he=>by
  rcases zmb he with e2 | e2
  ·exact h.ec e e2
  ·rw [zml e2];have hch:(z2b st f who).chain=zN st 4 f.name:=by unfold z2b;split<;>rfl
   rw [hch];exact ⟨by have:=z1k st 4 f.name;omega,hc⟩,h.tn,h.sq,h.pv⟩
 exact ⟨h1.gives sd (h.mn _ (YK h.man)).2.2,by rw [z8i];unfold ZW;simp;omega⟩
theorem FInv.addV (h:FInv n us f) {j:Nat} {x:Item} (hx:f.items[j]? =some x) (v:Version):FInv (n+1) us { f with items:=f.items.set j { x with versions:=x.versions++[v] },turn:=f.turn+1 }:=
 ⟨h.nm,h.man,h.ep,h.wr,h.wn,fun y hy=>by
  rcases List.mem_or_eq_of_mem_set hy with e | rfl
  ·exact ⟨(h.it y e).1,by have:=(h.it y e).2.1;omega,(h.it y e).2.2⟩
  ·have:=h.it x (zmg hx);exact ⟨by simp,by simp;omega,this.2.2⟩,h.mem,h.mn,h.lk,h.ec,by
  have:=h.tn;show 0<=f.turn+1/\f.turn+1<=((n+1:Nat):Int)
  omega,by
  have:=h.sq;show 0<=(zH f).seq/\(zH f).seq<=((n+1:Nat):Int)
  omega,h.pv⟩
theorem FInv.addN (h:FInv n us f) {name:Nm} (hn:name.size<=20) (v:Version):FInv (n+1) us { f with items:=f.items++[⟨name,[v]⟩],turn:=f.turn+1 }:=
 ⟨h.nm,h.man,h.ep,h.wr,h.wn,fun y hy=>by
  rcases zmb hy with e | e
  ·exact ⟨(h.it y e).1,by have:=(h.it y e).2.1;omega,(h.it y e).2.2⟩
  ·rw [zml e];exact ⟨by simp,by simp,hn⟩,h.mem,h.mn,h.lk,h.ec,by
  have:=h.tn;show 0<=f.turn+1/\f.turn+1<=((n+1:Nat):Int)
  omega,by
  have:=h.sq;show 0<=(zH f).seq/\(zH f).seq<=((n+1:Nat):Int)
  omega,h.pv⟩
end
end
section
open Go.RowKit Go.Deep
section
variable {X:Nat->Prop} {base bw:Nat} {W:World} {R:RM} {c:Call} {dv:Value} {st:State} {done late:Bool}
def yD (e n:Int):Array Value:=#[.int .i64 e,.int .i64 n,.string ⟨#[]⟩,.slice none 0 0,.slice none 0 0,.slice none 0 0,.slice none 0 0]
theorem z33 (h:WK X base bw W R c dv st done late) (n:Int):Calls Tryz.prog 126 #[.pointer (some ⟨bw,0,none⟩),.int .i64 n] W fun e w'=>
  e= .returned (.agg (yD 0 n))/\WK X base bw w' R c dv st true late/\Mut bw R W R w':=by
 have hlt:=h.lt;have s12:=h.cells.1 12 _ rfl;have fz:=h.cells.2;have HW:=zh h;clear h;go_enter Tryz.func126,Tryz.ntmps126
 go_wp2;try simp only [Exit.inBlock,Exit.then]
 refine bodyPost_ret (results_cell_row rfl _ _ W.heap.size 49 _ (0,0) _ rfl (zJ _ (World.size_setCell _ _ _).symm) Tryz.underlying49 rfl (by kernel_rfl)) rfl ?_;obtain ⟨h1,h2⟩:=HW.out.setDone true;exact ⟨rfl,h1.below (Below.alloc zbr (znl _) _),h2.trans (Mut.below (Below.alloc zbr (znl _) _))⟩
theorem ZK (n:Int) (w:World):Calls Tryz.prog 32 #[.int .i64 n] w fun e w'=>e= .returned (.agg (yD n 0))/\Below w.heap.size w w':=by
 go_enter Tryz.func32,Tryz.ntmps32
 go_wp2;try simp only [Exit.inBlock,Exit.then]
 refine bodyPost_ret (results_cell_row rfl _ _ w.heap.size 49 _ (0,0) _ rfl (zJ _ rfl) Tryz.underlying49 rfl (by kernel_rfl)) rfl ?_;exact ⟨rfl,by go_grown⟩
theorem z2z (h:WK X base bw W R c dv st done late) {k g o:Nat} (hk:k < st.folders.length) (ha:foAt R k g o):Calls Tryz.prog 158 #[.pointer (some ⟨g,o,none⟩)] W fun e w'=>
  e= .returned (.int .i64 (fo st k).epochs.length)/\w'=W:=by
 obtain ⟨_,_,_,_,_,_,_,_,_,_,_,hF,_,_,_,_,_,_,_,_,_⟩:=h.fold (ZO hk) ha;clear h hF ha;go_enter Tryz.func158,Tryz.ntmps158
 go_wp2;go_ret;exact ⟨rfl,rfl⟩
theorem z81 (h:WK X base bw W R c dv st done late) {k g o:Nat} (hk:k < st.folders.length) (ha:foAt R k g o) (s:Nm):Calls Tryz.prog 143 #[.pointer (some ⟨g,o,none⟩),.string s] W fun e w'=>
  e= .returned (.int .i64 (iOf (z01 (fo st k) s)))/\Below W.heap.size W w':=by
 obtain ⟨_,_,_,_,A4,c4,_,_,_,_,_,hF,u0,u1,u2,u3,u4,u5,u6,hg,_⟩:=h.fold (ZO hk) ha;obtain ⟨w0,_,cw0,fw0,Bw0,_⟩:=zQ W #[.string s] 9;obtain ⟨_,_,B3,_,_,_,_,_,_,_,e,_,_,_,_,_,x_manifests_s,_,_,_,x_epochs_s,x_items_l,x_items_m,x_items_n,x_items_s,_⟩:=Z2 hF;simp only [List.cons.injEq,Value.slice.injEq,and_true,true_and] at e;obtain ⟨⟨rfl,rfl⟩,⟨rfl,rfl⟩,⟨rfl,rfl⟩,⟨rfl,rfl⟩,⟨rfl,rfl⟩⟩:=e;have hSl:Sl 2 YB (fun _=>True) W (.slice A4 (fo st k).items.length c4) (fo st k).items:=⟨_,_,rfl,x_items_l,x_items_m,x_items_n,x_items_s⟩;have HI:=zh (zLz s W.heap.size (fo st k).items _ w0 _ (hSl.keep z3p (by decide) (zK Bw0)) (cw0 0 _ rfl));have s4:=(Bw0.cell (p:=⟨g,o+4,none⟩) hg).trans u4;have HB:=zh Bw0;clear h hF ha cw0 fw0 Bw0 hSl x_items_s x_manifests_s x_epochs_s u0 u1 u2 u3 u4 u5 u6;go_enter Tryz.func143,Tryz.ntmps143
 go_wp2_with fail
 refine zcm HI.out ?_;rintro e _ ⟨rfl,B3⟩;go_wp2;go_ret;exact ⟨rfl,zB HB.out B3⟩
theorem zAc (x:Item) (hx:0 < x.versions.length) (cs:List Value) (w:World) (S:Nat->Prop) (h:YB S w cs x):Calls Tryz.prog 136 #[.agg cs.toArray] w fun e w'=>
  e= .returned (.bool (z09 x))/\Below w.heap.size w w':=by
 obtain ⟨x_A1,x_c1,rfl,_,_,_,_,x_versions_s⟩:=z4h h;obtain ⟨n,hn⟩:∃n,x.versions.length=n+1:=⟨x.versions.length - 1,by omega⟩;obtain ⟨_,hw0,cw0,fw0,Bw0,_⟩:=zQ w #[.string x.name,.slice x_A1 x.versions.length x_c1] 78;obtain ⟨y,_,_,_,_,y_k,y_d,_,rfl,_,_,_,_,_,_,y_R,y_rest⟩:=z8d x_versions_s (show n < x.versions.length by omega) (zK Bw0);have HE:=zh (show z09 x=!y.gone by
  unfold z09;rw [List.getLast?_eq_getElem?,hn,show n+1 - 1=n from rfl,y_k])
 have w0_1:=cw0 1 _ rfl;rw [hn] at w0_1 hw0;have HB:=zh Bw0;clear x_versions_s cw0 fw0 Bw0 y_k y_d y_R y_rest h;go_enter Tryz.func136,Tryz.ntmps136
 go_wp2;go_ret;exact ⟨ZM HE.out.symm,HB.out⟩
end
end
end Go.Proofs.YtdggplhnfhcieaaGreatDoor
