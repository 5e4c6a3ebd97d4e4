/- No condition. -/
import Derived.Test.YtdggplhnfhcieaaGreatDoorX04
set_option linter.all false
set_option maxRecDepth 100000
set_option maxHeartbeats 16000000
namespace Go.Proofs.YtdggplhnfhcieaaGreatDoor
section
open Go.RowKit Go.Deep Go.Maps
theorem ZN {n:Nat} {w w':World} (h:Below n w w'):∀q,Below n w (w'.drewN q)
 | 0=>h
 | q+1=>(ZN h q).drew
def neN (f:Bool) (s:Nm) (n:Int) (f':Bool) (s':Nm) (n':Int):Bool:=!(f==f' && (s.toList==s'.toList && n==n'))
theorem zHz (w:World) (f:Bool) (s:Nm) (n:Int) (f':Bool) (s':Nm) (n':Int):(binOp .neq 244 (.agg #[.bool f,.string s,.int .i64 n]) (.agg #[.bool f',.string s',.int .i64 n'])).run Tryz.prog w= .ok (.bool (neN f s n f' s' n')) w:=by
 have sh:Tryz.prog.stoodInHeld 244=false:=by kernel_rfl
 have uf:=Tryz.underlying244;have u1:=Tryz.underlying4;have u2:=Tryz.underlying9;have u3:=Tryz.underlying3;go_simp;unfold neN;by_cases e1:f=f'<;>by_cases e2:s.toList=s'.toList<;>by_cases e3:n=n'<;>simp [e1,e2,e3]
theorem z7a {w W:World} {b n:Nat} {D:DataW Unit} {ns:List GN} {x:GN} {c:Int} {g:Bool} (hown:w.ownsMap Tryz.prog 244 (plainElem Tryz.prog 3) b n D) (hI:Idx D ns) (hok:OkG x) (hL:Look ns x c g) (hW:W.heap=w.heap):
  (Instr.lookup 280 (.map (some b)) (vG x) true).run Tryz.prog W= .ok (.tuple #[.int .i64 c,.bool g]) W:=by
 have hown':W.ownsMap Tryz.prog 244 (plainElem Tryz.prog 3) b n D:=by
  obtain ⟨es,clock,h1,h2⟩:=hown;exact ⟨es,clock,by rw [hW];exact h1,h2⟩
 obtain ⟨_,_,hrun,hv⟩:=hown'.look_ok keyNode Tryz.underlying280 (z5f W) (plainElem_int Tryz.underlying3 (by decide)) (zDa hok);obtain ⟨c',rfl,hc,_⟩:=plainElem_int_inv Tryz.underlying3 hv;rw [hrun];have hc':D.atKey (kG x) (.lit (.int .i64 0))= .lit (.int .i64 c'):=congrArg Prod.fst hc;have h1:=hI.look hok hc';rcases hL with ⟨rfl,i,hi,rfl⟩ | ⟨rfl,hn,rfl⟩
 ·rcases h1 with ⟨e1,j,hj,rfl⟩ | ⟨_,hn⟩
  ·have e2:D.atKey (kG x) (.lit (.int .i64 0))= .lit (.int .i64 i):=hI.val i x hi _;rw [e2] at hc';have e3:(i:Int)=(j:Int):=by simpa using hc'
   rw [e1,e3]
  exact absurd (zmg hi) hn
 rcases h1 with ⟨_,j,hj,rfl⟩ | ⟨e1,_⟩
 ·exact absurd (zmg hj) hn
 rw [atKey_of_not_has e1] at hc';have e3:(0:Int)=c':=by simpa using hc'
 rw [e1,<-e3]
theorem zNx {w:World} {t b e:Nat} {vn vo:Value} {vs:List Value} {ns:List GN} {adj:List (List Nat)} {D:DataW Unit} (h:GS w t b e vn vo vs ns adj D) (hl:adj.length=ns.length) (x y:GN) (hx:OkG x) (hy:OkG y):Calls Tryz.prog 242 #[.pointer (some ⟨t,0,none⟩),vG x,vG y] w fun e w'=>(∃n:Int,e= .returned (.int .i64 n)/\0<=n/\n<=2)/\Below w.heap.size w w':=by
 obtain ⟨W1,hW1,b1,f1,B1,q1⟩:=zQ w #[.bool x.1,.string x.2.1,.int .i64 x.2.2] 244;obtain ⟨W2,hW2,b2,f2,B2,_⟩:=zQ W1 #[.bool y.1,.string y.2.1,.int .i64 y.2.2] 244;have B12:=B1.trans (B2.mono B1.size);have h2:=h.below hl B12;obtain ⟨cb,_⟩:=zD h2.cell;have c0:=cb 0 _ rfl;obtain ⟨_,g,L⟩:=z4j ns x;obtain ⟨_,g',L'⟩:=z4j ns y;have k1:=fun (W:World) (hW:W.heap=W2.heap)=>z7a h2.own h2.idx hx L hW
 have k2:=fun (W:World) (hW:W.heap=W2.heap)=>z7a h2.own h2.idx hy L' hW
 have HW1:=zh hW1;have HW2:=zh hW2;have HB:=zh B12;clear cb h h2 hl L L' hx hy hW1 hW2 B12;obtain ⟨f,s,n⟩:=x;obtain ⟨f',s',n'⟩:=y;simp only [vG] at k1 k2⊢;have x0:=(B2.cell (p:=⟨w.heap.size,0,none⟩) q1).trans (b1 0 _ rfl);have x1:=(B2.cell (p:=⟨w.heap.size,1,none⟩) q1).trans (b1 1 _ rfl);have x2:=(B2.cell (p:=⟨w.heap.size,2,none⟩) q1).trans (b1 2 _ rfl);have y0:=b2 0 _ rfl;have y1:=b2 1 _ rfl;have y2:=b2 2 _ rfl;dsimp only at x0 x1 x2 y0 y1 y2;have k10:=k1 W2 rfl;have k20:=k2 W2 rfl;have k11:=fun q=>k1 (W2.drewN q) rfl
 have k21:=fun q=>k2 (W2.drewN q) rfl
 clear k1 k2 b1 b2 f1 f2;have hq:=zHz;have eg:Tryz.prog.eqGuardType Tryz.prog.depth 244=false:=by kernel_rfl
 cases hne:neN f' s' n' f s n<;>cases g<;>cases g'<;>
 ·go_enter Tryz.func242,Tryz.ntmps242
  have hW1:=HW1.out;have hW2:=HW2.out;dsimp only at hW1 hW2;go_wp2_with fail
  go_quiet (fail)
  go_wp2_with fail
  go_quiet (fail)
  go_wp2;go_ret;exact ⟨⟨_,rfl,by decide,by decide⟩,ZN HB.out _⟩
theorem zSh {E:List (GN×GN)} {m:Nat} {ns:List GN} {adj:List (List Nat)} (h:GRep E m ns adj) {x y:GN} {i j:Nat} {l:List Nat} (hi:ns[i]? =some x) (hj:ns[j]? =some y) (hl:adj[i]? =some l):zFa l j=true↔(x,y)∈E:=by
 rw [zDb,h.edge];constructor
 ·exact fun hm=>⟨i,j,l,hi,hj,hl,hm⟩
 rintro ⟨_,_,_,h1,h2,h3,h4⟩;obtain rfl:=zD9 h.nodup h1 hi;obtain rfl:=zD9 h.nodup h2 hj;obtain rfl:=zsi (h3.symm.trans hl);exact h4
theorem zKq {E:List (GN×GN)} {m:Nat} {ns:List GN} {adj:List (List Nat)} (h:GRep E m ns adj) {x y:GN} (hn:x∉ns\/y∉ns):(x,y)∉E:=by
 rw [h.edge];rintro ⟨_,_,_,h1,h2,_,_⟩;rcases hn with hn | hn
 ·exact hn (zmg h1)
 exact hn (zmg h2)
theorem zSi {E:List (GN×GN)} {m:Nat} {w:World} {t b e:Nat} {vn vo:Value} {vs:List Value} {ns:List GN} {adj:List (List Nat)} {D:DataW Unit} (hE:GSE E m w t b e vn vo vs ns adj D) (hm:m<=9000) (x y:GN) (hx:OkG x) (hy:OkG y):Calls Tryz.prog 241 #[.pointer (some ⟨t,0,none⟩),vG x,vG y] w fun e w'=>(∃r:Bool,e= .returned (.bool r)/\(r=true↔(x,y)∈E))/\Below w.heap.size w w':=by
 obtain ⟨W1,hW1,b1,f1,B1,q1⟩:=zQ w #[.bool x.1,.string x.2.1,.int .i64 x.2.2] 244;obtain ⟨W2,hW2,b2,f2,B2,_⟩:=zQ W1 #[.bool y.1,.string y.2.1,.int .i64 y.2.2] 244;have B12:=B1.trans (B2.mono B1.size);have h2:=hE.gs.below hE.rep.len B12;have HR:=zh hE.rep;obtain ⟨cb,_⟩:=zD h2.cell;have c0:=cb 0 _ rfl;have c2:=cb 2 _ rfl;obtain ⟨c,g,L⟩:=z4j ns x;obtain ⟨c',g',L'⟩:=z4j ns y;have k1:=fun (W:World) (hW:W.heap=W2.heap)=>z7a h2.own h2.idx hx L hW
 have k2:=fun (W:World) (hW:W.heap=W2.heap)=>z7a h2.own h2.idx hy L' hW
 have HW1:=zh hW1;have HW2:=zh hW2;have HB:=zh B12;have H2:=zh h2;have HL:=zh L;have HL':=zh L';clear cb hE h2 L L' hx hy hW1 hW2 B12;obtain ⟨f,s,n⟩:=x;obtain ⟨f',s',n'⟩:=y;simp only [vG] at k1 k2⊢;have x0:=(B2.cell (p:=⟨w.heap.size,0,none⟩) q1).trans (b1 0 _ rfl);have x1:=(B2.cell (p:=⟨w.heap.size,1,none⟩) q1).trans (b1 1 _ rfl);have x2:=(B2.cell (p:=⟨w.heap.size,2,none⟩) q1).trans (b1 2 _ rfl);have y0:=b2 0 _ rfl;have y1:=b2 1 _ rfl;have y2:=b2 2 _ rfl;dsimp only at x0 x1 x2 y0 y1 y2;have k10:=k1 W2 rfl;have k20:=k2 W2 rfl;have k11:=fun q=>k1 (W2.drewN q) rfl
 have k21:=fun q=>k2 (W2.drewN q) rfl
 clear k1 k2 b1 b2 f1 f2;by_cases hg:g=true/\g'=true
 rotate_left
 ·have HN:=zh (zKq (x:=(f,s,n)) (y:=(f',s',n')) HR.out (by
   by_cases h1:(f,s,n)∈ns
   ·right;intro h2;exact hg ⟨HL.out.mem.2 h1,HL'.out.mem.2 h2⟩
   ·exact .inl h1))
  cases g<;>cases g'
  rotate_right
  ·exact absurd ⟨rfl,rfl⟩ hg
  all_goals
   clear hg;go_enter Tryz.func241,Tryz.ntmps241
   have hW1:=HW1.out;have hW2:=HW2.out;dsimp only at hW1 hW2;go_wp2_with fail
   go_quiet (fail)
   go_wp2_with fail
   go_quiet (fail)
   go_wp2;go_ret;exact ⟨⟨_,rfl,by simp;exact HN.out⟩,ZN HB.out _⟩
 obtain ⟨rfl,rfl⟩:=hg;obtain ⟨i,hi,rfl⟩:∃i:Nat,ns[i]? =some (f,s,n)/\c=i:=by
  rcases HL.out with ⟨_,h⟩ | ⟨h,_⟩
  ·exact h
  ·cases h
 obtain ⟨j,hj,rfl⟩:∃i:Nat,ns[i]? =some (f',s',n')/\c'=i:=by
  rcases HL'.out with ⟨_,h⟩ | ⟨h,_⟩
  ·exact h
  ·cases h
 have hil:=(zge hi).1;obtain ⟨l,hl⟩:∃l,adj[i]? =some l:=⟨_,qLgx (by rw [HR.out.len];exact hil)⟩;obtain ⟨v,hv⟩:∃v,vs[i]? =some v:=⟨_,qLgx (by rw [H2.out.lenv];exact hil)⟩;obtain ⟨_,_,_,rfl,-,hcm,-,hc,-⟩:=H2.out.out.at (i:=i) (x:=[v]) (by rw [List.getElem?_map,hv];rfl);have z0:=hc 0 _ rfl;rw [Nat.mul_one,Nat.add_zero] at z0;rw [qLmx,H2.out.lenv] at c2;have hil2:(i:Int) < (ns.length:Int):=by omega
 have hns:ns.length<=9000:=qNtx HR.out.small hm;have HD:=zh (zSh HR.out hi hj hl);have hrow:=H2.out.row i v l hv hl;have HC:=zh (fun q=>zH8 l v j (W2.drewN q) (hrow.keep fun _ _=>rfl) (by have:=HR.out.deg i l hl;omega));clear hc hi hj hl hv hrow hcm;go_enter Tryz.func241,Tryz.ntmps241
 have hW1:=HW1.out;have hW2:=HW2.out;dsimp only at hW1 hW2;go_wp2_with fail
 go_quiet (fail)
 go_wp2_with fail
 go_quiet (fail)
 go_wp2_with (go_at_call 246;refine zcm (HC.out _) ?_;rintro e _ ⟨rfl,rfl⟩)
 go_ret;exact ⟨⟨_,rfl,HD.out⟩,ZN HB.out _⟩
end
end Go.Proofs.YtdggplhnfhcieaaGreatDoor
