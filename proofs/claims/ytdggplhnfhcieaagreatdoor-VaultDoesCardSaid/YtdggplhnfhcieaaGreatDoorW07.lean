/- No condition. -/
import Derived.Test.YtdggplhnfhcieaaGreatDoorW05
set_option linter.all false
set_option maxRecDepth 100000
set_option maxHeartbeats 16000000
namespace Go.Proofs.YtdggplhnfhcieaaGreatDoor
open Go.Proofs.Tryz Cd Ce List
variable {D:DataW Unit} {E:List (GN×GN)} {adj:List (List Nat)} {b m:Nat} {ns:List GN} {w:World} {x:GN}
section
open Go.RowKit Go.Deep Go.Maps
theorem y8 {n:Nat} {w w':World} (h:Below n w w'):∀q,Below n w (w'.drewN q)
 | 0=>h
 | q+1=>(y8 h q).drew
def neN (f:Bool) (s:Nm) (n:Int) (f':Bool) (c:Nm) (a:Int):Bool:=!(f==f'&&(s.toList==c.toList&&n==a))
theorem zJv (w:World) (f:Bool) (s:Nm) (n:Int) (f':Bool) (c:Nm) (a:Int):(binOp .neq 244 (.agg #[f,s,n]) (.agg #[f',c,a])).run prog w= .ok (neN f s n f' c a) w:=by
 have h:prog.stoodInHeld 244=false:=kr
 have l:=underlying244;have i:=underlying4;have j:=underlying9;have k:=underlying3;go_simp;unfold neN;by_cases d:f=f'<;>by_cases e:s.toList=c.toList<;>by_cases g:n=a<;>simp[d,e,g]
theorem z8n {W:World} {n:Nat} {c:Int} {g:Bool} (A:w.ownsMap prog 244 (plainElem prog 3) b n D) (k:Idx D ns) (p:OkG x) (v:Look ns x c g) (y:W.heap=w.heap):
  (Instr.lookup 280 (.map (some b)) (vG x) true).run prog W= .ok (.tuple #[c,g]) W:=by
 have B:W.ownsMap prog 244 (plainElem prog 3) b n D:=by
  obtain⟨t,r,e,u⟩:=A;exact⟨t,r,by rw[y];exact e,u⟩
 obtain⟨_,_,C,F⟩:=B.look_ok keyNode underlying280 (z6d W) (plainElem_int underlying3 dc) (zEv p);obtain⟨j,rfl,z,_⟩:=plainElem_int_inv underlying3 F;rw[C];have a:D.atKey (kG x) (.lit (.int .i64 0))= .lit (.int .i64 j):=congrArg Prod.fst z;have e:=k.look p a;rcases v with ⟨rfl,i,l,rfl⟩|⟨rfl,h,rfl⟩
 ·rcases e with ⟨d,q,o,rfl⟩|⟨_,h⟩
  ·have s:D.atKey (kG x) (.lit (.int .i64 0))= .lit (.int .i64 i):=k.val i x l _;rw[s] at a;have f:(i:Int)=(q:Int):=by simpa using a
   rw[d,f]
  exact absurd (zmg l) h
 rcases e with ⟨_,q,o,rfl⟩|⟨d,_⟩
 ·exact absurd (zmg o) h
 rw[atKey_of_not_has d] at a;have f:(0:Int)=j:=by simpa using a
 rw[d,<-f]
theorem zPr {t b e:Nat} {P Q:Value} {R:List Value} {ns:List GN} {adj:List (List Nat)} {D:DataW Unit} (h:GS w t b e P Q R ns adj D) (hl:adj=ns.length) (x y:GN) (hx:OkG x) (hy:OkG y):Calls prog 242 #[pT t,vG x,vG y] w λe w'=>(∃n:Int,e= .returned (.int .i64 n)/\0<=n/\n<=2)/\bW w w':=by
 obtain⟨F,d,u,I,p,ag⟩:=zP w #[x.1,x.2.1,x.2.2] 244;obtain⟨a,f,v,J,q,_⟩:=zP F #[y.1,y.2.1,y.2.2] 244;have j:=p.trans (q.mono p.size);have c:=h.below hl j;obtain⟨z,_⟩:=zB c.cell;have Y:=z 0 _ rfl;obtain⟨_,K,r⟩:=z5c ns x;obtain⟨_,L,s⟩:=z5c ns y;have g:=λ(k:World) (l:k.heap=a.heap)=>z8n c.own c.idx hx r l
 have i:=λ(k:World) (l:k.heap=a.heap)=>z8n c.own c.idx hy s l
 have B:=zh d;have C:=zh f;have A:=zh j;clear z h c hl r s hx hy d f j;obtain⟨G,N,n⟩:=x;obtain⟨H,O,M⟩:=y;simp only[vG] at g i⊢;obtain⟨S,T,U⟩:=TC3 (zyA q u);obtain⟨V,W,X⟩:=TC3 v;dsimp only at S T U V W X;have ac:=g a rfl;have ae:=i a rfl;have ad:=λo=>g (a.drewN o) rfl
 have af:=λo=>i (a.drewN o) rfl
 clear g i u v I J;have ab:=zJv;have Z:prog.eqGuardType prog.depth 244=false:=kr
 cases aa:neN H O M G N n<;>cases K<;>cases L<;>
 ·go_enter func242,ntmps242
  have d:=B.o;have f:=C.o;dsimp only at d f;go_wp2_with fail
  go_quiet (fail)
  go_wp2_with fail
  go_quiet (fail)
  go_wp2;go_ret;exact⟨⟨_,rfl,dc,dc⟩,y8 A _⟩
theorem zUl {m:Nat} {ns:List GN} {adj:List (List Nat)} (h:GRep E m ns adj) {y:GN} {i j:Nat} {l:List Nat} (hi:ns[i]? =some x) (hj:ns[j]? =some y) (hl:adj[i]? =some l):zGv l j=true↔(x,y)∈E:=by
 rw[zEw,h.edge];constructor
 ·exact λf=>⟨i,j,l,hi,hj,hl,f⟩
 rintro⟨_,_,_,a,c,d,e⟩;obtain rfl:=zEu h.nodup a hi;obtain rfl:=zEu h.nodup c hj;obtain rfl:=zsi (d.symm.trans hl);exact e
theorem zMo {m:Nat} {ns:List GN} {adj:List (List Nat)} (h:GRep E m ns adj) {y:GN} (hn:x∉ns\/y∉ns):(x,y)∉E:=by
 rw[h.edge];rintro⟨_,_,_,a,c,_,_⟩;rcases hn with hn|hn
 ·exact hn (zmg a)
 exact hn (zmg c)
theorem mb3 {p:Prop} (h:p:=by
 rcases HL with ⟨_,h⟩|⟨h,_⟩
 ·exact h
 ·cases h):p:=h
theorem zUm {E:List (GN×GN)} {m:Nat} {w:World} {t b e:Nat} {vn vo:Value} {vs:List Value} {ns:List GN} {adj:List (List Nat)} {D:DataW Unit} (hE:GSE E m w t b e vn vo vs ns adj D) (hm:m<=9000) (x y:GN) (hx:OkG x) (hy:OkG y):Calls Tryz.prog 241 #[.pointer (some ⟨t,0,none⟩),vG x,vG y] w fun e w'=>(∃r:Bool,e= .returned (.bool r)/\(r=true↔(x,y)∈E))/\Below w.heap.size w w':=by
 obtain ⟨W1,hW1,b1,f1,B1,q1⟩:=zP w #[.bool x.1,.string x.2.1,.int .i64 x.2.2] 244;obtain ⟨W2,hW2,b2,f2,B2,_⟩:=zP W1 #[.bool y.1,.string y.2.1,.int .i64 y.2.2] 244;have B12:=B1.trans (B2.mono B1.size);have h2:=hE.gs.below hE.rep.len B12;have HR:=zh hE.rep;obtain ⟨cb,_⟩:=zB h2.cell;have c0:=cb 0 _ rfl;have c2:=cb 2 _ rfl;obtain ⟨c,g,L⟩:=z5c ns x;obtain ⟨c',g',L'⟩:=z5c ns y;have k1:=fun (W:World) (hW:W.heap=W2.heap)=>z8n h2.own h2.idx hx L hW
 have k2:=fun (W:World) (hW:W.heap=W2.heap)=>z8n h2.own h2.idx hy L' hW
 have HW1:=zh hW1;have HW2:=zh hW2;have HB:=zh B12;have H2:=zh h2;have HL:=zh L;have HL':=zh L';clear cb hE h2 L L' hx hy hW1 hW2 B12;obtain ⟨f,s,n⟩:=x;obtain ⟨f',s',n'⟩:=y;simp only [vG] at k1 k2⊢;have x0:=(B2.cell (p:=⟨w.heap.size,0,none⟩) q1).trans (b1 0 _ rfl);have x1:=(B2.cell (p:=⟨w.heap.size,1,none⟩) q1).trans (b1 1 _ rfl);have x2:=(B2.cell (p:=⟨w.heap.size,2,none⟩) q1).trans (b1 2 _ rfl);have y0:=b2 0 _ rfl;have y1:=b2 1 _ rfl;have y2:=b2 2 _ rfl;dsimp only at x0 x1 x2 y0 y1 y2;have k10:=k1 W2 rfl;have k20:=k2 W2 rfl;have k11:=fun q=>k1 (W2.drewN q) rfl
 have k21:=fun q=>k2 (W2.drewN q) rfl
 clear k1 k2 b1 b2 f1 f2;by_cases hg:g=true/\g'=true
 rotate_left
 ·have HN:=zh (zMo (x:=(f,s,n)) (y:=(f',s',n')) HR.out (by
   by_cases h1:(f,s,n)∈ns
   ·right;intro h2;exact hg ⟨HL.out.mem.2 h1,HL'.out.mem.2 h2⟩
   ·exact .inl h1))
  cases g<;>cases g'
  rotate_right
  ·exact absurd ⟨rfl,rfl⟩ hg
  all_goals
   clear hg;go_enter Tryz.func241,Tryz.ntmps241
   have hW1:=HW1.out;have hW2:=HW2.out;dsimp only at hW1 hW2;go_wp2_with fail
   go_quiet (fail)
   go_wp2_with fail
   go_quiet (fail)
   go_wp2;go_ret;exact ⟨⟨_,rfl,by simp;exact HN.out⟩,y8 HB.out _⟩
 obtain ⟨rfl,rfl⟩:=hg;obtain ⟨i,hi,rfl⟩:∃i:Nat,ns[i]? =some (f,s,n)/\c=i:=by
  rcases HL.out with ⟨_,h⟩ | ⟨h,_⟩
  ·exact h
  ·cases h
 obtain ⟨j,hj,rfl⟩:∃i:Nat,ns[i]? =some (f',s',n')/\c'=i:=by
  rcases HL'.out with ⟨_,h⟩ | ⟨h,_⟩
  ·exact h
  ·cases h
 have hil:=(zge hi).1;obtain ⟨l,hl⟩:∃l,adj[i]? =some l:=⟨_,qLgx (by rw [HR.out.len];exact hil)⟩;obtain ⟨v,hv⟩:∃v,vs[i]? =some v:=⟨_,qLgx (by rw [H2.out.lenv];exact hil)⟩;obtain ⟨_,_,_,rfl,-,hcm,-,hc,-⟩:=H2.out.out.at (i:=i) (x:=[v]) (by rw [List.getElem?_map,hv];rfl);have z0:=hc 0 _ rfl;rw [Nat.mul_one,Nat.add_zero] at z0;rw [qLmx,H2.out.lenv] at c2;have hil2:(i:Int) < (ns.length:Int):=by omega
 have hns:ns.length<=9000:=qNtx HR.out.small hm;have HD:=zh (zUl HR.out hi hj hl);have hrow:=H2.out.row i v l hv hl;have HC:=zh (fun q=>zIw l v j (W2.drewN q) (hrow.keep fun _ _=>rfl) (by have:=HR.out.deg i l hl;omega));clear hc hi hj hl hv hrow hcm;go_enter Tryz.func241,Tryz.ntmps241
 have hW1:=HW1.out;have hW2:=HW2.out;dsimp only at hW1 hW2;go_wp2_with fail
 go_quiet (fail)
 go_wp2_with fail
 go_quiet (fail)
 go_wp2_with (go_at_call 246;refine zcm (HC.out _) ?_;rintro e _ ⟨rfl,rfl⟩)
 go_ret;exact ⟨⟨_,rfl,HD.out⟩,y8 HB.out _⟩
end
end Go.Proofs.YtdggplhnfhcieaaGreatDoor
