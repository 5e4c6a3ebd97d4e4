/- No condition. -/
import Derived.Laws.Cover3
import Derived.Test.YtdggplhnfhcieaaGreatDoorW03
set_option linter.all false
set_option maxRecDepth 100000
namespace Go.Proofs.YtdggplhnfhcieaaGreatDoor
open Go.Proofs.Tryz Cd Ce List
variable {w:World} {x:Nat}
section
open Go.RowKit Go.Deep Go.Maps
def Look (ns:List GN) (x:GN) (c:Int) (g:Bool):Prop:=(g=true/\∃i:Nat,ns[i]? =some x/\c=i)\/(g=false/\x∉ns/\c=0)
theorem z5c (ns:List GN) (x:GN):∃c g,Look ns x c g:=by
 by_cases d:x∈ns
 ·obtain⟨f,h⟩:=getElem?_of_mem d;exact⟨f,true,.inl ⟨rfl,f,h,rfl⟩⟩
 exact⟨0,false,.inr ⟨rfl,d,rfl⟩⟩
theorem Look.mem {ns:List GN} {x:GN} {c:Int} {g:Bool} (h:Look ns x c g):g=true↔x∈ns:=by
 rcases h with ⟨rfl,i,f,_⟩|⟨rfl,h,_⟩
 ·exact⟨λ_=>zmg f,λ_=>rfl⟩
 exact⟨λh=>(by cases h),λd=>absurd d h⟩
section
variable {w:World} {ops:Array Oper} {rest:List Oper} {o:Oper} {a:Act} {Q:Exit->Act->World->Prop}
theorem zAj (w:World) (hg:o.guard=none) (m k:Operand) (B:o.op=Op.lookup 280 m k true) (b n:Nat) (D:DataW Unit) (ns:List GN) (x:GN) (c:Int) (g:Bool)
  (hm:a.eval m= .map (some b)) (C:w.ownsMap prog 244 (plainElem prog 3) b n D) (p:Idx D ns) (hx:a.eval k=vG x) (u:OkG x) (A:Look ns x c g)
  (q:wpList prog ops Q rest (a.put o.dst (.tuple #[c,g])) w):wpList prog ops Q (o::rest) a w:=by
 refine wpList_lookup_own_ok_int w hg m k _ B 244 3 .i64 keyNode underlying280 underlying3 (z6d w) b n D hm C _ _ hx (zEv u) λy d _=>?_
 have l:=p.look u d;rcases A with ⟨rfl,j,r,rfl⟩|⟨rfl,i,rfl⟩
 ·rcases l with ⟨f,v,s,rfl⟩|⟨_,i⟩
  ·have z:D.atKey (kG x) (.lit (.int .i64 0))= .lit (.int .i64 j):=p.val j x r _;rw[z] at d;have h:(j:Int)=(v:Int):=by simpa using d
   rw[f,<-h];exact q
  exact absurd (zmg r) i
 rcases l with ⟨_,v,s,rfl⟩|⟨f,_⟩
 ·exact absurd (zmg s) i
 rw[atKey_of_not_has f] at d;have h:(0:Int)=y:=by simpa using d
 rw[f,<-h];exact q
end
def cI (j:Nat):List Value:=[.int .i64 j]
structure GS (w:World) (t b e:Nat) (vn vo:Value) (vs:List Value) (ns:List GN) (adj:List (List Nat)) (D:DataW Unit):Prop where
 cell:w.heap[t]? =some (.cells #[.map (some b),vn,vo,.int .i64 e] 283 (0,0))
 own:w.ownsMap prog 244 (plainElem prog 3) b ns D
 idx:Idx D ns
 nodes:RowC 244 3 w vn (ns.map cG)
 out:RowC 234 1 w vo (vs.map λv=>[v])
 lenv:vs=ns.length
 row:∀(i:Nat) v l,vs[i]? =some v->adj[i]? =some l->RowC 3 1 w v (l.map cI)
 apart:∀(i j:Nat) v u k,vs[i]? =some v->vs[j]? =some u->v.ownBlock=some k->u.ownBlock=some k->i=j
def GB (t b:Nat) (vn vo:Value) (vs:List Value):Nat->Prop:=λx=>x=t\/x=b\/vn.ownBlock=some x\/vo.ownBlock=some x\/∃c∈vs,c.ownBlock=some x
section
variable {w w':World} {t b e:Nat} {vn vo:Value} {vs:List Value} {ns:List GN} {adj:List (List Nat)} {D:DataW Unit}
theorem GS.of (h:GS w t b e vn vo vs ns adj D) (k:∀x,GB t b vn vo vs x->w'.heap[x]? =w.heap[x]?):GS w' t b e vn vo vs ns adj D:=by
 refine⟨(k t (.inl rfl)).trans h.cell,?_,h.idx,h.nodes.keep λx c=>k x (.inr (.inr (.inl c))),h.out.keep λx c=>k x (.inr (.inr (.inr (.inl c)))),h.lenv,λn f p d m=>(h.row n f p d m).keep λx c=>k x (.inr (.inr (.inr (.inr ⟨f,zmg d,c⟩)))),h.apart⟩;obtain⟨i,g,j,l⟩:=h.own;exact⟨i,g,(k b (.inr (.inl rfl))).trans j,l⟩
structure GSE (E:List (GN×GN)) (m:Nat) (w:World) (t b e:Nat) (vn vo:Value) (vs:List Value) (ns:List GN) (adj:List (List Nat)) (D:DataW Unit):Prop where
 gs:GS w t b e vn vo vs ns adj D
 rep:GRep E m ns adj
 em:e<=m
theorem GS.lt (h:GS w t b e vn vo vs ns adj D) (hl:adj.length=ns.length):∀x,GB t b vn vo vs x->x<w.heap.size:=by
 rintro x (rfl|rfl|c|c|⟨j,g,c⟩)
 ·exact zI h.cell
 ·exact h.own.lt
 ·exact h.nodes.lt x c
 ·exact h.out.lt x c
 obtain⟨i,d⟩:=List.getElem?_of_mem g;have f:=(zge d).1;rw[h.lenv] at f;exact(h.row i j _ d (qLgx om)).lt x c
theorem GS.below (h:GS w t b e vn vo vs ns adj D) (hl:adj=ns.length) (k:(bW w w':Prop)):GS w' t b e vn vo vs ns adj D:=h.of λx hx=>k.block x (h.lt hl x hx)
end
theorem z37 {w:World} {x:Nat} {a b:Array Value} {T U:TypeId} (h:w.heap[x]? =some (.cells a T (0,0))) (k:w.heap[x]? =some (.cells b U (0,0))):T=U:=by
 rw[h] at k;simp only[Option.some.injEq,Obj.cells.injEq] at k;exact k.2.1
theorem Y0 {e:TypeId} {sz:Nat} {v:Value} {l:List (List Value)} (h:RowC e sz w v l) (hx:v.ownBlock=some x):∃a,w.heap[x]? =some (.cells a e (0,0)):=by
 rcases h.2 with ⟨rfl,_⟩|⟨d,i,g,c,rfl,f,_⟩
 ·cases hx
 obtain rfl:d=x:=zsi hx;exact⟨c,f⟩
theorem z2s {w:World} {P:Program} {k:TypeId} {R:Value->Option (DataW Unit×List MemPlace)} {b n:Nat} {D:DataW Unit} (h:w.ownsMap P k R b n D) {a:Array Value} {T:TypeId} (hx:w.heap[x]? =some (.cells a T (0,0))):x≠b:=by
 rintro rfl;obtain⟨_,_,c,_⟩:=h;rw[c] at hx;cases hx
theorem zJu (w:World) (a:Nat):(binOp .neq 280 (.map (some a)) (.map none)).run prog w= .ok true w:=by
 simp only[binOp];simp[run_equal_map_nil w _ _ _ (some a) underlying280]
theorem zFn {t b e:Nat} {vn vo:Value} {vs:List Value} {ns:List GN} {adj:List (List Nat)} {D:DataW Unit} (h:GS w t b e vn vo vs ns adj D):Calls prog 240 #[pT t] w λe w'=>e= .returned true/\w'=w:=by
 obtain⟨c,_⟩:=zB h.cell;have d:=c 0 _ rfl;clear c h;have f:=zJu;go_enter func240,ntmps240
 go_wp2;go_ret;exact⟨rfl,rfl⟩
theorem zUk (w:World):Calls prog 222 #[] w λe w'=>(∃t b,e= .returned (pT t)/\GSE [] 0 w' t b 0 () () [] [] [] (.map [])/\w.heap.size<=t/\w.heap.size<=b)/\bW w w':=by
 have g:=@run_makeMap prog;go_enter func222,ntmps222
 go_wp2;go_ret;refine⟨⟨_,w,rfl,⟨⟨zJ _ sm,(World.ownsMap_made _ _ _ _).alloc _,Idx.start,RowC.nil _,RowC.nil _,rfl,λd f j c=>by simp at c,λd h f k i c=>by simp at c⟩,GRep.start,znl _⟩,sm,znl _⟩,gg⟩
def zGv (l:List Nat) (x:Nat):Bool:=l.any λy=>decide (y=x)
theorem zEw {l:List Nat}:zGv l x=true↔x∈l:=by simp[zGv]
theorem ma2 {p:Prop} (h:p:=by
 go_wp2;go_round
 case rel=>exact⟨k+1,om,gn,HK2⟩
 case measure=>exact qMx):p:=h
theorem zNl (l:List Nat) (v:Value) (x:Nat) (w:World) (h:RowC 3 1 w v (l.map cI)) (hl:l.length<=10000):Calls prog 247 #[v,x] w λe w'=>(∃i:Int,e= .returned (.int .i64 i)/\(decide (0<=i))=zGv l x)/\w'=w:=by
 obtain⟨n,q,rfl,_⟩:=h.shape;rw[qLmx] at h⊢;have p:=zh h;clear h;go_enter func247,ntmps247
 go_wp2;go_loop [8] (λi=>∃k:Nat,k<=l/\i= .int .i64 k/\Hid (x∉l.take k)) (λi=>l.length-(intOf i).toNat)
 case atStart=>exact⟨0,om,gn,by simp[Hid]⟩
 obtain⟨k,_,rfl,g⟩:=hrel;by_cases y:k<l
 rotate_left
 ·obtain rfl:k=l:=om
  have f:=zh (by rw[<-Bool.not_eq_true,zEw];have:=g.o;rwa [qLnx] at this:zGv l x=false);go_wp2;go_ret;exact⟨⟨_,rfl,by rw[f.o];rfl⟩,rfl⟩
 obtain⟨d,c⟩:∃d,l[k]? =some d:=⟨_,qLgx y⟩;obtain⟨s,o,r,m,-,u,-,j,-⟩:=p.at (i:=k) (x:=cI d) (by rw[getElem?_map,c];rfl);unfold maxLen at u;obtain⟨rfl,-,rfl⟩:n=some ⟨s,o,none⟩/\l.length=(l.map cI).length/\q=r:=by simpa using m
 have z:=j 0 _ rfl;rw[Nat.mul_one,Nat.add_zero] at z;clear j m;by_cases e:x=d
 ·subst e;have f:=zh (zEw.2 (zmg c));clear c;go_wp2;go_ret;exact⟨⟨_,rfl,by rw[f.o];simp⟩,rfl⟩
 have A:((x:Int)==(d:Int))=false:=by simp;omega
 have HK2:=zh (by rw[qLtx,c];simp[e];exact g:x∉l.take (k+1));clear c e;exact ma2
theorem zIw (l:List Nat) (v:Value) (x:Nat) (w:World) (h:RowC 3 1 w v (l.map cI)) (hl:l.length<=10000):Calls prog 246 #[v,x] w λe w'=>e= .returned (.bool (zGv l x))/\w'=w:=by
 obtain⟨_,_,rfl,_⟩:=h.shape;rw[qLmx] at h⊢;have f:=zh (zNl l _ x w h hl);clear h;go_enter func246,ntmps246
 go_wp2_with (go_at_call 247;refine zcm f.o ?_;rintro e _ ⟨⟨_,rfl,c⟩,rfl⟩;have d:=zh c;clear c)
 go_ret;exact⟨ZM d,rfl⟩
end
end Go.Proofs.YtdggplhnfhcieaaGreatDoor
