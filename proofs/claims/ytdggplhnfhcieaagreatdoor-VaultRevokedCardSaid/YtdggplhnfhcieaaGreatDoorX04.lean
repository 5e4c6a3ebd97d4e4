/- No condition. -/
import Derived.Maps.OwnSet
import Derived.DeepKeys4
import Derived.Laws.Cover3
import Derived.Deep.QuietTactic
import Derived.Deep.RegionHeld3
import Derived.Test.YtdggplhnfhcieaaGreatDoorX01
set_option linter.all false
set_option maxRecDepth 100000
namespace Go.Proofs.YtdggplhnfhcieaaGreatDoor
section
open Go.RowKit Go.Deep Go.Maps
def vG (x:GN):Value:= .agg #[.bool x.1,.string x.2.1,.int .i64 x.2.2]
def cG (x:GN):List Value:=[.bool x.1,.string x.2.1,.int .i64 x.2.2]
structure OkG (x:GN):Prop where
 size:x.2.1.size<=1000
 num:I64 x.2.2
def kG (x:GN):Lit:= .string (Go.keyBytes [.bool x.1,.string x.2.1.data.toList,.int .i64 x.2.2])
theorem zTq {x y:GN} (h:vG x=vG y):x=y:=by
 obtain ⟨_,_,_⟩:=x;obtain ⟨_,_,_⟩:=y;simpa [vG] using h
theorem zTr (x:GN):(cG x).length=3:=rfl
theorem zA4 (x:GN):∀u∈cG x,u.oneCell'=true:=by
 intro u hu;simp only [cG,qLcx,List.not_mem_nil,or_false] at hu;rcases hu with rfl | rfl | rfl<;>rfl
theorem zHx (x:GN):WideAt.IsKeyLit (kG x):=by simp [kG,WideAt.IsKeyLit]
theorem keyNode:Keyed Tryz.prog 244:=Keyed.of_law (deep_law_laid zHw (m:=3) (by omega) (of_decide_eq_true (by kernel_rfl)) (by kernel_rfl) (by kernel_rfl))
theorem zDa {x:GN} (h:OkG x):keyOf Tryz.prog 244 (vG x)=some (kG x):=by
 obtain ⟨a,b,c⟩:=x;obtain ⟨h1,h2⟩:=h;dsimp only at h1 h2;obtain ⟨d,hd⟩:∃d,Tryz.prog.types.size+1=d+1+1:=⟨Tryz.prog.types.size - 1,by have:0 < Tryz.prog.types.size:=of_decide_eq_true (by kernel_rfl);omega⟩;have k1:Tryz.prog.keyType 244=true:=by kernel_rfl
 have k2:(vG (a,b,c)).formed Tryz.prog 244=true:=by
  have:Tryz.prog.cellsOf 244=3:=by kernel_rfl
  simp [Value.formed,Tryz.underlying244,this,vG]
 have c0:Tryz.prog.cellsOf 244=3:=by kernel_rfl
 have c1:Tryz.prog.cellsOf 4=1:=by kernel_rfl
 have c2:Tryz.prog.cellsOf 9=1:=by kernel_rfl
 have c3:Tryz.prog.cellsOf 3=1:=by kernel_rfl
 have hs:b.size<=maxLen:=by unfold maxLen;omega
 unfold keyOf;rw [Tryz.underlying244,hd];simp only [k1,k2,Bool.and_true,if_true];have h3:IntKind.i64.min<=c/\c<=9223372036854775807:=h2;simp [Program.keyLits,Tryz.underlying244,Tryz.underlying4,Tryz.underlying9,Tryz.underlying3,c0,c1,c2,c3,vG,Value.cells,hs,Lit.wf,kG,h3]
theorem zNw {x y:GN} (hx:OkG x) (hy:OkG y) (h:kG x=kG y):x=y:=zTq (keyNode.inj (zDa hx) (h▸zDa hy))
theorem z5f (w:World):(zeroValue 3).run Tryz.prog w= .ok (.int .i64 0) w:=by kernel_rfl
structure Idx (D:DataW Unit) (ns:List GN):Prop where
 isMap:IsMap D
 ok:∀x∈ns,OkG x
 has:∀x,OkG x->(Maps.has D (kG x)=true↔x∈ns)
 val:∀(i:Nat) x,ns[i]? =some x->∀zd,D.atKey (kG x) zd= .lit (.int .i64 i)
theorem Idx.start:Idx (.map []) []:=⟨isMap_empty,fun x h=>(by cases h),fun x _=>(by simp [Maps.has]),fun i x h=>(by simp at h)⟩
theorem Idx.put {D:DataW Unit} {ns:List GN} (h:Idx D ns) {x:GN} (hx:OkG x) (hn:x∉ns):Idx (D.put (kG x) (.lit (.int .i64 ns.length))) (ns++[x]):=by
 refine ⟨h.isMap.put _ _,fun y hy=>?_,fun y hy=>?_,fun i y hi zd=>?_⟩
 ·rcases zmb hy with hy | hy
  ·exact h.ok y hy
  rw [zml hy];exact hx
 ·by_cases e:y=x
  ·subst e;rw [has_put_same h.isMap (zHx _)];simp
  rw [has_put_other fun e2=>e (zNw hy hx e2),h.has y hy,List.mem_append,List.mem_singleton];exact ⟨.inl,fun h=>h.resolve_right e⟩
 rcases Nat.lt_or_ge i ns.length with hl | hl
 ·rw [qLlx hl] at hi;have hm:=zmg hi;rw [atKey_put_other fun e2=>hn (zNw (h.ok y hm) hx e2▸hm)];exact h.val i y hi zd
 rw [qLrx hl] at hi;have hil:i - ns.length=0:=by have:=(zge hi).1;simp at this;omega
 rw [hil] at hi;obtain rfl:x=y:=by simpa using hi
 obtain rfl:i=ns.length:=by omega
 exact atKey_put_same h.isMap (zHx _) _ _
theorem Idx.look {D:DataW Unit} {ns:List GN} (h:Idx D ns) {x:GN} (hx:OkG x) {c:Int} (hc:D.atKey (kG x) (.lit (.int .i64 0))= .lit (.int .i64 c)):
  (Maps.has D (kG x)=true/\∃i:Nat,ns[i]? =some x/\c=i)\/(Maps.has D (kG x)=false/\x∉ns):=by
 by_cases e:x∈ns
 ·left;obtain ⟨i,hi⟩:=List.getElem?_of_mem e;refine ⟨(h.has x hx).2 e,i,hi,?_⟩;rw [h.val i x hi] at hc;simpa using hc.symm
 right;exact ⟨by rw [<-Bool.not_eq_true];exact fun h2=>e ((h.has x hx).1 h2),e⟩
end
section
open Go.RowKit Go.Deep Go.Maps
def Look (ns:List GN) (x:GN) (c:Int) (g:Bool):Prop:=(g=true/\∃i:Nat,ns[i]? =some x/\c=i)\/(g=false/\x∉ns/\c=0)
theorem z4j (ns:List GN) (x:GN):∃c g,Look ns x c g:=by
 by_cases h:x∈ns
 ·obtain ⟨i,hi⟩:=List.getElem?_of_mem h;exact ⟨i,true,.inl ⟨rfl,i,hi,rfl⟩⟩
 exact ⟨0,false,.inr ⟨rfl,h,rfl⟩⟩
theorem Look.mem {ns:List GN} {x:GN} {c:Int} {g:Bool} (h:Look ns x c g):g=true↔x∈ns:=by
 rcases h with ⟨rfl,i,hi,_⟩ | ⟨rfl,h,_⟩
 ·exact ⟨fun _=>zmg hi,fun _=>rfl⟩
 exact ⟨fun h=>(by cases h),fun h2=>absurd h2 h⟩
section
variable {w:World} {ops:Array Oper} {rest:List Oper} {o:Oper} {a:Act} {Q:Exit->Act->World->Prop}
theorem z92 (w:World) (hg:o.guard=none) (m k:Operand) (hop:o.op=Op.lookup 280 m k true) (b n:Nat) (D:DataW Unit) (ns:List GN) (x:GN) (c:Int) (g:Bool)
  (hm:a.eval m= .map (some b)) (hown:w.ownsMap Tryz.prog 244 (plainElem Tryz.prog 3) b n D) (hI:Idx D ns) (hx:a.eval k=vG x) (hok:OkG x) (hL:Look ns x c g)
  (hK:wpList Tryz.prog ops Q rest (a.put o.dst (.tuple #[.int .i64 c,.bool g])) w):wpList Tryz.prog ops Q (o :: rest) a w:=by
 refine wpList_lookup_own_ok_int w hg m k _ hop 244 3 .i64 keyNode Tryz.underlying280 Tryz.underlying3 (z5f w) b n D hm hown _ _ hx (zDa hok) fun c' hc' _=>?_
 have h1:=hI.look hok hc';rcases hL with ⟨rfl,i,hi,rfl⟩ | ⟨rfl,hn,rfl⟩
 ·rcases h1 with ⟨e1,j,hj,rfl⟩ | ⟨_,hn⟩
  ·have e2:D.atKey (kG x) (.lit (.int .i64 0))= .lit (.int .i64 i):=hI.val i x hi _;rw [e2] at hc';have e3:(i:Int)=(j:Int):=by simpa using hc'
   rw [e1,<-e3];exact hK
  exact absurd (zmg hi) hn
 rcases h1 with ⟨_,j,hj,rfl⟩ | ⟨e1,_⟩
 ·exact absurd (zmg hj) hn
 rw [atKey_of_not_has e1] at hc';have e3:(0:Int)=c':=by simpa using hc'
 rw [e1,<-e3];exact hK
end
def cI (j:Nat):List Value:=[.int .i64 j]
structure GS (w:World) (t b e:Nat) (vn vo:Value) (vs:List Value) (ns:List GN) (adj:List (List Nat)) (D:DataW Unit):Prop where
 cell:w.heap[t]? =some (.cells #[.map (some b),vn,vo,.int .i64 e] 283 (0,0))
 own:w.ownsMap Tryz.prog 244 (plainElem Tryz.prog 3) b ns.length D
 idx:Idx D ns
 nodes:RowC 244 3 w vn (ns.map cG)
 out:RowC 234 1 w vo (vs.map fun v=>[v])
 lenv:vs.length=ns.length
 row:∀(i:Nat) v l,vs[i]? =some v->adj[i]? =some l->RowC 3 1 w v (l.map cI)
 apart:∀(i j:Nat) v u k,vs[i]? =some v->vs[j]? =some u->v.ownBlock=some k->u.ownBlock=some k->i=j
def GB (t b:Nat) (vn vo:Value) (vs:List Value):Nat->Prop:=fun x=>x=t\/x=b\/vn.ownBlock=some x\/vo.ownBlock=some x\/∃v∈vs,v.ownBlock=some x
section
variable {w w':World} {t b e:Nat} {vn vo:Value} {vs:List Value} {ns:List GN} {adj:List (List Nat)} {D:DataW Unit}
theorem GS.of (h:GS w t b e vn vo vs ns adj D) (k:∀x,GB t b vn vo vs x->w'.heap[x]? =w.heap[x]?):GS w' t b e vn vo vs ns adj D:=by
 refine ⟨(k t (.inl rfl)).trans h.cell,?_,h.idx,h.nodes.keep fun x hx=>k x (.inr (.inr (.inl hx))),h.out.keep fun x hx=>k x (.inr (.inr (.inr (.inl hx)))),h.lenv,fun i v l hv hl=>(h.row i v l hv hl).keep fun x hx=>k x (.inr (.inr (.inr (.inr ⟨v,zmg hv,hx⟩)))),h.apart⟩;obtain ⟨es,clock,h1,h2⟩:=h.own;exact ⟨es,clock,(k b (.inr (.inl rfl))).trans h1,h2⟩
structure GSE (E:List (GN×GN)) (m:Nat) (w:World) (t b e:Nat) (vn vo:Value) (vs:List Value) (ns:List GN) (adj:List (List Nat)) (D:DataW Unit):Prop where
 gs:GS w t b e vn vo vs ns adj D
 rep:GRep E m ns adj
 em:e<=m
theorem GS.lt (h:GS w t b e vn vo vs ns adj D) (hl:adj.length=ns.length):∀x,GB t b vn vo vs x->x < w.heap.size:=by
 rintro x (rfl | rfl | h1 | h1 | ⟨v,hv,h1⟩)
 ·exact zO h.cell
 ·exact h.own.lt
 ·exact h.nodes.lt x h1
 ·exact h.out.lt x h1
 obtain ⟨i,hi⟩:=List.getElem?_of_mem hv;have hil:=(zge hi).1;rw [h.lenv] at hil;exact (h.row i v _ hi (qLgx (by omega))).lt x h1
theorem GS.below (h:GS w t b e vn vo vs ns adj D) (hl:adj.length=ns.length) (k:Below w.heap.size w w'):GS w' t b e vn vo vs ns adj D:=h.of fun x hx=>k.block x (h.lt hl x hx)
end
theorem z2h {w:World} {x:Nat} {a b:Array Value} {T U:TypeId} (h:w.heap[x]? =some (.cells a T (0,0))) (k:w.heap[x]? =some (.cells b U (0,0))):T=U:=by
 rw [h] at k;simp only [Option.some.injEq,Obj.cells.injEq] at k;exact k.2.1
theorem yI {w:World} {e:TypeId} {sz:Nat} {v:Value} {l:List (List Value)} (h:RowC e sz w v l) {x:Nat} (hx:v.ownBlock=some x):∃a,w.heap[x]? =some (.cells a e (0,0)):=by
 rcases h.2 with ⟨rfl,_⟩ | ⟨g,off,cap,cur,rfl,hg,_⟩
 ·cases hx
 obtain rfl:g=x:=zsi hx;exact ⟨cur,hg⟩
theorem z26 {w:World} {P:Program} {k:TypeId} {R:Value->Option (DataW Unit×List MemPlace)} {b n x:Nat} {D:DataW Unit} (h:w.ownsMap P k R b n D) {a:Array Value} {T:TypeId} (hx:w.heap[x]? =some (.cells a T (0,0))):x≠b:=by
 rintro rfl;obtain ⟨_,_,h1,_⟩:=h;rw [h1] at hx;cases hx
theorem zHy (w:World) (a:Nat):(binOp .neq 280 (.map (some a)) (.map none)).run Tryz.prog w= .ok (.bool true) w:=by
 simp only [binOp];simp [run_equal_map_nil w _ _ _ (some a) Tryz.underlying280]
theorem zE1 {w:World} {t b e:Nat} {vn vo:Value} {vs:List Value} {ns:List GN} {adj:List (List Nat)} {D:DataW Unit} (h:GS w t b e vn vo vs ns adj D):Calls Tryz.prog 240 #[.pointer (some ⟨t,0,none⟩)] w fun e w'=>e= .returned (.bool true)/\w'=w:=by
 obtain ⟨cb,_⟩:=zD h.cell;have c0:=cb 0 _ rfl;clear cb h;have hq:=zHy;go_enter Tryz.func240,Tryz.ntmps240
 go_wp2;go_ret;exact ⟨rfl,rfl⟩
theorem zSg (w:World):Calls Tryz.prog 222 #[] w fun e w'=>(∃t b,e= .returned (.pointer (some ⟨t,0,none⟩))/\GSE [] 0 w' t b 0 (.slice none 0 0) (.slice none 0 0) [] [] [] (.map [])/\w.heap.size<=t/\w.heap.size<=b)/\Below w.heap.size w w':=by
 have hmm:=@run_makeMap Tryz.prog;go_enter Tryz.func222,Tryz.ntmps222
 go_wp2;go_ret;refine ⟨⟨_,w.heap.size,rfl,⟨⟨zJ _ (by simp),(World.ownsMap_made _ _ _ _).alloc _,Idx.start,RowC.nil _,RowC.nil _,rfl,fun i v l h=>by simp at h,fun i j v u k h=>by simp at h⟩,GRep.start,znl _⟩,by simp,znl _⟩,by go_grown⟩
def zFa (l:List Nat) (x:Nat):Bool:=l.any fun y=>decide (y=x)
theorem zDb {l:List Nat} {x:Nat}:zFa l x=true↔x∈l:=by simp [zFa]
theorem zLn (l:List Nat) (v:Value) (x:Nat) (w:World) (h:RowC 3 1 w v (l.map cI)) (hl:l.length<=10000):Calls Tryz.prog 247 #[v,.int .i64 x] w fun e w'=>(∃i:Int,e= .returned (.int .i64 i)/\(decide (0<=i))=zFa l x)/\w'=w:=by
 obtain ⟨A,c,rfl,_⟩:=h.shape;rw [qLmx] at h⊢;have HR:=zh h;clear h;go_enter Tryz.func247,Tryz.ntmps247
 go_wp2;go_loop [8] (fun i=>∃k:Nat,k<=l.length/\i= .int .i64 k/\Hid (x∉l.take k)) (fun i=>l.length - (intOf i).toNat)
 case atStart=>exact ⟨0,by omega,by go_num,by simp [Hid]⟩
 obtain ⟨k,_,rfl,HK⟩:=hrel;by_cases hlt:k < l.length
 rotate_left
 ·obtain rfl:k=l.length:=by omega
  have M:=zh (show zFa l x=false by rw [<-Bool.not_eq_true,zDb];have:=HK.out;rwa [qLnx] at this);go_wp2;go_ret;exact ⟨⟨_,rfl,by rw [M.out];rfl⟩,rfl⟩
 obtain ⟨y,hy⟩:∃y,l[k]? =some y:=⟨_,qLgx hlt⟩;obtain ⟨g,o,cap,hv,-,hcm,-,hc,-⟩:=HR.out.at (i:=k) (x:=cI y) (by rw [List.getElem?_map,hy];rfl);unfold maxLen at hcm;obtain ⟨rfl,-,rfl⟩:A=some ⟨g,o,none⟩/\l.length=(l.map cI).length/\c=cap:=by simpa using hv
 have q:=hc 0 _ rfl;rw [Nat.mul_one,Nat.add_zero] at q;clear hc hv;by_cases e:x=y
 ·subst e;have M:=zh (zDb.2 (zmg hy));clear hy;go_wp2;go_ret;exact ⟨⟨_,rfl,by rw [M.out];simp⟩,rfl⟩
 have e1:((x:Int)==(y:Int))=false:=by simp;omega
 have HK2:=zh (show x∉l.take (k+1) by rw [qLtx,hy];simp [e];exact HK.out);clear hy e;go_wp2;go_round
 case rel=>exact ⟨k+1,by omega,by go_num,HK2⟩
 case measure=>exact qMx
theorem zH8 (l:List Nat) (v:Value) (x:Nat) (w:World) (h:RowC 3 1 w v (l.map cI)) (hl:l.length<=10000):Calls Tryz.prog 246 #[v,.int .i64 x] w fun e w'=>e= .returned (.bool (zFa l x))/\w'=w:=by
 obtain ⟨_,_,rfl,_⟩:=h.shape;rw [qLmx] at h⊢;have hi:=zh (zLn l _ x w h hl);clear h;go_enter Tryz.func246,Tryz.ntmps246
 go_wp2_with (go_at_call 247;refine zcm hi.out ?_;rintro e _ ⟨⟨_,rfl,hm⟩,rfl⟩;have HM:=zh hm;clear hm)
 go_ret;exact ⟨ZM HM.out,rfl⟩
end
end Go.Proofs.YtdggplhnfhcieaaGreatDoor
