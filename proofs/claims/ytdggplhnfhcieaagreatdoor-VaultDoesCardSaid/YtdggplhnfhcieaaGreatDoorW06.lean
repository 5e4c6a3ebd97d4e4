/- No condition. -/
import Derived.Deep.RegionLaw
import Derived.Laws.IdiomCopy
import Derived.Laws.Externs
import Derived.Laws.NewBlocks
import Derived.Lib.SliceRun
import Derived.Lib.Overlaps
import Derived.Lib.AppendZerosOnto
import Derived.Test.YtdggplhnfhcieaaGreatDoorW04
set_option linter.all false
set_option maxRecDepth 100000
set_option maxHeartbeats 16000000
namespace Go.Proofs.YtdggplhnfhcieaaGreatDoor.Ro
open Go.Proofs.Tryz Cd Ce List
open Go.RowKit Go.Deep
theorem z7y {n:Int} (h:isOf n=true):1<=n/\n<=4:=by
 simpa[isOf] using h
theorem z8c {S:Nat->Prop} {w:World} {name:ByteArray} {role:Int} (h:name.size<=()) (k:I64 role):zZ S w [name,role] ⟨name,role⟩:=⟨rfl,h,k⟩
def leS (a b:ByteArray):Bool:=ltS a b||eqS a b
def withR (name:ByteArray) (role:Int):Bool->List Member->List Member
 | d,[]=>if d then[] else[⟨name,role⟩]
 | d,m::r=>(if !d&&leS name m.name then[⟨name,role⟩] else[])++((if eqS m.name name then[] else[m])++withR name role (d||leS name m.name) r)
def withOf (l:List Member) (name:ByteArray) (role:Int):List Member:=withR name role (role==0) l
theorem slM_new {S T:Nat->Prop} {w:World} {v:Value} {l:List Member} (h:Sl 2 zZ S w v l) (k:∀b,v.ownBlock=some b->T b):Sl 2 zZ T w v l:=by
 exact mbn
theorem refwith_any (l:List Member) (name:ByteArray) (role:Int) (ac:name.size<=()) (ad:I64 role) (v:Value) (w:World) (S:Nat->Prop) (h:Sl 2 zZ S w v l) (aG:l.length<=1000000):
  Calls prog 116 #[v,name,role] w λe w'=>(∃v',e= .returned v'/\Sl 2 zZ (λb=>w<=b) w' v' (withOf l name role))/\bW w w':=by
 obtain⟨M,K,L,H,I⟩:=info_parts (show(prog.info? 87).map (λi=>(i.zero,i.size,i.bytes))=some (some (.agg #["",'0']),2,24) from kr);obtain⟨_,_,rfl,_,ap,_,au⟩:=h;unfold maxLen at ap;go_enter func116,ntmps116
 go_wp2;go_loopw [7,8,9] (λav am i wr=>∃(d:Nat) (v:Value) (O:Bool) (g:List Member),d<=l/\i= .int .i64 d/\v=av/\am= .bool O/\g.length<=2*d/\g++withR name role O (l.drop d)=withOf l name role/\Grow 87 2 zZ (λ_=>False) wr w v g/\bW w wr) (λ_ _ i _=>l.length-(intOf i).toNat)
 case atStart=>exact⟨0,_,(role==0),[],om,gn,rfl,rfl,sm,by simp[withOf],Grow.nil,gg⟩
 obtain⟨d,v,O,g,_,rfl,rfl,rfl,_,B,z,s⟩:=hrel;have aH:=s.size;have J:=z.base_le;by_cases aq:d<l
 rotate_left
 ·obtain rfl:d=l:=om
  rw[drop_length,withR] at B;cases O
  ·have o:=ζ (g++[⟨name,role⟩]=withOf l name role) B;clear B;go_wp2_with (at_builtin;go_loud (refine yZ (R:=zZ) _ _ rfl (.tmp 51) (.tmp 55) 46 rfl 87 M _ 2 24 underlying46 K L H I rfl dc ZA w (by go_size) _ _ rfl z _ _ rfl (by simp only[zS]) _ (by intro b a;exact a.elim) (z8c ac ad) om dc ?_);intro Z y m t U;obtain⟨Q,V,T,rfl,A⟩:=m.shape';clear A)
   go_ret;exact⟨⟨_,rfl,by rw[<-o.o];exact slM_new (S:=λ_=>True) (m.sl ZA (λ_ _ _=>trivial) (λ_ _=>trivial)) λb a=>(m.base_le b a).1⟩,Below.grown s t om λb a=>(J b a).1⟩
  have o:=zh (by rw[<-B];simp:g=withOf l name role);clear B;go_wp2;go_ret;exact⟨⟨_,rfl,by rw[<-o.o];exact slM_new (S:=λ_=>True) (z.sl ZA (λ_ _ _=>trivial) (λ_ _=>trivial)) λb a=>(J b a).1⟩,s⟩
 obtain⟨ai,rfl⟩:∃ai:World,ai=wr:=⟨_,rfl⟩;obtain⟨n,C,E,ay,al,_,rfl,D,_,aj,ak,_,ae,af⟩:=yT au aq (zK s);rw[al,withR] at B;have q:=zh B;clear ay al B;cases O
 ·cases x:leS name n.name
  ·have ao:(Op.bytesLess name.toList n.name.toList||name.toList==n.name.toList)=false:=x;cases k:eqS n.name name
   ·have P:(n.name.toList==name.toList)=false:=k;have o:=zh (by rw[<-q.o,x,k];simp:(g++[n])++withR name role false (l.drop (d+1))=withOf l name role);clear q x k;go_wp2_with (at_builtin;go_loud (refine yZ (R:=zZ) _ _ rfl (.tmp 42) (.tmp 47) 46 rfl 87 M _ 2 24 underlying46 K L H I rfl dc ZA w (by go_size) _ _ rfl z _ _ rfl (by simp only[zS]) _ (by intro b a;exact a.elim) ⟨rfl,ae,af⟩ om dc ?_);intro Z y m t U;obtain⟨Q,V,T,rfl,A⟩:=m.shape';clear A)
    go_roundw
    case rel=>exact⟨d+1,_,false,_,om,gn,rfl,rfl,by simp;omega,o.o,m,Below.grown s t om λb a=>(J b a).1⟩
    case measure=>simp[intOf];omega
   have P:(n.name.toList==name.toList)=true:=k;have o:=zh (by rw[<-q.o,x,k];simp:g++withR name role false (l.drop (d+1))=withOf l name role);clear q x k;go_wp2;go_roundw
   case rel=>exact⟨d+1,_,false,_,om,gn,rfl,rfl,om,o.o,z,s⟩
   case measure=>simp[intOf];omega
  have ao:(Op.bytesLess name.toList n.name.toList||name.toList==n.name.toList)=true:=x;cases k:eqS n.name name
  ·have P:(n.name.toList==name.toList)=false:=k;have o:=zh (by rw[<-q.o,x,k];simp:(g++[⟨name,role⟩]++[n])++withR name role true (l.drop (d+1))=withOf l name role);clear q x k
   go_wp2_with (first
    | (at_builtin;go_loud (refine yZ (R:=zZ) _ _ rfl (.tmp 29) (.tmp 33) 46 rfl 87 M _ 2 24 underlying46 K L H I rfl dc ZA w (by go_size) _ _ rfl z _ _ rfl (by simp only[zS]) _ (by intro b a;exact a.elim) (z8c ac ad) om dc ?_);intro Z y m t U;obtain⟨Q,V,T,rfl,A⟩:=m.shape';clear A;go_loud (have az:=t.size;have ah:=m.base_le;have N:(bW w y:Prop):=Below.grown s t om λb a=>(J b a).1;obtain⟨G,ab⟩:(∀b g,b<w.heap.size->y.cell? ⟨b,g,none⟩=w.cell? ⟨b,g,none⟩)/\(∀b g,b<w.heap.size->y.frozen? (aD b g)=w.frozen? (aD b g)):=z1q N;obtain⟨F,aa⟩:=z1q s;have aw:=(G C (E+d*2) D).trans ((F C (E+d*2) D).symm.trans aj);have ax:=(G C (E+d*2+1) D).trans ((F C (E+d*2+1) D).symm.trans ak);clear G ab F aa))
    | (at_builtin;go_loud (refine yZ (R:=zZ) _ _ rfl (.tmp 42) (.tmp 47) 46 rfl 87 M _ 2 24 underlying46 K L H I rfl dc ZA w om _ _ rfl m _ _ rfl (by simp only[zS]) _ (by intro b a;exact a.elim) ⟨rfl,ae,af⟩ (by simp;omega) dc ?_);intro aI aJ ag an aB;obtain⟨_,_,_,rfl,ar⟩:=ag.shape';clear ar))
   go_roundw
   case rel=>exact⟨d+1,_,true,_,om,gn,rfl,rfl,by simp;omega,o.o,ag,Below.grown N an om λb a=>(ah b a).1⟩
   case measure=>simp[intOf];omega
  have P:(n.name.toList==name.toList)=true:=k;have o:=zh (by rw[<-q.o,x,k];simp:(g++[⟨name,role⟩])++withR name role true (l.drop (d+1))=withOf l name role);clear q x k
  go_wp2_with (first
   | (at_builtin;go_loud (refine yZ (R:=zZ) _ _ rfl (.tmp 29) (.tmp 33) 46 rfl 87 M _ 2 24 underlying46 K L H I rfl dc ZA w (by go_size) _ _ rfl z _ _ rfl (by simp only[zS]) _ (by intro b a;exact a.elim) (z8c ac ad) om dc ?_);intro Z y m t U;obtain⟨Q,V,T,rfl,A⟩:=m.shape';clear A;go_loud (have az:=t.size;have ah:=m.base_le;have N:(bW w y:Prop):=Below.grown s t om λb a=>(J b a).1;obtain⟨G,ab⟩:(∀b g,b<w.heap.size->y.cell? ⟨b,g,none⟩=w.cell? ⟨b,g,none⟩)/\(∀b g,b<w.heap.size->y.frozen? (aD b g)=w.frozen? (aD b g)):=z1q N;obtain⟨F,aa⟩:=z1q s;have aw:=(G C (E+d*2) D).trans ((F C (E+d*2) D).symm.trans aj);have ax:=(G C (E+d*2+1) D).trans ((F C (E+d*2+1) D).symm.trans ak);clear G ab F aa)))
  go_roundw
  case rel=>exact⟨d+1,_,true,_,om,gn,rfl,rfl,by simp;omega,o.o,m,N⟩
  case measure=>simp[intOf];omega
 cases k:eqS n.name name
 ·have P:(n.name.toList==name.toList)=false:=k;have o:=zh (by rw[<-q.o,k];simp:(g++[n])++withR name role true (l.drop (d+1))=withOf l name role);clear q k;go_wp2_with (at_builtin;go_loud (refine yZ (R:=zZ) _ _ rfl (.tmp 42) (.tmp 47) 46 rfl 87 M _ 2 24 underlying46 K L H I rfl dc ZA w (by go_size) _ _ rfl z _ _ rfl (by simp only[zS]) _ (by intro b a;exact a.elim) ⟨rfl,ae,af⟩ om dc ?_);intro Z y m t U;obtain⟨Q,V,T,rfl,A⟩:=m.shape';clear A)
  go_roundw
  case rel=>exact⟨d+1,_,true,_,om,gn,rfl,rfl,by simp;omega,o.o,m,Below.grown s t om λb a=>(J b a).1⟩
  case measure=>simp[intOf];omega
 have P:(n.name.toList==name.toList)=true:=k;have o:=zh (by rw[<-q.o,k];simp:g++withR name role true (l.drop (d+1))=withOf l name role);clear q k;go_wp2;go_roundw
 case rel=>exact⟨d+1,_,true,_,om,gn,rfl,rfl,om,o.o,z,s⟩
 case measure=>simp[intOf];omega
end Go.Proofs.YtdggplhnfhcieaaGreatDoor.Ro
namespace Go.Proofs.YtdggplhnfhcieaaGreatDoor
open Go.Proofs.Tryz Cd Ce List
variable {b i j:Nat} {l:List (List Value)} {p:Prop} {u:Value} {w:World}
section
open Go.RowKit Go.Deep Go.Lib
theorem z9g {P:Program} (w:World) (o C D k:TypeId) (sz:Nat) (b g h s:Nat) (a:Addr) (n B:Nat) (d:List Value)
  (hu:P.underlying o=some (.slice k)) (hs:(P.info? k).map (·.size)=some sz) (hn:d.length=Nat.min n h*sz)
  (z:∀j v,d[j]? =some v->w.cell? (a.add j)=some v) (t:∀j,j<d.length->(w.cell? ⟨b,g+j,none⟩).isSome=true) (x:∀j,j<d.length->w.frozen? (aD b (g+j))=false) (h1:∀v∈d,v.oneCell'=true):
  (Builtin.copy_ #[o,C] D #[.slice (some ⟨b,g,none⟩) h s,.slice (some a) n B]).run P w= .ok (goInt (Nat.min n h)) (w.setCells b g d):=by
 have q:=run_loadCells_list (P:=P) w a d z;have A:=run_storeCells_cells (P:=P) b g d 0 w (by simpa using t) (by simpa using x) h1
 cases m:P.info? k with
 | none=>simp[m] at hs
 | some i=>
  have y:i.size=sz:=by simpa[m] using hs
  rw[hn] at q;simp[Builtin.copy_,run_underlying hu,Builtin.lenOf,Builtin.firstCells,sizeOf,typeInfo,m,y,q,A]
theorem zG7 {P:Program} {m:Array Oper} {g:Oper} {a:Act} {w:World} {h:Act->World->Prop} {Q:Exit->Act->World->Prop} {o:Prop}
  (hg:g.guard=none) (d x:Operand) (k n:TypeId) (t:g.op=Op.call { callee:=Callee.builtin Builtin.copy,args:=#[d,x],argTypes:=#[k,n] })
  (v u:Value) (s:a.eval d=v) (hx:a.eval x=u) {v':Value} {w':World} (hr:(Builtin.copy_ #[k,n] g.type #[v,u]).run P w= .ok v' w') (q:h (a.put g.dst v') w'):
  if Region.wanted g (yielded m a.tmps)=true then Oper.wp P g a w h Q else o:=by
 have y:Region.wanted g (yielded m a.tmps)=true:=by simp[Region.wanted,hg]
 rw[if_pos y];unfold Oper.wp;simp[execOp,t,resolve,invoke,builtin,s,hx,hr,Result.andThen];exact q
section
variable {e:TypeId} {sz:Nat}
theorem RowC.of_cells {g off a:Nat} {d:Array Value} (h:∀x∈l,x=sz/\∀u∈x,u.oneCell'=true) (hg:w.heap[g]? =some (.cells d e (0,0))) (h1:l<=a) (h2:a<=maxLen) (h3:off+a*sz<=d.size)
  (k:∀q u,l.flatten[q]? =some u->(cL w g (off+q) u:Prop)):RowC e sz w (.slice (some ⟨g,off,none⟩) l a) l:=
 ⟨h,.inr ⟨g,off,a,d,rfl,hg,h1,h2,h3,λq u m=>by have:=k q u m;rwa [cell_of_row _ g _ _ _ (0,0) hg] at this⟩⟩
theorem zKi {x:List Value} (hi:i<=l) (hl:∀y∈l,y=sz) (hx:x=sz) {q:Nat} (h:(l.take i++x::l.drop i).flatten[q]? =some u):
  (q<i*sz/\l.flatten[q]? =some u)\/(∃j,q=i*sz+j/\x[j]? =some u)\/∃j,q=i*sz+sz+j/\(l.flatten.drop (i*sz))[j]? =some u:=by
 have d:(l.take i).flatten.length=i*sz:=by
  rw[z69 λy m=>hl y (mem_of_mem_take m),length_take,Nat.min_eq_left hi]
 have g:l.flatten=(l.take i).flatten++(l.drop i).flatten:=by rw[<-flatten_append,take_append_drop]
 have k:l.flatten.drop (i*sz)=(l.drop i).flatten:=by rw[g,<-d,drop_left]
 rw[flatten_append,flatten_cons] at h;rcases Nat.lt_or_ge q (i*sz) with a|a
 ·left;rw[qLlx om] at h;exact⟨a,by rw[g,qLlx om];exact h⟩
 rw[qLrx om,d] at h;rcases Nat.lt_or_ge (q-i*sz) sz with b|b
 ·rw[qLlx om] at h;exact .inr (.inl ⟨q-i*sz,om,h⟩)
 rw[qLrx om,hx] at h;exact .inr (.inr ⟨q-i*sz-sz,om,by rw[k];exact h⟩)
theorem zMx {x:List Value} {p:List Value->Prop} (hl:∀y∈l,p y) (hx:p x):∀y∈l.take i++x::l.drop i,p y:=λy hy=>by
 rcases zmb hy with h|h
 ·exact hl y (mem_of_mem_take h)
 ·rcases mem_cons.1 h with rfl|h
  ·exact hx
  ·exact hl y (mem_of_mem_drop h)
theorem zEj (b:Nat) (d:List Value) (a:Nat) (w:World) (h:∀j,j<d.length->(w.cell? ⟨b,a+j,none⟩).isSome=true) (k:Nat) (hk:(w.cell? ⟨b,k,none⟩).isSome=true):((w.setCells b a d).cell? ⟨b,k,none⟩).isSome=true:=by
 by_cases g:a<=k/\k<a+d.length
 ·have:=World.cell?_setCells_in b d a w h (k-a) om;rw[show a+(k-a)=k by omega] at this;rw[this];rfl
 rw[World.cell?_setCells_out b d a w ⟨b,k,none⟩ (λ_ _=>by show k<a\/a+d.length<=k;omega)];exact hk
theorem zDo {a:Nat} {d:List Value} (h:∀j,j<d.length->(w.cell? ⟨b,a+j,none⟩).isSome=true) (hj:d[j]? =some u):(w.setCells b a d).cell? ⟨b,a+j,none⟩=some u:=by
 obtain⟨g,rfl⟩:=zge hj;exact World.cell?_setCells_in b d a w h j g
theorem z7b {a k:Nat} {d:List Value} (h:k<a\/a+d.length<=k):(w.setCells b a d).cell? ⟨b,k,none⟩=w.cell? ⟨b,k,none⟩:=World.cell?_setCells_out b d a w ⟨b,k,none⟩ λ_ _=>h
end
theorem z4w {b:Nat} {T:TypeId}:∀(m:List Value) (w:World) (d:Nat) (a:Array Value),w.heap[b]? =some (.cells a T (0,0))->∃cs',(w.setCells b d m).heap[b]? =some (.cells cs' T (0,0))/\cs'.size=a.size
 | [],w,d,a,h=>⟨a,h,rfl⟩
 | v::r,w,d,a,h=>by
  obtain⟨cs',g,k⟩:=z4w r (w.setCell (aD b d) v) (d+1) _ (zH v h rfl);exact⟨cs',g,by rw[k];simp⟩
def zDp (l:List (List Value)) (i:Nat) (x:List Value) (v:Value) (w:World) (e:Ending) (w':World):Prop:=
 ∃a,e= .returned a/\RowC 149 3 w' a (l.take i++x::l.drop i)/\ButB (λg=>v.ownBlock=some g) w w'/\(a.ownBlock=v.ownBlock\/∃d,a.ownBlock=some d/\w.heap.size<=d)
theorem zOc (l:List (List Value)) (v:Value) (w:World) (x:List Value) (hx:x.length=3) (H:∀u∈x,u.oneCell'=true) (N c:Nat) (E:w.heap[N]? =some (.cells x.toArray 149 (0,0))) (h:RowC 149 3 w v l) (hl:l.length<=9999):
  Calls prog 162 #[v,l.length,.slice (some ⟨N,0,none⟩) 1 c] w (zDp l l x v w):=by
 obtain⟨J,G,I,B,D⟩:=info_parts (show(prog.info? 149).map (λi=>(i.zero,i.size,i.bytes))=some (some (.agg #["",'0',false]),3,32) from kr);have A:=zh h;obtain⟨a,d,g,_⟩:=h.shape;have F:l<=d/\(d:Int)<=9223372036854775807:=by
  rcases h.2 with ⟨e,O⟩|⟨M,Q,K,L,e,_,P,C,_⟩
  ·rw[g] at e;simp only[Value.slice.injEq] at e;omega
  ·rw[g] at e;simp only[Value.slice.injEq] at e;unfold maxLen at C;omega
 subst g;obtain⟨_,_⟩:=F;have o:=ζ (∀q,(Value.slice a l d).ownBlock=(Value.slice a l q).ownBlock) (λq=>by cases a<;>rfl);clear h;go_enter func162,ntmps162
 go_wp2_with (at_builtin;refine zLo _ x rfl (.tmp 23) (.tmp 24) 71 rfl J _ 32 underlying71 G I B D rfl dc dc (.slice a l d) l rfl N c rfl A om hx H E ?_;intro z T s t y;have k:=zh s;have m:=zh t;have n:=zh y;clear s t y)
 all_goals
  go_ret
  first
   | exact⟨z,rfl,by simpa using k.o,ButB.row m zbr,n⟩
   | exact⟨z,rfl,by simpa using k.o,ButB.row (by rw[<-o.o l];exact m) zbr,by rw[<-o.o l];exact n⟩
theorem zM5 (l:List (List Value)) (g off a:Nat) (w:World) (i:Nat) (hi:i<l) (x:List Value) (hx:x.length=3) (ac:∀u∈x,u.oneCell'=true) (N c:Nat) (C:w.heap[N]? =some (.cells x.toArray 149 (0,0))) (h:RowC 149 3 w (.slice (some ⟨g,off,none⟩) l a) l) (hl:l.length<=9999) (Q:N≠g) (aT:l+1<=a):
  Calls prog 162 #[.slice (some ⟨g,off,none⟩) l a,i,.slice (some ⟨N,0,none⟩) 1 c] w (zDp l i x (.slice (some ⟨g,off,none⟩) l a) w):=by
 obtain⟨_,av,_,ak,_⟩:=info_parts (show(prog.info? 149).map (λi=>(i.zero,i.size,i.bytes))=some (some (.agg #["",'0',false]),3,32) from kr);have D:=h.1;obtain⟨o,z,aq,ay,ap⟩:∃o,w.heap[g]? =some (.cells o 149 (0,0))/\a<=maxLen/\off+a*3<=o.size/\∀n u,l.flatten[n]? =some u->o[off+n]? =some u:=by
  rcases h.2 with ⟨e,_⟩|⟨aJ,aW,aI,o,e,aj,aK,al,am,an⟩
  ·simp at e
  ·simp only[Value.slice.injEq,Option.some.injEq,Addr.mk.injEq] at e;obtain⟨⟨rfl,rfl,_⟩,_,rfl⟩:=e;exact⟨o,aj,al,am,an⟩
 unfold maxLen at aq;have au:l.flatten.length=l.length*3:=z69 λB A=>(D B A).1
 have ab:∀n u,l.flatten[n]? =some u->(cL w g (off+n) u:Prop):=λn u I=>by rw[cell_of_row _ g _ _ _ (0,0) z];exact ap n u I
 have J:∀q,q<off+a*3->(w.cell? ⟨g,q,none⟩).isSome=true:=λq Z=>by
  rw[cell_of_row _ g _ _ _ (0,0) z,Array.getElem?_eq_getElem om];rfl
 have V:=(zB z).2;have aa:(prog.info? 149).map (·.size)=some 3:=by rw[av];simp[ak]
 have ar:(l.flatten.drop (i*3)).length=(l.length-i)*3:=by rw[length_drop,au,Nat.sub_mul]
 have az:∀u∈l.flatten,u.oneCell'=true:=λu L=>by
  obtain⟨B,A,L⟩:=mem_flatten.1 L;exact(D B A).2 u L
 have aw:i<=l:=om
 have aB:∀M F,(callFunc 188 #[.slice (some ⟨N,0,none⟩) 1 c,.slice (some ⟨g,off+(i+1)*3,none⟩) M F]).run prog w= .ok (.value false) w:=λM F=>by
  rw[run_callFunc_extern func188 kr kr kr (e:=Extern.SlicesOverlaps.overlaps #[71,71] #[4]) kr,
   Lib.run_overlaps_apart w 71 4 149 underlying71 3 (λw=>kr) ⟨N,0,none⟩ ⟨g,off+(i+1)*3,none⟩ 1 c M F Q 149 149 x.toArray.size o.size (by unfold World.shape?;rw[C]) (by unfold World.shape?;rw[z]) om ((zB C).2 0) ((zB C).2 _)]
  rfl
 have G:∀t dc O,(Builtin.copy_ #[71,71] t #[.slice (some ⟨g,off+(i+1)*3,none⟩) (l.length+1-(i+1)) dc,.slice (some ⟨g,off+i*3,none⟩) (l.length+1-i) O]).run prog w.drew= .ok (goInt (Nat.min (l.length+1-i) (l.length+1-(i+1)))) (w.drew.setCells g (off+(i+1)*3) (l.flatten.drop (i*3))):=λt dc O=>
  z9g w.drew _ _ t 149 3 g (off+(i+1)*3) (l.length+1-(i+1)) dc ⟨g,off+i*3,none⟩ (l.length+1-i) O (l.flatten.drop (i*3)) underlying71 aa (by rw[ar];simp only[Nat.min_def];split<;>omega)
   (λj E m=>by rw[Addr.add_lit,Nat.add_assoc];exact ab (i*3+j) E (by rwa [getElem?_drop] at m))
   (λj m=>J _ om) (λj m=>V _) (λE aG=>az E (mem_of_mem_drop aG))
 obtain⟨d,k⟩:=ξ (w.drew.setCells g (off+(i+1)*3) (l.flatten.drop (i*3)));have H:∀j,j<(l.flatten.drop (i*3)).length->(w.drew.cell? ⟨g,off+(i+1)*3+j,none⟩).isSome=true:=λj m=>J _ om
 have K:∀q,q<off+a*3->(d.cell? ⟨g,q,none⟩).isSome=true:=λq Z=>by
  rw[k];exact zEj g _ _ _ H _ (J q Z)
 have aR:∀t,(Builtin.copy_ #[71,71] t #[.slice (some ⟨g,off+i*3,none⟩) (l.length+1-i) (a-i),.slice (some ⟨N,0,none⟩) 1 c]).run prog d= .ok (goInt (Nat.min 1 (l.length+1-i))) (d.setCells g (off+i*3) x):=λt=>
  z9g d _ _ t 149 3 g (off+i*3) (l.length+1-i) (a-i) ⟨N,0,none⟩ 1 c x underlying71 aa (by rw[hx];simp only[Nat.min_def];split<;>omega)
   (λj E m=>by
    rw[Addr.add_lit,k,World.cell?_setCells_out g _ _ _ _ (λe _=>absurd e Q)];show w.cell? _=_
    rw[cell_of_row _ N _ _ _ (0,0) C];simpa using m)
   (λj m=>K _ om) (λj m=>by rw[k,World.frozen?_setCells];exact V _) ac
 rw[<-k] at G;have ad:=zh G;have s:=z1f g (l.flatten.drop (i*3)) w.drew (off+(i+1)*3);have v:=z1f g x d (off+i*3);rw[<-k] at s;have U:∀j,j<x.length->(d.cell? ⟨g,off+i*3+j,none⟩).isSome=true:=λj m=>K _ om
 have ae:=zh (show zDp l i x (.slice (some ⟨g,off,none⟩) l a) w (.returned (.slice (some ⟨g,off,none⟩) (l.length+1) a)) (d.setCells g (off+i*3) x) from by
  have ax:(l.take i++x::l.drop i).length=l.length+1:=by simp;omega
  obtain⟨ai,P,af⟩:=z4w (l.flatten.drop (i*3)) w.drew (off+(i+1)*3) o z;rw[<-k] at P;obtain⟨_,ag,ah⟩:=z4w x d (off+i*3) ai P;refine⟨_,rfl,?_,⟨v.1.trans s.1,v.2.1.trans s.2.1,v.2.2.1.trans s.2.2.1,by rw[v.2.2.2.1,s.2.2.2.1];exact znl _,λb _ ao=>?_⟩,.inl rfl⟩
  ·rw[<-ax];refine RowC.of_cells (zMx D ⟨hx,ac⟩) ag om (by unfold maxLen;omega) (by rw[ah,af];exact ay) λn u I=>?_
   rcases zKi aw (λB A=>(D B A).1) hx I with ⟨aH,y⟩|⟨j,rfl,y⟩|⟨j,rfl,y⟩
   ·rw[z7b (.inl om),k,z7b (.inl om)];exact ab n u y
   ·rw[<-Nat.add_assoc];exact zDo U y
   ·rw[z7b (.inr om),k,show off+(i*3+3+j)=off+(i+1)*3+j by omega];exact zDo H y
  ·have T:b≠g:=λe=>ao (by rw[e];rfl)
   rw[v.2.2.2.2 b T,s.2.2.2.2 b T];rfl)
 have aV:IntKind.i64.wrap ((i:Int)+1)=(i:Int)+1:=by rw[IntKind.wrap_i64];omega
 have aL:(0:Int)<=(i:Int)+1:=om
 have aU:((i:Int)+1).toNat=i+1:=om
 have aN:¬(a=i+1):=om
 have aO:(i:Int)<=(l:Int)+1:=om
 have aQ:(i:Int)+1<=(l:Int)+1:=om
 have aP:¬(a=i):=om
 clear G k H U s v K;go_enter func162,ntmps162
 go_wp2_with (simp only[aB])
 go_region_law (refine zG7 rfl (.tmp 73) (.tmp 76) 71 71 rfl (.slice (some ⟨g,off+(i+1)*3,none⟩) (l.length+1-(i+1)) (a-(i+1))) (.slice (some ⟨g,off+i*3,none⟩) (l.length+1-i) (a-i)) (by simp[Act.eval,Act.put]) (by simp[Act.eval,Act.put]) (ad.o _ _ _) ?_)
 go_wp2;go_ret;exact ae
theorem zM6 (l:List (List Value)) (g off q:Nat) (w:World) (i:Nat) (hi:i<l) (x:List Value) (hx:x.length=3) (au:∀u∈x,u.oneCell'=true) (N c:Nat) (ae:w.heap[N]? =some (.cells x.toArray 149 (0,0))) (h:RowC 149 3 w (.slice (some ⟨g,off,none⟩) l q) l) (hl:l.length<=9999) (aZ:q<l+1):
  Calls prog 162 #[.slice (some ⟨g,off,none⟩) l q,i,.slice (some ⟨N,0,none⟩) 1 c] w (zDp l i x (.slice (some ⟨g,off,none⟩) l q) w):=by
 obtain⟨aw,al,a1,O,ad⟩:=info_parts (show(prog.info? 149).map (λi=>(i.zero,i.size,i.bytes))=some (some (.agg #["",'0',false]),3,32) from kr);have K:=h.1;obtain⟨A,ak,_,_,_,aR⟩:∃A,w.heap[g]? =some (.cells A 149 (0,0))/\l<=q/\q<=maxLen/\off+q*3<=A.size/\∀t u,l.flatten[t]? =some u->A[off+t]? =some u:=by
  rcases h.2 with ⟨e,_⟩|⟨a3,be,a2,A,e,aJ,aK,aL,aN,aO⟩
  ·simp at e
  ·simp only[Value.slice.injEq,Option.some.injEq,Addr.mk.injEq] at e;obtain⟨⟨rfl,rfl,_⟩,_,rfl⟩:=e;exact⟨A,aJ,aK,aL,aN,aO⟩
 obtain rfl:q=l:=om
 have ai:l.flatten.length=l.length*3:=z69 λG F=>(K G F).1
 have ar:∀t u,l.flatten[t]? =some u->(cL w g (off+t) u:Prop):=λt u U=>by rw[cell_of_row _ g _ _ _ (0,0) ak];exact aR t u U
 have ap:(prog.info? 149).map (·.size)=some 3:=by rw[al];simp[O]
 have aU:(l.flatten.drop (i*3)).length=(l.length-i)*3:=by rw[length_drop,ai,Nat.sub_mul]
 have aq:(l.flatten.take (i*3)).length=i*3:=by rw[length_take,ai];omega
 have aY:∀u∈l.flatten,u.oneCell'=true:=λu Z=>by
  obtain⟨G,F,Z⟩:=mem_flatten.1 Z;exact(K G F).2 u Z
 have aW:i<=l:=om
 have aV:g<w:=zI ak;have aP:N<w:=zI ae;have an:(l:Int)+1-(i:Int)=((l.length+1-i:Nat):Int):=om
 have T:i+(l.length+1-i)=l.length+1:=om
 have YO:(Builtin.firstCells aw.size i (.slice (some ⟨g,off,none⟩) i l)).run prog w.drew= .ok (l.flatten.take (i*3)).toArray w.drew:=by
  rw[O];exact run_firstCells_some w.drew 3 i ⟨g,off,none⟩ i l (l.flatten.take (i*3)) om (λj C k=>by
   rw[Addr.add_lit];rw[getElem?_take] at k;split at k
   ·exact ar j C k
   ·cases k)
 obtain⟨a,I⟩:=ξ (grownCap w (l.length+1) l 149);obtain⟨y,J⟩:∃y:Array Value,y=(l.flatten.take (i*3)).toArray++Builtin.zeroCells (Value.agg #["",'0',false]).cells (l.length+1-i)++Builtin.zeroCells (Value.agg #["",'0',false]).cells (a-(l.length+1)):=⟨_,rfl⟩;obtain⟨m,D⟩:=ξ (w.drew.alloc (.cells y 149));have ao:∀n,(Builtin.append_ #[71,3] n #[.slice (some ⟨g,off,none⟩) i l,.int .i64 ((l:Int)+1-(i:Int))]).run prog w= .ok (.slice (some ⟨w,0,none⟩) (l.length+1) a) m:=λn=>by
  have h:=Lib.run_append_grow_zeros w 71 3 n 149 aw _ .i64 .i64 underlying71 underlying3 al a1 (some ⟨g,off,none⟩) i l (l.flatten.take (i*3)) YO (l.length+1-i) om (by rw[O];omega) om om (by rw[ad];omega) (by rw[ad,T];exact growslice_fits aZ om);rw[T] at h;rw[an,D,J,I];exact h
 have a7:l+1<=a:=by rw[I];exact grownCap_ge w _ _ _
 have a4:a<=9223372036854775807:=by
  have:=grownCap_le_maxLen w (l.length+1) l 149 (by unfold maxLen;omega);rw[<-I] at this;unfold maxLen at this;omega
 have aQ:y.size=a*3:=by
  have av:∀aa,(Builtin.zeroCells (Value.agg #["",'0',false]).cells aa).size=aa*3:=λaa=>by simp[Builtin.zeroCells,Value.cells]
  rw[J,Array.size_append,Array.size_append,size_toArray,aq,av,av];omega
 have E:m.heap[w.heap.size]? =some (.cells y 149 (0,0)):=by rw[D];exact zJ _ rfl
 have L:∀b,b<w.heap.size->m.heap[b]? =w.heap[b]? :=λb P=>by rw[D];exact Below.heap_alloc _ _ b P
 have M:∀s,s<a*3->(m.cell? ⟨w,s,none⟩).isSome=true:=λs am=>by
  rw[cell_of_row _ w _ _ _ (0,0) E,Array.getElem?_eq_getElem om];rfl
 have aj:=(zB E).2;have aT:∀n,(Builtin.copy_ #[71,71] n #[.slice (some ⟨w,i*3,none⟩) (l.length+1-i) (a-i),.slice (some ⟨N,0,none⟩) 1 c]).run prog m= .ok (goInt (Nat.min 1 (l.length+1-i))) (m.setCells w (i*3) x):=λn=>
  z9g m _ _ n 149 3 w (i*3) (l.length+1-i) (a-i) ⟨N,0,none⟩ 1 c x underlying71 ap (by rw[hx];simp only[Nat.min_def];split<;>omega)
   (λj C k=>by
    rw[Addr.add_lit,World.cell?_of_block (L N aP),cell_of_row _ N _ _ _ (0,0) ae];simpa using k)
   (λj k=>M _ om) (λj k=>aj _) au
 obtain⟨d,o⟩:=ξ (m.setCells w (i*3) x);rw[<-o] at aT;have Q:∀j,j<x.length->(m.cell? ⟨w,i*3+j,none⟩).isSome=true:=λj k=>M _ om
 have V:∀s,s<a*3->(d.cell? ⟨w,s,none⟩).isSome=true:=λs am=>by
  rw[o];exact zEj _ _ _ _ Q _ (M s am)
 have ag:∀n,(Builtin.copy_ #[71,71] n #[.slice (some ⟨w,(i+1)*3,none⟩) (l.length+1-(i+1)) (a-(i+1)),.slice (some ⟨g,off+i*3,none⟩) (l.length-i) (l.length-i)]).run prog d.drew= .ok (goInt (Nat.min (l.length-i) (l.length+1-(i+1)))) (d.drew.setCells w ((i+1)*3) (l.flatten.drop (i*3))):=λn=>
  z9g d.drew _ _ n 149 3 w ((i+1)*3) (l.length+1-(i+1)) (a-(i+1)) ⟨g,off+i*3,none⟩ (l.length-i) (l.length-i) (l.flatten.drop (i*3)) underlying71 ap (by rw[aU];simp only[Nat.min_def];split<;>omega)
   (λj C k=>by
    show d.cell? _=_
    rw[Addr.add_lit,Nat.add_assoc,o,World.cell?_setCells_out _ _ _ _ _ (λe _=>absurd e (by omega:g≠w)),World.cell?_of_block (L g aV)];exact ar (i*3+j) C (by rwa [getElem?_drop] at k))
   (λj k=>V _ om) (λj k=>by show d.frozen? _=_;rw[o,World.frozen?_setCells];exact aj _) (λC a0=>aY C (mem_of_mem_drop a0))
 have ah:∀j,j<(l.flatten.drop (i*3)).length->(d.drew.cell? ⟨w,(i+1)*3+j,none⟩).isSome=true:=λj k=>V _ om
 have v:=z1f w x m (i*3);have B:=z1f w (l.flatten.drop (i*3)) d.drew ((i+1)*3);rw[<-o] at v;have az:=zh (show zDp l i x (.slice (some ⟨g,off,none⟩) l l) w (.returned (.slice (some ⟨w,0,none⟩) (l.length+1) a)) (d.drew.setCells w ((i+1)*3) (l.flatten.drop (i*3))) from by
  have aX:(l.take i++x::l.drop i).length=l.length+1:=by simp;omega
  obtain⟨aI,ac,aB⟩:=z4w x m (i*3) y E;rw[<-o] at ac;obtain⟨_,aG,aH⟩:=z4w (l.flatten.drop (i*3)) d.drew ((i+1)*3) aI ac;have H:(bW w m:Prop):=by rw[D];exact zbr.drew.alloc (znl _) _
  refine⟨_,rfl,?_,⟨B.1.trans (v.1.trans H.os),B.2.1.trans (v.2.1.trans H.tape),B.2.2.1.trans (v.2.2.1.trans H.output),?_,λb P _=>?_⟩,.inr ⟨_,rfl,znl _⟩⟩
  ·rw[<-aX];refine RowC.of_cells (zMx K ⟨hx,au⟩) aG om (by unfold maxLen;omega) (by rw[aH,aB];omega) λt u U=>?_
   rw[Nat.zero_add];rcases zKi aW (λG F=>(K G F).1) hx U with ⟨ab,z⟩|⟨j,rfl,z⟩|⟨j,rfl,z⟩
   ·rw[z7b (.inl om)];show d.cell? _=_
    rw[o,z7b (.inl om),cell_of_row _ w _ _ _ (0,0) E,J,Array.append_assoc,Array.getElem?_append_left (by rw[size_toArray,aq];exact ab)];simp only[getElem?_toArray];rw[getElem?_take,if_pos ab];exact z
   ·have k:j<3:=by rw[<-hx];exact(zge z).1
    rw[z7b (.inl om)];show d.cell? _=_
    rw[o];exact zDo Q z
   ·rw[show i*3+3+j=(i+1)*3+j by omega];exact zDo ah z
  ·rw[B.2.2.2.1];show w<=d.heap.size
   rw[v.2.2.2.1];exact H.size
  ·have af:b≠w:=om
   rw[B.2.2.2.2 b af];show d.heap[b]? =_
   rw[v.2.2.2.2 b af];exact L b P)
 have ax:=zh ao;have bd:IntKind.i64.wrap ((i:Int)+1)=(i:Int)+1:=by rw[IntKind.wrap_i64];omega
 have a8:(0:Int)<=(i:Int)+1:=om
 have bc:((i:Int)+1).toNat=i+1:=om
 have a9:(i:Int)<=(l:Int)+1:=om
 have ba:(i:Int)+1<=(l:Int)+1:=om
 have a5:¬(a=i):=om
 have a6:¬(a=i+1):=om
 have bb:¬(l=i):=om
 have ay:=zh ag;clear ao D o Q ah v B M V ag an T YO J I aQ E L;go_enter func162,ntmps162
 go_wp2_with (at_builtin;refine Lib.wpList_append_run _ rfl _ _ _ _ rfl _ _ rfl rfl _ _ (ax.o _) ?_)
 go_region_law (refine zG7 rfl (.tmp 50) (.tmp 53) 71 71 rfl (.slice (some ⟨w,(i+1)*3,none⟩) (l.length+1-(i+1)) (a-(i+1))) (.slice (some ⟨g,off+i*3,none⟩) (l.length-i) (l.length-i)) (by simp[Act.eval,Act.put]) (by simp[Act.eval,Act.put]) (ay.o _) ?_)
 go_wp2;go_ret;exact az
theorem zUz (l:List (List Value)) (v:Value) (w:World) (i:Nat) (hi:i<=l) (x:List Value) (hx:x.length=3) (g:∀u∈x,u.oneCell'=true) (N c:Nat) (d:w.heap[N]? =some (.cells x.toArray 149 (0,0))) (h:RowC 149 3 w v l) (hl:l.length<=9999) (q:v.ownBlock≠some N):
  Calls prog 162 #[v,i,.slice (some ⟨N,0,none⟩) 1 c] w (zDp l i x v w):=by
 by_cases n:i=l
 ·subst n;exact zOc l v w x hx g N c d h hl
 have m:=h;rcases h.2 with ⟨rfl,rfl⟩|⟨k,o,a,t,rfl,_⟩
 ·simp at hi;exact absurd hi n
 by_cases s:l+1<=a
 ·exact zM5 l k o a w i om x hx g N c d m hl (λe=>q (by rw[e];rfl)) s
 exact zM6 l k o a w i om x hx g N c d m hl om
end
section
open Go.RowKit Go.Deep
def z4m (c:Call) (dv:Value):List Value:=[.int .i64 c.kind,.string c.user,.string c.folder,.string c.name,.string c.other,.int .i64 c.role,.int .i64 c.version,dv]
def z42 (R:RM) (c:Call) (dv:Value) (st:State) (done late:Bool):List Value:=
 [c.kind,c.user,c.folder,c.name,c.other,c.role,c.version,dv,st.turn,(R .us).v,(R .de).v,(R .fo).v,done,late]
structure WK (X:Nat->Prop) (base bw:Nat) (W:World) (R:RM) (c:Call) (dv:Value) (st:State) (done late:Bool):Prop where
 os:OS base W R
 is:IsSt (Imm X bw R W) W R st
 box:W.heap[bw]? =some (.cells (z42 R c dv st done late).toArray 112 (0,0))
 call:z09 (Imm X bw R W) W (z4m c dv) c
 nb:¬z01 R bw
 bb:base<=bw
 nx:∀b,z01 R b\/b=bw->¬X b
 xl:∀b,X b->b<W.heap.size
section
variable {X Y:Nat->Prop} {base bw:Nat} {W W':World} {R R':RM} {c:Call} {dv:Value} {st st':State} {done done' late:Bool}
theorem WK.lt (h:WK X base bw W R c dv st done late):bw<W:=zI h.box
theorem WK.base_le (h:WK X base bw W R c dv st done late):base<=W:=by have:=h.lt;have:=h.bb;omega
theorem WK.cells (h:WK X base bw W R c dv st done late):(∀j u,(z42 R c dv st done late)[j]? =some u->(cL W bw j u:Prop))/\∀j,W.frozen? (aD bw j)=false:=
 ⟨λj u a=>(zB h.box).1 j u (by rw[getElem?_toArray];exact a),(zB h.box).2⟩
theorem WK.below (h:WK X base bw W R c dv st done late) (hb:(bW W W':Prop)):WK X base bw W' R c dv st done late:=
 have a:=(Mut.below (bw:=bw) (R:=R) hb).kept
 ⟨h.os.below hb,h.is.keep a,by rw[hb.block bw h.lt];exact h.box,YH h.call a,h.nb,h.bb,h.nx,λb d=>zll (h.xl b d) hb.size⟩
theorem WK.turn (h:WK X base bw W R c dv st done late) (m:Mut bw R W R' W') (os:OS base W' R') (is:IsSt (Imm X bw R' W') W' R' st') (d:W'.heap[bw]? =some (.cells (z42 R' c dv st' done' late).toArray 112 (0,0))):WK X base bw W' R' c dv st' done' late:=
 ⟨os,is,d,YH h.call m.kept,λe=>(m.fresh bw e).elim h.nb λg=>by have:=h.lt;omega,h.bb,λb e a=>by
  rcases e with e|e
  ·rcases m.fresh b e with e|e
   ·exact h.nx b (.inl e) a
   ·have:=h.xl b a;omega
  ·exact h.nx b (.inr e) a,λb a=>zll (h.xl b a) m.but.size⟩
theorem ma1 (h:p:=by
 refine⟨h'.os,h.is.keep k,h'.box,YH h.call k,h.nb,h.bb,λb e hx=>?_,λb hx=>hx.elim (h'.xl b) λe=>om⟩;rcases hx with hx|hx
 ·exact h.nx b e hx
 rcases e with e|e
 ·have:=h.os.lt e;omega
 have:=h.lt;omega):p:=h
theorem WK.enter (h:WK X base bw W R c dv st done late) (hb:(bW W W':Prop)) (hz:W<W'.heap.size):WK (λb=>X b\/b=W) base bw W' R c dv st done late:=by
 have h':=h.below hb;have k:Kept (Imm X bw R W) (Imm (λb=>X b\/b=W) bw R W') W W':=λb ⟨a,d,g,m⟩ n=>⟨⟨om,d,g,λe=>e.elim m λe=>om⟩,hb.block b a⟩
 exact ma1
theorem WK.leave (h:WK Y base bw W R c dv st done late) (hb:ButB Y W W') (a:∀b,X b->Y b):WK X base bw W' R c dv st done late:=by
 have n:Kept (Imm Y bw R W) (Imm X bw R W') W W':=λb ⟨g,o,q,k⟩ s=>⟨⟨zll g hb.size,o,q,λe=>k (a b e)⟩,hb.block b g k⟩
 exact⟨h.os.to λb m=>hb.block b (h.os.lt m) (h.nx b (.inl m)),h.is.keep n,by rw[hb.block bw h.lt (h.nx bw (.inr rfl))];exact h.box,YH h.call n,h.nb,h.bb,λb e d=>h.nx b e (a b d),λb d=>zll (h.xl b (a b d)) hb.size⟩
theorem WK.state (h:WK X base bw W R c dv st done late):Z5 (λ_=>True) W [st.turn,(R .us).v,(R .de).v,(R .fo).v] st:=h.is.state h.os
theorem WK.set (h:WK X base bw W R c dv st done late) (d:(z42 R c dv st done late).set j u=z42 R c dv st' done' late)
  (is:∀S W,IsSt S W R st->IsSt S W R st'):
  WK X base bw (W.setCell (aD bw j) u) R c dv st' done' late/\Mut bw R W R (W.setCell (aD bw j) u):=by
 have a:Mut bw R W R (W.setCell (aD bw j) u):=⟨(ButB.refl _ W).set ⟨bw,j,none⟩ u (.inl rfl),λ_ h=> .inl h⟩;refine⟨h.turn a (h.os.to λb g=>?_) ((is _ _ h.is).keep a.kept) (zH u h.box ?_),a⟩
 ·exact Below.heap_setCell _ _ _ _ λe=>h.nb (by rw[<-show b=bw from e];exact g)
 rw[<-d];simp
theorem WK.setDone (h:WK X base bw W R c dv st done late) (b:Bool):WK X base bw (W.setCell (aD bw 12) b) R c dv st b late/\Mut bw R W R (W.setCell (aD bw 12) b):=
 h.set rfl λ_ _ h=>h
theorem WK.setTurn (h:WK X base bw W R c dv st done late) (n:Int) (hn:I64 n):WK X base bw (W.setCell (aD bw 8) n) R c dv { st with turn:=n } done late/\Mut bw R W R (W.setCell (aD bw 8) n):=
 h.set rfl λ_ _ h=>⟨hn,h.users,h.deps,h.fol,h.fo⟩
theorem WK.put (h:WK X base bw W R c dv st done late) (k:RK) (r:Row) (hb:ButB (λb=>(R k).v.ownBlock=some b) W W') (hr:RowC k.ty k.sz W' r.v r.cells) (hl:r.cells.length<=10000) (g:∀b,r.v.ownBlock=some b->(R k).v.ownBlock=some b\/W.heap.size<=b):
  OS base W' (zO R k r)/\Mut bw R W (zO R k r) W'/\W'.heap[bw]? =W.heap[bw]?/\¬z01 (zO R k r) bw:=by
 obtain⟨d,a⟩:=h.os.put (bw:=bw) h.base_le k r hb hr hl g;exact⟨d,a,hb.block bw h.lt λe=>h.nb ⟨k,e⟩,λe=>(a.fresh bw e).elim h.nb λhl=>by have:=h.lt;omega⟩
end
theorem lSq {a:Type} {l:List a} {x:a} (h:l[i]? =some x):l.set i x=l:=by
 apply ext_getElem?;intro j;rw[getElem?_set];split
 ·rename_i e;subst e;rw[if_pos (zge h).1,h]
 rfl
section
variable {S S':Nat->Prop} {W W':World} {R:RM} {i:Nat} {f:Folder} {st:State} {r:Row}
def yI (R:RM) (i:Nat) (a:List Value):Row:=⟨(R .fo).v,(R .fo).cells.set i a⟩
theorem IsSt.wrRow (h:IsSt S W R st) (d:st.folders[i]? =some f) (k:Kept S S' W W') {l:List Wrap} (hl:All2 (yL S' W') r.cells l):
  IsSt S' W' (zO (zO R (.wr i) r) .fo (yI R i ((hdr R i f).set 5 r.v))) { st with folders:=st.folders.set i { f with wraps:=l } }:=by
 obtain⟨_,g⟩:=h.fo i f d;have a:=g.keep k;refine h.setF d k (by simp[zO]) (by simp[zO]) (λn m=>by simp[zO,m]) (by simp[zO,yI,hdr]) ?_;exact⟨a.name,a.turn,by simpa[zO] using a.man,by simpa[zO] using a.ep,by simpa[zO] using a.itl,by simpa[zO] using a.it,by simpa[zO] using hl,by simpa[zO] using a.li⟩
theorem IsSt.maRow (h:IsSt S W R st) (d:st.folders[i]? =some f) (k:Kept S S' W W') {l:List Manifest} (hl:All2 (ZL S' W') r.cells l):
  IsSt S' W' (zO (zO R (.ma i) r) .fo (yI R i ((hdr R i f).set 2 r.v))) { st with folders:=st.folders.set i { f with manifests:=l } }:=by
 obtain⟨_,g⟩:=h.fo i f d;have a:=g.keep k;refine h.setF d k (by simp[zO]) (by simp[zO]) (λn m=>by simp[zO,m]) (by simp[zO,yI,hdr]) ?_;exact⟨a.name,a.turn,by simpa[zO] using hl,by simpa[zO] using a.ep,by simpa[zO] using a.itl,by simpa[zO] using a.it,by simpa[zO] using a.wr,by simpa[zO] using a.li⟩
theorem IsSt.epRow (h:IsSt S W R st) (d:st.folders[i]? =some f) (k:Kept S S' W W') {l:List Epoch} (hl:All2 (YE S' W') r.cells l):
  IsSt S' W' (zO (zO R (.ep i) r) .fo (yI R i ((hdr R i f).set 3 r.v))) { st with folders:=st.folders.set i { f with epochs:=l } }:=by
 obtain⟨_,g⟩:=h.fo i f d;have a:=g.keep k;refine h.setF d k (by simp[zO]) (by simp[zO]) (λn m=>by simp[zO,m]) (by simp[zO,yI,hdr]) ?_;exact⟨a.name,a.turn,by simpa[zO] using a.man,by simpa[zO] using hl,by simpa[zO] using a.itl,by simpa[zO] using a.it,by simpa[zO] using a.wr,by simpa[zO] using a.li⟩
theorem IsSt.liRow (h:IsSt S W R st) (d:st.folders[i]? =some f) (k:Kept S S' W W') {l:List Link} (hl:All2 (z0g S' W') r.cells l):
  IsSt S' W' (zO (zO R (.li i) r) .fo (yI R i ((hdr R i f).set 6 r.v))) { st with folders:=st.folders.set i { f with links:=l } }:=by
 obtain⟨_,g⟩:=h.fo i f d;have a:=g.keep k;refine h.setF d k (by simp[zO]) (by simp[zO]) (λn m=>by simp[zO,m]) (by simp[zO,yI,hdr]) ?_;exact⟨a.name,a.turn,by simpa[zO] using a.man,by simpa[zO] using a.ep,by simpa[zO] using a.itl,by simpa[zO] using a.it,by simpa[zO] using a.wr,by simpa[zO] using hl⟩
theorem IsSt.itNew (h:IsSt S W R st) (hf:st.folders[i]? =some f) (k:Kept S S' W W') {n:ByteArray} (hn:n.size<=140737488355328) (hr:r.cells=(R (.it i)).cells++[[.string n,.slice none 0 0]]):
  IsSt S' W' (zO (zO (zO R (.it i) r) (.ve i f.items.length) ⟨.slice none 0 0,[]⟩) .fo (yI R i ((hdr R i f).set 4 r.v))) { st with folders:=st.folders.set i { f with items:=f.items++[⟨n,[]⟩] } }:=by
 obtain⟨_,h2⟩:=h.fo i f hf;have h2':=h2.keep k;refine h.setF hf k (by simp[zO]) (by simp[zO]) (λi' hi'=>by simp[zO,hi']) (by simp[zO,yI,hdr]) ?_;refine⟨h2'.name,h2'.turn,by simpa[zO] using h2'.man,by simpa[zO] using h2'.ep,by simp[zO,hr,h2'.itl],λj x hx=>?_,by simpa[zO] using h2'.wr,by simpa[zO] using h2'.li⟩;rcases Nat.lt_trichotomy j f.items.length with hj | hj | hj
 ·rw[qLlx hj] at hx;have hne:¬j=f.items.length:=by omega
  have:=h2'.it j x hx;refine⟨?_,this.2.1,by simpa[zO,hne] using this.2.2⟩;have h3:(zO (zO (zO R (.it i) r) (.ve i f.items.length) ⟨.slice none 0 0,[]⟩) .fo (yI R i ((hdr R i f).set 4 r.v)) (.it i)).cells=r.cells:=by simp[zO]
  rw[h3,hr,qLlx (by rw[h2'.itl];exact hj),this.1];simp[zO,hne]
 ·subst hj;rw[qLrx (znl _),Nat.sub_self] at hx;obtain rfl:=zsi hx;refine⟨?_,hn,by simpa[zO] using All2.nil⟩;have h3:(zO (zO (zO R (.it i) r) (.ve i f.items.length) ⟨.slice none 0 0,[]⟩) .fo (yI R i ((hdr R i f).set 4 r.v)) (.it i)).cells=r.cells:=by simp[zO]
  rw[h3,hr,qLrx (by rw[h2'.itl];exact znl _),h2'.itl,Nat.sub_self];simp[zO]
 rw[List.getElem?_eq_none (by simp;omega)] at hx;cases hx
theorem IsSt.veRow {x:Item} (h:IsSt S W R st) (n:st.folders[i]? =some f) (hx:f.items[j]? =some x) (k:Kept S S' W W') {l:List Version} (hl:All2 (yM S' W') r.cells l):
  IsSt S' W' (zO (zO R (.ve i j) r) (.it i) ⟨(R (.it i)).v,(R (.it i)).cells.set j [.string x.name,r.v]⟩) { st with folders:=st.folders.set i { f with items:=f.items.set j { x with versions:=l } } }:=by
 obtain⟨s,t⟩:=h.fo i f n;have a:=t.keep k;refine h.setF n k (by simp[zO]) (by simp[zO]) (λB z=>by simp[zO,z]) (by
  have e:hdr (zO (zO R (.ve i j) r) (.it i) ⟨(R (.it i)).v,(R (.it i)).cells.set j [.string x.name,r.v]⟩) i { f with items:=f.items.set j { x with versions:=l } }=hdr R i f:=by simp[hdr,zO]
  rw[e];have y:(zO (zO R (.ve i j) r) (.it i) ⟨(R (.it i)).v,(R (.it i)).cells.set j [.string x.name,r.v]⟩ .fo)=R .fo:=by simp[zO]
  rw[y,lSq s]) ?_
 refine⟨a.name,a.turn,by simpa[zO] using a.man,by simpa[zO] using a.ep,by simp[zO,a.itl],λm A d=>?_,by simpa[zO] using a.wr,by simpa[zO] using a.li⟩;have o:=(zge hx).1;have v:(zO (zO R (.ve i j) r) (.it i) ⟨(R (.it i)).v,(R (.it i)).cells.set j [.string x.name,r.v]⟩ (.it i)).cells=(R (.it i)).cells.set j [.string x.name,r.v]:=by simp[zO]
 rw[v,getElem?_set];dsimp only at d;rw[getElem?_set] at d;by_cases g:j=m
 ·subst g;rw[if_pos rfl,if_pos o] at d;obtain rfl:=zsi d;rw[if_pos rfl,if_pos (by rw[a.itl];exact o)];exact⟨by simp[zO],(a.it j x hx).2.1,by simpa[zO] using hl⟩
 rw[if_neg g] at d⊢;have q:¬m=j:=λe=>g e.symm
 have:=a.it m A d;exact⟨by simpa[zO,q] using this.1,this.2.1,by simpa[zO,q] using this.2.2⟩
theorem IsSt.fTurn (h:IsSt S W R st) (d:st.folders[i]? =some f) (k:Kept S S' W W') {n:Int} (hn:I64 n):
  IsSt S' W' (zO R .fo (yI R i ((hdr R i f).set 1 n))) { st with folders:=st.folders.set i { f with turn:=n } }:=by
 obtain⟨_,g⟩:=h.fo i f d;have a:=g.keep k;refine h.setF d k (by simp[zO]) (by simp[zO]) (λo m=>by simp[zO]) (by simp[zO,yI,hdr]) ?_;exact⟨a.name,hn,by simpa[zO] using a.man,by simpa[zO] using a.ep,by simpa[zO] using a.itl,by simpa[zO] using a.it,by simpa[zO] using a.wr,by simpa[zO] using a.li⟩
theorem IsSt.usRow (h:IsSt S W R st) (k:Kept S S' W W') {l:List User} (hl:All2 (z0z S' W') r.cells l):IsSt S' W' (zO R .us r) { st with users:=l }:=by
 have d:=h.keep k;exact⟨d.turn,by simpa[zO] using hl,by simpa[zO] using d.deps,by simpa[zO] using d.fol,λi f g=>⟨by simpa[zO,hdr] using (d.fo i f g).1,by
  have a:=(d.fo i f g).2;exact⟨a.name,a.turn,by simpa[zO] using a.man,by simpa[zO] using a.ep,by simpa[zO] using a.itl,by simpa[zO] using a.it,by simpa[zO] using a.wr,by simpa[zO] using a.li⟩⟩⟩
theorem IsSt.deRow (h:IsSt S W R st) (k:Kept S S' W W') {l:List Pair} (hl:All2 (z10 S' W') r.cells l):IsSt S' W' (zO R .de r) { st with deposits:=l }:=by
 have d:=h.keep k;exact⟨d.turn,by simpa[zO] using d.users,by simpa[zO] using hl,by simpa[zO] using d.fol,λi f g=>⟨by simpa[zO,hdr] using (d.fo i f g).1,by
  have a:=(d.fo i f g).2;exact⟨a.name,a.turn,by simpa[zO] using a.man,by simpa[zO] using a.ep,by simpa[zO] using a.itl,by simpa[zO] using a.it,by simpa[zO] using a.wr,by simpa[zO] using a.li⟩⟩⟩
theorem IsSt.snocF {R':RM} (h:IsSt S W R st) {f':Folder} (k:Kept S S' W W') (y:R' .us=R .us) (t:R' .de=R .de)
  (v:∀a,a≠st.folders.length->R' (.ma a)=R (.ma a)/\R' (.ep a)=R (.ep a)/\R' (.it a)=R (.it a)/\R' (.wr a)=R (.wr a)/\R' (.li a)=R (.li a)/\∀j,R' (.ve a j)=R (.ve a j))
  (n:(R' .fo).cells=(R .fo).cells++[hdr R' st.folders f']) (hF:IsFo S' W' R' st.folders f'):IsSt S' W' R' { st with folders:=st.folders++[f'] }:=by
 have m:=h.keep k;refine⟨h.turn,by rw[y];exact m.users,by rw[t];exact m.deps,by rw[n];simp[h.fol],λj o d=>?_⟩;rcases Nat.lt_trichotomy j st.folders with g|g|g
 ·dsimp only at d;rw[qLlx g] at d;obtain⟨s,g2⟩:=m.fo j o d;obtain⟨a1,a2,a3,a4,a5,a6⟩:=v j om;refine⟨?_,?_⟩
  ·rw[n,qLlx (by rw[h.fol];exact g),s];unfold hdr;rw[a1,a2,a3,a4,a5]
  exact mbc
 ·subst g;dsimp only at d;rw[qLrx (znl _),Nat.sub_self] at d;obtain rfl:=zsi d;refine⟨?_,hF⟩;rw[n,qLrx (by rw[h.fol];exact znl _),h.fol,Nat.sub_self];rfl
 rw[getElem?_eq_none (by simp;omega)] at d;cases d
end
end
section
open Go.RowKit Go.Deep
def z90 (sz n:Nat) (a:List Value):List (List Value):=(range n).map λi=>(a.drop (i*sz)).take sz
theorem z4n (sz n:Nat) (a:List Value):(z90 sz n a).length=n:=by simp[z90]
theorem zFz {sz n:Nat} {a:List Value} (hi:i<n):(z90 sz n a)[i]? =some ((a.drop (i*sz)).take sz):=by
 unfold z90;rw[getElem?_map,getElem?_range hi];rfl
theorem Grow.toRow {K:Type} {e:TypeId} {sz:Nat} {Q:Rp K} (o:RpOk sz Q) (ab:0<sz) {B S:Nat->Prop} {base:Nat} {v:Value} {l:List K} (h:Grow e sz Q B w base v l) (P:∀b,¬B b->S b):
  ∃cells,RowC e sz w v cells/\All2 (Q S w) cells l/\∀b,v.ownBlock=some b->base<=b:=by
 obtain⟨af,ag,q,⟨ad,G⟩,U⟩:=h;have x:All2 (Q S w) (z90 sz l q) l:=⟨z4n _ _ _,λi y z m n=>by
  have a:i<l:=(zge n).1;rw[zFz a] at m;obtain rfl:=zsi m;obtain⟨A,ae,N,O⟩:=U i z n;have e:(q.drop (i*sz)).take sz=A:=by
   have al:i*sz+sz<=l.length*sz:=by rw[<-Nat.succ_mul];exact Nat.mul_le_mul_right _ a
   apply ext_getElem?;intro j;rw[getElem?_take];split
   ·rename_i aj;rw[getElem?_drop];have I:A[j]? =some A[j]:=qLgx om;rw[I];exact N j _ I
   ·rw[getElem?_eq_none om]
  rw[e];exact o.keep O λb d ak=>⟨P b d.2.1,rfl⟩⟩
 refine⟨z90 sz l q,⟨λy m=>?_,?_⟩,x,λb d=>?_⟩
 ·obtain⟨i,a⟩:=getElem?_of_mem m;have g:i<l:=by have:=(zge a).1;rwa [z4n] at this
  have k:=x.2 i y _ a (qLgx g);exact⟨o.len k,o.one k⟩
 ·rcases G with ⟨rfl,F⟩|⟨E,C,D,rfl,d,V,Z,T,ai,ac⟩
  ·left;exact⟨rfl,eq_nil_of_length_eq_zero (by rw[z4n,F])⟩
  right;refine⟨E,0,C,D,by rw[z4n],V,by rw[z4n];exact Z,T,om,λJ u k=>?_⟩;obtain⟨i,j,y,L,M,s,t⟩:=zJr ab (l:=z90 sz l q) (λz n=>by
   obtain⟨i,a⟩:=getElem?_of_mem n;have g:i<l:=by have:=(zge a).1;rwa [z4n] at this
   exact o.len (x.2 i z _ a (qLgx g))) k
  have g:i<l:=by have:=(zge s).1;rwa [z4n] at this
  rw[zFz g] at s;obtain rfl:=zsi s;rw[getElem?_take,if_pos M,getElem?_drop,<-L] at t;rw[Nat.zero_add,<-Array.getElem?_toList];have aa:J<l.length*sz:=by rw[<-ad];exact(zge t).1
  have H:=congrArg (λl=>l[J]?) ac;simp only[getElem?_take,if_pos aa] at H;rw[H];exact t
 rcases G with ⟨rfl,F⟩|⟨E,C,D,rfl,ah,_⟩
 ·cases d
 simp only[Value.ownBlock,Option.some.injEq] at d;omega
def z2n {g:Type} (e:TypeId) (sz:Nat) (Q:Rp g) (S:Nat->Prop) (l:List g) (w:World) (x:Ending) (w':World):Prop:=
 (∃a d,x= .returned a/\RowC e sz w' a d/\All2 (Q S w') d l/\∀b,a.ownBlock=some b->w.heap.size<=b)/\bW w w'
theorem zSk (w:World) (a:Option Addr) (n c:Nat):(binOp .eql 30 (.slice a n c) ()).run prog w= .ok a.isNone w:=by
 simp only[binOp];simp[run_equal_slice_nil w _ _ a n c underlying30]
theorem maj (h:p:=by
 exact⟨⟨_,cells,rfl,k1,k2,k3⟩,Below.grown (Below.alloc zbr (znl _) _) gg1 sm λb hb=>by have:=zsi (show some w.heap.size=some b from hb);omega⟩):p:=h
theorem man (h:p:=by
 go_wp2;go_ret;exact⟨⟨_,[],rfl,RowC.nil _,All2.nil,λb hb=>by cases hb⟩,Below.refl _ _⟩):p:=h
theorem mZ1 (h:p:=by
 cases l with
 | nil=>rfl
 | cons x r=>obtain⟨_,_,_,h,_⟩:=hs 0 x rfl;cases h):p:=h
theorem zNv (l:List User) (v:Value) (w:World) (S:Nat->Prop) (h:Sl 2 z0z S w v l) (C:l.length<=10000):
  Calls prog 70 #[v] w (z2n 91 2 z0z S l w):=by
 obtain⟨A,s,z,m,n⟩:=info_parts (show(prog.info? 91).map (λi=>(i.zero,i.size,i.bytes))=some (some (.agg #["",false]),2,24) from kr);obtain⟨g,_,rfl,d,q,_,hs⟩:=h;unfold maxLen at q;have D:=zSk;rcases g with _|k
 ·obtain rfl:l=[]:=by
   exact mZ1
  clear hs;go_enter func70,ntmps70
  exact man
 have y:SlAt 2 z0z (z21 (λb=>¬S b) (w.alloc (.cells #[] 91)) (.slice (some ⟨w,0,none⟩) 0 0)) (w.alloc (.cells #[] 91)) (some k) l:=
  hs.keep z1a dc (λb hb d=>⟨⟨by simp;omega,λh=>h hb,λo=>by simp only[Value.ownBlock,Option.some.injEq] at o;omega⟩,heap_alloc_old _ _ d⟩)
 clear hs;go_enter func70,ntmps70
 go_wp2_with (at_builtin;go_loud (refine YP (R:=z0z) _ rfl (.tmp 5) (.tmp 6) 30 rfl 91 A _ 2 24 underlying30 s z m n rfl dc z1a w (by go_size) _ _ rfl (Grow.empty (heap_alloc_new _ _) (znl _)) _ _ _ rfl _ rfl y (by simp;omega) dc ?_);intro E F a gg1 B;rw[nil_append] at a;obtain⟨_,_,_,rfl,t⟩:=a.shape';clear t)
 go_ret;obtain⟨cells,k1,k2,k3⟩:=Grow.toRow z1a dc a λb hb=>Classical.byContradiction hb
 exact maj
theorem zSl (w:World) (a:Option Addr) (n c:Nat):(binOp .eql 31 (.slice a n c) ()).run prog w= .ok a.isNone w:=by
 simp only[binOp];simp[run_equal_slice_nil w _ _ a n c underlying31]
theorem zNw (l:List Pair) (v:Value) (w:World) (S:Nat->Prop) (h:Sl 2 z10 S w v l) (C:l.length<=10000):
  Calls prog 71 #[v] w (z2n 126 2 z10 S l w):=by
 obtain⟨A,s,z,m,n⟩:=info_parts (show(prog.info? 126).map (λi=>(i.zero,i.size,i.bytes))=some (some (.agg #["",""]),2,32) from kr);obtain⟨g,_,rfl,d,q,_,hs⟩:=h;unfold maxLen at q;have D:=zSl;rcases g with _|k
 ·obtain rfl:l=[]:=by
   exact mZ1
  clear hs;go_enter func71,ntmps71
  exact man
 have y:SlAt 2 z10 (z21 (λb=>¬S b) (w.alloc (.cells #[] 126)) (.slice (some ⟨w,0,none⟩) 0 0)) (w.alloc (.cells #[] 126)) (some k) l:=
  hs.keep z1r dc (λb hb d=>⟨⟨by simp;omega,λh=>h hb,λo=>by simp only[Value.ownBlock,Option.some.injEq] at o;omega⟩,heap_alloc_old _ _ d⟩)
 clear hs;go_enter func71,ntmps71
 go_wp2_with (at_builtin;go_loud (refine YP (R:=z10) _ rfl (.tmp 5) (.tmp 6) 31 rfl 126 A _ 2 32 underlying31 s z m n rfl dc z1r w (by go_size) _ _ rfl (Grow.empty (heap_alloc_new _ _) (znl _)) _ _ _ rfl _ rfl y (by simp;omega) dc ?_);intro E F a gg1 B;rw[nil_append] at a;obtain⟨_,_,_,rfl,t⟩:=a.shape';clear t)
 go_ret;obtain⟨cells,k1,k2,k3⟩:=Grow.toRow z1r dc a λb hb=>Classical.byContradiction hb
 exact maj
theorem zNx (w:World) (a:Option Addr) (n c:Nat):(binOp .eql 32 (.slice a n c) ()).run prog w= .ok a.isNone w:=by
 simp only[binOp];simp[run_equal_slice_nil w _ _ a n c underlying32]
theorem zK3 (l:List Folder) (v:Value) (w:World) (S:Nat->Prop) (h:Sl 7 Z6 S w v l) (C:l.length<=10000):
  Calls prog 72 #[v] w (z2n 74 7 Z6 S l w):=by
 obtain⟨A,s,z,m,n⟩:=info_parts (show(prog.info? 74).map (λi=>(i.zero,i.size,i.bytes))=some (some (.agg oF),7,144) from kr);obtain⟨g,_,rfl,d,q,_,hs⟩:=h;unfold maxLen at q;have D:=zNx;rcases g with _|k
 ·obtain rfl:l=[]:=by
   exact mZ1
  clear hs;go_enter func72,ntmps72
  exact man
 have y:SlAt 7 Z6 (z21 (λb=>¬S b) (w.alloc (.cells #[] 74)) (.slice (some ⟨w,0,none⟩) 0 0)) (w.alloc (.cells #[] 74)) (some k) l:=
  hs.keep rFolder_ok dc (λb hb d=>⟨⟨by simp;omega,λh=>h hb,λo=>by simp only[Value.ownBlock,Option.some.injEq] at o;omega⟩,heap_alloc_old _ _ d⟩)
 clear hs;go_enter func72,ntmps72
 go_wp2_with (at_builtin;go_loud (refine YP (R:=Z6) _ rfl (.tmp 5) (.tmp 6) 32 rfl 74 A _ 7 144 underlying32 s z m n rfl dc rFolder_ok w (by go_size) _ _ rfl (Grow.empty (heap_alloc_new _ _) (znl _)) _ _ _ rfl _ rfl y (by simp;omega) dc ?_);intro E F a gg1 B;rw[nil_append] at a;obtain⟨_,_,_,rfl,t⟩:=a.shape';clear t)
 go_ret;obtain⟨cells,k1,k2,k3⟩:=Grow.toRow rFolder_ok dc a λb hb=>Classical.byContradiction hb
 exact maj
theorem zK4 (w:World) (a:Option Addr) (n c:Nat):(binOp .eql 68 (.slice a n c) ()).run prog w= .ok a.isNone w:=by
 simp only[binOp];simp[run_equal_slice_nil w _ _ a n c underlying68]
theorem zGz (l:List Manifest) (v:Value) (w:World) (S:Nat->Prop) (h:Sl 8 ZL S w v l) (C:l.length<=10000):
  Calls prog 73 #[v] w (z2n 84 8 ZL S l w):=by
 obtain⟨A,s,z,m,n⟩:=info_parts (show(prog.info? 84).map (λi=>(i.zero,i.size,i.bytes))=some (some (.agg oM),8,120) from kr);obtain⟨g,_,rfl,d,q,_,hs⟩:=h;unfold maxLen at q;have D:=zK4;rcases g with _|k
 ·obtain rfl:l=[]:=by
   exact mZ1
  clear hs;go_enter func73,ntmps73
  exact man
 have y:SlAt 8 ZL (z21 (λb=>¬S b) (w.alloc (.cells #[] 84)) (.slice (some ⟨w,0,none⟩) 0 0)) (w.alloc (.cells #[] 84)) (some k) l:=
  hs.keep z16 dc (λb hb d=>⟨⟨by simp;omega,λh=>h hb,λo=>by simp only[Value.ownBlock,Option.some.injEq] at o;omega⟩,heap_alloc_old _ _ d⟩)
 clear hs;go_enter func73,ntmps73
 go_wp2_with (at_builtin;go_loud (refine YP (R:=ZL) _ rfl (.tmp 5) (.tmp 6) 68 rfl 84 A _ 8 120 underlying68 s z m n rfl dc z16 w (by go_size) _ _ rfl (Grow.empty (heap_alloc_new _ _) (znl _)) _ _ _ rfl _ rfl y (by simp;omega) dc ?_);intro E F a gg1 B;rw[nil_append] at a;obtain⟨_,_,_,rfl,t⟩:=a.shape';clear t)
 go_ret;obtain⟨cells,k1,k2,k3⟩:=Grow.toRow z16 dc a λb hb=>Classical.byContradiction hb
 exact maj
theorem zQ8 (w:World) (a:Option Addr) (n c:Nat):(binOp .eql 69 (.slice a n c) ()).run prog w= .ok a.isNone w:=by
 simp only[binOp];simp[run_equal_slice_nil w _ _ a n c underlying69]
theorem zLz (l:List Epoch) (v:Value) (w:World) (S:Nat->Prop) (h:Sl 5 YE S w v l) (C:l.length<=10000):
  Calls prog 74 #[v] w (z2n 130 5 YE S l w):=by
 obtain⟨A,s,z,m,n⟩:=info_parts (show(prog.info? 130).map (λi=>(i.zero,i.size,i.bytes))=some (some (.agg oE),5,64) from kr);obtain⟨g,_,rfl,d,q,_,hs⟩:=h;unfold maxLen at q;have D:=zQ8;rcases g with _|k
 ·obtain rfl:l=[]:=by
   exact mZ1
  clear hs;go_enter func74,ntmps74
  exact man
 have y:SlAt 5 YE (z21 (λb=>¬S b) (w.alloc (.cells #[] 130)) (.slice (some ⟨w,0,none⟩) 0 0)) (w.alloc (.cells #[] 130)) (some k) l:=
  hs.keep z2e dc (λb hb d=>⟨⟨by simp;omega,λh=>h hb,λo=>by simp only[Value.ownBlock,Option.some.injEq] at o;omega⟩,heap_alloc_old _ _ d⟩)
 clear hs;go_enter func74,ntmps74
 go_wp2_with (at_builtin;go_loud (refine YP (R:=YE) _ rfl (.tmp 5) (.tmp 6) 69 rfl 130 A _ 5 64 underlying69 s z m n rfl dc z2e w (by go_size) _ _ rfl (Grow.empty (heap_alloc_new _ _) (znl _)) _ _ _ rfl _ rfl y (by simp;omega) dc ?_);intro E F a gg1 B;rw[nil_append] at a;obtain⟨_,_,_,rfl,t⟩:=a.shape';clear t)
 go_ret;obtain⟨cells,k1,k2,k3⟩:=Grow.toRow z2e dc a λb hb=>Classical.byContradiction hb
 exact maj
theorem zSm (w:World) (a:Option Addr) (n c:Nat):(binOp .eql 70 (.slice a n c) ()).run prog w= .ok a.isNone w:=by
 simp only[binOp];simp[run_equal_slice_nil w _ _ a n c underlying70]
theorem zNy (l:List Item) (v:Value) (w:World) (S:Nat->Prop) (h:Sl 2 YG S w v l) (C:l.length<=10000):
  Calls prog 75 #[v] w (z2n 78 2 YG S l w):=by
 obtain⟨A,s,z,m,n⟩:=info_parts (show(prog.info? 78).map (λi=>(i.zero,i.size,i.bytes))=some (some (.agg #["",()]),2,40) from kr);obtain⟨g,_,rfl,d,q,_,hs⟩:=h;unfold maxLen at q;have D:=zSm;rcases g with _|k
 ·obtain rfl:l=[]:=by
   exact mZ1
  clear hs;go_enter func75,ntmps75
  exact man
 have y:SlAt 2 YG (z21 (λb=>¬S b) (w.alloc (.cells #[] 78)) (.slice (some ⟨w,0,none⟩) 0 0)) (w.alloc (.cells #[] 78)) (some k) l:=
  hs.keep z20 dc (λb hb d=>⟨⟨by simp;omega,λh=>h hb,λo=>by simp only[Value.ownBlock,Option.some.injEq] at o;omega⟩,heap_alloc_old _ _ d⟩)
 clear hs;go_enter func75,ntmps75
 go_wp2_with (at_builtin;go_loud (refine YP (R:=YG) _ rfl (.tmp 5) (.tmp 6) 70 rfl 78 A _ 2 40 underlying70 s z m n rfl dc z20 w (by go_size) _ _ rfl (Grow.empty (heap_alloc_new _ _) (znl _)) _ _ _ rfl _ rfl y (by simp;omega) dc ?_);intro E F a gg1 B;rw[nil_append] at a;obtain⟨_,_,_,rfl,t⟩:=a.shape';clear t)
 go_ret;obtain⟨cells,k1,k2,k3⟩:=Grow.toRow z20 dc a λb hb=>Classical.byContradiction hb
 exact maj
theorem zSn (w:World) (a:Option Addr) (n c:Nat):(binOp .eql 71 (.slice a n c) ()).run prog w= .ok a.isNone w:=by
 simp only[binOp];simp[run_equal_slice_nil w _ _ a n c underlying71]
theorem zNz (l:List Wrap) (v:Value) (w:World) (S:Nat->Prop) (h:Sl 3 yL S w v l) (C:l.length<=10000):
  Calls prog 76 #[v] w (z2n 149 3 yL S l w):=by
 obtain⟨A,s,z,m,n⟩:=info_parts (show(prog.info? 149).map (λi=>(i.zero,i.size,i.bytes))=some (some (.agg #["",'0',false]),3,32) from kr);obtain⟨g,_,rfl,d,q,_,hs⟩:=h;unfold maxLen at q;have D:=zSn;rcases g with _|k
 ·obtain rfl:l=[]:=by
   exact mZ1
  clear hs;go_enter func76,ntmps76
  exact man
 have y:SlAt 3 yL (z21 (λb=>¬S b) (w.alloc (.cells #[] 149)) (.slice (some ⟨w,0,none⟩) 0 0)) (w.alloc (.cells #[] 149)) (some k) l:=
  hs.keep z08 dc (λb hb d=>⟨⟨by simp;omega,λh=>h hb,λo=>by simp only[Value.ownBlock,Option.some.injEq] at o;omega⟩,heap_alloc_old _ _ d⟩)
 clear hs;go_enter func76,ntmps76
 go_wp2_with (at_builtin;go_loud (refine YP (R:=yL) _ rfl (.tmp 5) (.tmp 6) 71 rfl 149 A _ 3 32 underlying71 s z m n rfl dc z08 w (by go_size) _ _ rfl (Grow.empty (heap_alloc_new _ _) (znl _)) _ _ _ rfl _ rfl y (by simp;omega) dc ?_);intro E F a gg1 B;rw[nil_append] at a;obtain⟨_,_,_,rfl,t⟩:=a.shape';clear t)
 go_ret;obtain⟨cells,k1,k2,k3⟩:=Grow.toRow z08 dc a λb hb=>Classical.byContradiction hb
 exact maj
theorem zSo (w:World) (a:Option Addr) (n c:Nat):(binOp .eql 72 (.slice a n c) ()).run prog w= .ok a.isNone w:=by
 simp only[binOp];simp[run_equal_slice_nil w _ _ a n c underlying72]
theorem zO0 (l:List Link) (v:Value) (w:World) (S:Nat->Prop) (h:Sl 3 z0g S w v l) (C:l.length<=10000):
  Calls prog 77 #[v] w (z2n 151 3 z0g S l w):=by
 obtain⟨A,s,z,m,n⟩:=info_parts (show(prog.info? 151).map (λi=>(i.zero,i.size,i.bytes))=some (some (.agg #['0',"",'0']),3,32) from kr);obtain⟨g,_,rfl,d,q,_,hs⟩:=h;unfold maxLen at q;have D:=zSo;rcases g with _|k
 ·obtain rfl:l=[]:=by
   exact mZ1
  clear hs;go_enter func77,ntmps77
  exact man
 have y:SlAt 3 z0g (z21 (λb=>¬S b) (w.alloc (.cells #[] 151)) (.slice (some ⟨w,0,none⟩) 0 0)) (w.alloc (.cells #[] 151)) (some k) l:=
  hs.keep z1b dc (λb hb d=>⟨⟨by simp;omega,λh=>h hb,λo=>by simp only[Value.ownBlock,Option.some.injEq] at o;omega⟩,heap_alloc_old _ _ d⟩)
 clear hs;go_enter func77,ntmps77
 go_wp2_with (at_builtin;go_loud (refine YP (R:=z0g) _ rfl (.tmp 5) (.tmp 6) 72 rfl 151 A _ 3 32 underlying72 s z m n rfl dc z1b w (by go_size) _ _ rfl (Grow.empty (heap_alloc_new _ _) (znl _)) _ _ _ rfl _ rfl y (by simp;omega) dc ?_);intro E F a gg1 B;rw[nil_append] at a;obtain⟨_,_,_,rfl,t⟩:=a.shape';clear t)
 go_ret;obtain⟨cells,k1,k2,k3⟩:=Grow.toRow z1b dc a λb hb=>Classical.byContradiction hb
 exact maj
theorem zO1 (w:World) (a:Option Addr) (n c:Nat):(binOp .eql 46 (.slice a n c) ()).run prog w= .ok a.isNone w:=by
 simp only[binOp];simp[run_equal_slice_nil w _ _ a n c underlying46]
theorem zD0 (l:List Member) (v:Value) (w:World) (S:Nat->Prop) (h:Sl 2 zZ S w v l) (C:l.length<=10000):
  Calls prog 78 #[v] w (z2n 87 2 zZ S l w):=by
 obtain⟨A,s,z,m,n⟩:=info_parts (show(prog.info? 87).map (λi=>(i.zero,i.size,i.bytes))=some (some (.agg #["",'0']),2,24) from kr);obtain⟨g,_,rfl,d,q,_,hs⟩:=h;unfold maxLen at q;have D:=zO1;rcases g with _|k
 ·obtain rfl:l=[]:=by
   exact mZ1
  clear hs;go_enter func78,ntmps78
  exact man
 have y:SlAt 2 zZ (z21 (λb=>¬S b) (w.alloc (.cells #[] 87)) (.slice (some ⟨w,0,none⟩) 0 0)) (w.alloc (.cells #[] 87)) (some k) l:=
  hs.keep ZA dc (λb hb d=>⟨⟨by simp;omega,λh=>h hb,λo=>by simp only[Value.ownBlock,Option.some.injEq] at o;omega⟩,heap_alloc_old _ _ d⟩)
 clear hs;go_enter func78,ntmps78
 go_wp2_with (at_builtin;go_loud (refine YP (R:=zZ) _ rfl (.tmp 5) (.tmp 6) 46 rfl 87 A _ 2 24 underlying46 s z m n rfl dc ZA w (by go_size) _ _ rfl (Grow.empty (heap_alloc_new _ _) (znl _)) _ _ _ rfl _ rfl y (by simp;omega) dc ?_);intro E F a gg1 B;rw[nil_append] at a;obtain⟨_,_,_,rfl,t⟩:=a.shape';clear t)
 go_ret;obtain⟨cells,k1,k2,k3⟩:=Grow.toRow ZA dc a λb hb=>Classical.byContradiction hb
 exact maj
theorem zW6 (w:World) (a:Option Addr) (n c:Nat):(binOp .eql 121 (.slice a n c) ()).run prog w= .ok a.isNone w:=by
 simp only[binOp];simp[run_equal_slice_nil w _ _ a n c underlying121]
theorem zSp (l:List At) (v:Value) (w:World) (S:Nat->Prop) (h:Sl 2 rAt S w v l) (C:l.length<=10000):
  Calls prog 79 #[v] w (z2n 124 2 rAt S l w):=by
 obtain⟨A,s,z,m,n⟩:=info_parts (show(prog.info? 124).map (λi=>(i.zero,i.size,i.bytes))=some (some (.agg #["",'0']),2,24) from kr);obtain⟨g,_,rfl,d,q,_,hs⟩:=h;unfold maxLen at q;have D:=zW6;rcases g with _|k
 ·obtain rfl:l=[]:=by
   exact mZ1
  clear hs;go_enter func79,ntmps79
  exact man
 have y:SlAt 2 rAt (z21 (λb=>¬S b) (w.alloc (.cells #[] 124)) (.slice (some ⟨w,0,none⟩) 0 0)) (w.alloc (.cells #[] 124)) (some k) l:=
  hs.keep ZE dc (λb hb d=>⟨⟨by simp;omega,λh=>h hb,λo=>by simp only[Value.ownBlock,Option.some.injEq] at o;omega⟩,heap_alloc_old _ _ d⟩)
 clear hs;go_enter func79,ntmps79
 go_wp2_with (at_builtin;go_loud (refine YP (R:=rAt) _ rfl (.tmp 5) (.tmp 6) 121 rfl 124 A _ 2 24 underlying121 s z m n rfl dc ZE w (by go_size) _ _ rfl (Grow.empty (heap_alloc_new _ _) (znl _)) _ _ _ rfl _ rfl y (by simp;omega) dc ?_);intro E F a gg1 B;rw[nil_append] at a;obtain⟨_,_,_,rfl,t⟩:=a.shape';clear t)
 go_ret;obtain⟨cells,k1,k2,k3⟩:=Grow.toRow ZE dc a λb hb=>Classical.byContradiction hb
 exact maj
theorem zM0 (w:World) (a:Option Addr) (n c:Nat):(binOp .eql 76 (.slice a n c) ()).run prog w= .ok a.isNone w:=by
 simp only[binOp];simp[run_equal_slice_nil w _ _ a n c underlying76]
theorem zIy (l:List Version) (v:Value) (w:World) (S:Nat->Prop) (h:Sl 4 yM S w v l) (C:l.length<=10000):
  Calls prog 80 #[v] w (z2n 80 4 yM S l w):=by
 obtain⟨A,s,z,m,n⟩:=info_parts (show(prog.info? 80).map (λi=>(i.zero,i.size,i.bytes))=some (some (.agg #['0',false,"",()]),4,56) from kr);obtain⟨g,_,rfl,d,q,_,hs⟩:=h;unfold maxLen at q;have D:=zM0;rcases g with _|k
 ·obtain rfl:l=[]:=by
   exact mZ1
  clear hs;go_enter func80,ntmps80
  exact man
 have y:SlAt 4 yM (z21 (λb=>¬S b) (w.alloc (.cells #[] 80)) (.slice (some ⟨w,0,none⟩) 0 0)) (w.alloc (.cells #[] 80)) (some k) l:=
  hs.keep z2z dc (λb hb d=>⟨⟨by simp;omega,λh=>h hb,λo=>by simp only[Value.ownBlock,Option.some.injEq] at o;omega⟩,heap_alloc_old _ _ d⟩)
 clear hs;go_enter func80,ntmps80
 go_wp2_with (at_builtin;go_loud (refine YP (R:=yM) _ rfl (.tmp 5) (.tmp 6) 76 rfl 80 A _ 4 56 underlying76 s z m n rfl dc z2z w (by go_size) _ _ rfl (Grow.empty (heap_alloc_new _ _) (znl _)) _ _ _ rfl _ rfl y (by simp;omega) dc ?_);intro E F a gg1 B;rw[nil_append] at a;obtain⟨_,_,_,rfl,t⟩:=a.shape';clear t)
 go_ret;obtain⟨cells,k1,k2,k3⟩:=Grow.toRow z2z dc a λb hb=>Classical.byContradiction hb
 exact maj
end
end Go.Proofs.YtdggplhnfhcieaaGreatDoor
