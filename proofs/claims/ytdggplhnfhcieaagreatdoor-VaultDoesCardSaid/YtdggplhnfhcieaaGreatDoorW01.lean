/- No condition. -/
import Derived.Deep.RegionHeld3
import Derived.Deep.QuietTactic
import Derived.BigRegion
import Derived.Deep.CutRange
import Derived.Test.YtdggplhnfhcieaaGreatDoorW00
set_option linter.all false
set_option maxRecDepth 100000
set_option maxHeartbeats 16000000
namespace Go.Proofs.YtdggplhnfhcieaaGreatDoor.Ro
open Go.Proofs.Tryz Cd Ce List
open Go.RowKit Go.Deep
variable {b:ByteArray}
def withAt (l:List Member) (c:Int):List ByteArray:=(l.filter λm=>decide (c<=m.role)).map (·.name)
def z0x (l:List Member):Nat:=(withAt l 4).length
theorem withAt_cons (m:Member) (l:List Member) (c:Int):withAt (m::l) c=if c<=m.role then m.name::withAt l c else withAt l c:=by
 unfold withAt;rw[filter_cons];by_cases d:c<=m.role<;>simp[d]
theorem zEb {l:List Member} {k:Nat} {m:Member} (h:l[k]? =some m) (c:Int):withAt (l.take (k+1)) c=withAt (l.take k) c++if c<=m.role then[m.name] else[]:=by
 rw[qLtx,h];unfold withAt;rw[filter_append,map_append];congr 1;by_cases h:c<=m.role<;>simp[h]
theorem z8b (l:List Member) (c:Int):(withAt l c).length<=l.length:=by
 unfold withAt;rw[qLmx];exact length_filter_le _ _
theorem with_any (l:List Member) (d:Int) (v:Value) (w:World) (S:Nat->Prop) (h:Sl 2 zZ S w v l) (T:l.length<=1000000):
  Calls prog 196 #[v,d] w λe w'=>(∃v',e= .returned v'/\Sl 1 z3u (λ_=>True) w' v' (withAt l d))/\bW w w':=by
 obtain⟨L,E,K,A,B⟩:=info_parts (show(prog.info? 9).map (λi=>(i.zero,i.size,i.bytes))=some (some (.string ⟨#[]⟩),1,16) from kr);obtain⟨_,_,rfl,_,C,_,H⟩:=h;unfold maxLen at C;go_enter func196,ntmps196
 go_wp2;go_loopw [5,10] (λM i wr=>∃(c:Nat) (v:Value),c<=l/\i= .int .i64 c/\v=M/\Grow 9 1 z3u (λ_=>False) wr w v (withAt (l.take c) d)/\bW w wr) (λ_ i _=>l.length-(intOf i).toNat)
 case atStart=>exact⟨0,_,om,gn,rfl,Grow.nil,gg⟩
 obtain⟨c,v,_,rfl,rfl,p,o⟩:=hrel;have V:=o.size;have D:=p.base_le;by_cases F:c<l
 rotate_left
 ·obtain rfl:c=l:=om
  rw[qLnx] at p;go_wp2;go_ret;exact⟨⟨_,rfl,p.sl z0r (λ_ _ _=>trivial) (λ_ _=>trivial)⟩,o⟩
 obtain⟨t,rfl⟩:∃t:World,t=wr:=⟨_,rfl⟩;obtain⟨g,_,_,q,y,_,rfl,_,_,_,_,_,N,_⟩:=yT H F (zK o);obtain⟨_,_,u,_,k,_⟩:=zP t #[g.name,g.role] 87;obtain⟨Y,Z⟩:=TC2 u;clear u;have aa:=k.size;have U:(withAt (l.take c) d).length<=c:=qNtx (z8b _ _) (length_take_le _ _);by_cases f:d<=g.role
 ·have I:decide (g.role>=d)=true:=Δ f;have J:decide (d<=g.role)=true:=Δ f;have r:=zh (by rw[zEb q,if_pos f]:withAt (l.take (c+1)) d=withAt (l.take c) d++[g.name]);clear q y f;go_wp2_with (at_builtin;go_loud (refine yZ (R:=z3u) _ _ rfl (.tmp 18) (.tmp 21) 45 rfl 9 L _ 1 16 underlying45 E K A B rfl dc z0r w (by go_size) _ _ rfl (Grow.below z0r p k) _ _ rfl (by simp only[zS]) _ (by intro b s;exact s.elim) ⟨rfl,N⟩ om dc ?_);intro W X x z O;obtain⟨_,_,_,rfl,G⟩:=x.shape';clear G)
  go_roundw
  case rel=>
   refine⟨c+1,_,om,gn,rfl,by rw[r.o];exact x,?_⟩;exact Below.grown (zD o k) z om λb s=>(D b s).1
  case measure=>simp[intOf];omega
 have I:decide (g.role>=d)=false:=Γ f;have J:decide (d<=g.role)=false:=Γ f;have r:=zh (by rw[zEb q,if_neg f,append_nil]:withAt (l.take (c+1)) d=withAt (l.take c) d);clear q y f;go_wp2;go_roundw
 case rel=>exact⟨c+1,v,om,gn,rfl,by rw[r.o];exact Grow.below z0r p k,zD o k⟩
 case measure=>simp[intOf];omega
theorem zFw (l:List Member) (v:Value) (w:World) (S:Nat->Prop) (h:Sl 2 zZ S w v l) (e:l.length<=1000000):
  (kB 174 #[v] w (.int .i64 (z0x l:Nat)):Prop):=by
 have c:=zh h;clear h;go_enter func174,ntmps174
 go_wp2_with fail
 refine zcm (with_any l 4 v _ S c e) ?_;rintro f _ ⟨⟨_,rfl,_,_,rfl,_⟩,d⟩;go_wp2;go_ret;exact⟨rfl,d⟩
def isOf (n:Int):Bool:=decide (1<=n)&&decide (n<=4)
theorem zFn (n:Int) (w:World):Calls prog 169 #[n] w λe w'=>e= .returned (.bool (isOf n))/\w=w':=by
 go_enter func169,ntmps169
 go_wp2;all_goals
  go_ret;exact⟨ZM (by first|(simp_all [isOf];done)|(simp_all [isOf];omega)),rfl⟩
def ltS (a b:ByteArray):Bool:=Op.bytesLess a.toList b.toList
def cmpOf (a b:ByteArray):Int:=if ltS a b then -1 else if ltS b a then 1 else 0
theorem z4x:∀l:List UInt8,Op.bytesLess l l=false
 | []=>rfl
 | a::l=>by simp[Op.bytesLess,z4x l]
theorem z6k:∀l r:List UInt8,Op.bytesLess l r=true\/l=r\/Op.bytesLess r l=true
 | [],[]=> .inr (.inl rfl)
 | [],_::_=> .inl rfl
 | _::_,[]=> .inr (.inr rfl)
 | a::l,b::r=>by
  rcases Nat.lt_trichotomy a.toNat b.toNat with c|c|c
  ·left;simp[Op.bytesLess,UInt8.lt_iff_toNat_lt,c]
  ·obtain rfl:a=b:=UInt8.toNat_inj.1 c;rcases z6k l r with d|d|d
   ·left;simp[Op.bytesLess,d]
   ·right;left;rw[d]
   ·right;right;simp[Op.bytesLess,d]
  ·right;right;simp[Op.bytesLess,UInt8.lt_iff_toNat_lt,c]
theorem z6l:∀l m r:List UInt8,Op.bytesLess l m=true->Op.bytesLess m r=true->Op.bytesLess l r=true
 | [],[],_,d,_=>by cases d
 | [],_::_,[],_,d=>by cases d
 | [],_::_,_::_,_,_=>rfl
 | _::_,[],_,d,_=>by cases d
 | _::_,_::_,[],_,d=>by cases d
 | a::l,b::m,c::r,d,e=>by
  simp only[Op.bytesLess,Bool.or_eq_true,qBqx,decide_eq_true_eq,beq_iff_eq,UInt8.lt_iff_toNat_lt] at d e⊢;rcases d with d|⟨rfl,d⟩
  ·rcases e with e|⟨rfl,e⟩
   ·left;omega
   ·left;exact d
  ·rcases e with e|⟨rfl,e⟩
   ·left;exact e
   ·right;exact⟨rfl,z6l l m r d e⟩
theorem toList_inj {a:ByteArray} (h:a.toList=b.toList):a=b:=by
 rw[Lib.toList_data,Lib.toList_data] at h;exact ByteArray.ext (Array.toList_inj.1 h)
theorem Y9 {a:ByteArray}:eqS a b=true↔a=b:=by
 unfold eqS;rw[beq_iff_eq];exact⟨toList_inj,λc=>by rw[c]⟩
theorem z5f {a:ByteArray}:eqS a b=false↔a≠b:=by
 rw[<-Bool.not_eq_true,Y9]
theorem z07 (a:ByteArray):ltS a a=false:=z4x _
theorem z0e {a c:ByteArray} (h:ltS a b=true) (k:ltS b c=true):ltS a c=true:=z6l _ _ _ h k
theorem z1e (a b:ByteArray):ltS a b=true\/a=b\/ltS b a=true:=(z6k a.toList b.toList).imp id λh=>h.imp toList_inj id
theorem z2y {a:ByteArray} (h:ltS a b=true):ltS b a=false:=by
 cases c:ltS b a
 ·rfl
 have:=z0e h c;rw[z07] at this;cases this
theorem z4u {a:ByteArray} (h:ltS a b=true):a≠b:=λc=>by rw[c,z07] at h;cases h
theorem mbq {p:Prop} (h:p:=by
 go_enter func161,ntmps161
 go_wp2;all_goals
  go_ret;exact⟨by rw[F.o];rfl,rfl⟩):p:=h
theorem cmp_any (a b:ByteArray) (w:World):Calls prog 161 #[a,b] w λe w'=>e= .returned (.int .i64 (cmpOf a b))/\w=w':=by
 rcases z1e a b with c|c|c
 ·have F:=zh (by rw[cmpOf,if_pos c]:cmpOf a b= -1);have d:Op.bytesLess a.toList b.toList=true:=c;exact mbq
 ·subst c;have F:=zh (by rw[cmpOf,z07];rfl:cmpOf a a=0);have d:Op.bytesLess a.toList a.toList=false:=z4x _;exact mbq
 have F:=zh (by rw[cmpOf,z2y c,c];rfl:cmpOf a b=1);have d:Op.bytesLess a.toList b.toList=false:=z2y c;have f:(a.toList==b.toList)=false:=z5f.2 λe=>z4u c e.symm
 exact mbq
def z3g:Option ByteArray->List Member->Bool
 | _,[]=>true
 | p,m::r=>if Z1 m.name then(if isOf m.role then(if (match p with|none=>true|some q=>ltS q m.name) then z3g (some m.name) r else false) else false) else false
theorem zNr (p:Option ByteArray) (m:Member) (r:List Member):z3g p (m::r)=if Z1 m.name then(if isOf m.role then(if (match p with|none=>true|some q=>ltS q m.name) then z3g (some m.name) r else false) else false) else false:=by
 cases p<;>rfl
def zA2 (l:List Member) (k:Nat):Option ByteArray:=if k=0 then none else(l[k-1]?).map (·.name)
def rightOf (l:List Member):Bool:=z3g none l&&(decide (l.length<=8)&&decide (0<z0x l))
theorem zEc {l:List Member} {k:Nat} {x:Member} (h:l[k]? =some x):zA2 l (k+1)=some x.name:=by
 unfold zA2;rw[if_neg om,show k+1-1=k by omega,h];rfl
theorem zBw (s:ByteArray) (hs:s.size<=()) (r:Bool) (h:Z1 s=r) (w:World):Calls prog 51 #[s] w λe w'=>e= .returned (.bool r)/\w'=w:=
 (zAn s hs w).mono λe w' c=>⟨by rw[c.1,h],c.2.symm⟩
theorem zNs (n:Int) (r:Bool) (h:isOf n=r) (w:World):Calls prog 169 #[n] w λe w'=>e= .returned (.bool r)/\w'=w:=
 (zFn n w).mono λe w' c=>⟨by rw[c.1,h],c.2.symm⟩
theorem z4y {n:Nat} {w w':World} (h:Below n w w'):∀q,Below n w (w'.drewN q)
 | 0=>h
 | q+1=>(z4y h q).drew
theorem Y7 {d:World} {b c:Nat} {v:Value} (h:(cL d b c v:Prop)):∀W,((bW d W:Prop))->(cL W b c v:Prop):=λ_ e=>zy e h
theorem ma0 {p:Prop} (h:p:=by
 go_wp2_with fail
 go_quiet (first|(go_at_call 51;refine Calls.quiet_of_same (cn _))|(go_at_call 169;refine Calls.quiet_of_same (ci _)))
 go_wp2;go_ret;exact⟨ZM (by rw[rightOf,<-EH.o];rfl),z4y (zD hbel By0) _⟩):p:=h
theorem zQ3 (l:List Member) (v:Value) (w:World) (S:Nat->Prop) (h:Sl 2 zZ S w v l) (M:l.length<=1000000):
  (kB 168 #[v] w (rightOf l):Prop):=by
 have E:=zh h;have F:∀s,((bW w s:Prop))->(kB 174 #[v] s (.int .i64 (z0x l:Nat)):Prop):=λs I=>zFw l v s S (E.keep ZA dc (zK I)) M
 obtain⟨_,_,rfl,_,K,_,z⟩:=h;unfold maxLen at K;go_enter func168,ntmps168
 go_wp2;go_loopw [7] (λi wr=>∃(g:Nat),g<=l/\i= .int .i64 g/\z3g (zA2 l g) (l.drop g)=z3g none l/\bW w wr) (λi _=>l.length-(intOf i).toNat)
 case atStart=>exact⟨0,om,gn,by simp[zA2],gg⟩
 obtain⟨g,_,rfl,o,hbel⟩:=hrel;have aa:=hbel.size;by_cases N:g<l
 rotate_left
 ·obtain rfl:g=l:=om
  rw[drop_length] at o;have EH:=zh (by rw[<-o];rfl:true=z3g none l);clear o;have G:=F _ hbel;go_wp2_with (go_at_call 174;refine zcm G ?_;rintro W _ ⟨rfl,J⟩)
  all_goals
   go_ret;exact⟨ZM (by rw[rightOf,<-EH.o];simp;omega),by first|exact hbel|exact zD hbel J⟩
 obtain⟨x,rfl⟩:∃x:World,x=wr:=⟨_,rfl⟩;obtain⟨d,_,_,q,C,_,rfl,_,_,R,T,_,D,_⟩:=yT z N (zK hbel);obtain⟨_,_,y,_,By0,_⟩:=zP x #[d.name,d.role] 87;obtain⟨U,V⟩:=TC2 y;clear y;have ae:=By0.size;have ab:=Y7 U;have ac:=Y7 V;rw[C,zNr] at o;have e:=zh o;have k:=zh (zEc q);clear o C;cases c:Z1 d.name
 ·have EH:=zh (by rw[<-e.o,c];rfl:false=z3g none l);have cn:=zBw d.name D false c;clear e k q c;go_wp2_with fail
  go_quiet ((go_at_call 51;refine Calls.quiet_of_same (cn _)))
  go_wp2;go_ret;exact⟨ZM (by rw[rightOf,<-EH.o];rfl),z4y (zD hbel By0) _⟩
 have cn:=zBw d.name D true c;cases f:isOf d.role
 ·have EH:=zh (by rw[<-e.o,c,f];rfl:false=z3g none l);have ci:=zNs d.role false f;clear e k q c f;exact ma0
 have ci:=zNs d.role true f;rcases g with _|j
 ·have EH:=zh (by rw[<-e.o,c,f,k.o];rfl:z3g (zA2 l (0+1)) (l.drop (0+1))=z3g none l);clear e k q c f;simp only[Nat.zero_mul,Nat.add_zero] at R T;go_wp2_with fail
  go_quiet (first|(go_at_call 51;refine Calls.quiet_of_same (cn _))|(go_at_call 169;refine Calls.quiet_of_same (ci _)))
  go_wp2;go_roundw
  case rel=>exact⟨0+1,om,gn,EH.o,z4y (zD hbel By0) _⟩
  case measure=>simp[intOf];omega
 have L:j<l:=om
 obtain⟨t,_,_,u,A,_,B,_,_,O,_⟩:=yT z L (zK (zD hbel By0));simp only[Option.some.injEq,Addr.mk.injEq,and_true] at B;obtain⟨rfl,rfl⟩:=B;have ad:=Y7 O;have r:=zEc u;have X:IntKind.i64.wrap (((j+1:Nat):Int)-1)=(j:Int):=by rw[IntWalk.i64_in _ om];omega
 have Y:IntKind.i64.wrap ((j:Int)+1-1)=(j:Int):=by rw[IntWalk.i64_in _ om];omega
 have Z:decide (0<(j:Int)+1)=true:=θ;cases p:ltS t.name d.name
 ·have EH:=zh (by rw[<-e.o,c,f,r];simp[p]:false=z3g none l);have H:Op.bytesLess t.name.toList d.name.toList=false:=p;clear e k r q u A c f p;exact ma0
 have EH:=zh (by rw[<-e.o,c,f,k.o,r];simp[p]:z3g (zA2 l (j+1+1)) (l.drop (j+1+1))=z3g none l);have H:Op.bytesLess t.name.toList d.name.toList=true:=p;clear e k r q u A c f p;go_wp2_with fail
 go_quiet (first|(go_at_call 51;refine Calls.quiet_of_same (cn _))|(go_at_call 169;refine Calls.quiet_of_same (ci _)))
 go_wp2;go_roundw
 case rel=>exact⟨j+1+1,om,gn,EH.o,z4y (zD hbel By0) _⟩
 case measure=>simp[intOf];omega
end Go.Proofs.YtdggplhnfhcieaaGreatDoor.Ro
namespace Go.Proofs.YtdggplhnfhcieaaGreatDoor
open Go.Proofs.Tryz Cd Ce List
section
open Go.RowKit Go.Deep
theorem ButB.drew {B:Nat->Prop} {w w':World} (h:ButB B w w'):ButB B w w'.drew:=⟨h.os,h.tape,h.output,h.size,h.block⟩
theorem zO2 (B C:Nat) (w:World) (a0 a2 a3 d f g h:Value) (q:Int) (s:ByteArray) (c:w.heap[B]? =some (.cells #[a0,q,a2,a3,d,f,g,h] 84 (0,0))) (y:(cL w C 4 s:Prop)) (z:C≠B):
  Calls prog 134 #[pT B,pT C] w λe w'=>e= .returned (.tuple #[])/\w'.heap[B]? =some (.cells #[a0,q,a2,s,d,q,g,h] 84 (0,0))/\ButB (·=B) w w':=by
 have p:(cL w B 1 q:Prop):=ψ c 1 _ rfl;have r:(cL w B 3 a3:Prop):=ψ c 3 _ rfl;have t:(cL w B 5 f:Prop):=ψ c 5 _ rfl;have u:=(zB c).2;have k:=zh c;clear c;go_enter func134,ntmps134
 go_wp2;go_region
 go_wp2;go_end0
 have l:=zH (i:=3) s k rfl;have o:=zH (i:=5) q l rfl;exact⟨rfl,o,(((ButB.refl (·=B) w).set ⟨B,3,none⟩ s rfl).set ⟨B,5,none⟩ q rfl).drew⟩
theorem zK5 (B:Nat) (w:World) (a0 a1 a2 a3 d f g h:Value) (c:w.heap[B]? =some (.cells #[a0,a1,a2,a3,d,f,g,h] 84 (0,0))):
  Calls prog 137 #[pT B] w λe w'=>e= .returned (.tuple #[])/\w'.heap[B]? =some (.cells #[a0,a1,a2,a3,d,f,true,h] 84 (0,0))/\ButB (·=B) w w':=by
 have l:(cL w B 6 g:Prop):=ψ c 6 _ rfl;have o:=(zB c).2;have k:=zh c;clear c;go_enter func137,ntmps137
 go_wp2;go_end0
 exact⟨rfl,zH (i:=6) true k rfl,(ButB.refl (·=B) _).set _ _ rfl⟩
theorem zIz (B L C:Nat) (w:World) (a0 a2 a3 p h r s v:Value) (q k:Int) (d:w.heap[B]? =some (.cells #[a0,q,a2,a3,p,h,r,s] 84 (0,0))) (hv:∃g n c,v= .slice g n c) (G:(cL w L 0 v:Prop)) (F:(cL w C 0 k:Prop)) (H:C≠B) (I:L≠B):
  Calls prog 142 #[pT B,pT L,pT C] w λe w'=>e= .returned (.tuple #[])/\w'.heap[B]? =some (.cells #[a0,.int .i64 q,a2,a3,v,if k=7 then .int .i64 q else h,r,s] 84 (0,0))/\ButB (·=B) w w':=by
 obtain⟨g,n,c,rfl⟩:=hv;have z:(cL w B 1 q:Prop):=ψ d 1 _ rfl;have A:(cL w B 4 p:Prop):=ψ d 4 _ rfl;have D:(cL w B 5 h:Prop):=ψ d 5 _ rfl;have E:=(zB d).2;have o:=zh d;clear d;by_cases f:k=7
 ·have y:(k==7)=true:=by simp[f]
  have t:=zh f;clear f;go_enter func142,ntmps142
  go_wp2;go_end0
  have l:=zH (i:=4) (.slice g n c) o rfl;have u:=zH (i:=5) q l rfl;exact⟨rfl,u,((ButB.refl (·=B) _).set _ _ rfl).set _ _ rfl⟩
 have y:(k==7)=false:=by simp[f]
 have t:=zh f;clear f;go_enter func142,ntmps142
 go_wp2;go_end0
 have l:=zH (i:=4) (.slice g n c) o rfl;exact⟨rfl,l,(ButB.refl (·=B) _).set _ _ rfl⟩
end
end Go.Proofs.YtdggplhnfhcieaaGreatDoor
namespace Go.Proofs.YtdggplhnfhcieaaGreatDoor
open Go.Proofs.Tryz Cd Ce List
open Go Go.RowKit Go.Deep
variable {listed:Array Bool} {fuel i id j m:Nat} {oi:Oper} {v:Value} {w:World}
theorem ButB.cellq {Y:Nat->Prop} {W W':World} (h:ButB Y W W') {b:Nat} (c:(cL W b j v:Prop)) (hn:¬Y b):(cL W' b j v:Prop):=
 (World.cell?_of_block (a:=⟨b,j,none⟩) (h.block b (zF c) hn)).trans c
section
variable {P:Program} {ops:Array Oper} {Q:Exit->Act->World->Prop} {md:Region.Mode} {S:World->Prop} {n:Nat} {fr:List Nat}
def YU (P:Program) (md:Region.Mode) (ops:Array Oper) (Q:Exit->Act->World->Prop) (S:World->Prop) (n:Nat) (fr:List Nat):Nat->Array Bool->Act->World->Prop
 | 0,listed,a,w=>Region.ready md ops listed=[]/\Q .normal a w
 | fuel+1,listed,a,w=>
  (Region.ready md ops listed=[]->Q .normal a w)/\
  ∀i∈Region.ready md ops listed,wpOp P ops Q i (λd c=>((decide (i<n)&&!fr.contains i)=true->S c)/\YU P md ops Q S n fr fuel (listed.setIfInBounds i true) d c) a w
theorem zG2:∀(fuel:Nat) (listed:Array Bool) (a:Act) (w:World),YU P md ops Q S n fr fuel listed a w->wpAny P md ops Q fuel listed a w
 | 0,_,_,_,h=>h
 | fuel+1,_,_,_,h=>⟨h.1,λi e=>wpOp_mono (λc f d=>zG2 fuel _ c f d.2) (h.2 i e)⟩
def Closed (md:Region.Mode) (ops:Array Oper) (listed:Array Bool):Prop:=∀m om,ops[m]? =some om->listed.getD m false=true->∀c∈om.after,Region.binds md c=true->listed.getD c.on false=true
def z8q (md:Region.Mode) (ops:Array Oper) (listed:Array Bool):Bool:=(range ops.size).all λm=>!listed.getD m false||((ops[m]?).map λc=>c.after.all λe=>!Region.binds md e||listed.getD e.on false).getD true
theorem zQc (h:z8q md ops listed=true):Closed md ops listed:=λm om hm hl e c hb=>by
 unfold z8q at h;rw[all_eq_true] at h;have h2:=h m (mem_range.2 (Array.getElem?_eq_some_iff.1 hm).1);rw[hl,hm] at h2;simp only[Bool.not_true,Bool.false_or,Option.map_some,Option.getD_some] at h2;have h3:=Array.all_eq_true'.1 h2 e c;rw[hb] at h3;simpa using h3
theorem zBi (h:listed.getD m false=true):(listed.setIfInBounds j true).getD m false=true:=by
 by_cases d:j=m
 ·subst d;rcases Nat.lt_or_ge j listed.size with c|c
  ·simp[c]
  rw[Array.getD_eq_getD_getElem?,Array.getElem?_eq_none c] at h;cases h
 rw[getD_set_ne false d];exact h
theorem zH4 (h:listed.getD m true=true):(listed.setIfInBounds j true).getD m true=true:=by
 by_cases d:j=m
 ·subst d;rcases Nat.lt_or_ge j listed.size with c|c
  ·simp[c]
  simp[Array.getElem?_eq_none c]
 rw[getD_set_ne true d];exact h
theorem Closed.set (h:Closed md ops listed) (hj:j∈Region.ready md ops listed):Closed md ops (listed.setIfInBounds j true):=λm om hm hl e c hb=>by
 obtain⟨_,_,g,f⟩:=mem_ready.1 hj;by_cases d:j=m
 ·subst d;rw[g] at hm;obtain rfl:=zsi hm;exact zBi (f e c hb)
 ·rw[getD_set_ne false d] at hl;exact zBi (h m om hm hl e c hb)
def zU9 (md:Region.Mode) (ops:Array Oper) (k m:Nat):Bool:=((ops[k]?).map λc=>c.after.any λe=>Region.binds md e&&decide (e.on=m)).getD false
def zOa (md:Region.Mode) (ops:Array Oper):Nat->List Nat->List Nat
 | 0,acc=>acc
 | m+1,acc=>zOa md ops m (if acc.any (λc=>zU9 md ops c m) then m::acc else acc)
theorem zMv {listed:Array Bool} (p:Closed md ops listed) {n:Nat} (hn:∀r,ops[n]? =some r->∀e∈r.after,Region.binds md e=true->listed.getD e.on false=true):∀(m:Nat) (d:List Nat),(∀x∈d,x=n\/listed.getD x false=true)->∀x∈zOa md ops m d,x=n\/listed.getD x false=true
 | 0,d,h=>h
 | m+1,d,h=>by
  unfold zOa;refine zMv p hn m _ ?_;split
  ·rename_i s;intro x k;rcases mem_cons.1 k with rfl|k
   ·right;obtain⟨l,t,c⟩:=any_eq_true.1 s;unfold zU9 at c
    cases g:ops[l]? with
    | none=>rw[g] at c;cases c
    | some o=>
     rw[g] at c;simp only[Option.map_some,Option.getD_some] at c;obtain⟨e,q,f⟩:=Array.any_eq_true'.1 c;simp only[qBqx,decide_eq_true_eq] at f;rw[<-f.2];rcases h l t with rfl|u
     ·exact hn o g e q f.1
     ·exact p l o g u e q f.1
   ·exact h x k
  ·exact h
def zA5 (md:Region.Mode) (ops:Array Oper) (n i:Nat):Bool:=decide (i<n)&&(zOa md ops n [n]).contains i&&(range ops.size).all λj=>decide (j<=n)||((ops[j]?).map λc=>c.after.any λe=>Region.binds md e&&(decide (n<=e.on)&&decide (e.on<j))).getD true
theorem zSu (h:zA5 md ops n i=true):i<n/\∀listed,Closed md ops listed->∀(j:Nat) (k:Oper),ops[j]? =some k->n<=j->(∀e∈k.after,Region.binds md e=true->listed.getD e.on false=true)->listed.getD i false=true:=by
 unfold zA5 at h;simp only[qBqx,decide_eq_true_eq,all_eq_true,mem_range,Bool.or_eq_true,contains_iff_mem] at h;obtain⟨⟨p,q⟩,r⟩:=h;refine⟨p,λlisted o j=>?_⟩
 induction j using Nat.strongRecOn with
 | ind j ih=>
  intro k f y l;rcases r j (Array.getElem?_eq_some_iff.1 f).1 with x|g
  ·obtain rfl:j=n:=om
   rcases zMv o (λA c=>by rw[f] at c;obtain rfl:=zsi c;exact l) j [j] (λB u=> .inl (zml u)) i q with e|e
   ·omega
   exact e
  rw[f] at g;simp only[Option.map_some,Option.getD_some] at g;obtain⟨e,s,d⟩:=Array.any_eq_true'.1 g;simp only[qBqx,decide_eq_true_eq] at d;have t:=l e s d.1
  cases c:ops[e.on]? with
  | none=>
   have z:ops.size<=e.on:=Array.getElem?_eq_none_iff.1 c;have:=(Array.getElem?_eq_some_iff.1 f).1
   omega
  | some o'=>exact ih e.on d.2.2 o' c d.2.1 (o e.on o' c t)
theorem ma7 {p:Prop} (h:p:=by
 have h1:=hall e he hb;have h0:=(mem_ready.1 hr).1;rw[heq] at h1;rcases Nat.lt_or_ge i listed.size with h'|h'
 ·simp[h'] at h0 h1;rw[h0] at h1;cases h1
 ·simp[Array.getElem?_eq_none h'] at h1):p:=h
theorem zKc (W:i<n) (U:∀listed,Closed md ops listed->∀(j:Nat) (d:Oper),ops[j]? =some d->n<=j->(∀e∈d.after,Region.binds md e=true->listed.getD e.on false=true)->listed.getD i false=true) (hi:ops[i]? =some oi) (E:∀(j:Nat) (G:Oper) k b,ops[j]? =some G->G.op≠ .select k b)
  (J:∀c a w,Q (.panic c) (a.put oi.dst v) w->Q (.panic c) a w):
  ∀(fuel:Nat) (listed:Array Bool) (a:Act) (w:World),Closed md ops listed->(∀m∈fr,listed.getD m true=true)->
   (∀j d,ops[j]? =some d->j≠i->listed.getD j true=false->(∀e∈d.after,Region.binds md e=true->e.on≠i)->oi.apart ops d=true)->
   i∈Region.ready md ops listed->YieldsIf P ops S oi v a->S w->
   YU P md ops Q S n fr fuel (listed.setIfInBounds i true) (a.put oi.dst v) w->YU P md ops Q S n fr (fuel+1) listed a w:=by
 intro fuel
 induction fuel with
 | zero=>
  intro listed a w _ _ _ hr u l h;refine⟨λx=>(by rw[x] at hr;cases hr),λj o=>?_⟩;by_cases f:j=i
  ·subst f;exact u.wpOp hi l ⟨λ_=>l,h⟩
  have:=ready_mono o f;rw[h.1] at this
  cases this
 | succ fuel ih=>
  intro listed a w z A B hr u l h;refine⟨λx=>(by rw[x] at hr;cases hr),λj o=>?_⟩;by_cases f:j=i
  ·subst f;exact u.wpOp hi l ⟨λ_=>l,h⟩
  have h1:=h.2 j (ready_mono o f);obtain⟨r,d,t,hall⟩:=mem_ready.1 o;have T:∀e∈d.after,Region.binds md e=true->e.on≠i:=λe he hb heq=>by
   exact ma7
  have L:j<n:=Nat.lt_of_not_le λO=>by
   have s:=U listed z j d t O hall;have h0:=(mem_ready.1 hr).1;rcases Nat.lt_or_ge i listed.size with h'|h'
   ·simp[h'] at h0 s;rw[h0] at s;cases s
   ·simp[Array.getElem?_eq_none h'] at s
  have C:(decide (j<n)&&!fr.contains j)=true:=by
   simp only[qBqx,decide_eq_true_eq,Bool.not_eq_true',contains_eq_mem,decide_eq_false_iff_not];refine⟨L,λy=>?_⟩;rw[A j y] at r;cases r
  have I:=wpOp_putIf t (B j d t f r T) (λk b=>E i oi k b hi) (λk b=>E j d k b t) J u h1;have K:∀g p,ops[g]? =some p->g≠i->(listed.setIfInBounds j true).getD g true=false->
    (∀e∈p.after,Region.binds md e=true->e.on≠i)->oi.apart ops p=true:=λg p M N F R=>by
   refine B g p M N ?_ R;by_cases D:j=g
   ·subst D;exact r
   ·rw[getD_set_ne true D] at F;exact F
  refine wpOp_mono (λH V q=>⟨λ_=>q.2.1 C,ih (listed.setIfInBounds j true) H V (z.set o) (λm y=>zH4 (A m y)) K (ready_mono hr (Ne.symm f)) q.1 (q.2.1 C) ?_⟩) I;rw[Array.setIfInBounds_comm _ _ f];exact q.2.2
theorem zEh {a:Act} (hi:ops[i]? =some oi)
  (hs:(zA5 md ops n i&&z8q md ops listed&&fr.all (λm=>listed.getD m true)&&Region.noSelect ops&&Region.free md ops listed i&&(Region.ready md ops listed).contains i)=true)
  (o:∀c a w,Q (.panic c) (a.put oi.dst v) w->Q (.panic c) a w) (hy:YieldsIf P ops S oi v a) (p:S w)
  (h:YU P md ops Q S n fr fuel (listed.setIfInBounds i true) (a.put oi.dst v) w):YU P md ops Q S n fr (fuel+1) listed a w:=by
 simp only[qBqx] at hs;obtain⟨⟨⟨⟨⟨f,d⟩,e⟩,g⟩,k⟩,l⟩:=hs;obtain⟨r,s⟩:=zSu f;exact zKc r s hi (Region.noSelect_spec g) o fuel listed a w (zQc d) (λm q=>all_eq_true.1 e m q) (Region.free_spec hi k) (by simpa using l) hy p h
theorem zKd (G:fr.contains i=true) (hi:ops[i]? =some oi) (z:∀(j:Nat) (B:Oper) l b,ops[j]? =some B->B.op≠ .select l b)
  (E:∀c a w,Q (.panic c) (a.put oi.dst v) w->Q (.panic c) a w):
  ∀(fuel:Nat) (listed:Array Bool) (a:Act) (w:World),
   (∀j f,ops[j]? =some f->j≠i->listed.getD j true=false->(∀e∈f.after,Region.binds md e=true->e.on≠i)->oi.apart ops f=true)->
   i∈Region.ready md ops listed->YieldsIf P ops (λ_=>True) oi v a->
   YU P md ops Q S n fr fuel (listed.setIfInBounds i true) (a.put oi.dst v) w->YU P md ops Q S n fr (fuel+1) listed a w:=by
 have q:∀{w:World},(decide (i<n)&&!fr.contains i)=true->S w:=λg=>by rw[G] at g;simp at g
 intro fuel
 induction fuel with
 | zero=>
  intro listed a w _ hr r k;refine⟨λg=>(by rw[g] at hr;cases hr),λj p=>?_⟩;by_cases d:j=i
  ·subst d;exact r.wpOp hi trivial ⟨q,k⟩
  have:=ready_mono p d;rw[k.1] at this
  cases this
 | succ fuel ih=>
  intro listed a w u hr r k;refine⟨λg=>(by rw[g] at hr;cases hr),λj p=>?_⟩;by_cases d:j=i
  ·subst d;exact r.wpOp hi trivial ⟨q,k⟩
  have h1:=k.2 j (ready_mono p d);obtain⟨y,f,t,hall⟩:=mem_ready.1 p;have J:∀e∈f.after,Region.binds md e=true->e.on≠i:=λe he hb heq=>by
   exact ma7
  have D:=wpOp_putIf t (u j f t d y J) (λl b=>z i oi l b hi) (λl b=>z j f l b t) E r h1;have F:∀h o,ops[h]? =some o->h≠i->(listed.setIfInBounds j true).getD h true=false->
    (∀e∈o.after,Region.binds md e=true->e.on≠i)->oi.apart ops o=true:=λh o H I A q=>by
   refine u h o H I ?_ q;by_cases x:j=h
   ·subst x;exact y
   ·rw[getD_set_ne true x] at A;exact A
  refine wpOp_mono (λC K s=>⟨s.2.1,ih (listed.setIfInBounds j true) C K F (ready_mono hr (Ne.symm d)) s.1 ?_⟩) D;rw[Array.setIfInBounds_comm _ _ d];exact s.2.2
theorem z9u {a:Act} (hi:ops[i]? =some oi)
  (hs:(fr.contains i&&Region.noSelect ops&&Region.free md ops listed i&&(Region.ready md ops listed).contains i)=true)
  (k:∀c a w,Q (.panic c) (a.put oi.dst v) w->Q (.panic c) a w) (hy:YieldsIf P ops (λ_=>True) oi v a)
  (h:YU P md ops Q S n fr fuel (listed.setIfInBounds i true) (a.put oi.dst v) w):YU P md ops Q S n fr (fuel+1) listed a w:=by
 simp only[qBqx] at hs;obtain⟨⟨⟨d,e⟩,f⟩,g⟩:=hs;exact zKd d hi (Region.noSelect_spec e) k fuel listed a w (Region.free_spec hi f) (by simpa using g) hy h
theorem zQ {d:Oper} {a:Act} (hr:Region.ready md ops listed=[i]) (o:ops[i]? =some d)
  (h:∀c:Act->World->Prop,Shut (∀a w,S w->(S w->YU P md ops Q S n fr fuel (listed.setIfInBounds i true) a w)->c a w)->if Region.wanted d (yielded ops a.tmps)=true then Oper.wp P d a w c Q else c (a.put d.dst undef) w):
  YU P md ops Q S n fr (fuel+1) listed a w:=by
 refine⟨λe=>(by rw[hr] at e;cases e),λj g=>?_⟩;rw[hr] at g;obtain rfl:j=i:=by simpa using g
 exact wpOp_step o (λc k=>h c (λa w f l=>k a w ⟨λ_=>f,l f⟩))
theorem tQa (i:Nat) {c:Oper} {a:Act} (h:∀d:Act->World->Prop,Shut (∀a w,S w->(S w->YU P md ops Q S n fr fuel (listed.setIfInBounds i true) a w)->d a w)->if Region.wanted c (yielded ops a.tmps)=true then Oper.wp P c a w d Q else d (a.put c.dst undef) w) (hr:Region.ready md ops listed=[i]:=by kernel_rfl) (e:ops[i]? =some c:=by exact rfl):YU P md ops Q S n fr (fuel+1) listed a w:=zQ hr e h
theorem zN {d:Oper} {a:Act} (hr:(decide (n<=i)&&decide (Region.ready md ops listed=[i]))=true) (o:ops[i]? =some d)
  (h:∀c:Act->World->Prop,Shut (∀a w,YU P md ops Q S n fr fuel (listed.setIfInBounds i true) a w->c a w)->if Region.wanted d (yielded ops a.tmps)=true then Oper.wp P d a w c Q else c (a.put d.dst undef) w):
  YU P md ops Q S n fr (fuel+1) listed a w:=by
 simp only[qBqx,decide_eq_true_eq] at hr;obtain⟨_,hr⟩:=hr;refine⟨λe=>(by rw[hr] at e;cases e),λj f=>?_⟩;rw[hr] at f;obtain rfl:j=i:=by simpa using f
 exact wpOp_step o (λc g=>h c (λa w k=>g a w ⟨λl=>by simp only[qBqx,decide_eq_true_eq] at l;omega,k⟩))
theorem tNa (i:Nat) {c:Oper} {a:Act} (h:∀d:Act->World->Prop,Shut (∀a w,YU P md ops Q S n fr fuel (listed.setIfInBounds i true) a w->d a w)->if Region.wanted c (yielded ops a.tmps)=true then Oper.wp P c a w d Q else d (a.put c.dst undef) w) (hr:(decide (n<=i)&&decide (Region.ready md ops listed=[i]))=true:=by kernel_rfl) (e:ops[i]? =some c:=by exact rfl):YU P md ops Q S n fr (fuel+1) listed a w:=zN hr e h
theorem tNb (i:Nat) {c:Oper} {a:Act} {e:Prop} (k:e) (h:Hid e->∀d:Act->World->Prop,Shut (∀a w,YU P md ops Q S n fr fuel (listed.setIfInBounds i true) a w->d a w)->if Region.wanted c (yielded ops a.tmps)=true then Oper.wp P c a w d Q else d (a.put c.dst undef) w:=by intro l o f;go_simp;refine f.o _ _ ?_;try simp only[zA];exact l.o) (hr:(decide (n<=i)&&decide (Region.ready md ops listed=[i]))=true:=by kernel_rfl) (g:ops[i]? =some c:=by exact rfl):YU P md ops Q S n fr (fuel+1) listed a w:=zN hr g (h (zh k))
theorem Z7 {listed:Array Bool} {a:Act} {w:World} (hr:Region.ready md ops listed=[]) (h:Q .normal a w):
  ∀fuel,YU P md ops Q S n fr fuel listed a w
 | 0=>⟨hr,h⟩
 | _+1=>⟨λ_=>h,by rw[hr];simp⟩
theorem Z0 {a:Act} (n:Nat) (fr:List Nat) (hm:P.follows .mixedOrders=true) (c:S w.drew)
  (h:S w.drew->YU P .any ops Q S n fr ops.size (Array.replicate ops.size false) a w.drew):(Code.region id ops true).wp P Q a w:=
 wp_region_any hm (zG2 _ _ _ _ (h c))
theorem zEC {P:Program} {ops:Array Oper} {Q:Exit->Act->World->Prop} {a:Act} (n:Nat) (h:Below w w w.drew->YU P .any ops Q (Below w w) n [] ops.size (Array.replicate ops.size false) a w.drew) (hm:P.follows .mixedOrders=true:=by kernel_rfl):(Code.region id ops true).wp P Q a w:=Z0 n [] hm zbr.drew h
theorem zET {P:Program} {ops:Array Oper} {Q:Exit->Act->World->Prop} {S:World->Prop} {a:Act} (n:Nat) (c:∀W',Below m w W'->S W') (h:S w.drew->YU P .any ops Q S n [] ops.size (Array.replicate ops.size false) a w.drew) (hm:P.follows .mixedOrders=true:=by kernel_rfl):(Code.region id ops true).wp P Q a w:=Z0 n [] hm (c _ zbr.drew) h
end
end Go.Proofs.YtdggplhnfhcieaaGreatDoor
namespace Go.Proofs.YtdggplhnfhcieaaGreatDoor
open Go.Proofs.Tryz Cd Ce List
open Go.RowKit Go.Deep
theorem zU {P:Program} {md:Region.Mode} {l:List Oper} {Q:Exit->Act->World->Prop} {S:World->Prop} {n:Nat} {fr:List Nat} {oi:Oper} {fuel:Nat} {listed:Array Bool} {a:Act} {w:World} (i:Nat) {v:Value} (e:S w) (h:YU P md l.toArray Q S n fr fuel (listed.setIfInBounds i true) (a.put oi.dst v) w) (hi:l[i]? =some oi:=by exact rfl) (hs:(zA5 md l.toArray n i&&z8q md l.toArray listed&&fr.all (λm=>listed.getD m true)&&Region.noSelect l.toArray&&Region.free md l.toArray listed i&&(Region.ready md l.toArray listed).contains i)=true:=by kernel_rfl) (f:Region.wanted oi (yielded l.toArray a.tmps)=true:=by exact rfl) (d:∀c a w,Q (.panic c) (a.put oi.dst v) w->Q (.panic c) a w:=by exact λ_ _ _ h=>h) (hy:∀w,S w->(execOp a.eval oi).run P w= .ok (.value v) w:=by intro g h;go_simp;try with_reducible rfl) :YU P md l.toArray Q S n fr (fuel+1) listed a w:=zEh (zG hi) hs d (.inl ⟨f,hy⟩) e h
def zjU (i:Nat) (P:Program) (md:Region.Mode) (ops:Array Oper) (Q:Exit->Act->World->Prop) (S:World->Prop) (n:Nat) (fr:List Nat) (fuel:Nat) (listed:Array Bool) (a:Act) (w:World):Prop:=YU P md ops Q S n fr fuel listed a w
section
variable {P:Program} {md:Region.Mode} {ops:Array Oper} {Q:Exit->Act->World->Prop} {S:World->Prop} {n:Nat} {fr:List Nat} {fuel:Nat} {listed:Array Bool} {a:Act} {w:World}
theorem ziU (i:Nat) (h:zjU i P md ops Q S n fr fuel listed a w):YU P md ops Q S n fr fuel listed a w:=h
theorem zoU {i:Nat} (h:YU P md ops Q S n fr fuel listed a w):zjU i P md ops Q S n fr fuel listed a w:=h
theorem ztU {l:List Oper} {oi:Oper} {i:Nat} {v:Value} (e:S w) (h:zjU (i+1) P md l.toArray Q S n fr fuel (listed.setIfInBounds i true) (a.put oi.dst v) w) (hi:l[i]? =some oi:=by exact rfl) (hs:(zA5 md l.toArray n i&&z8q md l.toArray listed&&fr.all (λm=>listed.getD m true)&&Region.noSelect l.toArray&&Region.free md l.toArray listed i&&(Region.ready md l.toArray listed).contains i)=true:=by kernel_rfl) (f:Region.wanted oi (yielded l.toArray a.tmps)=true:=by exact rfl) (d:∀c a w,Q (.panic c) (a.put oi.dst v) w->Q (.panic c) a w:=by exact λ_ _ _ h=>h) (hy:∀w,S w->(execOp a.eval oi).run P w= .ok (.value v) w:=by intro g h;go_simp;try with_reducible rfl):zjU i P md l.toArray Q S n fr (fuel+1) listed a w:=zU i e h hi hs f d hy
end
end Go.Proofs.YtdggplhnfhcieaaGreatDoor
namespace Go.Proofs.YtdggplhnfhcieaaGreatDoor
open Go.Proofs.Tryz Cd Ce List
section
open Go.RowKit Go.Deep
theorem mcC {p:Prop} (h:p:=by
 clear m_k y_k m_d y_d m_R y_R;exact maq):p:=h
theorem zHo (x:Folder) (cR:∀m∈x.manifests,m.prev=[]) (br bx:List Value) (w:World) (S S':Nat->Prop) (h:Z6 S w br x) (k:Z6 S' w bx x):
  (kB 46 #[.agg br.toArray,.agg bx.toArray] w (.bool true):Prop):=by
 have cj:=zh cR;obtain⟨a0,bb,a1,bc,a2,bd,a3,be,a4,bf,rfl,_,_,_,_,_,bM,_,_,_,bN,_,_,_,bO,_,_,_,bP,_,_,_,bQ⟩:=Z9 h;obtain⟨a5,bg,t,R,a6,bh,a7,bi,a8,bj,rfl,_,_,_,_,_,bR,_,_,_,bS,_,_,_,bT,_,_,_,bU,_,_,_,bV⟩:=Z9 k;obtain⟨ba,bD,bk,cK,aD,_⟩:=zP w (aF x a0 bb a1 bc a2 bd a3 be a4 bf) 74;obtain⟨c,cN,bl,cM,aj,_⟩:=zP ba (aF x a5 bg t R a6 bh a7 bi a8 bj) 74;have dU:=aD.size;have dV:=aj.size;have cO:ba.heap.size=w.heap.size+1:=by rw[<-bD];simp
 have q:=zh (show ∀(j:Nat) (v:Value),((aF x a0 bb a1 bc a2 bd a3 be a4 bf):Array Value)[j]? =some v->∀E,((bW c E:Prop))->(cL E w.heap.size j v:Prop) from λj v aO E aN=>zy (zD aj aN) (bk j v aO));have r:=zh (show ∀(j:Nat) (v:Value),((aF x a5 bg t R a6 bh a7 bi a8 bj):Array Value)[j]? =some v->∀E,((bW c E:Prop))->(cL E (w.heap.size+1) j v:Prop) from λj v aO E aN=>by rw[<-cO];exact zy aN (bl j v aO));have H:=zh (zD aD aj);have co:=zh bM;have ct:=zh bR;have cp:=zh bN;have cu:=zh bS;have cq:=zh bO;have cv:=zh bT;have cr:=zh bP;have cw:=zh bU;have cs:=zh bQ;have cx:=zh bV;clear h k bM bN bO bP bQ bR bS bT bU bV bk bl cK cM aD aj;have dP:prog.eqGuardType prog.depth 124=false:=kr
 have dW:prog.stoodInHeld 124=false:=kr
 have dZ:=underlying124;have dR:prog.eqGuardType prog.depth 149=false:=kr
 have dY:prog.stoodInHeld 149=false:=kr
 have d1:=underlying149;have dQ:prog.eqGuardType prog.depth 151=false:=kr
 have dX:prog.stoodInHeld 151=false:=kr
 have d0:=underlying151;have c6:=q.out 0 _ rfl c zbr;have dv:=r.out 0 _ rfl c zbr;have c7:=q.out 1 _ rfl c zbr;have dw:=r.out 1 _ rfl c zbr;have c8:=q.out 2 _ rfl c zbr;have dx:=r.out 2 _ rfl c zbr;have c9:=q.out 3 _ rfl c zbr;have dy:=r.out 3 _ rfl c zbr;have da:=q.out 4 _ rfl c zbr;have dz:=r.out 4 _ rfl c zbr;have db:=q.out 5 _ rfl c zbr;have dA:=r.out 5 _ rfl c zbr;have dd:=q.out 6 _ rfl c zbr;have dB:=r.out 6 _ rfl c zbr;go_enter func46,ntmps46
 go_wp2_with fail
 clear c6 dv c7 dw c8 dx c9 dy da dz db dA dd dB bD cN;go_loopw [5] (λi wr=>∃k:Nat,k<=x.manifests.length/\i= .int .i64 k/\bW c wr) (λi _=>x.manifests.length-(intOf i).toNat)
 case atStart=>exact⟨0,om,gn,Below.refl _ _⟩
 obtain⟨k,ak,rfl,hbel⟩:=hrel;have z:=q.out 2 _ rfl wr hbel;have s:=r.out 2 _ rfl wr hbel;have f:=zD H hbel;by_cases p:k<x.manifests.length
 ·as_aux_lemma=>
   obtain⟨m,am,ao,cT,cV,aQ,aR,m_k,m_d,af,rfl,an,al,J,K,ae,bG,bH,_,_,_,m_R,_,bK,_,_,_,c3,_,cZ,c0,c1,bJ,_,c4⟩:=z6m co.out p (zK f);obtain⟨A,az,aC,dj,dl,aV,aW,y_k,y_d,aB,rfl,aA,ay,C,D,G,aw,ax,dg,dh,di,y_R,_,b6,_,_,_,dt,_,dp,dq,dr,b5,_,du⟩:=z6m ct.out p (zK f);obtain rfl:m=A:=zsi (m_k.symm.trans y_k);have ab:(k:Int)<(x.manifests.length:Int):=om
   have bE:m.prev.length=0:=by rw[cj.o m af];rfl
   rw[bE] at ae G;clear bE;obtain⟨ag,ad,U,aL,d,c5⟩:=zP wr #[m.folder,m.seq,.slice cT 0 cV,m.parent,.slice aQ m.members.length aR,m.cut,m.gone,m.who] 84;obtain⟨L,aP,g,aM,e,ap⟩:=zP ag #[m.folder,m.seq,.slice dj 0 dl,m.parent,.slice aV m.members.length aW,m.cut,m.gone,m.who] 84;have l:ag.heap.size=wr.heap.size+1:=by rw[<-ad,World.size_alloc]
   obtain⟨V,W,X,Y,Z,bz,bA,bB⟩:=TC8 U;have cd:=zy d s;have bs:=zy d C;have bt:=zy d D;have bu:=zy d G;have bv:=zy d aw;have bw:=zy d ax;have dM:=zy d dg;have dN:=zy d dh;have dO:=zy d di;have bX:=zy e V;have bY:=zy e W;have bZ:=zy e X;have ah:=zy e Y;have b0:=zy e Z;have b1:=zy e bz;have b2:=zy e bA;have b3:=zy e bB;have aq:=g 0 _ rfl;rw[l] at aq;have ar:=g 1 _ rfl;rw[l] at ar;have au:=g 2 _ rfl;rw[l] at au;have F:=g 3 _ rfl;rw[l] at F;have av:=g 4 _ rfl;rw[l] at av;have aS:=g 5 _ rfl;rw[l] at aS;have aT:=g 6 _ rfl;rw[l] at aT;have aU:=g 7 _ rfl;rw[l] at aU;have N:=zh (show Sl 2 zZ S wr (.slice aQ m.members.length aR) m.members from⟨aQ,aR,rfl,cZ,by unfold maxLen;exact c0,c1,bJ⟩);have O:=zh (show Sl 2 zZ S' wr (.slice aV m.members.length aW) m.members from⟨aV,aW,rfl,dp,by unfold maxLen;exact dq,dr,b5⟩);have I:=zh (zD d e);have cS:wr.heap.size+1<L.heap.size:=by rw[<-l];exact ap
   clear V W X Y Z bz bA bB U aL d g aM e m_k y_k m_d y_d m_R y_R c3 dt bJ b5 ap;go_wp2_with fail
   refine zcb (zEg m.members _ _ L _ _ (N.keep ZA dc (zK I)) (O.keep ZA dc (zK I))) λ_ t=>?_;replace b1:=zy t b1;replace aS:=zy t aS;replace b2:=zy t b2;replace aT:=zy t aT;replace b3:=zy t b3;replace aU:=zy t aU;have ce:=zh (zD hbel (zD I t));clear t ad aP;go_wp2;go_roundw
   case rel=>exact⟨k+1,om,gn,ce⟩
   case measure=>exact qMx
 obtain rfl:k=x.manifests.length:=om
 go_wp2;clear z s;obtain⟨y,rfl⟩:∃y:World,y=wr:=⟨_,rfl⟩;go_loopw [8] (λi wr=>∃k:Nat,k<=x.epochs.length/\i= .int .i64 k/\bW c wr) (λi _=>x.epochs.length-(intOf i).toNat)
 case atStart=>exact⟨0,om,gn,hbel⟩
 obtain⟨k,ak,rfl,hbel⟩:=hrel;have z:=q.out 3 _ rfl wr hbel;have s:=r.out 3 _ rfl wr hbel;have f:=zD H hbel;by_cases p:k<x.epochs.length
 ·as_aux_lemma=>
   obtain⟨m,am,ao,cU,cX,m_k,m_d,af,rfl,an,al,J,K,ae,bG,bH,m_R,_,_,bK,_,_,_,bI,c4⟩:=zBn cp.out p (zK f);obtain⟨A,az,aC,dk,dm,y_k,y_d,aB,rfl,aA,ay,C,D,G,aw,ax,y_R,_,_,b6,_,_,_,b4,du⟩:=zBn cu.out p (zK f);obtain rfl:m=A:=zsi (m_k.symm.trans y_k);have ab:(k:Int)<(x.epochs.length:Int):=om
   obtain⟨ag,ad,U,aL,d,c5⟩:=zP wr (aE m cU cX) 130;obtain⟨L,aP,g,aM,e,ap⟩:=zP ag (aE m dk dm) 130;have l:ag.heap.size=wr.heap.size+1:=by rw[<-ad,World.size_alloc]
   obtain⟨V,W,X,Y,Z⟩:=TC5 U;have cd:=zy d s;have bs:=zy d C;have bt:=zy d D;have bu:=zy d G;have bv:=zy d aw;have bw:=zy d ax;have bX:=zy e V;have bY:=zy e W;have bZ:=zy e X;have ah:=zy e Y;have b0:=zy e Z;have aq:=g 0 _ rfl;rw[l] at aq;have ar:=g 1 _ rfl;rw[l] at ar;have au:=g 2 _ rfl;rw[l] at au;have F:=g 3 _ rfl;rw[l] at F;have av:=g 4 _ rfl;rw[l] at av;have N:=zh bI;have O:=zh b4;have I:=zh (zD d e);have dT:wr.heap.size<L.heap.size:=zF ah;have cS:wr.heap.size+1<L.heap.size:=zF F;have cm:=zh ah;have ck:=zh F;have aH:=zh hbel;clear V W X Y Z U aL d g aM e m_k y_k m_d y_d m_R y_R bI b4 ap;go_wp2_with fail
   clear z s cd ad aP bX aq bs J C bY ar bt K D bZ au bu ae G ah F bv bG aw b0 av bw bH ax;obtain⟨M,rfl⟩:∃M:World,M=wr:=⟨_,rfl⟩;have dS:=ab;clear hbel f;go_loopw [11] (λi wr=>∃n:Nat,n<=m.chain.length/\i= .int .i64 n/\bW L wr) (λi _=>m.chain.length-(intOf i).toNat)
   case atStart=>exact⟨0,om,gn,Below.refl _ _⟩
   obtain⟨n,cQ,rfl,u⟩:=hrel;have ah:=zy u cm;have F:=zy u ck;have a9:=zD I u;by_cases ac:n<m.chain.length
   ·as_aux_lemma=>
     obtain⟨B,cB,cJ,T,aK,cH,rfl,cF,cA,bm,bn,aJ,_,_⟩:=zFj N ac (zK a9);obtain⟨aX,dF,dL,ai,aZ,dK,rfl,dJ,dE,b8,b9,aY,_,_⟩:=zFj O ac (zK a9);obtain rfl:B=aX:=zsi (T.symm.trans ai);have cP:(n:Int)<(m.chain.length:Int):=om
     clear T ai aK aZ aJ aY;go_wp2_with fail
     go_quiet (fail)
     go_wp2;go_roundw
     case rel=>exact⟨n+1,om,gn,yS u _⟩
     case measure=>exact qMx
   obtain rfl:n=m.chain.length:=om
   go_wp2;go_roundw
   case rel=>exact⟨k+1,om,gn,zD aH (zD I u)⟩
   case measure=>exact qMx
 obtain rfl:k=x.epochs.length:=om
 go_wp2;clear z s;obtain⟨y,rfl⟩:∃y:World,y=wr:=⟨_,rfl⟩;go_loopw [12] (λi wr=>∃k:Nat,k<=x.items.length/\i= .int .i64 k/\bW c wr) (λi _=>x.items.length-(intOf i).toNat)
 case atStart=>exact⟨0,om,gn,hbel⟩
 obtain⟨k,ak,rfl,hbel⟩:=hrel;have z:=q.out 4 _ rfl wr hbel;have s:=r.out 4 _ rfl wr hbel;have f:=zD H hbel;by_cases p:k<x.items.length
 rotate_left
 ·obtain rfl:k=x.items.length:=om
  go_wp2;clear z s;obtain⟨y,rfl⟩:∃y:World,y=wr:=⟨_,rfl⟩;go_loopw [16] (λi wr=>∃k:Nat,k<=x.wraps.length/\i= .int .i64 k/\bW c wr) (λi _=>x.wraps.length-(intOf i).toNat)
  case atStart=>exact⟨0,om,gn,hbel⟩
  obtain⟨k,ak,rfl,hbel⟩:=hrel;have z:=q.out 5 _ rfl wr hbel;have s:=r.out 5 _ rfl wr hbel;have f:=zD H hbel;by_cases p:k<x.wraps.length
  ·as_aux_lemma=>
    obtain⟨m,am,ao,m_k,m_d,af,rfl,an,al,J,K,ae,m_R,c2,cY⟩:=z8u cr.out p (zK f);obtain⟨A,az,aC,y_k,y_d,aB,rfl,aA,ay,C,D,G,y_R,ds,dn⟩:=z8u cw.out p (zK f);obtain rfl:m=A:=zsi (m_k.symm.trans y_k);have ab:(k:Int)<(x.wraps.length:Int):=om
    exact mcC
  obtain rfl:k=x.wraps.length:=om
  go_wp2;clear z s;obtain⟨y,rfl⟩:∃y:World,y=wr:=⟨_,rfl⟩;go_loopw [17] (λi wr=>∃k:Nat,k<=x.links.length/\i= .int .i64 k/\bW c wr) (λi _=>x.links.length-(intOf i).toNat)
  case atStart=>exact⟨0,om,gn,hbel⟩
  obtain⟨k,ak,rfl,hbel⟩:=hrel;have z:=q.out 6 _ rfl wr hbel;have s:=r.out 6 _ rfl wr hbel;have f:=zD H hbel;by_cases p:k<x.links.length
  ·as_aux_lemma=>
    obtain⟨m,am,ao,m_k,m_d,af,rfl,an,al,J,K,ae,m_R,cY,_,bK⟩:=zAh cs.out p (zK f);obtain⟨A,az,aC,y_k,y_d,aB,rfl,aA,ay,C,D,G,y_R,dn,_,b6⟩:=zAh cx.out p (zK f);obtain rfl:m=A:=zsi (m_k.symm.trans y_k);have ab:(k:Int)<(x.links.length:Int):=om
    exact mcC
  obtain rfl:k=x.links.length:=om
  go_wp2;go_ret;exact⟨rfl,zD H hbel⟩
 as_aux_lemma=>
  obtain⟨m,am,ao,_,_,m_k,m_d,af,rfl,an,al,J,K,m_R,c2,_,_,_,bL⟩:=z0w cq.out p (zK f);obtain⟨A,az,aC,_,_,y_k,y_d,aB,rfl,aA,ay,C,D,y_R,ds,_,_,_,b7⟩:=z0w cv.out p (zK f);obtain rfl:m=A:=zsi (m_k.symm.trans y_k);have ab:(k:Int)<(x.items.length:Int):=om
  have N:=zh bL;have O:=zh b7;have aH:=zh hbel;clear m_k y_k m_d y_d m_R y_R bL b7;go_wp2_with fail
  go_quiet (fail)
  go_wp2;generalize bF:World.drewN _ _=df;have cl:=zh (show (bW wr df:Prop) from by rw[<-bF];exact yS zbr _);clear z s J K C D bF;obtain⟨M,rfl⟩:∃M:World,M=wr:=⟨_,rfl⟩;clear hbel f;go_loopw [15] (λi wr=>∃n:Nat,n<=m.versions.length/\i= .int .i64 n/\bW M wr) (λi _=>m.versions.length-(intOf i).toNat)
  case atStart=>exact⟨0,om,gn,cl⟩
  obtain⟨n,cQ,rfl,u⟩:=hrel;by_cases ac:n<m.versions.length
  rotate_left
  ·obtain rfl:n=m.versions.length:=om
   go_wp2;go_roundw
   case rel=>exact⟨k+1,om,gn,zD aH u⟩
   case measure=>exact qMx
  as_aux_lemma=>
   obtain⟨B,cB,cJ,bo,bp,T,aK,cH,rfl,cF,cA,bm,bn,cy,cz,aJ,_,_,cC,cD,cE,bq⟩:=z3v N ac (zK u);obtain⟨aX,dF,dL,ca,cb,ai,aZ,dK,rfl,dJ,dE,b8,b9,dC,dD,aY,_,_,dG,dH,dI,cc⟩:=z3v O ac (zK u);obtain rfl:B=aX:=zsi (T.symm.trans ai);have cP:(n:Int)<(m.versions.length:Int):=om
   have cg:=zh (show Sl 1 Y1 S wr (.slice bo B.data.length bp) B.data from⟨bo,bp,rfl,cC,by unfold maxLen;exact cD,cE,bq⟩);have ci:=zh (show Sl 1 Y1 S' wr (.slice ca B.data.length cb) B.data from⟨ca,cb,rfl,dG,by unfold maxLen;exact dH,dI,cc⟩);clear T ai aK aZ aJ aY bq cc;go_upto_region 32 with fail
   have aI:=zh (HQb8 (zyB bm) (zyB bn) (zyB cy) (zyB cz) (zyB b8) (zyB b9) (zyB dC) (zyB dD));refine zE kr aI.o (λaa=>?_);refine zi 0 ?_;iterate 48 (refine zt aa ?_;simp only[zA])
   refine zo ?_;refine wpAnyH_ready (rs:=[48]) kr sm ?_;refine AllReadyH.cons rfl (λcn bC=>?_) AllReadyH.nil;go_simp;go_at_call 30
   refine zcb (zD2 B.data _ _ _ S S' (cg.keep rByte_ok dc (zK (zbr.drew))) (ci.keep rByte_ok dc (zK (zbr.drew)))) λde R=>?_;have aG:(bW wr de:Prop):=zD (zbr.drew) R;clear R aa;refine bC.out _ _ (aI.o _ aG) (λaa=>?_);clear bC cn;refine zi 49 ?_;iterate 2 (refine zt aa ?_;simp only[zA])
   refine zo ?_;have cf:=zh (u.trans (aG.mono u.size));refine wpAnyH_done kr ?_ _;clear aa aI;clear aG;go_wp2;go_roundw
   case rel=>exact⟨n+1,om,gn,cf⟩
   case measure=>exact qMx
end
end Go.Proofs.YtdggplhnfhcieaaGreatDoor
