/- No condition. -/
import Derived.Shelf.SlSortCmp.SmallK
import Derived.Shelf.Small.Bits
import Derived.Maps.OwnSet
import Derived.DeepKeys4
import Derived.Test.YtdggplhnfhcieaaGreatDoorW01
import Derived.Test.YtdggplhnfhcieaaGreatDoorW02
set_option linter.all false
set_option maxRecDepth 100000
namespace Go.Proofs.YtdggplhnfhcieaaGreatDoor
open Go.Proofs.Tryz Cd Ce List
section
open Go Go.RowKit Go.Deep
section
variable {P:Program} {ops:Array Oper} {Q:Exit->Act->World->Prop} {md:Region.Mode} {S:World->Prop} {n:Nat} {fr:List Nat}
theorem z4p {i j:Nat} {oi d:Oper} {fuel:Nat} {listed:Array Bool} {a:Act} {w:World} (hr:Region.ready md ops listed=[i,j]) (hi:ops[i]? =some oi) (hj:ops[j]? =some d)
  (h1:∀b:Act->World->Prop,Shut (∀a w,S w->(S w->YU P md ops Q S n fr fuel (listed.setIfInBounds i true) a w)->b a w)->if Region.wanted oi (yielded ops a.tmps)=true then Oper.wp P oi a w b Q else b (a.put oi.dst undef) w)
  (h2:∀b:Act->World->Prop,Shut (∀a w,S w->(S w->YU P md ops Q S n fr fuel (listed.setIfInBounds j true) a w)->b a w)->if Region.wanted d (yielded ops a.tmps)=true then Oper.wp P d a w b Q else b (a.put d.dst undef) w):
  YU P md ops Q S n fr (fuel+1) listed a w:=by
 refine⟨λh=>(by rw[hr] at h;cases h),λm k=>?_⟩;rw[hr] at k;rcases(by simpa using k:m=i\/m=j) with rfl|rfl
 ·exact wpOp_step hi (λb f=>h1 b (λa w c g=>f a w ⟨λ_=>c,g c⟩))
 exact wpOp_step hj (λb f=>h2 b (λa w c g=>f a w ⟨λ_=>c,g c⟩))
end
end
end Go.Proofs.YtdggplhnfhcieaaGreatDoor
namespace Go.Proofs.YtdggplhnfhcieaaGreatDoor.Ro
open Go.Proofs.Tryz Cd Ce List
open Go.RowKit Go.Deep
theorem mbD {p:Prop} (h:p:=by
 go_wp2;go_ret;exact⟨by rw[<-EH.o];rfl,rfl⟩):p:=h
theorem refof_any (name:ByteArray) (l:List Member) (v:Value) (w:World) (S:Nat->Prop) (h:Sl 2 zZ S w v l):
  Calls prog 114 #[v,name] w λe w'=>e= .returned (.int .i64 (ofOf l name))/\w=w':=by
 obtain⟨_,_,rfl,_,i,_,m⟩:=h;unfold maxLen at i;go_enter func114,ntmps114
 go_wp2;go_loop [5] (λc=>∃k:Nat,k<=l/\c= .int .i64 k/\ofOf (l.drop k) name=ofOf l name) (λc=>l.length-(intOf c).toNat)
 case atStart=>exact⟨0,om,gn,sm⟩
 obtain⟨k,_,rfl,a⟩:=hrel;by_cases j:k<l
 rotate_left
 ·obtain rfl:k=l:=om
  rw[drop_length] at a;have EH:=zh a;clear a;exact mbD
 obtain⟨x,_,_,f,d,_,rfl,_⟩:=yT m j (Kept.refl w λ_ h=>h);rw[d,ofOf] at a;cases b:eqS x.name name
 ·rw[b] at a;have EH:=ζ (ofOf (l.drop (k+1)) name=ofOf l name) a;have g:(x.name.toList==name.toList)=false:=b;clear a f d b;go_wp2;exact maO
 rw[b] at a;have EH:=ζ (x.role=ofOf l name) a;have g:(x.name.toList==name.toList)=true:=b;clear a f d b;exact mbD
def own4:List Member->Nat
 | []=>0
 | m::r=>(if m.role==4 then 1 else 0)+own4 r
theorem zDl:∀l:List Member,own4 l<=l.length
 | []=>znl _
 | m::r=>by
  have:=zDl r;rw[own4,length_cons];split<;>omega
theorem zBh (l:List Member) (v:Value) (w:World) (S:Nat->Prop) (h:Sl 2 zZ S w v l):
  Calls prog 153 #[v] w λe w'=>e= .returned (.int .i64 (own4 l:Nat))/\w=w':=by
 have p:=zDl l;obtain⟨_,_,rfl,_,i,_,m⟩:=h;unfold maxLen at i;go_enter func153,ntmps153
 go_wp2;go_loop [3,4] (λo c=>∃n b:Nat,b<=l/\c= .int .i64 b/\o= .int .i64 n/\n+own4 (l.drop b)=own4 l) (λ_ c=>l.length-(intOf c).toNat)
 case atStart=>exact⟨0,0,om,gn,gn,sm⟩
 obtain⟨n,b,_,rfl,rfl,a⟩:=hrel;by_cases j:b<l
 rotate_left
 ·obtain rfl:b=l:=om
  rw[drop_length] at a;have EH:=ζ (n=own4 l) a;clear a;exact mbD
 obtain⟨x,_,_,g,d,_,rfl,_⟩:=yT m j (Kept.refl w λ_ h=>h);rw[d,own4] at a;cases f:x.role==4
 ·rw[f] at a;have EH:=zh (by rw[<-a];simp:n+own4 (l.drop (b+1))=own4 l);have k:n<=own4 l:=om
  clear a g d;go_wp2;go_round
  case rel=>exact⟨n,b+1,om,gn,gn,EH.o⟩
  case measure=>simp[intOf];omega
 rw[f] at a;have EH:=zh (by rw[<-a];simp[Nat.add_assoc]:n+1+own4 (l.drop (b+1))=own4 l);have k:n+1<=own4 l:=by simp only[if_true] at a;omega
 clear a g d;go_wp2;go_round
 case rel=>exact⟨n+1,b+1,om,gn,gn,EH.o⟩
 case measure=>simp[intOf];omega
def shareE (a b n:Int) (len:Nat):Int:=if a<3 then 40 else if 0<b then 42 else if 2<n/\a<4 then 40 else if len=8 then 3 else 0
theorem refshare_any (by_ name:ByteArray) (n:Int) (l:List Member) (v:Value) (w:World) (S:Nat->Prop) (h:Sl 2 zZ S w v l):
  Calls prog 111 #[v,by_,name,n] w λe w'=>e= .returned (.int .i64 (shareE (ofOf l by_) (ofOf l name) n l))/\w=w':=by
 have a:=refof_any by_ l v w S h;have b:=refof_any name l v w S h;generalize ofOf l by_=g at a⊢;generalize ofOf l name=i at b⊢;obtain⟨_,_,rfl,_,c,_,d⟩:=h;unfold maxLen at c;clear d;go_enter func111,ntmps111
 go_wp2_with fail
 refine zcm a ?_;rintro e f ⟨rfl,rfl⟩;go_wp2_with (go_at_call 114;refine zcm b ?_;rintro e f ⟨rfl,rfl⟩)
 all_goals
  go_ret;exact⟨Z8 (by unfold shareE;simp_all;try omega),rfl⟩
def changeE (b a n:Int) (c:Nat):Int:=if b<3 then 40 else if a=0 then 35 else if b<4/\(2<n\/2<a) then 40 else if a=4/\n<4/\c=1 then 46 else 0
theorem refchange_any (by_ name:ByteArray) (n:Int) (l:List Member) (v:Value) (w:World) (S:Nat->Prop) (h:Sl 2 zZ S w v l):
  Calls prog 112 #[v,by_,name,n] w λe w'=>e= .returned (.int .i64 (changeE (ofOf l by_) (ofOf l name) n (own4 l)))/\w=w':=by
 have a:=refof_any by_ l v w S h;have b:=refof_any name l v w S h;have c:=zBh l v w S h;have g:=zDl l;generalize ofOf l by_=j at a⊢;generalize ofOf l name=m at b⊢;generalize own4 l=k at c g⊢;obtain⟨_,_,rfl,_,f,_,i⟩:=h;unfold maxLen at f;clear i;go_enter func112,ntmps112
 go_wp2_with fail
 refine zcm a ?_;rintro e d ⟨rfl,rfl⟩;go_wp2_with fail
 refine zcm b ?_;rintro e d ⟨rfl,rfl⟩;go_wp2_with (go_at_call 153;refine zcm c ?_;rintro e d ⟨rfl,rfl⟩)
 all_goals
  go_ret;exact⟨Z8 (by unfold changeE;simp_all;try omega),rfl⟩
def revokeE (c:Bool) (b a:Int) (d:Nat):Int:=if c=false/\b<3 then 40 else if a=0 then 35 else if c=false/\2<a/\b<4 then 40 else if a=4/\d=1 then 46 else 0
theorem refrevoke_any (by_ name:ByteArray) (l:List Member) (v:Value) (w:World) (S:Nat->Prop) (h:Sl 2 zZ S w v l):
  Calls prog 113 #[v,by_,name] w λe w'=>e= .returned (.int .i64 (revokeE (eqS by_ name) (ofOf l by_) (ofOf l name) (own4 l)))/\w=w':=by
 have a:=refof_any by_ l v w S h;have b:=refof_any name l v w S h;have c:=zBh l v w S h;have g:=zDl l;generalize ofOf l by_=k at a⊢;generalize ofOf l name=o at b⊢;generalize own4 l=m at c g⊢;obtain⟨_,_,rfl,_,f,_,i⟩:=h;unfold maxLen at f;clear i;unfold eqS;cases j:(by_.toList==name.toList)
 all_goals
  go_enter func113,ntmps113
  go_wp2_with fail
  refine zcm a ?_;rintro e d ⟨rfl,rfl⟩;go_wp2_with fail
  refine zcm b ?_;rintro e d ⟨rfl,rfl⟩;go_wp2_with (go_at_call 153;refine zcm c ?_;rintro e d ⟨rfl,rfl⟩)
  all_goals
   go_ret;exact⟨Z8 (by unfold revokeE;simp_all;try omega),rfl⟩
end Go.Proofs.YtdggplhnfhcieaaGreatDoor.Ro
namespace Go.Proofs.YtdggplhnfhcieaaGreatDoor.Ro
open Go.Proofs.Tryz Cd Ce List
open Go.RowKit Go.Deep Go.Shelf
def zH0:Go.Shelf.Ren:=⟨fun|6=>172|15=>181|14=>195|28=>210|29=>211|20=>214|21=>215|22=>216|23=>217|24=>218|25=>219|26=>220|27=>221|46=>237|47=>232|48=>233|49=>238|50=>239|57=>245|n=>n,fun|22=>46|24=>87|25=>220|3=>3|39=>225|0=>0|53=>62|55=>256|4=>4|46=>248|45=>247|50=>208|5=>5|9=>9|66=>271|70=>275|76=>288|77=>203|n=>n,fun|n=>n⟩
theorem zO3:Go.Proofs.SlLaysF0.n6 prog zH0:={
 mixed:=kr,
 f6:=⟨f172.name,dc,func172.trans (congrArg some kr)⟩,
 f14:=⟨f195.name,dc,func195.trans (congrArg some kr)⟩,
 f15:=func181.trans (congrArg some kr),
 f20:=⟨f214.name,dc,func214.trans (congrArg some kr)⟩,
 f21:=⟨f215.name,dc,func215.trans (congrArg some kr)⟩,
 f22:=⟨f216.name,dc,func216.trans (congrArg some kr)⟩,
 f23:=⟨f217.name,dc,func217.trans (congrArg some kr)⟩,
 f24:=⟨f218.name,dc,func218.trans (congrArg some kr)⟩,
 f25:=⟨f219.name,dc,func219.trans (congrArg some kr)⟩,
 f26:=⟨f220.name,dc,func220.trans (congrArg some kr)⟩,
 f27:=⟨f221.name,dc,func221.trans (congrArg some kr)⟩,
 f28:=func210.trans (congrArg some kr),
 f29:=func211.trans (congrArg some kr),
 f46:=⟨f237.name,dc,func237.trans (congrArg some kr)⟩,
 f47:=func232.trans (congrArg some kr),
 f48:=func233.trans (congrArg some kr),
 f49:=⟨f238.name,dc,func238.trans (congrArg some kr)⟩,
 f50:=⟨f239.name,dc,func239.trans (congrArg some kr)⟩,
 f57:=⟨f245.name,dc,func245.trans (congrArg some kr)⟩,
 t0:=underlying0,
 a0:=isAgg0,
 z0:=sizeOf0,
 v0:=zeroValue0,
 t3:=underlying3,
 a3:=isAgg3,
 z3:=sizeOf3,
 v3:=zeroValue3,
 t4:=underlying4,
 a4:=isAgg4,
 z4:=sizeOf4,
 v4:=zeroValue4,
 t5:=underlying5,
 a5:=isAgg5,
 z5:=sizeOf5,
 v5:=zeroValue5,
 t9:=underlying9,
 a9:=isAgg9,
 z9:=sizeOf9,
 v9:=zeroValue9,
 t22:=underlying46,
 a22:=isAgg46,
 z22:=sizeOf46,
 v22:=zeroValue46,
 t25:=underlying220,
 a25:=isAgg220,
 z25:=sizeOf220,
 v25:=zeroValue220,
 t39:=underlying225,
 a39:=isAgg225,
 z39:=sizeOf225,
 v39:=zeroValue225,
 t45:=underlying247,
 a45:=isAgg247,
 z45:=sizeOf247,
 v45:=zeroValue247,
 t46:=underlying248,
 a46:=isAgg248,
 z46:=sizeOf248,
 v46:=zeroValue248,
 t50:=underlying208,
 a50:=isAgg208,
 z50:=sizeOf208,
 v50:=zeroValue208,
 t53:=underlying62,
 a53:=isAgg62,
 z53:=sizeOf62,
 v53:=zeroValue62,
 t55:=underlying256,
 a55:=isAgg256,
 z55:=sizeOf256,
 v55:=zeroValue256,
 t66:=underlying271,
 a66:=isAgg271,
 z66:=sizeOf271,
 v66:=zeroValue271,
 t70:=underlying275,
 a70:=isAgg275,
 z70:=sizeOf275,
 v70:=zeroValue275,
 t76:=underlying288,
 a76:=isAgg288,
 z76:=sizeOf288,
 v76:=zeroValue288,
 t77:=underlying203,
 a77:=isAgg203,
 z77:=sizeOf203,
 v77:=zeroValue203 }
def zM1:Go.Shelf.Ren:=⟨fun|125=>181|128=>210|129=>211|n=>n,fun|46=>225|3=>3|51=>62|53=>256|4=>4|5=>5|9=>9|n=>n,fun|n=>n⟩
theorem zUr:Go.Proofs.Lays.n125 prog zM1:={
 mixed:=kr,
 f125:=func181.trans (congrArg some kr),
 f128:=func210.trans (congrArg some kr),
 f129:=func211.trans (congrArg some kr),
 t3:=underlying3,
 a3:=isAgg3,
 z3:=sizeOf3,
 v3:=zeroValue3,
 t4:=underlying4,
 a4:=isAgg4,
 z4:=sizeOf4,
 v4:=zeroValue4,
 t5:=underlying5,
 a5:=isAgg5,
 z5:=sizeOf5,
 v5:=zeroValue5,
 t9:=underlying9,
 a9:=isAgg9,
 z9:=sizeOf9,
 v9:=zeroValue9,
 t46:=underlying225,
 a46:=isAgg225,
 z46:=sizeOf225,
 v46:=zeroValue225,
 t51:=underlying62,
 a51:=isAgg62,
 z51:=sizeOf62,
 v51:=zeroValue62,
 t53:=underlying256,
 a53:=isAgg256,
 z53:=sizeOf256,
 v53:=zeroValue256 }
end Go.Proofs.YtdggplhnfhcieaaGreatDoor.Ro
namespace Go.Proofs.YtdggplhnfhcieaaGreatDoor.Bd
open Go.Proofs.Tryz Cd Ce List
open Go.RowKit Go.Deep
theorem Y7 {c:World} {b a:Nat} {v:Value} (h:(cL c b a v:Prop)):∀W,((bW c W:Prop))->(cL W b a v:Prop):=λ_ d=>zy d h
theorem mal {p:Prop} (h:p:=by
 obtain⟨w0,hw0,cw0,fzw0,Bw0,qw0⟩:=zP w (aS st st_A1 st_c1 st_A2 st_c2 st_A3 st_c3) 34;obtain⟨w0_0,w0_1,w0_2,w0_3⟩:=TC4 cw0;clear cw0;have zw0:=Bw0.size;have k0:=Y7 w0_0;have k1:=Y7 w0_1;have k2:=Y7 w0_2;have k3:=Y7 w0_3;go_enter func37,ntmps37
 go_wp2;go_region_held3 (λW=>(bW w0 W:Prop)) (first|exact zbr.drew|exact Below.drew (by assumption)|exact zD (by assumption) (by assumption)) (first|(go_at_call 65;refine zcm (z82 st H1 _ _ S (zM hR (zK (zD Bw0 (by assumption))))) ?_;rintro e Wh0 ⟨rfl,hh0⟩)|(go_at_call 66;refine zcm (z83 st H2 _ _ S (zM hR (zK (zD Bw0 (by assumption))))) ?_;rintro e Wh1 ⟨rfl,hh1⟩))
 simp(disch:=omega) only[IntWalk.i64_in];go_wp2;go_region_held3 (λW=>(bW w0 W:Prop)) (first|exact zbr.drew|exact Below.drew (by assumption)|exact zD (by assumption) (by assumption)) (first|(go_at_call 65;refine zcm (z82 st H1 _ _ S (zM hR (zK (zD Bw0 (by assumption))))) ?_;rintro e Wh0 ⟨rfl,hh0⟩)|(go_at_call 66;refine zcm (z83 st H2 _ _ S (zM hR (zK (zD Bw0 (by assumption))))) ?_;rintro e Wh1 ⟨rfl,hh1⟩))
 simp(disch:=omega) only[IntWalk.i64_in];go_wp2;go_ret;exact⟨by rw[F.o];rfl,zD Bw0 (by assumption)⟩):p:=h
theorem reffits_any (st:State) (q r:Int) (h1:smallOf st<=1000000) (h2:largeOf st<=1000000) (c:List Value) (w:World) (S:Nat->Prop) (h:Z5 S w c st):
  (kB 37 #[.agg c.toArray,q,r] w (fitsOf st q r):Prop):=by
 have hR:=h;obtain⟨st_A1,st_c1,st_A2,st_c2,st_A3,st_c3,rfl,_⟩:=ZF h;have H1:=zh h1;have H2:=zh h2;by_cases a:q<((120*smallOf st+1020*largeOf st:Nat):Int)
 ·have F:=zh (by simp only[fitsOf,if_pos a]:fitsOf st q r=33);obtain⟨w0,hw0,cw0,fzw0,Bw0,qw0⟩:=zP w (aS st st_A1 st_c1 st_A2 st_c2 st_A3 st_c3) 34;obtain⟨w0_0,w0_1,w0_2,w0_3⟩:=TC4 cw0;clear cw0;have zw0:=Bw0.size;have k0:=Y7 w0_0;have k1:=Y7 w0_1;have k2:=Y7 w0_2;have k3:=Y7 w0_3;go_enter func37,ntmps37
  go_wp2;go_region_held3 (λW=>(bW w0 W:Prop)) (first|exact zbr.drew|exact Below.drew (by assumption)|exact zD (by assumption) (by assumption)) (first|(go_at_call 65;refine zcm (z82 st H1 _ _ S (zM hR (zK (zD Bw0 (by assumption))))) ?_;rintro e Wh0 ⟨rfl,hh0⟩)|(go_at_call 66;refine zcm (z83 st H2 _ _ S (zM hR (zK (zD Bw0 (by assumption))))) ?_;rintro e Wh1 ⟨rfl,hh1⟩))
  simp(disch:=omega) only[IntWalk.i64_in];go_wp2;go_ret;exact⟨by rw[F.o];rfl,zD Bw0 (by assumption)⟩
 by_cases b:r<((3*smallOf st+18*largeOf st:Nat):Int)
 ·have F:=zh (by simp only[fitsOf,if_neg a,if_pos b]:fitsOf st q r=32);exact mal
 have F:=zh (by simp only[fitsOf,if_neg a,if_neg b]:fitsOf st q r=0);exact mal
end Go.Proofs.YtdggplhnfhcieaaGreatDoor.Bd
namespace Go.Proofs.YtdggplhnfhcieaaGreatDoor
open Go.Proofs.Tryz Cd Ce List
variable {P:Program} {Q:Exit->Act->World->Prop} {l:List (List Value)} {ops:Array Oper} {v:Value} {x:GN}
section
open Go.RowKit Go.Deep Go.Maps
def vG (x:GN):Value:= .agg #[x.1,x.2.1,x.2.2]
def cG (x:GN):List Value:=[.bool x.1,.string x.2.1,.int .i64 x.2.2]
structure OkG (x:GN):Prop where
 size:x.2.1.size<=1000
 num:I64 x.2.2
def kG (x:GN):Lit:= .string (Go.keyBytes [.bool x.1,.string x.2.1.data.toList,.int .i64 x.2.2])
theorem zW0 {y:GN} (h:vG x=vG y):x=y:=by
 obtain⟨_,_,_⟩:=x;obtain⟨_,_,_⟩:=y;simpa[vG] using h
theorem zW1 (x:GN):(cG x).length=3:=rfl
theorem zBo (x:GN):∀u∈cG x,u.oneCell'=true:=by
 intro u a;simp only[cG,qLcx,not_mem_nil,or_false] at a;rcases a with rfl|rfl|rfl<;>rfl
theorem zJt (x:GN):WideAt.IsKeyLit (kG x):=by simp [kG,WideAt.IsKeyLit]
theorem keyNode:Keyed prog 244:=Keyed.of_law (deep_law_laid zJs (m:=3) om (of_decide_eq_true kr) kr kr)
theorem zEv {x:GN} (h:OkG x):keyOf prog 244 (vG x)=some (kG x):=by
 obtain⟨a,b,c⟩:=x;obtain⟨h1,h2⟩:=h;dsimp only at h1 h2;obtain⟨d,hd⟩:∃d,prog.types.size+1=d+1+1:=⟨prog.types.size-1,by have:0<prog.types.size:=of_decide_eq_true kr;omega⟩;have k1:prog.keyType 244=true:=kr
 have k2:(vG (a,b,c)).formed prog 244=true:=by
  have:prog.cellsOf 244=3:=kr
  simp[Value.formed,underlying244,this,vG]
 have c0:prog.cellsOf 244=3:=kr
 have c1:prog.cellsOf 4=1:=kr
 have c2:prog.cellsOf 9=1:=kr
 have c3:prog.cellsOf 3=1:=kr
 have hs:b.size<=maxLen:=by unfold maxLen;omega
 unfold keyOf;rw[underlying244,hd];simp only[k1,k2,Bool.and_true,if_true];have h3:IntKind.i64.min<=c/\c<=9223372036854775807:=h2;simp[Program.keyLits,underlying244,underlying4,underlying9,underlying3,c0,c1,c2,c3,vG,Value.cells,hs,Lit.wf,kG,h3]
theorem zPq {y:GN} (hx:OkG x) (hy:OkG y) (h:kG x=kG y):x=y:=zW0 (keyNode.inj (zEv hx) (h▸zEv hy))
theorem z6d (w:World):(zeroValue 3).run prog w= .ok '0' w:=kr
structure Idx (D:DataW Unit) (ns:List GN):Prop where
 isMap:IsMap D
 ok:∀x∈ns,OkG x
 has:∀x,OkG x->(Maps.has D (kG x)=true↔x∈ns)
 val:∀(i:Nat) x,ns[i]? =some x->∀zd,D.atKey (kG x) zd= .lit (.int .i64 i)
theorem Idx.start:Idx (.map []) []:=⟨isMap_empty,λx h=>(by cases h),λx _=>(by simp[Maps.has]),λi x h=>(by simp at h)⟩
theorem Idx.put {j:DataW Unit} {d:List GN} (h:Idx j d) (hx:OkG x) (hn:x∉d):Idx (j.put (kG x) (.lit (.int .i64 d))) (d++[x]):=by
 refine⟨h.isMap.put _ _,λb a=>?_,λb a=>?_,λf b c o=>?_⟩
 ·rcases zmb a with a|a
  ·exact h.ok b a
  rw[zml a];exact hx
 ·by_cases e:b=x
  ·subst e;rw[has_put_same h.isMap (zJt _)];simp
  rw[has_put_other λg=>e (zPq a hx g),h.has b a,mem_append,mem_singleton];exact⟨.inl,λh=>h.resolve_right e⟩
 rcases Nat.lt_or_ge f d with i|i
 ·rw[qLlx i] at c;have k:=zmg c;rw[atKey_put_other λg=>hn (zPq (h.ok b k) hx g▸k)];exact h.val f b c o
 rw[qLrx i] at c;have m:f-d.length=0:=by have:=(zge c).1;simp at this;omega
 rw[m] at c;obtain rfl:x=b:=by simpa using c
 obtain rfl:f=d:=om
 exact atKey_put_same h.isMap (zJt _) _ _
theorem Idx.look {a:DataW Unit} {b:List GN} (h:Idx a b) (hx:OkG x) {c:Int} (d:a.atKey (kG x) (.lit (.int .i64 0))= .lit (.int .i64 c)):
  (Maps.has a (kG x)=true/\∃i:Nat,b[i]? =some x/\c=i)\/(Maps.has a (kG x)=false/\x∉b):=by
 by_cases e:x∈b
 ·left;obtain⟨i,f⟩:=getElem?_of_mem e;refine⟨(h.has x hx).2 e,i,f,?_⟩;rw[h.val i x f] at d;simpa using d.symm
 right;exact⟨by rw[<-Bool.not_eq_true];exact λg=>e ((h.has x hx).1 g),e⟩
end
section
open Go.RowKit Go.Deep
section
variable {e:TypeId} {sz:Nat}
theorem RowC.shape3 {w:World} {l:List (List Value)} (h:RowC e sz w v l):∃a n c,v= .slice a n c:=by
 obtain⟨a,c,h,_⟩:=h.shape;exact⟨a,_,c,h⟩
theorem RowC.below {w w':World} (h:RowC e sz w v l) (hb:(bW w w':Prop)):RowC e sz w' v l:=h.keep λb hv=>hb.block b (h.lt b hv)
theorem z9q {t:TypeId} (i:TypeInfo) (m:Value) (o:Nat) (w:P.underlying t=some (.slice e)) (hi:P.info? e=some i) (hz:i.zero=some m) (h1:i.size=sz) (h2:i.bytes=o) (hzs:m.cells.size=sz) (F:0<sz) (B:o<=1000) (f:TypeId) {W:World} (h:RowC e sz W v l) (hl:l.length<=10000) (x:List Value) (hx:x=sz) (hx1:∀u∈x,u.oneCell'=true) (N c:Nat) (A:W.heap[N]? =some (.cells x.toArray e (0,0))):
  ∃v' w',(Builtin.append_ #[t,t] f #[v,.slice (some ⟨N,0,none⟩) 1 c]).run P W= .ok v' w'/\RowC e sz w' v' (l++[x])/\W.grownBy w' v.ownBlock/\(v'.ownBlock=v.ownBlock\/∃k,v'.ownBlock=some k/\W.heap.size<=k):=by
 have r:∀(j:Nat) (u:Value),x[j]? =some u->W.cell? ((⟨N,0,none⟩:Addr).add j)=some u:=by
  intro j u hj;rw[Addr.add_lit];rw[cell_of_row _ N _ x.toArray _ (0,0) A];simpa using hj
 have p:∀y∈l++[x],y=sz/\∀u∈y,u.oneCell'=true:=by
  exact mbT
 have hflat:(l++[x]).flatten=l.flatten++x:=sm
 have hfl:l.flatten.length=l.length*sz:=z69 λy hy=>(h.1 y hy).1
 rcases h.2 with ⟨rfl,rfl⟩|⟨g,off,cap,cur,rfl,hg,V,hcm,Z,hcell⟩
 ·obtain⟨v',w',O,r2,R,_,T⟩:=run_append_own_at (P:=P) W W t f e i m sz o w hi hz h1 h2 hzs F () 0 [] (World.ownsRow_nil _ _ _ _) ⟨N,0,none⟩ 1 c x (by rw[hx];omega) r hx1 (by simp only[maxLen];omega) om sm;refine⟨v',w',O,⟨p,?_⟩,R,?_⟩
  ·exact maG
  rcases T with h|h
  ·exact .inl h
  exact .inr ⟨_,h,sm⟩
 have Y:=zI hg;have a:=hg;by_cases s:l+1<=cap
 rotate_left
 ·have X:l=cap:=om
  have D:∀j u,l.flatten[j]? =some u->W.cell? ((⟨g,off,none⟩:Addr).add j)=some u:=by
   intro j u hj;rw[Addr.add_lit,cell_of_row _ g _ cur _ (0,0) a];exact hcell j u hj
  have b:=run_append_grow (P:=P) W t f e i m w hi hz ⟨g,off,none⟩ l cap l.flatten (by rw[h1];exact hfl) D ⟨N,0,none⟩ 1 c x (by rw[h1,hx];omega) r om om (growslice_fits om (by rw[h2];have:=Nat.mul_le_mul (by omega:l.length+1<=10001) B;omega));have hge:=grownCap_ge W (l.length+1) cap e;refine⟨_,_,b,⟨p,.inr ⟨_,0,grownCap W (l.length+1) cap e,_,sm,heap_alloc_new _ _,by simpa using hge,grownCap_le_maxLen _ _ _ _ (by simp only[maxLen];omega),?_,λj y hy=>?_⟩⟩,?_,.inr ⟨_,rfl,sm⟩⟩
  ·exact maP
  ·exact maT
  exact⟨rfl,rfl,rfl,sm,λq hq _=>Below.heap_alloc _ _ q hq⟩
 have U:off+l.length*sz+sz<=cur.size:=by
  have:=Nat.mul_le_mul_right sz s;rw[Nat.add_mul,Nat.one_mul] at this;omega
 have E:∀j,j<x.length->(W.cell? ⟨g,off+l.length*i.size+j,none⟩).isSome=true:=by
  intro j hj;rw[h1,cell_of_row _ g _ cur _ (0,0) a,Array.getElem?_eq_getElem om];rfl
 have C:∀j,j<x.length->W.frozen? (aD g (off+l.length*i.size+j))=false:=λj _=>(zB a).2 _
 have b:=run_append_room_cells (P:=P) W t f e i w hi g off l cap ⟨N,0,none⟩ 1 c x (by rw[h1,hx];omega) r hx1 s E C;rw[h1] at b;obtain⟨z,H,_,k3,k4⟩:=z8w x _ (off+l.length*sz) cur a om;obtain⟨I,J,K,L,M⟩:=z1f g x W (off+l.length*sz);refine⟨_,_,b,⟨p,.inr ⟨g,off,cap,z,sm,H,by simpa using s,hcm,om,λq y hy=>?_⟩⟩,?_,.inl rfl⟩
 ·exact maS
 exact⟨I,J,K,by rw[L];exact znl _,λq _ hq=>M q λe=>hq (by rw[e];rfl)⟩
theorem zLo {P:Program} (W:World) (x:List Value) {ops:Array Oper} {rest:List Oper} {b:Oper} {a:Act} {Q:Exit->Act->World->Prop} (hgd:b.guard=none) (s xo:Operand) (t:TypeId)
  (ho:b.op= .call { callee:= .builtin .append,args:=#[s,xo],argTypes:=#[t,t] })
  (i:TypeInfo) (f:Value) (d:Nat) (o:P.underlying t=some (.slice e)) (hi:P.info? e=some i) (hz:i.zero=some f) (h1:i.size=sz) (h2:i.bytes=d) (q:f.cells.size=sz) (m:0<sz) (j:d<=1000)
  (v:Value) (l:List (List Value)) (hs:a.eval s=v) (N c:Nat) (hxo:a.eval xo= .slice (some ⟨N,0,none⟩) 1 c) (h:RowC e sz W v l) (hl:l.length<=10000) (hx:x=sz) (p:∀u∈x,u.oneCell'=true) (g:W.heap[N]? =some (.cells x.toArray e (0,0)))
  (hK:∀v' w',RowC e sz w' v' (l++[x])->W.grownBy w' v.ownBlock->(v'.ownBlock=v.ownBlock\/∃k,v'.ownBlock=some k/\W.heap.size<=k)->wpList P ops Q rest (a.put b.dst v') w'):wpList P ops Q (b::rest) a W:=by
 obtain⟨v',w',r1,r2,r3,r4⟩:=z9q (P:=P) i f d o hi hz h1 h2 q m j b.type h hl x hx p N c g;exact mci
theorem ButB.row {d W f:World} {c:Option Nat} (g:W.grownBy f c) (B:(bW d W:Prop)):ButB (λx=>c=some x) d f:=
 ⟨g.os.trans B.os,g.tape.trans B.tape,g.output.trans B.output,qNtx B.size g.size,λa b h=>(g.block a (zll b B.size) λe=>h e.symm).trans (B.block a b)⟩
theorem z2b {P:Program} (f W:World) (x:List Value) {ops:Array Oper} {rest:List Oper} {b:Oper} {a:Act} {Q:Exit->Act->World->Prop} (r:b.guard=none) (s m:Operand) (t:TypeId)
  (y:b.op= .call { callee:= .builtin .append,args:=#[s,m],argTypes:=#[t,t] })
  (i:TypeInfo) (d:Value) (g:Nat) (A:P.underlying t=some (.slice e)) (hi:P.info? e=some i) (hz:i.zero=some d) (h1:i.size=sz) (h2:i.bytes=g) (D:d.cells.size=sz) (z:0<sz) (q:g<=1000)
  (v:Value) (l:List (List Value)) (hs:a.eval s=v) (N c:Nat) (C:a.eval m= .slice (some ⟨N,0,none⟩) 1 c) (h:RowC e sz f v l) (j:(bW f W:Prop)) (hl:l.length<=10000) (hx:x=sz) (B:∀u∈x,u.oneCell'=true) (p:W.heap[N]? =some (.cells x.toArray e (0,0)))
  (o:∀v' w',RowC e sz w' v' (l++[x])->ButB (λd=>v.ownBlock=some d) f w'->(v'.ownBlock=v.ownBlock\/∃k,v'.ownBlock=some k/\f.heap.size<=k)->wpList P ops Q rest (a.put b.dst v') w'):wpList P ops Q (b::rest) a W:=by
 obtain⟨v',w',E,F,G,H⟩:=z9q (P:=P) i d g A hi hz h1 h2 D z q b.type (h.below j) hl x hx B N c p;exact Lib.wpList_append_run _ r s m t t y _ _ hs C v' w' E (o v' w' F (ButB.row G j) (H.imp id λ⟨k,e,w⟩=>⟨k,e,qNtx j.size w⟩))
theorem z1y {P:Program} (f W:World) (x:List Value) {ops:Array Oper} {b:Oper} {a:Act} {o:Act->World->Prop} {Q:Exit->Act->World->Prop} {p:Prop} (y:b.guard=none) (s m:Operand) (t:TypeId)
  (A:b.op= .call { callee:= .builtin .append,args:=#[s,m],argTypes:=#[t,t] })
  (i:TypeInfo) (d:Value) (g:Nat) (C:P.underlying t=some (.slice e)) (hi:P.info? e=some i) (hz:i.zero=some d) (h1:i.size=sz) (h2:i.bytes=g) (G:d.cells.size=sz) (B:0<sz) (w:g<=1000)
  (v:Value) (l:List (List Value)) (hs:a.eval s=v) (N c:Nat) (F:a.eval m= .slice (some ⟨N,0,none⟩) 1 c) (h:RowC e sz f v l) (j:(bW f W:Prop)) (hl:l.length<=10000) (hx:x=sz) (E:∀u∈x,u.oneCell'=true) (r:W.heap[N]? =some (.cells x.toArray e (0,0)))
  (q:∀v' w',RowC e sz w' v' (l++[x])->ButB (λd=>v.ownBlock=some d) f w'->(v'.ownBlock=v.ownBlock\/∃k,v'.ownBlock=some k/\f.heap.size<=k)->o (a.put b.dst v') w'):if Region.wanted b (yielded ops a.tmps)=true then Oper.wp P b a W o Q else p:=by
 have D:Region.wanted b (yielded ops a.tmps)=true:=by simp[Region.wanted,y]
 rw[if_pos D];obtain⟨v',w',H,I,J,K⟩:=z9q (P:=P) i d g C hi hz h1 h2 G B w b.type (h.below j) hl x hx E N c r;exact Lib.wp_append_run W s m t t A _ _ hs F v' w' H (q v' w' I (ButB.row J j) (K.imp id λ⟨k,e,z⟩=>⟨k,e,qNtx j.size z⟩))
end
end
theorem mbn {p:Prop} (h:p:=by
 obtain⟨A,c,rfl,h1,h2,h3,h4⟩:=h;refine⟨A,c,rfl,h1,h2,h3,λi x hx=>?_⟩;obtain⟨b,o,ys,rfl,_,a2,a3,a4⟩:=h4 i x hx;exact⟨b,o,ys,rfl,k b rfl,a2,a3,a4⟩):p:=h
end Go.Proofs.YtdggplhnfhcieaaGreatDoor
