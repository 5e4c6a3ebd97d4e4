/- No condition. -/
import Derived.Deep.QuietTactic
import Derived.Test.YtdggplhnfhcieaaGreatDoorX07
set_option linter.all false
set_option maxRecDepth 100000
set_option maxHeartbeats 16000000
namespace Go.Proofs.YtdggplhnfhcieaaGreatDoor
section
open Go.RowKit Go.Deep
theorem zRe:∀k:Fin 17,∀m:Fin 65,m.val∈[1,2,4,8,16,32,64]->(bits BinOp.and IntKind.i64 ((z0i k.val:Nat):Int) (m.val:Int) !=0)=z4c (k.val:Int) m.val:=by decide+kernel
def zU9 (M:Bool) (w:World) (e:Ending) (w':World):Prop:=e= .returned (.bool M)/\Below w.heap.size w w'
def zIy (k:Int) (b1 b2 b4 b8 b16 b32 b64:Bool) (user folder name other:ByteArray) (role version n:Int):Bool:=
 txt ZA folder b1 && txt ZA name b2 && txt ZA other (b4 || b8 && !other.toList.isEmpty) && !(!b1 && (other.toList==user.toList)) && !(decide (k=2) && (other.toList==folder.toList)) && num role 1 4 b16 && num version 0 1099511627776 b32 && num n 0 512 b64
theorem zRf (k:Nat) (hk:1<=k) (hk2:k<=16) (F:Nat) (hF:F<=67) (b1 b2 b4 b8 b16 b32 b64:Bool)
  (m1:(bits BinOp.and IntKind.i64 (F:Int) 1 !=0)=b1) (m2:(bits BinOp.and IntKind.i64 (F:Int) 2 !=0)=b2) (m4:(bits BinOp.and IntKind.i64 (F:Int) 4 !=0)=b4) (m8:(bits BinOp.and IntKind.i64 (F:Int) 8 !=0)=b8) (m16:(bits BinOp.and IntKind.i64 (F:Int) 16 !=0)=b16) (m32:(bits BinOp.and IntKind.i64 (F:Int) 32 !=0)=b32) (m64:(bits BinOp.and IntKind.i64 (F:Int) 64 !=0)=b64) (m1z:(bits BinOp.and IntKind.i64 (F:Int) 1==0)=!b1)
 (user folder name other:ByteArray) (role version:Int) (A:Option Addr) (n c:Nat) (hu:user.size<=140737488355328) (hf:folder.size<=140737488355328) (hnm:name.size<=140737488355328) (ho:other.size<=140737488355328) (hun:ZA user=true) (w:World) (h0:0 < w.heap.size) (hc:w.cell? ⟨0,k,none⟩=some (.int .i64 F)):
   Calls Tryz.prog 33 #[.agg #[.int .i64 k,.string user,.string folder,.string name,.string other,.int .i64 role,.int .i64 version,.slice A n c]] w (zU9 (zIy k b1 b2 b4 b8 b16 b32 b64 user folder name other role version n) w):=by
  obtain ⟨M,hM⟩:∃M,zIy k b1 b2 b4 b8 b16 b32 b64 user folder name other role version n=M:=⟨_,rfl⟩;rw [hM];have HM:=zh hM;clear hM;obtain ⟨w0,_,cw0,fw0,Bw0,_⟩:=zQ w #[.int .i64 k,.string user,.string folder,.string name,.string other,.int .i64 role,.int .i64 version,.slice A n c] 41;have s0:=cw0 0 _ rfl;have s1:=cw0 1 _ rfl;have s2:=cw0 2 _ rfl;have s3:=cw0 3 _ rfl;have s4:=cw0 4 _ rfl;have s5:=cw0 5 _ rfl;have s6:=cw0 6 _ rfl;have s7:=cw0 7 _ rfl;have hg:=(Bw0.cell (p:=⟨0,k,none⟩) h0).trans hc;have HN:=zh (z97 user hu w0);rw [hun] at HN;have hki:(k:Int) < 17:=by omega
  have d1:decide ((k:Int) < 1)=false:=decide_eq_false (by omega);have d2:decide ((16:Int) < k)=false:=decide_eq_false (by omega);clear cw0 fw0 hc hun;go_enter Tryz.func33,Tryz.ntmps33
  go_wp2_with (first
   | (go_at_call 51;refine zcm HN.out ?_;rintro e w1 ⟨rfl,rfl⟩)
   | (go_at_call 52;refine zcm (zR6 _ (by assumption) _ _) ?_;rintro e w1 ⟨rfl,rfl⟩)
   | (go_at_call 53;refine zcm (zMr _ _ _ _ _) ?_;rintro e w1 ⟨rfl,rfl⟩))
  all_goals
   go_ret;refine ⟨congrArg (fun b=>Ending.returned (.bool b)) ?_,Bw0⟩;have hm:=HM.out;clear HM HN s0 s1 s2 s3 s4 s5 s6 s7 hg m1 m2 m4 m8 m16 m32 m64 m1z;unfold zIy at hm;subst hm;simp_all
theorem eqC {a b:ByteArray}:(a.toList==b.toList)=decide (a=b):=by
 by_cases h:a=b
 ·subst h;simp
 rw [decide_eq_false h,<-Bool.not_eq_true,beq_iff_eq];intro e;refine h ?_;obtain ⟨⟨l⟩⟩:=a;obtain ⟨⟨r⟩⟩:=b;rw [Lib.toList_data,Lib.toList_data] at e;have e2:l=r:=e;rw [e2]
theorem zUa {a:ByteArray}:a.toList.isEmpty=z2l a:=by
 by_cases h:a=⟨#[]⟩
 ·subst h;rw [Lib.toList_data];rfl
 rw [z23 h];unfold z2l;exact (decide_eq_false h).symm
theorem zTc {k:Int} (h1:1<=k) (h2:k<=16) {user folder name other:ByteArray} (hu:ZA user=true) (role version n:Int):
  zIy k (z4c k 1) (z4c k 2) (z4c k 4) (z4c k 8) (z4c k 16) (z4c k 32) (z4c k 64) user folder name other role version n=z4y ZA k user folder name other role version n:=by
 unfold zIy z4y;rw [eqC,eqC,zUa,decide_eq_true h1,decide_eq_true h2,hu];rfl
theorem z5l {k m:Nat} (hk:k<=16) (hm:m∈[1,2,4,8,16,32,64]):(bits BinOp.and IntKind.i64 ((z0i k:Nat):Int) (m:Int) !=0)=z4c (k:Int) m:=by
 have hm2:m < 65:=by simp at hm;omega
 exact zRe ⟨k,by omega⟩ ⟨m,hm2⟩ hm
theorem zKd:∀k:Nat,z0i k<=67:=by
 intro k;by_cases h:k < 17
 ·have:∀k:Fin 17,z0i k.val<=67:=by decide
  exact this ⟨k,h⟩
 unfold z0i;rw [List.getD_eq_getElem?_getD,List.getElem?_eq_none (by simp;omega)];decide
theorem zFs (kind:Int) (user folder name other:ByteArray) (role version:Int) (A:Option Addr) (n c:Nat) (hu:user.size<=140737488355328) (hf:folder.size<=140737488355328) (hnm:name.size<=140737488355328) (ho:other.size<=140737488355328) (w:World) (h0:0 < w.heap.size) (hc:∀r:Nat,r < 17->w.cell? ⟨0,r,none⟩=some (.int .i64 (z0i r:Nat))):
  Calls Tryz.prog 33 #[.agg #[.int .i64 kind,.string user,.string folder,.string name,.string other,.int .i64 role,.int .i64 version,.slice A n c]] w fun e w'=>e= .returned (.bool (z4y ZA kind user folder name other role version n))/\Below w.heap.size w w':=by
 obtain ⟨w0,_,cw0,fw0,Bw0,_⟩:=zQ w #[.int .i64 kind,.string user,.string folder,.string name,.string other,.int .i64 role,.int .i64 version,.slice A n c] 41;have s0:=cw0 0 _ rfl;have s1:=cw0 1 _ rfl;have HB:=zh Bw0;have HN:=zh (z97 user hu w0);have HC:=zh hc;clear cw0 fw0 Bw0 hc;by_cases h1:kind < 1
 ·have HM:=zh (show z4y ZA kind user folder name other role version n=false by unfold z4y;simp [show ¬1<=kind by omega]);have d1:decide (kind < 1)=true:=decide_eq_true h1;clear h1;go_enter Tryz.func33,Tryz.ntmps33
  go_wp2;go_ret;exact ⟨by rw [HM.out];rfl,HB.out⟩
 have d1:decide (kind < 1)=false:=decide_eq_false h1;by_cases h2:16 < kind
 ·have HM:=zh (show z4y ZA kind user folder name other role version n=false by unfold z4y;simp [show ¬kind<=16 by omega]);have d2:decide (16 < kind)=true:=decide_eq_true h2;clear h1 h2;go_enter Tryz.func33,Tryz.ntmps33
  go_wp2;go_ret;exact ⟨by rw [HM.out];rfl,HB.out⟩
 have d2:decide (16 < kind)=false:=decide_eq_false h2
 cases hun:ZA user with
 | false=>
  have HM:=zh (show z4y ZA kind user folder name other role version n=false by unfold z4y;simp [hun]);rw [hun] at HN;clear h1 h2 hun;go_enter Tryz.func33,Tryz.ntmps33
  go_wp2_with (go_at_call 51;refine zcm HN.out ?_;rintro e _ ⟨rfl,rfl⟩)
  go_ret
  exact ⟨by rw [HM.out];rfl,HB.out⟩
 | true=>
  obtain ⟨k,rfl⟩:∃k:Nat,kind=(k:Int):=⟨kind.toNat,by omega⟩;refine zcm (zRf k (by omega) (by omega) (z0i k) (zKd k) _ _ _ _ _ _ _ (z5l (by omega) (by simp)) (z5l (by omega) (by simp)) (z5l (by omega) (by simp)) (z5l (by omega) (by simp)) (z5l (by omega) (by simp)) (z5l (by omega) (by simp)) (z5l (by omega) (by simp)) ?_ user folder name other role version A n c hu hf hnm ho hun w h0 (HC.out k (by omega))) ?_
  ·have:=z5l (k:=k) (m:=1) (by omega) (by simp);rw [<-this];cases hb:(bits BinOp.and IntKind.i64 ((z0i k:Nat):Int) 1==0)<;>simp [bne,hb]
  rintro e w' ⟨rfl,hb⟩;exact ⟨congrArg (fun b=>Ending.returned (.bool b)) (zTc (by omega) (by omega) hun role version n),hb⟩
end
end Go.Proofs.YtdggplhnfhcieaaGreatDoor
section
namespace Go.Proofs.YtdggplhnfhcieaaGreatDoor.Ro
open Go.RowKit Go.Deep
def withAt (l:List Member) (least:Int):List ByteArray:=(l.filter fun m=>decide (least<=m.role)).map (·.name)
def z07 (l:List Member):Nat:=(withAt l 4).length
theorem withAt_cons (m:Member) (l:List Member) (least:Int):withAt (m :: l) least=if least<=m.role then m.name :: withAt l least else withAt l least:=by
 unfold withAt;rw [List.filter_cons];by_cases h:least<=m.role<;>simp [h]
theorem zBu {l:List Member} {k:Nat} {m:Member} (h:l[k]? =some m) (least:Int):withAt (l.take (k+1)) least=withAt (l.take k) least++if least<=m.role then [m.name] else []:=by
 rw [qLtx,h];unfold withAt;rw [List.filter_append,List.map_append];congr 1;by_cases h:least<=m.role<;>simp [h]
theorem z74 (l:List Member) (least:Int):(withAt l least).length<=l.length:=by
 unfold withAt;rw [qLmx];exact List.length_filter_le _ _
theorem with_any (l:List Member) (least:Int) (v:Value) (w:World) (S:Nat->Prop) (h:Sl 2 zY S w v l) (hl0:l.length<=1000000):
  Calls Tryz.prog 196 #[v,.int .i64 least] w fun e w'=>(∃v',e= .returned v'/\Sl 1 z06 (fun _=>True) w' v' (withAt l least))/\Below w.heap.size w w':=by
 obtain ⟨istring,histring,hzstring,h1string,h2string⟩:=info_parts (show (Tryz.prog.info? 9).map (fun i=>(i.zero,i.size,i.bytes))=some (some (.string ⟨#[]⟩),1,16) from by kernel_rfl);obtain ⟨_,_,rfl,_,hc,_,hs⟩:=h;unfold maxLen at hc;go_enter Tryz.func196,Tryz.ntmps196
 go_wp2;go_loopw [5,10] (fun s i wr=>∃(k:Nat) (v:Value),k<=l.length/\i= .int .i64 k/\v=s/\Grow 9 1 z06 (fun _=>False) wr w.heap.size v (withAt (l.take k) least)/\Below w.heap.size w wr) (fun _ i _=>l.length - (intOf i).toNat)
 case atStart=>exact ⟨0,_,by omega,by go_num,rfl,Grow.nil,by go_grown⟩
 obtain ⟨k,v,_,rfl,rfl,hg,hbel⟩:=hrel;have hz:=hbel.size;have hgb:=hg.base_le;by_cases hlt:k < l.length
 rotate_left
 ·obtain rfl:k=l.length:=by omega
  rw [qLnx] at hg;go_wp2;go_ret;exact ⟨⟨_,rfl,hg.sl ZT (fun _ _ _=>trivial) (fun _ _=>trivial)⟩,hbel⟩
 obtain ⟨wo,rfl⟩:∃wo:World,wo=wr:=⟨_,rfl⟩;obtain ⟨x,_,_,x_k,x_d,_,rfl,_,_,_,_,_,x_name_le,_⟩:=YW hs hlt (zK hbel);obtain ⟨_,_,cy0,_,By0,_⟩:=zQ wo #[.string x.name,.int .i64 x.role] 87;have y0_0:=cy0 0 _ rfl;have y0_1:=cy0 1 _ rfl;clear cy0;have zy0:=By0.size;have hlen:(withAt (l.take k) least).length<=k:=qNtx (z74 _ _) (List.length_take_le _ _);by_cases hx:least<=x.role
 ·have hxd:decide (x.role>=least)=true:=decide_eq_true hx;have hxd2:decide (least<=x.role)=true:=decide_eq_true hx;have TK:=zh (show withAt (l.take (k+1)) least=withAt (l.take k) least++[x.name] by rw [zBu x_k,if_pos hx]);clear x_k x_d hx;go_wp2_with (at_builtin;go_loud (refine yZ (R:=z06) _ _ rfl (.tmp 18) (.tmp 21) 45 rfl 9 istring _ 1 16 Tryz.underlying45 histring hzstring h1string h2string rfl (by decide) ZT w.heap.size (by go_size) _ _ rfl (Grow.below ZT hg By0) _ _ rfl (by simp only [zS]) _ (by intro b hb;exact hb.elim) ⟨rfl,x_name_le⟩ (by omega) (by decide) ?_);intro v1 w1 g1 gg1 go1;obtain ⟨_,_,_,rfl,hn1⟩:=g1.shape';clear hn1)
  go_roundw
  case rel=>
   refine ⟨k+1,_,by omega,by go_num,rfl,by rw [TK.out];exact g1,?_⟩;exact Below.grown (zB hbel By0) gg1 (by omega) fun b hb=>(hgb b hb).1
  case measure=>simp [intOf];omega
 have hxd:decide (x.role>=least)=false:=decide_eq_false hx;have hxd2:decide (least<=x.role)=false:=decide_eq_false hx;have TK:=zh (show withAt (l.take (k+1)) least=withAt (l.take k) least by rw [zBu x_k,if_neg hx,List.append_nil]);clear x_k x_d hx;go_wp2;go_roundw
 case rel=>exact ⟨k+1,v,by omega,by go_num,rfl,by rw [TK.out];exact Grow.below ZT hg By0,zB hbel By0⟩
 case measure=>simp [intOf];omega
theorem zEa (l:List Member) (v:Value) (w:World) (S:Nat->Prop) (h:Sl 2 zY S w v l) (hl0:l.length<=1000000):
  Calls Tryz.prog 174 #[v] w fun e w'=>e= .returned (.int .i64 (z07 l:Nat))/\Below w.heap.size w w':=by
 have H:=zh h;clear h;go_enter Tryz.func174,Tryz.ntmps174
 go_wp2_with fail
 refine zcm (with_any l 4 v _ S H.out hl0) ?_;rintro e _ ⟨⟨_,rfl,_,_,rfl,_⟩,hb1⟩;go_wp2;go_ret;exact ⟨rfl,hb1⟩
def isOf (n:Int):Bool:=decide (1<=n) && decide (n<=4)
theorem zE1 (n:Int) (w:World):Calls Tryz.prog 169 #[.int .i64 n] w fun e w'=>e= .returned (.bool (isOf n))/\w=w':=by
 go_enter Tryz.func169,Tryz.ntmps169
 go_wp2;all_goals
  go_ret;exact ⟨ZM (by first | (simp_all [isOf];done) | (simp_all [isOf];omega)),rfl⟩
def ltS (a b:ByteArray):Bool:=Op.bytesLess a.toList b.toList
def cmpOf (a b:ByteArray):Int:=if ltS a b then -1 else if ltS b a then 1 else 0
theorem z42:∀l:List UInt8,Op.bytesLess l l=false
 | []=>rfl
 | a :: l=>by simp [Op.bytesLess,z42 l]
theorem z5n:∀l r:List UInt8,Op.bytesLess l r=true\/l=r\/Op.bytesLess r l=true
 | [],[]=> .inr (.inl rfl)
 | [],_ :: _=> .inl rfl
 | _ :: _,[]=> .inr (.inr rfl)
 | a :: l,b :: r=>by
  rcases Nat.lt_trichotomy a.toNat b.toNat with h | h | h
  ·left;simp [Op.bytesLess,UInt8.lt_iff_toNat_lt,h]
  ·obtain rfl:a=b:=UInt8.toNat_inj.1 h;rcases z5n l r with h1 | h1 | h1
   ·left;simp [Op.bytesLess,h1]
   ·right;left;rw [h1]
   ·right;right;simp [Op.bytesLess,h1]
  ·right;right;simp [Op.bytesLess,UInt8.lt_iff_toNat_lt,h]
theorem z5o:∀l m r:List UInt8,Op.bytesLess l m=true->Op.bytesLess m r=true->Op.bytesLess l r=true
 | [],[],_,h,_=>by cases h
 | [],_ :: _,[],_,h=>by cases h
 | [],_ :: _,_ :: _,_,_=>rfl
 | _ :: _,[],_,h,_=>by cases h
 | _ :: _,_ :: _,[],_,h=>by cases h
 | a :: l,b :: m,c :: r,h,k=>by
  simp only [Op.bytesLess,Bool.or_eq_true,qBqx,decide_eq_true_eq,beq_iff_eq,UInt8.lt_iff_toNat_lt] at h k⊢;rcases h with h | ⟨rfl,h⟩
  ·rcases k with k | ⟨rfl,k⟩
   ·left;omega
   ·left;exact h
  ·rcases k with k | ⟨rfl,k⟩
   ·left;exact k
   ·right;exact ⟨rfl,z5o l m r h k⟩
theorem toList_inj {a b:ByteArray} (h:a.toList=b.toList):a=b:=by
 rw [Lib.toList_data,Lib.toList_data] at h;exact ByteArray.ext (Array.toList_inj.1 h)
theorem yV {a b:ByteArray}:eqS a b=true↔a=b:=by
 unfold eqS;rw [beq_iff_eq];exact ⟨toList_inj,fun h=>by rw [h]⟩
theorem z4m {a b:ByteArray}:eqS a b=false↔a≠b:=by
 rw [<-Bool.not_eq_true,yV]
theorem YV (a:ByteArray):ltS a a=false:=z42 _
theorem YP {a b c:ByteArray} (h:ltS a b=true) (k:ltS b c=true):ltS a c=true:=z5o _ _ _ h k
theorem z18 (a b:ByteArray):ltS a b=true\/a=b\/ltS b a=true:=(z5n a.toList b.toList).imp id fun h=>h.imp toList_inj id
theorem z3h {a b:ByteArray} (h:ltS a b=true):ltS b a=false:=by
 cases k:ltS b a
 ·rfl
 have:=YP h k;rw [YV] at this;cases this
theorem z5p {a b:ByteArray} (h:ltS a b=true):a≠b:=fun e=>by rw [e,YV] at h;cases h
theorem cmp_any (a b:ByteArray) (w:World):Calls Tryz.prog 161 #[.string a,.string b] w fun e w'=>e= .returned (.int .i64 (cmpOf a b))/\w=w':=by
 rcases z18 a b with h | h | h
 ·have F:=zh (show cmpOf a b= -1 by rw [cmpOf,if_pos h]);have h':Op.bytesLess a.toList b.toList=true:=h;go_enter Tryz.func161,Tryz.ntmps161
  go_wp2;all_goals
   go_ret;exact ⟨by rw [F.out];rfl,rfl⟩
 ·subst h;have F:=zh (show cmpOf a a=0 by rw [cmpOf,YV];rfl);have h':Op.bytesLess a.toList a.toList=false:=z42 _;go_enter Tryz.func161,Tryz.ntmps161
  go_wp2;all_goals
   go_ret;exact ⟨by rw [F.out];rfl,rfl⟩
 have F:=zh (show cmpOf a b=1 by rw [cmpOf,z3h h,h];rfl);have h':Op.bytesLess a.toList b.toList=false:=z3h h;have h2:(a.toList==b.toList)=false:=z4m.2 fun e=>z5p h e.symm
 go_enter Tryz.func161,Tryz.ntmps161
 go_wp2;all_goals
  go_ret;exact ⟨by rw [F.out];rfl,rfl⟩
def z2n:Option ByteArray->List Member->Bool
 | _,[]=>true
 | p,m :: r=>if ZA m.name then (if isOf m.role then (if (match p with | none=>true | some q=>ltS q m.name) then z2n (some m.name) r else false) else false) else false
theorem zLv (p:Option ByteArray) (m:Member) (r:List Member):z2n p (m :: r)=if ZA m.name then (if isOf m.role then (if (match p with | none=>true | some q=>ltS q m.name) then z2n (some m.name) r else false) else false) else false:=by
 cases p<;>rfl
def z8v (l:List Member) (k:Nat):Option ByteArray:=if k=0 then none else (l[k - 1]?).map (·.name)
def rightOf (l:List Member):Bool:=z2n none l && (decide (l.length<=8) && decide (0 < z07 l))
theorem zBv {l:List Member} {k:Nat} {x:Member} (h:l[k]? =some x):z8v l (k+1)=some x.name:=by
 unfold z8v;rw [if_neg (by omega),show k+1 - 1=k by omega,h];rfl
theorem zAb (s:ByteArray) (hs:s.size<=140737488355328) (r:Bool) (h:ZA s=r) (w:World):Calls Tryz.prog 51 #[.string s] w fun e w'=>e= .returned (.bool r)/\w'=w:=
 (z97 s hs w).mono fun e w' h'=>⟨by rw [h'.1,h],h'.2.symm⟩
theorem zLw (n:Int) (r:Bool) (h:isOf n=r) (w:World):Calls Tryz.prog 169 #[.int .i64 n] w fun e w'=>e= .returned (.bool r)/\w'=w:=
 (zE1 n w).mono fun e w' h'=>⟨by rw [h'.1,h],h'.2.symm⟩
theorem z47 {n:Nat} {w w':World} (h:Below n w w'):∀q,Below n w (w'.drewN q)
 | 0=>h
 | q+1=>(z47 h q).drew
theorem z5u {w0:World} {b o:Nat} {v:Value} (h:w0.cell? ⟨b,o,none⟩=some v):∀W,Below w0.heap.size w0 W->W.cell? ⟨b,o,none⟩=some v:=fun _ hb=>(hb.cell (p:=⟨b,o,none⟩) (zF h)).trans h
theorem zO8 (l:List Member) (v:Value) (w:World) (S:Nat->Prop) (h:Sl 2 zY S w v l) (hl0:l.length<=1000000):
  Calls Tryz.prog 168 #[v] w fun e w'=>e= .returned (.bool (rightOf l))/\Below w.heap.size w w':=by
 have H:=zh h;have co:∀W,Below w.heap.size w W->Calls Tryz.prog 174 #[v] W fun e w'=>e= .returned (.int .i64 (z07 l:Nat))/\Below W.heap.size W w':=fun W hb=>zEa l v W S (H.out.keep ZH (by decide) (zK hb)) hl0
 obtain ⟨_,_,rfl,_,hc,_,hs⟩:=h;unfold maxLen at hc;go_enter Tryz.func168,Tryz.ntmps168
 go_wp2;go_loopw [7] (fun i wr=>∃(k:Nat),k<=l.length/\i= .int .i64 k/\z2n (z8v l k) (l.drop k)=z2n none l/\Below w.heap.size w wr) (fun i _=>l.length - (intOf i).toNat)
 case atStart=>exact ⟨0,by omega,by go_num,by simp [z8v],by go_grown⟩
 obtain ⟨k,_,rfl,E,hbel⟩:=hrel;have hz:=hbel.size;by_cases hlt:k < l.length
 rotate_left
 ·obtain rfl:k=l.length:=by omega
  rw [List.drop_length] at E;have EH:=zh (show true=z2n none l by rw [<-E];rfl);clear E;have co':=co _ hbel;go_wp2_with (go_at_call 174;refine zcm co' ?_;rintro e _ ⟨rfl,hb1⟩)
  all_goals
   go_ret;exact ⟨ZM (by rw [rightOf,<-EH.out];simp;omega),by first | exact hbel | exact zB hbel hb1⟩
 obtain ⟨wo,rfl⟩:∃wo:World,wo=wr:=⟨_,rfl⟩;obtain ⟨x,_,_,x_k,x_d,_,rfl,_,_,x_0,x_1,_,x_name_le,_⟩:=YW hs hlt (zK hbel);obtain ⟨_,_,cy0,_,By0,_⟩:=zQ wo #[.string x.name,.int .i64 x.role] 87;have y0_0:=cy0 0 _ rfl;have y0_1:=cy0 1 _ rfl;clear cy0;have zy0:=By0.size;have k0:=z5u y0_0;have k1:=z5u y0_1;rw [x_d,zLv] at E;have E2:=zh E;have PS:=zh (zBv x_k);clear E x_d;cases hnm:ZA x.name
 ·have EH:=zh (show false=z2n none l by rw [<-E2.out,hnm];rfl);have cn:=zAb x.name x_name_le false hnm;clear E2 PS x_k hnm;go_wp2_with fail
  go_quiet ((go_at_call 51;refine Calls.quiet_of_same (cn _)))
  go_wp2;go_ret;exact ⟨ZM (by rw [rightOf,<-EH.out];rfl),z47 (zB hbel By0) _⟩
 have cn:=zAb x.name x_name_le true hnm;cases his:isOf x.role
 ·have EH:=zh (show false=z2n none l by rw [<-E2.out,hnm,his];rfl);have ci:=zLw x.role false his;clear E2 PS x_k hnm his;go_wp2_with fail
  go_quiet (first | (go_at_call 51;refine Calls.quiet_of_same (cn _)) | (go_at_call 169;refine Calls.quiet_of_same (ci _)))
  go_wp2;go_ret;exact ⟨ZM (by rw [rightOf,<-EH.out];rfl),z47 (zB hbel By0) _⟩
 have ci:=zLw x.role true his;rcases k with _ | j
 ·have EH:=zh (show z2n (z8v l (0+1)) (l.drop (0+1))=z2n none l by rw [<-E2.out,hnm,his,PS.out];rfl);clear E2 PS x_k hnm his;simp only [Nat.zero_mul,Nat.add_zero] at x_0 x_1;go_wp2_with fail
  go_quiet (first | (go_at_call 51;refine Calls.quiet_of_same (cn _)) | (go_at_call 169;refine Calls.quiet_of_same (ci _)))
  go_wp2;go_roundw
  case rel=>exact ⟨0+1,by omega,by go_num,EH.out,z47 (zB hbel By0) _⟩
  case measure=>simp [intOf];omega
 have hjl:j < l.length:=by omega
 obtain ⟨p,_,_,p_k,p_d,_,p_e,_,_,p_0,_,_,_,_⟩:=YW hs hjl (zK (zB hbel By0));simp only [Option.some.injEq,Addr.mk.injEq,and_true] at p_e;obtain ⟨rfl,rfl⟩:=p_e;have k2:=z5u p_0;have PJ:=zBv p_k;have e1:IntKind.i64.wrap (((j+1:Nat):Int) - 1)=(j:Int):=by rw [IntWalk.i64_in _ (by omega)];omega
 have e2:IntKind.i64.wrap ((j:Int)+1 - 1)=(j:Int):=by rw [IntWalk.i64_in _ (by omega)];omega
 have hj0:decide (0 < (j:Int)+1)=true:=decide_eq_true (by omega);cases hlt2:ltS p.name x.name
 ·have EH:=zh (show false=z2n none l by rw [<-E2.out,hnm,his,PJ];simp [hlt2]);have h2:Op.bytesLess p.name.toList x.name.toList=false:=hlt2;clear E2 PS PJ x_k p_k p_d hnm his hlt2;go_wp2_with fail
  go_quiet (first | (go_at_call 51;refine Calls.quiet_of_same (cn _)) | (go_at_call 169;refine Calls.quiet_of_same (ci _)))
  go_wp2;go_ret;exact ⟨ZM (by rw [rightOf,<-EH.out];rfl),z47 (zB hbel By0) _⟩
 have EH:=zh (show z2n (z8v l (j+1+1)) (l.drop (j+1+1))=z2n none l by rw [<-E2.out,hnm,his,PS.out,PJ];simp [hlt2]);have h2:Op.bytesLess p.name.toList x.name.toList=true:=hlt2;clear E2 PS PJ x_k p_k p_d hnm his hlt2;go_wp2_with fail
 go_quiet (first | (go_at_call 51;refine Calls.quiet_of_same (cn _)) | (go_at_call 169;refine Calls.quiet_of_same (ci _)))
 go_wp2;go_roundw
 case rel=>exact ⟨j+1+1,by omega,by go_num,EH.out,z47 (zB hbel By0) _⟩
 case measure=>simp [intOf];omega
end Go.Proofs.YtdggplhnfhcieaaGreatDoor.Ro
end
section
namespace Go.Proofs.YtdggplhnfhcieaaGreatDoor.Bd
open Go.RowKit Go.Deep
def smallOf (st:State):Nat:=min st.folders.length 1+2*st.users.length+st.deposits.length+st.folders.length+sumOf small1 st.folders
def largeOf (st:State):Nat:=sumOf large1 st.folders
end Go.Proofs.YtdggplhnfhcieaaGreatDoor.Bd
end
