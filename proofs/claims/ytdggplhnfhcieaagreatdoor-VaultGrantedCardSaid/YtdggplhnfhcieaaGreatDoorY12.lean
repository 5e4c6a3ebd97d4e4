/- Part 12 of the proof of vaultGranted_holds. No condition. -/
import Derived.Deep.QuietTactic
import Derived.Test.YtdggplhnfhcieaaGreatDoorY10
set_option linter.unusedVariables false
set_option linter.unusedSimpArgs false
set_option linter.unusedSectionVars false
set_option maxRecDepth 100000
section
namespace Go.Proofs.YtdggplhnfhcieaaGreatDoor.Ro
open Go.RowKit Go.Deep
def withAt (l:List Member) (least:Int):List ByteArray:=(l.filter fun m=>decide (least<=m.role)).map (·.name)
def YH (l:List Member):Nat:=(withAt l 4).length
theorem withAt_cons (m:Member) (l:List Member) (least:Int):withAt (m :: l) least=if least<=m.role then m.name :: withAt l least else withAt l least:=by
 unfold withAt
 rw [List.filter_cons]
 by_cases h:least<=m.role<;>simp [h]
theorem z9z {l:List Member} {k:Nat} {m:Member} (h:l[k]? =some m) (least:Int):withAt (l.take (k+1)) least=withAt (l.take k) least++if least<=m.role then [m.name] else []:=by
 rw [List.take_add_one,h]
 unfold withAt
 rw [List.filter_append,List.map_append]
 congr 1
 by_cases h:least<=m.role<;>simp [h]
theorem z5n (l:List Member) (least:Int):(withAt l least).length<=l.length:=by
 unfold withAt
 rw [List.length_map]
 exact List.length_filter_le _ _
set_option maxHeartbeats 1000000 in
theorem with_any (l:List Member) (least:Int) (v:Value) (w:World) (S:Nat->Prop) (h:Sl 2 zY S w v l) (hl0:l.length<=1000000):
  Calls Tryz.prog 196 #[v,.int .i64 least] w fun e w'=>(∃v',e= .returned v'/\Sl 1 z2i (fun _=>True) w' v' (withAt l least))/\Below w.heap.size w w':=by
 obtain ⟨istring,histring,hzstring,h1string,h2string⟩:=info_parts (show (Tryz.prog.info? 9).map (fun i=>(i.zero,i.size,i.bytes))=some (some (.string ⟨#[]⟩),1,16) from by kernel_rfl)
 obtain ⟨_,_,rfl,_,hc,_,hs⟩:=h
 unfold maxLen at hc
 go_enter Tryz.func196,Tryz.ntmps196
 go_wp2
 go_loopw [5,10] (fun s i wr=>∃(k:Nat) (v:Value),k<=l.length/\i= .int .i64 k/\v=s/\Grow 9 1 z2i (fun _=>False) wr w.heap.size v (withAt (l.take k) least)/\Below w.heap.size w wr) (fun _ i _=>l.length - (intOf i).toNat)
 case atStart=>exact ⟨0,_,by omega,by go_num,rfl,Grow.nil,by go_grown⟩
 obtain ⟨k,v,_,rfl,rfl,hg,hbel⟩:=hrel
 have hz:=hbel.size
 have hgb:=hg.base_le
 by_cases hlt:k < l.length
 rotate_left
 ·obtain rfl:k=l.length:=by omega
  rw [List.take_length] at hg
  go_wp2
  go_ret
  exact ⟨⟨_,rfl,hg.sl YK (fun _ _ _=>trivial) (fun _ _=>trivial)⟩,hbel⟩
 obtain ⟨wo,rfl⟩:∃wo:World,wo=wr:=⟨_,rfl⟩
 obtain ⟨x,_,_,x_k,x_d,_,rfl,_,_,_,_,_,x_name_le,_⟩:=Y5 hs hlt (zH hbel)
 obtain ⟨_,_,cy0,_,By0,_⟩:=zO wo #[.string x.name,.int .i64 x.role] 87
 have y0_0:=cy0 0 _ rfl
 have y0_1:=cy0 1 _ rfl
 clear cy0
 have zy0:=By0.size
 have hlen:(withAt (l.take k) least).length<=k:=Nat.le_trans (z5n _ _) (List.length_take_le _ _)
 by_cases hx:least<=x.role
 ·have hxd:decide (x.role>=least)=true:=decide_eq_true hx
  have hxd2:decide (least<=x.role)=true:=decide_eq_true hx
  have TK:=zh (show withAt (l.take (k+1)) least=withAt (l.take k) least++[x.name] by rw [z9z x_k,if_pos hx])
  clear x_k x_d hx
  go_wp2_with (at_builtin;go_loud (refine YM (R:=z2i) _ _ rfl (.tmp 18) (.tmp 21) 45 rfl 9 istring _ 1 16 Tryz.underlying45 histring hzstring h1string h2string rfl (by decide) YK w.heap.size (by go_size) _ _ rfl (Grow.below YK hg By0) _ _ rfl (by simp only [zS]) _ (by intro b hb;exact hb.elim) ⟨rfl,x_name_le⟩ (by omega) (by decide) ?_);intro v1 w1 g1 gg1 go1;obtain ⟨_,_,_,rfl,hn1⟩:=g1.shape';clear hn1)
  go_roundw
  case rel=>
   refine ⟨k+1,_,by omega,by go_num,rfl,by rw [TK.out];exact g1,?_⟩
   exact Below.grown (zB hbel By0) gg1 (by omega) fun b hb=>(hgb b hb).1
  case measure=>simp [intOf];omega
 have hxd:decide (x.role>=least)=false:=decide_eq_false hx
 have hxd2:decide (least<=x.role)=false:=decide_eq_false hx
 have TK:=zh (show withAt (l.take (k+1)) least=withAt (l.take k) least by rw [z9z x_k,if_neg hx,List.append_nil])
 clear x_k x_d hx
 go_wp2
 go_roundw
 case rel=>exact ⟨k+1,v,by omega,by go_num,rfl,by rw [TK.out];exact Grow.below YK hg By0,zB hbel By0⟩
 case measure=>simp [intOf];omega
theorem zB6 (l:List Member) (v:Value) (w:World) (S:Nat->Prop) (h:Sl 2 zY S w v l) (hl0:l.length<=1000000):
  Calls Tryz.prog 174 #[v] w fun e w'=>e= .returned (.int .i64 (YH l:Nat))/\Below w.heap.size w w':=by
 have H:=zh h
 clear h
 go_enter Tryz.func174,Tryz.ntmps174
 go_wp2_with fail
 refine zcm (with_any l 4 v _ S H.out hl0) ?_
 rintro e _ ⟨⟨_,rfl,_,_,rfl,_⟩,hb1⟩
 go_wp2
 go_ret
 exact ⟨rfl,hb1⟩
def isOf (n:Int):Bool:=decide (1<=n) && decide (n<=4)
theorem zB0 (n:Int) (w:World):Calls Tryz.prog 169 #[.int .i64 n] w fun e w'=>e= .returned (.bool (isOf n))/\w=w':=by
 go_enter Tryz.func169,Tryz.ntmps169
 go_wp2
 all_goals
  go_ret
  exact ⟨ZI (by first | (simp_all [isOf];done) | (simp_all [isOf];omega)),rfl⟩
def ltS (a b:ByteArray):Bool:=Op.bytesLess a.toList b.toList
def cmpOf (a b:ByteArray):Int:=if ltS a b then -1 else if ltS b a then 1 else 0
theorem z2y:∀l:List UInt8,Op.bytesLess l l=false
 | []=>rfl
 | a :: l=>by simp [Op.bytesLess,z2y l]
theorem z4c:∀l r:List UInt8,Op.bytesLess l r=true\/l=r\/Op.bytesLess r l=true
 | [],[]=> .inr (.inl rfl)
 | [],_ :: _=> .inl rfl
 | _ :: _,[]=> .inr (.inr rfl)
 | a :: l,b :: r=>by
  rcases Nat.lt_trichotomy a.toNat b.toNat with h | h | h
  ·left;simp [Op.bytesLess,UInt8.lt_iff_toNat_lt,h]
  ·obtain rfl:a=b:=UInt8.toNat_inj.1 h
   rcases z4c l r with h1 | h1 | h1
   ·left;simp [Op.bytesLess,h1]
   ·right;left;rw [h1]
   ·right;right;simp [Op.bytesLess,h1]
  ·right;right;simp [Op.bytesLess,UInt8.lt_iff_toNat_lt,h]
theorem z4d:∀l m r:List UInt8,Op.bytesLess l m=true->Op.bytesLess m r=true->Op.bytesLess l r=true
 | [],[],_,h,_=>by cases h
 | [],_ :: _,[],_,h=>by cases h
 | [],_ :: _,_ :: _,_,_=>rfl
 | _ :: _,[],_,h,_=>by cases h
 | _ :: _,_ :: _,[],_,h=>by cases h
 | a :: l,b :: m,c :: r,h,k=>by
  simp only [Op.bytesLess,Bool.or_eq_true,Bool.and_eq_true,decide_eq_true_eq,beq_iff_eq,UInt8.lt_iff_toNat_lt] at h k⊢
  rcases h with h | ⟨rfl,h⟩
  ·rcases k with k | ⟨rfl,k⟩
   ·left;omega
   ·left;exact h
  ·rcases k with k | ⟨rfl,k⟩
   ·left;exact k
   ·right;exact ⟨rfl,z4d l m r h k⟩
theorem toList_inj {a b:ByteArray} (h:a.toList=b.toList):a=b:=by
 rw [Lib.toList_data,Lib.toList_data] at h
 exact ByteArray.ext (Array.toList_inj.1 h)
theorem yK {a b:ByteArray}:eqS a b=true↔a=b:=by
 unfold eqS
 rw [beq_iff_eq]
 exact ⟨toList_inj,fun h=>by rw [h]⟩
theorem z3d {a b:ByteArray}:eqS a b=false↔a≠b:=by
 rw [<-Bool.not_eq_true,yK]
theorem YB (a:ByteArray):ltS a a=false:=z2y _
theorem YT {a b c:ByteArray} (h:ltS a b=true) (k:ltS b c=true):ltS a c=true:=z4d _ _ _ h k
theorem z13 (a b:ByteArray):ltS a b=true\/a=b\/ltS b a=true:=(z4c a.toList b.toList).imp id fun h=>h.imp toList_inj id
theorem z35 {a b:ByteArray} (h:ltS a b=true):ltS b a=false:=by
 cases k:ltS b a
 ·rfl
 have:=YT h k
 rw [YB] at this
 cases this
theorem z58 {a b:ByteArray} (h:ltS a b=true):a≠b:=fun e=>by rw [e,YB] at h;cases h
theorem cmp_any (a b:ByteArray) (w:World):Calls Tryz.prog 161 #[.string a,.string b] w fun e w'=>e= .returned (.int .i64 (cmpOf a b))/\w=w':=by
 rcases z13 a b with h | h | h
 ·have F:=zh (show cmpOf a b= -1 by rw [cmpOf,if_pos h])
  have h':Op.bytesLess a.toList b.toList=true:=h
  go_enter Tryz.func161,Tryz.ntmps161
  go_wp2
  all_goals
   go_ret
   exact ⟨by rw [F.out];rfl,rfl⟩
 ·subst h
  have F:=zh (show cmpOf a a=0 by rw [cmpOf,YB];rfl)
  have h':Op.bytesLess a.toList a.toList=false:=z2y _
  go_enter Tryz.func161,Tryz.ntmps161
  go_wp2
  all_goals
   go_ret
   exact ⟨by rw [F.out];rfl,rfl⟩
 have F:=zh (show cmpOf a b=1 by rw [cmpOf,z35 h,h];rfl)
 have h':Op.bytesLess a.toList b.toList=false:=z35 h
 have h2:(a.toList==b.toList)=false:=z3d.2 fun e=>z58 h e.symm
 go_enter Tryz.func161,Tryz.ntmps161
 go_wp2
 all_goals
  go_ret
  exact ⟨by rw [F.out];rfl,rfl⟩
def z1l:Option ByteArray->List Member->Bool
 | _,[]=>true
 | p,m :: r=>if ZB m.name then (if isOf m.role then (if (match p with | none=>true | some q=>ltS q m.name) then z1l (some m.name) r else false) else false) else false
theorem zJ2 (p:Option ByteArray) (m:Member) (r:List Member):z1l p (m :: r)=if ZB m.name then (if isOf m.role then (if (match p with | none=>true | some q=>ltS q m.name) then z1l (some m.name) r else false) else false) else false:=by
 cases p<;>rfl
def z7b (l:List Member) (k:Nat):Option ByteArray:=if k=0 then none else (l[k - 1]?).map (·.name)
def rightOf (l:List Member):Bool:=z1l none l && (decide (l.length<=8) && decide (0 < YH l))
theorem zA0 {l:List Member} {k:Nat} {x:Member} (h:l[k]? =some x):z7b l (k+1)=some x.name:=by
 unfold z7b
 rw [if_neg (by omega),show k+1 - 1=k by omega,h]
 rfl
theorem z8q (s:ByteArray) (hs:s.size<=140737488355328) (r:Bool) (h:ZB s=r) (w:World):Calls Tryz.prog 51 #[.string s] w fun e w'=>e= .returned (.bool r)/\w'=w:=
 (z7q s hs w).mono fun e w' h'=>⟨by rw [h'.1,h],h'.2.symm⟩
theorem zJ3 (n:Int) (r:Bool) (h:isOf n=r) (w:World):Calls Tryz.prog 169 #[.int .i64 n] w fun e w'=>e= .returned (.bool r)/\w'=w:=
 (zB0 n w).mono fun e w' h'=>⟨by rw [h'.1,h],h'.2.symm⟩
theorem z30 {n:Nat} {w w':World} (h:Below n w w'):∀q,Below n w (w'.drewN q)
 | 0=>h
 | q+1=>(z30 h q).drew
theorem z4j {w0:World} {b o:Nat} {v:Value} (h:w0.cell? ⟨b,o,none⟩=some v):∀W,Below w0.heap.size w0 W->W.cell? ⟨b,o,none⟩=some v:=fun _ hb=>(hb.cell (p:=⟨b,o,none⟩) (zF h)).trans h
set_option maxHeartbeats 2000000 in
theorem zL9 (l:List Member) (v:Value) (w:World) (S:Nat->Prop) (h:Sl 2 zY S w v l) (hl0:l.length<=1000000):
  Calls Tryz.prog 168 #[v] w fun e w'=>e= .returned (.bool (rightOf l))/\Below w.heap.size w w':=by
 have H:=zh h
 have co:∀W,Below w.heap.size w W->Calls Tryz.prog 174 #[v] W fun e w'=>e= .returned (.int .i64 (YH l:Nat))/\Below W.heap.size W w':=fun W hb=>zB6 l v W S (H.out.keep ZC (by decide) (zH hb)) hl0
 obtain ⟨_,_,rfl,_,hc,_,hs⟩:=h
 unfold maxLen at hc
 go_enter Tryz.func168,Tryz.ntmps168
 go_wp2
 go_loopw [7] (fun i wr=>∃(k:Nat),k<=l.length/\i= .int .i64 k/\z1l (z7b l k) (l.drop k)=z1l none l/\Below w.heap.size w wr) (fun i _=>l.length - (intOf i).toNat)
 case atStart=>exact ⟨0,by omega,by go_num,by simp [z7b],by go_grown⟩
 obtain ⟨k,_,rfl,E,hbel⟩:=hrel
 have hz:=hbel.size
 by_cases hlt:k < l.length
 rotate_left
 ·obtain rfl:k=l.length:=by omega
  rw [List.drop_length] at E
  have EH:=zh (show true=z1l none l by rw [<-E];rfl)
  clear E
  have co':=co _ hbel
  go_wp2_with (go_at_call 174;refine zcm co' ?_;rintro e _ ⟨rfl,hb1⟩)
  all_goals
   go_ret
   exact ⟨ZI (by rw [rightOf,<-EH.out];simp;omega),by first | exact hbel | exact zB hbel hb1⟩
 obtain ⟨wo,rfl⟩:∃wo:World,wo=wr:=⟨_,rfl⟩
 obtain ⟨x,_,_,x_k,x_d,_,rfl,_,_,x_0,x_1,_,x_name_le,_⟩:=Y5 hs hlt (zH hbel)
 obtain ⟨_,_,cy0,_,By0,_⟩:=zO wo #[.string x.name,.int .i64 x.role] 87
 have y0_0:=cy0 0 _ rfl
 have y0_1:=cy0 1 _ rfl
 clear cy0
 have zy0:=By0.size
 have k0:=z4j y0_0
 have k1:=z4j y0_1
 rw [x_d,zJ2] at E
 have E2:=zh E
 have PS:=zh (zA0 x_k)
 clear E x_d
 cases hnm:ZB x.name
 ·have EH:=zh (show false=z1l none l by rw [<-E2.out,hnm];rfl)
  have cn:=z8q x.name x_name_le false hnm
  clear E2 PS x_k hnm
  go_wp2_with fail
  go_quiet ((go_at_call 51;refine Calls.quiet_of_same (cn _)))
  go_wp2
  go_ret
  exact ⟨ZI (by rw [rightOf,<-EH.out];rfl),z30 (zB hbel By0) _⟩
 have cn:=z8q x.name x_name_le true hnm
 cases his:isOf x.role
 ·have EH:=zh (show false=z1l none l by rw [<-E2.out,hnm,his];rfl)
  have ci:=zJ3 x.role false his
  clear E2 PS x_k hnm his
  go_wp2_with fail
  go_quiet (first | (go_at_call 51;refine Calls.quiet_of_same (cn _)) | (go_at_call 169;refine Calls.quiet_of_same (ci _)))
  go_wp2
  go_ret
  exact ⟨ZI (by rw [rightOf,<-EH.out];rfl),z30 (zB hbel By0) _⟩
 have ci:=zJ3 x.role true his
 rcases k with _ | j
 ·have EH:=zh (show z1l (z7b l (0+1)) (l.drop (0+1))=z1l none l by rw [<-E2.out,hnm,his,PS.out];rfl)
  clear E2 PS x_k hnm his
  simp only [Nat.zero_mul,Nat.add_zero] at x_0 x_1
  go_wp2_with fail
  go_quiet (first | (go_at_call 51;refine Calls.quiet_of_same (cn _)) | (go_at_call 169;refine Calls.quiet_of_same (ci _)))
  go_wp2
  go_roundw
  case rel=>exact ⟨0+1,by omega,by go_num,EH.out,z30 (zB hbel By0) _⟩
  case measure=>simp [intOf];omega
 have hjl:j < l.length:=by omega
 obtain ⟨p,_,_,p_k,p_d,_,p_e,_,_,p_0,_,_,_,_⟩:=Y5 hs hjl (zH (zB hbel By0))
 simp only [Option.some.injEq,Addr.mk.injEq,and_true] at p_e
 obtain ⟨rfl,rfl⟩:=p_e
 have k2:=z4j p_0
 have PJ:=zA0 p_k
 have e1:IntKind.i64.wrap (((j+1:Nat):Int) - 1)=(j:Int):=by rw [IntWalk.i64_in _ (by omega)];omega
 have e2:IntKind.i64.wrap ((j:Int)+1 - 1)=(j:Int):=by rw [IntWalk.i64_in _ (by omega)];omega
 have hj0:decide (0 < (j:Int)+1)=true:=decide_eq_true (by omega)
 cases hlt2:ltS p.name x.name
 ·have EH:=zh (show false=z1l none l by rw [<-E2.out,hnm,his,PJ];simp [hlt2])
  have h2:Op.bytesLess p.name.toList x.name.toList=false:=hlt2
  clear E2 PS PJ x_k p_k p_d hnm his hlt2
  go_wp2_with fail
  go_quiet (first | (go_at_call 51;refine Calls.quiet_of_same (cn _)) | (go_at_call 169;refine Calls.quiet_of_same (ci _)))
  go_wp2
  go_ret
  exact ⟨ZI (by rw [rightOf,<-EH.out];rfl),z30 (zB hbel By0) _⟩
 have EH:=zh (show z1l (z7b l (j+1+1)) (l.drop (j+1+1))=z1l none l by rw [<-E2.out,hnm,his,PS.out,PJ];simp [hlt2])
 have h2:Op.bytesLess p.name.toList x.name.toList=true:=hlt2
 clear E2 PS PJ x_k p_k p_d hnm his hlt2
 go_wp2_with fail
 go_quiet (first | (go_at_call 51;refine Calls.quiet_of_same (cn _)) | (go_at_call 169;refine Calls.quiet_of_same (ci _)))
 go_wp2
 go_roundw
 case rel=>exact ⟨j+1+1,by omega,by go_num,EH.out,z30 (zB hbel By0) _⟩
 case measure=>simp [intOf];omega
end Go.Proofs.YtdggplhnfhcieaaGreatDoor.Ro
end
section
namespace Go.Proofs.YtdggplhnfhcieaaGreatDoor.Bd
open Go.RowKit Go.Deep
def smallOf (st:State):Nat:=min st.folders.length 1+2*st.users.length+st.deposits.length+st.folders.length+sumOf small1 st.folders
def largeOf (st:State):Nat:=sumOf large1 st.folders
end Go.Proofs.YtdggplhnfhcieaaGreatDoor.Bd
end
