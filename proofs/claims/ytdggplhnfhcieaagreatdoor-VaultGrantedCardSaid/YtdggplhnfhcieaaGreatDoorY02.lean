/- Part 2 of the proof of vaultGranted_holds. No condition. -/
import Derived.BigRegion
import Derived.Laws.StructEq
import Derived.BigQuiet
import Derived.Deep.RegionHeld3
import Derived.Test.YtdggplhnfhcieaaGreatDoorY01
set_option linter.unusedVariables false
set_option linter.unusedSimpArgs false
set_option linter.unusedSectionVars false
set_option maxRecDepth 100000
namespace Go.Proofs.YtdggplhnfhcieaaGreatDoor
section
open Go.RowKit Go.Deep Go.ChangeShapes Go.WideShapes
section
variable {H:Type} {enc:TypeId×Value->H} {P:Program} {w:World} {base:Nat} {spare:Nat->Bool} {held:Bool} {fuel:Nat} {t:TypeId} {v:Value} {x:DataW H×List MemPlace} {r:Go.Reach} {b0:Nat}
theorem zPu {α:Type} {e:TypeId} {sz:Nat} {R:Rp α} (ht:P.underlying t=some (.slice e)) (hR:Rd P w t (rSl sz R)) (hval:Value.okWide P w r b0 t v) (hf:DataW.trod enc P w base spare held fuel t v.cells.toList=some x) (hz:z7h P t x.1):∃l,Sl sz R (fun _=>True) w v l:=by
 obtain ⟨A,n,c,rfl⟩:=okWide_slice ht hval
 exact zKg hR (v:= .slice A n c) hf hz
end
end
structure ShortF (f:Folder):Prop where
 name:f.name.size<=20
 man:∀x∈f.manifests,x.parent.size<=20/\x.members.length<=20/\∀y∈x.members,y.name.size<=20
 ep:∀x∈f.epochs,x.chain.length<=20/\∀y∈x.chain,y.name.size<=20
 item:∀x∈f.items,x.name.size<=20/\x.versions.length<=64
 wrap:∀x∈f.wraps,x.name.size<=20
 link:∀x∈f.links,x.to.size<=20
def z5j (f:Folder):Nat:=f.manifests.length+f.epochs.length+f.items.length+f.wraps.length+f.links.length
def z3c:List Folder->Nat
 | []=>0
 | f :: l=>z5j f+z3c l
theorem zAj:∀(l:List Folder) (f:Folder),f∈l->z5j f<=z3c l
 | [],f,h=>by simp at h
 | x :: l,f,h=>by
  rcases List.mem_cons.1 h with rfl | h
  ·simp [z3c]
  ·have:=zAj l f h;simp [z3c];omega
structure Small (st:State):Prop where
 users:∀x∈st.users,x.name.size<=20
 pairs:∀x∈st.deposits,x.frm.size<=20/\x.to.size<=20
 few8:st.folders.length<=64
 all:st.users.length+st.deposits.length+z3c st.folders<=1000
 short:∀f∈st.folders,ShortF f
section
open Go.RowKit Go.Deep
def z5c (c:Nat):Bool:=(decide (97<=c) && decide (c<=122)) || (decide (48<=c) && decide (c<=57))
def z5m:List UInt8->Bool
 | []=>true
 | c :: l=>if z5c c.toNat then z5m l else false
def ZB (s:ByteArray):Bool:=if s.size < 1 then false else if 12 < s.size then false else z5m s.data.toList
theorem zOs {s:ByteArray} {k:Nat} (h:k < s.size):s.data.toList.drop k=s[k] :: s.data.toList.drop (k+1):=by
 have h':k < s.data.toList.length:=by simpa using h
 rw [List.drop_eq_getElem_cons h']
 rfl
theorem zJ0 {s:ByteArray} {k:Nat} (h:k < s.size):z5m (s.data.toList.drop k)=if z5c s[k].toNat then z5m (s.data.toList.drop (k+1)) else false:=by
 rw [zOs h,z5m]
theorem zJ1 (c:Nat):(c < 48/\z5c c=false)\/((48<=c/\c<=57)/\z5c c=true)\/((57 < c/\c < 97)/\z5c c=false)\/((97<=c/\c<=122)/\z5c c=true)\/(122 < c/\z5c c=false):=by
 simp only [z5c,Bool.or_eq_true,Bool.or_eq_false_iff,Bool.and_eq_true,Bool.and_eq_false_iff,decide_eq_true_eq,decide_eq_false_iff_not]
 omega
theorem zN4 (s:ByteArray):s.data.toList.drop s.size=[]:=List.drop_of_length_le (by simp)
set_option maxHeartbeats 1000000 in
theorem z7q (s:ByteArray) (hs:s.size<=140737488355328) (w:World):Calls Tryz.prog 51 #[.string s] w fun e w'=>e= .returned (.bool (ZB s))/\w=w':=by
 have F:Hid (ZB s=(decide (1<=s.size) && (decide (s.size<=12) && z5m s.data.toList))):=by
  unfold ZB
  show _=_
  by_cases h1:s.size < 1
  ·rw [if_pos h1,decide_eq_false (by omega)];rfl
  ·by_cases h2:12 < s.size
   ·rw [if_neg h1,if_pos h2,decide_eq_true (show 1<=s.size by omega),decide_eq_false (show ¬s.size<=12 by omega)];rfl
   ·rw [if_neg h1,if_neg h2,decide_eq_true (show 1<=s.size by omega),decide_eq_true (show s.size<=12 by omega)];rfl
 go_enter Tryz.func51,Tryz.ntmps51
 go_wp2
 go_loop [7] (fun i=>∃k:Nat,k<=s.size/\i= .int .i64 k/\z5m (s.data.toList.drop k)=z5m s.data.toList) (fun i=>s.size - (intOf i).toNat)
 case atStart=>exact ⟨0,by omega,by go_num,by simp⟩
 obtain ⟨k,_,rfl,E⟩:=hrel
 by_cases hlt:k < s.size
 rotate_left
 ·obtain rfl:k=s.size:=by omega
  rw [zN4] at E
  have EH:=zh E
  clear E
  go_wp2
  all_goals
   go_ret
   exact ⟨ZI (by rw [F.out,<-EH.out,Bool.eq_iff_iff];simp [z5m];omega),rfl⟩
 rw [zJ0 hlt] at E
 rcases zJ1 s[k].toNat with ⟨h,o⟩ | ⟨h,o⟩ | ⟨h,o⟩ | ⟨h,o⟩ | ⟨h,o⟩
 all_goals
  rw [o] at E
  have EH:=zh E
  clear E o
 ·go_wp2
  go_ret
  exact ⟨ZI (by rw [F.out,<-EH.out];simp),rfl⟩
 ·go_wp2
  go_round
  case rel=>exact ⟨k+1,by omega,by go_num,EH.out⟩
  case measure=>simp [intOf];omega
 ·go_wp2
  go_ret
  exact ⟨ZI (by rw [F.out,<-EH.out];simp),rfl⟩
 ·go_wp2
  go_round
  case rel=>exact ⟨k+1,by omega,by go_num,EH.out⟩
  case measure=>simp [intOf];omega
 go_wp2
 go_ret
 exact ⟨ZI (by rw [F.out,<-EH.out];simp),rfl⟩
end
section
open Go.RowKit Go.Deep
section
theorem ButB.drew {B:Nat->Prop} {w w':World} (h:ButB B w w'):ButB B w w'.drew:=⟨h.os,h.tape,h.output,h.size,h.block⟩
theorem zJ7 (B C:Nat) (w:World) (a0 a2 a3 a4 a5 a6 a7:Value) (q:Int) (s:ByteArray) (hB:w.heap[B]? =some (.cells #[a0,.int .i64 q,a2,a3,a4,a5,a6,a7] 84 (0,0))) (hC:w.cell? ⟨C,4,none⟩=some (.string s)) (hne:C≠B):
  Calls Tryz.prog 134 #[.pointer (some ⟨B,0,none⟩),.pointer (some ⟨C,0,none⟩)] w fun e w'=>e= .returned (.tuple #[])/\w'.heap[B]? =some (.cells #[a0,.int .i64 q,a2,.string s,a4,.int .i64 q,a6,a7] 84 (0,0))/\ButB (fun x=>x=B) w w':=by
 have c1:w.cell? ⟨B,1,none⟩=some (.int .i64 q):=(zD hB).1 1 _ rfl
 have c3:w.cell? ⟨B,3,none⟩=some a3:=(zD hB).1 3 _ rfl
 have c5:w.cell? ⟨B,5,none⟩=some a5:=(zD hB).1 5 _ rfl
 have fz:=(zD hB).2
 have HB:=zh hB
 clear hB
 go_enter Tryz.func134,Tryz.ntmps134
 go_wp2
 go_region
 go_wp2
 go_end0
 have h1:=zI (i:=3) (.string s) HB.out rfl
 have h2:=zI (i:=5) (.int .i64 q) h1 rfl
 exact ⟨rfl,h2,(((ButB.refl (fun x=>x=B) w).set ⟨B,3,none⟩ (.string s) rfl).set ⟨B,5,none⟩ (.int .i64 q) rfl).drew⟩
theorem zFs (B:Nat) (w:World) (a0 a1 a2 a3 a4 a5 a6 a7:Value) (hB:w.heap[B]? =some (.cells #[a0,a1,a2,a3,a4,a5,a6,a7] 84 (0,0))):
  Calls Tryz.prog 137 #[.pointer (some ⟨B,0,none⟩)] w fun e w'=>e= .returned (.tuple #[])/\w'.heap[B]? =some (.cells #[a0,a1,a2,a3,a4,a5,.bool true,a7] 84 (0,0))/\ButB (fun x=>x=B) w w':=by
 have c6:w.cell? ⟨B,6,none⟩=some a6:=(zD hB).1 6 _ rfl
 have fz:=(zD hB).2
 have HB:=zh hB
 clear hB
 go_enter Tryz.func137,Tryz.ntmps137
 go_wp2
 go_end0
 exact ⟨rfl,zI (i:=6) (.bool true) HB.out rfl,(ButB.refl (fun x=>x=B) _).set _ _ rfl⟩
theorem zEx (B L C:Nat) (w:World) (a0 a2 a3 a4 a5 a6 a7 v:Value) (q k:Int) (hB:w.heap[B]? =some (.cells #[a0,.int .i64 q,a2,a3,a4,a5,a6,a7] 84 (0,0))) (hv:∃A n c,v= .slice A n c) (hL:w.cell? ⟨L,0,none⟩=some v) (hC:w.cell? ⟨C,0,none⟩=some (.int .i64 k)) (hne:C≠B) (hne2:L≠B):
  Calls Tryz.prog 142 #[.pointer (some ⟨B,0,none⟩),.pointer (some ⟨L,0,none⟩),.pointer (some ⟨C,0,none⟩)] w fun e w'=>e= .returned (.tuple #[])/\w'.heap[B]? =some (.cells #[a0,.int .i64 q,a2,a3,v,if k=7 then .int .i64 q else a5,a6,a7] 84 (0,0))/\ButB (fun x=>x=B) w w':=by
 obtain ⟨A,n,c,rfl⟩:=hv
 have c1:w.cell? ⟨B,1,none⟩=some (.int .i64 q):=(zD hB).1 1 _ rfl
 have c4:w.cell? ⟨B,4,none⟩=some a4:=(zD hB).1 4 _ rfl
 have c5:w.cell? ⟨B,5,none⟩=some a5:=(zD hB).1 5 _ rfl
 have fz:=(zD hB).2
 have HB:=zh hB
 clear hB
 by_cases hk:k=7
 ·have hd:(k==7)=true:=by simp [hk]
  have HK:=zh hk
  clear hk
  go_enter Tryz.func142,Tryz.ntmps142
  go_wp2
  go_end0
  have h1:=zI (i:=4) (.slice A n c) HB.out rfl
  have h2:=zI (i:=5) (.int .i64 q) h1 rfl
  exact ⟨rfl,h2,((ButB.refl (fun x=>x=B) _).set _ _ rfl).set _ _ rfl⟩
 have hd:(k==7)=false:=by simp [hk]
 have HK:=zh hk
 clear hk
 go_enter Tryz.func142,Tryz.ntmps142
 go_wp2
 go_end0
 have h1:=zI (i:=4) (.slice A n c) HB.out rfl
 exact ⟨rfl,h1,(ButB.refl (fun x=>x=B) _).set _ _ rfl⟩
end
end
section
open Go.RowKit Go.Deep
theorem yC {n:Nat} {w w':World} (h:Below n w w'):∀q,Below n w (w'.drewN q)
 | 0=>h
 | q+1=>(yC h q).drew
theorem zFy (l:List Int) (v u:Value) (w:World) (S S':Nat->Prop) (h:Sl 1 yN S w v l) (k:Sl 1 yN S' w u l):
  Calls Tryz.prog 30 #[v,u] w fun e w'=>e= .returned (.bool true)/\Below w.heap.size w w':=by
 obtain ⟨_,_,rfl,_,hc,_,hs⟩:=h
 obtain ⟨_,_,rfl,_,hc',_,hs'⟩:=k
 unfold maxLen at hc hc'
 go_enter Tryz.func30,Tryz.ntmps30
 go_wp2
 go_loopw [5] (fun i wr=>∃k:Nat,k<=l.length/\i= .int .i64 k/\Below w.heap.size w wr) (fun i _=>l.length - (RowKit.intOf i).toNat)
 case atStart=>exact ⟨0,by omega,by go_num,by go_grown⟩
 obtain ⟨k,_,rfl,hbel⟩:=hrel
 by_cases hlt:k < l.length
 rotate_left
 ·obtain rfl:k=l.length:=by omega
  go_wp2
  go_ret
  exact ⟨rfl,hbel⟩
 obtain ⟨x,hx⟩:∃x,l[k]? =some x:=⟨_,List.getElem?_eq_getElem hlt⟩
 obtain ⟨b,o,_,rfl,_,_,hcc,rfl,_⟩:=hs k x hx
 obtain ⟨b',o',_,rfl,_,_,hcc',rfl,_⟩:=hs' k x hx
 have q1:=hcc 0 _ rfl
 have q2:=hcc' 0 _ rfl
 rw [show k*1+0=k by omega] at q1 q2
 have x1:wr.cell? ⟨b,o+k,none⟩=some (.int .u8 x):=(hbel.cell (p:=⟨b,o+k,none⟩) (zF q1)).trans q1
 have x2:wr.cell? ⟨b',o'+k,none⟩=some (.int .u8 x):=(hbel.cell (p:=⟨b',o'+k,none⟩) (zF q2)).trans q2
 clear hx q1 q2 hcc hcc'
 go_wp2_with fail
 go_quiet (fail)
 go_wp2
 go_roundw
 case rel=>exact ⟨k+1,by omega,by go_num,yC hbel _⟩
 case measure=>simp [RowKit.intOf];omega
theorem zHg (l:List Member) (v u:Value) (w:World) (S S':Nat->Prop) (h:Sl 2 zY S w v l) (k:Sl 2 zY S' w u l):
  Calls Tryz.prog 31 #[v,u] w fun e w'=>e= .returned (.bool true)/\Below w.heap.size w w':=by
 obtain ⟨_,_,rfl,_,hc,_,hs⟩:=h
 obtain ⟨_,_,rfl,_,hc',_,hs'⟩:=k
 unfold maxLen at hc hc'
 have eg:Tryz.prog.eqGuardType Tryz.prog.depth 87=false:=by kernel_rfl
 have sh:Tryz.prog.stoodInHeld 87=false:=by kernel_rfl
 have uf:=Tryz.underlying87
 go_enter Tryz.func31,Tryz.ntmps31
 go_wp2
 go_loopw [5] (fun i wr=>∃k:Nat,k<=l.length/\i= .int .i64 k/\Below w.heap.size w wr) (fun i _=>l.length - (RowKit.intOf i).toNat)
 case atStart=>exact ⟨0,by omega,by go_num,by go_grown⟩
 obtain ⟨k,_,rfl,hbel⟩:=hrel
 by_cases hlt:k < l.length
 ·obtain ⟨x,_,_,hx,_,_,rfl,_,_,_,_,_⟩:=Y5 hs hlt (zH hbel)
  obtain ⟨y,_,_,hy,_,_,rfl,_,_,_,_,_⟩:=Y5 hs' hlt (zH hbel)
  obtain rfl:x=y:=zsi (hx.symm.trans hy)
  clear hx hy
  go_wp2_with fail
  go_quiet (fail)
  go_wp2
  go_roundw
  case rel=>exact ⟨k+1,by omega,by go_num,yC hbel _⟩
  case measure=>simp [RowKit.intOf];omega
 obtain rfl:k=l.length:=by omega
 go_wp2
 go_ret
 exact ⟨rfl,hbel⟩
end
end Go.Proofs.YtdggplhnfhcieaaGreatDoor
section
namespace Go.Proofs.YtdggplhnfhcieaaGreatDoor.Bd
open Go.RowKit Go.Deep
theorem zK4 (f:Folder) (cs:List Value) (w:World) (S:Nat->Prop) (h:ZE S w cs f) (hb:f.items.length+f.wraps.length+f.links.length<=1000000):
  Calls Tryz.prog 184 #[.agg cs.toArray] w fun e w'=>e= .returned (.int .i64 ((f.items.length+f.wraps.length+f.links.length:Nat):Int))/\Below w.heap.size w w':=by
 obtain ⟨_,_,_,_,_,_,_,_,_,_,rfl,_,_,_,_,_,_,_,_,_,_,_,_,_,_,_,_,_,_,_,_,_,_⟩:=Z5 h
 go_enter Tryz.func184,Tryz.ntmps184
 go_wp2
 go_ret
 exact ⟨by simp,by go_grown⟩
def verCount:List Item->Nat
 | []=>0
 | x :: l=>x.versions.length+verCount l
def large1 (f:Folder):Nat:=f.manifests.length+f.epochs.length+verCount f.items
theorem zK5 (f:Folder) (cs:List Value) (w:World) (S:Nat->Prop) (h:ZE S w cs f) (hb:large1 f<=1000000):
  Calls Tryz.prog 185 #[.agg cs.toArray] w fun e w'=>e= .returned (.int .i64 ((large1 f:Nat):Int))/\Below w.heap.size w w':=by
 obtain ⟨_,_,_,_,_,_,_,_,_,_,rfl,_,_,_,_,_,_,_,_,_,_,_,_,_,f_items_s,_,_,_,_,_,_,_,_⟩:=Z5 h
 unfold large1 at hb
 go_enter Tryz.func185,Tryz.ntmps185
 go_wp2
 go_loopw [3,16] (fun n i wr=>∃k m:Nat,k<=f.items.length/\i= .int .i64 k/\n= .int .i64 m/\m+verCount (f.items.drop k)=large1 f/\Below w.heap.size w wr) (fun n i _=>f.items.length - (intOf i).toNat)
 case atStart=>
  exact ⟨0,f.manifests.length+f.epochs.length,by omega,by go_num,by go_num,by simp [large1],by go_grown⟩
 obtain ⟨k,m,_,rfl,rfl,E,hbel⟩:=hrel
 have hz:=hbel.size
 by_cases hlt:k < f.items.length
 ·obtain ⟨x,_,_,_,_,x_k,x_d,_,rfl,_,_,_,_,_,_,_,_,_,_⟩:=z2m f_items_s hlt (zH hbel)
  rw [x_d,verCount] at E
  have b1:m+x.versions.length<=1000000:=by unfold large1 at E;omega
  have EH:=zh E
  clear x_k x_d E
  go_wp2
  go_roundw
  case rel=>exact ⟨k+1,m+x.versions.length,by omega,by go_num,by go_num,by rw [<-EH.out];omega,by go_grown⟩
  case measure=>simp [intOf];omega
 obtain rfl:k=f.items.length:=by omega
 rw [List.drop_length] at E
 have EH:=zh E
 clear E
 go_wp2
 go_ret
 exact ⟨by rw [<-EH.out];simp [verCount],hbel⟩
end Go.Proofs.YtdggplhnfhcieaaGreatDoor.Bd
end
section
namespace Go.Proofs.YtdggplhnfhcieaaGreatDoor
open Go Go.RowKit Go.Deep
theorem ButB.cellq {Y:Nat->Prop} {W W':World} (h:ButB Y W W') {b j:Nat} {v:Value} (hc:W.cell? ⟨b,j,none⟩=some v) (hn:¬Y b):W'.cell? ⟨b,j,none⟩=some v:=
 (World.cell?_of_block (a:=⟨b,j,none⟩) (h.block b (zF hc) hn)).trans hc
section
variable {P:Program} {ops:Array Oper} {Q:Exit->Act->World->Prop} {md:Region.Mode} {S:World->Prop} {n:Nat} {fr:List Nat}
def YN (P:Program) (md:Region.Mode) (ops:Array Oper) (Q:Exit->Act->World->Prop) (S:World->Prop) (n:Nat) (fr:List Nat):Nat->Array Bool->Act->World->Prop
 | 0,listed,a,w=>Region.ready md ops listed=[]/\Q .normal a w
 | fuel+1,listed,a,w=>
  (Region.ready md ops listed=[]->Q .normal a w)/\
  ∀i∈Region.ready md ops listed,wpOp P ops Q i (fun a' w'=>((decide (i < n) && !fr.contains i)=true->S w')/\YN P md ops Q S n fr fuel (listed.setIfInBounds i true) a' w') a w
theorem zBp:∀(fuel:Nat) (listed:Array Bool) (a:Act) (w:World),YN P md ops Q S n fr fuel listed a w->wpAny P md ops Q fuel listed a w
 | 0,_,_,_,h=>h
 | fuel+1,_,_,_,h=>⟨h.1,fun i hi=>wpOp_mono (fun a' w' h'=>zBp fuel _ a' w' h'.2) (h.2 i hi)⟩
def Closed (md:Region.Mode) (ops:Array Oper) (listed:Array Bool):Prop:=∀m om,ops[m]? =some om->listed.getD m false=true->∀e∈om.after,Region.binds md e=true->listed.getD e.on false=true
def z7e (md:Region.Mode) (ops:Array Oper) (listed:Array Bool):Bool:=(List.range ops.size).all fun m=>!listed.getD m false || ((ops[m]?).map fun o=>o.after.all fun e=>!Region.binds md e || listed.getD e.on false).getD true
theorem zLy {listed:Array Bool} (h:z7e md ops listed=true):Closed md ops listed:=fun m om hm hl e he hb=>by
 unfold z7e at h
 rw [List.all_eq_true] at h
 have h2:=h m (List.mem_range.2 (Array.getElem?_eq_some_iff.1 hm).1)
 rw [hl,hm] at h2
 simp only [Bool.not_true,Bool.false_or,Option.map_some,Option.getD_some] at h2
 have h3:=Array.all_eq_true'.1 h2 e he
 rw [hb] at h3
 simpa using h3
theorem z8f {listed:Array Bool} {j m:Nat} (h:listed.getD m false=true):(listed.setIfInBounds j true).getD m false=true:=by
 by_cases e:j=m
 ·subst e
  rcases Nat.lt_or_ge j listed.size with hl | hl
  ·simp [hl]
  rw [Array.getD_eq_getD_getElem?,Array.getElem?_eq_none hl] at h
  cases h
 rw [getD_set_ne false e]
 exact h
theorem zDg {listed:Array Bool} {j m:Nat} (h:listed.getD m true=true):(listed.setIfInBounds j true).getD m true=true:=by
 by_cases e:j=m
 ·subst e
  rcases Nat.lt_or_ge j listed.size with hl | hl
  ·simp [hl]
  simp [Array.getElem?_eq_none hl]
 rw [getD_set_ne true e]
 exact h
theorem Closed.set {listed:Array Bool} (h:Closed md ops listed) {j:Nat} (hj:j∈Region.ready md ops listed):Closed md ops (listed.setIfInBounds j true):=fun m om hm hl e he hb=>by
 obtain ⟨_,_,hoj,hall⟩:=mem_ready.1 hj
 by_cases hmj:j=m
 ·subst hmj
  rw [hoj] at hm
  obtain rfl:=zsi hm
  exact z8f (hall e he hb)
 ·rw [getD_set_ne false hmj] at hl
  exact z8f (h m om hm hl e he hb)
def zOf (md:Region.Mode) (ops:Array Oper) (k m:Nat):Bool:=((ops[k]?).map fun o=>o.after.any fun e=>Region.binds md e && decide (e.on=m)).getD false
def zJx (md:Region.Mode) (ops:Array Oper):Nat->List Nat->List Nat
 | 0,acc=>acc
 | m+1,acc=>zJx md ops m (if acc.any (fun k=>zOf md ops k m) then m :: acc else acc)
theorem zIf {listed:Array Bool} (hc:Closed md ops listed) {n:Nat} (hn:∀on,ops[n]? =some on->∀e∈on.after,Region.binds md e=true->listed.getD e.on false=true):∀(m:Nat) (acc:List Nat),(∀x∈acc,x=n\/listed.getD x false=true)->∀x∈zJx md ops m acc,x=n\/listed.getD x false=true
 | 0,acc,h=>h
 | m+1,acc,h=>by
  unfold zJx
  refine zIf hc hn m _ ?_
  split
  ·rename_i hk
   intro x hx
   rcases List.mem_cons.1 hx with rfl | hx
   ·right
    obtain ⟨k,hk1,hk2⟩:=List.any_eq_true.1 hk
    unfold zOf at hk2
    cases ho:ops[k]? with
    | none=>rw [ho] at hk2;cases hk2
    | some o=>
     rw [ho] at hk2
     simp only [Option.map_some,Option.getD_some] at hk2
     obtain ⟨e,he,h3⟩:=Array.any_eq_true'.1 hk2
     simp only [Bool.and_eq_true,decide_eq_true_eq] at h3
     rw [<-h3.2]
     rcases h k hk1 with rfl | hl
     ·exact hn o ho e he h3.1
     ·exact hc k o ho hl e he h3.1
   ·exact h x hx
  ·exact h
def z90 (md:Region.Mode) (ops:Array Oper) (n i:Nat):Bool:=decide (i < n) && (zJx md ops n [n]).contains i && (List.range ops.size).all fun j=>decide (j<=n) || ((ops[j]?).map fun o=>o.after.any fun e=>Region.binds md e && (decide (n<=e.on) && decide (e.on < j))).getD true
theorem zNs {i:Nat} (h:z90 md ops n i=true):i < n/\∀listed,Closed md ops listed->∀(j:Nat) (oj:Oper),ops[j]? =some oj->n<=j->(∀e∈oj.after,Region.binds md e=true->listed.getD e.on false=true)->listed.getD i false=true:=by
 unfold z90 at h
 simp only [Bool.and_eq_true,decide_eq_true_eq,List.all_eq_true,List.mem_range,Bool.or_eq_true,List.contains_iff_mem] at h
 obtain ⟨⟨h1,h2⟩,h3⟩:=h
 refine ⟨h1,fun listed hc j=>?_⟩
 induction j using Nat.strongRecOn with
 | ind j ih=>
  intro oj hj hn hall
  rcases h3 j (Array.getElem?_eq_some_iff.1 hj).1 with hle | h4
  ·obtain rfl:j=n:=by omega
   rcases zIf hc (fun on ho=>by rw [hj] at ho;obtain rfl:=zsi ho;exact hall) j [j] (fun x hx=> .inl (zml hx)) i h2 with e | e
   ·omega
   exact e
  rw [hj] at h4
  simp only [Option.map_some,Option.getD_some] at h4
  obtain ⟨e,he,h5⟩:=Array.any_eq_true'.1 h4
  simp only [Bool.and_eq_true,decide_eq_true_eq] at h5
  have hl:=hall e he h5.1
  cases ho:ops[e.on]? with
  | none=>
   have hs:ops.size<=e.on:=Array.getElem?_eq_none_iff.1 ho
   have:=(Array.getElem?_eq_some_iff.1 hj).1
   omega
  | some o'=>exact ih e.on h5.2.2 o' ho h5.2.1 (hc e.on o' ho hl)
theorem zGg {i:Nat} {oi:Oper} {v:Value} (hin:i < n) (hw:∀listed,Closed md ops listed->∀(j:Nat) (oj:Oper),ops[j]? =some oj->n<=j->(∀e∈oj.after,Region.binds md e=true->listed.getD e.on false=true)->listed.getD i false=true) (hi:ops[i]? =some oi) (hsel:∀(j:Nat) (o:Oper) cs b,ops[j]? =some o->o.op≠ .select cs b)
  (hQ:∀c a w,Q (.panic c) (a.put oi.dst v) w->Q (.panic c) a w):
  ∀(fuel:Nat) (listed:Array Bool) (a:Act) (w:World),Closed md ops listed->(∀m∈fr,listed.getD m true=true)->
   (∀j oj,ops[j]? =some oj->j≠i->listed.getD j true=false->(∀e∈oj.after,Region.binds md e=true->e.on≠i)->oi.apart ops oj=true)->
   i∈Region.ready md ops listed->YieldsIf P ops S oi v a->S w->
   YN P md ops Q S n fr fuel (listed.setIfInBounds i true) (a.put oi.dst v) w->YN P md ops Q S n fr (fuel+1) listed a w:=by
 intro fuel
 induction fuel with
 | zero=>
  intro listed a w _ _ _ hr hy hS H
  refine ⟨fun h=>(by rw [h] at hr;cases hr),fun j hj=>?_⟩
  by_cases hji:j=i
  ·subst hji;exact hy.wpOp hi hS ⟨fun _=>hS,H⟩
  have:=ready_mono hj hji
  rw [H.1] at this
  cases this
 | succ fuel ih=>
  intro listed a w hcl hfr hfree hr hy hS H
  refine ⟨fun h=>(by rw [h] at hr;cases hr),fun j hj=>?_⟩
  by_cases hji:j=i
  ·subst hji;exact hy.wpOp hi hS ⟨fun _=>hS,H⟩
  have h1:=H.2 j (ready_mono hj hji)
  obtain ⟨hjun,oj,hoj,hall⟩:=mem_ready.1 hj
  have hnot:∀e∈oj.after,Region.binds md e=true->e.on≠i:=fun e he hb heq=>by
   have h1:=hall e he hb
   have h0:=(mem_ready.1 hr).1
   rw [heq] at h1
   rcases Nat.lt_or_ge i listed.size with h' | h'
   ·simp [h'] at h0 h1;rw [h0] at h1;cases h1
   ·simp [Array.getElem?_eq_none h'] at h1
  have hjn:j < n:=Nat.lt_of_not_le fun hle=>by
   have hl:=hw listed hcl j oj hoj hle hall
   have h0:=(mem_ready.1 hr).1
   rcases Nat.lt_or_ge i listed.size with h' | h'
   ·simp [h'] at h0 hl;rw [h0] at hl;cases hl
   ·simp [Array.getElem?_eq_none h'] at hl
  have hjf:(decide (j < n) && !fr.contains j)=true:=by
   simp only [Bool.and_eq_true,decide_eq_true_eq,Bool.not_eq_true',List.contains_eq_mem,decide_eq_false_iff_not]
   refine ⟨hjn,fun hm=>?_⟩
   rw [hfr j hm] at hjun
   cases hjun
  have h2:=wpOp_putIf hoj (hfree j oj hoj hji hjun hnot) (fun cs b=>hsel i oi cs b hi) (fun cs b=>hsel j oj cs b hoj) hQ hy h1
  have hfree':∀k ok,ops[k]? =some ok->k≠i->(listed.setIfInBounds j true).getD k true=false->
    (∀e∈ok.after,Region.binds md e=true->e.on≠i)->oi.apart ops ok=true:=fun k ok hk hki hun hno=>by
   refine hfree k ok hk hki ?_ hno
   by_cases hjk:j=k
   ·subst hjk;exact hjun
   ·rw [getD_set_ne true hjk] at hun;exact hun
  refine wpOp_mono (fun a' w' h3=>⟨fun _=>h3.2.1 hjf,ih (listed.setIfInBounds j true) a' w' (hcl.set hj) (fun m hm=>zDg (hfr m hm)) hfree' (ready_mono hr (Ne.symm hji)) h3.1 (h3.2.1 hjf) ?_⟩) h2
  rw [Array.setIfInBounds_comm _ _ hji]
  exact h3.2.2
theorem zHo {i:Nat} {oi:Oper} {v:Value} {fuel:Nat} {listed:Array Bool} {a:Act} {w:World} (hi:ops[i]? =some oi)
  (hs:(z90 md ops n i && z7e md ops listed && fr.all (fun m=>listed.getD m true) && Region.noSelect ops && Region.free md ops listed i && (Region.ready md ops listed).contains i)=true)
  (hQ:∀c a w,Q (.panic c) (a.put oi.dst v) w->Q (.panic c) a w) (hy:YieldsIf P ops S oi v a) (hS:S w)
  (h:YN P md ops Q S n fr fuel (listed.setIfInBounds i true) (a.put oi.dst v) w):YN P md ops Q S n fr (fuel+1) listed a w:=by
 simp only [Bool.and_eq_true] at hs
 obtain ⟨⟨⟨⟨⟨h1,h0⟩,h00⟩,h2⟩,h3⟩,h4⟩:=hs
 obtain ⟨k1,k2⟩:=zNs h1
 exact zGg k1 k2 hi (Region.noSelect_spec h2) hQ fuel listed a w (zLy h0) (fun m hm=>List.all_eq_true.1 h00 m hm) (Region.free_spec hi h3) (by simpa using h4) hy hS h
theorem zGh {i:Nat} {oi:Oper} {v:Value} (hif:fr.contains i=true) (hi:ops[i]? =some oi) (hsel:∀(j:Nat) (o:Oper) cs b,ops[j]? =some o->o.op≠ .select cs b)
  (hQ:∀c a w,Q (.panic c) (a.put oi.dst v) w->Q (.panic c) a w):
  ∀(fuel:Nat) (listed:Array Bool) (a:Act) (w:World),
   (∀j oj,ops[j]? =some oj->j≠i->listed.getD j true=false->(∀e∈oj.after,Region.binds md e=true->e.on≠i)->oi.apart ops oj=true)->
   i∈Region.ready md ops listed->YieldsIf P ops (fun _=>True) oi v a->
   YN P md ops Q S n fr fuel (listed.setIfInBounds i true) (a.put oi.dst v) w->YN P md ops Q S n fr (fuel+1) listed a w:=by
 have hno:∀{w:World},(decide (i < n) && !fr.contains i)=true->S w:=fun h=>by rw [hif] at h;simp at h
 intro fuel
 induction fuel with
 | zero=>
  intro listed a w _ hr hy H
  refine ⟨fun h=>(by rw [h] at hr;cases hr),fun j hj=>?_⟩
  by_cases hji:j=i
  ·subst hji;exact hy.wpOp hi trivial ⟨hno,H⟩
  have:=ready_mono hj hji
  rw [H.1] at this
  cases this
 | succ fuel ih=>
  intro listed a w hfree hr hy H
  refine ⟨fun h=>(by rw [h] at hr;cases hr),fun j hj=>?_⟩
  by_cases hji:j=i
  ·subst hji;exact hy.wpOp hi trivial ⟨hno,H⟩
  have h1:=H.2 j (ready_mono hj hji)
  obtain ⟨hjun,oj,hoj,hall⟩:=mem_ready.1 hj
  have hnot:∀e∈oj.after,Region.binds md e=true->e.on≠i:=fun e he hb heq=>by
   have h1:=hall e he hb
   have h0:=(mem_ready.1 hr).1
   rw [heq] at h1
   rcases Nat.lt_or_ge i listed.size with h' | h'
   ·simp [h'] at h0 h1;rw [h0] at h1;cases h1
   ·simp [Array.getElem?_eq_none h'] at h1
  have h2:=wpOp_putIf hoj (hfree j oj hoj hji hjun hnot) (fun cs b=>hsel i oi cs b hi) (fun cs b=>hsel j oj cs b hoj) hQ hy h1
  have hfree':∀k ok,ops[k]? =some ok->k≠i->(listed.setIfInBounds j true).getD k true=false->
    (∀e∈ok.after,Region.binds md e=true->e.on≠i)->oi.apart ops ok=true:=fun k ok hk hki hun hno=>by
   refine hfree k ok hk hki ?_ hno
   by_cases hjk:j=k
   ·subst hjk;exact hjun
   ·rw [getD_set_ne true hjk] at hun;exact hun
  refine wpOp_mono (fun a' w' h3=>⟨h3.2.1,ih (listed.setIfInBounds j true) a' w' hfree' (ready_mono hr (Ne.symm hji)) h3.1 ?_⟩) h2
  rw [Array.setIfInBounds_comm _ _ hji]
  exact h3.2.2
theorem z72 {i:Nat} {oi:Oper} {v:Value} {fuel:Nat} {listed:Array Bool} {a:Act} {w:World} (hi:ops[i]? =some oi)
  (hs:(fr.contains i && Region.noSelect ops && Region.free md ops listed i && (Region.ready md ops listed).contains i)=true)
  (hQ:∀c a w,Q (.panic c) (a.put oi.dst v) w->Q (.panic c) a w) (hy:YieldsIf P ops (fun _=>True) oi v a)
  (h:YN P md ops Q S n fr fuel (listed.setIfInBounds i true) (a.put oi.dst v) w):YN P md ops Q S n fr (fuel+1) listed a w:=by
 simp only [Bool.and_eq_true] at hs
 obtain ⟨⟨⟨h1,h2⟩,h3⟩,h4⟩:=hs
 exact zGh h1 hi (Region.noSelect_spec h2) hQ fuel listed a w (Region.free_spec hi h3) (by simpa using h4) hy h
theorem yA {i:Nat} {o:Oper} {fuel:Nat} {listed:Array Bool} {a:Act} {w:World} (hr:Region.ready md ops listed=[i]) (ho:ops[i]? =some o)
  (h:∀K':Act->World->Prop,Shut (∀a w,S w->(S w->YN P md ops Q S n fr fuel (listed.setIfInBounds i true) a w)->K' a w)->if Region.wanted o (yielded ops a.tmps)=true then Oper.wp P o a w K' Q else K' (a.put o.dst undef) w):
  YN P md ops Q S n fr (fuel+1) listed a w:=by
 refine ⟨fun h0=>(by rw [hr] at h0;cases h0),fun j hj=>?_⟩
 rw [hr] at hj
 obtain rfl:j=i:=by simpa using hj
 exact wpOp_step ho (fun K' hK=>h K' (fun a w hS hW=>hK a w ⟨fun _=>hS,hW hS⟩))
theorem Z2 {i:Nat} {o:Oper} {fuel:Nat} {listed:Array Bool} {a:Act} {w:World} (hr:(decide (n<=i) && decide (Region.ready md ops listed=[i]))=true) (ho:ops[i]? =some o)
  (h:∀K':Act->World->Prop,Shut (∀a w,YN P md ops Q S n fr fuel (listed.setIfInBounds i true) a w->K' a w)->if Region.wanted o (yielded ops a.tmps)=true then Oper.wp P o a w K' Q else K' (a.put o.dst undef) w):
  YN P md ops Q S n fr (fuel+1) listed a w:=by
 simp only [Bool.and_eq_true,decide_eq_true_eq] at hr
 obtain ⟨_,hr⟩:=hr
 refine ⟨fun h0=>(by rw [hr] at h0;cases h0),fun j hj=>?_⟩
 rw [hr] at hj
 obtain rfl:j=i:=by simpa using hj
 exact wpOp_step ho (fun K' hK=>h K' (fun a w hW=>hK a w ⟨fun hlt=>by simp only [Bool.and_eq_true,decide_eq_true_eq] at hlt;omega,hW⟩))
theorem YO {listed:Array Bool} {a:Act} {w:World} (hr:Region.ready md ops listed=[]) (h:Q .normal a w):
  ∀fuel,YN P md ops Q S n fr fuel listed a w
 | 0=>⟨hr,h⟩
 | _+1=>⟨fun _=>h,by rw [hr];simp⟩
theorem yH {id:Nat} {a:Act} {w:World} (n:Nat) (fr:List Nat) (hm:P.follows .mixedOrders=true) (hS:S w.drew)
  (h:S w.drew->YN P .any ops Q S n fr ops.size (Array.replicate ops.size false) a w.drew):(Code.region id ops true).wp P Q a w:=
 wp_region_any hm (zBp _ _ _ _ (h hS))
end
end Go.Proofs.YtdggplhnfhcieaaGreatDoor
end
section
namespace Go.Proofs.YtdggplhnfhcieaaGreatDoor
open Go.RowKit Go.Deep
theorem zU {P:Program} {md:Region.Mode} {l:List Oper} {Q:Exit->Act->World->Prop} {S:World->Prop} {n:Nat} {fr:List Nat} {oi:Oper} {fuel:Nat} {listed:Array Bool} {a:Act} {w:World} (i:Nat) (v:Value) (hi:l[i]? =some oi) (hs:(z90 md l.toArray n i && z7e md l.toArray listed && fr.all (fun m=>listed.getD m true) && Region.noSelect l.toArray && Region.free md l.toArray listed i && (Region.ready md l.toArray listed).contains i)=true) (hw:Region.wanted oi (yielded l.toArray a.tmps)=true) (hQ:∀c a w,Q (.panic c) (a.put oi.dst v) w->Q (.panic c) a w) (hS:S w) (hy:∀w,S w->(execOp a.eval oi).run P w= .ok (.value v) w) (h:YN P md l.toArray Q S n fr fuel (listed.setIfInBounds i true) (a.put oi.dst v) w):YN P md l.toArray Q S n fr (fuel+1) listed a w:=zHo (zG hi) hs hQ (.inl ⟨hw,hy⟩) hS h
def zjU (i:Nat) (P:Program) (md:Region.Mode) (ops:Array Oper) (Q:Exit->Act->World->Prop) (S:World->Prop) (n:Nat) (fr:List Nat) (fuel:Nat) (listed:Array Bool) (a:Act) (w:World):Prop:=YN P md ops Q S n fr fuel listed a w
section
variable {P:Program} {md:Region.Mode} {ops:Array Oper} {Q:Exit->Act->World->Prop} {S:World->Prop} {n:Nat} {fr:List Nat} {fuel:Nat} {listed:Array Bool} {a:Act} {w:World}
theorem ziU (i:Nat) (h:zjU i P md ops Q S n fr fuel listed a w):YN P md ops Q S n fr fuel listed a w:=h
theorem zoU {i:Nat} (h:YN P md ops Q S n fr fuel listed a w):zjU i P md ops Q S n fr fuel listed a w:=h
theorem ztU {l:List Oper} {oi:Oper} {i:Nat} (v:Value) (hi:l[i]? =some oi) (hs:(z90 md l.toArray n i && z7e md l.toArray listed && fr.all (fun m=>listed.getD m true) && Region.noSelect l.toArray && Region.free md l.toArray listed i && (Region.ready md l.toArray listed).contains i)=true) (hw:Region.wanted oi (yielded l.toArray a.tmps)=true) (hQ:∀c a w,Q (.panic c) (a.put oi.dst v) w->Q (.panic c) a w) (hS:S w) (hy:∀w,S w->(execOp a.eval oi).run P w= .ok (.value v) w) (h:zjU (i+1) P md l.toArray Q S n fr fuel (listed.setIfInBounds i true) (a.put oi.dst v) w):zjU i P md l.toArray Q S n fr (fuel+1) listed a w:=zU i v hi hs hw hQ hS hy h
end
end Go.Proofs.YtdggplhnfhcieaaGreatDoor
end
namespace Go.Proofs.YtdggplhnfhcieaaGreatDoor
section
open Go.RowKit Go.Deep
theorem z42 {sz:Nat}:∀{l:List (List Value)} {i:Nat} {x:List Value} {j:Nat},(∀y∈l,y.length=sz)->l[i]? =some x->j < sz->l.flatten[i*sz+j]? =x[j]?
 | [],i,x,j,_,hi,_=>by simp at hi
 | y :: l,0,x,j,h,hi,hj=>by
  obtain rfl:y=x:=by simpa using hi
  rw [List.flatten_cons,List.getElem?_append_left (by have:=h y (List.mem_cons_self ..);omega)]
  congr 1
  omega
 | y :: l,i+1,x,j,h,hi,hj=>by
  have hy:=h y (List.mem_cons_self ..)
  have e:(i+1)*sz+j - y.length=i*sz+j:=by rw [hy,Nat.add_mul];omega
  rw [List.flatten_cons,List.getElem?_append_right (by rw [hy,Nat.add_mul];omega),e]
  exact z42 (fun z hz=>h z (zmc _ hz)) (by simpa using hi) hj
theorem zFg {sz:Nat} (hsz:0 < sz) {l:List (List Value)} (h:∀y∈l,y.length=sz) {q:Nat} {u:Value} (hq:l.flatten[q]? =some u):∃i j x,q=i*sz+j/\j < sz/\l[i]? =some x/\x[j]? =some u:=by
 have hl:q < l.length*sz:=by
  have:=(zge hq).1
  rwa [z4o h] at this
 have h2:=Nat.mod_lt q hsz
 have h3:=Nat.div_add_mod q sz
 have h4:q / sz < l.length:=(Nat.div_lt_iff_lt_mul hsz).2 hl
 refine ⟨q / sz,q % sz,l[q / sz],by rw [Nat.mul_comm] at h3;omega,h2,List.getElem?_eq_getElem h4,?_⟩
 rw [<-z42 (sz:=sz) h (List.getElem?_eq_getElem h4) h2]
 rw [show q / sz*sz+q % sz=q by rw [Nat.mul_comm] at h3;omega]
 exact hq
section
variable {e:TypeId} {sz:Nat}
theorem RowC.at {w:World} {v:Value} {l:List (List Value)} (h:RowC e sz w v l) {i:Nat} {x:List Value} (hi:l[i]? =some x):∃g off cap,v= .slice (some ⟨g,off,none⟩) l.length cap/\l.length<=cap/\cap<=maxLen/\g < w.heap.size/\(∀j u,x[j]? =some u->w.cell? ⟨g,off+i*sz+j,none⟩=some u)/\∀o,w.frozen? ⟨g,o,none⟩=false:=by
 obtain ⟨h0,h⟩:=h
 rcases h with ⟨_,rfl⟩ | ⟨g,off,cap,cur,hv,hg,h1,h2,h3,h4⟩
 ·simp at hi
 refine ⟨g,off,cap,hv,h1,h2,zM hg,fun j u hj=>?_,(zD hg).2⟩
 have hx:=(h0 x (zmg hi)).1
 have hjl:=(zge hj).1
 rw [cell_of_row w g _ cur _ (0,0) hg,Nat.add_assoc]
 exact h4 _ u (by rw [z42 (fun y hy=>(h0 y hy).1) hi (by omega)];exact hj)
theorem RowC.write {w:World} {g off len cap:Nat} {l:List (List Value)} (h:RowC e sz w (.slice (some ⟨g,off,none⟩) len cap) l) (hsz:0 < sz) {i j:Nat} {x:List Value} (hi:l[i]? =some x) (hj:j < sz) (u:Value) (hu:u.oneCell'=true):RowC e sz (w.setCell ⟨g,off+i*sz+j,none⟩ u) (.slice (some ⟨g,off,none⟩) len cap) (l.set i (x.set j u)):=by
 obtain ⟨h0,h⟩:=h
 have hx:=h0 x (zmg hi)
 have hil:=(zge hi).1
 have h0':∀y∈l.set i (x.set j u),y.length=sz/\∀z∈y,z.oneCell'=true:=by
  intro y hy
  rcases List.mem_or_eq_of_mem_set hy with hy | rfl
  ·exact h0 y hy
  ·refine ⟨by rw [List.length_set];exact hx.1,fun z hz=>?_⟩
   rcases List.mem_or_eq_of_mem_set hz with hz | rfl
   ·exact hx.2 z hz
   ·exact hu
 refine ⟨h0',.inr ?_⟩
 rcases h with ⟨h,_⟩ | ⟨g',off',cap',cur,hv,hg,h1,h2,h3,h4⟩
 ·cases h
 simp only [Value.slice.injEq,Option.some.injEq,Addr.mk.injEq,and_true] at hv
 obtain ⟨⟨rfl,rfl⟩,rfl,rfl⟩:=hv
 refine ⟨g,off,cap,cur.setIfInBounds (off+i*sz+j) u,by rw [List.length_set],zI _ hg rfl,by rw [List.length_set];exact h1,h2,by rw [Array.size_setIfInBounds];exact h3,fun q z hq=>?_⟩
 obtain ⟨a,b,y,rfl,hb,ha,hz⟩:=zFg hsz (fun y hy=>(h0' y hy).1) hq
 rw [Array.getElem?_setIfInBounds]
 have hfit:i*sz+sz<=l.length*sz:=by
  have:=Nat.mul_le_mul_right sz (show i+1<=l.length by omega)
  rw [Nat.add_mul] at this
  omega
 have hcap:l.length*sz<=cap*sz:=Nat.mul_le_mul_right _ h1
 by_cases hai:a=i
 ·subst hai
  rw [List.getElem?_set_self hil] at ha
  obtain rfl:=zsi ha
  by_cases hbj:b=j
  ·subst hbj
   rw [if_pos (by omega),if_pos (by omega)]
   rw [List.getElem?_set_self (by rw [hx.1];exact hb)] at hz
   exact hz
  rw [if_neg (by omega)]
  rw [List.getElem?_set_ne (by omega)] at hz
  exact h4 _ z (by rw [z42 (fun y hy=>(h0 y hy).1) hi hb];exact hz)
 rw [List.getElem?_set_ne (Ne.symm hai)] at ha
 have:off+i*sz+j≠off+(a*sz+b):=by
  intro h9
  rcases Nat.lt_or_gt_of_ne hai with h8 | h8
  ·have:=Nat.mul_le_mul_right sz (show a+1<=i by omega)
   rw [Nat.add_mul] at this
   omega
  ·have:=Nat.mul_le_mul_right sz (show i+1<=a by omega)
   rw [Nat.add_mul] at this
   omega
 rw [if_neg this]
 exact h4 _ z (by rw [z42 (fun y hy=>(h0 y hy).1) ha hb];exact hz)
end
end
section
open Go.RowKit Go.Deep
section
variable {e:TypeId} {sz:Nat}
theorem RowC.shape3 {w:World} {v:Value} {l:List (List Value)} (h:RowC e sz w v l):∃A n c,v= .slice A n c:=by
 obtain ⟨A,c,h,_⟩:=h.shape
 exact ⟨A,_,c,h⟩
theorem RowC.below {w w':World} {v:Value} {l:List (List Value)} (h:RowC e sz w v l) (hb:Below w.heap.size w w'):RowC e sz w' v l:=h.keep fun b hv=>hb.block b (h.lt b hv)
theorem z6t {P:Program} {t:TypeId} (i:TypeInfo) (z:Value) (bytes:Nat) (ht:P.underlying t=some (.slice e)) (hi:P.info? e=some i) (hz:i.zero=some z) (h1:i.size=sz) (h2:i.bytes=bytes) (hzs:z.cells.size=sz) (hsz:0 < sz) (hb128:bytes<=1000) (ty:TypeId) {W:World} {v:Value} {l:List (List Value)} (h:RowC e sz W v l) (hl:l.length<=10000) (x:List Value) (hx:x.length=sz) (hx1:∀u∈x,u.oneCell'=true) (N c:Nat) (hN:W.heap[N]? =some (.cells x.toArray e (0,0))):
  ∃v' w',(Builtin.append_ #[t,t] ty #[v,.slice (some ⟨N,0,none⟩) 1 c]).run P W= .ok v' w'/\RowC e sz w' v' (l++[x])/\W.grownBy w' v.ownBlock/\(v'.ownBlock=v.ownBlock\/∃k,v'.ownBlock=some k/\W.heap.size<=k):=by
 have hnew:∀(j:Nat) (u:Value),x[j]? =some u->W.cell? ((⟨N,0,none⟩:Addr).add j)=some u:=by
  intro j u hj
  rw [Addr.add_lit]
  rw [cell_of_row _ N _ x.toArray _ (0,0) hN]
  simpa using hj
 have hall:∀y∈l++[x],y.length=sz/\∀u∈y,u.oneCell'=true:=by
  intro y hy
  rcases zmb hy with hy | hy
  ·exact h.1 y hy
  ·obtain rfl:y=x:=by simpa using hy
   exact ⟨hx,hx1⟩
 have hflat:(l++[x]).flatten=l.flatten++x:=by simp
 have hfl:l.flatten.length=l.length*sz:=z4o fun y hy=>(h.1 y hy).1
 rcases h.2 with ⟨rfl,rfl⟩ | ⟨g,off,cap,cur,rfl,hg,hlc,hcm,hoc,hcell⟩
 ·obtain ⟨v',w',r1,r2,r3,_,r5⟩:=run_append_own_at (P:=P) W W.heap.size t ty e i z sz bytes ht hi hz h1 h2 hzs hsz (.slice none 0 0) 0 [] (World.ownsRow_nil _ _ _ _) ⟨N,0,none⟩ 1 c x (by rw [hx];omega) hnew hx1 (by simp only [maxLen];omega) (by omega) (by simp)
  refine ⟨v',w',r1,⟨hall,?_⟩,r3,?_⟩
  ·rcases r2.2 with ⟨_,h0⟩ | ⟨g,cap,cur,hv,hb,hg,hnc,hcm,hcs,htk⟩
   ·omega
   refine .inr ⟨g,0,cap,cur,by simpa using hv,hg,by simpa using hnc,hcm,by omega,fun j y hy=>?_⟩
   rw [hflat] at hy
   have hy':x[j]? =some y:=by simpa using hy
   have hj:=(zge hy').1
   have h3:(cur.toList.take ((0+1)*sz))[j]? =some y:=by rw [htk];simpa using hy'
   rw [List.getElem?_take,if_pos (by omega)] at h3
   simpa using h3
  rcases r5 with h | h
  ·exact .inl h
  exact .inr ⟨_,h,by simp⟩
 have hlt:=zM hg
 have hg1:=hg
 by_cases hroom:l.length+1<=cap
 rotate_left
 ·have hlc':l.length=cap:=by omega
  have holds:∀j u,l.flatten[j]? =some u->W.cell? ((⟨g,off,none⟩:Addr).add j)=some u:=by
   intro j u hj
   rw [Addr.add_lit,cell_of_row _ g _ cur _ (0,0) hg1]
   exact hcell j u hj
  have hr:=run_append_grow (P:=P) W t ty e i z ht hi hz ⟨g,off,none⟩ l.length cap l.flatten (by rw [h1];exact hfl) holds ⟨N,0,none⟩ 1 c x (by rw [h1,hx];omega) hnew (by omega) (by omega) (growslice_fits (by omega) (by rw [h2];have:=Nat.mul_le_mul (show l.length+1<=10001 by omega) hb128;omega))
  have hge:=grownCap_ge W (l.length+1) cap e
  refine ⟨_,_,hr,⟨hall,.inr ⟨_,0,grownCap W (l.length+1) cap e,_,by simp,heap_alloc_new _ _,by simpa using hge,grownCap_le_maxLen _ _ _ _ (by simp only [maxLen];omega),?_,fun j y hy=>?_⟩⟩,?_,.inr ⟨_,rfl,by simp⟩⟩
  ·simp only [Array.size_append,List.size_toArray,size_zeroCells,hzs,hfl,hx]
   rw [Nat.zero_add]
   generalize grownCap _ _ _ _=G at hge⊢
   obtain ⟨d,rfl⟩:∃d,G=l.length+1+d:=⟨G - (l.length+1),by omega⟩
   rw [Nat.add_sub_cancel_left,Nat.add_mul,Nat.add_mul,Nat.one_mul]
   exact znl _
  ·have hj1:=(zge hy).1
   rw [hflat] at hy hj1
   rw [List.length_append] at hj1
   rw [Nat.zero_add,Array.getElem?_append_left (by simp only [Array.size_append,List.size_toArray];omega)]
   rw [show l.flatten.toArray++x.toArray=(l.flatten++x).toArray by simp]
   simpa using hy
  exact ⟨rfl,rfl,rfl,by simp,fun q hq _=>Below.heap_alloc _ _ q hq⟩
 have hfit:off+l.length*sz+sz<=cur.size:=by
  have:=Nat.mul_le_mul_right sz hroom
  rw [Nat.add_mul,Nat.one_mul] at this
  omega
 have hs:∀j,j < x.length->(W.cell? ⟨g,off+l.length*i.size+j,none⟩).isSome=true:=by
  intro j hj
  rw [h1,cell_of_row _ g _ cur _ (0,0) hg1,Array.getElem?_eq_getElem (by omega)]
  rfl
 have hf:∀j,j < x.length->W.frozen? ⟨g,off+l.length*i.size+j,none⟩=false:=fun j _=>(zD hg1).2 _
 have hr:=run_append_room_cells (P:=P) W t ty e i ht hi g off l.length cap ⟨N,0,none⟩ 1 c x (by rw [h1,hx];omega) hnew hx1 hroom hs hf
 rw [h1] at hr
 obtain ⟨cur',k1,_,k3,k4⟩:=z8k x _ (off+l.length*sz) cur hg1 (by omega)
 obtain ⟨o1,o2,o3,o4,o5⟩:=z17 g x W (off+l.length*sz)
 refine ⟨_,_,hr,⟨hall,.inr ⟨g,off,cap,cur',by simp,k1,by simpa using hroom,hcm,by omega,fun q y hy=>?_⟩⟩,?_,.inl rfl⟩
 ·rw [hflat] at hy
  by_cases hjl:q < l.length*sz
  ·rw [List.getElem?_append_left (by omega)] at hy
   rw [k4 _ (.inl (by omega))]
   exact hcell q y hy
  rw [List.getElem?_append_right (by omega),hfl] at hy
  have hq:=(zge hy).1
  have:=k3 (q - l.length*sz) hq
  rw [show off+l.length*sz+(q - l.length*sz)=off+q by omega] at this
  rw [this]
  exact hy
 exact ⟨o1,o2,o3,by rw [o4];exact znl _,fun q _ hq=>o5 q fun e=>hq (by rw [e];rfl)⟩
theorem zGx {P:Program} (W:World) (x:List Value) {ops:Array Oper} {rest:List Oper} {o:Oper} {a:Act} {Q:Exit->Act->World->Prop} (hgd:o.guard=none) (s xo:Operand) (t:TypeId)
  (ho:o.op= .call { callee:= .builtin .append,args:=#[s,xo],argTypes:=#[t,t] })
  (i:TypeInfo) (z:Value) (bytes:Nat) (ht:P.underlying t=some (.slice e)) (hi:P.info? e=some i) (hz:i.zero=some z) (h1:i.size=sz) (h2:i.bytes=bytes) (hzs:z.cells.size=sz) (hsz:0 < sz) (hb128:bytes<=1000)
  (v:Value) (l:List (List Value)) (hs:a.eval s=v) (N c:Nat) (hxo:a.eval xo= .slice (some ⟨N,0,none⟩) 1 c) (h:RowC e sz W v l) (hl:l.length<=10000) (hx:x.length=sz) (hx1:∀u∈x,u.oneCell'=true) (hN:W.heap[N]? =some (.cells x.toArray e (0,0)))
  (hK:∀v' w',RowC e sz w' v' (l++[x])->W.grownBy w' v.ownBlock->(v'.ownBlock=v.ownBlock\/∃k,v'.ownBlock=some k/\W.heap.size<=k)->wpList P ops Q rest (a.put o.dst v') w'):wpList P ops Q (o :: rest) a W:=by
 obtain ⟨v',w',r1,r2,r3,r4⟩:=z6t (P:=P) i z bytes ht hi hz h1 h2 hzs hsz hb128 o.type h hl x hx hx1 N c hN
 exact Lib.wpList_append_run _ hgd s xo t t ho _ _ hs hxo v' w' r1 (hK v' w' r2 r3 r4)
theorem ButB.row {w5 W w6:World} {row:Option Nat} (g:W.grownBy w6 row) (B:Below w5.heap.size w5 W):ButB (fun x=>row=some x) w5 w6:=
 ⟨g.os.trans B.os,g.tape.trans B.tape,g.output.trans B.output,Nat.le_trans B.size g.size,fun b hb hc=>(g.block b (zll hb B.size) fun e=>hc e.symm).trans (B.block b hb)⟩
theorem z0k {P:Program} (w5 W:World) (x:List Value) {ops:Array Oper} {rest:List Oper} {o:Oper} {a:Act} {Q:Exit->Act->World->Prop} (hgd:o.guard=none) (s xo:Operand) (t:TypeId)
  (ho:o.op= .call { callee:= .builtin .append,args:=#[s,xo],argTypes:=#[t,t] })
  (i:TypeInfo) (z:Value) (bytes:Nat) (ht:P.underlying t=some (.slice e)) (hi:P.info? e=some i) (hz:i.zero=some z) (h1:i.size=sz) (h2:i.bytes=bytes) (hzs:z.cells.size=sz) (hsz:0 < sz) (hb128:bytes<=1000)
  (v:Value) (l:List (List Value)) (hs:a.eval s=v) (N c:Nat) (hxo:a.eval xo= .slice (some ⟨N,0,none⟩) 1 c) (h:RowC e sz w5 v l) (hB:Below w5.heap.size w5 W) (hl:l.length<=10000) (hx:x.length=sz) (hx1:∀u∈x,u.oneCell'=true) (hN:W.heap[N]? =some (.cells x.toArray e (0,0)))
  (hK:∀v' w',RowC e sz w' v' (l++[x])->ButB (fun z=>v.ownBlock=some z) w5 w'->(v'.ownBlock=v.ownBlock\/∃k,v'.ownBlock=some k/\w5.heap.size<=k)->wpList P ops Q rest (a.put o.dst v') w'):wpList P ops Q (o :: rest) a W:=by
 obtain ⟨v',w',r1,r2,r3,r4⟩:=z6t (P:=P) i z bytes ht hi hz h1 h2 hzs hsz hb128 o.type (h.below hB) hl x hx hx1 N c hN
 exact Lib.wpList_append_run _ hgd s xo t t ho _ _ hs hxo v' w' r1 (hK v' w' r2 (ButB.row r3 hB) (r4.imp id fun ⟨k,e,hk⟩=>⟨k,e,Nat.le_trans hB.size hk⟩))
theorem z0b {P:Program} (w5 W:World) (x:List Value) {ops:Array Oper} {o:Oper} {a:Act} {K:Act->World->Prop} {Q:Exit->Act->World->Prop} {E:Prop} (hgd:o.guard=none) (s xo:Operand) (t:TypeId)
  (ho:o.op= .call { callee:= .builtin .append,args:=#[s,xo],argTypes:=#[t,t] })
  (i:TypeInfo) (z:Value) (bytes:Nat) (ht:P.underlying t=some (.slice e)) (hi:P.info? e=some i) (hz:i.zero=some z) (h1:i.size=sz) (h2:i.bytes=bytes) (hzs:z.cells.size=sz) (hsz:0 < sz) (hb128:bytes<=1000)
  (v:Value) (l:List (List Value)) (hs:a.eval s=v) (N c:Nat) (hxo:a.eval xo= .slice (some ⟨N,0,none⟩) 1 c) (h:RowC e sz w5 v l) (hB:Below w5.heap.size w5 W) (hl:l.length<=10000) (hx:x.length=sz) (hx1:∀u∈x,u.oneCell'=true) (hN:W.heap[N]? =some (.cells x.toArray e (0,0)))
  (hK:∀v' w',RowC e sz w' v' (l++[x])->ButB (fun z=>v.ownBlock=some z) w5 w'->(v'.ownBlock=v.ownBlock\/∃k,v'.ownBlock=some k/\w5.heap.size<=k)->K (a.put o.dst v') w'):if Region.wanted o (yielded ops a.tmps)=true then Oper.wp P o a W K Q else E:=by
 have hw:Region.wanted o (yielded ops a.tmps)=true:=by simp [Region.wanted,hgd]
 rw [if_pos hw]
 obtain ⟨v',w',r1,r2,r3,r4⟩:=z6t (P:=P) i z bytes ht hi hz h1 h2 hzs hsz hb128 o.type (h.below hB) hl x hx hx1 N c hN
 exact Lib.wp_append_run W s xo t t ho _ _ hs hxo v' w' r1 (hK v' w' r2 (ButB.row r3 hB) (r4.imp id fun ⟨k,e,hk⟩=>⟨k,e,Nat.le_trans hB.size hk⟩))
end
end
end Go.Proofs.YtdggplhnfhcieaaGreatDoor
