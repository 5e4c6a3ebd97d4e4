/- No condition. -/
import Derived.Test.YtdggplhnfhcieaaGreatDoorX13
set_option linter.all false
set_option maxRecDepth 100000
section
namespace Go.Proofs.YtdggplhnfhcieaaGreatDoor.Ro
open Go.RowKit Go.Deep
def shareD (l:List Member) (by_ name:ByteArray) (n:Int):Int:=if (rightOf l && (ZA name && isOf n))=false then 2 else shareE (ofOf l by_) (ofOf l name) n l.length
def changeD (l:List Member) (by_ name:ByteArray) (n:Int):Int:=if (rightOf l && (ZA name && isOf n))=false then 2 else changeE (ofOf l by_) (ofOf l name) n (own4 l)
def revokeD (l:List Member) (by_ name:ByteArray):Int:=if (rightOf l && ZA name)=false then 2 else revokeE (eqS by_ name) (ofOf l by_) (ofOf l name) (own4 l)
theorem tf:¬(true=false):=fun h=>by cases h
theorem share_err (l:List Member) (by_ name:ByteArray) (n:Int):z7l (rightOf l && (ZA name && isOf n)) (ofOf l by_) (z2r l name) n l.length=shareD l by_ name n:=by
 unfold z7l shareD;cases h:rightOf l && (ZA name && isOf n)
 ·simp
 simp only [qBqx] at h;have hR:=(right_iff l).1 h.1;have h8:=hR.few;rw [if_neg tf,if_neg tf];unfold shareE;rcases of_pos (fun m hm=>(hR.each m hm).2) name with ⟨a1,a2⟩ | ⟨a1,a2,a3⟩
 all_goals ((repeat' split)<;>omega)
theorem change_err (l:List Member) (by_ name:ByteArray) (n:Int):z7b (rightOf l && (ZA name && isOf n)) (ofOf l by_) (z2r l name) (ofOf l name) n (z07 l)=changeD l by_ name n:=by
 unfold z7b changeD;cases h:rightOf l && (ZA name && isOf n)
 ·simp
 simp only [qBqx] at h;have hR:=(right_iff l).1 h.1;rw [if_neg tf,if_neg tf,hR.owners];unfold changeE;rcases of_pos (fun m hm=>(hR.each m hm).2) name with ⟨a1,a2⟩ | ⟨a1,a2,a3⟩
 all_goals ((repeat' split)<;>omega)
theorem revoke_err (l:List Member) (by_ name:ByteArray):z7c (rightOf l && ZA name) (eqS by_ name) (ofOf l by_) (z2r l name) (ofOf l name) (z07 l)=revokeD l by_ name:=by
 unfold z7c revokeD;cases h:rightOf l && ZA name
 ·simp
 simp only [qBqx] at h;have hR:=(right_iff l).1 h.1;rw [if_neg tf,if_neg tf,hR.owners];unfold revokeE;generalize eqS by_ name=sm;rcases of_pos (fun m hm=>(hR.each m hm).2) name with ⟨a1,a2⟩ | ⟨a1,a2,a3⟩
 all_goals
  cases sm
  ·simp only [true_and]
   (repeat' split)<;>omega
  ·simp only [Bool.true_eq_false,false_and,if_false]
   (repeat' split)<;>omega
theorem shareD_zero {l:List Member} {by_ name:ByteArray} {n:Int} (h:shareD l by_ name n=0):RightL l/\ZA name=true/\isOf n=true/\ofOf l name<=0/\3<=ofOf l by_/\(2 < n->4<=ofOf l by_)/\l.length≠8:=by
 unfold shareD at h;cases hr:rightOf l && (ZA name && isOf n)
 ·rw [hr] at h;simp at h
 rw [hr,if_neg tf] at h;simp only [qBqx] at hr;unfold shareE at h;refine ⟨(right_iff l).1 hr.1,hr.2.1,hr.2.2,?_⟩;split at h
 ·cases h
 split at h
 ·cases h
 split at h
 ·cases h
 split at h
 ·cases h
 exact ⟨by omega,by omega,by omega,by omega⟩
theorem zIe {l:List Member} {by_ name:ByteArray} {n:Int} (h:changeD l by_ name n=0):RightL l/\ZA name=true/\isOf n=true/\ofOf l name≠0/\3<=ofOf l by_/\(2 < n\/2 < ofOf l name->4<=ofOf l by_)/\¬(ofOf l name=4/\n < 4/\own4 l=1):=by
 unfold changeD at h;cases hr:rightOf l && (ZA name && isOf n)
 ·rw [hr] at h;simp at h
 rw [hr,if_neg tf] at h;simp only [qBqx] at hr;unfold changeE at h;refine ⟨(right_iff l).1 hr.1,hr.2.1,hr.2.2,?_⟩;split at h
 ·cases h
 split at h
 ·cases h
 split at h
 ·cases h
 split at h
 ·cases h
 exact ⟨by omega,by omega,by omega,by assumption⟩
theorem revokeD_zero {l:List Member} {by_ name:ByteArray} (h:revokeD l by_ name=0):RightL l/\ZA name=true/\ofOf l name≠0/\(eqS by_ name=false->3<=ofOf l by_/\(2 < ofOf l name->4<=ofOf l by_))/\¬(ofOf l name=4/\own4 l=1):=by
 unfold revokeD at h;cases hr:rightOf l && ZA name
 ·rw [hr] at h;simp at h
 rw [hr,if_neg tf] at h;simp only [qBqx] at hr;unfold revokeE at h;refine ⟨(right_iff l).1 hr.1,hr.2,?_⟩;split at h
 ·cases h
 rename_i c1;split at h
 ·cases h
 split at h
 ·cases h
 rename_i c3;split at h
 ·cases h
 refine ⟨by assumption,fun e=>⟨?_,fun h2=>?_⟩,by assumption⟩
 ·by_cases h:ofOf l by_ < 3
  ·exact absurd ⟨e,h⟩ c1
  omega
 by_cases h:ofOf l by_ < 4
 ·exact absurd ⟨e,h2,h⟩ c3
 omega
end Go.Proofs.YtdggplhnfhcieaaGreatDoor.Ro
end
section
namespace Go.Proofs.YtdggplhnfhcieaaGreatDoor.Ro
open Go.RowKit Go.Deep
theorem z8w {name x:ByteArray} {role:Int} (h:eqS name x=false):∀(l:List Member) (d:Bool),ofOf (withR name role d l) x=ofOf l x
 | [],d=>by cases d<;>simp [withR,ofOf,h]
 | m :: r,d=>by
  have ih:=z8w (role:=role) h r (d || leS name m.name);have key:ofOf ((if eqS m.name name then [] else [m])++withR name role (d || leS name m.name) r) x=ofOf (m :: r) x:=by
   cases hm:eqS m.name name
   ·show ofOf (m :: withR name role (d || leS name m.name) r) x=_
    rw [ofOf,ofOf,ih]
   ·show ofOf (withR name role (d || leS name m.name) r) x=_
    rw [ofOf,ih,yV.1 hm,h];rfl
  rw [withR];cases hc:!d && leS name m.name
  ·exact key
  ·show ofOf (⟨name,role⟩ :: ((if eqS m.name name then [] else [m])++withR name role (d || leS name m.name) r)) x=_
   rw [ofOf,h];exact key
theorem z58 {name:ByteArray} {role:Int}:∀(l:List Member) (d:Bool),ofOf (withR name role d l) name=if d then 0 else role
 | [],d=>by cases d<;>simp [withR,ofOf,yV.2]
 | m :: r,d=>by
  rw [withR];cases d
  ·cases hle:leS name m.name
   ·have hm:eqS m.name name=false:=by
     cases h:eqS m.name name
     ·rfl
     ·rw [yV.1 h,zDh (YV _)] at hle;cases hle
    rw [hm];show ofOf (m :: withR name role (false || false) r) name=_
    rw [ofOf,hm];exact z58 r _
   ·show ofOf (⟨name,role⟩ :: _) name=_
    rw [ofOf,yV.2 rfl];rfl
  ·show ofOf ((if eqS m.name name then [] else [m])++withR name role true r) name=0
   cases hm:eqS m.name name
   ·show ofOf (m :: withR name role true r) name=0
    rw [ofOf,hm];exact z58 r true
   ·exact z58 r true
theorem z6u {name x:ByteArray} {role:Int} {l:List Member} (h:eqS name x=false):ofOf (withOf l name role) x=ofOf l x:=z8w h l _
theorem of_with_same {name:ByteArray} {role:Int} {l:List Member}:ofOf (withOf l name role) name=role:=by
 rw [withOf,z58];cases h:role==0
 ·rfl
 exact (beq_iff_eq.1 h).symm
theorem z9d:∀l:List Member,own4 l=l.countP fun m=>m.role==4
 | []=>rfl
 | m :: r=>by
  rw [own4,z9d r,List.countP_cons];cases h:m.role==4<;>simp<;>omega
theorem zOf {l r:List Member} (h:l.Perm r):own4 l=own4 r:=by
 rw [z9d,z9d];exact h.countP_eq _
theorem zIf:∀(l:List Member) (i:Nat) (x y:Member),l[i]? =some x->own4 (l.set i y)+(if x.role==4 then 1 else 0)=own4 l+(if y.role==4 then 1 else 0)
 | [],i,x,y,h=>by simp at h
 | m :: r,0,x,y,h=>by
  simp at h;subst h;rw [List.set_cons_zero,own4,own4]
  omega
 | m :: r,i+1,x,y,h=>by
  have:=zIf r i x y (by simpa using h);rw [List.set_cons_succ,own4,own4];omega
theorem zEi:∀(l:List Member) (i:Nat) (x:Member),l[i]? =some x->own4 (l.eraseIdx i)+(if x.role==4 then 1 else 0)=own4 l
 | [],i,x,h=>by simp at h
 | m :: r,0,x,h=>by
  simp at h;subst h;rw [List.eraseIdx_cons_zero,own4]
  omega
 | m :: r,i+1,x,h=>by
  have:=zEi r i x (by simpa using h);rw [List.eraseIdx_cons_succ,own4,own4];omega
theorem zIg {name:ByteArray} {n:Int}:∀{l:List Member},(∀x∈l,eqS x.name name=false)->(withR name n false l).Perm (⟨name,n⟩ :: l)
 | [],_=>by simp [withR]
 | m :: r,hd=>by
  have hm:=hd m (by simp);have ih:=zIg (n:=n) fun x hx=>hd x (zmc m hx)
  rw [withR,hm];cases hle:leS name m.name
  ·show (m :: withR name n (false || false) r).Perm _
   exact (List.Perm.cons m ih).trans (List.Perm.swap _ _ _)
  ·show (⟨name,n⟩ :: m :: withR name n (false || true) r).Perm _
   rw [show (false || true)=true from rfl,z5g,z6h fun x hx=>hd x (by simp [hx])]
theorem right_share {cur:List Member} {by_ name:ByteArray} {n:Int} (h:shareD cur by_ name n=0):RightL (withOf cur name n):=by
 obtain ⟨R,hk,hi,_,hm,_,_⟩:=shareD_zero h;have hr:=fun m hm=>(R.each m hm).2
 obtain ⟨_,_⟩:=z6p hi;have h0':ofOf cur name=0:=by rcases of_pos hr name with ⟨_,b⟩ | ⟨_,b,_⟩<;>omega
 have hd:=of_none hr h0';have e:withOf cur name n=withR name n false cur:=by rw [withOf,show (n==0)=false from beq_eq_false_iff_ne.2 (by omega)]
 have hs:ofOf (withOf cur name n) name=n:=of_with_same;have ho:∀x,eqS name x=false->ofOf (withOf cur name n) x=ofOf cur x:=fun x hx=>z6u hx
 obtain ⟨i1,i2⟩:=zDi (n:=n) R.sorted hd;have hp:=zIg (n:=n) hd;have R2:RightL (withOf cur name n):=by
  rw [e];refine ⟨fun m hm=>?_,i1,?_,?_⟩
  ·rcases (i2 m).1 hm with rfl | hm
   ·exact ⟨hk,hi⟩
   ·exact R.each m hm
  ·rw [hp.length_eq,List.length_cons];have:=R.few;omega
  ·rw [zOf hp,own4];have:=R.own;omega
 exact R2
theorem right_change {cur:List Member} {by_ name:ByteArray} {n:Int} (h:changeD cur by_ name n=0):RightL (withOf cur name n):=by
 obtain ⟨R,hk,hi,h0,hm,_,_⟩:=zIe h;have hr:=fun m hm=>(R.each m hm).2
 obtain ⟨_,_⟩:=z6p hi;have hs:ofOf (withOf cur name n) name=n:=of_with_same;have ho:∀x,eqS name x=false->ofOf (withOf cur name n) x=ofOf cur x:=fun x hx=>z6u hx
 obtain ⟨i,x,hx,hxe,_⟩:∃(i:Nat) (x:Member),cur[i]? =some x/\eqS x.name name=true/\ofOf cur name=x.role:=by
  rcases atOf_cases name cur 0 with ⟨_,h2⟩ | ⟨i,x,_,h2,h3,h4⟩
  ·exact absurd h2 h0
  ·exact ⟨i,x,h2,h4,h3⟩
 have e:=set_with (name:=name) (n:=n) (by omega) R.sorted hx hxe;have hlt:(cur.set i ⟨x.name,n⟩).Pairwise LtM:=by
  have hmap:(cur.set i ⟨x.name,n⟩).map (·.name)=cur.map (·.name):=by
   rw [List.map_set];apply List.ext_getElem?;intro j;rw [List.getElem?_set];by_cases hij:i=j
   ·subst hij;have hil:=(zge hx).1;rw [if_pos rfl,if_pos (by simpa using hil),List.getElem?_map,hx];rfl
   ·rw [if_neg hij]
  have h1:(cur.map (·.name)).Pairwise fun a b=>ltS a b=true:=List.pairwise_map.2 R.sorted
  rw [<-hmap] at h1;exact (List.pairwise_map (f:=fun m:Member=>m.name)).1 h1
 have R2:RightL (withOf cur name n):=by
  rw [<-e];refine ⟨fun m hm=>?_,hlt,by rw [List.length_set];exact R.few,?_⟩
  ·rcases List.mem_or_eq_of_mem_set hm with hm | rfl
   ·exact R.each m hm
   ·exact ⟨by rw [yV.1 hxe];exact hk,hi⟩
  ·have:=zIf cur i x ⟨x.name,n⟩ hx;have h1:=R.own;by_cases hx4:x.role=4
   ·by_cases hn4:n=4
    ·subst hn4;simp [hx4] at this;omega
    ·simp [hx4,hn4] at this;omega
   ·simp [hx4] at this;omega
 exact R2
theorem right_revoke {cur:List Member} {by_ name:ByteArray} (h:revokeD cur by_ name=0):RightL (withOf cur name 0):=by
 obtain ⟨R,_,h0,hm,_⟩:=revokeD_zero h;have hs:ofOf (withOf cur name 0) name=0:=of_with_same;have ho:∀x,eqS name x=false->ofOf (withOf cur name 0) x=ofOf cur x:=fun x hx=>z6u hx
 obtain ⟨i,x,hx,hxe,_⟩:∃(i:Nat) (x:Member),cur[i]? =some x/\eqS x.name name=true/\ofOf cur name=x.role:=by
  rcases atOf_cases name cur 0 with ⟨_,h2⟩ | ⟨i,x,_,h2,h3,h4⟩
  ·exact absurd h2 h0
  ·exact ⟨i,x,h2,h4,h3⟩
 have e:=erase_with (name:=name) R.sorted hx hxe;have hil:=(zge hx).1;have R2:RightL (withOf cur name 0):=by
  rw [<-e];refine ⟨fun m hm=>R.each m (List.mem_of_mem_eraseIdx hm),R.sorted.sublist (List.eraseIdx_sublist _ _),?_,?_⟩
  ·rw [List.length_eraseIdx_of_lt hil];have:=R.few;omega
  ·have:=zEi cur i x hx;have h1:=R.own;by_cases hx4:x.role=4
   ·simp [hx4] at this;omega
   ·simp [hx4] at this;omega
 exact R2
end Go.Proofs.YtdggplhnfhcieaaGreatDoor.Ro
end
