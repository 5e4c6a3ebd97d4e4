/- Part 22 of the proof of vaultStays_holds. No condition. -/
import Derived.Test.YtdggplhnfhcieaaGreatDoorZ16
import Derived.Test.YtdggplhnfhcieaaGreatDoorZ20
set_option linter.unusedVariables false
set_option linter.unusedSimpArgs false
set_option linter.unusedSectionVars false
set_option maxRecDepth 100000
namespace Go.Proofs.YtdggplhnfhcieaaGreatDoor
section
open Go.RowKit Go.Deep
theorem z7t {w:World} {pb:Nat} {T:TypeId} {z0 z1 z2 z3 z4 z5 z6 z7:Value} (h:w.heap[pb]? =some (.cells #[z0,z1,z2,z3,z4,z5,z6,z7] T (0,0))) (a0 a1 a2 a3 a4 a5 a6 a7:Value):
  ((((((((w.setCell ⟨pb,0,none⟩ a0).setCell ⟨pb,1,none⟩ a1).setCell ⟨pb,2,none⟩ a2).setCell ⟨pb,3,none⟩ a3).setCell ⟨pb,4,none⟩ a4).setCell ⟨pb,5,none⟩ a5).setCell ⟨pb,6,none⟩ a6).setCell ⟨pb,7,none⟩ a7).heap[pb]? =some (.cells #[a0,a1,a2,a3,a4,a5,a6,a7] T (0,0))/\ButB (fun x=>x=pb) w ((((((((w.setCell ⟨pb,0,none⟩ a0).setCell ⟨pb,1,none⟩ a1).setCell ⟨pb,2,none⟩ a2).setCell ⟨pb,3,none⟩ a3).setCell ⟨pb,4,none⟩ a4).setCell ⟨pb,5,none⟩ a5).setCell ⟨pb,6,none⟩ a6).setCell ⟨pb,7,none⟩ a7):=by
 have b0:ButB (fun x=>x=pb) w w:=ButB.refl _ _
 have h0:=zI (i:=0) (cs':=#[a0,z1,z2,z3,z4,z5,z6,z7]) a0 h rfl
 have b1:=b0.set ⟨pb,0,none⟩ a0 rfl
 generalize w.setCell ⟨pb,0,none⟩ a0=w1 at h0 b1⊢
 have h1:=zI (i:=1) (cs':=#[a0,a1,z2,z3,z4,z5,z6,z7]) a1 h0 rfl
 have b2:=b1.set ⟨pb,1,none⟩ a1 rfl
 generalize w1.setCell ⟨pb,1,none⟩ a1=w2 at h1 b2⊢
 have h2:=zI (i:=2) (cs':=#[a0,a1,a2,z3,z4,z5,z6,z7]) a2 h1 rfl
 have b3:=b2.set ⟨pb,2,none⟩ a2 rfl
 generalize w2.setCell ⟨pb,2,none⟩ a2=w3 at h2 b3⊢
 have h3:=zI (i:=3) (cs':=#[a0,a1,a2,a3,z4,z5,z6,z7]) a3 h2 rfl
 have b4:=b3.set ⟨pb,3,none⟩ a3 rfl
 generalize w3.setCell ⟨pb,3,none⟩ a3=w4 at h3 b4⊢
 have h4:=zI (i:=4) (cs':=#[a0,a1,a2,a3,a4,z5,z6,z7]) a4 h3 rfl
 have b5:=b4.set ⟨pb,4,none⟩ a4 rfl
 generalize w4.setCell ⟨pb,4,none⟩ a4=w5 at h4 b5⊢
 have h5:=zI (i:=5) (cs':=#[a0,a1,a2,a3,a4,a5,z6,z7]) a5 h4 rfl
 have b6:=b5.set ⟨pb,5,none⟩ a5 rfl
 generalize w5.setCell ⟨pb,5,none⟩ a5=w6 at h5 b6⊢
 have h6:=zI (i:=6) (cs':=#[a0,a1,a2,a3,a4,a5,a6,z7]) a6 h5 rfl
 have b7:=b6.set ⟨pb,6,none⟩ a6 rfl
 generalize w6.setCell ⟨pb,6,none⟩ a6=w7 at h6 b7⊢
 have h7:=zI (i:=7) (cs':=#[a0,a1,a2,a3,a4,a5,a6,a7]) a7 h6 rfl
 have b8:=b7.set ⟨pb,7,none⟩ a7 rfl
 exact ⟨h7,b8⟩
end
def zA9:Epoch:=⟨0,0,0,[],⟨#[]⟩⟩
def iOf:Option Nat->Int
 | some k=>k
 | none=> -1
def isU (s:Nm) (u:User):Bool:=decide (u.name=s)
def yX (st:State) (s:Nm):Option Nat:=st.users.findIdx? (isU s)
def foI (st:State) (s:Nm):Option Nat:=st.folders.findIdx? (isF s)
def fo (st:State) (k:Nat):Folder:=(st.folders[k]?).getD ZF
def Z4 (st:State) (s:Nm):Option Nat:=match foI st s with
 | some k=>if (zL (fo st k)).gone then none else some k
 | none=>none
def yP (st:State) (k:Nat) (s:Nm):Int:=Ro.ofOf (zL (fo st k)).members s
def setF (st:State) (k:Nat) (f:Folder):State:={ st with folders:=st.folders.set k f }
def z3b (eps:List Epoch) (w:Wrap) (seed:Bool):Bool:=(w.seed && decide (z05 eps w.epoch=z05 eps eps.length)) || (!seed && decide (w.epoch=(eps.length:Int)))
def z1o (eps:List Epoch) (name:Nm) (seed:Bool):List Wrap->List Wrap
 | []=>[⟨name,eps.length,seed⟩]
 | w :: r=>if w.name=name then (if z3b eps w seed then w else ⟨name,eps.length,seed⟩) :: r
  else if ltS name w.name then ⟨name,eps.length,seed⟩ :: w :: r else w :: z1o eps name seed r
def yY (f:Folder) (name:Nm) (seed:Bool):Folder:={ f with wraps:=z1o f.epochs name seed f.wraps }
def yG (sd:Member->Bool) (f:Folder) (ms:List Member):Folder:=ms.foldl (fun f m=>yY f m.name (sd m)) f
def zB6 (f:Folder) (s:Nm):Bool:=f.links.any fun l=>decide (l.epoch=(f.epochs.length:Int)) && decide (l.to=s)
def YW (st:State):List At->Folder->Folder
 | [],f=>f
 | x :: r,f=>if Y9 st x.name then YW st r (yG (fun _=>false) f (zL ((zP st x.name).getD ZF)).members)
  else if zB6 f x.name then f else { f with links:=f.links++[⟨f.epochs.length,x.name,((zP st x.name).getD ZF).epochs.length⟩] }
def YU (st:State) (k:Nat):State:=setF st k (YW st ((zN st 4 (fo st k).name).drop 1) (fo st k))
def z6t (f:Folder) (frm:Int):Bool:=f.manifests.all fun m=>m.members.all fun x=>!(decide (frm<=m.seq) && (decide (2<=x.role) && decide (Ro.ofOf (zL f).members x.name=0)))
def z5h (st:State) (f:Folder) (who:Nm):Epoch:=
 if decide ((f.epochs.getLast?.getD zA9).place < 4) && z6t f (f.epochs.getLast?.getD zA9).frm then ⟨(f.epochs.getLast?.getD zA9).place+1,(f.epochs.getLast?.getD zA9).frm,(zL f).seq,zN st 4 f.name,who⟩
 else ⟨1,(zL f).seq,(zL f).seq,zN st 4 f.name,who⟩
def z42 (st:State) (k:Nat) (who:Nm):State:=
 setF st k (yG (fun x=>decide (2<=x.role)) { fo st k with epochs:=(fo st k).epochs++[z5h st (fo st k) who] } (zL (fo st k)).members)
def z04 (f:Folder) (m:Manifest) (who:Nm):Folder:={ f with manifests:=f.manifests++[{ m with seq:=(zL f).seq+1,who:=who }],turn:=f.turn+1 }
def inB (s:Nm) (f:Folder):Bool:=!(zL f).gone && decide ((zL f).parent=s)
def YD (st:State):Nat->Nm->Nat
 | 0,_=>1
 | n+1,s=>st.folders.foldl (fun m f=>if inB s f then max m (YD st n f.name) else m) 0+1
def YG (x:Item):Bool:=match x.versions.getLast? with
 | some v=>!v.gone
 | none=>false
def z0d (f:Folder) (s:Nm):Option Nat:=f.items.findIdx? (isI s)
def ZX (f:Folder) (j:Nat):Item:=(f.items[j]?).getD ⟨⟨#[]⟩,[]⟩
abbrev Res:=State×Answer×Bool
def ZA (e:Int):Answer:=⟨e,0,⟨#[]⟩,[],[],[],[]⟩
def Y6 (n:Int):Answer:=⟨0,n,⟨#[]⟩,[],[],[],[]⟩
def isE (s:Nm):Bool:=decide (s=⟨#[]⟩)
def y9 (st:State) (c:Call) (late:Bool):Int:=
 if c.kind=1 then 0 else match yX st c.user with
 | none=>41
 | some u=>if (((st.users[u]?).map User.lost).getD false && decide (c.kind≠16)) && !late then 20
  else if (!isE c.folder && decide (c.kind≠2)) && (Z4 st c.folder).isNone then 41
  else if !isE c.other && decide (c.kind=3) && (Z4 st c.other).isNone then 41
  else if !isE c.other && decide (3 < c.kind) && (yX st c.other).isNone then 41 else 0
def z00 (st:State) (c:Call):Res:=if (yX st c.user).isSome then (st,ZA 42,false) else if 16<=st.users.length then (st,ZA 3,false) else ({ st with users:=st.users++[⟨c.user,false⟩] },Y6 0,true)
def z06 (st:State) (c:Call):Folder:=⟨c.folder,1,[⟨c.folder,1,[],c.other,[⟨c.user,4⟩],0,false,c.user⟩],[],[],[⟨c.user,1,true⟩],[]⟩
def z3r (st:State) (c:Call):State:=
 let s1:State:={ st with folders:=st.folders++[z06 st c] }
 let s2:=setF s1 st.folders.length { z06 st c with epochs:=[⟨1,1,1,zN s1 4 c.folder,c.user⟩] }
 let s3:=YU s2 st.folders.length
 { s3 with turn:=s3.turn+1 }
def z1j (st:State) (c:Call):Int:=if isE c.other then 0 else match Z4 st c.other with
 | none=>41
 | some p=>if yP st p c.user < 2 then 40 else 0
def YH (st:State) (c:Call):Res:=
 if (foI st c.folder).isSome then (st,ZA 42,false) else if z1j st c≠0 then (st,ZA (z1j st c),false)
 else if 4<=(zN st 4 c.other).length\/64<=st.folders.length then (st,ZA 3,false) else (z3r st c,Y6 1,true)
def z8g (st:State) (k:Nat) (c:Call):State:=
 let f:=fo st k
 let s1:=setF st k (z04 f { zL f with parent:=c.other,cut:=(zL f).seq+1 } c.user)
 let s2:=YU s1 k
 { s2 with turn:=s2.turn+1 }
def z27 (st:State) (c:Call) (k:Nat):Res:=
 if yP st k c.user < 4\/(!isE c.other && (match Z4 st c.other with | some q=>decide (yP st q c.user < 2) | none=>false))=true then (st,ZA 40,false)
 else if (zL (fo st k)).parent=c.other then (st,Y6 (zL (fo st k)).seq,false)
 else if (zN st 4 c.other).any (fun x=>decide (x.name=c.folder)) then (st,ZA 43,false)
 else if 4 < (zN st 4 c.other).length+YD st 5 c.folder then (st,ZA 3,false)
 else (z8g st k c,Y6 ((zL (fo st k)).seq+1),true)
def z0k (st:State) (c:Call) (k:Nat):Res:=
 if yP st k c.user < 4 then (st,ZA 40,false)
 else if 1 < YD st 5 c.folder\/(fo st k).items.any YG=true then (st,ZA 47,false)
 else
  let s1:=setF st k (z04 (fo st k) { zL (fo st k) with gone:=true } c.user)
  ({ s1 with turn:=s1.turn+1 },Y6 ((zL (fo st k)).seq+1),true)
def yM (c:Call) (l:List Member):Int:=
 if c.kind=5 then Ro.shareE (Ro.ofOf l c.user) (Ro.ofOf l c.other) c.role l.length
 else if c.kind=6 then Ro.changeE (Ro.ofOf l c.user) (Ro.ofOf l c.other) c.role (Ro.own4 l)
 else Ro.revokeE (Ro.eqS c.user c.other) (Ro.ofOf l c.user) (Ro.ofOf l c.other) (Ro.own4 l)
def YA (st:State) (c:Call) (k:Nat):Res:=
 let f:=fo st k
 let m:=zL f
 if yM c m.members≠0 then (st,ZA (yM c m.members),false)
 else if Ro.ofOf m.members c.other=c.role then (st,Y6 m.seq,false)
 else
  let f1:=if c.kind=5\/(c.kind=6/\2<=c.role) then yY f c.other (decide (2<=c.role)) else f
  (setF st k (z04 f1 { m with members:=Ro.withOf m.members c.other c.role,cut:=if c.kind=7 then m.seq+1 else m.cut } c.user),Y6 (m.seq+1),true)
def z5i (st:State) (k:Nat) (i:Option Nat) (name:Nm) (v:Version):State×Nat:=
 let f:=fo st k
 match i with
 | some j=>(setF st k { f with items:=f.items.set j { ZX f j with versions:=(ZX f j).versions++[{ v with epoch:=f.epochs.length }] },turn:=f.turn+1 },(ZX f j).versions.length+1)
 | none=>(setF st k { f with items:=f.items++[⟨name,[{ v with epoch:=f.epochs.length }]⟩],turn:=f.turn+1 },1)
def z4t (st:State) (c:Call) (k:Nat):State×Nat:=
 let i:=z0d (fo st k) c.name
 let s1:=if Y9 st c.folder then z42 st k c.user else st
 z5i (YU s1 k) k i c.name ⟨0,false,c.user,c.data⟩
def z3g (st:State) (c:Call) (k:Nat):Res:=
 if yP st k c.user < 2 then (st,ZA 40,false) else match z0d (fo st k) c.name with
 | none=>if 32<=(fo st k).items.length then (st,ZA 3,false) else ((z4t st c k).1,Y6 (z4t st c k).2,true)
 | some j=>if 256<=(ZX (fo st k) j).versions.length then (st,ZA 3,false) else ((z4t st c k).1,Y6 (z4t st c k).2,true)
def z28 (st:State) (c:Call) (k:Nat):Res:=
 if yP st k c.user < 2 then (st,ZA 40,false) else match z0d (fo st k) c.name with
 | none=>(st,ZA 35,false)
 | some j=>if !YG (ZX (fo st k) j) then (st,ZA 35,false) else if 256<=(ZX (fo st k) j).versions.length then (st,ZA 3,false)
  else ((z5i st k (some j) c.name ⟨0,true,c.user,[]⟩).1,Y6 (z5i st k (some j) c.name ⟨0,true,c.user,[]⟩).2,true)
open Classical in
noncomputable def grantedB (st:State) (u f it:Nm) (n:Int):Bool:=decide (z26 st u f it n)
open Classical in
noncomputable def reachN (st:State) (u f:Nm):Int:=if h:∃n,IsReach st u f n then Classical.choose h else 0
def z56 (s:Nm):List Nm->List Nm
 | []=>[s]
 | x :: r=>if ltS s x then s :: x :: r else x :: z56 s r
def zAa (l:List Nm):List Nm:=l.foldl (fun a s=>z56 s a) []
noncomputable def z32 (st:State) (c:Call) (k:Nat):Answer:=match z0d (fo st k) c.name with
 | none=>ZA 35
 | some j=>
  let x:=ZX (fo st k) j
  let n:Int:=if c.version=0 then x.versions.length else c.version
  match x.versions[(n - 1).toNat]? with
  | none=>ZA 35
  | some v=>if v.gone then ZA 35 else if !grantedB st c.user c.folder c.name n then ZA 40 else ⟨0,n,v.who,v.data,[],[],[]⟩
def YX:List Version->Int->List Past
 | [],_=>[]
 | v :: r,n=>⟨n,v.epoch,v.gone,v.who⟩ :: YX r (n+1)
noncomputable def z2u (st:State) (c:Call) (k:Nat):Bool:=decide (((fo st k).epochs.length:Int)<=reachN st c.user c.folder)
noncomputable def z4k (st:State) (c:Call) (k:Nat):Answer:=if !z2u st c k then ZA 40 else ⟨0,0,⟨#[]⟩,[],zAa (((fo st k).items.filter YG).map Item.name),[],[]⟩
noncomputable def z07 (st:State) (c:Call) (k:Nat):Answer:=if !z2u st c k then ZA 40 else match z0d (fo st k) c.name with
 | none=>ZA 35
 | some j=>⟨0,0,⟨#[]⟩,[],[],[],YX (ZX (fo st k) j).versions 1⟩
def zDz (st:State) (k:Nat):Answer:=⟨0,(zL (fo st k)).seq,⟨#[]⟩,[],[],(zL (fo st k)).members,[]⟩
def z6u (st:State) (c:Call):Bool:=st.deposits.any fun p=>decide (p.frm=c.user) && decide (p.to=c.other)
def z1m (st:State) (c:Call):Res:=if z6u st c then (st,ZA 42,false) else ({ st with deposits:=st.deposits++[⟨c.user,c.other⟩] },Y6 0,true)
def lostS (st:State) (s:Nm) (b:Bool):State:=match yX st s with
 | none=>st
 | some u=>{ st with users:=st.users.modify u fun x=>{ x with lost:=b } }
def z6v (st:State) (c:Call):Res:=(lostS st c.user true,Y6 0,true)
def zEm (st:State) (s:Nm):Bool:=match yX st s with
 | none=>false
 | some u=>((st.users[u]?).map User.lost).getD false
def z0m (st:State) (c:Call):Res:=if !z6u st c then (st,ZA 35,false) else if zEm st c.other then (st,ZA 20,false) else (lostS st c.user false,Y6 0,true)
noncomputable def doR (st:State) (c:Call):Res:=
 let k:=(Z4 st c.folder).getD 0
 if c.kind=1 then z00 st c
 else if c.kind=2 then YH st c
 else if c.kind=3 then z27 st c k
 else if c.kind=4 then z0k st c k
 else if c.kind=5\/c.kind=6\/c.kind=7 then YA st c k
 else if c.kind=8 then z3g st c k
 else if c.kind=9 then (st,z32 st c k,false)
 else if c.kind=10 then (st,z4k st c k,false)
 else if c.kind=11 then z28 st c k
 else if c.kind=12 then (st,z07 st c k,false)
 else if c.kind=14 then z1m st c
 else if c.kind=15 then z6v st c
 else if c.kind=16 then z0m st c
 else (st,zDz st k,false)
noncomputable def Y7 (st:State) (c:Call) (late:Bool):Res:=if y9 st c late≠0 then (st,ZA (y9 st c late),false) else doR st c
section
open Go.RowKit Go.Deep
theorem z3h {α:Type} {p:α->Bool} {l:List α} {k:Nat} {x:α} (h:∀y∈l.take k,p y=false) (hx:l[k]? =some x) (hp:p x=true):l.findIdx? p=some k:=by
 obtain ⟨hk,rfl⟩:=List.getElem?_eq_some_iff.1 hx
 refine List.findIdx?_eq_some_iff_getElem.2 ⟨hk,hp,fun j hj=>?_⟩
 have:=h l[j] (List.mem_take_iff_getElem.2 ⟨j,by omega,rfl⟩)
 simp [this]
theorem z5j {α:Type} {p:α->Bool} {l:List α} (h:∀y∈l,p y=false):l.findIdx? p=none:=List.findIdx?_eq_none_iff.2 h
theorem z4a {o:Option Nat} {k:Nat} (h:o=some k):iOf o=(k:Int):=by rw [h];rfl
theorem z4b {o:Option Nat} (h:o=none):iOf o= -1:=by rw [h];rfl
theorem zKb (s:Nm) (B:Nat) (x:User) (cs:List Value) (w:World) (S:Nat->Prop) (h:YS S w cs x) (hB:w.cell? ⟨B,0,none⟩=some (.string s)):
  Calls Tryz.prog 124 #[.agg cs.toArray,.pointer (some ⟨B,0,none⟩)] w fun e w'=>e= .returned (.bool (isU s x))/\Below w.heap.size w w':=by
 obtain ⟨rfl,_⟩:=z7j h
 have hBl:=zF hB
 have E:=zh (yO (a:=x.name) (b:=s))
 go_enter Tryz.func124,Tryz.ntmps124
 go_wp2
 go_ret
 exact ⟨ZL E.out,by go_grown⟩
theorem zI2 (s:Nm) (B:Nat) (l:List User) (v:Value) (w:World) (S:Nat->Prop) (h:Sl 2 YS S w v l) (hB:w.cell? ⟨B,0,none⟩=some (.string s)):
  Calls Tryz.prog 123 #[v,.func (.func 124) #[] #[.pointer (some ⟨B,0,none⟩)]] w fun e w'=>e= .returned (.int .i64 (iOf (l.findIdx? (isU s))))/\Below w.heap.size w w':=by
 have HB:=zh hB
 clear hB
 obtain ⟨_,_,rfl,_,hc,_,hs⟩:=h
 unfold maxLen at hc
 go_enter Tryz.func123,Tryz.ntmps123
 go_wp2
 go_loopw [8] (fun i wr=>∃(k:Nat),k<=l.length/\i= .int .i64 k/\Hid (∀y∈l.take k,isU s y=false)/\Below w.heap.size w wr) (fun i _=>l.length - (RowKit.intOf i).toNat)
 case atStart=>exact ⟨0,by omega,by go_num,(fun y hy=>by simp at hy),by go_grown⟩
 obtain ⟨k,_,rfl,HN,hbel⟩:=hrel
 have hz:=hbel.size
 by_cases hlt:k < l.length
 rotate_left
 ·obtain rfl:k=l.length:=by omega
  have EH:=zh (z4b (z5j (p:=isU s) (l:=l) (by have:=HN.out;rwa [List.take_length] at this)))
  go_wp2
  go_ret
  exact ⟨Z5 EH.out.symm,hbel⟩
 obtain ⟨x,_,_,x_k,x_d,_,rfl,_,_,_,_,x_R,_⟩:=z9a hs hlt (zJ hbel)
 have HX:=zh x_k
 clear x_k x_d
 go_wp2_with fail
 refine Calls.mono (zKb s B x _ _ S x_R ((hbel.cell (p:=⟨B,0,none⟩) (zF HB.out)).trans HB.out)) ?_
 rintro e _ ⟨rfl,hb1⟩
 cases hpx:isU s x
 ·have EH:=zh (z0y HN.out HX.out hpx)
  go_wp2
  go_roundw
  case rel=>exact ⟨k+1,by omega,by go_num,EH,zB hbel hb1⟩
  case measure=>simp [RowKit.intOf];omega
 have EH:=zh (z4a (z3h HN.out HX.out hpx))
 go_wp2
 go_ret
 exact ⟨Z5 EH.out.symm,zB hbel hb1⟩
theorem zKc (s:Nm) (B:Nat) (x:Folder) (cs:List Value) (w:World) (S:Nat->Prop) (h:ZE S w cs x) (hB:w.cell? ⟨B,0,none⟩=some (.string s)):
  Calls Tryz.prog 156 #[.agg cs.toArray,.pointer (some ⟨B,0,none⟩)] w fun e w'=>e= .returned (.bool (isF s x))/\Below w.heap.size w w':=by
 obtain ⟨_,_,_,_,_,_,_,_,_,_,rfl,_,_,_,_,_,_,_,_,_,_,_,_,_,_,_,_,_,_,_,_,_,_⟩:=ZB h
 have hBl:=zF hB
 have E:=zh (yO (a:=x.name) (b:=s))
 go_enter Tryz.func156,Tryz.ntmps156
 go_wp2
 go_ret
 exact ⟨ZL E.out,by go_grown⟩
theorem zEn (s:Nm) (B:Nat) (l:List Folder) (v:Value) (w:World) (S:Nat->Prop) (h:Sl 7 ZE S w v l) (hB:w.cell? ⟨B,0,none⟩=some (.string s)):
  Calls Tryz.prog 121 #[v,.func (.func 156) #[] #[.pointer (some ⟨B,0,none⟩)]] w fun e w'=>e= .returned (.int .i64 (iOf (l.findIdx? (isF s))))/\Below w.heap.size w w':=by
 have HB:=zh hB
 clear hB
 obtain ⟨_,_,rfl,_,hc,_,hs⟩:=h
 unfold maxLen at hc
 go_enter Tryz.func121,Tryz.ntmps121
 go_wp2
 go_loopw [8] (fun i wr=>∃(k:Nat),k<=l.length/\i= .int .i64 k/\Hid (∀y∈l.take k,isF s y=false)/\Below w.heap.size w wr) (fun i _=>l.length - (RowKit.intOf i).toNat)
 case atStart=>exact ⟨0,by omega,by go_num,(fun y hy=>by simp at hy),by go_grown⟩
 obtain ⟨k,_,rfl,HN,hbel⟩:=hrel
 have hz:=hbel.size
 by_cases hlt:k < l.length
 rotate_left
 ·obtain rfl:k=l.length:=by omega
  have EH:=zh (z4b (z5j (p:=isF s) (l:=l) (by have:=HN.out;rwa [List.take_length] at this)))
  go_wp2
  go_ret
  exact ⟨Z5 EH.out.symm,hbel⟩
 obtain ⟨x,_,_,_,_,_,_,_,_,_,_,_,_,x_k,x_d,_,rfl,_,_,_,_,_,_,_,_,_,x_R,_,_,_,_,_,_,_,_,_,_,_,_,_,_,_,_,_,_,_,_,_,_⟩:=z2x hs hlt (zJ hbel)
 have HX:=zh x_k
 clear x_k x_d
 go_wp2_with fail
 refine Calls.mono (zKc s B x _ _ S x_R ((hbel.cell (p:=⟨B,0,none⟩) (zF HB.out)).trans HB.out)) ?_
 rintro e _ ⟨rfl,hb1⟩
 cases hpx:isF s x
 ·have EH:=zh (z0y HN.out HX.out hpx)
  go_wp2
  go_roundw
  case rel=>exact ⟨k+1,by omega,by go_num,EH,zB hbel hb1⟩
  case measure=>simp [RowKit.intOf];omega
 have EH:=zh (z4a (z3h HN.out HX.out hpx))
 go_wp2
 go_ret
 exact ⟨Z5 EH.out.symm,zB hbel hb1⟩
theorem zKd (s:Nm) (B:Nat) (x:Item) (cs:List Value) (w:World) (S:Nat->Prop) (h:yW S w cs x) (hB:w.cell? ⟨B,0,none⟩=some (.string s)):
  Calls Tryz.prog 176 #[.agg cs.toArray,.pointer (some ⟨B,0,none⟩)] w fun e w'=>e= .returned (.bool (isI s x))/\Below w.heap.size w w':=by
 obtain ⟨_,_,rfl,_,_,_,_,_⟩:=z3l h
 have hBl:=zF hB
 have E:=zh (yO (a:=x.name) (b:=s))
 go_enter Tryz.func176,Tryz.ntmps176
 go_wp2
 go_ret
 exact ⟨ZL E.out,by go_grown⟩
theorem zI3 (s:Nm) (B:Nat) (l:List Item) (v:Value) (w:World) (S:Nat->Prop) (h:Sl 2 yW S w v l) (hB:w.cell? ⟨B,0,none⟩=some (.string s)):
  Calls Tryz.prog 167 #[v,.func (.func 176) #[] #[.pointer (some ⟨B,0,none⟩)]] w fun e w'=>e= .returned (.int .i64 (iOf (l.findIdx? (isI s))))/\Below w.heap.size w w':=by
 have HB:=zh hB
 clear hB
 obtain ⟨_,_,rfl,_,hc,_,hs⟩:=h
 unfold maxLen at hc
 go_enter Tryz.func167,Tryz.ntmps167
 go_wp2
 go_loopw [8] (fun i wr=>∃(k:Nat),k<=l.length/\i= .int .i64 k/\Hid (∀y∈l.take k,isI s y=false)/\Below w.heap.size w wr) (fun i _=>l.length - (RowKit.intOf i).toNat)
 case atStart=>exact ⟨0,by omega,by go_num,(fun y hy=>by simp at hy),by go_grown⟩
 obtain ⟨k,_,rfl,HN,hbel⟩:=hrel
 have hz:=hbel.size
 by_cases hlt:k < l.length
 rotate_left
 ·obtain rfl:k=l.length:=by omega
  have EH:=zh (z4b (z5j (p:=isI s) (l:=l) (by have:=HN.out;rwa [List.take_length] at this)))
  go_wp2
  go_ret
  exact ⟨Z5 EH.out.symm,hbel⟩
 obtain ⟨x,_,_,_,_,x_k,x_d,_,rfl,_,_,_,_,x_R,_,_,_,_,_⟩:=z2n hs hlt (zJ hbel)
 have HX:=zh x_k
 clear x_k x_d
 go_wp2_with fail
 refine Calls.mono (zKd s B x _ _ S x_R ((hbel.cell (p:=⟨B,0,none⟩) (zF HB.out)).trans HB.out)) ?_
 rintro e _ ⟨rfl,hb1⟩
 cases hpx:isI s x
 ·have EH:=zh (z0y HN.out HX.out hpx)
  go_wp2
  go_roundw
  case rel=>exact ⟨k+1,by omega,by go_num,EH,zB hbel hb1⟩
  case measure=>simp [RowKit.intOf];omega
 have EH:=zh (z4a (z3h HN.out HX.out hpx))
 go_wp2
 go_ret
 exact ⟨Z5 EH.out.symm,zB hbel hb1⟩
end
section
open Go.RowKit Go.Deep
section
variable {X:Nat->Prop} {base bw:Nat} {W:World} {R:RM} {c:Call} {dv:Value} {st:State} {done late:Bool}
theorem WK.usSl (h:WK X base bw W R c dv st done late):Sl 2 YS (fun _=>True) W (R .us).v st.users:=z08 z1x (h.os.row .us) (h.os.len _) h.is.users
theorem WK.deSl (h:WK X base bw W R c dv st done late):Sl 2 YN (fun _=>True) W (R .de).v st.deposits:=z08 z13 (h.os.row .de) (h.os.len _) h.is.deps
theorem WK.foSl (h:WK X base bw W R c dv st done late):Sl 7 ZE (fun _=>True) W (R .fo).v st.folders:=by
 obtain ⟨_,_,_,e,_,_,_,h4⟩:=h.state
 simp only [List.cons.injEq] at e
 obtain ⟨_,_,_,rfl,_⟩:=e
 exact h4
theorem z0i (h:WK X base bw W R c dv st done late) (s:Nm):Calls Tryz.prog 85 #[.pointer (some ⟨bw,0,none⟩),.string s] W fun e w'=>e= .returned (.int .i64 (iOf (yX st s)))/\Below W.heap.size W w':=by
 obtain ⟨w0,_,cw0,fw0,Bw0,_⟩:=zQ W #[.string s] 9
 have HI:=zh (zI2 s W.heap.size st.users _ w0 _ (h.usSl.keep z1x (by decide) (zJ Bw0)) (cw0 0 _ rfl))
 obtain ⟨_,_,hv,_⟩:=(h.os.row .us).shape
 have s9:=(Bw0.cell (p:=⟨bw,9,none⟩) h.lt).trans (h.cells.1 9 _ rfl)
 rw [hv] at s9 HI
 have HB:=zh Bw0
 clear h hv cw0 fw0 Bw0
 go_enter Tryz.func85,Tryz.ntmps85
 go_wp2_with fail
 refine Calls.mono HI.out ?_
 rintro e _ ⟨rfl,B3⟩
 go_wp2
 go_ret
 exact ⟨rfl,zB HB.out B3⟩
theorem WK.fold (h:WK X base bw W R c dv st done late) {i g o:Nat} {f:Folder} (hf:st.folders[i]? =some f) (ha:foAt R i g o):
  ∃(A2:Option Addr) (c2:Nat) (A3:Option Addr) (c3:Nat) (A4:Option Addr) (c4:Nat) (A5:Option Addr) (c5:Nat) (A6:Option Addr) (c6:Nat),
   hdr R i f=[.string f.name,.int .i64 f.turn,.slice A2 f.manifests.length c2,.slice A3 f.epochs.length c3,.slice A4 f.items.length c4,.slice A5 f.wraps.length c5,.slice A6 f.links.length c6]/\
   ZE (fun _=>True) W [.string f.name,.int .i64 f.turn,.slice A2 f.manifests.length c2,.slice A3 f.epochs.length c3,.slice A4 f.items.length c4,.slice A5 f.wraps.length c5,.slice A6 f.links.length c6] f/\
   W.cell? ⟨g,o,none⟩=some (.string f.name)/\W.cell? ⟨g,o+1,none⟩=some (.int .i64 f.turn)/\W.cell? ⟨g,o+2,none⟩=some (.slice A2 f.manifests.length c2)/\W.cell? ⟨g,o+3,none⟩=some (.slice A3 f.epochs.length c3)/\
   W.cell? ⟨g,o+4,none⟩=some (.slice A4 f.items.length c4)/\W.cell? ⟨g,o+5,none⟩=some (.slice A5 f.wraps.length c5)/\W.cell? ⟨g,o+6,none⟩=some (.slice A6 f.links.length c6)/\g < W.heap.size/\∀q,W.frozen? ⟨g,q,none⟩=false:=by
 have hF:=(h.is.fo i f hf).2.folder h.os
 obtain ⟨_,_,ha',_,hg,hc,hz⟩:=h.fat hf
 obtain ⟨_,_,_,hv,rfl⟩:=ha
 obtain ⟨_,_,_,hv',rfl⟩:=ha'
 rw [hv] at hv'
 simp only [Value.slice.injEq,Option.some.injEq,Addr.mk.injEq] at hv'
 obtain ⟨⟨rfl,rfl,_⟩,_⟩:=hv'
 obtain ⟨A2,c2,A3,c3,A4,c4,A5,c5,A6,c6,e,_⟩:=ZB hF
 rw [e] at hF hc
 exact ⟨A2,c2,A3,c3,A4,c4,A5,c5,A6,c6,e,hF,hc 0 _ rfl,hc 1 _ rfl,hc 2 _ rfl,hc 3 _ rfl,hc 4 _ rfl,hc 5 _ rfl,hc 6 _ rfl,hg,hz⟩
theorem z8h (h:WK X base bw W R c dv st done late) (s:Nm):Calls Tryz.prog 125 #[.pointer (some ⟨bw,0,none⟩),.string s] W fun e w'=>
  ((foI st s=none/\e= .returned (.pointer none))\/∃k g o,foI st s=some k/\foAt R k g o/\e= .returned (.pointer (some ⟨g,o,none⟩)))/\Below W.heap.size W w':=by
 obtain ⟨w0,_,cw0,fw0,Bw0,_⟩:=zQ W #[.string s] 9
 have HI:=zh (zEn s W.heap.size st.folders _ w0 _ (h.foSl.keep z0b (by decide) (zJ Bw0)) (cw0 0 _ rfl))
 obtain ⟨_,_,hv,_⟩:=(h.os.row .fo).shape
 have s11:=(Bw0.cell (p:=⟨bw,11,none⟩) h.lt).trans (h.cells.1 11 _ rfl)
 rw [hv,h.is.fol] at s11 HI
 have HB:=zh Bw0
 have HW:=zh h
 have HV:=zh hv
 have hlt:=h.lt
 have hlt0:bw < w0.heap.size:=by have:=Bw0.size;omega
 clear h cw0 fw0 Bw0 hv
 go_enter Tryz.func125,Tryz.ntmps125
 go_wp2_with fail
 refine Calls.mono HI.out ?_
 rintro e _ ⟨rfl,B3⟩
 have t11:=(B3.cell (p:=⟨bw,11,none⟩) hlt0).trans s11
 cases hk:foI st s with
 | none=>
  rw [show st.folders.findIdx? (isF s)=none from hk]
  unfold iOf
  go_wp2
  go_ret
  exact ⟨.inl ⟨hk,rfl⟩,zB HB.out B3⟩
 | some k=>
  have hkl:k < st.folders.length:=(List.findIdx?_eq_some_iff_getElem.1 hk).1
  rw [show st.folders.findIdx? (isF s)=some k from hk]
  unfold iOf
  obtain ⟨g,o,ha,_⟩:=HW.out.fat (List.getElem?_eq_getElem hkl)
  have HA:=zh ha
  obtain ⟨_,_,_,hv',rfl⟩:=ha
  rw [HV.out] at hv'
  simp only [Value.slice.injEq] at hv'
  obtain ⟨rfl,rfl,rfl⟩:=hv'
  go_wp2
  go_ret
  exact ⟨.inr ⟨k,_,_,hk,HA.out,rfl⟩,zB HB.out B3⟩
theorem zD5 {st:State} {s:Nm} {k:Nat} (h:foI st s=some k):Z4 st s=if (zL (fo st k)).gone then none else some k:=by unfold Z4;rw [h]
theorem zGa {st:State} {s:Nm} (h:foI st s=none):Z4 st s=none:=by unfold Z4;rw [h]
theorem z18 {st:State} {s:Nm} {k:Nat} (h:foI st s=some k):k < st.folders.length:=(List.findIdx?_eq_some_iff_getElem.1 h).1
theorem ZJ {st:State} {k:Nat} (h:k < st.folders.length):st.folders[k]? =some (fo st k):=by unfold fo;rw [List.getElem?_eq_getElem h];rfl
theorem zAb (a b c:Nm) (x y:Int) (g:Bool) (v u:Value) (w:World):(Instr.field 84 (.agg #[.string a,.int .i64 x,v,.string b,u,.int .i64 y,.bool g,.string c]) 1).run Tryz.prog w= .ok (.int .i64 x) w:=by kernel_rfl
theorem zDs (a b c:Nm) (x y:Int) (g:Bool) (v u:Value) (w:World):(Instr.field 84 (.agg #[.string a,.int .i64 x,v,.string b,u,.int .i64 y,.bool g,.string c]) 3).run Tryz.prog w= .ok (.string b) w:=by kernel_rfl
theorem z38 (a b c:Nm) (x y:Int) (g:Bool) (v u:Value) (w:World):(Instr.field 84 (.agg #[.string a,.int .i64 x,v,.string b,u,.int .i64 y,.bool g,.string c]) 4).run Tryz.prog w= .ok (u) w:=by kernel_rfl
theorem zGb (a b c:Nm) (x y:Int) (g:Bool) (v u:Value) (w:World):(Instr.field 84 (.agg #[.string a,.int .i64 x,v,.string b,u,.int .i64 y,.bool g,.string c]) 6).run Tryz.prog w= .ok (.bool g) w:=by kernel_rfl
theorem yK (h:WK X base bw W R c dv st done late) (s:Nm):Calls Tryz.prog 86 #[.pointer (some ⟨bw,0,none⟩),.string s] W fun e w'=>
  ((Z4 st s=none/\e= .returned (.pointer none))\/∃k g o,Z4 st s=some k/\foAt R k g o/\e= .returned (.pointer (some ⟨g,o,none⟩)))/\Below W.heap.size W w':=by
 have HI:=zh (z8h h s)
 have HW:=zh h
 clear h
 go_enter Tryz.func86,Tryz.ntmps86
 go_wp2_with fail
 refine Calls.mono HI.out ?_
 rintro e w1 ⟨⟨hk,rfl⟩ | ⟨k,g,o,hk,ha,rfl⟩,B1⟩
 ·go_wp2
  go_ret
  exact ⟨.inl ⟨zGa hk,rfl⟩,B1⟩
 have hkl:=z18 hk
 have hW1:=HW.out.below B1
 obtain ⟨_,_,_,_,_,_,_,_,_,_,_,hF,_,_,_,_,_,_,_,_,_⟩:=hW1.fold (ZJ hkl) ha
 have HA:=zh ha
 have HN:=zh (z3p (fo st k) _ w1 _ hF)
 have HB1:=zh B1
 have qg:=zGb
 clear hW1 hF ha B1
 go_wp2_with fail
 refine Calls.mono HN.out ?_
 rintro e _ ⟨⟨_,rfl,hm⟩,B2⟩
 obtain ⟨_,_,_,_,rfl,hm⟩:=Y0 hm
 clear hm
 cases hgn:(zL (fo st k)).gone
 ·go_wp2
  go_ret
  exact ⟨.inr ⟨k,g,o,by rw [zD5 hk,hgn];rfl,HA.out,rfl⟩,zB HB1.out B2⟩
 go_wp2
 go_ret
 exact ⟨.inl ⟨by rw [zD5 hk,hgn];rfl,rfl⟩,zB HB1.out B2⟩
end
end
section
section
variable {β:Type} {g:Folder->β} {p:Folder->Bool} {f f':Folder}
theorem z7z (hp:p f'=p f) (hg:g f'=g f):∀{l:List Folder} {k:Nat},l[k]? =some f->((l.set k f').find? p).map g=(l.find? p).map g
 | [],k,h=>by simp at h
 | x :: l,0,h=>by
  obtain rfl:x=f:=by simpa using h
  rw [List.set_cons_zero,List.find?_cons,List.find?_cons,hp]
  cases p x
  ·rfl
  ·simp [hg]
 | x :: l,k+1,h=>by
  rw [List.set_cons_succ,List.find?_cons,List.find?_cons]
  cases p x
  ·exact z7z hp hg (by simpa using h)
  ·rfl
end
def Alike (st st':State):Prop:=∀s,(zP st s).map (fun f=>(f.manifests,f.epochs))=(zP st' s).map fun f=>(f.manifests,f.epochs)
theorem Alike.miss {a b:State} (h:Alike a b) {s:Nm} (k:zP a s=none):zP b s=none:=by
 have:=h s
 rw [k] at this
 cases hb:zP b s with
 | none=>rfl
 | some f=>rw [hb] at this;cases this
theorem Alike.hit {a b:State} (h:Alike a b) {s:Nm} {f:Folder} (k:zP a s=some f):∃f',zP b s=some f'/\f'.manifests=f.manifests/\f'.epochs=f.epochs:=by
 have:=h s
 rw [k] at this
 cases hb:zP b s with
 | none=>rw [hb] at this;cases this
 | some f'=>
  rw [hb] at this
  simp only [Option.map_some,Option.some.injEq,Prod.mk.injEq] at this
  exact ⟨f',rfl,this.1.symm,this.2.symm⟩
theorem z1q {f f':Folder} (h:f'.manifests=f.manifests):zL f'=zL f:=by unfold zL;rw [h]
theorem Alike.now {a b:State} (h:Alike a b) (s:Nm):zL ((zP b s).getD ZF)=zL ((zP a s).getD ZF):=by
 cases k:zP a s with
 | none=>rw [h.miss k]
 | some f=>
  obtain ⟨_,k',hm,_⟩:=h.hit k
  rw [k']
  exact z1q hm
theorem Alike.eps {a b:State} (h:Alike a b) (s:Nm):((zP b s).getD ZF).epochs=((zP a s).getD ZF).epochs:=by
 cases k:zP a s with
 | none=>rw [h.miss k]
 | some f=>
  obtain ⟨_,k',_,he⟩:=h.hit k
  rw [k']
  exact he
theorem Alike.chain {a b:State} (h:Alike a b):∀(n:Nat) (s:Nm),zN b n s=zN a n s
 | 0,s=>rfl
 | n+1,s=>by
  cases k:zP a s with
  | none=>rw [z17 k,z17 (h.miss k)]
  | some f=>
   obtain ⟨_,k',hm,_⟩:=h.hit k
   rw [z0h k,z0h k',z1q hm,h.chain n]
theorem Alike.cut {a b:State} (h:Alike a b) (s:Nm):z6q b s=z6q a s:=by unfold z6q;rw [h.now s]
theorem Alike.go {a b:State} (h:Alike a b):∀(x y:List At),z11 b x y=z11 a x y
 | [],y=>by cases y<;>rfl
 | x :: r,[]=>rfl
 | x :: r,y :: q=>by unfold z11;rw [h.cut,h.go r q]
theorem Alike.stale {a b:State} (h:Alike a b) (s:Nm):Y9 b s=Y9 a s:=by
 cases k:zP a s with
 | none=>rw [z63 k,z63 (h.miss k)]
 | some f=>
  obtain ⟨_,k',_,he⟩:=h.hit k
  rcases Nat.eq_zero_or_pos f.epochs.length with h0 | h0
  ·rw [z6r k h0,z6r k' (by rw [he];exact h0)]
  obtain ⟨n,hn⟩:∃n,f.epochs.length=n+1:=⟨f.epochs.length - 1,by omega⟩
  have hx:f.epochs[n]? =some (f.epochs[n]'(by omega)):=List.getElem?_eq_getElem _
  rw [z64 k hn hx,z64 k' (by rw [he];exact hn) (by rw [he];exact hx),h.chain,h.go]
theorem zAf {st:State} {k:Nat} {f f':Folder} (h:st.folders[k]? =some f) (hn:f'.name=f.name) (hm:f'.manifests=f.manifests) (he:f'.epochs=f.epochs):Alike st (setF st k f'):=fun s=>by
 unfold setF zP
 exact (z7z (by rw [hn]) (by rw [hm,he]) h).symm
theorem z1g {st:State} {k:Nat} {f:Folder} (h:k < st.folders.length):fo (setF st k f) k=f:=by
 unfold fo setF
 dsimp only
 rw [List.getElem?_set_self h]
 rfl
theorem z0j {st:State} {k:Nat} {f g:Folder}:setF (setF st k f) k g=setF st k g:=by
 unfold setF
 simp
theorem z5c {st:State} {k:Nat}:setF st k (fo st k)=st:=by
 unfold setF fo
 cases h:st.folders[k]? with
 | none=>
  have:st.folders.length<=k:=List.getElem?_eq_none_iff.1 h
  rw [List.set_eq_of_length_le this]
 | some f=>
  have:=List.set_eq_self_of h
  rw [Option.getD_some,this]
theorem z19 {st:State} {k:Nat} {f:Folder}:(setF st k f).folders.length=st.folders.length:=by unfold setF;simp
theorem z2a {st:State} {s:Nm} {k:Nat} (h:foI st s=some k):zP st s=some (fo st k):=by
 unfold foI at h
 obtain ⟨hk,hp,hn⟩:=List.findIdx?_eq_some_iff_getElem.1 h
 have hf:=fo_at' hk
 rw [<-z48]
 exact z7q (k:=k) (fun y hy=>by
  obtain ⟨j,_,rfl⟩:=List.mem_take_iff_getElem.1 hy
  have:=hn j (by omega)
  simpa using this) hf (by rw [<-hp];unfold fo;rw [List.getElem?_eq_getElem hk];rfl)
where fo_at' {st:State} {k:Nat} (h:k < st.folders.length):st.folders[k]? =some (fo st k):=by unfold fo;rw [List.getElem?_eq_getElem h];rfl
theorem z71 {st:State} {s:Nm}:foI st s=none↔zP st s=none:=by
 unfold foI
 rw [List.findIdx?_eq_none_iff,<-z48,List.find?_eq_none]
 simp
def Y3 (name:Nm) (l:List Wrap):Nat:=(l.takeWhile fun w=>ltS w.name name).length
def z1a (l:List Wrap):Prop:=l.Pairwise fun a b=>ltS a.name b.name=true
theorem zKi {a b:Nm} (h:a≠b) (k:ltS a b=false):ltS b a=true:=by
 rcases z0w a b with e | e | e
 ·rw [e] at k;cases k
 ·exact absurd e h
 exact e
theorem z9o (eps:List Epoch) (name:Nm) (seed:Bool):∀(l:List Wrap),z1o eps name seed l=match l[Y3 name l]? with
  | some w=>if w.name=name then l.set (Y3 name l) (if z3b eps w seed then w else ⟨name,eps.length,seed⟩) else l.take (Y3 name l)++⟨name,eps.length,seed⟩ :: l.drop (Y3 name l)
  | none=>l++[⟨name,eps.length,seed⟩]
 | []=>rfl
 | w :: r=>by
  unfold z1o Y3
  by_cases h1:w.name=name
  ·rw [if_pos h1,List.takeWhile_cons]
   have:ltS w.name name=false:=by rw [h1];exact YB _
   simp only [this,Bool.false_eq_true,if_false]
   simp [h1]
  ·rw [if_neg h1,List.takeWhile_cons]
   cases h2:ltS w.name name
   ·rw [if_pos (zKi h1 h2)]
    simp [h1]
   ·rw [if_neg (by rw [z2l h2];decide)]
    have ih:=z9o eps name seed r
    unfold Y3 at ih
    rw [ih]
    simp only [if_true,List.length_cons,List.getElem?_cons_succ,List.set_cons_succ,List.take_succ_cons,List.drop_succ_cons,List.cons_append]
    split
    ·split<;>rfl
    ·rfl
theorem z80 {eps:List Epoch} {name:Nm} {seed:Bool}:∀{l:List Wrap} {x:Wrap},x∈z1o eps name seed l->x=⟨name,eps.length,seed⟩\/x∈l
 | [],x,h=>by simpa [z1o] using h
 | w :: r,x,h=>by
  unfold z1o at h
  split at h
  ·split at h
   ·exact .inr h
   ·rcases List.mem_cons.1 h with h | h
    ·exact .inl h
    ·exact .inr (List.mem_cons_of_mem _ h)
  ·split at h
   ·rcases List.mem_cons.1 h with h | h
    ·exact .inl h
    ·exact .inr h
   ·rcases List.mem_cons.1 h with h | h
    ·exact .inr (by rw [h];exact List.mem_cons_self ..)
    ·exact (z80 h).imp id fun h=>List.mem_cons_of_mem _ h
theorem z5m (eps:List Epoch) (name:Nm) (seed:Bool):∀{l:List Wrap},z1a l->z1a (z1o eps name seed l)
 | [],_=>by unfold z1o z1a;simp
 | w :: r,h=>by
  unfold z1a at h⊢
  obtain ⟨h1,h2⟩:=List.pairwise_cons.1 h
  unfold z1o
  split
  ·rename_i e
   split
   ·exact h
   ·exact List.pairwise_cons.2 ⟨fun b hb=>by rw [<-e];exact h1 b hb,h2⟩
  ·split
   ·rename_i e1 e2
    exact List.pairwise_cons.2 ⟨fun b hb=>by
     rcases List.mem_cons.1 hb with rfl | hb
     ·exact e2
     ·exact YM e2 (h1 b hb),h⟩
   ·rename_i e1 e2
    refine List.pairwise_cons.2 ⟨fun b hb=>?_,z5m eps name seed h2⟩
    rcases z80 hb with rfl | hb
    ·exact zKi (fun e=>e1 e.symm) (by simpa using e2)
    ·exact h1 b hb
structure Gv (f f':Folder):Prop where
 name:f'.name=f.name
 turn:f'.turn=f.turn
 man:f'.manifests=f.manifests
 ep:f'.epochs=f.epochs
 it:f'.items=f.items
 wr:z1a f.wraps->z1a f'.wraps
theorem Gv.refl (f:Folder):Gv f f:=⟨rfl,rfl,rfl,rfl,rfl,id⟩
theorem Gv.trans {a b c:Folder} (h:Gv a b) (k:Gv b c):Gv a c:=⟨k.name.trans h.name,k.turn.trans h.turn,k.man.trans h.man,k.ep.trans h.ep,k.it.trans h.it,fun x=>k.wr (h.wr x)⟩
theorem Gv.now {f f':Folder} (h:Gv f f'):zL f'=zL f:=z1q h.man
theorem zNv (f:Folder) (name:Nm) (seed:Bool):Gv f (yY f name seed):=⟨rfl,rfl,rfl,rfl,rfl,fun h=>z5m _ _ _ h⟩
theorem z72 (sd:Member->Bool):∀(ms:List Member) (f:Folder),Gv f (yG sd f ms)
 | [],f=>Gv.refl f
 | m :: r,f=>(zNv f m.name (sd m)).trans (z72 sd r (yY f m.name (sd m)))
theorem z73 (st:State):∀(l:List At) (f:Folder),Gv f (YW st l f)
 | [],f=>Gv.refl f
 | x :: r,f=>by
  unfold YW
  split
  ·exact (z72 _ _ f).trans (z73 st r _)
  ·split
   ·exact Gv.refl f
   ·exact ⟨rfl,rfl,rfl,rfl,rfl,id⟩
theorem zGh (sd:Member->Bool) (f:Folder) (ms:List Member) (m:Member):yG sd f (ms++[m])=yY (yG sd f ms) m.name (sd m):=by unfold yG;simp
theorem Alike.gv {st:State} {k:Nat} {f':Folder} (hk:k < st.folders.length) (h:Gv (fo st k) f'):Alike st (setF st k f'):=
 zAf (by unfold fo;rw [List.getElem?_eq_getElem hk];rfl) h.name h.man h.ep
end
def yB (st:State):Fs:=fun s=>(zP st s).map fun f=>((zL f).parent,(zL f).gone)
def z2k (st:State):Prop:=(st.folders.map Folder.name).Nodup
theorem z4c {st:State} (h:z2k st) {f:Folder} (hf:f∈st.folders):zP st f.name=some f:=by
 unfold zP z2k at*
 generalize st.folders=l at*
 induction l with
 | nil=>simp at hf
 | cons x r ih=>
  rw [List.map_cons,List.nodup_cons] at h
  rw [List.find?_cons]
  by_cases e:x.name=f.name
  ·have hx:f=x:=by
    rcases List.mem_cons.1 hf with e2 | e2
    ·exact e2
    ·exact absurd (show x.name∈r.map Folder.name by rw [e];exact List.mem_map.2 ⟨f,e2,rfl⟩) h.1
   rw [<-hx]
   simp
  rw [decide_eq_false e]
  refine ih h.2 ?_
  rcases List.mem_cons.1 hf with e2 | e2
  ·exact absurd (by rw [e2]) e
  exact e2
theorem zKj {st:State} (h:z2k st) {f:Folder} (hf:f∈st.folders):yB st f.name=some ((zL f).parent,(zL f).gone):=by unfold yB;rw [z4c h hf];rfl
theorem zH3 {st:State} {s:Nm}:ZI (yB st) s=true↔∃f,zP st s=some f/\(zL f).gone=false:=by
 unfold ZI yB
 cases hf:zP st s with
 | none=>simp
 | some f=>simp
theorem zKk {st:State} {s:Nm} {f:Folder} (h:zP st s=some f):YO (yB st) s=(zL f).parent:=by unfold YO yB;rw [h];rfl
theorem zIj {st:State} {s:Nm}:(Z4 st s).isSome=ZI (yB st) s:=by
 unfold Z4
 cases h:foI st s with
 | none=>
  have:=z71.1 h
  unfold ZI yB
  rw [this]
  rfl
 | some k=>
  have:=z2a h
  unfold ZI yB
  rw [this]
  dsimp only [Option.map_some]
  cases (zL (fo st k)).gone<;>rfl
theorem z5n {st:State} {s:Nm} {k:Nat} (h:Z4 st s=some k):foI st s=some k/\(zL (fo st k)).gone=false:=by
 unfold Z4 at h
 cases h1:foI st s with
 | none=>rw [h1] at h;cases h
 | some j=>
  rw [h1] at h
  dsimp only at h
  cases h2:(zL (fo st j)).gone
  ·rw [h2] at h
   simp only [Bool.false_eq_true,if_false,Option.some.injEq] at h
   subst h
   exact ⟨rfl,h2⟩
  rw [h2] at h
  simp at h
theorem z2v {st:State} {k:Nat} (h:k < st.folders.length):fo st k∈st.folders:=by
 unfold fo
 rw [List.getElem?_eq_getElem h]
 exact List.getElem_mem h
theorem zMi {st:State} {s:Nm} {k:Nat} (h:foI st s=some k):(fo st k).name=s:=z24 (z2a h)
theorem zNw {st:State} {s:Nm} {k:Nat} (h:foI st s=some k):k < st.folders.length:=(List.findIdx?_eq_some_iff_getElem.1 h).1
theorem z8i {st:State} (h:z2k st) {f:Folder} (hf:f∈st.folders) (s:Nm):inB s f=true↔ZI (yB st) f.name=true/\YO (yB st) f.name=s:=by
 have h1:=z4c h hf
 rw [zKk h1]
 unfold inB ZI
 rw [zKj h hf]
 simp
def z81 (st:State):Nat->Nm->Prop
 | 0,s=>∀f∈st.folders,inB s f=false
 | n+1,s=>∀f∈st.folders,inB s f=true->z81 st n f.name
theorem z8j {st:State} (hN:z2k st) (hI:Inv (yB st)):∀(n:Nat) (s:Nm),4<=(ch (yB st) s).length+n->z81 st n s
 | 0,s,h=>fun f hf=>by
  cases hb:inB s f
  ·rfl
  ·obtain ⟨h1,h2⟩:=(z8i hN hf s).1 hb
   have h3:=z2b hI h1
   rw [h2] at h3
   have:=hI.deep f.name
   omega
 | n+1,s,h=>fun f hf hb=>by
  obtain ⟨h1,h2⟩:=(z8i hN hf s).1 hb
  have h3:=z2b hI h1
  rw [h2] at h3
  exact z8j hN hI n f.name (by omega)
theorem zBc {α:Type} (p:α->Bool) (g:α->Nat):∀(l:List α) (m:Nat),m<=l.foldl (fun m f=>if p f then max m (g f) else m) m/\(∀f∈l,p f=true->g f<=l.foldl (fun m f=>if p f then max m (g f) else m) m)/\
  (l.foldl (fun m f=>if p f then max m (g f) else m) m=m\/∃f∈l,p f=true/\l.foldl (fun m f=>if p f then max m (g f) else m) m=g f)
 | [],m=>⟨Nat.le_refl _,fun f hf=>by simp at hf,.inl rfl⟩
 | x :: l,m=>by
  rw [List.foldl_cons]
  cases hx:p x
  ·simp only [Bool.false_eq_true,if_false]
   obtain ⟨h1,h2,h3⟩:=zBc p g l m
   refine ⟨h1,fun f hf hp=>?_,h3.imp id fun ⟨f,a,b⟩=>⟨f,List.mem_cons_of_mem _ a,b⟩⟩
   rcases List.mem_cons.1 hf with e | e
   ·rw [e,hx] at hp;cases hp
   ·exact h2 f e hp
  ·simp only [if_true]
   obtain ⟨h1,h2,h3⟩:=zBc p g l (max m (g x))
   have hm:m<=max m (g x):=Nat.le_max_left ..
   have hg:g x<=max m (g x):=Nat.le_max_right ..
   refine ⟨Nat.le_trans hm h1,fun f hf hp=>?_,?_⟩
   ·rcases List.mem_cons.1 hf with e | e
    ·rw [e];exact Nat.le_trans hg h1
    ·exact h2 f e hp
   ·rcases h3 with h3 | ⟨f,a,b,c⟩
    ·rcases Nat.le_total (g x) m with e | e
     ·exact .inl (h3.trans (Nat.max_eq_left e))
     ·exact .inr ⟨x,List.mem_cons_self ..,hx,h3.trans (Nat.max_eq_right e)⟩
    ·exact .inr ⟨f,List.mem_cons_of_mem _ a,b,c⟩
theorem z8k {st:State} (hN:z2k st) (hI:Inv (yB st)):∀(n:Nat) (s:Nm),ZI (yB st) s=true->4<=(ch (yB st) s).length+n->IsHigh (yB st) s (YD st n s)
 | 0,s,hs,h=>by
  refine IsHigh.up (m:=0) hI hs (fun c c1 c2=>?_) (.inl rfl)
  have h3:=z2b hI c1
  rw [c2] at h3
  have:=hI.deep c
  omega
 | n+1,s,hs,h=>by
  obtain ⟨_,f2,f3⟩:=zBc (inB s) (fun f=>YD st n f.name) st.folders 0
  refine IsHigh.up hI hs (fun c c1 c2=>?_) ?_
  ·obtain ⟨f,hf,_⟩:=zH3.1 c1
   have hfm:=z1i hf
   have hfn:=z24 hf
   have h3:=z2b hI c1
   rw [c2] at h3
   refine ⟨_,z8k hN hI n c c1 (by omega),?_⟩
   have:=f2 f hfm ((z8i hN hfm s).2 (by rw [hfn];exact ⟨c1,c2⟩))
   rw [hfn] at this
   exact this
  ·rcases f3 with e | ⟨f,a,b,e⟩
   ·exact .inl e
   ·obtain ⟨c1,c2⟩:=(z8i hN a s).1 b
    have h3:=z2b hI c1
    rw [c2] at h3
    refine .inr ⟨f.name,c1,c2,?_⟩
    rw [e]
    exact z8k hN hI n f.name c1 (by omega)
theorem z9p {st:State} (hI:Inv (yB st)) (hT:zP st Top=none):∀(n:Nat) (s:Nm),s=Top\/ZI (yB st) s=true->(ch (yB st) s).length<=n->(zN st n s).map At.name=ch (yB st) s
 | n,s,hs,hn=>by
  by_cases hl:ZI (yB st) s=true
  ·obtain ⟨f,hf,_⟩:=zH3.1 hl
   have h3:=z2b hI hl
   cases n with
   | zero=>omega
   | succ n=>
    rw [z0h hf,z3v hI hl,List.map_cons]
    have hp:=zKk hf
    have hup:=hI.up s hl
    rw [hp] at h3 hup⊢
    rw [z9p hI hT n (zL f).parent hup (by omega)]
  ·rcases hs with rfl | hs
   ·rw [zJd hI hI.no,z17 hT]
    rfl
   ·exact absurd hs hl
theorem zD6 {st:State} (hI:Inv (yB st)) (hT:zP st Top=none) {s:Nm} (hs:s=Top\/ZI (yB st) s=true):(zN st 4 s).length=(ch (yB st) s).length:=by
 rw [<-z9p hI hT 4 s hs (hI.deep s),List.length_map]
theorem zKl {st:State} (hI:Inv (yB st)) (hT:zP st Top=none) {s:Nm} (hs:s=Top\/ZI (yB st) s=true) (x:Nm):(zN st 4 s).any (fun a=>decide (a.name=x))=true↔x∈ch (yB st) s:=by
 rw [<-z9p hI hT 4 s hs (hI.deep s),List.any_eq_true]
 simp
section
open Go.RowKit Go.Deep
theorem zAl (x:Wrap) (name:Nm) (cs:List Value) (w:World) (S:Nat->Prop) (h:Y1 S w cs x):Calls Tryz.prog 160 #[.agg cs.toArray,.string name] w fun e w'=>e= .returned (.int .i64 (Ro.cmpOf x.name name))/\Below w.heap.size w w':=by
 obtain ⟨rfl,_,_⟩:=z3m h
 have HC:=zh fun w=>Ro.cmp_any x.name name w
 go_enter Tryz.func160,Tryz.ntmps160
 go_wp2_with fail
 refine Calls.mono (HC.out _) ?_
 rintro e _ ⟨rfl,rfl⟩
 go_wp2
 go_ret
 exact ⟨rfl,by go_grown⟩
theorem zH7 {a b:Nm}:(Ro.cmpOf a b < 0)↔ltS a b=true:=by
 unfold Ro.cmpOf
 rw [show Ro.ltS a b=ltS a b from rfl,show Ro.ltS b a=ltS b a from rfl]
 cases ltS a b
 ·cases ltS b a<;>simp
 simp
theorem zMn {a b:Nm}:(Ro.cmpOf a b=0)↔a=b:=by
 unfold Ro.cmpOf
 rw [show Ro.ltS a b=ltS a b from rfl,show Ro.ltS b a=ltS b a from rfl]
 constructor
 ·intro h
  rcases z0w a b with e | e | e
  ·rw [if_pos e] at h;cases h
  ·exact e
  rw [if_neg (by rw [z2l e];decide),if_pos e] at h;cases h
 rintro rfl
 rw [YB]
 rfl
theorem z94 {α:Type} {p:α->Bool}:∀{l:List α} {i:Nat},i<=l.length->(∀y∈l.take i,p y=true)->(∀y∈l.drop i,p y=false)->(l.takeWhile p).length=i
 | [],i,h,_,_=>by simp at h;simp [h]
 | x :: r,0,_,_,h2=>by
  rw [List.takeWhile_cons,h2 x (by simp)]
  rfl
 | x :: r,i+1,h,h1,h2=>by
  rw [List.takeWhile_cons,h1 x (by simp),if_pos rfl,List.length_cons,z94 (by simpa using h) (fun y hy=>h1 y (by simp [hy])) (fun y hy=>h2 y (by simpa using hy))]
theorem zO8 {l:List Wrap} (h:z1a l) {name:Nm} {k:Nat} {x:Wrap} (hx:l[k]? =some x) (hl:ltS x.name name=true):∀y∈l.take (k+1),ltS y.name name=true:=fun y hy=>by
 obtain ⟨j,_,rfl⟩:=List.mem_take_iff_getElem.1 hy
 obtain ⟨hk,rfl⟩:=List.getElem?_eq_some_iff.1 hx
 rcases Nat.lt_or_eq_of_le (show j<=k by omega) with e | e
 ·exact YM (List.pairwise_iff_getElem.1 h j k (by omega) hk e) hl
 ·subst e;exact hl
theorem zO9 {l:List Wrap} (h:z1a l) {name:Nm} {k:Nat} {x:Wrap} (hx:l[k]? =some x) (hl:ltS x.name name=false):∀y∈l.drop k,ltS y.name name=false:=fun y hy=>by
 obtain ⟨j,hj,e⟩:=List.mem_iff_getElem.1 hy
 rw [List.getElem_drop] at e
 obtain ⟨hk,rfl⟩:=List.getElem?_eq_some_iff.1 hx
 cases hc:ltS y.name name
 ·rfl
 ·subst e
  rcases Nat.eq_zero_or_pos j with e | e
  ·subst e
   simp only [Nat.add_zero] at hc
   rw [hc] at hl;cases hl
  ·have:=YM (List.pairwise_iff_getElem.1 h k (k+j) hk (by simp at hj;omega) (by omega)) hc
   rw [this] at hl
   cases hl
def z68 (name:Nm) (l:List Wrap):Bool:=match l[Y3 name l]? with
 | some w=>decide (w.name=name)
 | none=>false
set_option maxHeartbeats 4000000 in
theorem zOa (l:List Wrap) (hr:z1a l) (hl0:l.length<=1000000) (name:Nm) (v:Value) (w:World) (S:Nat->Prop) (h:Sl 3 Y1 S w v l):
  Calls Tryz.prog 159 #[v,.string name,.func (.func 160) #[] #[]] w fun e w'=>e= .returned (.tuple #[.int .i64 (Y3 name l),.bool (z68 name l)])/\Below w.heap.size w w':=by
 obtain ⟨_,_,rfl,_,hc,_,hs⟩:=h
 unfold maxLen at hc
 have HR:=zh hr
 clear hr
 go_enter Tryz.func159,Tryz.ntmps159
 go_wp2
 go_loopw [9,10] (fun i j wr=>∃a b:Nat,a<=b/\b<=l.length/\i= .int .i64 a/\j= .int .i64 b/\Hid ((∀y∈l.take a,ltS y.name name=true)/\∀y∈l.drop b,ltS y.name name=false)/\Below w.heap.size w wr) (fun i j _=>(RowKit.intOf j).toNat - (RowKit.intOf i).toNat)
 case atStart=>exact ⟨0,l.length,by omega,by omega,by go_num,by go_num,⟨fun y hy=>by simp at hy,fun y hy=>by simp at hy⟩,by go_grown⟩
 obtain ⟨a,b,_,hb,rfl,rfl,HN,hbel⟩:=hrel
 have hz:=hbel.size
 by_cases hlt:a < b
 rotate_left
 ·obtain rfl:a=b:=by omega
  have HI:=zh (show Y3 name l=a from z94 hb HN.out.1 HN.out.2)
  by_cases hal:a < l.length
  rotate_left
  ·have HW:=zh (show z68 name l=false by unfold z68;rw [HI.out,List.getElem?_eq_none (by omega)])
   have hali:¬((a:Int) < (l.length:Int)):=by omega
   go_wp2
   go_ret2
   exact ⟨by rw [HI.out,HW.out];rfl,hbel⟩
  have hali:(a:Int) < (l.length:Int):=by omega
  obtain ⟨x,x_b,x_o,x_k,x_d,x_m,rfl,x_l,x_S,x_0,x_1,x_2,x_R,x_name_le,x_epoch_ok⟩:=z6l hs hal (zJ hbel)
  have HW:=zh (show z68 name l=decide (x.name=name) by unfold z68;rw [HI.out,x_k])
  clear x_k x_d
  go_wp2_with fail
  refine Calls.mono (zAl x name _ wr S x_R) ?_
  rintro e w1 ⟨rfl,B1⟩
  have HB1:=zh (zB hbel B1)
  obtain ⟨z,hz0⟩:∃z,Ro.cmpOf x.name name=z:=⟨_,rfl⟩
  have HZ:=zh (show decide (x.name=name)=(z==0) by
   rw [<-hz0,Bool.eq_iff_iff,decide_eq_true_eq,beq_iff_eq,zMn])
  rw [hz0]
  clear hz0 x_R
  go_wp2
  go_ret2
  exact ⟨by rw [HI.out,HW.out,HZ.out];rfl,HB1.out⟩
 have hai:(a:Int) < (b:Int):=by omega
 have hm:(a+b) / 2 < l.length:=by omega
 obtain ⟨x,x_b,x_o,x_k,x_d,x_m,rfl,x_l,x_S,x_0,x_1,x_2,x_R,x_name_le,x_epoch_ok⟩:=z6l hs hm (zJ hbel)
 have HX:=zh x_k
 clear x_k x_d
 go_wp2_with fail
 refine Calls.mono (zAl x name _ wr S x_R) ?_
 rintro e w1 ⟨rfl,B1⟩
 have HB1:=zh (zB hbel B1)
 obtain ⟨z,hz0⟩:∃z,Ro.cmpOf x.name name=z:=⟨_,rfl⟩
 have HZ:=zh hz0
 rw [hz0]
 clear hz0 x_R
 by_cases hneg:z < 0
 ·have HN2:=zh (show (∀y∈l.take ((a+b) / 2+1),ltS y.name name=true)/\∀y∈l.drop b,ltS y.name name=false from ⟨zO8 HR.out HX.out (zH7.1 (by rw [HZ.out];exact hneg)),HN.out.2⟩)
  go_wp2
  go_roundw
  case rel=>exact ⟨(a+b) / 2+1,b,by omega,by omega,by go_num,by go_num,HN2,HB1.out⟩
  case measure=>simp [RowKit.intOf];omega
 have HN2:=zh (show (∀y∈l.take a,ltS y.name name=true)/\∀y∈l.drop ((a+b) / 2),ltS y.name name=false from ⟨HN.out.1,zO9 HR.out HX.out (by
  cases hh:ltS x.name name
  ·rfl
  ·exact absurd (by rw [<-HZ.out];exact zH7.2 hh) hneg)⟩)
 go_wp2
 go_roundw
 case rel=>exact ⟨a,(a+b) / 2,by omega,by omega,by go_num,by go_num,HN2,HB1.out⟩
 case measure=>simp [RowKit.intOf];omega
end
structure FInv (n:Nat) (us:List Nm) (f:Folder):Prop where
 nm:f.name.size<=20
 man:f.manifests≠[]
 ep:f.epochs≠[]
 wr:z1a f.wraps
 wn:∀w∈f.wraps,w.name∈us
 it:∀x∈f.items,x.versions≠[]/\x.versions.length<=n/\x.name.size<=20
 mem:Ro.rightOf (zL f).members=true
 mn:∀m∈f.manifests,m.parent.size<=20/\m.members.length<=20/\∀x∈m.members,x.name∈us
 lk:∀l∈f.links,l.to.size<=20
 ec:∀e∈f.epochs,e.chain.length<=20/\∀y∈e.chain,y.name.size<=20
 tn:0<=f.turn/\f.turn<=n
 sq:0<=(zL f).seq/\(zL f).seq<=n
 pv:∀m∈f.manifests,m.prev=[]
theorem FInv.mono {n m:Nat} {us vs:List Nm} {f:Folder} (h:FInv n us f) (hn:n<=m) (hu:∀x∈us,x∈vs):FInv m vs f:=
 ⟨h.nm,h.man,h.ep,h.wr,fun w hw=>hu _ (h.wn w hw),fun x hx=>⟨(h.it x hx).1,Nat.le_trans (h.it x hx).2.1 hn,(h.it x hx).2.2⟩,h.mem,fun m hm=>⟨(h.mn m hm).1,(h.mn m hm).2.1,fun x hx=>hu _ ((h.mn m hm).2.2 x hx)⟩,h.lk,h.ec,
  ⟨h.tn.1,by have:=h.tn.2;omega⟩,⟨h.sq.1,by have:=h.sq.2;omega⟩,h.pv⟩
def ZT (f:Folder):Nat:=f.manifests.length+f.epochs.length+f.items.length+f.links.length
def YV:List Folder->Nat
 | []=>0
 | f :: l=>ZT f+YV l
theorem zD7:∀(l:List Folder) (f:Folder),YV (l++[f])=YV l+ZT f
 | [],f=>by simp [YV]
 | x :: l,f=>by rw [List.cons_append,YV,YV,zD7 l f];omega
theorem zEx:∀{l:List Folder} {k:Nat} {f f':Folder},l[k]? =some f->YV (l.set k f')+ZT f=YV l+ZT f'
 | [],k,f,f',h=>by simp at h
 | x :: l,0,f,f',h=>by
  obtain rfl:x=f:=by simpa using h
  rw [List.set_cons_zero,YV,YV]
  omega
 | x :: l,k+1,f,f',h=>by
  have:=zEx (f':=f') (l:=l) (k:=k) (f:=f) (by simpa using h)
  rw [List.set_cons_succ,YV,YV]
  omega
structure VInv (n:Nat) (st:State):Prop where
 names:z2k st
 top:zP st Top=none
 tree:Inv (yB st)
 fol:∀f∈st.folders,FInv n (st.users.map User.name) f
 us20:∀u∈st.users,u.name.size<=20
 u16:st.users.length<=16
 ds20:∀p∈st.deposits,p.frm.size<=20/\p.to.size<=20
 few:st.users.length+st.deposits.length+st.folders.length<=n
 sum:YV st.folders<=3*n
 turn:0<=st.turn/\st.turn<=n
theorem VInv.start:VInv 0 ⟨0,[],[],[]⟩ where
 names:=List.nodup_nil
 top:=rfl
 tree:=Inv.start
 fol:=fun f hf=>by simp at hf
 us20:=fun f hf=>by simp at hf
 u16:=by simp
 ds20:=fun f hf=>by simp at hf
 few:=by simp
 sum:=by simp [YV]
 turn:=by simp
theorem VInv.mono {n m:Nat} {st:State} (h:VInv n st) (hn:n<=m):VInv m st where
 names:=h.names
 top:=h.top
 tree:=h.tree
 fol:=fun f hf=>(h.fol f hf).mono hn fun x hx=>hx
 us20:=h.us20
 u16:=h.u16
 ds20:=h.ds20
 few:=Nat.le_trans h.few hn
 sum:=by have:=h.sum;omega
 turn:=⟨h.turn.1,by have:=h.turn.2;omega⟩
theorem VInv.atF {n:Nat} {st:State} (h:VInv n st) {k:Nat} (hk:k < st.folders.length):FInv n (st.users.map User.name) (fo st k):=h.fol _ (z2v hk)
theorem zEy {l:List Wrap} (h:z1a l):(l.map Wrap.name).Nodup:=List.pairwise_map.2 (h.imp fun h=>z4p h)
theorem zD8 {n:Nat} {us:List Nm} {f:Folder} (h:FInv n us f):f.wraps.length<=us.length:=by
 rw [<-List.length_map (f:=Wrap.name)]
 exact z7n (zEy h.wr) fun e he=>by
  obtain ⟨w,hw,rfl⟩:=List.mem_map.1 he
  exact h.wn w hw
theorem zH4 {n k:Nat} {us:List Nm} (hu:us.length<=k):∀(l:List Folder),(∀f∈l,FInv n us f)->z62 l<=YV l+k*l.length
 | [],_=>by simp [z62,YV]
 | f :: l,h=>by
  have h1:=zD8 (h f (List.mem_cons_self ..))
  have h2:=zH4 hu l fun x hx=>h x (List.mem_cons_of_mem _ hx)
  rw [z62,YV,List.length_cons,Nat.mul_succ]
  unfold zA5 ZT
  omega
theorem VInv.small {n:Nat} {st:State} (h:VInv n st) (hn:n<=41):Small st where
 users:=h.us20
 pairs:=h.ds20
 few8:=by have:=h.few;omega
 all:=by
  have h1:=zH4 (n:=n) (k:=16) (us:=st.users.map User.name) (by rw [List.length_map];exact h.u16) st.folders h.fol
  have h2:=h.sum
  have h3:=h.few
  omega
 short:=fun f hf=>by
  have hF:=h.fol f hf
  have hsz:∀s∈st.users.map User.name,s.size<=20:=fun s hs=>by
   obtain ⟨u,hu,rfl⟩:=List.mem_map.1 hs
   exact h.us20 u hu
  exact ⟨hF.nm,fun m hm=>⟨(hF.mn m hm).1,(hF.mn m hm).2.1,fun y hy=>hsz _ ((hF.mn m hm).2.2 y hy)⟩,hF.ec,fun x hx=>⟨(hF.it x hx).2.2,by have:=(hF.it x hx).2.1;omega⟩,fun w hw=>hsz _ (hF.wn w hw),hF.lk⟩
theorem zAg {st:State} {k:Nat} {f':Folder} (hk:k < st.folders.length) (hn:f'.name=(fo st k).name):(setF st k f').folders.map Folder.name=st.folders.map Folder.name:=by
 unfold setF
 dsimp only
 rw [List.map_set,hn]
 have:st.folders[k]? =some (fo st k):=by unfold fo;rw [List.getElem?_eq_getElem hk];rfl
 rw [List.set_eq_self_of (by rw [List.getElem?_map,this];rfl)]
theorem z3s {st:State} (hN:z2k st) {k:Nat} {f':Folder} (hk:k < st.folders.length) (hn:f'.name=(fo st k).name) (s:Nm):zP (setF st k f') s=if s=f'.name then some f' else zP st s:=by
 have hN':z2k (setF st k f'):=by unfold z2k;rw [zAg hk hn];exact hN
 have hmem:f'∈(setF st k f').folders:=by
  unfold setF
  exact List.mem_of_getElem? (i:=k) (by rw [List.getElem?_set_self hk])
 split
 ·rename_i e
  rw [e]
  exact z4c hN' hmem
 rename_i e
 cases hf:zP st s with
 | none=>
  unfold zP
  rw [List.find?_eq_none]
  intro x hx
  unfold setF at hx
  rcases List.mem_or_eq_of_mem_set hx with hx | e3
  ·unfold zP at hf
   exact List.find?_eq_none.1 hf x hx
  rw [e3]
  simpa using fun e2:f'.name=s=>e e2.symm
 | some g=>
  have hgm:=z1i hf
  have hgn:=z24 hf
  rw [<-hgn]
  refine z4c hN' ?_
  obtain ⟨j,hj,hje⟩:=List.mem_iff_getElem.1 hgm
  have hjk:k≠j:=fun e2=>by
   subst e2
   refine e ?_
   rw [hn,<-hgn,<-hje]
   unfold fo
   rw [List.getElem?_eq_getElem hk]
   rfl
  unfold setF
  exact List.mem_of_getElem? (i:=j) (by dsimp only;rw [List.getElem?_set_ne hjk,List.getElem?_eq_getElem hj,hje])
theorem zNx {st:State} (hN:z2k st) {k:Nat} {f':Folder} (hk:k < st.folders.length) (hn:f'.name=(fo st k).name):yB (setF st k f')=upd (yB st) f'.name ((zL f').parent,(zL f').gone):=by
 funext s
 unfold yB upd
 rw [z3s hN hk hn]
 split<;>rfl
theorem zMj {F:Fs} {s:Nm} {v:Nm×Bool} (h:F s=some v):upd F s v=F:=by
 funext x
 unfold upd
 split
 ·rename_i e;rw [e,h]
 rfl
theorem zPh {st:State} (hN:z2k st) {k:Nat} (hk:k < st.folders.length):yB st (fo st k).name=some ((zL (fo st k)).parent,(zL (fo st k)).gone):=zKj hN (z2v hk)
theorem VInv.turnF {n:Nat} {st:State} (h:VInv n st) {k:Nat} (hk:k < st.folders.length) {f':Folder} (hn:f'.name=(fo st k).name) (hF:FInv (n+1) (st.users.map User.name) f') (hs:ZT f'<=ZT (fo st k)+3)
  (hI:Inv (upd (yB st) f'.name ((zL f').parent,(zL f').gone))) (t:Int) (ht:0<=t/\t<=n+1):VInv (n+1) { setF st k f' with turn:=t } where
 names:=by unfold z2k;exact (zAg hk hn).symm▸h.names
 top:=by
  have h1:=z3s h.names hk hn Top
  have h2:zP { setF st k f' with turn:=t } Top=zP (setF st k f') Top:=rfl
  rw [h2,h1,if_neg,h.top]
  intro e
  have:=z4c h.names (z2v hk)
  rw [<-hn,<-e,h.top] at this
  cases this
 tree:=by
  have h2:yB { setF st k f' with turn:=t }=yB (setF st k f'):=rfl
  rw [h2,zNx h.names hk hn]
  exact hI
 fol:=fun f hf=>by
  rcases List.mem_or_eq_of_mem_set hf with hx | rfl
  ·exact (h.fol f hx).mono (by omega) fun x hx=>hx
  ·exact hF
 us20:=h.us20
 u16:=h.u16
 ds20:=h.ds20
 few:=by
  have:=h.few
  have h2:(setF st k f').folders.length=st.folders.length:=z19
  dsimp only
  have h3:(setF st k f').users=st.users:=rfl
  have h4:(setF st k f').deposits=st.deposits:=rfl
  rw [h2,h3,h4]
  omega
 sum:=by
  have h1:st.folders[k]? =some (fo st k):=by unfold fo;rw [List.getElem?_eq_getElem hk];rfl
  have h2:=zEx (f':=f') h1
  have h3:=h.sum
  show YV (st.folders.set k f')<=3*(n+1)
  omega
 turn:=ht
section
open Go.RowKit Go.Deep
section
variable {X:Nat->Prop} {base bw:Nat} {W:World} {R:RM} {c:Call} {dv:Value} {st:State} {done late:Bool}
def ZK (e n:Int):Array Value:=#[.int .i64 e,.int .i64 n,.string ⟨#[]⟩,.slice none 0 0,.slice none 0 0,.slice none 0 0,.slice none 0 0]
theorem z1n (h:WK X base bw W R c dv st done late) (n:Int):Calls Tryz.prog 126 #[.pointer (some ⟨bw,0,none⟩),.int .i64 n] W fun e w'=>
  e= .returned (.agg (ZK 0 n))/\WK X base bw w' R c dv st true late/\Mut bw R W R w':=by
 have hlt:=h.lt
 have s12:=h.cells.1 12 _ rfl
 have fz:=h.cells.2
 have HW:=zh h
 clear h
 go_enter Tryz.func126,Tryz.ntmps126
 go_wp2
 try simp only [Exit.inBlock,Exit.then]
 refine bodyPost_ret (results_cell_row rfl _ _ W.heap.size 49 _ (0,0) _ rfl (zH _ (World.size_setCell _ _ _).symm) Tryz.underlying49 rfl (by kernel_rfl)) rfl ?_
 obtain ⟨h1,h2⟩:=HW.out.setDone true
 exact ⟨rfl,h1.below (Below.alloc (Below.refl _ _) (Nat.le_refl _) _),h2.trans (Mut.below (Below.alloc (Below.refl _ _) (Nat.le_refl _) _))⟩
theorem Z9 (n:Int) (w:World):Calls Tryz.prog 32 #[.int .i64 n] w fun e w'=>e= .returned (.agg (ZK n 0))/\Below w.heap.size w w':=by
 go_enter Tryz.func32,Tryz.ntmps32
 go_wp2
 try simp only [Exit.inBlock,Exit.then]
 refine bodyPost_ret (results_cell_row rfl _ _ w.heap.size 49 _ (0,0) _ rfl (zH _ rfl) Tryz.underlying49 rfl (by kernel_rfl)) rfl ?_
 exact ⟨rfl,by go_grown⟩
theorem z1k (h:WK X base bw W R c dv st done late) {k g o:Nat} (hk:k < st.folders.length) (ha:foAt R k g o):Calls Tryz.prog 158 #[.pointer (some ⟨g,o,none⟩)] W fun e w'=>
  e= .returned (.int .i64 (fo st k).epochs.length)/\w'=W:=by
 obtain ⟨_,_,_,_,_,_,_,_,_,_,_,hF,_,_,_,_,_,_,_,_,_⟩:=h.fold (ZJ hk) ha
 clear h hF ha
 go_enter Tryz.func158,Tryz.ntmps158
 go_wp2
 go_ret
 exact ⟨rfl,rfl⟩
theorem z5s (h:WK X base bw W R c dv st done late) {k g o:Nat} (hk:k < st.folders.length) (ha:foAt R k g o) (s:Nm):Calls Tryz.prog 143 #[.pointer (some ⟨g,o,none⟩),.string s] W fun e w'=>
  e= .returned (.int .i64 (iOf (z0d (fo st k) s)))/\Below W.heap.size W w':=by
 obtain ⟨_,_,_,_,A4,c4,_,_,_,_,_,hF,u0,u1,u2,u3,u4,u5,u6,hg,_⟩:=h.fold (ZJ hk) ha
 obtain ⟨w0,_,cw0,fw0,Bw0,_⟩:=zQ W #[.string s] 9
 obtain ⟨_,_,B3,_,_,_,_,_,_,_,e,_,_,_,_,_,x_manifests_s,_,_,_,x_epochs_s,x_items_l,x_items_m,x_items_n,x_items_s,_⟩:=ZB hF
 simp only [List.cons.injEq,Value.slice.injEq,and_true,true_and] at e
 obtain ⟨⟨rfl,rfl⟩,⟨rfl,rfl⟩,⟨rfl,rfl⟩,⟨rfl,rfl⟩,⟨rfl,rfl⟩⟩:=e
 have hSl:Sl 2 yW (fun _=>True) W (.slice A4 (fo st k).items.length c4) (fo st k).items:=⟨_,_,rfl,x_items_l,x_items_m,x_items_n,x_items_s⟩
 have HI:=zh (zI3 s W.heap.size (fo st k).items _ w0 _ (hSl.keep z1z (by decide) (zJ Bw0)) (cw0 0 _ rfl))
 have s4:=(Bw0.cell (p:=⟨g,o+4,none⟩) hg).trans u4
 have HB:=zh Bw0
 clear h hF ha cw0 fw0 Bw0 hSl x_items_s x_manifests_s x_epochs_s u0 u1 u2 u3 u4 u5 u6
 go_enter Tryz.func143,Tryz.ntmps143
 go_wp2_with fail
 refine Calls.mono HI.out ?_
 rintro e _ ⟨rfl,B3⟩
 go_wp2
 go_ret
 exact ⟨rfl,zB HB.out B3⟩
theorem z7v (x:Item) (hx:0 < x.versions.length) (cs:List Value) (w:World) (S:Nat->Prop) (h:yW S w cs x):Calls Tryz.prog 136 #[.agg cs.toArray] w fun e w'=>
  e= .returned (.bool (YG x))/\Below w.heap.size w w':=by
 obtain ⟨x_A1,x_c1,rfl,_,_,_,_,x_versions_s⟩:=z3l h
 obtain ⟨n,hn⟩:∃n,x.versions.length=n+1:=⟨x.versions.length - 1,by omega⟩
 obtain ⟨_,hw0,cw0,fw0,Bw0,_⟩:=zQ w #[.string x.name,.slice x_A1 x.versions.length x_c1] 78
 obtain ⟨y,_,_,_,_,y_k,y_d,_,rfl,_,_,_,_,_,_,y_R,y_rest⟩:=z4i x_versions_s (show n < x.versions.length by omega) (zJ Bw0)
 have HE:=zh (show YG x=!y.gone by
  unfold YG
  rw [List.getLast?_eq_getElem?,hn,show n+1 - 1=n from rfl,y_k])
 have w0_1:=cw0 1 _ rfl
 rw [hn] at w0_1 hw0
 have HB:=zh Bw0
 clear x_versions_s cw0 fw0 Bw0 y_k y_d y_R y_rest h
 go_enter Tryz.func136,Tryz.ntmps136
 go_wp2
 go_ret
 exact ⟨ZL HE.out.symm,HB.out⟩
end
end
end Go.Proofs.YtdggplhnfhcieaaGreatDoor
