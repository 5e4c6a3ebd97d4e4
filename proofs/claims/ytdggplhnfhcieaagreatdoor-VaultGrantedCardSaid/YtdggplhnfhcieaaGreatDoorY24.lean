/- Part 24 of the proof of vaultGranted_holds. No condition. -/
import Derived.Test.YtdggplhnfhcieaaGreatDoorY23
set_option linter.unusedVariables false
set_option linter.unusedSimpArgs false
set_option linter.unusedSectionVars false
set_option maxRecDepth 100000
namespace Go.Proofs.YtdggplhnfhcieaaGreatDoor
section
open Go.RowKit Go.Deep
section
variable {X:Nat->Prop} {base bw:Nat} {W:World} {R:RM} {c:Call} {dv:Value} {st:State} {done late:Bool}
set_option maxHeartbeats 4000000 in
theorem z49 (h:WK X base bw W R c dv st done late) {k g o:Nat} (hk:k < st.folders.length) (ha:foAt R k g o):Calls Tryz.prog 127 #[.pointer (some ⟨bw,0,none⟩),.pointer (some ⟨g,o,none⟩)] W fun e w'=>
  e= .returned (.int .i64 (yM st k c.user))/\Below W.heap.size W w':=by
 obtain ⟨A2,c2,A3,c3,A4,c4,A5,c5,A6,c6,_,hF,u0,u1,u2,u3,u4,u5,u6,hg,_⟩:=h.fold (ZK hk) ha
 have HF:=zh hF
 have s1:=h.cells.1 1 _ rfl
 have HSQ:=zh (show ∀W':World,Below W.heap.size W W'->(fun W':World=>W'.cell? ⟨g,o,none⟩=some (.string (fo st k).name)/\W'.cell? ⟨g,o+1,none⟩=some (.int .i64 (fo st k).turn)/\W'.cell? ⟨g,o+2,none⟩=some (.slice A2 (fo st k).manifests.length c2)/\W'.cell? ⟨g,o+3,none⟩=some (.slice A3 (fo st k).epochs.length c3)/\W'.cell? ⟨g,o+4,none⟩=some (.slice A4 (fo st k).items.length c4)/\W'.cell? ⟨g,o+5,none⟩=some (.slice A5 (fo st k).wraps.length c5)/\W'.cell? ⟨g,o+6,none⟩=some (.slice A6 (fo st k).links.length c6)/\W'.cell? ⟨bw,1,none⟩=some (.string c.user)) W' from fun W' hW=>by
  refine ⟨(hW.cell (p:=⟨g,o,none⟩) hg).trans u0,(hW.cell (p:=⟨g,o+1,none⟩) hg).trans u1,(hW.cell (p:=⟨g,o+2,none⟩) hg).trans u2,(hW.cell (p:=⟨g,o+3,none⟩) hg).trans u3,(hW.cell (p:=⟨g,o+4,none⟩) hg).trans u4,(hW.cell (p:=⟨g,o+5,none⟩) hg).trans u5,(hW.cell (p:=⟨g,o+6,none⟩) hg).trans u6,(hW.cell (p:=⟨bw,1,none⟩) h.lt).trans s1⟩)
 have qm:=z3r
 have HM:=zh (fun cm (w':World) (hm:ZO (fun _=>True) w' cm (zL (fo st k)))=>hm)
 clear h hF ha u0 u1 u2 u3 u4 u5 u6 s1
 go_enter Tryz.func127,Tryz.ntmps127
 go_wp2
 have HS:=HSQ.out
 refine zE (by kernel_rfl) HS (fun hHeld=>?_)
 refine zi 0 ?_
 iterate 3 (refine zt _ rfl (by kernel_rfl) rfl (fun _ _ _ h=>h) hHeld (by intro W' h;go_simp;try with_reducible rfl) ?_;simp only [zA])
 refine zo ?_
 refine zi 5 ?_
 iterate 5 (refine zt _ rfl (by kernel_rfl) rfl (fun _ _ _ h=>h) hHeld (by intro W' h;go_simp;try with_reducible rfl) ?_;simp only [zA])
 refine zo ?_
 refine zr 3 (by kernel_rfl) rfl (fun K hK=>?_)
 go_simp
 go_at_call 120
 refine zcm (z4q (fo st k) _ _ (fun _=>True) (Z0 HF.out (zH zbr.drew))) ?_
 rintro _ w5 ⟨⟨cm,rfl,hm⟩,b5⟩
 have B5:=zh (show Below W.heap.size W w5 from zB zbr.drew b5)
 clear b5 hHeld
 obtain ⟨m,hme⟩:∃m,zL (fo st k)=m:=⟨_,rfl⟩
 rw [hme] at hm
 have HME:=zh hme
 clear hme HM
 obtain ⟨m_A2,m_c2,m_A4,m_c4,rfl,_,_,_,_,_,m_prev_s,_,m_members_l,m_members_m,m_members_n,m_members_s,_,_⟩:=yO hm
 have HML:=zh (show Sl 2 zY (fun _=>True) w5 (.slice m_A4 m.members.length m_c4) m.members from ⟨_,_,rfl,m_members_l,m_members_m,m_members_n,m_members_s⟩)
 have hfd:=z3r m.folder m.parent m.who m.seq m.cut m.gone (.slice m_A2 m.prev.length m_c2) (.slice m_A4 m.members.length m_c4)
 refine hK.out _ _ (HS _ B5.out) (fun hHeld=>?_)
 clear hK K m_prev_s m_members_s
 refine zT 4 _ rfl (by kernel_rfl) rfl (fun _ _ _ h=>h) hHeld (by intro W' h;go_simp;try with_reducible rfl) ?_
 simp only [zA]
 refine zr 10 (by kernel_rfl) rfl (fun K hK=>?_)
 go_simp
 go_at_call 157
 refine zcm (Ro.of_any c.user m.members _ _ (fun _=>True) HML.out) ?_
 rintro _ w6 ⟨rfl,b6⟩
 have B6:=zh (show Below W.heap.size W w6 from zB B5.out b6)
 clear b6 hHeld
 refine hK.out _ _ (HS _ B6.out) (fun hHeld=>?_)
 clear hK K
 refine zT 11 _ rfl (by kernel_rfl) rfl (fun _ _ _ h=>h) hHeld (by intro W' h;go_simp;try with_reducible rfl) ?_
 simp only [zA]
 refine wpAnyH_done (by kernel_rfl) ?_ _
 clear hHeld HS
 go_wp2
 go_ret
 exact ⟨Z9 (by unfold yM;rw [HME.out]),B6.out⟩
end
end
section
section
variable {n:Nat} {us:List Nm} {f:Folder}
theorem FInv.give (h:FInv n us f) {name:Nm} (hn:name∈us) (seed:Bool):FInv n us (yZ f name seed):=
 ⟨h.nm,h.man,h.ep,z69 _ _ _ h.wr,fun w hw=>(z8v hw).elim (fun e=>by rw [e];exact hn) (h.wn w),h.it,h.mem,h.mn,h.lk,h.ec,h.tn,h.sq,h.pv⟩
theorem FInv.gives (sd:Member->Bool):∀{ms:List Member} {f:Folder},FInv n us f->(∀m∈ms,m.name∈us)->FInv n us (yD sd f ms)
 | [],_,h,_=>h
 | m :: r,f,h,hm=>show FInv n us (yD sd (yZ f m.name (sd m)) r) from FInv.gives sd (h.give (hm m (List.mem_cons_self ..)) _) fun x hx=>hm x (zmc _ hx)
theorem z6y (sd:Member->Bool):∀(ms:List Member) (f:Folder),ZQ (yD sd f ms)=ZQ f
 | [],_=>rfl
 | m :: r,f=>(z6y sd r (yZ f m.name (sd m))).trans rfl
theorem z0j (h:f.manifests≠[]):zL f∈f.manifests:=by
 unfold zL
 rw [List.getLast?_eq_some_getLast h]
 exact List.getLast_mem h
theorem zG4 {st:State} (h:VInv n st) (s:Nm):∀m∈(zL ((zV st s).getD yX)).members,m.name∈st.users.map User.name:=by
 cases hf:zV st s with
 | none=>intro m hm;simp [zL,yX,zF4] at hm
 | some g=>
  have hg:=h.fol g (z15 hf)
  exact (hg.mn _ (z0j hg.man)).2.2
theorem z8x {st:State} (hm:∀s,∀m∈(zL ((zV st s).getD yX)).members,m.name∈us) {m:Nat}:∀(l:List At) {f:Folder},(∀x∈l,x.name.size<=20)->FInv m us f->FInv m us (z07 st l f)/\ZQ (z07 st l f)<=ZQ f+1
 | [],f,_,hf=>⟨hf,by unfold z07;omega⟩
 | x :: r,f,hl,hf=>by
  unfold z07
  split
  ·obtain ⟨h1,h2⟩:=z8x hm r (fun y hy=>hl y (zmc _ hy)) (hf.gives (fun _=>false) (hm x.name))
   exact ⟨h1,by rw [z6y] at h2;exact h2⟩
  ·split
   ·exact ⟨hf,by omega⟩
   ·refine ⟨⟨hf.nm,hf.man,hf.ep,hf.wr,hf.wn,hf.it,hf.mem,hf.mn,fun l hl2=>?_,hf.ec,hf.tn,hf.sq,hf.pv⟩,by unfold ZQ;simp;omega⟩
    rcases zmb hl2 with e | e
    ·exact hf.lk l e
    ·rw [zml e]
     exact hl x (List.mem_cons_self ..)
theorem zHi {st:State} (h:VInv n st) {k:Nat} {s:Nm} {x:At} (hx:x∈zN st k s):x.name.size<=20:=by
 obtain ⟨f,hf⟩:=z3q hx
 have:=(h.fol f (z15 hf)).nm
 rwa [z1s hf] at this
theorem FInv.write (h:FInv n us f) {m:Manifest} {who:Nm} (hp:m.parent.size<=20) (hr:Ro.rightOf m.members=true) (hm:∀x∈m.members,x.name∈us) (hv:m.prev=[]):FInv (n+1) us (z0f f m who)/\ZQ (z0f f m who)=ZQ f+1/\(z0f f m who).name=f.name/\zL (z0f f m who)={ m with seq:=(zL f).seq+1,who:=who }:=by
 have hnow:zL (z0f f m who)={ m with seq:=(zL f).seq+1,who:=who }:=by unfold z0f zL;simp
 refine ⟨⟨h.nm,by unfold z0f;simp,h.ep,h.wr,h.wn,fun x hx=>⟨(h.it x hx).1,by have:=(h.it x hx).2.1;omega,(h.it x hx).2.2⟩,by rw [hnow];exact hr,fun y hy=>?_,h.lk,h.ec,?_,?_,fun y hy=>?_⟩,by unfold z0f ZQ;simp;omega,rfl,hnow⟩
 ·rcases zmb hy with e | e
  ·exact h.mn y e
  rw [zml e]
  exact ⟨hp,by have:=((Ro.right_iff _).1 hr).few;show m.members.length<=20;omega,hm⟩
 ·have:=h.tn
  show 0<=f.turn+1/\f.turn+1<=((n+1:Nat):Int)
  omega
 ·rw [hnow]
  have:=h.sq
  show 0<=(zL f).seq+1/\(zL f).seq+1<=((n+1:Nat):Int)
  omega
 rcases zmb hy with e | e
 ·exact h.pv y e
 rw [zml e]
 exact hv
theorem FInv.begins {st:State} (h:FInv n us f) (hc:∀x∈zN st 4 f.name,x.name.size<=20) (who:Nm) (sd:Member->Bool):FInv n us (yD sd { f with epochs:=f.epochs++[z63 st f who] } (zL f).members)/\ZQ (yD sd { f with epochs:=f.epochs++[z63 st f who] } (zL f).members)=ZQ f+1:=by
 have h1:FInv n us { f with epochs:=f.epochs++[z63 st f who] }:=⟨h.nm,h.man,by simp,h.wr,h.wn,h.it,h.mem,h.mn,h.lk,fun e he=>by
  rcases zmb he with e2 | e2
  ·exact h.ec e e2
  ·rw [zml e2]
   have hch:(z63 st f who).chain=zN st 4 f.name:=by unfold z63;split<;>rfl
   rw [hch]
   exact ⟨by have:=z2z st 4 f.name;omega,hc⟩,h.tn,h.sq,h.pv⟩
 exact ⟨h1.gives sd (h.mn _ (z0j h.man)).2.2,by rw [z6y];unfold ZQ;simp;omega⟩
theorem FInv.addV (h:FInv n us f) {j:Nat} {x:Item} (hx:f.items[j]? =some x) (v:Version):FInv (n+1) us { f with items:=f.items.set j { x with versions:=x.versions++[v] },turn:=f.turn+1 }:=
 ⟨h.nm,h.man,h.ep,h.wr,h.wn,fun y hy=>by
  rcases List.mem_or_eq_of_mem_set hy with e | rfl
  ·exact ⟨(h.it y e).1,by have:=(h.it y e).2.1;omega,(h.it y e).2.2⟩
  ·have:=h.it x (zmg hx)
   exact ⟨by simp,by simp;omega,this.2.2⟩,h.mem,h.mn,h.lk,h.ec,by
  have:=h.tn
  show 0<=f.turn+1/\f.turn+1<=((n+1:Nat):Int)
  omega,by
  have:=h.sq
  show 0<=(zL f).seq/\(zL f).seq<=((n+1:Nat):Int)
  omega,h.pv⟩
theorem FInv.addN (h:FInv n us f) {name:Nm} (hn:name.size<=20) (v:Version):FInv (n+1) us { f with items:=f.items++[⟨name,[v]⟩],turn:=f.turn+1 }:=
 ⟨h.nm,h.man,h.ep,h.wr,h.wn,fun y hy=>by
  rcases zmb hy with e | e
  ·exact ⟨(h.it y e).1,by have:=(h.it y e).2.1;omega,(h.it y e).2.2⟩
  ·rw [zml e]
   exact ⟨by simp,by simp,hn⟩,h.mem,h.mn,h.lk,h.ec,by
  have:=h.tn
  show 0<=f.turn+1/\f.turn+1<=((n+1:Nat):Int)
  omega,by
  have:=h.sq
  show 0<=(zL f).seq/\(zL f).seq<=((n+1:Nat):Int)
  omega,h.pv⟩
end
end
section
structure CallOk (c:Call):Prop where
 u20:c.user.size<=20
 f20:c.folder.size<=20
 n20:c.name.size<=20
 o20:c.other.size<=20
 user:ZB c.user=true
 k1:1<=c.kind
 k16:c.kind<=16
 fol:2<=c.kind->c.kind<=13->ZB c.folder=true
 nof:(c.kind=1\/14<=c.kind)->c.folder=⟨#[]⟩
 oth:5<=c.kind->c.kind<=7->ZB c.other=true
 noo:(c.kind=1\/c.kind=15)->c.other=⟨#[]⟩
 neq:c.kind=2->c.other≠c.folder
 role:(c.kind=5\/c.kind=6)->1<=c.role/\c.role<=4
 rol0:c.kind=7->c.role=0
 dep:(c.kind=14\/c.kind=16)->ZB c.other=true
 ver:0<=c.version/\c.version<=1099511627776
theorem z5v {s:Nm} (h:ZB s=true):s≠Top:=fun e=>by rw [e] at h;revert h;decide
theorem z1x {st:State} {s:Nm} {k:Nat} (h:foI st s=some k):k < st.folders.length/\(fo st k).name=s/\zV st s=some (fo st k):=⟨zOx h,zNg h,z2t h⟩
theorem zOz {n:Nat} {st:State} (h:VInv n st) {k:Nat} (hk:k < st.folders.length) {f':Folder} (hn:f'.name=(fo st k).name) (hm:(zL f').parent=(zL (fo st k)).parent) (hg:(zL f').gone=(zL (fo st k)).gone):Inv (upd (y9 st) f'.name ((zL f').parent,(zL f').gone)):=by
 rw [hn,hm,hg,zNh (zQi h.names hk)]
 exact h.tree
theorem z7d {st:State} {s:Nm} {k:Nat} (h:Z7 st s=some k):ZJ (y9 st) s=true:=by rw [<-zJl,h];rfl
theorem zG5 {st:State} {s:Nm} {u:Nat} (h:yR st s=some u):s∈st.users.map User.name:=by
 obtain ⟨hu,hp,_⟩:=List.findIdx?_eq_some_iff_getElem.1 h
 exact List.mem_map.2 ⟨st.users[u],List.getElem_mem hu,by simpa [isU] using hp⟩
theorem zEd {name:Nm} {role:Int}:∀{d:Bool} {l:List Member} {x:Member},x∈Ro.withR name role d l->x.name=name\/x∈l
 | d,[],x,h=>by
  cases d
  ·rw [Ro.withR] at h
   simp at h
   exact .inl (by rw [h])
  ·simp [Ro.withR] at h
 | d,m :: r,x,h=>by
  rw [Ro.withR] at h
  have key:x∈((if Ro.eqS m.name name then [] else [m])++Ro.withR name role (d || Ro.leS name m.name) r)->x.name=name\/x∈m :: r:=fun hx=>by
   rcases zmb hx with e | e
   ·split at e
    ·simp at e
    ·exact .inr (by rw [zml e];exact List.mem_cons_self ..)
   ·exact (zEd e).imp id fun e=>zmc _ e
  cases hc:!d && Ro.leS name m.name
  ·rw [hc] at h
   exact key (by simpa using h)
  ·rw [hc] at h
   simp only [if_true,List.singleton_append,List.mem_cons] at h
   rcases h with e | e
   ·exact .inl (by rw [e])
   ·exact key e
section
variable {n:Nat} {st:State} {c:Call}
theorem VInv.userAdd (h:VInv n st) (hl:st.users.length < 16) (hu:c.user.size<=20):VInv (n+1) { st with users:=st.users++[⟨c.user,false⟩] } where
 names:=h.names
 top:=h.top
 tree:=h.tree
 fol:=fun f hf=>(h.fol f hf).mono (by omega) fun x hx=>by rw [List.map_append];exact List.mem_append_left _ hx
 us20:=fun u hu2=>by
  rcases zmb hu2 with e | e
  ·exact h.us20 u e
  ·rw [zml e];exact hu
 u16:=by simp;omega
 ds20:=h.ds20
 few:=by have:=h.few;simp;omega
 sum:=by have:=h.sum;show z06 st.folders<=_;omega
 turn:=by
  have:=h.turn
  show 0<=st.turn/\st.turn<=((n+1:Nat):Int)
  omega
theorem VInv.depAdd (h:VInv n st) (hu:c.user.size<=20) (ho:c.other.size<=20):VInv (n+1) { st with deposits:=st.deposits++[⟨c.user,c.other⟩] } where
 names:=h.names
 top:=h.top
 tree:=h.tree
 fol:=fun f hf=>(h.fol f hf).mono (by omega) fun x hx=>hx
 us20:=h.us20
 u16:=h.u16
 ds20:=fun u hu2=>by
  rcases zmb hu2 with e | e
  ·exact h.ds20 u e
  ·rw [zml e];exact ⟨hu,ho⟩
 few:=by have:=h.few;simp;omega
 sum:=by have:=h.sum;show z06 st.folders<=_;omega
 turn:=by
  have:=h.turn
  show 0<=st.turn/\st.turn<=((n+1:Nat):Int)
  omega
theorem zBh {l:List User} {u:Nat} {b:Bool}:(l.modify u fun x=>{ x with lost:=b }).map User.name=l.map User.name:=by
 apply List.ext_getElem?
 intro i
 rw [List.getElem?_map,List.getElem?_map,List.getElem?_modify]
 cases l[i]? with
 | none=>rfl
 | some x=>by_cases e:u=i<;>simp [e]
theorem VInv.lostS (h:VInv n st) (s:Nm) (b:Bool):VInv (n+1) (lostS st s b):=by
 unfold Go.Proofs.YtdggplhnfhcieaaGreatDoor.lostS
 cases yR st s with
 | none=>exact h.mono (by omega)
 | some u=>
  exact {
   names:=h.names
   top:=h.top
   tree:=h.tree
   fol:=fun f hf=>(h.fol f hf).mono (by omega) fun x hx=>by
    show x∈(st.users.modify u _).map User.name
    rw [zBh];exact hx
   us20:=fun x hx=>by
    have h1:x.name∈(st.users.modify u fun x=>{ x with lost:=b }).map User.name:=List.mem_map.2 ⟨x,hx,rfl⟩
    rw [zBh] at h1
    obtain ⟨y,hy,e⟩:=List.mem_map.1 h1
    rw [<-e]
    exact h.us20 y hy
   u16:=by simpa using h.u16
   ds20:=h.ds20
   few:=by have:=h.few;simp;omega
   sum:=by have:=h.sum;show z06 st.folders<=_;omega
   turn:=by
    have:=h.turn
    show 0<=st.turn/\st.turn<=((n+1:Nat):Int)
    omega }
theorem zDe (h:VInv n st) {k:Nat} (hk:k < st.folders.length) {f1:Folder} {m:Nat} (hn:f1.name=(fo st k).name) (hF:FInv m (st.users.map User.name) f1) (hc:∀x∈zN (setF st k f1) 4 f1.name,x.name.size<=20):
  ∃f',z05 (setF st k f1) k=setF st k f'/\Gv f1 f'/\FInv m (st.users.map User.name) f'/\ZQ f'<=ZQ f1+1:=by
 have hm:∀s,∀m∈(zL ((zV (setF st k f1) s).getD yX)).members,m.name∈st.users.map User.name:=fun s=>by
  rw [z48 h.names hk hn]
  split
  ·exact (hF.mn _ (z0j hF.man)).2.2
  ·exact zG4 h s
 obtain ⟨h1,h2⟩:=z8x hm ((zN (setF st k f1) 4 f1.name).drop 1) (fun x hx=>hc x (List.mem_of_mem_drop hx)) hF
 refine ⟨_,?_,z80 (setF st k f1) _ _,h1,h2⟩
 unfold z05
 rw [z1p hk,z0q]
theorem z81 (h:VInv n st) {k:Nat} (hk:k < st.folders.length) {f1:Folder} (hn:f1.name=(fo st k).name) {i:Nat} {s:Nm} {x:At} (hx:x∈zN (setF st k f1) i s):x.name.size<=20:=by
 obtain ⟨f,hf⟩:=z3q hx
 rw [z48 h.names hk hn] at hf
 split at hf
 ·rename_i e
  rw [e,hn]
  exact (h.atF hk).nm
 have:=(h.fol f (z15 hf)).nm
 rwa [z1s hf] at this
theorem VInv.put (h:VInv n st) {k:Nat} (hk:k < st.folders.length) {f':Folder} (hn:f'.name=(fo st k).name) (hF:FInv (n+1) (st.users.map User.name) f') (hs:ZQ f'<=ZQ (fo st k)+3) (hm:(zL f').parent=(zL (fo st k)).parent) (hg:(zL f').gone=(zL (fo st k)).gone):VInv (n+1) (setF st k f'):=by
 have:=h.turnF hk hn hF hs (zOz h hk hn hm hg) st.turn (by have:=h.turn;omega)
 exact this
theorem z6k {g:Folder} (hno:zV st g.name=none) (s:Nm):zV { st with folders:=st.folders++[g] } s=if s=g.name then some g else zV st s:=by
 unfold zV at*
 dsimp only
 rw [List.find?_append]
 split
 ·rename_i e
  subst e
  rw [hno]
  simp
 rename_i e
 have h1:([g]:List Folder).find? (fun f=>decide (f.name=s))=none:=by simpa using fun e2:g.name=s=>e e2.symm
 rw [h1]
 simp
theorem VInv.folAdd (h:VInv n st) {g:Folder} (hno:zV st g.name=none) (ht:g.name≠Top) (hF:FInv (n+1) (st.users.map User.name) g) (hs:ZQ g<=3) (hI:Inv (upd (y9 st) g.name ((zL g).parent,(zL g).gone))):VInv (n+1) { st with folders:=st.folders++[g],turn:=st.turn+1 } where
 names:=by
  unfold z34
  dsimp only
  rw [List.map_append,List.nodup_append]
  refine ⟨h.names,by simp,fun a ha b hb=>?_⟩
  obtain ⟨f,hf,rfl⟩:=List.mem_map.1 ha
  simp only [List.map_cons,List.map_nil,List.mem_singleton] at hb
  subst hb
  intro e
  have:=z4u h.names hf
  rw [e,hno] at this
  cases this
 top:=by
  show zV { st with folders:=st.folders++[g] } Top=none
  rw [z6k hno,if_neg fun e=>ht e.symm,h.top]
 tree:=by
  have e:y9 { st with folders:=st.folders++[g],turn:=st.turn+1 }=upd (y9 st) g.name ((zL g).parent,(zL g).gone):=by
   funext s
   unfold y9 upd
   have h2:zV { st with folders:=st.folders++[g],turn:=st.turn+1 } s=zV { st with folders:=st.folders++[g] } s:=rfl
   rw [h2,z6k hno]
   split<;>rfl
  rw [e]
  exact hI
 fol:=fun f hf=>by
  rcases zmb hf with e | e
  ·exact (h.fol f e).mono (by omega) fun x hx=>hx
  ·rw [zml e];exact hF
 us20:=h.us20
 u16:=h.u16
 ds20:=h.ds20
 few:=by have:=h.few;simp;omega
 sum:=by
  have:=h.sum
  show z06 (st.folders++[g])<=_
  rw [zEb]
  omega
 turn:=by
  have:=h.turn
  show 0<=st.turn+1/\st.turn+1<=((n+1:Nat):Int)
  omega
theorem zEe {g g':Folder}:setF { st with folders:=st.folders++[g] } st.folders.length g'={ st with folders:=st.folders++[g'] }:=by
 unfold setF
 simp
theorem zP0 {g:Folder}:fo { st with folders:=st.folders++[g] } st.folders.length=g:=by
 unfold fo
 simp
theorem zLl (h:VInv n st) (hc:CallOk c) (hu:c.user∈st.users.map User.name) (hno:zV st c.folder=none):
  ∃g',z47 st c={ st with folders:=st.folders++[g'],turn:=st.turn+1 }/\g'.name=c.folder/\zL g'=⟨c.folder,1,[],c.other,[⟨c.user,4⟩],0,false,c.user⟩/\FInv (n+1) (st.users.map User.name) g'/\ZQ g'<=3:=by
 obtain ⟨e1,he1⟩:∃e1:List At,zN { st with folders:=st.folders++[z0g st c] } 4 c.folder=e1:=⟨_,rfl⟩
 have hch:∀{i:Nat} {s:Nm} {g:Folder} {x:At},g.name=c.folder->x∈zN { st with folders:=st.folders++[g] } i s->x.name.size<=20:=fun {i s g x} hg hx=>by
  obtain ⟨f,hf⟩:=z3q hx
  rw [z6k (by rw [hg];exact hno)] at hf
  split at hf
  ·rename_i e
   rw [e,hg]
   exact hc.f20
  ·have:=(h.fol f (z15 hf)).nm
   rwa [z1s hf] at this
 have hF:FInv (n+1) (st.users.map User.name) { z0g st c with epochs:=[⟨1,1,1,e1,c.user⟩] }:=by
  have hnow:zL { z0g st c with epochs:=[⟨1,1,1,e1,c.user⟩] }=⟨c.folder,1,[],c.other,[⟨c.user,4⟩],0,false,c.user⟩:=rfl
  refine ⟨hc.f20,by simp [z0g],by simp,by simp [z0g,z1i],fun w hw=>?_,fun x hx=>by simp [z0g] at hx,?_,fun m hm=>?_,fun l hl=>by simp [z0g] at hl,fun e he=>?_,?_,?_,fun m hm=>?_⟩
  ·simp [z0g] at hw
   rw [hw];exact hu
  ·rw [hnow]
   refine (Ro.right_iff _).2 ⟨fun m hm=>?_,by simp,by simp,by simp [Ro.own4]⟩
   rw [zml hm]
   exact ⟨hc.user,by simp [Ro.isOf]⟩
  ·simp [z0g] at hm
   subst hm
   exact ⟨hc.o20,by simp,fun x hx=>by rw [zml hx];exact hu⟩
  ·rw [zml he]
   exact ⟨by have:=z2z { st with folders:=st.folders++[z0g st c] } 4 c.folder;rw [he1] at this;show e1.length<=20;omega,fun y hy=>hch (g:=z0g st c) rfl (by rw [he1];exact hy)⟩
  ·show (0:Int)<=1/\(1:Int)<=((n+1:Nat):Int)
   omega
  ·rw [hnow]
   show (0:Int)<=1/\(1:Int)<=((n+1:Nat):Int)
   omega
  ·simp [z0g] at hm
   subst hm
   rfl
 have hm:∀s,∀m∈(zL ((zV { st with folders:=st.folders++[{ z0g st c with epochs:=[⟨1,1,1,e1,c.user⟩] }] } s).getD yX)).members,m.name∈st.users.map User.name:=fun s=>by
  rw [z6k (show zV st c.folder=none from hno)]
  split
  ·exact (hF.mn _ (z0j hF.man)).2.2
  ·exact zG4 h s
 obtain ⟨h1,h2⟩:=z8x hm ((zN { st with folders:=st.folders++[{ z0g st c with epochs:=[⟨1,1,1,e1,c.user⟩] }] } 4 c.folder).drop 1) (fun x hx=>hch (g:={ z0g st c with epochs:=[⟨1,1,1,e1,c.user⟩] }) rfl (List.mem_of_mem_drop hx)) hF
 have hg:=z80 { st with folders:=st.folders++[{ z0g st c with epochs:=[⟨1,1,1,e1,c.user⟩] }] } ((zN { st with folders:=st.folders++[{ z0g st c with epochs:=[⟨1,1,1,e1,c.user⟩] }] } 4 c.folder).drop 1) { z0g st c with epochs:=[⟨1,1,1,e1,c.user⟩] }
 refine ⟨_,?_,hg.name,hg.now,h1,Nat.le_trans h2 (by unfold ZQ z0g;simp)⟩
 unfold z47
 dsimp only
 rw [he1,zEe]
 unfold z05
 rw [zP0,zEe]
 rfl
end
end
section
section
variable {n:Nat} {st:State} {c:Call}
theorem zEf (hc:CallOk c) {late:Bool} (hk:c.kind≠1) (h:ZT st c late=0):(∃u,yR st c.user=some u)/\(c.folder≠⟨#[]⟩->c.kind≠2->∃k,Z7 st c.folder=some k)/\(c.other≠⟨#[]⟩->c.kind=3->∃k,Z7 st c.other=some k)/\(c.other≠⟨#[]⟩->3 < c.kind->∃u,yR st c.other=some u):=by
 unfold ZT at h
 rw [if_neg hk] at h
 cases hu:yR st c.user with
 | none=>rw [hu] at h;simp at h
 | some u=>
  rw [hu] at h
  dsimp only at h
  refine ⟨⟨u,rfl⟩,fun h1 h2=>?_,fun h1 h2=>?_,fun h1 h2=>?_⟩
  all_goals
   split at h
   ·simp at h
   split at h
   ·simp at h
   rename_i a2
   split at h
   ·simp at h
   rename_i a3
   split at h
   ·simp at h
   rename_i a4
  ·cases hf:Z7 st c.folder with
   | some k=>exact ⟨k,rfl⟩
   | none=>simp [isE,h1,h2,hf] at a2
  ·cases hf:Z7 st c.other with
   | some k=>exact ⟨k,rfl⟩
   | none=>simp [isE,h1,h2,hf] at a3
  cases hf:yR st c.other with
  | some k=>exact ⟨k,rfl⟩
  | none=>simp [isE,h1,h2,hf] at a4
theorem zQ0 (hc:c.other=⟨#[]⟩\/∃k,Z7 st c.other=some k):c.other=Top\/ZJ (y9 st) c.other=true:=hc.imp id fun ⟨_,h⟩=>z7d h
theorem zG6 (h:VInv n st) (hc:CallOk c) (hk:c.kind=2) (hu:c.user∈st.users.map User.name) (h1:foI st c.folder=none) (h2:z1v st c=0) (h3:(zN st 4 c.other).length < 4):VInv (n+1) (z47 st c):=by
 have hno:=z7y.1 h1
 obtain ⟨_,e,hn,hm,hF,hs⟩:=zLl h hc hu hno
 have hne:=z5v (hc.fol (by omega) (by omega))
 have hp:c.other=Top\/ZJ (y9 st) c.other=true:=by
  unfold z1v at h2
  by_cases ho:c.other=⟨#[]⟩
  ·exact .inl ho
  ·right
   rw [if_neg (by simpa [isE] using ho)] at h2
   cases ht:Z7 st c.other with
   | none=>rw [ht] at h2;simp at h2
   | some k=>exact z7d ht
 rw [e]
 refine h.folAdd (by rw [hn];exact hno) (by rw [hn];exact hne) hF hs ?_
 rw [hn,hm]
 refine h.tree.add ?_ hne hp ?_
 ·unfold ZJ y9
  rw [hno]
  rfl
 rw [<-zEa h.tree h.top hp]
 omega
theorem zP1 (h:VInv n st) (hc:CallOk c) {k:Nat} (hk:k < st.folders.length):
  ∃f',z9c st k c={ setF st k f' with turn:=st.turn+1 }/\f'.name=(fo st k).name/\zL f'={ zL (fo st k) with parent:=c.other,cut:=(zL (fo st k)).seq+1,seq:=(zL (fo st k)).seq+1,who:=c.user }/\FInv (n+1) (st.users.map User.name) f'/\ZQ f'<=ZQ (fo st k)+3:=by
 have hF:=h.atF hk
 obtain ⟨w1,_,w3,w4⟩:=hF.write (m:={ zL (fo st k) with parent:=c.other,cut:=(zL (fo st k)).seq+1 }) (who:=c.user) hc.o20 hF.mem (hF.mn _ (z0j hF.man)).2.2 (show (zL (fo st k)).prev=[] from hF.pv _ (z0j hF.man))
 obtain ⟨f',c1,c2,c3,_⟩:=zDe h hk w3 w1 fun x hx=>z81 h hk w3 hx
 refine ⟨f',?_,c2.name.trans w3,c2.now.trans w4,c3,by omega⟩
 unfold z9c
 dsimp only
 rw [c1]
 rfl
theorem zJm (h:VInv n st) (hc:CallOk c) {k:Nat} (hk:Z7 st c.folder=some k) (ho:c.other=⟨#[]⟩\/∃q,Z7 st c.other=some q)
  (h1:(zN st 4 c.other).any (fun x=>decide (x.name=c.folder))=false) (h2:(zN st 4 c.other).length+YE st 5 c.folder<=4):VInv (n+1) (z9c st k c):=by
 obtain ⟨hfo,hg⟩:=z6a hk
 obtain ⟨hkl,hn,_⟩:=z1x hfo
 obtain ⟨_,e,en,em,eF,es⟩:=zP1 h hc hkl
 rw [e]
 have hp:=zQ0 ho
 refine h.turnF hkl en eF es ?_ _ (by have:=h.turn;omega)
 rw [en,em,hn]
 show Inv (upd (y9 st) c.folder (c.other,(zL (fo st k)).gone))
 rw [hg]
 have hl:=z7d hk
 refine h.tree.move hl hp (fun hm=>?_) (z9g h.names h.tree 5 c.folder hl (by omega)) (by rw [<-zEa h.tree h.top hp];exact h2)
 rw [(zLk h.tree h.top hp c.folder).2 hm] at h1
 cases h1
theorem zLm (h:VInv n st) {s:Nm} (hl:ZJ (y9 st) s=true) (hh:YE st 5 s<=1):∀x,ZJ (y9 st) x=true->YW (y9 st) x≠s:=fun x hx e=>by
 obtain ⟨h1,_⟩:=(z9g h.names h.tree 5 s hl (by omega)).2 hl
 have h2:=z2w h.tree hx
 rw [e] at h2
 have:=h1 x (by rw [z4b h.tree hx,e];exact zmc _ (z78 h.tree hl))
 omega
theorem zG7 (h:VInv n st) {k:Nat} (hk:Z7 st c.folder=some k) (hh:YE st 5 c.folder<=1):
  VInv (n+1) { setF st k (z0f (fo st k) { zL (fo st k) with gone:=true } c.user) with turn:=st.turn+1 }:=by
 obtain ⟨hfo,_⟩:=z6a hk
 obtain ⟨hkl,hn,_⟩:=z1x hfo
 have hF:=h.atF hkl
 obtain ⟨w1,_,w3,w4⟩:=hF.write (m:={ zL (fo st k) with gone:=true }) (who:=c.user) (hF.mn _ (z0j hF.man)).1 hF.mem (hF.mn _ (z0j hF.man)).2.2 (show (zL (fo st k)).prev=[] from hF.pv _ (z0j hF.man))
 refine h.turnF hkl w3 w1 (by omega) ?_ _ (by have:=h.turn;omega)
 rw [w3,w4,hn]
 exact h.tree.gone (z7d hk) (zLm h (z7d hk) hh)
theorem zF1 (h:VInv n st) (hc:CallOk c) (hk5:5<=c.kind/\c.kind<=7) {k:Nat} (hk:Z7 st c.folder=some k) (hu:c.other∈st.users.map User.name) (he:yI c (zL (fo st k)).members=0):VInv (n+1)
  (setF st k (z0f (if c.kind=5\/(c.kind=6/\2<=c.role) then yZ (fo st k) c.other (decide (2<=c.role)) else fo st k) { zL (fo st k) with members:=Ro.withOf (zL (fo st k)).members c.other c.role,cut:=if c.kind=7 then (zL (fo st k)).seq+1 else (zL (fo st k)).cut } c.user)):=by
 obtain ⟨hfo,_⟩:=z6a hk
 obtain ⟨hkl,_,_⟩:=z1x hfo
 have hF:=h.atF hkl
 have hnm:=hc.oth hk5.1 hk5.2
 have hR:Ro.RightL (Ro.withOf (zL (fo st k)).members c.other c.role):=by
  unfold yI at he
  by_cases k5:c.kind=5
  ·rw [if_pos k5] at he
   have hr:=hc.role (.inl k5)
   refine Ro.right_share (by_:=c.user) ?_
   unfold Ro.shareD
   rw [hF.mem,hnm,if_neg (by unfold Ro.isOf;simp [hr.1,hr.2])]
   exact he
  ·rw [if_neg k5] at he
   by_cases k6:c.kind=6
   ·rw [if_pos k6] at he
    have hr:=hc.role (.inr k6)
    refine Ro.right_change (by_:=c.user) ?_
    unfold Ro.changeD
    rw [hF.mem,hnm,if_neg (by unfold Ro.isOf;simp [hr.1,hr.2])]
    exact he
   ·rw [if_neg k6] at he
    rw [hc.rol0 (by omega)]
    refine Ro.right_revoke (by_:=c.user) ?_
    unfold Ro.revokeD
    rw [hF.mem,hnm,if_neg (by simp)]
    exact he
 have hF1:FInv n (st.users.map User.name) (if c.kind=5\/(c.kind=6/\2<=c.role) then yZ (fo st k) c.other (decide (2<=c.role)) else fo st k):=by
  split
  ·exact hF.give hu _
  ·exact hF
 have hnow:zL (if c.kind=5\/(c.kind=6/\2<=c.role) then yZ (fo st k) c.other (decide (2<=c.role)) else fo st k)=zL (fo st k):=by split<;>rfl
 have hnm2:(if c.kind=5\/(c.kind=6/\2<=c.role) then yZ (fo st k) c.other (decide (2<=c.role)) else fo st k).name=(fo st k).name:=by split<;>rfl
 have hsz:ZQ (if c.kind=5\/(c.kind=6/\2<=c.role) then yZ (fo st k) c.other (decide (2<=c.role)) else fo st k)=ZQ (fo st k):=by split<;>rfl
 obtain ⟨w1,_,w3,w4⟩:=hF1.write (m:={ zL (fo st k) with members:=Ro.withOf (zL (fo st k)).members c.other c.role,cut:=if c.kind=7 then (zL (fo st k)).seq+1 else (zL (fo st k)).cut }) (who:=c.user) (hF.mn _ (z0j hF.man)).1 ((Ro.right_iff _).2 hR) (fun x hx=>by
  rcases zEd hx with e | e
  ·rw [e];exact hu
  ·exact (hF.mn _ (z0j hF.man)).2.2 x e) (show (zL (fo st k)).prev=[] from hF.pv _ (z0j hF.man))
 exact h.put hkl (w3.trans hnm2) w1 (by omega) (by rw [w4]) (by rw [w4])
theorem zG8 (h:VInv n st) {k:Nat} (hk:k < st.folders.length) (who:Nm):∃f1,z4k st k who=setF st k f1/\f1.name=(fo st k).name/\f1.manifests=(fo st k).manifests/\f1.items=(fo st k).items/\FInv n (st.users.map User.name) f1/\ZQ f1=ZQ (fo st k)+1:=by
 have hF:=h.atF hk
 obtain ⟨b1,b2⟩:=hF.begins (st:=st) (fun x hx=>zHi h hx) who fun x=>decide (2<=x.role)
 have g:=z7z (fun x=>decide (2<=x.role)) (zL (fo st k)).members { fo st k with epochs:=(fo st k).epochs++[z63 st (fo st k) who] }
 exact ⟨_,rfl,g.name,g.man,g.it,b1,b2⟩
theorem z4v {f:Folder} {s:Nm} {j:Nat} (h:z0e f s=some j):f.items[j]? =some (ZS f j)/\(ZS f j).name=s:=by
 obtain ⟨hj,hp,_⟩:=List.findIdx?_eq_some_iff_getElem.1 h
 have e:f.items[j]? =some f.items[j]:=List.getElem?_eq_getElem hj
 have e2:ZS f j=f.items[j]:=by unfold ZS;rw [e];rfl
 rw [e2]
 exact ⟨e,by simpa [isI] using hp⟩
theorem zLn (h:VInv n st) {k:Nat} (hk:k < st.folders.length):∃f1,(∀who:Nm,who=c.user->z05 (if Y8 st c.folder then z4k st k who else st) k=setF st k f1)/\f1.name=(fo st k).name/\f1.manifests=(fo st k).manifests/\f1.items=(fo st k).items/\FInv n (st.users.map User.name) f1/\ZQ f1<=ZQ (fo st k)+2:=by
 by_cases hs:Y8 st c.folder=true
 ·obtain ⟨_,b1,b2,b3,b4,b5,_⟩:=zG8 h hk c.user
  obtain ⟨f1,c1,c2,c3,c4⟩:=zDe h hk b2 b5 fun x hx=>z81 h hk b2 hx
  exact ⟨f1,fun who e=>by rw [if_pos hs,e,b1,c1],c2.name.trans b2,c2.man.trans b3,c2.it.trans b4,c3,by omega⟩
 have hF:=h.atF hk
 obtain ⟨f1,c1,c2,c3,c4⟩:=zDe h hk (f1:=fo st k) rfl hF fun x hx=>z81 h hk rfl hx
 rw [z5u] at c1
 exact ⟨f1,fun who e=>by rw [if_neg hs,c1],c2.name,c2.man,c2.it,c3,by omega⟩
theorem zEg (h:VInv n st) {k:Nat} (hk:k < st.folders.length) {f1:Folder} (hn:f1.name=(fo st k).name) (hm:f1.manifests=(fo st k).manifests) (hF:FInv n (st.users.map User.name) f1) (hs:ZQ f1<=ZQ (fo st k)+2) (i:Option Nat) (hi:∀j,i=some j->f1.items[j]? =some (ZS f1 j)) {name:Nm} (hnm:name.size<=20) (v:Version):VInv (n+1) (z64 (setF st k f1) k i name v).1:=by
 unfold z64
 rw [z1p hk]
 dsimp only
 cases i with
 | none=>
  dsimp only
  rw [z0q]
  have hF2:=hF.addN hnm { v with epoch:=f1.epochs.length }
  refine h.put hk hn hF2 ?_ (by rw [z2d (f:=fo st k) (by exact hm)]) (by rw [z2d (f:=fo st k) (by exact hm)])
  unfold ZQ at hs⊢
  simp
  omega
 | some j=>
  dsimp only
  rw [z0q]
  have hF2:=hF.addV (hi j rfl) { v with epoch:=f1.epochs.length }
  refine h.put hk hn hF2 ?_ (by rw [z2d (f:=fo st k) (by exact hm)]) (by rw [z2d (f:=fo st k) (by exact hm)])
  unfold ZQ at hs⊢
  simp
  omega
theorem zEh (h:VInv n st) (hc:CallOk c) {k:Nat} (hk:Z7 st c.folder=some k):VInv (n+1) (z5f st c k).1:=by
 obtain ⟨hfo,_⟩:=z6a hk
 obtain ⟨hkl,_,_⟩:=z1x hfo
 obtain ⟨f1,p1,p2,p3,p4,p5,p6⟩:=zLn (c:=c) h hkl
 unfold z5f
 dsimp only
 rw [p1 c.user rfl]
 refine zEg h hkl p2 p3 p5 p6 _ (fun j hj=>?_) hc.n20 _
 obtain ⟨e1,_⟩:=z4v hj
 have:ZS f1 j=ZS (fo st k) j:=by unfold ZS;rw [p4]
 rw [this,p4]
 exact e1
theorem zJn (h:VInv n st) (hc:CallOk c) {k:Nat} (hk:Z7 st c.folder=some k) {j:Nat} (hj:z0e (fo st k) c.name=some j) (v:Version):VInv (n+1) (z64 st k (some j) c.name v).1:=by
 obtain ⟨hfo,_⟩:=z6a hk
 obtain ⟨hkl,_,_⟩:=z1x hfo
 have:=zEg h hkl (f1:=fo st k) rfl rfl (h.atF hkl) (by omega) (some j) (fun i hi=>by cases hi;exact (z4v hj).1) hc.n20 v
 rwa [z5u] at this
end
theorem Z3 {α β:Type} {p:Prop} [Decidable p] {P:α->Prop} {a b:α×β} (h1:p->P a.1) (h2:¬p->P b.1):P (if p then a else b).1:=by
 split
 ·rename_i h;exact h1 h
 rename_i h;exact h2 h
theorem zNi {n:Nat} {st:State} {c:Call} {late:Bool} (h:VInv n st) (hc:CallOk c) (hb:ZT st c late=0):VInv (n+1) (doR st c).1:=by
 have hsame:VInv (n+1) st:=h.mono (by omega)
 unfold doR
 dsimp only
 by_cases k1:c.kind=1
 ·rw [if_pos k1]
  unfold z0d
  refine Z3 (fun _=>hsame) fun _=>Z3 (fun _=>hsame) fun h2=>?_
  exact h.userAdd (by omega) hc.u20
 rw [if_neg k1]
 obtain ⟨⟨u,hu⟩,hfol,hoth,hou⟩:=zEf hc k1 hb
 have hum:=zG5 hu
 by_cases k2:c.kind=2
 ·rw [if_pos k2]
  unfold YL
  refine Z3 (fun _=>hsame) fun h1=>Z3 (fun _=>hsame) fun h2=>Z3 (fun _=>hsame) fun h3=>?_
  exact zG6 h hc k2 hum (by simpa using h1) (by simpa using h2) (by omega)
 rw [if_neg k2]
 have hthere:c.kind<=13->∃k,Z7 st c.folder=some k:=fun h13=>hfol (z5v (hc.fol (by have:=hc.k1;omega) h13)) k2
 by_cases k3:c.kind=3
 ·rw [if_pos k3]
  obtain ⟨k,hk⟩:=hthere (by omega)
  rw [hk,Option.getD_some]
  unfold z2q
  refine Z3 (fun _=>hsame) fun _=>Z3 (fun _=>hsame) fun _=>Z3 (fun _=>hsame) fun h1=>Z3 (fun _=>hsame) fun h2=>?_
  refine zJm h hc hk ?_ (by simpa using h1) (by omega)
  by_cases ho:c.other=⟨#[]⟩
  ·exact .inl ho
  exact .inr (hoth ho k3)
 rw [if_neg k3]
 by_cases k4:c.kind=4
 ·rw [if_pos k4]
  obtain ⟨k,hk⟩:=hthere (by omega)
  rw [hk,Option.getD_some]
  unfold z0t
  refine Z3 (fun _=>hsame) fun _=>Z3 (fun _=>hsame) fun h1=>?_
  exact zG7 h hk (by omega)
 rw [if_neg k4]
 by_cases k5:c.kind=5\/c.kind=6\/c.kind=7
 ·rw [if_pos k5]
  obtain ⟨k,hk⟩:=hthere (by omega)
  rw [hk,Option.getD_some]
  unfold Y9
  dsimp only
  refine Z3 (fun _=>hsame) fun h1=>Z3 (fun _=>hsame) fun _=>?_
  obtain ⟨q,hq⟩:=hou (z5v (hc.oth (by omega) (by omega))) (by omega)
  exact zF1 h hc (by omega) hk (zG5 hq) (by omega)
 rw [if_neg k5]
 by_cases k8:c.kind=8
 ·rw [if_pos k8]
  obtain ⟨k,hk⟩:=hthere (by omega)
  rw [hk,Option.getD_some]
  unfold z3x
  refine Z3 (fun _=>hsame) fun _=>?_
  split
  ·exact Z3 (fun _=>hsame) fun _=>zEh h hc hk
  exact Z3 (fun _=>hsame) fun _=>zEh h hc hk
 rw [if_neg k8]
 by_cases k9:c.kind=9
 ·rw [if_pos k9];exact hsame
 rw [if_neg k9]
 by_cases k10:c.kind=10
 ·rw [if_pos k10];exact hsame
 rw [if_neg k10]
 by_cases k11:c.kind=11
 ·rw [if_pos k11]
  obtain ⟨k,hk⟩:=hthere (by omega)
  rw [hk,Option.getD_some]
  unfold z2r
  refine Z3 (fun _=>hsame) fun _=>?_
  split
  ·exact hsame
  rename_i j hj
  exact Z3 (fun _=>hsame) fun _=>Z3 (fun _=>hsame) fun _=>zJn h hc hk hj _
 rw [if_neg k11]
 by_cases k12:c.kind=12
 ·rw [if_pos k12];exact hsame
 rw [if_neg k12]
 by_cases k14:c.kind=14
 ·rw [if_pos k14]
  unfold z21
  exact Z3 (fun _=>hsame) fun _=>h.depAdd hc.u20 hc.o20
 rw [if_neg k14]
 by_cases k15:c.kind=15
 ·rw [if_pos k15]
  exact h.lostS _ _
 rw [if_neg k15]
 by_cases k16:c.kind=16
 ·rw [if_pos k16]
  unfold z0u
  exact Z3 (fun _=>hsame) fun _=>Z3 (fun _=>hsame) fun _=>h.lostS _ _
 rw [if_neg k16]
 exact hsame
theorem zBi {n:Nat} {st:State} {c:Call} {late:Bool} (h:VInv n st) (hc:CallOk c):VInv (n+1) (yL st c late).1:=by
 unfold yL
 split
 ·exact h.mono (by omega)
 rename_i hb
 exact zNi h hc (by simpa using hb)
end
section
open Go.RowKit Go.Deep
section
variable {X:Nat->Prop} {base bw:Nat} {W:World} {R:RM} {c:Call} {dv:Value} {st:State} {done late:Bool}
def zDb (X:Nat->Prop) (a b:Nat):Nat->Prop:=fun x=>(X x\/x=a)\/x=b
def zNf (m:Manifest) (n:Int) (pv mv:Value) (s:Nm):Array Value:=#[.string m.folder,.int .i64 n,pv,.string m.parent,mv,.int .i64 m.cut,.bool m.gone,.string s]
theorem Z4 {w:World} {pb:Nat} {T:TypeId} {z0 z1 z2 z3 z4 z5 z6:Value} (h:w.heap[pb]? =some (.cells #[z0,z1,z2,z3,z4,z5,z6] T (0,0))) (a0 a1 a2 a3 a4 a5 a6:Value):
  (((((((w.setCell ⟨pb,0,none⟩ a0).setCell ⟨pb,1,none⟩ a1).setCell ⟨pb,2,none⟩ a2).setCell ⟨pb,3,none⟩ a3).setCell ⟨pb,4,none⟩ a4).setCell ⟨pb,5,none⟩ a5).setCell ⟨pb,6,none⟩ a6).heap[pb]? =some (.cells #[a0,a1,a2,a3,a4,a5,a6] T (0,0))/\ButB (fun x=>x=pb) w (((((((w.setCell ⟨pb,0,none⟩ a0).setCell ⟨pb,1,none⟩ a1).setCell ⟨pb,2,none⟩ a2).setCell ⟨pb,3,none⟩ a3).setCell ⟨pb,4,none⟩ a4).setCell ⟨pb,5,none⟩ a5).setCell ⟨pb,6,none⟩ a6):=by
 have h0:=zI (i:=0) (cs':=#[a0,z1,z2,z3,z4,z5,z6]) a0 h rfl
 have h1:=zI (i:=1) (cs':=#[a0,a1,z2,z3,z4,z5,z6]) a1 h0 rfl
 have h2:=zI (i:=2) (cs':=#[a0,a1,a2,z3,z4,z5,z6]) a2 h1 rfl
 have h3:=zI (i:=3) (cs':=#[a0,a1,a2,a3,z4,z5,z6]) a3 h2 rfl
 have h4:=zI (i:=4) (cs':=#[a0,a1,a2,a3,a4,z5,z6]) a4 h3 rfl
 have h5:=zI (i:=5) (cs':=#[a0,a1,a2,a3,a4,a5,z6]) a5 h4 rfl
 have h6:=zI (i:=6) (cs':=#[a0,a1,a2,a3,a4,a5,a6]) a6 h5 rfl
 exact ⟨h6,((((((((ButB.refl (fun x=>x=pb) w).set _ _ rfl).set _ _ rfl).set _ _ rfl).set _ _ rfl).set _ _ rfl).set _ _ rfl).set _ _ rfl)⟩
theorem WK.writ (h:WK X base bw W R c dv st done late) {k g o:Nat} (hk:k < st.folders.length) (ha:foAt R k g o) (ht:0<=(fo st k).turn/\(fo st k).turn<=1000000) (hl:(fo st k).manifests.length<=9999) {w8:World} {A8:Option Addr} {n8 cp8:Nat} {x:List Value} {m:Manifest}
  (r8:RowC 84 8 w8 (.slice A8 n8 cp8) ((R (.ma k)).cells++[x])) (p8:ButB (fun z=>(R (.ma k)).v.ownBlock=some z) W w8) (o8:(Value.slice A8 n8 cp8).ownBlock=(R (.ma k)).v.ownBlock\/∃k,(Value.slice A8 n8 cp8).ownBlock=some k/\W.heap.size<=k) (hx:ZO (Imm X bw R W) W x m):
  ∃R',WK X base bw ((w8.setCell ⟨g,o+2,none⟩ (.slice A8 n8 cp8)).setCell ⟨g,o+1,none⟩ (.int .i64 ((fo st k).turn+1))) R' c dv (setF st k { fo st k with manifests:=(fo st k).manifests++[m],turn:=(fo st k).turn+1 }) done late/\
   Mut bw R W R' ((w8.setCell ⟨g,o+2,none⟩ (.slice A8 n8 cp8)).setCell ⟨g,o+1,none⟩ (.int .i64 ((fo st k).turn+1)))/\(R' .fo).v=(R .fo).v:=by
 have hf:=ZK hk
 have hcl:(R (.ma k)).cells.length=(fo st k).manifests.length:=(h.is.fo k _ hf).2.man.1
 obtain ⟨o1,m1,b1,_⟩:=h.put (W':=w8) (.ma k) ⟨.slice A8 n8 cp8,(R (.ma k)).cells++[x]⟩ p8 r8 (by simp;omega) (fun b hb=>o8.imp (fun e=>by rw [<-e];exact hb) fun ⟨k2,e,hk2⟩=>by
  rw [show (Value.slice A8 n8 cp8).ownBlock=some b from hb] at e
  obtain rfl:=zsi e
  exact hk2)
 obtain ⟨h8,m8⟩:=h.sub hf ha (k:= .ma k) (j:=2) (u:= .slice A8 n8 cp8) (f':={ fo st k with manifests:=(fo st k).manifests++[m] }) ⟨by simp,by simp,by simp⟩ (by omega) o1 m1 b1 rfl fun kp=>h.is.maRow hf kp (((h.is.fo k _ hf).2.keep kp).man.snoc (Y1 hx kp))
 have e2:((zK (zK R (.ma k) ⟨.slice A8 n8 cp8,(R (.ma k)).cells++[x]⟩) .fo (ZP R k ((hdr R k (fo st k)).set 2 (.slice A8 n8 cp8)))) .fo).v=(R .fo).v:=by rw [yJ];rfl
 obtain ⟨h9,m9⟩:=h8.fturn (i:=k) (f:={ fo st k with manifests:=(fo st k).manifests++[m] }) (n:=(fo st k).turn+1) (by dsimp only;rw [List.getElem?_set_self hk]) (ha.keep e2) (by unfold I64;omega)
 refine ⟨_,?_,m8.trans m9,?_⟩
 ·have e3:({ { st with folders:=st.folders.set k { fo st k with manifests:=(fo st k).manifests++[m] } } with folders:=(st.folders.set k { fo st k with manifests:=(fo st k).manifests++[m] }).set k { { fo st k with manifests:=(fo st k).manifests++[m] } with turn:=(fo st k).turn+1 } }:State)=setF st k { fo st k with manifests:=(fo st k).manifests++[m],turn:=(fo st k).turn+1 }:=by
   unfold setF
   simp
  rw [<-e3]
  exact h9
 rw [yJ]
 exact e2
set_option maxHeartbeats 8000000 in
theorem z7w (h:WK X base bw W R c dv st done late) {k g o:Nat} (hk:k < st.folders.length) (ha:foAt R k g o) {m m':Manifest} (hm:zL (fo st k)=m) (hpv:m.prev=[]/\m'.prev=[]/\m'.folder=m.folder) (hml:m.members.length<=10000)
  (hn:0<=m.seq/\m.seq<=1000000) (ht:0<=(fo st k).turn/\(fo st k).turn<=1000000) (hl:(fo st k).manifests.length<=9999) (hp':m'.parent.size<=140737488355328) (hcut:I64 m'.cut) (fn:FuncId) (caps:Array Value) (hent:∀(args:Array Value) (w:World),(callFunc fn args).run Tryz.prog w= .ok (.enter fn args) w)
  (HC:∀(w1:World) (B:Nat) (pv mv:Value),Below W.heap.size W w1->W.heap.size < B->w1.heap[B]? =some (.cells (zNf m (m.seq+1) pv mv c.user) 84 (0,0))->Sl 2 zY (Imm (zDb X W.heap.size B) bw R w1) w1 mv m.members->
   Calls Tryz.prog fn (#[.pointer (some ⟨B,0,none⟩)]++caps) w1 fun e w2=>e= .returned (.tuple #[])/\ButB (fun x=>x=B) w1 w2/\∃mv',w2.heap[B]? =some (.cells (zNf m' (m.seq+1) pv mv' c.user) 84 (0,0))/\Sl 2 zY (Imm (zDb X W.heap.size B) bw R w2) w2 mv' m'.members):
  Calls Tryz.prog 133 #[.pointer (some ⟨bw,0,none⟩),.pointer (some ⟨g,o,none⟩),.func (.func fn) #[] caps] W fun e w'=>e= .returned (.agg (ZW 0 (m.seq+1)))/\
   ∃R',WK X base bw w' R' c dv (setF st k { fo st k with manifests:=(fo st k).manifests++[{ m' with seq:=m.seq+1,who:=c.user }],turn:=(fo st k).turn+1 }) true late/\Mut bw R W R' w'/\(R' .fo).v=(R .fo).v:=by
 obtain ⟨iManifest,hiManifest,hzManifest,h1Manifest,h2Manifest⟩:=info_parts (show (Tryz.prog.info? 84).map (fun i=>(i.zero,i.size,i.bytes))=some (some (.agg #[.string ⟨#[]⟩,.int .i64 0,.slice none 0 0,.string ⟨#[]⟩,.slice none 0 0,.int .i64 0,.bool false,.string ⟨#[]⟩]),8,120) from by kernel_rfl)
 have hc:=h.call
 obtain ⟨_,_,e7,_,hus,_⟩:=Y7 hc
 obtain ⟨w0,hw0,cw0,fw0,Bw0,qw0⟩:=zO W #[.int .i64 0,.int .i64 0,.string ⟨#[]⟩,.slice none 0 0,.slice none 0 0,.slice none 0 0,.slice none 0 0] 49
 have H0:=zh (h.enter Bw0 qw0)
 have HB0:=zh Bw0
 have HW:=zh h
 have HA:=zh ha
 have hbwl:=h.lt
 obtain ⟨_,_,_,_,_,_,_,_,_,_,_,hF,u0,u1,u2,u3,u4,u5,u6,_,_⟩:=H0.out.fold (ZK hk) ha
 have HN:=zh (z4q (fo st k) _ w0 _ hF)
 clear h hF ha hc e7 cw0 fw0 Bw0
 go_enter Tryz.func133,Tryz.ntmps133
 go_wp2_with fail
 refine zcm HN.out ?_
 rintro _ w1 ⟨⟨_,rfl,hmr⟩,B1⟩
 rw [hm] at hmr
 obtain ⟨m_A2,m_c2,m_A4,m_c4,rfl,m_folder_le,_,_,_,_,m_prev_s,_,m_members_l,m_members_m,m_members_n,m_members_s,_,_⟩:=yO hmr
 obtain ⟨w2,hw2,cw2,fw2,Bw2,_⟩:=zO w1 #[.string ⟨#[]⟩,.int .i64 0,.slice none 0 0,.string ⟨#[]⟩,.slice none 0 0,.int .i64 0,.bool false,.string ⟨#[]⟩] 84
 have HT2:w2.heap[w1.heap.size]? =some (.cells #[.string ⟨#[]⟩,.int .i64 0,.slice none 0 0,.string ⟨#[]⟩,.slice none 0 0,.int .i64 0,.bool false,.string ⟨#[]⟩] 84 (0,0)):=by rw [<-hw2];exact zJ _ rfl
 have d0:w2.cell? ⟨w1.heap.size,0,none⟩=some (.string ⟨#[]⟩):=(zD HT2).1 0 _ rfl
 have d1:w2.cell? ⟨w1.heap.size,1,none⟩=some (.int .i64 0):=(zD HT2).1 1 _ rfl
 have d2:w2.cell? ⟨w1.heap.size,2,none⟩=some (.slice none 0 0):=(zD HT2).1 2 _ rfl
 have d3:w2.cell? ⟨w1.heap.size,3,none⟩=some (.string ⟨#[]⟩):=(zD HT2).1 3 _ rfl
 have d4:w2.cell? ⟨w1.heap.size,4,none⟩=some (.slice none 0 0):=(zD HT2).1 4 _ rfl
 have d5:w2.cell? ⟨w1.heap.size,5,none⟩=some (.int .i64 0):=(zD HT2).1 5 _ rfl
 have d6:w2.cell? ⟨w1.heap.size,6,none⟩=some (.bool false):=(zD HT2).1 6 _ rfl
 have d7:w2.cell? ⟨w1.heap.size,7,none⟩=some (.string ⟨#[]⟩):=(zD HT2).1 7 _ rfl
 have dz:=(zD HT2).2
 have H2:=zh HT2
 have HB1:=zh B1
 have HB2:=zh Bw2
 have hml2:m.members.length<=m_c4:=m_members_l
 have HMS:=zh (show Sl 2 zY (fun _=>True) w1 (.slice m_A4 m.members.length m_c4) m.members from ⟨_,_,rfl,m_members_l,m_members_m,m_members_n,m_members_s⟩)
 clear cw2 fw2 HT2 m_prev_s m_members_s hmr B1 Bw2
 go_wp2_with fail
 obtain ⟨E1,E2⟩:=z8p H2.out (.string m.folder) (.int .i64 m.seq) (.slice m_A2 0 m_c2) (.string m.parent) (.slice m_A4 m.members.length m_c4) (.int .i64 m.cut) (.bool m.gone) (.string m.who)
 generalize hW3:World.setCell _ _ _=w3 at E1 E2⊢
 have B3:Below w1.heap.size w1 w3:=ButB.below HB2.out (by omega) (fun z hz=>by rw [hz];exact znl _) E2
 have BW1:=zB HB0.out HB1.out
 have BW3:=zB BW1 B3
 clear hW3 d0 d1 d2 d3 d4 d5 d6 d7 dz E2
 refine zcm (z8t m.members _ w3 (fun _=>True) (HMS.out.keep ZC (by decide) (zH B3)) hml) ?_
 rintro e4 w4 ⟨⟨_,cells4,rfl,r4,a4,o4⟩,B4⟩
 obtain ⟨A4',n4,c4',rfl⟩:=r4.shape3
 have hz1:=BW1.size
 have hz01:=HB1.out.size
 have hz3:=B3.size
 have hz31:=zM E1
 have hz4:=B4.size
 have HT4:=zh ((B4.block _ (zM E1)).trans E1)
 have f1:w4.cell? ⟨w1.heap.size,1,none⟩=some (.int .i64 m.seq):=(zD HT4.out).1 1 _ rfl
 have f4:w4.cell? ⟨w1.heap.size,4,none⟩=some (.slice m_A4 m.members.length m_c4):=(zD HT4.out).1 4 _ rfl
 have f7:w4.cell? ⟨w1.heap.size,7,none⟩=some (.string m.who):=(zD HT4.out).1 7 _ rfl
 have fz:=(zD HT4.out).2
 have BW4:=zB BW3 B4
 have s1:=(BW4.cell (p:=⟨bw,1,none⟩) hbwl).trans (HW.out.cells.1 1 _ rfl)
 have hne1:¬(bw=w1.heap.size):=by omega
 have hne2:¬(w1.heap.size=bw):=by omega
 have hwr:IntKind.i64.wrap (m.seq+1)=m.seq+1:=by rw [IntKind.wrap_i64];omega
 have HR4:=zh r4
 have HA4:=zh a4
 have HO4:=zh o4
 have HBW4:=zh BW4
 have HBW1:=zh BW1
 have HB34:=zh (zB B3 B4)
 clear r4 a4 o4 BW1 BW3 BW4 B3 B4 E1
 go_wp2_with fail
 have T1:=zI (i:=4) (.slice A4' n4 c4') HT4.out rfl
 have T2:=zI (i:=1) (.int .i64 (m.seq+1)) T1 rfl
 have T3:=zI (i:=7) (.string c.user) T2 rfl
 have S3:ButB (fun x=>x=w1.heap.size) w4 (((w4.setCell ⟨w1.heap.size,4,none⟩ (.slice A4' n4 c4')).setCell ⟨w1.heap.size,1,none⟩ (.int .i64 (m.seq+1))).setCell ⟨w1.heap.size,7,none⟩ (.string c.user)):=(((ButB.refl (fun x=>x=w1.heap.size) w4).set _ _ rfl).set _ _ rfl).set _ _ rfl
 generalize hW5:World.setCell _ _ _=w5 at T3 S3⊢
 clear hW5 f1 f4 f7 fz T1 T2 s1
 have hl4:cells4.length<=10000:=by have:=HA4.out.1;omega
 have hlt4:∀b,(Value.slice A4' n4 c4').ownBlock=some b->b≠w1.heap.size/\b < w4.heap.size/\W.heap.size < b/\b≠bw:=fun b hb=>by
  have h1:=HR4.out.lt b hb
  have h2:=HO4.out b hb
  omega
 have SL5:Sl 2 zY (Imm (zDb X W.heap.size w1.heap.size) bw R w5) w5 (.slice A4' n4 c4') m.members:=by
  refine Ro.slM_new (z0i ZC (HR4.out.keep fun b hb=>S3.block b (hlt4 b hb).2.1 (hlt4 b hb).1) hl4 (S:=fun _=>True) (HA4.out.imp fun _ _ hr=>hr)) fun b hb=>?_
  obtain ⟨b1,b2,_,b4⟩:=hlt4 b hb
  refine ⟨zll b2 S3.size,b4,fun e=>?_,fun e=>?_⟩
  ·have:=HW.out.os.lt e
   omega
  ·rcases e with (e | e) | e
   ·have:=HW.out.xl b e
    omega
   ·omega
   ·exact b1 e
 have H1:=H0.out.below HB1.out
 have H4:=zh (WK.enter H1 HB34.out (by omega))
 have H5:=zh (WK.leave H4.out (S3.mono fun x hx=> .inr hx) fun b hb=>hb)
 have B5:Below W.heap.size W w5:=ButB.below HBW4.out (by omega) (fun z hz=>by omega) S3
 have HB5:=zh B5
 clear H1
 refine zcm (HC w5 w1.heap.size (.slice m_A2 0 m_c2) (.slice A4' n4 c4') B5 (by omega) T3 SL5) ?_
 rintro e6 w6 ⟨rfl,S6,mv',T6,SL6⟩
 obtain ⟨Am,cmv,hmv,_⟩:=id SL6
 subst hmv
 have H6:=zh (WK.leave H5.out (S6.mono fun x hx=> .inr hx) fun b hb=>hb)
 have B6:Below W.heap.size W w6:=ButB.below B5 (by have:=HB5.out.size;omega) (fun z hz=>by omega) S6
 have HB6:=zh B6
 have HS6:=zh SL6
 have HT6:=zh T6
 obtain ⟨D2,e2,_,_,_,e4,_,_,_,e6,eh,_,u0,u1,u2,u3,u4,u5,u6,hg6,gz⟩:=H6.out.fold (ZK hk) HA.out
 have hma:(R (.ma k)).v= .slice D2 (fo st k).manifests.length e2:=by
  simp only [hdr,List.cons.injEq] at eh
  exact eh.2.2.1
 have HROW:=zh (show RowC 84 8 w6 (.slice D2 (fo st k).manifests.length e2) (R (.ma k)).cells from by rw [<-hma];exact H6.out.os.row (.ma k))
 have x1:w6.cell? ⟨w1.heap.size,1,none⟩=some (.int .i64 (m.seq+1)):=(zD T6).1 1 _ rfl
 have HGZ:=zh gz
 have HNG:=zh (show (Value.slice D2 (fo st k).manifests.length e2).ownBlock≠some g from fun e=>by
  rw [<-hma] at e
  obtain ⟨_,_,_,hv9,_⟩:=HA.out
  have:=H6.out.os.inj (.ma k) .fo g e (by rw [hv9];rfl)
  cases this)
 have hg1:¬(g=w1.heap.size):=fun e=>by
  have:=HW.out.os.lt HA.out.row
  omega
 have hg2:¬(w1.heap.size=g):=fun e=>hg1 e.symm
 have hrow:∀b,(Value.slice D2 (fo st k).manifests.length e2).ownBlock=some b->b < W.heap.size:=fun b e=>HW.out.os.lt ⟨.ma k,by rw [hma];exact e⟩
 have HNB:=zh (show (Value.slice D2 (fo st k).manifests.length e2).ownBlock≠some w1.heap.size from fun e=>by have:=hrow _ e;omega)
 have HNW:=zh (show (Value.slice D2 (fo st k).manifests.length e2).ownBlock≠some W.heap.size from fun e=>by have:=hrow _ e;omega)
 have HK6:=zh (show w6.heap[W.heap.size]? =some (.cells #[.int .i64 0,.int .i64 0,.string ⟨#[]⟩,.slice none 0 0,.slice none 0 0,.slice none 0 0,.slice none 0 0] 49 (0,0)) from by
  have k0:w0.heap[W.heap.size]? =some (.cells #[.int .i64 0,.int .i64 0,.string ⟨#[]⟩,.slice none 0 0,.slice none 0 0,.slice none 0 0,.slice none 0 0] 49 (0,0)):=by rw [<-hw0];exact zJ _ rfl
  have k1:=(HB1.out.block _ qw0).trans k0
  have k4:=(HB34.out.block _ (zM k1)).trans k1
  have k5:=(S3.block _ (zM k4) (by omega)).trans k4
  exact (S6.block _ (zM k5) (by omega)).trans k5)
 have HX:=zh (show ZO (Imm (zDb X W.heap.size w1.heap.size) bw R w6) w6 [.string m.folder,.int .i64 (m.seq+1),.slice m_A2 0 m_c2,.string m'.parent,.slice Am m'.members.length cmv,.int .i64 m'.cut,.bool m'.gone,.string c.user] { m' with seq:=m.seq+1,who:=c.user } from by
  refine ⟨_,_,by rw [<-hpv.2.2],by rw [hpv.2.2];exact m_folder_le,(show I64 (m.seq+1) from ⟨by omega,by omega⟩),?_,hp',SL6,hcut,hus⟩
  rw [hpv.2.1]
  exact ⟨m_A2,m_c2,rfl,Nat.zero_le _,by unfold maxLen;omega,Nat.zero_le _,fun i x hx=>by simp at hx⟩)
 have HSQ:=zh (show 0<=(fo st k).turn/\(fo st k).turn<=1000000 from ht)
 have hwt:IntKind.i64.wrap ((fo st k).turn+1)=(fo st k).turn+1:=by rw [IntKind.wrap_i64];omega
 have hmaO:=zh hma
 have hgw:¬(g=W.heap.size):=fun e=>by
  have:=HW.out.os.lt HA.out.row
  omega
 clear SL5 B5 B6 S3 S6 T3 T6 SL6 HC gz x1 hma hrow
 have x1:w6.cell? ⟨w1.heap.size,1,none⟩=some (.int .i64 (m.seq+1)):=(zD HT6.out).1 1 _ rfl
 have c0:w6.cell? ⟨w1.heap.size,0,none⟩=some (.string m'.folder):=(zD HT6.out).1 0 _ rfl
 have c2':w6.cell? ⟨w1.heap.size,2,none⟩=some (.slice m_A2 0 m_c2):=(zD HT6.out).1 2 _ rfl
 have c3':w6.cell? ⟨w1.heap.size,3,none⟩=some (.string m'.parent):=(zD HT6.out).1 3 _ rfl
 have c4'':w6.cell? ⟨w1.heap.size,4,none⟩=some (.slice Am m'.members.length cmv):=(zD HT6.out).1 4 _ rfl
 have c5':w6.cell? ⟨w1.heap.size,5,none⟩=some (.int .i64 m'.cut):=(zD HT6.out).1 5 _ rfl
 have c6':w6.cell? ⟨w1.heap.size,6,none⟩=some (.bool m'.gone):=(zD HT6.out).1 6 _ rfl
 have c7':w6.cell? ⟨w1.heap.size,7,none⟩=some (.string c.user):=(zD HT6.out).1 7 _ rfl
 go_wp2_with fail
 go_region_law (refine z0b w6 _ [.string m.folder,.int .i64 (m.seq+1),.slice m_A2 0 m_c2,.string m'.parent,.slice Am m'.members.length cmv,.int .i64 m'.cut,.bool m'.gone,.string c.user] rfl (.tmp 32) (.tmp 34) 68 rfl iManifest _ 120 Tryz.underlying68 hiManifest hzManifest h1Manifest h2Manifest rfl (by decide) (by decide) (.slice D2 (fo st k).manifests.length e2) (R (.ma k)).cells rfl _ _ rfl HROW.out (by go_grown) (H6.out.os.len _) rfl (by intro u hu;simp at hu;rcases hu with rfl | rfl | rfl | rfl | rfl | rfl | rfl | rfl<;>rfl) (by repeat' first|with_reducible assumption|((with_reducible first|refine zP _ ?_ ?_|apply zJ);rotate_left;first|with_reducible rfl|((try dsimp only);first|with_reducible assumption|omega|(simp only [zS];done)|(simp only [zS];omega)))|with_reducible apply zI|with_reducible refine zZ _ ?_|with_reducible refine ZH ?_|refine (rfl:(_:Array Value)=_)) ?_;intro v8 w8 r8 p8 o8;obtain ⟨A8,n8,cp8,rfl⟩:=r8.shape3;have HR8:=zh r8;have HP8:=zh p8;have HO8:=zh o8;have k8:=p8.block g hg6 HNG.out;have g82:=(World.cell?_of_block (a:=⟨g,o+2,none⟩) k8).trans u2;have g81:=(World.cell?_of_block (a:=⟨g,o+1,none⟩) k8).trans u1;have z8:∀q,w8.frozen? ⟨g,q,none⟩=false:=(fun q=>by unfold World.frozen?;rw [k8];exact HGZ.out q);clear k8;have x18:=(World.cell?_of_block (a:=⟨w1.heap.size,1,none⟩) (p8.block _ (zF x1) HNB.out)).trans x1;have HK8:=zh ((p8.block _ (zM HK6.out) HNW.out).trans HK6.out);clear r8 p8 o8)
 all_goals
  have HWR:=zh (H6.out.writ hk HA.out HSQ.out hl HR8.out (by rw [hmaO.out];exact HP8.out) (by rw [hmaO.out];exact HO8.out) HX.out)
  go_wp2_with fail
  obtain ⟨R3,H9,M9,E9⟩:=HWR.out
  have HM9:=zh M9
  have HE9:=zh E9
  have HN9:=zh (fun e=>H9.nx W.heap.size e (.inl (.inr rfl)))
  have K9:=zP (a:=⟨g,o+1,none⟩) (.int .i64 ((fo st k).turn+1)) (zP (a:=⟨g,o+2,none⟩) (.slice A8 n8 cp8) HK8.out (fun e=>hgw e.symm)) (fun e=>hgw e.symm)
  have HK9:=zh K9
  refine zcm (z23 H9 (m.seq+1)) ?_
  clear H9 M9 E9 K9
  rintro _ w10 ⟨rfl,H10,M10⟩
  have K10:=(M10.but.block _ (zM HK9.out) (fun e=>HN9.out (e.symm.imp id id))).trans HK9.out
  have HK10:=zh K10
  have y0:w10.cell? ⟨W.heap.size,0,none⟩=some (.int .i64 0):=(zD K10).1 0 _ rfl
  have y1:w10.cell? ⟨W.heap.size,1,none⟩=some (.int .i64 0):=(zD K10).1 1 _ rfl
  have y2:w10.cell? ⟨W.heap.size,2,none⟩=some (.string ⟨#[]⟩):=(zD K10).1 2 _ rfl
  have y3:w10.cell? ⟨W.heap.size,3,none⟩=some (.slice none 0 0):=(zD K10).1 3 _ rfl
  have y4:w10.cell? ⟨W.heap.size,4,none⟩=some (.slice none 0 0):=(zD K10).1 4 _ rfl
  have y5:w10.cell? ⟨W.heap.size,5,none⟩=some (.slice none 0 0):=(zD K10).1 5 _ rfl
  have y6:w10.cell? ⟨W.heap.size,6,none⟩=some (.slice none 0 0):=(zD K10).1 6 _ rfl
  have yz:=(zD K10).2
  have HH10:=zh H10
  have HM10:=zh M10
  clear H10 M10 K10
  unfold ZW
  go_wp2
  try simp only [Exit.inBlock,Exit.then]
  obtain ⟨F1,F2⟩:=Z4 HK10.out (.int .i64 0) (.int .i64 (m.seq+1)) (.string ⟨#[]⟩) (.slice none 0 0) (.slice none 0 0) (.slice none 0 0) (.slice none 0 0)
  refine bodyPost_ret (results_cell_row rfl _ _ W.heap.size 49 _ (0,0) _ rfl F1 Tryz.underlying49 rfl (by kernel_rfl)) rfl ?_
  refine ⟨rfl,R3,HH10.out.leave (F2.mono fun x hx=> .inl (.inr hx)) fun b hb=> .inl (.inl hb),(((Mut.below HB6.out).trans HM9.out).trans HM10.out).tail (F2.mono fun x hx=>by rw [hx];exact znl _),HE9.out⟩
end
end
end Go.Proofs.YtdggplhnfhcieaaGreatDoor
