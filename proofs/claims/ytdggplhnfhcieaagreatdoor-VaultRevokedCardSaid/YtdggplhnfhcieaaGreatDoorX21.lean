/- No condition. -/
import Derived.Test.YtdggplhnfhcieaaGreatDoorX20
set_option linter.all false
set_option maxRecDepth 100000
set_option maxHeartbeats 16000000
namespace Go.Proofs.YtdggplhnfhcieaaGreatDoor
section
structure CallOk (c:Call):Prop where
 u20:c.user.size<=20
 f20:c.folder.size<=20
 n20:c.name.size<=20
 o20:c.other.size<=20
 user:ZA c.user=true
 k1:1<=c.kind
 k16:c.kind<=16
 fol:2<=c.kind->c.kind<=13->ZA c.folder=true
 nof:(c.kind=1\/14<=c.kind)->c.folder=⟨#[]⟩
 oth:5<=c.kind->c.kind<=7->ZA c.other=true
 noo:(c.kind=1\/c.kind=15)->c.other=⟨#[]⟩
 neq:c.kind=2->c.other≠c.folder
 role:(c.kind=5\/c.kind=6)->1<=c.role/\c.role<=4
 rol0:c.kind=7->c.role=0
 dep:(c.kind=14\/c.kind=16)->ZA c.other=true
 ver:0<=c.version/\c.version<=1099511627776
theorem z3e {s:Nm} (h:ZA s=true):s≠Top:=fun e=>by rw [e] at h;revert h;decide
theorem Y9 {st:State} {s:Nm} {k:Nat} (h:foI st s=some k):k < st.folders.length/\(fo st k).name=s/\zP st s=some (fo st k):=⟨zSr h,zQu h,z3x h⟩
theorem zSs {n:Nat} {st:State} (h:VInv n st) {k:Nat} (hk:k < st.folders.length) {f':Folder} (hn:f'.name=(fo st k).name) (hm:(zH f').parent=(zH (fo st k)).parent) (hg:(zH f').gone=(zH (fo st k)).gone):Inv (upd (Z8 st) f'.name ((zH f').parent,(zH f').gone)):=by
 rw [hn,hm,hg,zIi (zS3 h.names hk)];exact h.tree
theorem z69 {st:State} {s:Nm} {k:Nat} (h:Z3 st s=some k):ZC (Z8 st) s=true:=by rw [<-zMe,h];rfl
theorem zDl {st:State} {s:Nm} {u:Nat} (h:Y6 st s=some u):s∈st.users.map User.name:=by
 obtain ⟨hu,hp,_⟩:=List.findIdx?_eq_some_iff_getElem.1 h;exact List.mem_map.2 ⟨st.users[u],List.getElem_mem hu,by simpa [isU] using hp⟩
theorem z83 {name:Nm} {role:Int}:∀{d:Bool} {l:List Member} {x:Member},x∈Ro.withR name role d l->x.name=name\/x∈l
 | d,[],x,h=>by
  cases d
  ·rw [Ro.withR] at h;simp at h;exact .inl (by rw [h])
  ·simp [Ro.withR] at h
 | d,m :: r,x,h=>by
  rw [Ro.withR] at h;have key:x∈((if Ro.eqS m.name name then [] else [m])++Ro.withR name role (d || Ro.leS name m.name) r)->x.name=name\/x∈m :: r:=fun hx=>by
   rcases zmb hx with e | e
   ·split at e
    ·simp at e
    ·exact .inr (by rw [zml e];exact List.mem_cons_self ..)
   ·exact (z83 e).imp id fun e=>zmc _ e
  cases hc:!d && Ro.leS name m.name
  ·rw [hc] at h;exact key (by simpa using h)
  ·rw [hc] at h;simp only [if_true,List.singleton_append,qLcx] at h;rcases h with e | e
   ·exact .inl (by rw [e])
   ·exact key e
section
variable {n:Nat} {st:State} {c:Call}
theorem VInv.userAdd (h:VInv n st) (hl:st.users.length < 16) (hu:c.user.size<=20):VInv (n+1) { st with users:=st.users++[⟨c.user,false⟩] } where
 names:=h.names
 top:=h.top
 tree:=h.tree
 fol:=fun f hf=>(h.fol f hf).mono (by omega) fun x hx=>by rw [List.map_append];exact List.mem_append_left _ hx
 us20:=fun u hu2=>by
  rcases zmb hu2 with e | e
  ·exact h.us20 u e
  ·rw [zml e];exact hu
 u16:=by simp;omega
 ds20:=h.ds20
 few:=by have:=h.few;simp;omega
 sum:=by have:=h.sum;show z0x st.folders<=_;omega
 turn:=by
  have:=h.turn;show 0<=st.turn/\st.turn<=((n+1:Nat):Int)
  omega
theorem VInv.depAdd (h:VInv n st) (hu:c.user.size<=20) (ho:c.other.size<=20):VInv (n+1) { st with deposits:=st.deposits++[⟨c.user,c.other⟩] } where
 names:=h.names
 top:=h.top
 tree:=h.tree
 fol:=fun f hf=>(h.fol f hf).mono (by omega) fun x hx=>hx
 us20:=h.us20
 u16:=h.u16
 ds20:=fun u hu2=>by
  rcases zmb hu2 with e | e
  ·exact h.ds20 u e
  ·rw [zml e];exact ⟨hu,ho⟩
 few:=by have:=h.few;simp;omega
 sum:=by have:=h.sum;show z0x st.folders<=_;omega
 turn:=by
  have:=h.turn;show 0<=st.turn/\st.turn<=((n+1:Nat):Int)
  omega
theorem z78 {l:List User} {u:Nat} {b:Bool}:(l.modify u fun x=>{ x with lost:=b }).map User.name=l.map User.name:=by
 apply List.ext_getElem?;intro i;rw [List.getElem?_map,List.getElem?_map,List.getElem?_modify]
 cases l[i]? with
 | none=>rfl
 | some x=>by_cases e:u=i<;>simp [e]
theorem VInv.lostS (h:VInv n st) (s:Nm) (b:Bool):VInv (n+1) (lostS st s b):=by
 unfold Go.Proofs.YtdggplhnfhcieaaGreatDoor.lostS
 cases Y6 st s with
 | none=>exact h.mono (by omega)
 | some u=>
  exact {
   names:=h.names
   top:=h.top
   tree:=h.tree
   fol:=fun f hf=>(h.fol f hf).mono (by omega) fun x hx=>by
    show x∈(st.users.modify u _).map User.name
    rw [z78];exact hx
   us20:=fun x hx=>by
    have h1:x.name∈(st.users.modify u fun x=>{ x with lost:=b }).map User.name:=List.mem_map.2 ⟨x,hx,rfl⟩;rw [z78] at h1;obtain ⟨y,hy,e⟩:=List.mem_map.1 h1;rw [<-e];exact h.us20 y hy
   u16:=by simpa using h.u16
   ds20:=h.ds20
   few:=by have:=h.few;simp;omega
   sum:=by have:=h.sum;show z0x st.folders<=_;omega
   turn:=by
    have:=h.turn;show 0<=st.turn/\st.turn<=((n+1:Nat):Int)
    omega }
theorem zFm (h:VInv n st) {k:Nat} (hk:k < st.folders.length) {f1:Folder} {m:Nat} (hn:f1.name=(fo st k).name) (hF:FInv m (st.users.map User.name) f1) (hc:∀x∈zN (setF st k f1) 4 f1.name,x.name.size<=20):
  ∃f',yJ (setF st k f1) k=setF st k f'/\Gv f1 f'/\FInv m (st.users.map User.name) f'/\ZW f'<=ZW f1+1:=by
 have hm:∀s,∀m∈(zH ((zP (setF st k f1) s).getD yH)).members,m.name∈st.users.map User.name:=fun s=>by
  rw [YT h.names hk hn];split
  ·exact (hF.mn _ (YK hF.man)).2.2
  ·exact zIj h s
 obtain ⟨h1,h2⟩:=zAi hm ((zN (setF st k f1) 4 f1.name).drop 1) (fun x hx=>hc x (List.mem_of_mem_drop hx)) hF;refine ⟨_,?_,z3y (setF st k f1) _ _,h1,h2⟩;unfold yJ;rw [Y3 hk,z0n]
theorem z9f (h:VInv n st) {k:Nat} (hk:k < st.folders.length) {f1:Folder} (hn:f1.name=(fo st k).name) {i:Nat} {s:Nm} {x:At} (hx:x∈zN (setF st k f1) i s):x.name.size<=20:=by
 obtain ⟨f,hf⟩:=z0d hx;rw [YT h.names hk hn] at hf;split at hf
 ·rename_i e;rw [e,hn];exact (h.atF hk).nm
 have:=(h.fol f (z08 hf)).nm;rwa [YM hf] at this
theorem VInv.put (h:VInv n st) {k:Nat} (hk:k < st.folders.length) {f':Folder} (hn:f'.name=(fo st k).name) (hF:FInv (n+1) (st.users.map User.name) f') (hs:ZW f'<=ZW (fo st k)+3) (hm:(zH f').parent=(zH (fo st k)).parent) (hg:(zH f').gone=(zH (fo st k)).gone):VInv (n+1) (setF st k f'):=by
 have:=h.turnF hk hn hF hs (zSs h hk hn hm hg) st.turn (by have:=h.turn;omega);exact this
theorem z4p {g:Folder} (hno:zP st g.name=none) (s:Nm):zP { st with folders:=st.folders++[g] } s=if s=g.name then some g else zP st s:=by
 unfold zP at*;dsimp only;rw [List.find?_append];split
 ·rename_i e;subst e;rw [hno];simp
 rename_i e;have h1:([g]:List Folder).find? (fun f=>decide (f.name=s))=none:=by simpa using fun e2:g.name=s=>e e2.symm
 rw [h1];simp
theorem VInv.folAdd (h:VInv n st) {g:Folder} (hno:zP st g.name=none) (ht:g.name≠Top) (hF:FInv (n+1) (st.users.map User.name) g) (hs:ZW g<=3) (hI:Inv (upd (Z8 st) g.name ((zH g).parent,(zH g).gone))):VInv (n+1) { st with folders:=st.folders++[g],turn:=st.turn+1 } where
 names:=by
  unfold z36;dsimp only;rw [List.map_append,List.nodup_append];refine ⟨h.names,by simp,fun a ha b hb=>?_⟩;obtain ⟨f,hf,rfl⟩:=List.mem_map.1 ha;simp only [List.map_cons,List.map_nil,List.mem_singleton] at hb;subst hb;intro e;have:=z1f h.names hf;rw [e,hno] at this;cases this
 top:=by
  show zP { st with folders:=st.folders++[g] } Top=none
  rw [z4p hno,if_neg fun e=>ht e.symm,h.top]
 tree:=by
  have e:Z8 { st with folders:=st.folders++[g],turn:=st.turn+1 }=upd (Z8 st) g.name ((zH g).parent,(zH g).gone):=by
   funext s
   unfold Z8 upd;have h2:zP { st with folders:=st.folders++[g],turn:=st.turn+1 } s=zP { st with folders:=st.folders++[g] } s:=rfl;rw [h2,z4p hno];split<;>rfl
  rw [e];exact hI
 fol:=fun f hf=>by
  rcases zmb hf with e | e
  ·exact (h.fol f e).mono (by omega) fun x hx=>hx
  ·rw [zml e];exact hF
 us20:=h.us20
 u16:=h.u16
 ds20:=h.ds20
 few:=by have:=h.few;simp;omega
 sum:=by
  have:=h.sum;show z0x (st.folders++[g])<=_
  rw [zGj];omega
 turn:=by
  have:=h.turn;show 0<=st.turn+1/\st.turn+1<=((n+1:Nat):Int)
  omega
theorem z6r {g g':Folder}:setF { st with folders:=st.folders++[g] } st.folders.length g'={ st with folders:=st.folders++[g'] }:=by
 unfold setF;simp
theorem zFn {g:Folder}:fo { st with folders:=st.folders++[g] } st.folders.length=g:=by
 unfold fo;simp
theorem zOj (h:VInv n st) (hc:CallOk c) (hu:c.user∈st.users.map User.name) (hno:zP st c.folder=none):
  ∃g',z1v st c={ st with folders:=st.folders++[g'],turn:=st.turn+1 }/\g'.name=c.folder/\zH g'=⟨c.folder,1,[],c.other,[⟨c.user,4⟩],0,false,c.user⟩/\FInv (n+1) (st.users.map User.name) g'/\ZW g'<=3:=by
 obtain ⟨e1,he1⟩:∃e1:List At,zN { st with folders:=st.folders++[ZI st c] } 4 c.folder=e1:=⟨_,rfl⟩;have hch:∀{i:Nat} {s:Nm} {g:Folder} {x:At},g.name=c.folder->x∈zN { st with folders:=st.folders++[g] } i s->x.name.size<=20:=fun {i s g x} hg hx=>by
  obtain ⟨f,hf⟩:=z0d hx;rw [z4p (by rw [hg];exact hno)] at hf;split at hf
  ·rename_i e;rw [e,hg];exact hc.f20
  ·have:=(h.fol f (z08 hf)).nm;rwa [YM hf] at this
 have hF:FInv (n+1) (st.users.map User.name) { ZI st c with epochs:=[⟨1,1,1,e1,c.user⟩] }:=by
  have hnow:zH { ZI st c with epochs:=[⟨1,1,1,e1,c.user⟩] }=⟨c.folder,1,[],c.other,[⟨c.user,4⟩],0,false,c.user⟩:=rfl;refine ⟨hc.f20,by simp [ZI],by simp,by simp [ZI,z28],fun w hw=>?_,fun x hx=>by simp [ZI] at hx,?_,fun m hm=>?_,fun l hl=>by simp [ZI] at hl,fun e he=>?_,?_,?_,fun m hm=>?_⟩
  ·simp [ZI] at hw;rw [hw];exact hu
  ·rw [hnow];refine (Ro.right_iff _).2 ⟨fun m hm=>?_,by simp,by simp,by simp [Ro.own4]⟩;rw [zml hm];exact ⟨hc.user,by simp [Ro.isOf]⟩
  ·simp [ZI] at hm;subst hm;exact ⟨hc.o20,by simp,fun x hx=>by rw [zml hx];exact hu⟩
  ·rw [zml he];exact ⟨by have:=z1k { st with folders:=st.folders++[ZI st c] } 4 c.folder;rw [he1] at this;show e1.length<=20;omega,fun y hy=>hch (g:=ZI st c) rfl (by rw [he1];exact hy)⟩
  ·show (0:Int)<=1/\(1:Int)<=((n+1:Nat):Int)
   omega
  ·rw [hnow];show (0:Int)<=1/\(1:Int)<=((n+1:Nat):Int)
   omega
  ·simp [ZI] at hm;subst hm;rfl
 have hm:∀s,∀m∈(zH ((zP { st with folders:=st.folders++[{ ZI st c with epochs:=[⟨1,1,1,e1,c.user⟩] }] } s).getD yH)).members,m.name∈st.users.map User.name:=fun s=>by
  rw [z4p (show zP st c.folder=none from hno)];split
  ·exact (hF.mn _ (YK hF.man)).2.2
  ·exact zIj h s
 obtain ⟨h1,h2⟩:=zAi hm ((zN { st with folders:=st.folders++[{ ZI st c with epochs:=[⟨1,1,1,e1,c.user⟩] }] } 4 c.folder).drop 1) (fun x hx=>hch (g:={ ZI st c with epochs:=[⟨1,1,1,e1,c.user⟩] }) rfl (List.mem_of_mem_drop hx)) hF;have hg:=z3y { st with folders:=st.folders++[{ ZI st c with epochs:=[⟨1,1,1,e1,c.user⟩] }] } ((zN { st with folders:=st.folders++[{ ZI st c with epochs:=[⟨1,1,1,e1,c.user⟩] }] } 4 c.folder).drop 1) { ZI st c with epochs:=[⟨1,1,1,e1,c.user⟩] };refine ⟨_,?_,hg.name,hg.now,h1,qNtx h2 (by unfold ZW ZI;simp)⟩;unfold z1v;dsimp only;rw [he1,z6r];unfold yJ;rw [zFn,z6r];rfl
end
end
section
open Go.RowKit Go.Deep
section
variable {X:Nat->Prop} {base bw:Nat} {W:World} {R:RM} {c:Call} {dv:Value} {st:State} {done late:Bool}
theorem z5k (h:WK X base bw W R c dv st done late) {k g o:Nat} (hk:k < st.folders.length) (ha:foAt R k g o):Calls Tryz.prog 127 #[.pointer (some ⟨bw,0,none⟩),.pointer (some ⟨g,o,none⟩)] W fun e w'=>
  e= .returned (.int .i64 (yW st k c.user))/\Below W.heap.size W w':=by
 obtain ⟨A2,c2,A3,c3,A4,c4,A5,c5,A6,c6,_,hF,u0,u1,u2,u3,u4,u5,u6,hg,_⟩:=h.fold (ZO hk) ha;have HF:=zh hF;have s1:=h.cells.1 1 _ rfl;have HSQ:=zh (show ∀W':World,Below W.heap.size W W'->(fun W':World=>W'.cell? ⟨g,o,none⟩=some (.string (fo st k).name)/\W'.cell? ⟨g,o+1,none⟩=some (.int .i64 (fo st k).turn)/\W'.cell? ⟨g,o+2,none⟩=some (.slice A2 (fo st k).manifests.length c2)/\W'.cell? ⟨g,o+3,none⟩=some (.slice A3 (fo st k).epochs.length c3)/\W'.cell? ⟨g,o+4,none⟩=some (.slice A4 (fo st k).items.length c4)/\W'.cell? ⟨g,o+5,none⟩=some (.slice A5 (fo st k).wraps.length c5)/\W'.cell? ⟨g,o+6,none⟩=some (.slice A6 (fo st k).links.length c6)/\W'.cell? ⟨bw,1,none⟩=some (.string c.user)) W' from fun W' hW=>by
  refine ⟨(hW.cell (p:=⟨g,o,none⟩) hg).trans u0,(hW.cell (p:=⟨g,o+1,none⟩) hg).trans u1,(hW.cell (p:=⟨g,o+2,none⟩) hg).trans u2,(hW.cell (p:=⟨g,o+3,none⟩) hg).trans u3,(hW.cell (p:=⟨g,o+4,none⟩) hg).trans u4,(hW.cell (p:=⟨g,o+5,none⟩) hg).trans u5,(hW.cell (p:=⟨g,o+6,none⟩) hg).trans u6,(hW.cell (p:=⟨bw,1,none⟩) h.lt).trans s1⟩)
 have qm:=z48;have HM:=zh (fun cm (w':World) (hm:ZR (fun _=>True) w' cm (zH (fo st k)))=>hm);clear h hF ha u0 u1 u2 u3 u4 u5 u6 s1;go_enter Tryz.func127,Tryz.ntmps127
 go_wp2;have HS:=HSQ.out;refine zE (by kernel_rfl) HS (fun hHeld=>?_);refine zi 0 ?_;iterate 3 (refine zt hHeld ?_;simp only [zA])
 refine zo ?_;refine zi 5 ?_;iterate 5 (refine zt hHeld ?_;simp only [zA])
 refine zo ?_;refine zr 3 fun K hK=>?_
 go_simp;go_at_call 120
 refine zcm (z62 (fo st k) _ _ (fun _=>True) (Z5 HF.out (zK zbr.drew))) ?_;rintro _ w5 ⟨⟨cm,rfl,hm⟩,b5⟩;have B5:=zh (show Below W.heap.size W w5 from zB zbr.drew b5);clear b5 hHeld;obtain ⟨m,hme⟩:∃m,zH (fo st k)=m:=⟨_,rfl⟩;rw [hme] at hm;have HME:=zh hme;clear hme HM;obtain ⟨m_A2,m_c2,m_A4,m_c4,rfl,_,_,_,_,_,m_prev_s,_,m_members_l,m_members_m,m_members_n,m_members_s,_,_⟩:=yF hm;have HML:=zh (show Sl 2 zY (fun _=>True) w5 (.slice m_A4 m.members.length m_c4) m.members from ⟨_,_,rfl,m_members_l,m_members_m,m_members_n,m_members_s⟩);have hfd:=z48 m.folder m.parent m.who m.seq m.cut m.gone (.slice m_A2 m.prev.length m_c2) (.slice m_A4 m.members.length m_c4);refine hK.out _ _ (HS _ B5.out) (fun hHeld=>?_);clear hK K m_prev_s m_members_s;refine zT 4 hHeld ?_;simp only [zA];refine zr 10 fun K hK=>?_
 go_simp;go_at_call 157
 refine zcm (Ro.of_any c.user m.members _ _ (fun _=>True) HML.out) ?_;rintro _ w6 ⟨rfl,b6⟩;have B6:=zh (show Below W.heap.size W w6 from zB B5.out b6);clear b6 hHeld;refine hK.out _ _ (HS _ B6.out) (fun hHeld=>?_);clear hK K;refine zT 11 hHeld ?_;simp only [zA];refine wpAnyH_done (by kernel_rfl) ?_ _;clear hHeld HS;go_wp2;go_ret;exact ⟨ZB (by unfold yW;rw [HME.out]),B6.out⟩
end
end
section
section
variable {n:Nat} {st:State} {c:Call}
theorem z5i (hc:CallOk c) {late:Bool} (hk:c.kind≠1) (h:ZV st c late=0):(∃u,Y6 st c.user=some u)/\(c.folder≠⟨#[]⟩->c.kind≠2->∃k,Z3 st c.folder=some k)/\(c.other≠⟨#[]⟩->c.kind=3->∃k,Z3 st c.other=some k)/\(c.other≠⟨#[]⟩->3 < c.kind->∃u,Y6 st c.other=some u):=by
 unfold ZV at h;rw [if_neg hk] at h
 cases hu:Y6 st c.user with
 | none=>rw [hu] at h;simp at h
 | some u=>
  rw [hu] at h;dsimp only at h;refine ⟨⟨u,rfl⟩,fun h1 h2=>?_,fun h1 h2=>?_,fun h1 h2=>?_⟩;all_goals
   split at h
   ·simp at h
   split at h
   ·simp at h
   rename_i a2;split at h
   ·simp at h
   rename_i a3;split at h
   ·simp at h
   rename_i a4
  ·cases hf:Z3 st c.folder with
   | some k=>exact ⟨k,rfl⟩
   | none=>simp [isE,h1,h2,hf] at a2
  ·cases hf:Z3 st c.other with
   | some k=>exact ⟨k,rfl⟩
   | none=>simp [isE,h1,h2,hf] at a3
  cases hf:Y6 st c.other with
  | some k=>exact ⟨k,rfl⟩
  | none=>simp [isE,h1,h2,hf] at a4
theorem zOk (hc:c.other=⟨#[]⟩\/∃k,Z3 st c.other=some k):c.other=Top\/ZC (Z8 st) c.other=true:=hc.imp id fun ⟨_,h⟩=>z69 h
theorem zIk (h:VInv n st) (hc:CallOk c) (hk:c.kind=2) (hu:c.user∈st.users.map User.name) (h1:foI st c.folder=none) (h2:z1w st c=0) (h3:(zN st 4 c.other).length < 4):VInv (n+1) (z1v st c):=by
 have hno:=z68.1 h1;obtain ⟨_,e,hn,hm,hF,hs⟩:=zOj h hc hu hno;have hne:=z3e (hc.fol (by omega) (by omega));have hp:c.other=Top\/ZC (Z8 st) c.other=true:=by
  unfold z1w at h2;by_cases ho:c.other=⟨#[]⟩
  ·exact .inl ho
  ·right;rw [if_neg (by simpa [isE] using ho)] at h2
   cases ht:Z3 st c.other with
   | none=>rw [ht] at h2;simp at h2
   | some k=>exact z69 ht
 rw [e];refine h.folAdd (by rw [hn];exact hno) (by rw [hn];exact hne) hF hs ?_;rw [hn,hm];refine h.tree.add ?_ hne hp ?_
 ·unfold ZC Z8;rw [hno];rfl
 rw [<-z82 h.tree h.top hp];omega
theorem zSt (h:VInv n st) (hc:CallOk c) {k:Nat} (hk:k < st.folders.length):
  ∃f',z6i st k c={ setF st k f' with turn:=st.turn+1 }/\f'.name=(fo st k).name/\zH f'={ zH (fo st k) with parent:=c.other,cut:=(zH (fo st k)).seq+1,seq:=(zH (fo st k)).seq+1,who:=c.user }/\FInv (n+1) (st.users.map User.name) f'/\ZW f'<=ZW (fo st k)+3:=by
 have hF:=h.atF hk;obtain ⟨w1,_,w3,w4⟩:=hF.write (m:={ zH (fo st k) with parent:=c.other,cut:=(zH (fo st k)).seq+1 }) (who:=c.user) hc.o20 hF.mem (hF.mn _ (YK hF.man)).2.2 (show (zH (fo st k)).prev=[] from hF.pv _ (YK hF.man));obtain ⟨f',c1,c2,c3,_⟩:=zFm h hk w3 w1 fun x hx=>z9f h hk w3 hx
 refine ⟨f',?_,c2.name.trans w3,c2.now.trans w4,c3,by omega⟩;unfold z6i;dsimp only;rw [c1];rfl
theorem zMf (h:VInv n st) (hc:CallOk c) {k:Nat} (hk:Z3 st c.folder=some k) (ho:c.other=⟨#[]⟩\/∃q,Z3 st c.other=some q)
  (h1:(zN st 4 c.other).any (fun x=>decide (x.name=c.folder))=false) (h2:(zN st 4 c.other).length+YN st 5 c.folder<=4):VInv (n+1) (z6i st k c):=by
 obtain ⟨hfo,hg⟩:=z1h hk;obtain ⟨hkl,hn,_⟩:=Y9 hfo;obtain ⟨_,e,en,em,eF,es⟩:=zSt h hc hkl;rw [e];have hp:=zOk ho;refine h.turnF hkl en eF es ?_ _ (by have:=h.turn;omega);rw [en,em,hn];show Inv (upd (Z8 st) c.folder (c.other,(zH (fo st k)).gone))
 rw [hg];have hl:=z69 hk;refine h.tree.move hl hp (fun hm=>?_) (z8x h.names h.tree 5 c.folder hl (by omega)) (by rw [<-z82 h.tree h.top hp];exact h2);rw [(zGi h.tree h.top hp c.folder).2 hm] at h1;cases h1
theorem zOl (h:VInv n st) {s:Nm} (hl:ZC (Z8 st) s=true) (hh:YN st 5 s<=1):∀x,ZC (Z8 st) x=true->yQ (Z8 st) x≠s:=fun x hx e=>by
 obtain ⟨h1,_⟩:=(z8x h.names h.tree 5 s hl (by omega)).2 hl;have h2:=z2u h.tree hx;rw [e] at h2;have:=h1 x (by rw [z29 h.tree hx,e];exact zmc _ (z38 h.tree hl));omega
theorem zAj (h:VInv n st) {k:Nat} (hk:Z3 st c.folder=some k) (hh:YN st 5 c.folder<=1):
  VInv (n+1) { setF st k (y9 (fo st k) { zH (fo st k) with gone:=true } c.user) with turn:=st.turn+1 }:=by
 obtain ⟨hfo,_⟩:=z1h hk;obtain ⟨hkl,hn,_⟩:=Y9 hfo;have hF:=h.atF hkl;obtain ⟨w1,_,w3,w4⟩:=hF.write (m:={ zH (fo st k) with gone:=true }) (who:=c.user) (hF.mn _ (YK hF.man)).1 hF.mem (hF.mn _ (YK hF.man)).2.2 (show (zH (fo st k)).prev=[] from hF.pv _ (YK hF.man));refine h.turnF hkl w3 w1 (by omega) ?_ _ (by have:=h.turn;omega);rw [w3,w4,hn];exact h.tree.gone (z69 hk) (zOl h (z69 hk) hh)
theorem zHe (h:VInv n st) (hc:CallOk c) (hk5:5<=c.kind/\c.kind<=7) {k:Nat} (hk:Z3 st c.folder=some k) (hu:c.other∈st.users.map User.name) (he:yM c (zH (fo st k)).members=0):VInv (n+1)
  (setF st k (y9 (if c.kind=5\/(c.kind=6/\2<=c.role) then yO (fo st k) c.other (decide (2<=c.role)) else fo st k) { zH (fo st k) with members:=Ro.withOf (zH (fo st k)).members c.other c.role,cut:=if c.kind=7 then (zH (fo st k)).seq+1 else (zH (fo st k)).cut } c.user)):=by
 obtain ⟨hfo,_⟩:=z1h hk;obtain ⟨hkl,_,_⟩:=Y9 hfo;have hF:=h.atF hkl;have hnm:=hc.oth hk5.1 hk5.2;have hR:Ro.RightL (Ro.withOf (zH (fo st k)).members c.other c.role):=by
  unfold yM at he;by_cases k5:c.kind=5
  ·rw [if_pos k5] at he;have hr:=hc.role (.inl k5);refine Ro.right_share (by_:=c.user) ?_;unfold Ro.shareD;rw [hF.mem,hnm,if_neg (by unfold Ro.isOf;simp [hr.1,hr.2])];exact he
  ·rw [if_neg k5] at he;by_cases k6:c.kind=6
   ·rw [if_pos k6] at he;have hr:=hc.role (.inr k6);refine Ro.right_change (by_:=c.user) ?_;unfold Ro.changeD;rw [hF.mem,hnm,if_neg (by unfold Ro.isOf;simp [hr.1,hr.2])];exact he
   ·rw [if_neg k6] at he;rw [hc.rol0 (by omega)];refine Ro.right_revoke (by_:=c.user) ?_;unfold Ro.revokeD;rw [hF.mem,hnm,if_neg (by simp)];exact he
 have hF1:FInv n (st.users.map User.name) (if c.kind=5\/(c.kind=6/\2<=c.role) then yO (fo st k) c.other (decide (2<=c.role)) else fo st k):=by
  split
  ·exact hF.give hu _
  ·exact hF
 have hnow:zH (if c.kind=5\/(c.kind=6/\2<=c.role) then yO (fo st k) c.other (decide (2<=c.role)) else fo st k)=zH (fo st k):=by split<;>rfl
 have hnm2:(if c.kind=5\/(c.kind=6/\2<=c.role) then yO (fo st k) c.other (decide (2<=c.role)) else fo st k).name=(fo st k).name:=by split<;>rfl
 have hsz:ZW (if c.kind=5\/(c.kind=6/\2<=c.role) then yO (fo st k) c.other (decide (2<=c.role)) else fo st k)=ZW (fo st k):=by split<;>rfl
 obtain ⟨w1,_,w3,w4⟩:=hF1.write (m:={ zH (fo st k) with members:=Ro.withOf (zH (fo st k)).members c.other c.role,cut:=if c.kind=7 then (zH (fo st k)).seq+1 else (zH (fo st k)).cut }) (who:=c.user) (hF.mn _ (YK hF.man)).1 ((Ro.right_iff _).2 hR) (fun x hx=>by
  rcases z83 hx with e | e
  ·rw [e];exact hu
  ·exact (hF.mn _ (YK hF.man)).2.2 x e) (show (zH (fo st k)).prev=[] from hF.pv _ (YK hF.man))
 exact h.put hkl (w3.trans hnm2) w1 (by omega) (by rw [w4]) (by rw [w4])
theorem zDm (h:VInv n st) {k:Nat} (hk:k < st.folders.length) (who:Nm):∃f1,YR st k who=setF st k f1/\f1.name=(fo st k).name/\f1.manifests=(fo st k).manifests/\f1.items=(fo st k).items/\FInv n (st.users.map User.name) f1/\ZW f1=ZW (fo st k)+1:=by
 have hF:=h.atF hk;obtain ⟨b1,b2⟩:=hF.begins (st:=st) (fun x hx=>zK3 h hx) who fun x=>decide (2<=x.role)
 have g:=z4v (fun x=>decide (2<=x.role)) (zH (fo st k)).members { fo st k with epochs:=(fo st k).epochs++[z2b st (fo st k) who] };exact ⟨_,rfl,g.name,g.man,g.it,b1,b2⟩
theorem z5j {f:Folder} {s:Nm} {j:Nat} (h:z01 f s=some j):f.items[j]? =some (ZX f j)/\(ZX f j).name=s:=by
 obtain ⟨hj,hp,_⟩:=List.findIdx?_eq_some_iff_getElem.1 h;have e:f.items[j]? =some f.items[j]:=qLgx hj;have e2:ZX f j=f.items[j]:=by unfold ZX;rw [e];rfl
 rw [e2];exact ⟨e,by simpa [isI] using hp⟩
theorem zEk (h:VInv n st) {k:Nat} (hk:k < st.folders.length):∃f1,(∀who:Nm,who=c.user->yJ (if ZJ st c.folder then YR st k who else st) k=setF st k f1)/\f1.name=(fo st k).name/\f1.manifests=(fo st k).manifests/\f1.items=(fo st k).items/\FInv n (st.users.map User.name) f1/\ZW f1<=ZW (fo st k)+2:=by
 by_cases hs:ZJ st c.folder=true
 ·obtain ⟨_,b1,b2,b3,b4,b5,_⟩:=zDm h hk c.user;obtain ⟨f1,c1,c2,c3,c4⟩:=zFm h hk b2 b5 fun x hx=>z9f h hk b2 hx
  exact ⟨f1,fun who e=>by rw [if_pos hs,e,b1,c1],c2.name.trans b2,c2.man.trans b3,c2.it.trans b4,c3,by omega⟩
 have hF:=h.atF hk;obtain ⟨f1,c1,c2,c3,c4⟩:=zFm h hk (f1:=fo st k) rfl hF fun x hx=>z9f h hk rfl hx
 rw [z7d] at c1;exact ⟨f1,fun who e=>by rw [if_neg hs,c1],c2.name,c2.man,c2.it,c3,by omega⟩
theorem zGl (h:VInv n st) {k:Nat} (hk:k < st.folders.length) {f1:Folder} (hn:f1.name=(fo st k).name) (hm:f1.manifests=(fo st k).manifests) (hF:FInv n (st.users.map User.name) f1) (hs:ZW f1<=ZW (fo st k)+2) (i:Option Nat) (hi:∀j,i=some j->f1.items[j]? =some (ZX f1 j)) {name:Nm} (hnm:name.size<=20) (v:Version):VInv (n+1) (z4b (setF st k f1) k i name v).1:=by
 unfold z4b;rw [Y3 hk];dsimp only
 cases i with
 | none=>
  dsimp only;rw [z0n];have hF2:=hF.addN hnm { v with epoch:=f1.epochs.length };refine h.put hk hn hF2 ?_ (by rw [z0c (f:=fo st k) (by exact hm)]) (by rw [z0c (f:=fo st k) (by exact hm)]);unfold ZW at hs⊢;simp
  omega
 | some j=>
  dsimp only;rw [z0n];have hF2:=hF.addV (hi j rfl) { v with epoch:=f1.epochs.length };refine h.put hk hn hF2 ?_ (by rw [z0c (f:=fo st k) (by exact hm)]) (by rw [z0c (f:=fo st k) (by exact hm)]);unfold ZW at hs⊢;simp;omega
theorem zGm (h:VInv n st) (hc:CallOk c) {k:Nat} (hk:Z3 st c.folder=some k):VInv (n+1) (z1r st c k).1:=by
 obtain ⟨hfo,_⟩:=z1h hk;obtain ⟨hkl,_,_⟩:=Y9 hfo;obtain ⟨f1,p1,p2,p3,p4,p5,p6⟩:=zEk (c:=c) h hkl;unfold z1r;dsimp only;rw [p1 c.user rfl];refine zGl h hkl p2 p3 p5 p6 _ (fun j hj=>?_) hc.n20 _;obtain ⟨e1,_⟩:=z5j hj;have:ZX f1 j=ZX (fo st k) j:=by unfold ZX;rw [p4]
 rw [this,p4];exact e1
theorem zMg (h:VInv n st) (hc:CallOk c) {k:Nat} (hk:Z3 st c.folder=some k) {j:Nat} (hj:z01 (fo st k) c.name=some j) (v:Version):VInv (n+1) (z4b st k (some j) c.name v).1:=by
 obtain ⟨hfo,_⟩:=z1h hk;obtain ⟨hkl,_,_⟩:=Y9 hfo;have:=zGl h hkl (f1:=fo st k) rfl rfl (h.atF hkl) (by omega) (some j) (fun i hi=>by cases hi;exact (z5j hj).1) hc.n20 v;rwa [z7d] at this
end
theorem zM {α β:Type} {p:Prop} [Decidable p] {P:α->Prop} {a b:α×β} (h1:p->P a.1) (h2:¬p->P b.1):P (if p then a else b).1:=by
 split
 ·rename_i h;exact h1 h
 rename_i h;exact h2 h
theorem zQv {n:Nat} {st:State} {c:Call} {late:Bool} (h:VInv n st) (hc:CallOk c) (hb:ZV st c late=0):VInv (n+1) (doR st c).1:=by
 have hsame:VInv (n+1) st:=h.mono (by omega);unfold doR;dsimp only;by_cases k1:c.kind=1
 ·rw [if_pos k1];unfold YS;refine zM (fun _=>hsame) fun _=>zM (fun _=>hsame) fun h2=>?_
  exact h.userAdd (by omega) hc.u20
 rw [if_neg k1];obtain ⟨⟨u,hu⟩,hfol,hoth,hou⟩:=z5i hc k1 hb;have hum:=zDl hu;by_cases k2:c.kind=2
 ·rw [if_pos k2];unfold YH;refine zM (fun _=>hsame) fun h1=>zM (fun _=>hsame) fun h2=>zM (fun _=>hsame) fun h3=>?_
  exact zIk h hc k2 hum (by simpa using h1) (by simpa using h2) (by omega)
 rw [if_neg k2];have hthere:c.kind<=13->∃k,Z3 st c.folder=some k:=fun h13=>hfol (z3e (hc.fol (by have:=hc.k1;omega) h13)) k2
 by_cases k3:c.kind=3
 ·rw [if_pos k3];obtain ⟨k,hk⟩:=hthere (by omega);rw [hk,Option.getD_some];unfold z2o;refine zM (fun _=>hsame) fun _=>zM (fun _=>hsame) fun _=>zM (fun _=>hsame) fun h1=>zM (fun _=>hsame) fun h2=>?_
  refine zMf h hc hk ?_ (by simpa using h1) (by omega);by_cases ho:c.other=⟨#[]⟩
  ·exact .inl ho
  exact .inr (hoth ho k3)
 rw [if_neg k3];by_cases k4:c.kind=4
 ·rw [if_pos k4];obtain ⟨k,hk⟩:=hthere (by omega);rw [hk,Option.getD_some];unfold z0m;refine zM (fun _=>hsame) fun _=>zM (fun _=>hsame) fun h1=>?_
  exact zAj h hk (by omega)
 rw [if_neg k4];by_cases k5:c.kind=5\/c.kind=6\/c.kind=7
 ·rw [if_pos k5];obtain ⟨k,hk⟩:=hthere (by omega);rw [hk,Option.getD_some];unfold Y2;dsimp only;refine zM (fun _=>hsame) fun h1=>zM (fun _=>hsame) fun _=>?_
  obtain ⟨q,hq⟩:=hou (z3e (hc.oth (by omega) (by omega))) (by omega);exact zHe h hc (by omega) hk (zDl hq) (by omega)
 rw [if_neg k5];by_cases k8:c.kind=8
 ·rw [if_pos k8];obtain ⟨k,hk⟩:=hthere (by omega);rw [hk,Option.getD_some];unfold z2s;refine zM (fun _=>hsame) fun _=>?_
  split
  ·exact zM (fun _=>hsame) fun _=>zGm h hc hk
  exact zM (fun _=>hsame) fun _=>zGm h hc hk
 rw [if_neg k8];by_cases k9:c.kind=9
 ·rw [if_pos k9];exact hsame
 rw [if_neg k9];by_cases k10:c.kind=10
 ·rw [if_pos k10];exact hsame
 rw [if_neg k10];by_cases k11:c.kind=11
 ·rw [if_pos k11];obtain ⟨k,hk⟩:=hthere (by omega);rw [hk,Option.getD_some];unfold z2p;refine zM (fun _=>hsame) fun _=>?_
  split
  ·exact hsame
  rename_i j hj;exact zM (fun _=>hsame) fun _=>zM (fun _=>hsame) fun _=>zMg h hc hk hj _
 rw [if_neg k11];by_cases k12:c.kind=12
 ·rw [if_pos k12];exact hsame
 rw [if_neg k12];by_cases k14:c.kind=14
 ·rw [if_pos k14];unfold z1d;exact zM (fun _=>hsame) fun _=>h.depAdd hc.u20 hc.o20
 rw [if_neg k14];by_cases k15:c.kind=15
 ·rw [if_pos k15];exact h.lostS _ _
 rw [if_neg k15];by_cases k16:c.kind=16
 ·rw [if_pos k16];unfold z0h;exact zM (fun _=>hsame) fun _=>zM (fun _=>hsame) fun _=>h.lostS _ _
 rw [if_neg k16];exact hsame
theorem zEl {n:Nat} {st:State} {c:Call} {late:Bool} (h:VInv n st) (hc:CallOk c):VInv (n+1) (yY st c late).1:=by
 unfold yY;split
 ·exact h.mono (by omega)
 rename_i hb;exact zQv h hc (by simpa using hb)
end
section
open Go.RowKit Go.Deep
section
variable {X:Nat->Prop} {base bw:Nat} {W:World} {R:RM} {c:Call} {dv:Value} {st:State} {done late:Bool}
def zFj (X:Nat->Prop) (a b:Nat):Nat->Prop:=fun x=>(X x\/x=a)\/x=b
def zQt (m:Manifest) (n:Int) (pv mv:Value) (s:Nm):Array Value:=#[.string m.folder,.int .i64 n,pv,.string m.parent,mv,.int .i64 m.cut,.bool m.gone,.string s]
theorem Z6 {w:World} {pb:Nat} {T:TypeId} {z0 z1 z2 z3 z4 z5 z6:Value} (h:w.heap[pb]? =some (.cells #[z0,z1,z2,z3,z4,z5,z6] T (0,0))) (a0 a1 a2 a3 a4 a5 a6:Value):
  (((((((w.setCell ⟨pb,0,none⟩ a0).setCell ⟨pb,1,none⟩ a1).setCell ⟨pb,2,none⟩ a2).setCell ⟨pb,3,none⟩ a3).setCell ⟨pb,4,none⟩ a4).setCell ⟨pb,5,none⟩ a5).setCell ⟨pb,6,none⟩ a6).heap[pb]? =some (.cells #[a0,a1,a2,a3,a4,a5,a6] T (0,0))/\ButB (fun x=>x=pb) w (((((((w.setCell ⟨pb,0,none⟩ a0).setCell ⟨pb,1,none⟩ a1).setCell ⟨pb,2,none⟩ a2).setCell ⟨pb,3,none⟩ a3).setCell ⟨pb,4,none⟩ a4).setCell ⟨pb,5,none⟩ a5).setCell ⟨pb,6,none⟩ a6):=by
 have h0:=zI (i:=0) (cs':=#[a0,z1,z2,z3,z4,z5,z6]) a0 h rfl;have h1:=zI (i:=1) (cs':=#[a0,a1,z2,z3,z4,z5,z6]) a1 h0 rfl;have h2:=zI (i:=2) (cs':=#[a0,a1,a2,z3,z4,z5,z6]) a2 h1 rfl;have h3:=zI (i:=3) (cs':=#[a0,a1,a2,a3,z4,z5,z6]) a3 h2 rfl;have h4:=zI (i:=4) (cs':=#[a0,a1,a2,a3,a4,z5,z6]) a4 h3 rfl;have h5:=zI (i:=5) (cs':=#[a0,a1,a2,a3,a4,a5,z6]) a5 h4 rfl;have h6:=zI (i:=6) (cs':=#[a0,a1,a2,a3,a4,a5,a6]) a6 h5 rfl;exact ⟨h6,((((((((ButB.refl (fun x=>x=pb) w).set _ _ rfl).set _ _ rfl).set _ _ rfl).set _ _ rfl).set _ _ rfl).set _ _ rfl).set _ _ rfl)⟩
theorem WK.writ (h:WK X base bw W R c dv st done late) {k g o:Nat} (hk:k < st.folders.length) (ha:foAt R k g o) (ht:0<=(fo st k).turn/\(fo st k).turn<=1000000) (hl:(fo st k).manifests.length<=9999) {w8:World} {A8:Option Addr} {n8 cp8:Nat} {x:List Value} {m:Manifest}
  (r8:RowC 84 8 w8 (.slice A8 n8 cp8) ((R (.ma k)).cells++[x])) (p8:ButB (fun z=>(R (.ma k)).v.ownBlock=some z) W w8) (o8:(Value.slice A8 n8 cp8).ownBlock=(R (.ma k)).v.ownBlock\/∃k,(Value.slice A8 n8 cp8).ownBlock=some k/\W.heap.size<=k) (hx:ZR (Imm X bw R W) W x m):
  ∃R',WK X base bw ((w8.setCell ⟨g,o+2,none⟩ (.slice A8 n8 cp8)).setCell ⟨g,o+1,none⟩ (.int .i64 ((fo st k).turn+1))) R' c dv (setF st k { fo st k with manifests:=(fo st k).manifests++[m],turn:=(fo st k).turn+1 }) done late/\
   Mut bw R W R' ((w8.setCell ⟨g,o+2,none⟩ (.slice A8 n8 cp8)).setCell ⟨g,o+1,none⟩ (.int .i64 ((fo st k).turn+1)))/\(R' .fo).v=(R .fo).v:=by
 have hf:=ZO hk;have hcl:(R (.ma k)).cells.length=(fo st k).manifests.length:=(h.is.fo k _ hf).2.man.1;obtain ⟨o1,m1,b1,_⟩:=h.put (W':=w8) (.ma k) ⟨.slice A8 n8 cp8,(R (.ma k)).cells++[x]⟩ p8 r8 (by simp;omega) (fun b hb=>o8.imp (fun e=>by rw [<-e];exact hb) fun ⟨k2,e,hk2⟩=>by
  rw [show (Value.slice A8 n8 cp8).ownBlock=some b from hb] at e;obtain rfl:=zsi e;exact hk2)
 obtain ⟨h8,m8⟩:=h.sub hf ha (k:= .ma k) (j:=2) (u:= .slice A8 n8 cp8) (f':={ fo st k with manifests:=(fo st k).manifests++[m] }) ⟨by simp,by simp,by simp⟩ (by omega) o1 m1 b1 rfl fun kp=>h.is.maRow hf kp (((h.is.fo k _ hf).2.keep kp).man.snoc (YF hx kp))
 have e2:((zL (zL R (.ma k) ⟨.slice A8 n8 cp8,(R (.ma k)).cells++[x]⟩) .fo (ZY R k ((hdr R k (fo st k)).set 2 (.slice A8 n8 cp8)))) .fo).v=(R .fo).v:=by rw [yU];rfl
 obtain ⟨h9,m9⟩:=h8.fturn (i:=k) (f:={ fo st k with manifests:=(fo st k).manifests++[m] }) (n:=(fo st k).turn+1) (by dsimp only;rw [List.getElem?_set_self hk]) (ha.keep e2) (by unfold I64;omega);refine ⟨_,?_,m8.trans m9,?_⟩
 ·have e3:({ { st with folders:=st.folders.set k { fo st k with manifests:=(fo st k).manifests++[m] } } with folders:=(st.folders.set k { fo st k with manifests:=(fo st k).manifests++[m] }).set k { { fo st k with manifests:=(fo st k).manifests++[m] } with turn:=(fo st k).turn+1 } }:State)=setF st k { fo st k with manifests:=(fo st k).manifests++[m],turn:=(fo st k).turn+1 }:=by
   unfold setF;simp
  rw [<-e3];exact h9
 rw [yU];exact e2
theorem z9c (h:WK X base bw W R c dv st done late) {k g o:Nat} (hk:k < st.folders.length) (ha:foAt R k g o) {m m':Manifest} (hm:zH (fo st k)=m) (hpv:m.prev=[]/\m'.prev=[]/\m'.folder=m.folder) (hml:m.members.length<=10000)
  (hn:0<=m.seq/\m.seq<=1000000) (ht:0<=(fo st k).turn/\(fo st k).turn<=1000000) (hl:(fo st k).manifests.length<=9999) (hp':m'.parent.size<=140737488355328) (hcut:I64 m'.cut) (fn:FuncId) (caps:Array Value) (hent:∀(args:Array Value) (w:World),(callFunc fn args).run Tryz.prog w= .ok (.enter fn args) w)
  (HC:∀(w1:World) (B:Nat) (pv mv:Value),Below W.heap.size W w1->W.heap.size < B->w1.heap[B]? =some (.cells (zQt m (m.seq+1) pv mv c.user) 84 (0,0))->Sl 2 zY (Imm (zFj X W.heap.size B) bw R w1) w1 mv m.members->
   Calls Tryz.prog fn (#[.pointer (some ⟨B,0,none⟩)]++caps) w1 fun e w2=>e= .returned (.tuple #[])/\ButB (fun x=>x=B) w1 w2/\∃mv',w2.heap[B]? =some (.cells (zQt m' (m.seq+1) pv mv' c.user) 84 (0,0))/\Sl 2 zY (Imm (zFj X W.heap.size B) bw R w2) w2 mv' m'.members):
  Calls Tryz.prog 133 #[.pointer (some ⟨bw,0,none⟩),.pointer (some ⟨g,o,none⟩),.func (.func fn) #[] caps] W fun e w'=>e= .returned (.agg (yD 0 (m.seq+1)))/\
   ∃R',WK X base bw w' R' c dv (setF st k { fo st k with manifests:=(fo st k).manifests++[{ m' with seq:=m.seq+1,who:=c.user }],turn:=(fo st k).turn+1 }) true late/\Mut bw R W R' w'/\(R' .fo).v=(R .fo).v:=by
 obtain ⟨iManifest,hiManifest,hzManifest,h1Manifest,h2Manifest⟩:=info_parts (show (Tryz.prog.info? 84).map (fun i=>(i.zero,i.size,i.bytes))=some (some (.agg #[.string ⟨#[]⟩,.int .i64 0,.slice none 0 0,.string ⟨#[]⟩,.slice none 0 0,.int .i64 0,.bool false,.string ⟨#[]⟩]),8,120) from by kernel_rfl);have hc:=h.call;obtain ⟨_,_,e7,_,hus,_⟩:=YQ hc;obtain ⟨w0,hw0,cw0,fw0,Bw0,qw0⟩:=zQ W #[.int .i64 0,.int .i64 0,.string ⟨#[]⟩,.slice none 0 0,.slice none 0 0,.slice none 0 0,.slice none 0 0] 49;have H0:=zh (h.enter Bw0 qw0);have HB0:=zh Bw0;have HW:=zh h;have HA:=zh ha;have hbwl:=h.lt;obtain ⟨_,_,_,_,_,_,_,_,_,_,_,hF,u0,u1,u2,u3,u4,u5,u6,_,_⟩:=H0.out.fold (ZO hk) ha;have HN:=zh (z62 (fo st k) _ w0 _ hF);clear h hF ha hc e7 cw0 fw0 Bw0;go_enter Tryz.func133,Tryz.ntmps133
 go_wp2_with fail
 refine zcm HN.out ?_;rintro _ w1 ⟨⟨_,rfl,hmr⟩,B1⟩;rw [hm] at hmr;obtain ⟨m_A2,m_c2,m_A4,m_c4,rfl,m_folder_le,_,_,_,_,m_prev_s,_,m_members_l,m_members_m,m_members_n,m_members_s,_,_⟩:=yF hmr;obtain ⟨w2,hw2,cw2,fw2,Bw2,_⟩:=zQ w1 #[.string ⟨#[]⟩,.int .i64 0,.slice none 0 0,.string ⟨#[]⟩,.slice none 0 0,.int .i64 0,.bool false,.string ⟨#[]⟩] 84;have HT2:w2.heap[w1.heap.size]? =some (.cells #[.string ⟨#[]⟩,.int .i64 0,.slice none 0 0,.string ⟨#[]⟩,.slice none 0 0,.int .i64 0,.bool false,.string ⟨#[]⟩] 84 (0,0)):=by rw [<-hw2];exact zJ _ rfl
 have d0:w2.cell? ⟨w1.heap.size,0,none⟩=some (.string ⟨#[]⟩):=(zD HT2).1 0 _ rfl;have d1:w2.cell? ⟨w1.heap.size,1,none⟩=some (.int .i64 0):=(zD HT2).1 1 _ rfl;have d2:w2.cell? ⟨w1.heap.size,2,none⟩=some (.slice none 0 0):=(zD HT2).1 2 _ rfl;have d3:w2.cell? ⟨w1.heap.size,3,none⟩=some (.string ⟨#[]⟩):=(zD HT2).1 3 _ rfl;have d4:w2.cell? ⟨w1.heap.size,4,none⟩=some (.slice none 0 0):=(zD HT2).1 4 _ rfl;have d5:w2.cell? ⟨w1.heap.size,5,none⟩=some (.int .i64 0):=(zD HT2).1 5 _ rfl;have d6:w2.cell? ⟨w1.heap.size,6,none⟩=some (.bool false):=(zD HT2).1 6 _ rfl;have d7:w2.cell? ⟨w1.heap.size,7,none⟩=some (.string ⟨#[]⟩):=(zD HT2).1 7 _ rfl;have dz:=(zD HT2).2;have H2:=zh HT2;have HB1:=zh B1;have HB2:=zh Bw2;have hml2:m.members.length<=m_c4:=m_members_l;have HMS:=zh (show Sl 2 zY (fun _=>True) w1 (.slice m_A4 m.members.length m_c4) m.members from ⟨_,_,rfl,m_members_l,m_members_m,m_members_n,m_members_s⟩);clear cw2 fw2 HT2 m_prev_s m_members_s hmr B1 Bw2;go_wp2_with fail
 obtain ⟨E1,E2⟩:=z6n H2.out (.string m.folder) (.int .i64 m.seq) (.slice m_A2 0 m_c2) (.string m.parent) (.slice m_A4 m.members.length m_c4) (.int .i64 m.cut) (.bool m.gone) (.string m.who);generalize hW3:World.setCell _ _ _=w3 at E1 E2⊢;have B3:Below w1.heap.size w1 w3:=ButB.below HB2.out (by omega) (fun z hz=>by rw [hz];exact znl _) E2;have BW1:=zB HB0.out HB1.out;have BW3:=zB BW1 B3;clear hW3 d0 d1 d2 d3 d4 d5 d6 d7 dz E2;refine zcm (zAe m.members _ w3 (fun _=>True) (HMS.out.keep ZH (by decide) (zK B3)) hml) ?_;rintro e4 w4 ⟨⟨_,cells4,rfl,r4,a4,o4⟩,B4⟩;obtain ⟨A4',n4,c4',rfl⟩:=r4.shape3;have hz1:=BW1.size;have hz01:=HB1.out.size;have hz3:=B3.size;have hz31:=zO E1;have hz4:=B4.size;have HT4:=zh ((B4.block _ (zO E1)).trans E1);have f1:w4.cell? ⟨w1.heap.size,1,none⟩=some (.int .i64 m.seq):=(zD HT4.out).1 1 _ rfl;have f4:w4.cell? ⟨w1.heap.size,4,none⟩=some (.slice m_A4 m.members.length m_c4):=(zD HT4.out).1 4 _ rfl;have f7:w4.cell? ⟨w1.heap.size,7,none⟩=some (.string m.who):=(zD HT4.out).1 7 _ rfl;have fz:=(zD HT4.out).2;have BW4:=zB BW3 B4;have s1:=(BW4.cell (p:=⟨bw,1,none⟩) hbwl).trans (HW.out.cells.1 1 _ rfl);have hne1:¬(bw=w1.heap.size):=by omega
 have hne2:¬(w1.heap.size=bw):=by omega
 have hwr:IntKind.i64.wrap (m.seq+1)=m.seq+1:=by rw [IntKind.wrap_i64];omega
 have HR4:=zh r4;have HA4:=zh a4;have HO4:=zh o4;have HBW4:=zh BW4;have HB34:=zh (zB B3 B4);clear r4 a4 o4 BW1 BW3 BW4 B3 B4 E1;go_wp2_with fail
 have T1:=zI (i:=4) (.slice A4' n4 c4') HT4.out rfl;have T2:=zI (i:=1) (.int .i64 (m.seq+1)) T1 rfl;have T3:=zI (i:=7) (.string c.user) T2 rfl;have S3:ButB (fun x=>x=w1.heap.size) w4 (((w4.setCell ⟨w1.heap.size,4,none⟩ (.slice A4' n4 c4')).setCell ⟨w1.heap.size,1,none⟩ (.int .i64 (m.seq+1))).setCell ⟨w1.heap.size,7,none⟩ (.string c.user)):=(((ButB.refl (fun x=>x=w1.heap.size) w4).set _ _ rfl).set _ _ rfl).set _ _ rfl;generalize hW5:World.setCell _ _ _=w5 at T3 S3⊢;clear hW5 f1 f4 f7 fz T1 T2 s1;have hl4:cells4.length<=10000:=by have:=HA4.out.1;omega
 have hlt4:∀b,(Value.slice A4' n4 c4').ownBlock=some b->b≠w1.heap.size/\b < w4.heap.size/\W.heap.size < b/\b≠bw:=fun b hb=>by
  have h1:=HR4.out.lt b hb;have h2:=HO4.out b hb;omega
 have SL5:Sl 2 zY (Imm (zFj X W.heap.size w1.heap.size) bw R w5) w5 (.slice A4' n4 c4') m.members:=by
  refine Ro.slM_new (z1e ZH (HR4.out.keep fun b hb=>S3.block b (hlt4 b hb).2.1 (hlt4 b hb).1) hl4 (S:=fun _=>True) (HA4.out.imp fun _ _ hr=>hr)) fun b hb=>?_
  obtain ⟨b1,b2,_,b4⟩:=hlt4 b hb;refine ⟨zll b2 S3.size,b4,fun e=>?_,fun e=>?_⟩
  ·have:=HW.out.os.lt e;omega
  ·rcases e with (e | e) | e
   ·have:=HW.out.xl b e;omega
   ·omega
   ·exact b1 e
 have H1:=H0.out.below HB1.out;have H4:=zh (WK.enter H1 HB34.out (by omega));have H5:=zh (WK.leave H4.out (S3.mono fun x hx=> .inr hx) fun b hb=>hb);have B5:Below W.heap.size W w5:=ButB.below HBW4.out (by omega) (fun z hz=>by omega) S3;have HB5:=zh B5;clear H1;refine zcm (HC w5 w1.heap.size (.slice m_A2 0 m_c2) (.slice A4' n4 c4') B5 (by omega) T3 SL5) ?_;rintro e6 w6 ⟨rfl,S6,mv',T6,SL6⟩;obtain ⟨Am,cmv,hmv,_⟩:=id SL6;subst hmv;have H6:=zh (WK.leave H5.out (S6.mono fun x hx=> .inr hx) fun b hb=>hb);have B6:Below W.heap.size W w6:=ButB.below B5 (by have:=HB5.out.size;omega) (fun z hz=>by omega) S6;have HB6:=zh B6;have HT6:=zh T6;obtain ⟨D2,e2,_,_,_,e4,_,_,_,e6,eh,_,u0,u1,u2,u3,u4,u5,u6,hg6,gz⟩:=H6.out.fold (ZO hk) HA.out;have hma:(R (.ma k)).v= .slice D2 (fo st k).manifests.length e2:=by
  simp only [hdr,List.cons.injEq] at eh;exact eh.2.2.1
 have HROW:=zh (show RowC 84 8 w6 (.slice D2 (fo st k).manifests.length e2) (R (.ma k)).cells from by rw [<-hma];exact H6.out.os.row (.ma k));have x1:w6.cell? ⟨w1.heap.size,1,none⟩=some (.int .i64 (m.seq+1)):=(zD T6).1 1 _ rfl;have HGZ:=zh gz;have HNG:=zh (show (Value.slice D2 (fo st k).manifests.length e2).ownBlock≠some g from fun e=>by
  rw [<-hma] at e;obtain ⟨_,_,_,hv9,_⟩:=HA.out;have:=H6.out.os.inj (.ma k) .fo g e (by rw [hv9];rfl);cases this)
 have hg1:¬(g=w1.heap.size):=fun e=>by
  have:=HW.out.os.lt HA.out.row;omega
 have hg2:¬(w1.heap.size=g):=fun e=>hg1 e.symm
 have hrow:∀b,(Value.slice D2 (fo st k).manifests.length e2).ownBlock=some b->b < W.heap.size:=fun b e=>HW.out.os.lt ⟨.ma k,by rw [hma];exact e⟩
 have HNB:=zh (show (Value.slice D2 (fo st k).manifests.length e2).ownBlock≠some w1.heap.size from fun e=>by have:=hrow _ e;omega);have HNW:=zh (show (Value.slice D2 (fo st k).manifests.length e2).ownBlock≠some W.heap.size from fun e=>by have:=hrow _ e;omega);have HK6:=zh (show w6.heap[W.heap.size]? =some (.cells #[.int .i64 0,.int .i64 0,.string ⟨#[]⟩,.slice none 0 0,.slice none 0 0,.slice none 0 0,.slice none 0 0] 49 (0,0)) from by
  have k0:w0.heap[W.heap.size]? =some (.cells #[.int .i64 0,.int .i64 0,.string ⟨#[]⟩,.slice none 0 0,.slice none 0 0,.slice none 0 0,.slice none 0 0] 49 (0,0)):=by rw [<-hw0];exact zJ _ rfl
  have k1:=(HB1.out.block _ qw0).trans k0;have k4:=(HB34.out.block _ (zO k1)).trans k1;have k5:=(S3.block _ (zO k4) (by omega)).trans k4;exact (S6.block _ (zO k5) (by omega)).trans k5)
 have HX:=zh (show ZR (Imm (zFj X W.heap.size w1.heap.size) bw R w6) w6 [.string m.folder,.int .i64 (m.seq+1),.slice m_A2 0 m_c2,.string m'.parent,.slice Am m'.members.length cmv,.int .i64 m'.cut,.bool m'.gone,.string c.user] { m' with seq:=m.seq+1,who:=c.user } from by
  refine ⟨_,_,by rw [<-hpv.2.2],by rw [hpv.2.2];exact m_folder_le,(show I64 (m.seq+1) from ⟨by omega,by omega⟩),?_,hp',SL6,hcut,hus⟩;rw [hpv.2.1];exact ⟨m_A2,m_c2,rfl,Nat.zero_le _,by unfold maxLen;omega,Nat.zero_le _,fun i x hx=>by simp at hx⟩)
 have HSQ:=zh (show 0<=(fo st k).turn/\(fo st k).turn<=1000000 from ht);have hwt:IntKind.i64.wrap ((fo st k).turn+1)=(fo st k).turn+1:=by rw [IntKind.wrap_i64];omega
 have hmaO:=zh hma;have hgw:¬(g=W.heap.size):=fun e=>by
  have:=HW.out.os.lt HA.out.row;omega
 clear SL5 B5 B6 S3 S6 T3 T6 SL6 HC gz x1 hma hrow;have x1:w6.cell? ⟨w1.heap.size,1,none⟩=some (.int .i64 (m.seq+1)):=(zD HT6.out).1 1 _ rfl;have c0:w6.cell? ⟨w1.heap.size,0,none⟩=some (.string m'.folder):=(zD HT6.out).1 0 _ rfl;have c2':w6.cell? ⟨w1.heap.size,2,none⟩=some (.slice m_A2 0 m_c2):=(zD HT6.out).1 2 _ rfl;have c3':w6.cell? ⟨w1.heap.size,3,none⟩=some (.string m'.parent):=(zD HT6.out).1 3 _ rfl;have c4'':w6.cell? ⟨w1.heap.size,4,none⟩=some (.slice Am m'.members.length cmv):=(zD HT6.out).1 4 _ rfl;have c5':w6.cell? ⟨w1.heap.size,5,none⟩=some (.int .i64 m'.cut):=(zD HT6.out).1 5 _ rfl;have c6':w6.cell? ⟨w1.heap.size,6,none⟩=some (.bool m'.gone):=(zD HT6.out).1 6 _ rfl;have c7':w6.cell? ⟨w1.heap.size,7,none⟩=some (.string c.user):=(zD HT6.out).1 7 _ rfl;go_wp2_with fail
 go_region_law (refine z1a w6 _ [.string m.folder,.int .i64 (m.seq+1),.slice m_A2 0 m_c2,.string m'.parent,.slice Am m'.members.length cmv,.int .i64 m'.cut,.bool m'.gone,.string c.user] rfl (.tmp 32) (.tmp 34) 68 rfl iManifest _ 120 Tryz.underlying68 hiManifest hzManifest h1Manifest h2Manifest rfl (by decide) (by decide) (.slice D2 (fo st k).manifests.length e2) (R (.ma k)).cells rfl _ _ rfl HROW.out (by go_grown) (H6.out.os.len _) rfl (by intro u hu;simp at hu;rcases hu with rfl | rfl | rfl | rfl | rfl | rfl | rfl | rfl<;>rfl) (by repeat' first|with_reducible assumption|((with_reducible first|refine zR _ ?_ ?_|apply zJ);rotate_left;first|with_reducible rfl|((try dsimp only);first|with_reducible assumption|omega|(simp only [zS];done)|(simp only [zS];omega)))|with_reducible apply zI|with_reducible refine zZ _ ?_|with_reducible refine ZL ?_|refine (rfl:(_:Array Value)=_)) ?_;intro v8 w8 r8 p8 o8;obtain ⟨A8,n8,cp8,rfl⟩:=r8.shape3;have HR8:=zh r8;have HP8:=zh p8;have HO8:=zh o8;have k8:=p8.block g hg6 HNG.out;have g82:=(World.cell?_of_block (a:=⟨g,o+2,none⟩) k8).trans u2;have g81:=(World.cell?_of_block (a:=⟨g,o+1,none⟩) k8).trans u1;have z8:∀q,w8.frozen? ⟨g,q,none⟩=false:=(fun q=>by unfold World.frozen?;rw [k8];exact HGZ.out q);clear k8;have x18:=(World.cell?_of_block (a:=⟨w1.heap.size,1,none⟩) (p8.block _ (zF x1) HNB.out)).trans x1;have HK8:=zh ((p8.block _ (zO HK6.out) HNW.out).trans HK6.out);clear r8 p8 o8)
 all_goals
  have HWR:=zh (H6.out.writ hk HA.out HSQ.out hl HR8.out (by rw [hmaO.out];exact HP8.out) (by rw [hmaO.out];exact HO8.out) HX.out);go_wp2_with fail
  obtain ⟨R3,H9,M9,E9⟩:=HWR.out;have HM9:=zh M9;have HE9:=zh E9;have HN9:=zh (fun e=>H9.nx W.heap.size e (.inl (.inr rfl)));have K9:=zR (a:=⟨g,o+1,none⟩) (.int .i64 ((fo st k).turn+1)) (zR (a:=⟨g,o+2,none⟩) (.slice A8 n8 cp8) HK8.out (fun e=>hgw e.symm)) (fun e=>hgw e.symm);have HK9:=zh K9;refine zcm (z33 H9 (m.seq+1)) ?_;clear H9 M9 E9 K9;rintro _ w10 ⟨rfl,H10,M10⟩;have K10:=(M10.but.block _ (zO HK9.out) (fun e=>HN9.out (e.symm.imp id id))).trans HK9.out;have HK10:=zh K10;have y0:w10.cell? ⟨W.heap.size,0,none⟩=some (.int .i64 0):=(zD K10).1 0 _ rfl;have y1:w10.cell? ⟨W.heap.size,1,none⟩=some (.int .i64 0):=(zD K10).1 1 _ rfl;have y2:w10.cell? ⟨W.heap.size,2,none⟩=some (.string ⟨#[]⟩):=(zD K10).1 2 _ rfl;have y3:w10.cell? ⟨W.heap.size,3,none⟩=some (.slice none 0 0):=(zD K10).1 3 _ rfl;have y4:w10.cell? ⟨W.heap.size,4,none⟩=some (.slice none 0 0):=(zD K10).1 4 _ rfl;have y5:w10.cell? ⟨W.heap.size,5,none⟩=some (.slice none 0 0):=(zD K10).1 5 _ rfl;have y6:w10.cell? ⟨W.heap.size,6,none⟩=some (.slice none 0 0):=(zD K10).1 6 _ rfl;have yz:=(zD K10).2;have HH10:=zh H10;have HM10:=zh M10;clear H10 M10 K10;unfold yD;go_wp2;try simp only [Exit.inBlock,Exit.then]
  obtain ⟨F1,F2⟩:=Z6 HK10.out (.int .i64 0) (.int .i64 (m.seq+1)) (.string ⟨#[]⟩) (.slice none 0 0) (.slice none 0 0) (.slice none 0 0) (.slice none 0 0);refine bodyPost_ret (results_cell_row rfl _ _ W.heap.size 49 _ (0,0) _ rfl F1 Tryz.underlying49 rfl (by kernel_rfl)) rfl ?_;refine ⟨rfl,R3,HH10.out.leave (F2.mono fun x hx=> .inl (.inr hx)) fun b hb=> .inl (.inl hb),(((Mut.below HB6.out).trans HM9.out).trans HM10.out).tail (F2.mono fun x hx=>by rw [hx];exact znl _),HE9.out⟩
end
end
end Go.Proofs.YtdggplhnfhcieaaGreatDoor
