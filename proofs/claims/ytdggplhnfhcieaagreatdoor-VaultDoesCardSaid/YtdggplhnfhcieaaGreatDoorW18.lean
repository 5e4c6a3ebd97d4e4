/- No condition. -/
import Derived.Test.YtdggplhnfhcieaaGreatDoorW12
import Derived.Test.YtdggplhnfhcieaaGreatDoorW16
set_option linter.all false
set_option maxRecDepth 100000
theorem Go.Shut.o {p:Prop} (h:Go.Shut p):p:=h
namespace Go.Proofs.YtdggplhnfhcieaaGreatDoor
open Go.Proofs.Tryz Cd Ce List
variable {g:Folder} {k:Nat} {m:Manifest} {name s:Nm} {st:State}
section
variable {n:Nat} {us:List Nm} {f:Folder}
theorem FInv.give (h:FInv n us f) (hn:name∈us) (seed:Bool):FInv n us (YZ f name seed):=
 ⟨h.nm,h.man,h.ep,z6u _ _ _ h.wr,λw b=>(z9f b).elim (λa=>by rw[a];exact hn) (h.wn w),h.it,h.mem,h.mn,h.lk,h.ec,h.tn,h.sq,h.pv⟩
theorem FInv.gives (a:Member->Bool):∀{b:List Member} {f:Folder},FInv n us f->(∀m∈b,m.name∈us)->FInv n us (Y5 a f b)
 | [],_,h,_=>h
 | m::r,f,h,hm=>show FInv n us (Y5 a (YZ f m.name (a m)) r) from FInv.gives a (h.give (hm m (mem_cons_self ..)) _) λe d=>hm e (zmc _ d)
theorem z9x (a:Member->Bool):∀(b:List Member) (f:Folder),yA (Y5 a f b)=yA f
 | [],_=>rfl
 | m::r,f=>(z9x a r (YZ f m.name (a m))).trans rfl
theorem z26 (h:f.manifests≠[]):zL f∈f.manifests:=by
 unfold zL;rw[getLast?_eq_some_getLast h];exact getLast_mem h
theorem zKl (h:VInv n st) (s:Nm):∀m∈(zL ((Z4 st s).getD z0b)).members,m.name∈st.users.map User.name:=by
 cases b:Z4 st s with
 | none=>intro m d;simp[zL,z0b,zJd] at d
 | some g=>
  have a:=h.fol g (z30 b);exact(a.mn _ (z26 a.man)).2.2
theorem zD6 {st:State} (hm:∀s,∀m∈(zL ((Z4 st s).getD z0b)).members,m.name∈us) {m:Nat}:∀(l:List At) {f:Folder},(∀x∈l,x.name.size<=20)->FInv m us f->FInv m us (YA st l f)/\yA (YA st l f)<=yA f+1
 | [],f,_,hf=>⟨hf,by unfold YA;omega⟩
 | x::r,f,hl,hf=>by
  unfold YA;split
  ·obtain⟨d,b⟩:=zD6 hm r (λi h=>hl i (zmc _ h)) (hf.gives (λ_=>false) (hm x.name));exact⟨d,by rw[z9x] at b;exact b⟩
  ·split
   ·exact⟨hf,om⟩
   ·refine⟨⟨hf.nm,hf.man,hf.ep,hf.wr,hf.wn,hf.it,hf.mem,hf.mn,λl e=>?_,hf.ec,hf.tn,hf.sq,hf.pv⟩,by unfold yA;simp;omega⟩;rcases zmb e with a|a
    ·exact hf.lk l a
    ·rw[zml a];exact hl x (mem_cons_self ..)
theorem mcf {p:Prop} (h:p:=by
 have:=(h.fol f (z30 hf)).nm;rwa [z2v hf] at this):p:=h
theorem zM7 {st:State} (h:VInv n st) {k:Nat} {s:Nm} {x:At} (hx:x∈zY st k s):x.name.size<=20:=by
 obtain⟨f,hf⟩:=z3y hx;exact mcf
theorem FInv.write (h:FInv n us f) {who:Nm} (hp:m.parent.size<=20) (hr:Ro.rightOf m.members=true) (hm:∀x∈m.members,x.name∈us) (hv:m.prev=[]):FInv (n+1) us (YJ f m who)/\yA (YJ f m who)=yA f+1/\(YJ f m who).name=f.name/\zL (YJ f m who)={ m with seq:=(zL f).seq+1,who:=who }:=by
 have b:zL (YJ f m who)={ m with seq:=(zL f).seq+1,who:=who }:=by unfold YJ zL;simp
 refine⟨⟨h.nm,by unfold YJ;simp,h.ep,h.wr,h.wn,λx d=>⟨(h.it x d).1,by have:=(h.it x d).2.1;omega,(h.it x d).2.2⟩,by rw[b];exact hr,λi e=>?_,h.lk,h.ec,?_,?_,λi e=>?_⟩,by unfold YJ yA;simp;omega,rfl,b⟩
 ·rcases zmb e with a|a
  ·exact h.mn i a
  rw[zml a];exact⟨hp,by have:=((Ro.right_iff _).1 hr).few;show m.members.length<=20;omega,hm⟩
 ·have:=h.tn;show 0<=f.turn+1/\f.turn+1<=((n+1:Nat):Int)
  omega
 ·rw[b];have:=h.sq;show 0<=(zL f).seq+1/\(zL f).seq+1<=((n+1:Nat):Int)
  omega
 rcases zmb e with a|a
 ·exact h.pv i a
 rw[zml a];exact hv
theorem FInv.begins (h:FInv n us f) (i:∀x∈zY st 4 f.name,x.name.size<=20) (who:Nm) (b:Member->Bool):FInv n us (Y5 b { f with epochs:=f.epochs++[z79 st f who] } (zL f).members)/\yA (Y5 b { f with epochs:=f.epochs++[z79 st f who] } (zL f).members)=yA f+1:=by
 have e:FInv n us { f with epochs:=f.epochs++[z79 st f who] }:=⟨h.nm,h.man,sm,h.wr,h.wn,h.it,h.mem,h.mn,h.lk,λd l=>by
  rcases zmb l with a|a
  ·exact h.ec d a
  ·rw[zml a];have j:(z79 st f who).chain=zY st 4 f.name:=by unfold z79;split<;>rfl
   rw[j];exact⟨by have:=z2c st 4 f.name;omega,i⟩,h.tn,h.sq,h.pv⟩
 exact⟨e.gives b (h.mn _ (z26 h.man)).2.2,by rw[z9x];unfold yA;simp;omega⟩
theorem FInv.addV (h:FInv n us f) {j:Nat} {x:Item} (hx:f.items[j]? =some x) (v:Version):FInv (n+1) us { f with items:=f.items.set j { x with versions:=x.versions++[v] },turn:=f.turn+1 }:=
 ⟨h.nm,h.man,h.ep,h.wr,h.wn,λb d=>by
  rcases mem_or_eq_of_mem_set d with a|rfl
  ·exact⟨(h.it b a).1,by have:=(h.it b a).2.1;omega,(h.it b a).2.2⟩
  ·have:=h.it x (zmg hx);exact⟨sm,by simp;omega,this.2.2⟩,h.mem,h.mn,h.lk,h.ec,by
  have:=h.tn;show 0<=f.turn+1/\f.turn+1<=((n+1:Nat):Int)
  omega,by
  have:=h.sq;show 0<=(zL f).seq/\(zL f).seq<=((n+1:Nat):Int)
  omega,h.pv⟩
theorem FInv.addN (h:FInv n us f) (hn:name.size<=20) (v:Version):FInv (n+1) us { f with items:=f.items++[⟨name,[v]⟩],turn:=f.turn+1 }:=
 ⟨h.nm,h.man,h.ep,h.wr,h.wn,λb d=>by
  rcases zmb d with a|a
  ·exact⟨(h.it b a).1,by have:=(h.it b a).2.1;omega,(h.it b a).2.2⟩
  ·rw[zml a];exact⟨sm,sm,hn⟩,h.mem,h.mn,h.lk,h.ec,by
  have:=h.tn;show 0<=f.turn+1/\f.turn+1<=((n+1:Nat):Int)
  omega,by
  have:=h.sq;show 0<=(zL f).seq/\(zL f).seq<=((n+1:Nat):Int)
  omega,h.pv⟩
end
structure CallOk (c:Call):Prop where
 u20:c.user.size<=20
 f20:c.folder.size<=20
 n20:c.name.size<=20
 o20:c.other.size<=20
 user:Z1 c.user=true
 k1:1<=c.kind
 k16:c.kind<=16
 fol:2<=c.kind->c.kind<=13->Z1 c.folder=true
 nof:(c.kind=1\/14<=c.kind)->c.folder=⟨#[]⟩
 oth:5<=c.kind->c.kind<=7->Z1 c.other=true
 noo:(c.kind=1\/c.kind=15)->c.other=⟨#[]⟩
 neq:c.kind=2->c.other≠c.folder
 role:(c.kind=5\/c.kind=6)->1<=c.role/\c.role<=4
 rol0:c.kind=7->c.role=0
 dep:(c.kind=14\/c.kind=16)->Z1 c.other=true
 ver:0<=c.version/\c.version<=1099511627776
theorem z3m (h:Z1 s=true):s≠Top:=λa=>by rw[a] at h;revert h;decide
theorem z32 (h:foI st s=some k):k<st.folders/\(fo st k).name=s/\Z4 st s=some (fo st k):=⟨zV7 h,zT0 h,z41 h⟩
theorem zV9 {n:Nat} (h:VInv n st) {k:Nat} (hk:k<st.folders) {f':Folder} (hn:f'.name=(fo st k).name) (hm:(zL f').parent=(zL (fo st k)).parent) (hg:(zL f').gone=(zL (fo st k)).gone):Inv (upd (Y3 st) f'.name ((zL f').parent,(zL f').gone)):=by
 rw[hn,hm,hg,zT2 (zWt h.names hk)];exact h.tree
theorem zA7 {k:Nat} (h:ZB st s=some k):ZX (Y3 st) s=true:=by rw[<-zOd,h];rfl
theorem zKm {u:Nat} (h:yU st s=some u):s∈st.users.map User.name:=by
 obtain⟨b,a,_⟩:=findIdx?_eq_some_iff_getElem.1 h;exact mem_map.2 ⟨st.users[u],getElem_mem b,by simpa[isU] using a⟩
theorem zI9 {name:Nm} {role:Int}:∀{d:Bool} {l:List Member} {x:Member},x∈Ro.withR name role d l->x.name=name\/x∈l
 | d,[],x,h=>by
  cases d
  ·rw[Ro.withR] at h;simp at h;exact .inl (by rw[h])
  ·simp[Ro.withR] at h
 | d,m::r,x,h=>by
  rw[Ro.withR] at h;have e:x∈((if Ro.eqS m.name name then[] else[m])++Ro.withR name role (d||Ro.leS name m.name) r)->x.name=name\/x∈m::r:=λi=>by
   rcases zmb i with a|a
   ·split at a
    ·simp at a
    ·exact .inr (by rw[zml a];exact mem_cons_self ..)
   ·exact(zI9 a).imp id λa=>zmc _ a
  cases b:!d&&Ro.leS name m.name
  ·rw[b] at h;exact e (by simpa using h)
  ·rw[b] at h;simp only[if_true,singleton_append,qLcx] at h;rcases h with a|a
   ·exact .inl (by rw[a])
   ·exact e a
section
variable {n:Nat} {st:State} {c:Call}
theorem VInv.userAdd (h:VInv n st) (hl:st.users.length<16) (hu:c.user.size<=20):VInv (n+1) { st with users:=st.users++[⟨c.user,false⟩] } where
 names:=h.names
 top:=h.top
 tree:=h.tree
 fol:=λf a=>(h.fol f a).mono om λx hx=>by rw[map_append];exact mem_append_left _ hx
 us20:=λu b=>by
  rcases zmb b with e|e
  ·exact h.us20 u e
  ·rw[zml e];exact hu
 u16:=by simp;omega
 ds20:=h.ds20
 few:=by have:=h.few;simp;omega
 sum:=by have:=h.sum;show z1w st.folders<=_;omega
 turn:=by
  have:=h.turn;show 0<=st.turn/\st.turn<=((n+1:Nat):Int)
  omega
theorem VInv.depAdd (h:VInv n st) (hu:c.user.size<=20) (b:c.other.size<=20):VInv (n+1) { st with deposits:=st.deposits++[⟨c.user,c.other⟩] } where
 names:=h.names
 top:=h.top
 tree:=h.tree
 fol:=λf a=>(h.fol f a).mono om λx hx=>hx
 us20:=h.us20
 u16:=h.u16
 ds20:=λu d=>by
  rcases zmb d with e|e
  ·exact h.ds20 u e
  ·rw[zml e];exact⟨hu,b⟩
 few:=by have:=h.few;simp;omega
 sum:=by have:=h.sum;show z1w st.folders<=_;omega
 turn:=by
  have:=h.turn;show 0<=st.turn/\st.turn<=((n+1:Nat):Int)
  omega
theorem zGa {l:List User} {u:Nat} {b:Bool}:(l.modify u λx=>{ x with lost:=b }).map User.name=l.map User.name:=by
 apply ext_getElem?;intro a;rw[getElem?_map,getElem?_map,getElem?_modify]
 cases l[a]? with
 | none=>rfl
 | some x=>by_cases d:u=a<;>simp[d]
theorem VInv.lostS (h:VInv n st) (s:Nm) (b:Bool):VInv (n+1) (lostS st s b):=by
 unfold Go.Proofs.YtdggplhnfhcieaaGreatDoor.lostS
 cases yU st s with
 | none=>exact h.mono om
 | some u=>
  exact {
   names:=h.names
   top:=h.top
   tree:=h.tree
   fol:=λf j=>(h.fol f j).mono om λa d=>by
    show a∈(st.users.modify u _).map User.name
    rw[zGa];exact d
   us20:=λa d=>by
    have e:a.name∈(st.users.modify u λa=>{ a with lost:=b }).map User.name:=mem_map.2 ⟨a,d,rfl⟩;rw[zGa] at e;obtain⟨o,l,i⟩:=mem_map.1 e;rw[<-i];exact h.us20 o l
   u16:=by simpa using h.u16
   ds20:=h.ds20
   few:=by have:=h.few;simp;omega
   sum:=by have:=h.sum;show z1w st.folders<=_;omega
   turn:=by
    have:=h.turn;show 0<=st.turn/\st.turn<=((n+1:Nat):Int)
    omega }
theorem zH8 (h:VInv n st) (hk:k<st.folders) {f1:Folder} {m:Nat} (hn:f1.name=(fo st k).name) (hF:FInv m (st.users.map User.name) f1) (d:∀x∈zY (setF st k f1) 4 f1.name,x.name.size<=20):
  ∃f',yN (setF st k f1) k=setF st k f'/\Gv f1 f'/\FInv m (st.users.map User.name) f'/\yA f'<=yA f1+1:=by
 have e:∀s,∀m∈(zL ((Z4 (setF st k f1) s).getD z0b)).members,m.name∈st.users.map User.name:=λs=>by
  rw[z4i h.names hk hn];split
  ·exact(hF.mn _ (z26 hF.man)).2.2
  ·exact zKl h s
 obtain⟨a,b⟩:=zD6 e ((zY (setF st k f1) 4 f1.name).drop 1) (λx i=>d x (mem_of_mem_drop i)) hF;refine⟨_,?_,zAy (setF st k f1) _ _,a,b⟩;unfold yN;rw[z24 hk,z2k]
theorem zB1 (h:VInv n st) {k:Nat} (hk:k<st.folders) {f1:Folder} (hn:f1.name=(fo st k).name) {i:Nat} {s:Nm} {x:At} (hx:x∈zY (setF st k f1) i s):x.name.size<=20:=by
 obtain⟨f,hf⟩:=z3y hx;rw[z4i h.names hk hn] at hf;split at hf
 ·rename_i a;rw[a,hn];exact(h.atF hk).nm
 exact mcf
theorem VInv.put (h:VInv n st) (hk:k<st.folders) {f':Folder} (hn:f'.name=(fo st k).name) (hF:FInv (n+1) (st.users.map User.name) f') (hs:yA f'<=yA (fo st k)+3) (hm:(zL f').parent=(zL (fo st k)).parent) (hg:(zL f').gone=(zL (fo st k)).gone):VInv (n+1) (setF st k f'):=by
 have:=h.turnF hk hn hF hs (zV9 h hk hn hm hg) st.turn (oh h.turn);exact this
theorem z9j (e:Z4 st g.name=none) (s:Nm):Z4 { st with folders:=st.folders++[g] } s=if s=g.name then some g else Z4 st s:=by
 unfold Z4 at*;dsimp only;rw[find?_append];split
 ·rename_i a;subst a;rw[e];simp
 rename_i a;have d:([g]:List Folder).find? (λf=>decide (f.name=s))=none:=by simpa using λb:g.name=s=>a b.symm
 rw[d];simp
theorem VInv.folAdd (h:VInv n st) (d:Z4 st g.name=none) (o:g.name≠Top) (hF:FInv (n+1) (st.users.map User.name) g) (hs:yA g<=3) (j:Inv (upd (Y3 st) g.name ((zL g).parent,(zL g).gone))):VInv (n+1) { st with folders:=st.folders++[g],turn:=st.turn+1 } where
 names:=by
  unfold z5a;dsimp only;rw[map_append,nodup_append];refine⟨h.names,sm,λq l r e=>?_⟩;obtain⟨f,b,rfl⟩:=mem_map.1 l;simp only[map_cons,map_nil,mem_singleton] at e;subst e;intro a;have:=z7d h.names b;rw[a,d] at this;cases this
 top:=by
  show Z4 { st with folders:=st.folders++[g] } Top=none
  rw[z9j d,if_neg λa=>o a.symm,h.top]
 tree:=by
  have a:Y3 { st with folders:=st.folders++[g],turn:=st.turn+1 }=upd (Y3 st) g.name ((zL g).parent,(zL g).gone):=by
   funext s
   unfold Y3 upd;have i:Z4 { st with folders:=st.folders++[g],turn:=st.turn+1 } s=Z4 { st with folders:=st.folders++[g] } s:=rfl;rw[i,z9j d];split<;>rfl
  rw[a];exact j
 fol:=λf b=>by
  rcases zmb b with a|a
  ·exact(h.fol f a).mono om λt p=>p
  ·rw[zml a];exact hF
 us20:=h.us20
 u16:=h.u16
 ds20:=h.ds20
 few:=by have:=h.few;simp;omega
 sum:=by
  have:=h.sum;show z1w (st.folders++[g])<=_
  rw[zI7];omega
 turn:=by
  have:=h.turn;show 0<=st.turn+1/\st.turn+1<=((n+1:Nat):Int)
  omega
theorem zIa {a:Folder}:setF { st with folders:=st.folders++[g] } st.folders.length a={ st with folders:=st.folders++[a] }:=by
 unfold setF;simp
theorem zVa:fo { st with folders:=st.folders++[g] } st.folders=g:=by
 unfold fo;simp
theorem zQl (h:VInv n st) (l:CallOk c) (hu:c.user∈st.users.map User.name) (r:Z4 st c.folder=none):
  ∃i,z4z st c={ st with folders:=st.folders++[i],turn:=st.turn+1 }/\i.name=c.folder/\zL i=⟨c.folder,1,[],c.other,[⟨c.user,4⟩],0,false,c.user⟩/\FInv (n+1) (st.users.map User.name) i/\yA i<=3:=by
 obtain⟨a,o⟩:∃a:List At,zY { st with folders:=st.folders++[z02 st c] } 4 c.folder=a:=⟨_,rfl⟩;have q:∀{v:Nat} {s:Nm} {g:Folder} {e:At},g.name=c.folder->e∈zY { st with folders:=st.folders++[g] } v s->e.name.size<=20:=λ{v s g e} j d=>by
  obtain⟨f,hf⟩:=z3y d;rw[z9j (by rw[j];exact r)] at hf;split at hf
  ·rename_i p;rw[p,j];exact l.f20
  ·exact mcf
 have hF:FInv (n+1) (st.users.map User.name) { z02 st c with epochs:=[⟨1,1,1,a,c.user⟩] }:=by
  have t:zL { z02 st c with epochs:=[⟨1,1,1,a,c.user⟩] }=⟨c.folder,1,[],c.other,[⟨c.user,4⟩],0,false,c.user⟩:=rfl;refine⟨l.f20,by simp[z02],sm,by simp[z02,z0v],λw u=>?_,λe d=>by simp[z02] at d,?_,λm b=>?_,λC A=>by simp[z02] at A,λp z=>?_,?_,?_,λm b=>?_⟩
  ·simp[z02] at u;rw[u];exact hu
  ·rw[t];refine(Ro.right_iff _).2 ⟨λm b=>?_,sm,sm,by simp[Ro.own4]⟩;rw[zml b];exact⟨l.user,by simp[Ro.isOf]⟩
  ·simp[z02] at b;subst b;exact⟨l.o20,sm,λe d=>by rw[zml d];exact hu⟩
  ·rw[zml z];exact⟨by have:=z2c { st with folders:=st.folders++[z02 st c] } 4 c.folder;rw[o] at this;show a.length<=20;omega,λD B=>q (g:=z02 st c) rfl (by rw[o];exact B)⟩
  ·show(0:Int)<=1/\(1:Int)<=((n+1:Nat):Int)
   omega
  ·rw[t];show(0:Int)<=1/\(1:Int)<=((n+1:Nat):Int)
   omega
  ·simp[z02] at b;subst b;rfl
 have b:∀s,∀m∈(zL ((Z4 { st with folders:=st.folders++[{ z02 st c with epochs:=[⟨1,1,1,a,c.user⟩] }] } s).getD z0b)).members,m.name∈st.users.map User.name:=λs=>by
  rw[z9j (show Z4 st c.folder=none from r)];split
  ·exact(hF.mn _ (z26 hF.man)).2.2
  ·exact zKl h s
 obtain⟨x,y⟩:=zD6 b ((zY { st with folders:=st.folders++[{ z02 st c with epochs:=[⟨1,1,1,a,c.user⟩] }] } 4 c.folder).drop 1) (λe d=>q (g:={ z02 st c with epochs:=[⟨1,1,1,a,c.user⟩] }) rfl (mem_of_mem_drop d)) hF;have j:=zAy { st with folders:=st.folders++[{ z02 st c with epochs:=[⟨1,1,1,a,c.user⟩] }] } ((zY { st with folders:=st.folders++[{ z02 st c with epochs:=[⟨1,1,1,a,c.user⟩] }] } 4 c.folder).drop 1) { z02 st c with epochs:=[⟨1,1,1,a,c.user⟩] };refine⟨_,?_,j.name,j.now,x,qNtx y (by unfold yA z02;simp)⟩;unfold z4z;dsimp only;rw[o,zIa];unfold yN;rw[zVa,zIa];rfl
end
section
open Go.RowKit Go.Deep
section
variable {X:Nat->Prop} {base bw:Nat} {W:World} {R:RM} {c:Call} {dv:Value} {st:State} {done late:Bool}
def Wrote (X:Nat->Prop) (base bw:Nat) (W:World) (R:RM) (c:Call) (dv:Value) (late:Bool) (st':State) (b:Bool) (w':World):Prop:=∃a,WK X base bw w' a c dv st' b late/\Mut bw R W a w'/\(a .fo).v=(R .fo).v
theorem zMu {a B:Nat} {w1 w2:World} {v:Value} {l:List Member} (h:Sl 2 zZ (Imm (zH2 X a B) bw R w1) w1 v l) (hb:ButB (·=B) w1 w2):Sl 2 zZ (Imm (zH2 X a B) bw R w2) w2 v l:=
 h.keep ZA dc (hb.kept λo ⟨e,i,j,b⟩=>⟨⟨zll e hb.size,i,j,b⟩,λd=>b (.inr d)⟩)
theorem zM3 (h:WK X base bw W R c dv st done late) {g j:Nat} (hk:k<st.folders) (ha:foAt R k g j) (hm:zL (fo st k)=m) (i:m.prev=[]) (hml:m.members.length<=10000)
  (hn:0<=m.seq/\m.seq<=1000000) (t:0<=(fo st k).turn/\(fo st k).turn<=1000000) (hl:(fo st k).manifests.length<=9999) (C:Nat) (s:Nm) (d:(cL W C 4 s:Prop)) (hs:s.size<=()):
  Calls prog 133 #[pT bw,pO g j,.func (.func 134) #[] #[pT C]] W λe w'=>e= .returned (.agg (ZV 0 (m.seq+1)))/\
   Wrote X base bw W R c dv late (setF st k { fo st k with manifests:=(fo st k).manifests++[{ m with seq:=m.seq+1,who:=c.user,parent:=s,cut:=m.seq+1 }],turn:=(fo st k).turn+1 }) true w':=by
 refine zAs h hk ha (m':={ m with parent:=s,cut:=m.seq+1 }) hm ⟨i,i,rfl⟩ hml hn t hl hs (show I64 (m.seq+1) from⟨om,om⟩) 134 #[pT C] (enters_of func134 kr rfl) λw1 a x u r v q p=>?_
 have o:=zF d;refine(zO2 a C w1 _ _ _ _ _ _ _ _ s q (zy r d) (by show C≠a;have:C<W:=o;omega)).mono ?_;rintro e _ ⟨rfl,l,b⟩;exact⟨rfl,b,u,l,zMu p b⟩
theorem zJ1 (h:WK X base bw W R c dv st done late) {g d:Nat} (hk:k<st.folders) (ha:foAt R k g d) (hm:zL (fo st k)=m) (b:m.prev=[]) (hml:m.members.length<=10000)
  (hn:0<=m.seq/\m.seq<=1000000) (q:0<=(fo st k).turn/\(fo st k).turn<=1000000) (hl:(fo st k).manifests.length<=9999) (p:m.parent.size<=()) (hcut:I64 m.cut):
  Calls prog 133 #[pT bw,pO g d,.func (.func 137) #[] #[]] W λe w'=>e= .returned (.agg (ZV 0 (m.seq+1)))/\
   Wrote X base bw W R c dv late (setF st k { fo st k with manifests:=(fo st k).manifests++[{ m with seq:=m.seq+1,who:=c.user,gone:=true }],turn:=(fo st k).turn+1 }) true w':=by
 refine zAs h hk ha (m':={ m with gone:=true }) hm ⟨b,b,rfl⟩ hml hn q hl p hcut 137 #[] (enters_of func137 kr rfl) λw1 i v r u t o l=>?_
 refine(zK5 i w1 _ _ _ _ _ _ _ _ o).mono ?_;rintro e _ ⟨rfl,j,a⟩;exact⟨rfl,a,r,j,zMu l a⟩
theorem zH3 (h:WK X base bw W R c dv st done late) {g t:Nat} (hk:k<st.folders) (ha:foAt R k g t) (hm:zL (fo st k)=m) (r:m.prev=[]) (hml:m.members.length<=10000)
  (hn:0<=m.seq/\m.seq<=1000000) (H:0<=(fo st k).turn/\(fo st k).turn<=1000000) (hl:(fo st k).manifests.length<=9999) (E:m.parent.size<=()) (hcut:I64 m.cut) (L C:Nat) (v:Value) (j:List Member) (q:Int)
  (p:(cL W L 0 v:Prop)) (o:(cL W C 0 q:Prop)) (hv:Sl 2 zZ (Imm X bw R W) W v j):
  Calls prog 133 #[pT bw,pO g t,.func (.func 142) #[] #[pT L,pT C]] W λe w'=>e= .returned (.agg (ZV 0 (m.seq+1)))/\
   Wrote X base bw W R c dv late (setF st k { fo st k with manifests:=(fo st k).manifests++[{ m with seq:=m.seq+1,who:=c.user,members:=j,cut:=if q=7 then m.seq+1 else m.cut }],turn:=(fo st k).turn+1 }) true w':=by
 have D:I64 (if q=7 then m.seq+1 else m.cut):=by
  split
  ·exact⟨om,om⟩
  ·exact hcut
 refine zAs h hk ha (m':={ m with members:=j,cut:=if q=7 then m.seq+1 else m.cut }) hm ⟨r,r,rfl⟩ hml hn H hl E D 142 #[pT L,pT C] (enters_of func142 kr rfl) λw1 u O N a I B M=>?_
 have J:C<W:=zF o;have K:L<W:=zF p;have G:∃b n c,v= .slice b n c:=by
  obtain⟨b,n,e,_⟩:=hv;exact⟨b,_,n,e⟩
 refine(zIz u L C w1 _ _ _ _ _ _ _ v _ q B G (zy a p) (zy a o) om om).mono ?_;rintro e _ ⟨rfl,A,i⟩;refine⟨rfl,i,v,?_,hv.keep ZA dc λl ⟨d,x,y,z⟩ hl=>⟨⟨zll d (qNtx a.size i.size),x,y,λe=>?_⟩,(i.block l (zll d a.size) om).trans (a.block l d)⟩⟩
 ·rw[A];unfold zAr;by_cases F:q=7<;>simp[F]
 rcases e with (e|e)|e
 ·exact z e
 ·omega
 omega
end
end
end Go.Proofs.YtdggplhnfhcieaaGreatDoor
namespace Go.Proofs.YtdggplhnfhcieaaGreatDoor
open Go.Proofs.Tryz Cd Ce List
open Go.RowKit Go.Deep
variable {S:Nat->Prop} {w w1:World}
section
variable {X:Nat->Prop} {base bw:Nat} {W:World} {R:RM} {c:Call} {dv:Value} {st:State} {done late:Bool}
def Did (X:Nat->Prop) (base bw:Nat) (W:World) (R:RM) (c:Call) (dv:Value) (late:Bool) (r:Res) (e:Ending) (w':World):Prop:=
 ∃b,e= .returned (.agg b)/\∃a,WK X base bw w' a c dv r.1 r.2.2 late/\Mut bw R W a w'/\yJ (Imm X bw a w') w' b.toList r.2.1
theorem y9 {b:Type} {k:Nat} {Q:Rp b}:Sl k Q S w () []:=⟨none,0,rfl,Nat.zero_le _,Nat.zero_le _,Nat.zero_le _,λd e a=>by simp at a⟩
theorem z33 {n:Int} (hn:I64 n):yJ S w (ZV 0 n).toList (Y2 n):=
 ⟨_,_,_,_,rfl,(show I64 0 from⟨om,om⟩),hn,(by decide:(⟨#[]⟩:Nm).size<=140737488355328),y9,y9,y9,y9⟩
theorem ZW {e:Int} (hn:I64 e):yJ S w (ZV e 0).toList (ZD e):=
 ⟨_,_,_,_,rfl,hn,(show I64 0 from⟨om,om⟩),(by decide:(⟨#[]⟩:Nm).size<=140737488355328),y9,y9,y9,y9⟩
theorem WK.usTo (h:WK X base bw W R c dv st done late) {v8:Value} {cells:List (List Value)} {l:List User} (i:cells.length<=10000)
  (hr:RowC 91 2 w1 v8 cells) (hb:ButB (λt=>(R .us).v.ownBlock=some t) W w1) (j:v8.ownBlock=(R .us).v.ownBlock\/∃k,v8.ownBlock=some k/\W.heap.size<=k) (hx:All2 (z0z (Imm X bw R W) W) cells l):
  WK X base bw (w1.setCell (aD bw 9) v8) (zO R .us ⟨v8,cells⟩) c dv { st with users:=l } done late/\Mut bw R W (zO R .us ⟨v8,cells⟩) (w1.setCell (aD bw 9) v8):=by
 obtain⟨r,o,d,q⟩:=h.put (W':=w1) .us ⟨v8,cells⟩ hb hr i (λb hb=>j.imp (λa=>by rw[<-a];exact hb) λ⟨u,a,e⟩=>by
  rw[show v8.ownBlock=some b from hb] at a;obtain rfl:=zsi a;exact e)
 have p:Mut bw (zO R .us ⟨v8,cells⟩) w1 (zO R .us ⟨v8,cells⟩) (w1.setCell (aD bw 9) v8):=⟨(ButB.refl _ w1).set ⟨bw,9,none⟩ v8 (.inl rfl),λ_ h=> .inl h⟩;have m:=o.trans p;refine⟨h.turn m (r.to λb hb=>Below.heap_setCell _ _ _ _ λa=>q (by rw[<-show b=bw from a];exact hb)) (h.is.usRow m.kept (hx.imp λ_ _ a=>z29 a m.kept)) ?_,m⟩;refine zH v8 (d.trans h.box) ?_;unfold z42;rw[YQ,yB _ _ sm,yB _ _ sm];rfl
theorem WK.deTo (h:WK X base bw W R c dv st done late) {v8:Value} {cells:List (List Value)} {l:List Pair} (i:cells.length<=10000)
  (hr:RowC 126 2 w1 v8 cells) (hb:ButB (λt=>(R .de).v.ownBlock=some t) W w1) (j:v8.ownBlock=(R .de).v.ownBlock\/∃k,v8.ownBlock=some k/\W.heap.size<=k) (hx:All2 (z10 (Imm X bw R W) W) cells l):
  WK X base bw (w1.setCell (aD bw 10) v8) (zO R .de ⟨v8,cells⟩) c dv { st with deposits:=l } done late/\Mut bw R W (zO R .de ⟨v8,cells⟩) (w1.setCell (aD bw 10) v8):=by
 obtain⟨r,o,d,q⟩:=h.put (W':=w1) .de ⟨v8,cells⟩ hb hr i (λb hb=>j.imp (λa=>by rw[<-a];exact hb) λ⟨u,a,e⟩=>by
  rw[show v8.ownBlock=some b from hb] at a;obtain rfl:=zsi a;exact e)
 have p:Mut bw (zO R .de ⟨v8,cells⟩) w1 (zO R .de ⟨v8,cells⟩) (w1.setCell (aD bw 10) v8):=⟨(ButB.refl _ w1).set ⟨bw,10,none⟩ v8 (.inl rfl),λ_ h=> .inl h⟩;have m:=o.trans p;refine⟨h.turn m (r.to λb hb=>Below.heap_setCell _ _ _ _ λa=>q (by rw[<-show b=bw from a];exact hb)) (h.is.deRow m.kept (hx.imp λ_ _ a=>z3o a m.kept)) ?_,m⟩;refine zH v8 (d.trans h.box) ?_;unfold z42;rw[YQ,yB _ _ sm,yB _ _ sm];rfl
theorem WK.usSet (h:WK X base bw W R c dv st done late) {u:Nat} {x:User} (hu:st.users[u]? =some x) {a d n cp:Nat} (hv:(R .us).v= .slice (some ⟨a,d,none⟩) n cp) (b:Bool):
  WK X base bw (W.setCell (aD a (d+u*2+1)) b) (zO R .us ⟨(R .us).v,(R .us).cells.set u [x.name,b]⟩) c dv { st with users:=st.users.set u { x with lost:=b } } done late/\Mut bw R W (zO R .us ⟨(R .us).v,(R .us).cells.set u [x.name,b]⟩) (W.setCell (aD a (d+u*2+1)) b):=by
 obtain⟨_,q,t⟩:=h.is.users.at hu;have j:=t;unfold z0z at j;obtain⟨rfl,v⟩:=j;have i:=h.os.row .us;rw[hv] at i;have r:=i.write (by decide:(0:Nat)<2) q (by decide:1<2) b rfl;have z:z01 R a:=⟨.us,by rw[hv];rfl⟩;obtain⟨y,e,l,_⟩:=h.put (W':=W.setCell (aD a (d+u*2+1)) b) .us ⟨(R .us).v,(R .us).cells.set u [x.name,b]⟩ ((ButB.refl _ W).set ⟨a,d+u*2+1,none⟩ _ (by rw[hv];rfl)) (by rw[hv];exact r) (by have:=h.os.len .us;simpa using this) (λ_ p=> .inl p);refine⟨h.turn e y (h.is.usRow e.kept ((h.is.users.imp λ_ _ o=>z29 o e.kept).set u ?_)) ?_,e⟩
 ·exact⟨rfl,v⟩
 rw[l,h.box];unfold z42;rw[YQ,yB _ _ sm,yB _ _ sm]
theorem ZI {a:Nat} {w2:World} {e:RM} {r:Res} {i:Array Value} (h:WK (λb=>X b\/b=a) base bw w1 e c dv r.1 r.2.2 late) (m:Mut bw R W e w1) (ha:W<=a) (d:ButB (·=a) w1 w2) (hr:yJ (Imm (λb=>X b\/b=a) bw e w1) w1 i.toList r.2.1):Did X base bw W R c dv late r (.returned (.agg i)) w2:=
 ⟨i,rfl,e,h.leave (d.mono λx l=> .inr l) λb u=> .inl u,m.tail (d.mono λx l=>by rw[l];exact ha),yY hr λb ⟨o,q,t,p⟩ _=>⟨⟨zll o d.size,q,t,λj=>p (.inl j)⟩,d.block b o λj=>p (.inr j)⟩⟩
def Z3:Array Value:=#[.int .i64 0,.int .i64 0,.string ⟨#[]⟩,(),(),(),()]
theorem yQ (W:World):(∀R:RM,∀{X:Nat->Prop} {base bw:Nat} {c:Call} {dv:Value} {st:State} {done late:Bool},WK X base bw W R c dv st done late->WK (λb=>X b\/b=W) base bw (W.alloc (.cells Z3 49)) R c dv st done late)/\Below W W (W.alloc (.cells Z3 49))/\(W.alloc (.cells Z3 49)).heap[W.heap.size]? =some (.cells Z3 49 (0,0))/\W.heap.size<(W.alloc (.cells Z3 49)).heap.size:=by
 have a:Below W W (W.alloc (.cells Z3 49)):=Below.alloc zbr (znl _) _;have d:W.heap.size<(W.alloc (.cells Z3 49)).heap.size:=by rw[World.size_alloc];omega
 exact⟨λR _ _ _ _ _ _ _ _ e=>e.enter a d,a,zJ _ rfl,d⟩
end
end Go.Proofs.YtdggplhnfhcieaaGreatDoor
namespace Go.Proofs.YtdggplhnfhcieaaGreatDoor
open Go.Proofs.Tryz Cd Ce List
open Go.RowKit Go.Deep
theorem zW {X:Nat->Prop} {base bw b:Nat} {d i a:World} {R:RM} {c:Call} {dv:Value} {st:State} {done late:Bool} {T:TypeId} (hb:(bW d i:Prop)) (l:(bW i a:Prop)) (p:WK X base bw d R c dv st done late) (q:b<d) (o:d.heap[b]? =some (.cells Z3 T (0,0))):Hid (bW d a)/\Hid (WK X base bw a R c dv st done late)/\Hid (a.heap[b]? =some (.cells Z3 T (0,0)))/\cL a b 0 '0'/\cL a b 1 '0'/\cL a b 2 ""/\cL a b 3 ()/\cL a b 4 ()/\cL a b 5 ()/\cL a b 6 ()/\∀j,a.frozen? (aD b j)=false:=by
 have e:=zD hb l;have h:=(e.block _ q).trans o;have k:=(zB h).1;exact⟨e,p.below e,h,k 0 _ rfl,k 1 _ rfl,k 2 _ rfl,k 3 _ rfl,k 4 _ rfl,k 5 _ rfl,k 6 _ rfl,(zB h).2⟩
end Go.Proofs.YtdggplhnfhcieaaGreatDoor
namespace Go.Proofs.YtdggplhnfhcieaaGreatDoor
open Go.Proofs.Tryz Cd Ce List
open Go.RowKit Go.Deep
theorem zq {b:Func} {p:Tmp} (h:b.results=#[.cell p 49]) {tmps:Array Value} {w:World} {g:Nat} {a:Array Value} (hp:tmps.getD p undef= .pointer (some ⟨g,0,none⟩)) (hg:w.heap[g]? =some (.cells a 49 (0,0))) (hs:a.size=7):(results b tmps).run prog w= .ok (.agg a) w:=results_cell_row h tmps w g 49 a (0,0) _ hp hg underlying49 rfl (by rw[hs];kernel_rfl)
theorem zrt {d:Func} {p:Tmp} {a:Act} {w:World} {g:Nat} {b:Array Value} {R:Ending->World->Prop} (hg:w.heap[g]? =some (.cells b 49 (0,0))) (e:R (.returned (.agg b)) w) (h:d.results=#[.cell p 49]:=by exact rfl) (hp:a.tmps.getD p undef= .pointer (some ⟨g,0,none⟩):=by exact rfl) (hs:b.size=7:=by exact rfl) (i:a.defers=[]:=by exact rfl):bodyPost prog d R .ret a w:=bodyPost_ret (zq h hp hg hs) i e
end Go.Proofs.YtdggplhnfhcieaaGreatDoor
