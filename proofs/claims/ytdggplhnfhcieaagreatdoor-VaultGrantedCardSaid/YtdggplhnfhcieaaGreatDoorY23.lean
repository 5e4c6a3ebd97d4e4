/- Part 23 of the proof of vaultGranted_holds. No condition. -/
import Derived.Test.YtdggplhnfhcieaaGreatDoorY21
set_option linter.unusedVariables false
set_option linter.unusedSimpArgs false
set_option linter.unusedSectionVars false
set_option maxRecDepth 100000
namespace Go.Proofs.YtdggplhnfhcieaaGreatDoor
def y9 (st:State):Fs:=fun s=>(zV st s).map fun f=>((zL f).parent,(zL f).gone)
def z34 (st:State):Prop:=(st.folders.map Folder.name).Nodup
theorem z4u {st:State} (h:z34 st) {f:Folder} (hf:f∈st.folders):zV st f.name=some f:=by
 unfold zV z34 at*
 generalize st.folders=l at*
 induction l with
 | nil=>simp at hf
 | cons x r ih=>
  rw [List.map_cons,List.nodup_cons] at h
  rw [List.find?_cons]
  by_cases e:x.name=f.name
  ·have hx:f=x:=by
    rcases List.mem_cons.1 hf with e2 | e2
    ·exact e2
    ·exact absurd (show x.name∈r.map Folder.name by rw [e];exact List.mem_map.2 ⟨f,e2,rfl⟩) h.1
   rw [<-hx]
   simp
  rw [decide_eq_false e]
  refine ih h.2 ?_
  rcases List.mem_cons.1 hf with e2 | e2
  ·exact absurd (by rw [e2]) e
  exact e2
theorem zLi {st:State} (h:z34 st) {f:Folder} (hf:f∈st.folders):y9 st f.name=some ((zL f).parent,(zL f).gone):=by unfold y9;rw [z4u h hf];rfl
theorem zI5 {st:State} {s:Nm}:ZJ (y9 st) s=true↔∃f,zV st s=some f/\(zL f).gone=false:=by
 unfold ZJ y9
 cases hf:zV st s with
 | none=>simp
 | some f=>simp
theorem zLj {st:State} {s:Nm} {f:Folder} (h:zV st s=some f):YW (y9 st) s=(zL f).parent:=by unfold YW y9;rw [h];rfl
theorem zJl {st:State} {s:Nm}:(Z7 st s).isSome=ZJ (y9 st) s:=by
 unfold Z7
 cases h:foI st s with
 | none=>
  have:=z7y.1 h
  unfold ZJ y9
  rw [this]
  rfl
 | some k=>
  have:=z2t h
  unfold ZJ y9
  rw [this]
  dsimp only [Option.map_some]
  cases (zL (fo st k)).gone<;>rfl
theorem z6a {st:State} {s:Nm} {k:Nat} (h:Z7 st s=some k):foI st s=some k/\(zL (fo st k)).gone=false:=by
 unfold Z7 at h
 cases h1:foI st s with
 | none=>rw [h1] at h;cases h
 | some j=>
  rw [h1] at h
  dsimp only at h
  cases h2:(zL (fo st j)).gone
  ·rw [h2] at h
   simp only [Bool.false_eq_true,if_false,Option.some.injEq] at h
   subst h
   exact ⟨rfl,h2⟩
  rw [h2] at h
  simp at h
theorem z3f {st:State} {k:Nat} (h:k < st.folders.length):fo st k∈st.folders:=by
 unfold fo
 rw [List.getElem?_eq_getElem h]
 exact List.getElem_mem h
theorem zNg {st:State} {s:Nm} {k:Nat} (h:foI st s=some k):(fo st k).name=s:=z1s (z2t h)
theorem zOx {st:State} {s:Nm} {k:Nat} (h:foI st s=some k):k < st.folders.length:=(List.findIdx?_eq_some_iff_getElem.1 h).1
theorem z9e {st:State} (h:z34 st) {f:Folder} (hf:f∈st.folders) (s:Nm):inB s f=true↔ZJ (y9 st) f.name=true/\YW (y9 st) f.name=s:=by
 have h1:=z4u h hf
 rw [zLj h1]
 unfold inB ZJ
 rw [zLi h hf]
 simp
def z8w (st:State):Nat->Nm->Prop
 | 0,s=>∀f∈st.folders,inB s f=false
 | n+1,s=>∀f∈st.folders,inB s f=true->z8w st n f.name
theorem z9f {st:State} (hN:z34 st) (hI:Inv (y9 st)):∀(n:Nat) (s:Nm),4<=(ch (y9 st) s).length+n->z8w st n s
 | 0,s,h=>fun f hf=>by
  cases hb:inB s f
  ·rfl
  ·obtain ⟨h1,h2⟩:=(z9e hN hf s).1 hb
   have h3:=z2w hI h1
   rw [h2] at h3
   have:=hI.deep f.name
   omega
 | n+1,s,h=>fun f hf hb=>by
  obtain ⟨h1,h2⟩:=(z9e hN hf s).1 hb
  have h3:=z2w hI h1
  rw [h2] at h3
  exact z9f hN hI n f.name (by omega)
theorem zDd {α:Type} (p:α->Bool) (g:α->Nat):∀(l:List α) (m:Nat),m<=l.foldl (fun m f=>if p f then max m (g f) else m) m/\(∀f∈l,p f=true->g f<=l.foldl (fun m f=>if p f then max m (g f) else m) m)/\
  (l.foldl (fun m f=>if p f then max m (g f) else m) m=m\/∃f∈l,p f=true/\l.foldl (fun m f=>if p f then max m (g f) else m) m=g f)
 | [],m=>⟨znl _,fun f hf=>by simp at hf,.inl rfl⟩
 | x :: l,m=>by
  rw [List.foldl_cons]
  cases hx:p x
  ·simp only [Bool.false_eq_true,if_false]
   obtain ⟨h1,h2,h3⟩:=zDd p g l m
   refine ⟨h1,fun f hf hp=>?_,h3.imp id fun ⟨f,a,b⟩=>⟨f,zmc _ a,b⟩⟩
   rcases List.mem_cons.1 hf with e | e
   ·rw [e,hx] at hp;cases hp
   ·exact h2 f e hp
  ·simp only [if_true]
   obtain ⟨h1,h2,h3⟩:=zDd p g l (max m (g x))
   have hm:m<=max m (g x):=Nat.le_max_left ..
   have hg:g x<=max m (g x):=Nat.le_max_right ..
   refine ⟨Nat.le_trans hm h1,fun f hf hp=>?_,?_⟩
   ·rcases List.mem_cons.1 hf with e | e
    ·rw [e];exact Nat.le_trans hg h1
    ·exact h2 f e hp
   ·rcases h3 with h3 | ⟨f,a,b,c⟩
    ·rcases Nat.le_total (g x) m with e | e
     ·exact .inl (h3.trans (Nat.max_eq_left e))
     ·exact .inr ⟨x,List.mem_cons_self ..,hx,h3.trans (Nat.max_eq_right e)⟩
    ·exact .inr ⟨f,zmc _ a,b,c⟩
theorem z9g {st:State} (hN:z34 st) (hI:Inv (y9 st)):∀(n:Nat) (s:Nm),ZJ (y9 st) s=true->4<=(ch (y9 st) s).length+n->IsHigh (y9 st) s (YE st n s)
 | 0,s,hs,h=>by
  refine IsHigh.up (m:=0) hI hs (fun c c1 c2=>?_) (.inl rfl)
  have h3:=z2w hI c1
  rw [c2] at h3
  have:=hI.deep c
  omega
 | n+1,s,hs,h=>by
  obtain ⟨_,f2,f3⟩:=zDd (inB s) (fun f=>YE st n f.name) st.folders 0
  refine IsHigh.up hI hs (fun c c1 c2=>?_) ?_
  ·obtain ⟨f,hf,_⟩:=zI5.1 c1
   have hfm:=z15 hf
   have hfn:=z1s hf
   have h3:=z2w hI c1
   rw [c2] at h3
   refine ⟨_,z9g hN hI n c c1 (by omega),?_⟩
   have:=f2 f hfm ((z9e hN hfm s).2 (by rw [hfn];exact ⟨c1,c2⟩))
   rw [hfn] at this
   exact this
  ·rcases f3 with e | ⟨f,a,b,e⟩
   ·exact .inl e
   ·obtain ⟨c1,c2⟩:=(z9e hN a s).1 b
    have h3:=z2w hI c1
    rw [c2] at h3
    refine .inr ⟨f.name,c1,c2,?_⟩
    rw [e]
    exact z9g hN hI n f.name c1 (by omega)
theorem zAq {st:State} (hI:Inv (y9 st)) (hT:zV st Top=none):∀(n:Nat) (s:Nm),s=Top\/ZJ (y9 st) s=true->(ch (y9 st) s).length<=n->(zN st n s).map At.name=ch (y9 st) s
 | n,s,hs,hn=>by
  by_cases hl:ZJ (y9 st) s=true
  ·obtain ⟨f,hf,_⟩:=zI5.1 hl
   have h3:=z2w hI hl
   cases n with
   | zero=>omega
   | succ n=>
    rw [z1f hf,z4b hI hl,List.map_cons]
    have hp:=zLj hf
    have hup:=hI.up s hl
    rw [hp] at h3 hup⊢
    rw [zAq hI hT n (zL f).parent hup (by omega)]
  ·rcases hs with rfl | hs
   ·rw [zKf hI hI.no,z2b hT]
    rfl
   ·exact absurd hs hl
theorem zEa {st:State} (hI:Inv (y9 st)) (hT:zV st Top=none) {s:Nm} (hs:s=Top\/ZJ (y9 st) s=true):(zN st 4 s).length=(ch (y9 st) s).length:=by
 rw [<-zAq hI hT 4 s hs (hI.deep s),List.length_map]
theorem zLk {st:State} (hI:Inv (y9 st)) (hT:zV st Top=none) {s:Nm} (hs:s=Top\/ZJ (y9 st) s=true) (x:Nm):(zN st 4 s).any (fun a=>decide (a.name=x))=true↔x∈ch (y9 st) s:=by
 rw [<-zAq hI hT 4 s hs (hI.deep s),List.any_eq_true]
 simp
section
open Go.RowKit Go.Deep
theorem zBl (x:Wrap) (name:Nm) (cs:List Value) (w:World) (S:Nat->Prop) (h:yW S w cs x):Calls Tryz.prog 160 #[.agg cs.toArray,.string name] w fun e w'=>e= .returned (.int .i64 (Ro.cmpOf x.name name))/\Below w.heap.size w w':=by
 obtain ⟨rfl,_,_⟩:=z2g h
 have HC:=zh fun w=>Ro.cmp_any x.name name w
 go_enter Tryz.func160,Tryz.ntmps160
 go_wp2_with fail
 refine zcm (HC.out _) ?_
 rintro e _ ⟨rfl,rfl⟩
 go_wp2
 go_ret
 exact ⟨rfl,by go_grown⟩
theorem zI9 {a b:Nm}:(Ro.cmpOf a b < 0)↔ltS a b=true:=by
 unfold Ro.cmpOf
 rw [show Ro.ltS a b=ltS a b from rfl,show Ro.ltS b a=ltS b a from rfl]
 cases ltS a b
 ·cases ltS b a<;>simp
 simp
theorem zNl {a b:Nm}:(Ro.cmpOf a b=0)↔a=b:=by
 unfold Ro.cmpOf
 rw [show Ro.ltS a b=ltS a b from rfl,show Ro.ltS b a=ltS b a from rfl]
 constructor
 ·intro h
  rcases z13 a b with e | e | e
  ·rw [if_pos e] at h;cases h
  ·exact e
  rw [if_neg (by rw [z35 e];decide),if_pos e] at h;cases h
 rintro rfl
 rw [YB]
 rfl
theorem zA2 {α:Type} {p:α->Bool}:∀{l:List α} {i:Nat},i<=l.length->(∀y∈l.take i,p y=true)->(∀y∈l.drop i,p y=false)->(l.takeWhile p).length=i
 | [],i,h,_,_=>by simp at h;simp [h]
 | x :: r,0,_,_,h2=>by
  rw [List.takeWhile_cons,h2 x (by simp)]
  rfl
 | x :: r,i+1,h,h1,h2=>by
  rw [List.takeWhile_cons,h1 x (by simp),if_pos rfl,List.length_cons,zA2 (by simpa using h) (fun y hy=>h1 y (by simp [hy])) (fun y hy=>h2 y (by simpa using hy))]
theorem zP9 {l:List Wrap} (h:z1i l) {name:Nm} {k:Nat} {x:Wrap} (hx:l[k]? =some x) (hl:ltS x.name name=true):∀y∈l.take (k+1),ltS y.name name=true:=fun y hy=>by
 obtain ⟨j,_,rfl⟩:=List.mem_take_iff_getElem.1 hy
 obtain ⟨hk,rfl⟩:=zge hx
 rcases Nat.lt_or_eq_of_le (show j<=k by omega) with e | e
 ·exact YT (List.pairwise_iff_getElem.1 h j k (by omega) hk e) hl
 ·subst e;exact hl
theorem zPa {l:List Wrap} (h:z1i l) {name:Nm} {k:Nat} {x:Wrap} (hx:l[k]? =some x) (hl:ltS x.name name=false):∀y∈l.drop k,ltS y.name name=false:=fun y hy=>by
 obtain ⟨j,hj,e⟩:=List.mem_iff_getElem.1 hy
 rw [List.getElem_drop] at e
 obtain ⟨hk,rfl⟩:=zge hx
 cases hc:ltS y.name name
 ·rfl
 ·subst e
  rcases Nat.eq_zero_or_pos j with e | e
  ·subst e
   simp only [Nat.add_zero] at hc
   rw [hc] at hl;cases hl
  ·have:=YT (List.pairwise_iff_getElem.1 h k (k+j) hk (by simp at hj;omega) (by omega)) hc
   rw [this] at hl
   cases hl
def z71 (name:Nm) (l:List Wrap):Bool:=match l[Y4 name l]? with
 | some w=>decide (w.name=name)
 | none=>false
set_option maxHeartbeats 4000000 in
theorem zPb (l:List Wrap) (hr:z1i l) (hl0:l.length<=1000000) (name:Nm) (v:Value) (w:World) (S:Nat->Prop) (h:Sl 3 yW S w v l):
  Calls Tryz.prog 159 #[v,.string name,.func (.func 160) #[] #[]] w fun e w'=>e= .returned (.tuple #[.int .i64 (Y4 name l),.bool (z71 name l)])/\Below w.heap.size w w':=by
 obtain ⟨_,_,rfl,_,hc,_,hs⟩:=h
 unfold maxLen at hc
 have HR:=zh hr
 clear hr
 go_enter Tryz.func159,Tryz.ntmps159
 go_wp2
 go_loopw [9,10] (fun i j wr=>∃a b:Nat,a<=b/\b<=l.length/\i= .int .i64 a/\j= .int .i64 b/\Hid ((∀y∈l.take a,ltS y.name name=true)/\∀y∈l.drop b,ltS y.name name=false)/\Below w.heap.size w wr) (fun i j _=>(RowKit.intOf j).toNat - (RowKit.intOf i).toNat)
 case atStart=>exact ⟨0,l.length,by omega,by omega,by go_num,by go_num,⟨fun y hy=>by simp at hy,fun y hy=>by simp at hy⟩,by go_grown⟩
 obtain ⟨a,b,_,hb,rfl,rfl,HN,hbel⟩:=hrel
 have hz:=hbel.size
 by_cases hlt:a < b
 rotate_left
 ·obtain rfl:a=b:=by omega
  have HI:=zh (show Y4 name l=a from zA2 hb HN.out.1 HN.out.2)
  by_cases hal:a < l.length
  rotate_left
  ·have HW:=zh (show z71 name l=false by unfold z71;rw [HI.out,List.getElem?_eq_none (by omega)])
   have hali:¬((a:Int) < (l.length:Int)):=by omega
   go_wp2
   go_ret2
   exact ⟨by rw [HI.out,HW.out];rfl,hbel⟩
  have hali:(a:Int) < (l.length:Int):=by omega
  obtain ⟨x,x_b,x_o,x_k,x_d,x_m,rfl,x_l,x_S,x_0,x_1,x_2,x_R,x_name_le,x_epoch_ok⟩:=z7i hs hal (zH hbel)
  have HW:=zh (show z71 name l=decide (x.name=name) by unfold z71;rw [HI.out,x_k])
  clear x_k x_d
  go_wp2_with fail
  refine zcm (zBl x name _ wr S x_R) ?_
  rintro e w1 ⟨rfl,B1⟩
  have HB1:=zh (zB hbel B1)
  obtain ⟨z,hz0⟩:∃z,Ro.cmpOf x.name name=z:=⟨_,rfl⟩
  have HZ:=zh (show decide (x.name=name)=(z==0) by
   rw [<-hz0,Bool.eq_iff_iff,decide_eq_true_eq,beq_iff_eq,zNl])
  rw [hz0]
  clear hz0 x_R
  go_wp2
  go_ret2
  exact ⟨by rw [HI.out,HW.out,HZ.out];rfl,HB1.out⟩
 have hai:(a:Int) < (b:Int):=by omega
 have hm:(a+b) / 2 < l.length:=by omega
 obtain ⟨x,x_b,x_o,x_k,x_d,x_m,rfl,x_l,x_S,x_0,x_1,x_2,x_R,x_name_le,x_epoch_ok⟩:=z7i hs hm (zH hbel)
 have HX:=zh x_k
 clear x_k x_d
 go_wp2_with fail
 refine zcm (zBl x name _ wr S x_R) ?_
 rintro e w1 ⟨rfl,B1⟩
 have HB1:=zh (zB hbel B1)
 obtain ⟨z,hz0⟩:∃z,Ro.cmpOf x.name name=z:=⟨_,rfl⟩
 have HZ:=zh hz0
 rw [hz0]
 clear hz0 x_R
 by_cases hneg:z < 0
 ·have HN2:=zh (show (∀y∈l.take ((a+b) / 2+1),ltS y.name name=true)/\∀y∈l.drop b,ltS y.name name=false from ⟨zP9 HR.out HX.out (zI9.1 (by rw [HZ.out];exact hneg)),HN.out.2⟩)
  go_wp2
  go_roundw
  case rel=>exact ⟨(a+b) / 2+1,b,by omega,by omega,by go_num,by go_num,HN2,HB1.out⟩
  case measure=>simp [RowKit.intOf];omega
 have HN2:=zh (show (∀y∈l.take a,ltS y.name name=true)/\∀y∈l.drop ((a+b) / 2),ltS y.name name=false from ⟨HN.out.1,zPa HR.out HX.out (by
  cases hh:ltS x.name name
  ·rfl
  ·exact absurd (by rw [<-HZ.out];exact zI9.2 hh) hneg)⟩)
 go_wp2
 go_roundw
 case rel=>exact ⟨a,(a+b) / 2,by omega,by omega,by go_num,by go_num,HN2,HB1.out⟩
 case measure=>simp [RowKit.intOf];omega
end
structure FInv (n:Nat) (us:List Nm) (f:Folder):Prop where
 nm:f.name.size<=20
 man:f.manifests≠[]
 ep:f.epochs≠[]
 wr:z1i f.wraps
 wn:∀w∈f.wraps,w.name∈us
 it:∀x∈f.items,x.versions≠[]/\x.versions.length<=n/\x.name.size<=20
 mem:Ro.rightOf (zL f).members=true
 mn:∀m∈f.manifests,m.parent.size<=20/\m.members.length<=20/\∀x∈m.members,x.name∈us
 lk:∀l∈f.links,l.to.size<=20
 ec:∀e∈f.epochs,e.chain.length<=20/\∀y∈e.chain,y.name.size<=20
 tn:0<=f.turn/\f.turn<=n
 sq:0<=(zL f).seq/\(zL f).seq<=n
 pv:∀m∈f.manifests,m.prev=[]
theorem FInv.mono {n m:Nat} {us vs:List Nm} {f:Folder} (h:FInv n us f) (hn:n<=m) (hu:∀x∈us,x∈vs):FInv m vs f:=
 ⟨h.nm,h.man,h.ep,h.wr,fun w hw=>hu _ (h.wn w hw),fun x hx=>⟨(h.it x hx).1,Nat.le_trans (h.it x hx).2.1 hn,(h.it x hx).2.2⟩,h.mem,fun m hm=>⟨(h.mn m hm).1,(h.mn m hm).2.1,fun x hx=>hu _ ((h.mn m hm).2.2 x hx)⟩,h.lk,h.ec,
  ⟨h.tn.1,by have:=h.tn.2;omega⟩,⟨h.sq.1,by have:=h.sq.2;omega⟩,h.pv⟩
def ZQ (f:Folder):Nat:=f.manifests.length+f.epochs.length+f.items.length+f.links.length
def z06:List Folder->Nat
 | []=>0
 | f :: l=>ZQ f+z06 l
theorem zEb:∀(l:List Folder) (f:Folder),z06 (l++[f])=z06 l+ZQ f
 | [],f=>by simp [z06]
 | x :: l,f=>by rw [List.cons_append,z06,z06,zEb l f];omega
theorem zG2:∀{l:List Folder} {k:Nat} {f f':Folder},l[k]? =some f->z06 (l.set k f')+ZQ f=z06 l+ZQ f'
 | [],k,f,f',h=>by simp at h
 | x :: l,0,f,f',h=>by
  obtain rfl:x=f:=by simpa using h
  rw [List.set_cons_zero,z06,z06]
  omega
 | x :: l,k+1,f,f',h=>by
  have:=zG2 (f':=f') (l:=l) (k:=k) (f:=f) (by simpa using h)
  rw [List.set_cons_succ,z06,z06]
  omega
structure VInv (n:Nat) (st:State):Prop where
 names:z34 st
 top:zV st Top=none
 tree:Inv (y9 st)
 fol:∀f∈st.folders,FInv n (st.users.map User.name) f
 us20:∀u∈st.users,u.name.size<=20
 u16:st.users.length<=16
 ds20:∀p∈st.deposits,p.frm.size<=20/\p.to.size<=20
 few:st.users.length+st.deposits.length+st.folders.length<=n
 sum:z06 st.folders<=3*n
 turn:0<=st.turn/\st.turn<=n
theorem VInv.start:VInv 0 ⟨0,[],[],[]⟩ where
 names:=List.nodup_nil
 top:=rfl
 tree:=Inv.start
 fol:=fun f hf=>by simp at hf
 us20:=fun f hf=>by simp at hf
 u16:=by simp
 ds20:=fun f hf=>by simp at hf
 few:=by simp
 sum:=by simp [z06]
 turn:=by simp
theorem VInv.mono {n m:Nat} {st:State} (h:VInv n st) (hn:n<=m):VInv m st where
 names:=h.names
 top:=h.top
 tree:=h.tree
 fol:=fun f hf=>(h.fol f hf).mono hn fun x hx=>hx
 us20:=h.us20
 u16:=h.u16
 ds20:=h.ds20
 few:=Nat.le_trans h.few hn
 sum:=by have:=h.sum;omega
 turn:=⟨h.turn.1,by have:=h.turn.2;omega⟩
theorem VInv.atF {n:Nat} {st:State} (h:VInv n st) {k:Nat} (hk:k < st.folders.length):FInv n (st.users.map User.name) (fo st k):=h.fol _ (z3f hk)
theorem zG3 {l:List Wrap} (h:z1i l):(l.map Wrap.name).Nodup:=List.pairwise_map.2 (h.imp fun h=>z58 h)
theorem zEc {n:Nat} {us:List Nm} {f:Folder} (h:FInv n us f):f.wraps.length<=us.length:=by
 rw [<-List.length_map (f:=Wrap.name)]
 exact z6g (zG3 h.wr) fun e he=>by
  obtain ⟨w,hw,rfl⟩:=List.mem_map.1 he
  exact h.wn w hw
theorem zI6 {n k:Nat} {us:List Nm} (hu:us.length<=k):∀(l:List Folder),(∀f∈l,FInv n us f)->z3c l<=z06 l+k*l.length
 | [],_=>by simp [z3c,z06]
 | f :: l,h=>by
  have h1:=zEc (h f (List.mem_cons_self ..))
  have h2:=zI6 hu l fun x hx=>h x (zmc _ hx)
  rw [z3c,z06,List.length_cons,Nat.mul_succ]
  unfold z5j ZQ
  omega
theorem VInv.small {n:Nat} {st:State} (h:VInv n st) (hn:n<=41):Small st where
 users:=h.us20
 pairs:=h.ds20
 few8:=by have:=h.few;omega
 all:=by
  have h1:=zI6 (n:=n) (k:=16) (us:=st.users.map User.name) (by rw [List.length_map];exact h.u16) st.folders h.fol
  have h2:=h.sum
  have h3:=h.few
  omega
 short:=fun f hf=>by
  have hF:=h.fol f hf
  have hsz:∀s∈st.users.map User.name,s.size<=20:=fun s hs=>by
   obtain ⟨u,hu,rfl⟩:=List.mem_map.1 hs
   exact h.us20 u hu
  exact ⟨hF.nm,fun m hm=>⟨(hF.mn m hm).1,(hF.mn m hm).2.1,fun y hy=>hsz _ ((hF.mn m hm).2.2 y hy)⟩,hF.ec,fun x hx=>⟨(hF.it x hx).2.2,by have:=(hF.it x hx).2.1;omega⟩,fun w hw=>hsz _ (hF.wn w hw),hF.lk⟩
theorem zBg {st:State} {k:Nat} {f':Folder} (hk:k < st.folders.length) (hn:f'.name=(fo st k).name):(setF st k f').folders.map Folder.name=st.folders.map Folder.name:=by
 unfold setF
 dsimp only
 rw [List.map_set,hn]
 have:st.folders[k]? =some (fo st k):=by unfold fo;rw [List.getElem?_eq_getElem hk];rfl
 rw [List.set_eq_self_of (by rw [List.getElem?_map,this];rfl)]
theorem z48 {st:State} (hN:z34 st) {k:Nat} {f':Folder} (hk:k < st.folders.length) (hn:f'.name=(fo st k).name) (s:Nm):zV (setF st k f') s=if s=f'.name then some f' else zV st s:=by
 have hN':z34 (setF st k f'):=by unfold z34;rw [zBg hk hn];exact hN
 have hmem:f'∈(setF st k f').folders:=by
  unfold setF
  exact zmg (i:=k) (by rw [List.getElem?_set_self hk])
 split
 ·rename_i e
  rw [e]
  exact z4u hN' hmem
 rename_i e
 cases hf:zV st s with
 | none=>
  unfold zV
  rw [List.find?_eq_none]
  intro x hx
  unfold setF at hx
  rcases List.mem_or_eq_of_mem_set hx with hx | e3
  ·unfold zV at hf
   exact List.find?_eq_none.1 hf x hx
  rw [e3]
  simpa using fun e2:f'.name=s=>e e2.symm
 | some g=>
  have hgm:=z15 hf
  have hgn:=z1s hf
  rw [<-hgn]
  refine z4u hN' ?_
  obtain ⟨j,hj,hje⟩:=List.mem_iff_getElem.1 hgm
  have hjk:k≠j:=fun e2=>by
   subst e2
   refine e ?_
   rw [hn,<-hgn,<-hje]
   unfold fo
   rw [List.getElem?_eq_getElem hk]
   rfl
  unfold setF
  exact zmg (i:=j) (by dsimp only;rw [List.getElem?_set_ne hjk,List.getElem?_eq_getElem hj,hje])
theorem zOy {st:State} (hN:z34 st) {k:Nat} {f':Folder} (hk:k < st.folders.length) (hn:f'.name=(fo st k).name):y9 (setF st k f')=upd (y9 st) f'.name ((zL f').parent,(zL f').gone):=by
 funext s
 unfold y9 upd
 rw [z48 hN hk hn]
 split<;>rfl
theorem zNh {F:Fs} {s:Nm} {v:Nm×Bool} (h:F s=some v):upd F s v=F:=by
 funext x
 unfold upd
 split
 ·rename_i e;rw [e,h]
 rfl
theorem zQi {st:State} (hN:z34 st) {k:Nat} (hk:k < st.folders.length):y9 st (fo st k).name=some ((zL (fo st k)).parent,(zL (fo st k)).gone):=zLi hN (z3f hk)
theorem VInv.turnF {n:Nat} {st:State} (h:VInv n st) {k:Nat} (hk:k < st.folders.length) {f':Folder} (hn:f'.name=(fo st k).name) (hF:FInv (n+1) (st.users.map User.name) f') (hs:ZQ f'<=ZQ (fo st k)+3)
  (hI:Inv (upd (y9 st) f'.name ((zL f').parent,(zL f').gone))) (t:Int) (ht:0<=t/\t<=n+1):VInv (n+1) { setF st k f' with turn:=t } where
 names:=by unfold z34;exact (zBg hk hn).symm▸h.names
 top:=by
  have h1:=z48 h.names hk hn Top
  have h2:zV { setF st k f' with turn:=t } Top=zV (setF st k f') Top:=rfl
  rw [h2,h1,if_neg,h.top]
  intro e
  have:=z4u h.names (z3f hk)
  rw [<-hn,<-e,h.top] at this
  cases this
 tree:=by
  have h2:y9 { setF st k f' with turn:=t }=y9 (setF st k f'):=rfl
  rw [h2,zOy h.names hk hn]
  exact hI
 fol:=fun f hf=>by
  rcases List.mem_or_eq_of_mem_set hf with hx | rfl
  ·exact (h.fol f hx).mono (by omega) fun x hx=>hx
  ·exact hF
 us20:=h.us20
 u16:=h.u16
 ds20:=h.ds20
 few:=by
  have:=h.few
  have h2:(setF st k f').folders.length=st.folders.length:=z1h
  dsimp only
  have h3:(setF st k f').users=st.users:=rfl
  have h4:(setF st k f').deposits=st.deposits:=rfl
  rw [h2,h3,h4]
  omega
 sum:=by
  have h1:st.folders[k]? =some (fo st k):=by unfold fo;rw [List.getElem?_eq_getElem hk];rfl
  have h2:=zG2 (f':=f') h1
  have h3:=h.sum
  show z06 (st.folders.set k f')<=3*(n+1)
  omega
 turn:=ht
section
open Go.RowKit Go.Deep
section
variable {X:Nat->Prop} {base bw:Nat} {W:World} {R:RM} {c:Call} {dv:Value} {st:State} {done late:Bool}
def ZW (e n:Int):Array Value:=#[.int .i64 e,.int .i64 n,.string ⟨#[]⟩,.slice none 0 0,.slice none 0 0,.slice none 0 0,.slice none 0 0]
theorem z23 (h:WK X base bw W R c dv st done late) (n:Int):Calls Tryz.prog 126 #[.pointer (some ⟨bw,0,none⟩),.int .i64 n] W fun e w'=>
  e= .returned (.agg (ZW 0 n))/\WK X base bw w' R c dv st true late/\Mut bw R W R w':=by
 have hlt:=h.lt
 have s12:=h.cells.1 12 _ rfl
 have fz:=h.cells.2
 have HW:=zh h
 clear h
 go_enter Tryz.func126,Tryz.ntmps126
 go_wp2
 try simp only [Exit.inBlock,Exit.then]
 refine bodyPost_ret (results_cell_row rfl _ _ W.heap.size 49 _ (0,0) _ rfl (zJ _ (World.size_setCell _ _ _).symm) Tryz.underlying49 rfl (by kernel_rfl)) rfl ?_
 obtain ⟨h1,h2⟩:=HW.out.setDone true
 exact ⟨rfl,h1.below (Below.alloc zbr (znl _) _),h2.trans (Mut.below (Below.alloc zbr (znl _) _))⟩
theorem ZG (n:Int) (w:World):Calls Tryz.prog 32 #[.int .i64 n] w fun e w'=>e= .returned (.agg (ZW n 0))/\Below w.heap.size w w':=by
 go_enter Tryz.func32,Tryz.ntmps32
 go_wp2
 try simp only [Exit.inBlock,Exit.then]
 refine bodyPost_ret (results_cell_row rfl _ _ w.heap.size 49 _ (0,0) _ rfl (zJ _ rfl) Tryz.underlying49 rfl (by kernel_rfl)) rfl ?_
 exact ⟨rfl,by go_grown⟩
theorem z1w (h:WK X base bw W R c dv st done late) {k g o:Nat} (hk:k < st.folders.length) (ha:foAt R k g o):Calls Tryz.prog 158 #[.pointer (some ⟨g,o,none⟩)] W fun e w'=>
  e= .returned (.int .i64 (fo st k).epochs.length)/\w'=W:=by
 obtain ⟨_,_,_,_,_,_,_,_,_,_,_,hF,_,_,_,_,_,_,_,_,_⟩:=h.fold (ZK hk) ha
 clear h hF ha
 go_enter Tryz.func158,Tryz.ntmps158
 go_wp2
 go_ret
 exact ⟨rfl,rfl⟩
theorem z6j (h:WK X base bw W R c dv st done late) {k g o:Nat} (hk:k < st.folders.length) (ha:foAt R k g o) (s:Nm):Calls Tryz.prog 143 #[.pointer (some ⟨g,o,none⟩),.string s] W fun e w'=>
  e= .returned (.int .i64 (iOf (z0e (fo st k) s)))/\Below W.heap.size W w':=by
 obtain ⟨_,_,_,_,A4,c4,_,_,_,_,_,hF,u0,u1,u2,u3,u4,u5,u6,hg,_⟩:=h.fold (ZK hk) ha
 obtain ⟨w0,_,cw0,fw0,Bw0,_⟩:=zO W #[.string s] 9
 obtain ⟨_,_,B3,_,_,_,_,_,_,_,e,_,_,_,_,_,x_manifests_s,_,_,_,x_epochs_s,x_items_l,x_items_m,x_items_n,x_items_s,_⟩:=Z5 hF
 simp only [List.cons.injEq,Value.slice.injEq,and_true,true_and] at e
 obtain ⟨⟨rfl,rfl⟩,⟨rfl,rfl⟩,⟨rfl,rfl⟩,⟨rfl,rfl⟩,⟨rfl,rfl⟩⟩:=e
 have hSl:Sl 2 yV (fun _=>True) W (.slice A4 (fo st k).items.length c4) (fo st k).items:=⟨_,_,rfl,x_items_l,x_items_m,x_items_n,x_items_s⟩
 have HI:=zh (zJ6 s W.heap.size (fo st k).items _ w0 _ (hSl.keep z1z (by decide) (zH Bw0)) (cw0 0 _ rfl))
 have s4:=(Bw0.cell (p:=⟨g,o+4,none⟩) hg).trans u4
 have HB:=zh Bw0
 clear h hF ha cw0 fw0 Bw0 hSl x_items_s x_manifests_s x_epochs_s u0 u1 u2 u3 u4 u5 u6
 go_enter Tryz.func143,Tryz.ntmps143
 go_wp2_with fail
 refine zcm HI.out ?_
 rintro e _ ⟨rfl,B3⟩
 go_wp2
 go_ret
 exact ⟨rfl,zB HB.out B3⟩
theorem z8r (x:Item) (hx:0 < x.versions.length) (cs:List Value) (w:World) (S:Nat->Prop) (h:yV S w cs x):Calls Tryz.prog 136 #[.agg cs.toArray] w fun e w'=>
  e= .returned (.bool (YI x))/\Below w.heap.size w w':=by
 obtain ⟨x_A1,x_c1,rfl,_,_,_,_,x_versions_s⟩:=z37 h
 obtain ⟨n,hn⟩:∃n,x.versions.length=n+1:=⟨x.versions.length - 1,by omega⟩
 obtain ⟨_,hw0,cw0,fw0,Bw0,_⟩:=zO w #[.string x.name,.slice x_A1 x.versions.length x_c1] 78
 obtain ⟨y,_,_,_,_,y_k,y_d,_,rfl,_,_,_,_,_,_,y_R,y_rest⟩:=z3o x_versions_s (show n < x.versions.length by omega) (zH Bw0)
 have HE:=zh (show YI x=!y.gone by
  unfold YI
  rw [List.getLast?_eq_getElem?,hn,show n+1 - 1=n from rfl,y_k])
 have w0_1:=cw0 1 _ rfl
 rw [hn] at w0_1 hw0
 have HB:=zh Bw0
 clear x_versions_s cw0 fw0 Bw0 y_k y_d y_R y_rest h
 go_enter Tryz.func136,Tryz.ntmps136
 go_wp2
 go_ret
 exact ⟨ZI HE.out.symm,HB.out⟩
end
end
end Go.Proofs.YtdggplhnfhcieaaGreatDoor
