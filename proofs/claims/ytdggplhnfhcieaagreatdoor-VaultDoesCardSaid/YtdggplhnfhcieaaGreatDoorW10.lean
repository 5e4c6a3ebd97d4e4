/- No condition. -/
import Derived.Test.YtdggplhnfhcieaaGreatDoorW08
set_option linter.all false
set_option maxRecDepth 100000
set_option maxHeartbeats 16000000
namespace Go.Proofs.YtdggplhnfhcieaaGreatDoor
open Go.Proofs.Tryz Cd Ce List
variable {f:Folder} {g i:Nat}
section
open Go.RowKit Go.Deep
section
variable {X:Nat->Prop} {base bw:Nat} {W W1:World} {R:RM} {c:Call} {dv:Value} {st:State} {done late:Bool}
def foAt (R:RM) (i g b:Nat):Prop:=∃n a off,(R .fo).v= .slice (some ⟨g,off,none⟩) n a/\b=off+i*7
theorem WK.fat (h:WK X base bw W R c dv st done late) (m:st.folders[i]? =some f):∃g b,foAt R i g b/\g≠bw/\g<W.heap.size/\(∀j u,(hdr R i f)[j]? =some u->(cL W g (b+j) u:Prop))/\∀q,W.frozen? (aD g q)=false:=by
 obtain⟨e,_⟩:=h.is.fo i f m;obtain⟨g,p,_,a,_,_,n,k,o⟩:=(h.os.row .fo).at e;exact⟨g,p+i*7,⟨_,_,_,a,rfl⟩,λd=>h.nb ⟨.fo,by rw[a,<-d];rfl⟩,n,k,o⟩
theorem foAt.row {i b:Nat} (h:foAt R i g b):z01 R g:=by
 obtain⟨_,_,_,a,_⟩:=h;exact⟨.fo,by rw[a];rfl⟩
theorem WK.sub (h:WK X base bw W R c dv st done late) {a:Nat} {f':Folder} (C:st.folders[i]? =some f) (ha:foAt R i g a) {k:RK} {r:Row} {j:Nat} (hk:k≠ .us/\k≠ .de/\k≠ .fo) (hj:j<7)
  (o:OS base W1 (zO R k r)) (n:Mut bw R W (zO R k r) W1) (q:W1.heap[bw]? =W.heap[bw]?) {u:Value} (hu:u.oneCell'=true)
  (is:Kept (Imm X bw R W) (Imm X bw (zO (zO R k r) .fo (yI R i ((hdr R i f).set j u))) (W1.setCell (aD g (a+j)) u)) W (W1.setCell (aD g (a+j)) u)->
   IsSt (Imm X bw (zO (zO R k r) .fo (yI R i ((hdr R i f).set j u))) (W1.setCell (aD g (a+j)) u)) (W1.setCell (aD g (a+j)) u) (zO (zO R k r) .fo (yI R i ((hdr R i f).set j u))) { st with folders:=st.folders.set i f' }):
  WK X base bw (W1.setCell (aD g (a+j)) u) (zO (zO R k r) .fo (yI R i ((hdr R i f).set j u))) c dv { st with folders:=st.folders.set i f' } done late/\
  Mut bw R W (zO (zO R k r) .fo (yI R i ((hdr R i f).set j u))) (W1.setCell (aD g (a+j)) u):=by
 obtain⟨_,_,p,b,rfl⟩:=ha;have d:zO R k r .fo=R .fo:=yB R r hk.2.2.symm;have m:=o.row .fo;rw[d,b] at m;obtain⟨z,_⟩:=h.is.fo i f C;have E:=m.write (by decide:0<RK.fo.sz) z (show j<RK.fo.sz from hj) u hu;have D:z01 R g:=⟨.fo,by rw[b];rfl⟩;obtain⟨G,F⟩:=o.put (bw:=bw) (W':=W1.setCell (aD g (p+i*7+j)) u) (qNtx h.base_le n.but.size) .fo (yI R i ((hdr R i f).set j u))
  ((ButB.refl _ W1).set ⟨g,p+i*7+j,none⟩ u (by rw[d,b];rfl)) (by unfold yI;rw[b];exact E) (by have:=h.os.len .fo;simpa[yI] using this) (λH A=> .inl (by rw[d];exact A))
 have e:=n.trans F;refine⟨h.turn e G (is e.kept) ?_,e⟩;rw[Below.heap_setCell _ _ _ _ λs=>h.nb (by rw[show bw=g from s];exact D),q,h.box];have t:(zO (zO R k r) .fo (yI R i ((hdr R i f).set j u))) .us=R .us:=by rw[yB _ _ dc,yB _ _ hk.1.symm]
 have x:(zO (zO R k r) .fo (yI R i ((hdr R i f).set j u))) .de=R .de:=by rw[yB _ _ dc,yB _ _ hk.2.1.symm]
 have y:((zO (zO R k r) .fo (yI R i ((hdr R i f).set j u))) .fo).v=(R .fo).v:=by rw[YQ];rfl
 unfold z42;rw[t,x,y]
theorem WK.fturn (h:WK X base bw W R c dv st done late) {d:Nat} (e:st.folders[i]? =some f) (ha:foAt R i g d) {n:Int} (hn:I64 n):
  WK X base bw (W.setCell (aD g (d+1)) n) (zO R .fo (yI R i ((hdr R i f).set 1 n))) c dv { st with folders:=st.folders.set i { f with turn:=n } } done late/\
  Mut bw R W (zO R .fo (yI R i ((hdr R i f).set 1 n))) (W.setCell (aD g (d+1)) n):=by
 obtain⟨_,_,k,a,rfl⟩:=ha;have j:=h.os.row .fo;rw[a] at j;obtain⟨r,_⟩:=h.is.fo i f e;have u:=j.write (by decide:0<RK.fo.sz) r (by decide:1<RK.fo.sz) n rfl;have t:z01 R g:=⟨.fo,by rw[a];rfl⟩;obtain⟨x,b⟩:=h.os.put (bw:=bw) (W':=W.setCell (aD g (k+i*7+1)) n) h.base_le .fo (yI R i ((hdr R i f).set 1 n))
  ((ButB.refl _ W).set ⟨g,k+i*7+1,none⟩ _ (by rw[a];rfl)) (by unfold yI;rw[a];exact u) (by have:=h.os.len .fo;simpa[yI] using this) (λy s=> .inl s)
 refine⟨h.turn b x (h.is.fTurn e b.kept hn) ?_,b⟩;rw[Below.heap_setCell _ _ _ _ λm=>h.nb (by rw[show bw=g from m];exact t),h.box];have o:(zO R .fo (yI R i ((hdr R i f).set 1 n))) .us=R .us:=yB _ _ dc;have p:(zO R .fo (yI R i ((hdr R i f).set 1 n))) .de=R .de:=yB _ _ dc;have q:((zO R .fo (yI R i ((hdr R i f).set 1 n))) .fo).v=(R .fo).v:=by rw[YQ];rfl
 unfold z42;rw[o,p,q]
theorem foAt.keep {a:RM} {b:Nat} (h:foAt R i g b) (e:(a .fo).v=(R .fo).v):foAt a i g b:=by
 obtain⟨k,d,m,j,rfl⟩:=h;exact⟨k,d,m,e.trans j,rfl⟩
end
end
end Go.Proofs.YtdggplhnfhcieaaGreatDoor
namespace Go.Proofs.YtdggplhnfhcieaaGreatDoor.Ro
open Go.Proofs.Tryz Cd Ce List
open Go.RowKit Go.Deep
theorem zO5 (w:World) (g a c:Nat) (n:TypeId) (e:∀j,j<2->(w.cell? ⟨g,a+j,none⟩).isSome=true) (h:∀j,w.frozen? (aD g j)=false):
  (Builtin.clear_ #[46] n #[.slice (some ⟨g,a,none⟩) 1 c]).run prog w= .ok (.tuple #[]) (w.setCells g a ["",'0']):=by
 have m:(Builtin.zeroCells (Value.agg #["",'0']).cells 1).toList=[.string ⟨#[]⟩,.int .i64 0]:=kr
 have b:=run_storeCells_cells (P:=prog) g a ["",'0'] 0 w (by simpa using e) (λj _=>h _) (by intro v d;simp at d;rcases d with rfl|rfl<;>rfl);simp only[Nat.add_zero] at b;have k:=zeroValue87;simp[Builtin.clear_,run_underlying underlying46,k,m,b]
def z7z (l:List Member):List Value:=l.flatMap z1l
theorem zAp:∀l:List Member,(z7z l).length=l.length*2
 | []=>rfl
 | m::r=>by
  have:=zAp r;unfold z7z at this⊢;rw[flatMap_cons,qLax,this,length_cons];simp[z1l];omega
theorem zD1:∀(l:List Member) (k j:Nat) (x:Member),l[k]? =some x->j<2->(z7z l)[k*2+j]? =(z1l x)[j]?
 | [],k,j,x,h,_=>by simp at h
 | m::r,0,j,x,h,hj=>by
  simp at h;subst h;unfold z7z;rw[flatMap_cons,qLlx (by simp[z1l];omega)]
  simp
 | m::r,k+1,j,x,h,hj=>by
  have:=zD1 r k j x (by simpa using h) hj;unfold z7z at this⊢;rw[flatMap_cons,qLrx (by simp[z1l];omega),<-this];congr 1;simp[z1l];omega
theorem zO6 (l:List Member):∀u∈z7z l,u.oneCell'=true:=by
 intro u b;obtain⟨_,_,a⟩:=mem_flatMap.1 b;simp[z1l] at a;rcases a with rfl|rfl<;>rfl
theorem zO7 {l:List Member} {q:Nat} {u:Value} (h:(z7z l)[q]? =some u):∃k j x,k<l.length/\j<2/\q=k*2+j/\l[k]? =some x/\(z1l x)[j]? =some u:=by
 have b:q<l.length*2:=by rw[<-zAp];exact(zge h).1
 obtain⟨x,a⟩:∃x,l[q / 2]? =some x:=⟨_,qLgx (by omega:q / 2<l.length)⟩;have:=zD1 l (q / 2) (q % 2) x a om;rw[show q / 2*2+q % 2=q by omega] at this;exact⟨q / 2,q % 2,x,om,om,om,a,by rw[<-this];exact h⟩
theorem zO8 (l:List Member) (i:Nat) (hi:i<l) (aW:l.length<=1000000) (v:Value) (w:World) (B:Nat->Prop) (base:Nat) (h:Grow 87 2 zZ B w base v l):
  Calls prog 175 #[v,i,.int .i64 ((i:Int)+1)] w λe w'=>(∃v',e= .returned v'/\Sl 2 zZ (λb=>base<=b) w' v' (l.eraseIdx i))/\Below base w w':=by
 obtain⟨_,ap,_,⟨_,aq⟩,S⟩:=h;rcases aq with ⟨rfl,aO⟩|⟨g,s,Q,rfl,aw,A,aY,ax,ay,ag⟩
 ·omega
 unfold maxLen at ax;have F:∀d j,l[d]? =some j->(∀a q,(z1l j)[a]? =some q->(cL w g (d*2+a) q:Prop))/\j.name.size<=140737488355328/\I64 j.role:=by
  intro d j n;obtain⟨_,_,aK,aL⟩:=S d j n;obtain⟨rfl,aN⟩:=z5t aL;refine⟨λa q o=>?_,aN⟩;have G:=aK a q o;rw[cell_of_row w g _ Q _ (0,0) A];rw[<-ag,getElem?_take] at G;split at G
  ·simpa using G
  ·cases G
 have J:∀a,w.frozen? (aD g a)=false:=(zB A).2;have aX:=zI A;have K:∀x,x<s*2->(w.cell? ⟨g,x,none⟩).isSome=true:=by
  intro x D;rw[cell_of_row w g _ Q _ (0,0) A,Array.getElem?_eq_getElem om];rfl
 obtain⟨k,C⟩:=ξ (z7z (l.drop (i+1)));have ac:k.length=(l.length-(i+1))*2:=by rw[C,zAp,length_drop]
 obtain⟨E,_,aG⟩:∃E:Addr,(if s=i+1 then some (⟨g,0,none⟩:Addr) else some ⟨g,(i+1)*2,none⟩)=some E/\Hid (∀u z,k[u]? =some z->w.drew.cell? (E.add u)=some z):=by
  by_cases Y:s=i+1
  ·refine⟨⟨g,0,none⟩,by simp[Y],λu z y=>?_⟩;have:k=[]:=eq_nil_of_length_eq_zero om;rw[this] at y;simp at y
  ·refine⟨⟨g,(i+1)*2,none⟩,by simp[Y],λu z y=>?_⟩;rw[C] at y;obtain⟨d,a,j,_,o,rfl,n,y⟩:=zO7 y;rw[getElem?_drop] at n;have:=(F _ j n).1 a z y;rw[Addr.add_lit,show(i+1)*2+(d*2+a)=(i+1+d)*2+a by omega];exact this
 have aI:Hid (k.length=(l.length-(i+1))*2):=ac;have aJ:Hid (∀z∈k,z.oneCell'=true):=by rw[C];exact zO6 _
 have ah:Hid (∀u,u<k.length->(w.drew.cell? ⟨g,0+i*2+u,none⟩).isSome=true/\w.drew.frozen? (aD g (0+i*2+u))=false):=by
  intro u aZ;exact⟨K _ om,J _⟩
 obtain⟨W1,t⟩:=ξ (w.drew.setCells g (0+i*2) k);have au:Hid (W1=w.drew.setCells g (0+i*2) k):=t;have Z:∀a,W1.frozen? (aD g a)=false:=λa=>by rw[t,World.frozen?_setCells];exact J a
 have ae:∀x,x<s*2->(W1.cell? ⟨g,x,none⟩).isSome=true:=λx D=>by rw[t];exact World.isSome_setCells g k _ _ _ (K x D)
 have aR:∀L,(Builtin.clear_ #[46] L #[.slice (some ⟨g,(i+(l.length-(i+1)))*2,none⟩) (l.length-(i+(l.length-(i+1)))) (s-(i+(l.length-(i+1))))]).run prog W1= .ok (.tuple #[]) (W1.setCells g ((i+(l.length-(i+1)))*2) ["",'0']):=
  λL=>by rw[show l.length-(i+(l.length-(i+1)))=1 by omega];exact zO5 W1 g _ _ L (λa o=>ae _ om) Z
 have az:Hid (∀d j,(l.eraseIdx i)[d]? =some j->(∀a q,(z1l j)[a]? =some q->(W1.setCells g ((i+(l.length-(i+1)))*2) ["",'0']).cell? ⟨g,d*2+a,none⟩=some q)/\j.name.size<=140737488355328/\I64 j.role):=by
  intro d j n;have aV:d<l.length-1:=by
   have:=(zge n).1;rwa [length_eraseIdx_of_lt hi] at this
  rw[getElem?_eraseIdx] at n;by_cases ab:d<i
  ·rw[if_pos ab] at n;obtain⟨P,H⟩:=F d j n;refine⟨λa q o=>?_,H⟩;have aa:a<2:=(zge o).1;rw[World.cell?_setCells_out _ _ _ _ _ (λ_ _=> .inl (by show d*2+a<_;omega)),t,World.cell?_setCells_out _ _ _ _ _ (λ_ _=> .inl (by show d*2+a<_;omega))];exact P a q o
  ·rw[if_neg ab] at n;obtain⟨P,H⟩:=F (d+1) j n;refine⟨λa q o=>?_,H⟩;have aa:a<2:=(zge o).1;rw[World.cell?_setCells_out _ _ _ _ _ (λ_ _=> .inl (by show d*2+a<_;omega)),t];have D:(d-i)*2+a<k.length:=om
   have U:=World.cell?_setCells_in g k (0+i*2) w.drew (λa o=>(ah.o a o).1) ((d-i)*2+a) D;rw[show 0+i*2+((d-i)*2+a)=d*2+a by omega] at U;rw[U];have ar:(l.drop (i+1))[d-i]? =some j:=by rw[getElem?_drop,show i+1+(d-i)=d+1 by omega];exact n
   have T:=zD1 _ _ a j ar aa;rw[<-C,qLgx D] at T;rw[T,o]
 have av:Hid (Below base w (W1.setCells g ((i+(l.length-(i+1)))*2) ["",'0'])):=by
  have af:∀(p:List Value) (m:Nat) (w:World),(w.setCells g m p).heap.size=w.heap.size:=by
   intro p
   induction p with
   | nil=>intro m w;rfl
   | cons v r ih=>intro m w;rw[World.setCells,ih];simp
  have V:∀(p:List Value) (m:Nat) (w:World) (b:Nat),b≠g->(w.setCells g m p).heap[b]? =w.heap[b]? :=by
   intro p
   induction p with
   | nil=>intro m w b _;rfl
   | cons v r ih=>intro m w b I;rw[World.setCells,ih _ _ _ I,Below.heap_setCell _ _ _ _ I]
  have ad:∀(p:List Value) (m:Nat) (w:World),(w.setCells g m p).os=w.os/\(w.setCells g m p).tape=w.tape/\(w.setCells g m p).output=w.output:=by
   intro p
   induction p with
   | nil=>intro m w;exact⟨rfl,rfl,rfl⟩
   | cons v r ih=>intro m w;rw[World.setCells];obtain⟨ai,b,c⟩:=ih (m+1) (w.setCell (aD g m) v);exact⟨ai.trans rfl,b.trans rfl,c.trans rfl⟩
  obtain⟨aj,ak,al⟩:=ad ["",'0'] ((i+(l.length-(i+1)))*2) W1;obtain⟨M,N,O⟩:=ad k (0+i*2) w.drew;rw[<-t] at M N O;refine⟨aj.trans M,ak.trans N,al.trans O,?_,λb I=>?_⟩
  ·rw[af,t,af];exact znl _
  ·rw[V _ _ _ _ om,t,V _ _ _ _ om];rfl
 have aT:i<=s:=om
 have aU:i+1<=s:=om
 have aP:(0:Int)<=(i:Int)+1:=om
 have aQ:(i:Int)+1<=(l:Int):=om
 clear t ae Z K J F C ac S ap ag ay A;obtain⟨aH,aB,_,ao,_⟩:=info_parts (show(prog.info? 87).map (λi=>(i.zero,i.size,i.bytes))=some (some (.agg #["",'0']),2,24) from kr);go_enter func175,ntmps175
 go_wp2_with fail
 go_region_law (refine step_append_room rfl (.tmp 22) (.tmp 25) 46 rfl 87 aH 2 underlying46 aB ao g 0 i s (by simp[Act.eval,Act.put]) E (l.length-(i+1)) (s-(i+1)) k (by simp[Act.eval,Act.put];try omega) aI.o aG.o aJ.o om ah.o ?_;rw[<-au.o])
 go_wp2;go_ret;refine⟨⟨.slice (some ⟨g,0,none⟩) (i+(l.length-(i+1))) s,rfl,⟨some ⟨g,0,none⟩,s,by rw[length_eraseIdx_of_lt hi,show l.length-1=i+(l.length-(i+1)) by omega],by rw[length_eraseIdx_of_lt hi];omega,by unfold maxLen;omega,by rw[length_eraseIdx_of_lt hi];omega,λd j n=>?_⟩⟩,av.o⟩;obtain⟨am,an⟩:=az.o d j n;exact⟨g,0,z1l j,rfl,aw,rfl,λa q o=>by rw[Nat.zero_add];exact am a q o,rfl,an⟩
end Go.Proofs.YtdggplhnfhcieaaGreatDoor.Ro
namespace Go.Proofs.YtdggplhnfhcieaaGreatDoor.Ro
open Go.Proofs.Tryz Cd Ce List
open Go.RowKit Go.Deep
variable {B:Nat->Prop} {base:Nat} {l:List Member} {v:Value} {w:World}
theorem zQa (h:Grow 87 2 zZ B w base v l) (h0:0<l.length) (p:l.length<=12):
  Calls prog 172 #[v,.func (.func 173) #[] #[]] w λe w'=>
   e= .returned (.tuple #[])/\Below base w w'/\∃k,k.Perm l/\(∀(i j:Nat) (x y:Member),i<j->k[i]? =some x->k[j]? =some y->ltS y.name x.name=false)/\Sl 2 zZ (λ_=>True) w' v k:=by
 obtain⟨_,_,_,⟨_,q⟩,r⟩:=h;rcases q with ⟨rfl,h0⟩|⟨g,o,m,rfl,s,u,C,t,H,D⟩
 ·omega
 have n:∀a x,l[a]? =some x->(∀j y,(z1l x)[j]? =some y->m[a*2+j]? =some y)/\x.name.size<=140737488355328/\I64 x.role:=by
  intro a x b;obtain⟨_,_,E,F⟩:=r a x b;obtain⟨rfl,G⟩:=z5t F;refine⟨λj y z=>?_,G⟩;have d:=E j y z;rw[<-D,getElem?_take] at d;split at d
  ·simpa using d
  ·cases d
 exact zSr l g o base w m _ u s p C t (λx b=>by obtain⟨a,A⟩:=getElem?_of_mem b;exact(n a x A).2) λi x b=>(n i x b).1
structure Cs (l:List Member) (v:Value) (w:World):Prop where
 right:∀W,((bW w W:Prop))->Calls prog 168 #[v] W λe w'=>e= .returned (.bool (rightOf l))/\bW w w'
 of:∀name W,((bW w W:Prop))->Calls prog 157 #[v,.string name] W λe w'=>e= .returned (.int .i64 (ofOf l name))/\bW w w'
 at_:∀name W,((bW w W:Prop))->Calls prog 170 #[v,.string name] W λe w'=>e= .returned (.int .i64 (z3k l name))/\bW w w'
 owners:∀W,((bW w W:Prop))->Calls prog 174 #[v] W λe w'=>e= .returned (.int .i64 (z0x l:Nat))/\bW w w'
 high1:∀by_ n W T,I64 n->((bW w W:Prop))->Calls prog 171 #[v,.string by_,.slice (some ⟨W,0,none⟩) 1 1] (W.alloc (.cells #[.int .i64 n] T)) λe w'=>e= .returned (.bool (decide (3<=n)&&decide (ofOf l by_<4)))/\bW w w'
 high2:∀by_ n m W T,I64 n->I64 m->((bW w W:Prop))->Calls prog 171 #[v,.string by_,.slice (some ⟨W,0,none⟩) 2 2] (W.alloc (.cells #[.int .i64 n,.int .i64 m] T)) λe w'=>e= .returned (.bool (decide (3<=max n m)&&decide (ofOf l by_<4)))/\bW w w'
 clone:0<l.length->∀W,((bW w W:Prop))->Calls prog 78 #[v] W λe w'=>(∃v',e= .returned v'/\Grow 87 2 zZ (λ_=>False) w' w v' l)/\bW w w'
theorem Grow.base_mono {d:Type} {e:TypeId} {sz:Nat} {R:Rp d} {base b:Nat} {l:List d} (h:Grow e sz R B w base v l) (hb:b<=base):Grow e sz R B w b v l:=by
 obtain⟨o,p,s,⟨q,a⟩,r⟩:=h;refine⟨o,p,s,⟨q,?_⟩,r⟩;rcases a with a|⟨g,m,n,j,t,k⟩
 ·exact .inl a
 exact .inr ⟨g,m,n,j,om,k⟩
theorem zK7 {W:World} {T:TypeId} (b:List Int) (h:∀n∈b,I64 n):SlAt 1 zJj (λ_=>True) (W.alloc (.cells (b.map (Value.int .i64)).toArray T)) (some ⟨W,0,none⟩) b:=by
 intro i e d;refine⟨W,0,[e],rfl,trivial,rfl,λk m a=>?_,rfl,h e (zmg d)⟩;have j:k=0:=by have:=(zge a).1;simpa using this
 subst j;simp at a;subst a;rw[cell_of_row _ W _ _ T (0,0) (heap_alloc_new W _)];simp[d]
theorem zK8 {S:Nat->Prop} (h:Sl 2 zZ S w v l) (j:l.length<=100000):Cs l v w where
 right W hb:=(zQ3 l v W S (h.keep ZA dc (zK hb)) om).mono λ_ _ hh=>⟨hh.1,zD hb hh.2⟩
 of name W hb:=(of_any name l v W S (h.keep ZA dc (zK hb))).mono λ_ _ hh=>⟨hh.1,zD hb hh.2⟩
 at_ name W hb:=(z5u name l v W S (h.keep ZA dc (zK hb))).mono λ_ _ hh=>⟨hh.1,zD hb hh.2⟩
 owners W hb:=(zFw l v W S (h.keep ZA dc (zK hb)) om).mono λ_ _ hh=>⟨hh.1,zD hb hh.2⟩
 high1 by_ n W T hn hb:=(zK6 l by_ n [] v _ _ S _ (h.keep ZA dc (zK (hb.alloc hb.size _))) ⟨_,1,rfl,sm,dc,sm,zK7 [n] (by simpa using hn)⟩).mono λ_ _ hh=>⟨hh.1,zD (hb.alloc hb.size _) hh.2⟩
 high2 by_ n m W T hn hm hb:=(zK6 l by_ n [m] v _ _ S _ (h.keep ZA dc (zK (hb.alloc hb.size _))) ⟨_,2,rfl,sm,dc,sm,zK7 [n,m] (by simpa using ⟨hn,hm⟩)⟩).mono λ_ _ hh=>⟨hh.1,zD (hb.alloc hb.size _) hh.2⟩
 clone h0 W hb:=(zQ9 l v W S (h.keep ZA dc (zK hb)) h0 om).mono λ_ _ ⟨⟨e,a,b⟩,d⟩=>⟨⟨e,a,Grow.base_mono b hb.size⟩,zD hb d⟩
def z91 (r:Bool) (m a n:Int) (len:Nat):Int:=if r=false then 2 else if m<3 then 40 else if 0<=a then 42 else if 3<=n/\m<4 then 40 else if 8<=len then 3 else 0
theorem zAq (h:rightOf l=true):0<l.length:=by
 unfold rightOf at h;simp only[qBqx,decide_eq_true_eq] at h;have a:=h.2.2;unfold z0x at a;have:=z8b l 4;omega
theorem share_any (l:List Member) (by_ name:ByteArray) (n:Int) (D:name.size<=()) (hn:I64 n) (v:Value) (w:World) (S:Nat->Prop) (h:Sl 2 zZ S w v l) (T:l.length<=100000):
  Calls prog 138 #[v,by_,name,n] w λe w'=>
   (∃v' m k,e= .returned (.tuple #[v',.int .i64 k])/\k=z91 (rightOf l&&(Z1 name&&isOf n)) (ofOf l by_) (z3k l name) n l/\Sl 2 zZ (λb=>w<=b) w' v' m/\
    ((k≠0/\m=[])\/(k=0/\m.Perm (l++[⟨name,n⟩])/\∀(i j:Nat) (x y:Member),i<j->m[i]? =some x->m[j]? =some y->ltS y.name x.name=false)))/\bW w w':=by
 obtain⟨ab,Q,aa,L,M⟩:=info_parts (show(prog.info? 87).map (λi=>(i.zero,i.size,i.bytes))=some (some (.agg #["",'0']),2,24) from kr);have a:=zK8 h T;obtain⟨r,q⟩:=ξ (rightOf l);have Y:r=true->0<l.length:=λe=>zAq (by rw[<-q,e])
 have t:=a.right;have A:∀W,Calls prog 51 #[name] W λe w'=>e= .returned (.bool (Z1 name))/\w'=W:=λW=>zBw name D _ rfl W
 have z:∀W,Calls prog 169 #[n] W λe w'=>e= .returned (.bool (isOf n))/\w'=W:=λW=>zNs n _ rfl W
 have C:=a.of by_;have u:=a.at_ name;have ch:=λW I=>a.high1 by_ n W I hn
 have J:=a.clone;rw[<-q] at t⊢;generalize Z1 name=ak at A⊢;generalize isOf n=ai at z⊢;generalize ofOf l by_=aj at C ch⊢;generalize z3k l name=ag at u⊢;obtain⟨_,_,rfl,_,P,_,Z⟩:=h;unfold maxLen at P;have af:(bW w w:Prop):=Below.refl _ _;clear Z a q;go_enter func138,ntmps138
 go_wp2_with (first
  | (go_at_call 168;refine zcm (t _ (by assumption)) ?_;rintro e _ ⟨rfl,_⟩)
  | (go_at_call 51;refine zcm (A _) ?_;rintro e _ ⟨rfl,rfl⟩)
  | (go_at_call 169;refine zcm (z _) ?_;rintro e _ ⟨rfl,rfl⟩)
  | (go_at_call 157;refine zcm (C _ (by assumption)) ?_;rintro e _ ⟨rfl,_⟩)
  | (go_at_call 170;refine zcm (u _ (by assumption)) ?_;rintro e _ ⟨rfl,_⟩)
  | (go_at_call 171;refine zcm (ch _ _ (by assumption)) ?_;rintro e _ ⟨rfl,_⟩)
  | (go_at_call 78;refine zcm (J (Y (by assumption)) _ (by assumption)) ?_;rintro e _ ⟨⟨_,rfl,o⟩,s⟩;obtain⟨_,_,_,rfl,U⟩:=o.shape';clear U;have am:=s.size;have N:=o.base_le)
  | (at_builtin;go_loud (refine yZ (R:=zZ) _ _ rfl (.tmp 46) (.tmp 50) 46 rfl 87 ab _ 2 24 underlying46 Q aa L M rfl dc ZA w om _ _ rfl o _ _ rfl (by simp only[zS]) _ (by intro b d;exact d.elim) (z8c D hn) om dc ?_);intro al ae p K ah;have O:=p.base_le;obtain⟨_,_,_,rfl,V⟩:=p.shape';clear V;go_loud (have E:(bW w ae:Prop):=Below.grown s K om λb d=>(N b d).1))
  | (go_at_call 172;refine zcm (zQa p sm (by simp;omega)) ?_;rintro e _ ⟨rfl,F,ac,G,H,ad⟩))
 all_goals go_ret2
 all_goals first
  | exact⟨⟨_,ac,0,rfl,by unfold z91;first|(simp_all;done)|(simp_all;omega),slM_new ad (λb d=>(O b d).1),.inr ⟨rfl,G,H⟩⟩,E.trans F⟩
  | exact⟨⟨_,[],_,rfl,by unfold z91;first|(simp_all;done)|(simp_all;omega),z1p _ _ _ _,.inl ⟨dc,rfl⟩⟩,by assumption⟩
theorem zSs (h:Grow 87 2 zZ B w base v l) (h0:0<l.length):
  ∃g a b,v= .slice (some ⟨g,0,none⟩) l a/\base<=g/\w.heap[g]? =some (.cells b 87 (0,0))/\l.length<=a/\a<=maxLen/\b.size=a*2/\
   ∀k x,l[k]? =some x->(∀j y,(z1l x)[j]? =some y->b[k*2+j]? =some y)/\x.name.size<=140737488355328/\I64 x.role:=by
 obtain⟨_,_,_,⟨_,d⟩,e⟩:=h;rcases d with ⟨rfl,h0⟩|⟨g,a,b,rfl,m,p,r,n,o,htk⟩
 ·omega
 refine⟨g,a,b,rfl,m,p,r,n,o,λk x s=>?_⟩;obtain⟨_,_,t,u⟩:=e k x s;obtain⟨rfl,z⟩:=z5t u;refine⟨λj y q=>?_,z⟩;have hx':=t j y q;exact mbt
theorem zSt {S:Nat->Prop} {g d:Nat} {o:Array Value} {T:TypeId} {i:Nat} {x:Member} {n:Int} (hg:w.heap[g]? =some (.cells o T (0,0))) (h1:l<=d) (h2:d<=maxLen) (h3:l.length<=100000) (hs:o.size=d*2) (hi:l[i]? =some x) (hn:I64 n)
  (q:∀k x,l[k]? =some x->(∀j y,(z1l x)[j]? =some y->o[k*2+j]? =some y)/\x.name.size<=140737488355328/\I64 x.role) (p:S g):
  Sl 2 zZ S (w.setCell (aD g (i*2+1)) n) (.slice (some ⟨g,0,none⟩) l d) (l.set i ⟨x.name,n⟩):=by
 have t:=(zge hi).1;have r:=zH n hg (i:=i*2+1) rfl;refine⟨some ⟨g,0,none⟩,d,sm,by simpa using h1,h2,by simp;omega,λk y b=>?_⟩;have A:k<l:=by have:=(zge b).1;simpa using this
 rw[getElem?_set] at b;by_cases s:i=k
 ·subst s;rw[if_pos rfl,if_pos t] at b;cases b
  obtain⟨e,m,_⟩:=q i x hi;refine⟨g,0,[x.name,n],rfl,p,rfl,λj y a=>?_,rfl,m,hn⟩;rw[cell_of_row _ g _ _ _ (0,0) r,Array.getElem?_setIfInBounds];have u:j<2:=(zge a).1;rcases(by omega:j=0\/j=1) with h|h<;>subst h
  ·rw[if_neg om,Nat.zero_add];exact e 0 y a
  rw[if_pos om,if_pos om];simpa using a
 rw[if_neg s] at b;obtain⟨e,m⟩:=q k y b;refine⟨g,0,z1l y,rfl,p,rfl,λj z a=>?_,rfl,m⟩;have u:j<2:=(zge a).1;rw[cell_of_row _ g _ _ _ (0,0) r,Array.getElem?_setIfInBounds,if_neg om,Nat.zero_add];exact e j z a
def z8o (r:Bool) (m a b n:Int) (d:Nat):Int:=if r=false then 2 else if m<3 then 40 else if a<0 then 35 else if 3<=max n b/\m<4 then 40 else if b=4/\n<4/\d=1 then 46 else 0
theorem change_any (l:List Member) (by_ name:ByteArray) (n:Int) (ah:name.size<=()) (hn:I64 n) (v:Value) (w:World) (S:Nat->Prop) (h:Sl 2 zZ S w v l) (K:l.length<=100000):
  Calls prog 139 #[v,by_,name,n] w λe w'=>
   (∃v' D k,e= .returned (.tuple #[v',.int .i64 k])/\k=z8o (rightOf l&&(Z1 name&&isOf n)) (ofOf l by_) (z3k l name) (ofOf l name) n (z0x l)/\Sl 2 zZ (λb=>w<=b) w' v' D/\
    ((k≠0/\D=[])\/(k=0/\∃(i:Nat) (x:Member),l[i]? =some x/\eqS x.name name=true/\D=l.set i ⟨x.name,n⟩)))/\bW w w':=by
 have a:=zK8 h K;obtain⟨E,p⟩:=ξ (rightOf l);have aj:E=true->0<l.length:=λe=>zAq (by rw[<-p,e])
 have t:=a.right;have y:∀W,Calls prog 51 #[name] W λe w'=>e= .returned (.bool (Z1 name))/\w'=W:=λW=>zBw name ah _ rfl W
 have u:∀W,Calls prog 169 #[n] W λe w'=>e= .returned (.bool (isOf n))/\w'=W:=λW=>zNs n _ rfl W
 have z:=a.of by_;have o:=a.at_ name;have I:=a.owners;have L:=z8b l 4;change z0x l<=_ at L;have ch:=λN W s ag=>a.high2 by_ n N W s hn ag
 have Z:=a.clone;rw[<-p] at t⊢;generalize Z1 name=aK at y⊢;generalize isOf n=aJ at u⊢;generalize ofOf l by_=N at z ch⊢;generalize z0x l=aL at I L⊢;have aH:(bW w w:Prop):=Below.refl _ _;rcases atOf_cases name l 0 with ⟨j,d⟩|⟨i,x,j,d,J,ad⟩
 ·rw[show z3k l name= -1 from j] at o⊢;rw[d];obtain⟨Q,c,rfl,af,A,ai,q⟩:=h;unfold maxLen at A;clear q a p j d;go_enter func139,ntmps139
  go_wp2_with (first
   | (go_at_call 168;refine zcm (t _ (by assumption)) ?_;rintro e an ⟨rfl,T⟩)
   | (go_at_call 51;refine zcm (y _) ?_;rintro e ao ⟨rfl,rfl⟩)
   | (go_at_call 169;refine zcm (u _) ?_;rintro e ap ⟨rfl,rfl⟩)
   | (go_at_call 157;refine zcm (z _ (by assumption)) ?_;rintro e O ⟨rfl,F⟩)
   | (go_at_call 170;refine zcm (o _ (by assumption)) ?_;rintro e aq ⟨rfl,U⟩))
  all_goals go_ret2
  all_goals exact⟨⟨_,[],_,rfl,by unfold z8o;first|(simp_all;done)|(simp_all;omega),z1p _ _ _ _,.inl ⟨dc,rfl⟩⟩,by assumption⟩
 rw[show z3k l name=(i:Int) by rw[z3k,j];simp] at o⊢;rw[J];obtain⟨Q,c,rfl,af,A,ai,q⟩:=h;unfold maxLen at A;have ae:i<l:=(zge d).1;obtain⟨m,ax,aB,P,ay,az,rfl,_,_,au,av,aw,_,aG⟩:=yT q ae (Kept.refl w λ_ h=>h);have ab:m=x:=zsi (P.symm.trans d);subst ab;have r:=zh d;have M:∀W,((bW w W:Prop))->(cL W ax (aB+i*2+1) m.role:Prop):=Y7 av;have aa:=λW s=>ch m.role W s aG
 clear q a p j d J P ay az aw au ch;go_enter func139,ntmps139
 go_wp2_with (first
  | (go_at_call 168;refine zcm (t _ (by assumption)) ?_;rintro e an ⟨rfl,T⟩)
  | (go_at_call 51;refine zcm (y _) ?_;rintro e ao ⟨rfl,rfl⟩)
  | (go_at_call 169;refine zcm (u _) ?_;rintro e ap ⟨rfl,rfl⟩)
  | (go_at_call 157;refine zcb (z _ (by assumption)) λO F=>?_;have aN:=M O F)
  | (go_at_call 170;refine zcm (o _ (by assumption)) ?_;rintro e aq ⟨rfl,U⟩)
  | (go_at_call 171;refine zcb (aa _ _ (by assumption)) λar V=>?_;have aO:=M ar V)
  | (go_at_call 174;refine zcm (I _ (by assumption)) ?_;rintro e _ ⟨rfl,_⟩)
  | (go_at_call 78;refine zcm (Z (aj (by assumption)) _ (by assumption)) ?_;rintro e _ ⟨⟨_,rfl,ac⟩,Y⟩;obtain⟨_,_,_,rfl,G,C,ak,al,am,H⟩:=zSs ac om;have aP:=ψ C _ _ ((H i _ r).1 1 _ rfl);have aI:=(zB C).2 (i*2+1)))
 all_goals go_ret2
 all_goals first
  | exact⟨⟨_,l.set i ⟨m.name,n⟩,0,rfl,by unfold z8o;first|(simp_all;done)|(simp_all;omega),zSt C ak al K am r hn H G,.inr ⟨rfl,i,m,r,ad,rfl⟩⟩,Below.setCell Y G _⟩
  | exact⟨⟨_,[],_,rfl,by unfold z8o;first|(simp_all;done)|(simp_all;omega),z1p _ _ _ _,.inl ⟨dc,rfl⟩⟩,by assumption⟩
def z8p (r d:Bool) (m a b:Int) (e:Nat):Int:=if r=false then 2 else if d=false/\m<3 then 40 else if a<0 then 35 else if d=false/\3<=b/\m<4 then 40 else if b=4/\e=1 then 46 else 0
theorem revoke_any (l:List Member) (by_ name:ByteArray) (ag:name.size<=()) (v:Value) (w:World) (S:Nat->Prop) (h:Sl 2 zZ S w v l) (ae:l.length<=100000):
  Calls prog 140 #[v,by_,name] w λe w'=>
   (∃v' A k,e= .returned (.tuple #[v',.int .i64 k])/\k=z8p (rightOf l&&Z1 name) (eqS by_ name) (ofOf l by_) (z3k l name) (ofOf l name) (z0x l)/\Sl 2 zZ (λb=>w<=b) w' v' A/\
    ((k≠0/\A=[])\/(k=0/\∃(i:Nat) (x:Member),l[i]? =some x/\eqS x.name name=true/\A=l.eraseIdx i)))/\bW w w':=by
 have a:=zK8 h ae;obtain⟨C,n⟩:=ξ (rightOf l);have ai:C=true->0<l.length:=λe=>zAq (by rw[<-n,e])
 have r:=a.right;have s:∀W,Calls prog 51 #[name] W λe w'=>e= .returned (.bool (Z1 name))/\w'=W:=λW=>zBw name ag _ rfl W
 have t:=a.of by_;have m:=a.at_ name;have F:=a.owners;have J:=z8b l 4;change z0x l<=_ at J;have ch:=λK W q af=>a.high1 by_ K W q af
 have Z:=a.clone;rw[<-n] at r⊢;generalize Z1 name=aG at s⊢;generalize ofOf l by_=K at t ch⊢;generalize z0x l=aH at F J⊢;have ay:(bW w w:Prop):=Below.refl _ _;rcases atOf_cases name l 0 with ⟨j,d⟩|⟨i,x,j,d,G,H⟩
 ·rw[show z3k l name= -1 from j] at m⊢;rw[d];obtain⟨O,c,rfl,ad,u,ah,o⟩:=h;unfold maxLen at u;clear o a n j d;unfold eqS;cases az:(by_.toList==name.toList)
  all_goals
   go_enter func140,ntmps140
   go_wp2_with (first
    | (go_at_call 168;refine zcm (r _ (by assumption)) ?_;rintro e L ⟨rfl,D⟩)
    | (go_at_call 51;refine zcm (s _) ?_;rintro e al ⟨rfl,rfl⟩)
    | (go_at_call 157;refine zcm (t _ (by assumption)) ?_;rintro e M ⟨rfl,E⟩)
    | (go_at_call 170;refine zcm (m _ (by assumption)) ?_;rintro e am ⟨rfl,P⟩))
   all_goals go_ret2
   all_goals exact⟨⟨_,[],_,rfl,by unfold z8p;first|(simp_all;done)|(simp_all;omega),z1p _ _ _ _,.inl ⟨dc,rfl⟩⟩,by assumption⟩
 rw[show z3k l name=(i:Int) by rw[z3k,j];simp] at m⊢;rw[G];obtain⟨O,c,rfl,ad,u,ah,o⟩:=h;unfold maxLen at u;have I:i<l:=(zge d).1;obtain⟨p,ar,aw,N,au,av,rfl,_,_,ao,ap,aq,_,ax⟩:=yT o I (Kept.refl w λ_ h=>h);have ab:p=x:=zsi (N.symm.trans d);subst ab;have V:=zh d;have Y:=zh H;have z:∀W,((bW w W:Prop))->(cL W ar (aw+i*2+1) p.role:Prop):=Y7 ap;have aa:=λW q=>ch p.role W q ax
 clear o a n j d G H N au av aq ao ch;obtain⟨sm,y⟩:=ξ (eqS by_ name);rw[<-y];have aB:(by_.toList==name.toList)=sm:=by rw[y];rfl
 clear y;cases sm
 all_goals
  go_enter func140,ntmps140
  go_wp2_with (first
   | (go_at_call 168;refine zcb (r _ (by assumption)) λL D=>?_;have aI:=z L D)
   | (go_at_call 51;refine zcm (s _) ?_;rintro e al ⟨rfl,rfl⟩)
   | (go_at_call 157;refine zcb (t _ (by assumption)) λM E=>?_;have aJ:=z M E)
   | (go_at_call 170;refine zcm (m _ (by assumption)) ?_;rintro e am ⟨rfl,P⟩)
   | (go_at_call 171;refine zcb (aa _ _ (by assumption)) λan Q=>?_;have aK:=z an Q)
   | (go_at_call 174;refine zcm (F _ (by assumption)) ?_;rintro e _ ⟨rfl,_⟩)
   | (go_at_call 78;refine zcm (Z (ai (by assumption)) _ (by assumption)) ?_;rintro e _ ⟨⟨ak,rfl,ac⟩,T⟩)
   | (go_at_call 175;refine zcm (zO8 l i I om ak _ _ _ ac) ?_;rintro e _ ⟨⟨_,rfl,aj⟩,U⟩))
  all_goals go_ret2
  all_goals first
   | exact⟨⟨_,l.eraseIdx i,0,rfl,by unfold z8p;first|(simp_all;done)|(simp_all;omega),aj,.inr ⟨rfl,i,p,V,Y,rfl⟩⟩,T.trans U⟩
   | exact⟨⟨_,[],_,rfl,by unfold z8p;first|(simp_all;done)|(simp_all;omega),z1p _ _ _ _,.inl ⟨dc,rfl⟩⟩,by assumption⟩
theorem mcL {p:Prop} (h:p:=by
 simp only[getElem?_toArray,getElem?_cons_succ,getElem?_cons_zero];exact rfl):p:=h
end Go.Proofs.YtdggplhnfhcieaaGreatDoor.Ro
