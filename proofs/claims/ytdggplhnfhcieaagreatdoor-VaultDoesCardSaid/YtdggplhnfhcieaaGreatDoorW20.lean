/- No condition. -/
import Derived.Test.YtdggplhnfhcieaaGreatDoorW18
set_option linter.all false
set_option maxRecDepth 100000
set_option maxHeartbeats 16000000
namespace Go.Proofs.YtdggplhnfhcieaaGreatDoor
open Go.Proofs.Tryz Cd Ce List
variable {S:Nat->Prop} {cs:Array Value} {T e:TypeId} {fn:Func} {b g k:Nat} {late:Bool} {p:Prop} {st:State} {v:Value} {w w3:World} {α:Type} {l:List α}
section
open Go.RowKit Go.Deep
theorem zSz (f:Folder) (b d n h z A B C F G:Nat) (t u x y D E:Option Addr) (m:Manifest) (w:World) (hn:f.manifests=n+1) (Q:f.manifests<=h) (hl:f.manifests.length<=()) (ad:h<=9223372036854775807)
  (o:(cL w b (d+n*8) m.folder:Prop)) (H:(cL w b (d+n*8+1) m.seq:Prop)) (I:(cL w b (d+n*8+2) (.slice D m.prev F):Prop)) (J:(cL w b (d+n*8+3) m.parent:Prop))
  (K:(cL w b (d+n*8+4) (.slice E m.members G):Prop)) (L:(cL w b (d+n*8+5) m.cut:Prop)) (M:(cL w b (d+n*8+6) m.gone:Prop)) (N:(cL w b (d+n*8+7) m.who:Prop)):
  Calls prog 120 #[.agg (aF f (some ⟨b,d,none⟩) h t z u A x B y C)] w λe w'=>
   e= .returned (.agg (aM m D F E G))/\bW w w':=by
 obtain⟨i,U,r,_,q,Y⟩:=zP w (aF f (some ⟨b,d,none⟩) h t z u A x B y C) 74;obtain⟨O,V,s,_,j,_⟩:=zP i oM 84;have a:(bW w O:Prop):=zD q j;have aa:b<w:=zF o;have Z:=zy j (r 2 _ rfl);have P:=zh a;have ac:O.heap[i.heap.size]? =some (.cells oM 84 (0,0)):=by rw[<-V];exact zJ _ rfl
 obtain⟨af,ag,ah,ai,aj,ak,al,am⟩:=TC8 s;have ae:w<=i.heap.size:=Nat.le_of_lt Y;replace o:=zy a o;replace H:=zy a H;replace I:=zy a I;replace J:=zy a J;replace K:=zy a K;replace L:=zy a L;replace M:=zy a M;replace N:=zy a N;rw[hn] at Z U Q hl⊢;clear hn r s q j a;go_enter func120,ntmps120
 go_wp2;try simp only[φ]
 refine bodyPost_ret (results_cell_row rfl _ _ i 84 _ (0,0) _ rfl (by repeat' first|with_reducible assumption|((with_reducible first|refine Z2 _ ?_ ?_|apply zJ);rotate_left;first|with_reducible rfl|((try dsimp only);first|with_reducible assumption|omega|(simp only[zS];done)|(simp only[zS];omega)))|with_reducible apply zH|with_reducible refine zR _ ?_|with_reducible refine ZQ ?_|refine(rfl:(_:Array Value)=_)) underlying84 rfl kr) rfl ?_;have ab:=P.o;exact⟨rfl,gg⟩
section
variable {X:Nat->Prop} {base bw:Nat} {W:World} {R:RM} {c:Call} {dv:Value} {st:State} {done late:Bool}
def zXc (S:Nat->Prop) (W:World) (m:Manifest) (f:Option Addr) (h:Nat) (d:Option Addr) (a:Nat):Prop:=
 m.members<=a/\a<=9223372036854775807/\m.members.length<=()/\SlAt 2 zZ S W d m.members/\I64 m.seq/\I64 m.cut/\m.parent.size<=()
theorem z7c (h:WK X base bw W R c dv st done late) {Q:Nat} (hk:k<st.folders) (ha:foAt R k g Q) (G:(fo st k).manifests≠[]):∃f j i m,zXc (Imm X bw R W) W (zL (fo st k)) f j i m/\∀w',((bW W w':Prop))->
  (kB 120 #[.agg (hdr R k (fo st k)).toArray] w' (.agg (aM (zL (fo st k)) f j i m)):Prop):=by
 obtain⟨n,s⟩:∃n,(fo st k).manifests.length=n+1:=⟨(fo st k).manifests.length-1,by have:=length_pos_iff.2 G;omega⟩;have I:(fo st k).manifests[n]? =some (zL (fo st k)):=by
  unfold zL;rw[getLast?_eq_getElem?,s,Nat.add_sub_cancel,qLgx om];rfl
 obtain⟨_,F,E⟩:=(h.is.fo k _ (ZT hk)).2.man.at I;obtain⟨D,oM9,y,H,_,r,U,d,_⟩:=(h.os.row (.ma k)).at F;obtain⟨f,j,i,m,rfl,_,P,_,_,_,_,O,K,L,M,N,J,_⟩:=ZO E;refine⟨f,j,i,m,⟨K,L,M,N,P,J,O⟩,λw' a=>?_⟩;obtain⟨_,_,t,z,u,A,D5,B,x,C,q,_⟩:=h.fold (ZT hk) ha;have Y:(R (.ma k)).cells.length=(fo st k).manifests.length:=(h.is.fo k _ (ZT hk)).2.man.1;have o:=q;simp only[hdr,cons.injEq,and_true,true_and] at o;rw[H] at o;simp only[Value.slice.injEq] at o;obtain⟨⟨rfl,_,rfl⟩,_⟩:=o;rw[q];unfold maxLen at r;have V:=h.os.len (.ma k);exact zSz (fo st k) D oM9 n y z A B C j m t u D5 x f i (zL (fo st k)) w' s om om r (zy a (d 0 _ rfl)) (zy a (d 1 _ rfl)) (zy a (d 2 _ rfl)) (zy a (d 3 _ rfl)) (zy a (d 4 _ rfl)) (zy a (d 5 _ rfl)) (zy a (d 6 _ rfl)) (zy a (d 7 _ rfl))
end
end
section
open Go.RowKit Go.Deep
def zB5 (now:List Member) (frm:Int) (m:Manifest):Bool:=m.members.all λx=>!(decide (frm<=m.seq)&&(decide (2<=x.role)&&decide (Ro.ofOf now x.name=0)))
theorem zN3 (f:Folder) (frm:Int):z5m f frm=f.manifests.all (zB5 (zL f).members frm):=rfl
theorem zOj {now:List Member} {frm:Int} {m:Manifest} (h:m.seq<frm):zB5 now frm m=true:=by
 unfold zB5;rw[all_eq_true];intro a _;rw[η];rfl
def zGc (now:List Member) (s:Nm):Bool:=!decide (Ro.ofOf now s=0)
theorem zOk {now:List Member} {frm:Int} {m:Manifest} (h:¬m.seq<frm):zB5 now frm m=(Ro.withAt m.members 2).all (zGc now):=by
 unfold zB5;rw[Δ (by omega:frm<=m.seq)];generalize m.members=l
 induction l with
 | nil=>rfl
 | cons x r ih=>
  rw[all_cons,ih,Ro.withAt_cons];by_cases a:2<=x.role
  ·rw[if_pos a,all_cons,Δ a];rfl
  rw[if_neg a,Γ a];rfl
theorem zFd {p:α->Bool} {x:α} (h:∀y∈l.take k,p y=true) (hx:l[k]? =some x) (hp:p x=true):∀y∈l.take (k+1),p y=true:=λy a=>by
 rw[qLtx,hx] at a;rcases zmb a with e|e
 ·exact h y e
 ·simp at e;rw[e];exact hp
theorem zKu {p:α->Bool} (h:∀y∈l.take l,p y=true):l.all p=true:=by
 rw[qLnx] at h;exact all_eq_true.2 h
theorem zId {p:α->Bool} {k:Nat} {x:α} (hx:l[k]? =some x) (hp:p x=false):l.all p=false:=by
 rw[all_eq_false];exact⟨x,zmg hx,by rw[hp];decide⟩
section
variable {X:Nat->Prop} {base bw:Nat} {W:World} {R:RM} {c:Call} {dv:Value} {st:State} {done late:Bool}
theorem zQq (h:WK X base bw W R c dv st done late) {aB:Nat} (hk:k<st.folders) (ha:foAt R k g aB) (frm:Int) (hml:∀m∈(fo st k).manifests,m.members.length<=1000000):
  (kB 177 #[pO g aB,frm] W (z5m (fo st k) frm):Prop):=by
 obtain⟨_,_,_,_,_,_,_,_,_,_,bc,hF,aH,aI,Y,aJ,aK,aL,aN,bv,bf⟩:=h.fold (ZT hk) ha;have G:=zh (z75 (fo st k) _ W _ hF);obtain⟨f,ap⟩:=Ξ (fo st k);rw[ap] at hF aH aI Y aJ aK aL aN G hml⊢;obtain⟨_,_,aa,_,D,_,y,_,_,_,e,_,_,_,_,_,bd,_⟩:=Z9 hF;simp only[cons.injEq,Value.slice.injEq,and_true,true_and] at e;obtain⟨⟨rfl,rfl⟩,⟨rfl,rfl⟩,⟨rfl,rfl⟩,⟨rfl,rfl⟩,⟨rfl,rfl⟩⟩:=e;have aR:=zh hml;clear h ha bc bf hF ap hml;go_enter func177,ntmps177
 go_wp2_with fail
 refine zcm G ?_;rintro _ Z ⟨⟨_,rfl,L⟩,B⟩;have bB:=zy B Y;have ad:=zh B;obtain⟨a,M⟩:=Ξ (zL f);rw[M] at L;have ah:=zh M;obtain⟨aW,aX,am,an,rfl,_,_,_,_,_,a1,_,aY,aZ,a0,ao,_⟩:=ZO L;have aV:=ζ (Sl 2 zZ (λ_=>True) Z (.slice am a.members an) a.members) ⟨_,_,rfl,aY,aZ,a0,ao⟩;have bA:=z2d a.folder a.parent a.who a.seq a.cut a.gone (.slice aW a.prev aX) (.slice am a.members an);clear L M B aH aI Y aJ aK aL aN G a1 ao;go_wp2_with fail
 go_loopw [20] (λr wr=>∃k:Nat,k<=f.manifests/\r= .int .i64 k/\Hid (∀x∈f.manifests.take k,zB5 a.members frm x=true)/\bW Z wr) (λr _=>f.manifests.length-(intOf r).toNat)
 case atStart=>exact⟨0,om,gn,λx O=>by simp at O,Below.refl _ _⟩
 obtain⟨k,hk,rfl,H,z⟩:=hrel;have af:=zh (zD ad z);have av:=z.size;by_cases bi:k<f.manifests
 rotate_left
 ·obtain rfl:k=f.manifests:=om
  have F:=zh (by rw[zN3,ah.o];exact zKu H:z5m f frm=true);go_wp2;go_ret;exact⟨ZM F.symm,af⟩
 have bz:(k:Int)<(f.manifests:Int):=om
 obtain⟨m,_,_,aw,ax,Q,U,ay,bm,bn,rfl,_,_,_,_,_,_,_,_,_,_,bl,_,_,_,_,_,br,_,bo,bp,bq,az,_⟩:=z6m bd bi (zK af);have I:=zh ay;have aT:=zh (aR.o m bn);have aU:=ζ (Sl 2 zZ (λ_=>True) wr (.slice Q m.members U) m.members) ⟨_,_,rfl,bo,bp,bq,az⟩;obtain⟨i,au,a2,be,ab,_⟩:=zP wr oM 84;have d:i.heap[wr.heap.size]? =some (.cells oM 84 (0,0)):=by rw[<-au];exact zJ _ rfl
 have a3:(cL i wr 0 "":Prop):=ψ d 0 _ rfl;have a4:(cL i wr 1 '0':Prop):=ψ d 1 _ rfl;have a5:(cL i wr 2 ():Prop):=ψ d 2 _ rfl;have a6:(cL i wr 3 "":Prop):=ψ d 3 _ rfl;have a7:(cL i wr 4 ():Prop):=ψ d 4 _ rfl;have a8:(cL i wr 5 '0':Prop):=ψ d 5 _ rfl;have a9:(cL i wr 6 false:Prop):=ψ d 6 _ rfl;have ba:(cL i wr 7 "":Prop):=ψ d 7 _ rfl;have bb:=(zB d).2;have ac:=zh d;have ae:=zh ab;clear a2 be d ab ay bm bl br az;by_cases ar:m.seq<frm
 ·have u:=zh (zFd H I (zOj ar));go_wp2_with fail
  obtain⟨t,q⟩:=z7w ac m.folder m.seq (.slice aw m.prev ax) m.parent (.slice Q m.members U) m.cut m.gone m.who;generalize J:World.setCell _ _ _=w3 at t q⊢;have aa:(bW Z w3:Prop):=ButB.below (zD z ae) om (λs av=>om) q;clear J t q;go_wp2;go_roundw
  case rel=>exact⟨k+1,om,gn,u,aa⟩
  case measure=>exact qMx
 go_wp2_with fail
 obtain⟨t,q⟩:=z7w ac m.folder m.seq (.slice aw m.prev ax) m.parent (.slice Q m.members U) m.cut m.gone m.who;generalize J:World.setCell _ _ _=w3 at t q⊢;have C:(bW wr w3:Prop):=ButB.below ae om (λs av=>om) q;have aP:=zh (zD z C);have ak:=zh (zOk (now:=a.members) (frm:=frm) (m:=m) om);refine zcm (Ro.with_any m.members 2 _ w3 (λ_=>True) (aU.keep ZA dc (zK C)) aT) ?_;clear J t q C ar a3 a4 a5 a6 a7 a8 a9 ba bb au;rintro _ bt ⟨⟨_,rfl,aG⟩,D⟩;obtain⟨o,N⟩:=Ξ (Ro.withAt m.members 2);rw[N] at aG;have ai:=zh N;obtain⟨_,_,rfl,_,bs,_,bj⟩:=aG;unfold maxLen at bs;have aQ:=zh (zD aP D);clear D N;go_wp2_with fail
 go_loopw [32] (λr bu=>∃j:Nat,j<=o/\r= .int .i64 j/\Hid (∀x∈o.take j,zGc a.members x=true)/\bW bt bu) (λr _=>o.length-(intOf r).toNat)
 case atStart=>exact⟨0,om,gn,λx O=>by simp at O,Below.refl _ _⟩
 obtain⟨j,_,rfl,ag,K⟩:=hrel;have E:=zh (zD aQ K);by_cases bh:j<o
 rotate_left
 ·obtain rfl:j=o:=om
  have u:=zh (zFd H I (by rw[ak.o,ai.o];exact zKu ag:zB5 a.members frm m=true));go_wp2;go_roundw
  case rel=>exact⟨k+1,om,gn,u,E⟩
  case measure=>exact qMx
 have bx:(j:Int)<(o:Int):=om
 obtain⟨V,_,_,aq,bk,_,rfl,_⟩:=zGy bj bh (zK K);have aj:=zh aq;clear aq bk;go_wp2_with fail
 refine zcb (Ro.of_any V a.members _ _ (λ_=>True) (aV.keep ZA dc (zK E))) λ_ y=>?_;obtain⟨s,P⟩:=Ξ (Ro.ofOf a.members V);have al:=zh P;rw[P];clear P;by_cases A:s=0
 ·have bg:(s==0)=true:=by simp[A]
  have F:=zh (show z5m f frm=false by
   rw[zN3,ah.o];refine zId I ?_;rw[ak.o,ai.o];refine zId aj ?_;unfold zGc;rw[al.o,A];rfl)
  go_wp2;go_ret;exact⟨ZM F.symm,zD ad (zD E y)⟩
 have bg:(s==0)=false:=by simp[A]
 have u:=zh (zFd ag aj (by unfold zGc;rw[al.o,Γ A];rfl:zGc a.members V=true));have aO:=zD K y;clear y;go_wp2;go_roundw
 case rel=>exact⟨j+1,om,gn,u,aO⟩
 case measure=>exact qMx
end
end
section
variable {n:Nat} {st:State} {c:Call}
theorem zD7 (q:CallOk c) {late:Bool} (hk:c.kind≠1) (h:ZR st c late=0):(∃u,yU st c.user=some u)/\(c.folder≠⟨#[]⟩->c.kind≠2->∃k,ZB st c.folder=some k)/\(c.other≠⟨#[]⟩->c.kind=3->∃k,ZB st c.other=some k)/\(c.other≠⟨#[]⟩->3<c.kind->∃u,yU st c.other=some u):=by
 unfold ZR at h;rw[if_neg hk] at h
 cases i:yU st c.user with
 | none=>rw[i] at h;simp at h
 | some u=>
  rw[i] at h;dsimp only at h;refine⟨⟨u,rfl⟩,λa d=>?_,λa d=>?_,λa d=>?_⟩;all_goals
   split at h
   ·simp at h
   split at h
   ·simp at h
   rename_i j;split at h
   ·simp at h
   rename_i m;split at h
   ·simp at h
   rename_i o
  ·cases f:ZB st c.folder with
   | some k=>exact⟨k,rfl⟩
   | none=>simp[isE,a,d,f] at j
  ·cases f:ZB st c.other with
   | some k=>exact⟨k,rfl⟩
   | none=>simp[isE,a,d,f] at m
  cases f:yU st c.other with
  | some k=>exact⟨k,rfl⟩
  | none=>simp[isE,a,d,f] at o
theorem zW8 (d:c.other=⟨#[]⟩\/∃k,ZB st c.other=some k):c.other=Top\/ZX (Y3 st) c.other=true:=d.imp id λ⟨_,a⟩=>zA7 a
theorem zKn (h:VInv n st) (f:CallOk c) (hk:c.kind=2) (hu:c.user∈st.users.map User.name) (h1:foI st c.folder=none) (h2:z11 st c=0) (h3:(zY st 4 c.other).length<4):VInv (n+1) (z4z st c):=by
 have d:=zAv.1 h1;obtain⟨_,e,a,q,hF,r⟩:=zQl h f hu d;have i:=z3m (f.fol om om);have m:c.other=Top\/ZX (Y3 st) c.other=true:=by
  unfold z11 at h2;by_cases j:c.other=⟨#[]⟩
  ·exact .inl j
  ·right;rw[if_neg (by simpa[isE] using j)] at h2
   cases o:ZB st c.other with
   | none=>rw[o] at h2;simp at h2
   | some k=>exact zA7 o
 rw[e];refine h.folAdd (by rw[a];exact d) (by rw[a];exact i) hF r ?_;rw[a,q];refine h.tree.add ?_ i m ?_
 ·unfold ZX Y3;rw[d];rfl
 rw[<-zI5 h.tree h.top m];omega
theorem zVb (h:VInv n st) (i:CallOk c) (hk:k<st.folders):
  ∃f',zAo st k c={ setF st k f' with turn:=st.turn+1 }/\f'.name=(fo st k).name/\zL f'={ zL (fo st k) with parent:=c.other,cut:=(zL (fo st k)).seq+1,seq:=(zL (fo st k)).seq+1,who:=c.user }/\FInv (n+1) (st.users.map User.name) f'/\yA f'<=yA (fo st k)+3:=by
 have hF:=h.atF hk;obtain⟨o,_,w3,q⟩:=hF.write (m:={ zL (fo st k) with parent:=c.other,cut:=(zL (fo st k)).seq+1 }) (who:=c.user) i.o20 hF.mem (hF.mn _ (z26 hF.man)).2.2 (show(zL (fo st k)).prev=[] from hF.pv _ (z26 hF.man));obtain⟨f',d,a,f,_⟩:=zH8 h hk w3 o λr j=>zB1 h hk w3 j
 refine⟨f',?_,a.name.trans w3,a.now.trans q,f,om⟩;unfold zAo;dsimp only;rw[d];rfl
theorem zOf (h:VInv n st) (r:CallOk c) (hk:ZB st c.folder=some k) (z:c.other=⟨#[]⟩\/∃q,ZB st c.other=some q)
  (h1:(zY st 4 c.other).any (λx=>decide (x.name=c.folder))=false) (h2:(zY st 4 c.other).length+yV st 5 c.folder<=4):VInv (n+1) (zAo st k c):=by
 obtain⟨s,t⟩:=z92 hk;obtain⟨f,y,_⟩:=z32 s;obtain⟨_,e,d,m,j,o⟩:=zVb h r f;rw[e];have a:=zW8 z;refine h.turnF f d j o ?_ _ (oh h.turn);rw[d,m,y];show Inv (upd (Y3 st) c.folder (c.other,(zL (fo st k)).gone))
 rw[t];have i:=zA7 hk;refine h.tree.move i a (λu=>?_) (zDr h.names h.tree 5 c.folder i om) (by rw[<-zI5 h.tree h.top a];exact h2);rw[(zQj h.tree h.top a c.folder).2 u] at h1;cases h1
theorem zQm (h:VInv n st) {s:Nm} (hl:ZX (Y3 st) s=true) (hh:yV st 5 s<=1):∀x,ZX (Y3 st) x=true->z1k (Y3 st) x≠s:=λx hx e=>by
 obtain⟨h1,_⟩:=(zDr h.names h.tree 5 s hl om).2 hl;have h2:=z4t h.tree hx;rw[e] at h2;have:=h1 x (by rw[z6j h.tree hx,e];exact zmc _ (z8m h.tree hl));omega
theorem zKo (h:VInv n st) (hk:ZB st c.folder=some k) (hh:yV st 5 c.folder<=1):
  VInv (n+1) { setF st k (YJ (fo st k) { zL (fo st k) with gone:=true } c.user) with turn:=st.turn+1 }:=by
 obtain⟨d,_⟩:=z92 hk;obtain⟨a,f,_⟩:=z32 d;have hF:=h.atF a;obtain⟨i,_,w3,j⟩:=hF.write (m:={ zL (fo st k) with gone:=true }) (who:=c.user) (hF.mn _ (z26 hF.man)).1 hF.mem (hF.mn _ (z26 hF.man)).2.2 (show(zL (fo st k)).prev=[] from hF.pv _ (z26 hF.man));refine h.turnF a w3 i om ?_ _ (oh h.turn);rw[w3,j,f];exact h.tree.gone (zA7 hk) (zQm h (zA7 hk) hh)
theorem zJ3 (h:VInv n st) (f:CallOk c) (q:5<=c.kind/\c.kind<=7) (hk:ZB st c.folder=some k) (hu:c.other∈st.users.map User.name) (a:yD c (zL (fo st k)).members=0):VInv (n+1)
  (setF st k (YJ (if c.kind=5\/(c.kind=6/\2<=c.role) then YZ (fo st k) c.other (decide (2<=c.role)) else fo st k) { zL (fo st k) with members:=Ro.withOf (zL (fo st k)).members c.other c.role,cut:=if c.kind=7 then(zL (fo st k)).seq+1 else(zL (fo st k)).cut } c.user)):=by
 obtain⟨x,_⟩:=z92 hk;obtain⟨r,_⟩:=z32 x;have hF:=h.atF r;have i:=f.oth q.1 q.2;have u:Ro.RightL (Ro.withOf (zL (fo st k)).members c.other c.role):=by
  unfold yD at a;by_cases j:c.kind=5
  ·rw[if_pos j] at a;have d:=f.role (.inl j);refine Ro.right_share (by_:=c.user) ?_;unfold Ro.shareD;rw[hF.mem,i,if_neg (by unfold Ro.isOf;simp[d.1,d.2])];exact a
  ·rw[if_neg j] at a;by_cases o:c.kind=6
   ·rw[if_pos o] at a;have d:=f.role (.inr o);refine Ro.right_change (by_:=c.user) ?_;unfold Ro.changeD;rw[hF.mem,i,if_neg (by unfold Ro.isOf;simp[d.1,d.2])];exact a
   ·rw[if_neg o] at a;rw[f.rol0 om];refine Ro.right_revoke (by_:=c.user) ?_;unfold Ro.revokeD;rw[hF.mem,i,if_neg sm];exact a
 have t:FInv n (st.users.map User.name) (if c.kind=5\/(c.kind=6/\2<=c.role) then YZ (fo st k) c.other (decide (2<=c.role)) else fo st k):=by
  split
  ·exact hF.give hu _
  ·exact hF
 have C:zL (if c.kind=5\/(c.kind=6/\2<=c.role) then YZ (fo st k) c.other (decide (2<=c.role)) else fo st k)=zL (fo st k):=by split<;>rfl
 have y:(if c.kind=5\/(c.kind=6/\2<=c.role) then YZ (fo st k) c.other (decide (2<=c.role)) else fo st k).name=(fo st k).name:=by split<;>rfl
 have D:yA (if c.kind=5\/(c.kind=6/\2<=c.role) then YZ (fo st k) c.other (decide (2<=c.role)) else fo st k)=yA (fo st k):=by split<;>rfl
 obtain⟨A,_,w3,s⟩:=t.write (m:={ zL (fo st k) with members:=Ro.withOf (zL (fo st k)).members c.other c.role,cut:=if c.kind=7 then(zL (fo st k)).seq+1 else(zL (fo st k)).cut }) (who:=c.user) (hF.mn _ (z26 hF.man)).1 ((Ro.right_iff _).2 u) (λB z=>by
  rcases zI9 z with e|e
  ·rw[e];exact hu
  ·exact(hF.mn _ (z26 hF.man)).2.2 B e) (show(zL (fo st k)).prev=[] from hF.pv _ (z26 hF.man))
 exact h.put r (w3.trans y) A om (by rw[s]) (by rw[s])
theorem zKp (h:VInv n st) (hk:k<st.folders) (who:Nm):∃f1,z1g st k who=setF st k f1/\f1.name=(fo st k).name/\f1.manifests=(fo st k).manifests/\f1.items=(fo st k).items/\FInv n (st.users.map User.name) f1/\yA f1=yA (fo st k)+1:=by
 have hF:=h.atF hk;obtain⟨d,f⟩:=hF.begins (st:=st) (λa i=>zM7 h i) who λa=>decide (2<=a.role)
 have g:=zAx (λa=>decide (2<=a.role)) (zL (fo st k)).members { fo st k with epochs:=(fo st k).epochs++[z79 st (fo st k) who] };exact⟨_,rfl,g.name,g.man,g.it,d,f⟩
theorem z3n {f:Folder} {s:Nm} {j:Nat} (h:z00 f s=some j):f.items[j]? =some (ZY f j)/\(ZY f j).name=s:=by
 obtain⟨d,i,_⟩:=findIdx?_eq_some_iff_getElem.1 h;have e:f.items[j]? =some f.items[j]:=qLgx d;have a:ZY f j=f.items[j]:=by unfold ZY;rw[e];rfl
 rw[a];exact⟨e,by simpa[isI] using i⟩
theorem zKq (h:VInv n st) (hk:k<st.folders):∃f1,(∀who:Nm,who=c.user->yN (if yH st c.folder then z1g st k who else st) k=setF st k f1)/\f1.name=(fo st k).name/\f1.manifests=(fo st k).manifests/\f1.items=(fo st k).items/\FInv n (st.users.map User.name) f1/\yA f1<=yA (fo st k)+2:=by
 by_cases m:yH st c.folder=true
 ·obtain⟨_,o,f,q,r,s,_⟩:=zKp h hk c.user;obtain⟨f1,d,a,i,t⟩:=zH8 h hk f s λu j=>zB1 h hk f j
  exact⟨f1,λwho e=>by rw[if_pos m,e,o,d],a.name.trans f,a.man.trans q,a.it.trans r,i,om⟩
 have hF:=h.atF hk;obtain⟨f1,d,a,i,t⟩:=zH8 h hk (f1:=fo st k) rfl hF λu j=>zB1 h hk rfl j
 rw[z8r] at d;exact⟨f1,λwho e=>by rw[if_neg m,d],a.name,a.man,a.it,i,om⟩
theorem zIb (h:VInv n st) (hk:k<st.folders) {f1:Folder} (hn:f1.name=(fo st k).name) (hm:f1.manifests=(fo st k).manifests) (hF:FInv n (st.users.map User.name) f1) (hs:yA f1<=yA (fo st k)+2) (i:Option Nat) (hi:∀j,i=some j->f1.items[j]? =some (ZY f1 j)) {name:Nm} (d:name.size<=20) (v:Version):VInv (n+1) (z3z (setF st k f1) k i name v).1:=by
 unfold z3z;rw[z24 hk];dsimp only
 cases i with
 | none=>
  dsimp only;rw[z2k];have a:=hF.addN d { v with epoch:=f1.epochs.length };refine h.put hk hn a ?_ (by rw[z35 (f:=fo st k) (by exact hm)]) (by rw[z35 (f:=fo st k) (by exact hm)]);unfold yA at hs⊢;simp
  omega
 | some j=>
  dsimp only;rw[z2k];have a:=hF.addV (hi j rfl) { v with epoch:=f1.epochs.length };refine h.put hk hn a ?_ (by rw[z35 (f:=fo st k) (by exact hm)]) (by rw[z35 (f:=fo st k) (by exact hm)]);unfold yA at hs⊢;simp;omega
theorem zIc (h:VInv n st) (m:CallOk c) (hk:ZB st c.folder=some k):VInv (n+1) (z5q st c k).1:=by
 obtain⟨o,_⟩:=z92 hk;obtain⟨a,_⟩:=z32 o;obtain⟨j,r,s,t,f,u,x⟩:=zKq (c:=c) h a;unfold z5q;dsimp only;rw[r c.user rfl];refine zIb h a s t u x _ (λd q=>?_) m.n20 _;obtain⟨i,_⟩:=z3n q;have:ZY j d=ZY (fo st k) d:=by unfold ZY;rw[f]
 rw[this,f];exact i
theorem zOg (h:VInv n st) (d:CallOk c) (hk:ZB st c.folder=some k) {j:Nat} (hj:z00 (fo st k) c.name=some j) (v:Version):VInv (n+1) (z3z st k (some j) c.name v).1:=by
 obtain⟨f,_⟩:=z92 hk;obtain⟨a,_⟩:=z32 f;have:=zIb h a (f1:=fo st k) rfl rfl (h.atF a) om (some j) (λm i=>by cases i;exact(z3n hj).1) d.n20 v;rwa [z8r] at this
end
theorem ZH {α f:Type} [Decidable p] {P:α->Prop} {a b:α×f} (h1:p->P a.1) (h2:¬p->P b.1):P (if p then a else b).1:=by
 split
 ·rename_i d;exact h1 d
 rename_i d;exact h2 d
theorem zT3 {n:Nat} {c:Call} {late:Bool} (h:VInv n st) (f:CallOk c) (hb:ZR st c late=0):VInv (n+1) (doR st c).1:=by
 have a:VInv (n+1) st:=h.mono om;unfold doR;dsimp only;by_cases q:c.kind=1
 ·rw[if_pos q];unfold YB;refine ZH (λ_=>a) λ_=>ZH (λ_=>a) λo=>?_
  exact h.userAdd om f.u20
 rw[if_neg q];obtain⟨⟨Q,L⟩,G,I,J⟩:=zD7 f q hb;have M:=zKm L;by_cases m:c.kind=2
 ·rw[if_pos m];unfold YR;refine ZH (λ_=>a) λi=>ZH (λ_=>a) λo=>ZH (λ_=>a) λN=>?_
  exact zKn h f m M (by simpa using i) (by simpa using o) om
 rw[if_neg m];have j:c.kind<=13->∃k,ZB st c.folder=some k:=λF=>G (z3m (f.fol (oh f.k1) F)) m
 by_cases r:c.kind=3
 ·rw[if_pos r];obtain⟨k,d⟩:=j om;rw[d,Option.getD_some];unfold z0t;refine ZH (λ_=>a) λ_=>ZH (λ_=>a) λ_=>ZH (λ_=>a) λi=>ZH (λ_=>a) λo=>?_
  refine zOf h f d ?_ (by simpa using i) om;by_cases s:c.other=⟨#[]⟩
  ·exact .inl s
  exact .inr (I s r)
 rw[if_neg r];by_cases B:c.kind=4
 ·rw[if_pos B];obtain⟨k,d⟩:=j om;rw[d,Option.getD_some];unfold z04;refine ZH (λ_=>a) λ_=>ZH (λ_=>a) λi=>?_
  exact zKo h d om
 rw[if_neg B];by_cases C:c.kind=5\/c.kind=6\/c.kind=7
 ·rw[if_pos C];obtain⟨k,d⟩:=j om;rw[d,Option.getD_some];unfold yR;dsimp only;refine ZH (λ_=>a) λi=>ZH (λ_=>a) λ_=>?_
  obtain⟨P,K⟩:=J (z3m (f.oth om om)) om;exact zJ3 h f om d (zKm K) om
 rw[if_neg C];by_cases D:c.kind=8
 ·rw[if_pos D];obtain⟨k,d⟩:=j om;rw[d,Option.getD_some];unfold z3l;refine ZH (λ_=>a) λ_=>?_
  split
  ·exact ZH (λ_=>a) λ_=>zIc h f d
  exact ZH (λ_=>a) λ_=>zIc h f d
 rw[if_neg D];by_cases E:c.kind=9
 ·rw[if_pos E];exact a
 rw[if_neg E];by_cases t:c.kind=10
 ·rw[if_pos t];exact a
 rw[if_neg t];by_cases u:c.kind=11
 ·rw[if_pos u];obtain⟨k,d⟩:=j om;rw[d,Option.getD_some];unfold z1j;refine ZH (λ_=>a) λ_=>?_
  split
  ·exact a
  rename_i O H;exact ZH (λ_=>a) λ_=>ZH (λ_=>a) λ_=>zOg h f d H _
 rw[if_neg u];by_cases x:c.kind=12
 ·rw[if_pos x];exact a
 rw[if_neg x];by_cases y:c.kind=14
 ·rw[if_pos y];unfold z1v;exact ZH (λ_=>a) λ_=>h.depAdd f.u20 f.o20
 rw[if_neg y];by_cases z:c.kind=15
 ·rw[if_pos z];exact h.lostS _ _
 rw[if_neg z];by_cases A:c.kind=16
 ·rw[if_pos A];unfold z0k;exact ZH (λ_=>a) λ_=>ZH (λ_=>a) λ_=>h.lostS _ _
 rw[if_neg A];exact a
theorem zB2 {n:Nat} {c:Call} (h:VInv n st) (d:CallOk c):VInv (n+1) (z12 st c late).1:=by
 unfold z12;split
 ·exact h.mono om
 rename_i a;exact zT3 h d (by simpa using a)
section
open Go.RowKit Go.Deep
abbrev TT:Nat->Prop:=λ_=>True
theorem zH5 {w':World} (h:(bW w w':Prop)):Kept S TT w w':=Kept.below h λ_ _=>trivial
abbrev Old (S:Nat->Prop) (w:World):Nat->Prop:=λb=>S b/\b<w
abbrev New (S:Nat->Prop) (w:World):Nat->Prop:=λb=>S b\/w<=b
theorem YL (h:(bW w w3:Prop)):Kept S (Old S w) w w3:=λb d a=>⟨⟨d,a⟩,h.block b a⟩
theorem zKe {a:World} (h3:(bW w w3:Prop)) (d:(bW w a:Prop)):Kept (Old S w) (New S w) w3 a:=λb hs _=>⟨.inl hs.1,(d.block b hs.2).trans (h3.block b hs.2).symm⟩
theorem z23 {a:World} (h3:(bW w w3:Prop)) (d:(bW w a:Prop)):Kept (Old S w) (Old S w) w3 a:=λb hs _=>⟨hs,(d.block b hs.2).trans (h3.block b hs.2).symm⟩
theorem z4o (h:(bW w w3:Prop)):Kept S (New S w) w w3:=λb d a=>⟨.inl d,h.block b a⟩
theorem z34 {e:TypeId} {sz:Nat} {Q:Rp α} {W:World} (f:RpOk sz Q) {cells:List (List Value)} (h:RowC e sz W v cells) (hl:cells.length<=10000) (k:All2 (Q S W) cells l) (hv:∀b,v.ownBlock=some b->S b):Sl sz Q S W v l:=by
 obtain⟨i,c,rfl,j,m,o,_⟩:=z1h f h hl k;refine⟨i,c,rfl,j,m,o,λA B t=>?_⟩;obtain⟨z,s,a⟩:=k.at t;obtain⟨g,x,_,d,_,_,_,q,_⟩:=h.at s;simp only[Value.slice.injEq] at d;obtain⟨rfl,_⟩:=d;exact⟨g,x,z,rfl,hv g rfl,f.len a,λu y r=>by rw[<-Nat.add_assoc];exact q u y r,a⟩
theorem z1n {P:Program} {e:TypeId} {sz:Nat} {Q:Rp α} {S:Nat->Prop} (w:World) {z:Array Oper} {rest:List Oper} {j:Oper} {a:Act} {r:Exit->Act->World->Prop} (H:j.guard=none) (s x:Operand) (t:TypeId)
  (I:j.op= .call { callee:= .builtin .append,args:=#[s,x],argTypes:=#[t,t] })
  (i:TypeInfo) (q:Value) (f:Nat) (L:P.underlying t=some (.slice e)) (hi:P.info? e=some i) (hz:i.zero=some q)
  (J:i.size=sz) (G:i.bytes=f) (M:q.cells.size=sz) (m:0<sz) (E:0<f) (F:f<=1000) (o:RpOk sz Q) (hs:a.eval s= .slice none 0 0)
  (u:Value) (l:List α) (hx:a.eval x=u) (Y:∀b,S b->b<w.heap.size) (K:Sl sz Q S w u l) (hl:l.length<=10000)
  (h:∀v' w' cells,RowC e sz w' v' cells->All2 (Q S w') cells l->((bW w w':Prop))->(∀b,v'.ownBlock=some b->w.heap.size<=b)->wpList P z r rest (a.put j.dst v') w'):wpList P z r (j::rest) a w:=by
 obtain⟨A,c,rfl,_,_,_,D⟩:=K;refine YP (R:=Q) (B:=λb=>¬S b) w H s x t I e i q sz f L hi hz J G M m o w (znl _) _ [] hs Grow.nil A l c hx l rfl (D.keep o m λb hs d=>⟨⟨d,λh=>h hs,zUi⟩,rfl⟩) ?_ E ?_
 ·rw[length_nil,Nat.zero_add];exact qNtx (Nat.mul_le_mul hl F) dc
 intro v' w' y C V;rw[nil_append] at y;obtain⟨cells,N,O,U⟩:=Grow.toRow (S:=S) o m y λb d=>Classical.byContradiction d
 exact h v' w' cells N O (Below.grown zbr C (znl _) λb d=>by cases d) U
theorem RowC.writes {e:TypeId} {sz g off len m:Nat}:∀(d:List Value) (j:Nat) {w:World} {l:List (List Value)} {i:Nat} {x:List Value},RowC e sz w (.slice (some ⟨g,off,none⟩) len m) l->0<sz->l[i]? =some x->j+d.length<=sz->(∀u∈d,u.oneCell'=true)->
  ∃a,RowC e sz (w.setCells g (off+i*sz+j) d) (.slice (some ⟨g,off,none⟩) len m) (l.set i a)/\a.length=x.length/\(∀k,k<j->a[k]? =x[k]?)/\(∀k u,d[k]? =some u->a[j+k]? =some u)/\∀k,j+d.length<=k->a[k]? =x[k]?
 | [],j,w,l,i,x,f,hsz,hi,hj,h1=>⟨x,by rw[lSq hi];exact f,rfl,λ_ _=>rfl,λk u f=>by simp at f,λ_ _=>rfl⟩
 | y::d,j,w,l,i,x,f,hsz,hi,hj,h1=>by
  simp only[length_cons] at hj;have t:=(zge hi).1;have C:x=sz:=(f.1 x (zmg hi)).1;have s:=f.write hsz hi (by omega:j<sz) y (h1 y (mem_cons_self ..));obtain⟨a,q,z,r,A,B⟩:=RowC.writes d (j+1) s hsz (x:=x.set j y) (getElem?_set_self t) om λu h=>h1 u (zmc _ h)
  rw[set_set] at q;refine⟨a,q,by rw[z,length_set],λk o=>by rw[r k om,getElem?_set_ne om],λk u h=>?_,λk o=>?_⟩
  ·rcases k with _|k
   ·rw[Nat.add_zero,r j om,getElem?_set_self om];exact h
   ·rw[show j+(k+1)=j+1+k by omega];exact A k u h
  ·rw[length_cons] at o;rw[B k om,getElem?_set_ne om]
theorem RowC.put {sz off len f:Nat} {l:List (List Value)} {i:Nat} {x:List Value} (h:RowC e sz w (.slice (some ⟨g,off,none⟩) len f) l) (j:0<sz) (hi:l[i]? =some x) (a:List Value) (hy:a=sz) (h1:∀u∈a,u.oneCell'=true):
  RowC e sz (w.setCells g (off+i*sz) a) (.slice (some ⟨g,off,none⟩) len f) (l.set i a):=by
 obtain⟨q,m,_,_,o,_⟩:=RowC.writes a 0 h j hi om h1;have r:x=sz:=(h.1 x (zmg hi)).1;have e:q=a:=ext_getElem? λk=>by
  rcases Nat.lt_or_ge k a with d|d
  ·have:=o k _ (qLgx d);rw[Nat.zero_add] at this;rw[this,qLgx d]
  ·rw[getElem?_eq_none d,getElem?_eq_none om]
 rwa [e] at m
theorem zW7 (w:World) (g d:Nat) (f:List Value):ButB (·=g) w (w.setCells g d f):=
 have a:=z1f g f w d
 ⟨a.1,a.2.1,a.2.2.1,by rw[a.2.2.2.1];exact znl _,λk _ h=>a.2.2.2.2 k h⟩
def zAu (S:Nat->Prop) (st':State) (w:World) (e:Ending) (w':World):Prop:=(∃cs:List Value,e= .returned (.agg cs.toArray)/\Z5 (New S w) w' cs st')/\bW w w'
theorem mb9 (h:p:=by
 exact⟨h3,(((ButB.refl (·=pb) w).set _ _ rfl).set _ _ rfl).set _ _ rfl |>.set _ _ rfl⟩):p:=h
theorem z2o {pb:Nat} {q f d a:Value} (h:w.heap[pb]? =some (.cells #[q,f,d,a] T (0,0))) (a0 a1 a2 a3:Value):
  ((((w.setCell (aD pb 0) a0).setCell (aD pb 1) a1).setCell (aD pb 2) a2).setCell (aD pb 3) a3).heap[pb]? =some (.cells #[a0,a1,a2,a3] T (0,0))/\ButB (·=pb) w ((((w.setCell (aD pb 0) a0).setCell (aD pb 1) a1).setCell (aD pb 2) a2).setCell (aD pb 3) a3):=by
 have j:=zH (i:=0) (cs':=#[a0,f,d,a]) a0 h rfl;have m:=zH (i:=1) (cs':=#[a0,a1,d,a]) a1 j rfl;have o:=zH (i:=2) (cs':=#[a0,a1,a2,a]) a2 m rfl;have h3:=zH (i:=3) (cs':=#[a0,a1,a2,a3]) a3 o rfl;exact mb9
abbrev Stand (w:World) (b:Nat) (cs:Array Value) (T:TypeId):Prop:=∀W,((bW w W:Prop))->W.heap[b]? =some (.cells cs T (0,0))
theorem ZJ (h:w.heap[b]? =some (.cells cs T (0,0))):Stand w b cs T:=λ_ hb=>(hb.block _ (zI h)).trans h
theorem Stand.at (h:Stand w b cs T) (j:Nat) (hj:cs[j]? =some v):∀W,((bW w W:Prop))->(cL W b j v:Prop):=λW hb=>(zB (h W hb)).1 j _ hj
theorem Stand.a (h:Stand w b cs T) (j:Nat) (v:Value) (hj:cs[j]? =some v):∀W,((bW w W:Prop))->(cL W b j v:Prop):=h.at j hj
theorem Stand.on {w':World} (h:Stand w b cs T) (hb:(bW w w':Prop)):Stand w' b cs T:=λW a=>h W (zD hb a)
abbrev z6t:Array Value:=#[.int .i64 0,(),(),()]
abbrev z59:Array Value:=#[.int .i64 0,.int .i64 0,.string ⟨#[]⟩,(),(),(),()]
theorem maL (h:p:=by
 have B:=(Below.refl w w).alloc (znl _) (.cells S 34);refine⟨_,_,_,_,rfl,rfl,rfl,rfl,?_,?_,?_,?_,?_,sm⟩
 ·exact((B.alloc B.size _).alloc (by simp;omega) _).alloc (by simp;omega) _
 ·exact ZJ (zR _ (zR _ (zR _ (zJ _ rfl))))
 ·exact ZJ (zR _ (zR _ (zJ _ rfl)))
 ·exact ZJ (zR _ (zJ _ rfl))
 exact ZJ (zJ _ rfl)):p:=h
theorem z8h (w:World) (S C:Array Value):∃a w1 w2 w3,w.alloc (.cells S 34)=a/\a.alloc (.cells C 41)=w1/\w1.alloc (.cells z6t 34)=w2/\w2.alloc (.cells z59 49)=w3/\
  bW w w3/\Stand w3 w S 34/\Stand w3 a.heap.size C 41/\Stand w3 w1.heap.size z6t 34/\Stand w3 w2.heap.size z59 49/\w1.heap.size≠w2.heap.size:=by
 exact maL
def Ret3 (S:Nat->Prop) (r:Res) (w:World) (e:Ending) (w':World):Prop:=(∃cs a:List Value,e= .returned (.tuple #[.agg cs.toArray,.agg a.toArray,r.2.2])/\Z5 (New S w) w' cs r.1/\yJ (New S w) w' a r.2.1)/\bW w w'
theorem zJ2 {P:Program} {p q u:Tmp} {f i:TypeId} (h:fn.results=#[.cell p f,.cell q i,.tmp u]) (tmps:Array Value) (w:World) (g a:Nat) (t r:TypeId) (cs cs':Array Value) (m o:Nat×Nat) (d j:TypeDesc)
  (hp:tmps.getD p undef= .pointer (some ⟨g,0,none⟩)) (hg:w.heap[g]? =some (.cells cs t m)) (A:tmps.getD q undef= .pointer (some ⟨a,0,none⟩)) (y:w.heap[a]? =some (.cells cs' r o))
  (hu:P.underlying f=some d) (s:(match d with | .struct _ | .array _ _=>true|_=>false)=true) (hi:(P.info? f).map (·.size)=some cs.size)
  (B:P.underlying i=some j) (x:(match j with | .struct _ | .array _ _=>true|_=>false)=true) (z:(P.info? i).map (·.size)=some cs'.size):
  (results fn tmps).run P w= .ok (.tuple #[.agg cs,.agg cs',tmps.getD u undef]) w:=by
 simp only[results,h];simp[Sem.run_bind,Result.andThen,show tmps[p]?.getD undef= .pointer (some ⟨g,0,none⟩) by simpa using hp,show tmps[q]?.getD undef= .pointer (some ⟨a,0,none⟩) by simpa using A,asAddr,run_loadVar_row w g t f cs m d hg hu s hi,run_loadVar_row w a r i cs' o j y B x z]
theorem z15 {id f h x ae af ag aj aO:Nat} {aI aJ aK aL aN:String} {ak al am:Array Edge} {n:Int} {a:Act} {w w1:World} {Q:Exit->Act->World->Prop} {B:Nat} {I:Int} {q r s:Option Addr} {C D E F G H:Nat}
  (av:∀W,(kB 38 #[n] W (.agg (ZV n 0)):Prop))
  (P:(bW w1 w:Prop)) (aG:∀c (a:Act) t w,Q (.panic c) { a with tmps:=t } w->Q (.panic c) a w)
  (hx:a.tmps[x]?.getD undef= .pointer (some ⟨B,0,none⟩)) (h0:∀W,((bW w1 W:Prop))->(cL W B 0 I:Prop)) (h1:∀W,((bW w1 W:Prop))->(cL W B 1 (.slice q C F):Prop)) (h2:∀W,((bW w1 W:Prop))->(cL W B 2 (.slice r D G):Prop)) (h3:∀W,((bW w1 W:Prop))->(cL W B 3 (.slice s E H):Prop))
  {d:Array Oper} (j:d=#[{ dst:=some f,op:= .load 34 (.tmp x),type:=34,pos:=aI,after:=#[],guard:=none },{ dst:=some h,op:= .call { callee:= .value (.func 38),args:=#[.const (.int .i64 n)],argTypes:=#[aj] },type:=49,pos:=aJ,after:=#[],guard:=none },
    { dst:=none,op:= .store 34 (.tmp ae) (.tmp f),type:=0,pos:=aK,after:=ak,guard:=none },
    { dst:=none,op:= .store 49 (.tmp af) (.tmp h),type:=0,pos:=aL,after:=al,guard:=none },
    { dst:=some ag,op:= .assign (.const (.bool false)),type:=aO,pos:=aN,after:=am,guard:=none }])
  (an:(zA5 .any d 2 0&&z8q .any d #[false,false,false,false,false]&&[].all (λm=>#[false,false,false,false,false].getD m true)&&Region.noSelect d&&Region.free .any d #[false,false,false,false,false] 0&&(Region.ready .any d #[false,false,false,false,false]).contains 0)=true:=by kernel_rfl)
  (ao:Region.ready .any d #[true,false,false,false,false]=[1]:=by kernel_rfl)
  (ap:(decide (2<=2)&&decide (Region.ready .any d #[true,true,false,false,false]=[2]))=true:=by kernel_rfl)
  (g3:(decide (2<=3)&&decide (Region.ready .any d #[true,true,true,false,false]=[3]))=true:=by kernel_rfl)
  (aq:(decide (2<=4)&&decide (Region.ready .any d #[true,true,true,true,false]=[4]))=true:=by kernel_rfl)
  (ar:Region.ready .any d #[true,true,true,true,true]=[]:=by kernel_rfl)
  {y z:Nat} (U:y≠z) (ab:∀W,((bW w1 W:Prop))->W.heap[y]? =some (.cells #['0',(),(),()] 34 (0,0))) (ac:∀W,((bW w1 W:Prop))->W.heap[z]? =some (.cells oA 49 (0,0)))
  (aR:∀v o,((a.tmps.setIfInBounds f v).setIfInBounds h o)[f]?.getD undef=v) (e2:∀v o,((a.tmps.setIfInBounds f v).setIfInBounds h o)[h]?.getD undef=o)
  (aT:∀v o,((a.tmps.setIfInBounds f v).setIfInBounds h o)[ae]?.getD undef= .pointer (some ⟨y,0,none⟩)) (aU:∀v o,((a.tmps.setIfInBounds f v).setIfInBounds h o)[af]?.getD undef= .pointer (some ⟨z,0,none⟩))
  (aw:∀M,M.heap[y]? =some (.cells #[(.int .i64 I),(.slice q C F),(.slice r D G),(.slice s E H)] 34 (0,0))->M.heap[z]? =some (.cells (ZV n 0) 49 (0,0))->ButB (λah=>ah=y\/ah=z) w M->Q .normal { a with tmps:=((a.tmps.setIfInBounds f (.agg #[(.int .i64 I),(.slice q C F),(.slice r D G),(.slice s E H)])).setIfInBounds h (.agg (ZV n 0))).setIfInBounds ag false } M)
   :(Code.region id d true).wp prog Q a w:=by
 refine Z0 (S:=λY=>(bW w1 Y:Prop)) 2 [] kr P.drew (λaa=>?_);rw[show Array.replicate d.size false=#[false,false,false,false,false] by rw[j];rfl,show d.size=5 by rw[j];rfl];refine zEh (i:=0) (oi:=?_) (v:= .agg #[(.int .i64 I),(.slice q C F),(.slice r D G),(.slice s E H)]) ?_ an ?_ (Or.inl ⟨?_,?_⟩) aa ?_;rotate_left 1
 ·rw[j];simp only[getElem?_toArray,getElem?_cons_zero];exact rfl
 ·exact λc a w au=>aG c a _ w au
 ·rw[j];rfl
 ·(intro Y K;have aX:=h0 _ K;have aY:=h1 _ K;have aZ:=h2 _ K;have a0:=h3 _ K;go_simp;try with_reducible rfl)
 refine zQ (i:=1) ao (by rw[j];rfl) (λO ax=>?_);go_simp;refine zcb (av _) λ_ N=>?_;have V:=zD P.drew N;have ai:=zh (zD zbr.drew N);have L:=ab _ V;have A:=ac _ V;have u:=zh (z2o L I (.slice q C F) (.slice r D G) (.slice s E H));obtain⟨aH,Z⟩:=u.o;have ad:=(Z.block _ (zI A) (Ne.symm U)).trans A;have J:=zh (ZC ad n '0' "" () () () ());obtain⟨_,_⟩:=zC4 (zB L).1;have aP:=(zB L).2;obtain⟨_,_⟩:=zC7 (zB A).1;have aQ:=(zB A).2;have aV:=Ne.symm U;clear L A ad aH Z h0 h1 h2 h3 ab ac;refine ax.o _ _ (zD P.drew N) (λaa=>?_);refine zN (i:=2) ap (by rw[j];rfl) (λO ay=>?_);unfold ZV;go_simp;refine ay.o _ _ ?_;refine zN (i:=3) g3 (by rw[j];rfl) (λO az=>?_);go_simp;refine az.o _ _ ?_;refine zN (i:=4) aq (by rw[j];rfl) (λO aB=>?_);go_simp;refine aB.o _ _ ?_;refine Z7 ar ?_ _;have aW:=(qNtx (u.2.size) J.2.size);exact aw _ ((J.2.block _ (zI u.1) U).trans u.1) J.1 ((ButB.of ai).trans ((u.2.mono λx e=> .inl e).trans (J.2.mono λx e=> .inr e)))
theorem xER (h:p:=by
 refine @z15 _ _ _ _ _ _ _ _ _ _ _ _ _ _ _ _ _ _ _ _ w3 _ w.heap.size st.turn _ _ _ _ _ _ _ _ _ (ZZ _) bz (λ_ _ _ _ h=>h) rfl s0 s1 s2 s3 _ rfl kr kr kr kr kr kr _ _ HNE HN2 HN3 (λ_ _=>rfl) (λ_ _=>rfl) (λ_ _=>rfl) (λ_ _=>rfl) ?_
 intro j f i a
 have d:=zh (z3h HE HR (YV (zD HB3 bz) zbr a (Nat.le_of_lt (Nat.lt_trans HZ.1 HZ.2.1)) (Nat.le_of_lt (Nat.lt_trans HZ.1 (Nat.lt_trans HZ.2.1 HZ.2.2)))) ⟨om,om⟩)
 go_wp2_with ((try simp only[φ]);exact YN rfl rfl f rfl i rfl rfl rfl d)):p:=h
theorem YN {p q u:Tmp} (h:fn.results=#[.cell p 34,.cell q 49,.tmp u]) {tmps:Array Value} {d:Nat} {a:Array Value} {b:Bool}
  (hp:tmps.getD p undef= .pointer (some ⟨g,0,none⟩)) (hg:w.heap[g]? =some (.cells cs 34 (0,0))) (j:tmps.getD q undef= .pointer (some ⟨d,0,none⟩)) (i:w.heap[d]? =some (.cells a 49 (0,0)))
  (hs:cs.size=4) (ha:a.size=7) (hu:tmps.getD u undef= .bool b) {R:Ending->World->Prop} (f:R (.returned (.tuple #[.agg cs,.agg a,b])) w):bodyPost prog fn R .ret { tmps:=tmps,defers:=[] } w:=by
 refine bodyPost_ret (zJ2 h tmps w g d _ _ cs a (0,0) (0,0) _ _ hp hg j i underlying34 rfl (by rw[hs];kernel_rfl) underlying49 rfl (by rw[ha];kernel_rfl)) rfl ?_;rw[hu];exact f
theorem YV {i j:World} {h:Nat} (d:(bW w w3:Prop)) (f:(bW w3 i:Prop)) (m:ButB (λa=>a=g\/a=h) i j) (hg:w<=g) (q:w<=h):(bW w j:Prop):=
 ButB.below (zD d f) (zD d f).size (λa o=>by rcases o with e|e<;>omega) m
theorem zX9 {a:World} {cs:List Value} {n:Int} (h:Z5 S w cs st) (B:(bW w a:Prop)) (hn:I64 n):Ret3 S (st,ZD n,false) w (.returned (.tuple #[.agg cs.toArray,.agg (ZV n 0),false])) a:=
 ⟨⟨cs,(ZV n 0).toList,rfl,zM h (z4o B),ZW hn⟩,B⟩
theorem zKf {p:Tmp} (h:fn.results=#[.cell p 34]) {tmps:Array Value}
  (hp:tmps.getD p undef= .pointer (some ⟨g,0,none⟩)) (hg:w.heap[g]? =some (.cells cs 34 (0,0))) (hs:cs.size=4) {R:Ending->World->Prop} (a:R (.returned (.agg cs)) w):bodyPost prog fn R .ret { tmps:=tmps,defers:=[] } w:=
 bodyPost_ret (results_cell_row h tmps w g _ cs (0,0) _ hp hg underlying34 rfl (by rw[hs];kernel_rfl)) rfl a
theorem zKg {l:List Folder} {a b c d:Value} (h:Z5 S w [a,b,c,d] st) (hl:Sl 7 Z6 S w v l):Z5 S w [a,b,c,v] { st with folders:=l }:=by
 obtain⟨_,_,_,e,f,i,j,_⟩:=h;simp only[cons.injEq,and_true] at e;obtain⟨rfl,rfl,rfl,rfl⟩:=e;exact⟨_,_,v,rfl,f,i,j,hl⟩
theorem refwith_any (st:State) (k:Nat) (hk:k<st.folders) (hl:st.folders.length<=10000) (f:Folder) (cs aI:List Value) (w:World) (S:Nat->Prop) (h:Z5 S w cs st) (ae:Z6 S w aI f):
  Calls prog 107 #[.agg cs.toArray,k,.agg aI.toArray] w (zAu S (setF st k f) w):=by
 have aX:=zh h;have ax:=zh ae;obtain⟨ai,al,aj,am,ak,an,rfl,_,_,_,_,bJ,_,_,_,bF,bG,bH,bI,aV⟩:=ZF h;obtain⟨t,A,u,B,x,C,y,D,z,E,rfl,_,_,_,_,_,ba,_,_,_,a7,_,_,_,a8,_,_,_,bb,_,_,_,a9⟩:=Z9 ae;obtain⟨bv,bq,M,bl,bm⟩:=info_parts (show(prog.info? 74).map (λag=>(ag.zero,ag.size,ag.bytes))=some (some (.agg oF),7,144) from kr);obtain⟨P,bt,a4,bc,aq,aR⟩:=zP w (aS st ai al aj am ak an) 34;obtain⟨m,aN,a5,bd,ar,aT⟩:=zP P (aF f t A u B x C y D z E) 74;obtain⟨o,af,a6,be,au,aU⟩:=zP m z6t 34;have ab:=ZJ (by rw[<-af,<-aN,<-bt];exact zR _ (zR _ (zJ _ rfl)):o.heap[w.heap.size]? =some (.cells (aS st ai al aj am ak an) 34 (0,0)));have az:=ZJ (by rw[<-af,<-aN];exact zR _ (zJ _ rfl):o.heap[P.heap.size]? =some (.cells (aF f t A u B x C y D z E) 74 (0,0)));have aB:=ZJ (zbx af);have ap:=zD (zD aq ar) au;have i:=zh ap;have aa:=ζ (w<P.heap.size/\P<m.heap.size/\m<o.heap.size) ⟨aR,aT,aU⟩;have aZ:=zh (Sl.keep rFolder_ok dc (show Sl 7 Z6 S w (.slice ak st.folders an) st.folders from⟨_,_,rfl,bG,bH,bI,aV⟩) (YL i));have r:=ζ (_/\_/\_) ⟨ab,az,aB⟩;have bU:=Below.refl o o;have a2:=ab.at 3 rfl;clear ab az aB a4 bc aq aR a5 bd ar aT a6 be au aU bJ bF aV ba a7 a8 bb a9 h ae ap;go_enter func107,ntmps107
 go_upto_region 3 with (at_builtin;refine z1n o rfl (.tmp 8) (.tmp 10) 32 rfl bv _ 144 underlying32 bq M bl bm rfl dc dc dc rFolder_ok rfl _ st.folders rfl (λb F=>zll F.2 i.size) aZ hl ?_;intro b1 w3 aH O s q aQ)
 obtain⟨G,L⟩:∃G,aH[k]? =some G:=⟨_,qLgx (by rw[s.1];exact hk)⟩;obtain⟨ao,bu⟩:∃ao,st.folders[k]? =some ao:=⟨_,qLgx hk⟩;have bn:=s.2 k G ao L bu;obtain⟨_,_,_,_,_,_,_,_,_,_,rfl,_,_,bQ,_,_,bR,bK,_,_,bL,bM,_,_,bN,bS,_,_,bT,bO,_,_,bP⟩:=Z9 bn;obtain⟨g,N,aG,rfl,bo,bV,bX,a,bp⟩:=O.at L;have a0:=zh L;have aw:=zh s;have Y:=zh (aQ g rfl);have U:=zh q;have V:=ζ (_/\_/\_) ⟨r.1.on q,r.2.1.on q,r.2.2.on q⟩;have bY:(k:Int)<(st.folders:Int):=om
 have aK:aH=st.folders.length:=s.1;rw[aK] at O bo⊢;have aY:=zh O;have ac:=Below.refl w3 w3;have j:=V.1 w3 ac;have ay:=V.2.1 w3 ac;have a1:=V.2.2 w3 ac;have a3:=ψ j 3 _ rfl;obtain⟨bx,bz,bA,bB,bC,bD,bE⟩:=zC7 (zB ay).1;obtain⟨aJ,bf,bg,bh,bi,bj,bk⟩:=(show _/\_/\_/\_/\_/\_/\_ from⟨a 0 _ rfl,a 1 _ rfl,a 2 _ rfl,a 3 _ rfl,a 4 _ rfl,a 5 _ rfl,a 6 _ rfl⟩);rw[Nat.add_zero] at aJ;clear j ay a1 O s q aQ L aK a a2 bR bL bN bT bP bQ bK bM bS bO;go_upto_region 4 with fail
 generalize aO:World.setCell _ _ _=Q;have ah:=aY.put dc a0 (lF f t A u B x C y D z E) rfl (rFolder_ok.one ax);have ad:=zW7 w3 g (N+k*7) (lF f t A u B x C y D z E);have aP:w3.setCells g (N+k*7) (lF f t A u B x C y D z E)=Q:=aO;rw[aP] at ah ad;have I:=zh (ButB.below U U.size (λd M=>by have:=Y.o;omega) ad);have Z:=zh ah;have j:=r.1 Q I;have J:=zh (r.2.2 Q I);obtain⟨_,_⟩:=zC4 (zB j).1;have b0:=(zB j).2;obtain⟨_,_⟩:=zC4 (zB J).1;have bZ:=(zB J).2;have bs:¬m=w.heap.size:=by have:=aa.o;omega
 clear j aO aP ah ad bx bz bA bB bC bD bE aJ bf bg bh bi bj bk a3 bp;go_wp2;try simp only[φ]
 have K:=(ButB.refl (·=w) Q).set ⟨w,3,none⟩ (.slice (some ⟨g,N,none⟩) st.folders aG) rfl;have br:=(K.block _ (zI J) bs).trans J;obtain⟨aW,av⟩:=z2o br st.turn (.slice ai st.users al) (.slice aj st.deposits am) (.slice (some ⟨g,N,none⟩) st.folders aG);have H:=ButB.below (zD i I) (zD i I).size (λd (M:d=w\/d=m)=>by have:=aa.o;omega) ((K.mono λ_ e=> .inl e).trans (av.mono λ_ e=> .inr e));have aL:∀d,(d=w.heap.size\/d=m.heap.size)->¬g=d:=λd M=>by have:=Y.o;have:=aa.o;omega
 refine zKf rfl rfl aW rfl ⟨⟨_,rfl,zKg (zM aX (z4o H)) (z34 rFolder_ok (Z.keep λb F=>?_) (by rw[length_set,aw.o.1];exact hl) ((aw.imp λ_ _ e=>zV e (zKe (zD i U) H)).set k (zV ax (z4o H))) λb F=>?_)⟩,H⟩;rotate_left
 ·obtain rfl:g=b:=by simpa[Value.ownBlock] using F
  exact .inr (qNtx i.size Y)
 obtain rfl:g=b:=by simpa[Value.ownBlock] using F
 exact(av.block _ (oh2 (Z.lt g rfl) K.size) (aL _ (.inr rfl))).trans (K.block _ (Z.lt g rfl) (aL _ (.inl rfl)))
end
end Go.Proofs.YtdggplhnfhcieaaGreatDoor
