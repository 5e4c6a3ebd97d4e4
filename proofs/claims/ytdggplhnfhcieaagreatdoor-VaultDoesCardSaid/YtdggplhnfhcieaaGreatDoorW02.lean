/- No condition. -/
import Derived.Test.YtdggplhnfhcieaaGreatDoorW00
set_option linter.all false
set_option maxRecDepth 100000
set_option maxHeartbeats 16000000
namespace Go.Proofs.YtdggplhnfhcieaaGreatDoor.Bd
open Go.Proofs.Tryz Cd Ce List
open Go.RowKit Go.Deep
theorem zIo (st:State) (h1:smallOf st<=1000000) (h2:largeOf st<=1000000) (j:List Value) (w:World) (S:Nat->Prop) (h:Z5 S w j st):
  (kB 151 #[.agg j.toArray] w (.tuple #[.int .i64 ((smallOf st:Nat):Int),.int .i64 ((largeOf st:Nat):Int)]):Prop):=by
 have n:=h;obtain⟨_,_,_,_,_,_,rfl,_,_,_,_,_,_,_,_,_,_,_,_,_⟩:=ZF h;have s:=zh (zX4 st.folders (by unfold smallOf at h1;omega));have t:=zh (zX5 st.folders h2);have y:min st.folders.length 1+2*st.users.length+st.deposits.length+st.folders.length+sumOf small1 st.folders<=1000000:=h1;have m:smallOf st=min st.folders.length 1+2*st.users.length+st.deposits.length+st.folders.length+sumOf small1 st.folders:=rfl;have r:=zh m;clear m;by_cases z:st.folders.length<=1
 all_goals
  go_enter func151,ntmps151
  go_wp2_with fail
  refine zcb (zNa _ dc small1 st s.out om _ _ S (zM n (zK gg))) λb d=>?_;obtain⟨_,_⟩:=z1q d;have q:(bW w b:Prop):=zD gg d;have M:=q.size;have u:=d.size;try simp at u
  try have A:w.heap.size<b.heap.size:=om
  try have B:w.heap.size+1<b.heap.size:=om
  try have C:w.heap.size+1+1<b.heap.size:=om
  try have D:w.heap.size+1+1+1<b.heap.size:=om
  try have E:w.heap.size+1+1+1+1<b.heap.size:=om
  try have F:w.heap.size+1+1+1+1+1<b.heap.size:=om
  go_wp2_with fail
  refine zcb (zNa _ dc large1 st t.out h2 _ _ S (zM n (zK gg))) λc f=>?_;obtain⟨_,_⟩:=z1q f;have g:(bW w c:Prop):=zD gg f;have N:=g.size;have v:=f.size;try simp at v
  try have G:w.heap.size<c.heap.size:=om
  try have H:w.heap.size+1<c.heap.size:=om
  try have I:w.heap.size+1+1<c.heap.size:=om
  try have J:w.heap.size+1+1+1<c.heap.size:=om
  try have K:w.heap.size+1+1+1+1<c.heap.size:=om
  try have L:w.heap.size+1+1+1+1+1<c.heap.size:=om
  go_wp2;go_ret2
  refine⟨?_,g⟩;rw[r.out];simp[largeOf];omega
theorem zHg (n:Int) (w:World) (h:0<=n/\n<=1024):Calls prog 212 #[n] w λe w'=>e= .returned true/\w=w':=by
 go_enter func212,ntmps212
 go_wp2;go_ret;exact⟨by simp<;>omega,rfl⟩
theorem zTw (n:Int) (w:World) (h:0<=n/\n<=1024):Calls prog 186 #[n] w λe w'=>e= .returned (.int .i64 ((n+59) / 60))/\w=w':=by
 go_enter func186,ntmps186
 go_wp2_with fail
 refine(zHg n _ h).mono ?_;rintro e w' ⟨rfl,rfl⟩;go_wp2;go_ret;exact⟨by simp<;>omega,rfl⟩
theorem zIp (n:Int) (w:World) (h:0<=n/\n<=1024):Calls prog 152 #[n] w λe w'=>e= .returned (.int .i64 (1+(n+59) / 60))/\w=w':=by
 go_enter func152,ntmps152
 go_wp2_with fail
 refine(zTw n _ h).mono ?_;rintro e w' ⟨rfl,rfl⟩;go_wp2;go_ret;exact⟨sm,rfl⟩
theorem zDe (st:State) (h1:smallOf st<=1000000) (h2:largeOf st<=1000000) (d:List Value) (w:World) (S:Nat->Prop) (h:Z5 S w d st):
  (kB 101 #[.agg d.toArray] w (.int .i64 ((120*smallOf st+1020*largeOf st:Nat):Int)):Prop):=by
 have f:=h;obtain⟨_,_,_,_,_,_,rfl,_⟩:=ZF h;go_enter func101,ntmps101
 go_wp2_with fail
 refine zcb (zIo st h1 h2 _ _ S (zM f (zK gg))) λa b=>?_;obtain⟨_,_⟩:=z1q b;have c:(bW w a:Prop):=zD gg b;have s:=c.size;have g:=b.size;try simp at g
 try have j:w<a.heap.size:=om
 try have m:w+1<a.heap.size:=om
 try have n:w.heap.size+1+1<a.heap.size:=om
 try have o:w.heap.size+1+1+1<a.heap.size:=om
 try have q:w.heap.size+1+1+1+1<a.heap.size:=om
 try have r:w.heap.size+1+1+1+1+1<a.heap.size:=om
 go_wp2;go_ret;exact⟨sm,c⟩
theorem zIq (st:State) (h1:smallOf st<=1000000) (h2:largeOf st<=1000000) (d:List Value) (w:World) (S:Nat->Prop) (h:Z5 S w d st):
  (kB 102 #[.agg d.toArray] w (.int .i64 ((3*smallOf st+18*largeOf st:Nat):Int)):Prop):=by
 have f:=h;obtain⟨_,_,_,_,_,_,rfl,_⟩:=ZF h;go_enter func102,ntmps102
 go_wp2_with fail
 refine zcb (zIo st h1 h2 _ _ S (zM f (zK gg))) λa b=>?_;obtain⟨_,_⟩:=z1q b;have c:(bW w a:Prop):=zD gg b;have t:=c.size;have j:=b.size;try simp at j
 try have m:w<a.heap.size:=om
 try have n:w+1<a.heap.size:=om
 try have o:w.heap.size+1+1<a.heap.size:=om
 try have q:w.heap.size+1+1+1<a.heap.size:=om
 try have r:w.heap.size+1+1+1+1<a.heap.size:=om
 try have s:w.heap.size+1+1+1+1+1<a.heap.size:=om
 go_wp2_with fail
 refine(zIp 120 _ om).mono ?_;rintro e g ⟨rfl,rfl⟩;go_wp2_with fail
 refine(zIp 1020 _ om).mono ?_;rintro e g ⟨rfl,rfl⟩;go_wp2;go_ret;exact⟨sm,c⟩
end Go.Proofs.YtdggplhnfhcieaaGreatDoor.Bd
namespace Go.Proofs.YtdggplhnfhcieaaGreatDoor
open Go.Proofs.Tryz Cd Ce List
variable {k:Int} {p:Prop}
section
open Go.RowKit Go.Deep
def Mk (k:Int):Prop:=∀(d a name b:ByteArray) (role f:Int) (g:Option Addr) (n c:Nat) (hu:d.size<=()) (h:a.size<=()) (j:name.size<=()) (m:b.size<=()) (w:World),Calls prog 42 #[.agg #[.int .i64 k,.string d,.string a,.string name,.string b,.int .i64 role,.int .i64 f,.slice g n c]] w (z1i (yK Z1 k d a name b role f n) w)
theorem Mka (h:p:=by
 intro r j n o q s t m v L I J K w
 obtain⟨f,a⟩:=Ξ (yK Z1 k r j n o q s m);rw[a];unfold yK at a;simp only[<-eqC,<-z2m] at a;have d:=zh a;clear a;obtain⟨_,_,g,y,b,_⟩:=zP w #[.int .i64 k,r,j,n,o,q,s,.slice t m v] 41;obtain⟨A,B,C,D,E,F,G,H⟩:=TC8 g;have c:=zh b;clear g y b;subst hk;go_enter func42,ntmps42
 go_wp2_with (go_at_call 69;refine zcm (yW _ (by assumption) _) ?_;rintro _ _ ⟨rfl,rfl⟩)
 all_goals
  go_ret;refine⟨congrArg (λu=>Ending.returned (.bool u)) ?_,c⟩;have z:=d.o;clear d c A B C D E F G H;subst z;simp_all):p:=h
theorem zTn (hk:k=1):Mk k:=by exact Mka
theorem zTo (hk:k=2):Mk k:=by exact Mka
theorem zTp (hk:k=3):Mk k:=by exact Mka
theorem zTq (hk:k=4):Mk k:=by exact Mka
theorem mZ2 (h:p:=by
 obtain⟨s0,s1,s2,s3,s4,s5,s6,s7⟩:=TC8 cw0;have HB:=zh Bw0;clear cw0 fw0 Bw0;go_enter func42,ntmps42
 go_wp2_with (go_at_call 69;refine zcm (yW _ (by assumption) _) ?_;rintro _ _ ⟨rfl,rfl⟩)
 all_goals
  go_ret;refine⟨congrArg (λb=>Ending.returned (.bool b)) ?_,HB⟩;have hm:=HM.o;clear HM HB s0 s1 s2 s3 s4 s5 s6 s7;subst hm;simp_all
  all_goals (intros;omega)):p:=h
theorem zTr (g a name f:ByteArray) (role h:Int) (j:Option Addr) (n c:Nat) (hu:g.size<=()) (o:a.size<=()) (q:name.size<=()) (r:f.size<=()) (w:World):
  Calls prog 42 #[.agg #[.int .i64 5,.string g,.string a,.string name,.string f,.int .i64 role,.int .i64 h,.slice j n c]] w (z1i (yK Z1 5 g a name f role h n) w):=by
 obtain⟨m,d⟩:=Ξ (yK Z1 5 g a name f role h n);rw[d];unfold yK at d;simp only[<-eqC,<-z2m] at d;have HM:=zh d;clear d;obtain⟨_,_,cw0,fw0,Bw0,_⟩:=zP w #[.int .i64 5,g,a,name,f,role,h,.slice j n c] 41;exact mZ2
theorem zTs (g a name f:ByteArray) (role h:Int) (j:Option Addr) (n c:Nat) (hu:g.size<=()) (o:a.size<=()) (q:name.size<=()) (r:f.size<=()) (w:World):
  Calls prog 42 #[.agg #[.int .i64 6,.string g,.string a,.string name,.string f,.int .i64 role,.int .i64 h,.slice j n c]] w (z1i (yK Z1 6 g a name f role h n) w):=by
 obtain⟨m,d⟩:=Ξ (yK Z1 6 g a name f role h n);rw[d];unfold yK at d;simp only[<-eqC,<-z2m] at d;have HM:=zh d;clear d;obtain⟨_,_,cw0,fw0,Bw0,_⟩:=zP w #[.int .i64 6,g,a,name,f,role,h,.slice j n c] 41;exact mZ2
theorem zTt (hk:k=7):Mk k:=by exact Mka
theorem zTu (hk:k=8):Mk k:=by exact Mka
theorem zTv (g a name f:ByteArray) (role h:Int) (j:Option Addr) (n c:Nat) (hu:g.size<=()) (o:a.size<=()) (q:name.size<=()) (r:f.size<=()) (w:World):
  Calls prog 42 #[.agg #[.int .i64 9,.string g,.string a,.string name,.string f,.int .i64 role,.int .i64 h,.slice j n c]] w (z1i (yK Z1 9 g a name f role h n) w):=by
 obtain⟨m,d⟩:=Ξ (yK Z1 9 g a name f role h n);rw[d];unfold yK at d;simp only[<-eqC,<-z2m] at d;have HM:=zh d;clear d;obtain⟨_,_,cw0,fw0,Bw0,_⟩:=zP w #[.int .i64 9,g,a,name,f,role,h,.slice j n c] 41;exact mZ2
theorem zRg (hk:k=10):Mk k:=by exact Mka
theorem zRh (hk:k=11):Mk k:=by exact Mka
theorem zRi (hk:k=12):Mk k:=by exact Mka
theorem zRj (hk:k=13):Mk k:=by exact Mka
theorem zRk (hk:k=14):Mk k:=by exact Mka
theorem zRl (hk:k=15):Mk k:=by exact Mka
theorem zRm (hk:k=16):Mk k:=by exact Mka
theorem mbi (h:p:=by
 clear cw0 fw0 Bw0 hk hu hf hnm ho;go_enter func42,ntmps42
 go_wp2_with (go_at_call 69;refine zcm (yW _ HU _) ?_;rintro _ _ ⟨rfl,rfl⟩)
 all_goals
  go_ret;exact⟨rfl,HB⟩):p:=h
theorem zRn (a:Int) (hk:a<1) (f b name d:ByteArray) (role h:Int) (g:Option Addr) (n c:Nat) (hu:f.size<=()) (hf:b.size<=()) (hnm:name.size<=()) (ho:d.size<=()) (w:World):
  Calls prog 42 #[.agg #[.int .i64 a,.string f,.string b,.string name,.string d,.int .i64 role,.int .i64 h,.slice g n c]] w (z1i false w):=by
 obtain⟨_,_,cw0,fw0,Bw0,_⟩:=zP w #[a,f,b,name,d,role,h,.slice g n c] 41;obtain⟨m,o⟩:=TC2 cw0;have HB:=zh Bw0;have HU:=zh hu;have j:decide (a<1)=true:=Δ hk;exact mbi
theorem zRo (a:Int) (hk:16<a) (f b name d:ByteArray) (role h:Int) (g:Option Addr) (n c:Nat) (hu:f.size<=()) (hf:b.size<=()) (hnm:name.size<=()) (ho:d.size<=()) (w:World):
  Calls prog 42 #[.agg #[.int .i64 a,.string f,.string b,.string name,.string d,.int .i64 role,.int .i64 h,.slice g n c]] w (z1i false w):=by
 obtain⟨_,_,cw0,fw0,Bw0,_⟩:=zP w #[a,f,b,name,d,role,h,.slice g n c] 41;obtain⟨o,q⟩:=TC2 cw0;have HB:=zh Bw0;have HU:=zh hu;have j:decide (a<1)=false:=η;have m:decide (16<a)=true:=Δ hk;exact mbi
theorem zP2 (a:Int) (f b name d:ByteArray) (role g:Int) (h:Option Addr) (n c:Nat) (hu:f.size<=()) (j:b.size<=()) (m:name.size<=()) (o:d.size<=()) (w:World):
  Calls prog 42 #[.agg #[.int .i64 a,.string f,.string b,.string name,.string d,.int .i64 role,.int .i64 g,.slice h n c]] w (z1i (z58 Z1 a f b name d role g n) w):=by
 rw[zR1 Z1 (by rfl) a f b name d role g n om];by_cases q:a<1
 ·rw[show yK Z1 a f b name d role g n=false by unfold yK;simp[show ¬1<=a by omega]];exact zRn a q f b name d role g h n c hu j m o w
 by_cases r:16<a
 ·rw[show yK Z1 a f b name d role g n=false by unfold yK;simp[show ¬a<=16 by omega]];exact zRo a r f b name d role g h n c hu j m o w
 have s:a=1\/a=2\/a=3\/a=4\/a=5\/a=6\/a=7\/a=8\/a=9\/a=10\/a=11\/a=12\/a=13\/a=14\/a=15\/a=16:=om
 rcases s with rfl|rfl|rfl|rfl|rfl|rfl|rfl|rfl|rfl|rfl|rfl|rfl|rfl|rfl|rfl|rfl
 ·exact zTn rfl f b name d role g h n c hu j m o w
 ·exact zTo rfl f b name d role g h n c hu j m o w
 ·exact zTp rfl f b name d role g h n c hu j m o w
 ·exact zTq rfl f b name d role g h n c hu j m o w
 ·exact zTr f b name d role g h n c hu j m o w
 ·exact zTs f b name d role g h n c hu j m o w
 ·exact zTt rfl f b name d role g h n c hu j m o w
 ·exact zTu rfl f b name d role g h n c hu j m o w
 ·exact zTv f b name d role g h n c hu j m o w
 ·exact zRg rfl f b name d role g h n c hu j m o w
 ·exact zRh rfl f b name d role g h n c hu j m o w
 ·exact zRi rfl f b name d role g h n c hu j m o w
 ·exact zRj rfl f b name d role g h n c hu j m o w
 ·exact zRk rfl f b name d role g h n c hu j m o w
 ·exact zRl rfl f b name d role g h n c hu j m o w
 exact zRm rfl f b name d role g h n c hu j m o w
end
end Go.Proofs.YtdggplhnfhcieaaGreatDoor
namespace Go.Proofs.YtdggplhnfhcieaaGreatDoor.Bd
open Go.Proofs.Tryz Cd Ce List
open Go.RowKit Go.Deep
def fitsOf (st:State) (q r:Int):Int:=if q<((120*smallOf st+1020*largeOf st:Nat):Int) then 33 else if r<((3*smallOf st+18*largeOf st:Nat):Int) then 32 else 0
theorem mam {p:Prop} (h:p:=by
 go_enter func56,ntmps56
 go_wp2_with fail
 refine zcb (zDe st H1 H2 _ _ S (zM hR (zK gg))) λw1 hb1=>?_;obtain⟨hc1,hf1⟩:=z1q hb1;have B1:(bW w w1:Prop):=zD gg hb1;have z1:=B1.size;have y1:=hb1.size;try simp at y1
 try have q1w0:w<w1.heap.size:=om
 try have q1w1:w+1<w1.heap.size:=om
 try have q1w2:w.heap.size+1+1<w1.heap.size:=om
 try have q1w3:w.heap.size+1+1+1<w1.heap.size:=om
 try have q1w4:w.heap.size+1+1+1+1<w1.heap.size:=om
 try have q1w5:w.heap.size+1+1+1+1+1<w1.heap.size:=om
 go_wp2_with fail
 refine zcb (zIq st H1 H2 _ _ S (zM hR (zK gg))) λw2 hb2=>?_;obtain⟨hc2,hf2⟩:=z1q hb2;have B2:(bW w w2:Prop):=zD gg hb2;have z2:=B2.size;have y2:=hb2.size;try simp at y2
 try have q2w0:w<w2.heap.size:=om
 try have q2w1:w+1<w2.heap.size:=om
 try have q2w2:w.heap.size+1+1<w2.heap.size:=om
 try have q2w3:w.heap.size+1+1+1<w2.heap.size:=om
 try have q2w4:w.heap.size+1+1+1+1<w2.heap.size:=om
 try have q2w5:w.heap.size+1+1+1+1+1<w2.heap.size:=om
 go_wp2;go_ret;exact⟨by rw[F.o];rfl,B2⟩):p:=h
theorem fits_any (st:State) (q r:Int) (h1:smallOf st<=1000000) (h2:largeOf st<=1000000) (c:List Value) (w:World) (S:Nat->Prop) (h:Z5 S w c st):
  (kB 56 #[.agg c.toArray,q,r] w (fitsOf st q r):Prop):=by
 have hR:=h;obtain⟨_,_,_,_,_,_,rfl,_⟩:=ZF h;have H1:=zh h1;have H2:=zh h2;clear h1 h2;by_cases a:q<((120*smallOf st+1020*largeOf st:Nat):Int)
 ·have F:=zh (by simp only[fitsOf,if_pos a]:fitsOf st q r=33);go_enter func56,ntmps56
  go_wp2_with fail
  refine zcb (zDe st H1 H2 _ _ S (zM hR (zK gg))) λw1 hb1=>?_;obtain⟨hc1,hf1⟩:=z1q hb1;have B1:(bW w w1:Prop):=zD gg hb1;have z1:=B1.size;have y1:=hb1.size;try simp at y1
  try have q1w0:w<w1.heap.size:=om
  try have q1w1:w+1<w1.heap.size:=om
  try have q1w2:w.heap.size+1+1<w1.heap.size:=om
  try have q1w3:w.heap.size+1+1+1<w1.heap.size:=om
  try have q1w4:w.heap.size+1+1+1+1<w1.heap.size:=om
  try have q1w5:w.heap.size+1+1+1+1+1<w1.heap.size:=om
  go_wp2;go_ret;exact⟨by rw[F.o];rfl,B1⟩
 by_cases b:r<((3*smallOf st+18*largeOf st:Nat):Int)
 ·have F:=zh (by simp only[fitsOf,if_neg a,if_pos b]:fitsOf st q r=32);exact mam
 have F:=zh (by simp only[fitsOf,if_neg a,if_neg b]:fitsOf st q r=0);exact mam
end Go.Proofs.YtdggplhnfhcieaaGreatDoor.Bd
namespace Go.Proofs.YtdggplhnfhcieaaGreatDoor
open Go.Proofs.Tryz Cd Ce List
variable {i:Nat} {l:List (List Value)} {w:World} {x:List Value}
section
open Go.RowKit Go.Deep
theorem z6c {sz:Nat}:∀{l:List (List Value)} {i:Nat} {x:List Value} {j:Nat},(∀y∈l,y=sz)->l[i]? =some x->j<sz->l.flatten[i*sz+j]? =x[j]?
 | [],i,x,j,_,hi,_=>by simp at hi
 | y::l,0,x,j,h,hi,hj=>by
  obtain rfl:y=x:=by simpa using hi
  rw[flatten_cons,qLlx (oh (h y (mem_cons_self ..)))];congr 1
  omega
 | y::l,i+1,x,j,h,hi,hj=>by
  have a:=h y (mem_cons_self ..);have e:(i+1)*sz+j-y.length=i*sz+j:=by rw[a,Nat.add_mul];omega
  rw[flatten_cons,qLrx (by rw[a,Nat.add_mul];omega),e];exact z6c (λc b=>h c (zmc _ b)) (by simpa using hi) hj
theorem zJr {sz:Nat} (f:0<sz) (h:∀y∈l,y=sz) {q:Nat} {u:Value} (d:l.flatten[q]? =some u):∃i j x,q=i*sz+j/\j<sz/\l[i]? =some x/\x[j]? =some u:=by
 have g:q<l.length*sz:=by
  have:=(zge d).1;rwa [z69 h] at this
 have a:=Nat.mod_lt q f;have b:=Nat.div_add_mod q sz;have c:q / sz<l:=(Nat.div_lt_iff_lt_mul f).2 g;refine⟨q / sz,q % sz,l[q / sz],by rw[Nat.mul_comm] at b;omega,a,qLgx c,?_⟩;rw[<-z6c (sz:=sz) h (qLgx c) a];rw[show q / sz*sz+q % sz=q by rw[Nat.mul_comm] at b;omega];exact d
section
variable {e:TypeId} {sz:Nat}
theorem RowC.at {v:Value} (h:RowC e sz w v l) (hi:l[i]? =some x):∃g off a,v= .slice (some ⟨g,off,none⟩) l a/\l.length<=a/\a<=maxLen/\g<w.heap.size/\(∀j u,x[j]? =some u->(cL w g (off+i*sz+j) u:Prop))/\∀s,w.frozen? (aD g s)=false:=by
 obtain⟨c,h⟩:=h;rcases h with ⟨_,rfl⟩|⟨g,off,a,f,q,b,m,n,y,o⟩
 ·simp at hi
 refine⟨g,off,a,q,m,n,zI b,λj u d=>?_,(zB b).2⟩;have A:=(c x (zmg hi)).1;have z:=(zge d).1;rw[cell_of_row w g _ f _ (0,0) b,Nat.add_assoc];exact o _ u (by rw[z6c (λt r=>(c t r).1) hi om];exact d)
theorem RowC.here {g off n a:Nat} (h:RowC e sz w (.slice (some ⟨g,off,none⟩) n a) l) (hi:l[i]? =some x):n=l/\n<=a/\a<=9223372036854775807/\(∀j u,x[j]? =some u->(cL w g (off+i*sz+j) u:Prop))/\∀o,w.frozen? (aD g o)=false:=by
 obtain⟨_,_,_,c,d,b,_,f,m⟩:=h.at hi;simp only[Value.slice.injEq,Option.some.injEq,Addr.mk.injEq,and_true] at c;obtain⟨⟨rfl,rfl⟩,rfl,rfl⟩:=c;unfold maxLen at b;exact⟨rfl,d,b,f,m⟩
theorem RowC.write {g off len m:Nat} (h:RowC e sz w (.slice (some ⟨g,off,none⟩) len m) l) (J:0<sz) {j:Nat} (hi:l[i]? =some x) (hj:j<sz) (u:Value) (hu:u.oneCell'=true):RowC e sz (w.setCell (aD g (off+i*sz+j)) u) (.slice (some ⟨g,off,none⟩) len m) (l.set i (x.set j u)):=by
 obtain⟨n,h⟩:=h;have s:=n x (zmg hi);have H:=(zge hi).1;have v:∀a∈l.set i (x.set j u),a=sz/\∀d∈a,d.oneCell'=true:=by
  intro a b;rcases mem_or_eq_of_mem_set b with b|rfl
  ·exact n a b
  ·refine⟨by rw[length_set];exact s.1,λd c=>?_⟩;rcases mem_or_eq_of_mem_set c with c|rfl
   ·exact s.2 d c
   ·exact hu
 refine⟨v,.inr ?_⟩;rcases h with ⟨h,_⟩|⟨L,P,K,B,A,G,y,C,D,z⟩
 ·cases h
 simp only[Value.slice.injEq,Option.some.injEq,Addr.mk.injEq,and_true] at A;obtain⟨⟨rfl,rfl⟩,rfl,rfl⟩:=A;refine⟨g,off,m,B.setIfInBounds (off+i*sz+j) u,by rw[length_set],zH _ G rfl,by rw[length_set];exact y,C,by rw[Array.size_setIfInBounds];exact D,λQ d I=>?_⟩;obtain⟨f,t,a,rfl,r,o,c⟩:=zJr J (λa b=>(v a b).1) I;rw[Array.getElem?_setIfInBounds];have O:i*sz+sz<=l.length*sz:=by
  have:=Nat.mul_le_mul_right sz (by omega:i+1<=l);rw[Nat.add_mul] at this;omega
 have N:l.length*sz<=m*sz:=Nat.mul_le_mul_right _ y;by_cases q:f=i
 ·subst q;rw[getElem?_set_self H] at o;obtain rfl:=zsi o;by_cases F:t=j
  ·subst F;rw[if_pos om,if_pos om];rw[getElem?_set_self (by rw[s.1];exact r)] at c;exact c
  rw[if_neg om];rw[getElem?_set_ne om] at c;exact z _ d (by rw[z6c (λa b=>(n a b).1) hi r];exact c)
 rw[getElem?_set_ne (Ne.symm q)] at o;have:off+i*sz+j≠off+(f*sz+t):=by
  intro M;rcases Nat.lt_or_gt_of_ne q with E|E
  ·have:=Nat.mul_le_mul_right sz (by omega:f+1<=i);rw[Nat.add_mul] at this;omega
  ·have:=Nat.mul_le_mul_right sz (by omega:i+1<=f);rw[Nat.add_mul] at this;omega
 rw[if_neg this];exact z _ d (by rw[z6c (λa b=>(n a b).1) o r];exact c)
end
end
end Go.Proofs.YtdggplhnfhcieaaGreatDoor
