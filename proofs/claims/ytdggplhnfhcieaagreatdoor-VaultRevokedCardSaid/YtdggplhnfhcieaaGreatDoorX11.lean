/- No condition. -/
import Derived.Shelf.SlSortCmp.SmallK
import Derived.Shelf.Small.Bits
import Derived.Test.YtdggplhnfhcieaaGreatDoorX09
set_option linter.all false
set_option maxRecDepth 100000
section
namespace Go.Proofs.YtdggplhnfhcieaaGreatDoor.Ro
open Go.RowKit Go.Deep
def own4:List Member->Nat
 | []=>0
 | m :: r=>(if m.role==4 then 1 else 0)+own4 r
def shareE (mine its n:Int) (len:Nat):Int:=if mine < 3 then 40 else if 0 < its then 42 else if 2 < n/\mine < 4 then 40 else if len=8 then 3 else 0
def changeE (mine its n:Int) (own:Nat):Int:=if mine < 3 then 40 else if its=0 then 35 else if mine < 4/\(2 < n\/2 < its) then 40 else if its=4/\n < 4/\own=1 then 46 else 0
def revokeE (same:Bool) (mine its:Int) (own:Nat):Int:=if same=false/\mine < 3 then 40 else if its=0 then 35 else if same=false/\2 < its/\mine < 4 then 40 else if its=4/\own=1 then 46 else 0
end Go.Proofs.YtdggplhnfhcieaaGreatDoor.Ro
end
section
namespace Go.Proofs.YtdggplhnfhcieaaGreatDoor.Ro
open Go.RowKit Go.Deep Go.Shelf
def zFg:Go.Shelf.Ren:=⟨fun | 6=>172 | 15=>181 | 14=>195 | 28=>210 | 29=>211 | 20=>214 | 21=>215 | 22=>216 | 23=>217 | 24=>218 | 25=>219 | 26=>220 | 27=>221 | 46=>237 | 47=>232 | 48=>233 | 49=>238 | 50=>239 | 57=>245 | n=>n,fun | 22=>46 | 24=>87 | 25=>220 | 3=>3 | 39=>225 | 0=>0 | 53=>62 | 55=>256 | 4=>4 | 46=>248 | 45=>247 | 50=>208 | 5=>5 | 9=>9 | 66=>271 | 70=>275 | 76=>288 | 77=>203 | n=>n,fun | n=>n⟩
theorem zM1:Go.Proofs.SlLaysF0.n6 Tryz.prog zFg:={
 mixed:=by kernel_rfl,
 f6:=⟨Tryz.f172.name,by decide,Tryz.func172.trans (congrArg some (by kernel_rfl))⟩,
 f14:=⟨Tryz.f195.name,by decide,Tryz.func195.trans (congrArg some (by kernel_rfl))⟩,
 f15:=Tryz.func181.trans (congrArg some (by kernel_rfl)),
 f20:=⟨Tryz.f214.name,by decide,Tryz.func214.trans (congrArg some (by kernel_rfl))⟩,
 f21:=⟨Tryz.f215.name,by decide,Tryz.func215.trans (congrArg some (by kernel_rfl))⟩,
 f22:=⟨Tryz.f216.name,by decide,Tryz.func216.trans (congrArg some (by kernel_rfl))⟩,
 f23:=⟨Tryz.f217.name,by decide,Tryz.func217.trans (congrArg some (by kernel_rfl))⟩,
 f24:=⟨Tryz.f218.name,by decide,Tryz.func218.trans (congrArg some (by kernel_rfl))⟩,
 f25:=⟨Tryz.f219.name,by decide,Tryz.func219.trans (congrArg some (by kernel_rfl))⟩,
 f26:=⟨Tryz.f220.name,by decide,Tryz.func220.trans (congrArg some (by kernel_rfl))⟩,
 f27:=⟨Tryz.f221.name,by decide,Tryz.func221.trans (congrArg some (by kernel_rfl))⟩,
 f28:=Tryz.func210.trans (congrArg some (by kernel_rfl)),
 f29:=Tryz.func211.trans (congrArg some (by kernel_rfl)),
 f46:=⟨Tryz.f237.name,by decide,Tryz.func237.trans (congrArg some (by kernel_rfl))⟩,
 f47:=Tryz.func232.trans (congrArg some (by kernel_rfl)),
 f48:=Tryz.func233.trans (congrArg some (by kernel_rfl)),
 f49:=⟨Tryz.f238.name,by decide,Tryz.func238.trans (congrArg some (by kernel_rfl))⟩,
 f50:=⟨Tryz.f239.name,by decide,Tryz.func239.trans (congrArg some (by kernel_rfl))⟩,
 f57:=⟨Tryz.f245.name,by decide,Tryz.func245.trans (congrArg some (by kernel_rfl))⟩,
 t0:=Tryz.underlying0,
 a0:=Tryz.isAgg0,
 z0:=Tryz.sizeOf0,
 v0:=Tryz.zeroValue0,
 t3:=Tryz.underlying3,
 a3:=Tryz.isAgg3,
 z3:=Tryz.sizeOf3,
 v3:=Tryz.zeroValue3,
 t4:=Tryz.underlying4,
 a4:=Tryz.isAgg4,
 z4:=Tryz.sizeOf4,
 v4:=Tryz.zeroValue4,
 t5:=Tryz.underlying5,
 a5:=Tryz.isAgg5,
 z5:=Tryz.sizeOf5,
 v5:=Tryz.zeroValue5,
 t9:=Tryz.underlying9,
 a9:=Tryz.isAgg9,
 z9:=Tryz.sizeOf9,
 v9:=Tryz.zeroValue9,
 t22:=Tryz.underlying46,
 a22:=Tryz.isAgg46,
 z22:=Tryz.sizeOf46,
 v22:=Tryz.zeroValue46,
 t25:=Tryz.underlying220,
 a25:=Tryz.isAgg220,
 z25:=Tryz.sizeOf220,
 v25:=Tryz.zeroValue220,
 t39:=Tryz.underlying225,
 a39:=Tryz.isAgg225,
 z39:=Tryz.sizeOf225,
 v39:=Tryz.zeroValue225,
 t45:=Tryz.underlying247,
 a45:=Tryz.isAgg247,
 z45:=Tryz.sizeOf247,
 v45:=Tryz.zeroValue247,
 t46:=Tryz.underlying248,
 a46:=Tryz.isAgg248,
 z46:=Tryz.sizeOf248,
 v46:=Tryz.zeroValue248,
 t50:=Tryz.underlying208,
 a50:=Tryz.isAgg208,
 z50:=Tryz.sizeOf208,
 v50:=Tryz.zeroValue208,
 t53:=Tryz.underlying62,
 a53:=Tryz.isAgg62,
 z53:=Tryz.sizeOf62,
 v53:=Tryz.zeroValue62,
 t55:=Tryz.underlying256,
 a55:=Tryz.isAgg256,
 z55:=Tryz.sizeOf256,
 v55:=Tryz.zeroValue256,
 t66:=Tryz.underlying271,
 a66:=Tryz.isAgg271,
 z66:=Tryz.sizeOf271,
 v66:=Tryz.zeroValue271,
 t70:=Tryz.underlying275,
 a70:=Tryz.isAgg275,
 z70:=Tryz.sizeOf275,
 v70:=Tryz.zeroValue275,
 t76:=Tryz.underlying288,
 a76:=Tryz.isAgg288,
 z76:=Tryz.sizeOf288,
 v76:=Tryz.zeroValue288,
 t77:=Tryz.underlying203,
 a77:=Tryz.isAgg203,
 z77:=Tryz.sizeOf203,
 v77:=Tryz.zeroValue203 }
def zJx:Go.Shelf.Ren:=⟨fun | 125=>181 | 128=>210 | 129=>211 | n=>n,fun | 46=>225 | 3=>3 | 51=>62 | 53=>256 | 4=>4 | 5=>5 | 9=>9 | n=>n,fun | n=>n⟩
theorem zSn:Go.Proofs.Lays.n125 Tryz.prog zJx:={
 mixed:=by kernel_rfl,
 f125:=Tryz.func181.trans (congrArg some (by kernel_rfl)),
 f128:=Tryz.func210.trans (congrArg some (by kernel_rfl)),
 f129:=Tryz.func211.trans (congrArg some (by kernel_rfl)),
 t3:=Tryz.underlying3,
 a3:=Tryz.isAgg3,
 z3:=Tryz.sizeOf3,
 v3:=Tryz.zeroValue3,
 t4:=Tryz.underlying4,
 a4:=Tryz.isAgg4,
 z4:=Tryz.sizeOf4,
 v4:=Tryz.zeroValue4,
 t5:=Tryz.underlying5,
 a5:=Tryz.isAgg5,
 z5:=Tryz.sizeOf5,
 v5:=Tryz.zeroValue5,
 t9:=Tryz.underlying9,
 a9:=Tryz.isAgg9,
 z9:=Tryz.sizeOf9,
 v9:=Tryz.zeroValue9,
 t46:=Tryz.underlying225,
 a46:=Tryz.isAgg225,
 z46:=Tryz.sizeOf225,
 v46:=Tryz.zeroValue225,
 t51:=Tryz.underlying62,
 a51:=Tryz.isAgg62,
 z51:=Tryz.sizeOf62,
 v51:=Tryz.zeroValue62,
 t53:=Tryz.underlying256,
 a53:=Tryz.isAgg256,
 z53:=Tryz.sizeOf256,
 v53:=Tryz.zeroValue256 }
end Go.Proofs.YtdggplhnfhcieaaGreatDoor.Ro
end
section
namespace Go.Proofs.YtdggplhnfhcieaaGreatDoor.Ro
open Go.RowKit Go.Deep
instance memberInh:Inhabited Member:=⟨⟨⟨#[]⟩,0⟩⟩
def z0p (x:Member):List Value:=[.string x.name,.int .i64 x.role]
def zFh (a b:Member):Int:=cmpOf a.name b.name
theorem ltM (a b:Member):Go.Proofs.ltOf zFh a b=ltS a.name b.name:=by
 unfold Go.Proofs.ltOf zFh cmpOf;cases h:ltS a.name b.name
 ·cases k:ltS b.name a.name<;>simp
 simp
theorem zUr:Go.Sort.SWO (Go.Proofs.ltOf zFh) where
 irrefl x:=by rw [ltM];exact YV _
 trans x y z h k:=by rw [ltM] at*;exact YP h k
 ntrans x y z h k:=by
  rw [ltM] at*;cases e:ltS x.name z.name
  ·rfl
  ·exfalso;rcases z18 x.name y.name with h1 | h1 | h1
   ·rw [h] at h1;cases h1
   ·rw [h1,k] at e;cases e
   ·have:=YP h1 e;rw [k] at this;cases this
theorem zEg (x y:Member) (w:World):Calls Tryz.prog 173 #[.agg (z0p x).toArray,.agg (z0p y).toArray] w fun e w'=>e= .returned (.int .i64 (zFh x y))/\∃q os',w'=Go.Sort.grow (w.drewN q) os':=by
 have hcon:=fun W=>cmp_any x.name y.name W
 unfold zFh;generalize cmpOf x.name y.name=r at hcon⊢;show Calls Tryz.prog 173 #[.agg #[.string x.name,.int .i64 x.role],.agg #[.string y.name,.int .i64 y.role]] w _
 go_enter Tryz.func173,Tryz.ntmps173
 go_wp2_with (go_at_call 161;refine (hcon _).mono ?_;rintro e w' ⟨rfl,rfl⟩)
 go_ret;exact ⟨rfl,0,_,by rw [Go.Sort.alloc_eq_grow,Go.Sort.alloc_eq_grow,Go.Sort.grow_grow];rfl⟩
theorem zJy (n:Nat) (W:World) (h:n<=12):Calls Tryz.prog 181 #[.int .u64 n] W fun e w'=>(∃l:Int,e= .returned (.int .i64 l))/\w'=W:=
 (Go.Proofs.Any.bits_Len zSn n W (by omega) (by omega)).mono fun _ _ ⟨he,hw⟩=>⟨⟨_,he⟩,hw⟩
theorem z5e (d:Array Member) (i j:Nat) (hi:i < d.size) (hj:j < 2):(Go.Sort.flatK z0p 2 d)[i*2+j]! =(z0p d[i]!)[j]! :=by
 rw [Go.Sort.get_flatK _ _ _ _ (by omega),show (i*2+j) / 2=i by omega,show (i*2+j) % 2=j by omega]
theorem zQj {w:World} {g:Nat} {l:List Member} (h:∀i x,l[i]? =some x->∀j y,(z0p x)[j]? =some y->w.cell? ⟨g,i*2+j,none⟩=some y) (hf:∀j,w.frozen? ⟨g,j,none⟩=false):Go.Sort.HoldsK z0p 2 w g 0 l.toArray:=by
 intro j hj;rw [Go.Sort.size_flatK] at hj;have hj':j < l.length*2:=by simpa using hj
 refine ⟨?_,hf _⟩;obtain ⟨x,hx⟩:∃x,l[j / 2]? =some x:=⟨_,qLgx (show j / 2 < l.length by omega)⟩;have hgx:l.toArray[j / 2]! =x:=by simp [hx]
 have e1:=z5e l.toArray (j / 2) (j % 2) (by simp;omega) (by omega);rw [show j / 2*2+j % 2=j by omega] at e1;show w.cell? ⟨g,0+j,none⟩=some (id _)
 rw [Nat.zero_add,id,e1,hgx];have:=h _ x hx (j % 2);rw [show j / 2*2+j % 2=j by omega] at this;refine this _ ?_;rcases (show j % 2=0\/j % 2=1 by omega) with h | h<;>rw [h]<;>rfl
theorem zSo {w:World} {g:Nat} {d:Array Member} (h:Go.Sort.HoldsK z0p 2 w g 0 d) (hd:∀x∈d.toList,x.name.size<=140737488355328/\I64 x.role):SlAt 2 zY (fun _=>True) w (some ⟨g,0,none⟩) d.toList:=by
 intro i x hi;have hil:i < d.size:=by have:=(zge hi).1;simpa using this
 have hx:d[i]! =x:=by
  have:=(zge hi).2;simp only [Array.getElem_toList] at this;rw [getElem!_pos d i hil,this]
 refine ⟨g,0,z0p x,rfl,trivial,rfl,fun j y hj=>?_,rfl,hd x (zmg hi)⟩;have hj2:j < 2:=(zge hj).1;have h1:=(h (i*2+j) (by rw [Go.Sort.size_flatK];omega)).1;rw [h1,z5e d i j hil hj2,hx];rcases (show j=0\/j=1 by omega) with h | h<;>subst h<;>simpa [z0p] using hj
theorem zM2 {n g m:Nat} {w:World} (hg:n<=g) (hn:n<=w.heap.size) (d:Array Member) (os:Array Obj):Below n w (Go.Proofs.sortWorldK z0p 2 w g 0 m d os):=by
 unfold Go.Proofs.sortWorldK;refine ⟨rfl,rfl,rfl,?_,fun b hb=>?_⟩
 ·simp [Go.Sort.putRowK,Go.Sort.putRow,Go.Sort.mapBlock,Go.Sort.ahead]
 rw [Go.Sort.heap_grow_old _ _ (by simp [Go.Sort.putRowK,Go.Sort.putRow,Go.Sort.mapBlock,Go.Sort.ahead];omega)];simp only [Go.Sort.putRowK,Go.Sort.putRow,Go.Sort.mapBlock,Go.Sort.ahead,Array.getElem?_modify];rw [if_neg (by omega)]
theorem zQk (l:List Member) (g cap base:Nat) (w:World) (cur:Array Value) (T:TypeId) (hg:w.heap[g]? =some (.cells cur T (0,0))) (hb:base<=g) (h12:l.length<=12) (hc1:l.length<=cap) (hc2:cap<=maxLen)
  (hl:∀x∈l,x.name.size<=140737488355328/\I64 x.role) (hcell:∀i x,l[i]? =some x->∀j y,(z0p x)[j]? =some y->cur[i*2+j]? =some y):
  Calls Tryz.prog 172 #[.slice (some ⟨g,0,none⟩) l.length cap,.func (.func 173) #[] #[]] w fun e w'=>
   e= .returned (.tuple #[])/\Below base w w'/\∃l',l'.Perm l/\(∀(i j:Nat) (x y:Member),i < j->l'[i]? =some x->l'[j]? =some y->ltS y.name x.name=false)/\Sl 2 zY (fun _=>True) w' (.slice (some ⟨g,0,none⟩) l.length cap) l':=by
 have hlt:g < w.heap.size:=zO hg;obtain ⟨cc,ff⟩:=zD hg;have hH:Go.Sort.HoldsK z0p 2 w g 0 l.toArray:=zQj (fun i x hx j y hy=>cc _ _ (hcell i x hx j y hy)) ff;have eg:∀args w,(callFunc 173 args).run Tryz.prog w= .ok (.enter 173 args) w:=enters_of Tryz.func173 (by kernel_rfl) rfl;have hcon:=Go.Proofs.AnyQ.slices_SortFunc_small_sorted zM1 2 Tryz.isAgg87 Tryz.sizeOf87 z0p (fun _=>rfl) (fun x v hv=>by simp [z0p] at hv;rcases hv with rfl | rfl<;>rfl) zFh 173 #[] zUr g 0 cap l.toArray w eg
  (fun m os dk _ x y=>by simpa using zEg x y _) hH hlt (by simpa using h12) zJy
 change Calls Tryz.prog 172 _ _ _ at hcon;refine hcon.mono ?_;rintro e w' ⟨rfl,d',n,os,⟨hs,_,hp⟩,hsort,rfl⟩;have hp':d'.toList.Perm l:=by
  rw [Array.extract_eq_self_of_le (by omega),Array.extract_eq_self_of_le (by omega)] at hp;simpa using hp
 have hsl:d'.size=l.length:=by simpa using hs
 refine ⟨rfl,zM2 hb (by omega) _ _,d'.toList,hp',fun i j x y hij hx hy=>?_,?_⟩
 ·have hjl:=(zge hy).1;have h1:=hsort i j (Nat.zero_le _) hij (by simpa [hsl] using hjl);rw [ltM] at h1;have hx':d'[i]! =x:=by
   have:=(zge hx).2;have hil:=(zge hx).1;simp only [Array.getElem_toList] at this;rw [getElem!_pos d' i (by simpa using hil),this]
  have hy':d'[j]! =y:=by
   have:=(zge hy).2;simp only [Array.getElem_toList] at this;rw [getElem!_pos d' j (by simpa using hjl),this]
  rw [hx',hy'] at h1;exact h1
 refine ⟨_,cap,by simp [hsl],by simpa [hsl] using hc1,hc2,by simp [hsl];omega,zSo (Go.Proofs.holdsK_sortWorldK_c z0p 2 w g 0 l.toArray d' n os hH hlt hs) fun x hx=>hl x (hp'.mem_iff.1 hx)⟩
end Go.Proofs.YtdggplhnfhcieaaGreatDoor.Ro
end
section
namespace Go.Proofs.YtdggplhnfhcieaaGreatDoor.Bd
open Go.RowKit Go.Deep
theorem zGs (st:State) (h1:smallOf st<=1000000) (h2:largeOf st<=1000000) (cs:List Value) (w:World) (S:Nat->Prop) (h:yB S w cs st):
  Calls Tryz.prog 151 #[.agg cs.toArray] w fun e w'=>e= .returned (.tuple #[.int .i64 ((smallOf st:Nat):Int),.int .i64 ((largeOf st:Nat):Int)])/\Below w.heap.size w w':=by
 have hR:=h;obtain ⟨_,_,_,_,_,_,rfl,_,_,_,_,_,_,_,_,_,_,_,_,_⟩:=ZP h;have g1:=zh (zUo st.folders (by unfold smallOf at h1;omega));have g2:=zh (zUp st.folders h2);have h1':min st.folders.length 1+2*st.users.length+st.deposits.length+st.folders.length+sumOf small1 st.folders<=1000000:=h1;have e1:smallOf st=min st.folders.length 1+2*st.users.length+st.deposits.length+st.folders.length+sumOf small1 st.folders:=rfl;have E1:=zh e1;clear e1;by_cases hm:st.folders.length<=1
 all_goals
  go_enter Tryz.func151,Tryz.ntmps151
  go_wp2_with fail
  refine zcm (zL9 _ (by decide) small1 st g1.out (by omega) _ _ S (Z0 hR (zK (by go_grown)))) ?_;rintro e w1 ⟨rfl,hb1⟩;obtain ⟨_,_⟩:=z3l hb1;have B1:Below w.heap.size w w1:=zB (by go_grown) hb1;have z1:=B1.size;have y1:=hb1.size;try simp at y1
  try have q1w0:w.heap.size < w1.heap.size:=by omega
  try have q1w1:w.heap.size+1 < w1.heap.size:=by omega
  try have q1w2:w.heap.size+1+1 < w1.heap.size:=by omega
  try have q1w3:w.heap.size+1+1+1 < w1.heap.size:=by omega
  try have q1w4:w.heap.size+1+1+1+1 < w1.heap.size:=by omega
  try have q1w5:w.heap.size+1+1+1+1+1 < w1.heap.size:=by omega
  go_wp2_with fail
  refine zcm (zL9 _ (by decide) large1 st g2.out h2 _ _ S (Z0 hR (zK (by go_grown)))) ?_;rintro e w2 ⟨rfl,hb2⟩;obtain ⟨_,_⟩:=z3l hb2;have B2:Below w.heap.size w w2:=zB (by go_grown) hb2;have z2:=B2.size;have y2:=hb2.size;try simp at y2
  try have q2w0:w.heap.size < w2.heap.size:=by omega
  try have q2w1:w.heap.size+1 < w2.heap.size:=by omega
  try have q2w2:w.heap.size+1+1 < w2.heap.size:=by omega
  try have q2w3:w.heap.size+1+1+1 < w2.heap.size:=by omega
  try have q2w4:w.heap.size+1+1+1+1 < w2.heap.size:=by omega
  try have q2w5:w.heap.size+1+1+1+1+1 < w2.heap.size:=by omega
  go_wp2;go_ret2
  refine ⟨?_,B2⟩;rw [E1.out];simp [largeOf];omega
theorem zFs (n:Int) (w:World) (h:0<=n/\n<=1024):Calls Tryz.prog 212 #[.int .i64 n] w fun e w'=>e= .returned (.bool true)/\w=w':=by
 go_enter Tryz.func212,Tryz.ntmps212
 go_wp2;go_ret;exact ⟨by simp<;>omega,rfl⟩
theorem zRg (n:Int) (w:World) (h:0<=n/\n<=1024):Calls Tryz.prog 186 #[.int .i64 n] w fun e w'=>e= .returned (.int .i64 ((n+59) / 60))/\w=w':=by
 go_enter Tryz.func186,Tryz.ntmps186
 go_wp2_with fail
 refine (zFs n _ h).mono ?_;rintro e w' ⟨rfl,rfl⟩;go_wp2;go_ret;exact ⟨by simp<;>omega,rfl⟩
theorem zGt (n:Int) (w:World) (h:0<=n/\n<=1024):Calls Tryz.prog 152 #[.int .i64 n] w fun e w'=>e= .returned (.int .i64 (1+(n+59) / 60))/\w=w':=by
 go_enter Tryz.func152,Tryz.ntmps152
 go_wp2_with fail
 refine (zRg n _ h).mono ?_;rintro e w' ⟨rfl,rfl⟩;go_wp2;go_ret;exact ⟨by simp,rfl⟩
theorem zAq (st:State) (h1:smallOf st<=1000000) (h2:largeOf st<=1000000) (cs:List Value) (w:World) (S:Nat->Prop) (h:yB S w cs st):
  Calls Tryz.prog 101 #[.agg cs.toArray] w fun e w'=>e= .returned (.int .i64 ((120*smallOf st+1020*largeOf st:Nat):Int))/\Below w.heap.size w w':=by
 have hR:=h;obtain ⟨_,_,_,_,_,_,rfl,_,_,_,_,_,_,_,_,_,_,_,_,_⟩:=ZP h;go_enter Tryz.func101,Tryz.ntmps101
 go_wp2_with fail
 refine zcm (zGs st h1 h2 _ _ S (Z0 hR (zK (by go_grown)))) ?_;rintro e w1 ⟨rfl,hb1⟩;obtain ⟨_,_⟩:=z3l hb1;have B1:Below w.heap.size w w1:=zB (by go_grown) hb1;have z1:=B1.size;have y1:=hb1.size;try simp at y1
 try have q1w0:w.heap.size < w1.heap.size:=by omega
 try have q1w1:w.heap.size+1 < w1.heap.size:=by omega
 try have q1w2:w.heap.size+1+1 < w1.heap.size:=by omega
 try have q1w3:w.heap.size+1+1+1 < w1.heap.size:=by omega
 try have q1w4:w.heap.size+1+1+1+1 < w1.heap.size:=by omega
 try have q1w5:w.heap.size+1+1+1+1+1 < w1.heap.size:=by omega
 go_wp2;go_ret;exact ⟨by simp,B1⟩
theorem zGu (st:State) (h1:smallOf st<=1000000) (h2:largeOf st<=1000000) (cs:List Value) (w:World) (S:Nat->Prop) (h:yB S w cs st):
  Calls Tryz.prog 102 #[.agg cs.toArray] w fun e w'=>e= .returned (.int .i64 ((3*smallOf st+18*largeOf st:Nat):Int))/\Below w.heap.size w w':=by
 have hR:=h;obtain ⟨_,_,_,_,_,_,rfl,_,_,_,_,_,_,_,_,_,_,_,_,_⟩:=ZP h;go_enter Tryz.func102,Tryz.ntmps102
 go_wp2_with fail
 refine zcm (zGs st h1 h2 _ _ S (Z0 hR (zK (by go_grown)))) ?_;rintro e w1 ⟨rfl,hb1⟩;obtain ⟨_,_⟩:=z3l hb1;have B1:Below w.heap.size w w1:=zB (by go_grown) hb1;have z1:=B1.size;have y1:=hb1.size;try simp at y1
 try have q1w0:w.heap.size < w1.heap.size:=by omega
 try have q1w1:w.heap.size+1 < w1.heap.size:=by omega
 try have q1w2:w.heap.size+1+1 < w1.heap.size:=by omega
 try have q1w3:w.heap.size+1+1+1 < w1.heap.size:=by omega
 try have q1w4:w.heap.size+1+1+1+1 < w1.heap.size:=by omega
 try have q1w5:w.heap.size+1+1+1+1+1 < w1.heap.size:=by omega
 go_wp2_with fail
 refine (zGt 120 _ (by omega)).mono ?_;rintro e w' ⟨rfl,rfl⟩;go_wp2_with fail
 refine (zGt 1020 _ (by omega)).mono ?_;rintro e w' ⟨rfl,rfl⟩;go_wp2;go_ret;exact ⟨by simp,B1⟩
end Go.Proofs.YtdggplhnfhcieaaGreatDoor.Bd
end
section
namespace Go.Proofs.YtdggplhnfhcieaaGreatDoor.Ro
open Go.RowKit Go.Deep
def zB1 (n:ByteArray):List Member->Bool
 | []=>true
 | m :: r=>if ltS m.name n then zB1 n r else false
theorem z6p {n:Int} (h:isOf n=true):1<=n/\n<=4:=by
 simpa [isOf] using h
theorem zLx {S:Nat->Prop} {w:World} {name:ByteArray} {role:Int} (h:name.size<=140737488355328) (k:I64 role):zY S w [.string name,.int .i64 role] ⟨name,role⟩:=⟨rfl,h,k⟩
def leS (a b:ByteArray):Bool:=ltS a b || eqS a b
def withR (name:ByteArray) (role:Int):Bool->List Member->List Member
 | d,[]=>if d then [] else [⟨name,role⟩]
 | d,m :: r=>(if !d && leS name m.name then [⟨name,role⟩] else [])++((if eqS m.name name then [] else [m])++withR name role (d || leS name m.name) r)
def withOf (l:List Member) (name:ByteArray) (role:Int):List Member:=withR name role (role==0) l
end Go.Proofs.YtdggplhnfhcieaaGreatDoor.Ro
end
section
namespace Go.Proofs.YtdggplhnfhcieaaGreatDoor.Bd
open Go.RowKit Go.Deep
def fitsOf (st:State) (q r:Int):Int:=if q < ((120*smallOf st+1020*largeOf st:Nat):Int) then 33 else if r < ((3*smallOf st+18*largeOf st:Nat):Int) then 32 else 0
theorem fits_any (st:State) (q r:Int) (h1:smallOf st<=1000000) (h2:largeOf st<=1000000) (cs:List Value) (w:World) (S:Nat->Prop) (h:yB S w cs st):
  Calls Tryz.prog 56 #[.agg cs.toArray,.int .i64 q,.int .i64 r] w fun e w'=>e= .returned (.int .i64 (fitsOf st q r))/\Below w.heap.size w w':=by
 have hR:=h;obtain ⟨_,_,_,_,_,_,rfl,_,_,_,_,_,_,_,_,_,_,_,_,_⟩:=ZP h;have H1:=zh h1;have H2:=zh h2;clear h1 h2;by_cases c1:q < ((120*smallOf st+1020*largeOf st:Nat):Int)
 ·have F:=zh (show fitsOf st q r=33 from by simp only [fitsOf,if_pos c1]);go_enter Tryz.func56,Tryz.ntmps56
  go_wp2_with fail
  refine zcm (zAq st H1.out H2.out _ _ S (Z0 hR (zK (by go_grown)))) ?_;rintro e w1 ⟨rfl,hb1⟩;obtain ⟨hc1,hf1⟩:=z3l hb1;have B1:Below w.heap.size w w1:=zB (by go_grown) hb1;have z1:=B1.size;have y1:=hb1.size;try simp at y1
  try have q1w0:w.heap.size < w1.heap.size:=by omega
  try have q1w1:w.heap.size+1 < w1.heap.size:=by omega
  try have q1w2:w.heap.size+1+1 < w1.heap.size:=by omega
  try have q1w3:w.heap.size+1+1+1 < w1.heap.size:=by omega
  try have q1w4:w.heap.size+1+1+1+1 < w1.heap.size:=by omega
  try have q1w5:w.heap.size+1+1+1+1+1 < w1.heap.size:=by omega
  go_wp2;go_ret;exact ⟨by rw [F.out];rfl,B1⟩
 by_cases c2:r < ((3*smallOf st+18*largeOf st:Nat):Int)
 ·have F:=zh (show fitsOf st q r=32 from by simp only [fitsOf,if_neg c1,if_pos c2]);go_enter Tryz.func56,Tryz.ntmps56
  go_wp2_with fail
  refine zcm (zAq st H1.out H2.out _ _ S (Z0 hR (zK (by go_grown)))) ?_;rintro e w1 ⟨rfl,hb1⟩;obtain ⟨hc1,hf1⟩:=z3l hb1;have B1:Below w.heap.size w w1:=zB (by go_grown) hb1;have z1:=B1.size;have y1:=hb1.size;try simp at y1
  try have q1w0:w.heap.size < w1.heap.size:=by omega
  try have q1w1:w.heap.size+1 < w1.heap.size:=by omega
  try have q1w2:w.heap.size+1+1 < w1.heap.size:=by omega
  try have q1w3:w.heap.size+1+1+1 < w1.heap.size:=by omega
  try have q1w4:w.heap.size+1+1+1+1 < w1.heap.size:=by omega
  try have q1w5:w.heap.size+1+1+1+1+1 < w1.heap.size:=by omega
  go_wp2_with fail
  refine zcm (zGu st H1.out H2.out _ _ S (Z0 hR (zK (by go_grown)))) ?_;rintro e w2 ⟨rfl,hb2⟩;obtain ⟨hc2,hf2⟩:=z3l hb2;have B2:Below w.heap.size w w2:=zB (by go_grown) hb2;have z2:=B2.size;have y2:=hb2.size;try simp at y2
  try have q2w0:w.heap.size < w2.heap.size:=by omega
  try have q2w1:w.heap.size+1 < w2.heap.size:=by omega
  try have q2w2:w.heap.size+1+1 < w2.heap.size:=by omega
  try have q2w3:w.heap.size+1+1+1 < w2.heap.size:=by omega
  try have q2w4:w.heap.size+1+1+1+1 < w2.heap.size:=by omega
  try have q2w5:w.heap.size+1+1+1+1+1 < w2.heap.size:=by omega
  go_wp2;go_ret;exact ⟨by rw [F.out];rfl,B2⟩
 have F:=zh (show fitsOf st q r=0 from by simp only [fitsOf,if_neg c1,if_neg c2]);go_enter Tryz.func56,Tryz.ntmps56
 go_wp2_with fail
 refine zcm (zAq st H1.out H2.out _ _ S (Z0 hR (zK (by go_grown)))) ?_;rintro e w1 ⟨rfl,hb1⟩;obtain ⟨hc1,hf1⟩:=z3l hb1;have B1:Below w.heap.size w w1:=zB (by go_grown) hb1;have z1:=B1.size;have y1:=hb1.size;try simp at y1
 try have q1w0:w.heap.size < w1.heap.size:=by omega
 try have q1w1:w.heap.size+1 < w1.heap.size:=by omega
 try have q1w2:w.heap.size+1+1 < w1.heap.size:=by omega
 try have q1w3:w.heap.size+1+1+1 < w1.heap.size:=by omega
 try have q1w4:w.heap.size+1+1+1+1 < w1.heap.size:=by omega
 try have q1w5:w.heap.size+1+1+1+1+1 < w1.heap.size:=by omega
 go_wp2_with fail
 refine zcm (zGu st H1.out H2.out _ _ S (Z0 hR (zK (by go_grown)))) ?_;rintro e w2 ⟨rfl,hb2⟩;obtain ⟨hc2,hf2⟩:=z3l hb2;have B2:Below w.heap.size w w2:=zB (by go_grown) hb2;have z2:=B2.size;have y2:=hb2.size;try simp at y2
 try have q2w0:w.heap.size < w2.heap.size:=by omega
 try have q2w1:w.heap.size+1 < w2.heap.size:=by omega
 try have q2w2:w.heap.size+1+1 < w2.heap.size:=by omega
 try have q2w3:w.heap.size+1+1+1 < w2.heap.size:=by omega
 try have q2w4:w.heap.size+1+1+1+1 < w2.heap.size:=by omega
 try have q2w5:w.heap.size+1+1+1+1+1 < w2.heap.size:=by omega
 go_wp2;go_ret;exact ⟨by rw [F.out];rfl,B2⟩
end Go.Proofs.YtdggplhnfhcieaaGreatDoor.Bd
end
