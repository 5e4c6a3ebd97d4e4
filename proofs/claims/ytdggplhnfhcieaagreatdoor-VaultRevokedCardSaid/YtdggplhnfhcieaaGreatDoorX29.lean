/- No condition. -/
import Derived.Deep.CutRange
import Derived.Test.YtdggplhnfhcieaaGreatDoorX22
import Derived.Test.YtdggplhnfhcieaaGreatDoorX25
set_option linter.all false
set_option maxRecDepth 100000
namespace Go.Proofs.YtdggplhnfhcieaaGreatDoor
open Go.RowKit Go.Deep
section
theorem zGp (st:State) (s:Nm):foI st s=(st.folders.map Folder.name).findIdx? fun n=>decide (n=s):=by
 unfold foI;rw [List.findIdx?_map];rfl
theorem zDo {st:State} {k:Nat} {f:Folder} (hk:k < st.folders.length) (hn:f.name=(fo st k).name) (s:Nm):foI (setF st k f) s=foI st s:=by
 rw [zGp,zGp];congr 1;unfold setF;dsimp only;rw [List.map_set,hn];exact List.set_eq_self_of (by rw [List.getElem?_map,ZO hk];rfl)
theorem zGq (eps:List Epoch) (name:Nm) (seed:Bool):∀l:List Wrap,(z1m eps name seed l).length<=l.length+1
 | []=>by simp [z1m]
 | w :: r=>by
  unfold z1m;have:=zGq eps name seed r;split
  ·split<;>simp
  ·split
   ·simp
   ·simp;omega
theorem z79 (sd:Member->Bool):∀(ms:List Member) (f:Folder),(ZZ sd f ms).wraps.length<=f.wraps.length+ms.length
 | [],f=>by unfold ZZ;simp
 | m :: r,f=>by
  have h1:=z79 sd r (yO f m.name (sd m));have h2:=zGq f.epochs m.name (sd m) f.wraps;show (ZZ sd (yO f m.name (sd m)) r).wraps.length<=_
  have h3:(yO f m.name (sd m)).wraps.length=(z1m f.epochs m.name (sd m) f.wraps).length:=rfl;rw [List.length_cons];omega
theorem zAk (sd:Member->Bool):∀(ms:List Member) (f:Folder),(ZZ sd f ms).links=f.links
 | [],f=>rfl
 | m :: r,f=>(zAk sd r (yO f m.name (sd m))).trans rfl
theorem zBy {sd:Member->Bool} {f:Folder} {ms:List Member} {n:Nat} {m:Member} (h:ms[n]? =some m):ZZ sd f (ms.take (n+1))=yO (ZZ sd f (ms.take n)) m.name (sd m):=by
 rw [qLtx,h];exact zK2 sd f _ m
section
variable {X:Nat->Prop} {base bw:Nat} {W W1 W2:World} {R:RM} {c:Call} {dv:Value} {st st1 st2:State} {done done1 done2 late:Bool}
theorem Wrote.refl (h:WK X base bw W R c dv st done late):Wrote X base bw W R c dv late st done W:=⟨R,h,Mut.refl _ _ _,rfl⟩
theorem Wrote.below (h:Wrote X base bw W R c dv late st done W1) (hb:Below W1.heap.size W1 W2):Wrote X base bw W R c dv late st done W2:=by
 obtain ⟨R',h1,h2,h3⟩:=h;exact ⟨R',h1.below hb,h2.trans (Mut.below hb),h3⟩
theorem WK.liTo (h:WK X base bw W R c dv st done late) {k g o:Nat} (hk:k < st.folders.length) (ha:foAt R k g o) {w1:World} {v':Value} {cells:List (List Value)} (hlen:cells.length<=10000) (hr:RowC 151 3 w1 v' cells) (hb:ButB (fun z=>(R (.li k)).v.ownBlock=some z) W w1)
  (ho:v'.ownBlock=(R (.li k)).v.ownBlock\/∃k,v'.ownBlock=some k/\W.heap.size<=k) (hone:v'.oneCell'=true) {l:List Link} (hl:All2 (z0g (fun _=>True) w1) cells l):
  Wrote X base bw W R c dv late (setF st k { fo st k with links:=l }) done (w1.setCell ⟨g,o+6,none⟩ v'):=by
 have hf:=ZO hk;obtain ⟨o1,m1,b1,_⟩:=h.put (W':=w1) (.li k) ⟨v',cells⟩ hb hr hlen (fun b hb=>ho.imp (fun e=>by rw [<-e];exact hb) fun ⟨k2,e,hk2⟩=>by
  rw [show v'.ownBlock=some b from hb] at e;obtain rfl:=zsi e;exact hk2)
 obtain ⟨h8,m8⟩:=h.sub hf ha (k:= .li k) (j:=6) (u:=v') (f':={ fo st k with links:=l }) ⟨by simp,by simp,by simp⟩ (by omega) o1 m1 b1 hone fun kp=>h.is.liRow (r:=⟨v',cells⟩) hf kp (hl.imp fun _ _ e=>e)
 exact ⟨_,h8,m8,by rw [yU];rfl⟩
end
end
section
section
variable {X:Nat->Prop} {base bw:Nat} {W:World} {R:RM} {c:Call} {dv:Value} {st:State} {done late:Bool}
theorem WK.verTo (h:WK X base bw W R c dv st done late) {k:Nat} (hk:k < st.folders.length) {j gi oi n ci:Nat} {it:Item} (hit:(fo st k).items[j]? =some it) (hgi:(R (.it k)).v= .slice (some ⟨gi,oi,none⟩) n ci) {w1:World} {A8:Option Addr} {n8 cp8:Nat} {x:List Value} {ver:Version} (hlen:it.versions.length<=9999)
  (hr:RowC 80 4 w1 (.slice A8 n8 cp8) ((R (.ve k j)).cells++[x])) (hb:ButB (fun z=>(R (.ve k j)).v.ownBlock=some z) W w1) (ho:(Value.slice A8 n8 cp8).ownBlock=(R (.ve k j)).v.ownBlock\/∃k,(Value.slice A8 n8 cp8).ownBlock=some k/\W.heap.size<=k) (hx:yL (Imm X bw R W) W x ver):
  Wrote X base bw W R c dv late (setF st k { fo st k with items:=(fo st k).items.set j { it with versions:=it.versions++[ver] } }) done (w1.setCell ⟨gi,oi+j*2+1,none⟩ (.slice A8 n8 cp8)):=by
 have hf:=ZO hk;obtain ⟨_,hi2⟩:=h.is.fo k _ hf;obtain ⟨j1,_,j3⟩:=hi2.it j it hit;have hcl:(R (.ve k j)).cells.length=it.versions.length:=j3.1;obtain ⟨o1,m1,b1,_⟩:=h.put (W':=w1) (.ve k j) ⟨.slice A8 n8 cp8,(R (.ve k j)).cells++[x]⟩ hb hr (by simp;omega) (fun b hb=>ho.imp (fun e=>by rw [<-e];exact hb) fun ⟨k2,e,hk2⟩=>by
  rw [show (Value.slice A8 n8 cp8).ownBlock=some b from hb] at e;obtain rfl:=zsi e;exact hk2)
 have hitr:zL R (.ve k j) ⟨.slice A8 n8 cp8,(R (.ve k j)).cells++[x]⟩ (.it k)=R (.it k):=ZQ _ _ (by simp);have hrow:=o1.row (.it k);rw [hitr,hgi] at hrow;have hw:=hrow.write (show (0:Nat) < 2 by decide) j1 (show 1 < 2 by decide) (.slice A8 n8 cp8) rfl;have hg:Y7 R gi:=⟨.it k,by rw [hgi];rfl⟩;obtain ⟨o2,m2⟩:=o1.put (bw:=bw) (W':=w1.setCell ⟨gi,oi+j*2+1,none⟩ (.slice A8 n8 cp8)) (qNtx h.base_le m1.but.size) (.it k) ⟨(R (.it k)).v,(R (.it k)).cells.set j [.string it.name,.slice A8 n8 cp8]⟩
  ((ButB.refl _ w1).set ⟨gi,oi+j*2+1,none⟩ _ (by rw [hitr,hgi];rfl)) (by rw [hgi];exact hw) (by have:=h.os.len (.it k);simpa using this) (fun b hb=> .inl (by rw [hitr];exact hb))
 have m:=m1.trans m2;have is:=h.is.veRow (r:=⟨.slice A8 n8 cp8,(R (.ve k j)).cells++[x]⟩) hf hit m.kept (l:=it.versions++[ver]) ((j3.imp fun _ _ e=>z19 e m.kept).snoc (z19 hx m.kept));refine ⟨_,h.turn m o2 is ?_,m,by rw [ZQ _ _ (by simp),ZQ _ _ (by simp)]⟩;rw [Below.heap_setCell _ _ _ _ fun e=>h.nb (by rw [show bw=gi from e];exact hg),b1,h.box];have e1:(zL (zL R (.ve k j) ⟨.slice A8 n8 cp8,(R (.ve k j)).cells++[x]⟩) (.it k) ⟨(R (.it k)).v,(R (.it k)).cells.set j [.string it.name,.slice A8 n8 cp8]⟩) .us=R .us:=by rw [ZQ _ _ (by simp),ZQ _ _ (by simp)]
 have e2:(zL (zL R (.ve k j) ⟨.slice A8 n8 cp8,(R (.ve k j)).cells++[x]⟩) (.it k) ⟨(R (.it k)).v,(R (.it k)).cells.set j [.string it.name,.slice A8 n8 cp8]⟩) .de=R .de:=by rw [ZQ _ _ (by simp),ZQ _ _ (by simp)]
 have e3:(zL (zL R (.ve k j) ⟨.slice A8 n8 cp8,(R (.ve k j)).cells++[x]⟩) (.it k) ⟨(R (.it k)).v,(R (.it k)).cells.set j [.string it.name,.slice A8 n8 cp8]⟩) .fo=R .fo:=by rw [ZQ _ _ (by simp),ZQ _ _ (by simp)]
 unfold z35;rw [e1,e2,e3];rfl
theorem Wrote.turn1 {w1:World} {k g o:Nat} {f:Folder} (hk:k < st.folders.length) (ha:foAt R k g o) (h:Wrote X base bw W R c dv late (setF st k f) done w1) {n:Int} (hn:I64 n):Wrote X base bw W R c dv late (setF st k { f with turn:=n }) done (w1.setCell ⟨g,o+1,none⟩ (.int .i64 n)):=by
 obtain ⟨_,h1,m1,e1⟩:=h;obtain ⟨h9,m9⟩:=h1.fturn (i:=k) (f:=f) (by show (st.folders.set k f)[k]? =_;rw [List.getElem?_set_self hk]) (ha.keep e1) hn;refine ⟨_,?_,m1.trans m9,by rw [yU];exact e1⟩;have e3:({ setF st k f with folders:=(setF st k f).folders.set k { f with turn:=n } }:State)=setF st k { f with turn:=n }:=by
  unfold setF;simp
 rw [<-e3];exact h9
end
end
section
def SmF (st:State):Prop:=∀f∈st.folders,f.name.size<=1000/\(zH f).members.length<=100/\f.manifests≠[]/\f.epochs.length<=1000000
section
variable {X:Nat->Prop} {base bw:Nat} {W:World} {R:RM} {c:Call} {dv:Value} {st:State} {done late:Bool}
set_option maxHeartbeats 16000000 in
theorem z9i (h:WK X base bw W R c dv st done late) {k g o:Nat} (hk:k < st.folders.length) (ha:foAt R k g o) (hfnd:zP st (fo st k).name=some (fo st k)) (hsm:SmF st) (hr:z28 (fo st k).wraps) (hwl:(fo st k).wraps.length<=5000) (hll:(fo st k).links.length<=5000):
  Calls Tryz.prog 129 #[.pointer (some ⟨bw,0,none⟩),.pointer (some ⟨g,o,none⟩)] W fun e w'=>e= .returned (.tuple #[])/\Wrote X base bw W R c dv late (yJ st k) done w':=by
 obtain ⟨iLink,hiLink,hzLink,h1Link,h2Link⟩:=info_parts (show (Tryz.prog.info? 151).map (fun i=>(i.zero,i.size,i.bytes))=some (some (.agg #[.int .i64 0,.string ⟨#[]⟩,.int .i64 0]),3,32) from by kernel_rfl);have HW:=zh h;have HA:=zh ha;have HSM:=zh hsm;have HRI:=zh hr;have HE:=zh (z2z h hk ha);have hel:=(hsm _ (yN hk)).2.2.2;have hnz:=(hsm _ (yN hk)).1;obtain ⟨_,_,_,_,_,_,_,_,_,_,eh,hF,u0,u1,u2,u3,u4,u5,u6,hg,gz⟩:=h.fold (ZO hk) ha;have hbw:=h.lt;obtain ⟨w0,hw0,cw0,fw0,Bw0,qw0⟩:=zQ W #[.int .i64 0] 3;have T0:w0.heap[W.heap.size]? =some (.cells #[.int .i64 0] 3 (0,0)):=by rw [<-hw0];exact zJ _ rfl
 have d0:w0.cell? ⟨W.heap.size,0,none⟩=some (.int .i64 0):=(zD T0).1 0 _ rfl;have dz:=(zD T0).2;have HT0:=zh T0;have HB0:=zh Bw0;have HU0:=zh u0;clear h ha hsm hr eh hF gz cw0 fw0 T0 Bw0 u0 u1 u2 u3 u4 u5 u6;go_enter Tryz.func129,Tryz.ntmps129
 go_wp2_with fail
 refine zcm HE.out ?_;rintro e1 _ ⟨rfl,he1⟩;obtain rfl:=he1.symm;clear he1;go_wp2_with fail
 have T1:=zI (i:=0) (.int .i64 ((fo st k).epochs.length:Int)) HT0.out rfl;have S1:ButB (fun x=>x=W.heap.size) w0 (w0.setCell ⟨W.heap.size,0,none⟩ (.int .i64 ((fo st k).epochs.length:Int))):=(ButB.refl (fun x=>x=W.heap.size) w0).set _ _ rfl;generalize hw2:World.setCell _ _ _=w2 at T1 S1⊢;have B2:Below W.heap.size W w2:=ButB.below HB0.out (by omega) (fun z hz=>by omega) S1;have HB2:=zh B2;have HT2:=zh T1;have H2:=zh (HW.out.below B2);have hz2:W.heap.size < w2.heap.size:=zO T1;clear hw2 T1 S1 d0 dz hw0 qw0;have HSQ:=zh (show ∀W':World,Below w2.heap.size w2 W'->(fun W':World=>W'.cell? ⟨bw,8,none⟩=some (.int .i64 st.turn)/\W'.cell? ⟨bw,9,none⟩=some (R .us).v/\W'.cell? ⟨bw,10,none⟩=some (R .de).v/\W'.cell? ⟨bw,11,none⟩=some (R .fo).v/\W'.cell? ⟨g,o,none⟩=some (.string (fo st k).name)) W' from fun W' hW=>by
  have h2:=H2.out.below hW;exact ⟨h2.cells.1 8 _ rfl,h2.cells.1 9 _ rfl,h2.cells.1 10 _ rfl,h2.cells.1 11 _ rfl,((zB HB2.out hW).cell (p:=⟨g,o,none⟩) hg).trans HU0.out⟩)
 have HS:=HSQ.out;refine zE (by kernel_rfl) HS (fun hHeld=>?_);refine zi 0 ?_;iterate 8 (refine zt hHeld ?_;simp only [zA])
 refine zo ?_;refine zT 11 hHeld ?_;simp only [zA];refine zr 8 fun K hK=>?_
 go_simp;go_at_call 67
 refine zcm (z2x st (fo st k).name (by omega) _ _ (fun _=>True) (H2.out.below zbr.drew).state) ?_;rintro e3 w3 ⟨⟨v3,rfl,hs3⟩,b3⟩;have B3:=zh (show Below w2.heap.size w2 w3 from zB zbr.drew b3);have hfc:=z0w hfnd 3;obtain ⟨l,hl⟩:∃l,zN st 3 (zH (fo st k)).parent=l:=⟨_,rfl⟩;rw [hl] at hfc;have HL:=zh (show (zN st 4 (fo st k).name).drop 1=l by rw [hfc];rfl);have hl4:l.length<=4:=by rw [<-hl];have:=z1k st 3 (zH (fo st k)).parent;omega
 have HMEM:=zh (show ∀x∈l,∃f,zP st x.name=some f from fun x hx=>z0d (n:=3) (s:=(zH (fo st k)).parent) (by rw [hl];exact hx));rw [hfc] at hs3;obtain ⟨A9,c9,rfl,n1,n2,n3,hs9⟩:=hs3;unfold maxLen at n2;rw [List.length_cons] at n1 n3⊢;obtain ⟨A',hA'⟩:∃A',(if c9=1 then A9 else Option.map (fun x:Addr=>({ block:=x.block,off:=x.off+2 }:Addr)) A9)=A':=⟨_,rfl⟩;have HSL:=zh (show SlAt 2 rAt (fun b=>w2.heap.size<=b) w3 A' l from fun i x hx=>by
  have hil:=(zge hx).1;obtain ⟨b9,o9,ys,hA9,a1,a2,a3,a4⟩:=hs9 (i+1) x (by simpa using hx);rw [if_neg (by omega),hA9] at hA';exact ⟨b9,o9+2,ys,hA'.symm,a1,a2,fun j y hj=>by rw [show o9+2+(i*2+j)=o9+((i+1)*2+j) by omega];exact a3 j y hj,a4⟩)
 have h1l:(1:Int)<=(l.length:Int)+1:=by omega
 have hlc:l.length<=c9 - 1:=by omega
 clear hl hfc b3 hHeld hfnd hs9;refine hK.out _ _ (HS _ B3.out) (fun hHeld=>?_);clear hK K;refine zi 9 ?_;iterate 2 (refine zt hHeld ?_;simp only [zA])
 refine zo ?_;refine wpAnyH_done (by kernel_rfl) ?_ _;clear hHeld HS;have H3:=zh (H2.out.below B3.out);have HB3:=zh (zB HB2.out B3.out);have HE3:=zh ((B3.out.block _ hz2).trans HT2.out);have hz3:=B3.out.size;go_wp2;go_loopw [23] (fun i wr=>∃(n:Nat) (f:Folder),n<=l.length/\i= .int .i64 n/\Hid (Wrote X base bw w3 R c dv late (setF st k f) done wr)/\Hid (Gv (fo st k) f)/\Hid (Y1 st (l.drop n) f=Y1 st l (fo st k))/\Hid (f.links=(fo st k).links)/\f.wraps.length<=5000+100*n) (fun i _=>l.length - (intOf i).toNat)
 case atStart=>exact ⟨0,fo st k,by omega,by go_num,(by rw [z7d];exact Wrote.refl H3.out),Gv.refl _,rfl,rfl,by omega⟩
 obtain ⟨n,f,_,rfl,HWR,HGV,HCO,HLK,_⟩:=hrel;by_cases hlt:n < l.length
 rotate_left
 ·obtain rfl:n=l.length:=by omega
  have HEND:=zh (show Wrote X base bw W R c dv late (yJ st k) done wr from by
   have hc:yJ st k=setF st k f:=by
    have h0:=HCO.out;rw [List.drop_length] at h0;unfold yJ;rw [HL.out,<-h0];rfl
   rw [hc];exact HWR.out.pre HB3.out)
  go_wp2;go_end0
  exact ⟨rfl,HEND.out⟩
 have hni:(n:Int) < (l.length:Int):=by omega
 obtain ⟨R1,hk1,hm1,hfo1⟩:=HWR.out;obtain ⟨x,hx⟩:∃x,l[n]? =some x:=⟨_,qLgx hlt⟩;obtain ⟨b9,o9,ys,hA9,_,_,hc9,hR9⟩:=HSL.out n x hx;obtain ⟨rfl,x_name_le,_⟩:=z3b hR9;have HKP:=zh (show ∀b,W.heap.size<=b->b < w3.heap.size->wr.heap[b]? =w3.heap[b]? from fun b h1 h2=>hm1.but.block b h2 fun e=>by
  rcases e with e | e
  ·omega
  ·have:=HW.out.os.lt e;omega)
 have hb9l:b9 < w3.heap.size:=zF (hc9 0 _ rfl);have hszr:=hm1.but.size;have r0:=(World.cell?_of_block (a:=⟨b9,o9+n*2,none⟩) (HKP.out b9 (by omega) hb9l)).trans (hc9 0 _ rfl);have r1:=(World.cell?_of_block (a:=⟨b9,o9+n*2+1,none⟩) (HKP.out b9 (by omega) hb9l)).trans (hc9 1 _ rfl);obtain ⟨w4,hw4,cw4,fw4,Bw4,qw4⟩:=zQ wr #[.string ⟨#[]⟩,.int .i64 0] 124;have T4:w4.heap[wr.heap.size]? =some (.cells #[.string ⟨#[]⟩,.int .i64 0] 124 (0,0)):=by rw [<-hw4];exact zJ _ rfl
 have d0:w4.cell? ⟨wr.heap.size,0,none⟩=some (.string ⟨#[]⟩):=(zD T4).1 0 _ rfl;have d1:w4.cell? ⟨wr.heap.size,1,none⟩=some (.int .i64 0):=(zD T4).1 1 _ rfl;have dz:=(zD T4).2;have HT4:=zh T4;have HB4:=zh Bw4;have HK1:=zh hk1;have HM1:=zh hm1;have HF1:=zh hfo1;have HX:=zh hx;subst hA9;clear hk1 hm1 hfo1 hx hc9 hR9 cw4 fw4 T4 Bw4;go_wp2_with fail
 have E1:=zI (i:=1) (.int .i64 x.seq) (zI (i:=0) (.string x.name) HT4.out rfl) rfl;have E2:ButB (fun z=>z=wr.heap.size) w4 ((w4.setCell ⟨wr.heap.size,0,none⟩ (.string x.name)).setCell ⟨wr.heap.size,1,none⟩ (.int .i64 x.seq)):=((ButB.refl (fun z=>z=wr.heap.size) w4).set _ _ rfl).set _ _ rfl;generalize hw5:World.setCell _ _ _=w5 at E1 E2⊢;have B5:Below wr.heap.size wr w5:=ButB.below HB4.out (by omega) (fun z hz=>by omega) E2;have HB5:=zh B5;have HT5:=zh E1;have H5:=zh (HK1.out.below B5);have hz5:wr.heap.size < w5.heap.size:=zO E1;clear hw5 E1 E2 B5 d0 d1 dz hw4 qw4 r0 r1;obtain ⟨fx,hfx⟩:=HMEM.out x (zmg HX.out);obtain ⟨j,hj⟩:∃j,foI st x.name=some j:=by
  cases hc:foI st x.name with
  | none=>rw [z68.1 hc] at hfx;cases hfx
  | some j=>exact ⟨j,rfl⟩
 have hj2:foI (setF st k f) x.name=some j:=(zDo hk HGV.out.name _).trans hj;refine zcm (zB2 H5.out x.name) ?_;rintro e6 w6 ⟨⟨hno,_⟩ | ⟨j',_,_,hj',ha',rfl⟩,B6⟩
 ·rw [hj2] at hno;cases hno
 obtain rfl:j=j':=zsi (hj2.symm.trans hj');have H6:=zh (H5.out.below B6);have HB6:=zh (zB HB5.out B6);have HT6:=zh ((B6.block _ hz5).trans HT5.out);have HAJ:=zh ha';have HJ:=zh hj;have HFX:=zh (show fx=fo st j from zsi (hfx.symm.trans (z3x hj)));have HALK:=zh (Alike.gv hk HGV.out);have hz6:wr.heap.size < w6.heap.size:=by have:=B6.size;omega
 clear hj hj2 hj' ha' hfx B6;have HSQ2:=zh (show ∀W':World,Below w6.heap.size w6 W'->(fun W':World=>W'.cell? ⟨bw,8,none⟩=some (.int .i64 st.turn)/\W'.cell? ⟨bw,9,none⟩=some (R1 .us).v/\W'.cell? ⟨bw,10,none⟩=some (R1 .de).v/\W'.cell? ⟨bw,11,none⟩=some (R1 .fo).v/\W'.cell? ⟨wr.heap.size,0,none⟩=some (.string x.name)) W' from fun W' hW=>by
  have h2:=H6.out.below hW;exact ⟨h2.cells.1 8 _ rfl,h2.cells.1 9 _ rfl,h2.cells.1 10 _ rfl,h2.cells.1 11 _ rfl,(hW.cell (p:=⟨wr.heap.size,0,none⟩) hz6).trans ((zD HT6.out).1 0 _ rfl)⟩)
 go_wp2_with fail
 have HS:=HSQ2.out;refine zE (by kernel_rfl) HS (fun hHeld=>?_);refine zi 0 ?_;iterate 6 (refine zt hHeld ?_;simp only [zA])
 refine zo ?_;refine zr 6 fun K hK=>?_
 go_simp;go_at_call 144
 refine zcm (zGd (setF st k f) x.name x_name_le _ _ (fun _=>True) (H6.out.below zbr.drew).state) ?_;rintro _ w7 ⟨rfl,b7⟩;have B7:=zh (show Below w6.heap.size w6 w7 from zB zbr.drew b7);clear b7 hHeld;refine hK.out _ _ (HS _ B7.out) (fun hHeld=>?_);clear hK K;rw [HALK.out.stale];refine zT 7 hHeld ?_;simp only [zA];refine wpAnyH_done (by kernel_rfl) ?_ _;clear hHeld HS;have hk1l:k < (setF st k f).folders.length:=by rw [Y4];exact hk
 have H7:=zh (H6.out.below B7.out);have HB7:=zh (zB HB6.out B7.out);have HFE:=zh (show fo (setF st k f) k=f from Y3 hk);have HGA:=zh (HA.out.keep HF1.out);have HE7:=zh ((HB7.out.block W.heap.size (by omega)).trans ((HKP.out W.heap.size (znl _) (by omega)).trans HE3.out));have hE7:w7.cell? ⟨W.heap.size,0,none⟩=some (.int .i64 ((fo st k).epochs.length:Int)):=(zD HE7.out).1 0 _ rfl;have HT7:=zh ((B7.out.block _ hz6).trans HT6.out);have hx7:w7.cell? ⟨wr.heap.size,0,none⟩=some (.string x.name):=(zD HT7.out).1 0 _ rfl;have HDR:=zh (show l.drop n=x :: l.drop (n+1) by
  obtain ⟨hn2,e⟩:=zge HX.out;rw [List.drop_eq_getElem_cons hn2,e])
 have HCS:=zh (show ∀f',Y1 st (l.drop n) f=f'->yJ st k=setF st k f' from fun f' hf'=>by
  unfold yJ;rw [HL.out,<-HCO.out,hf'])
 cases hsb:ZJ st x.name
 ·obtain ⟨D2,e2,D3,e3,D4,e4,D5,e5,D6,e6,eh,hF,v0,v1,v2,v3,v4,v5,v6,hg7,gz⟩:=H7.out.fold (ZO hk1l) HGA.out;rw [HFE.out] at eh hF v0 v1 v2 v3 v4 v5 v6;have hli:(R1 (.li k)).v= .slice D6 f.links.length e6:=by
   simp only [hdr,List.cons.injEq,and_true] at eh;exact eh.2.2.2.2.2.2
  have hall:=(H7.out.is.fo k _ (ZO hk1l)).2.li;rw [HFE.out] at hall;have HALL:=zh hall;have HROW:=zh (show RowC 151 3 w7 (.slice D6 f.links.length e6) (R1 (.li k)).cells from by rw [<-hli];exact H7.out.os.row (.li k));have HCF:=zh (zSw ((fo st k).epochs.length:Int) x.name W.heap.size wr.heap.size f.links (.slice D6 f.links.length e6) w7 (fun _=>True) (by rw [<-hli];exact z1e z3s (H7.out.os.row (.li k)) (H7.out.os.len _) hall) hE7 hx7);have HLI:=zh hli;have HV6:=zh v6;have HGZ:=zh gz;clear eh hF v0 v1 v2 v3 v4 v5 hli hall gz;go_wp2_with fail
  refine zcm HCF.out ?_;rintro e8 w8 ⟨rfl,B8⟩;cases hcf:f.links.any (isL ((fo st k).epochs.length:Int) x.name)
  ·go_wp2_with fail
   have H8:=zh (H7.out.below B8);have hjl:j < (setF st k f).folders.length:=by rw [Y4];exact z2i HJ.out
   have y6:=(B8.cell (p:=⟨g,o+6,none⟩) hg7).trans HV6.out;have yE:=(B8.cell (p:=⟨W.heap.size,0,none⟩) (zF hE7)).trans hE7;have yx:=(B8.cell (p:=⟨wr.heap.size,0,none⟩) (zF hx7)).trans hx7;have yz:∀q,w8.frozen? ⟨g,q,none⟩=false:=fun q=>by unfold World.frozen?;rw [B8.block g hg7];exact HGZ.out q
   have hg8:g < w8.heap.size:=by have:=B8.size;omega
   have HNG:=zh (show (Value.slice D6 f.links.length e6).ownBlock≠some g from fun e=>by
    rw [<-HLI.out] at e;obtain ⟨_,c9,o9,hv9,_⟩:=HGA.out;have:=H7.out.os.inj (.li k) .fo g e (by rw [hv9];rfl);cases this)
   have hcl:(R1 (.li k)).cells.length=f.links.length:=HALL.out.1;have hfl:f.links.length<=5000:=by rw [HLK.out];exact hll
   have HR8:=zh (HROW.out.below B8);have HB8:=zh B8;clear B8 hE7 hx7;have HSQ3:=zh (show ∀W':World,Below w8.heap.size w8 W'->(fun W':World=>W'.cell? ⟨W.heap.size,0,none⟩=some (.int .i64 ((fo st k).epochs.length:Int))/\W'.cell? ⟨wr.heap.size,0,none⟩=some (.string x.name)) W' from fun W' hW=>⟨(hW.cell (p:=⟨W.heap.size,0,none⟩) (zF yE)).trans yE,(hW.cell (p:=⟨wr.heap.size,0,none⟩) (zF yx)).trans yx⟩);have HNE:=zh (show (Value.slice D6 f.links.length e6).ownBlock≠some W.heap.size from fun e=>by
    rw [<-HLI.out] at e;rcases HM1.out.fresh _ ⟨.li k,e⟩ with e2 | e2
    ·have:=HW.out.os.lt e2;omega
    ·omega)
   have HNX:=zh (show (Value.slice D6 f.links.length e6).ownBlock≠some wr.heap.size from fun e=>by
    rw [<-HLI.out] at e;have:=HK1.out.os.lt ⟨.li k,e⟩;omega)
   have hgE:¬(g=W.heap.size):=by omega
   have hgx:¬(g=wr.heap.size):=by omega
   have HFI:=zh (show ∀(A8:Option Addr) (n8 cp8:Nat) (w9:World),RowC 151 3 w9 (.slice A8 n8 cp8) ((R1 (.li k)).cells++[[.int .i64 (fo st k).epochs.length,.string x.name,.int .i64 (fo (setF st k f) j).epochs.length]])->ButB (fun z=>(Value.slice D6 f.links.length e6).ownBlock=some z) w8 w9->((Value.slice A8 n8 cp8).ownBlock=(Value.slice D6 f.links.length e6).ownBlock\/∃k,(Value.slice A8 n8 cp8).ownBlock=some k/\w8.heap.size<=k)->
     Wrote X base bw W R c dv late (yJ st k) done (w9.setCell ⟨g,o+6,none⟩ (.slice A8 n8 cp8)) from fun A8 n8 cp8 w9 r9 p9 o9=>by
    have hfxs:zP st x.name=some fx:=by rw [HFX.out];exact z3x HJ.out
    have hep:(fo (setF st k f) j).epochs.length=((zP st x.name).getD yH).epochs.length:=by
     have e1:=z3x ((zDo hk HGV.out.name x.name).trans HJ.out);have e2:=HALK.out.eps x.name;rw [e1] at e2;exact congrArg List.length e2
    have hle:((zP st x.name).getD yH).epochs.length<=1000000:=by
     rw [hfxs];exact (HSM.out fx (z08 hfxs)).2.2.2
    have hcov:=HCS.out { f with links:=f.links++[⟨f.epochs.length,x.name,((zP st x.name).getD yH).epochs.length⟩] } (by
     rw [HDR.out];unfold Y1;rw [if_neg (by rw [hsb];decide),if_neg];unfold zFf;rw [HGV.out.ep];rw [show (f.links.any fun l=>decide (l.epoch=((fo st k).epochs.length:Int)) && decide (l.to=x.name))=f.links.any (isL ((fo st k).epochs.length:Int) x.name) from rfl,hcf];decide)
    have hlt:=H8.out.liTo hk1l HGA.out (v':= .slice A8 n8 cp8) (cells:=(R1 (.li k)).cells++[[.int .i64 (fo st k).epochs.length,.string x.name,.int .i64 (fo (setF st k f) j).epochs.length]]) (by simp;omega) r9 (by rw [HLI.out];exact p9) (by rw [HLI.out];exact o9) rfl (l:=f.links++[⟨f.epochs.length,x.name,((zP st x.name).getD yH).epochs.length⟩]) ((HALL.out.imp fun _ _ e=>e).snoc ⟨by rw [HGV.out.ep,hep],(show I64 (f.epochs.length:Int) from ⟨by omega,by rw [HGV.out.ep];omega⟩),x_name_le,(show I64 (((zP st x.name).getD yH).epochs.length:Int) from ⟨by omega,by omega⟩)⟩);rw [HFE.out,z0n] at hlt;rw [hcov];obtain ⟨R2,k1,k2,k3⟩:=hlt;exact ⟨R2,k1,(((Mut.below HB3.out).trans HM1.out).trans (Mut.below (zB HB7.out HB8.out))).trans k2,k3.trans HF1.out⟩)
   have HS:=HSQ3.out;refine zE (by kernel_rfl) HS (fun hHeld=>?_);refine zi 0 ?_;iterate 4 (refine zt hHeld ?_;simp only [zA])
   refine zo ?_;refine zi 5 ?_;iterate 4 (refine zt hHeld ?_;simp only [zA])
   refine zo ?_;refine wpAnyH_ready (rs:=[4,9]) (by kernel_rfl) (by simp) ?_;refine AllReadyH.cons rfl (fun K hK=>?_) (AllReadyH.cons rfl (fun K hK=>?_) AllReadyH.nil)
   ·go_simp;refine hK.out _ _ (HS _ (zbr.drew)) (fun hHeld=>?_);clear hK K;refine zr 9 fun K hK=>?_
    go_simp;go_at_call 158
    refine zcm (z2z (H8.out.below zbr.drew) hjl HAJ.out) ?_;rintro e9 w9 ⟨rfl,he9⟩;subst he9;refine hK.out _ _ (HS _ zbr.drew) (fun hHeld=>?_);clear hK K;refine zT 10 hHeld ?_;simp only [zA];refine zr 11 fun K hK=>?_
    go_simp;refine hK.out _ _ (HS _ (by go_grown)) (fun hHeld=>?_);clear hK K;refine zr 12 fun K hK=>?_
    refine z1a w8 _ [.int .i64 (fo st k).epochs.length,.string x.name,.int .i64 (fo (setF st k f) j).epochs.length] rfl (.tmp 50) (.tmp 57) 72 rfl iLink _ 32 Tryz.underlying72 hiLink hzLink h1Link h2Link rfl (by decide) (by decide) (.slice D6 f.links.length e6) (R1 (.li k)).cells rfl _ _ rfl HR8.out (by go_grown) (by omega) rfl (by intro u hu;simp at hu;rcases hu with rfl | rfl | rfl<;>rfl) (by repeat' first|with_reducible assumption|((with_reducible first|refine zR _ ?_ ?_|apply zJ);rotate_left;first|with_reducible rfl|((try dsimp only);first|with_reducible assumption|omega|(simp only [zS];done)|(simp only [zS];omega)))|with_reducible apply zI|with_reducible refine zZ _ ?_|with_reducible refine ZL ?_|refine (rfl:(_:Array Value)=_)) ?_;intro v9 w9 r9 p9 o9;obtain ⟨A8,n8,cp8,rfl⟩:=r9.shape3;have HF9:=zh (HFI.out _ _ _ _ r9 p9 o9);have k9:=p9.block g hg8 HNG.out;have g96:=(World.cell?_of_block (a:=⟨g,o+6,none⟩) k9).trans y6;have z9:∀q,w9.frozen? ⟨g,q,none⟩=false:=fun q=>by unfold World.frozen?;rw [k9];exact yz q
    have eE:=(World.cell?_of_block (a:=⟨W.heap.size,0,none⟩) (p9.block _ (zF yE) HNE.out)).trans yE;have ex:=(World.cell?_of_block (a:=⟨wr.heap.size,0,none⟩) (p9.block _ (zF yx) HNX.out)).trans yx;clear k9 r9 p9 o9;go_simp;refine hK.out _ _ ⟨eE,ex⟩ (fun hHeld=>?_);clear hK K;refine zi 13 ?_;iterate 2 (refine zt hHeld ?_;simp only [zA])
    refine zo ?_;refine zr 15 fun K hK=>?_
    go_simp;refine hK.out _ _ ⟨(World.cell?_setCell_other _ _ _ _ (by simp [hgE])).trans eE,(World.cell?_setCell_other _ _ _ _ (by simp [hgx])).trans ex⟩ (fun hHeld=>?_);clear hK K;refine wpAnyH_done (by kernel_rfl) ?_ _;clear hHeld HS;go_wp2;try simp only [Exit.inBlock,Exit.then]
    refine bodyPost_ret (results_none rfl _ _ _) rfl ?_;exact ⟨rfl,HF9.out⟩
   go_simp;go_at_call 158
   refine zcm (z2z (H8.out.below zbr.drew) hjl HAJ.out) ?_;rintro e9 w9 ⟨rfl,he9⟩;subst he9;refine hK.out _ _ (HS _ zbr.drew) (fun hHeld=>?_);clear hK K;refine zT 10 hHeld ?_;simp only [zA];refine wpAnyH_ready (rs:=[4,11]) (by kernel_rfl) (by simp) ?_;refine AllReadyH.cons rfl (fun K hK=>?_) (AllReadyH.cons rfl (fun K hK=>?_) AllReadyH.nil)
   ·go_simp;refine hK.out _ _ (HS _ (zbr.drew)) (fun hHeld=>?_);clear hK K;refine zr 11 fun K hK=>?_
    go_simp;refine hK.out _ _ (HS _ (by go_grown)) (fun hHeld=>?_);clear hK K;refine zr 12 fun K hK=>?_
    refine z1a w8 _ [.int .i64 (fo st k).epochs.length,.string x.name,.int .i64 (fo (setF st k f) j).epochs.length] rfl (.tmp 50) (.tmp 57) 72 rfl iLink _ 32 Tryz.underlying72 hiLink hzLink h1Link h2Link rfl (by decide) (by decide) (.slice D6 f.links.length e6) (R1 (.li k)).cells rfl _ _ rfl HR8.out (by go_grown) (by omega) rfl (by intro u hu;simp at hu;rcases hu with rfl | rfl | rfl<;>rfl) (by repeat' first|with_reducible assumption|((with_reducible first|refine zR _ ?_ ?_|apply zJ);rotate_left;first|with_reducible rfl|((try dsimp only);first|with_reducible assumption|omega|(simp only [zS];done)|(simp only [zS];omega)))|with_reducible apply zI|with_reducible refine zZ _ ?_|with_reducible refine ZL ?_|refine (rfl:(_:Array Value)=_)) ?_;intro v9 w9 r9 p9 o9;obtain ⟨A8,n8,cp8,rfl⟩:=r9.shape3;have HF9:=zh (HFI.out _ _ _ _ r9 p9 o9);have k9:=p9.block g hg8 HNG.out;have g96:=(World.cell?_of_block (a:=⟨g,o+6,none⟩) k9).trans y6;have z9:∀q,w9.frozen? ⟨g,q,none⟩=false:=fun q=>by unfold World.frozen?;rw [k9];exact yz q
    have eE:=(World.cell?_of_block (a:=⟨W.heap.size,0,none⟩) (p9.block _ (zF yE) HNE.out)).trans yE;have ex:=(World.cell?_of_block (a:=⟨wr.heap.size,0,none⟩) (p9.block _ (zF yx) HNX.out)).trans yx;clear k9 r9 p9 o9;go_simp;refine hK.out _ _ ⟨eE,ex⟩ (fun hHeld=>?_);clear hK K;refine zi 13 ?_;iterate 2 (refine zt hHeld ?_;simp only [zA])
    refine zo ?_;refine zr 15 fun K hK=>?_
    go_simp;refine hK.out _ _ ⟨(World.cell?_setCell_other _ _ _ _ (by simp [hgE])).trans eE,(World.cell?_setCell_other _ _ _ _ (by simp [hgx])).trans ex⟩ (fun hHeld=>?_);clear hK K;refine wpAnyH_done (by kernel_rfl) ?_ _;clear hHeld HS;go_wp2;try simp only [Exit.inBlock,Exit.then]
    refine bodyPost_ret (results_none rfl _ _ _) rfl ?_;exact ⟨rfl,HF9.out⟩
   go_simp;refine hK.out _ _ (HS _ (by go_grown)) (fun hHeld=>?_);clear hK K;refine zr 4 fun K hK=>?_
   go_simp;refine hK.out _ _ (HS _ (by go_grown)) (fun hHeld=>?_);clear hK K;refine zr 12 fun K hK=>?_
   refine z1a w8 _ [.int .i64 (fo st k).epochs.length,.string x.name,.int .i64 (fo (setF st k f) j).epochs.length] rfl (.tmp 50) (.tmp 57) 72 rfl iLink _ 32 Tryz.underlying72 hiLink hzLink h1Link h2Link rfl (by decide) (by decide) (.slice D6 f.links.length e6) (R1 (.li k)).cells rfl _ _ rfl HR8.out (by go_grown) (by omega) rfl (by intro u hu;simp at hu;rcases hu with rfl | rfl | rfl<;>rfl) (by repeat' first|with_reducible assumption|((with_reducible first|refine zR _ ?_ ?_|apply zJ);rotate_left;first|with_reducible rfl|((try dsimp only);first|with_reducible assumption|omega|(simp only [zS];done)|(simp only [zS];omega)))|with_reducible apply zI|with_reducible refine zZ _ ?_|with_reducible refine ZL ?_|refine (rfl:(_:Array Value)=_)) ?_;intro v9 w9 r9 p9 o9;obtain ⟨A8,n8,cp8,rfl⟩:=r9.shape3;have HF9:=zh (HFI.out _ _ _ _ r9 p9 o9);have k9:=p9.block g hg8 HNG.out;have g96:=(World.cell?_of_block (a:=⟨g,o+6,none⟩) k9).trans y6;have z9:∀q,w9.frozen? ⟨g,q,none⟩=false:=fun q=>by unfold World.frozen?;rw [k9];exact yz q
   have eE:=(World.cell?_of_block (a:=⟨W.heap.size,0,none⟩) (p9.block _ (zF yE) HNE.out)).trans yE;have ex:=(World.cell?_of_block (a:=⟨wr.heap.size,0,none⟩) (p9.block _ (zF yx) HNX.out)).trans yx;clear k9 r9 p9 o9;go_simp;refine hK.out _ _ ⟨eE,ex⟩ (fun hHeld=>?_);clear hK K;refine zi 13 ?_;iterate 2 (refine zt hHeld ?_;simp only [zA])
   refine zo ?_;refine zr 15 fun K hK=>?_
   go_simp;refine hK.out _ _ ⟨(World.cell?_setCell_other _ _ _ _ (by simp [hgE])).trans eE,(World.cell?_setCell_other _ _ _ _ (by simp [hgx])).trans ex⟩ (fun hHeld=>?_);clear hK K;refine wpAnyH_done (by kernel_rfl) ?_ _;clear hHeld HS;go_wp2;try simp only [Exit.inBlock,Exit.then]
   refine bodyPost_ret (results_none rfl _ _ _) rfl ?_;exact ⟨rfl,HF9.out⟩
  have HEND:=zh (HCS.out f (by
   rw [HDR.out];unfold Y1;rw [if_neg (by rw [hsb];decide),if_pos];unfold zFf;rw [HGV.out.ep];exact hcf))
  go_wp2;try simp only [Exit.inBlock,Exit.then]
  refine bodyPost_ret (results_none rfl _ _ _) rfl ?_;refine ⟨rfl,?_⟩;rw [HEND.out];obtain ⟨Rq,q1,q2,q3⟩:=(HWR.out.below (zB HB7.out B8));exact ⟨Rq,q1,(Mut.below HB3.out).trans q2,q3⟩
 have hjl:j < (setF st k f).folders.length:=by rw [Y4];exact z2i HJ.out
 have hfxs:zP st x.name=some fx:=by rw [HFX.out];exact z3x HJ.out
 have hj2:=z3x ((zDo hk HGV.out.name x.name).trans HJ.out);have hnow:=HALK.out.now x.name;rw [hj2,hfxs] at hnow;have hman:(fo (setF st k f) j).manifests≠[]:=by
  obtain ⟨_,g1,g2,_⟩:=HALK.out.hit hfxs;rw [hj2] at g1;rw [zsi g1,g2];exact (HSM.out fx (z08 hfxs)).2.2.1
 obtain ⟨m,hme⟩:∃m,zH (fo (setF st k f) j)=m:=⟨_,rfl⟩;have hm100:m.members.length<=100:=by
  have:=(HSM.out fx (z08 hfxs)).2.1;rw [<-hme];have e9:zH (fo (setF st k f) j)=zH fx:=hnow;rw [e9];exact this
 have HST:=zh (show Y1 st (l.drop n) f=Y1 st (l.drop (n+1)) (ZZ (fun _=>false) f m.members) by
  rw [HDR.out];conv=>lhs;unfold Y1
  rw [if_pos hsb,hfxs,<-hme];have e9:zH (fo (setF st k f) j)=zH fx:=hnow;rw [e9];rfl)
 obtain ⟨m_A2,m_c2,m_A4,m_c4,⟨q1,q2,q3,q4,_⟩,HNW⟩:=z6a H7.out hjl HAJ.out hman;rw [hme] at HNW q1 q3 q4;obtain ⟨D2,e2,D3,e3,D4,e4,D5,e5,D6,e6,eh,hF,v0,v1,v2,v3,v4,v5,v6,hg7,gz⟩:=H7.out.fold (ZO hjl) HAJ.out;rw [eh] at HNW;have HNC:=zh (HNW w7 zbr);have HQ4:=zh q4;have qm:=z48 m.folder m.parent m.who m.seq m.cut m.gone (.slice m_A2 m.prev.length m_c2) (.slice m_A4 m.members.length m_c4);clear eh hF gz HNW q4 hnow hme hj2 hfxs hman hE7 hx7;go_wp2_with fail
 refine zcm HNC.out ?_;rintro e8 w8 ⟨rfl,B8⟩;have H8:=zh (H7.out.below B8);have HB8:=zh B8;clear v0 v1 v2 v3 v4 v5 v6 B8;go_wp2_with fail
 go_loopw [67] (fun i wq=>∃q:Nat,q<=m.members.length/\i= .int .i64 q/\Hid (Wrote X base bw w8 R1 c dv late (setF st k (ZZ (fun _=>false) f (m.members.take q))) done wq)) (fun i _=>m.members.length - (intOf i).toNat)
 case atStart=>exact ⟨0,by omega,by go_num,Wrote.refl H8.out⟩
 obtain ⟨q,_,rfl,HWQ⟩:=hrel;by_cases hql:q < m.members.length
 rotate_left
 ·obtain rfl:q=m.members.length:=by omega
  have HFU:=zh (show Wrote X base bw w3 R c dv late (setF st k (ZZ (fun _=>false) f m.members)) done wr from by
   obtain ⟨R3,k1,k2,k3⟩:=HWQ.out;rw [qLnx] at k1;exact ⟨R3,k1,(HM1.out.trans (Mut.below (zB HB7.out HB8.out))).trans k2,k3.trans HF1.out⟩)
  have HGU:=zh (HGV.out.trans (z4v (fun _=>false) m.members f));have HCU:=zh (HST.out.symm.trans HCO.out);have HLU:=zh ((zAk (fun _=>false) m.members f).trans HLK.out);have hln:=z79 (fun _=>false) m.members f;go_wp2;go_roundw
  case rel=>exact ⟨n+1,ZZ (fun _=>false) f m.members,by omega,by go_num,HFU,HGU,HCU,HLU,by omega⟩
  case measure=>exact qMx
 have hqi:(q:Int) < (m.members.length:Int):=by omega
 obtain ⟨R2,h2,m2,e2'⟩:=HWQ.out;obtain ⟨y,_,_,y_k,y_d,y_m,rfl,_,_,_,_,y_R,y_name_le,_⟩:=YW HQ4.out hql (Mut.kept ((Mut.below HB8.out).trans m2));have HY:=zh y_k;clear y_k y_d y_m y_R;obtain ⟨w9,hw9,cw9,fw9,Bw9,qw9⟩:=zQ wr #[.string ⟨#[]⟩,.int .i64 0] 87;have T9:w9.heap[wr.heap.size]? =some (.cells #[.string ⟨#[]⟩,.int .i64 0] 87 (0,0)):=by rw [<-hw9];exact zJ _ rfl
 have d0:w9.cell? ⟨wr.heap.size,0,none⟩=some (.string ⟨#[]⟩):=(zD T9).1 0 _ rfl;have d1:w9.cell? ⟨wr.heap.size,1,none⟩=some (.int .i64 0):=(zD T9).1 1 _ rfl;have dz:=(zD T9).2;have HT9:=zh T9;have HB9:=zh Bw9;have HK2:=zh h2;have HM2:=zh m2;have HF2:=zh e2';clear h2 m2 e2' cw9 fw9 T9 Bw9;go_wp2_with fail
 have E1:=zI (i:=1) (.int .i64 y.role) (zI (i:=0) (.string y.name) HT9.out rfl) rfl;have E2:ButB (fun z=>z=wr.heap.size) w9 ((w9.setCell ⟨wr.heap.size,0,none⟩ (.string y.name)).setCell ⟨wr.heap.size,1,none⟩ (.int .i64 y.role)):=((ButB.refl (fun z=>z=wr.heap.size) w9).set _ _ rfl).set _ _ rfl;generalize hw10:World.setCell _ _ _=w10 at E1 E2⊢;have B10:Below wr.heap.size wr w10:=ButB.below HB9.out (by omega) (fun z hz=>by omega) E2;have hk2l:k < (setF st k (ZZ (fun _=>false) f (m.members.take q))).folders.length:=by rw [Y4];exact hk
 have hfo2:fo (setF st k (ZZ (fun _=>false) f (m.members.take q))) k=ZZ (fun _=>false) f (m.members.take q):=Y3 hk;have gv2:=z4v (fun _=>false) (m.members.take q) f;have hln:=z79 (fun _=>false) (m.members.take q) f;have htl:(m.members.take q).length<=100:=by rw [List.length_take];omega
 refine zcm (z85 (HK2.out.below B10) hk2l (HGA.out.keep HF2.out) (by rw [hfo2];exact gv2.wr (HGV.out.wr HRI.out)) (by rw [hfo2];omega) (by rw [hfo2,gv2.ep,HGV.out.ep];exact hel) y.name y_name_le false) ?_;clear hw10 E1 E2 d0 d1 dz hw9 qw9 gv2 hln htl;rintro _ w11 ⟨rfl,hw11⟩;have HWN:=zh (show Wrote X base bw w8 R1 c dv late (setF st k (ZZ (fun _=>false) f (m.members.take (q+1)))) done w11 from by
  rw [hfo2,z0n] at hw11;rw [zBy HY.out];obtain ⟨R3,k1,k2,k3⟩:=hw11;exact ⟨R3,k1,(HM2.out.trans (Mut.below B10)).trans k2,k3.trans HF2.out⟩)
 clear hw11 hfo2 B10;go_wp2;go_roundw
 case rel=>exact ⟨q+1,by omega,by go_num,HWN⟩
 case measure=>exact qMx
end
end
end Go.Proofs.YtdggplhnfhcieaaGreatDoor
