/- Part 39 of the proof of vaultGranted_holds. No condition. -/
import Derived.SevenTiedAt
import Derived.Stop.Joined
import Derived.Test.YtdggplhnfhcieaaGreatDoorCards
import Derived.Test.YtdggplhnfhcieaaGreatDoorY19
import Derived.Test.YtdggplhnfhcieaaGreatDoorY38
set_option linter.unusedVariables false
set_option linter.unusedSimpArgs false
set_option linter.unusedSectionVars false
set_option maxRecDepth 100000
namespace Go.Proofs.YtdggplhnfhcieaaGreatDoor
section
open Go.RowKit Go.Deep
theorem zOd {l:List Call} (h:z99 l=true):l.length<=40/\∀x∈l,z6q x:=by
 unfold z99 at h
 rw [Bool.and_eq_true,decide_eq_true_eq,List.all_eq_true] at h
 exact ⟨h.2,fun x hx=>by obtain ⟨h1,h2,h3,h4,_⟩:=zAw.1 (h.1 x hx);exact ⟨h1,h2,h3,h4⟩⟩
theorem VS.inner {P B:Nat->Prop} {bv:Nat} {w w':World} {st:State} {q r:Int} (h:VS P bv w st q r) (hb:ButB B w w') (hB:∀b,B b->P b/\b≠bv):VS P bv w' st q r:=by
 obtain ⟨v1,v2,v3,h1,h2⟩:=h.box
 exact ⟨⟨v1,v2,v3,(hb.block bv h.lt fun e=>(hB bv e).2 rfl).trans h1,zR h2 fun b hn hl=>⟨hn,hb.block b hl fun e=>hn (hB b e).1⟩⟩,h.pb,fun b e=>zll (h.pl b e) hb.size⟩
structure GI (k:Nat) (st:State):Prop where
 v:VInv k st
 d:yP st
 n:NInv st
 w:zQz st
theorem GI.start:GI 0 ⟨0,[],[],[]⟩:=⟨VInv.start,iA0,NInv.start,fun f hf=>by cases hf⟩
theorem GI.next {k:Nat} {st:State} (h:GI k st) {q r:Int} {x:Call} (hs:z6q x):GI (k+1) (ZZ st q r x).1:=
 ⟨(z74 h.v h.d hs).1,(z74 h.v h.d hs).2,callV_names h.n hs,(callV_grow h.v h.w hs).wa⟩
theorem GI.reach {k:Nat} {st:State} (h:GI k st) {q r:Int} {x:Call} (hs:z6q x):∀{u g:Nm} {a b:Int},IsReach st u g a->IsReach (ZZ st q r x).1 u g b->a<=b:=fun ha hb=>
 have k':=h.next (q:=q) (r:=r) hs
 reach_grow (callV_grow h.v h.w hs) h.v.names k'.v.names (fun f hf=>(k'.v.fol f hf).wr) h.w ha hb
theorem zQu {S:Nat->Prop} {w:World} {u f x:Nm} {m:Int} (hm:I64 m) (hu:u.size<=20) (hf:f.size<=20) (hx:x.size<=20):z0s S w (z26 (z73 u f x m) (.slice none 0 0)) (z73 u f x m):=by
 refine ⟨_,rfl,?_,Nat.le_trans hu (by decide),Nat.le_trans hf (by decide),Nat.le_trans hx (by decide),?_,?_,hm,z00 _ _ _ _⟩
 ·exact (⟨by decide,by decide⟩:I64 9)
 ·exact (by decide:(0:Nat)<=140737488355328)
 exact (⟨by decide,by decide⟩:I64 0)
def Was (P:Nat->Prop) (b:Nat) (w:World) (st:State):Prop:=∃A1 c1 A2 c2 A3 c3,w.heap[b]? =some (.cells #[.int .i64 st.turn,.slice A1 st.users.length c1,.slice A2 st.deposits.length c2,.slice A3 st.folders.length c3] 34 (0,0))/\ZX (fun b=>¬P b) w [.int .i64 st.turn,.slice A1 st.users.length c1,.slice A2 st.deposits.length c2,.slice A3 st.folders.length c3] st
section
variable {P B:Nat->Prop} {b:Nat} {w w':World} {st:State}
theorem Was.keep (h:Was P b w st) (hb:ButB B w w') (hB:∀x,B x->P x/\x≠b):Was P b w' st:=by
 obtain ⟨A1,c1,A2,c2,A3,c3,h1,h2⟩:=h
 exact ⟨A1,c1,A2,c2,A3,c3,(hb.block b (zM h1) fun e=>(hB b e).2 rfl).trans h1,zR h2 fun x hn hl=>⟨hn,hb.block x hl fun e=>hn (hB x e).1⟩⟩
theorem Was.below (h:Was P b w st) (hb:Below w.heap.size w w'):Was P b w' st:=by
 obtain ⟨A1,c1,A2,c2,A3,c3,h1,h2⟩:=h
 exact ⟨A1,c1,A2,c2,A3,c3,(hb.block b (zM h1)).trans h1,zR h2 (zH hb)⟩
end
set_option maxHeartbeats 16000000 in
theorem walkG (w:World) (l:List Call) (v:Value) (h:Sl 8 z0s (fun _=>True) w v l) (hm:MayOk w):
  Calls Tryz.prog 7 #[v] w fun e w'=>e= .returned (.bool true)/\Below w.heap.size w w':=by
 have HC:=zh h
 have HM:=zh hm
 obtain ⟨A,c,rfl,hl,hc,hln,hs⟩:=h
 unfold maxLen at hc
 have qg:=zA1
 clear hm
 go_enter Tryz.func7,Tryz.ntmps7
 go_wp2_with fail
 refine zcm (zMk w HM.out) ?_
 rintro e1 w1 ⟨rfl,B1⟩
 have HB1:=zh B1
 clear B1
 cases hf:z99 l with
 | false=>
  have HF:=zh hf
  clear hf
  go_wp2_with fail
  refine zcm (zDo l _ w1 (fun _=>True) (HC.out.keep z7j (by decide) (zH HB1.out))) ?_
  rw [HF.out]
  rintro e6 w6 ⟨rfl,B6⟩
  have HX6:=zh (zB HB1.out B6)
  clear B6
  go_wp2
  go_ret
  exact ⟨rfl,HX6.out⟩
 | true=>
  have HF:=zh hf
  have HL:=zh (zOd hf)
  clear hf
  by_cases h20:l.length<=20
  rotate_left
  ·have d20:decide ((20:Int) < (l.length:Int))=true:=decide_eq_true (by omega)
   clear h20
   go_wp2_with fail
   refine zcm (zDo l _ w1 (fun _=>True) (HC.out.keep z7j (by decide) (zH HB1.out))) ?_
   rw [HF.out]
   rintro e6 w6 ⟨rfl,B6⟩
   have HX6:=zh (zB HB1.out B6)
   clear B6
   go_wp2
   go_ret
   exact ⟨rfl,HX6.out⟩
  have d20:decide ((20:Int) < (l.length:Int))=false:=decide_eq_false (by omega)
  have H20:=zh h20
  clear h20
  go_wp2_with fail
  refine zcm (zDo l _ w1 (fun _=>True) (HC.out.keep z7j (by decide) (zH HB1.out))) ?_
  rw [HF.out]
  rintro e6 w6 ⟨rfl,B6⟩
  have HX6:=zh (zB HB1.out B6)
  clear B6
  go_wp2_with fail
  refine zcm (zGp w6 1073741824 1048576 ⟨by omega,by omega⟩) ?_
  rintro e7 w7 ⟨rfl,V7,B7⟩
  have HX7:=zh (zB HX6.out B7)
  have HLT:=zh (show w.heap.size<=w6.heap.size from HX6.out.size)
  have HG0:=zh GI.start
  generalize (⟨0,[],[],[]⟩:State)=st0 at V7 HG0
  have HV7:=zh V7
  clear V7 B7 d20
  go_wp2_with fail
  refine zcm (z5q HV7.out (z7f HG0.out.v (by omega) HG0.out.d)) ?_
  rintro e8 w8 ⟨cs8,rfl,hst8,B8⟩
  have HSA:=zh hst8
  obtain ⟨A1,c1,A2,c2,A3,c3,hcs,_⟩:=ZL hst8
  subst hcs
  obtain ⟨x8,hx8,cx8,fx8,Bx8,qx8⟩:=zO w8 #[.int .i64 st0.turn,.slice A1 st0.users.length c1,.slice A2 st0.deposits.length c2,.slice A3 st0.folders.length c3] 34
  have HV8:=zh (HV7.out.below B8)
  have HQ:=zh (HV8.out.more Bx8 (Q:=fun b=>b=w8.heap.size) (fun b e=>by subst e;exact ⟨znl _,qx8⟩))
  have HWas:Hid (Was (fun b=>b=w6.heap.size\/b=w8.heap.size) w8.heap.size x8 st0):=zh ⟨A1,c1,A2,c2,A3,c3,by rw [<-hx8];exact zJ _ rfl,zR HSA.out fun b hb hl=>⟨fun e=>e.elim hb (fun e=>by omega),Bx8.block b hl⟩⟩
  have HX8:=zh (zB HX7.out (zB B8 Bx8))
  have HL8:=zh (show w6.heap.size < w8.heap.size from HV8.out.lt)
  clear B8 cx8 fx8 Bx8 hst8 qx8
  go_wp2_with fail
  go_loopw [42] (fun i wr=>∃(k:Nat) (st:State),k<=l.length/\i= .int .i64 k/\Hid (VS (fun b=>b=w6.heap.size\/b=w8.heap.size) w6.heap.size wr st 1073741824 1048576)/\Hid (GI k st)/\Hid (Was (fun b=>b=w6.heap.size\/b=w8.heap.size) w8.heap.size wr st)/\Hid (Below w.heap.size w wr)) (fun i _=>l.length - (RowKit.intOf i).toNat)
  case atStart=>exact ⟨0,st0,by omega,by go_num,HQ,HG0,HWas,HX8⟩
  obtain ⟨wr1,rfl⟩:∃q,q=wr:=⟨_,rfl⟩
  obtain ⟨k,st,hk,rfl,HV,HG,HW5,HB⟩:=hrel
  by_cases hlt:k < l.length
  ·obtain ⟨x,b,o,A7,c7,hx,_,hxm,rfl,hb,_,x0,x1,x2,x3,x4,x5,x6,x7,hrc,_⟩:=zFf (S':=fun b=>¬(b=w6.heap.size\/b=w8.heap.size)) hs hlt (fun b _ hl=>⟨fun e=>by have:=HLT.out;have:=HL8.out;omega,HB.out.block b hl⟩)
   have HS:=zh (HL.out.2 x hxm)
   have hk40:k<=19:=by have:=H20.out;omega
   obtain ⟨wb,hwb,cwb,fwb,Bwb,qwb⟩:=zO wr1 #[.int .i64 x.kind,.string x.user,.string x.folder,.string x.name,.string x.other,.int .i64 x.role,.int .i64 x.version,.slice A7 x.data.length c7] 41
   have HNB:=zh (zbx hwb)
   have HBb:=zh (zB HB.out Bwb)
   have HVb:=zh (HV.out.below Bwb)
   have HWb:=zh (HW5.out.below Bwb)
   have HRC:=zh hrc
   have HWB:=zh Bwb
   have k0:=(zD HNB.out).1 0 _ rfl
   have k1:=(zD HNB.out).1 1 _ rfl
   have k2:=(zD HNB.out).1 2 _ rfl
   have k3:=(zD HNB.out).1 3 _ rfl
   have k4:=(zD HNB.out).1 4 _ rfl
   have k5:=(zD HNB.out).1 5 _ rfl
   have k6:=(zD HNB.out).1 6 _ rfl
   have k7:=(zD HNB.out).1 7 _ rfl
   clear hx hxm hrc cwb fwb Bwb hb
   go_wp2_with fail
   refine zcm (z98 (c:=x) HVb.out (YD HRC.out (zH HWB.out)) HG.out.v (by omega) HG.out.d (HM.out.below HBb.out) HS.out) ?_
   rintro e5 z5 ⟨cs5,rfl,V5,_,C5⟩
   have HGN:=zh (HG.out.next (q:=1073741824) (r:=1048576) HS.out)
   have HRE:=zh (show ∀(u g:Nm) (a b:Int),IsReach st u g a->IsReach (ZZ st 1073741824 1048576 x).1 u g b->a<=b from fun u g a b=>HG.out.reach HS.out)
   obtain ⟨st5,hst5⟩:∃s,(ZZ st 1073741824 1048576 x).1=s:=⟨_,rfl⟩
   rw [hst5] at V5 HGN HRE
   have HV5:=zh V5
   have HW5a:=zh (HWb.out.keep C5 fun x e=>⟨.inl e,fun e2=>by have:=HL8.out;omega⟩)
   have HB5:=zh (ButB.below HBb.out HBb.out.size (fun z hz=>by have:z=w6.heap.size:=hz;have:=HLT.out;omega) C5)
   clear V5 C5 hst5 k0 k1 k2 k3 k4 k5 k6 k7
   go_wp2_with fail
   refine zcm (z5q HV5.out (z7f HGN.out.v (by omega) HGN.out.d)) ?_
   rintro e6 z6 ⟨cs6,rfl,hst6,C6⟩
   have HS6:=zh hst6
   obtain ⟨D1,d1,D2,d2,D3,d3,hcs,_,_,_,_,_,_,_,_,_,hl3,hm3,hn3,hs3⟩:=ZL hst6
   subst hcs
   obtain ⟨y6,hy6,cy6,fy6,By6,qy6⟩:=zO z6 #[.int .i64 st5.turn,.slice D1 st5.users.length d1,.slice D2 st5.deposits.length d2,.slice D3 st5.folders.length d3] 34
   have HN8:=zh (zbx hy6)
   have HV6:=zh (HV5.out.below (zB C6 By6))
   have HW6:=zh (HW5a.out.below (zB C6 By6))
   have HB6:=zh (zB HB5.out (zB C6 By6))
   have HS6y:=zh (zR HS6.out (zH By6))
   have HSF:=zh (hs3.keep z02 (by decide) (zH By6))
   obtain ⟨E1,g1,E2,g2,E3,g3,hb5,hr5⟩:=HW6.out
   have HB5c:=zh hb5
   have HR5:=zh hr5
   obtain ⟨_,_,_,_,_,_,hcs5,_,hl1,hm1,hn1,hs1,_⟩:=ZL hr5
   simp only [List.cons.injEq,Value.slice.injEq,true_and,and_true] at hcs5
   obtain ⟨⟨rfl,rfl⟩,⟨rfl,rfl⟩,rfl,rfl⟩:=hcs5
   have HSU:=zh hs1
   have HSM:=zh (HG.out.v.small (by omega))
   have HSM5:=zh (HGN.out.v.small (by omega))
   have t0:=(zD hb5).1 0 _ rfl
   have t1:=(zD hb5).1 1 _ rfl
   have t2:=(zD hb5).1 2 _ rfl
   have t3:=(zD hb5).1 3 _ rfl
   have s0:=(zD HN8.out).1 0 _ rfl
   have s1:=(zD HN8.out).1 1 _ rfl
   have s2:=(zD HN8.out).1 2 _ rfl
   have s3:=(zD HN8.out).1 3 _ rfl
   clear C6 cy6 fy6 By6 qy6 hst6 hs3 hb5 hr5 hs1
   go_wp2_with fail
   go_loopw [54] (fun i wr2=>∃(k2:Nat),k2<=st5.folders.length/\i= .int .i64 k2/\Hid (Below y6.heap.size y6 wr2)) (fun i _=>st5.folders.length - (RowKit.intOf i).toNat)
   case atStart=>exact ⟨0,by omega,by go_num,zh zbr⟩
   obtain ⟨wr2,rfl⟩:∃q,q=wr:=⟨_,rfl⟩
   obtain ⟨k2,hk2,rfl,HB2⟩:=hrel
   by_cases hlt2:k2 < st5.folders.length
   rotate_left
   ·obtain rfl:k2=st5.folders.length:=by omega
    have T0:=(HB2.out.cell (p:=⟨w8.heap.size,0,none⟩) (zF t0)).trans t0
    have HK5:=zh ((HB2.out.block _ (zM HB5c.out)).trans HB5c.out)
    have S0:=(HB2.out.cell (p:=⟨z6.heap.size,0,none⟩) (zF s0)).trans s0
    have S1:=(HB2.out.cell (p:=⟨z6.heap.size,1,none⟩) (zF s1)).trans s1
    have S2:=(HB2.out.cell (p:=⟨z6.heap.size,2,none⟩) (zF s2)).trans s2
    have S3:=(HB2.out.cell (p:=⟨z6.heap.size,3,none⟩) (zF s3)).trans s3
    have T1:=(zD HK5.out).1 1 _ rfl
    have T2:=(zD HK5.out).1 2 _ rfl
    have T3:=(zD HK5.out).1 3 _ rfl
    have tz:=(zD HK5.out).2
    have HVe:=zh (HV6.out.below HB2.out)
    have HBe:=zh (zB HB6.out HB2.out)
    have HS6e:=zh (zR HS6y.out (zH HB2.out))
    clear s0 s1 s2 s3 t0 t1 t2 t3
    go_wp2
    obtain ⟨F1,F2⟩:=zGm HK5.out (.int .i64 st5.turn) (.slice D1 st5.users.length d1) (.slice D2 st5.deposits.length d2) (.slice D3 st5.folders.length d3)
    have HBT:=zh (((((ButB.refl (fun b=>b=w8.heap.size) wr2).set ⟨w8.heap.size,0,none⟩ (.int .i64 st5.turn) rfl).set ⟨w8.heap.size,1,none⟩ (.slice D1 st5.users.length d1) rfl).set ⟨w8.heap.size,2,none⟩ (.slice D2 st5.deposits.length d2) rfl).set ⟨w8.heap.size,3,none⟩ (.slice D3 st5.folders.length d3) rfl)
    have HVT:=zh (HVe.out.inner HBT.out fun b e=>⟨.inr e,fun e2=>by have:=HL8.out;omega⟩)
    have HWT:Hid (Was (fun b=>b=w6.heap.size\/b=w8.heap.size) w8.heap.size _ st5):=zh ⟨D1,d1,D2,d2,D3,d3,F1,zR HS6e.out fun b hb hl=>⟨hb,F2 b fun e=>hb (.inr e)⟩⟩
    have HBTb:=zh (ButB.below HBe.out HBe.out.size (fun z hz=>by have:z=w8.heap.size:=hz;have:=HLT.out;have:=HL8.out;omega) HBT.out)
    clear S0 S1 S2 S3 T0 T1 T2 T3 tz F1 F2
    go_roundw
    case rel=>exact ⟨k+1,st5,by omega,by go_num,HVT,HGN,HWT,HBTb⟩
    case measure=>simp [RowKit.intOf];omega
   obtain ⟨f,fb,fof,F2,n2,F3,n3,F4,n4,F5,n5,F6,n6,hfx,_,hfm,rfl,hfb,_,f0,f1,f2,f3,f4,f5,f6,hrf,_⟩:=z1r HSF.out hlt2 (zH HB2.out)
   obtain ⟨wc,hwc,cwc,fwc,Bwc,qwc⟩:=zO wr2 #[.string f.name,.int .i64 f.turn,.slice F2 f.manifests.length n2,.slice F3 f.epochs.length n3,.slice F4 f.items.length n4,.slice F5 f.wraps.length n5,.slice F6 f.links.length n6] 74
   have HNC:=zh (zbx hwc)
   have HBc:=zh (zB HB2.out Bwc)
   have T0:=(HBc.out.cell (p:=⟨w8.heap.size,0,none⟩) (zF t0)).trans t0
   have T1:=(HBc.out.cell (p:=⟨w8.heap.size,1,none⟩) (zF t1)).trans t1
   have T2:=(HBc.out.cell (p:=⟨w8.heap.size,2,none⟩) (zF t2)).trans t2
   have T3:=(HBc.out.cell (p:=⟨w8.heap.size,3,none⟩) (zF t3)).trans t3
   have S0:=(HBc.out.cell (p:=⟨z6.heap.size,0,none⟩) (zF s0)).trans s0
   have S1:=(HBc.out.cell (p:=⟨z6.heap.size,1,none⟩) (zF s1)).trans s1
   have S2:=(HBc.out.cell (p:=⟨z6.heap.size,2,none⟩) (zF s2)).trans s2
   have S3:=(HBc.out.cell (p:=⟨z6.heap.size,3,none⟩) (zF s3)).trans s3
   have u0:=(zD HNC.out).1 0 _ rfl
   have HSUc:=zh (HSU.out.keep YG (by decide) (zH HBc.out))
   have HR5c:=zh (zR HR5.out (zH HBc.out))
   have HS6c:=zh (zR HS6y.out (zH HBc.out))
   clear hfx hfm hrf cwc fwc Bwc hfb
   go_wp2_with fail
   go_loopw [61] (fun i wr3=>∃(k3:Nat),k3<=st.users.length/\i= .int .i64 k3/\Hid (Below wc.heap.size wc wr3)) (fun i _=>st.users.length - (RowKit.intOf i).toNat)
   case atStart=>exact ⟨0,by omega,by go_num,zh zbr⟩
   obtain ⟨wr3,rfl⟩:∃q,q=wr:=⟨_,rfl⟩
   obtain ⟨k3,hk3,rfl,HB3⟩:=hrel
   by_cases hlt3:k3 < st.users.length
   rotate_left
   ·obtain rfl:k3=st.users.length:=by omega
    have HBe:=zh (zB HBc.out HB3.out)
    go_wp2
    go_roundw
    case rel=>exact ⟨k2+1,by omega,by go_num,HBe⟩
    case measure=>simp [RowKit.intOf];omega
   obtain ⟨u,ub,uo,hux,_,hum,rfl,hub,_,p0,p1,hru,_⟩:=z5w HSUc.out hlt3 (zH HB3.out)
   obtain ⟨wd,hwd,cwd,fwd,Bwd,qwd⟩:=zO wr3 #[.string u.name,.bool u.lost] 91
   have HND:=zh (zbx hwd)
   have HBd:=zh (zB HB3.out Bwd)
   have HU20:=zh (show u.name.size<=1000 from by have:=HG.out.v.us20 u hum;omega)
   have r0:=(HBd.out.cell (p:=⟨w8.heap.size,0,none⟩) (zF T0)).trans T0
   have r1:=(HBd.out.cell (p:=⟨w8.heap.size,1,none⟩) (zF T1)).trans T1
   have r2:=(HBd.out.cell (p:=⟨w8.heap.size,2,none⟩) (zF T2)).trans T2
   have r3:=(HBd.out.cell (p:=⟨w8.heap.size,3,none⟩) (zF T3)).trans T3
   have v0:=(HBd.out.cell (p:=⟨z6.heap.size,0,none⟩) (zF S0)).trans S0
   have v1:=(HBd.out.cell (p:=⟨z6.heap.size,1,none⟩) (zF S1)).trans S1
   have v2:=(HBd.out.cell (p:=⟨z6.heap.size,2,none⟩) (zF S2)).trans S2
   have v3:=(HBd.out.cell (p:=⟨z6.heap.size,3,none⟩) (zF S3)).trans S3
   have w0:=(HBd.out.cell (p:=⟨wr2.heap.size,0,none⟩) (zF u0)).trans u0
   have q0:=(zD HND.out).1 0 _ rfl
   have HR5d:=zh (zR HR5c.out (zH HBd.out))
   have HS6d:=zh (zR HS6c.out (zH HBd.out))
   clear hux hum hru cwd fwd Bwd hub
   go_upto_region 18 with fail
   have HSQ:=zh (show ∀W':World,Below wd.heap.size wd W'->(fun W':World=>Below wd.heap.size wd W'/\W'.cell? ⟨w8.heap.size,0,none⟩=some (.int .i64 st.turn)/\W'.cell? ⟨w8.heap.size,1,none⟩=some (.slice (some ⟨ub,uo,none⟩) st.users.length g1)/\W'.cell? ⟨w8.heap.size,2,none⟩=some (.slice E2 st.deposits.length g2)/\W'.cell? ⟨w8.heap.size,3,none⟩=some (.slice E3 st.folders.length g3)/\W'.cell? ⟨z6.heap.size,0,none⟩=some (.int .i64 st5.turn)/\W'.cell? ⟨z6.heap.size,1,none⟩=some (.slice D1 st5.users.length d1)/\W'.cell? ⟨z6.heap.size,2,none⟩=some (.slice D2 st5.deposits.length d2)/\W'.cell? ⟨z6.heap.size,3,none⟩=some (.slice (some ⟨fb,fof,none⟩) st5.folders.length d3)/\W'.cell? ⟨wr2.heap.size,0,none⟩=some (.string f.name)/\W'.cell? ⟨wr3.heap.size,0,none⟩=some (.string u.name)) W' from fun W' hW=>⟨hW,(hW.cell (p:=⟨w8.heap.size,0,none⟩) (zF r0)).trans r0,(hW.cell (p:=⟨w8.heap.size,1,none⟩) (zF r1)).trans r1,(hW.cell (p:=⟨w8.heap.size,2,none⟩) (zF r2)).trans r2,(hW.cell (p:=⟨w8.heap.size,3,none⟩) (zF r3)).trans r3,(hW.cell (p:=⟨z6.heap.size,0,none⟩) (zF v0)).trans v0,(hW.cell (p:=⟨z6.heap.size,1,none⟩) (zF v1)).trans v1,(hW.cell (p:=⟨z6.heap.size,2,none⟩) (zF v2)).trans v2,(hW.cell (p:=⟨z6.heap.size,3,none⟩) (zF v3)).trans v3,(hW.cell (p:=⟨wr2.heap.size,0,none⟩) (zF w0)).trans w0,(hW.cell (p:=⟨wr3.heap.size,0,none⟩) (zF q0)).trans q0⟩)
   refine zE (by kernel_rfl) HSQ.out (fun hHeld=>?_)
   refine zi 0 ?_
   iterate 5 (refine zt _ rfl (by kernel_rfl) rfl (fun _ _ _ h=>h) hHeld (by intro W' h;go_simp;try with_reducible rfl) ?_;simp only [zA])
   refine zo ?_
   refine zi 6 ?_
   iterate 5 (refine zt _ rfl (by kernel_rfl) rfl (fun _ _ _ h=>h) hHeld (by intro W' h;go_simp;try with_reducible rfl) ?_;simp only [zA])
   refine zo ?_
   refine zr 5 (by kernel_rfl) rfl (fun K hK=>?_)
   go_simp
   go_at_call 28
   refine zcm (z4y st HSM.out u.name f.name HU20.out _ _ (fun b=>¬(b=w6.heap.size\/b=w8.heap.size)) (zR HR5d.out (zH (zbr.drew)))) ?_
   rintro e3 m3 ⟨⟨e1,rfl,he1⟩,b3⟩
   have Bm3:Below wd.heap.size wd m3:=zB (zbr.drew) b3
   clear b3 hHeld
   refine hK.out _ _ (HSQ.out _ Bm3) (fun hHeld=>?_)
   clear hK K
   have HE1:=zh he1
   clear he1
   refine zr 11 (by kernel_rfl) rfl (fun K hK=>?_)
   go_simp
   go_at_call 28
   refine zcm (z4y st5 HSM5.out u.name f.name HU20.out _ _ (fun b=>¬(b=w6.heap.size\/b=w8.heap.size)) (zR HS6d.out (zH (Bm3)))) ?_
   rintro e3 m4 ⟨⟨e2,rfl,he2⟩,b3⟩
   have Bm4:Below wd.heap.size wd m4:=zB (Bm3) b3
   clear b3 hHeld
   refine hK.out _ _ (HSQ.out _ Bm4) (fun hHeld=>?_)
   clear hK K
   have hle:decide (e2 < e1)=false:=decide_eq_false (by have:=HRE.out _ _ _ _ HE1.out he2;omega)
   clear he2
   refine zT 12 _ rfl (by kernel_rfl) rfl (fun _ _ _ h=>h) hHeld (by intro W' h;go_simp;try with_reducible rfl) ?_
   simp only [zA]
   refine wpAnyH_done (by kernel_rfl) ?_ _
   clear hHeld HSQ
   have HBm:=zh (zB HBd.out Bm4)
   clear Bm3 Bm4 r0 r1 r2 r3 v0 v1 v2 v3 w0 q0
   go_wp2
   go_roundw
   case rel=>exact ⟨k3+1,by omega,by go_num,HBm⟩
   case measure=>simp [RowKit.intOf];omega
  obtain rfl:k=l.length:=by omega
  have HK20:=H20.out
  obtain ⟨E1,g1,E2,g2,E3,g3,hb5,hr5⟩:=HW5.out
  have HR5:=zh hr5
  have HB5c:=zh hb5
  obtain ⟨_,_,_,_,_,_,hcs5,_,hl1,hm1,hn1,hs1,_,_,_,_,hl3,hm3,hn3,hs3⟩:=ZL hr5
  simp only [List.cons.injEq,Value.slice.injEq,true_and,and_true] at hcs5
  obtain ⟨⟨rfl,rfl⟩,⟨rfl,rfl⟩,rfl,rfl⟩:=hcs5
  have HSU:=zh hs1
  have HSF:=zh hs3
  have HSM:=zh (HG.out.v.small (by omega))
  have t3:=(zD hb5).1 3 _ rfl
  clear hb5 hr5 hs1 hs3
  have HTT:=zh (show ∀(w1 w2:World),Below w.heap.size w w1->ButB (fun b=>b=w6.heap.size) w1 w2->Below w.heap.size w w2 from fun w1 w2 h k=>ButB.below h h.size (fun z hz=>by have:z=w6.heap.size:=hz;have:=HLT.out;omega) k)
  go_wp2_with fail
  go_loopw [85] (fun i wr4=>∃(k4:Nat),k4<=st.folders.length/\i= .int .i64 k4/\Hid (VS (fun b=>b=w6.heap.size\/b=w8.heap.size) w6.heap.size wr4 st 1073741824 1048576)/\Hid (ButB (fun b=>b=w6.heap.size) wr1 wr4)) (fun i _=>st.folders.length - (RowKit.intOf i).toNat)
  case atStart=>exact ⟨0,by omega,by go_num,HV,zh (ButB.refl _ _)⟩
  obtain ⟨wr4,rfl⟩:∃q,q=wr:=⟨_,rfl⟩
  obtain ⟨k4,hk4,rfl,HV4,HT4⟩:=hrel
  have HK4:=zh (show Kept (fun b=>¬(b=w6.heap.size\/b=w8.heap.size)) (fun b=>¬(b=w6.heap.size\/b=w8.heap.size)) wr1 wr4 from HT4.out.kept fun x hx=>⟨hx,fun e=>hx (.inl e)⟩)
  by_cases hlt4:k4 < st.folders.length
  rotate_left
  ·obtain rfl:k4=st.folders.length:=by omega
   have HKz:=zh ((HT4.out.block _ (zM HB5c.out) (fun e=>by have e':w8.heap.size=w6.heap.size:=e;have:=HL8.out;omega)).trans HB5c.out)
   have HR5z:=zh (zR HR5.out HK4.out)
   have HBz:=zh (HTT.out _ _ HB.out HT4.out)
   have HCK:=zh (z7f HG.out.v (by omega) HG.out.d)
   have HPV:=zh (show ∀f∈st.folders,∀m∈f.manifests,m.prev=[] from fun f hf=>(HG.out.v.fol f hf).pv)
   have s0:=(zD HKz.out).1 0 _ rfl
   have s1:=(zD HKz.out).1 1 _ rfl
   have s2:=(zD HKz.out).1 2 _ rfl
   have s3:=(zD HKz.out).1 3 _ rfl
   clear t3
   go_upto_region 45 with fail
   have HSQ:=zh (show ∀W':World,Below wr4.heap.size wr4 W'->(fun W':World=>Below wr4.heap.size wr4 W'/\W'.cell? ⟨w8.heap.size,0,none⟩=some (.int .i64 st.turn)/\W'.cell? ⟨w8.heap.size,1,none⟩=some (.slice E1 st.users.length g1)/\W'.cell? ⟨w8.heap.size,2,none⟩=some (.slice E2 st.deposits.length g2)/\W'.cell? ⟨w8.heap.size,3,none⟩=some (.slice E3 st.folders.length g3)) W' from fun W' hW=>⟨hW,(hW.cell (p:=⟨w8.heap.size,0,none⟩) (zF s0)).trans s0,(hW.cell (p:=⟨w8.heap.size,1,none⟩) (zF s1)).trans s1,(hW.cell (p:=⟨w8.heap.size,2,none⟩) (zF s2)).trans s2,(hW.cell (p:=⟨w8.heap.size,3,none⟩) (zF s3)).trans s3⟩)
   refine zE (by kernel_rfl) HSQ.out (fun hHeld=>?_)
   refine zT 0 _ rfl (by kernel_rfl) rfl (fun _ _ _ h=>h) hHeld (by intro W' h;go_simp;try with_reducible rfl) ?_
   simp only [zA]
   refine zT 2 _ rfl (by kernel_rfl) rfl (fun _ _ _ h=>h) hHeld (by intro W' h;go_simp;try with_reducible rfl) ?_
   simp only [zA]
   refine zr 1 (by kernel_rfl) rfl (fun K hK=>?_)
   go_simp
   go_at_call 19
   refine zcm (z5q (HV4.out.below (zbr.drew)) HCK.out) ?_
   rintro e3 m3 ⟨cs3,rfl,hst3,b3⟩
   have Bm3:Below wr4.heap.size wr4 m3:=zB (zbr.drew) b3
   clear b3 hHeld
   refine hK.out _ _ (HSQ.out _ Bm3) (fun hHeld=>?_)
   clear hK K
   have HS3:=zh hst3
   clear hst3
   refine zr 3 (by kernel_rfl) rfl (fun K hK=>?_)
   go_simp
   go_at_call 18
   refine zcm (zF3 st HPV.out cs3 [.int .i64 st.turn,.slice E1 st.users.length g1,.slice E2 st.deposits.length g2,.slice E3 st.folders.length g3] m3 _ _ HS3.out (zR HR5z.out (zH (Bm3)))) ?_
   rintro e3 m4 ⟨rfl,b3⟩
   have Bm4:Below wr4.heap.size wr4 m4:=zB (Bm3) b3
   clear b3 hHeld
   refine hK.out _ _ (HSQ.out _ Bm4) (fun hHeld=>?_)
   clear hK K
   refine zT 4 _ rfl (by kernel_rfl) rfl (fun _ _ _ h=>h) hHeld (by intro W' h;go_simp;try with_reducible rfl) ?_
   simp only [zA]
   refine wpAnyH_done (by kernel_rfl) ?_ _
   clear hHeld HSQ
   have HBm:=zh (zB HBz.out Bm4)
   clear Bm3 Bm4 s0 s1 s2 s3
   go_wp2
   go_ret
   exact ⟨rfl,HBm.out⟩
  obtain ⟨f,fb,fof,F2,n2,F3,n3,F4,n4,F5,n5,F6,n6,hfx,_,hfm,rfl,hfb,_,f0,f1,f2,f3,f4,f5,f6,hrf,_,_,_,_,_,_,_,_,_,_,il,im,inn,isl,_⟩:=z1r HSF.out hlt4 HK4.out
  obtain ⟨wc,hwc,cwc,fwc,Bwc,qwc⟩:=zO wr4 #[.string f.name,.int .i64 f.turn,.slice F2 f.manifests.length n2,.slice F3 f.epochs.length n3,.slice F4 f.items.length n4,.slice F5 f.wraps.length n5,.slice F6 f.links.length n6] 74
  have HNC:=zh (zbx hwc)
  have HVc:=zh (HV4.out.below Bwc)
  have HBc:=zh (zB (HTT.out _ _ HB.out HT4.out) Bwc)
  have HKc:=zh (show wc.heap[w8.heap.size]? =some _ from (Bwc.block _ (zll (zM HB5c.out) HT4.out.size)).trans ((HT4.out.block _ (zM HB5c.out) (fun e=>by have e':w8.heap.size=w6.heap.size:=e;have:=HL8.out;omega)).trans HB5c.out))
  have HSUc:=zh ((HSU.out.keep YG (by decide) HK4.out).keep YG (by decide) (zH Bwc))
  have HR5c:=zh (zR (zR HR5.out HK4.out) (zH Bwc))
  have HRFc:=zh (Z0 hrf (zH Bwc))
  have HSIc:=zh (isl.keep z1z (by decide) (zH Bwc))
  have HFX:=zh hfx
  have HV4l:=zh (show w6.heap.size < wr4.heap.size from HV4.out.lt)
  have HLC:=zh (show wr4.heap.size < wc.heap.size from qwc)
  have u4:=(zD HNC.out).1 4 _ rfl
  clear hfx hfm hrf cwc fwc Bwc hfb qwc isl
  go_wp2_with fail
  go_loopw [92] (fun i wr5=>∃(k5:Nat),k5<=f.items.length/\i= .int .i64 k5/\Hid (VS (fun b=>b=w6.heap.size\/b=w8.heap.size) w6.heap.size wr5 st 1073741824 1048576)/\Hid (ButB (fun b=>b=w6.heap.size) wc wr5)) (fun i _=>f.items.length - (RowKit.intOf i).toNat)
  case atStart=>exact ⟨0,by omega,by go_num,HVc,zh (ButB.refl _ _)⟩
  obtain ⟨wr5,rfl⟩:∃q,q=wr:=⟨_,rfl⟩
  obtain ⟨k5,hk5,rfl,HV5,HT5⟩:=hrel
  have HK5:=zh (show Kept (fun b=>¬(b=w6.heap.size\/b=w8.heap.size)) (fun b=>¬(b=w6.heap.size\/b=w8.heap.size)) wc wr5 from HT5.out.kept fun x hx=>⟨hx,fun e=>hx (.inl e)⟩)
  by_cases hlt5:k5 < f.items.length
  rotate_left
  ·obtain rfl:k5=f.items.length:=by omega
   have HE4:=zh (HT4.out.trans ((ButB.of (show Below wr4.heap.size wr4 wc from by rw [<-hwc];exact zbr.alloc (znl _) _)).trans HT5.out))
   go_wp2
   go_roundw
   case rel=>exact ⟨k4+1,by omega,by go_num,HV5,HE4⟩
   case measure=>simp [RowKit.intOf];omega
  obtain ⟨x,xb,xo,X1,x1,hxx,_,hxm,rfl,hxb,_,i0,i1,hrx,_,vl,vm,vn,vsl⟩:=z2m HSIc.out hlt5 HK5.out
  obtain ⟨wd,hwd,cwd,fwd,Bwd,qwd⟩:=zO wr5 #[.string x.name,.slice X1 x.versions.length x1] 78
  have HND:=zh (zbx hwd)
  have HVd:=zh (HV5.out.below Bwd)
  have HBd:=zh (zB (HTT.out _ _ HBc.out HT5.out) Bwd)
  have HKd:=zh ((Bwd.block _ (zll (zM HKc.out) HT5.out.size)).trans ((HT5.out.block _ (zM HKc.out) (fun e=>by have e':w8.heap.size=w6.heap.size:=e;have:=HL8.out;omega)).trans HKc.out))
  have HNCd:=zh ((Bwd.block _ (zll (zM HNC.out) HT5.out.size)).trans ((HT5.out.block _ (zM HNC.out) (fun e=>by have e':wr4.heap.size=w6.heap.size:=e;have:=HV4l.out;omega)).trans HNC.out))
  have HSUd:=zh ((HSUc.out.keep YG (by decide) HK5.out).keep YG (by decide) (zH Bwd))
  have HR5d:=zh (zR (zR HR5c.out HK5.out) (zH Bwd))
  have HRFd:=zh (Z0 (Z0 HRFc.out HK5.out) (zH Bwd))
  have HSVd:=zh (vsl.keep z1y (by decide) (zH Bwd))
  have HXX:=zh hxx
  have HV5l:=zh (show w6.heap.size < wr5.heap.size from HV5.out.lt)
  have j1:=(zD HND.out).1 1 _ rfl
  clear hxx hxm hrx cwd fwd Bwd hxb qwd vsl u4
  go_wp2_with fail
  go_loopw [99] (fun i wr6=>∃(k6:Nat),k6<=x.versions.length/\i= .int .i64 k6/\Hid (VS (fun b=>b=w6.heap.size\/b=w8.heap.size) w6.heap.size wr6 st 1073741824 1048576)/\Hid (ButB (fun b=>b=w6.heap.size) wd wr6)) (fun i _=>x.versions.length - (RowKit.intOf i).toNat)
  case atStart=>exact ⟨0,by omega,by go_num,HVd,zh (ButB.refl _ _)⟩
  obtain ⟨wr6,rfl⟩:∃q,q=wr:=⟨_,rfl⟩
  obtain ⟨k6,hk6,rfl,HV6,HT6⟩:=hrel
  have HK6:=zh (show Kept (fun b=>¬(b=w6.heap.size\/b=w8.heap.size)) (fun b=>¬(b=w6.heap.size\/b=w8.heap.size)) wd wr6 from HT6.out.kept fun x hx=>⟨hx,fun e=>hx (.inl e)⟩)
  by_cases hlt6:k6 < x.versions.length
  rotate_left
  ·obtain rfl:k6=x.versions.length:=by omega
   have HE5:=zh (HT5.out.trans ((ButB.of (show Below wr5.heap.size wr5 wd from by rw [<-hwd];exact zbr.alloc (znl _) _)).trans HT6.out))
   go_wp2
   go_roundw
   case rel=>exact ⟨k5+1,by omega,by go_num,HV6,HE5⟩
   case measure=>simp [RowKit.intOf];omega
  obtain ⟨y,yb,yo,Y3,y3,hyx,_,hym,rfl,hyb,_,m0,m1,m2,m3,hry,_⟩:=z3o HSVd.out hlt6 HK6.out
  obtain ⟨we,hwe,cwe,fwe,Bwe,qwe⟩:=zO wr6 #[.int .i64 y.epoch,.bool y.gone,.string y.who,.slice Y3 y.data.length y3] 80
  have HNE:=zh (zbx hwe)
  have HVe:=zh (HV6.out.below Bwe)
  have HBe:=zh (zB (HTT.out _ _ HBd.out HT6.out) Bwe)
  have HKe:=zh ((Bwe.block _ (zll (zM HKd.out) HT6.out.size)).trans ((HT6.out.block _ (zM HKd.out) (fun e=>by have e':w8.heap.size=w6.heap.size:=e;have:=HL8.out;omega)).trans HKd.out))
  have HNCe:=zh ((Bwe.block _ (zll (zM HNCd.out) HT6.out.size)).trans ((HT6.out.block _ (zM HNCd.out) (fun e=>by have e':wr4.heap.size=w6.heap.size:=e;have:=HV4l.out;omega)).trans HNCd.out))
  have HNDe:=zh ((Bwe.block _ (zll (zM HND.out) HT6.out.size)).trans ((HT6.out.block _ (zM HND.out) (fun e=>by have e':wr5.heap.size=w6.heap.size:=e;have:=HV5l.out;omega)).trans HND.out))
  have HSUe:=zh ((HSUd.out.keep YG (by decide) HK6.out).keep YG (by decide) (zH Bwe))
  have HR5e:=zh (zR (zR HR5d.out HK6.out) (zH Bwe))
  have HRFe:=zh (Z0 (Z0 HRFd.out HK6.out) (zH Bwe))
  have HYX:=zh hyx
  have HV6l:=zh (show w6.heap.size < wr6.heap.size from HV6.out.lt)
  have T1:=(zD HKe.out).1 1 _ rfl
  clear hyx hym hry cwe fwe Bwe hyb qwe j1
  go_wp2_with fail
  go_loopw [107] (fun i wr7=>∃(k7:Nat),k7<=st.users.length/\i= .int .i64 k7/\Hid (VS (fun b=>b=w6.heap.size\/b=w8.heap.size) w6.heap.size wr7 st 1073741824 1048576)/\Hid (ButB (fun b=>b=w6.heap.size) we wr7)) (fun i _=>st.users.length - (RowKit.intOf i).toNat)
  case atStart=>exact ⟨0,by omega,by go_num,HVe,zh (ButB.refl _ _)⟩
  obtain ⟨wr7,rfl⟩:∃q,q=wr:=⟨_,rfl⟩
  obtain ⟨k7,hk7,rfl,HV7',HT7⟩:=hrel
  have HK7:=zh (show Kept (fun b=>¬(b=w6.heap.size\/b=w8.heap.size)) (fun b=>¬(b=w6.heap.size\/b=w8.heap.size)) we wr7 from HT7.out.kept fun x hx=>⟨hx,fun e=>hx (.inl e)⟩)
  by_cases hlt7:k7 < st.users.length
  rotate_left
  ·obtain rfl:k7=st.users.length:=by omega
   have HE6:=zh (HT6.out.trans ((ButB.of (show Below wr6.heap.size wr6 we from by rw [<-hwe];exact zbr.alloc (znl _) _)).trans HT7.out))
   go_wp2
   go_roundw
   case rel=>exact ⟨k6+1,by omega,by go_num,HV7',HE6⟩
   case measure=>simp [RowKit.intOf];omega
  obtain ⟨u,ub,uo,hux,_,hum,rfl,hub,_,p0,p1,hru,_⟩:=z5w HSUe.out hlt7 HK7.out
  obtain ⟨wg,hwg,cwg,fwg,Bwg,qwg⟩:=zO wr7 #[.string u.name,.bool u.lost] 91
  have HNG:=zh (zbx hwg)
  have HWG:=zh Bwg
  have HVg:=zh (HV7'.out.below Bwg)
  have HBg:=zh (zB (HTT.out _ _ HBe.out HT7.out) Bwg)
  have HTg:=zh (HT7.out.trans (ButB.of Bwg))
  have HKg:=zh ((HTg.out.block _ (zM HKe.out) (fun e=>by have e':w8.heap.size=w6.heap.size:=e;have:=HL8.out;omega)).trans HKe.out)
  have HNCg:=zh ((HTg.out.block _ (zM HNCe.out) (fun e=>by have e':wr4.heap.size=w6.heap.size:=e;have:=HV4l.out;omega)).trans HNCe.out)
  have HNDg:=zh ((HTg.out.block _ (zM HNDe.out) (fun e=>by have e':wr5.heap.size=w6.heap.size:=e;have:=HV5l.out;omega)).trans HNDe.out)
  have HNEg:=zh ((HTg.out.block _ (zM HNE.out) (fun e=>by have e':wr6.heap.size=w6.heap.size:=e;have:=HV6l.out;omega)).trans HNE.out)
  have HR5g:=zh (zR (zR HR5e.out HK7.out) (zH Bwg))
  have HRFg:=zh (Z0 (Z0 HRFe.out HK7.out) (zH Bwg))
  have HUN:=zh (show u.name.size<=20 from HG.out.v.us20 u hum)
  have hfm:=zmg HFX.out
  have HFI:=HG.out.v.fol f hfm
  have hxi:=HFI.it x (zmg HXX.out)
  have HFN:=zh (show f.name.size<=20 from HFI.nm)
  have HXN:=zh (show x.name.size<=20 from hxi.2.2)
  have HK6:=zh (show k6 < 20 from by have:=hxi.2.1;have:=H20.out;omega)
  have HGL:=zh (zPo (q:=1073741824) (r:=1048576) HG.out.v HG.out.n hux HFX.out HXX.out HYX.out (by have:=HK6.out;omega))
  have HV7l:=zh (show w6.heap.size < wr7.heap.size from HV7'.out.lt)
  have HI6:=zh (show I64 ((k6:Int)+1) from ⟨by omega,by have:=HK6.out;omega⟩)
  have z0:=(zD HNG.out).1 0 _ rfl
  have z1:=(zD HNCg.out).1 0 _ rfl
  have z2:=(zD HNDg.out).1 0 _ rfl
  clear hux hum hru cwg fwg Bwg hub qwg hfm HFI hxi T1
  go_wp2_with fail
  refine zcm (z98 (c:=z73 u.name f.name x.name ((k6:Int)+1)) (dv:= .slice none 0 0) HVg.out (zQu HI6.out HUN.out HFN.out HXN.out) HG.out.v (by omega) HG.out.d (HM.out.below HBg.out) ⟨HUN.out,HFN.out,HXN.out,(show (0:Nat)<=20 by decide)⟩) ?_
  rintro e1 j1 ⟨cs1,rfl,V1,ha1,C1⟩
  obtain ⟨hst,hmay,hno⟩:=HGL.out
  rw [hst] at V1
  generalize (ZZ st 1073741824 1048576 (z73 u.name f.name x.name ((k6:Int)+1))).2=a at ha1 hmay hno
  obtain ⟨P3,p3,P4,p4,P5,p5,P6,p6,rfl⟩:=ZY ha1
  obtain ⟨jh,hjh,cjh,fjh,Bjh,qjh⟩:=zO j1 #[.int .i64 a.err,.int .i64 a.number,.string a.who,.slice P3 a.data.length p3,.slice P4 a.names.length p4,.slice P5 a.members.length p5,.slice P6 a.history.length p6] 49
  have HNA:=zh (zbx hjh)
  have HMAY:=zh hmay
  have HNO:=zh hno
  have HV1:=zh (V1.below Bjh)
  have HTh:=zh (C1.trans (ButB.of Bjh))
  have HT1:=zh (HTg.out.trans HTh.out)
  have HB1h:=zh (HTT.out _ _ HBg.out HTh.out)
  have HKh:=zh ((HTh.out.block _ (zM HKg.out) (fun e=>by have e':w8.heap.size=w6.heap.size:=e;have:=HL8.out;omega)).trans HKg.out)
  have HNGh:=zh ((HTh.out.block _ (zM HNG.out) (fun e=>by have e':wr7.heap.size=w6.heap.size:=e;have:=HV7l.out;omega)).trans HNG.out)
  have HNCh:=zh ((HTh.out.block _ (zM HNCg.out) (fun e=>by have e':wr4.heap.size=w6.heap.size:=e;have:=HV4l.out;omega)).trans HNCg.out)
  have HNDh:=zh ((HTh.out.block _ (zM HNDg.out) (fun e=>by have e':wr5.heap.size=w6.heap.size:=e;have:=HV5l.out;omega)).trans HNDg.out)
  have HNEh:=zh ((HTh.out.block _ (zM HNEg.out) (fun e=>by have e':wr6.heap.size=w6.heap.size:=e;have:=HV6l.out;omega)).trans HNEg.out)
  have HR5h:=zh (zR HR5g.out (HTh.out.kept (S':=fun b=>¬(b=w6.heap.size\/b=w8.heap.size)) fun x hx=>⟨hx,fun e=>hx (.inl e)⟩))
  have HRFh:=zh (Z0 HRFg.out (HTh.out.kept (S':=fun b=>¬(b=w6.heap.size\/b=w8.heap.size)) fun x hx=>⟨hx,fun e=>hx (.inl e)⟩))
  have t0:=(zD HKh.out).1 0 _ rfl
  have t1:=(zD HKh.out).1 1 _ rfl
  have t2:=(zD HKh.out).1 2 _ rfl
  have t3':=(zD HKh.out).1 3 _ rfl
  have q0:=(zD HNGh.out).1 0 _ rfl
  have q1:=(zD HNCh.out).1 0 _ rfl
  have q2:=(zD HNDh.out).1 0 _ rfl
  clear z0 z1 z2 V1 ha1 C1 cjh fjh Bjh qjh hst hmay hno
  go_wp2_with fail
  refine zcm (zDs st HSM.out u.name f.name x.name ((k6:Int)+1) (by have:=HUN.out;omega) HI6.out _ jh _ HR5h.out) ?_
  rintro e2 j2 ⟨⟨bg,rfl,hbg⟩,B2⟩
  have HBG:=zh hbg
  have HV2:=zh (HV1.out.below B2)
  have HT2:=zh (HT1.out.trans (ButB.of B2))
  have HRF2:=zh (Z0 HRFh.out (zH B2))
  have HNG2:=zh ((B2.block _ (zM HNGh.out)).trans HNGh.out)
  have HNC2:=zh ((B2.block _ (zM HNCh.out)).trans HNCh.out)
  have HNE2:=zh ((B2.block _ (zM HNEh.out)).trans HNEh.out)
  have HNA2:=zh ((B2.block _ (zM HNA.out)).trans HNA.out)
  have z1:=(zD HNG2.out).1 1 _ rfl
  have a0:=(zD HNA2.out).1 0 _ rfl
  clear B2 hbg t0 t1 t2 t3' q0 q1 q2
  cases hlo:u.lost with
  | true=>
   have z1':j2.cell? ⟨wr7.heap.size,1,none⟩=some (.bool true):=by rw [<-hlo];exact z1
   have hne:=HNO.out (fun h=>by rw [hlo] at h;cases h.1)
   have ge:(a.err==0)=false:=by simpa using hne
   have de:decide (a.err=0)=false:=decide_eq_false hne
   clear z1 hne hlo
   go_wp2
   go_roundw
   case rel=>exact ⟨k7+1,by omega,by go_num,HV2,HT2⟩
   case measure=>simp [RowKit.intOf];omega
  | false=>
   have z1':j2.cell? ⟨wr7.heap.size,1,none⟩=some (.bool false):=by rw [<-hlo];exact z1
   have HLO:=zh hlo
   have r0:=(zD HNC2.out).1 0 _ rfl
   have r1:=(zD HNC2.out).1 1 _ rfl
   have r2:=(zD HNC2.out).1 2 _ rfl
   have r3:=(zD HNC2.out).1 3 _ rfl
   have r4:=(zD HNC2.out).1 4 _ rfl
   have r5:=(zD HNC2.out).1 5 _ rfl
   have r6:=(zD HNC2.out).1 6 _ rfl
   clear z1 hlo
   go_wp2_with fail
   refine zcm (zIy f _ j2 _ HRF2.out) ?_
   rintro e3 j3 ⟨⟨cm,rfl,hcm⟩,B3⟩
   obtain ⟨M2,o2,M4,o4,rfl,_⟩:=yO hcm
   have HV3:=zh (HV2.out.below B3)
   have HT3:=zh (HT2.out.trans (ButB.of B3))
   have HNA3:=zh ((B3.block _ (zM HNA2.out)).trans HNA2.out)
   have HNE3:=zh ((B3.block _ (zM HNE2.out)).trans HNE2.out)
   have b0:=(zD HNA3.out).1 0 _ rfl
   have y1:=(zD HNE3.out).1 1 _ rfl
   clear B3 hcm r0 r1 r2 r3 r4 r5 r6 a0 z1'
   cases hgo:(zL f).gone with
   | true=>
    have hne:=HNO.out (fun h=>by rw [hgo] at h;cases h.2.1)
    have ge:(a.err==0)=false:=by simpa using hne
    have de:decide (a.err=0)=false:=decide_eq_false hne
    clear hne hgo
    go_wp2
    go_roundw
    case rel=>exact ⟨k7+1,by omega,by go_num,HV3,HT3⟩
    case measure=>simp [RowKit.intOf];omega
   | false=>
    have HGO:=zh hgo
    clear hgo
    rcases Bool.eq_false_or_eq_true y.gone with hyg | hyg
    ·skip
     have y1':j3.cell? ⟨wr6.heap.size,1,none⟩=some (.bool true):=by rw [<-hyg];exact y1
     have hne:=HNO.out (fun h=>by rw [hyg] at h;cases h.2.2)
     have ge:(a.err==0)=false:=by simpa using hne
     have de:decide (a.err=0)=false:=decide_eq_false hne
     clear hne hyg y1
     go_wp2
     go_roundw
     case rel=>exact ⟨k7+1,by omega,by go_num,HV3,HT3⟩
     case measure=>simp [RowKit.intOf];omega
    skip
    have y1':j3.cell? ⟨wr6.heap.size,1,none⟩=some (.bool false):=by rw [<-hyg];exact y1
    have hiff:=HMAY.out ⟨HLO.out,HGO.out,hyg⟩
    have ge:(a.err==0)=bg:=by
     cases bg with
     | true=>simpa using hiff.2 (HBG.out.1 rfl)
     | false=>
      have:¬a.err=0:=fun e=>by have:=HBG.out.2 (hiff.1 e);cases this
      simpa using this
    have de:decide (a.err=0)=bg:=by rw [<-ge];by_cases e:a.err=0<;>simp [e]
    clear hiff hyg y1
    go_wp2
    go_roundw
    case rel=>exact ⟨k7+1,by omega,by go_num,HV3,HT3⟩
    case measure=>simp [RowKit.intOf];omega
end
section
open Go.ChangeShapes Go.WideShapes Go.ChangeAt Go.RowKit Go.Deep Go.Maps
theorem z9q (w:World) (l:List Call) (v:Value) (h:Sl 8 z0s (fun _=>True) w v l) (hL:laidMetH Tryz.prog Rows.vaultGrantedRow.laid w):
  Calls Tryz.prog 7 #[v] w fun e w'=>e= .returned (.bool true)/\Below w.heap.size w w':=walkG w l v h (laid_cells hL)
theorem z8g (os:Os) (started:os.Started) (H:Type) (enc:TypeId×Value->H):
  ReturnsInHanded {} Tryz.checked os 7 .any (fun w args=>(Rows.vaultGrantedSpec.pre enc Tryz.prog Tryz.f7 Rows.vaultGrantedRow.domain false w args/\laidMetH Tryz.prog Rows.vaultGrantedRow.laid w)/\sizedMet enc Tryz.prog Tryz.f7 (OpenSpec.ofChange Rows.vaultGrantedSpec) false w args) (Rows.vaultGrantedSpec.post enc Tryz.prog Tryz.f7 false true false false):=by
 refine returnsInHanded_of_change_and (C:=Tryz.checked) (X:=fun w _=>laidMetH Tryz.prog Rows.vaultGrantedRow.laid w) (fun _ _ _ hh h=>h.of_heap hh) zOl started (by kernel_rfl) Tryz.func7
  (ChangeSpec.witness_shaped (enc:=enc) (C:=Tryz.checked) (os:=os) (X:=fun w _=>laidMetH Tryz.prog Rows.vaultGrantedRow.laid w) false (World.laidAll Tryz.prog os Rows.vaultGrantedRow.laid) #[.slice none 0 0] 8 (World.laidAll_os _ _ _)
   (World.shaped_of_ZipB (by kernel_rfl) (by kernel_rfl)) (by kernel_rfl) (by kernel_rfl) (by kernel_rfl)
   (by rw [MakeChecks.laidMetH_plain _ _ _ (by kernel_rfl)];exact laidMet_laidAll _ (by kernel_rfl) (by kernel_rfl))) ?_
 intro W base args ds gs before hval0 hW hcnd hsz0 hL _
 have hval:∀(j:Nat) t v,Tryz.f7.params[j]? =some t->args[j]? =some v->Value.okWide Tryz.prog W .any base t v:=hval0
 have hW':=hW
 obtain ⟨p,q,hA0,hV,rfl,_,_⟩:=hW
 have hA:DataW.TrodAll enc Tryz.prog W 0 (fun _=>true) true Tryz.f7.params.toList args.toList ds p:=hA0
 rw [Tryz.params7] at hA hval
 obtain ⟨v0,_,_,_,_,_,hargs,rfl,rfl,h0,r0⟩:=trodAll_cons hA
 obtain ⟨rfl,rfl,rfl⟩:=trodAll_nil r0
 obtain rfl:args=#[v0]:=by cases args;simp_all
 obtain ⟨rfl,rfl⟩:=trodVars_none hV
 clear hargs
 obtain ⟨_,hf0⟩:=h0
 obtain ⟨a0,hx0⟩:=zPu Tryz.underlying63 (zFa Tryz.underlying63 (by kernel_rfl) (of_decide_eq_true (by kernel_rfl)) (by decide) zPr (z7j).len) (hval 0 63 v0 rfl rfl) hf0 (fun q hq=>by simpa using List.all_eq_true.1 hsz0 q (DataW.weights_mem_each (j:=0) rfl rfl q hq))
 refine (z9q W a0 _ hx0 hL).mono fun e W' ⟨he,hg⟩=>?_
 subst he
 exact ⟨_,rfl,zMt hW' rfl rfl rfl Tryz.underlying4 zFh (by kernel_rfl) hg⟩
theorem z75:Rows.VaultGrantedSaid:=
 OpenClaim.holds_of_wide 7 Tryz.f7 rfl rfl rfl rfl rfl rfl rfl ⟨rfl,rfl,rfl,rfl,rfl⟩ rfl rfl rfl rfl rfl (by kernel_rfl) Tryz.func7 (by kernel_rfl)
  (of_decide_eq_true (by kernel_rfl)) (by unfold Func.isWrapper;first | (rw [if_pos (by decide+kernel)];kernel_rfl) | (rw [if_neg (by decide+kernel)];exact ⟨rfl,rfl⟩))
  (fun os started H enc _=>z8g os started H enc)
theorem vaultGranted_holds:Rows.VaultGrantedCardSaid:=
 Claim7.holds_tied_plain_at .later [] [.data] true (true, "0a5bf4cfdda4f0b6f93d0f43be3f98d9f32645af79d4df54a64809a6d578d50f") false z75 (fun _ h=>by cases h) (by kernel_rfl) (fun _ h=>by cases h) vaultGranted_row_tie rfl ⟨rfl,rfl⟩ (by kernel_rfl) rfl
  (fun f fn hf hfn=>by
   obtain rfl:f=7:=zsi ((show Tryz.prog.funcNamed Rows.vaultGrantedRow.func=some 7 by kernel_rfl).symm.trans hf) |>.symm
   obtain rfl:fn=Tryz.f7:=(zsi (Tryz.func7.symm.trans hfn)).symm
   exact ⟨by kernel_rfl,fun j t ht=>by
    rw [Tryz.params7] at ht
    have hm:t∈[63]:=by simpa using Array.mem_of_getElem? ht
    have hall:([63].all fun u=>!Tryz.prog.wantsStandIn u)=true:=by kernel_rfl
    exact (show Tryz.prog.wantsStandIn t=false by simpa using List.all_eq_true.1 hall t hm)⟩)
  (by kernel_rfl)
end
end Go.Proofs.YtdggplhnfhcieaaGreatDoor
