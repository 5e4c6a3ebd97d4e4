/- Part 25 of the proof of vaultGranted_holds. No condition. -/
import Derived.Test.YtdggplhnfhcieaaGreatDoorY23
set_option linter.unusedVariables false
set_option linter.unusedSimpArgs false
set_option linter.unusedSectionVars false
set_option maxRecDepth 100000
namespace Go.Proofs.YtdggplhnfhcieaaGreatDoor
open Go.RowKit Go.Deep
theorem zDf {α:Type} (p:α->Bool) (l:List α):decide (0<=iOf (l.findIdx? p))=l.any p:=by
 cases h:l.findIdx? p with
 | none=>
  rw [List.findIdx?_eq_none_iff] at h
  rw [show iOf none= -1 from rfl,decide_eq_false (by omega)]
  symm
  rw [List.any_eq_false]
  exact fun x hx=>by rw [h x hx];decide
 | some k=>
  obtain ⟨hk,hp,_⟩:=List.findIdx?_eq_some_iff_getElem.1 h
  rw [show iOf (some k)=(k:Int) from rfl,decide_eq_true (by omega)]
  symm
  rw [List.any_eq_true]
  exact ⟨l[k],List.getElem_mem hk,hp⟩
def isL (e:Int) (s:Nm) (l:Link):Bool:=decide (l.epoch=e) && decide (l.to=s)
theorem zLq (e0:Int) (s:Nm) (E B:Nat) (x:Link) (cs:List Value) (w:World) (S:Nat->Prop) (h:YP S w cs x) (hE:w.cell? ⟨E,0,none⟩=some (.int .i64 e0)) (hB:w.cell? ⟨B,0,none⟩=some (.string s)):
  Calls Tryz.prog 165 #[.agg cs.toArray,.pointer (some ⟨E,0,none⟩),.pointer (some ⟨B,0,none⟩)] w fun e w'=>e= .returned (.bool (isL e0 s x))/\Below w.heap.size w w':=by
 obtain ⟨rfl,_,_,_⟩:=z59 h
 have hBl:=zF hB
 have hEl:=zF hE
 by_cases he:x.epoch=e0
 ·have hd:(x.epoch==e0)=true:=by simp [he]
  have E:=zh (show isL e0 s x=(x.to.toList==s.toList) by unfold isL;rw [decide_eq_true he,yK];rfl)
  clear he
  go_enter Tryz.func165,Tryz.ntmps165
  go_wp2
  go_ret
  exact ⟨ZI E.out.symm,by go_grown⟩
 have hd:(x.epoch==e0)=false:=by simp [he]
 have E:=zh (show isL e0 s x=false by unfold isL;rw [decide_eq_false he];rfl)
 clear he
 go_enter Tryz.func165,Tryz.ntmps165
 go_wp2
 go_ret
 exact ⟨ZI E.out.symm,by go_grown⟩
def isA (s:Nm) (x:At):Bool:=decide (x.name=s)
theorem zLr (s:Nm) (C:Nat) (x:At) (cs:List Value) (w:World) (S:Nat->Prop) (h:rAt S w cs x) (hC:w.cell? ⟨C,2,none⟩=some (.string s)):
  Calls Tryz.prog 131 #[.agg cs.toArray,.pointer (some ⟨C,0,none⟩)] w fun e w'=>e= .returned (.bool (isA s x))/\Below w.heap.size w w':=by
 obtain ⟨rfl,_,_⟩:=z41 h
 have hCl:=zF hC
 have E:=zh (yK (a:=x.name) (b:=s))
 go_enter Tryz.func131,Tryz.ntmps131
 go_wp2
 go_ret
 exact ⟨ZI E.out,by go_grown⟩
theorem zP3 (e0:Int) (s:Nm) (E B:Nat) (l:List Link) (v:Value) (w:World) (S:Nat->Prop) (h:Sl 3 YP S w v l) (hE:w.cell? ⟨E,0,none⟩=some (.int .i64 e0)) (hB:w.cell? ⟨B,0,none⟩=some (.string s)):
  Calls Tryz.prog 191 #[v,.func (.func 165) #[] #[.pointer (some ⟨E,0,none⟩),.pointer (some ⟨B,0,none⟩)]] w fun e w'=>e= .returned (.int .i64 (iOf (l.findIdx? (isL e0 s))))/\Below w.heap.size w w':=by
 have HE:=zh hE
 have HB:=zh hB
 clear hE hB
 obtain ⟨_,_,rfl,_,hc,_,hs⟩:=h
 unfold maxLen at hc
 go_enter Tryz.func191,Tryz.ntmps191
 go_wp2
 go_loopw [8] (fun i wr=>∃(k:Nat),k<=l.length/\i= .int .i64 k/\Hid (∀y∈l.take k,(isL e0 s) y=false)/\Below w.heap.size w wr) (fun i _=>l.length - (RowKit.intOf i).toNat)
 case atStart=>exact ⟨0,by omega,by go_num,(fun y hy=>by simp at hy),by go_grown⟩
 obtain ⟨k,_,rfl,HN,hbel⟩:=hrel
 have hz:=hbel.size
 by_cases hlt:k < l.length
 rotate_left
 ·obtain rfl:k=l.length:=by omega
  have EH:=zh (z4t (z65 (p:=(isL e0 s)) (l:=l) (by have:=HN.out;rwa [List.take_length] at this)))
  go_wp2
  go_ret
  exact ⟨Z9 EH.out.symm,hbel⟩
 obtain ⟨x,_,_,x_k,x_d,x_m,rfl,_,_,_,_,_,x_R,_,_,_⟩:=zAa hs hlt (zH hbel)
 have HX:=zh x_k
 have HXM:=zh x_m
 clear x_k x_d x_m
 go_wp2_with fail
 refine zcm (zLq e0 s E B x _ _ S x_R ((hbel.cell (p:=⟨E,0,none⟩) (zF HE.out)).trans HE.out) ((hbel.cell (p:=⟨B,0,none⟩) (zF HB.out)).trans HB.out)) ?_
 rintro e _ ⟨rfl,hb1⟩
 cases hpx:(isL e0 s) x
 ·have EH:=zh (z0c HN.out HX.out hpx)
  go_wp2
  go_roundw
  case rel=>exact ⟨k+1,by omega,by go_num,EH,zB hbel hb1⟩
  case measure=>simp [RowKit.intOf];omega
 have EH:=zh (z4s (z3y HN.out HX.out hpx))
 go_wp2
 go_ret
 exact ⟨Z9 EH.out.symm,zB hbel hb1⟩
theorem zP4 (e0:Int) (s:Nm) (E B:Nat) (l:List Link) (v:Value) (w:World) (S:Nat->Prop) (h:Sl 3 YP S w v l) (hE:w.cell? ⟨E,0,none⟩=some (.int .i64 e0)) (hB:w.cell? ⟨B,0,none⟩=some (.string s)):
  Calls Tryz.prog 164 #[v,.func (.func 165) #[] #[.pointer (some ⟨E,0,none⟩),.pointer (some ⟨B,0,none⟩)]] w fun e w'=>e= .returned (.bool (l.any (isL e0 s)))/\Below w.heap.size w w':=by
 have HI:=zh (zP3 e0 s E B l v w S h hE hB)
 have HJ:=zh (zDf (isL e0 s) l)
 obtain ⟨_,_,rfl,_⟩:=h
 go_enter Tryz.func164,Tryz.ntmps164
 go_wp2_with fail
 refine zcm HI.out ?_
 rintro e _ ⟨rfl,B1⟩
 generalize iOf (l.findIdx? (isL e0 s))=z at HJ⊢
 go_wp2
 go_ret
 exact ⟨ZI HJ.out,B1⟩
theorem zP5 (s:Nm) (C:Nat) (l:List At) (v:Value) (w:World) (S:Nat->Prop) (h:Sl 2 rAt S w v l) (hC:w.cell? ⟨C,2,none⟩=some (.string s)):
  Calls Tryz.prog 166 #[v,.func (.func 131) #[] #[.pointer (some ⟨C,0,none⟩)]] w fun e w'=>e= .returned (.int .i64 (iOf (l.findIdx? (isA s))))/\Below w.heap.size w w':=by
 have HC:=zh hC
 clear hC
 obtain ⟨_,_,rfl,_,hc,_,hs⟩:=h
 unfold maxLen at hc
 go_enter Tryz.func166,Tryz.ntmps166
 go_wp2
 go_loopw [8] (fun i wr=>∃(k:Nat),k<=l.length/\i= .int .i64 k/\Hid (∀y∈l.take k,(isA s) y=false)/\Below w.heap.size w wr) (fun i _=>l.length - (RowKit.intOf i).toNat)
 case atStart=>exact ⟨0,by omega,by go_num,(fun y hy=>by simp at hy),by go_grown⟩
 obtain ⟨k,_,rfl,HN,hbel⟩:=hrel
 have hz:=hbel.size
 by_cases hlt:k < l.length
 rotate_left
 ·obtain rfl:k=l.length:=by omega
  have EH:=zh (z4t (z65 (p:=(isA s)) (l:=l) (by have:=HN.out;rwa [List.take_length] at this)))
  go_wp2
  go_ret
  exact ⟨Z9 EH.out.symm,hbel⟩
 obtain ⟨x,_,_,x_k,x_d,x_m,rfl,_,_,_,_,x_R,_,_⟩:=zFc hs hlt (zH hbel)
 have HX:=zh x_k
 have HXM:=zh x_m
 clear x_k x_d x_m
 go_wp2_with fail
 refine zcm (zLr s C x _ _ S x_R ((hbel.cell (p:=⟨C,2,none⟩) (zF HC.out)).trans HC.out)) ?_
 rintro e _ ⟨rfl,hb1⟩
 cases hpx:(isA s) x
 ·have EH:=zh (z0c HN.out HX.out hpx)
  go_wp2
  go_roundw
  case rel=>exact ⟨k+1,by omega,by go_num,EH,zB hbel hb1⟩
  case measure=>simp [RowKit.intOf];omega
 have EH:=zh (z4s (z3y HN.out HX.out hpx))
 go_wp2
 go_ret
 exact ⟨Z9 EH.out.symm,zB hbel hb1⟩
theorem zP6 (s:Nm) (C:Nat) (l:List At) (v:Value) (w:World) (S:Nat->Prop) (h:Sl 2 rAt S w v l) (hC:w.cell? ⟨C,2,none⟩=some (.string s)):
  Calls Tryz.prog 130 #[v,.func (.func 131) #[] #[.pointer (some ⟨C,0,none⟩)]] w fun e w'=>e= .returned (.bool (l.any (isA s)))/\Below w.heap.size w w':=by
 have HI:=zh (zP5 s C l v w S h hC)
 have HJ:=zh (zDf (isA s) l)
 obtain ⟨_,_,rfl,_⟩:=h
 go_enter Tryz.func130,Tryz.ntmps130
 go_wp2_with fail
 refine zcm HI.out ?_
 rintro e _ ⟨rfl,B1⟩
 generalize iOf (l.findIdx? (isA s))=z at HJ⊢
 go_wp2
 go_ret
 exact ⟨ZI HJ.out,B1⟩
theorem zP7 (l:List Item) (v:Value) (w:World) (S:Nat->Prop) (h:Sl 2 yV S w v l) (hv:∀x∈l,0 < x.versions.length):
  Calls Tryz.prog 167 #[v,.func (.func 136) #[] #[]] w fun e w'=>e= .returned (.int .i64 (iOf (l.findIdx? (YI))))/\Below w.heap.size w w':=by
 have HV:=zh hv
 clear hv
 obtain ⟨_,_,rfl,_,hc,_,hs⟩:=h
 unfold maxLen at hc
 go_enter Tryz.func167,Tryz.ntmps167
 go_wp2
 go_loopw [8] (fun i wr=>∃(k:Nat),k<=l.length/\i= .int .i64 k/\Hid (∀y∈l.take k,(YI) y=false)/\Below w.heap.size w wr) (fun i _=>l.length - (RowKit.intOf i).toNat)
 case atStart=>exact ⟨0,by omega,by go_num,(fun y hy=>by simp at hy),by go_grown⟩
 obtain ⟨k,_,rfl,HN,hbel⟩:=hrel
 have hz:=hbel.size
 by_cases hlt:k < l.length
 rotate_left
 ·obtain rfl:k=l.length:=by omega
  have EH:=zh (z4t (z65 (p:=(YI)) (l:=l) (by have:=HN.out;rwa [List.take_length] at this)))
  go_wp2
  go_ret
  exact ⟨Z9 EH.out.symm,hbel⟩
 obtain ⟨x,_,_,_,_,x_k,x_d,x_m,rfl,_,_,_,_,x_R,_,_,_,_,_⟩:=z2m hs hlt (zH hbel)
 have HX:=zh x_k
 have HXM:=zh x_m
 clear x_k x_d x_m
 go_wp2_with fail
 refine zcm (z8r x (HV.out x HXM.out) _ _ S x_R) ?_
 rintro e _ ⟨rfl,hb1⟩
 cases hpx:(YI) x
 ·have EH:=zh (z0c HN.out HX.out hpx)
  go_wp2
  go_roundw
  case rel=>exact ⟨k+1,by omega,by go_num,EH,zB hbel hb1⟩
  case measure=>simp [RowKit.intOf];omega
 have EH:=zh (z4s (z3y HN.out HX.out hpx))
 go_wp2
 go_ret
 exact ⟨Z9 EH.out.symm,zB hbel hb1⟩
theorem zP8 (l:List Item) (v:Value) (w:World) (S:Nat->Prop) (h:Sl 2 yV S w v l) (hv:∀x∈l,0 < x.versions.length):
  Calls Tryz.prog 135 #[v,.func (.func 136) #[] #[]] w fun e w'=>e= .returned (.bool (l.any (YI)))/\Below w.heap.size w w':=by
 have HI:=zh (zP7 l v w S h hv)
 have HJ:=zh (zDf (YI) l)
 obtain ⟨_,_,rfl,_⟩:=h
 go_enter Tryz.func135,Tryz.ntmps135
 go_wp2_with fail
 refine zcm HI.out ?_
 rintro e _ ⟨rfl,B1⟩
 generalize iOf (l.findIdx? (YI))=z at HJ⊢
 go_wp2
 go_ret
 exact ⟨ZI HJ.out,B1⟩
section
section
variable {X:Nat->Prop} {base bw:Nat} {W:World} {R:RM} {c:Call} {dv:Value} {st:State} {done late:Bool}
theorem WK.user (h:WK X base bw W R c dv st done late) {i:Nat} {u:User} (hu:st.users[i]? =some u):∃g off cap,(R .us).v= .slice (some ⟨g,off,none⟩) st.users.length cap/\st.users.length<=cap/\cap<=9223372036854775807/\g≠bw/\g < W.heap.size/\W.cell? ⟨g,off+i*2,none⟩=some (.string u.name)/\W.cell? ⟨g,off+i*2+1,none⟩=some (.bool u.lost)/\∀q,W.frozen? ⟨g,q,none⟩=false:=by
 obtain ⟨_,hx,hR⟩:=h.is.users.at hu
 obtain ⟨g,off,cap,hv,hn,hc,hg,hcell,hz⟩:=(h.os.row .us).at hx
 obtain ⟨rfl,_⟩:=z8h hR
 rw [h.is.users.1] at hv hn
 exact ⟨g,off,cap,hv,hn,hc,fun e=>h.nb ⟨.us,by rw [hv,<-e];rfl⟩,hg,hcell 0 _ rfl,hcell 1 _ rfl,hz⟩
theorem z16:(⟨#[]⟩:ByteArray).toList.isEmpty=true:=by rw [Lib.toList_data];rfl
def ZA (st:State) (c:Call):Int:=if !isE c.other && decide (c.kind=3) && (Z7 st c.other).isNone then 41 else if !isE c.other && decide (3 < c.kind) && (yR st c.other).isNone then 41 else 0
def Y0 (st:State) (c:Call):Int:=if (!isE c.folder && decide (c.kind≠2)) && (Z7 st c.folder).isNone then 41
  else if !isE c.other && decide (c.kind=3) && (Z7 st c.other).isNone then 41
  else if !isE c.other && decide (3 < c.kind) && (yR st c.other).isNone then 41 else 0
set_option maxHeartbeats 8000000 in
theorem zHp (h:WK X base bw W R c dv st done late) (hk0:1<=c.kind) (h15:c.kind=15->c.folder=⟨#[]⟩/\c.other=⟨#[]⟩):Calls Tryz.prog 54 #[.pointer (some ⟨bw,0,none⟩)] W fun e w'=>
  e= .returned (.int .i64 (ZT st c late))/\Below W.heap.size W w':=by
 have hc:=h.call
 obtain ⟨A7,c7,e7,_,_,_,_,_,_,_,_⟩:=Y7 hc
 simp only [z26,List.cons.injEq,and_true,true_and] at e7
 subst e7
 have s0:=h.cells.1 0 _ rfl
 have s1:=h.cells.1 1 _ rfl
 have s2:=h.cells.1 2 _ rfl
 have s3:=h.cells.1 3 _ rfl
 have s4:=h.cells.1 4 _ rfl
 have s5:=h.cells.1 5 _ rfl
 have s6:=h.cells.1 6 _ rfl
 have s7:=h.cells.1 7 _ rfl
 obtain ⟨_,_,cw0,fw0,Bw0,qw0⟩:=zO W #[.int .i64 c.kind,.string c.user,.string c.folder,.string c.name,.string c.other,.int .i64 c.role,.int .i64 c.version,.slice A7 c.data.length c7] 41
 have HC0:=zh cw0
 have x0:=cw0 0 _ rfl
 have H0:=zh (h.below Bw0)
 have HB0:=zh Bw0
 clear h hc cw0 fw0 Bw0
 by_cases hk1:c.kind=1
 ·have hd:(c.kind==1)=true:=by simp [hk1]
  have E:=zh (show ZT st c late=0 by unfold ZT;rw [if_pos hk1])
  go_enter Tryz.func54,Tryz.ntmps54
  go_wp2
  go_ret
  exact ⟨Z9 E.out.symm,by go_grown⟩
 have hd:(c.kind==1)=false:=by simp [hk1]
 have y1:=HC0.out 1 _ rfl
 go_enter Tryz.func54,Tryz.ntmps54
 go_wp2_with fail
 refine zcm (z0p H0.out c.user) ?_
 rintro e w1 ⟨rfl,B1⟩
 have H1:=zh (H0.out.below B1)
 have HB1:=zh (zB HB0.out B1)
 have HC1:=zh (fun j v hj=>(B1.cell (p:=⟨W.heap.size,j,none⟩) qw0).trans (HC0.out j v hj))
 have z0:=HC1.out 0 _ rfl
 have z1:=HC1.out 1 _ rfl
 have z2:=HC1.out 2 _ rfl
 have z4:=HC1.out 4 _ rfl
 have t13:=H1.out.cells.1 13 _ rfl
 have t9:=H1.out.cells.1 9 _ rfl
 cases hu:yR st c.user with
 | none=>
  have E:=zh (show ZT st c late=41 by unfold ZT;rw [if_neg hk1,hu])
  unfold iOf
  go_wp2
  go_ret
  exact ⟨Z9 E.out.symm,HB1.out⟩
 | some u=>
  have hul:u < st.users.length:=(List.findIdx?_eq_some_iff_getElem.1 hu).1
  obtain ⟨x,hx⟩:∃x,st.users[u]? =some x:=⟨_,List.getElem?_eq_getElem hul⟩
  obtain ⟨_,_,_,hv,_,_,_,_,_,v1,_⟩:=H1.out.user hx
  rw [hv] at t9
  unfold iOf
  have hu1:(u:Int) < (st.users.length:Int):=by omega
  have hrest:ZT st c late=if (x.lost && decide (c.kind≠16)) && !late then 20 else Y0 st c:=by
   unfold ZT Y0
   rw [if_neg hk1,hu]
   dsimp only
   rw [hx]
   rfl
  rcases (show (x.lost=true/\(c.kind==16)=false/\late=false)\/x.lost=false\/(x.lost=true/\(c.kind==16)=true)\/(x.lost=true/\(c.kind==16)=false/\late=true) by
   cases x.lost<;>cases (c.kind==16)<;>cases late<;>simp) with ⟨hl,h16,hla⟩ | hl | ⟨hl,h16⟩ | ⟨hl,h16,hla⟩
  ·have E:=zh (show ZT st c late=20 by
    rw [hrest,hl,hla,if_pos]
    have:c.kind≠16:=by simpa using h16
    simp [this])
   rw [hl] at v1
   subst hla
   have hn16:(c.kind !=16)=true:=by rw [bne,h16];rfl
   go_wp2_with fail
   go_ret
   exact ⟨Z9 E.out.symm,HB1.out⟩
  ·have E:=zh (show ZT st c late=Y0 st c by rw [hrest,hl];simp)
   rw [hl] at v1
   by_cases h2:c.kind=2
   ·have hd2:(c.kind==2)=true:=by simp [h2]
    have E2:=zh (E.out.trans (show Y0 st c=0 by unfold Y0;simp [h2]))
    go_wp2_with fail
    go_ret
    exact ⟨Z9 E2.out.symm,HB1.out⟩
   have hd2:(c.kind==2)=false:=by simp [h2]
   by_cases h15':c.kind=15
   ·have hd15:(c.kind==15)=true:=by simp [h15']
    have E2:=zh (E.out.trans (show Y0 st c=0 by unfold Y0;rw [(h15 h15').1,(h15 h15').2];simp [isE]))
    go_wp2_with fail
    go_ret
    exact ⟨Z9 E2.out.symm,HB1.out⟩
   have hd15:(c.kind==15)=false:=by simp [h15']
   by_cases hf:c.folder=⟨#[]⟩
   ·have hfe:c.folder.toList.isEmpty=true:=by rw [hf];exact z16
    have E2:=zh (E.out.trans (show Y0 st c=ZA st c by unfold Y0 ZA;simp [isE,hf]))
    by_cases ho:c.other=⟨#[]⟩
    ·have hoe:c.other.toList.isEmpty=true:=by rw [ho];exact z16
     have E3:=zh (E2.out.trans (show ZA st c=0 by unfold ZA;simp [isE,ho]))
     cases h3:(c.kind==3)
     ·go_wp2_with fail
      go_ret
      exact ⟨Z9 E3.out.symm,HB1.out⟩
     go_wp2_with fail
     go_ret
     exact ⟨Z9 E3.out.symm,HB1.out⟩
    have hoe:c.other.toList.isEmpty=false:=z0x ho
    by_cases hk3:c.kind=3
    ·have h3:(c.kind==3)=true:=by simp [hk3]
     go_wp2_with fail
     refine zcm (yG H1.out c.other) ?_
     rintro e w4 ⟨⟨ht,rfl⟩ | ⟨k,g,o,ht,ha,rfl⟩,B4⟩
     ·have E3:=zh (E2.out.trans (show ZA st c=41 by unfold ZA;simp [isE,ho,hk3,ht]))
      go_wp2_with fail
      go_ret
      exact ⟨Z9 E3.out.symm,zB HB1.out B4⟩
     have E3:=zh (E2.out.trans (show ZA st c=0 by unfold ZA;simp [isE,ho,hk3,ht]))
     go_wp2_with fail
     go_ret
     exact ⟨Z9 E3.out.symm,zB HB1.out B4⟩
    have h3:(c.kind==3)=false:=by simp [hk3]
    have hgt:3 < c.kind:=by omega
    go_wp2_with fail
    refine zcm (z0p H1.out c.other) ?_
    rintro e w4 ⟨rfl,B4⟩
    cases hq:yR st c.other with
    | none=>
     have E3:=zh (E2.out.trans (show ZA st c=41 by unfold ZA;simp [isE,ho,hk3,hq,hgt]))
     unfold iOf
     go_wp2_with fail
     go_ret
     exact ⟨Z9 E3.out.symm,zB HB1.out B4⟩
    | some q=>
     have E3:=zh (E2.out.trans (show ZA st c=0 by unfold ZA;simp [isE,ho,hk3,hq,hgt]))
     unfold iOf
     go_wp2_with fail
     go_ret
     exact ⟨Z9 E3.out.symm,zB HB1.out B4⟩
   have hfe:c.folder.toList.isEmpty=false:=z0x hf
   go_wp2_with fail
   refine zcm (yG H1.out c.folder) ?_
   rintro e w3 ⟨⟨ht0,rfl⟩ | ⟨k0,g0,o0,ht0,ha0,rfl⟩,B3⟩
   ·have E3:=zh (E.out.trans (show Y0 st c=41 by unfold Y0;simp [isE,hf,h2,ht0]))
    go_wp2_with fail
    go_ret
    exact ⟨Z9 E3.out.symm,zB HB1.out B3⟩
   have E2:=zh (E.out.trans (show Y0 st c=ZA st c by unfold Y0 ZA;simp [isE,hf,ht0]))
   have H3:=zh (H1.out.below B3)
   have HB3:=zh (zB HB1.out B3)
   have hq1:W.heap.size < w1.heap.size:=by have:=B1.size;omega
   have p0:=(B3.cell (p:=⟨W.heap.size,0,none⟩) hq1).trans z0
   have p4:=(B3.cell (p:=⟨W.heap.size,4,none⟩) hq1).trans z4
   by_cases ho:c.other=⟨#[]⟩
   ·have hoe:c.other.toList.isEmpty=true:=by rw [ho];exact z16
    have E3:=zh (E2.out.trans (show ZA st c=0 by unfold ZA;simp [isE,ho]))
    cases h3:(c.kind==3)
    ·go_wp2_with fail
     go_ret
     exact ⟨Z9 E3.out.symm,HB3.out⟩
    go_wp2_with fail
    go_ret
    exact ⟨Z9 E3.out.symm,HB3.out⟩
   have hoe:c.other.toList.isEmpty=false:=z0x ho
   by_cases hk3:c.kind=3
   ·have h3:(c.kind==3)=true:=by simp [hk3]
    go_wp2_with fail
    refine zcm (yG H3.out c.other) ?_
    rintro e w4 ⟨⟨ht,rfl⟩ | ⟨k,g,o,ht,ha,rfl⟩,B4⟩
    ·have E3:=zh (E2.out.trans (show ZA st c=41 by unfold ZA;simp [isE,ho,hk3,ht]))
     go_wp2_with fail
     go_ret
     exact ⟨Z9 E3.out.symm,zB HB3.out B4⟩
    have E3:=zh (E2.out.trans (show ZA st c=0 by unfold ZA;simp [isE,ho,hk3,ht]))
    go_wp2_with fail
    go_ret
    exact ⟨Z9 E3.out.symm,zB HB3.out B4⟩
   have h3:(c.kind==3)=false:=by simp [hk3]
   have hgt:3 < c.kind:=by omega
   go_wp2_with fail
   refine zcm (z0p H3.out c.other) ?_
   rintro e w4 ⟨rfl,B4⟩
   cases hq:yR st c.other with
   | none=>
    have E3:=zh (E2.out.trans (show ZA st c=41 by unfold ZA;simp [isE,ho,hk3,hq,hgt]))
    unfold iOf
    go_wp2_with fail
    go_ret
    exact ⟨Z9 E3.out.symm,zB HB3.out B4⟩
   | some q=>
    have E3:=zh (E2.out.trans (show ZA st c=0 by unfold ZA;simp [isE,ho,hk3,hq,hgt]))
    unfold iOf
    go_wp2_with fail
    go_ret
    exact ⟨Z9 E3.out.symm,zB HB3.out B4⟩
  ·have E:=zh (show ZT st c late=Y0 st c by
    have:c.kind=16:=by simpa using h16
    rw [hrest,hl,this];simp)
   rw [hl] at v1
   have k16:c.kind=16:=by simpa using h16
   have hn16:(c.kind !=16)=false:=by rw [bne,h16];rfl
   by_cases h2:c.kind=2
   ·omega
   have hd2:(c.kind==2)=false:=by simp [h2]
   by_cases h15':c.kind=15
   ·omega
   have hd15:(c.kind==15)=false:=by simp [h15']
   by_cases hf:c.folder=⟨#[]⟩
   ·have hfe:c.folder.toList.isEmpty=true:=by rw [hf];exact z16
    have E2:=zh (E.out.trans (show Y0 st c=ZA st c by unfold Y0 ZA;simp [isE,hf]))
    by_cases ho:c.other=⟨#[]⟩
    ·have hoe:c.other.toList.isEmpty=true:=by rw [ho];exact z16
     have E3:=zh (E2.out.trans (show ZA st c=0 by unfold ZA;simp [isE,ho]))
     cases h3:(c.kind==3)
     ·go_wp2_with fail
      go_ret
      exact ⟨Z9 E3.out.symm,HB1.out⟩
     go_wp2_with fail
     go_ret
     exact ⟨Z9 E3.out.symm,HB1.out⟩
    have hoe:c.other.toList.isEmpty=false:=z0x ho
    by_cases hk3:c.kind=3
    ·omega
    have h3:(c.kind==3)=false:=by simp [hk3]
    have hgt:3 < c.kind:=by omega
    go_wp2_with fail
    refine zcm (z0p H1.out c.other) ?_
    rintro e w4 ⟨rfl,B4⟩
    cases hq:yR st c.other with
    | none=>
     have E3:=zh (E2.out.trans (show ZA st c=41 by unfold ZA;simp [isE,ho,hk3,hq,hgt]))
     unfold iOf
     go_wp2_with fail
     go_ret
     exact ⟨Z9 E3.out.symm,zB HB1.out B4⟩
    | some q=>
     have E3:=zh (E2.out.trans (show ZA st c=0 by unfold ZA;simp [isE,ho,hk3,hq,hgt]))
     unfold iOf
     go_wp2_with fail
     go_ret
     exact ⟨Z9 E3.out.symm,zB HB1.out B4⟩
   have hfe:c.folder.toList.isEmpty=false:=z0x hf
   go_wp2_with fail
   refine zcm (yG H1.out c.folder) ?_
   rintro e w3 ⟨⟨ht0,rfl⟩ | ⟨k0,g0,o0,ht0,ha0,rfl⟩,B3⟩
   ·have E3:=zh (E.out.trans (show Y0 st c=41 by unfold Y0;simp [isE,hf,h2,ht0]))
    go_wp2_with fail
    go_ret
    exact ⟨Z9 E3.out.symm,zB HB1.out B3⟩
   have E2:=zh (E.out.trans (show Y0 st c=ZA st c by unfold Y0 ZA;simp [isE,hf,ht0]))
   have H3:=zh (H1.out.below B3)
   have HB3:=zh (zB HB1.out B3)
   have hq1:W.heap.size < w1.heap.size:=by have:=B1.size;omega
   have p0:=(B3.cell (p:=⟨W.heap.size,0,none⟩) hq1).trans z0
   have p4:=(B3.cell (p:=⟨W.heap.size,4,none⟩) hq1).trans z4
   by_cases ho:c.other=⟨#[]⟩
   ·have hoe:c.other.toList.isEmpty=true:=by rw [ho];exact z16
    have E3:=zh (E2.out.trans (show ZA st c=0 by unfold ZA;simp [isE,ho]))
    cases h3:(c.kind==3)
    ·go_wp2_with fail
     go_ret
     exact ⟨Z9 E3.out.symm,HB3.out⟩
    go_wp2_with fail
    go_ret
    exact ⟨Z9 E3.out.symm,HB3.out⟩
   have hoe:c.other.toList.isEmpty=false:=z0x ho
   by_cases hk3:c.kind=3
   ·omega
   have h3:(c.kind==3)=false:=by simp [hk3]
   have hgt:3 < c.kind:=by omega
   go_wp2_with fail
   refine zcm (z0p H3.out c.other) ?_
   rintro e w4 ⟨rfl,B4⟩
   cases hq:yR st c.other with
   | none=>
    have E3:=zh (E2.out.trans (show ZA st c=41 by unfold ZA;simp [isE,ho,hk3,hq,hgt]))
    unfold iOf
    go_wp2_with fail
    go_ret
    exact ⟨Z9 E3.out.symm,zB HB3.out B4⟩
   | some q=>
    have E3:=zh (E2.out.trans (show ZA st c=0 by unfold ZA;simp [isE,ho,hk3,hq,hgt]))
    unfold iOf
    go_wp2_with fail
    go_ret
    exact ⟨Z9 E3.out.symm,zB HB3.out B4⟩
  have E:=zh (show ZT st c late=Y0 st c by rw [hrest,hla];simp)
  rw [hl] at v1
  rw [hla] at t13
  have hn16:(c.kind !=16)=true:=by rw [bne,h16];rfl
  by_cases h2:c.kind=2
  ·have hd2:(c.kind==2)=true:=by simp [h2]
   have E2:=zh (E.out.trans (show Y0 st c=0 by unfold Y0;simp [h2]))
   go_wp2_with fail
   go_ret
   exact ⟨Z9 E2.out.symm,HB1.out⟩
  have hd2:(c.kind==2)=false:=by simp [h2]
  by_cases h15':c.kind=15
  ·have hd15:(c.kind==15)=true:=by simp [h15']
   have E2:=zh (E.out.trans (show Y0 st c=0 by unfold Y0;rw [(h15 h15').1,(h15 h15').2];simp [isE]))
   go_wp2_with fail
   go_ret
   exact ⟨Z9 E2.out.symm,HB1.out⟩
  have hd15:(c.kind==15)=false:=by simp [h15']
  by_cases hf:c.folder=⟨#[]⟩
  ·have hfe:c.folder.toList.isEmpty=true:=by rw [hf];exact z16
   have E2:=zh (E.out.trans (show Y0 st c=ZA st c by unfold Y0 ZA;simp [isE,hf]))
   by_cases ho:c.other=⟨#[]⟩
   ·have hoe:c.other.toList.isEmpty=true:=by rw [ho];exact z16
    have E3:=zh (E2.out.trans (show ZA st c=0 by unfold ZA;simp [isE,ho]))
    cases h3:(c.kind==3)
    ·go_wp2_with fail
     go_ret
     exact ⟨Z9 E3.out.symm,HB1.out⟩
    go_wp2_with fail
    go_ret
    exact ⟨Z9 E3.out.symm,HB1.out⟩
   have hoe:c.other.toList.isEmpty=false:=z0x ho
   by_cases hk3:c.kind=3
   ·have h3:(c.kind==3)=true:=by simp [hk3]
    go_wp2_with fail
    refine zcm (yG H1.out c.other) ?_
    rintro e w4 ⟨⟨ht,rfl⟩ | ⟨k,g,o,ht,ha,rfl⟩,B4⟩
    ·have E3:=zh (E2.out.trans (show ZA st c=41 by unfold ZA;simp [isE,ho,hk3,ht]))
     go_wp2_with fail
     go_ret
     exact ⟨Z9 E3.out.symm,zB HB1.out B4⟩
    have E3:=zh (E2.out.trans (show ZA st c=0 by unfold ZA;simp [isE,ho,hk3,ht]))
    go_wp2_with fail
    go_ret
    exact ⟨Z9 E3.out.symm,zB HB1.out B4⟩
   have h3:(c.kind==3)=false:=by simp [hk3]
   have hgt:3 < c.kind:=by omega
   go_wp2_with fail
   refine zcm (z0p H1.out c.other) ?_
   rintro e w4 ⟨rfl,B4⟩
   cases hq:yR st c.other with
   | none=>
    have E3:=zh (E2.out.trans (show ZA st c=41 by unfold ZA;simp [isE,ho,hk3,hq,hgt]))
    unfold iOf
    go_wp2_with fail
    go_ret
    exact ⟨Z9 E3.out.symm,zB HB1.out B4⟩
   | some q=>
    have E3:=zh (E2.out.trans (show ZA st c=0 by unfold ZA;simp [isE,ho,hk3,hq,hgt]))
    unfold iOf
    go_wp2_with fail
    go_ret
    exact ⟨Z9 E3.out.symm,zB HB1.out B4⟩
  have hfe:c.folder.toList.isEmpty=false:=z0x hf
  go_wp2_with fail
  refine zcm (yG H1.out c.folder) ?_
  rintro e w3 ⟨⟨ht0,rfl⟩ | ⟨k0,g0,o0,ht0,ha0,rfl⟩,B3⟩
  ·have E3:=zh (E.out.trans (show Y0 st c=41 by unfold Y0;simp [isE,hf,h2,ht0]))
   go_wp2_with fail
   go_ret
   exact ⟨Z9 E3.out.symm,zB HB1.out B3⟩
  have E2:=zh (E.out.trans (show Y0 st c=ZA st c by unfold Y0 ZA;simp [isE,hf,ht0]))
  have H3:=zh (H1.out.below B3)
  have HB3:=zh (zB HB1.out B3)
  have hq1:W.heap.size < w1.heap.size:=by have:=B1.size;omega
  have p0:=(B3.cell (p:=⟨W.heap.size,0,none⟩) hq1).trans z0
  have p4:=(B3.cell (p:=⟨W.heap.size,4,none⟩) hq1).trans z4
  by_cases ho:c.other=⟨#[]⟩
  ·have hoe:c.other.toList.isEmpty=true:=by rw [ho];exact z16
   have E3:=zh (E2.out.trans (show ZA st c=0 by unfold ZA;simp [isE,ho]))
   cases h3:(c.kind==3)
   ·go_wp2_with fail
    go_ret
    exact ⟨Z9 E3.out.symm,HB3.out⟩
   go_wp2_with fail
   go_ret
   exact ⟨Z9 E3.out.symm,HB3.out⟩
  have hoe:c.other.toList.isEmpty=false:=z0x ho
  by_cases hk3:c.kind=3
  ·have h3:(c.kind==3)=true:=by simp [hk3]
   go_wp2_with fail
   refine zcm (yG H3.out c.other) ?_
   rintro e w4 ⟨⟨ht,rfl⟩ | ⟨k,g,o,ht,ha,rfl⟩,B4⟩
   ·have E3:=zh (E2.out.trans (show ZA st c=41 by unfold ZA;simp [isE,ho,hk3,ht]))
    go_wp2_with fail
    go_ret
    exact ⟨Z9 E3.out.symm,zB HB3.out B4⟩
   have E3:=zh (E2.out.trans (show ZA st c=0 by unfold ZA;simp [isE,ho,hk3,ht]))
   go_wp2_with fail
   go_ret
   exact ⟨Z9 E3.out.symm,zB HB3.out B4⟩
  have h3:(c.kind==3)=false:=by simp [hk3]
  have hgt:3 < c.kind:=by omega
  go_wp2_with fail
  refine zcm (z0p H3.out c.other) ?_
  rintro e w4 ⟨rfl,B4⟩
  cases hq:yR st c.other with
  | none=>
   have E3:=zh (E2.out.trans (show ZA st c=41 by unfold ZA;simp [isE,ho,hk3,hq,hgt]))
   unfold iOf
   go_wp2_with fail
   go_ret
   exact ⟨Z9 E3.out.symm,zB HB3.out B4⟩
  | some q=>
   have E3:=zh (E2.out.trans (show ZA st c=0 by unfold ZA;simp [isE,ho,hk3,hq,hgt]))
   unfold iOf
   go_wp2_with fail
   go_ret
   exact ⟨Z9 E3.out.symm,zB HB3.out B4⟩
end
end
end Go.Proofs.YtdggplhnfhcieaaGreatDoor
