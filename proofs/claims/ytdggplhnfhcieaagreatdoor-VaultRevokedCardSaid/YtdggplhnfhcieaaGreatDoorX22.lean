/- No condition. -/
import Derived.Test.YtdggplhnfhcieaaGreatDoorX19
import Derived.Test.YtdggplhnfhcieaaGreatDoorX20
set_option linter.all false
set_option maxRecDepth 100000
set_option maxHeartbeats 16000000
namespace Go.Proofs.YtdggplhnfhcieaaGreatDoor
section
open Go.RowKit Go.Deep
theorem zFo {α:Type} (p:α->Bool) (l:List α):decide (0<=iOf (l.findIdx? p))=l.any p:=by
 cases h:l.findIdx? p with
 | none=>
  rw [List.findIdx?_eq_none_iff] at h;rw [show iOf none= -1 from rfl,decide_eq_false (by omega)];symm;rw [List.any_eq_false]
  exact fun x hx=>by rw [h x hx];decide
 | some k=>
  obtain ⟨hk,hp,_⟩:=List.findIdx?_eq_some_iff_getElem.1 h;rw [show iOf (some k)=(k:Int) from rfl,decide_eq_true (by omega)];symm;rw [List.any_eq_true];exact ⟨l[k],List.getElem_mem hk,hp⟩
def isL (e:Int) (s:Nm) (l:Link):Bool:=decide (l.epoch=e) && decide (l.to=s)
theorem zOo (e0:Int) (s:Nm) (E B:Nat) (x:Link) (cs:List Value) (w:World) (S:Nat->Prop) (h:z0g S w cs x) (hE:w.cell? ⟨E,0,none⟩=some (.int .i64 e0)) (hB:w.cell? ⟨B,0,none⟩=some (.string s)):
  Calls Tryz.prog 165 #[.agg cs.toArray,.pointer (some ⟨E,0,none⟩),.pointer (some ⟨B,0,none⟩)] w fun e w'=>e= .returned (.bool (isL e0 s x))/\Below w.heap.size w w':=by
 obtain ⟨rfl,_,_,_⟩:=z6l h;have hBl:=zF hB;have hEl:=zF hE;by_cases he:x.epoch=e0
 ·have hd:(x.epoch==e0)=true:=by simp [he]
  have E:=zh (show isL e0 s x=(x.to.toList==s.toList) by unfold isL;rw [decide_eq_true he,yV];rfl);clear he;go_enter Tryz.func165,Tryz.ntmps165
  go_wp2;go_ret;exact ⟨ZM E.out.symm,by go_grown⟩
 have hd:(x.epoch==e0)=false:=by simp [he]
 have E:=zh (show isL e0 s x=false by unfold isL;rw [decide_eq_false he];rfl);clear he;go_enter Tryz.func165,Tryz.ntmps165
 go_wp2;go_ret;exact ⟨ZM E.out.symm,by go_grown⟩
def isA (s:Nm) (x:At):Bool:=decide (x.name=s)
theorem zOp (s:Nm) (C:Nat) (x:At) (cs:List Value) (w:World) (S:Nat->Prop) (h:rAt S w cs x) (hC:w.cell? ⟨C,2,none⟩=some (.string s)):
  Calls Tryz.prog 131 #[.agg cs.toArray,.pointer (some ⟨C,0,none⟩)] w fun e w'=>e= .returned (.bool (isA s x))/\Below w.heap.size w w':=by
 obtain ⟨rfl,_,_⟩:=z3b h;have hCl:=zF hC;have E:=zh (yV (a:=x.name) (b:=s));go_enter Tryz.func131,Tryz.ntmps131
 go_wp2;go_ret;exact ⟨ZM E.out,by go_grown⟩
theorem zSv (e0:Int) (s:Nm) (E B:Nat) (l:List Link) (v:Value) (w:World) (S:Nat->Prop) (h:Sl 3 z0g S w v l) (hE:w.cell? ⟨E,0,none⟩=some (.int .i64 e0)) (hB:w.cell? ⟨B,0,none⟩=some (.string s)):
  Calls Tryz.prog 191 #[v,.func (.func 165) #[] #[.pointer (some ⟨E,0,none⟩),.pointer (some ⟨B,0,none⟩)]] w fun e w'=>e= .returned (.int .i64 (iOf (l.findIdx? (isL e0 s))))/\Below w.heap.size w w':=by
 have HE:=zh hE;have HB:=zh hB;clear hE hB;obtain ⟨_,_,rfl,_,hc,_,hs⟩:=h;unfold maxLen at hc;go_enter Tryz.func191,Tryz.ntmps191
 go_wp2;go_loopw [8] (fun i wr=>∃(k:Nat),k<=l.length/\i= .int .i64 k/\Hid (∀y∈l.take k,(isL e0 s) y=false)/\Below w.heap.size w wr) (fun i _=>l.length - (intOf i).toNat)
 case atStart=>exact ⟨0,by omega,by go_num,(fun y hy=>by simp at hy),by go_grown⟩
 obtain ⟨k,_,rfl,HN,hbel⟩:=hrel;have hz:=hbel.size;by_cases hlt:k < l.length
 rotate_left
 ·obtain rfl:k=l.length:=by omega
  have EH:=zh (z67 (z7k (p:=(isL e0 s)) (l:=l) (by have:=HN.out;rwa [qLnx] at this)));go_wp2;go_ret;exact ⟨ZB EH.out.symm,hbel⟩
 obtain ⟨x,_,_,x_k,x_d,x_m,rfl,_,_,_,_,_,x_R,_,_,_⟩:=zQ4 hs hlt (zK hbel);have HX:=zh x_k;clear x_k x_d x_m;go_wp2_with fail
 refine zcm (zOo e0 s E B x _ _ S x_R ((hbel.cell (p:=⟨E,0,none⟩) (zF HE.out)).trans HE.out) ((hbel.cell (p:=⟨B,0,none⟩) (zF HB.out)).trans HB.out)) ?_;rintro e _ ⟨rfl,hb1⟩;cases hpx:(isL e0 s) x
 ·have EH:=zh (z0l HN.out HX.out hpx);go_wp2;go_roundw
  case rel=>exact ⟨k+1,by omega,by go_num,EH,zB hbel hb1⟩
  case measure=>exact qMx
 have EH:=zh (z65 (z4o HN.out HX.out hpx));go_wp2;go_ret;exact ⟨ZB EH.out.symm,zB hbel hb1⟩
theorem zSw (e0:Int) (s:Nm) (E B:Nat) (l:List Link) (v:Value) (w:World) (S:Nat->Prop) (h:Sl 3 z0g S w v l) (hE:w.cell? ⟨E,0,none⟩=some (.int .i64 e0)) (hB:w.cell? ⟨B,0,none⟩=some (.string s)):
  Calls Tryz.prog 164 #[v,.func (.func 165) #[] #[.pointer (some ⟨E,0,none⟩),.pointer (some ⟨B,0,none⟩)]] w fun e w'=>e= .returned (.bool (l.any (isL e0 s)))/\Below w.heap.size w w':=by
 have HI:=zh (zSv e0 s E B l v w S h hE hB);have HJ:=zh (zFo (isL e0 s) l);obtain ⟨_,_,rfl,_⟩:=h;go_enter Tryz.func164,Tryz.ntmps164
 go_wp2_with fail
 refine zcm HI.out ?_;rintro e _ ⟨rfl,B1⟩;generalize iOf (l.findIdx? (isL e0 s))=z at HJ⊢;go_wp2;go_ret;exact ⟨ZM HJ.out,B1⟩
theorem zSx (s:Nm) (C:Nat) (l:List At) (v:Value) (w:World) (S:Nat->Prop) (h:Sl 2 rAt S w v l) (hC:w.cell? ⟨C,2,none⟩=some (.string s)):
  Calls Tryz.prog 166 #[v,.func (.func 131) #[] #[.pointer (some ⟨C,0,none⟩)]] w fun e w'=>e= .returned (.int .i64 (iOf (l.findIdx? (isA s))))/\Below w.heap.size w w':=by
 have HC:=zh hC;clear hC;obtain ⟨_,_,rfl,_,hc,_,hs⟩:=h;unfold maxLen at hc;go_enter Tryz.func166,Tryz.ntmps166
 go_wp2;go_loopw [8] (fun i wr=>∃(k:Nat),k<=l.length/\i= .int .i64 k/\Hid (∀y∈l.take k,(isA s) y=false)/\Below w.heap.size w wr) (fun i _=>l.length - (intOf i).toNat)
 case atStart=>exact ⟨0,by omega,by go_num,(fun y hy=>by simp at hy),by go_grown⟩
 obtain ⟨k,_,rfl,HN,hbel⟩:=hrel;have hz:=hbel.size;by_cases hlt:k < l.length
 rotate_left
 ·obtain rfl:k=l.length:=by omega
  have EH:=zh (z67 (z7k (p:=(isA s)) (l:=l) (by have:=HN.out;rwa [qLnx] at this)));go_wp2;go_ret;exact ⟨ZB EH.out.symm,hbel⟩
 obtain ⟨x,_,_,x_k,x_d,x_m,rfl,_,_,_,_,x_R,_,_⟩:=zTo hs hlt (zK hbel);have HX:=zh x_k;clear x_k x_d x_m;go_wp2_with fail
 refine zcm (zOp s C x _ _ S x_R ((hbel.cell (p:=⟨C,2,none⟩) (zF HC.out)).trans HC.out)) ?_;rintro e _ ⟨rfl,hb1⟩;cases hpx:(isA s) x
 ·have EH:=zh (z0l HN.out HX.out hpx);go_wp2;go_roundw
  case rel=>exact ⟨k+1,by omega,by go_num,EH,zB hbel hb1⟩
  case measure=>exact qMx
 have EH:=zh (z65 (z4o HN.out HX.out hpx));go_wp2;go_ret;exact ⟨ZB EH.out.symm,zB hbel hb1⟩
theorem zSy (s:Nm) (C:Nat) (l:List At) (v:Value) (w:World) (S:Nat->Prop) (h:Sl 2 rAt S w v l) (hC:w.cell? ⟨C,2,none⟩=some (.string s)):
  Calls Tryz.prog 130 #[v,.func (.func 131) #[] #[.pointer (some ⟨C,0,none⟩)]] w fun e w'=>e= .returned (.bool (l.any (isA s)))/\Below w.heap.size w w':=by
 have HI:=zh (zSx s C l v w S h hC);have HJ:=zh (zFo (isA s) l);obtain ⟨_,_,rfl,_⟩:=h;go_enter Tryz.func130,Tryz.ntmps130
 go_wp2_with fail
 refine zcm HI.out ?_;rintro e _ ⟨rfl,B1⟩;generalize iOf (l.findIdx? (isA s))=z at HJ⊢;go_wp2;go_ret;exact ⟨ZM HJ.out,B1⟩
theorem zSz (l:List Item) (v:Value) (w:World) (S:Nat->Prop) (h:Sl 2 YB S w v l) (hv:∀x∈l,0 < x.versions.length):
  Calls Tryz.prog 167 #[v,.func (.func 136) #[] #[]] w fun e w'=>e= .returned (.int .i64 (iOf (l.findIdx? (z09))))/\Below w.heap.size w w':=by
 have HV:=zh hv;clear hv;obtain ⟨_,_,rfl,_,hc,_,hs⟩:=h;unfold maxLen at hc;go_enter Tryz.func167,Tryz.ntmps167
 go_wp2;go_loopw [8] (fun i wr=>∃(k:Nat),k<=l.length/\i= .int .i64 k/\Hid (∀y∈l.take k,(z09) y=false)/\Below w.heap.size w wr) (fun i _=>l.length - (intOf i).toNat)
 case atStart=>exact ⟨0,by omega,by go_num,(fun y hy=>by simp at hy),by go_grown⟩
 obtain ⟨k,_,rfl,HN,hbel⟩:=hrel;have hz:=hbel.size;by_cases hlt:k < l.length
 rotate_left
 ·obtain rfl:k=l.length:=by omega
  have EH:=zh (z67 (z7k (p:=(z09)) (l:=l) (by have:=HN.out;rwa [qLnx] at this)));go_wp2;go_ret;exact ⟨ZB EH.out.symm,hbel⟩
 obtain ⟨x,_,_,_,_,x_k,x_d,x_m,rfl,_,_,_,_,x_R,_,_,_,_,_⟩:=z5a hs hlt (zK hbel);have HX:=zh x_k;have HXM:=zh x_m;clear x_k x_d x_m;go_wp2_with fail
 refine zcm (zAc x (HV.out x HXM.out) _ _ S x_R) ?_;rintro e _ ⟨rfl,hb1⟩;cases hpx:(z09) x
 ·have EH:=zh (z0l HN.out HX.out hpx);go_wp2;go_roundw
  case rel=>exact ⟨k+1,by omega,by go_num,EH,zB hbel hb1⟩
  case measure=>exact qMx
 have EH:=zh (z65 (z4o HN.out HX.out hpx));go_wp2;go_ret;exact ⟨ZB EH.out.symm,zB hbel hb1⟩
theorem zT0 (l:List Item) (v:Value) (w:World) (S:Nat->Prop) (h:Sl 2 YB S w v l) (hv:∀x∈l,0 < x.versions.length):
  Calls Tryz.prog 135 #[v,.func (.func 136) #[] #[]] w fun e w'=>e= .returned (.bool (l.any (z09)))/\Below w.heap.size w w':=by
 have HI:=zh (zSz l v w S h hv);have HJ:=zh (zFo (z09) l);obtain ⟨_,_,rfl,_⟩:=h;go_enter Tryz.func135,Tryz.ntmps135
 go_wp2_with fail
 refine zcm HI.out ?_;rintro e _ ⟨rfl,B1⟩;generalize iOf (l.findIdx? (z09))=z at HJ⊢;go_wp2;go_ret;exact ⟨ZM HJ.out,B1⟩
end
section
open Go.RowKit Go.Deep
section
variable {X:Nat->Prop} {base bw:Nat} {W:World} {R:RM} {c:Call} {dv:Value} {st:State} {done late:Bool}
theorem WK.user (h:WK X base bw W R c dv st done late) {i:Nat} {u:User} (hu:st.users[i]? =some u):∃g off cap,(R .us).v= .slice (some ⟨g,off,none⟩) st.users.length cap/\st.users.length<=cap/\cap<=9223372036854775807/\g≠bw/\g < W.heap.size/\W.cell? ⟨g,off+i*2,none⟩=some (.string u.name)/\W.cell? ⟨g,off+i*2+1,none⟩=some (.bool u.lost)/\∀q,W.frozen? ⟨g,q,none⟩=false:=by
 obtain ⟨_,hx,hR⟩:=h.is.users.at hu;obtain ⟨g,off,cap,hv,hn,hc,hg,hcell,hz⟩:=(h.os.row .us).at hx;obtain ⟨rfl,_⟩:=z7w hR;rw [h.is.users.1] at hv hn;exact ⟨g,off,cap,hv,hn,hc,fun e=>h.nb ⟨.us,by rw [hv,<-e];rfl⟩,hg,hcell 0 _ rfl,hcell 1 _ rfl,hz⟩
theorem z2d:(⟨#[]⟩:ByteArray).toList.isEmpty=true:=by rw [Lib.toList_data];rfl
def ZD (st:State) (c:Call):Int:=if !isE c.other && decide (c.kind=3) && (Z3 st c.other).isNone then 41 else if !isE c.other && decide (3 < c.kind) && (Y6 st c.other).isNone then 41 else 0
def YD (st:State) (c:Call):Int:=if (!isE c.folder && decide (c.kind≠2)) && (Z3 st c.folder).isNone then 41
  else if !isE c.other && decide (c.kind=3) && (Z3 st c.other).isNone then 41
  else if !isE c.other && decide (3 < c.kind) && (Y6 st c.other).isNone then 41 else 0
theorem zKa (h:WK X base bw W R c dv st done late) (hk0:1<=c.kind) (h15:c.kind=15->c.folder=⟨#[]⟩/\c.other=⟨#[]⟩):Calls Tryz.prog 54 #[.pointer (some ⟨bw,0,none⟩)] W fun e w'=>
  e= .returned (.int .i64 (ZV st c late))/\Below W.heap.size W w':=by
 have hc:=h.call;obtain ⟨A7,c7,e7,_,_,_,_,_,_,_,_⟩:=YQ hc;simp only [z3v,List.cons.injEq,and_true,true_and] at e7;subst e7;have s0:=h.cells.1 0 _ rfl;have s1:=h.cells.1 1 _ rfl;have s2:=h.cells.1 2 _ rfl;have s3:=h.cells.1 3 _ rfl;have s4:=h.cells.1 4 _ rfl;have s5:=h.cells.1 5 _ rfl;have s6:=h.cells.1 6 _ rfl;have s7:=h.cells.1 7 _ rfl;obtain ⟨_,_,cw0,fw0,Bw0,qw0⟩:=zQ W #[.int .i64 c.kind,.string c.user,.string c.folder,.string c.name,.string c.other,.int .i64 c.role,.int .i64 c.version,.slice A7 c.data.length c7] 41;have HC0:=zh cw0;have x0:=cw0 0 _ rfl;have H0:=zh (h.below Bw0);have HB0:=zh Bw0;clear h hc cw0 fw0 Bw0;by_cases hk1:c.kind=1
 ·have hd:(c.kind==1)=true:=by simp [hk1]
  have E:=zh (show ZV st c late=0 by unfold ZV;rw [if_pos hk1]);go_enter Tryz.func54,Tryz.ntmps54
  go_wp2;go_ret;exact ⟨ZB E.out.symm,by go_grown⟩
 have hd:(c.kind==1)=false:=by simp [hk1]
 have y1:=HC0.out 1 _ rfl;go_enter Tryz.func54,Tryz.ntmps54
 go_wp2_with fail
 refine zcm (z1s H0.out c.user) ?_;rintro e w1 ⟨rfl,B1⟩;have H1:=zh (H0.out.below B1);have HB1:=zh (zB HB0.out B1);have HC1:=zh (fun j v hj=>(B1.cell (p:=⟨W.heap.size,j,none⟩) qw0).trans (HC0.out j v hj));have z0:=HC1.out 0 _ rfl;have z1:=HC1.out 1 _ rfl;have z2:=HC1.out 2 _ rfl;have z4:=HC1.out 4 _ rfl;have t13:=H1.out.cells.1 13 _ rfl;have t9:=H1.out.cells.1 9 _ rfl
 cases hu:Y6 st c.user with
 | none=>
  have E:=zh (show ZV st c late=41 by unfold ZV;rw [if_neg hk1,hu]);unfold iOf;go_wp2;go_ret
  exact ⟨ZB E.out.symm,HB1.out⟩
 | some u=>
  have hul:u < st.users.length:=(List.findIdx?_eq_some_iff_getElem.1 hu).1;obtain ⟨x,hx⟩:∃x,st.users[u]? =some x:=⟨_,qLgx hul⟩;obtain ⟨_,_,_,hv,_,_,_,_,_,v1,_⟩:=H1.out.user hx;rw [hv] at t9;unfold iOf;have hu1:(u:Int) < (st.users.length:Int):=by omega
  have hrest:ZV st c late=if (x.lost && decide (c.kind≠16)) && !late then 20 else YD st c:=by
   unfold ZV YD;rw [if_neg hk1,hu];dsimp only;rw [hx];rfl
  rcases (show (x.lost=true/\(c.kind==16)=false/\late=false)\/x.lost=false\/(x.lost=true/\(c.kind==16)=true)\/(x.lost=true/\(c.kind==16)=false/\late=true) by
   cases x.lost<;>cases (c.kind==16)<;>cases late<;>simp) with ⟨hl,h16,hla⟩ | hl | ⟨hl,h16⟩ | ⟨hl,h16,hla⟩
  ·have E:=zh (show ZV st c late=20 by
    rw [hrest,hl,hla,if_pos];have:c.kind≠16:=by simpa using h16
    simp [this])
   rw [hl] at v1;subst hla;have hn16:(c.kind !=16)=true:=by rw [bne,h16];rfl
   go_wp2_with fail
   go_ret;exact ⟨ZB E.out.symm,HB1.out⟩
  ·have E:=zh (show ZV st c late=YD st c by rw [hrest,hl];simp);rw [hl] at v1;by_cases h2:c.kind=2
   ·have hd2:(c.kind==2)=true:=by simp [h2]
    have E2:=zh (E.out.trans (show YD st c=0 by unfold YD;simp [h2]));go_wp2_with fail
    go_ret;exact ⟨ZB E2.out.symm,HB1.out⟩
   have hd2:(c.kind==2)=false:=by simp [h2]
   by_cases h15':c.kind=15
   ·have hd15:(c.kind==15)=true:=by simp [h15']
    have E2:=zh (E.out.trans (show YD st c=0 by unfold YD;rw [(h15 h15').1,(h15 h15').2];simp [isE]));go_wp2_with fail
    go_ret;exact ⟨ZB E2.out.symm,HB1.out⟩
   have hd15:(c.kind==15)=false:=by simp [h15']
   by_cases hf:c.folder=⟨#[]⟩
   ·have hfe:c.folder.toList.isEmpty=true:=by rw [hf];exact z2d
    have E2:=zh (E.out.trans (show YD st c=ZD st c by unfold YD ZD;simp [isE,hf]));by_cases ho:c.other=⟨#[]⟩
    ·have hoe:c.other.toList.isEmpty=true:=by rw [ho];exact z2d
     have E3:=zh (E2.out.trans (show ZD st c=0 by unfold ZD;simp [isE,ho]));cases h3:(c.kind==3)
     ·go_wp2_with fail
      go_ret;exact ⟨ZB E3.out.symm,HB1.out⟩
     go_wp2_with fail
     go_ret;exact ⟨ZB E3.out.symm,HB1.out⟩
    have hoe:c.other.toList.isEmpty=false:=z23 ho;by_cases hk3:c.kind=3
    ·have h3:(c.kind==3)=true:=by simp [hk3]
     go_wp2_with fail
     refine zcm (yS H1.out c.other) ?_;rintro e w4 ⟨⟨ht,rfl⟩ | ⟨k,g,o,ht,ha,rfl⟩,B4⟩
     ·have E3:=zh (E2.out.trans (show ZD st c=41 by unfold ZD;simp [isE,ho,hk3,ht]));go_wp2_with fail
      go_ret;exact ⟨ZB E3.out.symm,zB HB1.out B4⟩
     have E3:=zh (E2.out.trans (show ZD st c=0 by unfold ZD;simp [isE,ho,hk3,ht]));go_wp2_with fail
     go_ret;exact ⟨ZB E3.out.symm,zB HB1.out B4⟩
    have h3:(c.kind==3)=false:=by simp [hk3]
    have hgt:3 < c.kind:=by omega
    go_wp2_with fail
    refine zcm (z1s H1.out c.other) ?_;rintro e w4 ⟨rfl,B4⟩
    cases hq:Y6 st c.other with
    | none=>
     have E3:=zh (E2.out.trans (show ZD st c=41 by unfold ZD;simp [isE,ho,hk3,hq,hgt]));unfold iOf;go_wp2_with fail
     go_ret
     exact ⟨ZB E3.out.symm,zB HB1.out B4⟩
    | some q=>
     have E3:=zh (E2.out.trans (show ZD st c=0 by unfold ZD;simp [isE,ho,hk3,hq,hgt]));unfold iOf;go_wp2_with fail
     go_ret;exact ⟨ZB E3.out.symm,zB HB1.out B4⟩
   have hfe:c.folder.toList.isEmpty=false:=z23 hf;go_wp2_with fail
   refine zcm (yS H1.out c.folder) ?_;rintro e w3 ⟨⟨ht0,rfl⟩ | ⟨k0,g0,o0,ht0,ha0,rfl⟩,B3⟩
   ·have E3:=zh (E.out.trans (show YD st c=41 by unfold YD;simp [isE,hf,h2,ht0]));go_wp2_with fail
    go_ret;exact ⟨ZB E3.out.symm,zB HB1.out B3⟩
   have E2:=zh (E.out.trans (show YD st c=ZD st c by unfold YD ZD;simp [isE,hf,ht0]));have H3:=zh (H1.out.below B3);have HB3:=zh (zB HB1.out B3);have hq1:W.heap.size < w1.heap.size:=by have:=B1.size;omega
   have p0:=(B3.cell (p:=⟨W.heap.size,0,none⟩) hq1).trans z0;have p4:=(B3.cell (p:=⟨W.heap.size,4,none⟩) hq1).trans z4;by_cases ho:c.other=⟨#[]⟩
   ·have hoe:c.other.toList.isEmpty=true:=by rw [ho];exact z2d
    have E3:=zh (E2.out.trans (show ZD st c=0 by unfold ZD;simp [isE,ho]));cases h3:(c.kind==3)
    ·go_wp2_with fail
     go_ret;exact ⟨ZB E3.out.symm,HB3.out⟩
    go_wp2_with fail
    go_ret;exact ⟨ZB E3.out.symm,HB3.out⟩
   have hoe:c.other.toList.isEmpty=false:=z23 ho;by_cases hk3:c.kind=3
   ·have h3:(c.kind==3)=true:=by simp [hk3]
    go_wp2_with fail
    refine zcm (yS H3.out c.other) ?_;rintro e w4 ⟨⟨ht,rfl⟩ | ⟨k,g,o,ht,ha,rfl⟩,B4⟩
    ·have E3:=zh (E2.out.trans (show ZD st c=41 by unfold ZD;simp [isE,ho,hk3,ht]));go_wp2_with fail
     go_ret;exact ⟨ZB E3.out.symm,zB HB3.out B4⟩
    have E3:=zh (E2.out.trans (show ZD st c=0 by unfold ZD;simp [isE,ho,hk3,ht]));go_wp2_with fail
    go_ret;exact ⟨ZB E3.out.symm,zB HB3.out B4⟩
   have h3:(c.kind==3)=false:=by simp [hk3]
   have hgt:3 < c.kind:=by omega
   go_wp2_with fail
   refine zcm (z1s H3.out c.other) ?_;rintro e w4 ⟨rfl,B4⟩
   cases hq:Y6 st c.other with
   | none=>
    have E3:=zh (E2.out.trans (show ZD st c=41 by unfold ZD;simp [isE,ho,hk3,hq,hgt]));unfold iOf;go_wp2_with fail
    go_ret
    exact ⟨ZB E3.out.symm,zB HB3.out B4⟩
   | some q=>
    have E3:=zh (E2.out.trans (show ZD st c=0 by unfold ZD;simp [isE,ho,hk3,hq,hgt]));unfold iOf;go_wp2_with fail
    go_ret;exact ⟨ZB E3.out.symm,zB HB3.out B4⟩
  ·have E:=zh (show ZV st c late=YD st c by
    have:c.kind=16:=by simpa using h16
    rw [hrest,hl,this];simp)
   rw [hl] at v1;have k16:c.kind=16:=by simpa using h16
   have hn16:(c.kind !=16)=false:=by rw [bne,h16];rfl
   by_cases h2:c.kind=2
   ·omega
   have hd2:(c.kind==2)=false:=by simp [h2]
   by_cases h15':c.kind=15
   ·omega
   have hd15:(c.kind==15)=false:=by simp [h15']
   by_cases hf:c.folder=⟨#[]⟩
   ·have hfe:c.folder.toList.isEmpty=true:=by rw [hf];exact z2d
    have E2:=zh (E.out.trans (show YD st c=ZD st c by unfold YD ZD;simp [isE,hf]));by_cases ho:c.other=⟨#[]⟩
    ·have hoe:c.other.toList.isEmpty=true:=by rw [ho];exact z2d
     have E3:=zh (E2.out.trans (show ZD st c=0 by unfold ZD;simp [isE,ho]));cases h3:(c.kind==3)
     ·go_wp2_with fail
      go_ret;exact ⟨ZB E3.out.symm,HB1.out⟩
     go_wp2_with fail
     go_ret;exact ⟨ZB E3.out.symm,HB1.out⟩
    have hoe:c.other.toList.isEmpty=false:=z23 ho;by_cases hk3:c.kind=3
    ·omega
    have h3:(c.kind==3)=false:=by simp [hk3]
    have hgt:3 < c.kind:=by omega
    go_wp2_with fail
    refine zcm (z1s H1.out c.other) ?_;rintro e w4 ⟨rfl,B4⟩
    cases hq:Y6 st c.other with
    | none=>
     have E3:=zh (E2.out.trans (show ZD st c=41 by unfold ZD;simp [isE,ho,hk3,hq,hgt]));unfold iOf;go_wp2_with fail
     go_ret
     exact ⟨ZB E3.out.symm,zB HB1.out B4⟩
    | some q=>
     have E3:=zh (E2.out.trans (show ZD st c=0 by unfold ZD;simp [isE,ho,hk3,hq,hgt]));unfold iOf;go_wp2_with fail
     go_ret;exact ⟨ZB E3.out.symm,zB HB1.out B4⟩
   have hfe:c.folder.toList.isEmpty=false:=z23 hf;go_wp2_with fail
   refine zcm (yS H1.out c.folder) ?_;rintro e w3 ⟨⟨ht0,rfl⟩ | ⟨k0,g0,o0,ht0,ha0,rfl⟩,B3⟩
   ·have E3:=zh (E.out.trans (show YD st c=41 by unfold YD;simp [isE,hf,h2,ht0]));go_wp2_with fail
    go_ret;exact ⟨ZB E3.out.symm,zB HB1.out B3⟩
   have E2:=zh (E.out.trans (show YD st c=ZD st c by unfold YD ZD;simp [isE,hf,ht0]));have H3:=zh (H1.out.below B3);have HB3:=zh (zB HB1.out B3);have hq1:W.heap.size < w1.heap.size:=by have:=B1.size;omega
   have p0:=(B3.cell (p:=⟨W.heap.size,0,none⟩) hq1).trans z0;have p4:=(B3.cell (p:=⟨W.heap.size,4,none⟩) hq1).trans z4;by_cases ho:c.other=⟨#[]⟩
   ·have hoe:c.other.toList.isEmpty=true:=by rw [ho];exact z2d
    have E3:=zh (E2.out.trans (show ZD st c=0 by unfold ZD;simp [isE,ho]));cases h3:(c.kind==3)
    ·go_wp2_with fail
     go_ret;exact ⟨ZB E3.out.symm,HB3.out⟩
    go_wp2_with fail
    go_ret;exact ⟨ZB E3.out.symm,HB3.out⟩
   have hoe:c.other.toList.isEmpty=false:=z23 ho;by_cases hk3:c.kind=3
   ·omega
   have h3:(c.kind==3)=false:=by simp [hk3]
   have hgt:3 < c.kind:=by omega
   go_wp2_with fail
   refine zcm (z1s H3.out c.other) ?_;rintro e w4 ⟨rfl,B4⟩
   cases hq:Y6 st c.other with
   | none=>
    have E3:=zh (E2.out.trans (show ZD st c=41 by unfold ZD;simp [isE,ho,hk3,hq,hgt]));unfold iOf;go_wp2_with fail
    go_ret
    exact ⟨ZB E3.out.symm,zB HB3.out B4⟩
   | some q=>
    have E3:=zh (E2.out.trans (show ZD st c=0 by unfold ZD;simp [isE,ho,hk3,hq,hgt]));unfold iOf;go_wp2_with fail
    go_ret;exact ⟨ZB E3.out.symm,zB HB3.out B4⟩
  have E:=zh (show ZV st c late=YD st c by rw [hrest,hla];simp);rw [hl] at v1;rw [hla] at t13;have hn16:(c.kind !=16)=true:=by rw [bne,h16];rfl
  by_cases h2:c.kind=2
  ·have hd2:(c.kind==2)=true:=by simp [h2]
   have E2:=zh (E.out.trans (show YD st c=0 by unfold YD;simp [h2]));go_wp2_with fail
   go_ret;exact ⟨ZB E2.out.symm,HB1.out⟩
  have hd2:(c.kind==2)=false:=by simp [h2]
  by_cases h15':c.kind=15
  ·have hd15:(c.kind==15)=true:=by simp [h15']
   have E2:=zh (E.out.trans (show YD st c=0 by unfold YD;rw [(h15 h15').1,(h15 h15').2];simp [isE]));go_wp2_with fail
   go_ret;exact ⟨ZB E2.out.symm,HB1.out⟩
  have hd15:(c.kind==15)=false:=by simp [h15']
  by_cases hf:c.folder=⟨#[]⟩
  ·have hfe:c.folder.toList.isEmpty=true:=by rw [hf];exact z2d
   have E2:=zh (E.out.trans (show YD st c=ZD st c by unfold YD ZD;simp [isE,hf]));by_cases ho:c.other=⟨#[]⟩
   ·have hoe:c.other.toList.isEmpty=true:=by rw [ho];exact z2d
    have E3:=zh (E2.out.trans (show ZD st c=0 by unfold ZD;simp [isE,ho]));cases h3:(c.kind==3)
    ·go_wp2_with fail
     go_ret;exact ⟨ZB E3.out.symm,HB1.out⟩
    go_wp2_with fail
    go_ret;exact ⟨ZB E3.out.symm,HB1.out⟩
   have hoe:c.other.toList.isEmpty=false:=z23 ho;by_cases hk3:c.kind=3
   ·have h3:(c.kind==3)=true:=by simp [hk3]
    go_wp2_with fail
    refine zcm (yS H1.out c.other) ?_;rintro e w4 ⟨⟨ht,rfl⟩ | ⟨k,g,o,ht,ha,rfl⟩,B4⟩
    ·have E3:=zh (E2.out.trans (show ZD st c=41 by unfold ZD;simp [isE,ho,hk3,ht]));go_wp2_with fail
     go_ret;exact ⟨ZB E3.out.symm,zB HB1.out B4⟩
    have E3:=zh (E2.out.trans (show ZD st c=0 by unfold ZD;simp [isE,ho,hk3,ht]));go_wp2_with fail
    go_ret;exact ⟨ZB E3.out.symm,zB HB1.out B4⟩
   have h3:(c.kind==3)=false:=by simp [hk3]
   have hgt:3 < c.kind:=by omega
   go_wp2_with fail
   refine zcm (z1s H1.out c.other) ?_;rintro e w4 ⟨rfl,B4⟩
   cases hq:Y6 st c.other with
   | none=>
    have E3:=zh (E2.out.trans (show ZD st c=41 by unfold ZD;simp [isE,ho,hk3,hq,hgt]));unfold iOf;go_wp2_with fail
    go_ret
    exact ⟨ZB E3.out.symm,zB HB1.out B4⟩
   | some q=>
    have E3:=zh (E2.out.trans (show ZD st c=0 by unfold ZD;simp [isE,ho,hk3,hq,hgt]));unfold iOf;go_wp2_with fail
    go_ret;exact ⟨ZB E3.out.symm,zB HB1.out B4⟩
  have hfe:c.folder.toList.isEmpty=false:=z23 hf;go_wp2_with fail
  refine zcm (yS H1.out c.folder) ?_;rintro e w3 ⟨⟨ht0,rfl⟩ | ⟨k0,g0,o0,ht0,ha0,rfl⟩,B3⟩
  ·have E3:=zh (E.out.trans (show YD st c=41 by unfold YD;simp [isE,hf,h2,ht0]));go_wp2_with fail
   go_ret;exact ⟨ZB E3.out.symm,zB HB1.out B3⟩
  have E2:=zh (E.out.trans (show YD st c=ZD st c by unfold YD ZD;simp [isE,hf,ht0]));have H3:=zh (H1.out.below B3);have HB3:=zh (zB HB1.out B3);have hq1:W.heap.size < w1.heap.size:=by have:=B1.size;omega
  have p0:=(B3.cell (p:=⟨W.heap.size,0,none⟩) hq1).trans z0;have p4:=(B3.cell (p:=⟨W.heap.size,4,none⟩) hq1).trans z4;by_cases ho:c.other=⟨#[]⟩
  ·have hoe:c.other.toList.isEmpty=true:=by rw [ho];exact z2d
   have E3:=zh (E2.out.trans (show ZD st c=0 by unfold ZD;simp [isE,ho]));cases h3:(c.kind==3)
   ·go_wp2_with fail
    go_ret;exact ⟨ZB E3.out.symm,HB3.out⟩
   go_wp2_with fail
   go_ret;exact ⟨ZB E3.out.symm,HB3.out⟩
  have hoe:c.other.toList.isEmpty=false:=z23 ho;by_cases hk3:c.kind=3
  ·have h3:(c.kind==3)=true:=by simp [hk3]
   go_wp2_with fail
   refine zcm (yS H3.out c.other) ?_;rintro e w4 ⟨⟨ht,rfl⟩ | ⟨k,g,o,ht,ha,rfl⟩,B4⟩
   ·have E3:=zh (E2.out.trans (show ZD st c=41 by unfold ZD;simp [isE,ho,hk3,ht]));go_wp2_with fail
    go_ret;exact ⟨ZB E3.out.symm,zB HB3.out B4⟩
   have E3:=zh (E2.out.trans (show ZD st c=0 by unfold ZD;simp [isE,ho,hk3,ht]));go_wp2_with fail
   go_ret;exact ⟨ZB E3.out.symm,zB HB3.out B4⟩
  have h3:(c.kind==3)=false:=by simp [hk3]
  have hgt:3 < c.kind:=by omega
  go_wp2_with fail
  refine zcm (z1s H3.out c.other) ?_;rintro e w4 ⟨rfl,B4⟩
  cases hq:Y6 st c.other with
  | none=>
   have E3:=zh (E2.out.trans (show ZD st c=41 by unfold ZD;simp [isE,ho,hk3,hq,hgt]));unfold iOf;go_wp2_with fail
   go_ret
   exact ⟨ZB E3.out.symm,zB HB3.out B4⟩
  | some q=>
   have E3:=zh (E2.out.trans (show ZD st c=0 by unfold ZD;simp [isE,ho,hk3,hq,hgt]));unfold iOf;go_wp2_with fail
   go_ret;exact ⟨ZB E3.out.symm,zB HB3.out B4⟩
end
end
section
open Go.RowKit Go.Deep
theorem z9u {l:List Pair} {q:Nat} {p:Pair} (hp:l[q]? =some p) {y:Nm} {P:Nm->Prop} (h:∀r∈l.take q,r.to=y->P r.frm) (k:p.to=y->P p.frm):∀r∈l.take (q+1),r.to=y->P r.frm:=by
 rw [qLtx,hp];intro r hr e;rcases zmb hr with hr | hr
 ·exact h r hr e
 obtain rfl:r=p:=by simpa using hr
 exact k e
def z9v (l:List At) (s:Nm) (n:Int):Bool:=l.any fun x=>decide (x.name=s) && decide (x.seq=n)
theorem z4q {l:List At} {s:Nm} {n:Int}:z9v l s n=true↔(⟨s,n⟩:At)∈l:=by
 unfold z9v;rw [List.any_eq_true];constructor
 ·rintro ⟨x,hx,h⟩;obtain ⟨_,_⟩:=x;simp only [qBqx,decide_eq_true_eq] at h;obtain ⟨rfl,rfl⟩:=h;exact hx
 intro h;exact ⟨_,h,by simp⟩
theorem zG1 (l:List At) (v:Value) (s:Nm) (n:Int) (w:World) (S:Nat->Prop) (h:Sl 2 rAt S w v l):Calls Tryz.prog 84 #[v,.string s,.int .i64 n] w fun e w'=>e= .returned (.bool (z9v l s n))/\w'=w:=by
 obtain ⟨_,_,rfl,_,hc,_,hs⟩:=h;unfold maxLen at hc;go_enter Tryz.func84,Tryz.ntmps84
 go_wp2;go_loop [7] (fun i=>∃k:Nat,k<=l.length/\i= .int .i64 k/\Hid ((⟨s,n⟩:At)∉l.take k)) (fun i=>l.length - (intOf i).toNat)
 case atStart=>exact ⟨0,by omega,by go_num,by simp [Hid]⟩
 obtain ⟨k,_,rfl,HK⟩:=hrel;by_cases hlt:k < l.length
 rotate_left
 ·obtain rfl:k=l.length:=by omega
  have M:=zh (show z9v l s n=false by rw [<-Bool.not_eq_true,z4q];have:=HK.out;rwa [qLnx] at this);go_wp2;go_ret;exact ⟨ZM M.out.symm,rfl⟩
 obtain ⟨x,hx⟩:∃x,l[k]? =some x:=⟨_,qLgx hlt⟩;obtain ⟨b,_,_,hA,_,hRx,hcz⟩:=SlAt.elem hs hx (by decide) zbr;obtain ⟨rfl,_,_⟩:=z3b hRx;have u0:=hcz 0 _ rfl;have u1:=hcz 1 _ rfl;rw [Nat.add_zero] at u0;subst hA;have hki:(k:Int) < (l.length:Int):=by omega
 have HX:=zh hx;have HNEXT:(⟨s,n⟩:At)≠x->Hid ((⟨s,n⟩:At)∉l.take (k+1)):=fun hne=>by
  show _∉_
  rw [qLtx,hx,List.mem_append];rintro (h | h)
  ·exact HK.out h
  ·exact hne (by simpa using h)
 clear hx hcz;by_cases e1:x.name=s
 rotate_left
 ·have hse:(x.name.toList==s.toList)=false:=z03 e1;have HK2:=HNEXT fun e=>e1 (by rw [<-e])
  clear e1 HNEXT;go_wp2;go_round
  case rel=>exact ⟨k+1,by omega,by go_num,HK2⟩
  case measure=>exact qMx
 have hse:(x.name.toList==s.toList)=true:=by rw [e1];simp
 by_cases e2:x.seq=n
 ·have hne:(x.seq==n)=true:=by rw [e2];simp
  have M:=zh (show z9v l s n=true from z4q.2 (by have:=zmg HX.out;obtain ⟨_,b⟩:=x;dsimp only at e1 e2;rw [<-e1,<-e2];exact this));clear e1 e2 HNEXT;go_wp2;go_ret;exact ⟨ZM M.out.symm,rfl⟩
 have hne:(x.seq==n)=false:=beq_eq_false_iff_ne.2 e2;have HK2:=HNEXT fun e=>e2 (by rw [<-e])
 clear e1 e2 HNEXT;go_wp2;go_round
 case rel=>exact ⟨k+1,by omega,by go_num,HK2⟩
 case measure=>exact qMx
theorem zKl (st:State) (hsm:Small st) (u:Nm) (hu:u.size<=1000) (cs:List Value) (w:World) (S:Nat->Prop) (h:yB S w cs st):Calls Tryz.prog 82 #[.agg cs.toArray,.string u] w fun e w'=>(∃(v:Value) (L:List Nm),e= .returned v/\Sl 1 z06 (fun _=>True) w' v L/\(∀x,x∈L↔ClR (z7p st.deposits) [u] x)/\L.length<=1001)/\Below w.heap.size w w':=by
 have HSM:=zh hsm;clear hsm;obtain ⟨st_A1,st_c1,st_A2,st_c2,st_A3,st_c3,rfl,st_turn_ok,st_users_l,st_users_m,st_users_n,st_users_s,st_deposits_l,st_deposits_m,st_deposits_n,st_deposits_s,st_folders_l,st_folders_m,st_folders_n,st_folders_s⟩:=ZP h;obtain ⟨w0,hw0,cw0,fw0,Bw0,qw0⟩:=zQ w #[.int .i64 st.turn,.slice st_A1 st.users.length st_c1,.slice st_A2 st.deposits.length st_c2,.slice st_A3 st.folders.length st_c3] 34;obtain ⟨w1,hw1,cw1,fw1,Bw1,qw1⟩:=zQ w0 #[.string u] 9;have HB0:=zh Bw0;have HC0:=zh cw0;have hb1:w1.heap[w0.heap.size]? =some (.cells #[.string u] 9 (0,0)):=by rw [<-hw1];exact zJ _ rfl
 have HG:=zh (show Grow 9 1 z06 (fun _=>False) w1 w0.heap.size (.slice (some ⟨w0.heap.size,0,none⟩) 1 1) [u] from Grow.one ZT hb1 (znl _) rfl ⟨rfl,by omega⟩);have hd100:st.deposits.length<=1000:=by have:=HSM.out.all;omega
 have HCL:=zh (Cl.start (z7p st.deposits) [u]);have hS80:[u].length<=80:=by simp
 have hbel:Below w0.heap.size w0 w1:=Bw1;clear cw0 fw0 Bw0 cw1 fw1 Bw1 hb1 st_users_s st_folders_s;obtain ⟨istring,histring,hzstring,h1string,h2string⟩:=info_parts (show (Tryz.prog.info? 9).map (fun i=>(i.zero,i.size,i.bytes))=some (some (.string ⟨#[]⟩),1,16) from by kernel_rfl);go_enter Tryz.func82,Tryz.ntmps82
 go_wp2;clear hw0 hw1;go_loopw [5,6] (fun vo i wr=>∃(q:Nat) (L:List Nm),q<=L.length/\i= .int .i64 q/\Hid (Grow 9 1 z06 (fun _=>False) wr w0.heap.size vo L)/\Hid (Cl (z7p st.deposits) [u] L q)/\Below w0.heap.size w0 wr) (fun _ i _=>1200 - (intOf i).toNat)
 case atStart=>exact ⟨0,_,by omega,by go_num,HG,HCL,hbel⟩
 clear HG HCL hbel;obtain ⟨wr3,rfl⟩:∃q,q=wr:=⟨_,rfl⟩;obtain ⟨q,L,hq,rfl,HG,HCL,hbel⟩:=hrel;have B0:=zh (hbel);obtain ⟨A6,n6,c6,rfl,hn6⟩:=HG.out.shape';have hLL:L.length<=1080:=by have:=HCL.out.len;rw [zDu] at this;omega
 have hz1:=hbel.size;subst hn6;by_cases hlt:q < L.length
 rotate_left
 ·obtain rfl:q=L.length:=by omega
  have HALL:=zh (HCL.out.all (znl _));have HLEN:=zh (show L.length<=1001 by have:=HCL.out.len;rw [zDu,List.length_singleton] at this;omega);have HSL:=zh (Own.sl ZT HG.out);have HBF:=zh (zB HB0.out B0.out);clear HG;go_wp2;go_ret;exact ⟨⟨_,L,rfl,HSL.out,HALL.out,HLEN.out⟩,HBF.out⟩
 obtain ⟨y,hy⟩:∃y,L[q]? =some y:=⟨_,qLgx hlt⟩;have HQ:=zh (show ∀r∈st.deposits.take 0,r.to=y->r.frm∈L from fun r hr=>by simp at hr);have HY:=zh hy;clear hy;go_wp2;go_loopw [5,7] (fun vo i wr=>∃(d:Nat) (L':List Nm),d<=st.deposits.length/\i= .int .i64 d/\q < L'.length/\Hid (L'[q]? =some y)/\Hid (Grow 9 1 z06 (fun _=>False) wr w0.heap.size vo L')/\Hid (Cl (z7p st.deposits) [u] L' q)/\Hid (∀r∈st.deposits.take d,r.to=y->r.frm∈L')/\Below w0.heap.size w0 wr) (fun _ i _=>st.deposits.length - (intOf i).toNat)
 case atStart=>exact ⟨0,L,by omega,by go_num,hlt,HY,HG,HCL,HQ,hbel⟩
 clear HQ HG HCL hbel hLL hlt hz1 B0 hq HY;obtain ⟨wr4,rfl⟩:∃q,q=wr:=⟨_,rfl⟩;obtain ⟨d,L',hd,rfl,hqL,HY,HG,HCL,HQ,hbel⟩:=hrel;have B0:=zh (hbel);have hLL:L'.length<=1080:=by have:=HCL.out.len;rw [zDu] at this;omega
 have hz1:=hbel.size;have s2:=(B0.out.cell (p:=⟨w.heap.size,2,none⟩) qw0).trans (HC0.out 2 _ rfl);obtain ⟨A7,c7,hv7,hl7,hc7,hn7,hs7⟩:=Own.sl ZT HG.out;subst hv7;unfold maxLen at hc7;by_cases hld:d < st.deposits.length
 rotate_left
 ·obtain rfl:d=st.deposits.length:=by omega
  have HN:=zh (HCL.out.next HY.out fun z hz=>by
   obtain ⟨p,hp,e1,e2⟩:=z9q.1 hz;subst e2;exact HQ.out p (by rw [qLnx];exact hp) e1)
  go_wp2;go_roundw
  case rel=>exact ⟨q+1,L',by omega,by go_num,HG,HN,hbel⟩
  case measure=>exact qMx
 obtain ⟨p,hp⟩:∃p,st.deposits[d]? =some p:=⟨_,qLgx hld⟩;obtain ⟨b,o,ys,hA,hbl,hRp,hcz⟩:=SlAt.elem st_deposits_s hp (by decide) (zB HB0.out B0.out);obtain ⟨y',by_,oy,hy',_,_,hA7,q0⟩:=z8u hs7 hqL (Kept.refl wr4 fun _ h=>h);obtain rfl:y=y':=zsi (HY.out.symm.trans hy');obtain ⟨rfl,p_frm_le,p_to_le⟩:=z7x hRp;have u0:=hcz 0 _ rfl;have u1:=hcz 1 _ rfl;rw [Nat.add_zero] at u0;subst hA;subst hA7;have hdi:(d:Int) < (st.deposits.length:Int):=by omega
 have hqi:(q:Int) < (L'.length:Int):=by omega
 have HPL:=zh p_frm_le;have HP:=zh hp;have HSL:=zh (Own.sl ZT HG.out);clear hp hy' hcz;by_cases hfr:p.to=y
 rotate_left
 ·have hse:(p.to.toList==y.toList)=false:=z03 hfr;have HQ2:=zh (z9u HP.out (P:=fun x=>x∈L') HQ.out fun e=>absurd e hfr);clear hfr;go_wp2_with fail
  go_quiet (fail)
  go_wp2;go_roundw
  case rel=>exact ⟨d+1,L',by omega,by go_num,hqL,HY,(HG.out.below ZT (ZN zbr _)),HCL,HQ2,ZN hbel _⟩
  case measure=>exact qMx
 have hse:(p.to.toList==y.toList)=true:=by rw [hfr];simp
 have HCN:=zh (fun nq=>zE7 L' _ p.frm (wr4.drewN nq) _ (HSL.out.keep ZT (by decide) (zK (ZN zbr nq))));have HFR:=zh hfr;clear hfr
 cases hmem:z96 L' p.frm with
 | true=>
  have HQ2:=zh (z9u HP.out (P:=fun x=>x∈L') HQ.out fun _=>z0v.1 hmem);rw [hmem] at HCN;clear hmem;go_wp2_with fail
  go_quiet ((go_at_call 49;refine Calls.quiet_of_same (HCN.out _)))
  go_wp2;go_roundw
  case rel=>exact ⟨d+1,L',by omega,by go_num,hqL,HY,(HG.out.below ZT (ZN zbr _)),HCL,HQ2,ZN hbel _⟩
  case measure=>exact qMx
 | false=>
  have HNM:=zh (show p.frm∉L' from fun hm=>by rw [z0v.2 hm] at hmem;cases hmem);have HED:=zh (show (y,p.frm)∈z7p st.deposits from z9q.2 ⟨p,zmg HP.out,HFR.out,rfl⟩);rw [hmem] at HCN;clear hmem;go_wp2_with fail
  go_quiet ((go_at_call 49;refine Calls.quiet_of_same (HCN.out _)))
  generalize hw7:wr4.drewN nq=w7;have B67:Below wr4.heap.size wr4 w7:=by rw [<-hw7];exact ZN zbr _
  have HG7:=zh (HG.out.below ZT B67);have u0':=(B67.cell (p:=⟨b,o+d*2,none⟩) (zF u0)).trans u0;have s2':=(B67.cell (p:=⟨w.heap.size,2,none⟩) (zF s2)).trans s2;have HB7:=zh (zB hbel B67);have hz7:w0.heap.size<=w7.heap.size:=HB7.out.size;clear hw7 B67 u0 u1 s2 q0;go_wp2_with (at_builtin;go_loud (refine yZ (R:=z06) _ _ rfl (.tmp 45) (.tmp 52) 45 rfl 9 istring _ 1 16 Tryz.underlying45 histring hzstring h1string h2string rfl (by decide) ZT w0.heap.size hz7 _ _ rfl HG7.out _ _ rfl (by simp only [zS]) _ (by intro b hb;exact hb.elim) ⟨rfl,HPL.out⟩ (by omega) (by decide) ?_);intro v8 w8 g8 gg8 go8;obtain ⟨A8,n8,c8,rfl,hn8⟩:=g8.shape';have G8:=zh g8;have GG8:=zh gg8;clear hn8 g8 gg8 go8)
  go_roundw
  case rel=>exact ⟨d+1,L'++[p.frm],by omega,by go_num,by rw [qLax];omega,(zh (by rw [qLlx hqL];exact HY.out)),G8,(zh (HCL.out.add (zmg HY.out) HED.out HNM.out (by omega))),(zh (z9u HP.out (P:=fun x=>x∈L'++[p.frm]) (fun r hr e=>List.mem_append_left _ (HQ.out r hr e)) fun _=>List.mem_append_right _ (by simp))),Below.grown HB7.out GG8.out hz7 fun b hb=>(HG7.out.base_le b hb).1⟩
  case measure=>exact qMx
end
def z7t (f:Folder):List (At×At):=(List.range (f.epochs.length - 1)).map fun i:Nat=>(⟨f.name,(i:Int)+2⟩,⟨f.name,(i:Int)+1⟩)
def z7u (f:Folder):List (At×At):=f.links.map fun x=>(⟨x.to,x.seq⟩,⟨f.name,x.epoch⟩)
def z1u (st:State):List (At×At):=(ZE Folder.name st.folders).flatMap fun f=>z7t f++z7u f
def z2m (S:List Nm) (f:Folder) (l:List Wrap):List At:=((ZE Wrap.name l).filter fun x=>z96 S x.name).map fun x=>⟨f.name,yR f.epochs x⟩
def YU (S:List Nm) (l:List Folder):List At:=(ZE Folder.name l).flatMap fun f=>z2m S f f.wraps
def zRw (st:State) (S:List Nm) (x:At):Prop:=ClR (z1u st) (YU S st.folders) x
theorem z5x {f:Folder} {a b:At}:(a,b)∈z7t f↔a.name=f.name/\2<=a.seq/\a.seq<=f.epochs.length/\b=⟨f.name,a.seq - 1⟩:=by
 obtain ⟨_,aq⟩:=a;unfold z7t;rw [List.mem_map];constructor
 ·rintro ⟨_,hi,h⟩;rw [List.mem_range] at hi;rw [Prod.mk.injEq,At.mk.injEq] at h;obtain ⟨⟨h1,h2⟩,h3⟩:=h;refine ⟨h1.symm,by dsimp only;omega,by dsimp only;omega,?_⟩;rw [<-h3];congr 1;dsimp only;omega
 rintro ⟨h1,h2,h3,rfl⟩;dsimp only at h1 h2 h3⊢;refine ⟨(aq - 2).toNat,by rw [List.mem_range];omega,?_⟩;rw [Prod.mk.injEq,At.mk.injEq,At.mk.injEq];exact ⟨⟨h1.symm,by omega⟩,rfl,by omega⟩
theorem z5y {f:Folder} {a b:At}:(a,b)∈z7u f↔∃x∈f.links,x.to=a.name/\x.seq=a.seq/\b=⟨f.name,x.epoch⟩:=by
 obtain ⟨_,_⟩:=a;unfold z7u;rw [List.mem_map];constructor
 ·rintro ⟨x,hx,h⟩;rw [Prod.mk.injEq,At.mk.injEq] at h;exact ⟨x,hx,h.1.1,h.1.2,h.2.symm⟩
 rintro ⟨x,hx,h1,h2,rfl⟩;exact ⟨x,hx,by rw [Prod.mk.injEq,At.mk.injEq];exact ⟨⟨h1,h2⟩,rfl⟩⟩
theorem z40 {st:State} {a b:At}:(a,b)∈z1u st↔∃f∈ZE Folder.name st.folders,(a,b)∈z7t f\/(a,b)∈z7u f:=by
 unfold z1u;rw [List.mem_flatMap];simp only [List.mem_append]
theorem zF6 {S:List Nm} {l:List Folder} {x:At}:x∈YU S l↔∃f∈ZE Folder.name l,∃y∈ZE Wrap.name f.wraps,y.name∈S/\x=⟨f.name,yR f.epochs y⟩:=by
 unfold YU z2m;rw [List.mem_flatMap];refine exists_congr fun f=>and_congr_right fun _=>?_
 rw [List.mem_map];constructor
 ·rintro ⟨y,hy,rfl⟩;rw [List.mem_filter,z0v] at hy;exact ⟨y,hy.1,hy.2,rfl⟩
 rintro ⟨y,hy,h,rfl⟩;exact ⟨y,by rw [List.mem_filter,z0v];exact ⟨hy,h⟩,rfl⟩
theorem zPt {st:State} {u:Nm} {S:List Nm} (hS:∀x,x∈S↔ClR (z7p st.deposits) [u] x) (s:Nm) (n:Int):zRw st S ⟨s,n⟩↔z2w st u s n:=by
 have hU:∀x,ClR (z7p st.deposits) [u] x->Reach (z3t st) (uN u) (uN x):=fun x r=>r.closed (fun x=>Reach (z3t st) (uN u) (uN x)) (fun x hx=>by rw [zml hx];exact .refl) fun e he h=> .step h (by
  obtain ⟨p,hp,e1,e2⟩:=z9q.1 (show (e.1,e.2)∈_ from he);exact z3j.2 (.inl ⟨p,hp,by rw [e1],by rw [e2]⟩))
 constructor
 ·intro h;refine h.closed (fun x=>z2w st u x.name x.seq) (fun x hx=>?_) fun e he k=>?_
  ·obtain ⟨f,hf,y,hy,hm,rfl⟩:=zF6.1 hx;exact .step (hU _ ((hS _).1 hm)) (z3j.2 (.inr ⟨f,hf,.inr (.inl ⟨y,hy,rfl,rfl⟩)⟩))
  obtain ⟨a,b⟩:=e;obtain ⟨f,hf,h | h⟩:=z40.1 he
  ·obtain ⟨h1,h2,h3,rfl⟩:=z5x.1 h;exact .step k (z3j.2 (.inr ⟨f,hf,.inl ⟨a.seq,h2,h3,by dsimp only;rw [h1],rfl⟩⟩))
  obtain ⟨x,hx,h1,h2,rfl⟩:=z5y.1 h;exact .step k (z3j.2 (.inr ⟨f,hf,.inr (.inr ⟨x,hx,by dsimp only;rw [h1,h2],rfl⟩)⟩))
 intro h;have H:∀g:GN,Reach (z3t st) (uN u) g->(g.1=false->g.2.2=0/\g.2.1∈S)/\(g.1=true->zRw st S ⟨g.2.1,g.2.2⟩):=fun g r=>by
  refine r.closed (fun g=>(g.1=false->g.2.2=0/\g.2.1∈S)/\(g.1=true->zRw st S ⟨g.2.1,g.2.2⟩)) ⟨fun _=>⟨rfl,(hS _).2 (.seed (by simp [uN]))⟩,fun h=>by simp [uN] at h⟩ fun e he k=>?_
  obtain ⟨a,b⟩:=e;dsimp only at k⊢;rcases z3j.1 he with ⟨p,hp,rfl,rfl⟩ | ⟨f,hf,⟨e,h1,h2,rfl,rfl⟩ | ⟨y,hy,rfl,rfl⟩ | ⟨x,hx,rfl,rfl⟩⟩
  ·refine ⟨fun _=>⟨rfl,(hS _).2 ?_⟩,fun h=>by simp [uN] at h⟩;exact .step ((hS _).1 (k.1 rfl).2) (z9q.2 ⟨p,hp,rfl,rfl⟩)
  ·refine ⟨fun h=>by simp [eN] at h,fun _=>?_⟩;exact .step (k.2 rfl) (z40.2 ⟨f,hf,.inl (z5x.2 ⟨rfl,h1,h2,rfl⟩)⟩)
  ·refine ⟨fun h=>by simp [eN] at h,fun _=>?_⟩;exact .seed (zF6.2 ⟨f,hf,y,hy,(k.1 rfl).2,rfl⟩)
  ·refine ⟨fun h=>by simp [eN] at h,fun _=>?_⟩;exact .step (k.2 rfl) (z40.2 ⟨f,hf,.inr (z5y.2 ⟨x,hx,rfl,rfl,rfl⟩)⟩)
 exact (H _ h).2 rfl
theorem zF7 (S:List Nm) (f:Folder) (l:List Wrap):(z2m S f l).length<=l.length:=by
 unfold z2m;rw [qLmx];exact qNtx (List.length_filter_le _ _) (z5s _ _)
theorem z56 {st:State} (hs:Small st) {f:Folder} (hf:f∈st.folders):f.wraps.length<=1000/\f.epochs.length<=1000/\f.links.length<=1000:=by
 have h1:=zDf _ _ hf;have h2:=hs.all;unfold z6y at h1;omega
theorem zRx {l r:List Folder} (h:l.Sublist r):z4l l<=z4l r:=by
 induction h with
 | slnil=>exact znl _
 | cons a _ ih=>rw [z4l];omega
 | cons_cons a _ ih=>rw [z4l,z4l];omega
theorem zH5 {β:Type} (g:Folder->List β) (hg:∀f,(g f).length<=z6y f) (l:List Folder):((ZE Folder.name l).flatMap g).length<=z4l l:=by
 refine qNtx (zBr g l) ?_
 induction l with
 | nil=>simp
 | cons f l ih=>rw [List.flatMap_cons,qLax,z4l];have:=hg f;omega
theorem zF8 {st:State} (hs:Small st) (S:List Nm) (l:List Folder) (hl:l.Sublist st.folders):(YU S l).length<=1000:=by
 have h1:=zH5 (fun f=>z2m S f f.wraps) (fun f=>by have:=zF7 S f f.wraps;unfold z6y;omega) l;have h2:=zRx hl;have h3:=hs.all;unfold YU;omega
theorem zN8 {st:State} (hs:Small st):(z1u st).length<=1000:=by
 have h1:=zH5 (fun f=>z7t f++z7u f) (fun f=>by rw [qLax,z7t,z7u,qLmx,qLmx,List.length_range];unfold z6y;omega) st.folders;have h3:=hs.all;unfold z1u;omega
theorem zJc {st:State} {k:Nat} {f:Folder} (hf:st.folders[k]? =some f):(z00 st f.name=k↔f.name∉(st.folders.take k).map Folder.name):=by
 constructor
 ·intro h hm;obtain ⟨g,hg,hn⟩:=List.mem_map.1 hm;obtain ⟨j,hj⟩:=List.getElem?_of_mem hg;have hjk:j < k:=by
   have:=(zge hj).1;rw [List.length_take] at this;omega
  have hb:∃i,i<=j/\z00 st f.name=(i:Nat):=by
   cases hF:zP st f.name with
   | none=>
    have:=List.find?_eq_none.1 hF g (List.mem_of_mem_take hg)
    simp [hn] at this
   | some x=>
    obtain ⟨i,hi,_⟩:=z2y hF;refine ⟨i,?_,hi⟩;rcases Nat.lt_or_ge j i with hlt | hge
    ·obtain ⟨hp,a,_,hl,hno⟩:=List.find?_eq_some_iff_append.1 hF;have ha:z00 st f.name=(a.length:Nat):=z71 (x:=x) (fun y hy=>by
      rw [hl,List.take_left] at hy;simpa [isF] using hno y hy) (by rw [hl,qLrx (znl _),Nat.sub_self];rfl) (by simpa [isF] using hp)
     have hia:i=a.length:=by omega
     have hgj:st.folders[j]? =some g:=by rw [List.getElem?_take,if_pos hjk] at hj;exact hj
     rw [hl,qLlx (by omega)] at hgj;have:=hno g (zmg hgj);simp [hn] at this
    ·exact hge
  obtain ⟨i,hi,_⟩:=hb;omega
 intro h;refine z71 (fun y hy=>?_) hf (by simp [isF]);simp only [isF,decide_eq_false_iff_not];exact fun e=>h (List.mem_map.2 ⟨y,hy,e⟩)
theorem zKm {st:State} {S:List Nm} {k:Nat} {f:Folder} (hf:st.folders[k]? =some f) (h:z00 st f.name=k):YU S (st.folders.take (k+1))=YU S (st.folders.take k)++z2m S f f.wraps:=by
 unfold YU;rw [qLtx,hf];show (ZE Folder.name (_++[f])).flatMap _=_
 rw [z0q,if_neg ((zJc hf).1 h),List.flatMap_append];simp
theorem zKn {st:State} {S:List Nm} {k:Nat} {f:Folder} (hf:st.folders[k]? =some f) (h:z00 st f.name≠k):YU S (st.folders.take (k+1))=YU S (st.folders.take k):=by
 unfold YU;rw [qLtx,hf];show (ZE Folder.name (_++[f])).flatMap _=_
 rw [z0q,if_pos (Decidable.not_not.1 fun e=>h ((zJc hf).2 e))]
theorem zKo {S:List Nm} {f:Folder} {l:List Wrap} {j:Nat} {x:Wrap} (hx:l[j]? =some x) (h1:x.name∉(l.take j).map Wrap.name) (h2:x.name∈S):z2m S f (l.take (j+1))=z2m S f (l.take j)++[⟨f.name,yR f.epochs x⟩]:=by
 unfold z2m;rw [qLtx,hx];show ((ZE Wrap.name (_++[x])).filter _).map _=_
 rw [z0q,if_neg h1,List.filter_append,List.map_append];congr 1;rw [List.filter_cons,if_pos (by rw [z0v];exact h2)];rfl
theorem zD4 {S:List Nm} {f:Folder} {l:List Wrap} {j:Nat} {x:Wrap} (hx:l[j]? =some x) (h:x.name∈(l.take j).map Wrap.name\/x.name∉S):z2m S f (l.take (j+1))=z2m S f (l.take j):=by
 unfold z2m;rw [qLtx,hx];show ((ZE Wrap.name (_++[x])).filter _).map _=_
 rw [z0q];split
 ·rfl
 rename_i h1;have h2:=h.resolve_left h1;rw [List.filter_append,List.filter_cons,if_neg (by rw [z0v];exact h2)];simp
theorem z7v {st:State} {f:Folder}:f∈ZE Folder.name st.folders↔∃k:Nat,st.folders[k]? =some f/\z00 st f.name=k:=by
 constructor
 ·intro h;obtain ⟨k,h1,h2⟩:=z2y ((z4z Folder.name st.folders f.name f).2 ⟨h,rfl⟩);exact ⟨k,h2,h1⟩
 rintro ⟨k,h1,h2⟩
 cases hF:zP st f.name with
 | none=>rw [z72 hF] at h2;omega
 | some g=>
  obtain ⟨j,_,h4⟩:=z2y hF;obtain rfl:k=j:=by omega
  obtain rfl:=zsi (h1.symm.trans h4);exact ((z4z Folder.name st.folders f.name f).1 hF).1
end Go.Proofs.YtdggplhnfhcieaaGreatDoor
