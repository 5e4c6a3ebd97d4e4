/- Part 2 of the proof of vaultStays_holds. No condition. -/
import Derived.WalkKit
import Derived.ProofKit
import Derived.OpenShut
import Derived.Below
import Derived.Carry
import Derived.Test.YtdggplhnfhcieaaGreatDoorRows
import Derived.LaidMore
import Derived.Lay
import Derived.Test.YtdggplhnfhcieaaGreatDoorTie
import Derived.Test.YtdggplhnfhcieaaGreatDoorZ00
set_option linter.unusedVariables false
set_option linter.unusedSimpArgs false
set_option linter.unusedSectionVars false
set_option maxRecDepth 100000
namespace Go.Proofs.YtdggplhnfhcieaaGreatDoor
section
open Go.ChangeShapes Go.WideShapes Go.ChangeAt Go.RowKit
theorem zNj:ownKnob Tryz.prog.godebug=none:=by kernel_rfl
theorem zEb:laidOutB Tryz.prog=true:=by kernel_rfl
def z5z (P:Program) (ts:List TypeId):Bool:=ts.all fun t=>P.readableRec t && decide (t < P.types.size)
theorem z7h {H:Type} {enc:TypeId×Value->H} {P:Program} (hl:laidOutB P=true) {W W':World} (hb:Below W.heap.size W W') (sp:Nat->Bool):
  ∀(ts:List TypeId) (vs:List Value) (ds:List (DataW H)) (ps:List MemPlace),z5z P ts=true->DataW.TrodAll enc P W 0 (fun _=>true) true ts vs ds ps->
   (∀x∈ps,x.block < W.heap.size)->(∀x∈ps,sp x.block=true)->DataW.TrodAll enc P W' 0 sp true ts vs ds ps
 | [],[],[],ps,_,h,_,_=>h
 | t :: ts,v :: vs,d :: ds,ps,hr,h,hlt,hsp=>by
  obtain ⟨p,q,hp,hq,rfl⟩:=h
  unfold z5z at hr
  rw [List.all_cons,Bool.and_eq_true,Bool.and_eq_true] at hr
  obtain ⟨⟨h1,h2⟩,h3⟩:=hr
  exact ⟨p,q,WideElems.Trod_stays hl h1 (of_decide_eq_true h2) hp (fun x hx=>hb.same (hlt x (List.mem_append_left _ hx))) (fun x hx=>hsp x (List.mem_append_left _ hx)),
   z7h hl hb sp ts vs ds q h3 hq (fun x hx=>hlt x (List.mem_append_right _ hx)) (fun x hx=>hsp x (List.mem_append_right _ hx)),rfl⟩
 | [],_ :: _,_,_,_,h,_,_=>by cases h
 | _ :: _,[],_,_,_,h,_,_=>by cases h
 | [],[],_ :: _,_,_,h,_,_=>by cases h
 | _ :: _,_ :: _,[],_,_,h,_,_=>by cases h
theorem zLv {H:Type} {enc:TypeId×Value->H} {P:Program} {f:Func} {s:ChangeSpec} {tb:TypeId} {apart fresh handsOn again:Bool} {W W':World} {args:Array Value} {ds gs:List (DataW H)} {before:List MemPlace}
  (hW:DataW.Whole enc P f.params.toList s.vars apart W args.toList ds gs before) (hv:s.vars=[]) (hfn:s.fn H (ds++gs)={ results:=[.lit (.bool true)],args:=ds })
  (ht:f.resultTypes=#[tb]) (hbt:P.underlying tb=some .bool) (hl:laidOutB P=true) (hr:z5z P f.params.toList=true) (hb:Below W.heap.size W W'):
  s.post enc P f apart fresh handsOn again W args (.bool true) W':=by
 have hW':=hW
 obtain ⟨p,_,hA,hV,rfl,hfz,hnd⟩:=hW
 rw [hv] at hV
 obtain ⟨rfl,rfl⟩:=trodVars_none hV
 have hlt:∀x∈p++([]:List MemPlace),x.block < W.heap.size:=fun x hx=>hW'.lt x hx
 simp only [List.append_nil] at hlt hfz hnd hW'
 have hold:∀x∈p,(fun b=>decide (b < W.heap.size)) x.block=true:=fun x hx=>by simpa using hlt x hx
 have hvn:∀sp:Nat->Bool,DataW.TrodVars enc P W' sp s.vars ([]:List (DataW H)) []:=fun sp=>by rw [hv];rfl
 have hargs:∀sp:Nat->Bool,(∀x∈p,sp x.block=true)->DataW.TrodAll enc P W' 0 sp true f.params.toList args.toList ds p:=fun sp hsp=>z7h hl hb sp _ _ _ _ hr hA hlt hsp
 have hres:∀(b:Nat) (sp:Nat->Bool) (hd:Bool),DataW.TrodAll enc P W' b sp hd f.resultTypes.toList ((Value.bool true).resultList f.resultTypes.size) [.lit (.bool true)] []:=fun b sp hd=>by
  rw [ht]
  exact trodAll_mk1 (shut_bool hbt true)
 have hvars:(s.fn H (ds++[])).vars=[]:=by rw [hfn]
 refine ⟨ds,[],p,[],p,[],hW',?_,?_,?_,World.keptBut_mono (fun x hx=>⟨hx,?_⟩) (hb.frame (·∈p)),fun _=>?_⟩
 ·rw [hfn];exact hres _ _ _
 ·rw [hfn];exact hargs _ hold
 ·rw [hvars];exact hvn _
 ·simpa using hx
 ·refine ⟨ok_one ht rfl (okWide_bool_mk hbt true),[.lit (.bool true)]++ds,[],([]++p)++[],⟨[]++p,[],trodAll_append (hargs _ (fun _ _=>rfl)) (hres _ _ _),hvn _,rfl,?_,?_⟩,?_⟩
  ·intro b off hp
   have hin:MemPlace.cell b off∈p:=by simpa using hp
   rw [hb.frozen (hlt _ hin)]
   exact hfz b off hin
  ·intro ha
   simpa using hnd ha
  ·intro x hx _
   simpa using hx
end
section
def YL (k:Nat):Nat:=[0,0,9,9,1,21,21,5,67,35,1,3,3,1,4,0,4].getD k 0
section
variable (N:ByteArray->Bool)
def z1b (s:ByteArray):Bool:=decide (s=⟨#[]⟩)
def txt (s:ByteArray) (has:Bool):Bool:=if has then N s else z1b s
def num (n a b:Int) (has:Bool):Bool:=if has then decide (a<=n) && decide (n<=b) else decide (n=0)
def z2j (k:Int) (m:Nat):Bool:=YL k.toNat &&& m !=0
def z2w (kind:Int) (user folder name other:ByteArray) (role version len:Int):Bool:=
 decide (1<=kind) && decide (kind<=16) && N user && txt N folder (z2j kind 1) && txt N name (z2j kind 2) && txt N other (z2j kind 4 || z2j kind 8 && !z1b other) &&
 !(!z2j kind 1 && decide (other=user)) && !(decide (kind=2) && decide (other=folder)) && num role 1 4 (z2j kind 16) && num version 0 1099511627776 (z2j kind 32) && num len 0 512 (z2j kind 64)
def zBg (k:Int) (user folder name other:ByteArray) (role version len:Int):Bool:=
 N user && decide (1<=k) && decide (k<=16) && !((decide (k=14) || decide (k=16)) && (!N other || decide (other=user))) &&
 (if k=1\/14<=k then !(!z1b folder || (decide (k=1) || decide (k=15)) && !z1b other) else N folder) &&
 (if k=2\/k=3 then !(!z1b other && !N other || decide (k=2) && decide (other=folder)) else if 5<=k/\k<=7 then N other else !(decide (k < 14) && !z1b other)) &&
 !((decide (k=8) || decide (k=9) || decide (k=11) || decide (k=12)) && !N name) && !(!(decide (k=8) || decide (k=9) || decide (k=11) || decide (k=12)) && !z1b name) &&
 (if k=5\/k=6 then decide (1<=role) && decide (role<=4) else decide (role=0)) &&
 (if k=9 then decide (0<=version) && decide (version<=1099511627776) else decide (version=0)) &&
 (decide (len=0) || decide (k=8) && decide (len<=512))
theorem zP0 (hN:N ⟨#[]⟩=false) (k:Int) (user folder name other:ByteArray) (role version len:Int) (hl:0<=len):z2w N k user folder name other role version len=zBg N k user folder name other role version len:=by
 by_cases h1:1<=k
 rotate_left
 ·unfold z2w zBg
  simp [h1]
 by_cases h2:k<=16
 rotate_left
 ·unfold z2w zBg
  simp [h2]
 cases hu:N user with
 | false=>unfold z2w zBg;simp [hu]
 | true=>
  have hne:user≠⟨#[]⟩:=fun e=>by rw [e,hN] at hu;cases hu
  have hlen:(decide (len=0) || decide (len<=512))=decide (len<=512):=by
   by_cases h0:len=0
   ·simp [h0]
   ·simp [h0]
  have hand:∀a b:Bool,(a && b)=(b && a):=Bool.and_comm
  have hk:k=1\/k=2\/k=3\/k=4\/k=5\/k=6\/k=7\/k=8\/k=9\/k=10\/k=11\/k=12\/k=13\/k=14\/k=15\/k=16:=by omega
  clear h1 h2
  rcases hk with rfl | rfl | rfl | rfl | rfl | rfl | rfl | rfl | rfl | rfl | rfl | rfl | rfl | rfl | rfl | rfl
  all_goals
   unfold z2w zBg
   simp only [z2j,YL,txt,num,hu,z1b]
   by_cases he:other=⟨#[]⟩
   ·subst he
    have hne2:¬((⟨#[]⟩:ByteArray)=user):=fun e=>hne e.symm
    simp [hN,hne2,hl,hlen]
    try (cases decide (folder=⟨#[]⟩)<;>cases decide (name=⟨#[]⟩)<;>cases N folder<;>cases N name<;>simp<;>omega)
   ·simp [he,hl,hlen]
    try (cases N other<;>cases decide (other=user)<;>cases decide (other=folder)<;>cases decide (name=⟨#[]⟩)<;>cases N folder<;>simp)
end
end
section
open Go.ChangeShapes Go.WideShapes Go.ChangeAt Go.RowKit
def fieldsZ:List Int:=[0,0,9,9,1,21,21,5,67,35,1,3,3,1,4,0,4]
theorem zJc:∀r:Fin 17,fieldsZ.getD r.val 0=(YL r.val:Nat):=by decide
theorem laid_cells {W:World} (h:laidMetH Tryz.prog [("bastille/call.fields",Rows.laid_bastille_call_fields)] W):0 < W.heap.size/\∀r:Nat,r < 17->W.cell? ⟨0,r,none⟩=some (.int .i64 (YL r:Nat)):=by
 rw [MakeChecks.laidMetH_plain _ _ _ (by kernel_rfl)] at h
 obtain ⟨_,⟨_,_,cs,_,_,_,hg,ht,hv,hd,_,_⟩,_⟩:=h
 obtain rfl:=Option.some.inj ((show Tryz.prog.globalNamed "bastille/call.fields"=some 0 by kernel_rfl).symm.trans hg)
 obtain rfl:=Option.some.inj ((show (Tryz.prog.globals[0]?).map (·.type)=some 134 by kernel_rfl).symm.trans ht)
 obtain ⟨xs,_,_,ex,_,_,hel⟩:=DataW.trod_array Tryz.underlying134 hd
 have c5:Tryz.prog.cellsOf 3=1:=by kernel_rfl
 have hlen:fieldsZ.length=17:=by decide
 have hcell:∀r:Nat,r < 17->W.cell? ⟨0,r,none⟩=some (.int .i64 (YL r:Nat)):=by
  intro r hr
  have hE:=hel r hr
  rw [c5,Nat.mul_one,List.getElem?_eq_getElem (by omega)] at hE
  obtain ⟨z,e1,e2,_⟩:=DataW.trod_int Tryz.underlying3 hE
  have e3:(xs.map (·.1))=fieldsZ.map fun n=> .lit (.int .i64 n):=(DataW.agg.inj (Prod.mk.inj ex).1).symm
  have e4:(xs.map (·.1))[r]? =(fieldsZ.map fun n=>(DataW.lit (.int .i64 n):DataW Unit))[r]? :=by rw [e3]
  rw [List.getElem?_map,List.getElem?_map,List.getElem?_eq_getElem (by omega:r < xs.length),List.getElem?_eq_getElem (by omega:r < fieldsZ.length),e2] at e4
  have hz:z=(YL r:Nat):=by
   simp only [Option.map_some,Option.some.injEq,DataW.lit.injEq,Lit.int.injEq,true_and] at e4
   rw [e4,<-zJc ⟨r,hr⟩,List.getD,List.getElem?_eq_getElem (by omega:r < fieldsZ.length)];rfl
  rw [World.var?_cell hg hv r,<-hz]
  have:cs.toList[r]? =some (.int .i64 z):=by
   have h0:((cs.toList.drop r).take 1)[0]? =some (.int .i64 z):=by rw [e1];rfl
   simpa using h0
  simpa using this
 exact ⟨World.block_lt_of_cell? W ⟨0,0,none⟩ (hcell 0 (by omega)),hcell⟩
end
end Go.Proofs.YtdggplhnfhcieaaGreatDoor
