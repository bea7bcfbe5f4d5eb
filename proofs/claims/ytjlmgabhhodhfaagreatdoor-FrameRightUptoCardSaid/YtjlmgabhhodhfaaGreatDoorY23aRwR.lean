import Derived.Test.YtjlmgabhhodhfaaGreatDoorEvUEvX
import Derived.Test.YtjlmgabhhodhfaaGreatDoorKnK4e
import Derived.Test.YtjlmgabhhodhfaaGreatDoorRows
import Derived.WalkKit
import Derived.ProofKit
import Derived.OpenShut
import Derived.ShutString
import Derived.ChangeOld
import Derived.Below
import Derived.SizedLaws
import Derived.LaidMore
import Derived.Stop.Joined
import Derived.Lib.LaidTab
import Derived.MakeChecks
import Derived.Test.YtjlmgabhhodhfaaGreatDoorY22rZ13
import Derived.Test.YtjlmgabhhodhfaaGreatDoorTieB1RwC
import Derived.Test.YtjlmgabhhodhfaaGreatDoorRwTRwD
import Derived.Deep.DeepHandedRow
set_option linter.unusedSimpArgs false
set_option linter.unusedVariables false
namespace Go.Proofs.YtjlmgabhhodhfaaGreatDoor.frameStarts
open Go.ChangeShapes Go.WideShapes Go.ChangeAt Go.RowKit
open Go.Ev
def spaceZ : List Int:=(List.range 256).map fun i=>if i = 9 ∨ i = 10 ∨ i = 11 ∨ i = 12 ∨ i = 13 ∨ i = 32 then 1 else 0
set_option maxRecDepth 1000000 in
theorem spaceD : (Rows.laid_strings_asciiSpace : DataW Unit) = Lib.tabData .u8 spaceZ:=by rfl
theorem repM_ints {C : Mem} {E : Emb} {k : IntKind} : ∀ (zs : List Int) (b co : Nat),(∀ j z,zs[j]? = some z → C b (co + j) = some (.int k z)) → RepM C E b co (zs.map fun z=>AV.int k z)
 | [],b,co,_=>.nil b co
 | z :: zs,b,co,h=>.cons b co _ _ _ (h 0 z rfl) (.int _ _) (repM_ints zs b (co + 1) fun j z' hj=>by rw [show co + 1 + j = co + (j + 1) by omega];exact h (j + 1) z' (by simpa using hj))
theorem spaceC : spaceCells = spaceZ.map fun z=>AV.int .u8 z:=by
 unfold spaceCells spaceZ
 rw [List.map_map]
 rfl
theorem glOk_of {W : World} (h : laidMetH Tryz.prog Rows.frameStartsRow.laid W) : GlOk (memOf W):=by
 have h1 : laidMet Tryz.prog Rows.frameStartsRow.laid W:=by
  rw [MakeChecks.laidMetH_plain Tryz.prog Rows.frameStartsRow.laid W rfl] at h
  exact h
 have h2 : laidMet Tryz.prog (("strings.asciiSpace",Lib.tabData .u8 spaceZ) :: Rows.frameStartsRow.laid.tail) W:=by
  rw [← spaceD]
  exact h1
 have h3:=Lib.tabIs_of_head (g:=1) (t:=392) (e:=5) (n:=256) (by kernel_rfl) (by kernel_rfl) (by kernel_rfl) (by kernel_rfl) (by kernel_rfl) (by kernel_rfl) h2
 intro E g
 unfold globAV
 by_cases hg : g = 1
 ·subst hg
  rw [if_pos rfl,spaceC]
  refine .iptr _ 0 1 0 0 (repM_ints spaceZ 1 0 fun j z hj=>?_) rfl
  have hlt : j < spaceZ.length:=(List.getElem?_eq_some_iff.1 hj).1
  have:=h3.cell (g:=1) (by kernel_rfl) j hlt
  rw [List.getD_eq_getElem?_getD,hj] at this
  rw [Nat.zero_add]
  exact this
 ·rw [if_neg hg]
  exact .undef _
end Go.Proofs.YtjlmgabhhodhfaaGreatDoor.frameStarts
set_option linter.unusedVariables false
namespace Go.Proofs.YtjlmgabhhodhfaaGreatDoor.frameRight
open Go.ChangeShapes Go.WideShapes Go.ChangeAt Go.RowKit
open Go.Ev
theorem own : ownKnob Tryz.prog.godebug = none:=by kernel_rfl
theorem laidOut : laidOutB Tryz.prog = true:=by kernel_rfl
theorem bulk_pos {H : Type} (d : DataW H) : 1 ≤ Rows.uptoBulk d:=by
 cases d with
 | lit l=>cases l <;> simp [Rows.uptoBulk]
 | nil=>simp [Rows.uptoBulk]
 | ptr d=>simp [Rows.uptoBulk]
 | slice elems spare=>simp [Rows.uptoBulk]
 | agg parts=>simp [Rows.uptoBulk]
 | iface t d=>simp [Rows.uptoBulk]
 | map entries=>simp [Rows.uptoBulk]
 | held h=>simp [Rows.uptoBulk]
theorem bulk_all {H : Type} : ∀ l : List (DataW H),Rows.uptoBulkAll l = (l.map Rows.uptoBulk).sum
 | []=>by simp [Rows.uptoBulkAll]
 | d :: l=>by simp [Rows.uptoBulkAll,bulk_all l]
theorem bulk_slice {H : Type} (es sp : List (DataW H)) : 1 + (es.map Rows.uptoBulk).sum ≤ Rows.uptoBulk (.slice es sp):=by
 simp only [Rows.uptoBulk,bulk_all];omega
theorem bulk_agg {H : Type} (ps : List (DataW H)) : 1 + (ps.map Rows.uptoBulk).sum ≤ Rows.uptoBulk (.agg ps):=by
 simp only [Rows.uptoBulk,bulk_all];omega
theorem wit (os : Os) {H : Type} (enc : TypeId × Value → H) : ∃ (w : World) (tape : Tape) (i : Input),w.os = os ∧ (w.forCall tape i).Shaped Tryz.prog ∧ i.vars = [] ∧ Input.okWide Tryz.prog (w.forCall tape i) .any w.heap.size 9 i ∧
   (Rows.OpenSpec.upto Rows.frameRightSpec).preRow enc Tryz.prog Tryz.f9 Rows.frameRightUptoRow.domain false Rows.frameRightUptoRow.laid (w.forCall tape i).memory i.args ∧ ({} : Assume).holds Tryz.prog (lone (Frame.enter Tryz.prog 9 i.args .normal) [] (w.forCall tape i)):=
 ⟨(World.doorLaid Tryz.prog 400 os),fun _ _=>0,⟨#[],args0,[]⟩,rfl,wit1 os,(Input.okWide_of_okWideB (base:=0) (wit2 os)).1,(Input.okWide_of_okWideB (wit2 os)).2,OpenSpec.preRow_of_cond 8 (wit3 os enc) (by kernel_rfl) (fun k hk=>by cases hk;kernel_rfl) (wit4 os enc) (door_met os _),by
  simp only [Assume.holds]
  exact ⟨by simp,by simp,by simp,by simp,by simp⟩⟩
set_option maxRecDepth 100000 in
theorem lifted (os : Os) (started : os.Started) (H : Type) (enc : TypeId × Value → H) (F : Stop.Interp) :
  ReturnsInHanded {} Tryz.checked os 9 .any ((Rows.OpenSpec.upto Rows.frameRightSpec).preRow enc Tryz.prog Tryz.f9 Rows.frameRightUptoRow.domain false Rows.frameRightUptoRow.laid) (((Rows.OpenSpec.upto Rows.frameRightSpec).at F).post enc Tryz.prog Tryz.f9 false true false false):=by
 refine returnsInHanded_of_row (C:=Tryz.checked) (s:=(Rows.OpenSpec.upto Rows.frameRightSpec)) own started (by kernel_rfl) Tryz.func9 (wit os enc) ?_
 intro W base args ds gs before hval0 hW hcnd hk0 hsz0 hX _ _
 have hsz : (DataW.weightsEach Tryz.prog (Tryz.f9.params.toList ++ Rows.frameRightSpec.plain.varTypes Tryz.prog) (ds ++ gs)).all (· ≤ reachBytes) = true:=hsz0
 have hval : ∀ (j : Nat) t v,Tryz.f9.params[j]? = some t → args[j]? = some v → Value.okWide Tryz.prog W .any base t v:=hval0
 have hk : Rows.uptoBulkAll (ds ++ gs) ≤ 1048576:=of_decide_eq_true (hk0 _ rfl)
 have hW':=hW
 obtain ⟨p,q,hA0,hV,rfl,hfz,hnd⟩:=hW
 have hA : DataW.TrodAll enc Tryz.prog W 0 (fun _=>true) true Tryz.f9.params.toList args.toList ds p:=hA0
 rw [Tryz.params9] at hA hval hsz
 obtain ⟨v0,vs0,d0,ds0,p0,q0,hargs,rfl,rfl,h0,r0⟩:=trodAll_cons hA
 obtain ⟨v1,vs1,d1,ds1,p1,q1,rfl,rfl,rfl,h1,r1⟩:=trodAll_cons r0
 obtain ⟨rfl,rfl,rfl⟩:=trodAll_nil r1
 obtain rfl : args = #[v0,v1]:=by cases args;simp_all
 obtain ⟨rfl,rfl⟩:=trodVars_none hV
 have hVal0:=hval 0 27 v0 rfl rfl
 have hVal1:=hval 1 31 v1 rfl rfl
 have lt0 : ∀ x ∈ p0,x.block < W.heap.size:=by obtain ⟨m,hm⟩:=h0;exact DataW.trod_lt m _ _ _ hm
 have lt1 : ∀ x ∈ p1,x.block < W.heap.size:=by obtain ⟨m,hm⟩:=h1;exact DataW.trod_lt m _ _ _ hm
 have k0:=h0
 have k1:=h1
 obtain ⟨fuel0,hf0⟩:=h0
 obtain ⟨fuel1,hf1⟩:=h1
 have hw0 : (d0.weights Tryz.prog 27).all (· ≤ reachBytes) = true:=List.all_eq_true.2 fun x hx=>List.all_eq_true.1 hsz _ (DataW.weights_mem_each (j:=0) rfl rfl x hx)
 have hw1 : (d1.weights Tryz.prog 31).all (· ≤ reachBytes) = true:=List.all_eq_true.2 fun x hx=>List.all_eq_true.1 hsz _ (DataW.weights_mem_each (j:=1) rfl rfl x hx)
 obtain ⟨cs0,hrep0,hshp0,_⟩:=cnt_of_trod Tryz.prog Rows.uptoBulk bulk_pos bulk_slice bulk_agg (E:=E0) T.lay_all (fun _=>rfl) fuel0 27 _ d0 p0 (of_decide_eq_true (by kernel_rfl)) hf0 hw0
 obtain ⟨cs1,hrep1,hshp1,hcnt1⟩:=cnt_of_trod Tryz.prog Rows.uptoBulk bulk_pos bulk_slice bulk_agg (E:=E0) T.lay_all (fun _=>rfl) fuel1 31 _ d1 p1 (of_decide_eq_true (by kernel_rfl)) hf1 hw1
 have hb1 : Rows.uptoBulk d1 ≤ 1048576:=by
  simp only [List.append_nil,Rows.uptoBulkAll] at hk
  omega
 obtain ⟨w0,rfl,hw0s⟩:=okWide_struct T.und27 hVal0
 obtain ⟨w1,rfl,hw1s⟩:=okWide_struct T.und31 hVal1
 obtain ⟨vF,vG,vI,vH,LF,LG,LI,LH,rfl,hcod⟩:=T.cod_of (N:=fuel0 + fuel1) hshp0 (by omega)
 obtain ⟨st,vf,fut,vw,sel,key,Lf,Lw,rfl,hf,hLf,nLf,hw,hN⟩:=T.cor_of (N:=fuel0 + fuel1) hshp1 (by omega)
 clear hA0 hval0 hsz0 hsz
 have e0 : (Value.agg w0).cells.toList = w0.toList:=rfl
 rw [e0] at hrep0
 have e1 : (Value.agg w1).cells.toList = w1.toList:=rfl
 rw [e1] at hrep1
 have ha0 : Rep (memOf W) E0 (.agg [vF,vG,vI,vH]) (.agg w0):=by
  have:=Rep.agg _ _ hrep0
  simpa using this
 have ha1 : Rep (memOf W) E0 (.agg [.int .i64 st,vf,.int .i64 fut,vw,.bool sel,.str key]) (.agg w1):=by
  have:=Rep.agg _ _ hrep1
  simpa using this
 have hr : RepL (memOf W) E0 [.agg [vF,vG,vI,vH],.agg [.int .i64 st,vf,.int .i64 fut,vw,.bool sel,.str key]] [.agg w0,.agg w1]:=.cons _ _ _ _ ha0 (.cons _ _ _ _ ha1 .nil)
 refine (law_calls' (P:=Tryz.prog) (W:=W) (f:=9) (by kernel_rfl) M0 (frameStarts.glOk_of hX) hr ?_).mono fun e W' ⟨he,bel⟩=>?_
 ·exact T.right_ok hcod hf hLf nLf hw (by omega)
 ·subst he
  exact ⟨_,rfl,_,_,_,[],_,[],hW',trodAll_mk1 (shut_bool Tryz.underlying4 _),trodAll_cons_mk (Below.trod laidOut (by kernel_rfl) (of_decide_eq_true (by kernel_rfl)) k0 bel lt0) (trodAll_mk1 (Below.trod laidOut (by kernel_rfl) (of_decide_eq_true (by kernel_rfl)) k1 bel lt1)),rfl,bel.frame _,fun h=>by cases h⟩
end Go.Proofs.YtjlmgabhhodhfaaGreatDoor.frameRight
