/-
  The law FnIntersectAutomata answers true, whatever its arguments. No conditions.
-/
import Derived.Test.YtnfldmfamnhpcaaOpp
import Derived.Test.YtnfldmfamnhpcaaOpz
import Derived.Test.YtnfldmfamnhpcaaW42
set_option linter.unusedVariables false
namespace Go.Proofs.Ytnfldmfamnhpcaa.fnIntersectAutomata
open Go Go.ChangeShapes Go.WideShapes Go.ChangeAt Go.RowKit Go.Deep Go.Joins Go.Proofs.Ytnfldmfamnhpcaa.Vm
theorem own:ownKnob Try.prog.godebug = none:=by kernel_rfl
theorem laidOut:laidOutB Try.prog = true:=by kernel_rfl
set_option maxRecDepth 100000 in
theorem lifted (os:Os) (started:os.Started) (H:Type) (enc:TypeId × Value → H) :
    ReturnsInHanded {} Try.checked os 4 .any (Rows.fnIntersectAutomataSpec.pre6 enc Try.prog Try.f4 Rows.fnIntersectAutomataRow.domain false) (Rows.fnIntersectAutomataSpec.post enc Try.prog Try.f4 false true false false):=by
  refine returnsInHanded_of_change (C:=Try.checked) own started (by kernel_rfl) Try.func4
    (ChangeSpec.witness6 (enc:=enc) (C:=Try.checked) false ⟨#[],#[.slice none 0 0,.slice none 0 0],[]⟩ 8 (by kernel_rfl) (by kernel_rfl) (by kernel_rfl) (by kernel_rfl)) ?_
  intro W base args ds gs before hval0 hW hcnd _
  have hval:∀ (j:Nat) t v,Try.f4.params[j]? = some t → args[j]? = some v → Value.okWide Try.prog W .any base t v:=hval0
  have hW':=hW
  obtain ⟨p,q,hA0,hV,rfl,hfz,hnd⟩:=hW
  have hA:DataW.TrodAll enc Try.prog W 0 (fun _=>true) true Try.f4.params.toList args.toList ds p:=hA0
  rw [Try.params4] at hA hval
  obtain ⟨v0,vs0,d0,ds0,p0,q0,hargs,rfl,rfl,g0,r0⟩:=trodAll_cons hA
  obtain ⟨v1,vs1,d1,ds1,p1,q1,rfl,rfl,rfl,g1,r1⟩:=trodAll_cons r0
  obtain ⟨rfl,rfl,rfl⟩:=trodAll_nil r1
  obtain rfl:args = #[v0,v1]:=by cases args;simp_all
  obtain ⟨rfl,rfl⟩:=trodVars_none hV
  obtain ⟨x0,h0⟩:=arg_slice (f:=li cY) Try.underlying37 (Opens.list Try.underlying37 (by kernel_rfl) (Opens.byte Try.underlying5)) (hval 0 37 v0 rfl rfl) g0
  obtain ⟨x1,h1⟩:=arg_slice (f:=li cY) Try.underlying37 (Opens.list Try.underlying37 (by kernel_rfl) (Opens.byte Try.underlying5)) (hval 1 37 v1 rfl rfl) g1
  clear hA0 hval0
  refine (law_calls (P:=Try.prog) (vs:=[v0,v1]) (lawFnIx x0 x1) (by simp [bndL,bnd,Wx,li,go_sem]) (by simp only [RepL];exact ⟨v0,_,[],[],rfl,rfl,h0 id,⟨v1,_,[],[],rfl,rfl,h1 id,⟨rfl,rfl⟩⟩⟩)).mono fun e W' ⟨he,hg⟩=>?_
  subst he
  exact ⟨_,rfl,law_post laidOut rfl Try.underlying4 rfl (by kernel_rfl) hW' rfl rfl rfl hg⟩

theorem joined:joinedFacts Try.prog 4 Try.f4 Rows.fnIntersectAutomataSpec Rows.fnIntersectAutomataRow = true:=by
  unfold joinedFacts
  rw [stopsHeard_ok,mayEnter_ok,liftsFinal_ok,laidOut]
  kernel_rfl
theorem proved:Rows.FnIntersectAutomataSaid :=
  OpenClaim.holds_of_wide 4 Try.f4 rfl rfl rfl rfl rfl rfl rfl ⟨rfl,rfl,rfl,rfl,rfl⟩ rfl rfl rfl rfl rfl (by kernel_rfl) Try.func4 joined
    (of_decide_eq_true (by kernel_rfl)) (by unfold Func.isWrapper;first | (rw [if_pos (by decide +kernel)];kernel_rfl) | (rw [if_neg (by decide +kernel)];exact ⟨rfl,rfl⟩))
    (fun os started H enc _=>lifted os started H enc)
#print axioms proved
end Go.Proofs.Ytnfldmfamnhpcaa.fnIntersectAutomata

