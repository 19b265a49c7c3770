/-
  The law FnExactIntersectAutomata answers true: the program's IntersectAutomata returns what the reference's returns, for all arguments. No conditions.
-/
import Derived.Test.YtnfldmfamnhpcaaOpp
import Derived.Test.YtnfldmfamnhpcaaOpw
import Derived.Test.YtnfldmfamnhpcaaOpn
import Derived.Test.YtnfldmfamnhpcaaW41
set_option linter.unusedVariables false
namespace Go.Proofs.Ytnfldmfamnhpcaa.intersectAutomata
open Go Go.ChangeShapes Go.WideShapes Go.ChangeAt Go.RowKit Go.Deep Go.Joins Go.Proofs.Ytnfldmfamnhpcaa.Vm
theorem own:ownKnob Try.prog.godebug = none:=by kernel_rfl
theorem laidOut:laidOutB Try.prog = true:=by kernel_rfl
set_option maxRecDepth 100000 in
theorem lifted (os:Os) (started:os.Started) (H:Type) (enc:TypeId × Value → H) :
    ReturnsInHanded {} Try.checked os 3 .any (Rows.fnExactIntersectAutomataSpec.pre6 enc Try.prog Try.f3 Rows.fnExactIntersectAutomataRow.domain false) (Rows.fnExactIntersectAutomataSpec.post enc Try.prog Try.f3 false true false false):=by
  refine returnsInHanded_of_change (C:=Try.checked) own started (by kernel_rfl) Try.func3
    (ChangeSpec.witness6 (enc:=enc) (C:=Try.checked) false ⟨#[],#[.agg #[.slice none 0 0,.slice none 0 0,.slice none 0 0],.agg #[.slice none 0 0,.slice none 0 0,.slice none 0 0]],[]⟩ 8 (by kernel_rfl) (by kernel_rfl) (by kernel_rfl) (by kernel_rfl)) ?_
  intro W base args ds gs before hval0 hW hcnd _
  have hval:∀ (j:Nat) t v,Try.f3.params[j]? = some t → args[j]? = some v → Value.okWide Try.prog W .any base t v:=hval0
  have hW':=hW
  obtain ⟨p,q,hA0,hV,rfl,hfz,hnd⟩:=hW
  have hA:DataW.TrodAll enc Try.prog W 0 (fun _=>true) true Try.f3.params.toList args.toList ds p:=hA0
  rw [Try.params3] at hA hval
  obtain ⟨v0,vs0,d0,ds0,p0,q0,hargs,rfl,rfl,g0,r0⟩:=trodAll_cons hA
  obtain ⟨v1,vs1,d1,ds1,p1,q1,rfl,rfl,rfl,g1,r1⟩:=trodAll_cons r0
  obtain ⟨rfl,rfl,rfl⟩:=trodAll_nil r1
  obtain rfl:args = #[v0,v1]:=by cases args;simp_all
  obtain ⟨rfl,rfl⟩:=trodVars_none hV
  obtain ⟨x0,y0,h0⟩:=zahg Try.underlying26 (OpensW.struct3 Try.underlying26 (by kernel_rfl) (by kernel_rfl) (OpensW.list Try.underlying22 (by kernel_rfl) (OpensW.int Try.underlying3)) (OpensW.list Try.underlying23 (by kernel_rfl) (OpensW.bool Try.underlying4)) (OpensW.list Try.underlying24 (by kernel_rfl) (show OpensW Try.prog _ cT _ from (OpensW.struct4 Try.underlying83 (by kernel_rfl) (by kernel_rfl) (OpensW.int Try.underlying3) (OpensW.int Try.underlying3) (OpensW.int Try.underlying3) (OpensW.int Try.underlying3))))) (hval 0 26 v0 rfl rfl) g0
  obtain ⟨x1,y1,h1⟩:=zahg Try.underlying26 (OpensW.struct3 Try.underlying26 (by kernel_rfl) (by kernel_rfl) (OpensW.list Try.underlying22 (by kernel_rfl) (OpensW.int Try.underlying3)) (OpensW.list Try.underlying23 (by kernel_rfl) (OpensW.bool Try.underlying4)) (OpensW.list Try.underlying24 (by kernel_rfl) (show OpensW Try.prog _ cT _ from (OpensW.struct4 Try.underlying83 (by kernel_rfl) (by kernel_rfl) (OpensW.int Try.underlying3) (OpensW.int Try.underlying3) (OpensW.int Try.underlying3) (OpensW.int Try.underlying3))))) (hval 1 26 v1 rfl rfl) g1
  clear hA0 hval0
  refine (law_calls (P:=Try.prog) (vs:=[v0,v1]) (lawIxR x0.1 x0.2.1 x0.2.2 (fun i hi=>(y0.2.2 _ (Xv hi)).2.2.1) x1.1 x1.2.1 x1.2.2 (fun i hi=>(y1.2.2 _ (Xv hi)).2.2.1)) (by simp [bndL,bnd,Vl,li,go_sem]) (by simp only [RepL];exact ⟨v0,_,[],[],rfl,rfl,h0 id,⟨v1,_,[],[],rfl,rfl,h1 id,⟨rfl,rfl⟩⟩⟩)).mono fun e W' ⟨he,hg⟩=>?_
  subst he
  exact ⟨_,rfl,law_post laidOut rfl Try.underlying4 rfl (by kernel_rfl) hW' rfl rfl rfl hg⟩

theorem joined:joinedFacts Try.prog 3 Try.f3 Rows.fnExactIntersectAutomataSpec Rows.fnExactIntersectAutomataRow = true:=by
  unfold joinedFacts
  rw [stopsHeard_ok,mayEnter_ok,liftsFinal_ok,laidOut]
  kernel_rfl
theorem proved:Rows.FnExactIntersectAutomataSaid :=
  OpenClaim.holds_of_wide 3 Try.f3 rfl rfl rfl rfl rfl rfl rfl ⟨rfl,rfl,rfl,rfl,rfl⟩ rfl rfl rfl rfl rfl (by kernel_rfl) Try.func3 joined
    (of_decide_eq_true (by kernel_rfl)) (by unfold Func.isWrapper;first | (rw [if_pos (by decide +kernel)];kernel_rfl) | (rw [if_neg (by decide +kernel)];exact ⟨rfl,rfl⟩))
    (fun os started H enc _=>lifted os started H enc)
#print axioms proved
end Go.Proofs.Ytnfldmfamnhpcaa.intersectAutomata

