/-
  The law FnRefineBlocks answers true, whatever its arguments. No conditions.
-/
import Derived.Test.YtmiimodggpjkmaaGreatOpp
import Derived.Test.YtmiimodggpjkmaaGreatOpc
import Derived.Test.YtmiimodggpjkmaaGreatW39
set_option linter.unusedVariables false
namespace Go.Proofs.YtmiimodggpjkmaaGreat.fnRefineBlocks
open Go Go.ChangeShapes Go.WideShapes Go.ChangeAt Go.RowKit Go.Deep Go.Joins Go.Proofs.YtmiimodggpjkmaaGreat.Vm
theorem own:ownKnob Tryz.prog.godebug = none:=by kernel_rfl
theorem laidOut:laidOutB Tryz.prog = true:=by kernel_rfl
set_option maxRecDepth 100000 in
theorem lifted (os:Os) (started:os.Started) (H:Type) (enc:TypeId × Value → H) :
    ReturnsInHanded {} Tryz.checked os 3 .any (Rows.fnRefineBlocksSpec.pre6 enc Tryz.prog Tryz.f3 Rows.fnRefineBlocksRow.domain false) (Rows.fnRefineBlocksSpec.post enc Tryz.prog Tryz.f3 false true false false):=by
  refine returnsInHanded_of_change (C:=Tryz.checked) own started (by kernel_rfl) Tryz.func3
    (ChangeSpec.witness6 (enc:=enc) (C:=Tryz.checked) false ⟨#[],#[.slice none 0 0],[]⟩ 8 (by kernel_rfl) (by kernel_rfl) (by kernel_rfl) (by kernel_rfl)) ?_
  intro W base args ds gs before hval0 hW hcnd _
  have hval:∀ (j:Nat) t v,Tryz.f3.params[j]? = some t → args[j]? = some v → Value.okWide Tryz.prog W .any base t v:=hval0
  have hW':=hW
  obtain ⟨p,q,hA0,hV,rfl,hfz,hnd⟩:=hW
  have hA:DataW.TrodAll enc Tryz.prog W 0 (fun _=>true) true Tryz.f3.params.toList args.toList ds p:=hA0
  rw [Tryz.params3] at hA hval
  obtain ⟨v0,vs0,d0,ds0,p0,q0,hargs,rfl,rfl,g0,r0⟩:=trodAll_cons hA
  obtain ⟨rfl,rfl,rfl⟩:=trodAll_nil r0
  obtain rfl:args = #[v0]:=by cases args;simp_all
  obtain ⟨rfl,rfl⟩:=trodVars_none hV
  obtain ⟨x0,h0⟩:=arg_slice (f:=li cY) Tryz.underlying22 (Opens.list Tryz.underlying22 (by kernel_rfl) (Opens.byte Tryz.underlying5)) (hval 0 22 v0 rfl rfl) g0
  clear hA0 hval0
  refine (law_calls (P:=Tryz.prog) (vs:=[v0]) (lawFnRb x0) (by simp [bndL,bnd,cat_bnd,li,go_sem]) (by simp only [RepL];exact ⟨v0,_,[],[],rfl,rfl,h0 id,⟨rfl,rfl⟩⟩)).mono fun e W' ⟨he,hg⟩=>?_
  subst he
  exact ⟨_,rfl,law_post laidOut rfl Tryz.underlying4 rfl (by kernel_rfl) hW' rfl rfl rfl hg⟩

theorem joined:joinedFacts Tryz.prog 3 Tryz.f3 Rows.fnRefineBlocksSpec Rows.fnRefineBlocksRow = true:=by
  unfold joinedFacts
  rw [stopsHeard_ok,mayEnter_ok,liftsFinal_ok,laidOut]
  kernel_rfl
theorem proved:Rows.FnRefineBlocksSaid :=
  OpenClaim.holds_of_wide 3 Tryz.f3 rfl rfl rfl rfl rfl rfl rfl ⟨rfl,rfl,rfl,rfl,rfl⟩ rfl rfl rfl rfl rfl (by kernel_rfl) Tryz.func3 joined
    (of_decide_eq_true (by kernel_rfl)) (by unfold Func.isWrapper;first | (rw [if_pos (by decide +kernel)];kernel_rfl) | (rw [if_neg (by decide +kernel)];exact ⟨rfl,rfl⟩))
    (fun os started H enc _=>lifted os started H enc)
#print axioms proved
end Go.Proofs.YtmiimodggpjkmaaGreat.fnRefineBlocks

