/-
  The law FnExactFormatAutomaton answers true: the program's FormatAutomaton returns what the reference's returns, for all arguments, where the library's tables are as the program's text lays them (tied by the card). No other conditions.
-/
import Derived.Test.YtnfldmfamnhpcaaDoorCards
import Derived.Test.YtnfldmfamnhpcaaDoorTie
import Derived.Test.YtnfldmfamnhpcaaDoorOpw
import Derived.Test.YtnfldmfamnhpcaaDoorOpn
import Derived.Test.YtnfldmfamnhpcaaDoorW43
import Derived.LaidMore
import Derived.Lay
import Derived.SevenTiedAt
import Derived.Stop.Joined
import Derived.Stop.LaidErr
import Derived.Lib.LaidTab
set_option linter.unusedVariables false
namespace Go.Proofs.YtnfldmfamnhpcaaDoor.formatAutomaton
open Go Go.ChangeShapes Go.WideShapes Go.ChangeAt Go.RowKit Go.Deep Go.Joins Go.Proofs.YtnfldmfamnhpcaaDoor.Vm
theorem own:ownKnob Tryd.prog.godebug = none:=by kernel_rfl
theorem laidOut:laidOutB Tryd.prog = true:=by kernel_rfl
theorem gTab:Tryd.prog.globalNamed "internal/strconv.uint64pow10" = some 0:=by kernel_rfl
theorem gTabType:(Tryd.prog.globals[0]?).map (·.type) = some 132:=by kernel_rfl
theorem cellsT:Tryd.prog.cellsOf 132 = 20:=by kernel_rfl
theorem cellsE:Tryd.prog.cellsOf 118 = 1:=by kernel_rfl
theorem noHandles:(Rows.fnExactFormatAutomatonRow.laid.all fun x=>x.2.handleName?.isNone) = true:=by kernel_rfl
set_option maxRecDepth 100000 in
theorem lifted (os:Os) (started:os.Started) (H:Type) (enc:TypeId × Value → H) :
    ReturnsInHanded {} Tryd.checked os 4 .any (fun w args=>(Rows.fnExactFormatAutomatonSpec.pre enc Tryd.prog Tryd.f4 Rows.fnExactFormatAutomatonRow.domain false w args ∧ laidMetH Tryd.prog Rows.fnExactFormatAutomatonRow.laid w) ∧ sizedMet enc Tryd.prog Tryd.f4 (OpenSpec.ofChange Rows.fnExactFormatAutomatonSpec) false w args)
      (Rows.fnExactFormatAutomatonSpec.post enc Tryd.prog Tryd.f4 false true false false):=by
  refine returnsInHanded_of_change_and (C:=Tryd.checked) (X:=fun w _=>laidMetH Tryd.prog Rows.fnExactFormatAutomatonRow.laid w) (fun _ _ _ hh h=>h.of_heap hh) own started (by kernel_rfl) Tryd.func4
    (ChangeSpec.witness_shaped (enc:=enc) (C:=Tryd.checked) (os:=os) (X:=fun w _=>laidMetH Tryd.prog Rows.fnExactFormatAutomatonRow.laid w) false (World.laidAll Tryd.prog os Rows.fnExactFormatAutomatonRow.laid) #[.agg #[.slice none 0 0,.slice none 0 0,.slice none 0 0]] 8 (World.laidAll_os _ _ _)
      (World.shaped_of_ZipB (by kernel_rfl) (by kernel_rfl)) (by kernel_rfl) (by kernel_rfl) (by kernel_rfl)
      (by rw [MakeChecks.laidMetH_plain _ _ _ noHandles];exact laidMet_laidAll _ (by kernel_rfl) (by kernel_rfl))) ?_
  intro W base args ds gs before hval0 hW hcnd _ hL _
  have hval:∀ (j:Nat) t v,Tryd.f4.params[j]? = some t → args[j]? = some v → Value.okWide Tryd.prog W .any base t v:=hval0
  have hW':=hW
  obtain ⟨p,q,hA0,hV,rfl,hfz,hnd⟩:=hW
  have hA:DataW.TrodAll enc Tryd.prog W 0 (fun _=>true) true Tryd.f4.params.toList args.toList ds p:=hA0
  rw [Tryd.params4] at hA hval
  obtain ⟨v0,vs0,d0,ds0,p0,q0,hargs,rfl,rfl,g0,r0⟩:=trodAll_cons hA
  obtain ⟨rfl,rfl,rfl⟩:=trodAll_nil r0
  obtain rfl:args = #[v0]:=by cases args;simp_all
  obtain ⟨rfl,rfl⟩:=trodVars_none hV
  obtain ⟨x0,y0,h0⟩:=argW_struct Tryd.underlying34 (OpensW.struct3 Tryd.underlying34 (by kernel_rfl) (by kernel_rfl) (OpensW.list Tryd.underlying22 (by kernel_rfl) (OpensW.int Tryd.underlying3)) (OpensW.list Tryd.underlying31 (by kernel_rfl) (OpensW.bool Tryd.underlying4)) (OpensW.list Tryd.underlying32 (by kernel_rfl) (show OpensW Tryd.prog _ cT _ from (OpensW.struct4 Tryd.underlying80 (by kernel_rfl) (by kernel_rfl) (OpensW.int Tryd.underlying3) (OpensW.int Tryd.underlying3) (OpensW.int Tryd.underlying3) (OpensW.int Tryd.underlying3))))) (hval 0 34 v0 rfl rfl) g0
  clear hA0 hval0
  refine (law_calls (P:=Tryd.prog) (vs:=[v0]) (lawFA x0.1 x0.2.1 x0.2.2 (fun i hi=>(y0.2.2 _ (Zs hi)).2.2.1)) (by simp [bndL,bnd,cat_bnd,li,go_sem]) (by simp only [RepL];exact ⟨v0,_,[],[],rfl,rfl,h0 id,⟨rfl,rfl⟩⟩)).mono fun e W' ⟨he,hg⟩=>?_
  subst he
  exact ⟨_,rfl,law_post laidOut rfl Tryd.underlying4 rfl (by kernel_rfl) hW' rfl rfl rfl hg⟩

theorem said:Rows.FnExactFormatAutomatonSaid :=
  OpenClaim.holds_of_wide 4 Tryd.f4 rfl rfl rfl rfl rfl rfl rfl ⟨rfl,rfl,rfl,rfl,rfl⟩ rfl rfl rfl rfl rfl (by kernel_rfl) Tryd.func4 (by kernel_rfl)
    (of_decide_eq_true (by kernel_rfl)) (by unfold Func.isWrapper;first | (rw [if_pos (by decide +kernel)];kernel_rfl) | (rw [if_neg (by decide +kernel)];exact ⟨rfl,rfl⟩))
    (fun os started H enc _=>lifted os started H enc)
theorem plain (f:FuncId) (fn:Func) (hf:Tryd.pinned.checked.prog.funcNamed "loop.example/ltlcheck/laws.FnExactFormatAutomaton" = some f) (hfn:Tryd.pinned.checked.prog.funcs[f]? = some fn) :
    false = Tryd.pinned.checked.prog.looks [] ∧ ∀ (j:Nat) t,fn.params[j]? = some t → Tryd.pinned.checked.prog.wantsStandIn t = false:=by
  obtain rfl:f = 4:=Option.some.inj ((show Tryd.prog.funcNamed "loop.example/ltlcheck/laws.FnExactFormatAutomaton" = some 4 by kernel_rfl).symm.trans hf) |>.symm
  obtain rfl:fn = Tryd.f4:=(Option.some.inj (Tryd.func4.symm.trans hfn)).symm
  refine ⟨by kernel_rfl,fun j t ht=>?_⟩
  have hall:(Tryd.f4.params.toList.all fun u=>!Tryd.prog.wantsStandIn u) = true:=by kernel_rfl
  have hm:t ∈ Tryd.f4.params.toList:=by rw [Array.mem_toList_iff];exact Array.mem_of_getElem? ht
  exact (show Tryd.prog.wantsStandIn t = false by simpa using List.all_eq_true.1 hall t hm)

theorem proved:Rows.FnExactFormatAutomatonCardSaid :=
  Claim7.holds_tied_plain_at .later [] _ _ _ _ said (fun _ h=>by cases h) (by kernel_rfl) (fun _ h=>by cases h) fnExactFormatAutomaton_row_tie rfl ⟨rfl,rfl⟩ (by kernel_rfl) rfl plain (by kernel_rfl)
#print axioms proved
end Go.Proofs.YtnfldmfamnhpcaaDoor.formatAutomaton

