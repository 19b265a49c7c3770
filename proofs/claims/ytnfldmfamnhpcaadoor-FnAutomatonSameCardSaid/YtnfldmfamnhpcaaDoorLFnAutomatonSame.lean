/-
  The law FnAutomatonSame answers true: whatever its arguments, where the library's tables are as the program's text lays them (tied by the card). No other conditions.
-/
import Derived.Test.YtnfldmfamnhpcaaDoorCards
import Derived.Test.YtnfldmfamnhpcaaDoorTie
import Derived.Test.YtnfldmfamnhpcaaDoorOpz
import Derived.Test.YtnfldmfamnhpcaaDoorW44
import Derived.LaidMore
import Derived.Lay
import Derived.SevenTiedAt
import Derived.Stop.Joined
import Derived.Stop.LaidErr
import Derived.Lib.LaidTab
set_option linter.unusedVariables false
namespace Go.Proofs.YtnfldmfamnhpcaaDoor.fnAutomatonSame
open Go Go.ChangeShapes Go.WideShapes Go.ChangeAt Go.RowKit Go.Deep Go.Joins Go.Proofs.YtnfldmfamnhpcaaDoor.Vm
theorem own:ownKnob Tryd.prog.godebug = none:=by kernel_rfl
theorem laidOut:laidOutB Tryd.prog = true:=by kernel_rfl
theorem gTab:Tryd.prog.globalNamed "internal/strconv.uint64pow10" = some 0:=by kernel_rfl
theorem gTabType:(Tryd.prog.globals[0]?).map (·.type) = some 132:=by kernel_rfl
theorem cellsT:Tryd.prog.cellsOf 132 = 20:=by kernel_rfl
theorem cellsE:Tryd.prog.cellsOf 118 = 1:=by kernel_rfl
theorem noHandles:(Rows.fnAutomatonSameRow.laid.all fun x=>x.2.handleName?.isNone) = true:=by kernel_rfl
set_option maxRecDepth 100000 in
theorem lifted (os:Os) (started:os.Started) (H:Type) (enc:TypeId × Value → H) :
    ReturnsInHanded {} Tryd.checked os 5 .any (fun w args=>(Rows.fnAutomatonSameSpec.pre enc Tryd.prog Tryd.f5 Rows.fnAutomatonSameRow.domain false w args ∧ laidMetH Tryd.prog Rows.fnAutomatonSameRow.laid w) ∧ sizedMet enc Tryd.prog Tryd.f5 (OpenSpec.ofChange Rows.fnAutomatonSameSpec) false w args)
      (Rows.fnAutomatonSameSpec.post enc Tryd.prog Tryd.f5 false true false false):=by
  refine returnsInHanded_of_change_and (C:=Tryd.checked) (X:=fun w _=>laidMetH Tryd.prog Rows.fnAutomatonSameRow.laid w) (fun _ _ _ hh h=>h.of_heap hh) own started (by kernel_rfl) Tryd.func5
    (ChangeSpec.witness_shaped (enc:=enc) (C:=Tryd.checked) (os:=os) (X:=fun w _=>laidMetH Tryd.prog Rows.fnAutomatonSameRow.laid w) false (World.laidAll Tryd.prog os Rows.fnAutomatonSameRow.laid) #[.slice none 0 0] 8 (World.laidAll_os _ _ _)
      (World.shaped_of_ZipB (by kernel_rfl) (by kernel_rfl)) (by kernel_rfl) (by kernel_rfl) (by kernel_rfl)
      (by rw [MakeChecks.laidMetH_plain _ _ _ noHandles];exact laidMet_laidAll _ (by kernel_rfl) (by kernel_rfl))) ?_
  intro W base args ds gs before hval0 hW hcnd _ hL _
  have hval:∀ (j:Nat) t v,Tryd.f5.params[j]? = some t → args[j]? = some v → Value.okWide Tryd.prog W .any base t v:=hval0
  have hW':=hW
  obtain ⟨p,q,hA0,hV,rfl,hfz,hnd⟩:=hW
  have hA:DataW.TrodAll enc Tryd.prog W 0 (fun _=>true) true Tryd.f5.params.toList args.toList ds p:=hA0
  rw [Tryd.params5] at hA hval
  obtain ⟨v0,vs0,d0,ds0,p0,q0,hargs,rfl,rfl,g0,r0⟩:=trodAll_cons hA
  obtain ⟨rfl,rfl,rfl⟩:=trodAll_nil r0
  obtain rfl:args = #[v0]:=by cases args;simp_all
  obtain ⟨rfl,rfl⟩:=trodVars_none hV
  obtain ⟨x0,h0⟩:=arg_slice (f:=li cY) Tryd.underlying43 (Opens.list Tryd.underlying43 (by kernel_rfl) (Opens.byte Tryd.underlying5)) (hval 0 43 v0 rfl rfl) g0
  clear hA0 hval0
  refine (law_calls (P:=Tryd.prog) (vs:=[v0]) (lawFnAS x0) (by simp [bndL,bnd,cat_bnd,li,go_sem]) (by simp only [RepL];exact ⟨v0,_,[],[],rfl,rfl,h0 id,⟨rfl,rfl⟩⟩)).mono fun e W' ⟨he,hg⟩=>?_
  subst he
  exact ⟨_,rfl,law_post laidOut rfl Tryd.underlying4 rfl (by kernel_rfl) hW' rfl rfl rfl hg⟩

theorem said:Rows.FnAutomatonSameSaid :=
  OpenClaim.holds_of_wide 5 Tryd.f5 rfl rfl rfl rfl rfl rfl rfl ⟨rfl,rfl,rfl,rfl,rfl⟩ rfl rfl rfl rfl rfl (by kernel_rfl) Tryd.func5 (by kernel_rfl)
    (of_decide_eq_true (by kernel_rfl)) (by unfold Func.isWrapper;first | (rw [if_pos (by decide +kernel)];kernel_rfl) | (rw [if_neg (by decide +kernel)];exact ⟨rfl,rfl⟩))
    (fun os started H enc _=>lifted os started H enc)
theorem plain (f:FuncId) (fn:Func) (hf:Tryd.pinned.checked.prog.funcNamed "loop.example/ltlcheck/laws.FnAutomatonSame" = some f) (hfn:Tryd.pinned.checked.prog.funcs[f]? = some fn) :
    false = Tryd.pinned.checked.prog.looks [] ∧ ∀ (j:Nat) t,fn.params[j]? = some t → Tryd.pinned.checked.prog.wantsStandIn t = false:=by
  obtain rfl:f = 5:=Option.some.inj ((show Tryd.prog.funcNamed "loop.example/ltlcheck/laws.FnAutomatonSame" = some 5 by kernel_rfl).symm.trans hf) |>.symm
  obtain rfl:fn = Tryd.f5:=(Option.some.inj (Tryd.func5.symm.trans hfn)).symm
  refine ⟨by kernel_rfl,fun j t ht=>?_⟩
  have hall:(Tryd.f5.params.toList.all fun u=>!Tryd.prog.wantsStandIn u) = true:=by kernel_rfl
  have hm:t ∈ Tryd.f5.params.toList:=by rw [Array.mem_toList_iff];exact Array.mem_of_getElem? ht
  exact (show Tryd.prog.wantsStandIn t = false by simpa using List.all_eq_true.1 hall t hm)

theorem proved:Rows.FnAutomatonSameCardSaid :=
  Claim7.holds_tied_plain_at .later [] _ _ _ _ said (fun _ h=>by cases h) (by kernel_rfl) (fun _ h=>by cases h) fnAutomatonSame_row_tie rfl ⟨rfl,rfl⟩ (by kernel_rfl) rfl plain (by kernel_rfl)
#print axioms proved
end Go.Proofs.YtnfldmfamnhpcaaDoor.fnAutomatonSame

