/-
  The law FnExactParseAutomaton answers true: the program's ParseAutomaton returns what the reference's returns, for all arguments, where the library's tables are as the program's text lays them (tied by the card). No other conditions.
-/
import Derived.Test.YtiilmjojffjhlaaGreatDoorCards
import Derived.Test.YtiilmjojffjhlaaGreatDoorTie
import Derived.Test.YtiilmjojffjhlaaGreatDoorKOpn
import Derived.Test.YtiilmjojffjhlaaGreatDoorKW45
import Derived.Test.YtiilmjojffjhlaaGreatDoorKPM7
import Derived.LaidMore
import Derived.Lay
import Derived.SevenTiedAt
import Derived.Stop.Joined
import Derived.Stop.LaidErr
import Derived.Lib.LaidTab
set_option linter.unusedVariables false
namespace Go.Proofs.YtiilmjojffjhlaaGreatDoor.parseAutomaton
open Go Go.ChangeShapes Go.WideShapes Go.ChangeAt Go.RowKit Go.Deep Go.Joins Go.Proofs.YtiilmjojffjhlaaGreatDoor.Vm
theorem own:ownKnob Tryz.prog.godebug = none:=by kernel_rfl
theorem laidOut:laidOutB Tryz.prog = true:=by kernel_rfl
theorem noHandles:(Rows.fnExactParseAutomatonRow.laid.all fun x=>x.2.handleName?.isNone) = true:=by kernel_rfl
theorem libOk_of {W:World} (h:laidMetH Tryz.prog Rows.fnExactParseAutomatonRow.laid W) (hs:W.ShapedOpen Tryz.prog):LibOk W:=by
  rw [MakeChecks.laidMetH_plain _ _ _ noHandles] at h
  exact LibOk.of_met (laidMet.tail (laidMet.tail h)) hs
set_option maxRecDepth 100000 in
theorem lifted (os:Os) (started:os.Started) (H:Type) (enc:TypeId × Value → H) :
    ReturnsInHanded {} Tryz.checked os 3 .any (fun w args=>(Rows.fnExactParseAutomatonSpec.pre enc Tryz.prog Tryz.f3 Rows.fnExactParseAutomatonRow.domain false w args ∧ laidMetH Tryz.prog Rows.fnExactParseAutomatonRow.laid w) ∧ sizedMet enc Tryz.prog Tryz.f3 (OpenSpec.ofChange Rows.fnExactParseAutomatonSpec) false w args)
      (Rows.fnExactParseAutomatonSpec.post enc Tryz.prog Tryz.f3 false true false false):=by
  have key:∀ (W:World) (base:Nat) (args:Array Value) (ds gs:List (DataW H)) (before:List MemPlace),(∀ (j:Nat) t v,Tryz.f3.params[j]? = some t → args[j]? = some v → Value.okWide Tryz.prog W .any base t v) →
      DataW.Whole enc Tryz.prog Tryz.f3.params.toList Rows.fnExactParseAutomatonSpec.vars false W args.toList ds gs before → laidMetH Tryz.prog Rows.fnExactParseAutomatonRow.laid W → W.ShapedOpen Tryz.prog →
      Calls Tryz.prog 3 args W fun e W'=>∃ v,e = .returned v ∧ Rows.fnExactParseAutomatonSpec.post enc Tryz.prog Tryz.f3 false true false false W args v W':=by
    intro W base args ds gs before hval0 hW hL hsh
    have hP:=libOk_of hL hsh
    have hval:∀ (j:Nat) t v,Tryz.f3.params[j]? = some t → args[j]? = some v → Value.okWide Tryz.prog W .any base t v:=hval0
    have hW':=hW
    obtain ⟨p,q,hA0,hV,rfl,hfz,hnd⟩:=hW
    have hA:DataW.TrodAll enc Tryz.prog W 0 (fun _=>true) true Tryz.f3.params.toList args.toList ds p:=hA0
    rw [Tryz.params3] at hA hval
    obtain ⟨v0,vs0,d0,ds0,p0,q0,hargs,rfl,rfl,g0,r0⟩:=trodAll_cons hA
    obtain ⟨rfl,rfl,rfl⟩:=trodAll_nil r0
    obtain rfl:args = #[v0]:=by cases args;simp_all
    obtain ⟨rfl,rfl⟩:=trodVars_none hV
    obtain ⟨x0,h0⟩:=arg_str Tryz.underlying9 (hval 0 9 v0 rfl rfl) g0
    clear hA0 hval0
    refine (law_callsI (P:=Tryz.prog) (vs:=[v0]) hP (lawPA x0) (by simp [bndL,bnd,cat_bnd,li,go_sem]) (by simp only [RepL];exact ⟨v0,_,[],[],rfl,rfl,h0 id,⟨rfl,rfl⟩⟩)).mono fun e W' ⟨he,hg⟩=>?_
    subst he
    exact ⟨_,rfl,law_post laidOut rfl Tryz.underlying4 rfl (by kernel_rfl) hW' rfl rfl rfl hg⟩
  refine returnsInHanded_of_calls (C:=Tryz.checked) own started (by kernel_rfl)
    (ChangeSpec.witness_shaped (enc:=enc) (C:=Tryz.checked) (os:=os) (X:=fun w _=>laidMetH Tryz.prog Rows.fnExactParseAutomatonRow.laid w) false (World.laidAll Tryz.prog os Rows.fnExactParseAutomatonRow.laid) #[.string ⟨#[]⟩] 8 (World.laidAll_os _ _ _)
      (World.shaped_of_ZipB (by kernel_rfl) (by kernel_rfl)) (by kernel_rfl) (by kernel_rfl) (by kernel_rfl)
      (by rw [MakeChecks.laidMetH_plain _ _ _ noHandles];exact laidMet_laidAll _ (by kernel_rfl) (by kernel_rfl)))
    ?_
  intro w tape i _ hsh _ hok hpre _
  obtain ⟨_,_,_,fn',hfn',_,_,_,_,hval⟩:=hok
  have e:fn' = Tryz.f3:=Option.some.inj (hfn'.symm.trans Tryz.func3)
  subst e
  obtain ⟨⟨⟨ds,gs,before,hw,_⟩,hL⟩,_⟩:=hpre
  refine (key (w.forCall tape i) w.heap.size i.args ds gs before hval (DataW.Whole.of_heap (w':=w.forCall tape i) (by rfl) hw) (hL.of_heap (by rfl)) hsh).mono fun e W' ⟨v,he,hp⟩=>?_
  subst he
  exact ChangeSpec.post_blind hp

theorem said:Rows.FnExactParseAutomatonSaid :=
  OpenClaim.holds_of_wide 3 Tryz.f3 rfl rfl rfl rfl rfl rfl rfl ⟨rfl,rfl,rfl,rfl,rfl⟩ rfl rfl rfl rfl rfl (by kernel_rfl) Tryz.func3 (by kernel_rfl)
    (of_decide_eq_true (by kernel_rfl)) (by unfold Func.isWrapper;first | (rw [if_pos (by decide +kernel)];kernel_rfl) | (rw [if_neg (by decide +kernel)];exact ⟨rfl,rfl⟩))
    (fun os started H enc _=>lifted os started H enc)
theorem plain (f:FuncId) (fn:Func) (hf:Tryz.pinned.checked.prog.funcNamed "loop.example/ltlcheck/laws.FnExactParseAutomaton" = some f) (hfn:Tryz.pinned.checked.prog.funcs[f]? = some fn) :
    true = Tryz.pinned.checked.prog.looks [] ∧ ∀ (j:Nat) t,fn.params[j]? = some t → Tryz.pinned.checked.prog.wantsStandIn t = false:=by
  obtain rfl:f = 3:=Option.some.inj ((show Tryz.prog.funcNamed "loop.example/ltlcheck/laws.FnExactParseAutomaton" = some 3 by kernel_rfl).symm.trans hf) |>.symm
  obtain rfl:fn = Tryz.f3:=(Option.some.inj (Tryz.func3.symm.trans hfn)).symm
  refine ⟨by kernel_rfl,fun j t ht=>?_⟩
  have hall:(Tryz.f3.params.toList.all fun u=>!Tryz.prog.wantsStandIn u) = true:=by kernel_rfl
  have hm:t ∈ Tryz.f3.params.toList:=by rw [Array.mem_toList_iff];exact Array.mem_of_getElem? ht
  exact (show Tryz.prog.wantsStandIn t = false by simpa using List.all_eq_true.1 hall t hm)

theorem proved:Rows.FnExactParseAutomatonCardSaid :=
  Claim7.holds_tied_plain_at .later [] _ _ _ _ said (fun _ h=>by cases h) (by kernel_rfl) (fun _ h=>by cases h) fnExactParseAutomaton_row_tie rfl ⟨rfl,rfl⟩ (by kernel_rfl) rfl plain (by kernel_rfl)
#print axioms proved
end Go.Proofs.YtiilmjojffjhlaaGreatDoor.parseAutomaton

