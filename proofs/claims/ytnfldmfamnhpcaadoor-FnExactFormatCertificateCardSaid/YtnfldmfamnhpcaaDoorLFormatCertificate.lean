/-
  The law FnExactFormatCertificate answers true: the program's FormatCertificate returns what the reference's returns, for all arguments, where the library's table of powers of ten is as the program's text lays it (tied by the card). No other conditions.
-/
import Derived.Test.YtnfldmfamnhpcaaDoorCards
import Derived.Test.YtnfldmfamnhpcaaDoorTie
import Derived.Test.YtnfldmfamnhpcaaDoorCT2
import Derived.Test.YtnfldmfamnhpcaaDoorOpen
import Derived.Deep.RegionHeld3
import Derived.Deep.DeepCutAuto
import Derived.LaidMore
import Derived.Lay
import Derived.SevenTiedAt
import Derived.Stop.Joined
import Derived.Stop.LaidErr
import Derived.Lib.LaidTab
namespace Go.Proofs.YtnfldmfamnhpcaaDoor.formatCertificate
open Go.ChangeShapes Go.WideShapes Go.ChangeAt Go.RowKit Go.Deep
set_option linter.unusedVariables false
set_option maxHeartbeats 1000000 in
theorem walk (w : World) (hPW : Pow w) (v0 : Value) (x0 : List Int) (h0 : OS w v0 x0) (m0 : x0.length ≤ maxLen) :
    Calls Tryd.prog 3 #[v0] w fun e w' => e = .returned (.bool true) ∧ Gr w w' := by
  have HPW := Lib.hid hPW
  clear hPW
  obtain ⟨p0, rfl, i0⟩ := h0
  have h0 : OS w (.agg #[p0]) x0 := ⟨_, rfl, i0⟩
  clear i0
  by_cases z0 : x0.length ≤ 1048576
  · have Z0 := Lib.hid (szOf_yes (left := 1048576) (n := x0.length) (by omega))
    go_enter Tryd.func3, Tryd.ntmps3
    go_wp2_with fail
    refine (szCertificate_any _ _ x0 1048576 (h0.gr ((Gr.refl w).alloc _)) (by omega) (by omega) m0).mono ?_
    rintro e w1 ⟨rfl, hg⟩
    rw [Z0.out]
    have b0 := (Box.new (w := w) (k := w.heap.size) rfl).gr hg
    have G := Lib.hid (((Gr.refl w).alloc _).trans hg)
    clear hg
    have c0 := b0.c
    go_wp2_with fail
    refine ((toCertificate_any _ _ x0 (h0.gr G.out) (by omega)).mono NewOne.got).mono ?_
    rintro e wa ⟨aAs, aNs, acs, rfl, hg, hx⟩
    replace b0 := b0.gr hg
    replace G := Lib.hid (G.out.trans hg)
    clear hg c0
    have c0 := b0.c
    have lb0 := b0.lt
    go_wp2_with fail
    refine (specFormatCertificate_any _ _ x0 hx m0).mono ?_
    rintro e wc ⟨rfl, hg⟩
    clear hx
    replace b0 := b0.gr hg
    replace G := Lib.hid (G.out.trans hg)
    clear hg c0
    have c0 := b0.c
    have lb0 := b0.lt
    go_wp2_with fail
    refine ((toCertificate_any _ _ x0 (h0.gr G.out) (by omega)).mono NewOne.got).mono ?_
    rintro e wy0 ⟨aAy0, aNy0, acy0, rfl, hg, y0⟩
    replace b0 := b0.gr hg
    replace G := Lib.hid (G.out.trans hg)
    clear hg c0
    have c0 := b0.c
    have lb0 := b0.lt
    go_wp2_with fail
    refine (implFormatCertificate_any _ _ x0 (y0.gr ((Gr.refl _).alloc _)) m0 (HPW.out.gr (G.out.alloc _))).mono ?_
    rintro e wg ⟨rfl, hg⟩
    replace b0 := (b0.alloc _).gr hg
    have d0 := (Box.new (w := wy0) rfl).gr hg
    replace y0 := y0.gr (((Gr.refl _).alloc _).trans hg)
    replace G := Lib.hid ((G.out.alloc _).trans hg)
    clear hg c0
    have c0 := b0.c
    have lb0 := b0.lt
    have e0 := d0.c
    have ld0 := d0.lt
    have HK := Lib.hid (fun w' (h : Gr wg w') => And.intro h (And.intro (d0.gr h).c (b0.gr h).c))
    go_wp2_with fail
    go_region_held3 (fun w' => Gr wg w' ∧ (∀ i, w'.cell? ⟨wy0.heap.size, i, none⟩ = (#[.slice aAy0 aNy0 acy0] : Array Value)[i]?) ∧ (∀ i, w'.cell? ⟨w.heap.size, i, none⟩ = (#[p0] : Array Value)[i]?))
      (first | exact HK.out _ (Gr.refl _).drew | exact HK.out _ (Gr.trans (And.left ‹_›) hgt) | exact HK.out _ (Gr.trans (And.left ‹_›) hge))
      (first
        | (go_at_call 8; refine ((toCertificate_any _ _ x0 (h0.gr (G.out.trans (And.left ‹Gr wg _ ∧ _›))) (by omega)).mono NewOne.got).mono ?_; rintro e w' ⟨aAt0, aNt0, act0, rfl, hgt, t0⟩)
        | (go_at_call 10; have q := y0.gr (Gr.trans (And.left ‹Gr wg _ ∧ _›) (Gr.refl _)); refine (eqCertificate_any _ _ _ x0 x0 q t0 (by omega)).mono ?_; rw [eqB_self]; rintro e wz0 ⟨rfl, hge⟩))
    have hg : Gr wg wz0 := And.left ‹_›
    clear HK
    replace b0 := b0.gr hg
    replace d0 := d0.gr hg
    replace y0 := y0.gr (hg)
    replace G := Lib.hid (G.out.trans hg)
    clear hg c0
    have c0 := b0.c
    have lb0 := b0.lt
    have e0 := d0.c
    have ld0 := d0.lt
    go_wp2_with fail
    go_ret
    exact ⟨rfl, G.out⟩
  · have Z0 := Lib.hid (szOf_no (left := 1048576) (n := x0.length) (by omega))
    go_enter Tryd.func3, Tryd.ntmps3
    go_wp2_with fail
    refine (szCertificate_any _ _ x0 1048576 (h0.gr ((Gr.refl w).alloc _)) (by omega) (by omega) m0).mono ?_
    rintro e w1 ⟨rfl, hg⟩
    rw [Z0.out]
    have b0 := (Box.new (w := w) (k := w.heap.size) rfl).gr hg
    have G := Lib.hid (((Gr.refl w).alloc _).trans hg)
    clear hg
    have c0 := b0.c
    go_wp2_with fail
    go_ret
    exact ⟨rfl, G.out⟩

theorem own : ownKnob Tryd.prog.godebug = none := by kernel_rfl
theorem laidOut : laidOutB Tryd.prog = true := by kernel_rfl
theorem gTab : Tryd.prog.globalNamed "internal/strconv.uint64pow10" = some 0 := by kernel_rfl
theorem gTabType : (Tryd.prog.globals[0]?).map (·.type) = some 132 := by kernel_rfl
theorem cellsT : Tryd.prog.cellsOf 132 = 20 := by kernel_rfl
theorem cellsE : Tryd.prog.cellsOf 118 = 1 := by kernel_rfl
theorem noHandles : (Rows.fnExactFormatCertificateRow.laid.all fun x => x.2.handleName?.isNone) = true := by kernel_rfl
theorem pow_of {W : World} (h : laidMetH Tryd.prog Rows.fnExactFormatCertificateRow.laid W) : Pow W := by
  rw [MakeChecks.laidMetH_plain _ _ _ noHandles] at h
  have h3 : laidMet Tryd.prog [("internal/strconv.uint64pow10", Lib.tabData .u64 Lib.pow10Tab)] W := laidMet.tail (laidMet.tail h)
  exact Lib.tabIs_of_head (rest := []) gTab gTabType Tryd.underlying132 Tryd.underlying118 cellsE cellsT h3
set_option maxRecDepth 100000 in
theorem lifted (os : Os) (started : os.Started) (H : Type) (enc : TypeId × Value → H) :
    ReturnsInHanded {} Tryd.checked os 3 .any (fun w args => (Rows.fnExactFormatCertificateSpec.pre enc Tryd.prog Tryd.f3 Rows.fnExactFormatCertificateRow.domain false w args ∧ laidMetH Tryd.prog Rows.fnExactFormatCertificateRow.laid w) ∧ sizedMet enc Tryd.prog Tryd.f3 (OpenSpec.ofChange Rows.fnExactFormatCertificateSpec) false w args)
      (Rows.fnExactFormatCertificateSpec.post enc Tryd.prog Tryd.f3 false true false false) := by
  refine returnsInHanded_of_change_and (C := Tryd.checked) (X := fun w _ => laidMetH Tryd.prog Rows.fnExactFormatCertificateRow.laid w) (fun _ _ _ hh h => h.of_heap hh) own started (by kernel_rfl) Tryd.func3
    (ChangeSpec.witness_shaped (enc := enc) (C := Tryd.checked) (os := os) (X := fun w _ => laidMetH Tryd.prog Rows.fnExactFormatCertificateRow.laid w) false (World.laidAll Tryd.prog os Rows.fnExactFormatCertificateRow.laid) #[.agg #[.slice none 0 0]] 8 (World.laidAll_os _ _ _)
      (World.shaped_of_ZipB (by kernel_rfl) (by kernel_rfl)) (by kernel_rfl) (by kernel_rfl) (by kernel_rfl)
      (by rw [MakeChecks.laidMetH_plain _ _ _ noHandles]; exact laidMet_laidAll _ (by kernel_rfl) (by kernel_rfl))) ?_
  intro W base args ds gs before hval0 hW hcnd _ hL _
  have hP := pow_of hL
  have hval : ∀ (j : Nat) t v, Tryd.f3.params[j]? = some t → args[j]? = some v → Value.okWide Tryd.prog W .any base t v := hval0
  have hW' := hW
  obtain ⟨p, q, hA0, hV, rfl, hfz, hnd⟩ := hW
  have hA : DataW.TrodAll enc Tryd.prog W 0 (fun _ => true) true Tryd.f3.params.toList args.toList ds p := hA0
  rw [Tryd.params3] at hA hval
  obtain ⟨v0, vs0, d0, ds0, p0, q0, hargs, rfl, rfl, g0, r0⟩ := trodAll_cons hA
  obtain ⟨rfl, rfl, rfl⟩ := trodAll_nil r0
  obtain rfl : args = #[v0] := by cases args; simp_all
  obtain ⟨rfl, rfl⟩ := trodVars_none hV
  obtain ⟨x0, h0, m0⟩ := open_OS (S := 22) (e := 3) Tryd.underlying24 (by kernel_rfl) (by kernel_rfl) rfl Tryd.underlying22 Tryd.underlying3 (by kernel_rfl) (hval 0 24 v0 rfl rfl) g0
  clear hA0 hval0
  refine (walk W hP v0 x0 h0 m0).mono fun e W' ⟨he, hg⟩ => ?_
  subst he
  exact ⟨_, rfl, law_post laidOut rfl Tryd.underlying4 rfl (by kernel_rfl) hW' rfl rfl rfl hg⟩

theorem said : Rows.FnExactFormatCertificateSaid :=
  OpenClaim.holds_of_wide 3 Tryd.f3 rfl rfl rfl rfl rfl rfl rfl ⟨rfl, rfl, rfl, rfl, rfl⟩ rfl rfl rfl rfl rfl (by kernel_rfl) Tryd.func3 (by kernel_rfl)
    (of_decide_eq_true (by kernel_rfl)) (by unfold Func.isWrapper; first | (rw [if_pos (by decide +kernel)]; kernel_rfl) | (rw [if_neg (by decide +kernel)]; exact ⟨rfl, rfl⟩))
    (fun os started H enc _ => lifted os started H enc)
theorem plain (f : FuncId) (fn : Func) (hf : Tryd.pinned.checked.prog.funcNamed "loop.example/ltlcheck/laws.FnExactFormatCertificate" = some f) (hfn : Tryd.pinned.checked.prog.funcs[f]? = some fn) :
    false = Tryd.pinned.checked.prog.looks [] ∧ ∀ (j : Nat) t, fn.params[j]? = some t → Tryd.pinned.checked.prog.wantsStandIn t = false := by
  obtain rfl : f = 3 := Option.some.inj ((show Tryd.prog.funcNamed "loop.example/ltlcheck/laws.FnExactFormatCertificate" = some 3 by kernel_rfl).symm.trans hf) |>.symm
  obtain rfl : fn = Tryd.f3 := (Option.some.inj (Tryd.func3.symm.trans hfn)).symm
  refine ⟨by kernel_rfl, fun j t ht => ?_⟩
  have hall : (Tryd.f3.params.toList.all fun u => !Tryd.prog.wantsStandIn u) = true := by kernel_rfl
  have hm : t ∈ Tryd.f3.params.toList := by rw [Array.mem_toList_iff]; exact Array.mem_of_getElem? ht
  exact (show Tryd.prog.wantsStandIn t = false by simpa using List.all_eq_true.1 hall t hm)

/-- FnExactFormatCertificate answers true, whatever its arguments, where the library's table of powers of ten is as the program's text lays it (the card ties it). -/
theorem proved : Rows.FnExactFormatCertificateCardSaid :=
  Claim7.holds_tied_plain_at .later [] _ _ _ _ said (fun _ h => by cases h) (by kernel_rfl) (fun _ h => by cases h) fnExactFormatCertificate_row_tie rfl ⟨rfl, rfl⟩ (by kernel_rfl) rfl plain (by kernel_rfl)
#print axioms proved
end Go.Proofs.YtnfldmfamnhpcaaDoor.formatCertificate

