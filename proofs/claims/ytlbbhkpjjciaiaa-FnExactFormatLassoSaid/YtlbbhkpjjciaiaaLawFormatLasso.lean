/-
  The law FnExactFormatLasso answers true: the program's FormatLasso returns what the reference's returns, for all arguments. No conditions.
-/
import Derived.Test.YtlbbhkpjjciaiaaFormat
import Derived.Test.YtlbbhkpjjciaiaaOpen
import Derived.Deep.RegionHeld3
import Derived.Deep.DeepCutAuto
namespace Go.Proofs.Ytlbbhkpjjciaiaa.formatLasso
open Go.ChangeShapes Go.WideShapes Go.ChangeAt Go.RowKit Go.Deep
set_option linter.unusedVariables false
set_option maxHeartbeats 1000000 in
theorem walk (w : World) (v0 : Value) (x0 : Ints2) (h0 : PS w v0 x0) (m0 : x0.1.length ≤ maxLen) (n0 : x0.2.length ≤ maxLen) :
    Calls Try.prog 5 #[v0] w fun e w' => e = .returned (.bool true) ∧ Gr w w' := by
  obtain ⟨p0, q0, rfl, i0, j0⟩ := h0
  have h0 : PS w (.agg #[p0, q0]) x0 := ⟨_, _, rfl, i0, j0⟩
  clear i0 j0
  by_cases z0 : (x0.1.length + x0.2.length) ≤ 1048576
  · have Z0 := Lib.hid (szOf_yes (left := 1048576) (n := (x0.1.length + x0.2.length)) (by omega))
    go_enter Try.func5, Try.ntmps5
    go_wp2_with fail
    refine (szLasso_any _ _ x0 1048576 (h0.gr ((Gr.refl w).alloc _)) (by omega) (by omega) m0 n0).mono ?_
    rintro e w1 ⟨rfl, hg⟩
    rw [Z0.out]
    have b0 := (Box.new (w := w) (k := w.heap.size) rfl).gr hg
    have G := Lib.hid (((Gr.refl w).alloc _).trans hg)
    clear hg
    have c0 := b0.c
    go_wp2_with fail
    refine ((toLasso_any _ _ x0 (h0.gr G.out) (by omega) (by omega)).mono NewPair.got).mono ?_
    rintro e wa ⟨aAs, aNs, acs, aBs, aMs, ads, rfl, hg, hx⟩
    replace b0 := b0.gr hg
    replace G := Lib.hid (G.out.trans hg)
    clear hg c0
    have c0 := b0.c
    have lb0 := b0.lt
    go_wp2_with fail
    refine (specFormatLasso_any _ _ x0 hx (by omega) (by omega)).mono ?_
    rintro e wc ⟨rfl, hg⟩
    clear hx
    replace b0 := b0.gr hg
    replace G := Lib.hid (G.out.trans hg)
    clear hg c0
    have c0 := b0.c
    have lb0 := b0.lt
    go_wp2_with fail
    refine ((toLasso_any _ _ x0 (h0.gr G.out) (by omega) (by omega)).mono NewPair.got).mono ?_
    rintro e wy0 ⟨aAy0, aNy0, acy0, aBy0, aMy0, ady0, rfl, hg, y0⟩
    replace b0 := b0.gr hg
    replace G := Lib.hid (G.out.trans hg)
    clear hg c0
    have c0 := b0.c
    have lb0 := b0.lt
    go_wp2_with fail
    refine (implFormatLasso_any _ _ x0 (y0.gr ((Gr.refl _).alloc _)) (by omega) (by omega)).mono ?_
    rintro e wg ⟨rfl, hg⟩
    replace b0 := (b0.alloc _).gr hg
    have d0 := (Box.new (w := wy0) rfl).gr hg
    replace y0 := y0.gr (((Gr.refl _).alloc _).trans hg)
    replace G := Lib.hid ((G.out.alloc _).trans hg)
    clear hg c0
    have c0 := b0.c
    have lb0 := b0.lt
    have e0 := d0.c
    have ld0 := d0.lt
    have HK := Lib.hid (fun w' (h : Gr wg w') => And.intro h (And.intro (d0.gr h).c (b0.gr h).c))
    go_wp2_with fail
    go_region_held3 (fun w' => Gr wg w' ∧ (∀ i, w'.cell? ⟨wy0.heap.size, i, none⟩ = (#[.slice aAy0 aNy0 acy0, .slice aBy0 aMy0 ady0] : Array Value)[i]?) ∧ (∀ i, w'.cell? ⟨w.heap.size, i, none⟩ = (#[p0, q0] : Array Value)[i]?))
      (first | exact HK.out _ (Gr.refl _).drew | exact HK.out _ (Gr.trans (And.left ‹_›) hgt) | exact HK.out _ (Gr.trans (And.left ‹_›) hge))
      (first
        | (go_at_call 27; refine ((toLasso_any _ _ x0 (h0.gr (G.out.trans (And.left ‹Gr wg _ ∧ _›))) (by omega) (by omega)).mono NewPair.got).mono ?_; rintro e w' ⟨aAt0, aNt0, act0, aBt0, aMt0, adt0, rfl, hgt, t0⟩)
        | (go_at_call 29; have q := y0.gr (Gr.trans (And.left ‹Gr wg _ ∧ _›) (Gr.refl _)); refine (eqLasso_any _ _ _ x0 x0 q t0 (by omega) (by omega)).mono ?_; rw [eqB_self]; rintro e wz0 ⟨rfl, hge⟩))
    have hg : Gr wg wz0 := And.left ‹_›
    clear HK
    replace b0 := b0.gr hg
    replace d0 := d0.gr hg
    replace y0 := y0.gr (hg)
    replace G := Lib.hid (G.out.trans hg)
    clear hg c0
    have c0 := b0.c
    have lb0 := b0.lt
    have e0 := d0.c
    have ld0 := d0.lt
    go_wp2_with fail
    go_ret
    exact ⟨rfl, G.out⟩
  · have Z0 := Lib.hid (szOf_no (left := 1048576) (n := (x0.1.length + x0.2.length)) (by omega))
    go_enter Try.func5, Try.ntmps5
    go_wp2_with fail
    refine (szLasso_any _ _ x0 1048576 (h0.gr ((Gr.refl w).alloc _)) (by omega) (by omega) m0 n0).mono ?_
    rintro e w1 ⟨rfl, hg⟩
    rw [Z0.out]
    have b0 := (Box.new (w := w) (k := w.heap.size) rfl).gr hg
    have G := Lib.hid (((Gr.refl w).alloc _).trans hg)
    clear hg
    have c0 := b0.c
    go_wp2_with fail
    go_ret
    exact ⟨rfl, G.out⟩

theorem own : ownKnob Try.prog.godebug = none := by kernel_rfl
theorem laidOut : laidOutB Try.prog = true := by kernel_rfl
set_option maxRecDepth 100000 in
theorem lifted (os : Os) (started : os.Started) (H : Type) (enc : TypeId × Value → H) :
    ReturnsInHanded {} Try.checked os 5 .any (Rows.fnExactFormatLassoSpec.pre6 enc Try.prog Try.f5 Rows.fnExactFormatLassoRow.domain false) (Rows.fnExactFormatLassoSpec.post enc Try.prog Try.f5 false true false false) := by
  refine returnsInHanded_of_change (C := Try.checked) own started (by kernel_rfl) Try.func5
    (ChangeSpec.witness6 (enc := enc) (C := Try.checked) false ⟨#[], #[.agg #[.slice none 0 0, .slice none 0 0]], []⟩ 8 (by kernel_rfl) (by kernel_rfl) (by kernel_rfl) (by kernel_rfl)) ?_
  intro W base args ds gs before hval0 hW hcnd _
  have hval : ∀ (j : Nat) t v, Try.f5.params[j]? = some t → args[j]? = some v → Value.okWide Try.prog W .any base t v := hval0
  have hW' := hW
  obtain ⟨p, q, hA0, hV, rfl, hfz, hnd⟩ := hW
  have hA : DataW.TrodAll enc Try.prog W 0 (fun _ => true) true Try.f5.params.toList args.toList ds p := hA0
  rw [Try.params5] at hA hval
  obtain ⟨v0, vs0, d0, ds0, p0, q0, hargs, rfl, rfl, g0, r0⟩ := trodAll_cons hA
  obtain ⟨rfl, rfl, rfl⟩ := trodAll_nil r0
  obtain rfl : args = #[v0] := by cases args; simp_all
  obtain ⟨rfl, rfl⟩ := trodVars_none hV
  obtain ⟨x0, h0, m0, n0⟩ := open_PS (S := 22) (e := 3) Try.underlying42 (by kernel_rfl) (by kernel_rfl) rfl rfl Try.underlying22 Try.underlying3 (by kernel_rfl) (hval 0 42 v0 rfl rfl) g0
  clear hA0 hval0
  refine (walk W v0 x0 h0 m0 n0).mono fun e W' ⟨he, hg⟩ => ?_
  subst he
  exact ⟨_, rfl, law_post laidOut rfl Try.underlying4 rfl (by kernel_rfl) hW' rfl rfl rfl hg⟩

/-- FnExactFormatLasso answers true, whatever its arguments. -/
theorem proved : Rows.FnExactFormatLassoSaid :=
  OpenClaim.holds_of_wide 5 Try.f5 rfl rfl rfl rfl rfl rfl rfl ⟨rfl, rfl, rfl, rfl, rfl⟩ rfl rfl rfl rfl rfl (by kernel_rfl) Try.func5 (by kernel_rfl)
    (of_decide_eq_true (by kernel_rfl)) (by unfold Func.isWrapper; first | (rw [if_pos (by decide +kernel)]; kernel_rfl) | (rw [if_neg (by decide +kernel)]; exact ⟨rfl, rfl⟩))
    (fun os started H enc _ => lifted os started H enc)
#print axioms proved
end Go.Proofs.Ytlbbhkpjjciaiaa.formatLasso

