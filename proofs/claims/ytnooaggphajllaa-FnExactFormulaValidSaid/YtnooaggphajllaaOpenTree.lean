/-
  From the reading of an argument as data to a tree. Plain lemmas; no conditions.
-/
import Derived.Test.YtnooaggphajllaaOpen
import Derived.Test.YtnooaggphajllaaTree
import Derived.Deep.Fields
namespace Go.Proofs.Ytnooaggphajllaa
open Go.ChangeShapes Go.WideShapes Go.ChangeAt Go.RowKit Go.Deep Go.Joins
set_option linter.unusedVariables false

section
variable {H : Type} {enc : TypeId × Value → H} {P : Program} {w : World}
theorem open_TS_fuel {T S I : TypeId} {f0 f1 f2 : Field} (hT : P.underlying T = some (.struct #[f0, f1, f2])) (hone : oneCellFields P #[f0, f1, f2] = true) (hC : P.cellsOf T = 3)
    (t0 : f0.type = I) (t1 : f1.type = I) (t2 : f2.type = S) (hS : P.underlying S = some (.slice T)) (hI : P.underlying I = some (.int .i64)) :
    ∀ (fuel : Nat) (cs : List Value) (y : DataW H × List MemPlace), DataW.trod enc P w 0 (fun _ => true) true fuel T cs = some y → ∃ c0 c1 c2 t, cs = [c0, c1, c2] ∧ TS w 0 (.agg #[c0, c1, c2]) t := by
  intro fuel
  induction fuel using Nat.strongRecOn with
  | _ fuel ih =>
    intro cs y h
    obtain ⟨xs, n, hn, _, hlen, hxs, hf⟩ := DataW.trod_struct hT h
    rw [hC] at hlen
    obtain ⟨o0, k0⟩ := hone_of hone 0 f0 rfl
    obtain ⟨o1, k1⟩ := hone_of hone 1 f1 rfl
    obtain ⟨o2, k2⟩ := hone_of hone 2 f2 rfl
    match cs, hlen with
    | [c0, c1, c2], _ =>
    match xs, hxs with
    | [y0, y1, y2], _ =>
      have g0 : DataW.trod enc P w 0 (fun _ => true) true n I [c0] = some y0 := by have := hf 0 f0 rfl; rw [t0] at this k0; simpa [o0, k0] using this
      have g1 : DataW.trod enc P w 0 (fun _ => true) true n I [c1] = some y1 := by have := hf 1 f1 rfl; rw [t1] at this k1; simpa [o1, k1] using this
      have g2 : DataW.trod enc P w 0 (fun _ => true) true n S [c2] = some y2 := by have := hf 2 f2 rfl; rw [t2] at this k2; simpa [o2, k2] using this
      obtain ⟨a, e0, _, _⟩ := DataW.trod_int hI g0
      obtain ⟨b, e1, _, _⟩ := DataW.trod_int hI g1
      obtain rfl : c0 = .int .i64 a := by simpa using e0
      obtain rfl : c1 = .int .i64 b := by simpa using e1
      rcases DataW.trod_slice hS g2 with ⟨e2, _⟩ | ⟨ad, len, cap, elems, rest, m, hm, e2, _, hb, hl, hcap, hlen, hel, _, _⟩
      · obtain rfl : c2 = .slice none 0 0 := by simpa using e2
        exact ⟨_, _, _, .node a b [], rfl, by simp only [TS]; exact ⟨none, 0, rfl, by simp, by simp only [TL]⟩⟩
      · obtain rfl : c2 = .slice (some ad) len cap := by simpa using e2
        rw [hC] at hel
        have each : ∀ i, i < len → ∃ p : Value × Value × Value × Tr, Cells w (ad.add (i * 3)) [p.1, p.2.1, p.2.2.1] ∧ TS w 0 (.agg #[p.1, p.2.1, p.2.2.1]) p.2.2.2 := by
          intro i hi
          have h1 := hel i hi
          rw [List.getElem?_eq_getElem (by omega)] at h1
          obtain ⟨cs', hc, ht⟩ := Option.bind_eq_some_iff.1 h1
          obtain ⟨_, hcl, hat⟩ := World.cells?_some hc
          obtain ⟨d0, d1, d2, t, rfl, hts⟩ := ih m (by omega) cs' _ ht
          exact ⟨(d0, d1, d2, t), fun j hj => by rw [hat j (by simpa using hj), List.getElem?_eq_getElem hj], hts⟩
        obtain ⟨V, hV⟩ := choose_lt each
        refine ⟨_, _, _, .node a b ((List.range len).map fun i => (V i).2.2.2), rfl, ?_⟩
        simp only [TS]
        refine ⟨some ad, cap, by simp, by simp; omega, TL.of _ _ fun k hk => ?_⟩
        have hk' : k < len := by simpa using hk
        obtain ⟨q1, q2⟩ := hV k hk'
        exact ⟨ad, _, _, _, rfl, Nat.zero_le _, by rw [Nat.zero_add]; exact q1, by simpa using q2⟩

theorem open_TS {T S I : TypeId} {f0 f1 f2 : Field} {r : Reach} {b0 : Nat} {v : Value} {d : DataW H} {p : List MemPlace} (hT : P.underlying T = some (.struct #[f0, f1, f2])) (hone : oneCellFields P #[f0, f1, f2] = true) (hC : P.cellsOf T = 3)
    (t0 : f0.type = I) (t1 : f1.type = I) (t2 : f2.type = S) (hS : P.underlying S = some (.slice T)) (hI : P.underlying I = some (.int .i64))
    (hv : Value.okWide P w r b0 T v) (h : DataW.Trod enc P w 0 (fun _ => true) true T v d p) : ∃ t, TS w 0 v t := by
  obtain ⟨cs, rfl, hsz⟩ := okWide_struct hT hv
  obtain ⟨fuel, hf⟩ := h
  obtain ⟨c0, c1, c2, t, e, ht⟩ := open_TS_fuel hT hone hC t0 t1 t2 hS hI fuel _ _ hf
  obtain ⟨l⟩ := cs
  have : l = [c0, c1, c2] := by simpa [Value.cells] using e
  subst this
  exact ⟨t, ht⟩
end
end Go.Proofs.Ytnooaggphajllaa
