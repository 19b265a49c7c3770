/-
  From the reading of an argument as data to what the walks ask of it; and what a law's row asks of the world behind the call. Plain lemmas; no conditions.
-/
import Derived.Test.YtnfldmfamnhpcaaDoorRows
import Derived.Test.YtnfldmfamnhpcaaDoorLib
import Derived.ProofKit
import Derived.Lib.SmallJoins
import Derived.OpenShut
namespace Go.Proofs.YtnfldmfamnhpcaaDoor
open Go.ChangeShapes Go.WideShapes Go.ChangeAt Go.RowKit Go.Deep Go.Joins
set_option linter.unusedVariables false

section
variable {H : Type} {enc : TypeId × Value → H} {P : Program} {w : World}
theorem open_IS {t e : TypeId} {n : Nat} {v : Value} {y : DataW H × List MemPlace} (ht : P.underlying t = some (.slice e)) (he : P.underlying e = some (.int .i64)) (hc : P.cellsOf e = 1)
    (h : DataW.trod enc P w 0 (fun _ => true) true n t [v] = some y) : ∃ xs, IS w v xs ∧ xs.length ≤ maxLen ∧ ∀ x ∈ xs, (Lit.int .i64 x).wf = true := by
  rcases open_ints ht he hc h with ⟨hcs, _⟩ | ⟨a, len, cap, zs, hcs, _, hl, hm, hz, _, hcell, hwf⟩
  · obtain rfl : v = .slice none 0 0 := by simpa using hcs
    exact ⟨[], ⟨none, 0, 0, rfl, rfl, fun k hk => absurd hk (by omega), Nat.le_refl _, by simp, fun _ => rfl⟩, by simp, by simp⟩
  · obtain rfl : v = .slice (some a) len cap := by simpa using hcs
    have hz : zs.length = cap := hz
    have e1 : (zs.take len).length = len := by simp; omega
    refine ⟨zs.take len, ⟨some a, len, cap, rfl, e1.symm, fun k hk => ⟨a, rfl, ?_⟩, hl, hm, fun h => by cases h⟩, by omega, fun x hx => hwf x (List.mem_of_mem_take hx)⟩
    rw [hcell k (by omega)]
    congr 2
    rw [nth_lt (by omega), List.getElem_take, List.getD_eq_getElem?_getD, List.getElem?_eq_getElem (by omega)]
    rfl

theorem open_PS {T S e : TypeId} {f0 f1 : Field} {r : Reach} {b0 : Nat} {v : Value} {d : DataW H} {p : List MemPlace} (hs : P.underlying T = some (.struct #[f0, f1])) (hone : oneCellFields P #[f0, f1] = true) (hC : P.cellsOf T = 2)
    (hf0 : f0.type = S) (hf1 : f1.type = S) (ht : P.underlying S = some (.slice e)) (he : P.underlying e = some (.int .i64)) (hc : P.cellsOf e = 1)
    (hv : Value.okWide P w r b0 T v) (h : DataW.Trod enc P w 0 (fun _ => true) true T v d p) :
    ∃ x : Ints2, PS w v x ∧ x.1.length ≤ maxLen ∧ x.2.length ≤ maxLen := by
  obtain ⟨v0, v1, y0, y1, n, rfl, _, _, h0, h1⟩ := open_agg2 hs hone hC hv h
  rw [hf0] at h0
  rw [hf1] at h1
  obtain ⟨xs, i0, l0, _⟩ := open_IS ht he hc h0
  obtain ⟨ys, i1, l1, _⟩ := open_IS ht he hc h1
  exact ⟨(xs, ys), ⟨_, _, rfl, i0, i1⟩, l0, l1⟩

theorem open_OS {T S e : TypeId} {f0 : Field} {r : Reach} {b0 : Nat} {v : Value} {d : DataW H} {p : List MemPlace} (hs : P.underlying T = some (.struct #[f0])) (hone : oneCellFields P #[f0] = true) (hC : P.cellsOf T = 1)
    (hf0 : f0.type = S) (ht : P.underlying S = some (.slice e)) (he : P.underlying e = some (.int .i64)) (hc : P.cellsOf e = 1)
    (hv : Value.okWide P w r b0 T v) (h : DataW.Trod enc P w 0 (fun _ => true) true T v d p) :
    ∃ x : List Int, OS w v x ∧ x.length ≤ maxLen := by
  obtain ⟨cs, rfl, hsz⟩ := okWide_struct hs hv
  obtain ⟨c0, rfl⟩ : ∃ c0, cs = #[c0] := by
    have hsz := hsz.trans hC
    obtain ⟨l⟩ := cs
    match l, hsz with
    | [c0], _ => exact ⟨c0, rfl⟩
  obtain ⟨fuel, hf⟩ := h
  obtain ⟨ys, n, _, hx, _, hlen, hg⟩ := DataW.trod_struct hs hf
  obtain ⟨o0, k0⟩ := hone_of hone 0 f0 rfl
  match ys, hlen with
  | [y0], _ =>
    have h0 : DataW.trod enc P w 0 (fun _ => true) true n f0.type [c0] = some y0 := by simpa [Value.cells, o0, k0] using hg 0 f0 rfl
    rw [hf0] at h0
    obtain ⟨xs, i0, l0, _⟩ := open_IS ht he hc h0
    exact ⟨xs, ⟨_, rfl, i0⟩, l0⟩

/-- The arguments read as they did, where nothing old has turned. -/
theorem trodAll_gr {W W' : World} (hl : laidOutB P = true) (hg : Gr W W') : ∀ (ts : List TypeId) (vs : List Value) (ds : List (DataW H)) (ps : List MemPlace),
    DataW.TrodAll enc P W 0 (fun _ => true) true ts vs ds ps → ts.all (fun t => P.readableRec t && decide (t < P.types.size)) = true → (∀ x ∈ ps, x.block < W.heap.size) →
    DataW.TrodAll enc P W' 0 (fun b => decide (b < W.heap.size)) true ts vs ds ps
  | [], [], [], ps, h, _, _ => h
  | t :: ts, v :: vs, d :: ds, ps, h, hr, hlt => by
    obtain ⟨p, q, h1, h2, rfl⟩ := h
    simp only [List.all_cons, Bool.and_eq_true, decide_eq_true_eq] at hr
    exact ⟨p, q, Below.trod hl hr.1.1 hr.1.2 h1 hg (fun x hx => hlt x (List.mem_append_left _ hx)), trodAll_gr hl hg ts vs ds q h2 hr.2 (fun x hx => hlt x (List.mem_append_right _ hx)), rfl⟩
  | [], _ :: _, _, _, h, _, _ => h.elim
  | [], [], _ :: _, _, h, _, _ => h.elim
  | _ :: _, [], _, _, h, _, _ => h.elim
  | _ :: _, _ :: _, [], _, h, _, _ => h.elim

/-- ARGS, RESULTS, FRAME of a law's row: it answers true, and has made new blocks alone. -/
theorem law_post {f : Func} {s : ChangeSpec} {apart fresh handsOn : Bool} {W W' : World} {args : Array Value} {ds gs : List (DataW H)} {before : List MemPlace} {tb : TypeId}
    (hl : laidOutB P = true) (hB : f.resultTypes = #[tb]) (hb : P.underlying tb = some .bool) (hvars : s.vars = [])
    (hr : f.params.toList.all (fun t => P.readableRec t && decide (t < P.types.size)) = true)
    (hW : DataW.Whole enc P f.params.toList s.vars apart W args.toList ds gs before)
    (he1 : (s.fn H (ds ++ gs)).results = [.lit (.bool true)]) (he2 : (s.fn H (ds ++ gs)).args = ds) (he3 : (s.fn H (ds ++ gs)).vars = [])
    (hg : Gr W W') : s.post enc P f apart fresh handsOn false W args (.bool true) W' := by
  have hW' := hW
  obtain ⟨p, q, hA, hV, rfl, _, _⟩ := hW
  have hlt := hW'.lt
  refine ⟨ds, gs, p ++ q, [], p, [], hW', ?_, ?_, ?_, hg.frame _, fun h => by cases h⟩
  · rw [he1, hB]
    exact trodAll_cons_mk (shut_bool hb _) trodAll_mk0
  · rw [he2]
    exact trodAll_gr hl hg _ _ _ _ hA hr (fun x hx => hlt x (List.mem_append_left _ hx))
  · rw [he3, hvars]
    rfl
end
end Go.Proofs.YtnfldmfamnhpcaaDoor

