/-
  Contracts of strings.Builder at this dump, of a builder that the call itself has made. No other conditions.
-/
import Derived.Test.YtlbbhkpjjciaiaaInts
import Derived.Lib.Builder
namespace Go.Proofs.Ytlbbhkpjjciaiaa
open Go.RowKit Go.Deep
set_option linter.unusedVariables false

theorem sizeBuilder : (Try.prog.info? 84).map (·.size) = some 2 := by kernel_rfl
theorem liesBuilder : liesAt Try.prog Try.prog.depth 84 (2 / Try.prog.cellsOf 84) 0 84 1 = true := by kernel_rfl
theorem infoByte : (Try.prog.info? 5).map (fun i => (i.zero, i.size, i.bytes)) = some (some (.int .u8 0), 1, 1) := by kernel_rfl

/-- A builder in block b, its first cell p, its buffer a row of the call's own from block B on that holds these bytes. -/
def Bld (w : World) (B b : Nat) (p : Value) (l : List Value) : Prop :=
  B ≤ b ∧ ∃ v, Box w b 84 #[p, v] ∧ w.ownsRow B 5 1 v l.length l ∧ v.ownBlock ≠ some b
theorem Bld.at_ {w : World} {B b : Nat} {p : Value} {l : List Value} (h : Bld w B b p l) : Lib.BuilderAt 84 5 B b p l w := h
def self (b : Nat) : Value := .pointer (some ⟨b, 0, none⟩)
theorem Bld.fresh (w : World) : Bld (w.alloc (.cells #[.pointer none, .slice none 0 0] 84)) w.heap.size w.heap.size (.pointer none) [] := by
  refine ⟨Nat.le_refl _, _, Box.new rfl, ⟨by simp, .inl ⟨rfl, rfl⟩⟩, by simp [Value.ownBlock]⟩

set_option maxRecDepth 100000 in
set_option maxHeartbeats 1000000 in
/-- copyCheck, at a builder that holds its own address or none: behind it the builder holds its own. -/
theorem copyCheck_any (w : World) (B b : Nat) (p : Value) (l : List Value) (h : Bld w B b p l) (hp : p = .pointer none ∨ p = self b) :
    Calls Try.prog 91 #[.pointer (some ⟨b, 0, none⟩)] w fun e w' => e = .returned (.tuple #[]) ∧ Bld w' B b (self b) l ∧ Below B w w' := by
  obtain ⟨j, hj, hjs⟩ := Option.map_eq_some_iff.1 sizeBuilder
  obtain ⟨hB, v, hb, hown, hne⟩ := h
  have f0 := hb.f 0
  have c0 := hb.c 0
  have hsh : w.shape? b = some (84, 2) := by unfold Box at hb; simp [World.shape?, hb]
  have H := Lib.hid (And.intro hb (And.intro hown hne))
  clear hb hown hne
  rcases hp with rfl | rfl
  · go_enter Try.func91, Try.ntmps91
    go_wp2_with fail
    rw [Lib.run_to_unsafe w ⟨b, 0, none⟩ Try.underlying82 Try.underlying105 hj (by rw [hjs]; decide) hsh (Nat.zero_lt_succ 1), Result.andThen, Oper.upon_value]
    go_wp2_with fail
    rw [run_callFunc_extern Try.func96 (by kernel_rfl) (by kernel_rfl) (by kernel_rfl) (e := Extern.AbiNoEscape.same) (by kernel_rfl), Lib.run_noEscape, Result.andThen, Oper.upon_value]
    go_wp2_with fail
    rw [Lib.run_from_unsafe w ⟨b, 0, none⟩ Try.underlying105 Try.underlying82 hj hsh liesBuilder, Result.andThen, Oper.upon_value]
    go_wp2_with fail
    go_end0
    obtain ⟨hb, hown, hne⟩ := H.out
    exact ⟨rfl, ⟨hB, v, hb.set_, (Lib.BuilderAt.used ⟨hB, v, hb, hown, hne⟩ (self b)).2.elim fun v' hv' => by
      have e := (Box.set_ hb (i := 0) (u := self b)).symm.trans hv'.1
      simp at e
      rw [e]
      exact hv'.2.1, hne⟩, (Below.refl B w).setCell hB _⟩
  · unfold self at c0
    go_enter Try.func91, Try.ntmps91
    go_wp2_with fail
    rw [Lib.run_neq_ptr_same w _ Try.underlying82 hj]
    go_wp2_with fail
    go_end0
    obtain ⟨hb, hown, hne⟩ := H.out
    exact ⟨rfl, ⟨hB, v, hb, hown, hne⟩, Below.refl B w⟩

/-- A new block that holds one byte. -/
theorem one_byte (w : World) (c : Int) : ∀ j u, ([Value.int .u8 c] : List Value)[j]? = some u → (w.alloc (.cells #[.int .u8 c] 5)).cell? ((⟨w.heap.size, 0, none⟩ : Addr).add j) = some u := by
  intro j u hj
  have hb := (Box.new (w := w) (t := 5) (cs := #[.int .u8 c]) rfl).c
  match j, hj with
  | 0, hj => rw [add0, hb]; simpa using hj

set_option maxRecDepth 100000 in
set_option maxHeartbeats 2000000 in
theorem WriteByte_any (w : World) (B b : Nat) (p : Value) (l : List Value) (c : Int) (h : Bld w B b p l) (hp : p = .pointer none ∨ p = self b) (hlen : l.length ≤ 1048576) (hBw : B ≤ w.heap.size) :
    Calls Try.prog 79 #[.pointer (some ⟨b, 0, none⟩), .int .u8 c] w fun e w' => e = .returned .nilIface ∧ Bld w' B b (self b) (l ++ [.int .u8 c]) ∧ Below B w w' := by
  obtain ⟨ib, hi, hz0, hz1, hz2⟩ := info_parts infoByte
  go_enter Try.func79, Try.ntmps79
  go_wp2_with fail
  refine (copyCheck_any w B b p l h hp).mono ?_
  rintro e w1 ⟨rfl, ⟨hB, v, hb, hown, hne⟩, hk⟩
  have c1 := hb.c 1
  have hbl := hb.lt
  go_wp2_with (at_builtin; refine wpList_append_own _ rfl _ _ 31 rfl B 5 ib (.int .u8 0) 1 1 Try.underlying31 hi hz0 hz1 hz2 rfl (by decide) _ _ _ rfl (hown.alloc _) ⟨w1.heap.size, 0, none⟩ 1 1 [.int .u8 c] rfl rfl (one_byte w1 c) ?q1 ?q2 ?q3 ?q4 ?_)
  case q1 => intro u hu; rw [List.mem_singleton.1 hu]; rfl
  case q2 => unfold maxLen; omega
  case q3 => omega
  case q4 => have := hk.size; rw [World.size_alloc]; omega
  intro v' w2 hown2 hgrow _
  have hb2 : Box w2 b 84 #[self b, v] := (hgrow.block b (by rw [World.size_alloc]; omega) (fun e => hne e.symm)).trans (hb.alloc _)
  have d1 := hb2.c 1
  have g1 := hb2.f 1
  have hshape : ∃ g k, v' = .slice (some ⟨g, 0, none⟩) (l.length + 1) k := by
    rcases hown2.2 with ⟨_, h0⟩ | ⟨g, k, _, hv, _⟩
    · omega
    · exact ⟨g, k, hv⟩
  obtain ⟨g, k, rfl⟩ := hshape
  have HR := Lib.hid (And.intro hown2 (And.intro hgrow (And.intro hk (And.intro hown hb2))))
  clear hown2 hgrow hk hown hb2 hb
  go_wp2_with fail
  go_ret
  obtain ⟨hown2, hgrow, hk, hown, hb2⟩ := HR.out
  refine ⟨rfl, ⟨hB, ?_⟩, ?_⟩
  · obtain ⟨_, hput⟩ := Lib.BuilderAt.put (T := 84) (e := 5) hB hb2 (bs' := l ++ [.int .u8 c]) (by simpa using hown2) (by decide)
    exact hput
  · exact ((hk.alloc (by have := hk.size; omega) _).grown hgrow (by have := hk.size; rw [World.size_alloc]; omega) (fun q hq => (hown.lt q hq).1)).setCell (p := ⟨b, 1, none⟩) hB _
end Go.Proofs.Ytlbbhkpjjciaiaa

