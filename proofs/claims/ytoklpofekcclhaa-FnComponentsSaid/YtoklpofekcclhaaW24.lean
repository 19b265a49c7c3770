/-
  FnComponents: the walk of the law. No conditions.
-/
import Derived.Test.YtoklpofekcclhaaE24
namespace Go.Proofs.Ytoklpofekcclhaa.Vm
open Go
set_option linter.unusedVariables false
set_option linter.unusedSimpArgs false
set_option maxRecDepth 200000

set_option maxHeartbeats 4000000 in

theorem lawFnComponents (xs : List UInt8) (ys : List UInt8)  : Pure Try.prog 11 [li cY xs, li cY ys] (.bool true) := by
  refine Pure.of_walk Try.func11 rfl (by simp [Try.f11]) (by simp [-List.drop_one, go_sem]) fun B hK => ?_
  (repeat' (first
    | refine AW_seq ?_
    | (refine AW_len 1 rfl fun hm => ?_); refine AW_region (id := 0) Γc4_ok [] (by kernel_rfl) ?_; simp  [-List.getD_eq_getElem?_getD, -List.drop_one, ↓splitB_true, ↓splitB_false, go_sem]
    | refine AW_region (id := 1) Γc4_ok [15] (by kernel_rfl) ?_; simp  [-List.getD_eq_getElem?_getD, -List.drop_one, ↓splitB_true, ↓splitB_false, go_sem]; try (refine ⟨fun s1a => ?_, fun s1a => ?_⟩ <;> (try simp [B_iff, B_not] at s1a) <;> try (refine ⟨fun s1b => ?_, fun s1b => ?_⟩ <;> (try simp [B_iff, B_not] at s1b)))
    | refine AW_region (id := 2) Γc4_ok [] (by kernel_rfl) ?_; simp  [-List.getD_eq_getElem?_getD, -List.drop_one, ↓splitB_true, ↓splitB_false, go_sem]
    | refine AW_region (id := 3) Γc4_ok [] (by kernel_rfl) ?_; simp  [-List.getD_eq_getElem?_getD, -List.drop_one, ↓splitB_true, ↓splitB_false, go_sem]; try ((intro c3); (generalize DrawComponents_sel xs c3 = z at *); (obtain ⟨ga, gb⟩ := z); (refine AW_data hK 5 ?_); (simp [go_sem]))
    | refine AW_region (id := 4) Γc4_ok [] (by kernel_rfl) ?_; simp  [-List.getD_eq_getElem?_getD, -List.drop_one, ↓splitB_true, ↓splitB_false, go_sem]; try ((refine AW_data hK 6 ?_); (simp [go_sem]))
    | refine AW_region (id := 5) Γc4_ok [] (by kernel_rfl) ?_; simp  [-List.getD_eq_getElem?_getD, -List.drop_one, ↓splitB_true, ↓splitB_false, go_sem]; try ((refine AW_data hK 7 ?_); (simp [go_sem]); (obtain ⟨cs, hcs⟩ : ∃ cs, cmL ga gb = cs := ⟨_, rfl⟩); (have hcl := cmL_len ga gb); (rw [hcs] at hcl ⊢))
    | refine AW_region (id := 6) Γc4_ok [31] (by kernel_rfl) ?_; simp  [-List.getD_eq_getElem?_getD, -List.drop_one, ↓splitB_true, ↓splitB_false, go_sem]; try (refine ⟨fun s6a => ?_, fun s6a => ?_⟩ <;> (try simp [B_iff, B_not] at s6a) <;> try (refine ⟨fun s6b => ?_, fun s6b => ?_⟩ <;> (try simp [B_iff, B_not] at s6b)))
    | refine AW_region (id := 7) Γc4_ok [] (by kernel_rfl) ?_; simp  [-List.getD_eq_getElem?_getD, -List.drop_one, ↓splitB_true, ↓splitB_false, go_sem]
    | refine AW_region (id := 8) Γc4_ok [] (by kernel_rfl) ?_; simp  [-List.getD_eq_getElem?_getD, -List.drop_one, ↓splitB_true, ↓splitB_false, go_sem]
    | refine AW_region (id := 9) Γc4_ok [] (by kernel_rfl) ?_; simp  [-List.getD_eq_getElem?_getD, -List.drop_one, ↓splitB_true, ↓splitB_false, go_sem]
    | refine AW_region_draw (id := 11) Γc4_ok mixed [] [8] (by kernel_rfl) (by kernel_rfl) (by simp [-List.getD_eq_getElem?_getD, -List.drop_one, ↓splitB_true, ↓splitB_false, go_sem, c44, ne_nil c44, Nat.sub_pos_of_lt c44]) ?_; simp  [-List.getD_eq_getElem?_getD, -List.drop_one, ↓splitB_true, ↓splitB_false, go_sem, c44, ne_nil c44, Nat.sub_pos_of_lt c44]
    | refine AW_region (id := 12) Γc4_ok [] (by kernel_rfl) ?_; simp  [-List.getD_eq_getElem?_getD, -List.drop_one, ↓splitB_true, ↓splitB_false, go_sem]
    | refine AW_region (id := 10) Γc4_ok [] (by kernel_rfl) ?_; simp  [-List.getD_eq_getElem?_getD, -List.drop_one, ↓splitB_true, ↓splitB_false, go_sem, wrapS (k := k) (by omega)]
    | ((have hne : ¬ cs = [] := (by first | assumption | (intro e; simp_all))); (have hcp : 0 < cs.length := List.length_pos_iff.2 hne); (have hG : GraphOk ga gb := (by refine Classical.byContradiction fun c => hne ?_; rw [← hcs, cmL_no (B_no c)])); (have hgl : cs.length = gb.length := (by rw [← hcs, cmL_yes (B_yes hG), compsL_len hG.next.1])); (have hc0 := cm_first hG); (have hcb := fun x y (hx : Nd gb x) (hy : Nd gb y) => cm_both hG hx hy); (rw [hcs] at hc0); (simp only [hcs] at hcb)); refine AW_region (id := 13) Γc4_ok [] (by kernel_rfl) ?_; simp  [-List.getD_eq_getElem?_getD, -List.drop_one, ↓splitB_true, ↓splitB_false, go_sem, (show ¬ (cs.length : Int) = 0 by omega), hne, hcp]; try ((have v0 := Int.emod_nonneg (ys.length : Int) (show (cs.length : Int) ≠ 0 by omega)); (have v1 := Int.emod_lt_of_pos (ys.length : Int) (show (0 : Int) < cs.length by omega)); (obtain ⟨vv, hvv⟩ : ∃ vv, (ys.length : Int).tmod cs.length = vv := ⟨_, rfl⟩); (rw [hvv]); (rw [← Int.tmod_eq_emod_of_nonneg (by omega), hvv] at v0 v1))
    | refine AW_region (id := 14) Γc4_ok [] (by kernel_rfl) ?_; simp  [-List.getD_eq_getElem?_getD, -List.drop_one, ↓splitB_true, ↓splitB_false, go_sem, (show ¬ (cs.length : Int) = 0 by omega), hne, hcp]; try ((have w0 := Int.emod_nonneg (xs.length : Int) (show (cs.length : Int) ≠ 0 by omega)); (have w1 := Int.emod_lt_of_pos (xs.length : Int) (show (0 : Int) < cs.length by omega)); (obtain ⟨ww, hww⟩ : ∃ ww, (xs.length : Int).tmod cs.length = ww := ⟨_, rfl⟩); (rw [hww]); (rw [← Int.tmod_eq_emod_of_nonneg (by omega), hww] at w0 w1); (have hb := hcb vv ww ⟨v0, by omega⟩ ⟨w0, by omega⟩))
    | refine AW_region (id := 15) Γc4_ok [72] (by kernel_rfl) ?_; simp  [-List.getD_eq_getElem?_getD, -List.drop_one, ↓splitB_true, ↓splitB_false, go_sem]; try (refine ⟨fun s15a => ?_, fun s15a => ?_⟩ <;> (try simp [B_iff, B_not] at s15a) <;> try (refine ⟨fun s15b => ?_, fun s15b => ?_⟩ <;> (try simp [B_iff, B_not] at s15b)))
    | refine AW_region_draw (id := 16) Γc4_ok mixed [91] [6] (by kernel_rfl) (by kernel_rfl) (by simp [-List.getD_eq_getElem?_getD, -List.drop_one, ↓splitB_true, ↓splitB_false, go_sem, v0, v1, w0, w1, hc0, hcp, hne, (show vv.toNat < cs.length by omega), (show ww.toNat < cs.length by omega), (show 0 < cs.length - vv.toNat by omega), (show 0 < cs.length - ww.toNat by omega)]) ?_; simp  [-List.getD_eq_getElem?_getD, -List.drop_one, ↓splitB_true, ↓splitB_false, go_sem, v0, v1, w0, w1, hc0, hcp, hne, (show vv.toNat < cs.length by omega), (show ww.toNat < cs.length by omega), (show 0 < cs.length - vv.toNat by omega), (show 0 < cs.length - ww.toNat by omega)]; try (refine ⟨fun s16a => ?_, fun s16a => ?_⟩ <;> (try simp [B_iff, B_not] at s16a) <;> try (refine ⟨fun s16b => ?_, fun s16b => ?_⟩ <;> (try simp [B_iff, B_not] at s16b)))
    | refine AW_condA (c := .tmp 19) ?_; simp [-List.getD_eq_getElem?_getD, -List.drop_one, ↓splitB_true, ↓splitB_false, go_sem]; try first | (refine ⟨?_, ?_⟩ <;> change AW _ _ _ _ _ _) | (refine ⟨fun c19 => ?_, fun c19 => ?_⟩ <;> (try simp [B_iff, B_not] at c19))
    | refine AW_condA (c := .tmp 35) ?_; simp [-List.getD_eq_getElem?_getD, -List.drop_one, ↓splitB_true, ↓splitB_false, go_sem]; try first | (refine ⟨?_, ?_⟩ <;> change AW _ _ _ _ _ _) | (refine ⟨fun c35 => ?_, fun c35 => ?_⟩ <;> (try simp [B_iff, B_not] at c35))
    | refine AW_condA (c := .tmp 44) ?_; simp [-List.getD_eq_getElem?_getD, -List.drop_one, ↓splitB_true, ↓splitB_false, go_sem]; try first | (refine ⟨?_, ?_⟩ <;> change AW _ _ _ _ _ _) | (refine ⟨fun c44 => ?_, fun c44 => ?_⟩ <;> (try simp [B_iff, B_not] at c44))
    | refine AW_condA (c := .tmp 55) ?_; simp [-List.getD_eq_getElem?_getD, -List.drop_one, ↓splitB_true, ↓splitB_false, go_sem]; try first | (refine ⟨?_, ?_⟩ <;> change AW _ _ _ _ _ _) | (refine ⟨fun c55 => ?_, fun c55 => ?_⟩ <;> (try simp [B_iff, B_not] at c55))
    | (refine AW_block (id := 0) (AW_loop (ι := Nat) (fun k : Nat => ⟨(upd (upd (upd (upd (upd (upd (fun _ => .any) 0 (li cY xs)) 1 (li cY ys)) 5 (.pd [li cP ga, li cL gb])) 6 (li cI cs)) 7 (li cI cs)) 8 (.int .i64 k)), fun _ => none⟩) (fun k => k ≤ cs.length) (fun k => cs.length - k) (0) ?_ ?_ ?_); exact Nat.zero_le _; ((repeat' (first | exact sub_noneH (by assumption) | exact sub_none | refine sub_upd ?_ ?_ | refine sub_noneE ?_)) <;> simp [-List.getD_eq_getElem?_getD, -List.drop_one, ↓splitB_true, ↓splitB_false, go_sem]); rintro k hk)
    | (refine ⟨k + 1, by omega, by first | omega | (simp; done) | (simp; omega), ?_⟩; ((repeat' (first | exact sub_noneH (by assumption) | exact sub_none | refine sub_upd ?_ ?_ | refine sub_noneE ?_)) <;> simp [-List.getD_eq_getElem?_getD, -List.drop_one, ↓splitB_true, ↓splitB_false, go_sem]))
    | (refine AW_block ?_)
    | (refine AW_exit ?_; simp [-List.getD_eq_getElem?_getD, -List.drop_one, ↓splitB_true, ↓splitB_false, go_sem])
    | (refine AW_skip ?_; simp [-List.getD_eq_getElem?_getD, -List.drop_one, ↓splitB_true, ↓splitB_false, go_sem])
    | (refine AW_ret ?_; simp [-List.getD_eq_getElem?_getD, -List.drop_one, ↓splitB_true, ↓splitB_false, go_sem, Try.results11])
    | (intro hx; change AW _ _ _ _ _ _)
    | (refine ⟨?_, ?_⟩ <;> change AW _ _ _ _ _ _)
    | (intro hx; refine ⟨fun hs => ?_, fun hs => ?_⟩)
    | (refine ⟨fun hs => ?_, fun hs => ?_⟩)
    | (refine ⟨?_, fun hs => ?_⟩; change AW _ _ _ _ _ _)
    | (refine ⟨fun hs => ?_, ?_⟩; rotate_left; change AW _ _ _ _ _ _; rotate_left)))
  all_goals (first
    | (simp_all; done)
    | (rw [Bool.eq_iff_iff]; simp_all; done)
    | skip)

end Go.Proofs.Ytoklpofekcclhaa.Vm

