/-
  append and stores at abstract values. No conditions; nothing of the program is named here.
-/
import Derived.Test.YtlbbhkpjjciaiaaVm4
namespace Go.Proofs.Ytlbbhkpjjciaiaa.Vm
open Go
set_option linter.unusedVariables false
set_option linter.unusedSimpArgs false
set_option linter.unusedSectionVars false
section
variable {P : Program} {o : Oper} {vals : List D} {H : Hp}

/-! the source of an append -/
def srcD (H : Hp) (size : Nat) : D → Option (Nat × List D)
  | .nil => some (0, [])
  | .list m cs => some (m, cs)
  | .fr _ m cs => some (m, cs)
  | .sl b _ i m _ => match H b with
    | some all => some (m, (all.drop i).take (m * size))
    | none => none
  | .str s => some (s.length, s.map fun b => .int .u8 b.toNat)
  | _ => none
def isStr : D → Bool
  | .str _ => true
  | _ => false
theorem src_spec {size : Nat} (h0 : 0 < size) {B : Base} {n : Nat} {T : Nat → D} {ds : List D} {vs : List Value} {a : Act} {w : World} {μ : Nat → Nat} {fp : Root → List Nat} {N : Nat} (hR : R B n ⟨T, H⟩ ds vs a w μ fp N) {tx e' : TypeId} {s : D} {u : Value} {g : List Nat}
    (hr : Rep μ (Im B w fp) w s u g) (htx : if isStr s then P.underlying tx = some .string ∧ size = 1 else P.underlying tx = some (.slice e')) {m : Nat} {ys : List D} (hs : srcD H size s = some (m, ys)) (hl : ys.length = m * size) (ho : owns s = false → ownsL ys = false) (hbs : bnd N s) :
    ∃ news g', Src P size tx u m news w ∧ RepL μ (Im B w fp) w ys news g' ∧ (∀ x, x ∈ g' → x ∈ g) ∧ (g.Nodup → g'.Nodup) ∧ bndL N ys := by
  have slc : ∀ (A : Option Addr) (c : Nat) (news : List Value), news.length = m * size → (A = none → m = 0) → (∀ b, A = some b → ∀ j v, news[j]? = some v → w.cell? (b.add j) = some v) → (∀ v ∈ news, v.oneCell' = true) → isStr s = false → Src P size tx (.slice A m c) m news w := by
    intro A c news h1 h0 h2 h3 h4
    rw [h4] at htx
    cases A with
    | none =>
      have := h0 rfl
      subst this
      have : news = [] := List.eq_nil_of_length_eq_zero (by simpa using h1)
      subst this
      exact Src.ofNil w htx c
    | some b => exact Src.ofSlice w htx b m c news h1 (h2 b rfl) h3
  cases s <;> simp only [srcD] at hs <;> try (cases hs; done)
  · cases hs
    simp only [Rep] at hr
    obtain ⟨rfl, A, rfl⟩ := hr
    refine ⟨[], [], slc A 0 [] (by simp) (fun _ => rfl) (by simp) (by simp) rfl, by simp [RepL], by simp, fun _ => .nil, by simp [bndL]⟩
  · rename_i st
    cases hs
    simp only [Rep] at hr
    obtain ⟨rfl, rfl⟩ := hr
    simp only [isStr, if_true] at htx
    have e : st.map (fun b => (D.int .u8 b.toNat)) = st.map fun b => D.int .u8 b.toNat := rfl
    have hby : byteCells (mkS st) = st.map fun b => Value.int .u8 b.toNat := by simp [byteCells, mkS]
    have := Src.ofString (P := P) w htx.1 (mkS st)
    rw [mkS_size] at this
    refine ⟨byteCells (mkS st), [], by rw [htx.2]; exact this, ?_, by simp, fun _ => .nil, ?_⟩
    · rw [hby]
      refine .build (by simp) fun i d v h1 h2 => ?_
      rw [List.getElem?_map] at h1 h2
      cases hi : st[i]? with
      | none => rw [hi] at h1; cases h1
      | some x =>
        rw [hi] at h1 h2
        simp at h1 h2
        subst h1; subst h2
        simp [Rep]
    · rw [bndL_iff]
      intro d hd
      rw [List.mem_map] at hd
      obtain ⟨x, _, rfl⟩ := hd
      simp [bnd]
  · cases hs
    simp only [Rep] at hr
    obtain ⟨rfl, hmax, A, c, vs, rfl, hmc, hA, hrep⟩ := hr
    have hvl := hrep.length
    simp only [bnd] at hbs
    refine ⟨vs, [], slc A c vs (by omega) (fun hA' => ?_) (fun b hb j v hv => ?_) (fun v hv => ?_) rfl, hrep, by simp, fun _ => .nil, hbs⟩
    · rcases hA with rfl | ⟨b, i, rfl, _⟩
      · have h1 := hl.symm; simp only [List.length_nil] at h1
        rcases Nat.mul_eq_zero.1 h1 with h | h
        · exact h
        · omega
      · cases hA'
    · rcases hA with rfl | ⟨b', i, rfl, hI, hseg⟩
      · simp at hvl; subst hvl; simp at hv
      · cases hb; rw [Addr.add_lit]; exact hseg.cell hv
    · rcases hA with rfl | ⟨b', i, rfl, hI, hseg⟩
      · simp at hvl; subst hvl; simp at hv
      · obtain ⟨_, _, _, _, _, h3⟩ := hseg; exact h3 v hv
  · cases hs
    simp only [Rep] at hr
    simp only [bnd] at hbs
    obtain ⟨hmax, hlen, hr⟩ := hr
    rcases hr with ⟨rfl, rfl, A, rfl⟩ | ⟨b, c, cells, vs, f, rfl, hmc, hw, hsz, hcell, hrep, rfl⟩
    · have : ys = [] := List.eq_nil_of_length_eq_zero (by simpa using hl)
      subst this
      exact ⟨[], [], slc A 0 [] (by simp) (fun _ => rfl) (by simp) (by simp) rfl, by simp [RepL], by simp, fun _ => .nil, by simp [bndL]⟩
    · have hvl := hrep.length
      refine ⟨vs, f, slc _ c vs (by omega) (fun h => by cases h) (fun b' hb j v hv => ?_) (fun v hv => ?_) rfl, hrep, by simp +contextual, fun h => (List.nodup_cons.1 h).2, hbs⟩
      · cases hb; rw [Addr.add_lit, Nat.zero_add]; exact hw.cell (hcell j v hv)
      · obtain ⟨j, hj⟩ := List.getElem?_of_mem hv
        obtain ⟨t, _, h3⟩ := hw
        exact h3 j v (hcell j v hj)
  · rename_i b sz i m' c
    split at hs
    · rename_i all hall
      cases hs
      simp only [Rep] at hr
      obtain ⟨rfl, hmc, hmax, ⟨A, rfl⟩, hv⟩ := hr
      have ho := ho rfl
      have hbn : bndL N ((all.drop i).take (m * size)) := bndL_take (bndL_drop (hR.bH b all hall).2 _) _
      by_cases h0 : m = 0
      · subst h0
        have : (all.drop i).take (0 * size) = [] := by simp
        rw [this]
        exact ⟨[], [], slc A c [] (by simp) (fun _ => rfl) (by simp) (by simp) rfl, by simp [RepL], by simp, fun _ => .nil, by simp [bndL]⟩
      · have hv := hv.resolve_left (by omega)
        cases hv
        by_cases hs0 : m * size = 0
        · rw [hs0] at hl ⊢
          simp only [List.take_zero]
          exact ⟨[], [], slc _ c [] (by simp [hs0]) (fun h => by cases h) (by simp) (by simp) rfl, by simp [RepL], by simp, fun _ => .nil, by simp [bndL]⟩
        · rcases hR.hp b all hall with ⟨k, _⟩ | ⟨cells, k1, k2, k3, k4, k5⟩
          · subst k; simp at hl; omega
          · rw [List.length_take, List.length_drop] at hl
            have hcl : ((cells.toList.drop i).take (m * size)).length = m * size := by simp; omega
            have hrep : RepL μ (Im B w fp) w ((all.drop i).take (m * size)) ((cells.toList.drop i).take (m * size)) [] := by
              refine .build (by rw [hcl, List.length_take, List.length_drop]; omega) fun j d v h1 h2 => ?_
              have h1' := h1
              rw [List.getElem?_take] at h1 h2
              split at h1
              · rename_i hj
                rw [if_pos hj] at h2
                rw [List.getElem?_drop] at h1 h2
                obtain ⟨v', q1, q2⟩ := k4 _ _ h1
                have : cells[i + j]? = some v := by simpa using h2
                rw [q1] at this; cases this
                have := q2.free (ownsL_iff.1 ho _ (List.mem_of_getElem? h1'))
                rwa [this] at q2
              · cases h1
            refine ⟨_, [], slc _ c _ hcl (fun h => by cases h) (fun b' hb j v hv => ?_) (fun v hv => ?_) rfl, hrep, by simp, fun _ => .nil, hbn⟩
            · cases hb
              rw [Addr.add_lit]
              rw [List.getElem?_take] at hv
              split at hv
              · rw [List.getElem?_drop] at hv
                exact k1.cell (by simpa using hv)
              · cases hv
            · have hm := List.mem_of_mem_drop (List.mem_of_mem_take hv)
              obtain ⟨j, hj⟩ := List.getElem?_of_mem hm
              obtain ⟨t, _, h3⟩ := k1
              exact h3 j v (by simpa using hj)
    · cases hs

/-! cells stored one behind the other -/
theorem setSeg_get {α : Type} : ∀ (us cs : List α) (i j : Nat), i + us.length ≤ cs.length → (setSeg cs i us)[j]? = if i ≤ j ∧ j < i + us.length then us[j - i]? else cs[j]?
  | [], cs, i, j, h => by simp [setSeg]; omega
  | u :: us, cs, i, j, h => by
    simp only [List.length_cons] at h
    rw [setSeg, setSeg_get us _ (i + 1) j (by simp; omega)]
    by_cases h1 : i + 1 ≤ j ∧ j < i + 1 + us.length
    · rw [if_pos h1, if_pos (by simp; omega)]
      rw [show j - i = (j - (i + 1)) + 1 by omega]
      simp
    · rw [if_neg h1]
      by_cases h2 : j = i
      · subst h2
        rw [if_pos (by simp), List.getElem?_set_self (by omega)]
        simp
      · rw [if_neg (by simp; omega), List.getElem?_set_ne (fun h => h2 h.symm)]
theorem setCells_heap (b : Nat) : ∀ (vs : List Value) (i : Nat) (w : World) (cells : Array Value) (t : TypeId), w.heap[b]? = some (.cells cells t (0, 0)) → ∃ cells' : Array Value, (w.setCells b i vs).heap[b]? = some (.cells cells' t (0, 0)) ∧ cells'.toList = setSeg cells.toList i vs ∧ Frm w (fun x => x = b) (w.setCells b i vs)
  | [], i, w, cells, t, h => ⟨cells, h, rfl, Frm.refl _ _⟩
  | v :: vs, i, w, cells, t, h => by
    have h1 := heap_setCell_same w b i cells t v h
    obtain ⟨cells', k1, k2, k3⟩ := setCells_heap b vs (i + 1) (w.setCell ⟨b, i, none⟩ v) _ t h1
    refine ⟨cells', k1, by rw [k2]; simp [setSeg], ⟨k3.os, k3.tape, k3.output, ?_, fun x hx hn => ?_⟩⟩
    · have := k3.size; rwa [World.size_setCell] at this
    · rw [World.setCells, k3.same x (by rw [World.size_setCell]; exact hx) hn]
      exact heap_setCell_other w _ x v hn

theorem grownCap_ge (w : World) (need old : Nat) (e : TypeId) : need ≤ grownCap w need old e := by
  unfold grownCap; simp [Question.cut]
theorem Frm.trans {w w' w'' : World} {K : Nat → Prop} (h : Frm w K w') (k : Frm w' (fun _ => False) w'') : Frm w K w'' :=
  ⟨k.os.trans h.os, k.tape.trans h.tape, k.output.trans h.output, Nat.le_trans h.size k.size, fun b hb hf => (k.same b (Nat.lt_of_lt_of_le hb h.size) (by simp)).trans (h.same b hb hf)⟩

theorem append_core {B : Base} {n : Nat} {S : St} {ds : List D} {vs : List Value} {a : Act} {w : World} {μ : Nat → Nat} {fp : Root → List Nat} {N sz m k : Nat} {cs ys : List D} {v u : Value} {news : List Value} {g : List Nat} {t tx ty e : TypeId} {te : Ti}
    (hR : R B n S (.fr sz m cs :: ds) (v :: vs) a w μ fp N) (ht : P.underlying t = some (.slice e)) (he : τ P e = some te) (hsz : sz = te.size) (hz : te.zero ≠ []) (hzl : te.zero.length = te.size) (hza : te.zero.all leaf = true) (hs0 : 0 < te.size)
    (hsrc : Src P te.size tx u k news w) (hy : RepL μ (Im B w fp) w ys news g) {f1 f2 : List Nat} (hf : fp .bag = f1 ++ f2) (h1 : Rep μ (Im B w fp) w (.fr sz m cs) v f1) (hgs : ∀ x, x ∈ g → x ∈ f2) (hgn : g.Nodup) (hyl : ys.length = k * te.size) (hyb : bndL N ys)
    (hmax : m + k ≤ maxLen) (hbytes : 2 * (m + k) * te.bytes ≤ 281474976710656) :
    ∃ v' w' fp', (Builtin.append_ #[t, tx] ty #[v, u]).run P w = .ok v' w' ∧ R B n S [.fr sz (m + k) (cs ++ ys)] [v'] a w' μ fp' N := by
  subst hsz
  obtain ⟨z, _, ⟨i, hi, hzi, hsi, hbi⟩, hzz⟩ := zero_spec he hz
  have hbag : ∀ x, x ∈ f1 ∨ x ∈ g → x ∈ fp .bag := fun x hx => by rw [hf]; rcases hx with hx | hx; exact List.mem_append_left _ hx; exact List.mem_append_right _ (hgs x hx)
  have hbn : bndL N (cs ++ ys) := by
    have hb := hR.bB
    simp only [bndL, bnd] at hb
    rw [bndL_iff] at *
    intro d hd
    rcases List.mem_append.1 hd with hd | hd
    · exact hb.1 d hd
    · exact hyb d hd
  have hnod : (f1 ++ g).Nodup := by
    have hn : (f1 ++ f2).Nodup := hf ▸ hR.nod .bag
    refine nodup_app (List.nodup_append.1 hn).1 hgn fun x hx hy => (List.nodup_append.1 hn).2.2 x hx x (hgs x hy) rfl
  simp only [Rep] at h1
  obtain ⟨hm1, hcl, h1⟩ := h1
  have hlen : (cs ++ ys).length = (m + k) * te.size := by rw [List.length_append, hcl, hyl, Nat.add_mul]
  have hnl : news.length = k * te.size := by rw [hy.length, hyl]
  -- a new row
  have grow : ∀ (base : Option Addr) (c : Nat) (olds : List Value) (f : List Nat), v = .slice base m c → c < m + k → (∀ x, x ∈ f → x ∈ f1) → (f ++ g).Nodup → RepL μ (Im B w fp) w cs olds f → (Builtin.firstCells i.size m (.slice base m c)).run P w.drew = .ok olds.toArray w.drew →
      ∃ v' w' fp', (Builtin.append_ #[t, tx] ty #[v, u]).run P w = .ok v' w' ∧ R B n S [.fr te.size (m + k) (cs ++ ys)] [v'] a w' μ fp' N := by
    intro base c olds f hv hc hfs hfn hrep hfirst
    have hrun := run_append_grow_src (P := P) w t tx ty e i z ht hi hzi base m c olds hfirst u k news (by rw [hsi]; exact hsrc) hc (by unfold maxLen at hmax; omega) (by
      have := nextslicecap_le hc
      rw [hbi]
      exact Nat.le_trans (Nat.mul_le_mul_right _ this) hbytes)
    let c1 := grownCap w (m + k) c e
    have hc1 := grownCap_ge w (m + k) c e
    let cells := (olds ++ news).toArray ++ Builtin.zeroCells z.cells (c1 - (m + k))
    have hfr : Frm w (fun _ => False) (w.drew.alloc (.cells cells e)) := (Frm.drew w).trans0 (Frm.alloc _ _)
    have hnew : ∀ x, x ∈ f ++ g → x < w.heap.size := fun x hx => by
      rcases List.mem_append.1 hx with hx | hx
      · exact (hR.own _ x (hbag x (.inl (hfs x hx)))).2
      · exact (hR.own _ x (hbag x (.inr hx))).2
    have hol : olds.length = m * te.size := by rw [hrep.length, hcl]
    have hzs : z.cells.size = te.size := by rw [← hzl, hzz]; simp
    have hcells : cells.size = c1 * te.size := by
      simp only [cells, Array.size_append, Builtin.zeroCells, Array.size_map, Array.size_range, List.size_toArray, List.length_append, hol, hnl, hzs]
      rw [← Nat.add_mul, ← Nat.add_mul]
      congr 1; omega
    have hrep2 : RepL μ (Im B w fp) w (cs ++ ys) (olds ++ news) (f ++ g) := RepL.append hy hrep
    have hjunk : ∀ x ∈ (Builtin.zeroCells z.cells (c1 - (m + k))).toList, x.oneCell' = true := by
      have : Builtin.zeroCells z.cells (c1 - (m + k)) = madeCells z.cells ((c1 - (m + k)) * z.cells.size) := rfl
      rw [this]
      exact made_one hzz hz hza _
    have hcs : ∀ x ∈ olds, x.oneCell' = true := by
      intro x hx
      rcases h1 with ⟨rfl, rfl, _⟩ | ⟨b, c', cells', vs', f', hv', _, hw, _, hcell, hrep', _⟩
      · have : olds = [] := List.eq_nil_of_length_eq_zero (by rw [hol]; simp)
        subst this; cases hx
      · rw [hv] at hv'
        cases hv'
        have e1 := run_firstCells_some (P := P) w.drew i.size m ⟨b, 0, none⟩ m c vs' (by rw [hrep'.length, hcl, hsi]) fun j y hy => by
          rw [Addr.add_lit, Nat.zero_add]
          exact (hw.mono (w' := w.drew) rfl).cell (hcell j y hy)
        rw [hfirst] at e1
        simp at e1
        subst e1
        obtain ⟨j, hj⟩ := List.getElem?_of_mem hx
        obtain ⟨_, _, h3⟩ := hw
        exact h3 j x (hcell j x hj)
    obtain ⟨fp', hR'⟩ := hR.resNew (hfr.weaken (by simp)) (d := .fr te.size (m + k) (cs ++ ys)) (v := .slice (some ⟨w.heap.size, 0, none⟩) (m + k) c1) (f := w.heap.size :: (f ++ g)) (by
        refine fr_new (w := w.drew) e hmax hlen hc1 (by rw [hcells]; exact Nat.le_refl _) ?_ ?_
        · intro x hx
          simp only [cells, Array.toList_append, List.mem_append] at hx
          rcases hx with (hx | hx) | hx
          · exact hcs x hx
          · exact hsrc.one x hx
          · exact hjunk x hx
        · have e1 : cells.toList.take (cs ++ ys).length = olds ++ news := by
            simp only [cells, Array.toList_append]
            rw [List.take_append_of_le_length (by rw [← hrep2.length]; exact Nat.le_refl _), List.take_of_length_le (by rw [← hrep2.length]; exact Nat.le_refl _)]
          rw [e1]
          exact RepL.mono (fun y hy => ⟨.inl hy, hfr.same y hy.1 (by simp)⟩) (fun y hy => hfr.same y (hnew y hy) (by simp)) hrep2)
      (by rw [List.nodup_cons]; exact ⟨fun hx => Nat.lt_irrefl _ (hnew _ hx), hfn⟩)
      (by
        intro x hx
        rcases List.mem_cons.1 hx with rfl | hx
        · exact .inr ⟨Nat.le_refl _, by show w.heap.size < (w.drew.alloc (.cells cells e)).heap.size; rw [World.size_alloc]; exact Nat.lt_succ_self _⟩
        · rcases List.mem_append.1 hx with hx | hx
          · exact .inl (hbag x (.inl (hfs x hx)))
          · exact .inl (hbag x (.inr hx)))
      (by simp only [bnd]; exact hbn)
    exact ⟨_, _, fp', by rw [hv]; exact hrun, hR'⟩
  rcases h1 with ⟨rfl, rfl, A, hv⟩ | ⟨b, c, cells, us, f, hv, hmc, hw, hcs, hcell, hrep, rfl⟩
  · have hc0 : cs = [] := List.eq_nil_of_length_eq_zero (by simpa using hcl)
    subst hc0
    by_cases hk : k = 0
    · subst hk
      have : ys = [] := List.eq_nil_of_length_eq_zero (by simpa using hyl)
      subst this
      have hn0 : news = [] := List.eq_nil_of_length_eq_zero (by simpa using hnl)
      subst hn0
      obtain ⟨fp', hR'⟩ := hR.res0 (d := .fr te.size (0 + 0) ([] ++ [])) (v := .slice A 0 0) (by simp only [Rep]; exact ⟨by simp, by simp, .inl ⟨by simp, trivial, A, by simp⟩⟩) (by simp only [bnd]; exact hbn)
      refine ⟨.slice A 0 0, w, fp', ?_, hR'⟩
      have hlen0 := hsrc.len
      cases A with
      | none => rcases hsrc.kind with ⟨e', hk⟩ | hk <;> simp [hv, Builtin.append_, run_underlying ht, run_underlying hk, sizeOf, typeInfo, hi, hlen0, hsi, hsrc.cells]
      | some b => rcases hsrc.kind with ⟨e', hk⟩ | hk <;> simp [hv, Builtin.append_, run_underlying ht, run_underlying hk, sizeOf, typeInfo, hi, hlen0, hsi, hsrc.cells, storeCells]
    · refine grow A 0 [] [] hv (by omega) (by simp) (by simpa using hgn) (by simp [RepL]) ?_
      cases A with
      | none => exact run_firstCells_none _ _ _ _ _
      | some b => exact run_firstCells_some _ _ 0 b 0 0 [] (by simp) (by simp)
  · have hnb : b ∉ f ∧ f.Nodup := by
      have := (List.nodup_append.1 hnod).1
      exact List.nodup_cons.1 this
    have hfg : (f ++ g).Nodup := by
      have := hnod
      rw [List.cons_append, List.nodup_cons] at this
      exact this.2
    have hbg' : b ∉ g := fun hx => (List.nodup_append.1 hnod).2.2 b (by simp) b hx rfl
    have hul := hrep.length
    by_cases hroom : m + k ≤ c
    · obtain ⟨ty0, hheap, hone⟩ := hw
      have hbd : m * te.size + news.length ≤ cells.size := by
        rw [hnl, ← Nat.add_mul]
        exact Nat.le_trans (Nat.mul_le_mul_right _ hroom) hcs
      have hrun := run_append_room_src (P := P) w t tx ty e i ht hi b 0 m c u k news (by rw [hsi]; exact hsrc) hroom (by
          intro j hj
          rw [hsi, Nat.zero_add]
          simp only [World.cell?, hheap]
          simp; omega) (by intro j hj; simp [World.frozen?, hheap])
      rw [hsi, Nat.zero_add] at hrun
      obtain ⟨cells', k1, k2, k3⟩ := setCells_heap b news (m * te.size) w cells ty0 hheap
      have hsz' : cells'.size = cells.size := by rw [← Array.length_toList, k2, setSeg_length]; simp
      have hother : ∀ x, x < w.heap.size → x ≠ b → (w.setCells b (m * te.size) news).heap[x]? = w.heap[x]? := fun x hx hn => k3.same x hx hn
      have hbb : b ∈ fp .bag := hbag b (.inl (by simp))
      have hrep2 : RepL μ (Im B w fp) w (cs ++ ys) (us ++ news) (f ++ g) := RepL.append hy hrep
      have hget : ∀ (j : Nat) (x : Value), (us ++ news)[j]? = some x → cells'[j]? = some x := by
        intro j x hj
        rw [← Array.getElem?_toList, k2, setSeg_get _ _ _ _ (by rw [Array.length_toList]; exact hbd)]
        by_cases hlt : j < us.length
        · rw [List.getElem?_append_left hlt] at hj
          rw [if_neg (by omega)]
          simpa using hcell j x hj
        · rw [List.getElem?_append_right (by omega)] at hj
          have hjl : j - us.length < news.length := by
            rcases Nat.lt_or_ge (j - us.length) news.length with h | h
            · exact h
            · rw [List.getElem?_eq_none h] at hj; cases hj
          rw [if_pos (by omega), show j - m * te.size = j - us.length by omega]
          exact hj
      obtain ⟨fp', hR'⟩ := hR.resNew (k3.weaken (fun x hx => by subst hx; exact hbb)) (d := .fr te.size (m + k) (cs ++ ys)) (v := .slice (some ⟨b, 0, none⟩) (m + k) c) (f := b :: (f ++ g)) (by
          simp only [Rep]
          refine ⟨hmax, hlen, .inr ⟨b, c, cells', us ++ news, f ++ g, rfl, hroom, ⟨ty0, k1, fun j x hj => ?_⟩, by rw [hsz']; exact hcs, hget, ?_, rfl⟩⟩
          · rw [← Array.getElem?_toList, k2, setSeg_get _ _ _ _ (by rw [Array.length_toList]; exact hbd)] at hj
            split at hj
            · exact hsrc.one x (List.mem_of_getElem? hj)
            · exact hone j x (by simpa using hj)
          · refine RepL.mono (fun y hy => ⟨.inl hy, hother y hy.1 fun e => ?_⟩) (fun y hy => hother y ?_ fun e => ?_) hrep2
            · subst e; exact hy.2.2 _ hbb
            · rcases List.mem_append.1 hy with hy | hy
              · exact (hR.own _ y (hbag y (.inl (by simp [hy])))).2
              · exact (hR.own _ y (hbag y (.inr hy))).2
            · subst e
              rcases List.mem_append.1 hy with hy | hy
              · exact hnb.1 hy
              · exact hbg' hy)
        (by rw [List.nodup_cons]; exact ⟨fun hx => by rcases List.mem_append.1 hx with hx | hx; exact hnb.1 hx; exact hbg' hx, hfg⟩)
        (by
          intro x hx
          rcases List.mem_cons.1 hx with rfl | hx
          · exact .inl hbb
          · rcases List.mem_append.1 hx with hx | hx
            · exact .inl (hbag x (.inl (by simp [hx])))
            · exact .inl (hbag x (.inr hx)))
        (by simp only [bnd]; exact hbn)
      exact ⟨_, _, fp', by rw [hv]; exact hrun, hR'⟩
    · refine grow _ c us f hv (by omega) (fun x hx => by simp [hx]) hfg hrep ?_
      refine run_firstCells_some _ _ _ _ _ _ us (by rw [hul, hcl, hsi]) fun j y hy => ?_
      rw [Addr.add_lit, Nat.zero_add]
      exact (hw.mono (w' := w.drew) rfl).cell (hcell j y hy)

variable (P) in
def appPre (te : Ti) (tx k : Nat) (s : D) (ys : List D) : Prop :=
  te.zero ≠ [] ∧ te.zero.length = te.size ∧ te.zero.all leaf = true ∧ 0 < te.size ∧ ys.length = k * te.size ∧ (owns s = false → ownsL ys = false) ∧ ∃ e', if isStr s then P.underlying tx = some .string ∧ te.size = 1 else P.underlying tx = some (.slice e')
variable (P) in
def opAppend (t tx : Nat) (vs : List D) (H : Hp) : Res :=
  match τ P t with
  | some ⟨_, _, _, _, .slice e⟩ =>
    match τ P e, vs with
    | some te, [d, s] =>
      match srcD H te.size s with
      | some (k, ys) =>
        match d with
        | .nil => ⟨appPre P te tx k s ys ∧ k ≤ 9223372036854775807 ∧ 2 * k * te.bytes ≤ 281474976710656, .fr te.size k ys, H, none⟩
        | .fr sz m cs => ⟨appPre P te tx k s ys ∧ sz = te.size ∧ m + k ≤ 9223372036854775807 ∧ 2 * (m + k) * te.bytes ≤ 281474976710656, .fr te.size (m + k) (cs ++ ys), H, none⟩
        | .sl b sz i m c =>
          match H b with
          | some all => ⟨appPre P te tx k s ys ∧ sz = te.size ∧ i = 0 ∧ m * te.size ≤ all.length ∧ c * te.size ≤ all.length ∧ m + k ≤ 9223372036854775807 ∧ 2 * (m + k) * te.bytes ≤ 281474976710656,
              .fr te.size (m + k) (all.take (m * te.size) ++ ys), upd H b none, none⟩
          | none => bad H
        | _ => bad H
      | none => bad H
    | _, _ => bad H
  | _ => bad H
theorem append_any {t tx ty e : TypeId} {ti te : Ti} {d : D} {k : Nat} {s : D} {ys : List D} (ht : τ P t = some ti) (hd : ti.desc = .slice e) (he : τ P e = some te) (hp : appPre P te tx k s ys)
    {B : Base} {n : Nat} {T : Nat → D} {H H' : Hp} {a : Act} {w : World} {μ : Nat → Nat} {fp fp' : Root → List Nat} {N m : Nat} {cs : List D} {v u : Value} (hR : R B n ⟨T, H⟩ [d, s] [v, u] a w μ fp N) (hs : srcD H te.size s = some (k, ys))
    (hR' : R B n ⟨T, H'⟩ [.fr te.size m cs, s] [v, u] a w μ fp' N) (hsub : ∀ r x, x ∈ fp' r → ∃ r', x ∈ fp r') (hmax : m + k ≤ 9223372036854775807) (hbytes : 2 * (m + k) * te.bytes ≤ 281474976710656) :
    ∃ v' w' fp', (Builtin.append_ #[t, tx] ty #[v, u]).run P w = .ok v' w' ∧ R B n ⟨T, H'⟩ [.fr te.size (m + k) (cs ++ ys)] [v'] a w' μ fp' N := by
  obtain ⟨p1, p2, p3, p4, p5, p6, e', p7⟩ := hp
  obtain ⟨_, _, _, _, hu, _⟩ := τ_spec ht
  rw [hd] at hu
  have hm : m + k ≤ maxLen := by unfold maxLen; omega
  obtain ⟨f1, f2, hf, r1, r2⟩ := RepL.two hR'.bg
  have hn : (f1 ++ f2).Nodup := hf ▸ hR'.nod .bag
  have hb' := hR'.bB
  simp only [bndL] at hb'
  by_cases ho : owns s = true
  · -- what is appended is owned: it is no slice of a named block
    have hs' : srcD H' te.size s = some (k, ys) := by
      cases s with
      | fr sz m cs => exact hs
      | _ => first | (simp [owns] at ho; done) | (simp [srcD] at hs; done)
    obtain ⟨news, g, q1, q2, q3, q4, q5⟩ := src_spec (P := P) p4 hR' r2 p7 hs' p5 p6 hb'.2.1
    exact append_core hR' hu he rfl p1 p2 p3 p4 q1 q2 hf r1 q3 (q4 (List.nodup_append.1 hn).2.1) p5 q5 hm hbytes
  · have ho : owns s = false := by simpa using ho
    obtain ⟨g1, g2, hg, s1, s2⟩ := RepL.two hR.bg
    have hb := hR.bB
    simp only [bndL] at hb
    obtain ⟨news, g, q1, q2, q3, q4, q5⟩ := src_spec (P := P) p4 hR s2 p7 hs p5 p6 hb.2.1
    have : g2 = [] := s2.free ho
    subst this
    have : g = [] := List.eq_nil_iff_forall_not_mem.2 fun x hx => by cases q3 x hx
    subst this
    exact append_core hR' hu he rfl p1 p2 p3 p4 q1 (q2.sub hsub) hf r1 (by simp) .nil p5 q5 hm hbytes
theorem sound_append (t tx : TypeId) (x y : Operand) (ho : o.op = .call { callee := .builtin .append, args := #[x, y], argTypes := #[t, tx] }) : Sound P o vals H (opAppend P t tx vals H) := by
  have hx : o.op.operands.toList = [x, y] := by rw [ho]; rfl
  unfold opAppend
  split
  case h_2 => exact .bad P o _ H
  rename_i size bytes agg zero e ht
  split
  case h_2 => exact .bad P o _ H
  rename_i te d s he
  split
  case h_2 => exact .bad P o _ H
  rename_i k ys hs
  have fin : ∀ {B : Base} {n : Nat} {T : Nat → D} {H' : Hp} {a : Act} {w : World} {μ : Nat → Nat} {N : Nat} {val : D} (next : Act → World → Prop) (Q : Exit → Act → World → Prop),
      (∃ v' w' fp', (Builtin.append_ #[t, tx] o.type #[a.eval x, a.eval y]).run P w = .ok v' w' ∧ R B n ⟨T, H'⟩ [val] [v'] a w' μ fp' N) →
      (∀ v w' μ' fp' N', R B n ⟨T, H'⟩ (val :: (none : Option D).toList) (v :: (none : Option D).toList.map fun _ => [a.eval x, a.eval y].headD undef) a w' μ' fp' N' → next (a.put o.dst v) w') → o.wp P a w next Q := by
    intro B n T H' a w μ N val next Q hex hk
    obtain ⟨v', w', fp', h1, h2⟩ := hex
    unfold Oper.wp
    have : (execOp a.eval o).run P w = .ok (.value v') w' := by simp [execOp, ho, resolve, invoke, builtin, h1]
    rw [this]
    exact hk v' w' μ fp' N h2
  split
  case h_4 => exact .bad P o _ H
  · intro B n T a w μ fp N avals hR hav hpre next Q hk
    rw [hx] at hav; subst hav
    obtain ⟨hp, h1, h2⟩ := hpre
    refine fin (μ := μ) (N := N) next Q ?_ hk
    have hR' : R B n ⟨T, H⟩ [.fr te.size 0 [], s] (List.map a.eval [x, y]) a w μ fp N :=
      { hR with
        bg := by
          have := hR.bg
          simp only [RepL] at this ⊢
          obtain ⟨v, vs', f1, f2, g1, g2, g3, g4⟩ := this
          refine ⟨v, vs', f1, f2, g1, g2, ?_, g4⟩
          simp only [Rep] at g3 ⊢
          obtain ⟨rfl, A, hA⟩ := g3
          exact ⟨by simp, by simp, .inl ⟨by simp, by simp, A, hA⟩⟩
        bB := by have := hR.bB; simp only [bndL, bnd] at this ⊢; exact ⟨trivial, this.2⟩ }
    have := append_any (ty := o.type) ht rfl he hp hR hs hR' (fun r x hx => ⟨r, hx⟩) (by omega) (by simpa using h2)
    simpa using this
  · rename_i sz m cs
    intro B n T a w μ fp N avals hR hav hpre next Q hk
    rw [hx] at hav; subst hav
    obtain ⟨hp, rfl, h1, h2⟩ := hpre
    exact fin (μ := μ) (N := N) next Q (append_any (ty := o.type) ht rfl he hp hR hs hR (fun r x hx => ⟨r, hx⟩) h1 h2) hk
  · rename_i b sz i m c
    split
    case h_2 => exact .bad P o _ H
    rename_i all hall
    intro B n T a w μ fp N avals hR hav hpre next Q hk
    rw [hx] at hav; subst hav
    obtain ⟨hp, rfl, rfl, h3, h4, h1, h2⟩ := hpre
    obtain ⟨fp', hR', hsub⟩ := hR.unname hall hp.2.2.2.1 h3 h4
    exact fin (μ := μ) (N := N) next Q (append_any (ty := o.type) ht rfl he hp hR hs hR' hsub h1 h2) hk
end
end Go.Proofs.Ytlbbhkpjjciaiaa.Vm

