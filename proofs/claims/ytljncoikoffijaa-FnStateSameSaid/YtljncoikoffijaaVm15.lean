/-
  Contracts widened: blocks that stand aside; results from then on data; calls that draw. No conditions; nothing of the program is named here.
-/
import Derived.Test.YtljncoikoffijaaVm14
namespace Go.Proofs.Ytljncoikoffijaa.Vm
open Go
set_option linter.unusedVariables false
set_option linter.unusedSimpArgs false
set_option linter.unusedSectionVars false
section
variable {P : Program}
/-- One block and no other. -/
def one (b : Nat) (cs : List D) : Hp := upd (fun _ => none) b (some cs)
theorem one_eq (b : Nat) (cs : List D) : one b cs b = some cs := upd_eq ..
theorem one_some {b z : Nat} {cs ds : List D} (h : one b cs z = some ds) : z = b ∧ ds = cs := by
  unfold one at h
  by_cases e : z = b
  · subst e; rw [upd_eq] at h; cases h; exact ⟨rfl, rfl⟩
  · rw [upd_ne e] at h; cases h
theorem one_none {b z : Nat} {cs : List D} (h : one b cs z = none) : ¬ z = b := by rintro rfl; rw [one_eq] at h; cases h
/-- What a call does with one block it does with many: the others stand aside. -/
theorem SpecR.frame {f : FuncId} {args : List D} {b : Nat} {cs : List D} {r : Any → D} {cs' : Any → List D} (h : SpecR P f args (one b cs) fun c => (r c, one b (cs' c))) {H : Hp} (hb : H b = some cs) :
    SpecR P f args H fun c => (r c, upd H b (some (cs' c))) := by
  intro w J vs μ fp N hR
  let fp1 : Root → List Nat := fun r => match r with
    | .cell z i => if z = b then fp (.cell z i) else []
    | .blk z => if z = b then fp (.blk z) else []
    | r => fp r
  have hor : ∀ r, fp1 r = fp r ∨ fp1 r = [] := fun r => by
    cases r with
    | cell z i => simp only [fp1]; split; exact .inl rfl; exact .inr rfl
    | blk z => simp only [fp1]; split; exact .inl rfl; exact .inr rfl
    | slot t => exact .inl rfl
    | bag => exact .inl rfl
  have hm : Moves fp fp1 := .drop hR.nod hR.dis hor
  have hsub : ∀ r x, x ∈ fp1 r → x ∈ fp r := fun r x hx => by
    rcases hor r with e | e
    · rwa [e] at hx
    · rw [e] at hx; cases hx
  let J1 : Nat → Prop := fun x => Im ⟨w, fun x => ∃ r, x ∈ fp r, J, μ, N⟩ w fp x
  have him : ∀ x, Im ⟨w, fun x => ∃ r, x ∈ fp r, J, μ, N⟩ w fp x → Im ⟨w, fun x => ∃ r, x ∈ fp1 r, J1, μ, N⟩ w fp1 x := fun x hx => ⟨hx.1, .inl (.inl hx), fun r hr => hx.2.2 r (hsub r x hr)⟩
  have hR1 : R ⟨w, fun x => ∃ r, x ∈ fp1 r, J1, μ, N⟩ args.length ⟨ofArgs args, one b cs⟩ [] [] ⟨vs.toArray, []⟩ w μ fp1 N := by
    refine ⟨hR.len, hR.dfs, Frm.refl _ _, fun x hx => ⟨hx.1, fun ⟨r, hr⟩ => hx.2.2 r (hsub r x hr)⟩, fun r x hx => ⟨.inl ⟨r, hx⟩, (hR.own r x (hsub r x hx)).2⟩, hm.nod, hm.dis, fun t => ?_, ?_, ?_, ?_, hR.bT, hR.bB, ?_, ⟨Nat.le_refl _, fun _ _ => rfl⟩⟩
    · exact Rep.mono (fun x hx => ⟨him x hx, rfl⟩) (fun _ _ => rfl) (hR.tm t)
    · exact RepL.mono (fun x hx => ⟨him x hx, rfl⟩) (fun _ _ => rfl) hR.bg
    · intro z ds hz
      obtain ⟨rfl, rfl⟩ := one_some hz
      rcases hR.hp z ds hb with q | ⟨cells, q1, q2, q3, q4, q5⟩
      · exact .inl ⟨q.1, by simp [fp1, q.2.1], by simp [fp1, q.2.2]⟩
      · refine .inr ⟨cells, q1, q2, by simp [fp1, q3], fun i d hd => ?_, fun i hi => by simp [fp1, q5 i hi]⟩
        obtain ⟨u, hu, hr⟩ := q4 i d hd
        refine ⟨u, hu, ?_⟩
        have e : fp1 (.cell z i) = fp (.cell z i) := by simp [fp1]
        rw [e]
        exact Rep.mono (fun x hx => ⟨him x hx, rfl⟩) (fun _ _ => rfl) hr
    · intro z hz
      have := one_none hz
      simp [fp1, this]
    · intro z ds hz
      obtain ⟨rfl, rfl⟩ := one_some hz
      exact hR.bH z ds hb
  refine (h w J1 vs μ fp1 N hR1).mono fun e w' ⟨c, v, μ', fp', N', he, hR'⟩ => ⟨c, v, μ', ?_⟩
  let fn : Root → List Nat := fun r => match r with
    | .cell z i => if z = b then fp' (.cell z i) else fp (.cell z i)
    | .blk z => if z = b then fp' (.blk z) else fp (.blk z)
    | r => fp' r
  have old : ∀ r x, x ∈ fp r → x < w.heap.size := fun r x hx => (hR.own r x hx).2
  have away : ∀ r x, x ∈ fp r → fp1 r = [] → (¬ ∃ r', x ∈ fp1 r') := fun r x hx he ⟨r', hr'⟩ => by
    have := hR.dis r r' x hx (hsub r' x hr')
    subst this; rw [he] at hr'; cases hr'
  have same : ∀ x, x < w.heap.size → (¬ ∃ r, x ∈ fp1 r) → w'.heap[x]? = w.heap[x]? := fun x hx hk => hR'.frm.same x hx hk
  have out : ∀ x, x < w.heap.size → (¬ ∃ r, x ∈ fp1 r) → ∀ r, x ∉ fp' r := fun x hx hk r hr => by
    rcases (hR'.own r x hr).1 with q | q
    · exact hk q
    · dsimp only at q; omega
  have hsz := hR'.frm.size
  dsimp only at hsz
  have hfn : ∀ r x, x ∈ fn r → (x ∈ fp' r) ∨ (x ∈ fp r ∧ fp1 r = []) := by
    intro r x hx
    cases r with
    | cell z i =>
      simp only [fn] at hx
      split at hx
      · exact .inl hx
      · rename_i hz; exact .inr ⟨hx, by simp [fp1, hz]⟩
    | blk z =>
      simp only [fn] at hx
      split at hx
      · exact .inl hx
      · rename_i hz; exact .inr ⟨hx, by simp [fp1, hz]⟩
    | slot t => exact .inl hx
    | bag => exact .inl hx
  have him2 : ∀ x, Im ⟨w, fun x => ∃ r, x ∈ fp1 r, J1, μ, N⟩ w' fp' x → Im ⟨w, fun x => ∃ r, x ∈ fp r, J, μ, N⟩ w' fn x := fun x hx => by
    refine ⟨hx.1, ?_, fun r hr => ?_⟩
    · rcases hx.2.1 with (k | ⟨r2, k⟩) | k
      · rcases k.2.1 with (q | q) | q
        · exact .inl (.inl q)
        · exact .inl (.inr q)
        · exact .inr q
      · exact .inl (.inr ⟨r2, hsub r2 x k⟩)
      · exact .inr k
    · rcases hfn r x hr with q | ⟨q1, q2⟩
      · exact hx.2.2 r q
      · rcases hx.2.1 with (k | k) | k
        · exact k.2.2 r q1
        · exact away r x q1 q2 k
        · have := old r x q1; dsimp only at k; omega
  have him1 : ∀ x, Im ⟨w, fun x => ∃ r, x ∈ fp r, J, μ, N⟩ w fp x → Im ⟨w, fun x => ∃ r, x ∈ fp r, J, μ, N⟩ w' fn x ∧ w'.heap[x]? = w.heap[x]? := fun x hx => by
    have hk : ¬ ∃ r, x ∈ fp1 r := fun ⟨r, hr⟩ => hx.2.2 r (hsub r x hr)
    refine ⟨⟨Nat.lt_of_lt_of_le hx.1 hsz, hx.2.1, fun r hr => ?_⟩, same x hx.1 hk⟩
    rcases hfn r x hr with q | ⟨q1, _⟩
    · exact out x hx.1 hk r q
    · exact hx.2.2 r q1
  refine ⟨fn, N', he, ⟨hR'.len, hR'.dfs, ⟨hR'.frm.os, hR'.frm.tape, hR'.frm.output, hsz, fun x hx hk => same x hx fun ⟨r, hr⟩ => hk ⟨r, hsub r x hr⟩⟩, hR.jk, ?_, ?_, ?_, fun t => ?_, ?_, ?_, ?_, hR'.bT, hR'.bB, ?_, hR'.rn⟩⟩
  · intro r x hx
    rcases hfn r x hx with q | ⟨q1, _⟩
    · have := hR'.own r x q
      refine ⟨?_, this.2⟩
      rcases this.1 with ⟨r2, k⟩ | k
      · exact .inl ⟨r2, hsub r2 x k⟩
      · exact .inr k
    · exact ⟨.inl ⟨r, q1⟩, Nat.lt_of_lt_of_le (old r x q1) hsz⟩
  · intro r
    cases r with
    | cell z i => simp only [fn]; split; exact hR'.nod _; exact hR.nod _
    | blk z => simp only [fn]; split; exact hR'.nod _; exact hR.nod _
    | slot t => exact hR'.nod _
    | bag => exact hR'.nod _
  · intro r r' x hx hy
    rcases hfn r x hx with q | ⟨q1, q2⟩ <;> rcases hfn r' x hy with k | ⟨k1, k2⟩
    · exact hR'.dis r r' x q k
    · exact (out x (old r' x k1) (away r' x k1 k2) r q).elim
    · exact (out x (old r x q1) (away r x q1 q2) r' k).elim
    · exact hR.dis r r' x q1 k1
  · exact Rep.mono (fun x hx => ⟨him2 x hx, rfl⟩) (fun _ _ => rfl) (hR'.tm t)
  · exact RepL.mono (fun x hx => ⟨him2 x hx, rfl⟩) (fun _ _ => rfl) hR'.bg
  · intro z ds hz
    dsimp only at hz
    by_cases e : z = b
    · subst e
      rw [upd_eq] at hz
      rcases hR'.hp z ds (by show one z (cs' c) z = some ds; rw [one_eq]; exact hz) with q | ⟨cells, q1, q2, q3, q4, q5⟩
      · exact .inl ⟨q.1, by simp [fn, q.2.1], by simp [fn, q.2.2]⟩
      · refine .inr ⟨cells, q1, q2, by simp [fn, q3], fun i d hd => ?_, fun i hi => by simp [fn, q5 i hi]⟩
        obtain ⟨u, hu, hr⟩ := q4 i d hd
        have e2 : fn (.cell z i) = fp' (.cell z i) := by simp [fn]
        rw [e2]
        exact ⟨u, hu, Rep.mono (fun x hx => ⟨him2 x hx, rfl⟩) (fun _ _ => rfl) hr⟩
    · rw [upd_ne e] at hz
      have hzN := hR.bH z ds hz
      have hμ : ∀ y, y < N → μ' y = μ y := hR'.rn.2
      rcases hR.hp z ds hz with q | ⟨cells, q1, q2, q3, q4, q5⟩
      · exact .inl ⟨q.1, by simp [fn, e, q.2.1], by simp [fn, e, q.2.2]⟩
      · have hblk : μ z ∈ fp (.blk z) := by rw [q3]; simp
        have hsame : w'.heap[μ z]? = w.heap[μ z]? := same _ (old _ _ hblk) (away (.blk z) _ hblk (by simp [fp1, e]))
        refine .inr ⟨cells, by rw [hμ z hzN.1]; exact q1.mono hsame, q2, by simp [fn, e, q3, hμ z hzN.1], fun i d hd => ?_, fun i hi => by simp [fn, e, q5 i hi]⟩
        obtain ⟨u, hu, hr⟩ := q4 i d hd
        have e2 : fn (.cell z i) = fp (.cell z i) := by simp [fn, e]
        rw [e2]
        refine ⟨u, hu, Rep.ren hμ (bndL_iff.1 hzN.2 d (List.mem_of_getElem? hd)) (Rep.mono (fun x hx => him1 x hx) (fun x hx => ?_) hr)⟩
        exact same x (old _ x hx) (away (.cell z i) x hx (by simp [fp1, e]))
  · intro z hz
    dsimp only at hz
    by_cases e : z = b
    · subst e; rw [upd_eq] at hz; cases hz
    · rw [upd_ne e] at hz
      have := hR.hn z hz
      simp [fn, e, this]
  · intro z ds hz
    dsimp only at hz
    by_cases e : z = b
    · subst e
      rw [upd_eq] at hz
      exact hR'.bH z ds (by show one z (cs' c) z = some ds; rw [one_eq]; exact hz)
    · rw [upd_ne e] at hz
      have := hR.bH z ds hz
      exact ⟨Nat.lt_of_lt_of_le this.1 hR'.rn.1, this.2.mono hR'.rn.1⟩
/-- What a call does without named blocks it does with them: they stand aside. -/
theorem SpecR.frame0 {f : FuncId} {args : List D} {r : Any → D} (h : SpecR P f args (fun _ => none) fun c => (r c, fun _ => none)) {H : Hp} :
    SpecR P f args H fun c => (r c, H) := by
  intro w J vs μ fp N hR
  let fp1 : Root → List Nat := fun r => match r with
    | .cell z i => []
    | .blk z => []
    | r => fp r
  have hor : ∀ r, fp1 r = fp r ∨ fp1 r = [] := fun r => by
    cases r with
    | cell z i => exact .inr rfl
    | blk z => exact .inr rfl
    | slot t => exact .inl rfl
    | bag => exact .inl rfl
  have hm : Moves fp fp1 := .drop hR.nod hR.dis hor
  have hsub : ∀ r x, x ∈ fp1 r → x ∈ fp r := fun r x hx => by
    rcases hor r with e | e
    · rwa [e] at hx
    · rw [e] at hx; cases hx
  let J1 : Nat → Prop := fun x => Im ⟨w, fun x => ∃ r, x ∈ fp r, J, μ, N⟩ w fp x
  have him : ∀ x, Im ⟨w, fun x => ∃ r, x ∈ fp r, J, μ, N⟩ w fp x → Im ⟨w, fun x => ∃ r, x ∈ fp1 r, J1, μ, N⟩ w fp1 x := fun x hx => ⟨hx.1, .inl (.inl hx), fun r hr => hx.2.2 r (hsub r x hr)⟩
  have hR1 : R ⟨w, fun x => ∃ r, x ∈ fp1 r, J1, μ, N⟩ args.length ⟨ofArgs args, fun _ => none⟩ [] [] ⟨vs.toArray, []⟩ w μ fp1 N := by
    refine ⟨hR.len, hR.dfs, Frm.refl _ _, fun x hx => ⟨hx.1, fun ⟨r, hr⟩ => hx.2.2 r (hsub r x hr)⟩, fun r x hx => ⟨.inl ⟨r, hx⟩, (hR.own r x (hsub r x hx)).2⟩, hm.nod, hm.dis, fun t => ?_, ?_, ?_, ?_, hR.bT, hR.bB, ?_, ⟨Nat.le_refl _, fun _ _ => rfl⟩⟩
    · exact Rep.mono (fun x hx => ⟨him x hx, rfl⟩) (fun _ _ => rfl) (hR.tm t)
    · exact RepL.mono (fun x hx => ⟨him x hx, rfl⟩) (fun _ _ => rfl) hR.bg
    · intro z ds hz; cases hz
    · intro z hz; exact ⟨rfl, fun _ => rfl⟩
    · intro z ds hz; cases hz
  refine (h w J1 vs μ fp1 N hR1).mono fun e w' ⟨c, v, μ', fp', N', he, hR'⟩ => ⟨c, v, μ', ?_⟩
  let fn : Root → List Nat := fun r => match r with
    | .cell z i => fp (.cell z i)
    | .blk z => fp (.blk z)
    | r => fp' r
  have old : ∀ r x, x ∈ fp r → x < w.heap.size := fun r x hx => (hR.own r x hx).2
  have away : ∀ r x, x ∈ fp r → fp1 r = [] → (¬ ∃ r', x ∈ fp1 r') := fun r x hx he ⟨r', hr'⟩ => by
    have := hR.dis r r' x hx (hsub r' x hr')
    subst this; rw [he] at hr'; cases hr'
  have same : ∀ x, x < w.heap.size → (¬ ∃ r, x ∈ fp1 r) → w'.heap[x]? = w.heap[x]? := fun x hx hk => hR'.frm.same x hx hk
  have out : ∀ x, x < w.heap.size → (¬ ∃ r, x ∈ fp1 r) → ∀ r, x ∉ fp' r := fun x hx hk r hr => by
    rcases (hR'.own r x hr).1 with q | q
    · exact hk q
    · dsimp only at q; omega
  have hsz := hR'.frm.size
  dsimp only at hsz
  have hfn : ∀ r x, x ∈ fn r → (x ∈ fp' r) ∨ (x ∈ fp r ∧ fp1 r = []) := by
    intro r x hx
    cases r with
    | cell z i => exact .inr ⟨hx, rfl⟩
    | blk z => exact .inr ⟨hx, rfl⟩
    | slot t => exact .inl hx
    | bag => exact .inl hx
  have him2 : ∀ x, Im ⟨w, fun x => ∃ r, x ∈ fp1 r, J1, μ, N⟩ w' fp' x → Im ⟨w, fun x => ∃ r, x ∈ fp r, J, μ, N⟩ w' fn x := fun x hx => by
    refine ⟨hx.1, ?_, fun r hr => ?_⟩
    · rcases hx.2.1 with (k | ⟨r2, k⟩) | k
      · rcases k.2.1 with (q | q) | q
        · exact .inl (.inl q)
        · exact .inl (.inr q)
        · exact .inr q
      · exact .inl (.inr ⟨r2, hsub r2 x k⟩)
      · exact .inr k
    · rcases hfn r x hr with q | ⟨q1, q2⟩
      · exact hx.2.2 r q
      · rcases hx.2.1 with (k | k) | k
        · exact k.2.2 r q1
        · exact away r x q1 q2 k
        · have := old r x q1; dsimp only at k; omega
  have him1 : ∀ x, Im ⟨w, fun x => ∃ r, x ∈ fp r, J, μ, N⟩ w fp x → Im ⟨w, fun x => ∃ r, x ∈ fp r, J, μ, N⟩ w' fn x ∧ w'.heap[x]? = w.heap[x]? := fun x hx => by
    have hk : ¬ ∃ r, x ∈ fp1 r := fun ⟨r, hr⟩ => hx.2.2 r (hsub r x hr)
    refine ⟨⟨Nat.lt_of_lt_of_le hx.1 hsz, hx.2.1, fun r hr => ?_⟩, same x hx.1 hk⟩
    rcases hfn r x hr with q | ⟨q1, _⟩
    · exact out x hx.1 hk r q
    · exact hx.2.2 r q1
  refine ⟨fn, N', he, ⟨hR'.len, hR'.dfs, ⟨hR'.frm.os, hR'.frm.tape, hR'.frm.output, hsz, fun x hx hk => same x hx fun ⟨r, hr⟩ => hk ⟨r, hsub r x hr⟩⟩, hR.jk, ?_, ?_, ?_, fun t => ?_, ?_, ?_, ?_, hR'.bT, hR'.bB, ?_, hR'.rn⟩⟩
  · intro r x hx
    rcases hfn r x hx with q | ⟨q1, _⟩
    · have := hR'.own r x q
      refine ⟨?_, this.2⟩
      rcases this.1 with ⟨r2, k⟩ | k
      · exact .inl ⟨r2, hsub r2 x k⟩
      · exact .inr k
    · exact ⟨.inl ⟨r, q1⟩, Nat.lt_of_lt_of_le (old r x q1) hsz⟩
  · intro r
    cases r with
    | cell z i => exact hR.nod _
    | blk z => exact hR.nod _
    | slot t => exact hR'.nod _
    | bag => exact hR'.nod _
  · intro r r' x hx hy
    rcases hfn r x hx with q | ⟨q1, q2⟩ <;> rcases hfn r' x hy with k | ⟨k1, k2⟩
    · exact hR'.dis r r' x q k
    · exact (out x (old r' x k1) (away r' x k1 k2) r q).elim
    · exact (out x (old r x q1) (away r x q1 q2) r' k).elim
    · exact hR.dis r r' x q1 k1
  · exact Rep.mono (fun x hx => ⟨him2 x hx, rfl⟩) (fun _ _ => rfl) (hR'.tm t)
  · exact RepL.mono (fun x hx => ⟨him2 x hx, rfl⟩) (fun _ _ => rfl) hR'.bg
  · intro z ds hz
    dsimp only at hz
    have hzN := hR.bH z ds hz
    have hμ : ∀ y, y < N → μ' y = μ y := hR'.rn.2
    rcases hR.hp z ds hz with q | ⟨cells, q1, q2, q3, q4, q5⟩
    · exact .inl ⟨q.1, q.2.1, q.2.2⟩
    · have hblk : μ z ∈ fp (.blk z) := by rw [q3]; simp
      have hsame : w'.heap[μ z]? = w.heap[μ z]? := same _ (old _ _ hblk) (away (.blk z) _ hblk rfl)
      refine .inr ⟨cells, by rw [hμ z hzN.1]; exact q1.mono hsame, q2, by show fp (.blk z) = _; rw [q3, hμ z hzN.1], fun i d hd => ?_, fun i hi => q5 i hi⟩
      obtain ⟨u, hu, hr⟩ := q4 i d hd
      have e2 : fn (.cell z i) = fp (.cell z i) := rfl
      rw [e2]
      refine ⟨u, hu, Rep.ren hμ (bndL_iff.1 hzN.2 d (List.mem_of_getElem? hd)) (Rep.mono (fun x hx => him1 x hx) (fun x hx => ?_) hr)⟩
      exact same x (old _ x hx) (away (.cell z i) x hx rfl)
  · intro z hz; exact hR.hn z hz
  · intro z ds hz
    have := hR.bH z ds hz
    exact ⟨Nat.lt_of_lt_of_le this.1 hR'.rn.1, this.2.mono hR'.rn.1⟩
/-- The result is data. -/
theorem SpecR.shut {f : FuncId} {args : List D} {H : Hp} {G : Any → D × Hp} (h : SpecR P f args H G) : SpecR P f args H fun c => (dat (G c).1, (G c).2) := by
  intro w J vs μ fp N hR
  refine (h w J vs μ fp N hR).mono fun e w' ⟨c, v, μ', fp', N', he, hR'⟩ => ⟨c, v, μ', ?_⟩
  have hm : Moves fp' (fset fp' (.slot 0) []) := .drop hR'.nod hR'.dis fun r => by
    by_cases e : r = .slot 0
    · subst e; exact .inr (fset_eq ..)
    · exact .inl (fset_ne e)
  have hd : ∀ t, ofArgs [dat (G c).1] t = if t = 0 then dat (G c).1 else .any := fun t => by cases t <;> rfl
  have hd0 : ∀ t, ofArgs [(G c).1] t = if t = 0 then (G c).1 else .any := fun t => by cases t <;> rfl
  refine ⟨_, N', he, ⟨hR'.len, hR'.dfs, hR'.frm, hR'.jk, hR'.own' hm, hm.nod, hm.dis, fun t => ?_, ?_, ?_, ?_, fun t => ?_, hR'.bB, hR'.bH, hR'.rn⟩⟩
  · have ht := hR'.tm t
    dsimp only at ht ⊢
    rw [hd0] at ht
    rw [hd]
    by_cases e : t = 0
    · subst e
      rw [if_pos rfl] at ht
      rw [if_pos rfl, fset_eq]
      refine Rep.dat (fun b hb => hb.sub hm.sub) (fun b hb => ?_) ht
      have ho := hR'.own _ b hb
      refine ⟨ho.2, ?_, fun r hr => ?_⟩
      · rcases ho.1 with q | q
        · exact .inl (.inr q)
        · exact .inr q
      · by_cases e : r = .slot 0
        · subst e; rw [fset_eq] at hr; cases hr
        · rw [fset_ne e] at hr; exact e (hR'.dis _ _ b hr hb)
    · rw [if_neg e] at ht
      rw [if_neg e, fset_ne (by simp [e])]
      exact ht.sub hm.sub
  · rw [fset_ne (by simp)]; exact hR'.bg.sub hm.sub
  · intro b cs hc; exact (hR'.hp b cs hc).sub hm.sub (by simp [fset]) (by simp [fset])
  · intro b hb; have := hR'.hn b hb; simp [fset, this]
  · have := hR'.bT t
    dsimp only at this ⊢
    rw [hd0] at this
    rw [hd]
    split
    · rename_i e; rw [if_pos e] at this; exact bnd_dat this
    · simp [bnd]
/-- What is drawn and where the source then stands. -/
noncomputable def dsel {α : Type} (good : α → Prop) (x0 : α) (K p : Int) (c : Any) : α × Int := sel (fun x : α × Int => good x.1 ∧ p ≤ x.2 ∧ x.2 ≤ p + K) (x0, p) c
theorem dsel_ok {α : Type} {good : α → Prop} {x0 : α} (h0 : good x0) {K p : Int} (hK : 0 ≤ K) (c : Any) : good (dsel good x0 K p c).1 ∧ p ≤ (dsel good x0 K p c).2 ∧ (dsel good x0 K p c).2 ≤ p + K :=
  sel_ok (p := fun x : α × Int => good x.1 ∧ p ≤ x.2 ∧ x.2 ≤ p + K) ⟨h0, Int.le_refl _, by show p ≤ p + K; omega⟩ c
/-- How the walk of a function that draws ends. -/
theorem ret_draw {fn : Func} {e : Exit} {S : St} {α : Type} {good : α → Prop} {x0 : α} {K p : Int} {enc : α → D} {b : Nat} {cells : Int → List D} (x : α) (p' : Int) (he : e = .ret ∨ e = .normal)
    (h1 : (takeRes P S fn.results.toList).1 ∧ resD (takeRes P S fn.results.toList).2.1 = enc x ∧ (takeRes P S fn.results.toList).2.2.H b = some (cells p')) (hg : good x) (h2 : p ≤ p' ∧ p' ≤ p + K) :
    retR P fn (fun c => (enc (dsel good x0 K p c).1, one b (cells (dsel good x0 K p c).2))) e S := by
  have hs : dsel good x0 K p ⟨α × Int, (x, p')⟩ = (x, p') := sel_at (p := fun x : α × Int => good x.1 ∧ p ≤ x.2 ∧ x.2 ≤ p + K) ⟨hg, h2.1, h2.2⟩
  have key : ∃ c : Any, (takeRes P S fn.results.toList).1 ∧ resD (takeRes P S fn.results.toList).2.1 = enc (dsel good x0 K p c).1 ∧ ∀ z cs, one b (cells (dsel good x0 K p c).2) z = some cs → (takeRes P S fn.results.toList).2.2.H z = some cs := by
    refine ⟨⟨α × Int, (x, p')⟩, h1.1, by rw [hs]; exact h1.2.1, fun z cs hz => ?_⟩
    rw [hs] at hz
    obtain ⟨rfl, rfl⟩ := one_some hz
    exact h1.2.2
  rcases he with rfl | rfl
  · exact key
  · exact key
/-- How the walk of a pure function with one of many results ends. -/
theorem ret_prel {fn : Func} {e : Exit} {S : St} {α : Type} {good : α → Prop} {x0 : α} {enc : α → D} (x : α) (he : e = .ret ∨ e = .normal)
    (h1 : (takeRes P S fn.results.toList).1 ∧ resD (takeRes P S fn.results.toList).2.1 = enc x) (hg : good x) :
    retR P fn (fun c => (enc (sel good x0 c), fun _ => none)) e S := by
  have key : ∃ c : Any, (takeRes P S fn.results.toList).1 ∧ resD (takeRes P S fn.results.toList).2.1 = enc (sel good x0 c) ∧ ∀ z cs, (fun _ => none : Hp) z = some cs → (takeRes P S fn.results.toList).2.2.H z = some cs :=
    ⟨⟨α, x⟩, h1.1, by rw [sel_at hg]; exact h1.2, fun z cs hz => by cases hz⟩
  rcases he with rfl | rfl
  · exact key
  · exact key
end
end Go.Proofs.Ytljncoikoffijaa.Vm

