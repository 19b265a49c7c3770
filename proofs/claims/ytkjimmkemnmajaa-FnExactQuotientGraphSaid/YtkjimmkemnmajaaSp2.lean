/-
  spec.l4Path, slices.Reverse. No conditions.
-/
import Derived.Test.YtkjimmkemnmajaaSp1
namespace Go.Proofs.Ytkjimmkemnmajaa.Vm
open Go
open List renaming getD_eq_getElem?_getD → zg,drop_one → zd
noncomputable section
set_option linter.unusedVariables false
set_option linter.unusedSimpArgs false
set_option maxRecDepth 200000

theorem Bf.first {n:Nat} {a:Int} {s:PQ} (h:Bf n [a] s):nth s.2 0 = a ∧ 1 ≤ s.2.length:=⟨h.root_at (m:=0) (by simp),by have:=h.al;simpa using this⟩
structure PB where
  m:Nat
  o:List Int
@[go_sem] def Γs2:FuncId → Con:=Γs1
theorem Γs2_ok:∀ g,ConOk Try.prog g (Γs2 g):=Γs1_ok

def rv (xs:List Int) (i:Nat):List Int:=(List.range xs.length).map fun t=>if t < i ∨ xs.length ≤ t + i then nth xs (xs.length - 1 - t) else nth xs t
@[go_sem] theorem rv_len (xs:List Int) (i:Nat):(rv xs i).length = xs.length:=by simp [rv]
theorem nth_rv {xs:List Int} {i t:Nat} (h:t < xs.length):nth (rv xs i) t = if t < i ∨ xs.length ≤ t + i then nth xs (xs.length - 1 - t) else nth xs t:=by
  rw [Qt (by rw [rv_len];exact h)];simp [rv]
theorem rv_zero (xs:List Int):rv xs 0 = xs:=by
  apply List.ext_getElem (rv_len ..)
  intro t h1 h2
  rw [← Qt h1,← Qt h2,nth_rv h2,if_neg (by omega)]
theorem rv_end {xs:List Int} {i:Nat} (h:xs.length ≤ 2 * i + 1):rv xs i = xs.reverse:=by
  apply List.ext_getElem (by simp [rv])
  intro t h1 h2
  rw [List.length_reverse] at h2
  rw [← Qt h1,nth_rv h2,List.getElem_reverse,← Qt]
  split
  · rfl
  · congr 1;omega
theorem rv_step {xs:List Int} {i:Nat} (h:2 * i + 1 < xs.length):((rv xs i).set i (nth (rv xs i) (xs.length - 1 - i))).set (xs.length - 1 - i) (nth (rv xs i) i) = rv xs (i + 1):=by
  apply List.ext_getElem (by simp [rv])
  intro t h1 h2
  rw [rv_len] at h2
  rw [← Qt h1]
  rw [show (rv xs (i + 1))[t] = nth (rv xs (i + 1)) t from (Qt (by rw [rv_len];exact h2)).symm]
  rw [nth_rv h2]
  by_cases e1:xs.length - 1 - i = t
  · subst e1
    rw [zaae (by rw [List.length_set,rv_len];omega),nth_rv (by omega),if_neg (by omega),if_pos (by omega)]
    congr 1;omega
  · rw [zaax e1]
    by_cases e2:i = t
    · subst e2
      rw [zaae (by rw [rv_len];omega),nth_rv (by omega),if_neg (by omega),if_pos (by omega)]
    · rw [zaax e2,nth_rv h2]
      by_cases e3:t < i ∨ xs.length ≤ t + i
      · rw [if_pos e3,if_pos (by omega)]
      · rw [if_neg e3,if_neg (by omega)]
set_option maxHeartbeats 1000000 in
theorem reverse_spec (xs:List Int) (b cp:Nat) (junk:List D) (H:Hp) (hH:H b = some (cat cI xs ++ junk)) (h1:xs.length ≤ 1099511627776) :
    Spec Try.prog 206 [.sl b 1 0 xs.length cp] H (.tup []) (upd H b (some (cat cI xs.reverse ++ junk))):=by
  refine Spec.of_walk Try.func206 rfl (by simp [Try.f206]) fun B=>?_
  (repeat' (first
 | refine Qr ?_
 | refine Qc (id:=0) Γs2_ok [] (by kernel_rfl) ?_;simp [-zg,-zd,↓Qb,↓Qa,go_sem,Zv (x:=(xs.length:Int) - 1) (by omega) (by omega)]
 | refine Qc (id:=1) Γs2_ok [] (by kernel_rfl) ?_;simp [-zg,-zd,↓Qb,↓Qa,go_sem]
 | ((have c2:2 * i + 1 < xs.length:=(by omega));(have ci:i < xs.length:=(by omega));(have cj:xs.length - 1 - i < xs.length:=(by omega));(have ej:((xs.length:Int) - 1 - i).toNat = xs.length - 1 - i:=(by omega));(have hst:=rv_step c2);(have hij:(xs.length:Int) - 1 - (i:Int) - 1 = (xs.length:Int) - 1 - ((i + 1:Nat):Int):=(by omega)));refine Xw (id:=3) Γs2_ok mixed [] [0,3,2] (by kernel_rfl) (by kernel_rfl) (by simp [-zg,-zd,↓Qb,↓Qa,go_sem,ej,ci,cj,rv_len,(show 0 ≤ (xs.length:Int) - 1 - i by omega),(show (i:Int) ≤ (xs.length:Int) - 1 by omega),(show (xs.length:Int) - 1 - i < xs.length by omega),(show i < xs.length + junk.length by omega),(show i + 1 ≤ xs.length + junk.length by omega),(show xs.length - 1 - i < xs.length + junk.length by omega),(show xs.length - 1 - i + 1 ≤ xs.length + junk.length by omega),hst]) ?_;simp [-zg,-zd,↓Qb,↓Qa,go_sem,ej,ci,cj,rv_len,(show 0 ≤ (xs.length:Int) - 1 - i by omega),(show (i:Int) ≤ (xs.length:Int) - 1 by omega),(show (xs.length:Int) - 1 - i < xs.length by omega),(show i < xs.length + junk.length by omega),(show i + 1 ≤ xs.length + junk.length by omega),(show xs.length - 1 - i < xs.length + junk.length by omega),(show xs.length - 1 - i + 1 ≤ xs.length + junk.length by omega),hst]
 | refine Qc (id:=2) Γs2_ok [] (by kernel_rfl) ?_;simp [-zg,-zd,↓Qb,↓Qa,go_sem,wrapS (k:=i) (by omega),Zv (x:=(xs.length:Int) - 1 - i - 1) (by omega) (by omega)]
 | refine Qe (c:=.tmp 9) ?_;simp [-zg,-zd,↓Qb,↓Qa,go_sem];try first | (refine ⟨?_,?_⟩ <;> refine zA ?_) | (refine ⟨fun c9=>?_,fun c9=>?_⟩ <;> (try simp [B_iff,B_not] at c9))
 | (refine Qf (id:=0) (Xa (ι:=Nat) (fun i:Nat=>⟨(upd (upd (upd (fun _=>.any) 0 (.sl b 1 0 xs.length cp)) 2 (.int .i64 i)) 3 (.int .i64 ((xs.length:Int) - 1 - i))),upd H b (some (cat cI (rv xs i) ++ junk))⟩) (fun i=>i ≤ xs.length) (fun i=>xs.length - i) (0) ?_ ?_ ?_);exact Nat.zero_le _;((repeat' (first | exact Qi (by assumption) | exact Qk | refine Ql ?_ ?_ | refine Qj ?_)) <;> simp [-zg,-zd,↓Qb,↓Qa,go_sem,rv_zero,Zs hH]);rintro i hi)
 | (refine ⟨i + 1,by omega,by first | omega | (simp;done) | (simp;omega),?_⟩;((repeat' (first | exact Qi (by assumption) | exact Qk | refine Ql ?_ ?_ | refine Qj ?_)) <;> simp [-zg,-zd,↓Qb,↓Qa,go_sem,hij,wrapS (k:=i) (by omega)]))
 | (refine Qf ?_)
 | (refine Qp ?_;simp [-zg,-zd,↓Qb,↓Qa,go_sem])
 | (refine Qo ?_;simp [-zg,-zd,↓Qb,↓Qa,go_sem])
 | (refine Qs ?_;simp [-zg,-zd,↓Qb,↓Qa,go_sem,Try.results206])
 | (intro hx;refine zA ?_)
 | (refine ⟨?_,?_⟩ <;> refine zA ?_)
 | (intro hx;constructor <;> intro hs)
 | (constructor <;> intro hs)
 | (refine ⟨?_,fun hs=>?_⟩;refine zA ?_)
 | (refine ⟨fun hs=>?_,?_⟩;rotate_left;refine zA ?_;rotate_left)))
  all_goals (first
 | (rw [rv_end (by omega)];exact ⟨rfl,fun _ _ h=>h⟩)
 | (rw [rv_end (by omega)];exact fun _ _ h=>h)
 | skip)
@[go_sem] def reverseC:Con:=.gen fun args H=>match args with
  | [.sl b 1 0 n _]=>match H b with
    | some all=>(n ≤ all.length ∧ Is cI n (all.take n) ∧ n ≤ 1099511627776,.tup [],upd H b (some (cat cI (de cI (all.take n)).reverse ++ all.drop n)))
    | none=>(False,.any,H)
  | _=>(False,.any,H)
theorem reverseC_ok:ConOk Try.prog 206 reverseC:=by
  refine ⟨Qm Try.func206 (by decide) rfl,fun args H h=>?_⟩
  revert h
  dsimp only
  split
  · rename_i b n cp
    split
    · rename_i all hH
      rintro ⟨g1,⟨xs,hn,he⟩,g2⟩
      subst hn
      have:all = cat cI xs ++ all.drop xs.length:=by rw [← he,List.take_append_drop]
      rw [this] at hH
      have:=reverse_spec xs b cp _ H hH g2
      rw [he,Qu]
      exact this
    · intro h;exact h.elim
  · intro h
    exact h.elim
@[go_sem] def Γs3:FuncId → Con:=ext Γs2 206 reverseC
theorem Γs3_ok:∀ g,ConOk Try.prog g (Γs3 g):=Qq Γs2_ok reverseC_ok

@[go_sem] def Γs4:FuncId → Con:=Γs3
theorem Γs4_ok:∀ g,ConOk Try.prog g (Γs4 g):=Γs3_ok
end
end Go.Proofs.Ytkjimmkemnmajaa.Vm

