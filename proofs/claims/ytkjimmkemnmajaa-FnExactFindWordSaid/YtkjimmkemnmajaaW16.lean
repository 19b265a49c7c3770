import Derived.Test.YtkjimmkemnmajaaB2
import Derived.Test.YtkjimmkemnmajaaQ1
/-
  spec.l4Search: breadth-first search with what is met apart. No conditions.
-/
namespace Go.Proofs.Ytkjimmkemnmajaa.Vm
open Go
open List renaming getD_eq_getElem?_getD → zg,drop_one → zd
noncomputable section
set_option linter.unusedVariables false
set_option linter.unusedSimpArgs false
set_option maxRecDepth 200000

def pmP (P:List Int):List Int:=P.map fun x=>if x < 0 then -1 else x
def smP (P:List Int):List Bool:=P.map fun x=>!decide (x = -2)
@[go_sem] theorem pmP_len (P:List Int):(pmP P).length = P.length:=by simp [pmP]
@[go_sem] theorem smP_len (P:List Int):(smP P).length = P.length:=by simp [smP]
theorem nth_smP {P:List Int} {k:Nat} (h:k < P.length):nth (smP P) k = !decide (nth P k = -2):=by
  rw [Qm (by rw [smP_len];exact h),Qm h];simp [smP]
theorem smP_set (P:List Int) (k:Nat) {v:Int} (h:¬ v = -2):(smP P).set k true = smP (P.set k v):=by
  unfold smP;rw [List.map_set];congr 1;simp [h]
structure QMem (b6 b7:Nat) (j6 j7:List D) (x:SQ):Prop where
  m6:x.H b6 = some (cat cI (pmP x.s.1) ++ j6)
  m7:x.H b7 = some (cat cB (smP x.s.1) ++ j7)
  mq:x.H x.q = some (cat cI x.s.2 ++ List.replicate x.j .any)
  n6:¬ x.q = b6
  n7:¬ x.q = b7
  r1:x.s.2.length ≤ x.cp
  r2:x.cp ≤ x.s.2.length + x.j

theorem rep_snoc (k:Nat):cat cI (List.replicate k (-1:Int)) ++ [.int .i64 (-1)] = cat cI (List.replicate (k + 1) (-1)):=by rw [Zv,List.replicate_succ']
@[go_sem] def Γs1:FuncId → Con:=Γg17
theorem Γs1_ok:∀ g,ConOk Try.prog g (Γs1 g):=Γg17_ok

theorem Bf.first {n:Nat} {a:Int} {s:PQ} (h:Bf n [a] s):nth s.2 0 = a ∧ 1 ≤ s.2.length:=⟨h.root_at (m:=0) (by simp),by have:=h.al;simpa using this⟩
structure PB where
  m:Nat
  o:List Int
@[go_sem] def Γs2:FuncId → Con:=Γs1
theorem Γs2_ok:∀ g,ConOk Try.prog g (Γs2 g):=Γs1_ok

def rv (xs:List Int) (i:Nat):List Int:=(List.range xs.length).map fun t=>if t < i ∨ xs.length ≤ t + i then nth xs (xs.length - 1 - t) else nth xs t
@[go_sem] theorem rv_len (xs:List Int) (i:Nat):(rv xs i).length = xs.length:=by simp [rv]
theorem nth_rv {xs:List Int} {i t:Nat} (h:t < xs.length):nth (rv xs i) t = if t < i ∨ xs.length ≤ t + i then nth xs (xs.length - 1 - t) else nth xs t:=by
  rw [Qm (by rw [rv_len];exact h)];simp [rv]
theorem rv_zero (xs:List Int):rv xs 0 = xs:=by
  apply List.ext_getElem (rv_len ..)
  intro t h1 h2
  rw [← Qm h1,← Qm h2,nth_rv h2,if_neg (by omega)]
theorem rv_end {xs:List Int} {i:Nat} (h:xs.length ≤ 2 * i + 1):rv xs i = xs.reverse:=by
  apply List.ext_getElem (by simp [rv])
  intro t h1 h2
  rw [List.length_reverse] at h2
  rw [← Qm h1,nth_rv h2,List.getElem_reverse,← Qm]
  split
  · rfl
  · congr 1;omega
theorem rv_step {xs:List Int} {i:Nat} (h:2 * i + 1 < xs.length):((rv xs i).set i (nth (rv xs i) (xs.length - 1 - i))).set (xs.length - 1 - i) (nth (rv xs i) i) = rv xs (i + 1):=by
  apply List.ext_getElem (by simp [rv])
  intro t h1 h2
  rw [rv_len] at h2
  rw [← Qm h1]
  rw [show (rv xs (i + 1))[t] = nth (rv xs (i + 1)) t from (Qm (by rw [rv_len];exact h2)).symm]
  rw [nth_rv h2]
  by_cases e1:xs.length - 1 - i = t
  · subst e1
    rw [Zm (by rw [List.length_set,rv_len];omega),nth_rv (by omega),if_neg (by omega),if_pos (by omega)]
    congr 1;omega
  · rw [Za e1]
    by_cases e2:i = t
    · subst e2
      rw [Zm (by rw [rv_len];omega),nth_rv (by omega),if_neg (by omega),if_pos (by omega)]
    · rw [Za e2,nth_rv h2]
      by_cases e3:t < i ∨ xs.length ≤ t + i
      · rw [if_pos e3,if_pos (by omega)]
      · rw [if_neg e3,if_neg (by omega)]
set_option maxHeartbeats 1000000 in
theorem reverse_spec (xs:List Int) (b cp:Nat) (junk:List D) (H:Hp) (hH:H b = some (cat cI xs ++ junk)) (h1:xs.length ≤ 1099511627776) :
    Spec Try.prog 206 [.sl b 1 0 xs.length cp] H (.tup []) (upd H b (some (cat cI xs.reverse ++ junk))):=by
  refine Spec.of_walk Try.func206 rfl (by simp [Try.f206]) fun B=>?_
  (repeat' (first
 | refine Qq ?_
 | refine Qc (id:=0) Γs2_ok [] (by kernel_rfl) ?_;simp [-zg,-zd,↓Qb,↓Qa,go_sem,Xj (x:=(xs.length:Int) - 1) (by omega) (by omega)]
 | refine Qc (id:=1) Γs2_ok [] (by kernel_rfl) ?_;simp [-zg,-zd,↓Qb,↓Qa,go_sem]
 | ((have c2:2 * i + 1 < xs.length:=(by omega));(have ci:i < xs.length:=(by omega));(have cj:xs.length - 1 - i < xs.length:=(by omega));(have ej:((xs.length:Int) - 1 - i).toNat = xs.length - 1 - i:=(by omega));(have hst:=rv_step c2);(have hij:(xs.length:Int) - 1 - (i:Int) - 1 = (xs.length:Int) - 1 - ((i + 1:Nat):Int):=(by omega)));refine Xp (id:=3) Γs2_ok mixed [] [0,3,2] (by kernel_rfl) (by kernel_rfl) (by simp [-zg,-zd,↓Qb,↓Qa,go_sem,ej,ci,cj,rv_len,(show 0 ≤ (xs.length:Int) - 1 - i by omega),(show (i:Int) ≤ (xs.length:Int) - 1 by omega),(show (xs.length:Int) - 1 - i < xs.length by omega),(show i < xs.length + junk.length by omega),(show i + 1 ≤ xs.length + junk.length by omega),(show xs.length - 1 - i < xs.length + junk.length by omega),(show xs.length - 1 - i + 1 ≤ xs.length + junk.length by omega),hst]) ?_;simp [-zg,-zd,↓Qb,↓Qa,go_sem,ej,ci,cj,rv_len,(show 0 ≤ (xs.length:Int) - 1 - i by omega),(show (i:Int) ≤ (xs.length:Int) - 1 by omega),(show (xs.length:Int) - 1 - i < xs.length by omega),(show i < xs.length + junk.length by omega),(show i + 1 ≤ xs.length + junk.length by omega),(show xs.length - 1 - i < xs.length + junk.length by omega),(show xs.length - 1 - i + 1 ≤ xs.length + junk.length by omega),hst]
 | refine Qc (id:=2) Γs2_ok [] (by kernel_rfl) ?_;simp [-zg,-zd,↓Qb,↓Qa,go_sem,wrapS (k:=i) (by omega),Xj (x:=(xs.length:Int) - 1 - i - 1) (by omega) (by omega)]
 | refine Qd (c:=.tmp 9) ?_;simp [-zg,-zd,↓Qb,↓Qa,go_sem];try first | (refine ⟨?_,?_⟩ <;> refine zA ?_) | (refine ⟨fun c9=>?_,fun c9=>?_⟩ <;> (try simp [B_iff,B_not] at c9))
 | (refine Qf (id:=0) (Qv (ι:=Nat) (fun i:Nat=>⟨(upd (upd (upd (fun _=>.any) 0 (.sl b 1 0 xs.length cp)) 2 (.int .i64 i)) 3 (.int .i64 ((xs.length:Int) - 1 - i))),upd H b (some (cat cI (rv xs i) ++ junk))⟩) (fun i=>i ≤ xs.length) (fun i=>xs.length - i) (0) ?_ ?_ ?_);exact Nat.zero_le _;((repeat' (first | exact Qg (by assumption) | exact Qi | refine Qj ?_ ?_ | refine Qh ?_)) <;> simp [-zg,-zd,↓Qb,↓Qa,go_sem,rv_zero,Js hH]);rintro i hi)
 | (refine ⟨i + 1,by omega,by first | omega | (simp;done) | (simp;omega),?_⟩;((repeat' (first | exact Qg (by assumption) | exact Qi | refine Qj ?_ ?_ | refine Qh ?_)) <;> simp [-zg,-zd,↓Qb,↓Qa,go_sem,hij,wrapS (k:=i) (by omega)]))
 | (refine Qf ?_)
 | (refine Qo ?_;simp [-zg,-zd,↓Qb,↓Qa,go_sem])
 | (refine Qn ?_;simp [-zg,-zd,↓Qb,↓Qa,go_sem])
 | (refine Qr ?_;simp [-zg,-zd,↓Qb,↓Qa,go_sem,Try.results206])
 | (intro hx;refine zA ?_)
 | (refine ⟨?_,?_⟩ <;> refine zA ?_)
 | (intro hx;constructor <;> intro hs)
 | (constructor <;> intro hs)
 | (refine ⟨?_,fun hs=>?_⟩;refine zA ?_)
 | (refine ⟨fun hs=>?_,?_⟩;rotate_left;refine zA ?_;rotate_left)))
  all_goals (first
 | (rw [rv_end (by omega)];exact ⟨rfl,fun _ _ h=>h⟩)
 | (rw [rv_end (by omega)];exact fun _ _ h=>h)
 | skip)
@[go_sem] def reverseC:Con:=.gen fun args H=>match args with
  | [.sl b 1 0 n _]=>match H b with
    | some all=>(n ≤ all.length ∧ Is cI n (all.take n) ∧ n ≤ 1099511627776,.tup [],upd H b (some (cat cI (de cI (all.take n)).reverse ++ all.drop n)))
    | none=>(False,.any,H)
  | _=>(False,.any,H)
theorem reverseC_ok:ConOk Try.prog 206 reverseC:=by
  refine ⟨Qs Try.func206 (by decide) rfl,fun args H h=>?_⟩
  revert h
  dsimp only
  split
  · rename_i b n cp
    split
    · rename_i all hH
      rintro ⟨g1,⟨xs,hn,he⟩,g2⟩
      subst hn
      have:all = cat cI xs ++ all.drop xs.length:=by rw [← he,List.take_append_drop]
      rw [this] at hH
      have:=reverse_spec xs b cp _ H hH g2
      rw [he,Qw]
      exact this
    · intro h;exact h.elim
  · intro h
    exact h.elim
@[go_sem] def Γs3:FuncId → Con:=ext Γs2 206 reverseC
theorem Γs3_ok:∀ g,ConOk Try.prog g (Γs3 g):=Qp Γs2_ok reverseC_ok

@[go_sem] def Γs4:FuncId → Con:=Γs3
theorem Γs4_ok:∀ g,ConOk Try.prog g (Γs4 g):=Γs3_ok

@[go_sem] def Γs5:FuncId → Con:=Γs4
theorem Γs5_ok:∀ g,ConOk Try.prog g (Γs5 g):=Γs4_ok

theorem GraphOk.next {a:List Ints2} {b:List (List Int)} (h:GraphOk a b):Qz b ∧ NextS b ∧ b.length = a.length ∧ a.length ≤ 60 ∧ b.length ≤ 1048576:=by
  obtain ⟨g1,g2,g3,g4,g5⟩:=h
  refine ⟨fun j hj k hk=>?_,fun j hj=>?_,g3,g2,by omega⟩
  · have:=(g5 j hj).2 k hk
    omega
  · have:=(g5 j hj).2.len
    omega
@[go_sem] def Γs6:FuncId → Con:=Γs5
theorem Γs6_ok:∀ g,ConOk Try.prog g (Γs6 g):=Γs5_ok

@[go_sem] def Γs7:FuncId → Con:=Γs6
theorem Γs7_ok:∀ g,ConOk Try.prog g (Γs7 g):=Γs6_ok

@[go_sem] def Γs8:FuncId → Con:=Γs7
theorem Γs8_ok:∀ g,ConOk Try.prog g (Γs8 g):=Γs7_ok

end
end Go.Proofs.Ytkjimmkemnmajaa.Vm

