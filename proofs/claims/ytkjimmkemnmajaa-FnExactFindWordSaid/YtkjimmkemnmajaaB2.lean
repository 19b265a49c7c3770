/-
  The nearest goal of a search, plain. No conditions.
-/
import Derived.Test.YtkjimmkemnmajaaRow
import Derived.Test.YtkjimmkemnmajaaB1
namespace Go.Proofs.Ytkjimmkemnmajaa.Vm
open Go
open List renaming replicate → zrP
set_option linter.unusedVariables false
set_option linter.unusedSimpArgs false
set_option maxRecDepth 200000

structure SQ where
  k:Nat
  s:PQ
  q:Nat
  cp:Nat
  j:Nat
  H:Hp
def shW (nx:List (List Int)) (ss:List Int) (g:Int → Bool):List Int :=
  if findI g (bfsE nx ss).2 < 0 then [] else (up (bfsE nx ss).1 (nx.length + 1) (nth (bfsE nx ss).2 (findI g (bfsE nx ss).2).toNat)).reverse
theorem shW_at {nx:List (List Int)} {ss:List Int} {g:Int → Bool} {k:Nat} (h:NoneTill (fun i=>g (nth (bfsE nx ss).2 i)) k) (hk:k < (bfsE nx ss).2.length) (e:g (nth (bfsE nx ss).2 k) = true) :
    shW nx ss g = (up (bfsE nx ss).1 (nx.length + 1) (nth (bfsE nx ss).2 k)).reverse:=by
  rw [shW,zadr h hk e,if_neg (by omega)];rfl
theorem zagn {nx:List (List Int)} {ss:List Int} {g:Int → Bool} {k:Nat} (h:NoneTill (fun i=>g (nth (bfsE nx ss).2 i)) k) (hk:(bfsE nx ss).2.length ≤ k):shW nx ss g = []:=by
  rw [shW,zacc h hk,if_pos (by omega)]
structure QM1 (b7:Nat) (j7:List D) (x:SQ):Prop where
  m7:x.H b7 = some (cat cI x.s.1 ++ j7)
  mq:x.H x.q = some (cat cI x.s.2 ++ zrP x.j .any)
  n7:¬ x.q = b7
  r1:x.s.2.length ≤ x.cp
  r2:x.cp ≤ x.s.2.length + x.j
def fl (n k:Nat):List Int:=zrP k (-2) ++ zrP (n - k) 0
theorem fl_zero (n:Nat):fl n 0 = zrP n 0:=by simp [fl]
theorem fl_all (n:Nat):fl n n = zrP n (-2):=by simp [fl]
theorem fl_len {n k:Nat} (h:k ≤ n):(fl n k).length = n:=by simp [fl];omega
theorem fl_set {n k:Nat} (h:k < n):(fl n k).set k (-2) = fl n (k + 1):=by
  obtain ⟨m,e⟩:∃ m,n - k = m + 1:=⟨n - k - 1,by omega⟩
  have e2:n - (k + 1) = m:=by omega
  rw [fl,fl,e,e2,List.replicate_succ,zajd (by simp),List.replicate_succ'];simp
theorem zafr {xs:List Int} {k:Nat} (h:k < xs.length):cat cI (xs.take k) ++ [.int .i64 (nth xs k)] = cat cI (xs.take (k + 1)):=by
  rw [Zv,List.take_succ_eq_append_getElem h,Qm h]
theorem up_neg (P:List Int) (f:Nat) {z:Int} (h:z < 0):up P f z = []:=by
  cases f with
  | zero=>rfl
  | succ f=>rw [up,if_pos h]
theorem up_ne {P:List Int} {f:Nat} {z:Int} (h:0 ≤ z):¬ (up P (f + 1) z).reverse = []:=by
  rw [up,if_neg (by omega)];simp
theorem up_next {n:Nat} {ss:List Int} {s:PQ} (h:Bf n ss s) {m:Nat} (hm:m < s.2.length) :
    ∃ m',m' ≤ m ∧ ((m' = 0 ∧ nth s.1 (nth s.2 m).toNat < 0) ∨ (1 ≤ m' ∧ m' ≤ s.2.length ∧ nth s.1 (nth s.2 m).toNat = nth s.2 (m' - 1))) ∧ ∀ f,m + 2 ≤ f → up s.1 f (nth s.2 m) = nth s.2 m :: up s.1 f (nth s.1 (nth s.2 m).toNat):=by
  have hr:=h.rng m hm
  rcases Nat.lt_or_ge m ss.length with e | e
  · have h0:=h.par0 m e
    refine ⟨0,Nat.zero_le _,.inl ⟨rfl,by omega⟩,fun f hf=>?_⟩
    obtain ⟨f,rfl⟩:∃ x,f = x + 1:=⟨f - 1,by omega⟩
    rw [up,if_neg (by omega),up_neg _ f (by omega),up_neg _ (f + 1) (by omega)]
  · obtain ⟨k,q1,q2⟩:=h.par m e hm
    refine ⟨k + 1,by omega,.inr ⟨by omega,by omega,by rw [q2];rfl⟩,fun f hf=>?_⟩
    obtain ⟨f,rfl⟩:∃ x,f = x + 1:=⟨f - 1,by omega⟩
    rw [q2,up,if_neg (by omega),q2,up_fuel h k (by omega) f (f + 1) (by omega) (by omega)]
end Go.Proofs.Ytkjimmkemnmajaa.Vm

