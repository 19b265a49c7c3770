/-
  What the reference reads of a certificate's text; both read the same. Plain lemmas; no conditions.
-/
import Derived.Test.YtiilmjojffjhlaaGreatDoorKPCb
import Derived.Test.YtiilmjojffjhlaaGreatDoorKF3
namespace Go.Proofs.YtiilmjojffjhlaaGreatDoor
open Go.RowKit Go.Deep
set_option linter.unusedVariables false

def headW (s:List UInt8):List UInt8:=(pcs 32 s []).headD []

def noDg (t:List UInt8) (i:Nat):Bool:=!decide (48 ≤ (t.getD i 0).toNat ∧ (t.getD i 0).toNat ≤ 57)
def nmD (t:List UInt8):Nat → Int
  | 0=>0
  | k + 1=>nmD t k * 10 + (((t.getD k 0).toNat:Int) - 48)
def numNeg (s:List UInt8):Bool:=decide (0 < s.length ∧ (s.getD 0 0).toNat = 45)
def numT (s:List UInt8):List UInt8:=if numNeg s = true then s.drop 1 else s
def numBad (t:List UInt8) (neg:Bool):Bool:=decide (t.length = 0) || decide (17 < t.length) || (decide ((t.getD 0 0).toNat = 48) && (decide (1 < t.length) || neg))
def numB (t:List UInt8) (neg:Bool):Bool:=!numBad t neg && !(List.range t.length).any (noDg t)
def numR (t:List UInt8) (neg:Bool):Int:=if numB t neg = true then (if neg = true then -nmD t t.length else nmD t t.length) else 0
def numV (s:List UInt8):Int:=numR (numT s) (numNeg s)
def numOk (s:List UInt8):Bool:=numB (numT s) (numNeg s)
theorem nmD_bd {t:List UInt8}:∀ {k:Nat},Vm.NoneTill (noDg t) k → 0 ≤ nmD t k ∧ nmD t k < 10 ^ k
  | 0,_=>by simp [nmD]
  | k + 1,h=>by
    have h1:=nmD_bd (t:=t) (k:=k) fun i hi=>h i (by omega)
    have h2:=h k (by omega)
    simp only [noDg,Bool.not_eq_false',decide_eq_true_eq] at h2
    rw [nmD,Int.pow_succ]
    omega
theorem nmD_s {t:List UInt8} {k:Nat} (h:Vm.NoneTill (noDg t) k) (hk:k ≤ 17):0 ≤ nmD t k ∧ nmD t k < 100000000000000000:=by
  have h1:=nmD_bd h
  have:(10:Int) ^ k ≤ 10 ^ 17:=by
    have:=Nat.pow_le_pow_right (n:=10) (by omega) hk
    exact_mod_cast this
  omega
theorem nmD_app (a b:List UInt8):∀ k,k ≤ a.length → nmD (a ++ b) k = nmD a k
  | 0,_=>rfl
  | k + 1,h=>by
    rw [nmD,nmD,nmD_app a b k (by omega)]
    congr 3
    rw [List.getD_eq_getElem?_getD,List.getD_eq_getElem?_getD,List.getElem?_append_left (by omega)]
theorem nmD_snoc (a:List UInt8) (x:UInt8):nmD (a ++ [x]) (a ++ [x]).length = nmD a a.length * 10 + ((x.toNat:Int) - 48):=by
  rw [List.length_append,List.length_singleton,nmD,nmD_app a [x] _ (Nat.le_refl _)]
  simp
theorem nmD_dec (n:Nat):nmD (decN n) (decN n).length = n:=by
  induction n using Nat.strongRecOn with
  | _ n ih =>
    by_cases h:n ≤ 9
    · rw [Jo h]
      show nmD ([] ++ [digB n]) ([] ++ [digB n]).length = n
      rw [nmD_snoc,zady n h]
      simp only [List.length_nil,nmD]
      omega
    · rw [Vd (by omega),nmD_snoc,ih (n / 10) (by omega),zady (n % 10) (by omega)]
      omega
theorem dec_noDg (n:Nat):(List.range (decN n).length).any (noDg (decN n)) = false:=by
  rw [List.any_eq_false]
  intro i hi
  rw [List.mem_range] at hi
  have:=zadk n ((decN n).getD i 0) (by rw [List.getD_eq_getElem?_getD,List.getElem?_eq_getElem hi];exact List.getElem_mem hi)
  simp [noDg,-List.getD_eq_getElem?_getD];omega
theorem dec_head {n:Nat} (h:(((decN n).getD 0 0).toNat = 48)):n = 0:=by
  induction n using Nat.strongRecOn with
  | _ n ih =>
    by_cases h9:n ≤ 9
    · rw [Jo h9] at h
      have:=zady n h9
      simp at h
      omega
    · have hl:0 < (decN (n / 10)).length:=List.length_pos_iff.2 (decN_ne _)
      rw [Vd (by omega),List.getD_eq_getElem?_getD,List.getElem?_append_left hl,← List.getD_eq_getElem?_getD] at h
      have:=ih (n / 10) (by omega) h
      omega
theorem num_dec {n:Nat} (h:n ≤ 1000000000):numOk (decN n) = true ∧ numV (decN n) = n:=by
  have hl:(decN n).length ≤ 10:=zadz 9 n (by omega)
  have hp:0 < (decN n).length:=List.length_pos_iff.2 (decN_ne n)
  have h0:=zadk n ((decN n).getD 0 0) (by rw [List.getD_eq_getElem?_getD,List.getElem?_eq_getElem hp];exact List.getElem_mem hp)
  have hn:numNeg (decN n) = false:=by simp [numNeg,-List.getD_eq_getElem?_getD];omega
  have ht:numT (decN n) = decN n:=by unfold numT;rw [hn];rfl
  have hb:numB (decN n) false = true:=by
    unfold numB
    rw [dec_noDg]
    have:numBad (decN n) false = false:=by
      unfold numBad
      rw [decide_eq_false (by omega),decide_eq_false (by omega)]
      by_cases e:((decN n).getD 0 0).toNat = 48
      · have:=dec_head e
        subst this
        simp [Jo]
      · simp [e,-List.getD_eq_getElem?_getD]
    rw [this];rfl
  refine ⟨by rw [numOk,ht,hn,hb],?_⟩
  rw [numV,ht,hn,numR,if_pos hb,if_neg (by simp),nmD_dec]

end Go.Proofs.YtiilmjojffjhlaaGreatDoor

