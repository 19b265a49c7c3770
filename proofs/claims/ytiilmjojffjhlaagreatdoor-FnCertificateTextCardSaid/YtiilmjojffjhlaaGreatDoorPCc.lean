/-
  What the reference reads of a certificate's text; both read the same. Plain lemmas; no conditions.
-/
import Derived.Test.YtiilmjojffjhlaaGreatDoorPCb
import Derived.Test.YtiilmjojffjhlaaGreatDoorF7
namespace Go.Proofs.YtiilmjojffjhlaaGreatDoor
open Go.RowKit Go.Deep
set_option linter.unusedVariables false

def headW (s:List UInt8):List UInt8:=(pcs 32 s []).headD []

def noDg (t:List UInt8) (i:Nat):Bool:=!decide (48 ≤ (t.getD i 0).toNat ∧ (t.getD i 0).toNat ≤ 57)
def nmD (t:List UInt8):Nat → Int
  | 0=>0
  | k + 1=>nmD t k * 10 + (((t.getD k 0).toNat:Int) - 48)
def numNeg (s:List UInt8):Bool:=decide (0 < s.length ∧ (s.getD 0 0).toNat = 45)
def numT (s:List UInt8):List UInt8:=if numNeg s = true then s.drop 1 else s
def numBad (t:List UInt8) (neg:Bool):Bool:=decide (t.length = 0) || decide (17 < t.length) || (decide ((t.getD 0 0).toNat = 48) && (decide (1 < t.length) || neg))
def numB (t:List UInt8) (neg:Bool):Bool:=!numBad t neg && !(List.range t.length).any (noDg t)
def numR (t:List UInt8) (neg:Bool):Int:=if numB t neg = true then (if neg = true then -nmD t t.length else nmD t t.length) else 0
def numV (s:List UInt8):Int:=numR (numT s) (numNeg s)
def numOk (s:List UInt8):Bool:=numB (numT s) (numNeg s)
theorem nmD_bd {t:List UInt8}:∀ {k:Nat},Vm.NoneTill (noDg t) k → 0 ≤ nmD t k ∧ nmD t k < 10 ^ k
  | 0,_=>by simp [nmD]
  | k + 1,h=>by
    have h1:=nmD_bd (t:=t) (k:=k) fun i hi=>h i (by omega)
    have h2:=h k (by omega)
    simp only [noDg,Bool.not_eq_false',decide_eq_true_eq] at h2
    rw [nmD,Int.pow_succ]
    omega
theorem nmD_s {t:List UInt8} {k:Nat} (h:Vm.NoneTill (noDg t) k) (hk:k ≤ 17):0 ≤ nmD t k ∧ nmD t k < 100000000000000000:=by
  have h1:=nmD_bd h
  have:(10:Int) ^ k ≤ 10 ^ 17:=by
    have:=Nat.pow_le_pow_right (n:=10) (by omega) hk
    exact_mod_cast this
  omega
theorem nmD_app (a b:List UInt8):∀ k,k ≤ a.length → nmD (a ++ b) k = nmD a k
  | 0,_=>rfl
  | k + 1,h=>by
    rw [nmD,nmD,nmD_app a b k (by omega)]
    congr 3
    rw [List.getD_eq_getElem?_getD,List.getD_eq_getElem?_getD,List.getElem?_append_left (by omega)]
theorem nmD_snoc (a:List UInt8) (x:UInt8):nmD (a ++ [x]) (a ++ [x]).length = nmD a a.length * 10 + ((x.toNat:Int) - 48):=by
  rw [List.length_append,List.length_singleton,nmD,nmD_app a [x] _ (Nat.le_refl _)]
  simp
theorem nmD_dec (n:Nat):nmD (decN n) (decN n).length = n:=by
  induction n using Nat.strongRecOn with
  | _ n ih =>
    by_cases h:n ≤ 9
    · rw [Vz h]
      show nmD ([] ++ [digB n]) ([] ++ [digB n]).length = n
      rw [nmD_snoc,zang n h]
      simp only [List.length_nil,nmD]
      omega
    · rw [Yq (by omega),nmD_snoc,ih (n / 10) (by omega),zang (n % 10) (by omega)]
      omega
theorem dec_noDg (n:Nat):(List.range (decN n).length).any (noDg (decN n)) = false:=by
  rw [List.any_eq_false]
  intro i hi
  rw [List.mem_range] at hi
  have:=zair n ((decN n).getD i 0) (by rw [List.getD_eq_getElem?_getD,List.getElem?_eq_getElem hi];exact List.getElem_mem hi)
  simp [noDg,-List.getD_eq_getElem?_getD];omega
theorem dec_head {n:Nat} (h:(((decN n).getD 0 0).toNat = 48)):n = 0:=by
  induction n using Nat.strongRecOn with
  | _ n ih =>
    by_cases h9:n ≤ 9
    · rw [Vz h9] at h
      have:=zang n h9
      simp at h
      omega
    · have hl:0 < (decN (n / 10)).length:=List.length_pos_iff.2 (decN_ne _)
      rw [Yq (by omega),List.getD_eq_getElem?_getD,List.getElem?_append_left hl,← List.getD_eq_getElem?_getD] at h
      have:=ih (n / 10) (by omega) h
      omega
theorem num_dec {n:Nat} (h:n ≤ 1000000000):numOk (decN n) = true ∧ numV (decN n) = n:=by
  have hl:(decN n).length ≤ 10:=zarz 9 n (by omega)
  have hp:0 < (decN n).length:=List.length_pos_iff.2 (decN_ne n)
  have h0:=zair n ((decN n).getD 0 0) (by rw [List.getD_eq_getElem?_getD,List.getElem?_eq_getElem hp];exact List.getElem_mem hp)
  have hn:numNeg (decN n) = false:=by simp [numNeg,-List.getD_eq_getElem?_getD];omega
  have ht:numT (decN n) = decN n:=by unfold numT;rw [hn];rfl
  have hb:numB (decN n) false = true:=by
    unfold numB
    rw [dec_noDg]
    have:numBad (decN n) false = false:=by
      unfold numBad
      rw [decide_eq_false (by omega),decide_eq_false (by omega)]
      by_cases e:((decN n).getD 0 0).toNat = 48
      · have:=dec_head e
        subst this
        simp [Vz]
      · simp [e,-List.getD_eq_getElem?_getD]
    rw [this];rfl
  refine ⟨by rw [numOk,ht,hn,hb],?_⟩
  rw [numV,ht,hn,numR,if_pos hb,if_neg (by simp),nmD_dec]

def specN (l:List UInt8):Int:=if l = [45] then -1 else numV l
def specR (t:List UInt8):List Int:=(((pcs 32 t []).drop 1).take 4000).map specN
theorem specN_rank {n:Int} (h:Zc n = false):specN (rankW n) = n:=by
  have h2:=zaoo h
  unfold rankW
  split
  · rw [specN,if_pos rfl];omega
  · have hne:¬ decN n.toNat = [45]:=fun e=>by
      have:=zair n.toNat 45 (by rw [e];exact List.mem_cons_self ..)
      exact absurd this.1 (by decide)
    rw [specN,if_neg hne,(num_dec (n:=n.toNat) (by omega)).2];omega
theorem specR_ranks {xs:List Int} (h:Za xs = true):specR (ranks xs) = xs:=by
  have hl:=zasb h
  rw [specR,pcs_cert,List.drop_one,List.tail_cons,List.take_of_length_le (by simpa using hl),List.map_map]
  have:∀ n ∈ xs,(specN ∘ rankW) n = n:=fun n hn=>by
    obtain ⟨i,hi,rfl⟩:=List.getElem_of_mem hn
    have:=zaji h i hi
    rw [Xc hi] at this
    exact specN_rank this
  conv=>rhs;rw [← List.map_id xs]
  exact List.map_congr_left this
def readC (R:List Int) (t:List UInt8):List Int × Bool:=if t = [] ∨ ¬ certT R = t then ([],false) else (R,true)
theorem certT_ok {R t:List UInt8} {xs:List Int} (h0:¬ t = []) (h:certT xs = t):Za xs = true ∧ t = ranks xs:=by
  cases e:Za xs
  · rw [zani e] at h;exact absurd h.symm h0
  · rw [zalr e] at h;exact ⟨rfl,h.symm⟩
theorem read_same (t:List UInt8):readC (specR t) t = readC (certR t) t:=by
  unfold readC
  by_cases h0:t = []
  · rw [if_pos (.inl h0),if_pos (.inl h0)]
  by_cases h1:certT (specR t) = t
  · obtain ⟨k,e⟩:=certT_ok (R:=t) h0 h1
    have e2:certR t = specR t:=by conv=>lhs;rw [e,zaur k]
    rw [e2]
  · by_cases h2:certT (certR t) = t
    · obtain ⟨k,e⟩:=certT_ok (R:=t) h0 h2
      have e2:specR t = certR t:=by conv=>lhs;rw [e,specR_ranks k]
      rw [e2]
    · rw [if_pos (.inr h1),if_pos (.inr h2)]
end Go.Proofs.YtiilmjojffjhlaaGreatDoor

