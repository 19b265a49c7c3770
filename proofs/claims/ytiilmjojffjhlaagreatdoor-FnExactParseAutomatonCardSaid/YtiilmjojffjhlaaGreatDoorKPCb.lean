import Derived.Test.YtiilmjojffjhlaaGreatDoorKCT1
import Derived.Lib.Split
import Derived.Lib.AtoiTie
/-
  Decimal digits tell the number. Plain lemmas; no conditions.
-/
namespace Go.Proofs.YtiilmjojffjhlaaGreatDoor
open Go.RowKit Go.Deep
set_option linter.unusedVariables false

theorem zady (k:Nat) (h:k ≤ 9):(digB (k:Int)).toNat = 48 + k:=by
  unfold digB;simp [UInt8.toNat_ofNat];omega
theorem zadk (n:Nat):∀ b ∈ decN n,48 ≤ b.toNat ∧ b.toNat ≤ 57:=by
  induction n using Nat.strongRecOn with
  | _ n ih =>
    intro b hb
    by_cases h:n ≤ 9
    · rw [Jo h] at hb
      obtain rfl:b = digB n:=by simpa using hb
      rw [zady n h];omega
    · rw [Vd (by omega),List.mem_append] at hb
      rcases hb with hb | hb
      · exact ih (n / 10) (by omega) b hb
      · obtain rfl:b = digB (n % 10:Nat):=by simpa using hb
        rw [zady (n % 10) (by omega)];omega
theorem decN_no {n:Nat} {c:UInt8} (h:c.toNat < 48):c ∉ decN n:=fun k=>by have:=zadk n c k;omega
end Go.Proofs.YtiilmjojffjhlaaGreatDoor

/-
  A text cut at blanks; decimal digits read. Plain lemmas; no conditions.
-/
namespace Go.Proofs.YtiilmjojffjhlaaGreatDoor
open Go.RowKit Go.Deep
set_option linter.unusedVariables false

def pcs (c:UInt8):List UInt8 → List UInt8 → List (List UInt8)
  | [],acc=>[acc]
  | b :: l,acc=>if b = c then acc :: pcs c l [] else pcs c l (acc ++ [b])
theorem pcs_no {c:UInt8}:∀ {l:List UInt8},c ∉ l → ∀ acc,pcs c l acc = [acc ++ l]
  | [],_,acc=>by simp [pcs]
  | b :: l,h,acc=>by
    have hb:¬ b = c:=fun e=>h (by rw [e];exact List.mem_cons_self ..)
    rw [pcs,if_neg hb,pcs_no (fun k=>h (List.mem_cons_of_mem _ k))]
    simp
theorem pcs_at {c:UInt8}:∀ {a:List UInt8},c ∉ a → ∀ (r acc:List UInt8),pcs c (a ++ c :: r) acc = (acc ++ a) :: pcs c r []
  | [],_,r,acc=>by simp [pcs]
  | b :: a,h,r,acc=>by
    have hb:¬ b = c:=fun e=>h (by rw [e];exact List.mem_cons_self ..)
    rw [List.cons_append,pcs,if_neg hb,pcs_at (fun k=>h (List.mem_cons_of_mem _ k))]
    simp
theorem pcs_pos (c:UInt8):∀ (l acc:List UInt8),1 ≤ (pcs c l acc).length
  | [],acc=>by simp [pcs]
  | b :: l,acc=>by
    rw [pcs]
    split
    · simp
    · exact pcs_pos c l _
theorem index_no {c:UInt8}:∀ {l:List UInt8},c ∉ l → Lib.index l [c] = -1
  | [],_=>rfl
  | b :: l,h=>by
    have hb:¬ c = b:=fun e=>h (by rw [e];exact List.mem_cons_self ..)
    have ih:=index_no (c:=c) (l:=l) fun k=>h (List.mem_cons_of_mem _ k)
    have hp:([c]:List UInt8).isPrefixOf (b :: l) = false:=by show (c == b && _) = false;rw [beq_eq_false_iff_ne.2 hb];rfl
    rw [Lib.index,hp,ih];rfl
theorem index_at {c:UInt8}:∀ {a:List UInt8},c ∉ a → ∀ r:List UInt8,Lib.index (a ++ c :: r) [c] = (a.length:Int)
  | [],_,r=>by
    have hp:([c]:List UInt8).isPrefixOf (c :: r) = true:=by simp
    show Lib.index (c :: r) [c] = 0
    rw [Lib.index,hp];rfl
  | b :: a,h,r=>by
    have hb:¬ c = b:=fun e=>h (by rw [e];exact List.mem_cons_self ..)
    have ih:=index_at (c:=c) (a:=a) (fun k=>h (List.mem_cons_of_mem _ k)) r
    have hp:([c]:List UInt8).isPrefixOf (b :: (a ++ c :: r)) = false:=by show (c == b && _) = false;rw [beq_eq_false_iff_ne.2 hb];rfl
    rw [List.cons_append,Lib.index,hp,ih,List.length_cons]
    have hn:((a.length:Int) == -1) = false:=Bool.eq_false_iff.2 fun k=>by have:=beq_iff_eq.1 k;omega
    rw [hn]
    simp
theorem split_pcs (c:UInt8):∀ (n:Nat) (l:List UInt8),l.length ≤ n → Lib.splitK [c] 0 (Lib.count l [c]) l = pcs c l []:=by
  intro n
  induction n with
  | zero =>
    intro l hl
    obtain rfl:l = []:=List.length_eq_zero_iff.1 (by omega)
    rw [Lib.count_miss (index_no (by simp))]
    rfl
  | succ n ih =>
    intro l hl
    by_cases hc:c ∈ l
    · obtain ⟨a,r,rfl,ha⟩:=List.append_of_mem hc |>.elim fun s h=>h.elim fun t e=>(List.eq_append_cons_of_mem hc)
      have hi:=index_at ha r
      have hd:(a ++ c :: r).drop (a.length + 1) = r:=by simp
      rw [Lib.count_hit (by simp) hi,Nat.add_comm,Lib.splitK]
      have hn:((Lib.index (a ++ c :: r) [c]) == -1) = false:=by rw [hi];exact Bool.eq_false_iff.2 fun k=>by have:=beq_iff_eq.1 k;omega
      rw [hn]
      simp only [Bool.false_eq_true,if_false,hi,Int.toNat_natCast,List.length_cons,List.length_nil,Nat.zero_add,Nat.add_zero]
      rw [hd,ih r (by simp at hl;omega),pcs_at ha]
      simp
    · rw [Lib.count_miss (index_no hc),pcs_no hc]
      rfl

theorem digit_of (k:Nat) (h:k ≤ 9):Lib.digitVal (digB (k:Int)) = some k:=by
  have:=zady k h
  unfold Lib.digitVal
  simp [this]
  omega
theorem decFrom_dec (n:Nat):∀ (t:List UInt8),Lib.decFrom 0 (decN n ++ t) = Lib.decFrom n t:=by
  induction n using Nat.strongRecOn with
  | _ n ih =>
    intro t
    by_cases h:n ≤ 9
    · rw [Jo h]
      show Lib.decFrom 0 (digB n :: t) = _
      rw [Lib.decFrom,digit_of n h]
      simp
    · rw [Vd (by omega),List.append_assoc,ih (n / 10) (by omega)]
      show Lib.decFrom (n / 10) (digB (n % 10:Nat) :: t) = _
      rw [Lib.decFrom,digit_of (n % 10) (by omega)]
      have e:n / 10 * 10 + n % 10 = n:=by omega
      simp [e]
theorem decN_ne (n:Nat):decN n ≠ []:=by
  by_cases h:n ≤ 9
  · rw [Jo h];simp
  · rw [Vd (by omega)];simp
theorem atoiAll_dec {n:Nat} (h:n ≤ 1000000000):Lib.atoiAll (decN n) = .ok (n:Int):=by
  have hl:(decN n).length ≤ 10:=zadz 9 n (by omega)
  rw [Lib.atoiAll_short _ (by omega)]
  have hd:Lib.decNat (decN n) = some n:=by
    have:=decFrom_dec n []
    rw [List.append_nil] at this
    have hz:Lib.decFrom n [] = some n:=rfl
    unfold Lib.decNat
    rw [if_neg (by simp [decN_ne]),this,hz]
  obtain ⟨b,r,e⟩:∃ b r,decN n = b :: r:=by
    cases hh:decN n with
    | nil=>exact absurd hh (decN_ne n)
    | cons b r=>exact ⟨b,r,rfl⟩
  have hb:=zadk n b (by rw [e];exact List.mem_cons_self ..)
  have h45:(b == 45) = false:=by
    apply Bool.eq_false_iff.2
    intro k
    have:b = 45:=by simpa using k
    rw [this] at hb
    exact absurd hb.1 (by decide)
  have h43:(b == 43) = false:=by
    apply Bool.eq_false_iff.2
    intro k
    have:b = 43:=by simpa using k
    rw [this] at hb
    exact absurd hb.1 (by decide)
  rw [e] at hd ⊢
  rw [Lib.atoi,h45,h43,hd]
  rfl
def wordN (l:List UInt8):Int:=match Lib.atoiAll l with
  | .ok v=>v
  | _=>-1
theorem wordN_dec {n:Nat} (h:n ≤ 1000000000):wordN (decN n) = n:=by rw [wordN,atoiAll_dec h]
def certR (t:List UInt8):List Int:=((pcs 32 t []).drop 1).map wordN
end Go.Proofs.YtiilmjojffjhlaaGreatDoor

