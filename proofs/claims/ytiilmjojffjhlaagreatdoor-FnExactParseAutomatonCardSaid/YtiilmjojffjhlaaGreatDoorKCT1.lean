/-
  The text of a certificate, both ways. No conditions but that the slices can be read and, for the program's, that the table of powers of ten is laid.
-/
import Derived.Test.YtiilmjojffjhlaaGreatDoorKText
import Derived.Test.YtiilmjojffjhlaaGreatDoorKCert
import Derived.Test.YtiilmjojffjhlaaGreatDoorKCert
import Derived.Lib.AppendIntMem
namespace Go.Proofs.YtiilmjojffjhlaaGreatDoor
open Go.RowKit Go.Deep
set_option linter.unusedVariables false

structure IRw (w:World) (A:Option Addr) (N c:Nat) (xs:List Int):Prop where
  len:N = xs.length
  cells:∀ k,k < N → ∃ ad,A = some ad ∧ w.cell? (ad.add k) = some (.int .i64 (nth xs k))
def IW (w:World) (v:Value) (xs:List Int):Prop:=∃ A N c,v = .slice A N c ∧ IRw w A N c xs
theorem IRw.gr {w w':World} {A:Option Addr} {N c:Nat} {xs:List Int} (h:IRw w A N c xs) (g:Gr w w'):IRw w' A N c xs :=
  ⟨h.1,fun k hlt=>by obtain ⟨ad,ha,hc⟩:=h.2 k hlt;exact ⟨ad,ha,g.cell hc⟩⟩
theorem IW.gr {w w':World} {v:Value} {xs:List Int} (h:IW w v xs) (g:Gr w w'):IW w' v xs:=by
  obtain ⟨A,N,c,rfl,h⟩:=h;exact ⟨A,N,c,rfl,h.gr g⟩
def OW (w:World) (v:Value) (l:List Int):Prop:=∃ s1,v = .agg #[s1] ∧ IW w s1 l
theorem OW.gr {w w':World} {v:Value} {l:List Int} (h:OW w v l) (g:Gr w w'):OW w' v l:=by
  obtain ⟨s1,rfl,h⟩:=h;exact ⟨s1,rfl,h.gr g⟩
theorem decDigits_decN (k:Nat):Lib.decDigits k = decN k:=by
  induction k using Nat.strongRecOn with
  | _ k ih =>
    by_cases h:k < 10
    · rw [Jo (by omega),Lib.decDigits,dif_pos h];simp [digB]
    · rw [Vd (by omega),Lib.decDigits,dif_neg h,ih _ (by omega)];simp [digB];congr 1
def Pow (w:World):Prop:=Lib.TabIs Tryz.prog w "internal/strconv.uint64pow10" .u64 Lib.pow10Tab
theorem Pow.gr {w w':World} (h:Pow w) (g:Gr w w'):Pow w':=Lib.tabBelow_of_tabIs h w' g

theorem zadz (k:Nat):∀ n:Nat,n < 10 ^ (k + 1) → (decN n).length ≤ k + 1:=by
  induction k with
  | zero=>intro n h;rw [Jo (by omega)];simp
  | succ k ih =>
    intro n h
    by_cases h9:n ≤ 9
    · rw [Jo h9];simp
    · rw [Vd (by omega)]
      have:=ih (n / 10) (by rw [Nat.pow_succ] at h;omega)
      simp;omega
def rankT (n:Int):List UInt8:=if n < 0 then [32,45] else 32 :: decN n.toNat
def ranks (xs:List Int):List UInt8:=[114,97,110,107,115] ++ xs.flatMap rankT
def ranksTill (xs:List Int) (k:Nat):List UInt8:=ranks (xs.take k)
end Go.Proofs.YtiilmjojffjhlaaGreatDoor

