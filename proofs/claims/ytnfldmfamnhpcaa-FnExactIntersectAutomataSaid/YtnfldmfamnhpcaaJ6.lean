/-
  impl.components: its walk. No conditions.
-/
import Derived.Test.YtnfldmfamnhpcaaJ5
namespace Go.Proofs.Ytnfldmfamnhpcaa.Vm
open Go
open List renaming replicate → zrP
set_option linter.unusedVariables false
set_option linter.unusedSimpArgs false
set_option maxRecDepth 200000

structure V6 where
  v2:Nat
  b2:Nat
  k2:Nat
  j2:Nat
  v3:Nat
  b3:Nat
  k3:Nat
  j3:Nat
  v7:Nat
  b7:Nat
  k7:Nat
  j7:Nat
structure FM (m:V6) (n:Nat) (ps:List Int) (H:Hp):Prop where
  h2:H m.v2 = some [.sl m.b2 1 0 n m.k2]
  g2:H m.b2 = some (cat cI (zrP n 0) ++ zrP m.j2 .any)
  h3:H m.v3 = some [.sl m.b3 1 0 n m.k3]
  g3:H m.b3 = some (cat cI (zrP n 0) ++ zrP m.j3 .any)
  h7:H m.v7 = some [.sl m.b7 1 0 n m.k7]
  g7:H m.b7 = some (cat cI ps ++ zrP m.j7 .any)
def NE6 (m:V6):Prop:=¬ m.v2 = m.b2 ∧ ¬ m.v2 = m.v3 ∧ ¬ m.v2 = m.b3 ∧ ¬ m.v2 = m.v7 ∧ ¬ m.v2 = m.b7 ∧ ¬ m.b2 = m.v2 ∧ ¬ m.b2 = m.v3 ∧ ¬ m.b2 = m.b3 ∧ ¬ m.b2 = m.v7 ∧ ¬ m.b2 = m.b7 ∧ ¬ m.v3 = m.v2 ∧ ¬ m.v3 = m.b2 ∧ ¬ m.v3 = m.b3 ∧ ¬ m.v3 = m.v7 ∧ ¬ m.v3 = m.b7 ∧ ¬ m.b3 = m.v2 ∧ ¬ m.b3 = m.b2 ∧ ¬ m.b3 = m.v3 ∧ ¬ m.b3 = m.v7 ∧ ¬ m.b3 = m.b7 ∧ ¬ m.v7 = m.v2 ∧ ¬ m.v7 = m.b2 ∧ ¬ m.v7 = m.v3 ∧ ¬ m.v7 = m.b3 ∧ ¬ m.v7 = m.b7 ∧ ¬ m.b7 = m.v2 ∧ ¬ m.b7 = m.b2 ∧ ¬ m.b7 = m.v3 ∧ ¬ m.b7 = m.b3 ∧ ¬ m.b7 = m.v7
theorem NE6.out {m:V6} (h:NE6 m):¬ m.v2 = m.b2 ∧ ¬ m.v2 = m.v3 ∧ ¬ m.v2 = m.b3 ∧ ¬ m.v2 = m.v7 ∧ ¬ m.v2 = m.b7 ∧ ¬ m.b2 = m.v2 ∧ ¬ m.b2 = m.v3 ∧ ¬ m.b2 = m.b3 ∧ ¬ m.b2 = m.v7 ∧ ¬ m.b2 = m.b7 ∧ ¬ m.v3 = m.v2 ∧ ¬ m.v3 = m.b2 ∧ ¬ m.v3 = m.b3 ∧ ¬ m.v3 = m.v7 ∧ ¬ m.v3 = m.b7 ∧ ¬ m.b3 = m.v2 ∧ ¬ m.b3 = m.b2 ∧ ¬ m.b3 = m.v3 ∧ ¬ m.b3 = m.v7 ∧ ¬ m.b3 = m.b7 ∧ ¬ m.v7 = m.v2 ∧ ¬ m.v7 = m.b2 ∧ ¬ m.v7 = m.v3 ∧ ¬ m.v7 = m.b3 ∧ ¬ m.v7 = m.b7 ∧ ¬ m.b7 = m.v2 ∧ ¬ m.b7 = m.b2 ∧ ¬ m.b7 = m.v3 ∧ ¬ m.b7 = m.b3 ∧ ¬ m.b7 = m.v7:=h
structure NM (m:VN) (mb:Nat) (nx:List (List Int)) (ps:List Int) (k:Nat) (H:Hp):Prop where
  h7:H m.v7 = some [.sl m.b7 1 0 nx.length m.k7]
  g7:H m.b7 = some (cat cI (half ps k) ++ zrP m.j7 .any)
  hm:H mb = some (mp (esN 0 (dist (ps.take k))))
structure NM3 (m:VN) (mb:Nat) (nx:List (List Int)) (ps:List Int) (k:Nat) (H:Hp):Prop where
  h7:H m.v7 = some [.sl m.b7 1 0 nx.length m.k7]
  g7:H m.b7 = some (cat cI (half ps k) ++ zrP m.j7 .any)
  hm:H mb = some (mp (esN 0 (dist (ps.take (k + 1)))))
theorem map_II:mapII Try.prog 136:=⟨3,3,(Try.prog.info? 3).get (by kernel_rfl),by kernel_rfl,by kernel_rfl,(Option.some_get _).symm,by kernel_rfl⟩
@[go_sem] theorem map_IIt:mapII Try.prog 136 = True:=eq_true map_II
attribute [go_sem] esN_one esN_len
noncomputable def Γj1:FuncId → Con:=Γs8
attribute [go_sem] Γj1
theorem Γj1_ok:∀ g,ConOk Try.prog g (Γj1 g):=Γs8_ok
end Go.Proofs.Ytnfldmfamnhpcaa.Vm

