/-
  The closure of impl.components: one visit. No conditions.
-/
import Derived.Test.YtnfldmfamnhpcaaJ1
import Derived.Test.YtnfldmfamnhpcaaRow
import Derived.Test.YtnfldmfamnhpcaaVm15
namespace Go.Proofs.Ytnfldmfamnhpcaa.Vm
open Go
open List renaming replicate → zrP
set_option linter.unusedVariables false
set_option linter.unusedSimpArgs false
set_option maxRecDepth 200000

structure VN where
  c1:Nat
  v2:Nat
  b2:Nat
  k2:Nat
  j2:Nat
  v3:Nat
  b3:Nat
  k3:Nat
  j3:Nat
  v4:Nat
  v6:Nat
  v7:Nat
  b7:Nat
  k7:Nat
  j7:Nat
  c8:Nat
def VN.args (m:VN) (nx:List (List Int)):List D:=[.ptr m.c1 0,.ptr m.v2 0,.ptr m.v3 0,.ptr m.v4 0,.pd [li cL nx],.ptr m.v6 0,.ptr m.v7 0,.ptr m.c8 0]
def NEm (m:VN):Prop:=¬ m.c1 = m.v2 ∧ ¬ m.c1 = m.b2 ∧ ¬ m.c1 = m.v3 ∧ ¬ m.c1 = m.b3 ∧ ¬ m.c1 = m.v4 ∧ ¬ m.c1 = m.v6 ∧ ¬ m.c1 = m.v7 ∧ ¬ m.c1 = m.b7 ∧ ¬ m.c1 = m.c8 ∧ ¬ m.v2 = m.c1 ∧ ¬ m.v2 = m.b2 ∧ ¬ m.v2 = m.v3 ∧ ¬ m.v2 = m.b3 ∧ ¬ m.v2 = m.v4 ∧ ¬ m.v2 = m.v6 ∧ ¬ m.v2 = m.v7 ∧ ¬ m.v2 = m.b7 ∧ ¬ m.v2 = m.c8 ∧ ¬ m.b2 = m.c1 ∧ ¬ m.b2 = m.v2 ∧ ¬ m.b2 = m.v3 ∧ ¬ m.b2 = m.b3 ∧ ¬ m.b2 = m.v4 ∧ ¬ m.b2 = m.v6 ∧ ¬ m.b2 = m.v7 ∧ ¬ m.b2 = m.b7 ∧ ¬ m.b2 = m.c8 ∧ ¬ m.v3 = m.c1 ∧ ¬ m.v3 = m.v2 ∧ ¬ m.v3 = m.b2 ∧ ¬ m.v3 = m.b3 ∧ ¬ m.v3 = m.v4 ∧ ¬ m.v3 = m.v6 ∧ ¬ m.v3 = m.v7 ∧ ¬ m.v3 = m.b7 ∧ ¬ m.v3 = m.c8 ∧ ¬ m.b3 = m.c1 ∧ ¬ m.b3 = m.v2 ∧ ¬ m.b3 = m.b2 ∧ ¬ m.b3 = m.v3 ∧ ¬ m.b3 = m.v4 ∧ ¬ m.b3 = m.v6 ∧ ¬ m.b3 = m.v7 ∧ ¬ m.b3 = m.b7 ∧ ¬ m.b3 = m.c8 ∧ ¬ m.v4 = m.c1 ∧ ¬ m.v4 = m.v2 ∧ ¬ m.v4 = m.b2 ∧ ¬ m.v4 = m.v3 ∧ ¬ m.v4 = m.b3 ∧ ¬ m.v4 = m.v6 ∧ ¬ m.v4 = m.v7 ∧ ¬ m.v4 = m.b7 ∧ ¬ m.v4 = m.c8 ∧ ¬ m.v6 = m.c1 ∧ ¬ m.v6 = m.v2 ∧ ¬ m.v6 = m.b2 ∧ ¬ m.v6 = m.v3 ∧ ¬ m.v6 = m.b3 ∧ ¬ m.v6 = m.v4 ∧ ¬ m.v6 = m.v7 ∧ ¬ m.v6 = m.b7 ∧ ¬ m.v6 = m.c8 ∧ ¬ m.v7 = m.c1 ∧ ¬ m.v7 = m.v2 ∧ ¬ m.v7 = m.b2 ∧ ¬ m.v7 = m.v3 ∧ ¬ m.v7 = m.b3 ∧ ¬ m.v7 = m.v4 ∧ ¬ m.v7 = m.v6 ∧ ¬ m.v7 = m.b7 ∧ ¬ m.v7 = m.c8 ∧ ¬ m.b7 = m.c1 ∧ ¬ m.b7 = m.v2 ∧ ¬ m.b7 = m.b2 ∧ ¬ m.b7 = m.v3 ∧ ¬ m.b7 = m.b3 ∧ ¬ m.b7 = m.v4 ∧ ¬ m.b7 = m.v6 ∧ ¬ m.b7 = m.v7 ∧ ¬ m.b7 = m.c8 ∧ ¬ m.c8 = m.c1 ∧ ¬ m.c8 = m.v2 ∧ ¬ m.c8 = m.b2 ∧ ¬ m.c8 = m.v3 ∧ ¬ m.c8 = m.b3 ∧ ¬ m.c8 = m.v4 ∧ ¬ m.c8 = m.v6 ∧ ¬ m.c8 = m.v7 ∧ ¬ m.c8 = m.b7
def NEs (m:VN) (sb:Nat):Prop:=¬ sb = m.c1 ∧ ¬ m.c1 = sb ∧ ¬ sb = m.v2 ∧ ¬ m.v2 = sb ∧ ¬ sb = m.b2 ∧ ¬ m.b2 = sb ∧ ¬ sb = m.v3 ∧ ¬ m.v3 = sb ∧ ¬ sb = m.b3 ∧ ¬ m.b3 = sb ∧ ¬ sb = m.v4 ∧ ¬ m.v4 = sb ∧ ¬ sb = m.v6 ∧ ¬ m.v6 = sb ∧ ¬ sb = m.v7 ∧ ¬ m.v7 = sb ∧ ¬ sb = m.b7 ∧ ¬ m.b7 = sb ∧ ¬ sb = m.c8 ∧ ¬ m.c8 = sb
theorem NEm.out {m:VN} (h:NEm m):¬ m.c1 = m.v2 ∧ ¬ m.c1 = m.b2 ∧ ¬ m.c1 = m.v3 ∧ ¬ m.c1 = m.b3 ∧ ¬ m.c1 = m.v4 ∧ ¬ m.c1 = m.v6 ∧ ¬ m.c1 = m.v7 ∧ ¬ m.c1 = m.b7 ∧ ¬ m.c1 = m.c8 ∧ ¬ m.v2 = m.c1 ∧ ¬ m.v2 = m.b2 ∧ ¬ m.v2 = m.v3 ∧ ¬ m.v2 = m.b3 ∧ ¬ m.v2 = m.v4 ∧ ¬ m.v2 = m.v6 ∧ ¬ m.v2 = m.v7 ∧ ¬ m.v2 = m.b7 ∧ ¬ m.v2 = m.c8 ∧ ¬ m.b2 = m.c1 ∧ ¬ m.b2 = m.v2 ∧ ¬ m.b2 = m.v3 ∧ ¬ m.b2 = m.b3 ∧ ¬ m.b2 = m.v4 ∧ ¬ m.b2 = m.v6 ∧ ¬ m.b2 = m.v7 ∧ ¬ m.b2 = m.b7 ∧ ¬ m.b2 = m.c8 ∧ ¬ m.v3 = m.c1 ∧ ¬ m.v3 = m.v2 ∧ ¬ m.v3 = m.b2 ∧ ¬ m.v3 = m.b3 ∧ ¬ m.v3 = m.v4 ∧ ¬ m.v3 = m.v6 ∧ ¬ m.v3 = m.v7 ∧ ¬ m.v3 = m.b7 ∧ ¬ m.v3 = m.c8 ∧ ¬ m.b3 = m.c1 ∧ ¬ m.b3 = m.v2 ∧ ¬ m.b3 = m.b2 ∧ ¬ m.b3 = m.v3 ∧ ¬ m.b3 = m.v4 ∧ ¬ m.b3 = m.v6 ∧ ¬ m.b3 = m.v7 ∧ ¬ m.b3 = m.b7 ∧ ¬ m.b3 = m.c8 ∧ ¬ m.v4 = m.c1 ∧ ¬ m.v4 = m.v2 ∧ ¬ m.v4 = m.b2 ∧ ¬ m.v4 = m.v3 ∧ ¬ m.v4 = m.b3 ∧ ¬ m.v4 = m.v6 ∧ ¬ m.v4 = m.v7 ∧ ¬ m.v4 = m.b7 ∧ ¬ m.v4 = m.c8 ∧ ¬ m.v6 = m.c1 ∧ ¬ m.v6 = m.v2 ∧ ¬ m.v6 = m.b2 ∧ ¬ m.v6 = m.v3 ∧ ¬ m.v6 = m.b3 ∧ ¬ m.v6 = m.v4 ∧ ¬ m.v6 = m.v7 ∧ ¬ m.v6 = m.b7 ∧ ¬ m.v6 = m.c8 ∧ ¬ m.v7 = m.c1 ∧ ¬ m.v7 = m.v2 ∧ ¬ m.v7 = m.b2 ∧ ¬ m.v7 = m.v3 ∧ ¬ m.v7 = m.b3 ∧ ¬ m.v7 = m.v4 ∧ ¬ m.v7 = m.v6 ∧ ¬ m.v7 = m.b7 ∧ ¬ m.v7 = m.c8 ∧ ¬ m.b7 = m.c1 ∧ ¬ m.b7 = m.v2 ∧ ¬ m.b7 = m.b2 ∧ ¬ m.b7 = m.v3 ∧ ¬ m.b7 = m.b3 ∧ ¬ m.b7 = m.v4 ∧ ¬ m.b7 = m.v6 ∧ ¬ m.b7 = m.v7 ∧ ¬ m.b7 = m.c8 ∧ ¬ m.c8 = m.c1 ∧ ¬ m.c8 = m.v2 ∧ ¬ m.c8 = m.b2 ∧ ¬ m.c8 = m.v3 ∧ ¬ m.c8 = m.b3 ∧ ¬ m.c8 = m.v4 ∧ ¬ m.c8 = m.v6 ∧ ¬ m.c8 = m.v7 ∧ ¬ m.c8 = m.b7:=h
theorem NEs.out {m:VN} {sb:Nat} (h:NEs m sb):¬ sb = m.c1 ∧ ¬ m.c1 = sb ∧ ¬ sb = m.v2 ∧ ¬ m.v2 = sb ∧ ¬ sb = m.b2 ∧ ¬ m.b2 = sb ∧ ¬ sb = m.v3 ∧ ¬ m.v3 = sb ∧ ¬ sb = m.b3 ∧ ¬ m.b3 = sb ∧ ¬ sb = m.v4 ∧ ¬ m.v4 = sb ∧ ¬ sb = m.v6 ∧ ¬ m.v6 = sb ∧ ¬ sb = m.v7 ∧ ¬ m.v7 = sb ∧ ¬ sb = m.b7 ∧ ¬ m.b7 = sb ∧ ¬ sb = m.c8 ∧ ¬ m.c8 = sb:=h
theorem NEm.w_c1 {m:VN} (h:NEm m):¬ m.v2 = m.c1 ∧ ¬ m.b2 = m.c1 ∧ ¬ m.v3 = m.c1 ∧ ¬ m.b3 = m.c1 ∧ ¬ m.v4 = m.c1 ∧ ¬ m.v6 = m.c1 ∧ ¬ m.v7 = m.c1 ∧ ¬ m.b7 = m.c1 ∧ ¬ m.c8 = m.c1:=by
  have h:=h.out
  simp only [h,not_false_eq_true,and_self]
theorem NEm.w_v2 {m:VN} (h:NEm m):¬ m.c1 = m.v2 ∧ ¬ m.b2 = m.v2 ∧ ¬ m.v3 = m.v2 ∧ ¬ m.b3 = m.v2 ∧ ¬ m.v4 = m.v2 ∧ ¬ m.v6 = m.v2 ∧ ¬ m.v7 = m.v2 ∧ ¬ m.b7 = m.v2 ∧ ¬ m.c8 = m.v2:=by
  have h:=h.out
  simp only [h,not_false_eq_true,and_self]
theorem NEm.w_b2 {m:VN} (h:NEm m):¬ m.c1 = m.b2 ∧ ¬ m.v2 = m.b2 ∧ ¬ m.v3 = m.b2 ∧ ¬ m.b3 = m.b2 ∧ ¬ m.v4 = m.b2 ∧ ¬ m.v6 = m.b2 ∧ ¬ m.v7 = m.b2 ∧ ¬ m.b7 = m.b2 ∧ ¬ m.c8 = m.b2:=by
  have h:=h.out
  simp only [h,not_false_eq_true,and_self]
theorem NEm.w_v3 {m:VN} (h:NEm m):¬ m.c1 = m.v3 ∧ ¬ m.v2 = m.v3 ∧ ¬ m.b2 = m.v3 ∧ ¬ m.b3 = m.v3 ∧ ¬ m.v4 = m.v3 ∧ ¬ m.v6 = m.v3 ∧ ¬ m.v7 = m.v3 ∧ ¬ m.b7 = m.v3 ∧ ¬ m.c8 = m.v3:=by
  have h:=h.out
  simp only [h,not_false_eq_true,and_self]
theorem NEm.w_b3 {m:VN} (h:NEm m):¬ m.c1 = m.b3 ∧ ¬ m.v2 = m.b3 ∧ ¬ m.b2 = m.b3 ∧ ¬ m.v3 = m.b3 ∧ ¬ m.v4 = m.b3 ∧ ¬ m.v6 = m.b3 ∧ ¬ m.v7 = m.b3 ∧ ¬ m.b7 = m.b3 ∧ ¬ m.c8 = m.b3:=by
  have h:=h.out
  simp only [h,not_false_eq_true,and_self]
theorem NEm.w_v4 {m:VN} (h:NEm m):¬ m.c1 = m.v4 ∧ ¬ m.v2 = m.v4 ∧ ¬ m.b2 = m.v4 ∧ ¬ m.v3 = m.v4 ∧ ¬ m.b3 = m.v4 ∧ ¬ m.v6 = m.v4 ∧ ¬ m.v7 = m.v4 ∧ ¬ m.b7 = m.v4 ∧ ¬ m.c8 = m.v4:=by
  have h:=h.out
  simp only [h,not_false_eq_true,and_self]
theorem NEm.w_v7 {m:VN} (h:NEm m):¬ m.c1 = m.v7 ∧ ¬ m.v2 = m.v7 ∧ ¬ m.b2 = m.v7 ∧ ¬ m.v3 = m.v7 ∧ ¬ m.b3 = m.v7 ∧ ¬ m.v4 = m.v7 ∧ ¬ m.v6 = m.v7 ∧ ¬ m.b7 = m.v7 ∧ ¬ m.c8 = m.v7:=by
  have h:=h.out
  simp only [h,not_false_eq_true,and_self]
theorem NEm.w_b7 {m:VN} (h:NEm m):¬ m.c1 = m.b7 ∧ ¬ m.v2 = m.b7 ∧ ¬ m.b2 = m.b7 ∧ ¬ m.v3 = m.b7 ∧ ¬ m.b3 = m.b7 ∧ ¬ m.v4 = m.b7 ∧ ¬ m.v6 = m.b7 ∧ ¬ m.v7 = m.b7 ∧ ¬ m.c8 = m.b7:=by
  have h:=h.out
  simp only [h,not_false_eq_true,and_self]
theorem NEm.w_c8 {m:VN} (h:NEm m):¬ m.c1 = m.c8 ∧ ¬ m.v2 = m.c8 ∧ ¬ m.b2 = m.c8 ∧ ¬ m.v3 = m.c8 ∧ ¬ m.b3 = m.c8 ∧ ¬ m.v4 = m.c8 ∧ ¬ m.v6 = m.c8 ∧ ¬ m.v7 = m.c8 ∧ ¬ m.b7 = m.c8:=by
  have h:=h.out
  simp only [h,not_false_eq_true,and_self]
theorem NEs.l {m:VN} {sb:Nat} (h:NEs m sb):¬ sb = m.c1 ∧ ¬ sb = m.v2 ∧ ¬ sb = m.b2 ∧ ¬ sb = m.v3 ∧ ¬ sb = m.b3 ∧ ¬ sb = m.v4 ∧ ¬ sb = m.v6 ∧ ¬ sb = m.v7 ∧ ¬ sb = m.b7 ∧ ¬ sb = m.c8:=by
  have h:=h.out
  simp only [h,not_false_eq_true,and_self]
theorem NEs.r {m:VN} {sb:Nat} (h:NEs m sb):¬ m.c1 = sb ∧ ¬ m.v2 = sb ∧ ¬ m.b2 = sb ∧ ¬ m.v3 = sb ∧ ¬ m.b3 = sb ∧ ¬ m.v4 = sb ∧ ¬ m.v6 = sb ∧ ¬ m.v7 = sb ∧ ¬ m.b7 = sb ∧ ¬ m.c8 = sb:=by
  have h:=h.out
  simp only [h,not_false_eq_true,and_self]
structure TM (m:VN) (nx:List (List Int)) (s:TS) (H:Hp):Prop where
  h1:H m.c1 = some [.int .i64 s.cnt]
  h2:H m.v2 = some [.sl m.b2 1 0 nx.length m.k2]
  g2:H m.b2 = some (cat cI s.num ++ zrP m.j2 .any)
  h3:H m.v3 = some [.sl m.b3 1 0 nx.length m.k3]
  g3:H m.b3 = some (cat cI s.low ++ zrP m.j3 .any)
  h6:H m.v6 = some [.fn 104 (m.args nx)]
  h7:H m.v7 = some [.sl m.b7 1 0 nx.length m.k7]
  g7:H m.b7 = some (cat cI s.part ++ zrP m.j7 .any)
  h8:H m.c8 = some [.int .i64 s.pts]
  h4:∃ (sb sk:Nat) (jl:List D),H m.v4 = some [.sl sb 1 0 s.stk.length sk] ∧ H sb = some (cat cI s.stk ++ jl) ∧ s.stk.length ≤ sk ∧ sk ≤ s.stk.length + jl.length ∧ NEs m sb
structure TMw (m:VN) (nx:List (List Int)) (s:TS) (H:Hp):Prop where
  h1:H m.c1 = some [.int .i64 s.cnt]
  h2:H m.v2 = some [.sl m.b2 1 0 nx.length m.k2]
  g2:H m.b2 = some (cat cI s.num ++ zrP m.j2 .any)
  h3:H m.v3 = some [.sl m.b3 1 0 nx.length m.k3]
  g3:H m.b3 = some (cat cI s.low ++ zrP m.j3 .any)
  h6:H m.v6 = some [.fn 104 (m.args nx)]
  h7:H m.v7 = some [.sl m.b7 1 0 nx.length m.k7]
  g7:H m.b7 = some (cat cI s.part ++ zrP m.j7 .any)
  h8:H m.c8 = some [.int .i64 s.pts]
  h4:(∃ (sb sk:Nat) (jl:List D),H m.v4 = some [.sl sb 1 0 s.stk.length sk] ∧ H sb = some (cat cI s.stk ++ jl) ∧ s.stk.length ≤ sk ∧ sk ≤ s.stk.length + jl.length ∧ NEs m sb) ∨ (s.stk = [] ∧ H m.v4 = some [.nil])
theorem TM.w {m:VN} {nx:List (List Int)} {s:TS} {H:Hp} (h:TM m nx s H):TMw m nx s H:=⟨h.h1,h.h2,h.g2,h.h3,h.g3,h.h6,h.h7,h.g7,h.h8,.inl h.h4⟩
theorem zaez:∀ {xs ys:List Int},cat cI xs = cat cI ys → xs = ys
  | [],[],_=>rfl
  | [],y :: ys,h=>by rw [Xm] at h;cases h
  | x :: xs,[],h=>by rw [Xm] at h;cases h
  | x :: xs,y :: ys,h=>by
    rw [Xm,Xm] at h
    simp only [cI,List.cons_append,List.nil_append,List.cons.injEq,D.int.injEq,true_and] at h
    rw [h.1,zaez h.2]
theorem TMw.uniq {m:VN} {nx:List (List Int)} {s t:TS} {H:Hp} (h:TMw m nx s H) (k:TMw m nx t H):s = t:=by
  obtain ⟨h1,h2,g2,h3,g3,h6,h7,g7,h8,h4⟩:=h
  obtain ⟨k1,k2,q2,k3,q3,k6,k7,q7,k8,k4⟩:=k
  have e4:s.stk = t.stk:=by
    rcases h4 with ⟨sb,sk,jl,h4,g4,_⟩ | ⟨e,h4⟩ <;> rcases k4 with ⟨sb',sk',jl',k4,q4,_⟩ | ⟨e',k4⟩ <;> rw [h4] at k4
    · simp only [Option.some.injEq,List.cons.injEq,D.sl.injEq,and_true,true_and] at k4
      obtain ⟨e1,e2,e3⟩:=k4
      subst e1
      rw [g4] at q4
      exact zaez (List.append_inj (Option.some.inj q4) (by rw [Qx,Qx,e2])).1
    · simp at k4
    · simp at k4
    · rw [e,e']
  rw [h1] at k1;rw [g2] at q2;rw [g3] at q3;rw [g7] at q7;rw [h8] at k8
  simp only [Option.some.injEq,List.cons.injEq,D.int.injEq,and_true,true_and] at k1 k8
  have f2:=zaez (List.append_cancel_right (Option.some.inj q2))
  have f3:=zaez (List.append_cancel_right (Option.some.inj q3))
  have f7:=zaez (List.append_cancel_right (Option.some.inj q7))
  cases s;cases t
  simp_all
def tmH (m:VN) (nx:List (List Int)) (s:TS):Hp :=
  let sb:=m.c1 + m.v2 + m.b2 + m.v3 + m.b3 + m.v4 + m.v6 + m.v7 + m.b7 + m.c8 + 1
  upd (upd (upd (upd (upd (upd (upd (upd (upd (upd (upd (fun _=>none) m.c1 (some [.int .i64 s.cnt])) m.v2 (some [.sl m.b2 1 0 nx.length m.k2])) m.b2 (some (cat cI s.num ++ zrP m.j2 .any)))
    m.v3 (some [.sl m.b3 1 0 nx.length m.k3])) m.b3 (some (cat cI s.low ++ zrP m.j3 .any))) m.v6 (some [.fn 104 (m.args nx)])) m.v7 (some [.sl m.b7 1 0 nx.length m.k7])) m.b7 (some (cat cI s.part ++ zrP m.j7 .any)))
    m.c8 (some [.int .i64 s.pts])) m.v4 (some [.sl sb 1 0 s.stk.length s.stk.length])) sb (some (cat cI s.stk))
theorem tmH_ok {m:VN} (hne:NEm m) (nx:List (List Int)) (s:TS):TM m nx s (tmH m nx s):=by
  have hsb:NEs m (m.c1 + m.v2 + m.b2 + m.v3 + m.b3 + m.v4 + m.v6 + m.v7 + m.b7 + m.c8 + 1):=by unfold NEs;omega
  unfold NEm at hne
  have hs2:=hsb
  unfold NEs at hs2
  refine ⟨?_,?_,?_,?_,?_,?_,?_,?_,?_,_,s.stk.length,[],?_,?_,Nat.le_refl _,by simp,hsb⟩ <;> simp only [tmH,upd,hne,hs2,if_false,if_true,List.append_nil]
def Ji (m:VN) (nx:List (List Int)) (f:Nat) (a:Int) (s:TS) (H:Hp):Prop:=TMw m nx s H ∧ (∃ G,May nx G a s) ∧ wh s.num ≤ f
open Classical in
noncomputable def vsel (m:VN) (nx:List (List Int)) (f:Nat) (a:Int) (H:Hp) (c:Any):Hp :=
  sel (fun H'=>∀ s,Ji m nx f a s H → TM m nx (visit nx f a s) H') (if h:∃ s,Ji m nx f a s H then tmH m nx (visit nx f a h.choose) else fun _=>none) c
theorem vsel_good {m:VN} (hne:NEm m) {nx:List (List Int)} {f:Nat} {a:Int} {H:Hp}:∀ s,Ji m nx f a s H → TM m nx (visit nx f a s) (open Classical in if h:∃ s,Ji m nx f a s H then tmH m nx (visit nx f a h.choose) else fun _=>none):=fun s h=>by
  have hex:∃ s,Ji m nx f a s H:=⟨s,h⟩
  rw [dif_pos hex,h.1.uniq hex.choose_spec.1]
  exact tmH_ok hne nx _
theorem vsel_ok {m:VN} (hne:NEm m) {nx:List (List Int)} {f:Nat} {a:Int} {s:TS} {H:Hp} (h:Ji m nx f a s H) (c:Any):TM m nx (visit nx f a s) (vsel m nx f a H c):=by
  have:=Jh (p:=fun H':Hp=>∀ s,Ji m nx f a s H → TM m nx (visit nx f a s) H') (vsel_good hne) c
  exact this s h
theorem ret_vis {fn:Func} (hfn:fn.results.toList = []) {m:VN} {nx:List (List Int)} {f:Nat} {a:Int} {s:TS} {H:Hp} {S:St} {e:Exit} (he:e = .ret ∨ e = .normal) (h:Ji m nx f a s H) (k:TM m nx (visit nx f a s) S.H) :
    retR Try.prog fn (fun c=>(.tup [],vsel m nx f a H c)) e S:=by
  have hg:∀ s',Ji m nx f a s' H → TM m nx (visit nx f a s') S.H:=fun s' h'=>by rw [h'.1.uniq h.1];exact k
  have key:∃ c:Any,(Ql Try.prog S fn.results.toList).1 ∧ resD (Ql Try.prog S fn.results.toList).2.1 = .tup [] ∧ ∀ b cs,vsel m nx f a H c b = some cs → (Ql Try.prog S fn.results.toList).2.2.H b = some cs :=
    ⟨⟨Hp,S.H⟩,by rw [hfn];simp [Ql],by rw [hfn];simp [Ql,resD],fun b cs hb=>by
      rw [hfn]
      simp only [Ql]
      unfold vsel at hb
      rw [sel_at (p:=fun H':Hp=>∀ s,Ji m nx f a s H → TM m nx (visit nx f a s) H') hg] at hb
      exact hb⟩
  rcases he with rfl | rfl
  · exact key
  · exact key
theorem loop_ok {nx:List (List Int)} (hx:Xp nx) {f:Nat} {a:Int} {s:TS} {G:Int → Prop} (hm:May nx G a s) (hf:wh s.num ≤ f + 1) :
    ∀ k,k ≤ (nth nx a.toNat).length → Lp nx G a s k (tLoop (visit nx f) a ((nth nx a.toNat).take k) (tPush a s)):=by
  intro k
  induction k with
  | zero=>intro _;rw [zakf];exact hm.push
  | succ k ih =>
    intro hk
    have h1:=ih (by omega)
    rw [zakg _ _ (by omega)]
    refine h1.step hx hm (by omega) fun hM=>?_
    have:=h1.wl
    exact visit_ok hx f _ _ _ hM (by omega)
noncomputable def visitCn (m:VN) (nx:List (List Int)) (f:Nat):Con:=.rel fun args H=>match args with
  | .int .i64 a :: rest=>(rest = m.args nx ∧ ∃ s,Ji m nx f a s H,fun c=>(.tup [],vsel m nx f a H c))
  | _=>(False,fun _=>(.any,H))
attribute [go_sem] visitCn VN.args
noncomputable def tfn:Ti:=(τ Try.prog 135).getD ⟨0,0,false,[],.bool⟩
@[go_sem] theorem ty_fn:τ Try.prog 135 = some tfn:=by kernel_rfl
@[go_sem] theorem tfn_agg:tfn.agg = false:=by kernel_rfl
@[go_sem] theorem tfn_size:tfn.size = 1:=by kernel_rfl
attribute [go_sem] VS stepS isLoad isApp snH AGL
def VisSpec (m:VN) (nx:List (List Int)) (f:Nat):Prop:=∀ (a:Int) (s:TS) (H:Hp),Ji m nx f a s H → SpecR Try.prog 104 (.int .i64 a :: m.args nx) H (fun c=>(.tup [],vsel m nx f a H c))
theorem visitCn_ok {m:VN} {nx:List (List Int)} {f:Nat} (ih:VisSpec m nx f):ConOk Try.prog 104 (visitCn m nx f):=by
  refine ⟨Qp Try.func104 (by decide) rfl,fun args H h=>?_⟩
  revert h
  dsimp only
  split
  · rintro ⟨rfl,s,h⟩
    exact ih _ s H h
  · intro h
    exact h.elim
end Go.Proofs.Ytnfldmfamnhpcaa.Vm

