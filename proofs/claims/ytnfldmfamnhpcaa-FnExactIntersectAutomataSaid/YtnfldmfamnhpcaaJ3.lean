/-
  The closure of impl.components: one visit. No conditions.
-/
import Derived.Test.YtnfldmfamnhpcaaJ1
import Derived.Test.YtnfldmfamnhpcaaRow
import Derived.Test.YtnfldmfamnhpcaaVm15
namespace Go.Proofs.Ytnfldmfamnhpcaa.Vm
open Go
open List renaming replicate → zrP
set_option linter.unusedVariables false
set_option linter.unusedSimpArgs false
set_option maxRecDepth 200000

structure VN where
  c1:Nat
  v2:Nat
  b2:Nat
  k2:Nat
  j2:Nat
  v3:Nat
  b3:Nat
  k3:Nat
  j3:Nat
  v4:Nat
  v6:Nat
  v7:Nat
  b7:Nat
  k7:Nat
  j7:Nat
  c8:Nat
def VN.args (m:VN) (nx:List (List Int)):List D:=[.ptr m.c1 0,.ptr m.v2 0,.ptr m.v3 0,.ptr m.v4 0,.pd [li cL nx],.ptr m.v6 0,.ptr m.v7 0,.ptr m.c8 0]
def NEm (m:VN):Prop:=¬ m.c1 = m.v2 ∧ ¬ m.c1 = m.b2 ∧ ¬ m.c1 = m.v3 ∧ ¬ m.c1 = m.b3 ∧ ¬ m.c1 = m.v4 ∧ ¬ m.c1 = m.v6 ∧ ¬ m.c1 = m.v7 ∧ ¬ m.c1 = m.b7 ∧ ¬ m.c1 = m.c8 ∧ ¬ m.v2 = m.c1 ∧ ¬ m.v2 = m.b2 ∧ ¬ m.v2 = m.v3 ∧ ¬ m.v2 = m.b3 ∧ ¬ m.v2 = m.v4 ∧ ¬ m.v2 = m.v6 ∧ ¬ m.v2 = m.v7 ∧ ¬ m.v2 = m.b7 ∧ ¬ m.v2 = m.c8 ∧ ¬ m.b2 = m.c1 ∧ ¬ m.b2 = m.v2 ∧ ¬ m.b2 = m.v3 ∧ ¬ m.b2 = m.b3 ∧ ¬ m.b2 = m.v4 ∧ ¬ m.b2 = m.v6 ∧ ¬ m.b2 = m.v7 ∧ ¬ m.b2 = m.b7 ∧ ¬ m.b2 = m.c8 ∧ ¬ m.v3 = m.c1 ∧ ¬ m.v3 = m.v2 ∧ ¬ m.v3 = m.b2 ∧ ¬ m.v3 = m.b3 ∧ ¬ m.v3 = m.v4 ∧ ¬ m.v3 = m.v6 ∧ ¬ m.v3 = m.v7 ∧ ¬ m.v3 = m.b7 ∧ ¬ m.v3 = m.c8 ∧ ¬ m.b3 = m.c1 ∧ ¬ m.b3 = m.v2 ∧ ¬ m.b3 = m.b2 ∧ ¬ m.b3 = m.v3 ∧ ¬ m.b3 = m.v4 ∧ ¬ m.b3 = m.v6 ∧ ¬ m.b3 = m.v7 ∧ ¬ m.b3 = m.b7 ∧ ¬ m.b3 = m.c8 ∧ ¬ m.v4 = m.c1 ∧ ¬ m.v4 = m.v2 ∧ ¬ m.v4 = m.b2 ∧ ¬ m.v4 = m.v3 ∧ ¬ m.v4 = m.b3 ∧ ¬ m.v4 = m.v6 ∧ ¬ m.v4 = m.v7 ∧ ¬ m.v4 = m.b7 ∧ ¬ m.v4 = m.c8 ∧ ¬ m.v6 = m.c1 ∧ ¬ m.v6 = m.v2 ∧ ¬ m.v6 = m.b2 ∧ ¬ m.v6 = m.v3 ∧ ¬ m.v6 = m.b3 ∧ ¬ m.v6 = m.v4 ∧ ¬ m.v6 = m.v7 ∧ ¬ m.v6 = m.b7 ∧ ¬ m.v6 = m.c8 ∧ ¬ m.v7 = m.c1 ∧ ¬ m.v7 = m.v2 ∧ ¬ m.v7 = m.b2 ∧ ¬ m.v7 = m.v3 ∧ ¬ m.v7 = m.b3 ∧ ¬ m.v7 = m.v4 ∧ ¬ m.v7 = m.v6 ∧ ¬ m.v7 = m.b7 ∧ ¬ m.v7 = m.c8 ∧ ¬ m.b7 = m.c1 ∧ ¬ m.b7 = m.v2 ∧ ¬ m.b7 = m.b2 ∧ ¬ m.b7 = m.v3 ∧ ¬ m.b7 = m.b3 ∧ ¬ m.b7 = m.v4 ∧ ¬ m.b7 = m.v6 ∧ ¬ m.b7 = m.v7 ∧ ¬ m.b7 = m.c8 ∧ ¬ m.c8 = m.c1 ∧ ¬ m.c8 = m.v2 ∧ ¬ m.c8 = m.b2 ∧ ¬ m.c8 = m.v3 ∧ ¬ m.c8 = m.b3 ∧ ¬ m.c8 = m.v4 ∧ ¬ m.c8 = m.v6 ∧ ¬ m.c8 = m.v7 ∧ ¬ m.c8 = m.b7
def NEs (m:VN) (sb:Nat):Prop:=¬ sb = m.c1 ∧ ¬ m.c1 = sb ∧ ¬ sb = m.v2 ∧ ¬ m.v2 = sb ∧ ¬ sb = m.b2 ∧ ¬ m.b2 = sb ∧ ¬ sb = m.v3 ∧ ¬ m.v3 = sb ∧ ¬ sb = m.b3 ∧ ¬ m.b3 = sb ∧ ¬ sb = m.v4 ∧ ¬ m.v4 = sb ∧ ¬ sb = m.v6 ∧ ¬ m.v6 = sb ∧ ¬ sb = m.v7 ∧ ¬ m.v7 = sb ∧ ¬ sb = m.b7 ∧ ¬ m.b7 = sb ∧ ¬ sb = m.c8 ∧ ¬ m.c8 = sb
theorem NEm.out {m:VN} (h:NEm m):¬ m.c1 = m.v2 ∧ ¬ m.c1 = m.b2 ∧ ¬ m.c1 = m.v3 ∧ ¬ m.c1 = m.b3 ∧ ¬ m.c1 = m.v4 ∧ ¬ m.c1 = m.v6 ∧ ¬ m.c1 = m.v7 ∧ ¬ m.c1 = m.b7 ∧ ¬ m.c1 = m.c8 ∧ ¬ m.v2 = m.c1 ∧ ¬ m.v2 = m.b2 ∧ ¬ m.v2 = m.v3 ∧ ¬ m.v2 = m.b3 ∧ ¬ m.v2 = m.v4 ∧ ¬ m.v2 = m.v6 ∧ ¬ m.v2 = m.v7 ∧ ¬ m.v2 = m.b7 ∧ ¬ m.v2 = m.c8 ∧ ¬ m.b2 = m.c1 ∧ ¬ m.b2 = m.v2 ∧ ¬ m.b2 = m.v3 ∧ ¬ m.b2 = m.b3 ∧ ¬ m.b2 = m.v4 ∧ ¬ m.b2 = m.v6 ∧ ¬ m.b2 = m.v7 ∧ ¬ m.b2 = m.b7 ∧ ¬ m.b2 = m.c8 ∧ ¬ m.v3 = m.c1 ∧ ¬ m.v3 = m.v2 ∧ ¬ m.v3 = m.b2 ∧ ¬ m.v3 = m.b3 ∧ ¬ m.v3 = m.v4 ∧ ¬ m.v3 = m.v6 ∧ ¬ m.v3 = m.v7 ∧ ¬ m.v3 = m.b7 ∧ ¬ m.v3 = m.c8 ∧ ¬ m.b3 = m.c1 ∧ ¬ m.b3 = m.v2 ∧ ¬ m.b3 = m.b2 ∧ ¬ m.b3 = m.v3 ∧ ¬ m.b3 = m.v4 ∧ ¬ m.b3 = m.v6 ∧ ¬ m.b3 = m.v7 ∧ ¬ m.b3 = m.b7 ∧ ¬ m.b3 = m.c8 ∧ ¬ m.v4 = m.c1 ∧ ¬ m.v4 = m.v2 ∧ ¬ m.v4 = m.b2 ∧ ¬ m.v4 = m.v3 ∧ ¬ m.v4 = m.b3 ∧ ¬ m.v4 = m.v6 ∧ ¬ m.v4 = m.v7 ∧ ¬ m.v4 = m.b7 ∧ ¬ m.v4 = m.c8 ∧ ¬ m.v6 = m.c1 ∧ ¬ m.v6 = m.v2 ∧ ¬ m.v6 = m.b2 ∧ ¬ m.v6 = m.v3 ∧ ¬ m.v6 = m.b3 ∧ ¬ m.v6 = m.v4 ∧ ¬ m.v6 = m.v7 ∧ ¬ m.v6 = m.b7 ∧ ¬ m.v6 = m.c8 ∧ ¬ m.v7 = m.c1 ∧ ¬ m.v7 = m.v2 ∧ ¬ m.v7 = m.b2 ∧ ¬ m.v7 = m.v3 ∧ ¬ m.v7 = m.b3 ∧ ¬ m.v7 = m.v4 ∧ ¬ m.v7 = m.v6 ∧ ¬ m.v7 = m.b7 ∧ ¬ m.v7 = m.c8 ∧ ¬ m.b7 = m.c1 ∧ ¬ m.b7 = m.v2 ∧ ¬ m.b7 = m.b2 ∧ ¬ m.b7 = m.v3 ∧ ¬ m.b7 = m.b3 ∧ ¬ m.b7 = m.v4 ∧ ¬ m.b7 = m.v6 ∧ ¬ m.b7 = m.v7 ∧ ¬ m.b7 = m.c8 ∧ ¬ m.c8 = m.c1 ∧ ¬ m.c8 = m.v2 ∧ ¬ m.c8 = m.b2 ∧ ¬ m.c8 = m.v3 ∧ ¬ m.c8 = m.b3 ∧ ¬ m.c8 = m.v4 ∧ ¬ m.c8 = m.v6 ∧ ¬ m.c8 = m.v7 ∧ ¬ m.c8 = m.b7:=h
theorem NEs.out {m:VN} {sb:Nat} (h:NEs m sb):¬ sb = m.c1 ∧ ¬ m.c1 = sb ∧ ¬ sb = m.v2 ∧ ¬ m.v2 = sb ∧ ¬ sb = m.b2 ∧ ¬ m.b2 = sb ∧ ¬ sb = m.v3 ∧ ¬ m.v3 = sb ∧ ¬ sb = m.b3 ∧ ¬ m.b3 = sb ∧ ¬ sb = m.v4 ∧ ¬ m.v4 = sb ∧ ¬ sb = m.v6 ∧ ¬ m.v6 = sb ∧ ¬ sb = m.v7 ∧ ¬ m.v7 = sb ∧ ¬ sb = m.b7 ∧ ¬ m.b7 = sb ∧ ¬ sb = m.c8 ∧ ¬ m.c8 = sb:=h
theorem NEs.l {m:VN} {sb:Nat} (h:NEs m sb):¬ sb = m.c1 ∧ ¬ sb = m.v2 ∧ ¬ sb = m.b2 ∧ ¬ sb = m.v3 ∧ ¬ sb = m.b3 ∧ ¬ sb = m.v4 ∧ ¬ sb = m.v6 ∧ ¬ sb = m.v7 ∧ ¬ sb = m.b7 ∧ ¬ sb = m.c8:=by
  have h:=h.out
  simp only [h,not_false_eq_true,and_self]
theorem NEs.r {m:VN} {sb:Nat} (h:NEs m sb):¬ m.c1 = sb ∧ ¬ m.v2 = sb ∧ ¬ m.b2 = sb ∧ ¬ m.v3 = sb ∧ ¬ m.b3 = sb ∧ ¬ m.v4 = sb ∧ ¬ m.v6 = sb ∧ ¬ m.v7 = sb ∧ ¬ m.b7 = sb ∧ ¬ m.c8 = sb:=by
  have h:=h.out
  simp only [h,not_false_eq_true,and_self]
structure TM (m:VN) (nx:List (List Int)) (s:TS) (H:Hp):Prop where
  h1:H m.c1 = some [.int .i64 s.cnt]
  h2:H m.v2 = some [.sl m.b2 1 0 nx.length m.k2]
  g2:H m.b2 = some (cat cI s.num ++ zrP m.j2 .any)
  h3:H m.v3 = some [.sl m.b3 1 0 nx.length m.k3]
  g3:H m.b3 = some (cat cI s.low ++ zrP m.j3 .any)
  h6:H m.v6 = some [.fn 104 (m.args nx)]
  h7:H m.v7 = some [.sl m.b7 1 0 nx.length m.k7]
  g7:H m.b7 = some (cat cI s.part ++ zrP m.j7 .any)
  h8:H m.c8 = some [.int .i64 s.pts]
  h4:∃ (sb sk:Nat) (jl:List D),H m.v4 = some [.sl sb 1 0 s.stk.length sk] ∧ H sb = some (cat cI s.stk ++ jl) ∧ s.stk.length ≤ sk ∧ sk ≤ s.stk.length + jl.length ∧ NEs m sb
structure TMw (m:VN) (nx:List (List Int)) (s:TS) (H:Hp):Prop where
  h1:H m.c1 = some [.int .i64 s.cnt]
  h2:H m.v2 = some [.sl m.b2 1 0 nx.length m.k2]
  g2:H m.b2 = some (cat cI s.num ++ zrP m.j2 .any)
  h3:H m.v3 = some [.sl m.b3 1 0 nx.length m.k3]
  g3:H m.b3 = some (cat cI s.low ++ zrP m.j3 .any)
  h6:H m.v6 = some [.fn 104 (m.args nx)]
  h7:H m.v7 = some [.sl m.b7 1 0 nx.length m.k7]
  g7:H m.b7 = some (cat cI s.part ++ zrP m.j7 .any)
  h8:H m.c8 = some [.int .i64 s.pts]
  h4:(∃ (sb sk:Nat) (jl:List D),H m.v4 = some [.sl sb 1 0 s.stk.length sk] ∧ H sb = some (cat cI s.stk ++ jl) ∧ s.stk.length ≤ sk ∧ sk ≤ s.stk.length + jl.length ∧ NEs m sb) ∨ (s.stk = [] ∧ H m.v4 = some [.nil])
theorem TM.w {m:VN} {nx:List (List Int)} {s:TS} {H:Hp} (h:TM m nx s H):TMw m nx s H:=⟨h.h1,h.h2,h.g2,h.h3,h.g3,h.h6,h.h7,h.g7,h.h8,.inl h.h4⟩
theorem zaca:∀ {xs ys:List Int},cat cI xs = cat cI ys → xs = ys
  | [],[],_=>rfl
  | [],y :: ys,h=>by rw [Xt] at h;cases h
  | x :: xs,[],h=>by rw [Xt] at h;cases h
  | x :: xs,y :: ys,h=>by
    rw [Xt,Xt] at h
    simp only [cI,List.cons_append,List.nil_append,List.cons.injEq,D.int.injEq,true_and] at h
    rw [h.1,zaca h.2]
theorem TMw.uniq {m:VN} {nx:List (List Int)} {s t:TS} {H:Hp} (h:TMw m nx s H) (k:TMw m nx t H):s = t:=by
  obtain ⟨h1,h2,g2,h3,g3,h6,h7,g7,h8,h4⟩:=h
  obtain ⟨k1,k2,q2,k3,q3,k6,k7,q7,k8,k4⟩:=k
  have e4:s.stk = t.stk:=by
    rcases h4 with ⟨sb,sk,jl,h4,g4,_⟩ | ⟨e,h4⟩ <;> rcases k4 with ⟨sb',sk',jl',k4,q4,_⟩ | ⟨e',k4⟩ <;> rw [h4] at k4
    · simp only [Option.some.injEq,List.cons.injEq,D.sl.injEq,and_true,true_and] at k4
      obtain ⟨e1,e2,e3⟩:=k4
      subst e1
      rw [g4] at q4
      exact zaca (List.append_inj (Option.some.inj q4) (by rw [Qu,Qu,e2])).1
    · simp at k4
    · simp at k4
    · rw [e,e']
  rw [h1] at k1;rw [g2] at q2;rw [g3] at q3;rw [g7] at q7;rw [h8] at k8
  simp only [Option.some.injEq,List.cons.injEq,D.int.injEq,and_true,true_and] at k1 k8
  have f2:=zaca (List.append_cancel_right (Option.some.inj q2))
  have f3:=zaca (List.append_cancel_right (Option.some.inj q3))
  have f7:=zaca (List.append_cancel_right (Option.some.inj q7))
  cases s;cases t
  simp_all
open Classical in
attribute [go_sem] VN.args
noncomputable def tfn:Ti:=(τ Try.prog 135).getD ⟨0,0,false,[],.bool⟩
@[go_sem] theorem ty_fn:τ Try.prog 135 = some tfn:=by kernel_rfl
@[go_sem] theorem tfn_agg:tfn.agg = false:=by kernel_rfl
@[go_sem] theorem tfn_size:tfn.size = 1:=by kernel_rfl
attribute [go_sem] VS stepS isLoad isApp snH AGL
end Go.Proofs.Ytnfldmfamnhpcaa.Vm

