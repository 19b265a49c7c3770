/-
  FnExactParseAutomaton: the walk of the law. Condition: the library's variables hold what the program's text lays.
-/
import Derived.Test.YtiilmjojffjhlaaGreatDoorPN4
import Derived.Test.YtiilmjojffjhlaaGreatDoorPN6
namespace Go.Proofs.YtiilmjojffjhlaaGreatDoor.Vm
open Go
set_option linter.unusedVariables false
set_option linter.unusedSimpArgs false
set_option maxRecDepth 200000

theorem zakl {sz:Nat} {μ:Nat → Nat} {I:Nat → Prop} {w:World} {v:Value} {f:List Nat} (h:Rep μ I w .nil v f):Rep μ I w (.fr sz 0 []) v f:=by
  simp only [Rep] at h ⊢
  exact ⟨Nat.zero_le _,by simp,.inl ⟨trivial,h.1,h.2⟩⟩
theorem rep_nil3P {bo:Bool} {μ:Nat → Nat} {I:Nat → Prop} {w:World} {v:Value} {f:List Nat} (h2:Rep μ I w (.tup [.st [.nil,.nil,.nil],.bool bo]) v f):Rep μ I w (.tup [.st [.fr 1 0 [],.fr 1 0 [],.fr 4 0 []],.bool bo]) v f:=by
  rw [Rep] at h2 ⊢
  obtain ⟨vs,e1,h2⟩:=h2
  refine ⟨vs,e1,?_⟩
  rw [RepL] at h2 ⊢
  obtain ⟨v1,vs1,f1,f2,e2,e3,r1,r2⟩:=h2
  refine ⟨v1,vs1,f1,f2,e2,e3,?_,r2⟩
  rw [Rep] at r1 ⊢
  obtain ⟨us,e4,r1⟩:=r1
  refine ⟨us,e4,?_⟩
  rw [RepL] at r1 ⊢
  obtain ⟨u1,us1,g1,g2,k1,k2,s1,r1⟩:=r1
  refine ⟨u1,us1,g1,g2,k1,k2,zakl s1,?_⟩
  rw [RepL] at r1 ⊢
  obtain ⟨u2,us2,g3,g4,k3,k4,s2,r1⟩:=r1
  refine ⟨u2,us2,g3,g4,k3,k4,zakl s2,?_⟩
  rw [RepL] at r1 ⊢
  obtain ⟨u3,us3,g5,g6,k5,k6,s3,r1⟩:=r1
  exact ⟨u3,us3,g5,g6,k5,k6,zakl s3,r1⟩
def oI (o:Option Aut3):List Int:=match o with | some q=>q.1 | none=>[]
def oB (o:Option Aut3):List Bool:=match o with | some q=>q.2.1 | none=>[]
def oT (o:Option Aut3):List Tr4:=match o with | some q=>q.2.2 | none=>[]
def dF (o:Option Aut3):D:=.tup [.st [fr 1 cI (oI o),fr 1 cB (oB o),fr 4 cT (oT o)],.bool o.isSome]
theorem rep_dF {o:Option Aut3} {μ:Nat → Nat} {I:Nat → Prop} {w:World} {v:Value} {f:List Nat} (h:Rep μ I w (dA o) v f):Rep μ I w (dF o) v f:=by
  cases o with
  | some q=>exact h
  | none =>
    have h2:=rep_nil3P h
    simpa [dF,oI,oB,oT,fr,cat] using h2
theorem Pure.dF {f:FuncId} {args:List D} {o:Option Aut3} (h:Pure Tryz.prog f args (dA o)):Pure Tryz.prog f args (dF o):=fun μ w vs hb hr =>
  (h μ w vs hb hr).mono fun e w' ⟨v,fl,h1,h2,h3⟩=>⟨v,fl,h1,rep_dF h2,h3⟩
theorem PureI.dF {f:FuncId} {args:List D} {o:Option Aut3} (h:PureI Tryz.prog LibOk f args (dA o)):PureI Tryz.prog LibOk f args (dF o):=fun μ w vs hI hb hr =>
  (h μ w vs hI hb hr).mono fun e w' ⟨v,fl,h1,h2,h3⟩=>⟨v,fl,h1,rep_dF h2,h3⟩
theorem specPAF (s:List UInt8) (hl:s.length ≤ 1048576):Pure Tryz.prog 6 [.str s] (.tup [.st [fr 1 cI (oI (ansI s)),fr 1 cB (oB (ansI s)),fr 4 cT (oT (ansI s))],.bool (ansI s).isSome]):=by
  have:=(specPA_pure s hl).dF
  rw [ans_same] at this
  exact this
theorem implPAF (s:List UInt8) (hl:s.length ≤ 1048576):PureI Tryz.prog LibOk 7 [.str s] (.tup [.st [fr 1 cI (oI (ansI s)),fr 1 cB (oB (ansI s)),fr 4 cT (oT (ansI s))],.bool (ansI s).isSome]):=(implPA_pure s hl).dF
noncomputable def specPAFC:Con:=.pure fun
  | [.str s]=>((s.length ≤ 1048576),.tup [.st [fr 1 cI (oI (ansI s)),fr 1 cB (oB (ansI s)),fr 4 cT (oT (ansI s))],.bool (ansI s).isSome])
  | _=>(False,.any)
attribute [go_sem] specPAFC
theorem specPAFC_ok:ConOk Tryz.prog 6 specPAFC:=by
  refine ⟨Qo Tryz.func6 (by decide) rfl,fun args h=>?_⟩
  revert h
  dsimp only
  split
  · intro h
    have hl:=h
    skip
    exact ⟨specPAF _ hl,by simp [go_sem]⟩
  · intro h
    exact h.elim
noncomputable def Γpq1:FuncId → Con:=ext Γpn7 6 specPAFC
attribute [go_sem] Γpq1
theorem Γpq1_ok:∀ g,ConOk Tryz.prog g (Γpq1 g):=Qn Xi specPAFC_ok

noncomputable def implPAFC:Con:=.pure fun
  | [.str s]=>((s.length ≤ 1048576),.tup [.st [fr 1 cI (oI (ansI s)),fr 1 cB (oB (ansI s)),fr 4 cT (oT (ansI s))],.bool (ansI s).isSome])
  | _=>(False,.any)
attribute [go_sem] implPAFC
theorem implPAFC_ok:ConI Tryz.prog LibOk 7 implPAFC:=by
  refine ⟨Qo Tryz.func7 (by decide) rfl,fun args h=>?_⟩
  revert h
  dsimp only
  split
  · intro h
    have hl:=h
    skip
    exact ⟨implPAF _ hl,by simp [go_sem]⟩
  · intro h
    exact h.elim
end Go.Proofs.YtiilmjojffjhlaaGreatDoor.Vm

