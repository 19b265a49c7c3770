/-
  FindWord drawn; what lives has a word. No conditions.
-/
import Derived.Test.YtkjimmkemnmajaaLM
import Derived.Test.YtkjimmkemnmajaaY9
import Derived.Test.YtkjimmkemnmajaaSM4
namespace Go.Proofs.Ytkjimmkemnmajaa.Vm
open Go
open List renaming getD_eq_getElem?_getD → zg,drop_one → zd
noncomputable section
set_option linter.unusedVariables false
set_option linter.unusedSimpArgs false
set_option maxRecDepth 200000

@[go_sem] def Wo:Au → D:=sA
theorem zakk (x:Au):dat (Wo x) = Wo x:=by simp [go_sem]
def zaau (xs:List UInt8):Au → Prop:=fun x=>AuM x
def zabr (xs:List UInt8) (x:(Au) × D):Prop:=zaau xs x.1 ∧ dat x.2 = Wo x.1
def zaat (xs:List UInt8) (c:Any):(Au) × D:=sel (zabr xs) ((([],[],[]):Au),Wo (([],[],[]))) c
def zabe (xs:List UInt8) (c:Any):Au:=(zaat xs c).1
theorem zafd (xs:List UInt8)  (c:Any):zabr xs (zaat xs c):=by
  have hx:zaau xs (([],[],[])):=AuM.nil
  exact Ji (p:=zabr xs) (x0:=((([],[],[]):Au),Wo (([],[],[])))) ⟨hx,zakk _⟩ c
theorem zaoz (xs:List UInt8)  (c:Any):zaau xs (zabe xs c):=(zafd xs  c).1
theorem zany (xs:List UInt8) {e_:Exit} {S_:St} (x:Au) (he_:e_ = .ret ∨ e_ = .normal)
    (h1:(Qk Try.prog S_ Try.f58.results.toList).1 ∧ dat (resD (Qk Try.prog S_ Try.f58.results.toList).2.1) = Wo x) (hg:zaau xs x) :
    retR Try.prog Try.f58 (fun c=>((zaat xs c).2,fun _=>none)) e_ S_ :=
  Jd (good:=zabr xs) (enc:=fun x:(Au) × D=>x.2) (x,resD (Qk Try.prog S_ Try.f58.results.toList).2.1) he_ ⟨h1.1,rfl⟩ ⟨hg,h1.2⟩
set_option maxHeartbeats 8000000 in
theorem zakj (xs:List UInt8)  : SpecR Try.prog 58 [li cY xs] (fun _=>none) (fun c=>((zaat xs c).2,fun _=>none)):=by
  refine SpecR.of_walk Try.func58 rfl (by simp [Try.f58]) fun B=>?_
  (repeat' (first
 | refine Qt ?_
 | refine Qc (id:=0) Γy29_ok [] (by kernel_rfl) ?_;simp [-zg,-zd,↓Qb,↓Qa,go_sem]
 | refine Qc (id:=1) Γy29_ok [] (by kernel_rfl) ?_;simp [-zg,-zd,↓Qb,↓Qa,go_sem];try ((intro c2);(have h2:AuM (zaaa xs c2):=zacd xs c2);(generalize (zaaa xs c2) = z at *))
 | (refine Qe ?_)
 | (refine Qs ?_;simp [-zg,-zd,↓Qb,↓Qa,go_sem])
 | (refine Qr ?_;simp [-zg,-zd,↓Qb,↓Qa,go_sem])
 | (refine Qu ?_;try simp [-zg,-zd,↓Qb,↓Qa,go_sem,Try.results58])
 | (intro hx;refine zA ?_)
 | (intro hx;change retR _ _ _ _ _)
 | (refine ⟨?_,?_⟩ <;> refine zA ?_)
 | (intro hx;constructor <;> intro hs)
 | (constructor <;> intro hs)
 | (refine ⟨?_,fun hs=>?_⟩;refine zA ?_)
 | (refine ⟨fun hs=>?_,?_⟩;rotate_left;refine zA ?_;rotate_left)))
  all_goals (first
 | (refine zany _ (z) ?_ ?_ ?_;(first | exact Or.inl rfl | exact Or.inr rfl);(focus (simp [-zg,-zd,↓Qb,↓Qa,go_sem,Try.results58,dat,Xm,li];done));(focus ((exact h2);done)))
 | skip)
@[go_sem] def zafe:Con:=.rel fun args H=>match args with
  | [.list n_xs c_xs]=>((Is cY n_xs c_xs),fun c=>(Wo (zabe (de cY c_xs) c),H))
  | _=>(False,fun _=>(.any,H))
theorem zanz:ConOk Try.prog 58 zafe:=by
  refine ⟨Qp Try.func58 (by decide) rfl,fun args H h=>?_⟩
  revert h
  dsimp only
  split
  · intro h
    obtain ⟨xs,rfl,rfl⟩:=h
    try simp only [Qm] at *
    exact SpecR.enc ((SpecR.frame0 (zakj xs ) (H:=H)).shut) fun c=>Prod.ext (zafd _  c).2.symm rfl
  · intro h
    exact h.elim
theorem fwSame_pure (a:List Int) (b:List Int) (c:List Int) (d:List Int)  : Pure Try.prog 59 [.st [li cI a,li cI b],.st [li cI c,li cI d]] (.bool (decide (a = c) && decide (b = d))):=by
  refine Pure.of_walk Try.func59 rfl (by simp [Try.f59]) (by simp [-zd,go_sem]) fun B hK=>?_
  (repeat' (first
 | refine Qt ?_
 | refine Qc (id:=0) Γw21_ok [] (by kernel_rfl) ?_;simp [-zg,-zd,↓Qb,↓Qa,go_sem];try (refine Xa hK 2 ?_;simp [go_sem];refine Xa hK 3 ?_;simp [go_sem])
 | refine Qc (id:=1) Γw21_ok [10] (by kernel_rfl) ?_;simp [-zg,-zd,↓Qb,↓Qa,go_sem];try (refine ⟨fun s1a=>?_,fun s1a=>?_⟩ <;> (try simp [B_iff,B_not] at s1a) <;> try (refine ⟨fun s1b=>?_,fun s1b=>?_⟩ <;> (try simp [B_iff,B_not] at s1b)))
 | (refine Qe ?_)
 | (refine Qs ?_;simp [-zg,-zd,↓Qb,↓Qa,go_sem])
 | (refine Qr ?_;simp [-zg,-zd,↓Qb,↓Qa,go_sem])
 | (refine Qu ?_;simp [-zg,-zd,↓Qb,↓Qa,go_sem,Try.results59])
 | (intro hx;refine zA ?_)
 | (refine ⟨?_,?_⟩ <;> refine zA ?_)
 | (intro hx;constructor <;> intro hs)
 | (constructor <;> intro hs)
 | (refine ⟨?_,fun hs=>?_⟩;refine zA ?_)
 | (refine ⟨fun hs=>?_,?_⟩;rotate_left;refine zA ?_;rotate_left)))
  all_goals (first
 | (simp_all;done)
 | (intros;simp_all;done)
 | skip)
@[go_sem] def zagt:Con:=.pure fun
  | [.st [.list n_a c_a,.list n_b c_b],.st [.list n_c c_c,.list n_d c_d]]=>((Is cI n_a c_a) ∧ (Is cI n_b c_b) ∧ (Is cI n_c c_c) ∧ (Is cI n_d c_d),.bool (decide ((de cI c_a) = (de cI c_c)) && decide ((de cI c_b) = (de cI c_d))))
  | _=>(False,.any)
theorem zaot:ConOk Try.prog 59 zagt:=by
  refine ⟨Qp Try.func59 (by decide) rfl,fun args h=>?_⟩
  revert h
  dsimp only
  split
  · intro h
    obtain ⟨⟨a,rfl,rfl⟩,⟨b,rfl,rfl⟩,⟨c,rfl,rfl⟩,⟨d,rfl,rfl⟩⟩:=h
    try simp only [Qm] at *
    exact ⟨fwSame_pure a b c d,by simp [go_sem]⟩
  · intro h
    exact h.elim
@[go_sem] def Γw22:FuncId → Con:=ext Γw21 59 zagt
theorem Γw22_ok:∀ g,ConOk Try.prog g (Γw22 g):=Qo Γw21_ok zaot

@[go_sem] def Γw23:FuncId → Con:=ext Γw22 50 zagr
theorem Γw23_ok:∀ g,ConOk Try.prog g (Γw23 g):=Qo Γw22_ok zaor

@[go_sem] def Γw24:FuncId → Con:=ext Γw23 58 zafe
theorem Zx:∀ g,ConOk Try.prog g (Γw24 g):=Qo Γw23_ok zanz

@[go_sem] def Γw25:FuncId → Con:=ext Γw22 42 zadh
theorem Ui:∀ g,ConOk Try.prog g (Γw25 g):=Qo Γw22_ok zajm

theorem some_step {P:Nat → Prop} {k:Nat}:(∃ j,j < k + 1 ∧ P j) ↔ (∃ j,j < k ∧ P j) ∨ P k:=by
  constructor
  · rintro ⟨j,j1,j2⟩
    by_cases e:j = k
    · subst e;exact .inr j2
    · exact .inl ⟨j,by omega,j2⟩
  · rintro (⟨j,j1,j2⟩ | h)
    · exact ⟨j,by omega,j2⟩
    · exact ⟨k,by omega,h⟩
theorem some_new {P:Nat → Prop} {k:Nat} {o v:Bool} (h:o = true ↔ ∃ j,j < k ∧ P j) (ho:o = false) (hv:v = true ↔ P k):v = true ↔ ∃ j,j < k + 1 ∧ P j:=by
  rw [some_step,← h,ho,hv]
  simp
theorem lsL_some {a:List Int} {b:List Bool} {c:List Tr4} (h:¬ lsL a b c = []):AutOk a b.length c:=by
  cases hg:Vm.B (AutOk a b.length c) with
  | true=>rw [B_iff] at hg;exact hg
  | false=>exact absurd (lsL_no hg) h
theorem lsL_none {a:List Int} {b:List Bool} {c:List Tr4} (h:lsL a b c = []):Vm.B (AutOk a b.length c) = false:=by
  cases hg:Vm.B (AutOk a b.length c) with
  | true=>rw [B_iff] at hg;exact absurd h (lsL_ne hg)
  | false=>rfl
theorem nth_lsL {a:List Int} {b:List Bool} {c:List Tr4} (h:AutOk a b.length c) {x:Int} (h0:0 ≤ x) (h1:x < b.length):nth (lsL a b c) x.toNat = Vm.B (Liv (nxE b.length c c.length) b [x]):=by
  have hn:=Xp b.length c c.length (Nat.le_refl _)
  rw [zamh (B_yes h),nth_livL (by omega),Int.toNat_of_nonneg h0]
theorem autOk_in {a:List Int} {n:Nat} {c:List Tr4} (h:AutOk a n c) {j:Nat} (hj:j < a.length):0 ≤ nth a j ∧ nth a j < n:=by
  have:=(h.starts (Nat.le_refl n)).1 _ (Xe hj)
  exact this
theorem some_fw {a:List Int} {b:List Bool} {c:List Tr4} (hA:AutOk a b.length c):(∃ j,j < a.length ∧ nth (lsL a b c) (nth a j).toNat = true) ↔ fwOk a b c = true:=by
  have hn:=Xp b.length c c.length (Nat.le_refl _)
  have hx:=Zh hA.rng
  have hS:Starts (nxE b.length c c.length).length a:=by rw [hn];exact hA.starts (Nat.le_refl _)
  rw [fwOk_iff,fwI_liv hx hS]
  constructor
  · rintro ⟨j,j1,j2⟩
    obtain ⟨g0,g1⟩:=autOk_in hA j1
    rw [nth_lsL hA g0 g1,B_iff] at j2
    obtain ⟨x,x1,⟨s,s1,s2⟩,x3,x4⟩:=j2
    simp at s1
    subst s1
    exact ⟨hA,x,x1,⟨_,Xe j1,s2⟩,x3,x4⟩
  · rintro ⟨_,x,x1,⟨s,s1,s2⟩,x3,x4⟩
    obtain ⟨j,j1,j2⟩:=Js s1
    obtain ⟨g0,g1⟩:=autOk_in hA j1
    refine ⟨j,j1,?_⟩
    rw [nth_lsL hA g0 g1,B_iff]
    exact ⟨x,x1,⟨s,by simp [j2],s2⟩,x3,x4⟩
theorem fw_acR {a:List Int} {b:List Bool} {c:List Tr4} (h:fwOk a b c = true):Vm.B (AcAsk a b c (fS a b c) (fL a b c)) = true ∧ acR a b c (fS a b c) (fL a b c) = true:=by
  obtain ⟨h1,h2⟩:=fwOk_iff.1 h
  obtain ⟨h3,h4⟩:=fSL_ok h
  exact ⟨B_yes ⟨h1,h3⟩,by rw [acR_sem h1 h3];exact B_yes h4⟩
theorem live_fw {a:List Int} {b:List Bool} {c:List Tr4} (hA:AutOk a b.length c) {x:Int} (h0:0 ≤ x) (h1:x < b.length):fwOk [x] b c = nth (lsL a b c) x.toNat:=by
  have hA1:AutOk [x] b.length c:=hA.one h0 h1
  rw [nth_lsL hA h0 h1,← nth_lsL hA1 h0 h1,Bool.eq_iff_iff,← some_fw hA1]
  constructor
  · rintro ⟨j,j1,j2⟩
    simp at j1
    subst j1
    exact j2
  · intro h
    exact ⟨0,by simp,h⟩
end
end Go.Proofs.Ytkjimmkemnmajaa.Vm

