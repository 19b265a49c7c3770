import Derived.Test.YtiilmjojffjhlaaGreatDoorKPN3
/-
  impl.ParseAutomaton: the readings of its lines, told apart. Plain lemmas; no conditions.
-/
namespace Go.Proofs.YtiilmjojffjhlaaGreatDoor.Vm
open Go
open Nat renaming sub_pos_of_lt → zsP
open List renaming getD_eq_getElem?_getD → zg,drop_one → zd,replicate → zrP
open Ne renaming symm → zS
noncomputable section
set_option linter.unusedVariables false
set_option linter.unusedSimpArgs false
set_option maxRecDepth 200000

theorem trimN_len (s:List UInt8):(trimN s).length ≤ s.length:=by rw [← trimB_N];exact trimB_len s 10
theorem line_lenI (c:UInt8) (s:List UInt8) (i:Nat) (hl:s.length ≤ 1048576):(nth (pcs c s []) i).length ≤ 1048576:=by
  by_cases h:i < (pcs c s []).length
  · rw [nth_lt h]
    have:=zadp c s [] _ (List.getElem_mem h)
    simp at this;omega
  · have:nth (pcs c s []) i = []:=by unfold nth;rw [List.getD_eq_getElem?_getD,List.getElem?_eq_none (by omega)];rfl
    rw [this];simp
theorem stepI_cases {W:List UInt8} {R:List Int} {l:List UInt8} (hW:headW l = W) (hR:certR l = R) (q:Aut3) :
    (W = [105,110,105,116,105,97,108] ∧ True ∧ stepI l q = some (R,q.2.1,q.2.2)) ∨
    (W = [101,100,103,101] ∧ (R.length = 4 ∧ (R.length:Int) = 4) ∧ stepI l q = some (q.1,q.2.1,q.2.2 ++ [(nth R 0,nth R 1,nth R 2,nth R 3)])) ∨
    (W = [101,100,103,101] ∧ (¬ R.length = 4 ∧ ¬ (R.length:Int) = 4) ∧ stepI l q = none) ∨
    (W = [97,99,99,101,112,116,105,110,103] ∧ inQ R q.2.1.length = true ∧ stepI l q = some (q.1,markB q.2.1 R R.length,q.2.2)) ∨
    (W = [97,99,99,101,112,116,105,110,103] ∧ inQ R q.2.1.length = false ∧ stepI l q = none) ∨
    (W = [97,117,116,111,109,97,116,111,110] ∧ (¬ R.length = 1 ∧ ¬ (R.length:Int) = 1) ∧ stepI l q = none) ∨
    (W = [97,117,116,111,109,97,116,111,110] ∧ (R.length = 1 ∧ (R.length:Int) = 1 ∧ ¬ R = [] ∧ ¬ 1 ≤ nth R 0) ∧ stepI l q = none) ∨
    (W = [97,117,116,111,109,97,116,111,110] ∧ (R.length = 1 ∧ (R.length:Int) = 1 ∧ ¬ R = [] ∧ ¬ nth R 0 ≤ 64) ∧ stepI l q = none) ∨
    (W = [97,117,116,111,109,97,116,111,110] ∧ (R.length = 1 ∧ (R.length:Int) = 1 ∧ ¬ R = [] ∧ 1 ≤ nth R 0 ∧ nth R 0 ≤ 64) ∧ stepI l q = some (q.1,zrP (nth R 0).toNat false,q.2.2)) ∨
    ((¬ W = [97,117,116,111,109,97,116,111,110] ∧ ¬ W = [105,110,105,116,105,97,108] ∧ ¬ W = [97,99,99,101,112,116,105,110,103] ∧ ¬ W = [101,100,103,101]) ∧ True ∧ stepI l q = none):=by
  have eA:wAut = [97,117,116,111,109,97,116,111,110]:=rfl
  have eI:wIni = [105,110,105,116,105,97,108]:=rfl
  have eC:wAcc = [97,99,99,101,112,116,105,110,103]:=rfl
  have eE:wEdge = [101,100,103,101]:=rfl
  rw [← eA,← eI,← eC,← eE]
  unfold stepI
  rw [hW,hR]
  by_cases h1:W = wAut
  · subst h1
    by_cases h2:R.length = 1
    · by_cases h3:1 ≤ nth R 0
      · by_cases h4:nth R 0 ≤ 64
        · refine .inr (.inr (.inr (.inr (.inr (.inr (.inr (.inr (.inl ⟨rfl,⟨h2,by omega,by rintro rfl;simp at h2,h3,h4⟩,?_⟩))))))))
          rw [if_pos ⟨rfl,h2,h3,h4⟩];rfl
        · refine .inr (.inr (.inr (.inr (.inr (.inr (.inr (.inl ⟨rfl,⟨h2,by omega,by rintro rfl;simp at h2,h4⟩,?_⟩)))))))
          rw [if_neg (by rintro ⟨_,_,_,k⟩;exact h4 k),if_neg (by decide),if_neg (by decide),if_neg (by rintro ⟨k,_⟩;exact absurd k (by decide))]
      · refine .inr (.inr (.inr (.inr (.inr (.inr (.inl ⟨rfl,⟨h2,by omega,by rintro rfl;simp at h2,h3⟩,?_⟩))))))
        rw [if_neg (by rintro ⟨_,_,k,_⟩;exact h3 k),if_neg (by decide),if_neg (by decide),if_neg (by rintro ⟨k,_⟩;exact absurd k (by decide))]
    · refine .inr (.inr (.inr (.inr (.inr (.inl ⟨rfl,⟨h2,by omega⟩,?_⟩)))))
      rw [if_neg (by rintro ⟨_,k,_⟩;exact h2 k),if_neg (by decide),if_neg (by decide),if_neg (by rintro ⟨k,_⟩;exact absurd k (by decide))]
  · by_cases h2:W = wIni
    · subst h2
      refine .inl ⟨rfl,trivial,?_⟩
      rw [if_neg (by rintro ⟨k,_⟩;exact absurd k (by decide)),if_pos rfl]
    · by_cases h3:W = wAcc
      · subst h3
        cases h4:inQ R q.2.1.length with
        | true =>
          refine .inr (.inr (.inr (.inl ⟨rfl,rfl,?_⟩)))
          rw [if_neg (by rintro ⟨k,_⟩;exact absurd k (by decide)),if_neg (by decide),if_pos rfl,if_pos rfl]
        | false =>
          refine .inr (.inr (.inr (.inr (.inl ⟨rfl,rfl,?_⟩))))
          rw [if_neg (by rintro ⟨k,_⟩;exact absurd k (by decide)),if_neg (by decide),if_pos rfl,if_neg (by simp)]
      · by_cases h4:W = wEdge
        · subst h4
          by_cases h5:R.length = 4
          · refine .inr (.inl ⟨rfl,⟨h5,by omega⟩,?_⟩)
            rw [if_neg (by rintro ⟨k,_⟩;exact absurd k (by decide)),if_neg (by decide),if_neg (by decide),if_pos ⟨rfl,h5⟩];rfl
          · refine .inr (.inr (.inl ⟨rfl,⟨h5,by omega⟩,?_⟩))
            rw [if_neg (by rintro ⟨k,_⟩;exact absurd k (by decide)),if_neg (by decide),if_neg (by decide),if_neg (by rintro ⟨_,k⟩;exact h5 k)]
        · refine .inr (.inr (.inr (.inr (.inr (.inr (.inr (.inr (.inr ⟨⟨h1,h2,h3,h4⟩,trivial,?_⟩))))))))
          rw [if_neg (by rintro ⟨k,_⟩;exact h1 k),if_neg h2,if_neg h3,if_neg (by rintro ⟨k,_⟩;exact h4 k)]
def SzA (k:Nat) (q:Aut3):Prop:=q.1.length ≤ 1048576 ∧ q.2.1.length ≤ 64 ∧ q.2.2.length ≤ k ∧ AllSmall q.2.2
theorem AllSmall.snocA {c:List Tr4} (h:AllSmall c) {x:Tr4} (hx:x.2.2.1 ≤ 9223372036854775807):AllSmall (c ++ [x]):=fun i hi=>by
  rw [List.length_append,List.length_singleton] at hi
  by_cases e:i < c.length
  · have:=h i e
    rw [nth_lt e] at this
    rw [nth_lt (by rw [List.length_append,List.length_singleton];omega),List.getElem_append_left e]
    exact this
  · have e2:i = c.length:=by omega
    subst e2
    rw [nth_lt (by rw [List.length_append,List.length_singleton];omega),List.getElem_append_right (Nat.le_refl _)]
    simpa using hx
theorem SzA.step {k:Nat} {q q':Aut3} {l:List UInt8} (hl:l.length ≤ 1048576) (h:SzA k q) (hs:stepI l q = some q'):SzA (k + 1) q':=by
  obtain ⟨h1,h2,h3,h4⟩:=h
  have hb:=certR_bd l 2
  have hc:=certR_le l
  unfold stepI at hs
  split at hs
  · rename_i hd
    injection hs with hs;subst hs
    exact ⟨h1,by simp only [List.length_replicate];omega,by dsimp only;omega,h4⟩
  · split at hs
    · injection hs with hs;subst hs
      exact ⟨by dsimp only;omega,h2,by dsimp only;omega,h4⟩
    · split at hs
      · split at hs
        · injection hs with hs;subst hs
          exact ⟨h1,by dsimp only;rw [zach];exact h2,by dsimp only;omega,h4⟩
        · cases hs
      · split at hs
        · injection hs with hs;subst hs
          exact ⟨h1,h2,by simp only [List.length_append,List.length_singleton];omega,h4.snocA hb.2⟩
        · cases hs
def GoAt (s:List UInt8) (k:Nat) (q:Aut3):Prop:=goI ((pcs 10 (trimN s) []).take k) ([],[],[]) = some q ∧ SzA k q
theorem GoAt.zero (s:List UInt8):GoAt s 0 ([],[],[]):=⟨rfl,by simp,by simp,by simp,fun i hi=>by simp at hi⟩
theorem goI_take {s:List UInt8} {k:Nat} (h:k < (pcs 10 (trimN s) []).length):goI ((pcs 10 (trimN s) []).take (k + 1)) ([],[],[]) = (goI ((pcs 10 (trimN s) []).take k) ([],[],[])).bind (stepI (nth (pcs 10 (trimN s) []) k)):=by
  rw [List.take_succ_eq_append_getElem h,goI_snoc,nth_lt h]
theorem GoAt.succ {s:List UInt8} {k:Nat} {q q2:Aut3} (hl:s.length ≤ 1048576) (h:k < (pcs 10 (trimN s) []).length) (g:GoAt s k q) (hs:stepI (nth (pcs 10 (trimN s) []) k) q = some q2):GoAt s (k + 1) q2 :=
  ⟨by rw [goI_take h,g.1];exact hs,g.2.step (line_lenI 10 (trimN s) k (by have:=trimN_len s;omega)) hs⟩
theorem goI_none {s:List UInt8} {k:Nat} (h:goI ((pcs 10 (trimN s) []).take k) ([],[],[]) = none):∀ n,goI ((pcs 10 (trimN s) []).take (k + n)) ([],[],[]) = none
  | 0=>h
  | n + 1=>by
    by_cases e:k + n < (pcs 10 (trimN s) []).length
    · rw [← Nat.add_assoc,goI_take e,goI_none h n];rfl
    · have:=goI_none h n
      rw [List.take_of_length_le (by omega)] at this ⊢
      exact this
theorem ansI_step {s:List UInt8} {k:Nat} {q:Aut3} (h:k < (pcs 10 (trimN s) []).length) (g:GoAt s k q) (hs:stepI (nth (pcs 10 (trimN s) []) k) q = none):ansI s = none:=by
  have h1:goI ((pcs 10 (trimN s) []).take (k + 1)) ([],[],[]) = none:=by rw [goI_take h,g.1];exact hs
  have h2:=goI_none h1 (pcs 10 (trimN s) []).length
  rw [List.take_of_length_le (by omega)] at h2
  have h3:readI s = none:=h2
  unfold ansI
  rw [h3]
theorem ansI_end {s:List UInt8} {k:Nat} {q:Aut3} (h:(pcs 10 (trimN s) []).length ≤ k) (g:GoAt s k q):readI s = some q:=by
  have:=g.1
  rw [List.take_of_length_le h] at this
  exact this
theorem ansI_no {s:List UInt8} {A:List Int} {C:List Bool} {E:List Tr4} (h:readI s = some (A,C,E)) (hn:¬ (AutOk A C.length E ∧ autT A C E = s)):ansI s = none:=by
  unfold ansI
  rw [h]
  dsimp only
  rw [if_neg]
  rw [B_iff];exact hn
theorem ansI_yes {s:List UInt8} {A:List Int} {C:List Bool} {E:List Tr4} (h:readI s = some (A,C,E)) (h1:AutOk A C.length E) (h2:autT A C E = s):ansI s = some (A,C,E):=by
  unfold ansI
  rw [h]
  dsimp only
  rw [if_pos ⟨B_yes h1,h2⟩]
def outQ (R:List Int) (n:Nat) (i:Nat):Bool:=!decide (0 ≤ nth R i ∧ nth R i ≤ (n:Int) - 1)
theorem inQ_none {R:List Int} {n:Nat} (h:NoneTill (outQ R n) R.length):inQ R n = true:=by
  rw [inQ,List.all_eq_true]
  intro i hi
  rw [List.mem_range] at hi
  have:=h i hi
  simp only [outQ,Bool.not_eq_false',decide_eq_true_eq] at this
  exact decide_eq_true ⟨this.1,by have:=this.2;show nth R i < n;omega⟩
theorem inQ_at {R:List Int} {n:Nat} (h:inQ R n = true) {i:Nat} (hi:i < R.length):0 ≤ nth R i ∧ nth R i < n:=by
  rw [inQ,List.all_eq_true] at h
  exact of_decide_eq_true (h i (List.mem_range.2 hi))
theorem markB_succ (b:List Bool) (xs:List Int) (k:Nat):markB b xs (k + 1) = (markB b xs k).set (nth xs k).toNat true:=rfl
theorem markB_zero (b:List Bool) (xs:List Int):markB b xs 0 = b:=rfl

theorem snoc_T5 (xs:List Tr4) (a b c d:Int):cat cT xs ++ [.int .i64 a,.int .i64 b,.int .i64 c,.int .i64 d] = cat cT (xs ++ [(a,b,c,d)]):=by rw [Jg,Ve];rfl

@[go_sem] def Γpn9:FuncId → Con:=Γpn7
theorem Γpn9_ok:∀ g,ConI Tryz.prog LibOk g (Γpn9 g):=fun g=>(Xd g).toI

@[go_sem] def zadn:Con:=.pure fun
  | [.str s,.str [c]]=>((s.length ≤ 1048576),fr 1 cStr (pcs c s []))
  | _=>(False,.any)
theorem split_pureC_ok:ConI Tryz.prog LibOk 27 zadn:=by
  refine ⟨Qn Tryz.func27 (by decide) rfl,fun args h=>?_⟩
  revert h
  dsimp only
  split
  · intro h
    have hl:=h
    skip
    exact ⟨split_pure _ _ hl,by simp [go_sem]⟩
  · intro h
    exact h.elim
@[go_sem] def Γpn10:FuncId → Con:=ext Γpn9 27 zadn
theorem Γpn10_ok:∀ g,ConI Tryz.prog LibOk g (Γpn10 g):=ext_okI Γpn9_ok split_pureC_ok

@[go_sem] def zabd:Con:=.pure fun
  | [.str s]=>((s.length ≤ 1048576),.tup [.str (headW s),fr 1 cI (certR s)])
  | _=>(False,.any)
theorem zado:ConI Tryz.prog LibOk 29 zabd:=by
  refine ⟨Qn Tryz.func29 (by decide) rfl,fun args h=>?_⟩
  revert h
  dsimp only
  split
  · intro h
    have hl:=h
    skip
    exact ⟨readWords_pure _ hl,by simp [go_sem]⟩
  · intro h
    exact h.elim
@[go_sem] def Γpn11:FuncId → Con:=ext Γpn10 29 zabd
theorem Xj:∀ g,ConI Tryz.prog LibOk g (Γpn11 g):=ext_okI Γpn10_ok zado

set_option maxHeartbeats 8000000 in

theorem implPA_pure (s:List UInt8) (hl:s.length ≤ 1048576):PureI Tryz.prog LibOk 7 [.str s] (dA (ansI s)):=by
  refine PureI.of_walk Tryz.func7 rfl (by simp [Tryz.f7]) (by simp [-zd,go_sem]) LibOk.frm fun B hK hB=>?_
  have hpl:=Jw 10 (trimN s) [];have htl:=trimN_len s;have hpc:=fun i=>line_lenI 10 (trimN s) i (by omega)
  all_goals (repeat' (first
 | refine Qr ?_
 | refine Qt (id:=0) Xj hB [] (by kernel_rfl) ?_;simp [-zg,-zd,↓Qb,↓Qa,go_sem]
 | refine Qt (id:=1) Xj hB [] (by kernel_rfl) ?_;simp [-zg,-zd,↓Qb,↓Qa,go_sem];try ((refine AW_boxNil3 4 rfl ?_);(refine zacl 4 rfl fun b hb=>?_);(clear hb))
 | refine Qt (id:=2) Xj hB [] (by kernel_rfl) ?_;simp [-zg,-zd,↓Qb,↓Qa,go_sem,hl,trimB_N,(show (trimN s).length ≤ 1048576 by omega)];try ((refine Xm hK 13 ?_);(simp [go_sem]);(refine Xq (fun H1=>H1 b = some [fr 1 cI [],fr 1 cB [],fr 4 cT []]) (by simp [upd,fr,cat_nil]) fun H1 w1=>?_))
 | refine Qt (id:=3) Xj hB [] (by kernel_rfl) ?_;simp [-zg,-zd,↓Qb,↓Qa,go_sem]
 | refine Qt (id:=4) Xj hB [] (by kernel_rfl) ?_;simp [-zg,-zd,↓Qb,↓Qa,go_sem,c16,Qh c16,zsP c16]
 | refine Qt (id:=5) Xj hB [] (by kernel_rfl) ?_;simp [-zg,-zd,↓Qb,↓Qa,go_sem,hpc q.1];try ((refine Xm hK 8 ?_);(simp [go_sem]);(have hcl:=certR_le (nth (pcs 10 (trimN s) []) q.1));(have hll:=hpc q.1);(obtain ⟨W,hW⟩:∃ W,headW (nth (pcs 10 (trimN s) []) q.1) = W:=⟨_,rfl⟩);(obtain ⟨R,hR⟩:∃ R,certR (nth (pcs 10 (trimN s) []) q.1) = R:=⟨_,rfl⟩);(have hcs:=stepI_cases hW hR q.2.1);(have hgs:=fun q2 h=>GoAt.succ (s:=s) (k:=q.1) (q2:=q2) hl c16 g2 h);(have hgn:=fun h=>ansI_step c16 g2 h);(have hRl:R.length ≤ 1048576:=(by rw [hR] at hcl;omega));(simp only [hW,hR]);(rcases hcs with ⟨cW,cR,hst⟩ | ⟨cW,cR,hst⟩ | ⟨cW,cR,hst⟩ | ⟨cW,cR,hst⟩ | ⟨cW,cR,hst⟩ | ⟨cW,cR,hst⟩ | ⟨cW,cR,hst⟩ | ⟨cW,cR,hst⟩ | ⟨cW,cR,hst⟩ | ⟨cW,cR,hst⟩))
 | refine Qt (id:=7) Xj hB [28,33] (by kernel_rfl) ?_;simp [-zg,-zd,↓Qb,↓Qa,go_sem,cW,cR];try (refine ⟨fun s7a=>?_,fun s7a=>?_⟩ <;> (try simp [B_iff,B_not] at s7a) <;> try (refine ⟨fun s7b=>?_,fun s7b=>?_⟩ <;> (try simp [B_iff,B_not] at s7b) <;> try (refine ⟨fun s7c=>?_,fun s7c=>?_⟩ <;> (try simp [B_iff,B_not] at s7c))))
 | ((obtain ⟨n,hn⟩:∃ n:Nat,nth R 0 = (n:Int):=⟨(nth R 0).toNat,by omega⟩);(have hn64:n ≤ 64:=(by omega)));refine Qt (id:=8) Xj hB [] (by kernel_rfl) ?_;simp [-zg,-zd,↓Qb,↓Qa,go_sem,g3,hn,cR,make_cB,(show (n:Int) ≤ 281474976710656 by omega),(show (n:Int) ≤ 9223372036854775807 by omega)];try ((have hg0:=hgs _ hst);(obtain ⟨q2,hq2⟩:∃ q2:Aut3,q2 = (q.2.1.1,zrP n false,q.2.1.2.2):=⟨_,rfl⟩);(have hg2:GoAt s (q.1 + 1) q2:=(by rw [hq2];rw [hn] at hg0;exact hg0));(clear hg0);(refine Xq (fun H1=>H1 b = some [fr 1 cI q2.1,fr 1 cB q2.2.1,fr 4 cT q2.2.2]) (by rw [hq2];simp [upd,fr,g3]) fun H9 t5=>?_);(clear hq2))
 | refine Qt (id:=9) Xj hB [] (by kernel_rfl) ?_;simp [-zg,-zd,↓Qb,↓Qa,go_sem,cW]
 | refine Qt (id:=10) Xj hB [] (by kernel_rfl) ?_;simp [-zg,-zd,↓Qb,↓Qa,go_sem,g3,hRl];try ((have hg0:=hgs _ hst);(obtain ⟨q2,hq2⟩:∃ q2:Aut3,q2 = (R,q.2.1.2.1,q.2.1.2.2):=⟨_,rfl⟩);(have hg2:GoAt s (q.1 + 1) q2:=(by rw [hq2];exact hg0));(clear hg0);(refine Xq (fun H1=>H1 b = some [fr 1 cI q2.1,fr 1 cB q2.2.1,fr 4 cT q2.2.2]) (by rw [hq2];simp [upd,fr,g3]) fun H9 t5=>?_);(clear hq2))
 | refine Qt (id:=11) Xj hB [] (by kernel_rfl) ?_;simp [-zg,-zd,↓Qb,↓Qa,go_sem,cW]
 | refine Qt (id:=12) Xj hB [] (by kernel_rfl) ?_;simp [-zg,-zd,↓Qb,↓Qa,go_sem];try ((refine Zv b 1 (all:=[fr 1 cI q.2.1.1,fr 1 cB q.2.1.2.1,fr 4 cT q.2.1.2.2]) g3 rfl fun yb cy jy hyb hcy hdy=>?_);(have nby:¬ b = yb:=(by rintro rfl;dsimp only at hyb;rw [g3] at hyb;cases hyb));(clear hyb);(refine Xq (fun H1=>H1 b = some [fr 1 cI q.2.1.1,.sl yb 1 0 q.2.1.2.1.length cy,fr 4 cT q.2.1.2.2] ∧ H1 yb = some (cat cB (markB q.2.1.2.1 R 0) ++ zrP jy .any)) ⟨by simp [upd,nby,zS nby,fr],by simp [upd,markB_zero,fr]⟩ fun H1 ⟨v0,vy⟩=>?_))
 | refine Qt (id:=13) Xj hB [] (by kernel_rfl) ?_;simp [-zg,-zd,↓Qb,↓Qa,go_sem]
 | refine Qt (id:=14) Xj hB [] (by kernel_rfl) ?_;simp [-zg,-zd,↓Qb,↓Qa,go_sem,c56,Qh c56,zsP c56]
 | ((have h64:=g2.2.2.1));refine Qt (id:=15) Xj hB [] (by kernel_rfl) ?_;simp [-zg,-zd,↓Qb,↓Qa,go_sem,f3,nby,zS nby,wrap_in (x:=(q.2.1.2.1.length:Int) - 1) (by omega) (by omega)]
 | refine Qt (id:=16) Xj hB [] (by kernel_rfl) ?_;simp [-zg,-zd,↓Qb,↓Qa,go_sem]
 | ((have p0:0 ≤ nth R y.1 ∧ nth R y.1 ≤ (q.2.1.2.1.length:Int) - 1:=(by omega));(have p1:(nth R y.1).toNat < q.2.1.2.1.length:=(by omega));(have hml:=zach q.2.1.2.1 R y.1);(have hno:NoneTill (outQ R q.2.1.2.1.length) (y.1 + 1):=f2.succ (by simp [outQ];omega)));refine Qt (id:=17) Xj hB [] (by kernel_rfl) ?_;simp [-zg,-zd,↓Qb,↓Qa,go_sem,f3,f4,nby,zS nby,p0.1,p0.2,p1,hml,(show nth R y.1 < (q.2.1.2.1.length:Int) by omega),(show (nth R y.1).toNat < q.2.1.2.1.length + jy by omega),(show (nth R y.1).toNat + 1 ≤ q.2.1.2.1.length + jy by omega)];try ((refine Xq (fun H1=>H1 b = some [fr 1 cI q.2.1.1,.sl yb 1 0 q.2.1.2.1.length cy,fr 4 cT q.2.1.2.2] ∧ H1 yb = some (cat cB (markB q.2.1.2.1 R (y.1 + 1)) ++ zrP jy .any)) ⟨by simp [upd,nby,zS nby,f3],by simp [upd,markB_succ,p1,hml]⟩ fun H8 ⟨u3,u4⟩=>?_))
 | refine Qt (id:=18) Xj hB [] (by kernel_rfl) ?_;simp [-zg,-zd,↓Qb,↓Qa,go_sem,wrapS (k:=y.1) (by omega)]
 | refine Qt (id:=19) Xj hB [75] (by kernel_rfl) ?_;simp [-zg,-zd,↓Qb,↓Qa,go_sem,cW,cR];try (refine ⟨fun s19a=>?_,fun s19a=>?_⟩ <;> (try simp [B_iff,B_not] at s19a) <;> try (refine ⟨fun s19b=>?_,fun s19b=>?_⟩ <;> (try simp [B_iff,B_not] at s19b)))
 | ((have w40:0 < R.length:=(by omega));(have hg2l:=g2.2.2.2.1);(refine Zv b 2 (all:=[fr 1 cI q.2.1.1,fr 1 cB q.2.1.2.1,fr 4 cT q.2.1.2.2]) g3 rfl fun zb cz jz hzb hcz hdz=>?_);(have nbz:¬ b = zb:=(by rintro rfl;dsimp only at hzb;rw [g3] at hzb;cases hzb));(clear hzb));refine zahb (id:=20) Xj hB mixed [(b,[fr 1 cI q.2.1.1,fr 1 cB q.2.1.2.1,.sl zb 4 0 q.2.1.2.2.length cz])] [] [8] (by kernel_rfl) (by kernel_rfl) (by simp [-zg,-zd,↓Qb,↓Qa,go_sem,w40,Qh w40,zsP w40,cR,mk44P,ss44P,nbz,zS nbz,hdz,snoc_T5,(show 1 < R.length by omega),(show 2 < R.length by omega),(show 3 < R.length by omega),(show q.2.1.2.2.length ≤ 9223372036854775806 by omega),(show 2 * (q.2.1.2.2.length + 1) * 32 ≤ 281474976710656 by omega)]) (by simp [-zg,-zd,↓Qb,↓Qa,go_sem,w40,Qh w40,zsP w40,cR,mk44P,ss44P,nbz,zS nbz,hdz,snoc_T5,(show 1 < R.length by omega),(show 2 < R.length by omega),(show 3 < R.length by omega),(show q.2.1.2.2.length ≤ 9223372036854775806 by omega),(show 2 * (q.2.1.2.2.length + 1) * 32 ≤ 281474976710656 by omega)]) ?_;simp [-zg,-zd,↓Qb,↓Qa,go_sem,w40,Qh w40,zsP w40,cR,mk44P,ss44P,nbz,zS nbz,hdz,snoc_T5,(show 1 < R.length by omega),(show 2 < R.length by omega),(show 3 < R.length by omega),(show q.2.1.2.2.length ≤ 9223372036854775806 by omega),(show 2 * (q.2.1.2.2.length + 1) * 32 ≤ 281474976710656 by omega)];try ((have hg0:=hgs _ hst);(obtain ⟨q2,hq2⟩:∃ q2:Aut3,q2 = (q.2.1.1,q.2.1.2.1,q.2.1.2.2 ++ [(nth R 0,nth R 1,nth R 2,nth R 3)]):=⟨_,rfl⟩);(have hg2:GoAt s (q.1 + 1) q2:=(by rw [hq2];exact hg0));(clear hg0);(refine Xq (fun H1=>H1 b = some [fr 1 cI q2.1,fr 1 cB q2.2.1,fr 4 cT q2.2.2]) (by rw [hq2];simp [upd,fr,nbz,zS nbz]) fun H9 t5=>?_);(clear hq2))
 | refine Qt (id:=6) Xj hB [] (by kernel_rfl) ?_;simp [-zg,-zd,↓Qb,↓Qa,go_sem]
 | (first | (have z9:=t5) | ((have hy:y.1 = R.length:=(by omega));(rw [hy] at f4);(have hg0:=hgs _ hst);(obtain ⟨q2,hq2⟩:∃ q2:Aut3,q2 = (q.2.1.1,markB q.2.1.2.1 R R.length,q.2.1.2.2):=⟨_,rfl⟩);(have hg2:GoAt s (q.1 + 1) q2:=(by rw [hq2];exact hg0));(clear hg0);(have hml:=zach q.2.1.2.1 R R.length);(refine zaay b 1 (b':=yb) (sz:=1) (m:=q.2.1.2.1.length) (cp:=cy) (all:=[fr 1 cI q.2.1.1,.sl yb 1 0 q.2.1.2.1.length cy,fr 4 cT q.2.1.2.2]) (cs:=cat cB (markB q.2.1.2.1 R R.length) ++ zrP jy .any) f3 rfl nby f4 (by omega) (by simp [Qz,hml]) (by simp [Qz,hml];omega) ?_);(rw [Nat.mul_one,Xh (f:=cB) (markB q.2.1.2.1 R R.length) (zrP jy D.any) hml.symm]);(refine Xq (fun H1=>H1 b = some [fr 1 cI q2.1,fr 1 cB q2.2.1,fr 4 cT q2.2.2]) (by rw [hq2];simp [upd,fr,hml]) fun H9 t5=>?_);(clear hq2)));refine Qt (id:=21) Xj hB [] (by kernel_rfl) ?_;simp [-zg,-zd,↓Qb,↓Qa,go_sem,wrapS (k:=q.1) (by omega)]
 | ((have hrd:=ansI_end c16 g2);(obtain ⟨kq,⟨A,C,E⟩,Hq⟩:=q);(dsimp only at g1 g2 g3 hrd ⊢);(have hSm:AllSmall E:=g2.2.2.2.2);(refine Zv b 1 (all:=[fr 1 cI A,fr 1 cB C,fr 4 cT E]) g3 rfl fun yb cy jy hyb hcy hdy=>?_);(have nby:¬ b = yb:=(by rintro rfl;dsimp only at hyb;rw [g3] at hyb;cases hyb));(refine AW_outer b (f:=fun _=>none) (d:=.sl yb 1 0 C.length cy) (m:=A.length) (cs:=cat cI A) (k:=E.length) (es:=cat cT E) (by dsimp only;rw [Qd nby,Qe];rfl) fun xb zb cx cz jx jz hxb hzb nbx nbz nxz hcx hdx hcz hdz=>?_);(have nyx:¬ yb = xb:=(by rintro rfl;dsimp only at hxb;rw [Qe] at hxb;cases hxb));(have nyz:¬ yb = zb:=(by rintro rfl;dsimp only at hzb;rw [Qe] at hzb;cases hzb));(clear hyb hxb hzb);(refine Xq (fun H1=>H1 b = some [.sl xb 1 0 A.length cx,.sl yb 1 0 C.length cy,.sl zb 4 0 E.length cz] ∧ H1 xb = some (cat cI A ++ zrP jx .any) ∧ H1 yb = some (cat cB C ++ zrP jy .any) ∧ H1 zb = some (cat cT E ++ zrP jz .any)) ⟨by simp [upd,nby,zS nby,nbx,zS nbx,nbz,zS nbz,nxz,zS nxz,nyx,zS nyx,nyz,zS nyz],by simp [upd,nby,zS nby,nbx,zS nbx,nbz,zS nbz,nxz,zS nxz,nyx,zS nyx,nyz,zS nyz],by simp [upd,nby,zS nby,nbx,zS nbx,nbz,zS nbz,nxz,zS nxz,nyx,zS nyx,nyz,zS nyz,fr],by simp [upd,nby,zS nby,nbx,zS nbx,nbz,zS nbz,nxz,zS nxz,nyx,zS nyx,nyz,zS nyz]⟩ fun H2 ⟨w0,wx,wy,wz⟩=>?_));refine Qt (id:=22) Xj hB [102] (by kernel_rfl) ?_;simp [-zg,-zd,↓Qb,↓Qa,go_sem,w0,wx,wy,wz,nby,zS nby,nbx,zS nbx,nbz,zS nbz,nxz,zS nxz,nyx,zS nyx,nyz,zS nyz,hSm,Zm E (zrP jz D.any) rfl,Xh (f:=cI) A (zrP jx D.any) rfl,Xh (f:=cB) C (zrP jy D.any) rfl];try (refine ⟨fun s22a=>?_,fun s22a=>?_⟩ <;> (try simp [B_iff,B_not] at s22a) <;> try (refine ⟨fun s22b=>?_,fun s22b=>?_⟩ <;> (try simp [B_iff,B_not] at s22b)))
 | refine Qt (id:=23) Xj hB [] (by kernel_rfl) ?_;simp [-zg,-zd,↓Qb,↓Qa,go_sem]
 | ((have hAO:AutOk A C.length E ∧ autT A C E = s:=(by simp_all));(obtain ⟨m1,m2,m3,m4⟩:=hAO.1.sizes));refine Qt (id:=24) Xj hB [] (by kernel_rfl) ?_;simp [-zg,-zd,↓Qb,↓Qa,go_sem,w0,wx,wy,wz,nby,zS nby,nbx,zS nbx,nbz,zS nbz,nxz,zS nxz,nyx,zS nyx,nyz,zS nyz,(show A.length ≤ 1048576 by omega),(show C.length ≤ 1048576 by omega),(show E.length ≤ 1048576 by omega),Zm E (zrP jz D.any) rfl,Xh (f:=cI) A (zrP jx D.any) rfl,Xh (f:=cB) C (zrP jy D.any) rfl]
 | refine Qf (c:=.tmp 16) ?_;simp [-zg,-zd,↓Qb,↓Qa,go_sem];try first | (refine ⟨?_,?_⟩ <;> refine zA ?_) | (refine ⟨fun c16=>?_,fun c16=>?_⟩ <;> (try simp [B_iff,B_not] at c16))
 | refine Qf (c:=.tmp 25) ?_;simp [-zg,-zd,↓Qb,↓Qa,go_sem];try first | (refine ⟨?_,?_⟩ <;> refine zA ?_) | (refine ⟨fun c25=>?_,fun c25=>?_⟩ <;> (try simp [B_iff,B_not] at c25))
 | refine Qf (c:=.tmp 44) ?_;simp [-zg,-zd,↓Qb,↓Qa,go_sem];try first | (refine ⟨?_,?_⟩ <;> refine zA ?_) | (refine ⟨fun c44=>?_,fun c44=>?_⟩ <;> (try simp [B_iff,B_not] at c44))
 | refine Qf (c:=.tmp 50) ?_;simp [-zg,-zd,↓Qb,↓Qa,go_sem];try first | (refine ⟨?_,?_⟩ <;> refine zA ?_) | (refine ⟨fun c50=>?_,fun c50=>?_⟩ <;> (try simp [B_iff,B_not] at c50))
 | refine Qf (c:=.tmp 56) ?_;simp [-zg,-zd,↓Qb,↓Qa,go_sem];try first | (refine ⟨?_,?_⟩ <;> refine zA ?_) | (refine ⟨fun c56=>?_,fun c56=>?_⟩ <;> (try simp [B_iff,B_not] at c56))
 | refine Qf (c:=.tmp 65) ?_;simp [-zg,-zd,↓Qb,↓Qa,go_sem];try first | (refine ⟨?_,?_⟩ <;> refine zA ?_) | (refine ⟨fun c65=>?_,fun c65=>?_⟩ <;> (try simp [B_iff,B_not] at c65))
 | refine Qf (c:=.tmp 72) ?_;simp [-zg,-zd,↓Qb,↓Qa,go_sem];try first | (refine ⟨?_,?_⟩ <;> refine zA ?_) | (refine ⟨fun c72=>?_,fun c72=>?_⟩ <;> (try simp [B_iff,B_not] at c72))
 | refine Qf (c:=.tmp 107) ?_;simp [-zg,-zd,↓Qb,↓Qa,go_sem];try first | (refine ⟨?_,?_⟩ <;> refine zA ?_) | (refine ⟨fun c107=>?_,fun c107=>?_⟩ <;> (try simp [B_iff,B_not] at c107))
 | (refine Qg (id:=0) (Xc (ι:=Nat × Aut3 × Hp) (fun q:Nat × Aut3 × Hp=>⟨(upd (upd (upd (upd (upd (upd (fun _=>.any) 0 (.str s)) 2 (.box [.nil,.nil,.nil])) 4 (.ptr b 0)) 13 (li cStr (pcs 10 (trimN s) []))) 14 (.int .i64 (pcs 10 (trimN s) []).length)) 15 (.int .i64 q.1)),q.2.2⟩) (fun q=>q.1 ≤ (pcs 10 (trimN s) []).length ∧ GoAt s q.1 q.2.1 ∧ q.2.2 b = some [fr 1 cI q.2.1.1,fr 1 cB q.2.1.2.1,fr 4 cT q.2.1.2.2]) (fun q=>(pcs 10 (trimN s) []).length - q.1) ((0,([],[],[]),H1)) ?_ ?_ ?_);exact ⟨Nat.zero_le _,GoAt.zero s,w1⟩;((repeat' (first | exact Qj (by assumption) | exact Ql | refine Qm ?_ ?_ | refine Qk ?_)) <;> simp [-zg,-zd,↓Qb,↓Qa,go_sem]);rintro q ⟨g1,g2,g3⟩)
 | (refine ⟨(q.1 + 1,q2,H9),⟨by dsimp only;omega,hg2,t5⟩,by first | omega | (simp;done) | (simp;omega),?_⟩;((repeat' (first | exact Qj (by assumption) | exact Ql | refine Qm ?_ ?_ | refine Qk ?_)) <;> simp [-zg,-zd,↓Qb,↓Qa,go_sem]))
 | (refine Qg (id:=3) (Xc (ι:=Nat × Hp) (fun y:Nat × Hp=>⟨(upd (upd (upd (upd (upd (upd (upd (upd (upd (fun _=>.any) 0 (.str s)) 2 (.box [.nil,.nil,.nil])) 4 (.ptr b 0)) 13 (li cStr (pcs 10 (trimN s) []))) 14 (.int .i64 (pcs 10 (trimN s) []).length)) 15 (.int .i64 q.1)) 53 (li cI R)) 54 (.int .i64 R.length)) 55 (.int .i64 y.1)),y.2⟩) (fun y=>y.1 ≤ R.length ∧ NoneTill (outQ R q.2.1.2.1.length) y.1 ∧ y.2 b = some [fr 1 cI q.2.1.1,.sl yb 1 0 q.2.1.2.1.length cy,fr 4 cT q.2.1.2.2] ∧ y.2 yb = some (cat cB (markB q.2.1.2.1 R y.1) ++ zrP jy .any)) (fun y=>R.length - y.1) ((0,H1)) ?_ ?_ ?_);exact ⟨Nat.zero_le _,.zero _,v0,vy⟩;((repeat' (first | exact Qj (by assumption) | exact Ql | refine Qm ?_ ?_ | refine Qk ?_)) <;> simp [-zg,-zd,↓Qb,↓Qa,go_sem]);rintro y ⟨f1,f2,f3,f4⟩)
 | (refine ⟨(y.1 + 1,H8),⟨by dsimp only;omega,hno,u3,u4⟩,by first | omega | (simp;done) | (simp;omega),?_⟩;((repeat' (first | exact Qj (by assumption) | exact Ql | refine Qm ?_ ?_ | refine Qk ?_)) <;> simp [-zg,-zd,↓Qb,↓Qa,go_sem]))
 | (refine Qg ?_)
 | (refine Qq ?_;simp [-zg,-zd,↓Qb,↓Qa,go_sem])
 | (refine Qp ?_;simp [-zg,-zd,↓Qb,↓Qa,go_sem])
 | (refine Qs ?_;simp [-zg,-zd,↓Qb,↓Qa,go_sem,Tryz.results7])
 | (intro hx;refine zA ?_)
 | (refine ⟨?_,?_⟩ <;> refine zA ?_)
 | (intro hx;constructor <;> intro hs)
 | (constructor <;> intro hs)
 | (refine ⟨?_,fun hs=>?_⟩;refine zA ?_)
 | (refine ⟨fun hs=>?_,?_⟩;rotate_left;refine zA ?_;rotate_left)
 | (exfalso;have hy:=Nat.le_antisymm f1 c56;rw [hy] at f2;rw [inQ_none f2] at cR;cases cR)
 | fail))
  all_goals (first
 | (rw [hgn hst];rfl)
 | (exfalso;have:=inQ_at cR c56;omega)
 | (rw [ansI_yes hrd hAO.1 hAO.2];rfl)
 | (rw [ansI_no hrd (by simp_all)];rfl)
 | skip)
end
end Go.Proofs.YtiilmjojffjhlaaGreatDoor.Vm

