/-
  Marks of transitions and automata, exactly, and the look for them. No conditions.
-/
import Derived.Test.YtnfldmfamnhpcaaU1
namespace Go.Proofs.Ytnfldmfamnhpcaa.Vm
open Go
open List renaming getD_eq_getElem?_getD → zg,drop_one → zd
open Ne renaming symm → zS
noncomputable section
set_option linter.unusedVariables false
set_option linter.unusedSimpArgs false
set_option maxRecDepth 200000

def tm (k:Int) (i:Nat):Tr4:=(k + 4 * i,k + 4 * i + 1,k + 4 * i + 1 + 1,k + 4 * i + 1 + 1 + 1)
def Jm (k:Int) (n:Nat):List Tr4:=(List.range n).map fun (i:Nat)=>tm k i
@[go_sem] theorem zalb (k:Int) (n:Nat):(Jm k n).length = n:=by simp [Jm]
def mkT (k:Int) (xs:List Tr4) (i:Nat):List Tr4:=Jm k i ++ xs.drop i
theorem mkT_zero (k:Int) (xs:List Tr4):mkT k xs 0 = xs:=by simp [mkT,Jm]
theorem mkT_all (k:Int) (xs:List Tr4):mkT k xs xs.length = Jm k xs.length:=by simp [mkT]
theorem mkT_len {k:Int} {xs:List Tr4} {i:Nat} (h:i ≤ xs.length):(mkT k xs i).length = xs.length:=by simp [mkT,zalb];omega
theorem mkT_set {k:Int} {xs:List Tr4} {i:Nat} (h:i < xs.length):(mkT k xs i).set i (tm k i) = mkT k xs (i + 1):=by
  have m:Jm k (i + 1) = Jm k i ++ [tm k i]:=by simp [Jm,List.range_succ]
  unfold mkT
  rw [List.drop_eq_getElem_cons h,set_mid (by rw [zalb]),m]
  simp
theorem cat_set4:∀ {xs:List Tr4} {i:Nat} {ys:List D} {x:Tr4},i < xs.length → ((((cat cT xs ++ ys).set (i * 4) (.int .i64 x.1)).set (i * 4 + 1) (.int .i64 x.2.1)).set (i * 4 + 2) (.int .i64 x.2.2.1)).set (i * 4 + 3) (.int .i64 x.2.2.2) = cat cT (xs.set i x) ++ ys
  | [],i,ys,x,h=>by simp at h
  | z :: xs,0,ys,x,h=>by
    rw [Xm,List.set_cons_zero,Xm];rfl
  | z :: xs,i + 1,ys,x,h=>by
    rw [Xm,List.set_cons_succ,Xm,List.append_assoc,List.append_assoc]
    have:=cat_set4 (xs:=xs) (i:=i) (ys:=ys) (x:=x) (by simpa using h)
    have e:(i + 1) * 4 = i * 4 + 1 + 1 + 1 + 1:=by omega
    rw [e]
    simp only [cT,List.cons_append,List.nil_append,List.set_cons_succ]
    rw [this]
structure ME (b:Nat) (cs:List D) (H H1:Hp):Prop where
  here:H1 b = some cs
  rest:∀ z,¬ z = b → H1 z = H z
theorem ME.set {b:Nat} {cs cs':List D} {H H1 H2:Hp} (h:ME b cs H H1) (h2:H2 b = some cs') (h3:∀ z,¬ z = b → H2 z = H1 z):ME b cs' H H2:=⟨h2,fun z hz=>by rw [h3 z hz];exact h.rest z hz⟩
set_option maxHeartbeats 1000000 in
theorem markTx_spec (xs:List Tr4) (k:Int) (b cp:Nat) (junk:List D) (H:Hp) (hH:H b = some (cat cT xs ++ junk)) (h0:0 ≤ k) (h1:k + 4 * xs.length ≤ 1099511627776) :
    Spec Try.prog 34 [.sl b 4 0 xs.length cp,.int .i64 k] H (.int .i64 (k + 4 * xs.length)) (upd H b (some (cat cT (Jm k xs.length) ++ junk))):=by
  refine Spec.of_walk Try.func34 rfl (by simp [Try.f34]) fun B=>?_
  (repeat' (first
 | refine Qu ?_
 | refine Qc (id:=0) Jr [] (by kernel_rfl) ?_;simp [-zg,-zd,↓Qb,↓Qa,go_sem]
 | refine Qc (id:=1) Jr [] (by kernel_rfl) ?_;simp [-zg,-zd,↓Qb,↓Qa,go_sem]
 | refine Qc (id:=2) Jr [] (by kernel_rfl) ?_;simp [-zg,-zd,↓Qb,↓Qa,go_sem]
 | ((have w1:=g2.here);(have hml:=mkT_len (k:=k) (xs:=xs) (i:=q.1) (by omega));(have hst:=cat_set4 (xs:=mkT k xs q.1) (i:=q.1) (ys:=junk) (x:=tm k q.1) (by omega));(rw [mkT_set (by omega)] at hst);(simp only [tm] at hst);(have hcl:(cat cT (mkT k xs q.1) ++ junk).length = xs.length * 4 + junk.length:=(by rw [List.length_append,Qx,hml]));(obtain ⟨c0,hc0⟩:∃ c0,cat cT (mkT k xs q.1) ++ junk = c0:=⟨_,rfl⟩);(rw [hc0] at w1 hst hcl g2));refine Qc (id:=4) Jr [] (by kernel_rfl) ?_;simp [-zg,-zd,↓Qb,↓Qa,go_sem,w1,hcl,c9,(show q.1 * 4 + 4 ≤ xs.length * 4 + junk.length by omega),(show q.1 * 4 < xs.length * 4 + junk.length by omega),(show q.1 * 4 + 1 ≤ xs.length * 4 + junk.length by omega)];try ((obtain ⟨c1,hc1⟩:∃ c1,c0.set (q.1 * 4) (.int .i64 (k + 4 * (q.1:Int))) = c1:=⟨_,rfl⟩);(have hl1:c1.length = xs.length * 4 + junk.length:=(by rw [← hc1,List.length_set];exact hcl));(rw [hc1] at hst);(refine Qq (fun H1=>ME b c1 H H1) (ME.set g2 (by simp [upd,Zv,hc1]) (by intro z hz;simp [upd,hz])) fun H1 t1=>?_);(have w2:=t1.here))
 | refine Qc (id:=5) Jr [] (by kernel_rfl) ?_;simp [-zg,-zd,↓Qb,↓Qa,go_sem,Qw (x:=k + 4 * (q.1:Int) + 1) (by omega) (by omega)]
 | refine Qc (id:=6) Jr [] (by kernel_rfl) ?_;simp [-zg,-zd,↓Qb,↓Qa,go_sem,w2,hl1,c9,(show q.1 * 4 + 4 ≤ xs.length * 4 + junk.length by omega),(show q.1 * 4 + 1 < xs.length * 4 + junk.length by omega),(show q.1 * 4 + 1 + 1 ≤ xs.length * 4 + junk.length by omega)];try ((obtain ⟨c2,hc2⟩:∃ c2,c1.set (q.1 * 4 + 1) (.int .i64 (k + 4 * (q.1:Int) + 1)) = c2:=⟨_,rfl⟩);(have hl2:c2.length = xs.length * 4 + junk.length:=(by rw [← hc2,List.length_set];exact hl1));(rw [hc2] at hst);(refine Qq (fun H1=>ME b c2 H H1) (ME.set t1 (by simp [upd,Zv,hc2]) (by intro z hz;simp [upd,hz])) fun H2 t2=>?_);(have w3:=t2.here))
 | refine Qc (id:=7) Jr [] (by kernel_rfl) ?_;simp [-zg,-zd,↓Qb,↓Qa,go_sem,Qw (x:=k + 4 * (q.1:Int) + 1 + 1) (by omega) (by omega)]
 | refine Qc (id:=8) Jr [] (by kernel_rfl) ?_;simp [-zg,-zd,↓Qb,↓Qa,go_sem,w3,hl2,c9,(show q.1 * 4 + 4 ≤ xs.length * 4 + junk.length by omega),(show q.1 * 4 + 2 < xs.length * 4 + junk.length by omega),(show q.1 * 4 + 2 + 1 ≤ xs.length * 4 + junk.length by omega)];try ((obtain ⟨c3,hc3⟩:∃ c3,c2.set (q.1 * 4 + 2) (.int .i64 (k + 4 * (q.1:Int) + 1 + 1)) = c3:=⟨_,rfl⟩);(have hl3:c3.length = xs.length * 4 + junk.length:=(by rw [← hc3,List.length_set];exact hl2));(rw [hc3] at hst);(refine Qq (fun H1=>ME b c3 H H1) (ME.set t2 (by simp [upd,Zv,hc3]) (by intro z hz;simp [upd,hz])) fun H3 t3=>?_);(have w4:=t3.here))
 | refine Qc (id:=9) Jr [] (by kernel_rfl) ?_;simp [-zg,-zd,↓Qb,↓Qa,go_sem,Qw (x:=k + 4 * (q.1:Int) + 1 + 1 + 1) (by omega) (by omega)]
 | refine Qc (id:=10) Jr [] (by kernel_rfl) ?_;simp [-zg,-zd,↓Qb,↓Qa,go_sem,w4,hl3,c9,(show q.1 * 4 + 4 ≤ xs.length * 4 + junk.length by omega),(show q.1 * 4 + 3 < xs.length * 4 + junk.length by omega),(show q.1 * 4 + 3 + 1 ≤ xs.length * 4 + junk.length by omega)];try ((refine Qq (fun H1=>ME b (cat cT (mkT k xs (q.1 + 1)) ++ junk) H H1) (ME.set t3 (by simp [upd,Zv,hst]) (by intro z hz;simp [upd,hz])) fun H9 t5=>?_))
 | refine Qc (id:=11) Jr [] (by kernel_rfl) ?_;simp [-zg,-zd,↓Qb,↓Qa,go_sem,Qw (x:=k + 4 * (q.1:Int) + 1 + 1 + 1 + 1) (by omega) (by omega)]
 | refine Qc (id:=3) Jr [] (by kernel_rfl) ?_;simp [-zg,-zd,↓Qb,↓Qa,go_sem,wrapS (k:=q.1) (by omega)]
 | refine Qc (id:=12) Jr [] (by kernel_rfl) ?_;simp [-zg,-zd,↓Qb,↓Qa,go_sem]
 | refine Qd (c:=.tmp 9) ?_;simp [-zg,-zd,↓Qb,↓Qa,go_sem];try first | (refine ⟨?_,?_⟩ <;> refine zA ?_) | (refine ⟨fun c9=>?_,fun c9=>?_⟩ <;> (try simp [B_iff,B_not] at c9))
 | (refine Qe (id:=0) (Qz (ι:=Nat × Hp) (fun q:Nat × Hp=>⟨(upd (upd (upd (fun _=>.any) 0 (.sl b 4 0 xs.length cp)) 1 (.int .i64 (k + 4 * q.1))) 5 (.int .i64 q.1)),q.2⟩) (fun q=>q.1 ≤ xs.length ∧ ME b (cat cT (mkT k xs q.1) ++ junk) H q.2) (fun q=>xs.length - q.1) ((0,H)) ?_ ?_ ?_);exact ⟨Nat.zero_le _,⟨by rw [mkT_zero];exact hH,fun z hz=>rfl⟩⟩;((repeat' (first | exact Qg (by assumption) | exact Qi | refine Qf ?_ ?_ | refine Qh ?_)) <;> simp [-zg,-zd,↓Qb,↓Qa,go_sem]);rintro q ⟨g1,g2⟩)
 | (refine ⟨(q.1 + 1,H9),⟨by dsimp only;omega,t5⟩,by first | omega | (simp;done) | (simp;omega),?_⟩;((repeat' (first | exact Qg (by assumption) | exact Qi | refine Qf ?_ ?_ | refine Qh ?_)) <;> simp [-zg,-zd,↓Qb,↓Qa,go_sem,(show k + 4 * ((q.1:Int) + 1) = k + 4 * (q.1:Int) + 1 + 1 + 1 + 1 by omega),(show k + 4 * ((q.1 + 1:Nat):Int) = k + 4 * (q.1:Int) + 1 + 1 + 1 + 1 by omega)]))
 | (refine Qe ?_)
 | (refine Qt ?_;simp [-zg,-zd,↓Qb,↓Qa,go_sem])
 | (refine Qs ?_;simp [-zg,-zd,↓Qb,↓Qa,go_sem])
 | (refine Qv ?_;simp [-zg,-zd,↓Qb,↓Qa,go_sem,Try.results34])
 | (intro hx;refine zA ?_)
 | (refine ⟨?_,?_⟩ <;> refine zA ?_)
 | (intro hx;constructor <;> intro hs)
 | (constructor <;> intro hs)
 | (refine ⟨?_,fun hs=>?_⟩;refine zA ?_)
 | (refine ⟨fun hs=>?_,?_⟩;rotate_left;refine zA ?_;rotate_left)))
  all_goals (first
 | (have e:q.1 = xs.length:=(by omega);(have h8:=g2.here);(rw [e,mkT_all] at h8);refine ⟨by omega,fun z cs h=>?_⟩;by_cases ez:z = b;(subst ez;simp [upd] at h;rw [h8,h]);(simp [upd,ez] at h;rw [g2.rest z ez];exact h))
 | (have e:q.1 = xs.length:=(by omega);(have h8:=g2.here);(rw [e,mkT_all] at h8);refine ⟨by rw [e],fun z cs h=>?_⟩;by_cases ez:z = b;(subst ez;simp [upd] at h;rw [h8,h]);(simp [upd,ez] at h;rw [g2.rest z ez];exact h))
 | skip)
@[go_sem] def markTxC:Con:=.gen fun args H=>match args with
  | [.sl b 4 0 n _,.int .i64 k]=>match H b with
    | some all=>(n * 4 ≤ all.length ∧ Is cT n (all.take (n * 4)) ∧ 0 ≤ k ∧ k + 4 * n ≤ 1099511627776,.int .i64 (k + 4 * n),upd H b (some (cat cT (Jm k n) ++ all.drop (n * 4))))
    | none=>(False,.any,H)
  | _=>(False,.any,H)
theorem markTxC_ok:ConOk Try.prog 34 markTxC:=by
  refine ⟨Qp Try.func34 (by decide) rfl,fun args H h=>?_⟩
  revert h
  dsimp only
  split
  · rename_i b n cp k
    split
    · rename_i all hH
      rintro ⟨g1,⟨xs,hn,he⟩,g2,g3⟩
      subst hn
      have:all = cat cT xs ++ all.drop (xs.length * 4):=by rw [← he,List.take_append_drop]
      rw [this] at hH
      exact markTx_spec xs k b cp _ H hH g2 g3
    · intro h;exact h.elim
  · intro h
    exact h.elim
@[go_sem] def Γu8:FuncId → Con:=ext Γu7 34 markTxC
theorem zant:∀ g,ConOk Try.prog g (Γu8 g):=Qo Jr markTxC_ok
@[go_sem] theorem cat_drop_app_cT (xs:List Tr4) (ys:List D):(cat cT xs ++ ys).drop (xs.length * 4) = ys:=zamk xs ys
@[go_sem] theorem cat_take_app_cT (xs:List Tr4) (ys:List D):(cat cT xs ++ ys).take (xs.length * 4) = cat cT xs:=Zl xs ys

set_option maxHeartbeats 2000000 in
theorem markAx_spec (a:List Int) (b:List Bool) (c:List Tr4) (k:Int) (b1 b2 b3 c1 c2 c3:Nat) (j1 j2 j3:List D) (H:Hp) (h1:H b1 = some (cat cI a ++ j1)) (h2:H b2 = some (cat cB b ++ j2)) (h3:H b3 = some (cat cT c ++ j3)) (n12:¬ b1 = b2) (n13:¬ b1 = b3) (n23:¬ b2 = b3) (h0:0 ≤ k) (hk:k + a.length + b.length + 4 * c.length ≤ 1099511627776) :
    Spec Try.prog 10 [.st [.sl b1 1 0 a.length c1,.sl b2 1 0 b.length c2,.sl b3 4 0 c.length c3],.int .i64 k] H (.int .i64 (k + a.length + b.length + 4 * c.length))
      (upd (upd (upd H b1 (some (cat cI (marks k a.length) ++ j1))) b2 (some (cat cB (Jo (k + a.length) b.length) ++ j2))) b3 (some (cat cT (Jm (k + a.length + b.length) c.length) ++ j3))):=by
  refine Spec.of_walk Try.func10 rfl (by simp [Try.f10]) fun B=>?_
  (repeat' (first
 | refine Qu ?_
 | refine Qc (id:=0) zant [] (by kernel_rfl) ?_;simp [-zg,-zd,↓Qb,↓Qa,go_sem];try (refine Xu 2 rfl fun b0 hb0=>?_;have m1:¬ b1 = b0:=(by rintro rfl;dsimp only at hb0;rw [h1] at hb0;cases hb0);have m2:¬ b2 = b0:=(by rintro rfl;dsimp only at hb0;rw [h2] at hb0;cases hb0);have m3:¬ b3 = b0:=(by rintro rfl;dsimp only at hb0;rw [h3] at hb0;cases hb0))
 | refine Qc (id:=1) zant [] (by kernel_rfl) ?_;simp [-zg,-zd,↓Qb,↓Qa,go_sem,m1,h1,h0,(show k + (a.length:Int) ≤ 1099511627776 by omega),(show a.length ≤ a.length + j1.length by omega)]
 | refine Qc (id:=2) zant [] (by kernel_rfl) ?_;simp [-zg,-zd,↓Qb,↓Qa,go_sem,m1,m2,zS m1,zS m2,n12,zS n12,h2,(show 0 ≤ k + (a.length:Int) by omega),(show k + (a.length:Int) + (b.length:Int) ≤ 1099511627776 by omega),(show b.length ≤ b.length + j2.length by omega)]
 | refine Qc (id:=3) zant [] (by kernel_rfl) ?_;simp [-zg,-zd,↓Qb,↓Qa,go_sem,m1,m2,m3,zS m1,zS m2,zS m3,n12,zS n12,n13,zS n13,n23,zS n23,h3,(show 0 ≤ k + (a.length:Int) + (b.length:Int) by omega),hk,(show c.length * 4 ≤ c.length * 4 + j3.length by omega)]
 | refine Qc (id:=4) zant [] (by kernel_rfl) ?_;simp [-zg,-zd,↓Qb,↓Qa,go_sem]
 | (refine Qe ?_)
 | (refine Qt ?_;simp [-zg,-zd,↓Qb,↓Qa,go_sem])
 | (refine Qs ?_;simp [-zg,-zd,↓Qb,↓Qa,go_sem])
 | (refine Qv ?_;simp [-zg,-zd,↓Qb,↓Qa,go_sem,Try.results10])
 | (intro hx;refine zA ?_)
 | (refine ⟨?_,?_⟩ <;> refine zA ?_)
 | (intro hx;constructor <;> intro hs)
 | (constructor <;> intro hs)
 | (refine ⟨?_,fun hs=>?_⟩;refine zA ?_)
 | (refine ⟨fun hs=>?_,?_⟩;rotate_left;refine zA ?_;rotate_left)))
  all_goals (first
 | (intro b' cs' h;dsimp only at hb0;by_cases e3:b' = b3 <;> by_cases e2:b' = b2 <;> by_cases e1:b' = b1 <;> by_cases e0:b' = b0 <;> simp_all)
 | skip)
@[go_sem] def markAxC:Con:=.gen fun args H=>match args with
  | [.st [.sl b1 1 0 n _,.sl b2 1 0 m _,.sl b3 4 0 o _],.int .i64 k]=>match H b1,H b2,H b3 with
    | some a1,some a2,some a3=>(¬ b1 = b2 ∧ ¬ b1 = b3 ∧ ¬ b2 = b3 ∧ n ≤ a1.length ∧ m ≤ a2.length ∧ o * 4 ≤ a3.length ∧ Is cI n (a1.take n) ∧ Is cB m (a2.take m) ∧ Is cT o (a3.take (o * 4)) ∧ 0 ≤ k ∧ k + n + m + 4 * o ≤ 1099511627776,
        .int .i64 (k + n + m + 4 * o),upd (upd (upd H b1 (some (cat cI (marks k n) ++ a1.drop n))) b2 (some (cat cB (Jo (k + n) m) ++ a2.drop m))) b3 (some (cat cT (Jm (k + n + m) o) ++ a3.drop (o * 4))))
    | _,_,_=>(False,.any,H)
  | _=>(False,.any,H)
theorem markAxC_ok:ConOk Try.prog 10 markAxC:=by
  refine ⟨Qp Try.func10 (by decide) rfl,fun args H h=>?_⟩
  revert h
  dsimp only
  split
  · rename_i b1 n c1 b2 m c2 b3 o c3 k
    split
    · rename_i a1 a2 a3 hH1 hH2 hH3
      rintro ⟨g1,g2,g3,g4,g5,g6,⟨xs,hn,he⟩,⟨ys,hm,hf⟩,⟨zs,ho,hg⟩,g8,g9⟩
      subst hn hm ho
      have e1:a1 = cat cI xs ++ a1.drop xs.length:=by rw [← he,List.take_append_drop]
      have e2:a2 = cat cB ys ++ a2.drop ys.length:=by rw [← hf,List.take_append_drop]
      have e3:a3 = cat cT zs ++ a3.drop (zs.length * 4):=by rw [← hg,List.take_append_drop]
      rw [e1] at hH1
      rw [e2] at hH2
      rw [e3] at hH3
      exact markAx_spec xs ys zs k b1 b2 b3 c1 c2 c3 _ _ _ H hH1 hH2 hH3 g1 g2 g3 g8 g9
    · intro h;exact h.elim
  · intro h
    exact h.elim
@[go_sem] def Γu9:FuncId → Con:=ext Γu8 10 markAxC
theorem Γu9_ok:∀ g,ConOk Try.prog g (Γu9 g):=Qo zant markAxC_ok

def heldTr (k:Int) (xs:List Tr4):Int:=if xs = Jm k xs.length then k + 4 * xs.length else -1
@[go_sem] theorem heldTr_marks (k:Int) (n:Nat):heldTr k (Jm k n) = k + 4 * n:=by simp [heldTr,zalb]
@[go_sem] theorem heldTr_nil (k:Int):heldTr k [] = k:=by simp [heldTr,Jm]
@[go_sem] def Γu10:FuncId → Con:=Γu9
theorem Γu10_ok:∀ g,ConOk Try.prog g (Γu10 g):=Γu9_ok
@[go_sem] def Γu11:FuncId → Con:=Γu10
theorem Γu11_ok:∀ g,ConOk Try.prog g (Γu11 g):=Γu10_ok
end
end Go.Proofs.Ytnfldmfamnhpcaa.Vm

