import Derived.Test.YtiilmjojffjhlaaGreatDoorKN6
/-
  Marks in automata and rows of Bools. No conditions.
-/
namespace Go.Proofs.YtiilmjojffjhlaaGreatDoor.Vm
open Go
open List renaming getD_eq_getElem?_getD → zg,drop_one → zd
open Ne renaming symm → zS
noncomputable section
set_option linter.unusedVariables false
set_option linter.unusedSimpArgs false
set_option maxRecDepth 200000

def bm (k:Int):Bool:=decide (k.tmod 3 = 0)
def Xf (k:Int) (n:Nat):List Bool:=(List.range n).map fun (i:Nat)=>bm (k + i)
@[go_sem] theorem zabm (k:Int) (n:Nat):(Xf k n).length = n:=by simp [Xf]
theorem nth_marksB {k:Int} {n i:Nat} (h:i < n):nth (Xf k n) i = bm (k + i):=by rw [nth_lt (by rw [zabm];exact h)];simp [Xf]
def mkB (k:Int) (xs:List Bool) (i:Nat):List Bool:=Xf k i ++ xs.drop i
theorem mkB_zero (k:Int) (xs:List Bool):mkB k xs 0 = xs:=by simp [mkB,Xf]
theorem mkB_all (k:Int) (xs:List Bool):mkB k xs xs.length = Xf k xs.length:=by simp [mkB]
theorem mkB_len {k:Int} {xs:List Bool} {i:Nat} (h:i < xs.length):(mkB k xs i).length = xs.length:=by simp [mkB,zabm];omega
theorem mkB_set {k:Int} {xs:List Bool} {i:Nat} (h:i < xs.length):(mkB k xs i).set i (decide ((k + (i:Int)).tmod 3 = 0)) = mkB k xs (i + 1):=by
  have m:Xf k (i + 1) = Xf k i ++ [bm (k + i)]:=by simp [Xf,List.range_succ]
  unfold mkB
  rw [List.drop_eq_getElem_cons h,set_mid (by rw [zabm]),m]
  simp [bm]
theorem markB_spec (xs:List Bool) (k:Int) (b cp:Nat) (junk:List D) (H:Hp) (hH:H b = some (cat cB xs ++ junk)) (h0:0 ≤ k) (h1:k + xs.length ≤ 1099511627776) :
    Spec Tryz.prog 37 [.sl b 1 0 xs.length cp,.int .i64 k] H (.int .i64 (k + xs.length)) (upd H b (some (cat cB (Xf k xs.length) ++ junk))):=by
  refine Spec.of_walk Tryz.func37 rfl (by simp [Tryz.f37]) fun B=>?_
  (repeat' (first
 | refine Qr ?_
 | refine Qc (id:=0) Za [] (by kernel_rfl) ?_;simp [-zg,-zd,↓Qb,↓Qa,go_sem]
 | refine Qc (id:=1) Za [] (by kernel_rfl) ?_;simp [-zg,-zd,↓Qb,↓Qa,go_sem]
 | refine Qc (id:=2) Za [] (by kernel_rfl) ?_;simp [-zg,-zd,↓Qb,↓Qa,go_sem]
 | refine Qc (id:=4) Za [] (by kernel_rfl) ?_;simp [-zg,-zd,↓Qb,↓Qa,go_sem,c9,Qh c9,Nat.sub_pos_of_lt c9,mkB_len c9,mkB_set c9,(show i + 1 ≤ xs.length + junk.length by omega),(show i < xs.length + junk.length by omega)]
 | refine Qc (id:=5) Za [] (by kernel_rfl) ?_;simp [-zg,-zd,↓Qb,↓Qa,go_sem,wrap_in (x:=k + (i:Int) + 1) (by omega) (by omega)]
 | refine Qc (id:=3) Za [] (by kernel_rfl) ?_;simp [-zg,-zd,↓Qb,↓Qa,go_sem,wrapS (k:=i) (by omega)]
 | refine Qc (id:=6) Za [] (by kernel_rfl) ?_;simp [-zg,-zd,↓Qb,↓Qa,go_sem]
 | refine Qf (c:=.tmp 9) ?_;simp [-zg,-zd,↓Qb,↓Qa,go_sem];try first | (refine ⟨?_,?_⟩ <;> refine zA ?_) | (refine ⟨fun c9=>?_,fun c9=>?_⟩ <;> (try simp [B_iff,B_not] at c9))
 | (refine Qg (id:=0) (Xc (ι:=Nat) (fun i:Nat=>⟨(upd (upd (upd (fun _=>.any) 0 (.sl b 1 0 xs.length cp)) 1 (.int .i64 (k + i))) 5 (.int .i64 i)),upd H b (some (cat cB (mkB k xs i) ++ junk))⟩) (fun i=>i ≤ xs.length) (fun i=>xs.length - i) (0) ?_ ?_ ?_);exact Nat.zero_le _;((repeat' (first | exact Qj (by assumption) | exact Ql | refine Qm ?_ ?_ | refine Qk ?_)) <;> simp [-zg,-zd,↓Qb,↓Qa,go_sem,mkB_zero,Jk hH]);rintro i hi)
 | (refine ⟨i + 1,by omega,by first | omega | (simp;done) | (simp;omega),?_⟩;((repeat' (first | exact Qj (by assumption) | exact Ql | refine Qm ?_ ?_ | refine Qk ?_)) <;> simp [-zg,-zd,↓Qb,↓Qa,go_sem,(show k + ((i:Int) + 1) = k + (i:Int) + 1 by omega),(show k + ((i + 1:Nat):Int) = k + (i:Int) + 1 by omega)]))
 | (refine Qg ?_)
 | (refine Qq ?_;simp [-zg,-zd,↓Qb,↓Qa,go_sem])
 | (refine Qp ?_;simp [-zg,-zd,↓Qb,↓Qa,go_sem])
 | (refine Qs ?_;simp [-zg,-zd,↓Qb,↓Qa,go_sem,Tryz.results37])
 | (intro hx;refine zA ?_)
 | (refine ⟨?_,?_⟩ <;> refine zA ?_)
 | (intro hx;constructor <;> intro hs)
 | (constructor <;> intro hs)
 | (refine ⟨?_,fun hs=>?_⟩;refine zA ?_)
 | (refine ⟨fun hs=>?_,?_⟩;rotate_left;refine zA ?_;rotate_left)))
  all_goals (first
 | (obtain rfl:i = xs.length:=(by omega);rw [mkB_all];exact ⟨rfl,fun _ _ h=>h⟩)
 | skip)
theorem markBNil_spec (k:Int) (H:Hp):Spec Tryz.prog 37 [.nil,.int .i64 k] H (.int .i64 k) H:=by
  refine Spec.of_walk Tryz.func37 rfl (by simp [Tryz.f37]) fun B=>?_
  (repeat' (first
 | refine Qr ?_
 | refine Qc (id:=0) Za [] (by kernel_rfl) ?_;simp [-zg,-zd,↓Qb,↓Qa,go_sem]
 | refine Qc (id:=1) Za [] (by kernel_rfl) ?_;simp [-zg,-zd,↓Qb,↓Qa,go_sem]
 | refine Qc (id:=2) Za [] (by kernel_rfl) ?_;simp [-zg,-zd,↓Qb,↓Qa,go_sem]
 | refine Qc (id:=4) Za [] (by kernel_rfl) ?_;simp [-zg,-zd,↓Qb,↓Qa,go_sem]
 | refine Qc (id:=5) Za [] (by kernel_rfl) ?_;simp [-zg,-zd,↓Qb,↓Qa,go_sem]
 | refine Qc (id:=3) Za [] (by kernel_rfl) ?_;simp [-zg,-zd,↓Qb,↓Qa,go_sem]
 | refine Qc (id:=6) Za [] (by kernel_rfl) ?_;simp [-zg,-zd,↓Qb,↓Qa,go_sem]
 | refine Qf (c:=.tmp 9) ?_;simp [-zg,-zd,↓Qb,↓Qa,go_sem];try first | (refine ⟨?_,?_⟩ <;> refine zA ?_) | (refine ⟨fun c9=>?_,fun c9=>?_⟩ <;> (try simp [B_iff,B_not] at c9))
 | (refine Qg (id:=0) (Xc (ι:=Unit) (fun i:Unit=>⟨(upd (upd (upd (fun _=>.any) 0 (.nil)) 1 (.int .i64 k)) 5 (.int .i64 0)),H⟩) (fun i=>True) (fun i=>0) (()) ?_ ?_ ?_);exact trivial;((repeat' (first | exact Qj (by assumption) | exact Ql | refine Qm ?_ ?_ | refine Qk ?_)) <;> simp [-zg,-zd,↓Qb,↓Qa,go_sem]);rintro i hi)
 | (refine ⟨(),trivial,by first | omega | (simp;done) | (simp;omega),?_⟩;((repeat' (first | exact Qj (by assumption) | exact Ql | refine Qm ?_ ?_ | refine Qk ?_)) <;> simp [-zg,-zd,↓Qb,↓Qa,go_sem]))
 | (refine Qg ?_)
 | (refine Qq ?_;simp [-zg,-zd,↓Qb,↓Qa,go_sem])
 | (refine Qp ?_;simp [-zg,-zd,↓Qb,↓Qa,go_sem])
 | (refine Qs ?_;simp [-zg,-zd,↓Qb,↓Qa,go_sem,Tryz.results37])
 | (intro hx;refine zA ?_)
 | (refine ⟨?_,?_⟩ <;> refine zA ?_)
 | (intro hx;constructor <;> intro hs)
 | (constructor <;> intro hs)
 | (refine ⟨?_,fun hs=>?_⟩;refine zA ?_)
 | (refine ⟨fun hs=>?_,?_⟩;rotate_left;refine zA ?_;rotate_left)
 | (exfalso;omega)))
@[go_sem] def markBC:Con:=.gen fun args H=>match args with
  | [.sl b 1 0 n _,.int .i64 k]=>match H b with
    | some all=>(n ≤ all.length ∧ Is cB n (all.take n) ∧ 0 ≤ k ∧ k + n ≤ 1099511627776,.int .i64 (k + n),upd H b (some (cat cB (Xf k n) ++ all.drop n)))
    | none=>(False,.any,H)
  | [.nil,.int .i64 k]=>(True,.int .i64 k,H)
  | _=>(False,.any,H)
theorem markBC_ok:ConOk Tryz.prog 37 markBC:=by
  refine ⟨Qn Tryz.func37 (by decide) rfl,fun args H h=>?_⟩
  revert h
  dsimp only
  split
  · rename_i b n cp k
    split
    · rename_i all hH
      rintro ⟨g1,⟨xs,hn,he⟩,g2,g3⟩
      subst hn
      have:all = cat cB xs ++ all.drop xs.length:=by rw [← he,List.take_append_drop]
      rw [this] at hH
      have:=markB_spec xs k b cp _ H hH g2 g3
      exact this
    · intro h;exact h.elim
  · intro _
    exact markBNil_spec _ H
  · intro h
    exact h.elim
@[go_sem] def Γn7:FuncId → Con:=ext Γn6 37 markBC
theorem Ju:∀ g,ConOk Tryz.prog g (Γn7 g):=Qu Za markBC_ok

def heldB (k:Int) (xs:List Bool):Int:=if xs = Xf k xs.length then k + xs.length else -1
@[go_sem] theorem heldB_marks (k:Int) (n:Nat):heldB k (Xf k n) = k + n:=by simp [heldB,zabm]
@[go_sem] theorem heldB_nil (k:Int):heldB k [] = k:=by simp [heldB,Xf]

theorem heldB_pure (xs:List Bool) (k:Int) (h0:0 ≤ k) (h1:k + xs.length ≤ 1099511627776):Pure Tryz.prog 40 [li cB xs,.int .i64 k] (.int .i64 (heldB k xs)):=by
  refine Pure.of_walk Tryz.func40 rfl (by simp [Tryz.f40]) (by simp [-zd,go_sem]) fun B hK=>?_
  (repeat' (first
 | refine Qr ?_
 | refine Qc (id:=0) Ju [] (by kernel_rfl) ?_;simp [-zg,-zd,↓Qb,↓Qa,go_sem]
 | refine Qc (id:=1) Ju [] (by kernel_rfl) ?_;simp [-zg,-zd,↓Qb,↓Qa,go_sem]
 | refine Qc (id:=2) Ju [] (by kernel_rfl) ?_;simp [-zg,-zd,↓Qb,↓Qa,go_sem]
 | refine Qc (id:=4) Ju [] (by kernel_rfl) ?_;simp [-zg,-zd,↓Qb,↓Qa,go_sem,c9,Qh c9,Nat.sub_pos_of_lt c9]
 | refine Qc (id:=5) Ju [] (by kernel_rfl) ?_;simp [-zg,-zd,↓Qb,↓Qa,go_sem]
 | refine Qc (id:=6) Ju [] (by kernel_rfl) ?_;simp [-zg,-zd,↓Qb,↓Qa,go_sem,wrap_in (x:=k + (i:Int) + 1) (by omega) (by omega)]
 | refine Qc (id:=3) Ju [] (by kernel_rfl) ?_;simp [-zg,-zd,↓Qb,↓Qa,go_sem,wrapS (k:=i) (by omega)]
 | refine Qc (id:=7) Ju [] (by kernel_rfl) ?_;simp [-zg,-zd,↓Qb,↓Qa,go_sem]
 | refine Qf (c:=.tmp 9) ?_;simp [-zg,-zd,↓Qb,↓Qa,go_sem];try first | (refine ⟨?_,?_⟩ <;> refine zA ?_) | (refine ⟨fun c9=>?_,fun c9=>?_⟩ <;> (try simp [B_iff,B_not] at c9))
 | refine Qf (c:=.tmp 19) ?_;simp [-zg,-zd,↓Qb,↓Qa,go_sem];try first | (refine ⟨?_,?_⟩ <;> refine zA ?_) | (refine ⟨fun c19=>?_,fun c19=>?_⟩ <;> (try simp [B_iff,B_not] at c19))
 | (refine Qg (id:=0) (Xc (ι:=Nat) (fun i:Nat=>⟨(upd (upd (upd (fun _=>.any) 0 (li cB xs)) 1 (.int .i64 (k + i))) 5 (.int .i64 i)),fun _=>none⟩) (fun i=>i ≤ xs.length ∧ NoneTill (fun j=>!decide (nth xs j = bm (k + j))) i) (fun i=>xs.length - i) (0) ?_ ?_ ?_);exact ⟨Nat.zero_le _,.zero _⟩;((repeat' (first | exact Qj (by assumption) | exact Ql | refine Qm ?_ ?_ | refine Qk ?_)) <;> simp [-zg,-zd,↓Qb,↓Qa,go_sem]);rintro i ⟨hi,ht⟩)
 | (refine ⟨i + 1,⟨by omega,ht.succ (by simp [bm,c19])⟩,by first | omega | (simp;done) | (simp;omega),?_⟩;((repeat' (first | exact Qj (by assumption) | exact Ql | refine Qm ?_ ?_ | refine Qk ?_)) <;> simp [-zg,-zd,↓Qb,↓Qa,go_sem,(show k + ((i:Int) + 1) = k + (i:Int) + 1 by omega),(show k + ((i + 1:Nat):Int) = k + (i:Int) + 1 by omega)]))
 | (refine Qg ?_)
 | (refine Qq ?_;simp [-zg,-zd,↓Qb,↓Qa,go_sem])
 | (refine Qp ?_;simp [-zg,-zd,↓Qb,↓Qa,go_sem])
 | (refine Qs ?_;simp [-zg,-zd,↓Qb,↓Qa,go_sem,Tryz.results40])
 | (intro hx;refine zA ?_)
 | (refine ⟨?_,?_⟩ <;> refine zA ?_)
 | (intro hx;constructor <;> intro hs)
 | (constructor <;> intro hs)
 | (refine ⟨?_,fun hs=>?_⟩;refine zA ?_)
 | (refine ⟨fun hs=>?_,?_⟩;rotate_left;refine zA ?_;rotate_left)))
  all_goals (first
 | (rw [heldB,if_neg];intro e;apply c19;have:=nth_marksB (k:=k) c9;rw [← e] at this;exact this)
 | (obtain rfl:i = xs.length:=(by omega);rw [heldB,if_pos];apply List.ext_getElem (by rw [zabm]);intro j h1 h2;have:=ht j h1;simp at this;rw [← nth_lt h1,← nth_lt h2,nth_marksB h1,this])
 | skip)
@[go_sem] def zadu:Con:=.pure fun
  | [.list n_xs c_xs,.int .i64 k]=>((Is cB n_xs c_xs) ∧ (0 ≤ k) ∧ (k + (de cB c_xs).length ≤ 1099511627776),.int .i64 (heldB k (de cB c_xs)))
  | _=>(False,.any)
theorem heldB_pureC_ok:ConOk Tryz.prog 40 zadu:=by
  refine ⟨Qn Tryz.func40 (by decide) rfl,fun args h=>?_⟩
  revert h
  dsimp only
  split
  · intro h
    obtain ⟨⟨xs,rfl,rfl⟩,h0,h1⟩:=h
    try simp only [Xb] at *
    exact ⟨heldB_pure xs _ h0 h1,by simp [go_sem]⟩
  · intro h
    exact h.elim
@[go_sem] def Γn8:FuncId → Con:=ext Γn7 40 zadu
theorem Zd:∀ g,ConOk Tryz.prog g (Γn8 g):=Qu Ju heldB_pureC_ok

structure MT (b:Nat) (all:List D) (H H1:Hp):Prop where
  here:∃ cs,H1 b = some cs ∧ cs.length = all.length
  rest:∀ z cs,¬ z = b → H z = some cs → H1 z = some cs
theorem MT.set {b:Nat} {all:List D} {H H1 H2:Hp} (h:MT b all H H1) {cs:List D} {i:Nat} {d:D} (h2:H2 b = some (cs.set i d)) (hl:cs.length = all.length) (h3:∀ z,¬ z = b → H2 z = H1 z):MT b all H H2 :=
  ⟨⟨_,h2,by rw [List.length_set,hl]⟩,fun z cs hz k=>by rw [h3 z hz];exact h.rest z cs hz k⟩
theorem markT_spec (n:Nat) (k:Int) (b cp:Nat) (all:List D) (H:Hp) (hH:H b = some all) (hn:n * 4 ≤ all.length) (hn2:n ≤ 1048576) (h0:0 ≤ k) (h1:k + 4 * n ≤ 1099511627776) :
    Spec Tryz.prog 38 [.sl b 4 0 n cp,.int .i64 k] H (.int .i64 (k + 4 * n)) (upd H b none):=by
  refine Spec.of_walk Tryz.func38 rfl (by simp [Tryz.f38]) fun B=>?_
  (repeat' (first
 | refine Qr ?_
 | refine Qc (id:=0) Zd [] (by kernel_rfl) ?_;simp [-zg,-zd,↓Qb,↓Qa,go_sem]
 | refine Qc (id:=1) Zd [] (by kernel_rfl) ?_;simp [-zg,-zd,↓Qb,↓Qa,go_sem]
 | refine Qc (id:=2) Zd [] (by kernel_rfl) ?_;simp [-zg,-zd,↓Qb,↓Qa,go_sem]
 | ((obtain ⟨⟨cs,w1,w2⟩,w3⟩:=g2));refine Qc (id:=4) Zd [] (by kernel_rfl) ?_;simp [-zg,-zd,↓Qb,↓Qa,go_sem,w1,w2,c9,(show q.1 * 4 + 4 ≤ all.length by omega),(show q.1 * 4 < all.length by omega),(show q.1 * 4 + 1 ≤ all.length by omega)];try ((refine Xq (fun H1=>MT b all H H1) (MT.set (cs:=cs) ⟨⟨cs,w1,w2⟩,w3⟩ (by simp [upd,Va];rfl) (by assumption) (by intro z hz;simp [upd,hz])) fun H1 t1=>?_))
 | refine Qc (id:=5) Zd [] (by kernel_rfl) ?_;simp [-zg,-zd,↓Qb,↓Qa,go_sem,wrap_in (x:=k + 4 * (q.1:Int) + 1) (by omega) (by omega)]
 | ((obtain ⟨⟨cs1,w11,w12⟩,w13⟩:=t1));refine Qc (id:=6) Zd [] (by kernel_rfl) ?_;simp [-zg,-zd,↓Qb,↓Qa,go_sem,w11,w12,c9,(show q.1 * 4 + 4 ≤ all.length by omega),(show q.1 * 4 + 1 < all.length by omega),(show q.1 * 4 + 1 + 1 ≤ all.length by omega)];try ((refine Xq (fun H1=>MT b all H H1) (MT.set (cs:=cs1) ⟨⟨cs1,w11,w12⟩,w13⟩ (by simp [upd,Va];rfl) (by assumption) (by intro z hz;simp [upd,hz])) fun H2 t2=>?_))
 | refine Qc (id:=7) Zd [] (by kernel_rfl) ?_;simp [-zg,-zd,↓Qb,↓Qa,go_sem,wrap_in (x:=k + 4 * (q.1:Int) + 1 + 1) (by omega) (by omega)]
 | ((obtain ⟨⟨cs2,w21,w22⟩,w23⟩:=t2));refine Qc (id:=8) Zd [] (by kernel_rfl) ?_;simp [-zg,-zd,↓Qb,↓Qa,go_sem,w21,w22,c9,(show q.1 * 4 + 4 ≤ all.length by omega),(show q.1 * 4 + 2 < all.length by omega),(show q.1 * 4 + 2 + 1 ≤ all.length by omega)];try ((refine Xq (fun H1=>MT b all H H1) (MT.set (cs:=cs2) ⟨⟨cs2,w21,w22⟩,w23⟩ (by simp [upd,Va];rfl) (by assumption) (by intro z hz;simp [upd,hz])) fun H3 t3=>?_))
 | refine Qc (id:=9) Zd [] (by kernel_rfl) ?_;simp [-zg,-zd,↓Qb,↓Qa,go_sem,wrap_in (x:=k + 4 * (q.1:Int) + 1 + 1 + 1) (by omega) (by omega)]
 | ((obtain ⟨⟨cs3,w31,w32⟩,w33⟩:=t3));refine Qc (id:=10) Zd [] (by kernel_rfl) ?_;simp [-zg,-zd,↓Qb,↓Qa,go_sem,w31,w32,c9,(show q.1 * 4 + 4 ≤ all.length by omega),(show q.1 * 4 + 3 < all.length by omega),(show q.1 * 4 + 3 + 1 ≤ all.length by omega)];try ((refine Xq (fun H1=>MT b all H H1) (MT.set (cs:=cs3) ⟨⟨cs3,w31,w32⟩,w33⟩ (by simp [upd,Va];rfl) (by assumption) (by intro z hz;simp [upd,hz])) fun H9 t4=>?_))
 | refine Qc (id:=11) Zd [] (by kernel_rfl) ?_;simp [-zg,-zd,↓Qb,↓Qa,go_sem,wrap_in (x:=k + 4 * (q.1:Int) + 1 + 1 + 1 + 1) (by omega) (by omega)]
 | refine Qc (id:=3) Zd [] (by kernel_rfl) ?_;simp [-zg,-zd,↓Qb,↓Qa,go_sem,wrapS (k:=q.1) (by omega)]
 | refine Qc (id:=12) Zd [] (by kernel_rfl) ?_;simp [-zg,-zd,↓Qb,↓Qa,go_sem]
 | refine Qf (c:=.tmp 9) ?_;simp [-zg,-zd,↓Qb,↓Qa,go_sem];try first | (refine ⟨?_,?_⟩ <;> refine zA ?_) | (refine ⟨fun c9=>?_,fun c9=>?_⟩ <;> (try simp [B_iff,B_not] at c9))
 | (refine Qg (id:=0) (Xc (ι:=Nat × Hp) (fun q:Nat × Hp=>⟨(upd (upd (upd (fun _=>.any) 0 (.sl b 4 0 n cp)) 1 (.int .i64 (k + 4 * q.1))) 5 (.int .i64 q.1)),q.2⟩) (fun q=>q.1 ≤ n ∧ MT b all H q.2) (fun q=>n - q.1) ((0,H)) ?_ ?_ ?_);exact ⟨Nat.zero_le _,⟨⟨all,hH,rfl⟩,fun z cs hz h=>h⟩⟩;((repeat' (first | exact Qj (by assumption) | exact Ql | refine Qm ?_ ?_ | refine Qk ?_)) <;> simp [-zg,-zd,↓Qb,↓Qa,go_sem]);rintro q ⟨g1,g2⟩)
 | (refine ⟨(q.1 + 1,H9),⟨by dsimp only;omega,t4⟩,by first | omega | (simp;done) | (simp;omega),?_⟩;((repeat' (first | exact Qj (by assumption) | exact Ql | refine Qm ?_ ?_ | refine Qk ?_)) <;> simp [-zg,-zd,↓Qb,↓Qa,go_sem,(show k + 4 * ((q.1:Int) + 1) = k + 4 * (q.1:Int) + 1 + 1 + 1 + 1 by omega),(show k + 4 * ((q.1 + 1:Nat):Int) = k + 4 * (q.1:Int) + 1 + 1 + 1 + 1 by omega)]))
 | (refine Qg ?_)
 | (refine Qq ?_;simp [-zg,-zd,↓Qb,↓Qa,go_sem])
 | (refine Qp ?_;simp [-zg,-zd,↓Qb,↓Qa,go_sem])
 | (refine Qs ?_;simp [-zg,-zd,↓Qb,↓Qa,go_sem,Tryz.results38])
 | (intro hx;refine zA ?_)
 | (refine ⟨?_,?_⟩ <;> refine zA ?_)
 | (intro hx;constructor <;> intro hs)
 | (constructor <;> intro hs)
 | (refine ⟨?_,fun hs=>?_⟩;refine zA ?_)
 | (refine ⟨fun hs=>?_,?_⟩;rotate_left;refine zA ?_;rotate_left)))
  all_goals (first
 | (exact ⟨by omega,fun z cs hz h=>g2.rest z cs hz h⟩)
 | (have e:q.1 = n:=(by omega);rw [e];refine ⟨rfl,fun z cs h=>?_⟩;by_cases ez:z = b;(subst ez;simp [upd] at h);(rw [Qd ez] at h;exact g2.rest z cs ez h))
 | (have e:q.1 = n:=(by omega);rw [e];refine ⟨rfl,fun z cs h=>?_⟩;by_cases ez:z = b;(subst ez;simp at h);(simp [ez] at h;exact g2.rest z cs ez h))
 | skip)
@[go_sem] def markTC:Con:=.gen fun args H=>match args with
  | [.sl b 4 0 n _,.int .i64 k]=>match H b with
    | some all=>(n * 4 ≤ all.length ∧ n ≤ 1048576 ∧ 0 ≤ k ∧ k + 4 * n ≤ 1099511627776,.int .i64 (k + 4 * n),upd H b none)
    | none=>(False,.any,H)
  | _=>(False,.any,H)
theorem markTC_ok:ConOk Tryz.prog 38 markTC:=by
  refine ⟨Qn Tryz.func38 (by decide) rfl,fun args H h=>?_⟩
  revert h
  dsimp only
  split
  · rename_i b n cp k
    split
    · rename_i all hH
      rintro ⟨g1,g2,g3,g4⟩
      exact markT_spec n k b cp all H hH g1 g2 g3 g4
    · intro h;exact h.elim
  · intro h
    exact h.elim
@[go_sem] def Γn9:FuncId → Con:=ext Γn8 38 markTC
theorem zahd:∀ g,ConOk Tryz.prog g (Γn9 g):=Qu Zd markTC_ok

set_option maxHeartbeats 2000000 in
theorem markA_spec (a:List Int) (b:List Bool) (n:Nat) (k:Int) (b1 b2 b3 c1 c2 c3:Nat) (j1 j2 all:List D) (H:Hp) (h1:H b1 = some (cat cI a ++ j1)) (h2:H b2 = some (cat cB b ++ j2)) (h3:H b3 = some all) (n12:¬ b1 = b2) (n13:¬ b1 = b3) (n23:¬ b2 = b3) (hn:n * 4 ≤ all.length) (hn2:n ≤ 1048576) (h0:0 ≤ k) (hk:k + a.length + b.length + 4 * n ≤ 1099511627776) :
    Spec Tryz.prog 9 [.st [.sl b1 1 0 a.length c1,.sl b2 1 0 b.length c2,.sl b3 4 0 n c3],.int .i64 k] H (.int .i64 (k + a.length + b.length + 4 * n)) (upd (upd (upd H b1 none) b2 none) b3 none):=by
  refine Spec.of_walk Tryz.func9 rfl (by simp [Tryz.f9]) fun B=>?_
  (repeat' (first
 | refine Qr ?_
 | refine Qc (id:=0) zahd [] (by kernel_rfl) ?_;simp [-zg,-zd,↓Qb,↓Qa,go_sem];try (refine zacl 2 rfl fun b0 hb0=>?_;have m1:¬ b1 = b0:=(by rintro rfl;dsimp only at hb0;rw [h1] at hb0;cases hb0);have m2:¬ b2 = b0:=(by rintro rfl;dsimp only at hb0;rw [h2] at hb0;cases hb0);have m3:¬ b3 = b0:=(by rintro rfl;dsimp only at hb0;rw [h3] at hb0;cases hb0))
 | refine Qc (id:=1) zahd [] (by kernel_rfl) ?_;simp [-zg,-zd,↓Qb,↓Qa,go_sem,m1,h1,h0,(show k + (a.length:Int) ≤ 1099511627776 by omega)]
 | refine Qc (id:=2) zahd [] (by kernel_rfl) ?_;simp [-zg,-zd,↓Qb,↓Qa,go_sem,m1,m2,zS m1,zS m2,n12,zS n12,h2,(show 0 ≤ k + (a.length:Int) by omega),(show k + (a.length:Int) + (b.length:Int) ≤ 1099511627776 by omega)]
 | refine Qc (id:=3) zahd [] (by kernel_rfl) ?_;simp [-zg,-zd,↓Qb,↓Qa,go_sem,m1,m2,m3,zS m1,zS m2,zS m3,n12,zS n12,n13,zS n13,n23,zS n23,h3,hn,hn2,(show 0 ≤ k + (a.length:Int) + (b.length:Int) by omega),hk]
 | refine Qc (id:=4) zahd [] (by kernel_rfl) ?_;simp [-zg,-zd,↓Qb,↓Qa,go_sem]
 | (refine Qg ?_)
 | (refine Qq ?_;simp [-zg,-zd,↓Qb,↓Qa,go_sem])
 | (refine Qp ?_;simp [-zg,-zd,↓Qb,↓Qa,go_sem])
 | (refine Qs ?_;simp [-zg,-zd,↓Qb,↓Qa,go_sem,Tryz.results9])
 | (intro hx;refine zA ?_)
 | (refine ⟨?_,?_⟩ <;> refine zA ?_)
 | (intro hx;constructor <;> intro hs)
 | (constructor <;> intro hs)
 | (refine ⟨?_,fun hs=>?_⟩;refine zA ?_)
 | (refine ⟨fun hs=>?_,?_⟩;rotate_left;refine zA ?_;rotate_left)))
  all_goals (first
 | (intro b' cs' h;dsimp only at hb0;by_cases e3:b' = b3 <;> by_cases e2:b' = b2 <;> by_cases e1:b' = b1 <;> by_cases e0:b' = b0 <;> simp_all)
 | skip)
@[go_sem] def markAC:Con:=.gen fun args H=>match args with
  | [.st [.sl b1 1 0 n _,.sl b2 1 0 m _,.sl b3 4 0 o _],.int .i64 k]=>match H b1,H b2,H b3 with
    | some a1,some a2,some a3=>(¬ b1 = b2 ∧ ¬ b1 = b3 ∧ ¬ b2 = b3 ∧ n ≤ a1.length ∧ m ≤ a2.length ∧ Is cI n (a1.take n) ∧ Is cB m (a2.take m) ∧ o * 4 ≤ a3.length ∧ o ≤ 1048576 ∧ 0 ≤ k ∧ k + n + m + 4 * o ≤ 1099511627776,
        .int .i64 (k + n + m + 4 * o),upd (upd (upd H b1 none) b2 none) b3 none)
    | _,_,_=>(False,.any,H)
  | _=>(False,.any,H)
theorem markAC_ok:ConOk Tryz.prog 9 markAC:=by
  refine ⟨Qn Tryz.func9 (by decide) rfl,fun args H h=>?_⟩
  revert h
  dsimp only
  split
  · rename_i b1 n c1 b2 m c2 b3 o c3 k
    split
    · rename_i a1 a2 a3 hH1 hH2 hH3
      rintro ⟨g1,g2,g3,g4,g5,⟨xs,hn,he⟩,⟨ys,hm,hf⟩,g6,g7,g8,g9⟩
      subst hn hm
      have e1:a1 = cat cI xs ++ a1.drop xs.length:=by rw [← he,List.take_append_drop]
      have e2:a2 = cat cB ys ++ a2.drop ys.length:=by rw [← hf,List.take_append_drop]
      rw [e1] at hH1
      rw [e2] at hH2
      exact markA_spec xs ys o k b1 b2 b3 c1 c2 c3 _ _ _ H hH1 hH2 hH3 g1 g2 g3 g6 g7 g8 g9
    · intro h;exact h.elim
  · intro h
    exact h.elim
@[go_sem] def Γn10:FuncId → Con:=ext Γn9 9 markAC
theorem Γn10_ok:∀ g,ConOk Tryz.prog g (Γn10 g):=Qu zahd markAC_ok

def gd (nx:List (List Int)) (acc:List Bool) (s:Int) (i:Nat):Prop:=RchS nx [s] (i:Int) ∧ Cyc nx (i:Int) ∧ nth acc i = true
structure LV (b5 j5:Nat) (nx:List (List Int)) (acc:List Bool) (k j:Nat) (H:Hp):Prop where
  w:∃ v,H b5 = some (cat cB ((prtB (livL nx acc) k).set k v) ++ List.replicate j5 .any) ∧ (v = true ↔ ∃ i,i < j ∧ gd nx acc (k:Int) i)
theorem LV.next {b5 j5:Nat} {nx:List (List Int)} {acc:List Bool} {k j:Nat} {H2:Hp} {v v':Bool} (h:v = true ↔ ∃ i,i < j ∧ gd nx acc (k:Int) i) (h2:H2 b5 = some (cat cB (((prtB (livL nx acc) k).set k v).set k v') ++ List.replicate j5 .any)) (hv:v' = true ↔ v = true ∨ gd nx acc (k:Int) j):LV b5 j5 nx acc k (j + 1) H2:=by
  refine ⟨v',by rw [h2,List.set_set],?_⟩
  rw [hv,h]
  constructor
  · rintro (⟨i,h1,h2⟩ | q)
    · exact ⟨i,by omega,h2⟩
    · exact ⟨j,by omega,q⟩
  · rintro ⟨i,h1,h2⟩
    by_cases e:i = j
    · subst e;exact .inr h2
    · exact .inl ⟨i,by omega,h2⟩
@[go_sem] def Γn11:FuncId → Con:=Γn10
theorem Γn11_ok:∀ g,ConOk Tryz.prog g (Γn11 g):=Γn10_ok

theorem AutOk.rng {a:List Int} {n:Nat} {c:List Tr4} (h:AutOk a n c):InRng n c:=fun i hi=>by
  obtain ⟨g1,g2,g3,g4,_⟩:=h.2.2.2.2 i hi
  exact ⟨⟨g1,g2⟩,g3,g4⟩
theorem AutOk.sizes {a:List Int} {n:Nat} {c:List Tr4} (h:AutOk a n c):1 ≤ n ∧ n ≤ 64 ∧ a.length ≤ n ∧ c.length ≤ 2048:=⟨h.1,h.2.1,sorted_len h.2.2.1,h.2.2.2.1⟩
@[go_sem] def Γn12:FuncId → Con:=Γn11
theorem Γn12_ok:∀ g,ConOk Tryz.prog g (Γn12 g):=Γn11_ok

@[go_sem] def Γn13:FuncId → Con:=Γn12
theorem Γn13_ok:∀ g,ConOk Tryz.prog g (Γn13 g):=Γn12_ok
end
end Go.Proofs.YtiilmjojffjhlaaGreatDoor.Vm

