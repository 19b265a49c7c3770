/-
  Marks in automata and rows of Bools. No conditions.
-/
import Derived.Test.YtnfldmfamnhpcaaN6
namespace Go.Proofs.Ytnfldmfamnhpcaa.Vm
open Go
open List renaming getD_eq_getElem?_getD → zg,drop_one → zd
open Ne renaming symm → zS
noncomputable section
set_option linter.unusedVariables false
set_option linter.unusedSimpArgs false
set_option maxRecDepth 200000

def bm (k:Int):Bool:=decide (k.tmod 3 = 0)
def Xk (k:Int) (n:Nat):List Bool:=(List.range n).map fun (i:Nat)=>bm (k + i)
@[go_sem] theorem zabg (k:Int) (n:Nat):(Xk k n).length = n:=by simp [Xk]
theorem nth_marksB {k:Int} {n i:Nat} (h:i < n):nth (Xk k n) i = bm (k + i):=by rw [Qn (by rw [zabg];exact h)];simp [Xk]
def mkB (k:Int) (xs:List Bool) (i:Nat):List Bool:=Xk k i ++ xs.drop i
theorem mkB_zero (k:Int) (xs:List Bool):mkB k xs 0 = xs:=by simp [mkB,Xk]
theorem mkB_all (k:Int) (xs:List Bool):mkB k xs xs.length = Xk k xs.length:=by simp [mkB]
theorem mkB_len {k:Int} {xs:List Bool} {i:Nat} (h:i < xs.length):(mkB k xs i).length = xs.length:=by simp [mkB,zabg];omega
theorem mkB_set {k:Int} {xs:List Bool} {i:Nat} (h:i < xs.length):(mkB k xs i).set i (decide ((k + (i:Int)).tmod 3 = 0)) = mkB k xs (i + 1):=by
  have m:Xk k (i + 1) = Xk k i ++ [bm (k + i)]:=by simp [Xk,List.range_succ]
  unfold mkB
  rw [List.drop_eq_getElem_cons h,set_mid (by rw [zabg]),m]
  simp [bm]
theorem markB_spec (xs:List Bool) (k:Int) (b cp:Nat) (junk:List D) (H:Hp) (hH:H b = some (cat cB xs ++ junk)) (h0:0 ≤ k) (h1:k + xs.length ≤ 1099511627776) :
    Spec Try.prog 33 [.sl b 1 0 xs.length cp,.int .i64 k] H (.int .i64 (k + xs.length)) (upd H b (some (cat cB (Xk k xs.length) ++ junk))):=by
  refine Spec.of_walk Try.func33 rfl (by simp [Try.f33]) fun B=>?_
  (repeat' (first
 | refine Qq ?_
 | refine Qc (id:=0) Zj [] (by kernel_rfl) ?_;simp [-zg,-zd,↓Qb,↓Qa,go_sem]
 | refine Qc (id:=1) Zj [] (by kernel_rfl) ?_;simp [-zg,-zd,↓Qb,↓Qa,go_sem]
 | refine Qc (id:=2) Zj [] (by kernel_rfl) ?_;simp [-zg,-zd,↓Qb,↓Qa,go_sem]
 | refine Qc (id:=4) Zj [] (by kernel_rfl) ?_;simp [-zg,-zd,↓Qb,↓Qa,go_sem,c9,Qg c9,Nat.sub_pos_of_lt c9,mkB_len c9,mkB_set c9,(show i + 1 ≤ xs.length + junk.length by omega),(show i < xs.length + junk.length by omega)]
 | refine Qc (id:=5) Zj [] (by kernel_rfl) ?_;simp [-zg,-zd,↓Qb,↓Qa,go_sem,Xm (x:=k + (i:Int) + 1) (by omega) (by omega)]
 | refine Qc (id:=3) Zj [] (by kernel_rfl) ?_;simp [-zg,-zd,↓Qb,↓Qa,go_sem,wrapS (k:=i) (by omega)]
 | refine Qc (id:=6) Zj [] (by kernel_rfl) ?_;simp [-zg,-zd,↓Qb,↓Qa,go_sem]
 | refine Qd (c:=.tmp 9) ?_;simp [-zg,-zd,↓Qb,↓Qa,go_sem];try first | (refine ⟨?_,?_⟩ <;> refine zA ?_) | (refine ⟨fun c9=>?_,fun c9=>?_⟩ <;> (try simp [B_iff,B_not] at c9))
 | (refine Qf (id:=0) (Xe (ι:=Nat) (fun i:Nat=>⟨(upd (upd (upd (fun _=>.any) 0 (.sl b 1 0 xs.length cp)) 1 (.int .i64 (k + i))) 5 (.int .i64 i)),upd H b (some (cat cB (mkB k xs i) ++ junk))⟩) (fun i=>i ≤ xs.length) (fun i=>xs.length - i) (0) ?_ ?_ ?_);exact Nat.zero_le _;((repeat' (first | exact Qi (by assumption) | exact Qk | refine Ql ?_ ?_ | refine Qj ?_)) <;> simp [-zg,-zd,↓Qb,↓Qa,go_sem,mkB_zero,Jl hH]);rintro i hi)
 | (refine ⟨i + 1,by omega,by first | omega | (simp;done) | (simp;omega),?_⟩;((repeat' (first | exact Qi (by assumption) | exact Qk | refine Ql ?_ ?_ | refine Qj ?_)) <;> simp [-zg,-zd,↓Qb,↓Qa,go_sem,(show k + ((i:Int) + 1) = k + (i:Int) + 1 by omega),(show k + ((i + 1:Nat):Int) = k + (i:Int) + 1 by omega)]))
 | (refine Qf ?_)
 | (refine Qp ?_;simp [-zg,-zd,↓Qb,↓Qa,go_sem])
 | (refine Qo ?_;simp [-zg,-zd,↓Qb,↓Qa,go_sem])
 | (refine Qr ?_;simp [-zg,-zd,↓Qb,↓Qa,go_sem,Try.results33])
 | (intro hx;refine zA ?_)
 | (refine ⟨?_,?_⟩ <;> refine zA ?_)
 | (intro hx;constructor <;> intro hs)
 | (constructor <;> intro hs)
 | (refine ⟨?_,fun hs=>?_⟩;refine zA ?_)
 | (refine ⟨fun hs=>?_,?_⟩;rotate_left;refine zA ?_;rotate_left)))
  all_goals (first
 | (obtain rfl:i = xs.length:=(by omega);rw [mkB_all];exact ⟨rfl,fun _ _ h=>h⟩)
 | skip)
theorem markBNil_spec (k:Int) (H:Hp):Spec Try.prog 33 [.nil,.int .i64 k] H (.int .i64 k) H:=by
  refine Spec.of_walk Try.func33 rfl (by simp [Try.f33]) fun B=>?_
  (repeat' (first
 | refine Qq ?_
 | refine Qc (id:=0) Zj [] (by kernel_rfl) ?_;simp [-zg,-zd,↓Qb,↓Qa,go_sem]
 | refine Qc (id:=1) Zj [] (by kernel_rfl) ?_;simp [-zg,-zd,↓Qb,↓Qa,go_sem]
 | refine Qc (id:=2) Zj [] (by kernel_rfl) ?_;simp [-zg,-zd,↓Qb,↓Qa,go_sem]
 | refine Qc (id:=4) Zj [] (by kernel_rfl) ?_;simp [-zg,-zd,↓Qb,↓Qa,go_sem]
 | refine Qc (id:=5) Zj [] (by kernel_rfl) ?_;simp [-zg,-zd,↓Qb,↓Qa,go_sem]
 | refine Qc (id:=3) Zj [] (by kernel_rfl) ?_;simp [-zg,-zd,↓Qb,↓Qa,go_sem]
 | refine Qc (id:=6) Zj [] (by kernel_rfl) ?_;simp [-zg,-zd,↓Qb,↓Qa,go_sem]
 | refine Qd (c:=.tmp 9) ?_;simp [-zg,-zd,↓Qb,↓Qa,go_sem];try first | (refine ⟨?_,?_⟩ <;> refine zA ?_) | (refine ⟨fun c9=>?_,fun c9=>?_⟩ <;> (try simp [B_iff,B_not] at c9))
 | (refine Qf (id:=0) (Xe (ι:=Unit) (fun i:Unit=>⟨(upd (upd (upd (fun _=>.any) 0 (.nil)) 1 (.int .i64 k)) 5 (.int .i64 0)),H⟩) (fun i=>True) (fun i=>0) (()) ?_ ?_ ?_);exact trivial;((repeat' (first | exact Qi (by assumption) | exact Qk | refine Ql ?_ ?_ | refine Qj ?_)) <;> simp [-zg,-zd,↓Qb,↓Qa,go_sem]);rintro i hi)
 | (refine ⟨(),trivial,by first | omega | (simp;done) | (simp;omega),?_⟩;((repeat' (first | exact Qi (by assumption) | exact Qk | refine Ql ?_ ?_ | refine Qj ?_)) <;> simp [-zg,-zd,↓Qb,↓Qa,go_sem]))
 | (refine Qf ?_)
 | (refine Qp ?_;simp [-zg,-zd,↓Qb,↓Qa,go_sem])
 | (refine Qo ?_;simp [-zg,-zd,↓Qb,↓Qa,go_sem])
 | (refine Qr ?_;simp [-zg,-zd,↓Qb,↓Qa,go_sem,Try.results33])
 | (intro hx;refine zA ?_)
 | (refine ⟨?_,?_⟩ <;> refine zA ?_)
 | (intro hx;constructor <;> intro hs)
 | (constructor <;> intro hs)
 | (refine ⟨?_,fun hs=>?_⟩;refine zA ?_)
 | (refine ⟨fun hs=>?_,?_⟩;rotate_left;refine zA ?_;rotate_left)
 | (exfalso;omega)))
@[go_sem] def markBC:Con:=.gen fun args H=>match args with
  | [.sl b 1 0 n _,.int .i64 k]=>match H b with
    | some all=>(n ≤ all.length ∧ Is cB n (all.take n) ∧ 0 ≤ k ∧ k + n ≤ 1099511627776,.int .i64 (k + n),upd H b (some (cat cB (Xk k n) ++ all.drop n)))
    | none=>(False,.any,H)
  | [.nil,.int .i64 k]=>(True,.int .i64 k,H)
  | _=>(False,.any,H)
theorem markBC_ok:ConOk Try.prog 33 markBC:=by
  refine ⟨Qs Try.func33 (by decide) rfl,fun args H h=>?_⟩
  revert h
  dsimp only
  split
  · rename_i b n cp k
    split
    · rename_i all hH
      rintro ⟨g1,⟨xs,hn,he⟩,g2,g3⟩
      subst hn
      have:all = cat cB xs ++ all.drop xs.length:=by rw [← he,List.take_append_drop]
      rw [this] at hH
      have:=markB_spec xs k b cp _ H hH g2 g3
      exact this
    · intro h;exact h.elim
  · intro _
    exact markBNil_spec _ H
  · intro h
    exact h.elim
@[go_sem] def Γn7:FuncId → Con:=ext Γn6 33 markBC
theorem Jx:∀ g,ConOk Try.prog g (Γn7 g):=Qt Zj markBC_ok

def heldB (k:Int) (xs:List Bool):Int:=if xs = Xk k xs.length then k + xs.length else -1
@[go_sem] theorem heldB_marks (k:Int) (n:Nat):heldB k (Xk k n) = k + n:=by simp [heldB,zabg]
@[go_sem] theorem heldB_nil (k:Int):heldB k [] = k:=by simp [heldB,Xk]

theorem heldB_pure (xs:List Bool) (k:Int) (h0:0 ≤ k) (h1:k + xs.length ≤ 1099511627776):Pure Try.prog 36 [li cB xs,.int .i64 k] (.int .i64 (heldB k xs)):=by
  refine Pure.of_walk Try.func36 rfl (by simp [Try.f36]) (by simp [-zd,go_sem]) fun B hK=>?_
  (repeat' (first
 | refine Qq ?_
 | refine Qc (id:=0) Jx [] (by kernel_rfl) ?_;simp [-zg,-zd,↓Qb,↓Qa,go_sem]
 | refine Qc (id:=1) Jx [] (by kernel_rfl) ?_;simp [-zg,-zd,↓Qb,↓Qa,go_sem]
 | refine Qc (id:=2) Jx [] (by kernel_rfl) ?_;simp [-zg,-zd,↓Qb,↓Qa,go_sem]
 | refine Qc (id:=4) Jx [] (by kernel_rfl) ?_;simp [-zg,-zd,↓Qb,↓Qa,go_sem,c9,Qg c9,Nat.sub_pos_of_lt c9]
 | refine Qc (id:=5) Jx [] (by kernel_rfl) ?_;simp [-zg,-zd,↓Qb,↓Qa,go_sem]
 | refine Qc (id:=6) Jx [] (by kernel_rfl) ?_;simp [-zg,-zd,↓Qb,↓Qa,go_sem,Xm (x:=k + (i:Int) + 1) (by omega) (by omega)]
 | refine Qc (id:=3) Jx [] (by kernel_rfl) ?_;simp [-zg,-zd,↓Qb,↓Qa,go_sem,wrapS (k:=i) (by omega)]
 | refine Qc (id:=7) Jx [] (by kernel_rfl) ?_;simp [-zg,-zd,↓Qb,↓Qa,go_sem]
 | refine Qd (c:=.tmp 9) ?_;simp [-zg,-zd,↓Qb,↓Qa,go_sem];try first | (refine ⟨?_,?_⟩ <;> refine zA ?_) | (refine ⟨fun c9=>?_,fun c9=>?_⟩ <;> (try simp [B_iff,B_not] at c9))
 | refine Qd (c:=.tmp 19) ?_;simp [-zg,-zd,↓Qb,↓Qa,go_sem];try first | (refine ⟨?_,?_⟩ <;> refine zA ?_) | (refine ⟨fun c19=>?_,fun c19=>?_⟩ <;> (try simp [B_iff,B_not] at c19))
 | (refine Qf (id:=0) (Xe (ι:=Nat) (fun i:Nat=>⟨(upd (upd (upd (fun _=>.any) 0 (li cB xs)) 1 (.int .i64 (k + i))) 5 (.int .i64 i)),fun _=>none⟩) (fun i=>i ≤ xs.length ∧ NoneTill (fun j=>!decide (nth xs j = bm (k + j))) i) (fun i=>xs.length - i) (0) ?_ ?_ ?_);exact ⟨Nat.zero_le _,.zero _⟩;((repeat' (first | exact Qi (by assumption) | exact Qk | refine Ql ?_ ?_ | refine Qj ?_)) <;> simp [-zg,-zd,↓Qb,↓Qa,go_sem]);rintro i ⟨hi,ht⟩)
 | (refine ⟨i + 1,⟨by omega,ht.succ (by simp [bm,c19])⟩,by first | omega | (simp;done) | (simp;omega),?_⟩;((repeat' (first | exact Qi (by assumption) | exact Qk | refine Ql ?_ ?_ | refine Qj ?_)) <;> simp [-zg,-zd,↓Qb,↓Qa,go_sem,(show k + ((i:Int) + 1) = k + (i:Int) + 1 by omega),(show k + ((i + 1:Nat):Int) = k + (i:Int) + 1 by omega)]))
 | (refine Qf ?_)
 | (refine Qp ?_;simp [-zg,-zd,↓Qb,↓Qa,go_sem])
 | (refine Qo ?_;simp [-zg,-zd,↓Qb,↓Qa,go_sem])
 | (refine Qr ?_;simp [-zg,-zd,↓Qb,↓Qa,go_sem,Try.results36])
 | (intro hx;refine zA ?_)
 | (refine ⟨?_,?_⟩ <;> refine zA ?_)
 | (intro hx;constructor <;> intro hs)
 | (constructor <;> intro hs)
 | (refine ⟨?_,fun hs=>?_⟩;refine zA ?_)
 | (refine ⟨fun hs=>?_,?_⟩;rotate_left;refine zA ?_;rotate_left)))
  all_goals (first
 | (rw [heldB,if_neg];intro e;apply c19;have:=nth_marksB (k:=k) c9;rw [← e] at this;exact this)
 | (obtain rfl:i = xs.length:=(by omega);rw [heldB,if_pos];apply List.ext_getElem (by rw [zabg]);intro j h1 h2;have:=ht j h1;simp at this;rw [← Qn h1,← Qn h2,nth_marksB h1,this])
 | skip)
@[go_sem] def zadx:Con:=.pure fun
  | [.list n_xs c_xs,.int .i64 k]=>((Is cB n_xs c_xs) ∧ (0 ≤ k) ∧ (k + (de cB c_xs).length ≤ 1099511627776),.int .i64 (heldB k (de cB c_xs)))
  | _=>(False,.any)
theorem heldB_pureC_ok:ConOk Try.prog 36 zadx:=by
  refine ⟨Qs Try.func36 (by decide) rfl,fun args h=>?_⟩
  revert h
  dsimp only
  split
  · intro h
    obtain ⟨⟨xs,rfl,rfl⟩,h0,h1⟩:=h
    try simp only [Qv] at *
    exact ⟨heldB_pure xs _ h0 h1,by simp [go_sem]⟩
  · intro h
    exact h.elim
@[go_sem] def Γn8:FuncId → Con:=ext Γn7 36 zadx
theorem Zo:∀ g,ConOk Try.prog g (Γn8 g):=Qt Jx heldB_pureC_ok

structure MT (b:Nat) (all:List D) (H H1:Hp):Prop where
  here:∃ cs,H1 b = some cs ∧ cs.length = all.length
  rest:∀ z cs,¬ z = b → H z = some cs → H1 z = some cs
theorem MT.set {b:Nat} {all:List D} {H H1 H2:Hp} (h:MT b all H H1) {cs:List D} {i:Nat} {d:D} (h2:H2 b = some (cs.set i d)) (hl:cs.length = all.length) (h3:∀ z,¬ z = b → H2 z = H1 z):MT b all H H2 :=
  ⟨⟨_,h2,by rw [List.length_set,hl]⟩,fun z cs hz k=>by rw [h3 z hz];exact h.rest z cs hz k⟩
theorem markT_spec (n:Nat) (k:Int) (b cp:Nat) (all:List D) (H:Hp) (hH:H b = some all) (hn:n * 4 ≤ all.length) (hn2:n ≤ 1048576) (h0:0 ≤ k) (h1:k + 4 * n ≤ 1099511627776) :
    Spec Try.prog 34 [.sl b 4 0 n cp,.int .i64 k] H (.int .i64 (k + 4 * n)) (upd H b none):=by
  refine Spec.of_walk Try.func34 rfl (by simp [Try.f34]) fun B=>?_
  (repeat' (first
 | refine Qq ?_
 | refine Qc (id:=0) Zo [] (by kernel_rfl) ?_;simp [-zg,-zd,↓Qb,↓Qa,go_sem]
 | refine Qc (id:=1) Zo [] (by kernel_rfl) ?_;simp [-zg,-zd,↓Qb,↓Qa,go_sem]
 | refine Qc (id:=2) Zo [] (by kernel_rfl) ?_;simp [-zg,-zd,↓Qb,↓Qa,go_sem]
 | ((obtain ⟨⟨cs,w1,w2⟩,w3⟩:=g2));refine Qc (id:=4) Zo [] (by kernel_rfl) ?_;simp [-zg,-zd,↓Qb,↓Qa,go_sem,w1,w2,c9,(show q.1 * 4 + 4 ≤ all.length by omega),(show q.1 * 4 < all.length by omega),(show q.1 * 4 + 1 ≤ all.length by omega)];try ((refine Qz (fun H1=>MT b all H H1) (MT.set (cs:=cs) ⟨⟨cs,w1,w2⟩,w3⟩ (by simp [upd,Vj];rfl) (by assumption) (by intro z hz;simp [upd,hz])) fun H1 t1=>?_))
 | refine Qc (id:=5) Zo [] (by kernel_rfl) ?_;simp [-zg,-zd,↓Qb,↓Qa,go_sem,Xm (x:=k + 4 * (q.1:Int) + 1) (by omega) (by omega)]
 | ((obtain ⟨⟨cs1,w11,w12⟩,w13⟩:=t1));refine Qc (id:=6) Zo [] (by kernel_rfl) ?_;simp [-zg,-zd,↓Qb,↓Qa,go_sem,w11,w12,c9,(show q.1 * 4 + 4 ≤ all.length by omega),(show q.1 * 4 + 1 < all.length by omega),(show q.1 * 4 + 1 + 1 ≤ all.length by omega)];try ((refine Qz (fun H1=>MT b all H H1) (MT.set (cs:=cs1) ⟨⟨cs1,w11,w12⟩,w13⟩ (by simp [upd,Vj];rfl) (by assumption) (by intro z hz;simp [upd,hz])) fun H2 t2=>?_))
 | refine Qc (id:=7) Zo [] (by kernel_rfl) ?_;simp [-zg,-zd,↓Qb,↓Qa,go_sem,Xm (x:=k + 4 * (q.1:Int) + 1 + 1) (by omega) (by omega)]
 | ((obtain ⟨⟨cs2,w21,w22⟩,w23⟩:=t2));refine Qc (id:=8) Zo [] (by kernel_rfl) ?_;simp [-zg,-zd,↓Qb,↓Qa,go_sem,w21,w22,c9,(show q.1 * 4 + 4 ≤ all.length by omega),(show q.1 * 4 + 2 < all.length by omega),(show q.1 * 4 + 2 + 1 ≤ all.length by omega)];try ((refine Qz (fun H1=>MT b all H H1) (MT.set (cs:=cs2) ⟨⟨cs2,w21,w22⟩,w23⟩ (by simp [upd,Vj];rfl) (by assumption) (by intro z hz;simp [upd,hz])) fun H3 t3=>?_))
 | refine Qc (id:=9) Zo [] (by kernel_rfl) ?_;simp [-zg,-zd,↓Qb,↓Qa,go_sem,Xm (x:=k + 4 * (q.1:Int) + 1 + 1 + 1) (by omega) (by omega)]
 | ((obtain ⟨⟨cs3,w31,w32⟩,w33⟩:=t3));refine Qc (id:=10) Zo [] (by kernel_rfl) ?_;simp [-zg,-zd,↓Qb,↓Qa,go_sem,w31,w32,c9,(show q.1 * 4 + 4 ≤ all.length by omega),(show q.1 * 4 + 3 < all.length by omega),(show q.1 * 4 + 3 + 1 ≤ all.length by omega)];try ((refine Qz (fun H1=>MT b all H H1) (MT.set (cs:=cs3) ⟨⟨cs3,w31,w32⟩,w33⟩ (by simp [upd,Vj];rfl) (by assumption) (by intro z hz;simp [upd,hz])) fun H9 t4=>?_))
 | refine Qc (id:=11) Zo [] (by kernel_rfl) ?_;simp [-zg,-zd,↓Qb,↓Qa,go_sem,Xm (x:=k + 4 * (q.1:Int) + 1 + 1 + 1 + 1) (by omega) (by omega)]
 | refine Qc (id:=3) Zo [] (by kernel_rfl) ?_;simp [-zg,-zd,↓Qb,↓Qa,go_sem,wrapS (k:=q.1) (by omega)]
 | refine Qc (id:=12) Zo [] (by kernel_rfl) ?_;simp [-zg,-zd,↓Qb,↓Qa,go_sem]
 | refine Qd (c:=.tmp 9) ?_;simp [-zg,-zd,↓Qb,↓Qa,go_sem];try first | (refine ⟨?_,?_⟩ <;> refine zA ?_) | (refine ⟨fun c9=>?_,fun c9=>?_⟩ <;> (try simp [B_iff,B_not] at c9))
 | (refine Qf (id:=0) (Xe (ι:=Nat × Hp) (fun q:Nat × Hp=>⟨(upd (upd (upd (fun _=>.any) 0 (.sl b 4 0 n cp)) 1 (.int .i64 (k + 4 * q.1))) 5 (.int .i64 q.1)),q.2⟩) (fun q=>q.1 ≤ n ∧ MT b all H q.2) (fun q=>n - q.1) ((0,H)) ?_ ?_ ?_);exact ⟨Nat.zero_le _,⟨⟨all,hH,rfl⟩,fun z cs hz h=>h⟩⟩;((repeat' (first | exact Qi (by assumption) | exact Qk | refine Ql ?_ ?_ | refine Qj ?_)) <;> simp [-zg,-zd,↓Qb,↓Qa,go_sem]);rintro q ⟨g1,g2⟩)
 | (refine ⟨(q.1 + 1,H9),⟨by dsimp only;omega,t4⟩,by first | omega | (simp;done) | (simp;omega),?_⟩;((repeat' (first | exact Qi (by assumption) | exact Qk | refine Ql ?_ ?_ | refine Qj ?_)) <;> simp [-zg,-zd,↓Qb,↓Qa,go_sem,(show k + 4 * ((q.1:Int) + 1) = k + 4 * (q.1:Int) + 1 + 1 + 1 + 1 by omega),(show k + 4 * ((q.1 + 1:Nat):Int) = k + 4 * (q.1:Int) + 1 + 1 + 1 + 1 by omega)]))
 | (refine Qf ?_)
 | (refine Qp ?_;simp [-zg,-zd,↓Qb,↓Qa,go_sem])
 | (refine Qo ?_;simp [-zg,-zd,↓Qb,↓Qa,go_sem])
 | (refine Qr ?_;simp [-zg,-zd,↓Qb,↓Qa,go_sem,Try.results34])
 | (intro hx;refine zA ?_)
 | (refine ⟨?_,?_⟩ <;> refine zA ?_)
 | (intro hx;constructor <;> intro hs)
 | (constructor <;> intro hs)
 | (refine ⟨?_,fun hs=>?_⟩;refine zA ?_)
 | (refine ⟨fun hs=>?_,?_⟩;rotate_left;refine zA ?_;rotate_left)))
  all_goals (first
 | (exact ⟨by omega,fun z cs hz h=>g2.rest z cs hz h⟩)
 | (have e:q.1 = n:=(by omega);rw [e];refine ⟨rfl,fun z cs h=>?_⟩;by_cases ez:z = b;(subst ez;simp [upd] at h);(rw [Qe ez] at h;exact g2.rest z cs ez h))
 | (have e:q.1 = n:=(by omega);rw [e];refine ⟨rfl,fun z cs h=>?_⟩;by_cases ez:z = b;(subst ez;simp at h);(simp [ez] at h;exact g2.rest z cs ez h))
 | skip)
@[go_sem] def markTC:Con:=.gen fun args H=>match args with
  | [.sl b 4 0 n _,.int .i64 k]=>match H b with
    | some all=>(n * 4 ≤ all.length ∧ n ≤ 1048576 ∧ 0 ≤ k ∧ k + 4 * n ≤ 1099511627776,.int .i64 (k + 4 * n),upd H b none)
    | none=>(False,.any,H)
  | _=>(False,.any,H)
theorem markTC_ok:ConOk Try.prog 34 markTC:=by
  refine ⟨Qs Try.func34 (by decide) rfl,fun args H h=>?_⟩
  revert h
  dsimp only
  split
  · rename_i b n cp k
    split
    · rename_i all hH
      rintro ⟨g1,g2,g3,g4⟩
      exact markT_spec n k b cp all H hH g1 g2 g3 g4
    · intro h;exact h.elim
  · intro h
    exact h.elim
@[go_sem] def Γn9:FuncId → Con:=ext Γn8 34 markTC
theorem zagt:∀ g,ConOk Try.prog g (Γn9 g):=Qt Zo markTC_ok

set_option maxHeartbeats 2000000 in
theorem markA_spec (a:List Int) (b:List Bool) (n:Nat) (k:Int) (b1 b2 b3 c1 c2 c3:Nat) (j1 j2 all:List D) (H:Hp) (h1:H b1 = some (cat cI a ++ j1)) (h2:H b2 = some (cat cB b ++ j2)) (h3:H b3 = some all) (n12:¬ b1 = b2) (n13:¬ b1 = b3) (n23:¬ b2 = b3) (hn:n * 4 ≤ all.length) (hn2:n ≤ 1048576) (h0:0 ≤ k) (hk:k + a.length + b.length + 4 * n ≤ 1099511627776) :
    Spec Try.prog 10 [.st [.sl b1 1 0 a.length c1,.sl b2 1 0 b.length c2,.sl b3 4 0 n c3],.int .i64 k] H (.int .i64 (k + a.length + b.length + 4 * n)) (upd (upd (upd H b1 none) b2 none) b3 none):=by
  refine Spec.of_walk Try.func10 rfl (by simp [Try.f10]) fun B=>?_
  (repeat' (first
 | refine Qq ?_
 | refine Qc (id:=0) zagt [] (by kernel_rfl) ?_;simp [-zg,-zd,↓Qb,↓Qa,go_sem];try (refine Zq 2 rfl fun b0 hb0=>?_;have m1:¬ b1 = b0:=(by rintro rfl;dsimp only at hb0;rw [h1] at hb0;cases hb0);have m2:¬ b2 = b0:=(by rintro rfl;dsimp only at hb0;rw [h2] at hb0;cases hb0);have m3:¬ b3 = b0:=(by rintro rfl;dsimp only at hb0;rw [h3] at hb0;cases hb0))
 | refine Qc (id:=1) zagt [] (by kernel_rfl) ?_;simp [-zg,-zd,↓Qb,↓Qa,go_sem,m1,h1,h0,(show k + (a.length:Int) ≤ 1099511627776 by omega)]
 | refine Qc (id:=2) zagt [] (by kernel_rfl) ?_;simp [-zg,-zd,↓Qb,↓Qa,go_sem,m1,m2,zS m1,zS m2,n12,zS n12,h2,(show 0 ≤ k + (a.length:Int) by omega),(show k + (a.length:Int) + (b.length:Int) ≤ 1099511627776 by omega)]
 | refine Qc (id:=3) zagt [] (by kernel_rfl) ?_;simp [-zg,-zd,↓Qb,↓Qa,go_sem,m1,m2,m3,zS m1,zS m2,zS m3,n12,zS n12,n13,zS n13,n23,zS n23,h3,hn,hn2,(show 0 ≤ k + (a.length:Int) + (b.length:Int) by omega),hk]
 | refine Qc (id:=4) zagt [] (by kernel_rfl) ?_;simp [-zg,-zd,↓Qb,↓Qa,go_sem]
 | (refine Qf ?_)
 | (refine Qp ?_;simp [-zg,-zd,↓Qb,↓Qa,go_sem])
 | (refine Qo ?_;simp [-zg,-zd,↓Qb,↓Qa,go_sem])
 | (refine Qr ?_;simp [-zg,-zd,↓Qb,↓Qa,go_sem,Try.results10])
 | (intro hx;refine zA ?_)
 | (refine ⟨?_,?_⟩ <;> refine zA ?_)
 | (intro hx;constructor <;> intro hs)
 | (constructor <;> intro hs)
 | (refine ⟨?_,fun hs=>?_⟩;refine zA ?_)
 | (refine ⟨fun hs=>?_,?_⟩;rotate_left;refine zA ?_;rotate_left)))
  all_goals (first
 | (intro b' cs' h;dsimp only at hb0;by_cases e3:b' = b3 <;> by_cases e2:b' = b2 <;> by_cases e1:b' = b1 <;> by_cases e0:b' = b0 <;> simp_all)
 | skip)
@[go_sem] def markAC:Con:=.gen fun args H=>match args with
  | [.st [.sl b1 1 0 n _,.sl b2 1 0 m _,.sl b3 4 0 o _],.int .i64 k]=>match H b1,H b2,H b3 with
    | some a1,some a2,some a3=>(¬ b1 = b2 ∧ ¬ b1 = b3 ∧ ¬ b2 = b3 ∧ n ≤ a1.length ∧ m ≤ a2.length ∧ Is cI n (a1.take n) ∧ Is cB m (a2.take m) ∧ o * 4 ≤ a3.length ∧ o ≤ 1048576 ∧ 0 ≤ k ∧ k + n + m + 4 * o ≤ 1099511627776,
        .int .i64 (k + n + m + 4 * o),upd (upd (upd H b1 none) b2 none) b3 none)
    | _,_,_=>(False,.any,H)
  | _=>(False,.any,H)
theorem markAC_ok:ConOk Try.prog 10 markAC:=by
  refine ⟨Qs Try.func10 (by decide) rfl,fun args H h=>?_⟩
  revert h
  dsimp only
  split
  · rename_i b1 n c1 b2 m c2 b3 o c3 k
    split
    · rename_i a1 a2 a3 hH1 hH2 hH3
      rintro ⟨g1,g2,g3,g4,g5,⟨xs,hn,he⟩,⟨ys,hm,hf⟩,g6,g7,g8,g9⟩
      subst hn hm
      have e1:a1 = cat cI xs ++ a1.drop xs.length:=by rw [← he,List.take_append_drop]
      have e2:a2 = cat cB ys ++ a2.drop ys.length:=by rw [← hf,List.take_append_drop]
      rw [e1] at hH1
      rw [e2] at hH2
      exact markA_spec xs ys o k b1 b2 b3 c1 c2 c3 _ _ _ H hH1 hH2 hH3 g1 g2 g3 g6 g7 g8 g9
    · intro h;exact h.elim
  · intro h
    exact h.elim
@[go_sem] def Γn10:FuncId → Con:=ext Γn9 10 markAC
theorem Γn10_ok:∀ g,ConOk Try.prog g (Γn10 g):=Qt zagt markAC_ok
end
end Go.Proofs.Ytnfldmfamnhpcaa.Vm

