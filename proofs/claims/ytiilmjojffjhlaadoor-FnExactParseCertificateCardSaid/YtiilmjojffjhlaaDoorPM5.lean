/-
  spec.ParseCertificate. No conditions.
-/
import Derived.Test.YtiilmjojffjhlaaDoorPM4
namespace Go.Proofs.YtiilmjojffjhlaaDoor.Vm
open Go
open List renaming getD_eq_getElem?_getD → zg,drop_one → zd
noncomputable section
set_option linter.unusedVariables false
set_option linter.unusedSimpArgs false
set_option maxRecDepth 200000

section
variable {P:Program} {B:Base} {n:Nat} {c:Code} {Q:Exit → St → Prop} {S:St}
theorem AW_matOne (b:Nat) {f:Hp} {m:Nat} {cs:List D} (hH:S.H = upd f b (some [.fr 1 m cs]))
    (h:∀ x cp j,S.H x = none → ¬ b = x → m ≤ cp → cp * 1 ≤ m * 1 + j → AW P B n c Q ⟨S.T,upd (upd f b (some [.sl x 1 0 m cp])) x (some (cs ++ List.replicate j .any))⟩):AW P B n c Q S:=by
  refine AW_matCell b 0 (all:=[.fr 1 m cs]) (by rw [hH,Qe]) rfl fun x cp j hx hc hd=>?_
  have hbx:¬ b = x:=by rintro rfl;rw [hH,Qe] at hx;cases hx
  have:=h x cp j hx hbx hc hd
  have e:upd (upd S.H b (some ([D.fr 1 m cs].set 0 (.sl x 1 0 m cp)))) x (some (cs ++ List.replicate j .any)) = upd (upd f b (some [.sl x 1 0 m cp])) x (some (cs ++ List.replicate j .any)):=by
    rw [hH]
    funext z
    by_cases e1:z = x
    · subst e1;rw [Qe,Qe]
    · by_cases e2:z = b
      · subst e2;rw [Qc e1,Qe,Qc e1,Qe];rfl
      · rw [Qc e1,Qc e2,Qc e2,Qc e1,Qc e2]
  rw [e]
  exact this
end

@[go_sem] def zaaa:Con:=.pure fun
  | [.st [.list n_a c_a]]=>((Is cI n_a c_a),.str (certT (de cI c_a)))
  | _=>(False,.any)
theorem zaai:ConOk Tryd.prog 11 zaaa:=by
  refine ⟨Qz Tryd.func11 (by decide) rfl,fun args h=>?_⟩
  revert h
  dsimp only
  split
  · intro h
    obtain ⟨a,rfl,rfl⟩:=h
    try simp only [Xt] at *
    exact ⟨zaas a,by simp [go_sem]⟩
  · intro h
    exact h.elim
@[go_sem] def Γpc6:FuncId → Con:=ext Γpc5 11 zaaa
theorem Xg:∀ g,ConOk Tryd.prog g (Γpc6 g):=Xn Γpc5_ok zaai

def okC (R:List Int) (t:List UInt8):Bool:=decide (¬ t = [] ∧ certT R = t)
theorem okC_cases (R:List Int) (t:List UInt8):(t = [] ∧ True ∧ okC R t = false) ∨ (¬ t = [] ∧ ¬ certT R = t ∧ okC R t = false) ∨ (¬ t = [] ∧ certT R = t ∧ okC R t = true):=by
  by_cases h:t = []
  · exact .inl ⟨h,trivial,decide_eq_false fun k=>k.1 h⟩
  · by_cases h1:certT R = t
    · exact .inr (.inr ⟨h,h1,decide_eq_true ⟨h,h1⟩⟩)
    · exact .inr (.inl ⟨h,h1,decide_eq_false fun k=>h1 k.2⟩)
def sT (s:List UInt8) (k:Nat):List Int:=(((pcs 32 s []).drop 1).map specN).take k
theorem sT_len {s:List UInt8} {k:Nat} (h:k + 1 ≤ (pcs 32 s []).length):(sT s k).length = k:=by simp [sT];omega
theorem sT_zero (s:List UInt8):sT s 0 = []:=by simp [sT]
theorem sT_succ {s:List UInt8} {k:Nat} (h:k + 1 < (pcs 32 s []).length):sT s (k + 1) = sT s k ++ [specN (nth (pcs 32 s []) (k + 1))]:=by
  have hk:k < (((pcs 32 s []).drop 1).map specN).length:=by simp;omega
  rw [sT,List.take_succ_eq_append_getElem hk,Qs h]
  simp [sT,Nat.add_comm]
theorem sT_end {s:List UInt8} {k:Nat} (hk:k ≤ 4000) (h:¬ (k + 1 < (pcs 32 s []).length ∧ k + 1 ≤ 4000)):sT s k = specR s:=by
  rw [specR,List.map_take,sT]
  by_cases e:k = 4000
  · rw [e]
  · rw [List.take_of_length_le (by simp;omega),List.take_of_length_le (by simp;omega)]
theorem nth_pc_len (s:List UInt8) (i:Nat) (hl:s.length ≤ 1048576):(nth (pcs 32 s []) i).length ≤ 1048576:=Nat.le_trans (piece_len s i) hl
theorem snoc_c (xs:List Int) (x:Int):cat cI xs ++ [.int .i64 x] = cat cI (xs ++ [x]):=by rw [zaao,cat_one];rfl

set_option maxHeartbeats 2000000 in

theorem specParse_pure (s:List UInt8) (hl:s.length ≤ 1048576):Pure Tryd.prog 4 [.str s] (if okC (specR s) s = true then .tup [.st [fr 1 cI (specR s)],.bool true] else .tup [.st [.nil],.bool false]):=by
  refine Pure.of_walk Tryd.func4 rfl (by simp [Tryd.f4]) (by simp [-zd,go_sem]) fun B hK=>?_
  have hpp:=pcs_pos 32 s [];have hpl:=zadg 32 s [];rcases okC_cases (specR s) s with ⟨he,hf,ho⟩ | ⟨he,hf,ho⟩ | ⟨he,hf,ho⟩ <;> rw [ho] <;> simp only [if_true,Bool.false_eq_true,if_false]
  all_goals (repeat' (first
 | refine Xe ?_
 | refine Qd (id:=0) Xg [] (by kernel_rfl) ?_;simp [-zg,-zd,↓Qb,↓Qa,go_sem]
 | refine Qd (id:=1) Xg [] (by kernel_rfl) ?_;simp [-zg,-zd,↓Qb,↓Qa,go_sem,hl,(show UInt8.ofNat (Int.toNat 32) = 32 from rfl)];try (refine zaed hK 4 ?_;simp [go_sem])
 | refine Qd (id:=2) Xg [] (by kernel_rfl) ?_;simp [-zg,-zd,↓Qb,↓Qa,go_sem];try ((refine AW_boxNil 5 rfl ?_);(refine zacz 5 rfl fun b hb=>?_))
 | refine Qd (id:=3) Xg [] (by kernel_rfl) ?_;simp [-zg,-zd,↓Qb,↓Qa,go_sem]
 | refine Qd (id:=4) Xg [16] (by kernel_rfl) ?_;simp [-zg,-zd,↓Qb,↓Qa,go_sem];try (refine ⟨fun s4a=>?_,fun s4a=>?_⟩ <;> (try simp [B_iff,B_not] at s4a) <;> try (refine ⟨fun s4b=>?_,fun s4b=>?_⟩ <;> (try simp [B_iff,B_not] at s4b)))
 | (have i1:k + 1 < (pcs 32 s []).length:=(by omega));refine Qd (id:=6) Xg [] (by kernel_rfl) ?_;simp [-zg,-zd,↓Qb,↓Qa,go_sem,i1,Xw i1,Nat.sub_pos_of_lt i1,(show (0:Int) ≤ (k:Int) + 1 by omega),(show (k:Int) + 1 < ((pcs 32 s []).length:Int) by omega)]
 | (have hsn:sT s (k + 1) = sT s k ++ [-1]:=(by rw [sT_succ i1,specN,if_pos c26]);have hsl:=sT_len (s:=s) (k:=k) hk);refine Qd (id:=7) Xg [] (by kernel_rfl) ?_;simp [-zg,-zd,↓Qb,↓Qa,go_sem,snoc_c,(show (sT s k).length ≤ 9223372036854775806 by omega),(show 2 * ((sT s k).length + 1) * 8 ≤ 281474976710656 by omega),(show (sT s k).length + 1 ≤ 9223372036854775807 by omega)]
 | refine Qd (id:=8) Xg [] (by kernel_rfl) ?_;simp [-zg,-zd,↓Qb,↓Qa,go_sem,i1,Xw i1,Nat.sub_pos_of_lt i1,(show (0:Int) ≤ (k:Int) + 1 by omega),(show (k:Int) + 1 < ((pcs 32 s []).length:Int) by omega),nth_pc_len s (k + 1) hl]
 | (have hsn:sT s (k + 1) = sT s k ++ [numV (nth (pcs 32 s []) (k + 1))]:=(by rw [sT_succ i1,specN,if_neg c26]);have hsl:=sT_len (s:=s) (k:=k) hk);refine Qd (id:=9) Xg [] (by kernel_rfl) ?_;simp [-zg,-zd,↓Qb,↓Qa,go_sem,snoc_c,(show (sT s k).length ≤ 9223372036854775806 by omega),(show 2 * ((sT s k).length + 1) * 8 ≤ 281474976710656 by omega),(show (sT s k).length + 1 ≤ 9223372036854775807 by omega)]
 | refine Qd (id:=5) Xg [] (by kernel_rfl) ?_;simp [-zg,-zd,↓Qb,↓Qa,go_sem,Zg (x:=(k:Int) + 1 + 1) (by omega) (by omega)]
 | (have hse:sT s k = specR s:=sT_end hk4 (by omega);(rw [hse]);(refine AW_matOne b rfl fun x cp j hx hbx hcp hj=>?_);clear hx);refine Qd (id:=10) Xg [48] (by kernel_rfl) ?_;simp [-zg,-zd,↓Qb,↓Qa,go_sem,hbx,Ne.symm hbx,eq_true he,hf];try (refine ⟨fun s10a=>?_,fun s10a=>?_⟩ <;> (try simp [B_iff,B_not] at s10a) <;> try (refine ⟨fun s10b=>?_,fun s10b=>?_⟩ <;> (try simp [B_iff,B_not] at s10b)))
 | refine Qd (id:=10) Xg [48] (by kernel_rfl) ?_;simp [-zg,-zd,↓Qb,↓Qa,go_sem,hbx,Ne.symm hbx,he,hf];try (refine ⟨fun s10a=>?_,fun s10a=>?_⟩ <;> (try simp [B_iff,B_not] at s10a) <;> try (refine ⟨fun s10b=>?_,fun s10b=>?_⟩ <;> (try simp [B_iff,B_not] at s10b)))
 | refine Qd (id:=11) Xg [] (by kernel_rfl) ?_;simp [-zg,-zd,↓Qb,↓Qa,go_sem]
 | refine Qd (id:=12) Xg [] (by kernel_rfl) ?_;simp [-zg,-zd,↓Qb,↓Qa,go_sem,hbx,Ne.symm hbx];try ((refine AW_own1 2 (X:=cat cI (specR s) ++ List.replicate j D.any) rfl (by simp [upd,hbx,Ne.symm hbx]) (by simp [Qw]) (by simp [Qw];omega) fun r hr=>?_))
 | refine Qm (c:=.tmp 19) ?_;simp [-zg,-zd,↓Qb,↓Qa,go_sem];try first | (refine ⟨?_,?_⟩ <;> refine zA ?_) | (refine ⟨fun c19=>?_,fun c19=>?_⟩ <;> (try simp [B_iff,B_not] at c19))
 | refine Qm (c:=.tmp 26) ?_;simp [-zg,-zd,↓Qb,↓Qa,go_sem];try first | (refine ⟨?_,?_⟩ <;> refine zA ?_) | (refine ⟨fun c26=>?_,fun c26=>?_⟩ <;> (try simp [B_iff,B_not] at c26))
 | refine Qm (c:=.tmp 53) ?_;simp [-zg,-zd,↓Qb,↓Qa,go_sem];try first | (refine ⟨?_,?_⟩ <;> refine zA ?_) | (refine ⟨fun c53=>?_,fun c53=>?_⟩ <;> (try simp [B_iff,B_not] at c53))
 | (refine Qq (id:=0) (zaec (ι:=Nat) (fun k:Nat=>⟨(upd (upd (upd (upd (upd (fun _=>.any) 0 (.str s)) 2 (.box [.nil])) 4 (li cStr (pcs 32 s []))) 5 (.ptr b 0)) 6 (.int .i64 ((k:Int) + 1))),upd (fun _=>none) b (some [fr 1 cI (sT s k)])⟩) (fun k=>k + 1 ≤ (pcs 32 s []).length ∧ k ≤ 4000) (fun k=>(pcs 32 s []).length - k) (0) ?_ ?_ ?_);exact ⟨hpp,by omega⟩;((repeat' (first | exact Xi (by assumption) | exact Xk | refine Xm ?_ ?_ | refine Xj ?_)) <;> simp [-zg,-zd,↓Qb,↓Qa,go_sem,sT_zero,cat]);rintro k ⟨hk,hk4⟩)
 | (refine ⟨k + 1,⟨by omega,by omega⟩,by first | omega | (simp;done) | (simp;omega),?_⟩;((repeat' (first | exact Xi (by assumption) | exact Xk | refine Xm ?_ ?_ | refine Xj ?_)) <;> simp [-zg,-zd,↓Qb,↓Qa,go_sem,hsn,(show (((k + 1:Nat):Int) + 1) = (k:Int) + 1 + 1 by omega)]))
 | (refine Qq ?_)
 | (refine Xd ?_;simp [-zg,-zd,↓Qb,↓Qa,go_sem])
 | (refine Xc ?_;simp [-zg,-zd,↓Qb,↓Qa,go_sem])
 | (refine Xf ?_;simp [-zg,-zd,↓Qb,↓Qa,go_sem,Tryd.results4])
 | (intro hx;refine zA ?_)
 | (refine ⟨?_,?_⟩ <;> refine zA ?_)
 | (intro hx;constructor <;> intro hs)
 | (constructor <;> intro hs)
 | (refine ⟨?_,fun hs=>?_⟩;refine zA ?_)
 | (refine ⟨fun hs=>?_,?_⟩;rotate_left;refine zA ?_;rotate_left)))
  all_goals (first
 | (exact absurd (show s = [] by assumption) he)
 | skip)
@[go_sem] def zaar:Con:=.pure fun
  | [.str s]=>((s.length ≤ 1048576),if okC (specR s) s = true then .tup [.st [fr 1 cI (specR s)],.bool true] else .tup [.st [.nil],.bool false])
  | _=>(False,.any)
theorem zacb:ConOk Tryd.prog 4 zaar:=by
  refine ⟨Qz Tryd.func4 (by decide) rfl,fun args h=>?_⟩
  revert h
  dsimp only
  split
  · intro h
    have hl:=h
    skip
    exact ⟨specParse_pure _ hl,by simp [go_sem]⟩
  · intro h
    exact h.elim
@[go_sem] def Γpc7:FuncId → Con:=ext Γpc6 4 zaar
theorem Γpc7_ok:∀ g,ConOk Tryd.prog g (Γpc7 g):=Xn Xg zacb

end
end Go.Proofs.YtiilmjojffjhlaaDoor.Vm

