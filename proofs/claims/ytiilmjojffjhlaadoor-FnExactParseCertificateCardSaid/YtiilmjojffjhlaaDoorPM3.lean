/-
  A text cut at every byte of a kind; a number read. No conditions.
-/
import Derived.Test.YtiilmjojffjhlaaDoorPM2
namespace Go.Proofs.YtiilmjojffjhlaaDoor.Vm
open Go
open List renaming getD_eq_getElem?_getD → zg,drop_one → zd
set_option linter.unusedVariables false
set_option linter.unusedSimpArgs false
set_option maxRecDepth 200000

theorem pcs_step {c:UInt8} {s:List UInt8} {i:Nat} (h:i < s.length) (acc:List UInt8):pcs c (s.drop i) acc = if s.getD i 0 = c then acc :: pcs c (s.drop (i + 1)) [] else pcs c (s.drop (i + 1)) (acc ++ [s.getD i 0]):=by
  rw [List.drop_eq_getElem_cons h,pcs,List.getD_eq_getElem?_getD,List.getElem?_eq_getElem h];rfl
theorem acc_step {s:List UInt8} {f i:Nat} (h:i < s.length) (hf:f ≤ i):(s.drop f).take (i - f) ++ [s.getD i 0] = (s.drop f).take (i + 1 - f):=by
  rw [show i + 1 - f = (i - f) + 1 by omega,List.take_succ_eq_append_getElem (by simp;omega),List.getD_eq_getElem?_getD,List.getElem?_eq_getElem h]
  simp [show f + (i - f) = i by omega]
def CutAt (s:List UInt8) (c:UInt8) (q:Nat × Nat × List (List UInt8)):Prop :=
  (q.1 ≤ s.length ∧ q.2.1 ≤ q.1 ∧ q.2.2.length ≤ q.1 ∧ q.2.2 ++ pcs c (s.drop q.1) ((s.drop q.2.1).take (q.1 - q.2.1)) = pcs c s []) ∨ (q.1 = s.length + 1 ∧ q.2.2 = pcs c s [])
theorem cutAt_zero (s:List UInt8) (c:UInt8):CutAt s c (0,0,[]):=.inl ⟨Nat.zero_le _,Nat.le_refl _,Nat.le_refl _,by simp⟩
theorem cutAt_end {s:List UInt8} {c:UInt8} {i f:Nat} {o:List (List UInt8)} (hf:f ≤ i) (hi:i = s.length) (h:o ++ pcs c (s.drop i) ((s.drop f).take (i - f)) = pcs c s []):CutAt s c (i + 1,i + 1,o ++ [(s.drop f).take (i - f)]):=by
  subst hi
  right
  refine ⟨rfl,?_⟩
  rw [← h,List.drop_length,pcs]
theorem cutAt_yes {s:List UInt8} {c:UInt8} {i f:Nat} {o:List (List UInt8)} (hi:i < s.length) (hl:o.length ≤ i) (hc:s.getD i 0 = c) (h:o ++ pcs c (s.drop i) ((s.drop f).take (i - f)) = pcs c s []):CutAt s c (i + 1,i + 1,o ++ [(s.drop f).take (i - f)]):=by
  left
  refine ⟨hi,Nat.le_refl _,by simp;omega,?_⟩
  dsimp only
  rw [← h,pcs_step hi,if_pos hc,Nat.sub_self,List.take_zero,List.append_assoc];rfl
theorem cutAt_no {s:List UInt8} {c:UInt8} {i f:Nat} {o:List (List UInt8)} (hi:i < s.length) (hf:f ≤ i) (hl:o.length ≤ i) (hc:¬ s.getD i 0 = c) (h:o ++ pcs c (s.drop i) ((s.drop f).take (i - f)) = pcs c s []):CutAt s c (i + 1,f,o):=by
  left
  refine ⟨hi,by dsimp only;omega,by dsimp only;omega,?_⟩
  dsimp only
  rw [← h,pcs_step hi,if_neg hc,acc_step hi hf]
theorem cutAt_end2 {s:List UInt8} {c:UInt8} {i f:Nat} {o:List (List UInt8)} (hf:f ≤ i) (hi:i = s.length) (h:o ++ pcs c (s.drop i) ((s.drop f).take (i - f)) = pcs c s []):CutAt s c (s.length + 1,s.length + 1,o ++ [(s.drop f).take (s.length - f)]):=by
  have:=cutAt_end hf hi h;rwa [hi] at this
theorem cutAt_yes2 {s:List UInt8} {c:UInt8} {i f:Nat} {o:List (List UInt8)} (hi:i < s.length) (hl:o.length ≤ i) (hc:s[i]?.getD 0 = c) (h:o ++ pcs c (s.drop i) ((s.drop f).take (i - f)) = pcs c s []):CutAt s c (i + 1,i + 1,o ++ [(s.drop f).take (i - f)]) :=
  cutAt_yes hi hl (by rw [List.getD_eq_getElem?_getD];exact hc) h
theorem cutAt_no2 {s:List UInt8} {c:UInt8} {i f:Nat} {o:List (List UInt8)} (hi:i < s.length) (hf:f ≤ i) (hl:o.length ≤ i) (hc:¬ s[i]?.getD 0 = c) (h:o ++ pcs c (s.drop i) ((s.drop f).take (i - f)) = pcs c s []):CutAt s c (i + 1,f,o) :=
  cutAt_no hi hf hl (by rw [List.getD_eq_getElem?_getD];exact hc) h
theorem u8_eq {a b:UInt8}:((a.toNat:Int) = (b.toNat:Int)) = (a = b):=by
  rw [eq_iff_iff]
  exact ⟨fun h=>UInt8.toNat.inj (by omega),fun h=>by rw [h]⟩

set_option maxHeartbeats 1000000 in

theorem l16Cut_pure (s:List UInt8) (e:Int) (hl:s.length ≤ 1048576) (he0:0 ≤ e) (he1:e < 256):Pure Tryd.prog 9 [.str s,.int .u8 e] (fr 1 cStr (pcs (UInt8.ofNat e.toNat) s [])):=by
  refine Pure.of_walk Tryd.func9 rfl (by simp [Tryd.f9]) (by simp [-zd,go_sem]) fun B hK=>?_
  obtain ⟨c,rfl⟩:∃ c:UInt8,e = (c.toNat:Int):=⟨UInt8.ofNat e.toNat,by rw [UInt8.toNat_ofNat'];omega⟩;(have hec:UInt8.ofNat (c.toNat:Int).toNat = c:=(by simp));(rw [hec])
  all_goals (repeat' (first
 | refine Xe ?_
 | refine Qd (id:=0) Xq [] (by kernel_rfl) ?_;simp [-zg,-zd,↓Qb,↓Qa,go_sem]
 | refine Qd (id:=1) Xq [] (by kernel_rfl) ?_;simp [-zg,-zd,↓Qb,↓Qa,go_sem]
 | refine Qd (id:=2) Xq [] (by kernel_rfl) ?_;simp [-zg,-zd,↓Qb,↓Qa,go_sem]
 | refine Qd (id:=3) Xq [] (by kernel_rfl) ?_;simp [-zg,-zd,↓Qb,↓Qa,go_sem]
 | refine Qd (id:=4) Xq [] (by kernel_rfl) ?_;simp [-zg,-zd,↓Qb,↓Qa,go_sem]
 | refine Qd (id:=6) Xq [19] (by kernel_rfl) ?_;simp [-zg,-zd,↓Qb,↓Qa,go_sem,h1,(show ¬ (q.1:Int) = s.length by omega),(show ¬ q.1 = s.length by omega),u8_eq];try (refine ⟨fun s6a=>?_,fun s6a=>?_⟩ <;> (try simp [B_iff,B_not] at s6a) <;> try (refine ⟨fun s6b=>?_,fun s6b=>?_⟩ <;> (try simp [B_iff,B_not] at s6b)))
 | refine Qd (id:=6) Xq [19] (by kernel_rfl) ?_;simp [-zg,-zd,↓Qb,↓Qa,go_sem,h1];try (refine ⟨fun s6a=>?_,fun s6a=>?_⟩ <;> (try simp [B_iff,B_not] at s6a) <;> try (refine ⟨fun s6b=>?_,fun s6b=>?_⟩ <;> (try simp [B_iff,B_not] at s6b)))
 | (have hpiece:cat cStr q.2.2 ++ [D.str ((s.drop q.2.1).take (q.1 - q.2.1))] = cat cStr (q.2.2 ++ [(s.drop q.2.1).take (q.1 - q.2.1)]):=(by rw [zaao _ [(s.drop q.2.1).take (q.1 - q.2.1)]];rfl);have hpiece2:cat cStr q.2.2 ++ [D.str ((s.drop q.2.1).take (s.length - q.2.1))] = cat cStr (q.2.2 ++ [(s.drop q.2.1).take (s.length - q.2.1)]):=(by rw [zaao _ [(s.drop q.2.1).take (s.length - q.2.1)]];rfl));refine Qd (id:=7) Xq [] (by kernel_rfl) ?_;simp [-zg,-zd,↓Qb,↓Qa,go_sem,g2,g1,hpiece,hpiece2,(show q.2.1 ≤ s.length by omega),(show (q.2.1:Int) ≤ q.1 by omega),(show (q.1:Int) ≤ s.length by omega),(show (q.2.1:Int) ≤ s.length by omega),(show ((q.1:Int) - (q.2.1:Int)).toNat = q.1 - q.2.1 by omega),(show ((s.length:Int) - (q.2.1:Int)).toNat = s.length - q.2.1 by omega),(show q.2.2.length ≤ 9223372036854775806 by omega),(show 2 * (q.2.2.length + 1) * 16 ≤ 281474976710656 by omega)]
 | refine Qd (id:=8) Xq [] (by kernel_rfl) ?_;simp [-zg,-zd,↓Qb,↓Qa,go_sem,wrapS (k:=q.1) (by omega),wrapS (k:=s.length) (by omega)]
 | (first | (have hpx:=cutAt_yes2 h1 g3 c25 g4;obtain ⟨nx,hnx⟩:∃ nx:Nat × Nat × List (List UInt8),nx = (q.1 + 1,q.1 + 1,q.2.2 ++ [(s.drop q.2.1).take (q.1 - q.2.1)]):=⟨_,rfl⟩;rw [← hnx] at hpx;have hn1:nx.1 = q.1 + 1:=(by rw [hnx])) | (have hpx:=cutAt_no2 h1 g2 g3 c25 g4;obtain ⟨nx,hnx⟩:∃ nx:Nat × Nat × List (List UInt8),nx = (q.1 + 1,q.2.1,q.2.2):=⟨_,rfl⟩;rw [← hnx] at hpx;have hn1:nx.1 = q.1 + 1:=(by rw [hnx])) | (have hpx:=cutAt_end2 g2 h1 g4;obtain ⟨nx,hnx⟩:∃ nx:Nat × Nat × List (List UInt8),nx = (s.length + 1,s.length + 1,q.2.2 ++ [(s.drop q.2.1).take (s.length - q.2.1)]):=⟨_,rfl⟩;rw [← hnx] at hpx;have hn1:nx.1 = q.1 + 1:=(by rw [hnx];dsimp only;omega)));refine Qd (id:=5) Xq [] (by kernel_rfl) ?_;simp [-zg,-zd,↓Qb,↓Qa,go_sem,wrapS (k:=q.1) (by omega),wrapS (k:=s.length) (by omega)]
 | refine Qd (id:=9) Xq [] (by kernel_rfl) ?_;simp [-zg,-zd,↓Qb,↓Qa,go_sem]
 | refine Qm (c:=.tmp 12) ?_;simp [-zg,-zd,↓Qb,↓Qa,go_sem];try first | (refine ⟨?_,?_⟩ <;> refine zA ?_) | (refine ⟨fun c12=>?_,fun c12=>?_⟩ <;> (try simp [B_iff,B_not] at c12);(try (exfalso;omega)))
 | refine Qm (c:=.tmp 25) ?_;simp [-zg,-zd,↓Qb,↓Qa,go_sem];try first | (refine ⟨?_,?_⟩ <;> refine zA ?_) | (refine ⟨fun c25=>?_,fun c25=>?_⟩ <;> (try simp [B_iff,B_not] at c25))
 | (refine Qq (id:=0) (zaec (ι:=Nat × Nat × List (List UInt8)) (fun q:Nat × Nat × List (List UInt8)=>⟨(upd (upd (upd (upd (upd (fun _=>.any) 0 (.str s)) 1 (.int .u8 (c.toNat:Int))) 5 (.fr 1 q.2.2.length (cat cStr q.2.2))) 6 (.int .i64 q.2.1)) 7 (.int .i64 q.1)),fun _=>none⟩) (fun q=>CutAt s c q) (fun q=>s.length + 1 - q.1) ((0,0,[])) ?_ ?_ ?_);exact cutAt_zero s c;((repeat' (first | exact Xi (by assumption) | exact Xk | refine Xm ?_ ?_ | refine Xj ?_)) <;> simp [-zg,-zd,↓Qb,↓Qa,go_sem]);rintro q (⟨g1,g2,g3,g4⟩ | ⟨g1,g2⟩) <;> (try (rcases Nat.lt_or_eq_of_le g1 with h1 | h1)))
 | (refine ⟨nx,hpx,by first | omega | (simp;done) | (simp;omega),?_⟩;((repeat' (first | exact Xi (by assumption) | exact Xk | refine Xm ?_ ?_ | refine Xj ?_)) <;> simp [-zg,-zd,↓Qb,↓Qa,go_sem,hnx]))
 | (refine Qq ?_)
 | (refine Xd ?_;simp [-zg,-zd,↓Qb,↓Qa,go_sem])
 | (refine Xc ?_;simp [-zg,-zd,↓Qb,↓Qa,go_sem])
 | (refine Xf ?_;simp [-zg,-zd,↓Qb,↓Qa,go_sem,Tryd.results9])
 | (intro hx;refine zA ?_)
 | (refine ⟨?_,?_⟩ <;> refine zA ?_)
 | (intro hx;constructor <;> intro hs)
 | (constructor <;> intro hs)
 | (refine ⟨?_,fun hs=>?_⟩;refine zA ?_)
 | (refine ⟨fun hs=>?_,?_⟩;rotate_left;refine zA ?_;rotate_left)))
  all_goals (first
 | (exfalso;omega)
 | (simp [g2];done)
 | skip)
noncomputable def zabr:Con:=.pure fun
  | [.str s,.int .u8 e]=>((s.length ≤ 1048576) ∧ (0 ≤ e) ∧ (e < 256),fr 1 cStr (pcs (UInt8.ofNat e.toNat) s []))
  | _=>(False,.any)
attribute [go_sem] zabr
theorem zael:ConOk Tryd.prog 9 zabr:=by
  refine ⟨Qz Tryd.func9 (by decide) rfl,fun args h=>?_⟩
  revert h
  dsimp only
  split
  · intro h
    obtain ⟨hl,he0,he1⟩:=h
    skip
    exact ⟨l16Cut_pure _ _ hl he0 he1,by simp [go_sem]⟩
  · intro h
    exact h.elim
noncomputable def Γpc4:FuncId → Con:=ext Γpc3 9 zabr
attribute [go_sem] Γpc4
theorem Qy:∀ g,ConOk Tryd.prog g (Γpc4 g):=Xn Xq zael

end Go.Proofs.YtiilmjojffjhlaaDoor.Vm

