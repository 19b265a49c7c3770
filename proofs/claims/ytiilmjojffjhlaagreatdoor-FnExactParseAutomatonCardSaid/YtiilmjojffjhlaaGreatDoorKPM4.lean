import Derived.Test.YtiilmjojffjhlaaGreatDoorKPE2
import Derived.Test.YtiilmjojffjhlaaGreatDoorKDV
import Derived.Test.YtiilmjojffjhlaaGreatDoorKVm16
import Derived.Test.YtiilmjojffjhlaaGreatDoorKQ1
/-
  Certificates' texts for the machine: contracts of the texts written. Conditions: the library's variables hold what the program's text lays.
-/
namespace Go.Proofs.YtiilmjojffjhlaaGreatDoor.Vm
open Go
open List renaming getD_eq_getElem?_getD → zg,drop_one → zd
noncomputable section
set_option linter.unusedVariables false
set_option linter.unusedSimpArgs false
set_option maxRecDepth 200000

theorem LibOk.frm (w w':World) (f:Frm w (fun _=>False) w') (h:LibOk w):LibOk w':=h.gr (Frm.gr f)
theorem frB {μ:Nat → Nat} {I:Nat → Prop} {w:World} {g n:Nat} {t:TypeId} {xs:List Int} (hn:n = xs.length) (hm:n ≤ maxLen) (h:w.rowIs g t n (fun i=>.int .i64 (xs.getD i 0))):Rep μ I w (fr 1 cI xs) (.slice (some ⟨g,0,none⟩) n n) [g]:=by
  subst hn
  obtain ⟨c,hb,hs,hc⟩:=h
  have hce:c = (xs.map fun x=>Value.int .i64 x).toArray:=by
    apply Array.ext
    · simp [hs]
    · intro i h1 h2
      have:=hc i (by omega)
      rw [Array.getElem?_eq_getElem h1] at this
      simp only [Option.some.injEq] at this
      rw [this]
      simp [List.getElem?_eq_getElem (show i < xs.length by omega)]
  subst hce
  unfold fr
  rw [Rep]
  refine ⟨hm,by simp [Qz],.inr ⟨g,xs.length,_,xs.map fun x=>Value.int .i64 x,[],rfl,Nat.le_refl _,⟨t,hb,?_⟩,by simp,?_,?_,rfl⟩⟩
  · intro i v hv
    simp at hv
    obtain ⟨x,_,rfl⟩:=hv
    rfl
  · intro i v hv;simpa using hv
  · clear hb hs hc hm
    induction xs with
    | nil=>simp [cat,RepL]
    | cons x xs ih=>simp only [cat,List.flatMap_cons,cI,List.cons_append,List.nil_append,List.map_cons,RepL];exact ⟨_,_,[],[],rfl,rfl,by simp [Rep],ih⟩
theorem readWords_pure (s:List UInt8) (hl:s.length ≤ 1048576):PureI Tryz.prog LibOk 29 [.str s] (.tup [.str (headW s),fr 1 cI (certR s)]):=fun μ w vs hI _ hr=>by
  obtain ⟨v,rfl⟩:∃ v,vs = [v]:=by
    have:=hr.length
    match vs,this with
    | [v],_=>exact ⟨v,rfl⟩
  obtain rfl:v = .string (tx s):=by have:=hr.one;simpa [Rep,mkS,tx] using this
  refine (readWords_any w s hl hI).mono ?_
  rintro e w' ⟨g,rfl,hg0,hrow,hg⟩
  refine ⟨_,[g],rfl,?_,by simp,by intro x hx;simp at hx;subst hx;exact ⟨hg0,hrow.lt⟩,⟨hg.os,hg.tape,hg.output,hg.size,fun b hb _=>hg.block b hb⟩⟩
  have hm:(certR s).length ≤ maxLen:=by have h1:=zaet s;have h2:=Jw 32 s [];unfold maxLen;omega
  rw [Rep]
  refine ⟨[_,_],rfl,?_⟩
  rw [RepL]
  refine ⟨_,_,[],[g],rfl,rfl,by simp [Rep,mkS,tx,headW],?_⟩
  rw [RepL]
  exact ⟨_,[],[g],[],rfl,rfl,frB rfl hm hrow,by simp [RepL]⟩

section
variable {P:Program} {B:Base} {n:Nat} {c:Code} {Q:Exit → St → Prop} {S:St}
end

@[go_sem] theorem mk11c (x:D):makeD [x] 1 = [x]:=by rw [zaeq];rfl

@[go_sem] def Γpc0:FuncId → Con:=Γg8
theorem Zo:∀ g,ConOk Tryz.prog g (Γpc0 g):=Γg8_ok

theorem pcs_step {c:UInt8} {s:List UInt8} {i:Nat} (h:i < s.length) (acc:List UInt8):pcs c (s.drop i) acc = if s.getD i 0 = c then acc :: pcs c (s.drop (i + 1)) [] else pcs c (s.drop (i + 1)) (acc ++ [s.getD i 0]):=by
  rw [List.drop_eq_getElem_cons h,pcs,List.getD_eq_getElem?_getD,List.getElem?_eq_getElem h];rfl
theorem acc_step {s:List UInt8} {f i:Nat} (h:i < s.length) (hf:f ≤ i):(s.drop f).take (i - f) ++ [s.getD i 0] = (s.drop f).take (i + 1 - f):=by
  rw [show i + 1 - f = (i - f) + 1 by omega,List.take_succ_eq_append_getElem (by simp;omega),List.getD_eq_getElem?_getD,List.getElem?_eq_getElem h]
  simp [show f + (i - f) = i by omega]
def CutAt (s:List UInt8) (c:UInt8) (q:Nat × Nat × List (List UInt8)):Prop :=
  (q.1 ≤ s.length ∧ q.2.1 ≤ q.1 ∧ q.2.2.length ≤ q.1 ∧ q.2.2 ++ pcs c (s.drop q.1) ((s.drop q.2.1).take (q.1 - q.2.1)) = pcs c s []) ∨ (q.1 = s.length + 1 ∧ q.2.2 = pcs c s [])
theorem cutAt_zero (s:List UInt8) (c:UInt8):CutAt s c (0,0,[]):=.inl ⟨Nat.zero_le _,Nat.le_refl _,Nat.le_refl _,by simp⟩
theorem cutAt_end {s:List UInt8} {c:UInt8} {i f:Nat} {o:List (List UInt8)} (hf:f ≤ i) (hi:i = s.length) (h:o ++ pcs c (s.drop i) ((s.drop f).take (i - f)) = pcs c s []):CutAt s c (i + 1,i + 1,o ++ [(s.drop f).take (i - f)]):=by
  subst hi
  right
  refine ⟨rfl,?_⟩
  rw [← h,List.drop_length,pcs]
theorem cutAt_yes {s:List UInt8} {c:UInt8} {i f:Nat} {o:List (List UInt8)} (hi:i < s.length) (hl:o.length ≤ i) (hc:s.getD i 0 = c) (h:o ++ pcs c (s.drop i) ((s.drop f).take (i - f)) = pcs c s []):CutAt s c (i + 1,i + 1,o ++ [(s.drop f).take (i - f)]):=by
  left
  refine ⟨hi,Nat.le_refl _,by simp;omega,?_⟩
  dsimp only
  rw [← h,pcs_step hi,if_pos hc,Nat.sub_self,List.take_zero,List.append_assoc];rfl
theorem cutAt_no {s:List UInt8} {c:UInt8} {i f:Nat} {o:List (List UInt8)} (hi:i < s.length) (hf:f ≤ i) (hl:o.length ≤ i) (hc:¬ s.getD i 0 = c) (h:o ++ pcs c (s.drop i) ((s.drop f).take (i - f)) = pcs c s []):CutAt s c (i + 1,f,o):=by
  left
  refine ⟨hi,by dsimp only;omega,by dsimp only;omega,?_⟩
  dsimp only
  rw [← h,pcs_step hi,if_neg hc,acc_step hi hf]
theorem cutAt_end2 {s:List UInt8} {c:UInt8} {i f:Nat} {o:List (List UInt8)} (hf:f ≤ i) (hi:i = s.length) (h:o ++ pcs c (s.drop i) ((s.drop f).take (i - f)) = pcs c s []):CutAt s c (s.length + 1,s.length + 1,o ++ [(s.drop f).take (s.length - f)]):=by
  have:=cutAt_end hf hi h;rwa [hi] at this
theorem cutAt_yes2 {s:List UInt8} {c:UInt8} {i f:Nat} {o:List (List UInt8)} (hi:i < s.length) (hl:o.length ≤ i) (hc:s[i]?.getD 0 = c) (h:o ++ pcs c (s.drop i) ((s.drop f).take (i - f)) = pcs c s []):CutAt s c (i + 1,i + 1,o ++ [(s.drop f).take (i - f)]) :=
  cutAt_yes hi hl (by rw [List.getD_eq_getElem?_getD];exact hc) h
theorem cutAt_no2 {s:List UInt8} {c:UInt8} {i f:Nat} {o:List (List UInt8)} (hi:i < s.length) (hf:f ≤ i) (hl:o.length ≤ i) (hc:¬ s[i]?.getD 0 = c) (h:o ++ pcs c (s.drop i) ((s.drop f).take (i - f)) = pcs c s []):CutAt s c (i + 1,f,o) :=
  cutAt_no hi hf hl (by rw [List.getD_eq_getElem?_getD];exact hc) h
theorem u8_eq {a b:UInt8}:((a.toNat:Int) = (b.toNat:Int)) = (a = b):=by
  rw [eq_iff_iff]
  exact ⟨fun h=>UInt8.toNat.inj (by omega),fun h=>by rw [h]⟩

set_option maxHeartbeats 1000000 in

theorem l16Cut_pure (s:List UInt8) (e:Int) (hl:s.length ≤ 1048576) (he0:0 ≤ e) (he1:e < 256):Pure Tryz.prog 25 [.str s,.int .u8 e] (fr 1 cStr (pcs (UInt8.ofNat e.toNat) s [])):=by
  refine Pure.of_walk Tryz.func25 rfl (by simp [Tryz.f25]) (by simp [-zd,go_sem]) fun B hK=>?_
  obtain ⟨c,rfl⟩:∃ c:UInt8,e = (c.toNat:Int):=⟨UInt8.ofNat e.toNat,by rw [UInt8.toNat_ofNat'];omega⟩;(have hec:UInt8.ofNat (c.toNat:Int).toNat = c:=(by simp));(rw [hec])
  all_goals (repeat' (first
 | refine Qr ?_
 | refine Qc (id:=0) Zo [] (by kernel_rfl) ?_;simp [-zg,-zd,↓Qb,↓Qa,go_sem]
 | refine Qc (id:=1) Zo [] (by kernel_rfl) ?_;simp [-zg,-zd,↓Qb,↓Qa,go_sem]
 | refine Qc (id:=2) Zo [] (by kernel_rfl) ?_;simp [-zg,-zd,↓Qb,↓Qa,go_sem]
 | refine Qc (id:=3) Zo [] (by kernel_rfl) ?_;simp [-zg,-zd,↓Qb,↓Qa,go_sem]
 | refine Qc (id:=4) Zo [] (by kernel_rfl) ?_;simp [-zg,-zd,↓Qb,↓Qa,go_sem]
 | refine Qc (id:=6) Zo [19] (by kernel_rfl) ?_;simp [-zg,-zd,↓Qb,↓Qa,go_sem,h1,(show ¬ (q.1:Int) = s.length by omega),(show ¬ q.1 = s.length by omega),u8_eq];try (refine ⟨fun s6a=>?_,fun s6a=>?_⟩ <;> (try simp [B_iff,B_not] at s6a) <;> try (refine ⟨fun s6b=>?_,fun s6b=>?_⟩ <;> (try simp [B_iff,B_not] at s6b)))
 | refine Qc (id:=6) Zo [19] (by kernel_rfl) ?_;simp [-zg,-zd,↓Qb,↓Qa,go_sem,h1];try (refine ⟨fun s6a=>?_,fun s6a=>?_⟩ <;> (try simp [B_iff,B_not] at s6a) <;> try (refine ⟨fun s6b=>?_,fun s6b=>?_⟩ <;> (try simp [B_iff,B_not] at s6b)))
 | (have hpiece:cat cStr q.2.2 ++ [D.str ((s.drop q.2.1).take (q.1 - q.2.1))] = cat cStr (q.2.2 ++ [(s.drop q.2.1).take (q.1 - q.2.1)]):=(by rw [Jg _ [(s.drop q.2.1).take (q.1 - q.2.1)]];rfl);have hpiece2:cat cStr q.2.2 ++ [D.str ((s.drop q.2.1).take (s.length - q.2.1))] = cat cStr (q.2.2 ++ [(s.drop q.2.1).take (s.length - q.2.1)]):=(by rw [Jg _ [(s.drop q.2.1).take (s.length - q.2.1)]];rfl));refine Qc (id:=7) Zo [] (by kernel_rfl) ?_;simp [-zg,-zd,↓Qb,↓Qa,go_sem,g2,g1,hpiece,hpiece2,(show q.2.1 ≤ s.length by omega),(show (q.2.1:Int) ≤ q.1 by omega),(show (q.1:Int) ≤ s.length by omega),(show (q.2.1:Int) ≤ s.length by omega),(show ((q.1:Int) - (q.2.1:Int)).toNat = q.1 - q.2.1 by omega),(show ((s.length:Int) - (q.2.1:Int)).toNat = s.length - q.2.1 by omega),(show q.2.2.length ≤ 9223372036854775806 by omega),(show 2 * (q.2.2.length + 1) * 16 ≤ 281474976710656 by omega)]
 | refine Qc (id:=8) Zo [] (by kernel_rfl) ?_;simp [-zg,-zd,↓Qb,↓Qa,go_sem,wrapS (k:=q.1) (by omega),wrapS (k:=s.length) (by omega)]
 | (first | (have hpx:=cutAt_yes2 h1 g3 c25 g4;obtain ⟨nx,hnx⟩:∃ nx:Nat × Nat × List (List UInt8),nx = (q.1 + 1,q.1 + 1,q.2.2 ++ [(s.drop q.2.1).take (q.1 - q.2.1)]):=⟨_,rfl⟩;rw [← hnx] at hpx;have hn1:nx.1 = q.1 + 1:=(by rw [hnx])) | (have hpx:=cutAt_no2 h1 g2 g3 c25 g4;obtain ⟨nx,hnx⟩:∃ nx:Nat × Nat × List (List UInt8),nx = (q.1 + 1,q.2.1,q.2.2):=⟨_,rfl⟩;rw [← hnx] at hpx;have hn1:nx.1 = q.1 + 1:=(by rw [hnx])) | (have hpx:=cutAt_end2 g2 h1 g4;obtain ⟨nx,hnx⟩:∃ nx:Nat × Nat × List (List UInt8),nx = (s.length + 1,s.length + 1,q.2.2 ++ [(s.drop q.2.1).take (s.length - q.2.1)]):=⟨_,rfl⟩;rw [← hnx] at hpx;have hn1:nx.1 = q.1 + 1:=(by rw [hnx];dsimp only;omega)));refine Qc (id:=5) Zo [] (by kernel_rfl) ?_;simp [-zg,-zd,↓Qb,↓Qa,go_sem,wrapS (k:=q.1) (by omega),wrapS (k:=s.length) (by omega)]
 | refine Qc (id:=9) Zo [] (by kernel_rfl) ?_;simp [-zg,-zd,↓Qb,↓Qa,go_sem]
 | refine Qf (c:=.tmp 12) ?_;simp [-zg,-zd,↓Qb,↓Qa,go_sem];try first | (refine ⟨?_,?_⟩ <;> refine zA ?_) | (refine ⟨fun c12=>?_,fun c12=>?_⟩ <;> (try simp [B_iff,B_not] at c12);(try (exfalso;omega)))
 | refine Qf (c:=.tmp 25) ?_;simp [-zg,-zd,↓Qb,↓Qa,go_sem];try first | (refine ⟨?_,?_⟩ <;> refine zA ?_) | (refine ⟨fun c25=>?_,fun c25=>?_⟩ <;> (try simp [B_iff,B_not] at c25))
 | (refine Qg (id:=0) (Xc (ι:=Nat × Nat × List (List UInt8)) (fun q:Nat × Nat × List (List UInt8)=>⟨(upd (upd (upd (upd (upd (fun _=>.any) 0 (.str s)) 1 (.int .u8 (c.toNat:Int))) 5 (.fr 1 q.2.2.length (cat cStr q.2.2))) 6 (.int .i64 q.2.1)) 7 (.int .i64 q.1)),fun _=>none⟩) (fun q=>CutAt s c q) (fun q=>s.length + 1 - q.1) ((0,0,[])) ?_ ?_ ?_);exact cutAt_zero s c;((repeat' (first | exact Qj (by assumption) | exact Ql | refine Qm ?_ ?_ | refine Qk ?_)) <;> simp [-zg,-zd,↓Qb,↓Qa,go_sem]);rintro q (⟨g1,g2,g3,g4⟩ | ⟨g1,g2⟩) <;> (try (rcases Nat.lt_or_eq_of_le g1 with h1 | h1)))
 | (refine ⟨nx,hpx,by first | omega | (simp;done) | (simp;omega),?_⟩;((repeat' (first | exact Qj (by assumption) | exact Ql | refine Qm ?_ ?_ | refine Qk ?_)) <;> simp [-zg,-zd,↓Qb,↓Qa,go_sem,hnx]))
 | (refine Qg ?_)
 | (refine Qq ?_;simp [-zg,-zd,↓Qb,↓Qa,go_sem])
 | (refine Qp ?_;simp [-zg,-zd,↓Qb,↓Qa,go_sem])
 | (refine Qs ?_;simp [-zg,-zd,↓Qb,↓Qa,go_sem,Tryz.results25])
 | (intro hx;refine zA ?_)
 | (refine ⟨?_,?_⟩ <;> refine zA ?_)
 | (intro hx;constructor <;> intro hs)
 | (constructor <;> intro hs)
 | (refine ⟨?_,fun hs=>?_⟩;refine zA ?_)
 | (refine ⟨fun hs=>?_,?_⟩;rotate_left;refine zA ?_;rotate_left)))
  all_goals (first
 | (exfalso;omega)
 | (simp [g2];done)
 | skip)
@[go_sem] def zabt:Con:=.pure fun
  | [.str s,.int .u8 e]=>((s.length ≤ 1048576) ∧ (0 ≤ e) ∧ (e < 256),fr 1 cStr (pcs (UInt8.ofNat e.toNat) s []))
  | _=>(False,.any)
theorem zaco:ConOk Tryz.prog 25 zabt:=by
  refine ⟨Qn Tryz.func25 (by decide) rfl,fun args h=>?_⟩
  revert h
  dsimp only
  split
  · intro h
    obtain ⟨hl,he0,he1⟩:=h
    skip
    exact ⟨l16Cut_pure _ _ hl he0 he1,by simp [go_sem]⟩
  · intro h
    exact h.elim
@[go_sem] def Γpc4:FuncId → Con:=ext Γpc0 25 zabt
theorem Xu:∀ g,ConOk Tryz.prog g (Γpc4 g):=Qu Zo zaco


def NumIs (s t:List UInt8) (neg:Bool):Prop:=numT s = t ∧ numNeg s = neg
theorem num_cases (s:List UInt8):(∃ t neg,0 < s.length ∧ ((s.getD 0 0).toNat:Int) = 45 ∧ s.drop 1 = t ∧ neg = true ∧ NumIs s t neg) ∨ (∃ t neg,t = s ∧ 0 < t.length ∧ ¬ ((t.getD 0 0).toNat:Int) = 45 ∧ True ∧ neg = false ∧ NumIs t t neg) ∨ (∃ t neg,t = s ∧ ¬ 0 < t.length ∧ True ∧ True ∧ neg = false ∧ NumIs t t neg):=by
  by_cases h0:0 < s.length
  · by_cases h1:(s.getD 0 0).toNat = 45
    · have hn:numNeg s = true:=decide_eq_true ⟨h0,h1⟩
      exact .inl ⟨_,_,h0,by omega,rfl,rfl,by unfold numT;rw [if_pos hn],hn⟩
    · have hn:numNeg s = false:=decide_eq_false fun h=>h1 h.2
      exact .inr (.inl ⟨s,_,rfl,h0,by omega,trivial,rfl,by unfold numT;rw [if_neg (by rw [hn];simp)],hn⟩)
  · have hn:numNeg s = false:=decide_eq_false fun h=>h0 h.1
    exact .inr (.inr ⟨s,_,rfl,h0,trivial,trivial,rfl,by unfold numT;rw [if_neg (by rw [hn];simp)],hn⟩)
theorem len_cases (t:List UInt8):(t = [] ∧ True ∧ True ∧ True) ∨ (0 < t.length ∧ 17 < (t.length:Int) ∧ True ∧ True) ∨ (0 < t.length ∧ ¬ 17 < (t.length:Int) ∧ ((t.getD 0 0).toNat:Int) = 48 ∧ 1 < (t.length:Int)) ∨
    (0 < t.length ∧ ¬ 17 < (t.length:Int) ∧ ((t.getD 0 0).toNat:Int) = 48 ∧ ¬ 1 < (t.length:Int)) ∨ (0 < t.length ∧ ¬ 17 < (t.length:Int) ∧ ¬ ((t.getD 0 0).toNat:Int) = 48 ∧ True):=by
  by_cases h0:t = []
  · exact .inl ⟨h0,trivial,trivial,trivial⟩
  · have:0 < t.length:=List.length_pos_iff.2 h0
    by_cases h1:17 < (t.length:Int)
    · exact .inr (.inl ⟨this,h1,trivial,trivial⟩)
    · by_cases h2:((t.getD 0 0).toNat:Int) = 48
      · by_cases h3:1 < (t.length:Int)
        · exact .inr (.inr (.inl ⟨this,h1,h2,h3⟩))
        · exact .inr (.inr (.inr (.inl ⟨this,h1,h2,h3⟩)))
      · exact .inr (.inr (.inr (.inr ⟨this,h1,h2,trivial⟩)))
def BadN (t:List UInt8) (neg:Bool):Prop:=t.length = 0 ∨ 17 < t.length ∨ ((t.getD 0 0).toNat = 48 ∧ (1 < t.length ∨ neg = true))
theorem bad_iff {t:List UInt8} {neg:Bool}:numBad t neg = true ↔ BadN t neg:=by
  simp [numBad,BadN,or_assoc,-zg]
theorem num_bad {s t:List UInt8} {neg:Bool} (hi:NumIs s t neg) (h:BadN t neg):numV s = 0 ∧ numOk s = false:=by
  obtain ⟨h1,h2⟩:=hi
  have hb:numB t neg = false:=by rw [numB,bad_iff.2 h];rfl
  exact ⟨by rw [numV,h1,h2,numR,if_neg (by rw [hb];simp)],by rw [numOk,h1,h2,hb]⟩
theorem num_bad_at {s t:List UInt8} {neg:Bool} (hi:NumIs s t neg) {k:Nat} (hk:k < t.length) (h:noDg t k = true):numV s = 0 ∧ numOk s = false:=by
  obtain ⟨h1,h2⟩:=hi
  have ha:(List.range t.length).any (noDg t) = true:=List.any_eq_true.2 ⟨k,List.mem_range.2 hk,h⟩
  have hb:numB t neg = false:=by rw [numB,ha];simp
  exact ⟨by rw [numV,h1,h2,numR,if_neg (by rw [hb];simp)],by rw [numOk,h1,h2,hb]⟩
theorem num_end {s t:List UInt8} {neg:Bool} (hi:NumIs s t neg) (h:¬ BadN t neg) {k:Nat} (hk:t.length ≤ k) (ht:NoneTill (noDg t) k):numV s = (if neg = true then -nmD t t.length else nmD t t.length) ∧ numOk s = true:=by
  obtain ⟨h1,h2⟩:=hi
  have ha:(List.range t.length).any (noDg t) = false:=by
    rw [List.any_eq_false]
    intro i hi
    rw [List.mem_range] at hi
    rw [ht i (by omega)];simp
  have hb:numB t neg = true:=by
    rw [numB,ha]
    cases e:numBad t neg
    · rfl
    · exact absurd (bad_iff.1 e) h
  exact ⟨by rw [numV,h1,h2,numR,if_pos hb],by rw [numOk,h1,h2,hb]⟩
theorem dg_succ {t:List UInt8} {k:Nat} (ht:NoneTill (noDg t) k) (h1:¬ ((t.getD k 0).toNat:Int) < 48) (h2:¬ 57 < ((t.getD k 0).toNat:Int)):NoneTill (noDg t) (k + 1) :=
  ht.succ (by rw [noDg,decide_eq_true (by omega)];rfl)

set_option maxHeartbeats 2000000 in

theorem l16Num_pure (s:List UInt8) (hl:s.length ≤ 1048576):Pure Tryz.prog 51 [.str s] (.tup [.int .i64 (numV s),.bool (numOk s)]):=by
  refine Pure.of_walk Tryz.func51 rfl (by simp [Tryz.f51]) (by simp [-zd,go_sem]) fun B hK=>?_
  rcases num_cases s with ⟨t,neg,h0,h45,hd,hneg,hi⟩ | ⟨t,neg,rfl,h0,h45,hd,hneg,hi⟩ | ⟨t,neg,rfl,h0,h45,hd,hneg,hi⟩ <;> rcases len_cases t with ⟨g1,g2,g3,g4⟩ | ⟨g1,g2,g3,g4⟩ | ⟨g1,g2,g3,g4⟩ | ⟨g1,g2,g3,g4⟩ | ⟨g1,g2,g3,g4⟩ <;> try (exfalso;omega)
  all_goals (repeat' (first
 | refine Qr ?_
 | refine Qc (id:=0) Xu [] (by kernel_rfl) ?_;simp [-zg,-zd,↓Qb,↓Qa,go_sem]
 | refine Qc (id:=1) Xu [10] (by kernel_rfl) ?_;simp [-zg,-zd,↓Qb,↓Qa,go_sem,h0,h45];try (refine ⟨fun s1a=>?_,fun s1a=>?_⟩ <;> (try simp [B_iff,B_not] at s1a) <;> try (refine ⟨fun s1b=>?_,fun s1b=>?_⟩ <;> (try simp [B_iff,B_not] at s1b)))
 | refine Qc (id:=2) Xu [] (by kernel_rfl) ?_;simp [-zg,-zd,↓Qb,↓Qa,go_sem]
 | refine Qc (id:=3) Xu [] (by kernel_rfl) ?_;simp [-zg,-zd,↓Qb,↓Qa,go_sem,(show s.length - 1 = t.length by rw [← hd];simp),hd,(show (1:Int) ≤ s.length by omega),List.take_length]
 | refine Qc (id:=4) Xu [21,26,30,34] (by kernel_rfl) ?_;simp [-zg,-zd,↓Qb,↓Qa,go_sem,g1,Qh g1,Nat.sub_pos_of_lt g1,g2,g3,g4];try (refine ⟨fun s4a=>?_,fun s4a=>?_⟩ <;> (try simp [B_iff,B_not] at s4a) <;> try (refine ⟨fun s4b=>?_,fun s4b=>?_⟩ <;> (try simp [B_iff,B_not] at s4b) <;> try (refine ⟨fun s4c=>?_,fun s4c=>?_⟩ <;> (try simp [B_iff,B_not] at s4c) <;> try (refine ⟨fun s4d=>?_,fun s4d=>?_⟩ <;> (try simp [B_iff,B_not] at s4d) <;> try (refine ⟨fun s4e=>?_,fun s4e=>?_⟩ <;> (try simp [B_iff,B_not] at s4e))))))
 | refine Qc (id:=4) Xu [21,26,30,34] (by kernel_rfl) ?_;simp [-zg,-zd,↓Qb,↓Qa,go_sem,g1];try (refine ⟨fun s4a=>?_,fun s4a=>?_⟩ <;> (try simp [B_iff,B_not] at s4a) <;> try (refine ⟨fun s4b=>?_,fun s4b=>?_⟩ <;> (try simp [B_iff,B_not] at s4b) <;> try (refine ⟨fun s4c=>?_,fun s4c=>?_⟩ <;> (try simp [B_iff,B_not] at s4c) <;> try (refine ⟨fun s4d=>?_,fun s4d=>?_⟩ <;> (try simp [B_iff,B_not] at s4d) <;> try (refine ⟨fun s4e=>?_,fun s4e=>?_⟩ <;> (try simp [B_iff,B_not] at s4e))))))
 | refine Qc (id:=5) Xu [] (by kernel_rfl) ?_;simp [-zg,-zd,↓Qb,↓Qa,go_sem]
 | refine Qc (id:=6) Xu [] (by kernel_rfl) ?_;simp [-zg,-zd,↓Qb,↓Qa,go_sem]
 | refine Qc (id:=7) Xu [] (by kernel_rfl) ?_;simp [-zg,-zd,↓Qb,↓Qa,go_sem]
 | refine Qc (id:=8) Xu [] (by kernel_rfl) ?_;simp [-zg,-zd,↓Qb,↓Qa,go_sem]
 | refine Qc (id:=10) Xu [49] (by kernel_rfl) ?_;simp [-zg,-zd,↓Qb,↓Qa,go_sem,c42,Qh c42,Nat.sub_pos_of_lt c42];try (refine ⟨fun s10a=>?_,fun s10a=>?_⟩ <;> (try simp [B_iff,B_not] at s10a) <;> try (refine ⟨fun s10b=>?_,fun s10b=>?_⟩ <;> (try simp [B_iff,B_not] at s10b)))
 | refine Qc (id:=11) Xu [] (by kernel_rfl) ?_;simp [-zg,-zd,↓Qb,↓Qa,go_sem]
 | (have hv:=nmD_s ht (by omega);have hgd:(t.getD k 0).toNat = (t[k]?.getD 0).toNat:=(by rw [List.getD_eq_getElem?_getD]));refine Qc (id:=12) Xu [] (by kernel_rfl) ?_;simp [-zg,-zd,↓Qb,↓Qa,go_sem,c42,Qh c42,Nat.sub_pos_of_lt c42,(show IntKind.u8.wrap (((t.getD k 0).toNat:Int) - 48) = ((t.getD k 0).toNat:Int) - 48 by rw [IntKind.wrap_u8];omega),wrap_in (x:=((t.getD k 0).toNat:Int) - 48) (by omega) (by omega),wrap_in (x:=nmD t k * 10) (by omega) (by omega),wrap_in (x:=nmD t k * 10 + (((t.getD k 0).toNat:Int) - 48)) (by omega) (by omega)]
 | (have htn:=dg_succ ht (by omega) (by omega));refine Qc (id:=9) Xu [] (by kernel_rfl) ?_;simp [-zg,-zd,↓Qb,↓Qa,go_sem,wrapS (k:=k) (by omega)]
 | refine Qc (id:=13) Xu [] (by kernel_rfl) ?_;simp [-zg,-zd,↓Qb,↓Qa,go_sem]
 | ((obtain rfl:k = t.length:=(by omega));have hv:=nmD_s ht (by omega));refine Qc (id:=14) Xu [] (by kernel_rfl) ?_;simp [-zg,-zd,↓Qb,↓Qa,go_sem,wrap_in (x:=-nmD t t.length) (by omega) (by omega)]
 | refine Qc (id:=15) Xu [] (by kernel_rfl) ?_;simp [-zg,-zd,↓Qb,↓Qa,go_sem]
 | refine Qf (c:=.tmp 15) ?_;simp [-zg,-zd,↓Qb,↓Qa,go_sem];try first | (refine ⟨?_,?_⟩ <;> refine zA ?_) | (refine ⟨fun c15=>?_,fun c15=>?_⟩ <;> (try simp [B_iff,B_not] at c15))
 | refine Qf (c:=.tmp 38) ?_;simp [-zg,-zd,↓Qb,↓Qa,go_sem];try first | (refine ⟨?_,?_⟩ <;> refine zA ?_) | (refine ⟨fun c38=>?_,fun c38=>?_⟩ <;> (try simp [B_iff,B_not] at c38))
 | refine Qf (c:=.tmp 42) ?_;simp [-zg,-zd,↓Qb,↓Qa,go_sem];try first | (refine ⟨?_,?_⟩ <;> refine zA ?_) | (refine ⟨fun c42=>?_,fun c42=>?_⟩ <;> (try simp [B_iff,B_not] at c42))
 | refine Qf (c:=.tmp 54) ?_;simp [-zg,-zd,↓Qb,↓Qa,go_sem];try first | (refine ⟨?_,?_⟩ <;> refine zA ?_) | (refine ⟨fun c54=>?_,fun c54=>?_⟩ <;> (try simp [B_iff,B_not] at c54))
 | refine Qf (c:=.tmp 63) ?_;simp [-zg,-zd,↓Qb,↓Qa,go_sem];try first | (refine ⟨?_,?_⟩ <;> refine zA ?_) | (refine ⟨fun c63=>?_,fun c63=>?_⟩ <;> (try simp [B_iff,B_not] at c63))
 | (refine Qg (id:=0) (Xc (ι:=Nat) (fun k:Nat=>⟨(upd (upd (upd (upd (fun _=>.any) 0 (.str t)) 4 (.bool neg)) 5 (.int .i64 (nmD t k))) 6 (.int .i64 k)),fun _=>none⟩) (fun k=>k ≤ t.length ∧ NoneTill (noDg t) k) (fun k=>t.length - k) (0) ?_ ?_ ?_);exact ⟨Nat.zero_le _,.zero _⟩;((repeat' (first | exact Qj (by assumption) | exact Ql | refine Qm ?_ ?_ | refine Qk ?_)) <;> simp [-zg,-zd,↓Qb,↓Qa,go_sem,hneg,nmD]);rintro k ⟨hk,ht⟩)
 | (refine ⟨k + 1,⟨by omega,htn⟩,by first | omega | (simp;done) | (simp;omega),?_⟩;((repeat' (first | exact Qj (by assumption) | exact Ql | refine Qm ?_ ?_ | refine Qk ?_)) <;> simp [-zg,-zd,↓Qb,↓Qa,go_sem,hneg,nmD]))
 | (refine Qg ?_)
 | (refine Qq ?_;simp [-zg,-zd,↓Qb,↓Qa,go_sem])
 | (refine Qp ?_;simp [-zg,-zd,↓Qb,↓Qa,go_sem])
 | (refine Qs ?_;simp [-zg,-zd,↓Qb,↓Qa,go_sem,Tryz.results51])
 | (intro hx;refine zA ?_)
 | (refine ⟨?_,?_⟩ <;> refine zA ?_)
 | (intro hx;constructor <;> intro hs)
 | (constructor <;> intro hs)
 | (refine ⟨?_,fun hs=>?_⟩;refine zA ?_)
 | (refine ⟨fun hs=>?_,?_⟩;rotate_left;refine zA ?_;rotate_left)))
  all_goals (first
 | (have hb:=num_bad hi (by first | (simp [BadN,hneg,g1,g2,g3,g4,-zg];done) | (simp [BadN,hneg,-zg];omega));exact ⟨hb.1.symm,hb.2⟩)
 | (exfalso;rw [hneg] at c63;cases c63;done)
 | (exact ⟨by decide,by decide⟩)
 | (have hgd:(t.getD k 0).toNat = (t[k]?.getD 0).toNat:=(by rw [List.getD_eq_getElem?_getD]);have hb:=num_bad_at hi c42 (by rw [noDg,decide_eq_false (by omega)];rfl);exact ⟨hb.1.symm,hb.2⟩)
 | (have he:=num_end hi (fun hb=>by rcases hb with h | h | ⟨h,h2 | h2⟩ <;> first | omega | (rw [hneg] at h2;cases h2)) (Nat.le_refl _) ht;exact ⟨by rw [he.1,if_pos c63],he.2⟩)
 | (obtain rfl:k = t.length:=(by omega);have he:=num_end hi (fun hb=>by rcases hb with h | h | ⟨h,h2 | h2⟩ <;> first | omega | (rw [hneg] at h2;cases h2)) (Nat.le_refl _) ht;exact ⟨by rw [he.1,if_neg (by rw [hneg];simp)],he.2⟩)
 | skip)
@[go_sem] def zact:Con:=.pure fun
  | [.str s]=>((s.length ≤ 1048576),.tup [.int .i64 (numV s),.bool (numOk s)])
  | _=>(False,.any)
theorem zags:ConOk Tryz.prog 51 zact:=by
  refine ⟨Qn Tryz.func51 (by decide) rfl,fun args h=>?_⟩
  revert h
  dsimp only
  split
  · intro h
    have hl:=h
    skip
    exact ⟨l16Num_pure _ hl,by simp [go_sem]⟩
  · intro h
    exact h.elim
end
end Go.Proofs.YtiilmjojffjhlaaGreatDoor.Vm

