/-
  Breadth-first search, plain: what is met is what can be reached, and the way back is a shortest one. No conditions.
-/
import Derived.Test.YtkjimmkemnmajaaW16
namespace Go.Proofs.Ytkjimmkemnmajaa.Vm
open Go
set_option linter.unusedVariables false
set_option linter.unusedSimpArgs false
set_option maxRecDepth 200000

structure Dp (nx:List (List Int)) (ss:List Int) (i:Nat) (s:PQ) (d:Nat → Nat):Prop where
  d0:∀ m,m < ss.length → d m = 0
  dp:∀ m,ss.length ≤ m → m < s.2.length → ∃ k,k < m ∧ nth s.1 (nth s.2 m).toNat = nth s.2 k ∧ d m = d k + 1 ∧ nth s.2 m ∈ nth nx (nth s.2 k).toNat
  dm:∀ m m',m ≤ m' → m' < s.2.length → d m ≤ d m'
  du:∀ m,i < s.2.length → m < s.2.length → d m ≤ d i + 1
  de:∀ j,j < i → j < s.2.length → ∀ z ∈ nth nx (nth s.2 j).toNat,∃ m,m < s.2.length ∧ nth s.2 m = z ∧ d m ≤ d j + 1
theorem Dp.start {nx:List (List Int)} {n:Nat} {ss:List Int} (h:Bf n ss (bfs0 n ss)):Dp nx ss 0 (bfs0 n ss) (fun _=>0) :=
  ⟨fun _ _=>rfl,fun m h1 h2=>by simp only [bfs0] at h2;omega,fun _ _ _ _=>Nat.le_refl _,fun _ _ _=>by omega,fun j hj=>by omega⟩
theorem Dp.meet {nx:List (List Int)} {n:Nat} {ss:List Int} {i:Nat} {s:PQ} {d:Nat → Nat} (hB:Bf n ss s) (h:Dp nx ss i s d) (hi:i < s.2.length) {x:Int} (h0:0 ≤ x) (h1:x < n)
    (hx:x ∈ nth nx (nth s.2 i).toNat):∃ d',Dp nx ss i (meet1 (nth s.2 i) s x) d' ∧ (∀ m,m < s.2.length → d' m = d m) ∧ ∃ m,m < (meet1 (nth s.2 i) s x).2.length ∧ nth (meet1 (nth s.2 i) s x).2 m = x ∧ d' m ≤ d' i + 1:=by
  by_cases hn:nth s.1 x.toNat = -2
  · have e:meet1 (nth s.2 i) s x = (s.1.set x.toNat (nth s.2 i),s.2 ++ [x]):=by rw [meet1,if_pos hn]
    have hxl:x.toNat < s.1.length:=by rw [hB.len];omega
    have hal:=hB.al
    refine ⟨fun m=>if m = s.2.length then d i + 1 else d m,⟨?_,?_,?_,?_,?_⟩,?_,?_⟩
    · intro m hm
      show (if m = s.2.length then d i + 1 else d m) = 0
      rw [if_neg (by omega)];exact h.d0 m hm
    · intro m h2 h3
      rw [e] at h3 ⊢
      dsimp only at h3 ⊢
      rw [List.length_append,List.length_singleton] at h3
      by_cases q:m = s.2.length
      · subst q
        refine ⟨i,hi,?_,?_,?_⟩
        · rw [Zx,Zm hxl,Xd hi]
        · rw [if_pos rfl,if_neg (by omega)]
        · rw [Zx,Xd hi];exact hx
      · obtain ⟨k,k1,k2,k3,k4⟩:=h.dp m h2 (by omega)
        refine ⟨k,k1,?_,?_,?_⟩
        · rw [Xd (by omega),Xd (by omega)]
          have hnn:=hB.nn (m:=m) (by omega)
          have:¬ x.toNat = (nth s.2 m).toNat:=fun q=>hnn (by rw [← q];exact hn)
          rw [Za this];exact k2
        · rw [if_neg q,if_neg (by omega)];exact k3
        · rw [Xd (by omega),Xd (by omega)];exact k4
    · intro m m' h2 h3
      rw [e] at h3
      dsimp only at h3 ⊢
      rw [List.length_append,List.length_singleton] at h3
      split
      · rw [if_pos (by omega)];exact Nat.le_refl _
      · split
        · exact h.du m hi (by omega)
        · exact h.dm m m' h2 (by omega)
    · intro m h2 h3
      rw [e] at h3
      dsimp only at h3 ⊢
      rw [List.length_append,List.length_singleton] at h3
      rw [if_neg (by omega:¬ i = s.2.length)]
      split
      · exact Nat.le_refl _
      · exact h.du m hi (by omega)
    · intro j hj hj2 z hz
      have hjl:j < s.2.length:=by omega
      rw [e] at hz ⊢
      dsimp only at hz ⊢
      rw [Xd hjl] at hz
      obtain ⟨m,m1,m2,m3⟩:=h.de j hj hjl z hz
      refine ⟨m,by rw [List.length_append];omega,by rw [Xd m1];exact m2,?_⟩
      rw [if_neg (by omega),if_neg (by omega)];exact m3
    · intro m hm
      dsimp only
      rw [if_neg (by omega)]
    · refine ⟨s.2.length,?_,?_,?_⟩
      · rw [e];simp
      · rw [e];exact Zx _ _
      · dsimp only
        rw [if_pos rfl,if_neg (by omega)];exact Nat.le_refl _
  · have e:meet1 (nth s.2 i) s x = s:=by rw [meet1,if_neg hn]
    rw [e]
    refine ⟨d,h,fun _ _=>rfl,?_⟩
    have:=(hB.met x.toNat (by omega)).2 hn
    rw [Int.toNat_of_nonneg h0] at this
    obtain ⟨m,m1,m2⟩:=Jv this
    exact ⟨m,m1,m2,h.du m hi m1⟩
theorem Dp.meets {nx:List (List Int)} {n:Nat} {ss:List Int} {i:Nat} {s:PQ} {d:Nat → Nat} (hB:Bf n ss s) (h:Dp nx ss i s d) (hi:i < s.2.length) {ns:List Int}
    (hn:∀ k,k < ns.length → 0 ≤ nth ns k ∧ nth ns k < n) (hx:∀ z ∈ ns,z ∈ nth nx (nth s.2 i).toNat) :
    ∀ k,k ≤ ns.length → ∃ d',Dp nx ss i (meets (nth s.2 i) (ns.take k) s) d' ∧ (∀ m,m < s.2.length → d' m = d m) ∧
      ∀ j,j < k → ∃ m,m < (meets (nth s.2 i) (ns.take k) s).2.length ∧ nth (meets (nth s.2 i) (ns.take k) s).2 m = nth ns j ∧ d' m ≤ d' i + 1
  | 0,_=>by rw [meets_zero];exact ⟨d,h,fun _ _=>rfl,fun j hj=>by omega⟩
  | k + 1,hk=>by
    obtain ⟨d1,g1,g2,g3⟩:=Dp.meets hB h hi hn hx k (by omega)
    obtain ⟨b1,b2⟩:=zadj hB hi hn k (by omega)
    have hle:=b2.le
    have e:=b2.nth hi
    obtain ⟨q1,q2⟩:=hn k (by omega)
    have hxx:=hx (nth ns k) (Xl (by omega))
    rw [← e] at hxx
    obtain ⟨d2,f1,f2,m,m1,m2,m3⟩:=Dp.meet b1 g1 (by omega) q1 q2 hxx
    have hL:=Later.meet1 (nth (Vm.meets (nth s.2 i) (ns.take k) s).2 i) (Vm.meets (nth s.2 i) (ns.take k) s) (nth ns k)
    rw [zaaw _ (by omega)]
    rw [e] at f1 m1 m2 hL
    have hle2:=hL.le
    refine ⟨d2,f1,fun q hq=>by rw [f2 q (by omega),g2 q hq],fun j hj=>?_⟩
    by_cases q:j = k
    · subst q;exact ⟨m,m1,m2,m3⟩
    · obtain ⟨m',k1,k2,k3⟩:=g3 j (by omega)
      exact ⟨m',by omega,by rw [hL.nth k1];exact k2,by rw [f2 m' k1,f2 i (by omega)];exact k3⟩
theorem bfs_dp {nx:List (List Int)} (hx:Qz nx) {ss:List Int} (h:Starts nx.length ss):∀ i,∃ d,Dp nx ss i (bfs nx i (bfs0 nx.length ss)) d
  | 0=>⟨_,Dp.start (Bf.start h)⟩
  | i + 1 => by
    obtain ⟨d,hd⟩:=bfs_dp hx h i
    obtain ⟨h1,h2⟩:=bfs_ok hx (Bf.start h) i
    by_cases hi:i < (bfs nx i (bfs0 nx.length ss)).2.length
    · rw [zadw hi]
      obtain ⟨q1,q2⟩:=h1.rng i hi
      have hn:=hx (nth (bfs nx i (bfs0 nx.length ss)).2 i).toNat (by omega)
      obtain ⟨d',g1,g2,g3⟩:=Dp.meets h1 hd hi hn (fun _ hz=>hz) _ (Nat.le_refl _)
      obtain ⟨k1,k2⟩:=meets_ok' h1 hi hn
      rw [List.take_length] at g1 g3
      have hle:=k2.le
      refine ⟨d',g1.d0,g1.dp,g1.dm,fun m u1 u2=>?_,fun j hj hj2 z hz=>?_⟩
      · have a1:=g1.du m (by omega) u2
        have a2:=g1.dm i (i + 1) (by omega) u1
        omega
      · by_cases q:j = i
        · subst q
          rw [k2.nth hi] at hz
          obtain ⟨t,t1,t2⟩:=Jv hz
          obtain ⟨m,m1,m2,m3⟩:=g3 t t1
          exact ⟨m,m1,by rw [m2,t2],m3⟩
        · exact g1.de j (by omega) hj2 z hz
    · rw [bfs,if_neg hi]
      refine ⟨d,hd.d0,hd.dp,hd.dm,fun m u1 u2=>by omega,fun j hj hj2 z hz=>hd.de j (by omega) hj2 z hz⟩
theorem bfsE_dp {nx:List (List Int)} (hx:Qz nx) {ss:List Int} (h:Starts nx.length ss):∃ d,Dp nx ss nx.length (bfsE nx ss) d:=bfs_dp hx h nx.length
def Way (nx:List (List Int)) (w:List Int):Prop:=∀ k,k + 1 < w.length → nth w (k + 1) ∈ nth nx (nth w k).toNat
theorem walk_met {nx:List (List Int)} (hx:Qz nx) {ss:List Int} (h:Starts nx.length ss) {d:Nat → Nat} (hd:Dp nx ss nx.length (bfsE nx ss) d) {w:List Int} (hw:Way nx w) (h0:nth w 0 ∈ ss) :
    ∀ k,k < w.length → ∃ m,m < (bfsE nx ss).2.length ∧ nth (bfsE nx ss).2 m = nth w k ∧ d m ≤ k
  | 0,hk=>by
    have hB:=Zi hx h
    obtain ⟨m,m1,m2⟩:=Jv h0
    have:=hB.al
    exact ⟨m,by omega,by rw [hB.root_at m1];exact m2,by rw [hd.d0 m m1];exact Nat.le_refl _⟩
  | k + 1,hk=>by
    obtain ⟨m,m1,m2,m3⟩:=walk_met hx h hd hw h0 k (by omega)
    have hB:=Zi hx h
    have:=hB.le
    have hz:=hw k hk
    rw [← m2] at hz
    obtain ⟨m',k1,k2,k3⟩:=hd.de m (by omega) m1 _ hz
    exact ⟨m',k1,k2,by omega⟩
theorem up_way {nx:List (List Int)} {ss:List Int} {s:PQ} {d:Nat → Nat} (hB:Bf nx.length ss s) (hd:Dp nx ss nx.length s d):∀ (m:Nat),m < s.2.length → ∀ f,m + 2 ≤ f →
    (up s.1 f (nth s.2 m)).length = d m + 1 ∧ Way nx (up s.1 f (nth s.2 m)).reverse ∧ nth (up s.1 f (nth s.2 m)).reverse 0 ∈ ss ∧ nth (up s.1 f (nth s.2 m)).reverse (d m) = nth s.2 m:=fun m=>by
  induction m using Nat.strongRecOn with
  | _ m ih =>
    intro hm f hf
    obtain ⟨f,rfl⟩:∃ x,f = x + 1:=⟨f - 1,by omega⟩
    obtain ⟨r1,r2⟩:=hB.rng m hm
    rcases Nat.lt_or_ge m ss.length with e | e
    · have e0:up s.1 (f + 1) (nth s.2 m) = [nth s.2 m]:=by
        obtain ⟨f,rfl⟩:∃ x,f = x + 1:=⟨f - 1,by omega⟩
        simp only [up,if_neg (show ¬ nth s.2 m < 0 by omega)]
        rw [hB.par0 m e];simp [up]
      rw [e0,hd.d0 m e]
      refine ⟨rfl,fun k hk=>by simp at hk,?_,rfl⟩
      show nth s.2 m ∈ ss
      rw [hB.root_at e];exact Xl e
    · obtain ⟨k,q1,q2,q3,q4⟩:=hd.dp m e hm
      obtain ⟨i1,i2,i3,i4⟩:=ih k q1 (by omega) f (by omega)
      have e0:up s.1 (f + 1) (nth s.2 m) = nth s.2 m :: up s.1 f (nth s.2 k):=by
        simp only [up,if_neg (show ¬ nth s.2 m < 0 by omega)];rw [q2]
      rw [e0,List.reverse_cons]
      generalize hu:(up s.1 f (nth s.2 k)).reverse = u at *
      have hul:u.length = d k + 1:=by rw [← hu,List.length_reverse];exact i1
      refine ⟨by simp only [List.length_cons];omega,fun t ht=>?_,?_,?_⟩
      · rw [List.length_append,List.length_singleton] at ht
        rcases Nat.lt_or_ge (t + 1) u.length with c | c
        · rw [Xd c,Xd (by omega)];exact i2 t c
        · have et:t + 1 = u.length:=by omega
          rw [et,Zx,Xd (by omega),show t = d k by omega,i4];exact q4
      · rw [Xd (by omega)];exact i3
      · rw [q3,← hul,Zx]
end Go.Proofs.Ytkjimmkemnmajaa.Vm

