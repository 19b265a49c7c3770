/-
  FindWord, plain: the word that is found is accepted. No conditions.
-/
import Derived.Test.YtkjimmkemnmajaaFW6
import Derived.Test.YtkjimmkemnmajaaSM5
import Derived.Test.YtkjimmkemnmajaaB5
namespace Go.Proofs.Ytkjimmkemnmajaa.Vm
open Go
set_option linter.unusedVariables false
set_option linter.unusedSimpArgs false
set_option maxRecDepth 200000

theorem and_le7 {v m:Int} (h0:0 ≤ m) (h1:m ≤ 7):bitsD .and .i64 v m ≤ 7:=by
  have hm:(BitVec.ofInt 64 m).toNat = m.toNat:=by
    rw [BitVec.toNat_ofInt]
    have:m % ((2 ^ 64:Nat):Int) = m:=Int.emod_eq_of_lt h0 (by omega)
    rw [this]
  have k:(BitVec.ofInt 64 v &&& BitVec.ofInt 64 m).toNat ≤ m.toNat:=by rw [BitVec.toNat_and,hm];exact Nat.and_le_right
  have key:∀ x:BitVec 64,x.toNat ≤ m.toNat → IntKind.i64.wrap (x.toNat:Int) = x.toNat:=fun x hx=>Xj (by omega) (by omega)
  have e:bitsD .and .i64 v m = ((BitVec.ofInt 64 v &&& BitVec.ofInt 64 m).toNat:Int):=key _ k
  rw [e];omega
theorem way_nd {nx:List (List Int)} (hx:Qz nx) {w:List Int} (hw:Way nx w) (h0:Nd nx (nth w 0)):∀ k,k < w.length → Nd nx (nth w k)
  | 0,_=>h0
  | k + 1,h=>Zw hx (way_nd hx hw h0 k (by omega)) (hw k h)
theorem way_edge {n:Nat} {es:List Tr4} (hr:InRng n es) (hE:∀ i,i < es.length → EdgeOk (nth es i) n) {w:List Int} (hw:Way (nxE n es es.length) w) (h0:Nd (nxE n es es.length) (nth w 0)) {k:Nat} (hk:k + 1 < w.length) :
    ∃ e,e ∈ es ∧ e.1 = nth w k ∧ e.2.2.2 = nth w (k + 1) ∧ tk (nth (vals es w) k) e = true ∧ 0 ≤ nth (vals es w) k ∧ nth (vals es w) k ≤ 7:=by
  have hn:=way_nd (Zk hr) hw h0 k (by omega)
  obtain ⟨c1,c2,c3,c4⟩:=firstE_ok hr hn (hw k hk)
  obtain ⟨_,_,_,_,g5,g6,g7,g8⟩:=hE _ c2
  have hv:=nth_vals (es:=es) (p:=w) hk
  have h7:(nth es (Jd es (nth w k) (nth w (k + 1))).toNat).2.2.1 ≤ 7:=by rw [← g8];exact and_le7 g5 g6
  exact ⟨_,Xl c2,c3,c4,by rw [hv,tk,valE];simpa using g8,by rw [hv];exact g7,by rw [hv];exact h7⟩
def runL (W C:List Int) (t:Nat):Int:=if t < W.length - 1 then nth W t else nth C ((t - (W.length - 1)) % (C.length - 1))
theorem runL_run {n:Nat} {es:List Tr4} (hr:InRng n es) (hE:∀ i,i < es.length → EdgeOk (nth es i) n) {W C:List Int} (hW:Way (nxE n es es.length) W) (hC:Way (nxE n es es.length) C) (h1:1 ≤ W.length) (h2:2 ≤ C.length)
    (h0:Nd (nxE n es es.length) (nth W 0)) (e1:nth W (W.length - 1) = nth C 0) (e2:nth C (C.length - 1) = nth C 0):Run es (ltr (vals es W) (vals es C)) (runL W C):=by
  have hC0:Nd (nxE n es es.length) (nth C 0):=by rw [← e1];exact way_nd (Zk hr) hW h0 _ (by omega)
  intro t
  rw [ltr_eq (by rw [Zo];omega),Zo,Zo]
  unfold runL
  by_cases ht:t < W.length - 1
  · rw [if_pos ht,if_pos ht]
    obtain ⟨e,q1,q2,q3,q4,_⟩:=way_edge hr hE hW h0 (k:=t) (by omega)
    refine ⟨e,q1,q2,?_,q4⟩
    by_cases h3:t + 1 < W.length - 1
    · rw [if_pos h3];exact q3
    · rw [if_neg h3,show t + 1 - (W.length - 1) = 0 by omega,Nat.zero_mod,← e1,q3,show t + 1 = W.length - 1 by omega]
  · rw [if_neg ht,if_neg ht,if_neg (show ¬ t + 1 < W.length - 1 by omega),show t + 1 - (W.length - 1) = (t - (W.length - 1)) + 1 by omega,mod_next (by omega)]
    have hj:=Nat.mod_lt (t - (W.length - 1)) (show C.length - 1 > 0 by omega)
    obtain ⟨e,q1,q2,q3,q4,_⟩:=way_edge hr hE hC hC0 (k:=(t - (W.length - 1)) % (C.length - 1)) (by omega)
    refine ⟨e,q1,q2,?_,q4⟩
    split
    · rename_i h;rw [q3,h,e2]
    · exact q3
theorem runL_oft {W C:List Int} (h:2 ≤ C.length):Oft fun t=>runL W C t = nth C 0:=fun N=>by
  refine ⟨(W.length - 1) + N * (C.length - 1),?_,?_⟩
  · have:=Nat.le_mul_of_pos_right N (show 0 < C.length - 1 by omega)
    omega
  · show runL W C ((W.length - 1) + N * (C.length - 1)) = nth C 0
    unfold runL
    rw [if_neg (by omega),Nat.add_sub_cancel_left,Nat.mul_mod_left]
theorem vals_let {n:Nat} {es:List Tr4} (hr:InRng n es) (hE:∀ i,i < es.length → EdgeOk (nth es i) n) {w:List Int} (hw:Way (nxE n es es.length) w) (h0:Nd (nxE n es es.length) (nth w 0)):LetOk (vals es w):=fun i hi=>by
  rw [Zo] at hi
  obtain ⟨e,_,_,_,_,q5,q6⟩:=way_edge hr hE hw h0 (k:=i) (by omega)
  exact ⟨q5,q6⟩
theorem to_way {nx:List (List Int)} (hx:Qz nx) {ss:List Int} (hS:Starts nx.length ss) {m:Nat} (hm:m < (bfsE nx ss).2.length) {w:List Int} (hw:shW nx ss (fun z=>decide (z = nth (bfsE nx ss).2 m)) = w) :
    1 ≤ w.length ∧ w.length ≤ nx.length ∧ Way nx w ∧ nth w 0 ∈ ss ∧ nth w (w.length - 1) = nth (bfsE nx ss).2 m:=by
  have hB:=Zi hx hS
  obtain ⟨d,hd⟩:=bfsE_dp hx hS
  have hle:=hB.le
  obtain ⟨k,k1,k2,k3⟩:=shW_to hx hS hm
  rw [k3] at hw
  obtain ⟨u1,u2,u3,u4⟩:=up_way hB hd k k1 (nx.length + 1) (by omega)
  have u5:=up_len hB k k1 (nx.length + 1)
  subst hw
  rw [List.length_reverse]
  exact ⟨by omega,by omega,u2,u3,by rw [u1,Nat.add_sub_cancel,u4,k2]⟩
theorem arL_way {nx:List (List Int)} (hx:Qz nx) {s:Int} (hs:Nd nx s) (hc:Cyc nx s):1 ≤ (arL nx s).length ∧ (arL nx s).length ≤ nx.length ∧ Way nx (arL nx s ++ [s]) ∧ nth (arL nx s ++ [s]) 0 = s:=by
  have hS:=Starts.one' hs.1 hs.2
  have hn:=(arL_cyc hx hs).2 hc
  by_cases e:s ∈ nth nx s.toNat
  · rw [arL_one e]
    refine ⟨by simp,by have:=hs.2;have:=hs.1;simp;omega,fun k hk=>?_,rfl⟩
    simp at hk
    obtain rfl:k = 0:=by omega
    exact e
  · have hB:=Zi hx hS
    obtain ⟨d,hd⟩:=bfsE_dp hx hS
    have hle:=hB.le
    rw [arL,if_neg e] at hn
    obtain ⟨m,m1,m2,m3⟩:=(shW_ne hx hS).1 hn
    have e1:arL nx s = (up (bfsE nx [s]).1 (nx.length + 1) (nth (bfsE nx [s]).2 m)).reverse:=by rw [arL,if_neg e,shW_at m3 m1 m2]
    obtain ⟨u1,u2,u3,u4⟩:=up_way hB hd m m1 (nx.length + 1) (by omega)
    have u5:=up_len hB m m1 (nx.length + 1)
    rw [arG_no e,decide_eq_true_eq] at m2
    rw [e1]
    have hl:1 ≤ (up (bfsE nx [s]).1 (nx.length + 1) (nth (bfsE nx [s]).2 m)).reverse.length:=by rw [List.length_reverse];omega
    refine ⟨hl,by rw [List.length_reverse];omega,Way.snoc u2 hl (by rw [List.length_reverse,u1,Nat.add_sub_cancel,u4];exact m2),?_⟩
    rw [Xd (by omega)]
    simpa using u3
theorem fw_ok {a:List Int} {b:List Bool} {c:List Tr4} (hA:AutOk a b.length c) (h:0 ≤ fwI (nxE b.length c c.length) b a) :
    LasOk (fwS c (nxE b.length c c.length) b a) (fwL c (nxE b.length c c.length) b a) ∧ SAcc b a c (ltr (fwS c (nxE b.length c c.length) b a) (fwL c (nxE b.length c c.length) b a)):=by
  have hr:=hA.rng
  have hx:=Zk hr
  have hn:=Xr b.length c c.length (Nat.le_refl _)
  have hS:Starts (nxE b.length c c.length).length a:=by rw [hn];exact hA.starts (Nat.le_refl _)
  have hB:=Zi hx hS
  have hE:=hA.2.2.2.2
  have h64:=hA.2.1
  unfold fwS fwL
  rw [if_neg (by omega),if_neg (by omega)]
  have h':=h
  unfold fwI findI at h'
  split at h'
  · rename_i m hm
    rw [List.findIdx?_eq_some_iff_getElem] at hm
    obtain ⟨q1,q2,q3⟩:=hm
    obtain ⟨e1,e2⟩:=fwI_at (acc:=b) q1 (fun j hj=>by
      have:=q3 j hj
      dsimp only
      rw [Qm (by omega)];simpa using this) (by rw [Qm q1];exact q2)
    rw [← Qm q1] at q2
    rw [e2]
    simp only [fwG,Bool.and_eq_true,B_iff] at q2
    obtain ⟨w1,w2,w3,w4,w5⟩:=to_way hx hS q1 rfl
    obtain ⟨r1,r2,r3,r4⟩:=arL_way hx (hB.rng m q1) q2.2
    have hw0:Nd (nxE b.length c c.length) (nth (shW (nxE b.length c c.length) a (fun z=>decide (z = nth (bfsE (nxE b.length c c.length) a).2 m))) 0):=hS.1 _ w4
    have hl2:(arL (nxE b.length c c.length) (nth (bfsE (nxE b.length c c.length) a).2 m) ++ [nth (bfsE (nxE b.length c c.length) a).2 m]).length = (arL (nxE b.length c c.length) (nth (bfsE (nxE b.length c c.length) a).2 m)).length + 1:=by simp
    refine ⟨⟨vals_let hr hE w3 hw0,vals_let hr hE r3 (by rw [r4];exact hB.rng m q1),by rw [Zo];omega,by rw [Zo];omega,by rw [Zo];omega⟩,?_⟩
    refine ⟨runL _ _,?_,runL_run hr hE w3 r3 w1 (by omega) hw0 (by rw [w5,r4]) (by rw [hl2,Nat.add_sub_cancel,Zx,r4]),(runL_oft (W:=shW (nxE b.length c c.length) a (fun z=>decide (z = nth (bfsE (nxE b.length c c.length) a).2 m))) (C:=arL (nxE b.length c c.length) (nth (bfsE (nxE b.length c c.length) a).2 m) ++ [nth (bfsE (nxE b.length c c.length) a).2 m]) (by omega)).mono fun t ht=>by rw [ht,r4];exact q2.1⟩
    unfold runL
    split
    · exact w4
    · rw [Nat.zero_sub,Nat.zero_mod,r4,← w5,show (shW (nxE b.length c c.length) a (fun z=>decide (z = nth (bfsE (nxE b.length c c.length) a).2 m))).length - 1 = 0 by omega];exact w4
  · omega
end Go.Proofs.Ytkjimmkemnmajaa.Vm

