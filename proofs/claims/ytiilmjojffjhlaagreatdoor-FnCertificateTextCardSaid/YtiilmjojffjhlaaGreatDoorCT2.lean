/-
  The program's text of a certificate. Its condition: the table of powers of ten is laid.
-/
import Derived.Test.YtiilmjojffjhlaaGreatDoorCT0
import Derived.Test.YtiilmjojffjhlaaGreatDoorPCb
namespace Go.Proofs.YtiilmjojffjhlaaGreatDoor
open Go.RowKit Go.Deep
set_option linter.unusedVariables false

theorem zasr (w:World) (n:Nat) (h:n ≤ 1000000000) (hp:Pow w) :
    Calls Tryz.prog 44 #[.int .i64 n] w fun e w'=>e = .returned (.string (tx (decN n))) ∧ Gr w w':=by
  refine (Tryz.strconv_Itoa n (by omega) (by omega) w hp).mono ?_
  rintro e w1 ⟨rfl,k,os,rfl⟩
  exact ⟨by rw [itoa_decN];rfl,Lib.below_grow _ w (Nat.le_refl _) k os⟩
def CtAt (w:World) (s:Value) (wr:World) (xs:List Int) (k:Nat):Prop:=Wr (w.alloc (.cells #[s] 34)) wr (Zl xs k)
theorem CtAt.gr {w:World} {s:Value} {wr:World} {xs:List Int} {k:Nat} (h:CtAt w s wr xs k):Gr w wr:=((Gr.refl w).alloc _).trans h.1

set_option maxRecDepth 100000 in
set_option maxHeartbeats 2000000 in
theorem zagp (w : World) (v:Value) (l:List Int) (h:OW w v l) (hm:l.length ≤ maxLen) (hp:Pow w) :
    Calls Tryz.prog 12 #[v] w fun e w'=>e = .returned (.string (tx (certT l))) ∧ Gr w w':=by
  obtain ⟨s1,rfl,h1⟩:=h
  obtain ⟨A,N,c,rfl,h1⟩:=h1
  obtain rfl:N = l.length:=h1.1
  unfold maxLen at hm
  have HP:=Lib.hid hp
  clear hp
  by_cases h4:l.length ≤ 4000
  · have b0 := Box.new (w:=w) (k:=w.heap.size) (t:=34) (cs:=#[.slice A l.length c]) rfl
    go_enter Tryz.func12,Tryz.ntmps12
    go_wp2_with fail
    refine (Wr.write' (Wr.fresh (w.alloc (.cells #[.slice A l.length c] 34))) (b:=w.heap.size + 1) (by simp) ⟨#[114,97,110,107,115]⟩ (by decide)).mono ?_
    rintro e w1 ⟨rfl,hw⟩
    have c0:=(b0.gr hw.1).c
    have HX:=Lib.hid (show CtAt w (.slice A l.length c) w1 l 0 from hw)
    clear hw
    go_wp2_with fail
    go_loopw [5,14] (fun _ i wr=>∃ k:Nat,k ≤ l.length ∧ i = .int .i64 k ∧ NoneTill Zc l k ∧ CtAt w (.slice A l.length c) wr l k) (fun _ i _=>l.length - (intOf i).toNat)
    case atStart=>exact ⟨0,Nat.zero_le _,rfl,NoneTill.zero _ _,HX.out⟩
    case round =>
      obtain ⟨k,hk,rfl,ht,hx⟩:=hrel
      clear c0 HX
      have HX:=Lib.hid hx
      have HT:=Lib.hid ht
      have hlen:=zafm k ht hk
      by_cases hlt:k < l.length
      · obtain ⟨ad,rfl,hc⟩:=h1.2 k hlt
        have hc1:=hx.gr.cell hc
        clear hx ht hc
        by_cases hm1:nth l k = -1
        · have HD:=Lib.hid (show Zl l k ++ [32,45] = Zl l (k + 1) by rw [zacw hlt,rankT,if_pos (by omega)])
          have HN:=Lib.hid (HT.out.succ (by rw [hm1];rfl))
          go_wp2_with fail
          refine (Wr.write' HX.out (b:=w.heap.size + 1) (by simp) ⟨#[32,45]⟩ (by show _ + 2 ≤ _;omega)).mono ?_
          rintro e w2 ⟨rfl,hw2⟩
          have HY:=Lib.hid (show CtAt w (.slice (some ad) l.length c) w2 l (k + 1) by unfold CtAt;rw [← HD.out];exact hw2)
          clear hw2 hc1
          go_wp2_with fail
          exact ⟨⟨k + 1,by omega,by go_num,HN.out,HY.out⟩,by simp [intOf];omega⟩
        · by_cases hi:inR (nth l k) 0 4000 = true
          · have HI:=Lib.hid hi
            obtain ⟨x,hxx⟩:=Int.eq_ofNat_of_zero_le (inR_iff.1 hi).1
            have hx4:x ≤ 4000:=by have:=(inR_iff.1 hi).2;omega
            have HD:=Lib.hid (show Zl l k ++ ([32] ++ decN x) = Zl l (k + 1) by rw [zacw hlt,rankT,if_neg (by omega),hxx];rfl)
            have HN:=Lib.hid (HT.out.succ (by rw [Zc,inR_yes (by omega) (by omega)];rfl))
            have hdl:=zarz 3 x (by omega)
            rw [hxx] at hc1 hm1 HI
            clear hi hxx
            go_wp2_with fail
            refine (in_any _ _ _ _).mono ?_
            rw [HI.out]
            rintro e w2 ⟨rfl,rfl⟩
            go_wp2_with fail
            refine (zasr _ x (by omega) (HP.out.gr HX.out.gr)).mono ?_
            rintro e w2 ⟨rfl,hg2⟩
            have HX2:=Lib.hid (Wr.beside HX.out hg2)
            have hsz:(tx (decN x)).size ≤ 4:=by rw [Ja];omega
            clear hg2 hc1
            go_wp2_with fail
            refine (Wr.write' HX2.out (b:=w.heap.size + 1) (by simp) (tx ([32] ++ decN x)) (by rw [Ja];simp;omega)).mono ?_
            rintro e w3 ⟨rfl,hw3⟩
            have HY:=Lib.hid (show CtAt w (.slice (some ad) l.length c) w3 l (k + 1) by unfold CtAt;rw [← HD.out];exact hw3)
            clear hw3
            go_wp2_with fail
            exact ⟨⟨k + 1,by omega,by go_num,HN.out,HY.out⟩,by simp [intOf];omega⟩
          · have HI:=Lib.hid (show inR (nth l k) 0 4000 = false by simpa using hi)
            have HB:=Lib.hid (zani (zasc (anyB_yes (p:=Zc) hlt (by
              have:=HI.out
              cases e:inR (nth l k) (-1) 4000
              · rw [Zc,e];rfl
              · have e1:=inR_iff.1 e
                rw [inR_yes (by omega) (by omega)] at this;cases this))))
            clear hi
            go_wp2_with fail
            refine (in_any _ _ _ _).mono ?_
            rw [HI.out]
            rintro e w2 ⟨rfl,rfl⟩
            go_wp2_with fail
            go_ret
            exact ⟨by rw [HB.out];rfl,HX.out.gr⟩
      · have HC:=Lib.hid (zalr (certOk_yes h4 (anyB_no ht (by omega))))
        have HA:=Lib.hid (zahy (xs:=l) (k:=k) (by omega))
        clear hx ht
        go_wp2_with fail
        refine (Wr.text' HX.out (b:=w.heap.size + 1) (by simp)).mono ?_
        rintro e w2 ⟨rfl,hg2⟩
        have HG:=Lib.hid (((Gr.refl w).alloc _).trans hg2)
        clear hg2
        go_wp2_with fail
        go_ret
        exact ⟨by rw [HC.out,← HA.out];rfl,HG.out⟩
  · have HC:=Lib.hid (zani (certOk_long h4))
    have G:=Lib.hid ((Gr.refl w).alloc (.cells #[.slice A l.length c] 34))
    go_enter Tryz.func12,Tryz.ntmps12
    go_wp2_with fail
    go_ret
    exact ⟨by rw [HC.out];rfl,G.out⟩
end Go.Proofs.YtiilmjojffjhlaaGreatDoor

