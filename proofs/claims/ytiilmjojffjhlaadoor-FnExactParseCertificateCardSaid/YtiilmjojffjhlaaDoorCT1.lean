/-
  The text of a certificate, both ways. No conditions but that the slices can be read and, for the program's, that the table of powers of ten is laid.
-/
import Derived.Test.YtiilmjojffjhlaaDoorText
import Derived.Test.YtiilmjojffjhlaaDoorCert
import Derived.Test.YtiilmjojffjhlaaDoorCert
import Derived.Lib.AppendIntMem
namespace Go.Proofs.YtiilmjojffjhlaaDoor
open Go.RowKit Go.Deep
set_option linter.unusedVariables false

structure IRw (w:World) (A:Option Addr) (N c:Nat) (xs:List Int):Prop where
  len:N = xs.length
  cells:∀ k,k < N → ∃ ad,A = some ad ∧ w.cell? (ad.add k) = some (.int .i64 (nth xs k))
def IW (w:World) (v:Value) (xs:List Int):Prop:=∃ A N c,v = .slice A N c ∧ IRw w A N c xs
theorem IRw.gr {w w':World} {A:Option Addr} {N c:Nat} {xs:List Int} (h:IRw w A N c xs) (g:Gr w w'):IRw w' A N c xs :=
  ⟨h.1,fun k hlt=>by obtain ⟨ad,ha,hc⟩:=h.2 k hlt;exact ⟨ad,ha,g.cell hc⟩⟩
theorem IW.gr {w w':World} {v:Value} {xs:List Int} (h:IW w v xs) (g:Gr w w'):IW w' v xs:=by
  obtain ⟨A,N,c,rfl,h⟩:=h;exact ⟨A,N,c,rfl,h.gr g⟩
def OW (w:World) (v:Value) (l:List Int):Prop:=∃ s1,v = .agg #[s1] ∧ IW w s1 l
theorem OW.gr {w w':World} {v:Value} {l:List Int} (h:OW w v l) (g:Gr w w'):OW w' v l:=by
  obtain ⟨s1,rfl,h⟩:=h;exact ⟨s1,rfl,h.gr g⟩
theorem decDigits_decN (k:Nat):Lib.decDigits k = decN k:=by
  induction k using Nat.strongRecOn with
  | _ k ih =>
    by_cases h:k < 10
    · rw [Xy (by omega),Lib.decDigits,dif_pos h];simp [digB]
    · rw [Zj (by omega),Lib.decDigits,dif_neg h,ih _ (by omega)];simp [digB];congr 1
theorem itoa_decN {n:Nat}:Lib.itoa (n:Int) = decN n:=by
  unfold Lib.itoa;rw [if_neg (by omega),decDigits_decN];rfl
def Pow (w:World):Prop:=Lib.TabIs Tryd.prog w "internal/strconv.uint64pow10" .u64 Lib.pow10Tab
theorem Pow.gr {w w':World} (h:Pow w) (g:Gr w w'):Pow w':=Lib.tabBelow_of_tabIs h w' g

theorem zadu (k:Nat):∀ n:Nat,n < 10 ^ (k + 1) → (decN n).length ≤ k + 1:=by
  induction k with
  | zero=>intro n h;rw [Xy (by omega)];simp
  | succ k ih =>
    intro n h
    by_cases h9:n ≤ 9
    · rw [Xy h9];simp
    · rw [Zj (by omega)]
      have:=ih (n / 10) (by rw [Nat.pow_succ] at h;omega)
      simp;omega
def rankT (n:Int):List UInt8:=if n < 0 then [32,45] else 32 :: decN n.toNat
def ranks (xs:List Int):List UInt8:=[114,97,110,107,115] ++ xs.flatMap rankT
def Qx (xs:List Int) (k:Nat):List UInt8:=ranks (xs.take k)
theorem ranksTill_zero (xs:List Int):Qx xs 0 = [114,97,110,107,115]:=rfl
theorem zaae {xs:List Int} {k:Nat} (hk:k < xs.length):Qx xs (k + 1) = Qx xs k ++ rankT (nth xs k):=by
  show _ ++ (xs.take (k + 1)).flatMap rankT = (_ ++ (xs.take k).flatMap rankT) ++ rankT (nth xs k)
  rw [List.take_succ_eq_append_getElem hk,Qs hk,List.flatMap_append,List.append_assoc]
  simp only [List.flatMap_cons,List.flatMap_nil,List.append_nil]
theorem zacp {xs:List Int} {k:Nat} (hk:xs.length ≤ k):Qx xs k = ranks xs:=by rw [Qx,List.take_of_length_le hk]
def Qt (n:Int):Bool:=!inR n (-1) 4000
theorem zacs {n:Int} (h:Qt n = false):-1 ≤ n ∧ n ≤ 4000:=by
  have:inR n (-1) 4000 = true:=by simpa [Qt] using h
  exact inR_iff.1 this
theorem rankT_len {n:Int} (h:Qt n = false):(rankT n).length ≤ 5:=by
  have:=zacs h
  unfold rankT
  split
  · simp
  · have:=zadu 3 n.toNat (by omega)
    simp;omega
theorem zabf {xs:List Int}:∀ k,NoneTill Qt xs k → k ≤ xs.length → (Qx xs k).length ≤ 5 + 5 * k
  | 0,_,_=>by simp [ranksTill_zero]
  | k + 1,h,hk=>by
    rw [zaae (by omega),List.length_append]
    have:=zabf k (fun i hi=>h i (by omega)) (by omega)
    have:=rankT_len (h k (by omega))
    omega
def Qu (xs:List Int):Bool:=decide (xs.length ≤ 4000) && !anyB Qt xs
def certT (xs:List Int):List UInt8:=if Qu xs then ranks xs else []
theorem certOk_long {xs:List Int} (h:¬ xs.length ≤ 4000):Qu xs = false:=by simp [Qu,h]
theorem zadv {xs:List Int} (h:anyB Qt xs = true):Qu xs = false:=by simp [Qu,h]
theorem certOk_yes {xs:List Int} (h:xs.length ≤ 4000) (h2:anyB Qt xs = false):Qu xs = true:=by simp [Qu,h,h2]
theorem certOk_end {xs:List Int} (h2:anyB Qt xs = false):Qu xs = decide ((xs.length:Int) ≤ 4000):=by
  simp [Qu,h2];omega
theorem certOk_len {xs:List Int} (h:Qu xs = true):xs.length ≤ 4000:=by simp [Qu] at h;exact h.1
theorem zack {xs:List Int} (h:Qu xs = true):NoneTill Qt xs xs.length:=fun i hi=>by
  have h2:anyB Qt xs = false:=by simp [Qu] at h;exact h.2
  rw [anyB,List.any_eq_false] at h2
  have:=h2 xs[i] (List.getElem_mem hi)
  rw [Qs hi];simpa using this
theorem certT_no {xs:List Int} (h:Qu xs = false):certT xs = []:=by simp [certT,h]
theorem certT_yes {xs:List Int} (h:Qu xs = true):certT xs = ranks xs:=by simp [certT,h]

set_option maxHeartbeats 400000 in
theorem l9Valid_any (w:World) (v:Value) (l:List Int) (h:OW w v l) (hm:l.length ≤ maxLen) :
    Calls Tryd.prog 18 #[v] w fun e w'=>e = .returned (.bool (Qu l)) ∧ Gr w w':=by
  obtain ⟨s1,rfl,h1⟩:=h
  obtain ⟨A,N,c,rfl,h1⟩:=h1
  obtain rfl:N = l.length:=h1.1
  unfold maxLen at hm
  have G0:=Lib.hid ((Gr.refl w).alloc (.cells #[.slice A l.length c] 24))
  go_enter Tryd.func18,Tryd.ntmps18
  go_wp2_with fail
  go_loop [3] (fun i=>∃ (k:Nat),k ≤ l.length ∧ i = .int .i64 k ∧ NoneTill Qt l k) (fun i=>l.length - (intOf i).toNat)
  case atStart=>exact ⟨0,Nat.zero_le _,rfl,NoneTill.zero _ _⟩
  case round =>
    obtain ⟨k,hk,rfl,ht⟩:=hrel
    by_cases hlt:k < l.length
    · obtain ⟨ad,rfl,hc⟩:=h1.2 k hlt
      have hc1:=G0.out.cell hc
      by_cases ha:nth l k < -1
      · have HB:=Lib.hid (zadv (anyB_yes (p:=Qt) hlt (by rw [Qt,inR_lo ha];rfl)))
        go_wp2_with fail
        go_ret
        exact ⟨by rw [HB.out];rfl,G0.out⟩
      · by_cases hb:4000 < nth l k
        · have HB:=Lib.hid (zadv (anyB_yes (p:=Qt) hlt (by rw [Qt,inR_hi hb];rfl)))
          go_wp2_with fail
          go_ret
          exact ⟨by rw [HB.out];rfl,G0.out⟩
        · have HB:=Lib.hid (ht.succ (by rw [Qt,inR_yes (by omega) (by omega)];rfl))
          go_wp2_with fail
          exact ⟨⟨k + 1,by omega,by go_num,HB.out⟩,by simp [intOf];omega⟩
    · have HC:=Lib.hid (certOk_end (anyB_no ht (by omega)))
      go_wp2_with fail
      go_ret
      exact ⟨by rw [HC.out];rfl,G0.out⟩

set_option maxHeartbeats 1000000 in
theorem zaaw (w:World) (v:Value) (l:List Int) (h:OW w v l) (hm:l.length ≤ maxLen) :
    Calls Tryd.prog 11 #[v] w fun e w'=>e = .returned (.string (tx (certT l))) ∧ Gr w w':=by
  have h0:=h
  obtain ⟨s1,rfl,h1⟩:=h
  obtain ⟨A,N,c,rfl,h1⟩:=h1
  obtain rfl:N = l.length:=h1.1
  go_enter Tryd.func11,Tryd.ntmps11
  go_wp2_with fail
  refine (l9Valid_any _ _ l (h0.gr ((Gr.refl w).alloc _)) hm).mono ?_
  rintro e w1 ⟨rfl,hg⟩
  have b0:=(Box.new (w:=w) (k:=w.heap.size) (t:=24) (cs:=#[.slice A l.length c]) rfl).gr hg
  have G:=Lib.hid (((Gr.refl w).alloc _).trans hg)
  clear hg h0
  have c0:=b0.c
  cases hv:Qu l
  · have HV:=Lib.hid (certT_no hv)
    clear hv
    go_wp2_with fail
    go_ret
    exact ⟨by rw [HV.out];rfl,G.out⟩
  · have HV:=Lib.hid (certT_yes hv)
    have hl4:=certOk_len hv
    have HN:=Lib.hid (zack hv)
    clear hv
    go_wp2_with fail
    go_loopw [3,4] (fun s i wr=>∃ k:Nat,k ≤ l.length ∧ i = .int .i64 k ∧ s = .string (tx (Qx l k)) ∧ Gr w1 wr) (fun _ i _=>l.length - (intOf i).toNat)
    case atStart=>exact ⟨0,Nat.zero_le _,rfl,rfl,Gr.refl _⟩
    case round =>
      obtain ⟨k,hk,rfl,rfl,hg⟩:=hrel
      have c1:=(b0.gr hg).c
      clear c0
      by_cases hlt:k < l.length
      · obtain ⟨ad,rfl,hc⟩:=h1.2 k hlt
        have hc1:=(G.out.trans hg).cell hc
        clear hc
        have hn:=zacs (HN.out k hlt)
        have hkl:(tx (Qx l k)).size ≤ 20005:=by rw [Xl];have:=zabf k (fun i hi=>HN.out i (by omega)) hk;omega
        by_cases ha:nth l k < 0
        · have HD:=Lib.hid (show tx (Qx l k) ++ tx [32,45] = tx (Qx l (k + 1)) by rw [tx_add,zaae hlt,rankT,if_pos ha])
          have hl2:(tx [32,45]).size = 2:=rfl
          go_wp2_with fail
          exact ⟨⟨k + 1,by omega,by go_num,by rw [← HD.out];rfl,hg⟩,by simp [intOf];omega⟩
        · obtain ⟨x,hx⟩:=Int.eq_ofNat_of_zero_le (by omega:0 ≤ nth l k)
          have HD:=Lib.hid (show tx (Qx l k) ++ tx [32] ++ tx (decN x) = tx (Qx l (k + 1)) by rw [tx_add,tx_add,zaae hlt,rankT,if_neg ha,hx,List.append_assoc];rfl)
          have hl2:(tx (decN x)).size ≤ 5:=by rw [Xl];have:=zadu 3 x (by omega);omega
          have hl3:(tx (Qx l k) ++ tx [32]).size ≤ 20006:=by rw [tx_add,Xl] ; rw [Xl] at hkl;simp;omega
          have hx4:x ≤ 4000:=by omega
          rw [hx] at hc1 ha hn
          clear hx
          go_wp2_with fail
          refine (l16Dec_any _ x (by omega)).mono ?_
          rintro e w2 ⟨rfl,hg2⟩
          have HG:=Lib.hid (hg.trans hg2)
          clear hg hg2 hc1 c1
          go_wp2_with fail
          exact ⟨⟨k + 1,by omega,by go_num,by rw [← HD.out];rfl,HG.out⟩,by simp [intOf];omega⟩
      · have HA:=Lib.hid (zacp (xs:=l) (k:=k) (by omega))
        go_wp2_with fail
        go_ret
        exact ⟨by rw [HV.out,← HA.out];rfl,G.out.trans hg⟩
end Go.Proofs.YtiilmjojffjhlaaDoor

