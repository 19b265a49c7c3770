import Derived.Test.YtiilmjojffjhlaaGreatDoorText
import Derived.Lib.AppendIntMem
import Derived.Lib.Split
import Derived.Lib.AtoiTie
/-
  The text of a certificate, both ways. No conditions but that the slices can be read and, for the program's, that the table of powers of ten is laid.
-/
namespace Go.Proofs.YtiilmjojffjhlaaGreatDoor
open Go.RowKit Go.Deep
set_option linter.unusedVariables false

structure IRw (w:World) (A:Option Addr) (N c:Nat) (xs:List Int):Prop where
  len:N = xs.length
  cells:∀ k,k < N → ∃ ad,A = some ad ∧ w.cell? (ad.add k) = some (.int .i64 (nth xs k))
def IW (w:World) (v:Value) (xs:List Int):Prop:=∃ A N c,v = .slice A N c ∧ IRw w A N c xs
theorem IRw.gr {w w':World} {A:Option Addr} {N c:Nat} {xs:List Int} (h:IRw w A N c xs) (g:Gr w w'):IRw w' A N c xs :=
  ⟨h.1,fun k hlt=>by obtain ⟨ad,ha,hc⟩:=h.2 k hlt;exact ⟨ad,ha,g.cell hc⟩⟩
theorem IW.gr {w w':World} {v:Value} {xs:List Int} (h:IW w v xs) (g:Gr w w'):IW w' v xs:=by
  obtain ⟨A,N,c,rfl,h⟩:=h;exact ⟨A,N,c,rfl,h.gr g⟩
def OW (w:World) (v:Value) (l:List Int):Prop:=∃ s1,v = .agg #[s1] ∧ IW w s1 l
theorem OW.gr {w w':World} {v:Value} {l:List Int} (h:OW w v l) (g:Gr w w'):OW w' v l:=by
  obtain ⟨s1,rfl,h⟩:=h;exact ⟨s1,rfl,h.gr g⟩
theorem decDigits_decN (k:Nat):Lib.decDigits k = decN k:=by
  induction k using Nat.strongRecOn with
  | _ k ih =>
    by_cases h:k < 10
    · rw [Vz (by omega),Lib.decDigits,dif_pos h];simp [digB]
    · rw [Yq (by omega),Lib.decDigits,dif_neg h,ih _ (by omega)];simp [digB];congr 1
theorem itoa_decN {n:Nat}:Lib.itoa (n:Int) = decN n:=by
  unfold Lib.itoa;rw [if_neg (by omega),decDigits_decN];rfl
def Pow (w:World):Prop:=Lib.TabIs Tryz.prog w "internal/strconv.uint64pow10" .u64 Lib.pow10Tab
theorem Pow.gr {w w':World} (h:Pow w) (g:Gr w w'):Pow w':=Lib.tabBelow_of_tabIs h w' g

theorem zarz (k:Nat):∀ n:Nat,n < 10 ^ (k + 1) → (decN n).length ≤ k + 1:=by
  induction k with
  | zero=>intro n h;rw [Vz (by omega)];simp
  | succ k ih =>
    intro n h
    by_cases h9:n ≤ 9
    · rw [Vz h9];simp
    · rw [Yq (by omega)]
      have:=ih (n / 10) (by rw [Nat.pow_succ] at h;omega)
      simp;omega
def rankT (n:Int):List UInt8:=if n < 0 then [32,45] else 32 :: decN n.toNat
def ranks (xs:List Int):List UInt8:=[114,97,110,107,115] ++ xs.flatMap rankT
def Zl (xs:List Int) (k:Nat):List UInt8:=ranks (xs.take k)
theorem ranksTill_zero (xs:List Int):Zl xs 0 = [114,97,110,107,115]:=rfl
theorem zacw {xs:List Int} {k:Nat} (hk:k < xs.length):Zl xs (k + 1) = Zl xs k ++ rankT (nth xs k):=by
  show _ ++ (xs.take (k + 1)).flatMap rankT = (_ ++ (xs.take k).flatMap rankT) ++ rankT (nth xs k)
  rw [List.take_succ_eq_append_getElem hk,Xc hk,List.flatMap_append,List.append_assoc]
  simp only [List.flatMap_cons,List.flatMap_nil,List.append_nil]
theorem zahy {xs:List Int} {k:Nat} (hk:xs.length ≤ k):Zl xs k = ranks xs:=by rw [Zl,List.take_of_length_le hk]
def Zc (n:Int):Bool:=!inR n (-1) 4000
theorem zaoo {n:Int} (h:Zc n = false):-1 ≤ n ∧ n ≤ 4000:=by
  have:inR n (-1) 4000 = true:=by simpa [Zc] using h
  exact inR_iff.1 this
theorem rankT_len {n:Int} (h:Zc n = false):(rankT n).length ≤ 5:=by
  have:=zaoo h
  unfold rankT
  split
  · simp
  · have:=zarz 3 n.toNat (by omega)
    simp;omega
theorem zafm {xs:List Int}:∀ k,NoneTill Zc xs k → k ≤ xs.length → (Zl xs k).length ≤ 5 + 5 * k
  | 0,_,_=>by simp [ranksTill_zero]
  | k + 1,h,hk=>by
    rw [zacw (by omega),List.length_append]
    have:=zafm k (fun i hi=>h i (by omega)) (by omega)
    have:=rankT_len (h k (by omega))
    omega
def Za (xs:List Int):Bool:=decide (xs.length ≤ 4000) && !anyB Zc xs
def certT (xs:List Int):List UInt8:=if Za xs then ranks xs else []
theorem certOk_long {xs:List Int} (h:¬ xs.length ≤ 4000):Za xs = false:=by simp [Za,h]
theorem zasc {xs:List Int} (h:anyB Zc xs = true):Za xs = false:=by simp [Za,h]
theorem certOk_yes {xs:List Int} (h:xs.length ≤ 4000) (h2:anyB Zc xs = false):Za xs = true:=by simp [Za,h,h2]
theorem certOk_end {xs:List Int} (h2:anyB Zc xs = false):Za xs = decide ((xs.length:Int) ≤ 4000):=by
  simp [Za,h2];omega
theorem zasb {xs:List Int} (h:Za xs = true):xs.length ≤ 4000:=by simp [Za] at h;exact h.1
theorem zaji {xs:List Int} (h:Za xs = true):NoneTill Zc xs xs.length:=fun i hi=>by
  have h2:anyB Zc xs = false:=by simp [Za] at h;exact h.2
  rw [anyB,List.any_eq_false] at h2
  have:=h2 xs[i] (List.getElem_mem hi)
  rw [Xc hi];simpa using this
theorem zani {xs:List Int} (h:Za xs = false):certT xs = []:=by simp [certT,h]
theorem zalr {xs:List Int} (h:Za xs = true):certT xs = ranks xs:=by simp [certT,h]

set_option maxHeartbeats 400000 in
theorem l9Valid_any (w:World) (v:Value) (l:List Int) (h:OW w v l) (hm:l.length ≤ maxLen) :
    Calls Tryz.prog 46 #[v] w fun e w'=>e = .returned (.bool (Za l)) ∧ Gr w w':=by
  obtain ⟨s1,rfl,h1⟩:=h
  obtain ⟨A,N,c,rfl,h1⟩:=h1
  obtain rfl:N = l.length:=h1.1
  unfold maxLen at hm
  have G0:=Lib.hid ((Gr.refl w).alloc (.cells #[.slice A l.length c] 34))
  go_enter Tryz.func46,Tryz.ntmps46
  go_wp2_with fail
  go_loop [3] (fun i=>∃ (k:Nat),k ≤ l.length ∧ i = .int .i64 k ∧ NoneTill Zc l k) (fun i=>l.length - (intOf i).toNat)
  case atStart=>exact ⟨0,Nat.zero_le _,rfl,NoneTill.zero _ _⟩
  case round =>
    obtain ⟨k,hk,rfl,ht⟩:=hrel
    by_cases hlt:k < l.length
    · obtain ⟨ad,rfl,hc⟩:=h1.2 k hlt
      have hc1:=G0.out.cell hc
      by_cases ha:nth l k < -1
      · have HB:=Lib.hid (zasc (anyB_yes (p:=Zc) hlt (by rw [Zc,inR_lo ha];rfl)))
        go_wp2_with fail
        go_ret
        exact ⟨by rw [HB.out];rfl,G0.out⟩
      · by_cases hb:4000 < nth l k
        · have HB:=Lib.hid (zasc (anyB_yes (p:=Zc) hlt (by rw [Zc,inR_hi hb];rfl)))
          go_wp2_with fail
          go_ret
          exact ⟨by rw [HB.out];rfl,G0.out⟩
        · have HB:=Lib.hid (ht.succ (by rw [Zc,inR_yes (by omega) (by omega)];rfl))
          go_wp2_with fail
          exact ⟨⟨k + 1,by omega,by go_num,HB.out⟩,by simp [intOf];omega⟩
    · have HC:=Lib.hid (certOk_end (anyB_no ht (by omega)))
      go_wp2_with fail
      go_ret
      exact ⟨by rw [HC.out];rfl,G0.out⟩

set_option maxHeartbeats 1000000 in
theorem zafz (w:World) (v:Value) (l:List Int) (h:OW w v l) (hm:l.length ≤ maxLen) :
    Calls Tryz.prog 14 #[v] w fun e w'=>e = .returned (.string (tx (certT l))) ∧ Gr w w':=by
  have h0:=h
  obtain ⟨s1,rfl,h1⟩:=h
  obtain ⟨A,N,c,rfl,h1⟩:=h1
  obtain rfl:N = l.length:=h1.1
  go_enter Tryz.func14,Tryz.ntmps14
  go_wp2_with fail
  refine (l9Valid_any _ _ l (h0.gr ((Gr.refl w).alloc _)) hm).mono ?_
  rintro e w1 ⟨rfl,hg⟩
  have b0:=(Box.new (w:=w) (k:=w.heap.size) (t:=34) (cs:=#[.slice A l.length c]) rfl).gr hg
  have G:=Lib.hid (((Gr.refl w).alloc _).trans hg)
  clear hg h0
  have c0:=b0.c
  cases hv:Za l
  · have HV:=Lib.hid (zani hv)
    clear hv
    go_wp2_with fail
    go_ret
    exact ⟨by rw [HV.out];rfl,G.out⟩
  · have HV:=Lib.hid (zalr hv)
    have hl4:=zasb hv
    have HN:=Lib.hid (zaji hv)
    clear hv
    go_wp2_with fail
    go_loopw [3,4] (fun s i wr=>∃ k:Nat,k ≤ l.length ∧ i = .int .i64 k ∧ s = .string (tx (Zl l k)) ∧ Gr w1 wr) (fun _ i _=>l.length - (intOf i).toNat)
    case atStart=>exact ⟨0,Nat.zero_le _,rfl,rfl,Gr.refl _⟩
    case round =>
      obtain ⟨k,hk,rfl,rfl,hg⟩:=hrel
      have c1:=(b0.gr hg).c
      clear c0
      by_cases hlt:k < l.length
      · obtain ⟨ad,rfl,hc⟩:=h1.2 k hlt
        have hc1:=(G.out.trans hg).cell hc
        clear hc
        have hn:=zaoo (HN.out k hlt)
        have hkl:(tx (Zl l k)).size ≤ 20005:=by rw [Ja];have:=zafm k (fun i hi=>HN.out i (by omega)) hk;omega
        by_cases ha:nth l k < 0
        · have HD:=Lib.hid (show tx (Zl l k) ++ tx [32,45] = tx (Zl l (k + 1)) by rw [tx_add,zacw hlt,rankT,if_pos ha])
          have hl2:(tx [32,45]).size = 2:=rfl
          go_wp2_with fail
          exact ⟨⟨k + 1,by omega,by go_num,by rw [← HD.out];rfl,hg⟩,by simp [intOf];omega⟩
        · obtain ⟨x,hx⟩:=Int.eq_ofNat_of_zero_le (by omega:0 ≤ nth l k)
          have HD:=Lib.hid (show tx (Zl l k) ++ tx [32] ++ tx (decN x) = tx (Zl l (k + 1)) by rw [tx_add,tx_add,zacw hlt,rankT,if_neg ha,hx,List.append_assoc];rfl)
          have hl2:(tx (decN x)).size ≤ 5:=by rw [Ja];have:=zarz 3 x (by omega);omega
          have hl3:(tx (Zl l k) ++ tx [32]).size ≤ 20006:=by rw [tx_add,Ja] ; rw [Ja] at hkl;simp;omega
          have hx4:x ≤ 4000:=by omega
          rw [hx] at hc1 ha hn
          clear hx
          go_wp2_with fail
          refine (l16Dec_any _ x (by omega)).mono ?_
          rintro e w2 ⟨rfl,hg2⟩
          have HG:=Lib.hid (hg.trans hg2)
          clear hg hg2 hc1 c1
          go_wp2_with fail
          exact ⟨⟨k + 1,by omega,by go_num,by rw [← HD.out];rfl,HG.out⟩,by simp [intOf];omega⟩
      · have HA:=Lib.hid (zahy (xs:=l) (k:=k) (by omega))
        go_wp2_with fail
        go_ret
        exact ⟨by rw [HV.out,← HA.out];rfl,G.out.trans hg⟩
end Go.Proofs.YtiilmjojffjhlaaGreatDoor

/-
  Decimal digits tell the number. Plain lemmas; no conditions.
-/
namespace Go.Proofs.YtiilmjojffjhlaaGreatDoor
open Go.RowKit Go.Deep
set_option linter.unusedVariables false

theorem zang (k:Nat) (h:k ≤ 9):(digB (k:Int)).toNat = 48 + k:=by
  unfold digB;simp [UInt8.toNat_ofNat];omega
theorem zair (n:Nat):∀ b ∈ decN n,48 ≤ b.toNat ∧ b.toNat ≤ 57:=by
  induction n using Nat.strongRecOn with
  | _ n ih =>
    intro b hb
    by_cases h:n ≤ 9
    · rw [Vz h] at hb
      obtain rfl:b = digB n:=by simpa using hb
      rw [zang n h];omega
    · rw [Yq (by omega),List.mem_append] at hb
      rcases hb with hb | hb
      · exact ih (n / 10) (by omega) b hb
      · obtain rfl:b = digB (n % 10:Nat):=by simpa using hb
        rw [zang (n % 10) (by omega)];omega
theorem decN_no {n:Nat} {c:UInt8} (h:c.toNat < 48):c ∉ decN n:=fun k=>by have:=zair n c k;omega
end Go.Proofs.YtiilmjojffjhlaaGreatDoor

/-
  A text cut at blanks; decimal digits read. Plain lemmas; no conditions.
-/
namespace Go.Proofs.YtiilmjojffjhlaaGreatDoor
open Go.RowKit Go.Deep
set_option linter.unusedVariables false

def pcs (c:UInt8):List UInt8 → List UInt8 → List (List UInt8)
  | [],acc=>[acc]
  | b :: l,acc=>if b = c then acc :: pcs c l [] else pcs c l (acc ++ [b])
theorem pcs_no {c:UInt8}:∀ {l:List UInt8},c ∉ l → ∀ acc,pcs c l acc = [acc ++ l]
  | [],_,acc=>by simp [pcs]
  | b :: l,h,acc=>by
    have hb:¬ b = c:=fun e=>h (by rw [e];exact List.mem_cons_self ..)
    rw [pcs,if_neg hb,pcs_no (fun k=>h (List.mem_cons_of_mem _ k))]
    simp
theorem pcs_at {c:UInt8}:∀ {a:List UInt8},c ∉ a → ∀ (r acc:List UInt8),pcs c (a ++ c :: r) acc = (acc ++ a) :: pcs c r []
  | [],_,r,acc=>by simp [pcs]
  | b :: a,h,r,acc=>by
    have hb:¬ b = c:=fun e=>h (by rw [e];exact List.mem_cons_self ..)
    rw [List.cons_append,pcs,if_neg hb,pcs_at (fun k=>h (List.mem_cons_of_mem _ k))]
    simp
theorem pcs_pos (c:UInt8):∀ (l acc:List UInt8),1 ≤ (pcs c l acc).length
  | [],acc=>by simp [pcs]
  | b :: l,acc=>by
    rw [pcs]
    split
    · simp
    · exact pcs_pos c l _
theorem index_no {c:UInt8}:∀ {l:List UInt8},c ∉ l → Lib.index l [c] = -1
  | [],_=>rfl
  | b :: l,h=>by
    have hb:¬ c = b:=fun e=>h (by rw [e];exact List.mem_cons_self ..)
    have ih:=index_no (c:=c) (l:=l) fun k=>h (List.mem_cons_of_mem _ k)
    have hp:([c]:List UInt8).isPrefixOf (b :: l) = false:=by show (c == b && _) = false;rw [beq_eq_false_iff_ne.2 hb];rfl
    rw [Lib.index,hp,ih];rfl
theorem index_at {c:UInt8}:∀ {a:List UInt8},c ∉ a → ∀ r:List UInt8,Lib.index (a ++ c :: r) [c] = (a.length:Int)
  | [],_,r=>by
    have hp:([c]:List UInt8).isPrefixOf (c :: r) = true:=by simp
    show Lib.index (c :: r) [c] = 0
    rw [Lib.index,hp];rfl
  | b :: a,h,r=>by
    have hb:¬ c = b:=fun e=>h (by rw [e];exact List.mem_cons_self ..)
    have ih:=index_at (c:=c) (a:=a) (fun k=>h (List.mem_cons_of_mem _ k)) r
    have hp:([c]:List UInt8).isPrefixOf (b :: (a ++ c :: r)) = false:=by show (c == b && _) = false;rw [beq_eq_false_iff_ne.2 hb];rfl
    rw [List.cons_append,Lib.index,hp,ih,List.length_cons]
    have hn:((a.length:Int) == -1) = false:=Bool.eq_false_iff.2 fun k=>by have:=beq_iff_eq.1 k;omega
    rw [hn]
    simp
theorem split_pcs (c:UInt8):∀ (n:Nat) (l:List UInt8),l.length ≤ n → Lib.splitK [c] 0 (Lib.count l [c]) l = pcs c l []:=by
  intro n
  induction n with
  | zero =>
    intro l hl
    obtain rfl:l = []:=List.length_eq_zero_iff.1 (by omega)
    rw [Lib.count_miss (index_no (by simp))]
    rfl
  | succ n ih =>
    intro l hl
    by_cases hc:c ∈ l
    · obtain ⟨a,r,rfl,ha⟩:=List.append_of_mem hc |>.elim fun s h=>h.elim fun t e=>(List.eq_append_cons_of_mem hc)
      have hi:=index_at ha r
      have hd:(a ++ c :: r).drop (a.length + 1) = r:=by simp
      rw [Lib.count_hit (by simp) hi,Nat.add_comm,Lib.splitK]
      have hn:((Lib.index (a ++ c :: r) [c]) == -1) = false:=by rw [hi];exact Bool.eq_false_iff.2 fun k=>by have:=beq_iff_eq.1 k;omega
      rw [hn]
      simp only [Bool.false_eq_true,if_false,hi,Int.toNat_natCast,List.length_cons,List.length_nil,Nat.zero_add,Nat.add_zero]
      rw [hd,ih r (by simp at hl;omega),pcs_at ha]
      simp
    · rw [Lib.count_miss (index_no hc),pcs_no hc]
      rfl

theorem digit_of (k:Nat) (h:k ≤ 9):Lib.digitVal (digB (k:Int)) = some k:=by
  have:=zang k h
  unfold Lib.digitVal
  simp [this]
  omega
theorem decFrom_dec (n:Nat):∀ (t:List UInt8),Lib.decFrom 0 (decN n ++ t) = Lib.decFrom n t:=by
  induction n using Nat.strongRecOn with
  | _ n ih =>
    intro t
    by_cases h:n ≤ 9
    · rw [Vz h]
      show Lib.decFrom 0 (digB n :: t) = _
      rw [Lib.decFrom,digit_of n h]
      simp
    · rw [Yq (by omega),List.append_assoc,ih (n / 10) (by omega)]
      show Lib.decFrom (n / 10) (digB (n % 10:Nat) :: t) = _
      rw [Lib.decFrom,digit_of (n % 10) (by omega)]
      have e:n / 10 * 10 + n % 10 = n:=by omega
      simp [e]
theorem decN_ne (n:Nat):decN n ≠ []:=by
  by_cases h:n ≤ 9
  · rw [Vz h];simp
  · rw [Yq (by omega)];simp
theorem atoiAll_dec {n:Nat} (h:n ≤ 1000000000):Lib.atoiAll (decN n) = .ok (n:Int):=by
  have hl:(decN n).length ≤ 10:=zarz 9 n (by omega)
  rw [Lib.atoiAll_short _ (by omega)]
  have hd:Lib.decNat (decN n) = some n:=by
    have:=decFrom_dec n []
    rw [List.append_nil] at this
    have hz:Lib.decFrom n [] = some n:=rfl
    unfold Lib.decNat
    rw [if_neg (by simp [decN_ne]),this,hz]
  obtain ⟨b,r,e⟩:∃ b r,decN n = b :: r:=by
    cases hh:decN n with
    | nil=>exact absurd hh (decN_ne n)
    | cons b r=>exact ⟨b,r,rfl⟩
  have hb:=zair n b (by rw [e];exact List.mem_cons_self ..)
  have h45:(b == 45) = false:=by
    apply Bool.eq_false_iff.2
    intro k
    have:b = 45:=by simpa using k
    rw [this] at hb
    exact absurd hb.1 (by decide)
  have h43:(b == 43) = false:=by
    apply Bool.eq_false_iff.2
    intro k
    have:b = 43:=by simpa using k
    rw [this] at hb
    exact absurd hb.1 (by decide)
  rw [e] at hd ⊢
  rw [Lib.atoi,h45,h43,hd]
  rfl

def wordN (l:List UInt8):Int:=match Lib.atoiAll l with
  | .ok v=>v
  | _=>-1
theorem wordN_dec {n:Nat} (h:n ≤ 1000000000):wordN (decN n) = n:=by rw [wordN,atoiAll_dec h]
theorem wordN_dash:wordN [45] = -1:=by decide
def rankW (n:Int):List UInt8:=if n < 0 then [45] else decN n.toNat
theorem rankT_eq (n:Int):rankT n = 32 :: rankW n:=by unfold rankT rankW;split <;> rfl
theorem rankW_no (n:Int):(32:UInt8) ∉ rankW n:=by
  unfold rankW
  split
  · decide
  · exact decN_no (by decide)
theorem pcs_ranks:∀ (xs:List Int) (a:List UInt8),(32:UInt8) ∉ a → pcs 32 (a ++ xs.flatMap rankT) [] = a :: xs.map rankW
  | [],a,h=>by rw [List.flatMap_nil,List.append_nil,pcs_no h];rfl
  | n :: xs,a,h=>by
    rw [List.flatMap_cons,rankT_eq,List.cons_append,pcs_at h,pcs_ranks xs _ (rankW_no n)]
    rfl
theorem pcs_cert (xs:List Int):pcs 32 (ranks xs) [] = [114,97,110,107,115] :: xs.map rankW:=pcs_ranks xs _ (by decide)
theorem wordN_rank {n:Int} (h:Zc n = false):wordN (rankW n) = n:=by
  have h2:=zaoo h
  unfold rankW
  split
  · rw [wordN_dash];omega
  · rw [wordN_dec (by omega)];omega
def certR (t:List UInt8):List Int:=((pcs 32 t []).drop 1).map wordN
theorem zaur {xs:List Int} (h:Za xs = true):certR (ranks xs) = xs:=by
  rw [certR,pcs_cert,List.drop_one,List.tail_cons,List.map_map]
  have:∀ n ∈ xs,(wordN ∘ rankW) n = n:=fun n hn=>by
    obtain ⟨i,hi,rfl⟩:=List.getElem_of_mem hn
    have:=zaji h i hi
    rw [Xc hi] at this
    exact wordN_rank this
  conv=>rhs;rw [← List.map_id xs]
  exact List.map_congr_left this
end Go.Proofs.YtiilmjojffjhlaaGreatDoor

