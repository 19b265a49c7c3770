/-
  The program's reading of a line: its first word and its numbers. Conditions: the library's variables hold what the program's text lays, and the line is of at most 2^20 bytes.
-/
import Derived.Test.YtiilmjojffjhlaaGreatDoorKPE1
namespace Go.Proofs.YtiilmjojffjhlaaGreatDoor
open Go.RowKit Go.Deep
set_option linter.unusedVariables false

theorem split_row (w:World) (l:List UInt8) (n:Nat) (hn:(pcs 32 l []).length = n + 1) (hl:l.length ≤ 1048576) (h:LibOk w) :
    Calls Tryz.prog 27 #[.string (tx l),.string ⟨#[32]⟩] w fun e w'=>∃ g,e = .returned (.slice (some ⟨g,0,none⟩) (n + 1) (n + 1)) ∧ Gr w w' ∧ w'.rowIs g 9 (n + 1) (fun i=>.string (tx ((pcs 32 l []).getD i []))):=by
  refine (split_any w l 32 hl h).mono ?_
  rintro e w' ⟨rfl,rfl⟩
  rw [hn]
  refine ⟨_,rfl,(Gr.refl w).alloc _,?_⟩
  have:=World.rowIs_alloc w ((pcs 32 l []).map fun p=>Value.string (tx p)).toArray 9 (fun i=>.string (tx ((pcs 32 l []).getD i []))) (fun i hi=>by
    simp at hi
    simp [List.getElem?_eq_getElem hi])
  simpa [hn] using this
theorem certR_nth (l:List UInt8) {k:Nat} (hk:k < (certR l).length):nth (certR l) k = wordN ((pcs 32 l []).getD (k + 1) []):=by
  have h1:=zaet l
  rw [nth_lt hk]
  simp [certR,List.getElem?_eq_getElem (show k + 1 < (pcs 32 l []).length by omega)]
theorem piece_len (l:List UInt8) (i:Nat):((pcs 32 l []).getD i []).length ≤ l.length:=by
  rw [List.getD_eq_getElem?_getD]
  by_cases h:i < (pcs 32 l []).length
  · rw [List.getElem?_eq_getElem h]
    have:=zadp 32 l [] _ (List.getElem_mem h)
    simpa using this
  · rw [List.getElem?_eq_none (by omega)];exact Nat.zero_le _

set_option maxRecDepth 100000 in
set_option maxHeartbeats 2000000 in
theorem readWords_any (w:World) (l:List UInt8) (hl:l.length ≤ 1048576) (h:LibOk w) :
    Calls Tryz.prog 29 #[.string (tx l)] w fun e w'=>∃ g,e = .returned (.tuple #[.string (tx (headW l)),.slice (some ⟨g,0,none⟩) (certR l).length (certR l).length]) ∧ w.heap.size ≤ g ∧ w'.rowIs g 3 (certR l).length (fun i=>.int .i64 (nth (certR l) i)) ∧ Gr w w':=by
  have hlen:=zaet l
  have hpl:=Jw 32 l []
  have hh:(pcs 32 l []).getD 0 [] = headW l:=by
    unfold headW
    cases pcs 32 l [] <;> rfl
  have hnth:=fun k hk=>certR_nth l (k:=k) hk
  have hpe:=piece_len l
  obtain ⟨xs,hxs⟩:∃ xs,xs = certR l:=⟨_,rfl⟩
  obtain ⟨f,hf⟩:∃ f:Nat → List UInt8,(fun i=>(pcs 32 l []).getD i []) = f:=⟨_,rfl⟩
  have hf':∀ i,(pcs 32 l []).getD i [] = f i:=fun i=>congrFun hf i
  simp only [hf'] at hh hnth hpe
  rw [← hxs] at hlen hnth ⊢
  obtain ⟨n,hn⟩:∃ n,n = xs.length:=⟨_,rfl⟩
  have hn6:n ≤ 1048576:=by omega
  have HS:=Lib.hid (show ∀ w:World,LibOk w → Calls Tryz.prog 27 #[.string (tx l),.string ⟨#[32]⟩] w fun e w'=>∃ g,e = .returned (.slice (some ⟨g,0,none⟩) (n + 1) (n + 1)) ∧ Gr w w' ∧ w'.rowIs g 9 (n + 1) (fun i=>.string (tx (f i))) from fun w hw=>by
    have:=split_row w l n (by omega) hl hw
    simpa only [hf'] using this)
  have HN:=Lib.hid hnth
  have HP:=Lib.hid hpe
  have HH:=Lib.hid hh
  have HE:=Lib.hid hn
  have HL:=Lib.hid h
  have HB:=Lib.hid hl
  clear hlen hpl hxs hf hf' hnth hpe hh hn h hl
  have hmk:=run_make_row' (P:=Tryz.prog) 22 3 (.int .i64 0) 8 Tryz.underlying22 infoInt rfl .i64 .i64 n (by omega) (by omega)
  go_enter Tryz.func29,Tryz.ntmps29
  go_wp2_with fail
  refine (HS.out _ HL.out).mono ?_
  rintro e w1 ⟨g,rfl,hg,hrow⟩
  have HG:=Lib.hid hg
  have HR:=Lib.hid hrow
  clear hg hrow
  by_cases hz:n = 0
  · have HZ:=Lib.hid hz
    subst hz
    rw [show ((0:Nat):Int) = 0 from rfl] at hmk
    go_wp2_with fail
    go_loopw [6,7,8,9,19] (fun _ _ _ _ i wr=>i = .int .i64 0 ∧ RdAt w1 wr xs 0) (fun _ _ _ _ i _=>0)
    case atStart=>exact ⟨rfl,by have:=RdAt.zero w1 xs;rw [← HE.out] at this;exact this⟩
    case round =>
      obtain ⟨rfl,hx⟩:=hrel
      have HX:=Lib.hid hx
      clear hx
      have hc1:wr.cell? ⟨g,0,none⟩ = some (.string (tx (f 0))):=HX.out.1.cell (HR.out.cell (by omega))
      go_wp2_with fail
      go_ret2
      have hb:=HX.out.2
      refine ⟨w1.heap.size,?_,HG.out.size,?_,HG.out.trans HX.out.1⟩
      · rw [HH.out,← HE.out];rfl
      · exact hb.congr fun i hi=>by rw [← HE.out] at hi;omega
  · have hz1:¬ n + 1 = 1:=by omega
    go_wp2_with fail
    go_loopw [6,7,8,9,19] (fun _ _ _ _ i wr=>∃ k:Nat,k ≤ n ∧ i = .int .i64 k ∧ RdAt w1 wr xs k) (fun _ _ _ _ i _=>n - (intOf i).toNat)
    case atStart=>exact ⟨0,Nat.zero_le _,rfl,by have:=RdAt.zero w1 xs;rw [← HE.out] at this;exact this⟩
    case round =>
      obtain ⟨k,hk,rfl,hx⟩:=hrel
      have HX:=Lib.hid hx
      clear hx
      by_cases hlt:k < n
      · have hc1:wr.cell? ⟨g,1 + k,none⟩ = some (.string (tx (f (k + 1)))):=by
          rw [Nat.add_comm]
          exact HX.out.1.cell (HR.out.cell (by omega))
        go_wp2_with fail
        refine (atoi_any _ (f (k + 1)) (Nat.le_trans (HP.out _) HB.out) ((HL.out.gr HG.out).gr HX.out.1)).mono ?_
        rintro e w2 ⟨v,u,rfl,hu,hg2⟩
        have HY:=Lib.hid (HX.out.gr hg2)
        have hN:=HN.out k (by rw [← HE.out];exact hlt)
        clear hg2 hc1
        have hc2:=HY.out.2.cell (i:=k) (by rw [← HE.out];exact hlt)
        have hf2:=HY.out.2.frozen k
        rcases hu with ⟨rfl,hv⟩ | ⟨⟨t,p,rfl⟩,hv⟩
        · have HZ:=Lib.hid (HY.out.succ (v:=v) (by rw [hN,hv]))
          clear hN hv
          go_wp2_with fail
          exact ⟨⟨k + 1,by omega,by go_num,HZ.out⟩,by simp [intOf];omega⟩
        · have HZ:=Lib.hid (HY.out.succ (v:=-1) (by rw [hN,hv]))
          clear hN hv
          go_wp2_with fail
          exact ⟨⟨k + 1,by omega,by go_num,HZ.out⟩,by simp [intOf];omega⟩
      · obtain rfl:k = n:=by omega
        have hc1:wr.cell? ⟨g,0,none⟩ = some (.string (tx (f 0))):=HX.out.1.cell (HR.out.cell (by omega))
        go_wp2_with fail
        go_ret2
        have hb:=HX.out.2
        refine ⟨w1.heap.size,?_,HG.out.size,?_,HG.out.trans HX.out.1⟩
        · rw [HH.out,← HE.out];rfl
        · exact hb.congr fun i hi=>by rw [if_pos (by rw [HE.out];exact hi)]
end Go.Proofs.YtiilmjojffjhlaaGreatDoor

