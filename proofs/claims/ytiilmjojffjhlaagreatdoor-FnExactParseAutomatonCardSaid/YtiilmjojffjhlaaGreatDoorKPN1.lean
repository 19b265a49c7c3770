/-
  Lines cut and read: strings.Split and strings.TrimSuffix as contracts, spec.l7Nums. Condition of strings.Split: the library's variables hold what the program's text lays.
-/
import Derived.Test.YtiilmjojffjhlaaGreatDoorKPN0
import Derived.Test.YtiilmjojffjhlaaGreatDoorKPM4
import Derived.Test.YtiilmjojffjhlaaGreatDoorKU2
import Derived.Test.YtiilmjojffjhlaaGreatDoorKW43
namespace Go.Proofs.YtiilmjojffjhlaaGreatDoor.Vm
open Go Go.RowKit Go.Deep
set_option linter.unusedVariables false
set_option linter.unusedSimpArgs false
set_option maxRecDepth 200000

theorem frS {μ:Nat → Nat} {I:Nat → Prop} {w:World} {g:Nat} {t:TypeId} {ps:List (List UInt8)} (hm:ps.length ≤ maxLen) (hb:w.heap[g]? = some (.cells (ps.map fun p=>Value.string (tx p)).toArray t (0,0))):Rep μ I w (fr 1 cStr ps) (.slice (some ⟨g,0,none⟩) ps.length ps.length) [g]:=by
  unfold fr
  rw [Rep]
  refine ⟨hm,by simp [Qz],.inr ⟨g,ps.length,_,ps.map fun p=>Value.string (tx p),[],rfl,Nat.le_refl _,⟨t,hb,?_⟩,by simp,?_,?_,rfl⟩⟩
  · intro i v hv
    simp at hv
    obtain ⟨x,_,rfl⟩:=hv
    rfl
  · intro i v hv;simpa using hv
  · clear hb hm
    induction ps with
    | nil=>simp [cat,RepL]
    | cons x ps ih=>simp only [cat,List.flatMap_cons,cStr,List.cons_append,List.nil_append,List.map_cons,RepL];exact ⟨_,_,[],[],rfl,rfl,by simp [Rep,mkS,tx],ih⟩
theorem RepL.two2 {μ:Nat → Nat} {I:Nat → Prop} {w:World} {d e:D} {vs:List Value} {f:List Nat} (h:RepL μ I w [d,e] vs f):∃ v u f1 f2,vs = [v,u] ∧ Rep μ I w d v f1 ∧ Rep μ I w e u f2:=by
  simp only [RepL] at h
  obtain ⟨v',vs',f1,f2,rfl,rfl,h3,v2,vs2,g1,g2,rfl,rfl,h5,rfl,rfl⟩:=h
  exact ⟨v',v2,f1,g1,rfl,h3,h5⟩
theorem split_pure (s:List UInt8) (c:UInt8) (hl:s.length ≤ 1048576):PureI Tryz.prog LibOk 27 [.str s,.str [c]] (fr 1 cStr (pcs c s [])):=fun μ w vs hI _ hr=>by
  obtain ⟨v,u,f1,f2,rfl,h1,h2⟩:=RepL.two2 hr
  simp only [Rep] at h1 h2
  obtain rfl:v = .string (tx s):=h1.2
  obtain rfl:u = .string (tx [c]):=h2.2
  refine (split_any w s c hl hI).mono ?_
  rintro e w' ⟨rfl,rfl⟩
  have hp:=Jw c s []
  have hg:Gr w (w.alloc (.cells ((pcs c s []).map fun p=>Value.string (tx p)).toArray 9)):=(Gr.refl w).alloc _
  exact ⟨_,[w.heap.size],rfl,frS (by unfold maxLen;omega) (blk_alloc_new _ _),by simp,by intro x hx;simp at hx;subst hx;simp,⟨hg.os,hg.tape,hg.output,hg.size,fun b hb _=>hg.block b hb⟩⟩

noncomputable def Γpn0:FuncId → Con:=ext Γu11 25 zabt
attribute [go_sem] Γpn0
theorem Γpn0_ok:∀ g,ConOk Tryz.prog g (Γpn0 g):=Qu Γu11_ok zaco
noncomputable def Γpn1:FuncId → Con:=ext Γpn0 51 zact
attribute [go_sem] Γpn1
theorem Γpn1_ok:∀ g,ConOk Tryz.prog g (Γpn1 g):=Qu Γpn0_ok zags
noncomputable def Γpn2:FuncId → Con:=ext Γpn1 20 zaaa
attribute [go_sem] Γpn2
theorem Γpn2_ok:∀ g,ConOk Tryz.prog g (Γpn2 g):=Qu Γpn1_ok zaaq
noncomputable def Γpn3:FuncId → Con:=ext Γpn2 19 zaab
attribute [go_sem] Γpn3
theorem Γpn3_ok:∀ g,ConOk Tryz.prog g (Γpn3 g):=Qu Γpn2_ok zaav

def hasS (s:List UInt8) (c:UInt8):Bool:=decide (1 ≤ s.length ∧ s.drop (s.length - 1) = [c])
def trimB (s:List UInt8) (c:UInt8):List UInt8:=if hasS s c = true then s.take (s.length - 1) else s

theorem hasSuffix_pure (s:List UInt8) (c:UInt8) (hl:s.length ≤ 1048576):Pure Tryz.prog 86 [.str s,.str [c]] (.bool (hasS s c)):=by
  refine Pure.of_walk Tryz.func86 rfl (by simp [Tryz.f86]) (by simp [-List.drop_one,go_sem]) fun B hK=>?_
  by_cases h1:1 ≤ s.length
  all_goals (repeat' (first
 | refine Qr ?_
 | refine Qc (id:=0) Γpn3_ok [] (by kernel_rfl) ?_;simp [-List.getD_eq_getElem?_getD,-List.drop_one,↓Qb,↓Qa,go_sem]
 | refine Qc (id:=1) Γpn3_ok [10] (by kernel_rfl) ?_;simp [-List.getD_eq_getElem?_getD,-List.drop_one,↓Qb,↓Qa,go_sem,h1,(show (1:Int) ≤ s.length by omega),(show (s.length:Int) - 1 ≤ s.length by omega),(show (0:Int) ≤ (s.length:Int) - 1 by omega),wrap_in (x:=(s.length:Int) - 1) (by omega) (by omega),(show ((s.length:Int) - 1).toNat = s.length - 1 by omega),(show ((s.length:Int) - ((s.length:Int) - 1)).toNat = 1 by omega),(show (s.drop (s.length - 1)).take 1 = s.drop (s.length - 1) from List.take_of_length_le (by simp;omega))];try (refine ⟨fun s1a=>?_,fun s1a=>?_⟩ <;> (try simp [B_iff,B_not] at s1a) <;> try (refine ⟨fun s1b=>?_,fun s1b=>?_⟩ <;> (try simp [B_iff,B_not] at s1b)))
 | refine Qc (id:=1) Γpn3_ok [10] (by kernel_rfl) ?_;simp [-List.getD_eq_getElem?_getD,-List.drop_one,↓Qb,↓Qa,go_sem,h1,(show ¬ (1:Int) ≤ s.length by omega)];try (refine ⟨fun s1a=>?_,fun s1a=>?_⟩ <;> (try simp [B_iff,B_not] at s1a) <;> try (refine ⟨fun s1b=>?_,fun s1b=>?_⟩ <;> (try simp [B_iff,B_not] at s1b)))
 | (refine Qg ?_)
 | (refine Qq ?_;simp [-List.getD_eq_getElem?_getD,-List.drop_one,↓Qb,↓Qa,go_sem])
 | (refine Qp ?_;simp [-List.getD_eq_getElem?_getD,-List.drop_one,↓Qb,↓Qa,go_sem])
 | (refine Qs ?_;simp [-List.getD_eq_getElem?_getD,-List.drop_one,↓Qb,↓Qa,go_sem,Tryz.results86])
 | (intro hx;refine zA ?_)
 | (refine ⟨?_,?_⟩ <;> refine zA ?_)
 | (intro hx;constructor <;> intro hs)
 | (constructor <;> intro hs)
 | (refine ⟨?_,fun hs=>?_⟩;refine zA ?_)
 | (refine ⟨fun hs=>?_,?_⟩;rotate_left;refine zA ?_;rotate_left)))
  all_goals (first
 | (simp [hasS,h1];done)
 | skip)
noncomputable def zabg:Con:=.pure fun
  | [.str s,.str [c]]=>((s.length ≤ 1048576),.bool (hasS s c))
  | _=>(False,.any)
attribute [go_sem] zabg
theorem zadv:ConOk Tryz.prog 86 zabg:=by
  refine ⟨Qn Tryz.func86 (by decide) rfl,fun args h=>?_⟩
  revert h
  dsimp only
  split
  · intro h
    have hl:=h
    skip
    exact ⟨hasSuffix_pure _ _ hl,by simp [go_sem]⟩
  · intro h
    exact h.elim
noncomputable def Γpn4:FuncId → Con:=ext Γpn3 86 zabg
attribute [go_sem] Γpn4
theorem zaex:∀ g,ConOk Tryz.prog g (Γpn4 g):=Qu Γpn3_ok zadv

theorem trimLite_pure (s:List UInt8) (c:UInt8) (hl:s.length ≤ 1048576):Pure Tryz.prog 63 [.str s,.str [c]] (.str (trimB s c)):=by
  refine Pure.of_walk Tryz.func63 rfl (by simp [Tryz.f63]) (by simp [-List.drop_one,go_sem]) fun B hK=>?_
  cases hs:hasS s c
  all_goals (repeat' (first
 | refine Qr ?_
 | refine Qc (id:=0) zaex [] (by kernel_rfl) ?_;simp [-List.getD_eq_getElem?_getD,-List.drop_one,↓Qb,↓Qa,go_sem]
 | refine Qc (id:=1) zaex [] (by kernel_rfl) ?_;simp [-List.getD_eq_getElem?_getD,-List.drop_one,↓Qb,↓Qa,go_sem,hl,hs]
 | (have h1:1 ≤ s.length:=(by simp only [hasS,decide_eq_true_eq] at hs;exact hs.1));refine Qc (id:=2) zaex [] (by kernel_rfl) ?_;simp [-List.getD_eq_getElem?_getD,-List.drop_one,↓Qb,↓Qa,go_sem,hl,(show (1:Int) ≤ s.length by omega),(show (s.length:Int) - 1 ≤ s.length by omega),(show (0:Int) ≤ (s.length:Int) - 1 by omega),wrap_in (x:=(s.length:Int) - 1) (by omega) (by omega),(show ((s.length:Int) - 1).toNat = s.length - 1 by omega)]
 | refine Qc (id:=3) zaex [] (by kernel_rfl) ?_;simp [-List.getD_eq_getElem?_getD,-List.drop_one,↓Qb,↓Qa,go_sem]
 | refine Qf (c:=.tmp 7) ?_;simp [-List.getD_eq_getElem?_getD,-List.drop_one,↓Qb,↓Qa,go_sem];try first | (refine ⟨?_,?_⟩ <;> refine zA ?_) | (refine ⟨fun c7=>?_,fun c7=>?_⟩ <;> (try simp [B_iff,B_not] at c7))
 | (refine Qg ?_)
 | (refine Qq ?_;simp [-List.getD_eq_getElem?_getD,-List.drop_one,↓Qb,↓Qa,go_sem])
 | (refine Qp ?_;simp [-List.getD_eq_getElem?_getD,-List.drop_one,↓Qb,↓Qa,go_sem])
 | (refine Qs ?_;simp [-List.getD_eq_getElem?_getD,-List.drop_one,↓Qb,↓Qa,go_sem,Tryz.results63])
 | (intro hx;refine zA ?_)
 | (refine ⟨?_,?_⟩ <;> refine zA ?_)
 | (intro hx;constructor <;> intro hs)
 | (constructor <;> intro hs)
 | (refine ⟨?_,fun hs=>?_⟩;refine zA ?_)
 | (refine ⟨fun hs=>?_,?_⟩;rotate_left;refine zA ?_;rotate_left)))
  all_goals (first
 | (simp [trimB,hs];done)
 | skip)
noncomputable def zabp:Con:=.pure fun
  | [.str s,.str [c]]=>((s.length ≤ 1048576),.str (trimB s c))
  | _=>(False,.any)
attribute [go_sem] zabp
theorem zaei:ConOk Tryz.prog 63 zabp:=by
  refine ⟨Qn Tryz.func63 (by decide) rfl,fun args h=>?_⟩
  revert h
  dsimp only
  split
  · intro h
    have hl:=h
    skip
    exact ⟨trimLite_pure _ _ hl,by simp [go_sem]⟩
  · intro h
    exact h.elim
noncomputable def Γpn5:FuncId → Con:=ext Γpn4 63 zabp
attribute [go_sem] Γpn5
theorem Γpn5_ok:∀ g,ConOk Tryz.prog g (Γpn5 g):=Qu zaex zaei

theorem trim_pure (s:List UInt8) (c:UInt8) (hl:s.length ≤ 1048576):Pure Tryz.prog 28 [.str s,.str [c]] (.str (trimB s c)):=by
  refine Pure.of_walk Tryz.func28 rfl (by simp [Tryz.f28]) (by simp [-List.drop_one,go_sem]) fun B hK=>?_
  (repeat' (first
 | refine Qr ?_
 | refine Qc (id:=0) Γpn5_ok [] (by kernel_rfl) ?_;simp [-List.getD_eq_getElem?_getD,-List.drop_one,↓Qb,↓Qa,go_sem]
 | refine Qc (id:=1) Γpn5_ok [] (by kernel_rfl) ?_;simp [-List.getD_eq_getElem?_getD,-List.drop_one,↓Qb,↓Qa,go_sem,hl]
 | (refine Qg ?_)
 | (refine Qq ?_;simp [-List.getD_eq_getElem?_getD,-List.drop_one,↓Qb,↓Qa,go_sem])
 | (refine Qp ?_;simp [-List.getD_eq_getElem?_getD,-List.drop_one,↓Qb,↓Qa,go_sem])
 | (refine Qs ?_;simp [-List.getD_eq_getElem?_getD,-List.drop_one,↓Qb,↓Qa,go_sem,Tryz.results28])
 | (intro hx;refine zA ?_)
 | (refine ⟨?_,?_⟩ <;> refine zA ?_)
 | (intro hx;constructor <;> intro hs)
 | (constructor <;> intro hs)
 | (refine ⟨?_,fun hs=>?_⟩;refine zA ?_)
 | (refine ⟨fun hs=>?_,?_⟩;rotate_left;refine zA ?_;rotate_left)))
noncomputable def zaez:Con:=.pure fun
  | [.str s,.str [c]]=>((s.length ≤ 1048576),.str (trimB s c))
  | _=>(False,.any)
attribute [go_sem] zaez
theorem trim_pureC_ok:ConOk Tryz.prog 28 zaez:=by
  refine ⟨Qn Tryz.func28 (by decide) rfl,fun args h=>?_⟩
  revert h
  dsimp only
  split
  · intro h
    have hl:=h
    skip
    exact ⟨trim_pure _ _ hl,by simp [go_sem]⟩
  · intro h
    exact h.elim
noncomputable def Γpn6:FuncId → Con:=ext Γpn5 28 zaez
attribute [go_sem] Γpn6
theorem Jj:∀ g,ConOk Tryz.prog g (Γpn6 g):=Qu Γpn5_ok trim_pureC_ok

theorem trimB_N (s:List UInt8):trimB s 10 = trimN s:=by
  unfold trimB trimN
  rcases List.eq_nil_or_concat s with rfl | ⟨r,x,rfl⟩
  · rfl
  · rw [List.concat_eq_append]
    have h1:((r ++ [x]).drop ((r ++ [x]).length - 1)) = [x]:=by simp
    have h2:hasS (r ++ [x]) 10 = decide (x = 10):=by
      unfold hasS
      rw [h1]
      simp
    rw [h2]
    by_cases e:x = 10
    · subst e;simp
    · simp [e]
theorem trimB_len (s:List UInt8) (c:UInt8):(trimB s c).length ≤ s.length:=by unfold trimB;split <;> simp <;> omega

def nT (s:List UInt8) (k:Nat):List Int:=(((pcs 32 s []).drop 1).map numV).take k
theorem nT_len {s:List UInt8} {k:Nat} (h:k + 1 ≤ (pcs 32 s []).length):(nT s k).length = k:=by simp [nT];omega
theorem nT_zero (s:List UInt8):nT s 0 = []:=by simp [nT]
theorem nT_succ {s:List UInt8} {k:Nat} (h:k + 1 < (pcs 32 s []).length):nT s (k + 1) = nT s k ++ [numV (nth (pcs 32 s []) (k + 1))]:=by
  have hk:k < (((pcs 32 s []).drop 1).map numV).length:=by simp;omega
  rw [nT,List.take_succ_eq_append_getElem hk,nth_lt h]
  simp [nT,Nat.add_comm]
theorem nT_end {s:List UInt8} {k:Nat} (hk:k ≤ 64) (h:¬ (k + 1 < (pcs 32 s []).length ∧ k + 1 ≤ 64)):nT s k = numsL s:=by
  rw [numsL,List.map_take,nT]
  by_cases e:k = 64
  · rw [e]
  · rw [List.take_of_length_le (by simp;omega),List.take_of_length_le (by simp;omega)]
theorem nth_pc_len2 (s:List UInt8) (i:Nat) (hl:s.length ≤ 1048576):(nth (pcs 32 s []) i).length ≤ 1048576:=by
  by_cases h:i < (pcs 32 s []).length
  · rw [nth_lt h]
    have:=zadp 32 s [] _ (List.getElem_mem h)
    simp at this;omega
  · have:nth (pcs 32 s []) i = []:=by unfold nth;rw [List.getD_eq_getElem?_getD,List.getElem?_eq_none (by omega)];rfl
    rw [this];simp
theorem snoc_d (xs:List Int) (x:Int):cat cI xs ++ [.int .i64 x] = cat cI (xs ++ [x]):=by rw [Jg,Ve];rfl

set_option maxHeartbeats 2000000 in

theorem l7Nums_pure (s:List UInt8) (hl:s.length ≤ 1048576):Pure Tryz.prog 26 [.str s] (fr 1 cI (numsL s)):=by
  refine Pure.of_walk Tryz.func26 rfl (by simp [Tryz.f26]) (by simp [-List.drop_one,go_sem]) fun B hK=>?_
  have hpp:=pcs_pos 32 s [];have hpl:=Jw 32 s []
  all_goals (repeat' (first
 | refine Qr ?_
 | refine Qc (id:=0) Jj [] (by kernel_rfl) ?_;simp [-List.getD_eq_getElem?_getD,-List.drop_one,↓Qb,↓Qa,go_sem]
 | refine Qc (id:=1) Jj [] (by kernel_rfl) ?_;simp [-List.getD_eq_getElem?_getD,-List.drop_one,↓Qb,↓Qa,go_sem,hl,(show UInt8.ofNat (Int.toNat 32) = 32 from rfl)];try (refine Xm hK 3 ?_;simp [go_sem])
 | refine Qc (id:=2) Jj [] (by kernel_rfl) ?_;simp [-List.getD_eq_getElem?_getD,-List.drop_one,↓Qb,↓Qa,go_sem]
 | refine Qc (id:=3) Jj [] (by kernel_rfl) ?_;simp [-List.getD_eq_getElem?_getD,-List.drop_one,↓Qb,↓Qa,go_sem]
 | refine Qc (id:=4) Jj [15] (by kernel_rfl) ?_;simp [-List.getD_eq_getElem?_getD,-List.drop_one,↓Qb,↓Qa,go_sem];try (refine ⟨fun s4a=>?_,fun s4a=>?_⟩ <;> (try simp [B_iff,B_not] at s4a) <;> try (refine ⟨fun s4b=>?_,fun s4b=>?_⟩ <;> (try simp [B_iff,B_not] at s4b)))
 | (have i1:k + 1 < (pcs 32 s []).length:=(by omega));refine Qc (id:=6) Jj [] (by kernel_rfl) ?_;simp [-List.getD_eq_getElem?_getD,-List.drop_one,↓Qb,↓Qa,go_sem,i1,Qh i1,Nat.sub_pos_of_lt i1,(show (0:Int) ≤ (k:Int) + 1 by omega),(show (k:Int) + 1 < ((pcs 32 s []).length:Int) by omega),nth_pc_len2 s (k + 1) hl]
 | (have hsn:nT s (k + 1) = nT s k ++ [numV (nth (pcs 32 s []) (k + 1))]:=nT_succ i1;have hsl:=nT_len (s:=s) (k:=k) hk);refine Qc (id:=7) Jj [] (by kernel_rfl) ?_;simp [-List.getD_eq_getElem?_getD,-List.drop_one,↓Qb,↓Qa,go_sem,snoc_d,(show (nT s k).length ≤ 9223372036854775806 by omega),(show 2 * ((nT s k).length + 1) * 8 ≤ 281474976710656 by omega),(show (nT s k).length + 1 ≤ 9223372036854775807 by omega)]
 | refine Qc (id:=5) Jj [] (by kernel_rfl) ?_;simp [-List.getD_eq_getElem?_getD,-List.drop_one,↓Qb,↓Qa,go_sem,wrap_in (x:=(k:Int) + 1 + 1) (by omega) (by omega)]
 | (have hse:nT s k = numsL s:=nT_end hk4 (by omega);rw [hse]);refine Qc (id:=8) Jj [] (by kernel_rfl) ?_;simp [-List.getD_eq_getElem?_getD,-List.drop_one,↓Qb,↓Qa,go_sem]
 | refine Qf (c:=.tmp 18) ?_;simp [-List.getD_eq_getElem?_getD,-List.drop_one,↓Qb,↓Qa,go_sem];try first | (refine ⟨?_,?_⟩ <;> refine zA ?_) | (refine ⟨fun c18=>?_,fun c18=>?_⟩ <;> (try simp [B_iff,B_not] at c18))
 | (refine Qg (id:=0) (Xc (ι:=Nat) (fun k:Nat=>⟨(upd (upd (upd (fun _=>.any) 3 (li cStr (pcs 32 s []))) 4 (fr 1 cI (nT s k))) 5 (.int .i64 ((k:Int) + 1))),fun _=>none⟩) (fun k=>k + 1 ≤ (pcs 32 s []).length ∧ k ≤ 64) (fun k=>(pcs 32 s []).length - k) (0) ?_ ?_ ?_);exact ⟨hpp,by omega⟩;((repeat' (first | exact Qj (by assumption) | exact Ql | refine Qm ?_ ?_ | refine Qk ?_)) <;> simp [-List.getD_eq_getElem?_getD,-List.drop_one,↓Qb,↓Qa,go_sem,nT_zero,cat]);rintro k ⟨hk,hk4⟩)
 | (refine ⟨k + 1,⟨by omega,by omega⟩,by first | omega | (simp;done) | (simp;omega),?_⟩;((repeat' (first | exact Qj (by assumption) | exact Ql | refine Qm ?_ ?_ | refine Qk ?_)) <;> simp [-List.getD_eq_getElem?_getD,-List.drop_one,↓Qb,↓Qa,go_sem,hsn,(show (((k + 1:Nat):Int) + 1) = (k:Int) + 1 + 1 by omega)]))
 | (refine Qg ?_)
 | (refine Qq ?_;simp [-List.getD_eq_getElem?_getD,-List.drop_one,↓Qb,↓Qa,go_sem])
 | (refine Qp ?_;simp [-List.getD_eq_getElem?_getD,-List.drop_one,↓Qb,↓Qa,go_sem])
 | (refine Qs ?_;simp [-List.getD_eq_getElem?_getD,-List.drop_one,↓Qb,↓Qa,go_sem,Tryz.results26])
 | (intro hx;refine zA ?_)
 | (refine ⟨?_,?_⟩ <;> refine zA ?_)
 | (intro hx;constructor <;> intro hs)
 | (constructor <;> intro hs)
 | (refine ⟨?_,fun hs=>?_⟩;refine zA ?_)
 | (refine ⟨fun hs=>?_,?_⟩;rotate_left;refine zA ?_;rotate_left)))
noncomputable def zacr:Con:=.pure fun
  | [.str s]=>((s.length ≤ 1048576),fr 1 cI (numsL s))
  | _=>(False,.any)
attribute [go_sem] zacr
theorem zagq:ConOk Tryz.prog 26 zacr:=by
  refine ⟨Qn Tryz.func26 (by decide) rfl,fun args h=>?_⟩
  revert h
  dsimp only
  split
  · intro h
    have hl:=h
    skip
    exact ⟨l7Nums_pure _ hl,by simp [go_sem]⟩
  · intro h
    exact h.elim
noncomputable def Γpn7:FuncId → Con:=ext Γpn6 26 zacr
attribute [go_sem] Γpn7
theorem Xd:∀ g,ConOk Tryz.prog g (Γpn7 g):=Qu Jj zagq

end Go.Proofs.YtiilmjojffjhlaaGreatDoor.Vm

