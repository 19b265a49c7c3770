/-
  impl.RefineBlocks and spec.RefineBlocks: the walks. No conditions.
-/
import Derived.Test.YtmiimodggpjkmaaGreatSC
namespace Go.Proofs.YtmiimodggpjkmaaGreat.Vm
open Go
open Nat renaming sub_pos_of_lt → zsP
open List renaming getD_eq_getElem?_getD → zg,drop_one → zd,replicate → zrP
open Ne renaming symm → zS
noncomputable section
set_option linter.unusedVariables false
set_option linter.unusedSimpArgs false
set_option maxRecDepth 200000

attribute [go_sem] VS stepS isLoad isApp snH AGL
def sortOk (n:Nat) (cs:List D):Prop:=∃ (xs:List Int) (rest:List D),n = xs.length ∧ cs = cat cI xs ++ rest ∧ xs.length ≤ 1048576
def sortC (n:Nat) (cs:List D):List D:=cat cI (srtL (de cI (cs.take n))) ++ cs.drop n
theorem sortC_eq (xs:List Int) (rest:List D):sortC xs.length (cat cI xs ++ rest) = cat cI (srtL xs) ++ rest:=by
  have e1:(cat cI xs ++ rest).take xs.length = cat cI xs:=Jo xs rest
  have e2:(cat cI xs ++ rest).drop xs.length = rest:=by
    have:(cat cI xs).length = xs.length:=by rw [Qu];omega
    rw [List.drop_append_of_le_length (by omega),← this,List.drop_length];rfl
  rw [sortC,e1,e2,Qm]
@[go_sem] def sortE:Con:=.gen fun args H=>match args with
  | [.sl b 1 0 n c]=>match H b with
    | some cs=>(sortOk n cs,.tup [],upd H b (some (sortC n cs)))
    | none=>(False,.any,H)
  | _=>(False,.any,H)
theorem sortE_ok:ConOk Tryz.prog 22 sortE:=by
  refine ⟨Qo Tryz.func22 (by decide) rfl,fun args H h=>?_⟩
  revert h
  dsimp only [sortE]
  split
  · split
    · rename_i hH
      rintro ⟨xs,rest,rfl,rfl,hl⟩
      dsimp only
      rw [sortC_eq]
      exact sort_spec _ _ xs rest hH hl
    · intro h;exact h.elim
  · intro h;exact h.elim
@[go_sem] def compactE:Con:=.gen fun args H=>match args with
  | [.fr 1 n cs]=>(Is cI n cs ∧ n ≤ 1048576,fr 1 cI (Lib.compact (de cI cs)),H)
  | _=>(False,.any,H)
theorem compactE_ok:ConOk Tryz.prog 23 compactE:=by
  refine ⟨Qo Tryz.func23 (by decide) rfl,fun args H h=>?_⟩
  revert h
  dsimp only [compactE]
  split
  · rintro ⟨⟨xs,rfl,rfl⟩,hl⟩
    dsimp only
    rw [Qm]
    exact compact_spec xs hl
  · intro h;exact h.elim

theorem GraphOk.refR {a:List Ints2} {b:List (List Int)} (h:GraphOk a b):RefOk b a.length:=by
  obtain ⟨h1,h2,h3,h4,h5⟩:=h
  refine ⟨h3,fun j hj=>?_⟩
  have hd:=(h5 j (by omega)).2
  have hl:=hd.len
  exact ⟨by omega,fun k hk=>⟨(hd.at hk).1,(hd.at hk).2.1⟩⟩
def keyS (bl:List Int) (sets:List (List Int)) (k:Nat):List (List Int):=(List.range k).map fun i=>nth bl i :: nth sets i
theorem keyS_len (bl:List Int) (sets:List (List Int)) (k:Nat):(keyS bl sets k).length = k:=by simp [keyS]
theorem keyS_nth {bl:List Int} {sets:List (List Int)} {k i:Nat} (h:i < k):nth (keyS bl sets k) i = nth bl i :: nth sets i:=by
  rw [Xa (by rw [keyS_len];exact h)];simp [keyS]
theorem keyS_same {bl:List Int} {sets:List (List Int)} {n i k:Nat} (hi:i < n) (hk:k < n):(decide (nth bl i = nth bl k) && decide (nth sets i = nth sets k)) = decide (nth (keyS bl sets n) i = nth (keyS bl sets n) k):=by
  rw [keyS_nth hi,keyS_nth hk,Bool.eq_iff_iff];simp
theorem keyS_sets (nx:List (List Int)) (bl:List Int) (n:Nat):keyS bl (setsF nx bl n) n = keyF nx bl n:=by
  unfold keyS keyF
  apply List.map_congr_left
  intro i hi
  rw [setsF_nth (List.mem_range.1 hi)]
theorem grpZ_setC {ks:List (List Int)} {n i:Nat} (h:i < n) (hn:n ≤ ks.length) (c:Int):(grpZ ks n i).set i c = grpC ks n i c:=grpZ_set h hn c

@[go_sem] def Γrf1:FuncId → Con:=ext Γg17 13 zacg
theorem Ju:∀ g,ConOk Tryz.prog g (Γrf1 g):=Qn Γg17_ok zady

theorem sEqR_pure (xs:List Int) (ys:List Int)  : Pure Tryz.prog 26 [li cI xs,li cI ys] (.bool (decide (xs = ys))):=by
  refine Pure.of_walk Tryz.func26 rfl (by simp [Tryz.f26]) (by simp [-zd,go_sem]) fun B hK=>?_
  (repeat' (first
 | refine Qt ?_
 | (refine Zm 0 rfl fun hm=>?_);refine Qc (id:=0) Ju [] (by kernel_rfl) ?_;simp [-zg,-zd,↓Qb,↓Qa,go_sem]
 | refine Qc (id:=1) Ju [] (by kernel_rfl) ?_;simp [-zg,-zd,↓Qb,↓Qa,go_sem]
 | refine Qc (id:=2) Ju [] (by kernel_rfl) ?_;simp [-zg,-zd,↓Qb,↓Qa,go_sem]
 | refine Qc (id:=3) Ju [] (by kernel_rfl) ?_;simp [-zg,-zd,↓Qb,↓Qa,go_sem]
 | refine Qc (id:=4) Ju [] (by kernel_rfl) ?_;simp [-zg,-zd,↓Qb,↓Qa,go_sem]
 | refine Qc (id:=5) Ju [] (by kernel_rfl) ?_;simp [-zg,-zd,↓Qb,↓Qa,go_sem,c14,Qe c14,zsP c14]
 | (have cy:k < ys.length:=by omega);refine Xm (id:=6) Ju mixed [] [5] (by kernel_rfl) (by kernel_rfl) (by simp [-zg,-zd,↓Qb,↓Qa,go_sem,c14,Qe c14,zsP c14,cy,Qe cy,zsP cy]) ?_;simp [-zg,-zd,↓Qb,↓Qa,go_sem,c14,Qe c14,zsP c14,cy,Qe cy,zsP cy]
 | refine Qc (id:=7) Ju [] (by kernel_rfl) ?_;simp [-zg,-zd,↓Qb,↓Qa,go_sem]
 | refine Qc (id:=8) Ju [] (by kernel_rfl) ?_;simp [-zg,-zd,↓Qb,↓Qa,go_sem,wrapS (k:=k) (by omega)]
 | refine Qc (id:=9) Ju [] (by kernel_rfl) ?_;simp [-zg,-zd,↓Qb,↓Qa,go_sem]
 | refine Qd (c:=.tmp 10) ?_;simp [-zg,-zd,↓Qb,↓Qa,go_sem];try first | (refine ⟨?_,?_⟩ <;> refine zA ?_) | (refine ⟨fun c10=>?_,fun c10=>?_⟩ <;> (try simp [B_iff,B_not] at c10))
 | refine Qd (c:=.tmp 14) ?_;simp [-zg,-zd,↓Qb,↓Qa,go_sem];try first | (refine ⟨?_,?_⟩ <;> refine zA ?_) | (refine ⟨fun c14=>?_,fun c14=>?_⟩ <;> (try simp [B_iff,B_not] at c14))
 | refine Qd (c:=.tmp 24) ?_;simp [-zg,-zd,↓Qb,↓Qa,go_sem];try first | (refine ⟨?_,?_⟩ <;> refine zA ?_) | (refine ⟨fun c24=>?_,fun c24=>?_⟩ <;> (try simp [B_iff,B_not] at c24))
 | (refine Qg (id:=0) (Qx (ι:=Nat) (fun k:Nat=>⟨(upd (upd (upd (upd (upd (fun _=>.any) 0 (li cI xs)) 1 (li cI ys)) 11 (li cI xs)) 12 (.int .i64 xs.length)) 13 (.int .i64 k)),fun _=>none⟩) (fun k=>k ≤ xs.length ∧ NoneTill (neAt xs ys) k) (fun k=>xs.length - k) (0) ?_ ?_ ?_);exact ⟨Nat.zero_le _,.zero _⟩;((repeat' (first | exact Qh (by assumption) | exact Qj | refine Qk ?_ ?_ | refine Qi ?_)) <;> simp [-zg,-zd,↓Qb,↓Qa,go_sem]);rintro k ⟨hk,ht⟩)
 | (refine ⟨k + 1,⟨by omega,ht.succ (by simp [neAt];first | exact c24 | (simp_all [Prod.ext_iff];done) | simp_all)⟩,by first | omega | (simp;done) | (simp;omega),?_⟩;((repeat' (first | exact Qh (by assumption) | exact Qj | refine Qk ?_ ?_ | refine Qi ?_)) <;> simp [-zg,-zd,↓Qb,↓Qa,go_sem]))
 | (refine Qg ?_)
 | (refine Qs ?_;simp [-zg,-zd,↓Qb,↓Qa,go_sem])
 | (refine Qr ?_;simp [-zg,-zd,↓Qb,↓Qa,go_sem])
 | (refine Qq ?_;simp [-zg,-zd,↓Qb,↓Qa,go_sem,Tryz.results26])
 | (intro hx;refine zA ?_)
 | (refine ⟨?_,?_⟩ <;> refine zA ?_)
 | (intro hx;constructor <;> intro hs)
 | (constructor <;> intro hs)
 | (refine ⟨?_,fun hs=>?_⟩;refine zA ?_)
 | (refine ⟨fun hs=>?_,?_⟩;rotate_left;refine zA ?_;rotate_left)))
  all_goals (first
 | (rintro rfl;simp at c10;done)
 | (rintro rfl;simp at c24;done)
 | (rintro rfl;exact c24 rfl)
 | exact zahv (by omega) ht (by omega)
 | skip)
@[go_sem] def zakr:Con:=.pure fun
  | [.list n_xs c_xs,.list n_ys c_ys]=>((Is cI n_xs c_xs) ∧ (Is cI n_ys c_ys),.bool (decide ((de cI c_xs) = (de cI c_ys))))
  | _=>(False,.any)
theorem sEqR_pureC_ok:ConOk Tryz.prog 26 zakr:=by
  refine ⟨Qo Tryz.func26 (by decide) rfl,fun args h=>?_⟩
  revert h
  dsimp only
  split
  · intro h
    obtain ⟨⟨xs,rfl,rfl⟩,⟨ys,rfl,rfl⟩⟩:=h
    try simp only [Qm] at *
    exact ⟨sEqR_pure xs ys,by simp [go_sem]⟩
  · intro h
    exact h.elim
@[go_sem] def Γrf2:FuncId → Con:=ext Γrf1 26 zakr
theorem Γrf2_ok:∀ g,ConOk Tryz.prog g (Γrf2 g):=Qn Ju sEqR_pureC_ok

theorem same_pure (i:Int) (k:Int) (bl:List Int) (sets:List (List Int)) (h0:0 ≤ i) (h1:i < bl.length) (g0:0 ≤ k) (g1:k < bl.length) (hs:sets.length = bl.length):Pure Tryz.prog 25 [.int .i64 i,.int .i64 k,.pd [li cI bl],.pd [li cL sets]] (.bool (decide (nth bl i.toNat = nth bl k.toNat) && decide (nth sets i.toNat = nth sets k.toNat))):=by
  refine Pure.of_walk Tryz.func25 rfl (by simp [Tryz.f25]) (by simp [-zd,go_sem]) fun B hK=>?_
  have i1:i.toNat < bl.length:=(by omega);have i2:i.toNat < sets.length:=(by omega);have k1:k.toNat < bl.length:=(by omega);have k2:k.toNat < sets.length:=(by omega);have h2:i < (sets.length:Int):=(by omega);have g2:k < (sets.length:Int):=(by omega)
  all_goals (repeat' (first
 | refine Qt ?_
 | refine Qc (id:=0) Γrf2_ok [] (by kernel_rfl) ?_;simp [-zg,-zd,↓Qb,↓Qa,go_sem]
 | refine Xm (id:=1) Γrf2_ok mixed [16] [2,3] (by kernel_rfl) (by kernel_rfl) (by simp [-zg,-zd,↓Qb,↓Qa,go_sem,h0,h1,h2,g0,g1,g2,i1,Qe i1,zsP i1,i2,Qe i2,zsP i2,k1,Qe k1,zsP k1,k2,Qe k2,zsP k2]) ?_;simp [-zg,-zd,↓Qb,↓Qa,go_sem,h0,h1,h2,g0,g1,g2,i1,Qe i1,zsP i1,i2,Qe i2,zsP i2,k1,Qe k1,zsP k1,k2,Qe k2,zsP k2];try (refine ⟨fun s1a=>?_,fun s1a=>?_⟩ <;> (try simp [B_iff,B_not] at s1a) <;> try (refine ⟨fun s1b=>?_,fun s1b=>?_⟩ <;> (try simp [B_iff,B_not] at s1b)))
 | (refine Qg ?_)
 | (refine Qs ?_;simp [-zg,-zd,↓Qb,↓Qa,go_sem])
 | (refine Qr ?_;simp [-zg,-zd,↓Qb,↓Qa,go_sem])
 | (refine Qq ?_;simp [-zg,-zd,↓Qb,↓Qa,go_sem,Tryz.results25])
 | (intro hx;refine zA ?_)
 | (refine ⟨?_,?_⟩ <;> refine zA ?_)
 | (intro hx;constructor <;> intro hs)
 | (constructor <;> intro hs)
 | (refine ⟨?_,fun hs=>?_⟩;refine zA ?_)
 | (refine ⟨fun hs=>?_,?_⟩;rotate_left;refine zA ?_;rotate_left)))
  all_goals (first
 | (simp_all;done)
 | (intros;simp_all;done)
 | skip)
@[go_sem] def zakq:Con:=.pure fun
  | [.int .i64 i,.int .i64 k,.pd [.list n_bl c_bl],.pd [.list n_sets c_sets]]=>((Is cI n_bl c_bl) ∧ (Is cL n_sets c_sets) ∧ (0 ≤ i) ∧ (i < (de cI c_bl).length) ∧ (0 ≤ k) ∧ (k < (de cI c_bl).length) ∧ ((de cL c_sets).length = (de cI c_bl).length),.bool (decide (nth (de cI c_bl) i.toNat = nth (de cI c_bl) k.toNat) && decide (nth (de cL c_sets) i.toNat = nth (de cL c_sets) k.toNat)))
  | _=>(False,.any)
theorem same_pureC_ok:ConOk Tryz.prog 25 zakq:=by
  refine ⟨Qo Tryz.func25 (by decide) rfl,fun args h=>?_⟩
  revert h
  dsimp only
  split
  · intro h
    obtain ⟨⟨bl,rfl,rfl⟩,⟨sets,rfl,rfl⟩,h0,h1,g0,g1,hs⟩:=h
    try simp only [Qm] at *
    exact ⟨same_pure _ _ bl sets h0 h1 g0 g1 hs,by simp [go_sem]⟩
  · intro h
    exact h.elim
@[go_sem] def Γrf3:FuncId → Con:=ext Γrf2 25 zakq
theorem Zb:∀ g,ConOk Tryz.prog g (Γrf3 g):=Qn Γrf2_ok same_pureC_ok

set_option maxHeartbeats 1000000 in
theorem grouped_pure (n:Int) (bl:List Int) (sets:List (List Int)) (hs:sets.length = bl.length) (hn:n = bl.length) (hm:bl.length ≤ 1048576):Pure Tryz.prog 24 [.int .i64 n,.fn 25 [.pd [li cI bl],.pd [li cL sets]]] (fr 1 cI (numK (keyS bl sets bl.length))):=by
  refine Pure.of_walk Tryz.func24 rfl (by simp [Tryz.f24]) (by simp [-zd,go_sem]) fun B hK=>?_
  subst hn;obtain ⟨ks,hks⟩:∃ ks,keyS bl sets bl.length = ks:=⟨_,rfl⟩;have hkl:ks.length = bl.length:=(by rw [← hks,keyS_len]);have hkey:∀ i k:Nat,i < bl.length → k < bl.length → (decide (nth bl i = nth bl k) && decide (nth sets i = nth sets k)) = decide (nth ks i = nth ks k):=(by rw [← hks];exact fun i k hi hk=>keyS_same hi hk);rw [hks];have hz:distK ([]:List (List Int)) = []:=rfl
  all_goals (repeat' (first
 | refine Qt ?_
 | refine Qc (id:=0) Zb [] (by kernel_rfl) ?_;simp [-zg,-zd,↓Qb,↓Qa,go_sem]
 | refine Qc (id:=1) Zb [] (by kernel_rfl) ?_;simp [-zg,-zd,↓Qb,↓Qa,go_sem,(by omega:8 * (bl.length:Int) ≤ 281474976710656),(by omega:(bl.length:Int) ≤ 9223372036854775807),make_cI];try ((refine Jh 5 rfl fun b cp j _ hcp hj=>?_))
 | refine Qc (id:=2) Zb [] (by kernel_rfl) ?_;simp [-zg,-zd,↓Qb,↓Qa,go_sem]
 | refine Qc (id:=3) Zb [] (by kernel_rfl) ?_;simp [-zg,-zd,↓Qb,↓Qa,go_sem]
 | refine Qc (id:=4) Zb [] (by kernel_rfl) ?_;simp [-zg,-zd,↓Qb,↓Qa,go_sem]
 | refine Qc (id:=5) Zb [] (by kernel_rfl) ?_;simp [-zg,-zd,↓Qb,↓Qa,go_sem]
 | ((have hgl:=grpZ_len (ks:=ks) (n:=bl.length) (i:=i) (by omega) (by omega));(have hgs:=grpZ_setC (ks:=ks) (n:=bl.length) c14 (by omega)));refine Qc (id:=6) Zb [] (by kernel_rfl) ?_;simp [-zg,-zd,↓Qb,↓Qa,go_sem,hgl,hgs,c14,Qe c14,zsP c14,(show i < bl.length + j by omega),(show i + 1 ≤ bl.length + j by omega)]
 | refine Qc (id:=7) Zb [] (by kernel_rfl) ?_;simp [-zg,-zd,↓Qb,↓Qa,go_sem]
 | refine Qc (id:=8) Zb [] (by kernel_rfl) ?_;simp [-zg,-zd,↓Qb,↓Qa,go_sem]
 | refine Qc (id:=9) Zb [] (by kernel_rfl) ?_;simp [-zg,-zd,↓Qb,↓Qa,go_sem]
 | ((have hkk:=hkey i k c14 (by omega));(have hkb:k < bl.length:=(by omega)));refine Qc (id:=10) Zb [] (by kernel_rfl) ?_;simp [-zg,-zd,↓Qb,↓Qa,go_sem,c14,Qe c14,zsP c14,hkb,Qe hkb,zsP hkb,hs,hkk,(show (i:Int) < (bl.length:Int) by omega),(show (k:Int) < (bl.length:Int) by omega)]
 | ((have hgl:=zamb (ks:=ks) (n:=bl.length) c14 (by omega) ((distK (ks.take i)).length:Int));(have hgk:=grpC_lo (ks:=ks) (n:=bl.length) c14 (by omega) c22 ((distK (ks.take i)).length:Int));(have hgs:=grpC_set (ks:=ks) (n:=bl.length) c14 (by omega) ((distK (ks.take i)).length:Int)));refine Qc (id:=11) Zb [] (by kernel_rfl) ?_;simp [-zg,-zd,↓Qb,↓Qa,go_sem,hgl,hgk,hgs,c14,Qe c14,zsP c14,(show k < bl.length by omega),(show i < bl.length + j by omega),(show i + 1 ≤ bl.length + j by omega),(show k < bl.length + j by omega),(show k + 1 ≤ bl.length + j by omega)]
 | refine Qc (id:=12) Zb [] (by kernel_rfl) ?_;simp [-zg,-zd,↓Qb,↓Qa,go_sem,wrapS (k:=k) (by omega)]
 | ((first | (have hO:=grpC_old (ks:=ks) (n:=bl.length) c14 (by omega) c22 c27;obtain ⟨e5,e6',hne⟩:=hO;have e6:((distK (ks.take (i + 1))).length:Int) = ((distK (ks.take i)).length:Int):=(by rw [e6']);have hgl:=zamb (ks:=ks) (n:=bl.length) c14 (by omega) (nth (Qy ks i) k);have hga:=grpC_at (ks:=ks) (n:=bl.length) c14 (by omega) (nth (Qy ks i) k)) | (have hki:k = i:=(by omega);rw [hki] at ht;have hO:=grpC_new (ks:=ks) (n:=bl.length) c14 (by omega) ht;obtain ⟨e5,e6'⟩:=hO;have e6:((distK (ks.take (i + 1))).length:Int) = ((distK (ks.take i)).length:Int) + 1:=(by rw [e6'];rfl);have hgl:=zamb (ks:=ks) (n:=bl.length) c14 (by omega) ((distK (ks.take i)).length:Int);have hga:=grpC_at (ks:=ks) (n:=bl.length) c14 (by omega) ((distK (ks.take i)).length:Int);have hne:=True.intro)));refine Qc (id:=13) Zb [] (by kernel_rfl) ?_;simp [-zg,-zd,↓Qb,↓Qa,go_sem,hgl,hga,hne,c14,Qe c14,zsP c14,(show i < bl.length + j by omega),(show i + 1 ≤ bl.length + j by omega)]
 | (have hdl:=zahw ks i (by omega));refine Qc (id:=14) Zb [] (by kernel_rfl) ?_;simp [-zg,-zd,↓Qb,↓Qa,go_sem,Xb (x:=((distK (ks.take i)).length:Int) + 1) (by omega) (by omega)]
 | refine Qc (id:=15) Zb [] (by kernel_rfl) ?_;simp [-zg,-zd,↓Qb,↓Qa,go_sem,wrapS (k:=i) (by omega)]
 | ((obtain rfl:i = bl.length:=by omega);(have hga:grpZ ks bl.length bl.length = numK ks:=(by rw [← hkl];exact grpZ_all));(have hnl:(numK ks).length = bl.length:=(by rw [Up,hkl]));(refine Jw 5 (b:=b) (all:=cat cI (numK ks) ++ zrP j .any) rfl (by simp [upd,hga]) (by omega) (by simp [Qu,hnl]) (by simp [Qu,hnl];omega) ?_));refine Qc (id:=16) Zb [] (by kernel_rfl) ?_;simp [-zg,-zd,↓Qb,↓Qa,go_sem,hnl,(Ze (f:=cI) (numK ks) (zrP j .any) (n:=bl.length) hnl.symm)]
 | refine Qd (c:=.tmp 14) ?_;simp [-zg,-zd,↓Qb,↓Qa,go_sem];try first | (refine ⟨?_,?_⟩ <;> refine zA ?_) | (refine ⟨fun c14=>?_,fun c14=>?_⟩ <;> (try simp [B_iff,B_not] at c14))
 | refine Qd (c:=.tmp 22) ?_;simp [-zg,-zd,↓Qb,↓Qa,go_sem];try first | (refine ⟨?_,?_⟩ <;> refine zA ?_) | (refine ⟨fun c22=>?_,fun c22=>?_⟩ <;> (try simp [B_iff,B_not] at c22))
 | refine Qd (c:=.tmp 27) ?_;simp [-zg,-zd,↓Qb,↓Qa,go_sem];try first | (refine ⟨?_,?_⟩ <;> refine zA ?_) | (refine ⟨fun c27=>?_,fun c27=>?_⟩ <;> (try simp [B_iff,B_not] at c27))
 | refine Qd (c:=.tmp 41) ?_;simp [-zg,-zd,↓Qb,↓Qa,go_sem];try first | (refine ⟨?_,?_⟩ <;> refine zA ?_) | (refine ⟨fun c41=>?_,fun c41=>?_⟩ <;> (try simp [B_iff,B_not] at c41))
 | (refine Qg (id:=0) (Qx (ι:=Nat) (fun i:Nat=>⟨(upd (upd (upd (upd (upd (upd (fun _=>.any) 0 (.int .i64 bl.length)) 1 (.fn 25 [.pd [li cI bl],.pd [li cL sets]])) 5 (.sl b 1 0 bl.length cp)) 6 (.int .i64 (distK (ks.take i)).length)) 12 (.int .i64 bl.length)) 13 (.int .i64 i)),upd (fun _=>none) b (some (cat cI (grpZ ks bl.length i) ++ zrP j .any))⟩) (fun i=>i ≤ bl.length) (fun i=>bl.length - i) (0) ?_ ?_ ?_);exact Nat.zero_le _;((repeat' (first | exact Qh (by assumption) | exact Qj | refine Qk ?_ ?_ | refine Qi ?_)) <;> simp [-zg,-zd,↓Qb,↓Qa,go_sem,hz,grpZ_zero]);rintro i hi)
 | (refine ⟨i + 1,by omega,by first | omega | (simp;done) | (simp;omega),?_⟩;((repeat' (first | exact Qh (by assumption) | exact Qj | refine Qk ?_ ?_ | refine Qi ?_)) <;> simp [-zg,-zd,↓Qb,↓Qa,go_sem,e5,e6]))
 | (refine Qg (id:=2) (Qx (ι:=Nat) (fun k:Nat=>⟨(upd (upd (upd (upd (upd (upd (upd (upd (upd (fun _=>.any) 0 (.int .i64 bl.length)) 1 (.fn 25 [.pd [li cI bl],.pd [li cL sets]])) 5 (.sl b 1 0 bl.length cp)) 6 (.int .i64 (distK (ks.take i)).length)) 7 (.int .i64 i)) 12 (.int .i64 bl.length)) 13 (.int .i64 i)) 20 (.int .i64 i)) 21 (.int .i64 k)),upd (fun _=>none) b (some (cat cI (grpC ks bl.length i ((distK (ks.take i)).length:Int)) ++ zrP j .any))⟩) (fun k=>k ≤ i ∧ NoneTill (fun j=>decide (nth ks i = nth ks j)) k) (fun k=>i - k) (0) ?_ ?_ ?_);exact ⟨Nat.zero_le _,.zero _⟩;((repeat' (first | exact Qh (by assumption) | exact Qj | refine Qk ?_ ?_ | refine Qi ?_)) <;> simp [-zg,-zd,↓Qb,↓Qa,go_sem]);rintro k ⟨hk,ht⟩)
 | (refine ⟨k + 1,⟨by omega,ht.succ (by simp_all)⟩,by first | omega | (simp;done) | (simp;omega),?_⟩;((repeat' (first | exact Qh (by assumption) | exact Qj | refine Qk ?_ ?_ | refine Qi ?_)) <;> simp [-zg,-zd,↓Qb,↓Qa,go_sem]))
 | (refine Qg ?_)
 | (refine Qs ?_;simp [-zg,-zd,↓Qb,↓Qa,go_sem])
 | (refine Qr ?_;simp [-zg,-zd,↓Qb,↓Qa,go_sem])
 | (refine Qq ?_;simp [-zg,-zd,↓Qb,↓Qa,go_sem,Tryz.results24])
 | (intro hx;refine zA ?_)
 | (refine ⟨?_,?_⟩ <;> refine zA ?_)
 | (intro hx;constructor <;> intro hs)
 | (constructor <;> intro hs)
 | (refine ⟨?_,fun hs=>?_⟩;refine zA ?_)
 | (refine ⟨fun hs=>?_,?_⟩;rotate_left;refine zA ?_;rotate_left)))
@[go_sem] def zafd:Con:=.pure fun
  | [.int .i64 n,.fn 25 [.pd [.list n_bl c_bl],.pd [.list n_sets c_sets]]]=>((Is cI n_bl c_bl) ∧ (Is cL n_sets c_sets) ∧ ((de cL c_sets).length = (de cI c_bl).length) ∧ (n = (de cI c_bl).length) ∧ ((de cI c_bl).length ≤ 1048576),fr 1 cI (numK (keyS (de cI c_bl) (de cL c_sets) (de cI c_bl).length)))
  | _=>(False,.any)
theorem zamc:ConOk Tryz.prog 24 zafd:=by
  refine ⟨Qo Tryz.func24 (by decide) rfl,fun args h=>?_⟩
  revert h
  dsimp only
  split
  · intro h
    obtain ⟨⟨bl,rfl,rfl⟩,⟨sets,rfl,rfl⟩,hs,hn,hm⟩:=h
    try simp only [Qm] at *
    exact ⟨grouped_pure _ bl sets hs hn hm,by simp [go_sem]⟩
  · intro h
    exact h.elim
@[go_sem] def Γrf4:FuncId → Con:=ext Γrf3 24 zafd
theorem Γrf4_ok:∀ g,ConOk Tryz.prog g (Γrf4 g):=Qn Zb zamc

@[go_sem] def Γrf5:FuncId → Con:=ext (ext Γrf4 22 sortE) 23 compactE
theorem Jt:∀ g,ConOk Tryz.prog g (Γrf5 g):=Qn (Qn Γrf4_ok sortE_ok) compactE_ok

set_option maxHeartbeats 2000000 in
theorem refine_pure (a:List Ints2) (nx:List (List Int)) (bl:List Int) (hr:RefOk nx bl.length) (hm:bl.length ≤ 1048576):Pure Tryz.prog 11 [.st [li cP a,li cL nx],li cI bl] (fr 1 cI (refE nx bl)):=by
  refine Pure.of_walk Tryz.func11 rfl (by simp [Tryz.f11]) (by simp [-zd,go_sem]) fun B hK=>?_
  obtain ⟨S,hS⟩:∃ S,setsF nx bl bl.length = S:=⟨_,rfl⟩;have hSl:S.length = bl.length:=(by rw [← hS,setsF_len]);have hnl:nx.length = bl.length:=hr.1;have hSn:∀ i,i < bl.length → nth S i = aftE bl (nth nx i):=(by rw [← hS];exact fun i hi=>setsF_nth hi);have hkk:keyS bl S bl.length = keyF nx bl bl.length:=(by rw [← hS];exact keyS_sets nx bl _)
  all_goals (repeat' (first
 | refine Qt ?_
 | refine Qc (id:=0) Jt [] (by kernel_rfl) ?_;simp [-zg,-zd,↓Qb,↓Qa,go_sem];try (refine Xf hK 2 ?_;simp [go_sem];refine Xf hK 3 ?_;simp [go_sem])
 | refine Qc (id:=1) Jt [] (by kernel_rfl) ?_;simp [-zg,-zd,↓Qb,↓Qa,go_sem,(by omega:24 * (bl.length:Int) ≤ 281474976710656),(by omega:(bl.length:Int) ≤ 9223372036854775807)];try ((refine Zn 5 rfl fun v q0=>?_);(refine Zx v 0 (Qp ..) rfl fun b k5 j5 q1 hk5 hj5=>?_);(dsimp only at q1);(have nvb:¬ v = b:=(by rintro rfl;simp [upd] at q1));(clear q0 q1);(refine Qw (fun H1=>H1 v = some [.sl b 1 0 bl.length k5] ∧ H1 b = some (fillC oL [.nil] 1 S 0 (zrP j5 .any))) ⟨by simp [upd,nvb,zS nvb],by simp [upd,nvb,zS nvb,fill_zero,hSl]⟩ fun H1 ⟨w0,w1⟩=>?_))
 | refine Qc (id:=2) Jt [] (by kernel_rfl) ?_;simp [-zg,-zd,↓Qb,↓Qa,go_sem]
 | refine Qc (id:=3) Jt [] (by kernel_rfl) ?_;simp [-zg,-zd,↓Qb,↓Qa,go_sem]
 | refine Qc (id:=4) Jt [] (by kernel_rfl) ?_;simp [-zg,-zd,↓Qb,↓Qa,go_sem,c16,Qe c16,zsP c16]
 | ((obtain ⟨hrl,hrr⟩:=hr.2 q.1 (by omega));(have hP:Places bl.length (nth nx q.1):=hrr));refine Qc (id:=5) Jt [] (by kernel_rfl) ?_;simp [-zg,-zd,↓Qb,↓Qa,go_sem,hrl,hP];try ((refine Jh 8 rfl fun b8 c8 j8 q8 hc8 hd8=>?_);(dsimp only at q8);(have n8v:¬ b8 = v:=(by rintro rfl;rw [g1] at q8;cases q8));(have n8b:¬ b8 = b:=(by rintro rfl;rw [g2] at q8;cases q8));(clear q8);(have hpl:(pickL bl (nth nx q.1)).length = (nth nx q.1).length:=pickL_len ..);(obtain ⟨zs,hzs⟩:∃ zs,srtL (pickL bl (nth nx q.1)) = zs:=⟨_,rfl⟩);(have hzl:zs.length = (nth nx q.1).length:=(by rw [← hzs,srtL_len,hpl]));(have hso:sortOk (nth nx q.1).length (cat cI (pickL bl (nth nx q.1)) ++ zrP j8 D.any):=⟨_,_,hpl.symm,rfl,by omega⟩);(have hsc:sortC (nth nx q.1).length (cat cI (pickL bl (nth nx q.1)) ++ zrP j8 D.any) = cat cI zs ++ zrP j8 D.any:=(by rw [← hpl,sortC_eq,hzs]));(have hcz:Lib.compact zs = nth S q.1:=(by rw [hSn q.1 (by omega),← cmpE_aft,← hzs];rfl)))
 | refine Qc (id:=6) Jt [] (by kernel_rfl) ?_;simp [-zg,-zd,↓Qb,↓Qa,go_sem,hso,hsc];try ((refine Jw 8 (b:=b8) (all:=cat cI zs ++ zrP j8 .any) rfl (by simp [upd]) (by omega) (by simp [Qu,hzl]) (by simp [Qu,hzl];omega) ?_);(refine Qw (fun H3=>H3 v = some [.sl b 1 0 bl.length k5] ∧ H3 b = some (fillC oL [.nil] 1 S q.1 (zrP j5 .any))) ⟨by simp [upd,n8v,zS n8v,g1],by simp [upd,n8b,zS n8b,g2]⟩ fun H3 ⟨u0,u1⟩=>?_))
 | refine Zu (id:=7) Jt mixed [(v,[.sl b 1 0 bl.length k5])] [] [] (by kernel_rfl) (by kernel_rfl) (by simp [-zg,-zd,↓Qb,↓Qa,go_sem,u0,u1,hzl,hcz,hrl,c16,Qe c16,zsP c16,nvb,zS nvb,(Ze (f:=cI) zs (zrP j8 D.any) (n:=(nth nx q.1).length) hzl.symm),(show q.1 < bl.length by omega),(show q.1 < S.length by omega),(show 0 < S.length - q.1 by omega),(show q.1 < bl.length + j5 by omega),(show q.1 + 1 ≤ bl.length + j5 by omega)]) (by simp [-zg,-zd,↓Qb,↓Qa,go_sem,u0,u1,hzl,hcz,hrl,c16,Qe c16,zsP c16,nvb,zS nvb,(Ze (f:=cI) zs (zrP j8 D.any) (n:=(nth nx q.1).length) hzl.symm),(show q.1 < bl.length by omega),(show q.1 < S.length by omega),(show 0 < S.length - q.1 by omega),(show q.1 < bl.length + j5 by omega),(show q.1 + 1 ≤ bl.length + j5 by omega)]) ?_;simp [-zg,-zd,↓Qb,↓Qa,go_sem,u0,u1,hzl,hcz,hrl,c16,Qe c16,zsP c16,nvb,zS nvb,(Ze (f:=cI) zs (zrP j8 D.any) (n:=(nth nx q.1).length) hzl.symm),(show q.1 < bl.length by omega),(show q.1 < S.length by omega),(show 0 < S.length - q.1 by omega),(show q.1 < bl.length + j5 by omega),(show q.1 + 1 ≤ bl.length + j5 by omega)];try ((refine Qw (fun H9=>H9 v = some [.sl b 1 0 bl.length k5] ∧ H9 b = some (fillC oL [.nil] 1 S (q.1 + 1) (zrP j5 .any))) ⟨by simp [upd,nvb,zS nvb,u0],by simp [upd,nvb,zS nvb,u0]⟩ fun H9 ⟨t1,t2⟩=>?_))
 | refine Qc (id:=8) Jt [] (by kernel_rfl) ?_;simp [-zg,-zd,↓Qb,↓Qa,go_sem,wrapS (k:=q.1) (by omega)]
 | ((have g3:q.2 b = some (cat oL S ++ zrP j5 .any):=(by rw [g2,show q.1 = S.length by omega,fill_all])));refine Qc (id:=9) Jt [] (by kernel_rfl) ?_;simp [-zg,-zd,↓Qb,↓Qa,go_sem,g1,g3,(Ze (f:=oL) S (zrP j5 D.any) (n:=bl.length) hSl.symm),hSl,hm,hkk,refE]
 | refine Qd (c:=.tmp 16) ?_;simp [-zg,-zd,↓Qb,↓Qa,go_sem];try first | (refine ⟨?_,?_⟩ <;> refine zA ?_) | (refine ⟨fun c16=>?_,fun c16=>?_⟩ <;> (try simp [B_iff,B_not] at c16))
 | (refine Qg (id:=0) (Qx (ι:=Nat × Hp) (fun q:Nat × Hp=>⟨(upd (upd (upd (upd (upd (upd (fun _=>.any) 2 (.pd [li cP a,li cL nx])) 3 (.pd [li cI bl])) 5 (.ptr v 0)) 13 (li cL nx)) 14 (.int .i64 nx.length)) 15 (.int .i64 q.1)),q.2⟩) (fun q=>q.1 ≤ nx.length ∧ q.2 v = some [.sl b 1 0 bl.length k5] ∧ q.2 b = some (fillC oL [.nil] 1 S q.1 (zrP j5 .any))) (fun q=>nx.length - q.1) ((0,H1)) ?_ ?_ ?_);exact ⟨Nat.zero_le _,w0,w1⟩;((repeat' (first | exact Qh (by assumption) | exact Qj | refine Qk ?_ ?_ | refine Qi ?_)) <;> simp [-zg,-zd,↓Qb,↓Qa,go_sem]);rintro q ⟨g0,g1,g2⟩)
 | (refine ⟨(q.1 + 1,H9),⟨by dsimp only;omega,t1,t2⟩,by first | omega | (simp;done) | (simp;omega),?_⟩;((repeat' (first | exact Qh (by assumption) | exact Qj | refine Qk ?_ ?_ | refine Qi ?_)) <;> simp [-zg,-zd,↓Qb,↓Qa,go_sem]))
 | (refine Qg ?_)
 | (refine Qs ?_;simp [-zg,-zd,↓Qb,↓Qa,go_sem])
 | (refine Qr ?_;simp [-zg,-zd,↓Qb,↓Qa,go_sem])
 | (refine Qq ?_;simp [-zg,-zd,↓Qb,↓Qa,go_sem,Tryz.results11])
 | (intro hx;refine zA ?_)
 | (refine ⟨?_,?_⟩ <;> refine zA ?_)
 | (intro hx;constructor <;> intro hs)
 | (constructor <;> intro hs)
 | (refine ⟨?_,fun hs=>?_⟩;refine zA ?_)
 | (refine ⟨fun hs=>?_,?_⟩;rotate_left;refine zA ?_;rotate_left)))
@[go_sem] def zagh:Con:=.pure fun
  | [.st [.list n_a c_a,.list n_nx c_nx],.list n_bl c_bl]=>((Is cP n_a c_a) ∧ (Is cL n_nx c_nx) ∧ (Is cI n_bl c_bl) ∧ (RefOk (de cL c_nx) (de cI c_bl).length) ∧ ((de cI c_bl).length ≤ 1048576),fr 1 cI (refE (de cL c_nx) (de cI c_bl)))
  | _=>(False,.any)
theorem zand:ConOk Tryz.prog 11 zagh:=by
  refine ⟨Qo Tryz.func11 (by decide) rfl,fun args h=>?_⟩
  revert h
  dsimp only
  split
  · intro h
    obtain ⟨⟨a,rfl,rfl⟩,⟨nx,rfl,rfl⟩,⟨bl,rfl,rfl⟩,hr,hm⟩:=h
    try simp only [Qm] at *
    exact ⟨refine_pure a nx bl hr hm,by simp [go_sem]⟩
  · intro h
    exact h.elim
@[go_sem] def Γrf6:FuncId → Con:=ext Γrf5 11 zagh
theorem zakf:∀ g,ConOk Tryz.prog g (Γrf6 g):=Qn Jt zand

def rfR (a:List Ints2) (b:List (List Int)) (p:List Int):List Int:=if Vm.B (GraphOk a b ∧ Xt p ∧ p.length = a.length) = true then refE b p else []

theorem specRb_pure (a:List Ints2) (b:List (List Int)) (p:List Int)  : Pure Tryz.prog 6 [.st [li cP a,li cL b],li cI p] (.tup [fr 1 cI (rfR a b p),.bool (Vm.B (GraphOk a b ∧ Xt p ∧ p.length = a.length))]):=by
  refine Pure.of_walk Tryz.func6 rfl (by simp [Tryz.f6]) (by simp [-zd,go_sem]) fun B hK=>?_
  cases hg:Vm.B (GraphOk a b ∧ Xt p ∧ p.length = a.length)
  all_goals (repeat' (first
 | refine Qt ?_
 | refine Qc (id:=0) zakf [] (by kernel_rfl) ?_;simp [-zg,-zd,↓Qb,↓Qa,go_sem];try (refine Xf hK 2 ?_;simp [go_sem])
 | refine Qc (id:=1) zakf [] (by kernel_rfl) ?_;simp [-zg,-zd,↓Qb,↓Qa,go_sem,hg]
 | refine Qc (id:=2) zakf [] (by kernel_rfl) ?_;simp [-zg,-zd,↓Qb,↓Qa,go_sem,rfR,hg,fr]
 | ((have hQ:GraphOk a b ∧ Xt p ∧ p.length = a.length:=(by rw [B_iff] at hg;exact hg));(have hr:RefOk b p.length:=(by rw [hQ.2.2];exact hQ.1.refR));(have hpl:p.length ≤ 1048576:=(by have:=hQ.1.2.1;omega)));refine Qc (id:=3) zakf [] (by kernel_rfl) ?_;simp [-zg,-zd,↓Qb,↓Qa,go_sem,hr,hpl,rfR,hg]
 | refine Qd (c:=.tmp 9) ?_;simp [-zg,-zd,↓Qb,↓Qa,go_sem];try first | (refine ⟨?_,?_⟩ <;> refine zA ?_) | (refine ⟨fun c9=>?_,fun c9=>?_⟩ <;> (try simp [B_iff,B_not] at c9))
 | (refine Qg ?_)
 | (refine Qs ?_;simp [-zg,-zd,↓Qb,↓Qa,go_sem])
 | (refine Qr ?_;simp [-zg,-zd,↓Qb,↓Qa,go_sem])
 | (refine Qq ?_;simp [-zg,-zd,↓Qb,↓Qa,go_sem,Tryz.results6])
 | (intro hx;refine zA ?_)
 | (refine ⟨?_,?_⟩ <;> refine zA ?_)
 | (intro hx;constructor <;> intro hs)
 | (constructor <;> intro hs)
 | (refine ⟨?_,fun hs=>?_⟩;refine zA ?_)
 | (refine ⟨fun hs=>?_,?_⟩;rotate_left;refine zA ?_;rotate_left)))
  all_goals (first
 | (simp [rfR,hg,fr,cat];done)
 | skip)
@[go_sem] def zaec:Con:=.pure fun
  | [.st [.list n_a c_a,.list n_b c_b],.list n_p c_p]=>((Is cP n_a c_a) ∧ (Is cL n_b c_b) ∧ (Is cI n_p c_p),.tup [fr 1 cI (rfR (de cP c_a) (de cL c_b) (de cI c_p)),.bool (Vm.B (GraphOk (de cP c_a) (de cL c_b) ∧ Xt (de cI c_p) ∧ (de cI c_p).length = (de cP c_a).length))])
  | _=>(False,.any)
theorem zaga:ConOk Tryz.prog 6 zaec:=by
  refine ⟨Qo Tryz.func6 (by decide) rfl,fun args h=>?_⟩
  revert h
  dsimp only
  split
  · intro h
    obtain ⟨⟨a,rfl,rfl⟩,⟨b,rfl,rfl⟩,⟨p,rfl,rfl⟩⟩:=h
    try simp only [Qm] at *
    exact ⟨specRb_pure a b p,by simp [go_sem]⟩
  · intro h
    exact h.elim
@[go_sem] def Γrf7:FuncId → Con:=ext Γrf6 6 zaec
theorem Γrf7_ok:∀ g,ConOk Tryz.prog g (Γrf7 g):=Qn zakf zaga

theorem implRb_pure (a:List Ints2) (b:List (List Int)) (p:List Int)  : Pure Tryz.prog 5 [.st [li cP a,li cL b],li cI p] (.tup [if Vm.B (GraphOk a b ∧ Xt p ∧ p.length = a.length) = true then fr 1 cI (refE b p) else .nil,.bool (Vm.B (GraphOk a b ∧ Xt p ∧ p.length = a.length))]):=by
  refine Pure.of_walk Tryz.func5 rfl (by simp [Tryz.f5]) (by simp [-zd,go_sem]) fun B hK=>?_
  cases hg:Vm.B (GraphOk a b ∧ Xt p ∧ p.length = a.length)
  all_goals (repeat' (first
 | refine Qt ?_
 | refine Qc (id:=0) Γrf7_ok [] (by kernel_rfl) ?_;simp [-zg,-zd,↓Qb,↓Qa,go_sem];try (refine Xf hK 2 ?_;simp [go_sem])
 | refine Qc (id:=1) Γrf7_ok [] (by kernel_rfl) ?_;simp [-zg,-zd,↓Qb,↓Qa,go_sem,hg]
 | refine Qc (id:=2) Γrf7_ok [] (by kernel_rfl) ?_;simp [-zg,-zd,↓Qb,↓Qa,go_sem]
 | ((have hQ:GraphOk a b ∧ Xt p ∧ p.length = a.length:=(by rw [B_iff] at hg;exact hg));(have hr:RefOk b p.length:=(by rw [hQ.2.2];exact hQ.1.refR));(have hpl:p.length ≤ 1048576:=(by have:=hQ.1.2.1;omega)));refine Qc (id:=3) Γrf7_ok [] (by kernel_rfl) ?_;simp [-zg,-zd,↓Qb,↓Qa,go_sem,hr,hpl]
 | refine Qd (c:=.tmp 9) ?_;simp [-zg,-zd,↓Qb,↓Qa,go_sem];try first | (refine ⟨?_,?_⟩ <;> refine zA ?_) | (refine ⟨fun c9=>?_,fun c9=>?_⟩ <;> (try simp [B_iff,B_not] at c9))
 | (refine Qg ?_)
 | (refine Qs ?_;simp [-zg,-zd,↓Qb,↓Qa,go_sem])
 | (refine Qr ?_;simp [-zg,-zd,↓Qb,↓Qa,go_sem])
 | (refine Qq ?_;simp [-zg,-zd,↓Qb,↓Qa,go_sem,Tryz.results5])
 | (intro hx;refine zA ?_)
 | (refine ⟨?_,?_⟩ <;> refine zA ?_)
 | (intro hx;constructor <;> intro hs)
 | (constructor <;> intro hs)
 | (refine ⟨?_,fun hs=>?_⟩;refine zA ?_)
 | (refine ⟨fun hs=>?_,?_⟩;rotate_left;refine zA ?_;rotate_left)))
  all_goals (first
 | (simp [hg,fr];done)
 | skip)
theorem rb_nilfr {f:FuncId} {args:List D} {bo:Bool} (h:Pure Tryz.prog f args (.tup [.nil,.bool bo])):Pure Tryz.prog f args (.tup [.fr 1 0 [],.bool bo]):=by
  intro μ w vs hb hr
  refine (h μ w vs hb hr).mono fun ex w' hq=>?_
  obtain ⟨v,fl,h1,h2,h3⟩:=hq
  refine ⟨v,fl,h1,?_,h3⟩
  rw [Rep] at h2 ⊢
  obtain ⟨vs,e1,h2⟩:=h2
  refine ⟨vs,e1,?_⟩
  rw [RepL] at h2 ⊢
  obtain ⟨v1,vs1,f1,f2,e2,e3,r1,r2⟩:=h2
  refine ⟨v1,vs1,f1,f2,e2,e3,?_,r2⟩
  simp only [Rep] at r1 ⊢
  exact ⟨Nat.zero_le _,by simp,.inl ⟨trivial,r1.1,r1.2⟩⟩
theorem implRbF (a:List Ints2) (b:List (List Int)) (p:List Int):Pure Tryz.prog 5 [.st [li cP a,li cL b],li cI p] (.tup [fr 1 cI (rfR a b p),.bool (Vm.B (GraphOk a b ∧ Xt p ∧ p.length = a.length))]):=by
  have h:=implRb_pure a b p
  unfold rfR
  cases hu:Vm.B (GraphOk a b ∧ Xt p ∧ p.length = a.length) with
  | true=>rw [hu] at h;simpa using h
  | false =>
    rw [hu] at h
    have:=rb_nilfr (by simpa using h)
    simpa [fr,cat] using this

@[go_sem] def implRbFC:Con:=.pure fun
  | [.st [.list n_a c_a,.list n_b c_b],.list n_p c_p]=>((Is cP n_a c_a) ∧ (Is cL n_b c_b) ∧ (Is cI n_p c_p),.tup [fr 1 cI (rfR (de cP c_a) (de cL c_b) (de cI c_p)),.bool (Vm.B (GraphOk (de cP c_a) (de cL c_b) ∧ Xt (de cI c_p) ∧ (de cI c_p).length = (de cP c_a).length))])
  | _=>(False,.any)
theorem implRbFC_ok:ConOk Tryz.prog 5 implRbFC:=by
  refine ⟨Qo Tryz.func5 (by decide) rfl,fun args h=>?_⟩
  revert h
  dsimp only
  split
  · intro h
    obtain ⟨⟨a,rfl,rfl⟩,⟨b,rfl,rfl⟩,⟨p,rfl,rfl⟩⟩:=h
    try simp only [Qm] at *
    exact ⟨implRbF a b p,by simp [go_sem]⟩
  · intro h
    exact h.elim
end
end Go.Proofs.YtmiimodggpjkmaaGreat.Vm

