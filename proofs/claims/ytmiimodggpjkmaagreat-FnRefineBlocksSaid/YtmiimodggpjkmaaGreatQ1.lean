import Derived.Test.YtmiimodggpjkmaaGreatF7
import Derived.Test.YtmiimodggpjkmaaGreatVm15
/-
  Traces' kit; lists cloned; marks of lists. No conditions.
-/
namespace Go.Proofs.YtmiimodggpjkmaaGreat.Vm
open Go
set_option linter.unusedVariables false
set_option linter.unusedSimpArgs false
set_option maxRecDepth 200000

noncomputable def Γg1:FuncId → Con:=Γ50
attribute [go_sem] Γg1
theorem Γg1_ok:∀ g,ConOk Tryz.prog g (Γg1 g):=Γ50_ok

noncomputable def Γg2:FuncId → Con:=Γg1
attribute [go_sem] Γg2
theorem Γg2_ok:∀ g,ConOk Tryz.prog g (Γg2 g):=Γg1_ok

noncomputable def Γg3:FuncId → Con:=Γg2
attribute [go_sem] Γg3
theorem Γg3_ok:∀ g,ConOk Tryz.prog g (Γg3 g):=Γg2_ok

noncomputable def Γg4:FuncId → Con:=Γg3
attribute [go_sem] Γg4
theorem Γg4_ok:∀ g,ConOk Tryz.prog g (Γg4 g):=Γg3_ok

@[go_sem] theorem cat_isEmpty {α:Type} {f:α → List D} {sz:Nat} [Wide f sz] (xs:List α):(cat f xs).isEmpty = xs.isEmpty:=by
  rw [Bool.eq_iff_iff,List.isEmpty_iff,List.isEmpty_iff]
  have:=cat_nil_iff (f:=f) xs
  rw [this]
noncomputable def Γg5:FuncId → Con:=Γg4
attribute [go_sem] Γg5
theorem Γg5_ok:∀ g,ConOk Tryz.prog g (Γg5 g):=Γg4_ok

noncomputable def Γg6:FuncId → Con:=Γg5
attribute [go_sem] Γg6
theorem Γg6_ok:∀ g,ConOk Tryz.prog g (Γg6 g):=Γg5_ok

def marks (k:Int) (n:Nat):List Int:=(List.range n).map fun (i:Nat)=>k + i
theorem zakb (k:Int) (n:Nat):(marks k n).length = n:=by simp [marks]
def mk (k:Int) (xs:List Int) (i:Nat):List Int:=marks k i ++ xs.drop i
@[go_sem] theorem cat_drop_app1 {α:Type} {f:α → List D} [Wide f 1] (xs:List α) (ys:List D):(cat f xs ++ ys).drop xs.length = ys:=by
  have:=Qu (f:=f) xs
  rw [Nat.mul_one] at this
  rw [← this,List.drop_left'];rfl

noncomputable def Γg7:FuncId → Con:=Γg6
attribute [go_sem] Γg7
theorem Γg7_ok:∀ g,ConOk Tryz.prog g (Γg7 g):=Γg6_ok

def heldI (k:Int) (xs:List Int):Int:=if xs = marks k xs.length then k + xs.length else -1
@[go_sem] theorem zaiw (k:Int) (n:Nat):heldI k (marks k n) = k + n:=by simp [heldI,zakb]
@[go_sem] theorem heldI_nil (k:Int):heldI k [] = k:=by simp [heldI,marks]
noncomputable def Γg8:FuncId → Con:=Γg7
attribute [go_sem] Γg8
theorem Γg8_ok:∀ g,ConOk Tryz.prog g (Γg8 g):=Γg7_ok

section
variable {P:Program} {B:Base} {n:Nat} {c:Code} {Q:Exit → St → Prop} {S:St}
theorem zamw (t:Nat) {ds es:List D} (hT:S.T t = .box ds) (he:∀ (μ:Nat → Nat) (I:Nat → Prop) (w:World) (vs:List Value) (f:List Nat),RepL μ I w ds vs f → RepL μ I w es vs f) (hb:∀ N,bndL N ds → bndL N es)
    (h:AW P B n c Q ⟨upd S.T t (.box es),S.H⟩):AW P B n c Q S:=fun a w μ fp N hR=>by
  obtain ⟨fp1,h1⟩:=hR.grab t
  rw [hT,List.nil_append,List.nil_append] at h1
  have h2:R B n ⟨grab S.T t,S.H⟩ [.box es] [a.tmps.getD t undef] a w μ fp1 N:=by
    have hb1:=h1.bg
    simp only [RepL,Rep] at hb1 ⊢
    obtain ⟨v,vs',f1,f2,e1,e2,⟨b,cells,f,q1,q2,q3,q4⟩,e3⟩:=hb1
    refine h1.rebag' ?_ (by have:=h1.bB;simp only [bndL,bnd] at this ⊢;exact ⟨hb N this.1,trivial⟩)
    simp only [RepL,Rep]
    exact ⟨v,vs',f1,f2,e1,e2,⟨b,cells,f,q1,q2,he _ _ _ _ _ q3,q4⟩,e3⟩
  obtain ⟨fp3,h3⟩:=h2.putback
  have e:upd (grab S.T t) t (.box es) = upd S.T t (.box es):=by
    funext y
    by_cases ey:y = t
    · subst ey;rw [Qp,Qp]
    · rw [Ql ey,Ql ey]
      simp only [grab]
      split
      · rw [Ql ey]
      · rfl
  rw [e] at h3
  exact h a w μ fp3 N h3
theorem rep_nilfr {μ:Nat → Nat} {I:Nat → Prop} {w:World} {v:Value} {f:List Nat} (h:Rep μ I w .nil v f):Rep μ I w (.fr 1 0 []) v f:=by
  simp only [Rep] at h ⊢
  exact ⟨Nat.zero_le _,by simp,.inl ⟨trivial,h.1,h.2⟩⟩
theorem AW_boxNil0 (t:Nat) {d:D} (hT:S.T t = .box [.nil,d]) (h:AW P B n c Q ⟨upd S.T t (.box [.fr 1 0 [],d]),S.H⟩):AW P B n c Q S :=
  zamw t hT (fun μ I w vs f hr=>by
    simp only [RepL] at hr ⊢
    obtain ⟨v,vs',f1,f2,e1,e2,r1,r2⟩:=hr
    exact ⟨v,vs',f1,f2,e1,e2,rep_nilfr r1,r2⟩) (fun N hb=>by simp only [bndL,bnd] at hb ⊢;exact ⟨trivial,hb.2⟩) h
theorem AW_boxNil1 (t:Nat) {d:D} (hT:S.T t = .box [d,.nil]) (h:AW P B n c Q ⟨upd S.T t (.box [d,.fr 1 0 []]),S.H⟩):AW P B n c Q S :=
  zamw t hT (fun μ I w vs f hr=>by
    simp only [RepL] at hr ⊢
    obtain ⟨v,vs',f1,f2,e1,e2,r1,v2,vs2,g1,g2,e3,e4,r2,r3⟩:=hr
    exact ⟨v,vs',f1,f2,e1,e2,r1,v2,vs2,g1,g2,e3,e4,rep_nilfr r2,r3⟩) (fun N hb=>by simp only [bndL,bnd] at hb ⊢;exact ⟨hb.1,trivial,trivial⟩) h
theorem AW_box2z (t:Nat) {z1 z2 m1 m2:Nat} {c1 c2:List D} (hT:S.T t = .box [.fr z1 m1 c1,.fr z2 m2 c2])
    (h:∀ p x y k1 k2 cp1 cp2,S.H p = none → S.H x = none → S.H y = none → ¬ p = x → ¬ p = y → ¬ x = y → m1 ≤ cp1 → cp1 * z1 ≤ m1 * z1 + k1 → m2 ≤ cp2 → cp2 * z2 ≤ m2 * z2 + k2 →
      AW P B n c Q ⟨upd S.T t (.ptr p 0),upd (upd (upd S.H p (some [.sl x z1 0 m1 cp1,.sl y z2 0 m2 cp2])) x (some (c1 ++ List.replicate k1 .any))) y (some (c2 ++ List.replicate k2 .any))⟩):AW P B n c Q S:=by
  refine Zn t hT fun p hp=>?_
  refine Zx p 0 (all:=[.fr z1 m1 c1,.fr z2 m2 c2]) (Qp ..) rfl fun x cp1 k1 hx hc1 hd1=>?_
  have hxp:¬ p = x:=by
    intro e;subst e;dsimp only at hx;rw [Qp] at hx;cases hx
  refine Zx p 1 (all:=[.sl x z1 0 m1 cp1,.fr z2 m2 c2]) ?_ rfl fun y cp2 k2 hy hc2 hd2=>?_
  · dsimp only;rw [Ql hxp,Qp];rfl
  · have hyx:¬ x = y:=by
      intro e;subst e;dsimp only at hy;rw [Qp] at hy;cases hy
    have hyp:¬ p = y:=by
      intro e;subst e;dsimp only at hy;rw [Ql hxp,Qp] at hy;cases hy
    have hx0:S.H x = none:=by dsimp only at hx;rw [Ql (fun e=>hxp e.symm)] at hx;exact hx
    have hy0:S.H y = none:=by dsimp only at hy;rw [Ql (fun e=>hyx e.symm),Ql (fun e=>hyp e.symm),Ql (fun e=>hyp e.symm)] at hy;exact hy
    have:=h p x y k1 k2 cp1 cp2 hp hx0 hy0 hxp hyp hyx hc1 hd1 hc2 hd2
    have e:upd (upd (upd (upd (upd S.H p (some [.fr z1 m1 c1,.fr z2 m2 c2])) p (some ([D.fr z1 m1 c1,.fr z2 m2 c2].set 0 (.sl x z1 0 m1 cp1)))) x (some (c1 ++ List.replicate k1 .any))) p (some ([D.sl x z1 0 m1 cp1,.fr z2 m2 c2].set 1 (.sl y z2 0 m2 cp2)))) y (some (c2 ++ List.replicate k2 .any))
        = upd (upd (upd S.H p (some [.sl x z1 0 m1 cp1,.sl y z2 0 m2 cp2])) x (some (c1 ++ List.replicate k1 .any))) y (some (c2 ++ List.replicate k2 .any)):=by
      funext z
      by_cases e1:z = y
      · subst e1;rw [Qp,Qp]
      · by_cases e2:z = p
        · subst e2;rw [Ql e1,Qp,Ql e1,Ql hxp,Qp];rfl
        · by_cases e3:z = x
          · subst e3;rw [Ql e1,Ql e2,Qp,Ql e1,Qp]
          · rw [Ql e1,Ql e2,Ql e3,Ql e2,Ql e2,Ql e1,Ql e3,Ql e2]
    dsimp only at this ⊢
    rw [e]
    exact this
end

noncomputable def Γg9:FuncId → Con:=Γg8
attribute [go_sem] Γg9
theorem Γg9_ok:∀ g,ConOk Tryz.prog g (Γg9 g):=Γg8_ok

def heldL (k:Int) (a b:List Int):Int:=if heldI k a < 0 then -1 else if heldI (heldI k a) b < 0 then -1 else heldI (heldI k a) b
@[go_sem] theorem heldL_marks (k:Int) (n m:Nat) (h:0 ≤ k):heldL k (marks k n) (marks (k + n) m) = k + n + m:=by
  rw [heldL,zaiw,if_neg (by omega),zaiw,if_neg (by omega)]
@[go_sem] theorem heldL_nn (k:Int) (h:0 ≤ k):heldL k [] [] = k:=by rw [heldL,heldI_nil,if_neg (by omega),heldI_nil,if_neg (by omega)]
@[go_sem] theorem heldL_nm (k:Int) (m:Nat) (h:0 ≤ k):heldL k [] (marks k m) = k + m:=by rw [heldL,heldI_nil,if_neg (by omega),zaiw,if_neg (by omega)]
noncomputable def Γg10:FuncId → Con:=Γg9
attribute [go_sem] Γg10
theorem Γg10_ok:∀ g,ConOk Tryz.prog g (Γg10 g):=Γg9_ok
@[go_sem] theorem Ze {α:Type} {f:α → List D} [Wide f 1] (xs:List α) (ys:List D) {n:Nat} (h:n = xs.length):(cat f xs ++ ys).take n = cat f xs:=by subst h;exact Jo xs ys
@[go_sem] theorem cat_drop_app1c {α:Type} {f:α → List D} [Wide f 1] (xs:List α) (ys:List D) {n:Nat} (h:n = xs.length):(cat f xs ++ ys).drop n = ys:=by subst h;exact cat_drop_app1 xs ys
attribute [go_sem] zakb

def mkLL (k:Int):List (List Int) → List (List Int)
  | []=>[]
  | x :: xs=>marks k x.length :: mkLL (k + x.length) xs
def mkPP (k:Int):List Ints2 → List Ints2
  | []=>[]
  | x :: xs=>(marks k x.1.length,marks (k + x.1.length) x.2.length) :: mkPP (k + (x.1.length + x.2.length:Nat)) xs
@[go_sem] theorem mkLL_len:∀ (k:Int) (xs:List (List Int)),(mkLL k xs).length = xs.length
  | _,[]=>rfl
  | k,x :: xs=>by simp [mkLL,mkLL_len _ xs]
@[go_sem] theorem mkPP_len:∀ (k:Int) (xs:List Ints2),(mkPP k xs).length = xs.length
  | _,[]=>rfl
  | k,x :: xs=>by simp [mkPP,mkPP_len _ xs]
theorem nth_zero {α:Type} [Inhabited α] (x:α) (xs:List α):nth (x :: xs) 0 = x:=rfl
theorem nth_succ {α:Type} [Inhabited α] (x:α) (xs:List α) (i:Nat):nth (x :: xs) (i + 1) = nth xs i:=rfl
theorem zajz {α:Type} (m:α → Nat) (x:α) (xs:List α) (i:Nat):msum m (x :: xs) (i + 1) = m x + msum m xs i:=by simp [msum]
@[go_sem] theorem msum_mkLL:∀ (k:Int) (xs:List (List Int)) (i:Nat),msum mL (mkLL k xs) i = msum mL xs i
  | _,[],i=>rfl
  | k,x :: xs,0=>rfl
  | k,x :: xs,i + 1=>by rw [mkLL,zajz,zajz,msum_mkLL _ xs i];simp [mL,zakb]
@[go_sem] theorem msum_mkPP:∀ (k:Int) (xs:List Ints2) (i:Nat),msum mP (mkPP k xs) i = msum mP xs i
  | _,[],i=>rfl
  | k,x :: xs,0=>rfl
  | k,x :: xs,i + 1=>by rw [mkPP,zajz,zajz,msum_mkPP _ xs i];simp [mP,zakb]
section
variable {α:Type} {f:α → List D}
theorem cat_set1 [Wide f 1]:∀ {xs:List α} {i:Nat} {ys:List D} {x:α} {d:D},i < xs.length → f x = [d] → (cat f xs ++ ys).set i d = cat f (xs.set i x) ++ ys
  | [],i,ys,x,d,h,hx=>by simp at h
  | z :: xs,0,ys,x,d,h,hx=>by
    rw [Xg,List.set_cons_zero,Xg,hx]
    obtain ⟨e,he⟩:∃ e,f z = [e]:=List.length_eq_one_iff.1 (by have:=Qu (f:=f) [z];rw [Xi] at this;simpa using this)
    rw [he];rfl
  | z :: xs,i + 1,ys,x,d,h,hx=>by
    rw [Xg,List.set_cons_succ,Xg]
    obtain ⟨e,he⟩:∃ e,f z = [e]:=List.length_eq_one_iff.1 (by have:=Qu (f:=f) [z];rw [Xi] at this;simpa using this)
    rw [he,List.append_assoc,List.append_assoc]
    have:=cat_set1 (xs:=xs) (i:=i) (ys:=ys) (by simpa using h) hx
    simp [this]
end

end Go.Proofs.YtmiimodggpjkmaaGreat.Vm

/-
  Marks of rows of lists, of rows of states, of graphs: contracts. No conditions.
-/
namespace Go.Proofs.YtmiimodggpjkmaaGreat.Vm
open Go
set_option linter.unusedVariables false
set_option linter.unusedSimpArgs false
set_option maxRecDepth 200000

section
variable {α:Type} {f g:α → List D} {lv sz:Nat}
theorem catO_inj [Own f g lv] [Wide g sz] [Plain g] {xs ys:List α} (h:cat f xs = cat f ys):xs = ys:=by
  have h1:=congrArg (List.map dat) h
  rw [cat_dat (f:=f) (g:=g),cat_dat (f:=f) (g:=g)] at h1
  exact cat_inj h1
theorem isO_cat [Own f g lv] [Wide g sz] [Plain g] (n:Nat) (xs:List α):Is f n (cat f xs) ↔ n = xs.length :=
  ⟨fun ⟨ys,h,e⟩=>by rw [catO_inj (f:=f) (g:=g) e,h],fun h=>⟨xs,h,rfl⟩⟩
theorem deO_cat [Own f g lv] [Wide g sz] [Plain g] (xs:List α):de f (cat f xs) = xs:=by
  unfold de
  rw [dif_pos ⟨xs,rfl⟩]
  have:∃ ys:List α,cat f xs = cat f ys:=⟨xs,rfl⟩
  exact (catO_inj (f:=f) (g:=g) (Classical.choose_spec this)).symm
theorem cat_drop_app [Wide f sz] (xs:List α) (ys:List D):(cat f xs ++ ys).drop (xs.length * sz) = ys:=by
  rw [← Qu (f:=f),List.drop_left'];rfl
end
@[go_sem] theorem isO_oL (n:Nat) (xs:List (List Int)):Is oL n (cat oL xs) ↔ n = xs.length:=isO_cat n xs
@[go_sem] theorem isO_oP (n:Nat) (xs:List Ints2):Is oP n (cat oP xs) ↔ n = xs.length:=isO_cat n xs
@[go_sem] theorem deO_oL (xs:List (List Int)):de oL (cat oL xs) = xs:=deO_cat xs
@[go_sem] theorem deO_oP (xs:List Ints2):de oP (cat oP xs) = xs:=deO_cat xs
@[go_sem] theorem cat_drop_app_oP (xs:List Ints2) (ys:List D):(cat oP xs ++ ys).drop (xs.length * 2) = ys:=cat_drop_app xs ys
@[go_sem] theorem cat_take_app_oP (xs:List Ints2) (ys:List D):(cat oP xs ++ ys).take (xs.length * 2) = cat oP xs:=Uh xs ys

noncomputable def Γg11:FuncId → Con:=Γg10
attribute [go_sem] Γg11
theorem Γg11_ok:∀ g,ConOk Tryz.prog g (Γg11 g):=Γg10_ok

noncomputable def Γg12:FuncId → Con:=Γg11
attribute [go_sem] Γg12
theorem Γg12_ok:∀ g,ConOk Tryz.prog g (Γg12 g):=Γg11_ok

noncomputable def Γg13:FuncId → Con:=Γg12
attribute [go_sem] Γg13
theorem Un:∀ g,ConOk Tryz.prog g (Γg13 g):=Γg12_ok

@[go_sem] theorem makeD_1 (x:D):makeD [x] 1 = [x]:=by rw [Js];rfl
def pickL (xs ys:List Int):List Int:=ys.map fun y=>nth xs y.toNat
@[go_sem] theorem pickL_len (xs ys:List Int):(pickL xs ys).length = ys.length:=by simp [pickL]
theorem nth_pickL {xs ys:List Int} {i:Nat} (h:i < ys.length):nth (pickL xs ys) i = nth xs (nth ys i).toNat:=by
  rw [Xa (by rw [pickL_len];exact h),Xa h];simp [pickL]
def Places (n:Nat) (ys:List Int):Prop:=∀ i,i < ys.length → 0 ≤ nth ys i ∧ nth ys i < n
theorem Places.at {n:Nat} {ys:List Int} (h:Places n ys) {i:Nat} (hi:i < ys.length):0 ≤ nth ys i ∧ nth ys i < n ∧ (nth ys i).toNat < n:=by
  obtain ⟨h1,h2⟩:=h i hi
  omega

theorem picked_pure (xs:List Int) (ys:List Int) (h0:ys.length ≤ 1048576) (h1:Places xs.length ys):Pure Tryz.prog 21 [li cI xs,li cI ys] (fr 1 cI (pickL xs ys)):=by
  refine Pure.of_walk Tryz.func21 rfl (by simp [Tryz.f21]) (by simp [-List.drop_one,go_sem]) fun B hK=>?_
  have hd:=pickL_len xs ys
  all_goals (repeat' (first
 | refine Qt ?_
 | refine Qc (id:=0) Un [] (by kernel_rfl) ?_;simp [-List.getD_eq_getElem?_getD,-List.drop_one,↓Qb,↓Qa,go_sem]
 | refine Qc (id:=1) Un [] (by kernel_rfl) ?_;simp [-List.getD_eq_getElem?_getD,-List.drop_one,↓Qb,↓Qa,go_sem,(by omega:8 * (ys.length:Int) ≤ 281474976710656),(by omega:(ys.length:Int) ≤ 9223372036854775807)];try ((refine Jh 5 rfl fun b cp j _ hcp hj=>?_))
 | refine Qc (id:=2) Un [] (by kernel_rfl) ?_;simp [-List.getD_eq_getElem?_getD,-List.drop_one,↓Qb,↓Qa,go_sem]
 | refine Qc (id:=3) Un [] (by kernel_rfl) ?_;simp [-List.getD_eq_getElem?_getD,-List.drop_one,↓Qb,↓Qa,go_sem]
 | refine Qc (id:=4) Un [] (by kernel_rfl) ?_;simp [-List.getD_eq_getElem?_getD,-List.drop_one,↓Qb,↓Qa,go_sem,c14,Qe c14,Nat.sub_pos_of_lt c14]
 | (obtain ⟨p1,p2,p3⟩:=h1.at c14);refine Qc (id:=5) Un [] (by kernel_rfl) ?_;simp [-List.getD_eq_getElem?_getD,-List.drop_one,↓Qb,↓Qa,go_sem,c14,Qe c14,Nat.sub_pos_of_lt c14,p1,p2,p3,Qe p3,Nat.sub_pos_of_lt p3,fill_len (f:=cI) (sz:=1) [.int .i64 0] (xs:=pickL xs ys) (k:=k) (by omega),hd,(show k < ys.length + j by omega),(show k + 1 ≤ ys.length + j by omega),(show stSeg (fillC cI [.int .i64 0] 1 (pickL xs ys) k (List.replicate j D.any)) k [.int .i64 (nth xs (nth ys k).toNat)] = fillC cI [.int .i64 0] 1 (pickL xs ys) (k + 1) (List.replicate j D.any) by rw [← nth_pickL c14];exact fill_cI (by omega))]
 | refine Qc (id:=6) Un [] (by kernel_rfl) ?_;simp [-List.getD_eq_getElem?_getD,-List.drop_one,↓Qb,↓Qa,go_sem,wrapS (k:=k) (by omega)]
 | ((obtain rfl:k = ys.length:=by omega);refine Jw 5 (b:=b) (all:=cat cI (pickL xs ys) ++ List.replicate j .any) rfl (by have:=fill_all (f:=cI) (sz:=1) (z:=[.int .i64 0]) (pickL xs ys) (List.replicate j D.any);rw [hd] at this;simp [go_sem,this]) (by omega) (by simp [Qu];omega) (by simp [Qu];omega) ?_);refine Qc (id:=7) Un [] (by kernel_rfl) ?_;simp [-List.getD_eq_getElem?_getD,-List.drop_one,↓Qb,↓Qa,go_sem,hd,(show (cat cI (pickL xs ys) ++ List.replicate j D.any).take ys.length = cat cI (pickL xs ys) from Ze _ _ hd.symm)]
 | refine Qd (c:=.tmp 14) ?_;simp [-List.getD_eq_getElem?_getD,-List.drop_one,↓Qb,↓Qa,go_sem];try first | (refine ⟨?_,?_⟩ <;> refine zA ?_) | (refine ⟨fun c14=>?_,fun c14=>?_⟩ <;> (try simp [B_iff,B_not] at c14))
 | (refine Qg (id:=0) (Qx (ι:=Nat) (fun k:Nat=>⟨(upd (upd (upd (upd (upd (upd (fun _=>.any) 0 (li cI xs)) 1 (li cI ys)) 5 (.sl b 1 0 ys.length cp)) 11 (li cI ys)) 12 (.int .i64 ys.length)) 13 (.int .i64 k)),upd (fun _=>none) b (some (fillC cI [.int .i64 0] 1 (pickL xs ys) k (List.replicate j .any)))⟩) (fun k=>k ≤ ys.length) (fun k=>ys.length - k) (0) ?_ ?_ ?_);exact Nat.zero_le _;((repeat' (first | exact Qh (by assumption) | exact Qj | refine Qk ?_ ?_ | refine Qi ?_)) <;> simp [-List.getD_eq_getElem?_getD,-List.drop_one,↓Qb,↓Qa,go_sem,fill_zero]);rintro k hk)
 | (refine ⟨k + 1,by omega,by first | omega | (simp;done) | (simp;omega),?_⟩;((repeat' (first | exact Qh (by assumption) | exact Qj | refine Qk ?_ ?_ | refine Qi ?_)) <;> simp [-List.getD_eq_getElem?_getD,-List.drop_one,↓Qb,↓Qa,go_sem,fill_zero]))
 | (refine Qg ?_)
 | (refine Qs ?_;simp [-List.getD_eq_getElem?_getD,-List.drop_one,↓Qb,↓Qa,go_sem])
 | (refine Qr ?_;simp [-List.getD_eq_getElem?_getD,-List.drop_one,↓Qb,↓Qa,go_sem])
 | (refine Qq ?_;simp [-List.getD_eq_getElem?_getD,-List.drop_one,↓Qb,↓Qa,go_sem,Tryz.results21])
 | (intro hx;refine zA ?_)
 | (refine ⟨?_,?_⟩ <;> refine zA ?_)
 | (intro hx;constructor <;> intro hs)
 | (constructor <;> intro hs)
 | (refine ⟨?_,fun hs=>?_⟩;refine zA ?_)
 | (refine ⟨fun hs=>?_,?_⟩;rotate_left;refine zA ?_;rotate_left)))
noncomputable def zagi:Con:=.pure fun
  | [.list n_xs c_xs,.list n_ys c_ys]=>((Is cI n_xs c_xs) ∧ (Is cI n_ys c_ys) ∧ ((de cI c_ys).length ≤ 1048576) ∧ (Places (de cI c_xs).length (de cI c_ys)),fr 1 cI (pickL (de cI c_xs) (de cI c_ys)))
  | _=>(False,.any)
attribute [go_sem] zagi
theorem zane:ConOk Tryz.prog 21 zagi:=by
  refine ⟨Qo Tryz.func21 (by decide) rfl,fun args h=>?_⟩
  revert h
  dsimp only
  split
  · intro h
    obtain ⟨⟨xs,rfl,rfl⟩,⟨ys,rfl,rfl⟩,h0,h1⟩:=h
    try simp only [Qm] at *
    exact ⟨picked_pure xs ys h0 h1,by simp [go_sem]⟩
  · intro h
    exact h.elim
noncomputable def Γg14:FuncId → Con:=ext Γg13 21 zagi
attribute [go_sem] Γg14
theorem Γg14_ok:∀ g,ConOk Tryz.prog g (Γg14 g):=Qn Un zane

noncomputable def Γg15:FuncId → Con:=Γg14
attribute [go_sem] Γg15
theorem Γg15_ok:∀ g,ConOk Tryz.prog g (Γg15 g):=Γg14_ok

noncomputable def Γg16:FuncId → Con:=Γg15
attribute [go_sem] Γg16
theorem Γg16_ok:∀ g,ConOk Tryz.prog g (Γg16 g):=Γg15_ok

noncomputable def Γg17:FuncId → Con:=Γg16
attribute [go_sem] Γg17
theorem Γg17_ok:∀ g,ConOk Tryz.prog g (Γg17 g):=Γg16_ok
end Go.Proofs.YtmiimodggpjkmaaGreat.Vm

