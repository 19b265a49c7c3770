/-
  What a walk over abstract states is simplified by; tables of contracts; lists of numbers. No conditions.
-/
import Derived.Test.YtiilmjojffjhlaaGreatDoorKTy
import Derived.IntWalk
namespace Go.Proofs.YtiilmjojffjhlaaGreatDoor.Vm
open Go
set_option linter.unusedVariables false

theorem upd_upd {α:Type} (f:Nat → α) (a:Nat) (x y:α):upd (upd f a x) a y = upd f a y:=by
  funext b;by_cases e:b = a
  · subst e;rw [Qe,Qe]
  · rw [Qd e,Qd e,Qd e]
attribute [go_sem] opMin opLenD opLenM opMapD opLookup opUpdate zaen mpE_mp isMp_mp V VD stepG Zl step taken isLen grabs grab owns ownsL putD backT backOk opF Jc opLenT opLen zadq zafl zacg opBin opUn opNil zaat Jh zaak zafm zaaj zafk zaem zabr Xz opLoadM zahi anyOut zafp opBox Xo zafn placesD fillD setSeg zaaf zaai zacq opCapT opCap opCopy opAppZ emp nilD srcD appPre isStr opStore Xa upd intOp strOp boolOp eqB4 pickD look cst leafD leaf Qv resD retQ dat datL Vb Op.operands Call.operands Exit.thenA Exit.inBlockA deref isSl isEq isNilK slTy closed Xt NS bad bnd bndL upd_upd
@[go_sem] theorem gd0 {α:Type} (x0 d:α) (l:List α):(x0 :: l).getD 0 d = x0:=rfl
@[go_sem] theorem oa0 (x0:D) (l:List D):Qy (x0 :: l) 0 = x0:=rfl
@[go_sem] theorem gd1 {α:Type} (x0 x1 d:α) (l:List α):(x0 :: x1 :: l).getD 1 d = x1:=rfl
@[go_sem] theorem oa1 (x0 x1:D) (l:List D):Qy (x0 :: x1 :: l) 1 = x1:=rfl
@[go_sem] theorem gd2 {α:Type} (x0 x1 x2 d:α) (l:List α):(x0 :: x1 :: x2 :: l).getD 2 d = x2:=rfl
@[go_sem] theorem oa2 (x0 x1 x2:D) (l:List D):Qy (x0 :: x1 :: x2 :: l) 2 = x2:=rfl
@[go_sem] theorem gd3 {α:Type} (x0 x1 x2 x3 d:α) (l:List α):(x0 :: x1 :: x2 :: x3 :: l).getD 3 d = x3:=rfl
@[go_sem] theorem oa3 (x0 x1 x2 x3:D) (l:List D):Qy (x0 :: x1 :: x2 :: x3 :: l) 3 = x3:=rfl
@[go_sem] theorem gd4 {α:Type} (x0 x1 x2 x3 x4 d:α) (l:List α):(x0 :: x1 :: x2 :: x3 :: x4 :: l).getD 4 d = x4:=rfl
@[go_sem] theorem oa4 (x0 x1 x2 x3 x4:D) (l:List D):Qy (x0 :: x1 :: x2 :: x3 :: x4 :: l) 4 = x4:=rfl
@[go_sem] theorem gd5 {α:Type} (x0 x1 x2 x3 x4 x5 d:α) (l:List α):(x0 :: x1 :: x2 :: x3 :: x4 :: x5 :: l).getD 5 d = x5:=rfl
@[go_sem] theorem oa5 (x0 x1 x2 x3 x4 x5:D) (l:List D):Qy (x0 :: x1 :: x2 :: x3 :: x4 :: x5 :: l) 5 = x5:=rfl
@[go_sem] theorem gd6 {α:Type} (x0 x1 x2 x3 x4 x5 x6 d:α) (l:List α):(x0 :: x1 :: x2 :: x3 :: x4 :: x5 :: x6 :: l).getD 6 d = x6:=rfl
@[go_sem] theorem oa6 (x0 x1 x2 x3 x4 x5 x6:D) (l:List D):Qy (x0 :: x1 :: x2 :: x3 :: x4 :: x5 :: x6 :: l) 6 = x6:=rfl
@[go_sem] theorem gd7 {α:Type} (x0 x1 x2 x3 x4 x5 x6 x7 d:α) (l:List α):(x0 :: x1 :: x2 :: x3 :: x4 :: x5 :: x6 :: x7 :: l).getD 7 d = x7:=rfl
@[go_sem] theorem oa7 (x0 x1 x2 x3 x4 x5 x6 x7:D) (l:List D):Qy (x0 :: x1 :: x2 :: x3 :: x4 :: x5 :: x6 :: x7 :: l) 7 = x7:=rfl
@[go_sem] theorem gd8 {α:Type} (x0 x1 x2 x3 x4 x5 x6 x7 x8 d:α) (l:List α):(x0 :: x1 :: x2 :: x3 :: x4 :: x5 :: x6 :: x7 :: x8 :: l).getD 8 d = x8:=rfl
@[go_sem] theorem oa8 (x0 x1 x2 x3 x4 x5 x6 x7 x8:D) (l:List D):Qy (x0 :: x1 :: x2 :: x3 :: x4 :: x5 :: x6 :: x7 :: x8 :: l) 8 = x8:=rfl
@[go_sem] theorem gd9 {α:Type} (x0 x1 x2 x3 x4 x5 x6 x7 x8 x9 d:α) (l:List α):(x0 :: x1 :: x2 :: x3 :: x4 :: x5 :: x6 :: x7 :: x8 :: x9 :: l).getD 9 d = x9:=rfl
@[go_sem] theorem oa9 (x0 x1 x2 x3 x4 x5 x6 x7 x8 x9:D) (l:List D):Qy (x0 :: x1 :: x2 :: x3 :: x4 :: x5 :: x6 :: x7 :: x8 :: x9 :: l) 9 = x9:=rfl
@[go_sem] theorem gd10 {α:Type} (x0 x1 x2 x3 x4 x5 x6 x7 x8 x9 x10 d:α) (l:List α):(x0 :: x1 :: x2 :: x3 :: x4 :: x5 :: x6 :: x7 :: x8 :: x9 :: x10 :: l).getD 10 d = x10:=rfl
@[go_sem] theorem oa10 (x0 x1 x2 x3 x4 x5 x6 x7 x8 x9 x10:D) (l:List D):Qy (x0 :: x1 :: x2 :: x3 :: x4 :: x5 :: x6 :: x7 :: x8 :: x9 :: x10 :: l) 10 = x10:=rfl
@[go_sem] theorem ss0 (x0 y:D) (l:List D):stSeg (x0 :: l) 0 [y] = y :: l:=rfl
@[go_sem] theorem ss1 (x0 x1 y:D) (l:List D):stSeg (x0 :: x1 :: l) 1 [y] = x0 :: y :: l:=rfl
@[go_sem] theorem ss2 (x0 x1 x2 y:D) (l:List D):stSeg (x0 :: x1 :: x2 :: l) 2 [y] = x0 :: x1 :: y :: l:=rfl
@[go_sem] theorem ss3 (x0 x1 x2 x3 y:D) (l:List D):stSeg (x0 :: x1 :: x2 :: x3 :: l) 3 [y] = x0 :: x1 :: x2 :: y :: l:=rfl
@[go_sem] theorem ss4 (x0 x1 x2 x3 x4 y:D) (l:List D):stSeg (x0 :: x1 :: x2 :: x3 :: x4 :: l) 4 [y] = x0 :: x1 :: x2 :: x3 :: y :: l:=rfl
@[go_sem] theorem ss5 (x0 x1 x2 x3 x4 x5 y:D) (l:List D):stSeg (x0 :: x1 :: x2 :: x3 :: x4 :: x5 :: l) 5 [y] = x0 :: x1 :: x2 :: x3 :: x4 :: y :: l:=rfl
@[go_sem] theorem ss6 (x0 x1 x2 x3 x4 x5 x6 y:D) (l:List D):stSeg (x0 :: x1 :: x2 :: x3 :: x4 :: x5 :: x6 :: l) 6 [y] = x0 :: x1 :: x2 :: x3 :: x4 :: x5 :: y :: l:=rfl
@[go_sem] theorem ss7 (x0 x1 x2 x3 x4 x5 x6 x7 y:D) (l:List D):stSeg (x0 :: x1 :: x2 :: x3 :: x4 :: x5 :: x6 :: x7 :: l) 7 [y] = x0 :: x1 :: x2 :: x3 :: x4 :: x5 :: x6 :: y :: l:=rfl
@[go_sem] theorem ssA (x0 x1 y z:D) (l:List D):stSeg (x0 :: x1 :: l) 0 [y,z] = y :: z :: l:=rfl
@[go_sem] theorem ssB (x0 x1 x2 y z u:D) (l:List D):stSeg (x0 :: x1 :: x2 :: l) 0 [y,z,u] = y :: z :: u :: l:=rfl
@[go_sem] theorem ssC (x0 x1 x2 x3 y z u v:D) (l:List D):stSeg (x0 :: x1 :: x2 :: x3 :: l) 0 [y,z,u,v] = y :: z :: u :: v :: l:=rfl
def ext (Γ:FuncId → Con) (f:FuncId) (C:Con):FuncId → Con:=fun g=>if g = f then C else Γ g
attribute [go_sem] ext
theorem Qu {P:Program} {Γ:FuncId → Con} (h:∀ g,ConOk P g (Γ g)) {f:FuncId} {C:Con} (hc:ConOk P f C):∀ g,ConOk P g (ext Γ f C g):=fun g=>by
  unfold ext
  split
  · rename_i e;subst e;exact hc
  · exact h g
def Γ0:FuncId → Con:=fun _=>.none
attribute [go_sem] Γ0
theorem Γ0_ok:∀ g,ConOk Tryz.prog g (Γ0 g):=fun _=>trivial
theorem Qn {P:Program} {f:FuncId} {fn:Func} (h:P.funcs[f]? = some fn) (h1:fn.name ≠ "runtime.NumGoroutine") (h2:fn.body.isSome = true):Jz P f:=⟨fn,h,h1,h2⟩
theorem mixed:Tryz.prog.follows .mixedOrders = true:=by kernel_rfl

theorem wrap_in {x:Int} (h1:-9223372036854775808 ≤ x) (h2:x ≤ 9223372036854775807):IntKind.i64.wrap x = x:=by
  rw [IntKind.wrap_i64];omega
@[go_sem] theorem drop_getD {α:Type} (l:List α) (k i:Nat) (d:α):(l.drop k).getD i d = l.getD (k + i) d:=by simp [List.getD_eq_getElem?_getD]
theorem Qm {S:St} {T':Nat → D} {H':Hp} {t:Nat} {d:D} (h:Sub S ⟨T',H'⟩) (hd:S.T t = d):Sub S ⟨upd T' t d,H'⟩ :=
  ⟨fun t'=>by simp only [upd];split;(rename_i e;subst e;exact .inr hd.symm);exact h.T t',h.H⟩
theorem Qj {S:St} {H:Hp} (h:∀ b cs,H b = some cs → S.H b = some cs):Sub S ⟨fun _=>.any,H⟩:=⟨fun _=>.inl rfl,h⟩
theorem AW_nilfr (t sz:Nat) {P:Program} {B:Base} {n:Nat} {c:Code} {Q:Exit → St → Prop} {S:St} (hT:S.T t = .nil) (h:AW P B n c Q ⟨upd S.T t (.fr sz 0 []),S.H⟩):AW P B n c Q S:=fun a w μ fp N hR=>by
  obtain ⟨fp1,h1⟩:=hR.grab t
  rw [hT,List.nil_append,List.nil_append] at h1
  have e:grab S.T t = S.T:=grab_no (by rw [hT];rfl)
  rw [e] at h1
  have h2:R B n ⟨S.T,S.H⟩ [.fr sz 0 []] [a.tmps.getD t undef] a w μ fp1 N:=by
    have hb:=h1.bg
    simp only [RepL] at hb
    obtain ⟨v,vs',f1,f2,e1,e2,r1,e3,e4⟩:=hb
    cases e1
    simp only [Rep] at r1
    refine h1.rebag' ?_ (by simp [bndL,bnd])
    rw [e2,r1.1,e4]
    simp only [RepL,Rep]
    exact ⟨_,[],[],[],rfl,rfl,⟨Nat.zero_le _,by simp,.inl ⟨by simp,by simp,r1.2⟩⟩,rfl,rfl⟩
  obtain ⟨fp3,h3⟩:=h2.putback
  exact h a w μ fp3 N h3
theorem Qk {S:St} {H:Hp} (h:S.H = H):Sub S ⟨fun _=>.any,H⟩:=⟨fun _=>.inl rfl,fun _ _ k=>by rw [h];exact k⟩
theorem AW_len (t:Nat) {P:Program} {B:Base} {n:Nat} {c:Code} {Q:Exit → St → Prop} {S:St} {m:Nat} {cs:List D} (hT:S.T t = .list m cs) (h:m ≤ 9223372036854775807 → AW P B n c Q S):AW P B n c Q S:=fun a w μ fp N hR=>by
  have:=hR.tm t
  rw [hT] at this
  simp only [Rep] at this
  exact h (by have:=this.2.1;unfold maxLen at this;omega) a w μ fp N hR
theorem AW_lenP (t i:Nat) {P:Program} {B:Base} {n:Nat} {c:Code} {Q:Exit → St → Prop} {S:St} {m:Nat} {cs ds:List D} (hT:S.T t = .pd ds ∧ ds[i]? = some (.list m cs)) (h:m ≤ 9223372036854775807 → AW P B n c Q S):AW P B n c Q S:=fun a w μ fp N hR=>by
  have:=hR.tm t
  rw [hT.1] at this
  simp only [Rep] at this
  obtain ⟨_,_,_,vs,_,_,_,hl⟩:=this
  obtain ⟨v,_,hv⟩:=hl.get hT.2
  simp only [Rep] at hv
  exact h (by have:=hv.2.1;unfold maxLen at this;omega) a w μ fp N hR
theorem wrapS {k:Nat} (h:k < 9223372036854775807):IntKind.i64.wrap ((k:Int) + 1) = ((k + 1:Nat):Int):=by
  rw [wrap_in (by omega) (by omega)];rfl
theorem Ql {T:Nat → D} {H:Hp}:Sub ⟨T,H⟩ ⟨fun _=>.any,H⟩:=⟨fun _=>.inl rfl,fun _ _ h=>h⟩
end Go.Proofs.YtiilmjojffjhlaaGreatDoor.Vm

