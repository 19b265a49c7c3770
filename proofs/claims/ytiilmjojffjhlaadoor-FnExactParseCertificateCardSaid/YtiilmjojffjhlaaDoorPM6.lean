/-
  impl.ParseCertificate; the walk of the law. Condition: the library's variables hold what the program's text lays.
-/
import Derived.Test.YtiilmjojffjhlaaDoorPM5
namespace Go.Proofs.YtiilmjojffjhlaaDoor.Vm
open Go
open List renaming getD_eq_getElem?_getD → zg,drop_one → zd
open Ne renaming symm → zS
noncomputable section
set_option linter.unusedVariables false
set_option linter.unusedSimpArgs false
set_option maxRecDepth 200000

@[go_sem] def Γpc8:FuncId → Con:=Γpc7
theorem Γpc8_ok:∀ g,ConI Tryd.prog LibOk g (Γpc8 g):=fun g=>(Γpc7_ok g).toI

@[go_sem] def zaab:Con:=.pure fun
  | [.st [.list n_a c_a]]=>((Is cI n_a c_a),.str (certT (de cI c_a)))
  | _=>(False,.any)
theorem zaaj:ConI Tryd.prog LibOk 14 zaab:=by
  refine ⟨Qz Tryd.func14 (by decide) rfl,fun args h=>?_⟩
  revert h
  dsimp only
  split
  · intro h
    obtain ⟨a,rfl,rfl⟩:=h
    try simp only [Xt] at *
    exact ⟨zaav a,by simp [go_sem]⟩
  · intro h
    exact h.elim
@[go_sem] def Γpc9:FuncId → Con:=ext Γpc8 14 zaab
theorem Γpc9_ok:∀ g,ConI Tryd.prog LibOk g (Γpc9 g):=ext_okI Γpc8_ok zaaj

@[go_sem] def zaat:Con:=.pure fun
  | [.str s]=>((s.length ≤ 1048576),.tup [.str (headW s),fr 1 cI (certR s)])
  | _=>(False,.any)
theorem zacc:ConI Tryd.prog LibOk 12 zaat:=by
  refine ⟨Qz Tryd.func12 (by decide) rfl,fun args h=>?_⟩
  revert h
  dsimp only
  split
  · intro h
    have hl:=h
    skip
    exact ⟨readWords_pure _ hl,by simp [go_sem]⟩
  · intro h
    exact h.elim
@[go_sem] def Γpc10:FuncId → Con:=ext Γpc9 12 zaat
theorem Zc:∀ g,ConI Tryd.prog LibOk g (Γpc10 g):=ext_okI Γpc9_ok zacc

set_option maxHeartbeats 2000000 in

theorem implParse_pure (s:List UInt8) (hl:s.length ≤ 1048576):PureI Tryd.prog LibOk 5 [.str s] (if okC (certR s) s = true then .tup [.st [fr 1 cI (certR s)],.bool true] else .tup [.st [.nil],.bool false]):=by
  refine PureI.of_walk Tryd.func5 rfl (by simp [Tryd.f5]) (by simp [-zd,go_sem]) LibOk.frm fun B hK hB=>?_
  have hrl:=zabz s;have hpl:=zadg 32 s [];rcases okC_cases (certR s) s with ⟨he,hf,ho⟩ | ⟨he,hf,ho⟩ | ⟨he,hf,ho⟩ <;> rw [ho] <;> simp only [if_true,Bool.false_eq_true,if_false]
  all_goals (repeat' (first
 | refine Xe ?_
 | refine Ql (id:=0) Zc hB [] (by kernel_rfl) ?_;simp [-zg,-zd,↓Qb,↓Qa,go_sem]
 | refine Ql (id:=1) Zc hB [] (by kernel_rfl) ?_;simp [-zg,-zd,↓Qb,↓Qa,go_sem,hl];try (refine zaed hK 5 ?_;simp [go_sem])
 | refine Ql (id:=2) Zc hB [] (by kernel_rfl) ?_;simp [-zg,-zd,↓Qb,↓Qa,go_sem,(show (certR s).length ≤ 1048576 by omega)];try ((refine AW_box1 6 rfl fun p x j cp hp hx hpx hcp hj=>?_);(clear hp hx))
 | refine Ql (id:=3) Zc hB [17] (by kernel_rfl) ?_;simp [-zg,-zd,↓Qb,↓Qa,go_sem,hpx,zS hpx,eq_true he,hf];try (refine ⟨fun s3a=>?_,fun s3a=>?_⟩ <;> (try simp [B_iff,B_not] at s3a) <;> try (refine ⟨fun s3b=>?_,fun s3b=>?_⟩ <;> (try simp [B_iff,B_not] at s3b)))
 | refine Ql (id:=3) Zc hB [17] (by kernel_rfl) ?_;simp [-zg,-zd,↓Qb,↓Qa,go_sem,hpx,zS hpx,he,hf];try (refine ⟨fun s3a=>?_,fun s3a=>?_⟩ <;> (try simp [B_iff,B_not] at s3a) <;> try (refine ⟨fun s3b=>?_,fun s3b=>?_⟩ <;> (try simp [B_iff,B_not] at s3b)))
 | refine Ql (id:=4) Zc hB [] (by kernel_rfl) ?_;simp [-zg,-zd,↓Qb,↓Qa,go_sem]
 | refine Ql (id:=5) Zc hB [] (by kernel_rfl) ?_;simp [-zg,-zd,↓Qb,↓Qa,go_sem,hpx,zS hpx];try ((refine AW_own1 2 (X:=cat cI (certR s) ++ List.replicate j D.any) rfl (by simp [upd,hpx,zS hpx]) (by simp [Qw]) (by simp [Qw];omega) fun r hr=>?_))
 | refine Qm (c:=.tmp 22) ?_;simp [-zg,-zd,↓Qb,↓Qa,go_sem];try first | (refine ⟨?_,?_⟩ <;> refine zA ?_) | (refine ⟨fun c22=>?_,fun c22=>?_⟩ <;> (try simp [B_iff,B_not] at c22))
 | (refine Qq ?_)
 | (refine Xd ?_;simp [-zg,-zd,↓Qb,↓Qa,go_sem])
 | (refine Xc ?_;simp [-zg,-zd,↓Qb,↓Qa,go_sem])
 | (refine Xf ?_;simp [-zg,-zd,↓Qb,↓Qa,go_sem,Tryd.results5])
 | (intro hx;refine zA ?_)
 | (refine ⟨?_,?_⟩ <;> refine zA ?_)
 | (intro hx;constructor <;> intro hs)
 | (constructor <;> intro hs)
 | (refine ⟨?_,fun hs=>?_⟩;refine zA ?_)
 | (refine ⟨fun hs=>?_,?_⟩;rotate_left;refine zA ?_;rotate_left)))
  all_goals (first
 | (exact absurd (show s = [] by assumption) he)
 | skip)
@[go_sem] def zaau:Con:=.pure fun
  | [.str s]=>((s.length ≤ 1048576),if okC (certR s) s = true then .tup [.st [fr 1 cI (certR s)],.bool true] else .tup [.st [.nil],.bool false])
  | _=>(False,.any)
theorem zace:ConI Tryd.prog LibOk 5 zaau:=by
  refine ⟨Qz Tryd.func5 (by decide) rfl,fun args h=>?_⟩
  revert h
  dsimp only
  split
  · intro h
    have hl:=h
    skip
    exact ⟨implParse_pure _ hl,by simp [go_sem]⟩
  · intro h
    exact h.elim
@[go_sem] def Γpc11:FuncId → Con:=ext Γpc10 5 zaau
theorem Qo:∀ g,ConI Tryd.prog LibOk g (Γpc11 g):=ext_okI Zc zace

theorem okC_read (R:List Int) (t:List UInt8):okC R t = (readC R t).2 ∧ (okC R t = true → (readC R t).1 = R):=by
  unfold okC readC
  by_cases h:t = [] ∨ ¬ certT R = t
  · rw [if_pos h]
    have:¬ (¬ t = [] ∧ certT R = t):=fun k=>h.elim k.1 fun q=>q k.2
    exact ⟨decide_eq_false this,fun k=>absurd (of_decide_eq_true k) this⟩
  · rw [if_neg h]
    exact ⟨decide_eq_true ⟨fun k=>h (.inl k),Classical.byContradiction fun k=>h (.inr k)⟩,fun _=>rfl⟩
theorem okC_same (t:List UInt8):okC (specR t) t = okC (certR t) t:=by rw [(okC_read _ t).1,(okC_read (certR t) t).1,read_same]
theorem specR_eq {t:List UInt8} (h:okC (certR t) t = true):specR t = certR t:=by
  rw [← (okC_read _ t).2 h,← read_same,(okC_read _ t).2 (by rw [okC_same,h])]

set_option maxHeartbeats 4000000 in

theorem lawPC (s:List UInt8)  : PureI Tryd.prog LibOk 3 [.str s] (.bool true):=by
  refine PureI.of_walk Tryd.func3 rfl (by simp [Tryd.f3]) (by simp [-zd,go_sem]) LibOk.frm fun B hK hB=>?_
  have hrl:=zabz s;have hpl:=zadg 32 s [];(have hS:=okC_same s);(have hE:okC (certR s) s = true → specR s = certR s:=specR_eq);cases hq:okC (certR s) s
  all_goals (repeat' (first
 | refine Xe ?_
 | refine Ql (id:=0) Qo hB [] (by kernel_rfl) ?_;simp [-zg,-zd,↓Qb,↓Qa,go_sem]
 | refine Ql (id:=1) Qo hB [] (by kernel_rfl) ?_;simp [-zg,-zd,↓Qb,↓Qa,go_sem]
 | refine Ql (id:=2) Qo hB [] (by kernel_rfl) ?_;simp [-zg,-zd,↓Qb,↓Qa,go_sem]
 | (have hl:s.length ≤ 1048576:=(by omega);have q1:(1:Int) + (certR s).length ≤ 1099511627776:=(by omega);have q2:¬ ((1:Int) + (certR s).length < 0):=(by omega));refine Ql (id:=3) Qo hB [] (by kernel_rfl) ?_;simp [-zg,-zd,↓Qb,↓Qa,go_sem,hl,hS,hq,hE];try (refine zaed hK 3 ?_;simp [go_sem])
 | refine Ql (id:=4) Qo hB [] (by kernel_rfl) ?_;simp [-zg,-zd,↓Qb,↓Qa,go_sem,hl,hq];try ((try refine AW_boxNil 5 rfl ?_);(refine AW_box1 5 rfl fun p9 y1 k1 e1 hp9 hy1 ny m1 m2=>?_);(clear hp9 hy1))
 | refine Ql (id:=5) Qo hB [28] (by kernel_rfl) ?_;simp [-zg,-zd,↓Qb,↓Qa,go_sem,hq,ny,zS ny];try (refine ⟨fun s5a=>?_,fun s5a=>?_⟩ <;> (try simp [B_iff,B_not] at s5a) <;> try (refine ⟨fun s5b=>?_,fun s5b=>?_⟩ <;> (try simp [B_iff,B_not] at s5b)))
 | refine Ql (id:=6) Qo hB [] (by kernel_rfl) ?_;simp [-zg,-zd,↓Qb,↓Qa,go_sem]
 | refine Ql (id:=7) Qo hB [] (by kernel_rfl) ?_;simp [-zg,-zd,↓Qb,↓Qa,go_sem]
 | refine Ql (id:=8) Qo hB [] (by kernel_rfl) ?_;simp [-zg,-zd,↓Qb,↓Qa,go_sem,ny,zS ny,q1,q2,(show (0:Int) ≤ 1 by omega),hl]
 | refine Ql (id:=9) Qo hB [] (by kernel_rfl) ?_;simp [-zg,-zd,↓Qb,↓Qa,go_sem]
 | refine Ql (id:=10) Qo hB [] (by kernel_rfl) ?_;simp [-zg,-zd,↓Qb,↓Qa,go_sem,ny,zS ny,q1,q2,(show (0:Int) ≤ 1 by omega),hl]
 | refine Ql (id:=11) Qo hB [] (by kernel_rfl) ?_;simp [-zg,-zd,↓Qb,↓Qa,go_sem,q2]
 | refine Ql (id:=12) Qo hB [] (by kernel_rfl) ?_;simp [-zg,-zd,↓Qb,↓Qa,go_sem]
 | refine Ql (id:=13) Qo hB [] (by kernel_rfl) ?_;simp [-zg,-zd,↓Qb,↓Qa,go_sem]
 | refine Ql (id:=14) Qo hB [] (by kernel_rfl) ?_;simp [-zg,-zd,↓Qb,↓Qa,go_sem]
 | refine Ql (id:=15) Qo hB [] (by kernel_rfl) ?_;simp [-zg,-zd,↓Qb,↓Qa,go_sem,hl,hq];try (refine zaed hK 9 ?_;simp [go_sem])
 | refine Ql (id:=16) Qo hB [53] (by kernel_rfl) ?_;simp [-zg,-zd,↓Qb,↓Qa,go_sem,hq,ny,zS ny];try (refine ⟨fun s16a=>?_,fun s16a=>?_⟩ <;> (try simp [B_iff,B_not] at s16a) <;> try (refine ⟨fun s16b=>?_,fun s16b=>?_⟩ <;> (try simp [B_iff,B_not] at s16b)))
 | refine Ql (id:=17) Qo hB [] (by kernel_rfl) ?_;simp [-zg,-zd,↓Qb,↓Qa,go_sem]
 | refine Ql (id:=18) Qo hB [] (by kernel_rfl) ?_;simp [-zg,-zd,↓Qb,↓Qa,go_sem]
 | refine Ql (id:=19) Qo hB [] (by kernel_rfl) ?_;simp [-zg,-zd,↓Qb,↓Qa,go_sem,ny,zS ny,q1,q2,(show (0:Int) ≤ 1 by omega),hl]
 | refine Ql (id:=20) Qo hB [] (by kernel_rfl) ?_;simp [-zg,-zd,↓Qb,↓Qa,go_sem,q2]
 | refine Ql (id:=21) Qo hB [] (by kernel_rfl) ?_;simp [-zg,-zd,↓Qb,↓Qa,go_sem]
 | refine Ql (id:=22) Qo hB [] (by kernel_rfl) ?_;simp [-zg,-zd,↓Qb,↓Qa,go_sem]
 | refine Ql (id:=23) Qo hB [] (by kernel_rfl) ?_;simp [-zg,-zd,↓Qb,↓Qa,go_sem]
 | refine Ql (id:=24) Qo hB [] (by kernel_rfl) ?_;simp [-zg,-zd,↓Qb,↓Qa,go_sem]
 | refine Qm (c:=.tmp 13) ?_;simp [-zg,-zd,↓Qb,↓Qa,go_sem];try first | (refine ⟨?_,?_⟩ <;> refine zA ?_) | (refine ⟨fun c13=>?_,fun c13=>?_⟩ <;> (try simp [B_iff,B_not] at c13))
 | refine Qm (c:=.tmp 32) ?_;simp [-zg,-zd,↓Qb,↓Qa,go_sem];try first | (refine ⟨?_,?_⟩ <;> refine zA ?_) | (refine ⟨fun c32=>?_,fun c32=>?_⟩ <;> (try simp [B_iff,B_not] at c32))
 | refine Qm (c:=.tmp 40) ?_;simp [-zg,-zd,↓Qb,↓Qa,go_sem];try first | (refine ⟨?_,?_⟩ <;> refine zA ?_) | (refine ⟨fun c40=>?_,fun c40=>?_⟩ <;> (try simp [B_iff,B_not] at c40))
 | refine Qm (c:=.tmp 43) ?_;simp [-zg,-zd,↓Qb,↓Qa,go_sem];try first | (refine ⟨?_,?_⟩ <;> refine zA ?_) | (refine ⟨fun c43=>?_,fun c43=>?_⟩ <;> (try simp [B_iff,B_not] at c43))
 | refine Qm (c:=.tmp 57) ?_;simp [-zg,-zd,↓Qb,↓Qa,go_sem];try first | (refine ⟨?_,?_⟩ <;> refine zA ?_) | (refine ⟨fun c57=>?_,fun c57=>?_⟩ <;> (try simp [B_iff,B_not] at c57))
 | refine Qm (c:=.tmp 62) ?_;simp [-zg,-zd,↓Qb,↓Qa,go_sem];try first | (refine ⟨?_,?_⟩ <;> refine zA ?_) | (refine ⟨fun c62=>?_,fun c62=>?_⟩ <;> (try simp [B_iff,B_not] at c62))
 | refine Qm (c:=.tmp 65) ?_;simp [-zg,-zd,↓Qb,↓Qa,go_sem];try first | (refine ⟨?_,?_⟩ <;> refine zA ?_) | (refine ⟨fun c65=>?_,fun c65=>?_⟩ <;> (try simp [B_iff,B_not] at c65))
 | (refine Qq ?_)
 | (refine Xd ?_;simp [-zg,-zd,↓Qb,↓Qa,go_sem])
 | (refine Xc ?_;simp [-zg,-zd,↓Qb,↓Qa,go_sem])
 | (refine Xf ?_;simp [-zg,-zd,↓Qb,↓Qa,go_sem,Tryd.results3])
 | (intro hx;refine zA ?_)
 | (refine ⟨?_,?_⟩ <;> refine zA ?_)
 | (intro hx;constructor <;> intro hs)
 | (constructor <;> intro hs)
 | (refine ⟨?_,fun hs=>?_⟩;refine zA ?_)
 | (refine ⟨fun hs=>?_,?_⟩;rotate_left;refine zA ?_;rotate_left)))

end
end Go.Proofs.YtiilmjojffjhlaaDoor.Vm

