import Derived.Test.YtiilmjojffjhlaaGreatDoorY4
/-
  Formulas: what follows, letters, phases, pairs. No conditions.
-/
namespace Go.Proofs.YtiilmjojffjhlaaGreatDoor.Vm
open Go
open Nat renaming sub_pos_of_lt → zsP
open List renaming getD_eq_getElem?_getD → zg,drop_one → zd,replicate → zrP
open Ne renaming symm → zS
noncomputable section
set_option linter.unusedVariables false
set_option linter.unusedSimpArgs false
set_option maxRecDepth 200000

@[go_sem] def Ui:Bool → D:=fun x=>.bool x
def zabi (bs:List Tree) (s:Int) (t:Int):Bool → Prop:=fun _=>True
def zacb (bs:List Tree) (s:Int) (t:Int) (c:Any):Bool:=sel (zabi bs s t) (true) c
theorem l7Follows_ret (bs:List Tree) (s:Int) (t:Int) {e_:Exit} {S_:St} (x:Bool) (he_:e_ = .ret ∨ e_ = .normal)
    (h1:(Qg Tryz.prog S_ Tryz.f109.results.toList).1 ∧ resD (Qg Tryz.prog S_ Tryz.f109.results.toList).2.1 = Ui x) (hg:zabi bs s t x) :
    retR Tryz.prog Tryz.f109 (fun c=>(Ui (zacb bs s t c),fun _=>none)) e_ S_:=Ze (enc:=Ui) x he_ h1 hg
theorem zahf (bs:List Tree) (s:Int) (t:Int) {e_:Exit} {S_:St} (he_:e_ = .ret ∨ e_ = .normal)
    (h:∃ x,(Qg Tryz.prog S_ Tryz.f109.results.toList).1 ∧ resD (Qg Tryz.prog S_ Tryz.f109.results.toList).2.1 = Ui x ∧ zabi bs s t x) :
    retR Tryz.prog Tryz.f109 (fun c=>(Ui (zacb bs s t c),fun _=>none)) e_ S_:=by
  obtain ⟨x,h1,h2,h3⟩:=h
  exact l7Follows_ret _ _ _ x he_ ⟨h1,h2⟩ h3
set_option maxHeartbeats 8000000 in
theorem l7Follows_pure (bs:List Tree) (s:Int) (t:Int) (hA:AllW bs):PureR Tryz.prog 109 [li cX bs,.int .i64 s,.int .i64 t] (fun c=>Ui (zacb bs s t c)):=by
  refine PureR.of_walk Tryz.func109 rfl (by simp [Tryz.f109]) (fun c=>by simp [-zd,go_sem]) fun B hK=>?_
  (repeat' (first
 | refine Qs ?_
 | refine Qc (id:=0) Xz [] (by kernel_rfl) ?_;simp [-zg,-zd,↓Qb,↓Qa,go_sem]
 | (refine Vn 0 rfl fun hm=>?_);refine Qc (id:=1) Xz [] (by kernel_rfl) ?_;simp [-zg,-zd,↓Qb,↓Qa,go_sem]
 | refine Qc (id:=2) Xz [] (by kernel_rfl) ?_;simp [-zg,-zd,↓Qb,↓Qa,go_sem]
 | ((obtain ⟨⟨uk,uv,us⟩,hu⟩:∃ u,nth bs i = u:=⟨_,rfl⟩);(have hw:WellF (.mk uk uv us):=(by rw [← hu];exact hA.at c14));(have hk1:=hw.ks1);(have hk2:=hw.ks2);(have w4:=hw.at.2.2.2));refine Qc (id:=4) Xz [] (by kernel_rfl) ?_;simp [-zg,-zd,↓Qb,↓Qa,go_sem,c14,Qi c14,zsP c14,hu];try ((refine Xg hK 8 ?_);(simp [go_sem]))
 | refine Qc (id:=5) Xz [] (by kernel_rfl) ?_;simp [-zg,-zd,↓Qb,↓Qa,go_sem]
 | refine Qc (id:=6) Xz [] (by kernel_rfl) ?_;simp [-zg,-zd,↓Qb,↓Qa,go_sem]
 | refine Qc (id:=7) Xz [] (by kernel_rfl) ?_;simp [-zg,-zd,↓Qb,↓Qa,go_sem]
 | refine Qc (id:=8) Xz [] (by kernel_rfl) ?_;simp [-zg,-zd,↓Qb,↓Qa,go_sem]
 | ((have ql:=hk1 (by omega));(have qk:0 < us.length:=(by omega));(have qw:=(w4 0 qk).valu));refine Qc (id:=9) Xz [] (by kernel_rfl) ?_;simp [-zg,-zd,↓Qb,↓Qa,go_sem,qk,Qi qk,zsP qk,Jc (f:=cX) qk,(show 3 ≤ us.length * 3 by omega),Tree.eta,qw]
 | refine Qc (id:=10) Xz [] (by kernel_rfl) ?_;simp [-zg,-zd,↓Qb,↓Qa,go_sem]
 | ((have ql:=hk2 (by omega) (by omega) (by omega) (by omega) (by omega) (by omega));(have qk:0 < us.length:=(by omega));(have qj:1 < us.length:=(by omega));(have qw:=(w4 0 qk).valu);(have qx:=(w4 1 qj).valu));refine Qc (id:=11) Xz [45,53] (by kernel_rfl) ?_;simp [-zg,-zd,↓Qb,↓Qa,go_sem,qk,Qi qk,zsP qk,qj,Jc (f:=cX) qk,(show 3 ≤ us.length * 3 by omega),(show (cat cX us).drop 3 = cat cX (us.drop 1) from Jr (f:=cX) (sz:=3) us 1),(show 3 ≤ us.length * 3 - 3 by omega),(show 3 ≤ (us.length - 1) * 3 by omega),(show (1:Int) < (us.length:Int) by omega),zsP qj,Tree.eta,qw,qx];try (refine ⟨fun s11a=>?_,fun s11a=>?_⟩ <;> (try simp [B_iff,B_not] at s11a) <;> try (refine ⟨fun s11b=>?_,fun s11b=>?_⟩ <;> (try simp [B_iff,B_not] at s11b) <;> try (refine ⟨fun s11c=>?_,fun s11c=>?_⟩ <;> (try simp [B_iff,B_not] at s11c))))
 | refine Qc (id:=12) Xz [] (by kernel_rfl) ?_;simp [-zg,-zd,↓Qb,↓Qa,go_sem]
 | ((have ql:=hk2 (by omega) (by omega) (by omega) (by omega) (by omega) (by omega));(have qk:0 < us.length:=(by omega));(have qj:1 < us.length:=(by omega));(have qw:=(w4 0 qk).valu);(have qx:=(w4 1 qj).valu));refine Qc (id:=13) Xz [68,76] (by kernel_rfl) ?_;simp [-zg,-zd,↓Qb,↓Qa,go_sem,qk,Qi qk,zsP qk,qj,Jc (f:=cX) qk,(show 3 ≤ us.length * 3 by omega),(show (cat cX us).drop 3 = cat cX (us.drop 1) from Jr (f:=cX) (sz:=3) us 1),(show 3 ≤ us.length * 3 - 3 by omega),(show 3 ≤ (us.length - 1) * 3 by omega),(show (1:Int) < (us.length:Int) by omega),zsP qj,Tree.eta,qw,qx];try (refine ⟨fun s13a=>?_,fun s13a=>?_⟩ <;> (try simp [B_iff,B_not] at s13a) <;> try (refine ⟨fun s13b=>?_,fun s13b=>?_⟩ <;> (try simp [B_iff,B_not] at s13b) <;> try (refine ⟨fun s13c=>?_,fun s13c=>?_⟩ <;> (try simp [B_iff,B_not] at s13c))))
 | refine Qc (id:=14) Xz [] (by kernel_rfl) ?_;simp [-zg,-zd,↓Qb,↓Qa,go_sem]
 | refine Qc (id:=15) Xz [] (by kernel_rfl) ?_;simp [-zg,-zd,↓Qb,↓Qa,go_sem]
 | refine Qc (id:=3) Xz [] (by kernel_rfl) ?_;simp [-zg,-zd,↓Qb,↓Qa,go_sem,wrapS (k:=i) (by omega)]
 | refine Qc (id:=16) Xz [] (by kernel_rfl) ?_;simp [-zg,-zd,↓Qb,↓Qa,go_sem]
 | refine Qe (c:=.tmp 14) ?_;simp [-zg,-zd,↓Qb,↓Qa,go_sem];try first | (refine ⟨?_,?_⟩ <;> refine zA ?_) | (refine ⟨fun c14=>?_,fun c14=>?_⟩ <;> (try simp [B_iff,B_not] at c14))
 | refine Qe (c:=.tmp 27) ?_;simp [-zg,-zd,↓Qb,↓Qa,go_sem];try first | (refine ⟨?_,?_⟩ <;> refine zA ?_) | (refine ⟨fun c27=>?_,fun c27=>?_⟩ <;> (try simp [B_iff,B_not] at c27))
 | refine Qe (c:=.tmp 36) ?_;simp [-zg,-zd,↓Qb,↓Qa,go_sem];try first | (refine ⟨?_,?_⟩ <;> refine zA ?_) | (refine ⟨fun c36=>?_,fun c36=>?_⟩ <;> (try simp [B_iff,B_not] at c36))
 | refine Qe (c:=.tmp 59) ?_;simp [-zg,-zd,↓Qb,↓Qa,go_sem];try first | (refine ⟨?_,?_⟩ <;> refine zA ?_) | (refine ⟨fun c59=>?_,fun c59=>?_⟩ <;> (try simp [B_iff,B_not] at c59))
 | refine Qe (c:=.tmp 84) ?_;simp [-zg,-zd,↓Qb,↓Qa,go_sem];try first | (refine ⟨?_,?_⟩ <;> refine zA ?_) | (refine ⟨fun c84=>?_,fun c84=>?_⟩ <;> (try simp [B_iff,B_not] at c84))
 | (refine Qf (id:=0) (Qz (ι:=Nat) (fun i:Nat=>⟨(upd (upd (upd (upd (fun _=>.any) 0 (li cX bs)) 1 (.int .i64 s)) 2 (.int .i64 t)) 7 (.int .i64 i)),fun _=>none⟩) (fun i=>i ≤ bs.length) (fun i=>bs.length - i) (0) ?_ ?_ ?_);exact Nat.zero_le _;((repeat' (first | exact Qk (by assumption) | exact Qm | refine Qj ?_ ?_ | refine Ql ?_)) <;> simp [-zg,-zd,↓Qb,↓Qa,go_sem]);rintro i hi)
 | (refine ⟨i + 1,by omega,by first | omega | (simp;done) | (simp;omega),?_⟩;((repeat' (first | exact Qk (by assumption) | exact Qm | refine Qj ?_ ?_ | refine Ql ?_)) <;> simp [-zg,-zd,↓Qb,↓Qa,go_sem]))
 | (refine Qf ?_)
 | (refine Qr ?_;simp [-zg,-zd,↓Qb,↓Qa,go_sem])
 | (refine Qq ?_;simp [-zg,-zd,↓Qb,↓Qa,go_sem])
 | (refine Qt ?_;try simp [-zg,-zd,↓Qb,↓Qa,go_sem,Tryz.results109])
 | (intro hx;refine zA ?_)
 | (intro hx;change retR _ _ _ _ _)
 | (refine ⟨?_,?_⟩ <;> refine zA ?_)
 | (intro hx;constructor <;> intro hs)
 | (constructor <;> intro hs)
 | (refine ⟨?_,fun hs=>?_⟩;refine zA ?_)
 | (refine ⟨fun hs=>?_,?_⟩;rotate_left;refine zA ?_;rotate_left)))
  all_goals (first
 | (refine zahf _ _ _ ?_ ?_;(first | exact Or.inl rfl | exact Or.inr rfl);(simp [-zg,-zd,↓Qb,↓Qa,go_sem,Tryz.results109,zabi]);((trivial);done))
 | (refine zahf _ _ _ ?_ ?_;(first | exact Or.inl rfl | exact Or.inr rfl);(simp [-zg,-zd,↓Qb,↓Qa,go_sem,Tryz.results109,zabi];done))
 | skip)
@[go_sem] def zale:Con:=.prel fun
  | [.list n_bs c_bs,.int .i64 s,.int .i64 t]=>((Is cX n_bs c_bs) ∧ (AllW (de cX c_bs)),fun c=>Ui (zacb (de cX c_bs) s t c))
  | _=>(False,fun _=>.any)
theorem l7FollowsC_ok:ConOk Tryz.prog 109 zale:=by
  refine ⟨Qo Tryz.func109 (by decide) rfl,fun args h=>?_⟩
  revert h
  dsimp only
  split
  · intro h
    obtain ⟨⟨bs,rfl,rfl⟩,hA⟩:=h
    try simp only [Qp] at *
    exact ⟨l7Follows_pure bs _ _ hA,fun c=>by simp [go_sem]⟩
  · intro h
    exact h.elim
@[go_sem] def Γy18:FuncId → Con:=ext Γy17 109 zale
theorem Γy18_ok:∀ g,ConOk Tryz.prog g (Γy18 g):=Qn Xz l7FollowsC_ok

@[go_sem] def Uh:Bool → D:=fun x=>.bool x
def zabh (bs:List Tree) (s:Int) (u:Int):Bool → Prop:=fun _=>True
def zaca (bs:List Tree) (s:Int) (u:Int) (c:Any):Bool:=sel (zabh bs s u) (true) c
theorem l7Fulfils_ret (bs:List Tree) (s:Int) (u:Int) {e_:Exit} {S_:St} (x:Bool) (he_:e_ = .ret ∨ e_ = .normal)
    (h1:(Qg Tryz.prog S_ Tryz.f147.results.toList).1 ∧ resD (Qg Tryz.prog S_ Tryz.f147.results.toList).2.1 = Uh x) (hg:zabh bs s u x) :
    retR Tryz.prog Tryz.f147 (fun c=>(Uh (zaca bs s u c),fun _=>none)) e_ S_:=Ze (enc:=Uh) x he_ h1 hg
theorem zahe (bs:List Tree) (s:Int) (u:Int) {e_:Exit} {S_:St} (he_:e_ = .ret ∨ e_ = .normal)
    (h:∃ x,(Qg Tryz.prog S_ Tryz.f147.results.toList).1 ∧ resD (Qg Tryz.prog S_ Tryz.f147.results.toList).2.1 = Uh x ∧ zabh bs s u x) :
    retR Tryz.prog Tryz.f147 (fun c=>(Uh (zaca bs s u c),fun _=>none)) e_ S_:=by
  obtain ⟨x,h1,h2,h3⟩:=h
  exact l7Fulfils_ret _ _ _ x he_ ⟨h1,h2⟩ h3
set_option maxHeartbeats 8000000 in
theorem l7Fulfils_pure (bs:List Tree) (s:Int) (u:Int) (hA:AllW bs) (h0:0 ≤ u) (h1:u < bs.length) (hk:(nth bs u.toNat).k = 7):PureR Tryz.prog 147 [li cX bs,.int .i64 s,.int .i64 u] (fun c=>Uh (zaca bs s u c)):=by
  refine PureR.of_walk Tryz.func147 rfl (by simp [Tryz.f147]) (fun c=>by simp [-zd,go_sem]) fun B hK=>?_
  have hul:u.toNat < bs.length:=(by omega);obtain ⟨⟨uk,uv,us⟩,hu⟩:∃ x,nth bs u.toNat = x:=⟨_,rfl⟩;have hw:WellF (.mk uk uv us):=(by rw [← hu];exact hA.at hul);have hk7:uk = 7:=(by rw [hu] at hk;exact hk);have ql:=hw.ks2 (by omega) (by omega) (by omega) (by omega) (by omega) (by omega);have qj:1 < us.length:=(by omega);have qk:0 < us.length:=(by omega);have qx:=(hw.at.2.2.2 1 qj).valu
  all_goals (repeat' (first
 | refine Qs ?_
 | refine Qc (id:=0) Γy18_ok [] (by kernel_rfl) ?_;simp [-zg,-zd,↓Qb,↓Qa,go_sem]
 | refine Qc (id:=1) Γy18_ok [11] (by kernel_rfl) ?_;simp [-zg,-zd,↓Qb,↓Qa,go_sem,hul,Qi hul,zsP hul,h0,h1,hu,qk,Qi qk,zsP qk,qj,(show 3 ≤ us.length * 3 by omega),(show (cat cX us).drop 3 = cat cX (us.drop 1) from Jr (f:=cX) (sz:=3) us 1),(show 3 ≤ us.length * 3 - 3 by omega),(show 3 ≤ (us.length - 1) * 3 by omega),(show (1:Int) < (us.length:Int) by omega),zsP qj,Tree.eta,qx];try (refine ⟨fun s1a=>?_,fun s1a=>?_⟩ <;> (try simp [B_iff,B_not] at s1a) <;> try (refine ⟨fun s1b=>?_,fun s1b=>?_⟩ <;> (try simp [B_iff,B_not] at s1b)))
 | (refine Qf ?_)
 | (refine Qr ?_;simp [-zg,-zd,↓Qb,↓Qa,go_sem])
 | (refine Qq ?_;simp [-zg,-zd,↓Qb,↓Qa,go_sem])
 | (refine Qt ?_;try simp [-zg,-zd,↓Qb,↓Qa,go_sem,Tryz.results147])
 | (intro hx;refine zA ?_)
 | (intro hx;change retR _ _ _ _ _)
 | (refine ⟨?_,?_⟩ <;> refine zA ?_)
 | (intro hx;constructor <;> intro hs)
 | (constructor <;> intro hs)
 | (refine ⟨?_,fun hs=>?_⟩;refine zA ?_)
 | (refine ⟨fun hs=>?_,?_⟩;rotate_left;refine zA ?_;rotate_left)))
  all_goals (first
 | (refine zahe _ _ _ ?_ ?_;(first | exact Or.inl rfl | exact Or.inr rfl);(simp [-zg,-zd,↓Qb,↓Qa,go_sem,Tryz.results147,zabh]);((trivial);done))
 | (refine zahe _ _ _ ?_ ?_;(first | exact Or.inl rfl | exact Or.inr rfl);(simp [-zg,-zd,↓Qb,↓Qa,go_sem,Tryz.results147,zabh];done))
 | skip)
@[go_sem] def zald:Con:=.prel fun
  | [.list n_bs c_bs,.int .i64 s,.int .i64 u]=>((Is cX n_bs c_bs) ∧ (AllW (de cX c_bs)) ∧ (0 ≤ u) ∧ (u < (de cX c_bs).length) ∧ ((nth (de cX c_bs) u.toNat).k = 7),fun c=>Uh (zaca (de cX c_bs) s u c))
  | _=>(False,fun _=>.any)
theorem l7FulfilsC_ok:ConOk Tryz.prog 147 zald:=by
  refine ⟨Qo Tryz.func147 (by decide) rfl,fun args h=>?_⟩
  revert h
  dsimp only
  split
  · intro h
    obtain ⟨⟨bs,rfl,rfl⟩,hA,h0,h1,hk⟩:=h
    try simp only [Qp] at *
    exact ⟨l7Fulfils_pure bs _ _ hA h0 h1 hk,fun c=>by simp [go_sem]⟩
  · intro h
    exact h.elim
@[go_sem] def Γy19:FuncId → Con:=ext Γy18 147 zald
theorem Je:∀ g,ConOk Tryz.prog g (Γy19 g):=Qn Γy18_ok l7FulfilsC_ok

theorem bitsD_le (x y:Int):bitsD .or .i64 x y ≤ 9223372036854775807:=by
  show IntKind.i64.wrap _ ≤ _
  unfold IntKind.wrap;simp [IntKind.bits,IntKind.signed];split <;> omega

@[go_sem] def zabt:Int × Int → D:=fun x=>.tup [.int .i64 x.1,.int .i64 x.2]
def zabf (bs:List Tree) (s:Int):Int × Int → Prop:=fun x=>x.2 ≤ 9223372036854775807
def zacx (bs:List Tree) (s:Int) (c:Any):Int × Int:=sel (zabf bs s) ((0,0)) c
theorem l7Letter_ok (bs:List Tree) (s:Int) (hA:AllW bs) (c:Any):zabf bs s (zacx bs s c):=Zi (p:=zabf bs s) (x0:=(0,0)) (by simp [zabf]) c
theorem l7Letter_ret (bs:List Tree) (s:Int) {e_:Exit} {S_:St} (x:Int × Int) (he_:e_ = .ret ∨ e_ = .normal)
    (h1:(Qg Tryz.prog S_ Tryz.f108.results.toList).1 ∧ resD (Qg Tryz.prog S_ Tryz.f108.results.toList).2.1 = zabt x) (hg:zabf bs s x) :
    retR Tryz.prog Tryz.f108 (fun c=>(zabt (zacx bs s c),fun _=>none)) e_ S_:=Ze (enc:=zabt) x he_ h1 hg
set_option maxHeartbeats 8000000 in
theorem l7Letter_pure (bs:List Tree) (s:Int) (hA:AllW bs):PureR Tryz.prog 108 [li cX bs,.int .i64 s] (fun c=>zabt (zacx bs s c)):=by
  refine PureR.of_walk Tryz.func108 rfl (by simp [Tryz.f108]) (fun c=>by simp [-zd,go_sem]) fun B hK=>?_
  (repeat' (first
 | refine Qs ?_
 | refine Qc (id:=0) Je [] (by kernel_rfl) ?_;simp [-zg,-zd,↓Qb,↓Qa,go_sem]
 | refine Qc (id:=1) Je [] (by kernel_rfl) ?_;simp [-zg,-zd,↓Qb,↓Qa,go_sem]
 | refine Qc (id:=2) Je [] (by kernel_rfl) ?_;simp [-zg,-zd,↓Qb,↓Qa,go_sem]
 | (refine Vn 0 rfl fun hm=>?_);refine Qc (id:=3) Je [] (by kernel_rfl) ?_;simp [-zg,-zd,↓Qb,↓Qa,go_sem]
 | refine Qc (id:=4) Je [] (by kernel_rfl) ?_;simp [-zg,-zd,↓Qb,↓Qa,go_sem]
 | ((obtain ⟨⟨uk,uv,us⟩,hu⟩:∃ u,nth bs q.1 = u:=⟨_,rfl⟩);(have hw:WellF (.mk uk uv us):=(by rw [← hu];exact hA.at c12));(have hv:=hw.at);(obtain ⟨v1,v2,v3,v4⟩:=hv));refine Qc (id:=6) Je [] (by kernel_rfl) ?_;simp [-zg,-zd,↓Qb,↓Qa,go_sem,c12,Qi c12,zsP c12,hu]
 | refine Qc (id:=7) Je [] (by kernel_rfl) ?_;simp [-zg,-zd,↓Qb,↓Qa,go_sem,c12,Qi c12,zsP c12,hu,wrapu_nn uv];try ((generalize bitsD BinOp.or IntKind.i64 q.2.1 (IntKind.i64.wrap (2 ^ min (IntKind.u64.wrap uv).toNat 64)) = cr at *))
 | refine Qc (id:=8) Je [] (by kernel_rfl) ?_;simp [-zg,-zd,↓Qb,↓Qa,go_sem]
 | refine Qc (id:=9) Je [] (by kernel_rfl) ?_;simp [-zg,-zd,↓Qb,↓Qa,go_sem,c12,Qi c12,zsP c12,hu,wrapu_nn uv];try ((have h9:=bitsD_le q.2.2 (IntKind.i64.wrap (2 ^ min (IntKind.u64.wrap uv).toNat 64)));(generalize bitsD BinOp.or IntKind.i64 q.2.2 (IntKind.i64.wrap (2 ^ min (IntKind.u64.wrap uv).toNat 64)) = vr at *))
 | refine Qc (id:=5) Je [] (by kernel_rfl) ?_;simp [-zg,-zd,↓Qb,↓Qa,go_sem,wrapS (k:=q.1) (by omega)]
 | refine Qc (id:=10) Je [] (by kernel_rfl) ?_;simp [-zg,-zd,↓Qb,↓Qa,go_sem]
 | refine Qe (c:=.tmp 12) ?_;simp [-zg,-zd,↓Qb,↓Qa,go_sem];try first | (refine ⟨?_,?_⟩ <;> refine zA ?_) | (refine ⟨fun c12=>?_,fun c12=>?_⟩ <;> (try simp [B_iff,B_not] at c12))
 | refine Qe (c:=.tmp 20) ?_;simp [-zg,-zd,↓Qb,↓Qa,go_sem];try first | (refine ⟨?_,?_⟩ <;> refine zA ?_) | (refine ⟨fun c20=>?_,fun c20=>?_⟩ <;> (try simp [B_iff,B_not] at c20))
 | refine Qe (c:=.tmp 32) ?_;simp [-zg,-zd,↓Qb,↓Qa,go_sem];try first | (refine ⟨?_,?_⟩ <;> refine zA ?_) | (refine ⟨fun c32=>?_,fun c32=>?_⟩ <;> (try simp [B_iff,B_not] at c32))
 | (refine Qf (id:=0) (Qz (ι:=Nat × Int × Int) (fun q:Nat × Int × Int=>⟨(upd (upd (upd (upd (upd (fun _=>.any) 0 (li cX bs)) 1 (.int .i64 s)) 6 (.int .i64 q.2.1)) 7 (.int .i64 q.2.2)) 8 (.int .i64 q.1)),fun _=>none⟩) (fun q=>q.1 ≤ bs.length ∧ q.2.2 ≤ 9223372036854775807) (fun q=>bs.length - q.1) ((0,0,0)) ?_ ?_ ?_);exact ⟨Nat.zero_le _,by dsimp only;omega⟩;((repeat' (first | exact Qk (by assumption) | exact Qm | refine Qj ?_ ?_ | refine Ql ?_)) <;> simp [-zg,-zd,↓Qb,↓Qa,go_sem]);rintro q ⟨g1,g2⟩)
 | (refine ⟨(q.1 + 1,cr,vr),⟨by dsimp only;omega,h9⟩,by first | omega | (simp;done) | (simp;omega),?_⟩;((repeat' (first | exact Qk (by assumption) | exact Qm | refine Qj ?_ ?_ | refine Ql ?_)) <;> simp [-zg,-zd,↓Qb,↓Qa,go_sem]))
 | (refine Qf ?_)
 | (refine Qr ?_;simp [-zg,-zd,↓Qb,↓Qa,go_sem])
 | (refine Qq ?_;simp [-zg,-zd,↓Qb,↓Qa,go_sem])
 | (refine Qt ?_;try simp [-zg,-zd,↓Qb,↓Qa,go_sem,Tryz.results108])
 | (intro hx;refine zA ?_)
 | (intro hx;change retR _ _ _ _ _)
 | (refine ⟨?_,?_⟩ <;> refine zA ?_)
 | (intro hx;constructor <;> intro hs)
 | (constructor <;> intro hs)
 | (refine ⟨?_,fun hs=>?_⟩;refine zA ?_)
 | (refine ⟨fun hs=>?_,?_⟩;rotate_left;refine zA ?_;rotate_left)
 | ((fail_if_success change retR _ _ _ _ _);(refine ⟨(q.1 + 1,cr,q.2.2),⟨by dsimp only;omega,g2⟩,by dsimp only;omega,?_⟩;((repeat' (first | exact Qk (by assumption) | exact Qm | refine Qj ?_ ?_ | refine Ql ?_)) <;> simp [-zg,-zd,go_sem]);done))
 | ((fail_if_success change retR _ _ _ _ _);(refine ⟨(q.1 + 1,q.2.1,q.2.2),⟨by dsimp only;omega,g2⟩,by dsimp only;omega,?_⟩;((repeat' (first | exact Qk (by assumption) | exact Qm | refine Qj ?_ ?_ | refine Ql ?_)) <;> simp [-zg,-zd,go_sem]);done))))
  all_goals (first
 | (refine l7Letter_ret _ _ ((q.2.1,q.2.2)) ?_ ?_ ?_;(first | exact Or.inl rfl | exact Or.inr rfl);(focus (simp [-zg,-zd,↓Qb,↓Qa,go_sem,Tryz.results108];done));(focus ((exact g2);done)))
 | skip)
@[go_sem] def l7LetterC:Con:=.prel fun
  | [.list n_bs c_bs,.int .i64 s]=>((Is cX n_bs c_bs) ∧ (AllW (de cX c_bs)),fun c=>zabt (zacx (de cX c_bs) s c))
  | _=>(False,fun _=>.any)
theorem l7LetterC_ok:ConOk Tryz.prog 108 l7LetterC:=by
  refine ⟨Qo Tryz.func108 (by decide) rfl,fun args h=>?_⟩
  revert h
  dsimp only
  split
  · intro h
    obtain ⟨⟨bs,rfl,rfl⟩,hA⟩:=h
    try simp only [Qp] at *
    exact ⟨l7Letter_pure bs _ hA,fun c=>by simp [go_sem]⟩
  · intro h
    exact h.elim
@[go_sem] def Γy20:FuncId → Con:=ext Γy19 108 l7LetterC
theorem Vy:∀ g,ConOk Tryz.prog g (Γy20 g):=Qn Je l7LetterC_ok

def UntOk (bs:List Tree) (us:List Int):Prop:=us.length ≤ bs.length ∧ ∀ u,u ∈ us → 0 ≤ u ∧ u < bs.length ∧ (nth bs u.toNat).k = 7
theorem UntOk.nil (bs:List Tree):UntOk bs []:=⟨by simp,fun u h=>nomatch h⟩
def UntK (bs:List Tree) (us:List Int) (k:Nat):Prop:=us.length ≤ k ∧ ∀ u,u ∈ us → 0 ≤ u ∧ u < bs.length ∧ (nth bs u.toNat).k = 7
theorem UntK.snoc {bs:List Tree} {us:List Int} {k:Nat} (h:UntK bs us k) (hk:k < bs.length) (e:(nth bs k).k = 7):UntK bs (us ++ [(k:Int)]) (k + 1):=by
  refine ⟨by have:=h.1;simp;omega,fun u hu=>?_⟩
  rcases List.mem_append.1 hu with q | q
  · exact h.2 u q
  · have:u = (k:Int):=by simpa using q
    subst this
    exact ⟨by omega,by omega,by rw [Int.toNat_natCast];exact e⟩
theorem UntK.skip {bs:List Tree} {us:List Int} {k:Nat} (h:UntK bs us k):UntK bs us (k + 1):=⟨by have:=h.1;omega,h.2⟩

@[go_sem] def zabs:List Int → D:=fun x=>fr 1 cI x
def zaby (bs:List Tree):List Int → Prop:=fun x=>UntOk bs x
def zacv (bs:List Tree) (c:Any):List Int:=sel (zaby bs) ([]) c
theorem l7Untils_ok (bs:List Tree) (hl:bs.length ≤ 1000) (c:Any):zaby bs (zacv bs c):=Zi (p:=zaby bs) (x0:=[]) (UntOk.nil bs) c
theorem l7Untils_ret (bs:List Tree) {e_:Exit} {S_:St} (x:List Int) (he_:e_ = .ret ∨ e_ = .normal)
    (h1:(Qg Tryz.prog S_ Tryz.f105.results.toList).1 ∧ resD (Qg Tryz.prog S_ Tryz.f105.results.toList).2.1 = zabs x) (hg:zaby bs x) :
    retR Tryz.prog Tryz.f105 (fun c=>(zabs (zacv bs c),fun _=>none)) e_ S_:=Ze (enc:=zabs) x he_ h1 hg
set_option maxHeartbeats 8000000 in
theorem l7Untils_pure (bs:List Tree) (hl:bs.length ≤ 1000):PureR Tryz.prog 105 [li cX bs] (fun c=>zabs (zacv bs c)):=by
  refine PureR.of_walk Tryz.func105 rfl (by simp [Tryz.f105]) (fun c=>by simp [-zd,go_sem]) fun B hK=>?_
  (repeat' (first
 | refine Qs ?_
 | refine Qc (id:=0) Vy [] (by kernel_rfl) ?_;simp [-zg,-zd,↓Qb,↓Qa,go_sem]
 | refine Qc (id:=1) Vy [] (by kernel_rfl) ?_;simp [-zg,-zd,↓Qb,↓Qa,go_sem]
 | refine Qc (id:=2) Vy [] (by kernel_rfl) ?_;simp [-zg,-zd,↓Qb,↓Qa,go_sem]
 | refine Qc (id:=3) Vy [] (by kernel_rfl) ?_;simp [-zg,-zd,↓Qb,↓Qa,go_sem]
 | ((have g3:=g2.1);(obtain ⟨⟨uk,uv,us⟩,hu⟩:∃ u,nth bs q.1 = u:=⟨_,rfl⟩));refine Qc (id:=5) Vy [] (by kernel_rfl) ?_;simp [-zg,-zd,↓Qb,↓Qa,go_sem,c9,Qi c9,zsP c9,hu]
 | refine Qc (id:=6) Vy [] (by kernel_rfl) ?_;simp [-zg,-zd,↓Qb,↓Qa,go_sem,(show q.2.length ≤ 9223372036854775806 by omega),(show 2 * (q.2.length + 1) * 8 ≤ 281474976710656 by omega),snoc_cI];try ((have o4:=g2.snoc c9 (by rw [hu];simp only [Tree.k];omega));(have o3:(q.2 ++ [(q.1:Int)]).length = q.2.length + 1:=(by simp));(rw [← o3]);(generalize q.2 ++ [(q.1:Int)] = o2 at *))
 | refine Qc (id:=4) Vy [] (by kernel_rfl) ?_;simp [-zg,-zd,↓Qb,↓Qa,go_sem,wrapS (k:=q.1) (by omega)]
 | refine Qc (id:=7) Vy [] (by kernel_rfl) ?_;simp [-zg,-zd,↓Qb,↓Qa,go_sem]
 | refine Qe (c:=.tmp 9) ?_;simp [-zg,-zd,↓Qb,↓Qa,go_sem];try first | (refine ⟨?_,?_⟩ <;> refine zA ?_) | (refine ⟨fun c9=>?_,fun c9=>?_⟩ <;> (try simp [B_iff,B_not] at c9))
 | refine Qe (c:=.tmp 17) ?_;simp [-zg,-zd,↓Qb,↓Qa,go_sem];try first | (refine ⟨?_,?_⟩ <;> refine zA ?_) | (refine ⟨fun c17=>?_,fun c17=>?_⟩ <;> (try simp [B_iff,B_not] at c17))
 | (refine Qf (id:=0) (Qz (ι:=Nat × List Int) (fun q:Nat × List Int=>⟨(upd (upd (upd (fun _=>.any) 0 (li cX bs)) 3 (.fr 1 q.2.length (cat cI q.2))) 4 (.int .i64 q.1)),fun _=>none⟩) (fun q=>q.1 ≤ bs.length ∧ UntK bs q.2 q.1) (fun q=>bs.length - q.1) ((0,[])) ?_ ?_ ?_);exact ⟨Nat.zero_le _,Nat.le_refl _,fun u h=>nomatch h⟩;((repeat' (first | exact Qk (by assumption) | exact Qm | refine Qj ?_ ?_ | refine Ql ?_)) <;> simp [-zg,-zd,↓Qb,↓Qa,go_sem,List.length_nil,Xh]);rintro q ⟨g1,g2⟩)
 | (refine ⟨(q.1 + 1,o2),⟨by dsimp only;omega,o4⟩,by first | omega | (simp;done) | (simp;omega),?_⟩;((repeat' (first | exact Qk (by assumption) | exact Qm | refine Qj ?_ ?_ | refine Ql ?_)) <;> simp [-zg,-zd,↓Qb,↓Qa,go_sem,List.length_nil,Xh]))
 | (refine Qf ?_)
 | (refine Qr ?_;simp [-zg,-zd,↓Qb,↓Qa,go_sem])
 | (refine Qq ?_;simp [-zg,-zd,↓Qb,↓Qa,go_sem])
 | (refine Qt ?_;try simp [-zg,-zd,↓Qb,↓Qa,go_sem,Tryz.results105])
 | (intro hx;refine zA ?_)
 | (intro hx;change retR _ _ _ _ _)
 | (refine ⟨?_,?_⟩ <;> refine zA ?_)
 | (intro hx;constructor <;> intro hs)
 | (constructor <;> intro hs)
 | (refine ⟨?_,fun hs=>?_⟩;refine zA ?_)
 | (refine ⟨fun hs=>?_,?_⟩;rotate_left;refine zA ?_;rotate_left)
 | ((fail_if_success change retR _ _ _ _ _);(refine ⟨(q.1 + 1,q.2),⟨by dsimp only;omega,g2.skip⟩,by dsimp only;omega,?_⟩;((repeat' (first | exact Qk (by assumption) | exact Qm | refine Qj ?_ ?_ | refine Ql ?_)) <;> simp [-zg,-zd,go_sem]);done))))
  all_goals (first
 | (refine l7Untils_ret _ (q.2) ?_ ?_ ?_;(first | exact Or.inl rfl | exact Or.inr rfl);(focus (simp [-zg,-zd,↓Qb,↓Qa,go_sem,Tryz.results105,li,fr];done));(focus (((show UntOk bs q.2);exact ⟨by have:=g2.1;omega,g2.2⟩);done)))
 | skip)
@[go_sem] def l7UntilsC:Con:=.prel fun
  | [.list n_bs c_bs]=>((Is cX n_bs c_bs) ∧ ((de cX c_bs).length ≤ 1000),fun c=>zabs (zacv (de cX c_bs) c))
  | _=>(False,fun _=>.any)
theorem l7UntilsC_ok:ConOk Tryz.prog 105 l7UntilsC:=by
  refine ⟨Qo Tryz.func105 (by decide) rfl,fun args h=>?_⟩
  revert h
  dsimp only
  split
  · intro h
    obtain ⟨⟨bs,rfl,rfl⟩,hl⟩:=h
    try simp only [Qp] at *
    exact ⟨l7Untils_pure bs hl,fun c=>by simp [go_sem]⟩
  · intro h
    exact h.elim
@[go_sem] def Γy21:FuncId → Con:=ext Γy20 105 l7UntilsC
theorem zagd:∀ g,ConOk Tryz.prog g (Γy21 g):=Qn Vy l7UntilsC_ok

def PhOk (us:List Int) (ph:Int):Prop:=0 ≤ ph ∧ ph ≤ 1000 ∧ (us.length = 0 ∨ ph < us.length)
theorem PhOk.zero (us:List Int):PhOk us 0:=⟨by omega,by omega,by omega⟩
theorem PhOk.next {us:List Int} {ph:Int} (h:PhOk us ph) (hl:us.length ≤ 1000) (hn:¬ us.length = 0):PhOk us ((ph + 1).tmod us.length):=by
  obtain ⟨h1,h2,h3⟩:=h
  have a:=Int.tmod_nonneg (a:=ph + 1) (us.length:Int) (by omega)
  have b:=Int.tmod_lt_of_pos (ph + 1) (b:=(us.length:Int)) (by omega)
  exact ⟨a,by omega,.inr b⟩

@[go_sem] def zack:Int × Bool → D:=fun x=>.tup [.int .i64 x.1,.bool x.2]
def zacw (bs:List Tree) (us:List Int) (s:Int) (ph:Int):Int × Bool → Prop:=fun x=>PhOk us x.1
def zadr (bs:List Tree) (us:List Int) (s:Int) (ph:Int) (c:Any):Int × Bool:=sel (zacw bs us s ph) ((0,true)) c
theorem l7Phase_ok (bs:List Tree) (us:List Int) (s:Int) (ph:Int) (hA:AllW bs) (hU:UntOk bs us) (hp:PhOk us ph) (hl:us.length ≤ 1000) (c:Any):zacw bs us s ph (zadr bs us s ph c):=Zi (p:=zacw bs us s ph) (x0:=(0,true)) (PhOk.zero us) c
theorem zaic (bs:List Tree) (us:List Int) (s:Int) (ph:Int) {e_:Exit} {S_:St} (x:Int × Bool) (he_:e_ = .ret ∨ e_ = .normal)
    (h1:(Qg Tryz.prog S_ Tryz.f107.results.toList).1 ∧ resD (Qg Tryz.prog S_ Tryz.f107.results.toList).2.1 = zack x) (hg:zacw bs us s ph x) :
    retR Tryz.prog Tryz.f107 (fun c=>(zack (zadr bs us s ph c),fun _=>none)) e_ S_:=Ze (enc:=zack) x he_ h1 hg
set_option maxHeartbeats 8000000 in
theorem l7Phase_pure (bs:List Tree) (us:List Int) (s:Int) (ph:Int) (hA:AllW bs) (hU:UntOk bs us) (hp:PhOk us ph) (hl:us.length ≤ 1000):PureR Tryz.prog 107 [li cX bs,li cI us,.int .i64 s,.int .i64 ph] (fun c=>zack (zadr bs us s ph c)):=by
  refine PureR.of_walk Tryz.func107 rfl (by simp [Tryz.f107]) (fun c=>by simp [-zd,go_sem]) fun B hK=>?_
  obtain ⟨p1,p2,p3⟩:=id hp
  all_goals (repeat' (first
 | refine Qs ?_
 | refine Qc (id:=0) zagd [] (by kernel_rfl) ?_;simp [-zg,-zd,↓Qb,↓Qa,go_sem]
 | refine Qc (id:=1) zagd [] (by kernel_rfl) ?_;simp [-zg,-zd,↓Qb,↓Qa,go_sem]
 | refine Qc (id:=2) zagd [] (by kernel_rfl) ?_;simp [-zg,-zd,↓Qb,↓Qa,go_sem]
 | ((have hn:¬ us.length = 0:=(fun h=>c12 (List.length_eq_zero_iff.1 h)));(have hpl:ph.toNat < us.length:=(by omega));(obtain ⟨u0,u1,u2⟩:=hU.2 (nth us ph.toNat) (Zz hpl)));refine Qc (id:=3) zagd [] (by kernel_rfl) ?_;simp [-zg,-zd,↓Qb,↓Qa,go_sem,hpl,Qi hpl,zsP hpl,p1,(show ph < (us.length:Int) by omega),hA,u0,u1,u2];try ((intro c3);(generalize zaca bs s (nth us ph.toNat) c3 = zf at *))
 | refine Qc (id:=4) zagd [] (by kernel_rfl) ?_;simp [-zg,-zd,↓Qb,↓Qa,go_sem,wrap_in (x:=ph + 1) (by omega) (by omega),hn,(show ¬ us = [] by rintro rfl;simp at hn)]
 | refine Qc (id:=5) zagd [] (by kernel_rfl) ?_;simp [-zg,-zd,↓Qb,↓Qa,go_sem]
 | refine Qe (c:=.tmp 12) ?_;simp [-zg,-zd,↓Qb,↓Qa,go_sem];try first | (refine ⟨?_,?_⟩ <;> refine zA ?_) | (refine ⟨fun c12=>?_,fun c12=>?_⟩ <;> (try simp [B_iff,B_not] at c12))
 | refine Qe (c:=.tmp 19) ?_;simp [-zg,-zd,↓Qb,↓Qa,go_sem];try first | (refine ⟨?_,?_⟩ <;> refine zA ?_) | (refine ⟨fun c19=>?_,fun c19=>?_⟩ <;> (try simp [B_iff,B_not] at c19))
 | (refine Qf ?_)
 | (refine Qr ?_;simp [-zg,-zd,↓Qb,↓Qa,go_sem])
 | (refine Qq ?_;simp [-zg,-zd,↓Qb,↓Qa,go_sem])
 | (refine Qt ?_;try simp [-zg,-zd,↓Qb,↓Qa,go_sem,Tryz.results107])
 | (intro hx;refine zA ?_)
 | (intro hx;change retR _ _ _ _ _)
 | (refine ⟨?_,?_⟩ <;> refine zA ?_)
 | (intro hx;constructor <;> intro hs)
 | (constructor <;> intro hs)
 | (refine ⟨?_,fun hs=>?_⟩;refine zA ?_)
 | (refine ⟨fun hs=>?_,?_⟩;rotate_left;refine zA ?_;rotate_left)))
  all_goals (first
 | (refine zaic _ _ _ _ ((0,true)) ?_ ?_ ?_;(first | exact Or.inl rfl | exact Or.inr rfl);(focus (simp [-zg,-zd,↓Qb,↓Qa,go_sem,Tryz.results107];done));(focus ((exact PhOk.zero us);done)))
 | (refine zaic _ _ _ _ (((ph + 1).tmod us.length,decide (ph = 0))) ?_ ?_ ?_;(first | exact Or.inl rfl | exact Or.inr rfl);(focus (simp [-zg,-zd,↓Qb,↓Qa,go_sem,Tryz.results107];done));(focus ((exact hp.next hl hn);done)))
 | (refine zaic _ _ _ _ ((ph,false)) ?_ ?_ ?_;(first | exact Or.inl rfl | exact Or.inr rfl);(focus (simp [-zg,-zd,↓Qb,↓Qa,go_sem,Tryz.results107];done));(focus ((exact hp);done)))
 | skip)
@[go_sem] def l7PhaseC:Con:=.prel fun
  | [.list n_bs c_bs,.list n_us c_us,.int .i64 s,.int .i64 ph]=>((Is cX n_bs c_bs) ∧ (Is cI n_us c_us) ∧ (AllW (de cX c_bs)) ∧ (UntOk (de cX c_bs) (de cI c_us)) ∧ (PhOk (de cI c_us) ph) ∧ ((de cI c_us).length ≤ 1000),fun c=>zack (zadr (de cX c_bs) (de cI c_us) s ph c))
  | _=>(False,fun _=>.any)
theorem l7PhaseC_ok:ConOk Tryz.prog 107 l7PhaseC:=by
  refine ⟨Qo Tryz.func107 (by decide) rfl,fun args h=>?_⟩
  revert h
  dsimp only
  split
  · intro h
    obtain ⟨⟨bs,rfl,rfl⟩,⟨us,rfl,rfl⟩,hA,hU,hp,hl⟩:=h
    try simp only [Qp] at *
    exact ⟨l7Phase_pure bs us _ _ hA hU hp hl,fun c=>by simp [go_sem]⟩
  · intro h
    exact h.elim
@[go_sem] def Γy22:FuncId → Con:=ext Γy21 107 l7PhaseC
theorem Γy22_ok:∀ g,ConOk Tryz.prog g (Γy22 g):=Qn zagd l7PhaseC_ok

@[go_sem] def Γy22x:FuncId → Con:=ext Γy22 148 zaec
theorem Un:∀ g,ConOk Tryz.prog g (Γy22x g):=Qn Γy22_ok zagb

@[go_sem] def zacl:List (List Int) × Int → D:=fun x=>.tup [.fr 1 x.1.length (cat cL x.1),.int .i64 x.2]
def zads (xs:List (List Int)) (pr:List Int):List (List Int) × Int → Prop:=fun x=>(x.1 = xs ∨ x.1 = xs ++ [pr])
def zaeu (xs:List (List Int)) (pr:List Int) (c:Any):List (List Int) × Int:=sel (zads xs pr) ((xs,0)) c
theorem l7Pair_ok (xs:List (List Int)) (pr:List Int) (hn:xs.length ≤ 100000) (c:Any):zads xs pr (zaeu xs pr c):=Zi (p:=zads xs pr) (x0:=(xs,0)) (.inl rfl) c
theorem l7Pair_ret (xs:List (List Int)) (pr:List Int) {e_:Exit} {S_:St} (x:List (List Int) × Int) (he_:e_ = .ret ∨ e_ = .normal)
    (h1:(Qg Tryz.prog S_ Tryz.f110.results.toList).1 ∧ resD (Qg Tryz.prog S_ Tryz.f110.results.toList).2.1 = zacl x) (hg:zads xs pr x) :
    retR Tryz.prog Tryz.f110 (fun c=>(zacl (zaeu xs pr c),fun _=>none)) e_ S_:=Ze (enc:=zacl) x he_ h1 hg
set_option maxHeartbeats 8000000 in
theorem l7Pair_pure (xs:List (List Int)) (pr:List Int) (hn:xs.length ≤ 100000):SpecR Tryz.prog 110 [fr 1 cL xs,fr 1 cI pr] (fun _=>none) (fun c=>(zacl (zaeu xs pr c),fun _=>none)):=by
  refine SpecR.of_walk Tryz.func110 rfl (by simp [Tryz.f110]) fun B=>?_
  (repeat' (first
 | refine Qs ?_
 | ((refine Xw 1 ?_);(simp only [go_sem,dat,datL_map,Vc]);(refine Vl 0 rfl fun nb cp j hnb hcp hcj=>?_);(simp only [go_sem] at hnb ⊢);(clear hnb);(have e0:=zadf (f:=cL) xs (zrP j D.any)));refine Qc (id:=0) Un [] (by kernel_rfl) ?_;simp [-zg,-zd,↓Qb,↓Qa,go_sem]
 | refine Qc (id:=1) Un [] (by kernel_rfl) ?_;simp [-zg,-zd,↓Qb,↓Qa,go_sem]
 | refine Qc (id:=2) Un [] (by kernel_rfl) ?_;simp [-zg,-zd,↓Qb,↓Qa,go_sem]
 | refine Qc (id:=4) Un [] (by kernel_rfl) ?_;simp [-zg,-zd,↓Qb,↓Qa,go_sem,c10,Qi c10,zsP c10,(show i < xs.length + j by omega)]
 | ((refine zaiw 0 (b:=nb) (all:=cat cL xs ++ zrP j D.any) rfl (by simp [upd]) (by omega) (by simp [Qv]) (by simp [Qv];omega) ?_));refine Qc (id:=5) Un [] (by kernel_rfl) ?_;simp [-zg,-zd,↓Qb,↓Qa,go_sem]
 | refine Qc (id:=3) Un [] (by kernel_rfl) ?_;simp [-zg,-zd,↓Qb,↓Qa,go_sem,wrapS (k:=i) (by omega)]
 | refine Qc (id:=6) Un [] (by kernel_rfl) ?_;simp [-zg,-zd,↓Qb,↓Qa,go_sem,(show xs.length ≤ 9223372036854775806 by omega),(show 2 * (xs.length + 1) * 24 ≤ 281474976710656 by omega),(show cp ≤ xs.length + j by omega),hcj,(show xs.length ≤ xs.length + j by omega)]
 | refine Qe (c:=.tmp 10) ?_;simp [-zg,-zd,↓Qb,↓Qa,go_sem];try first | (refine ⟨?_,?_⟩ <;> refine zA ?_) | (refine ⟨fun c10=>?_,fun c10=>?_⟩ <;> (try simp [B_iff,B_not] at c10))
 | refine Qe (c:=.tmp 18) ?_;simp [-zg,-zd,↓Qb,↓Qa,go_sem];try first | (refine ⟨?_,?_⟩ <;> refine zA ?_) | (refine ⟨fun c18=>?_,fun c18=>?_⟩ <;> (try simp [B_iff,B_not] at c18))
 | (refine Qf (id:=0) (Qz (ι:=Nat) (fun i:Nat=>⟨(upd (upd (upd (fun _=>.any) 0 (.sl nb 1 0 xs.length cp)) 1 (.list pr.length (cat cI pr))) 6 (.int .i64 i)),upd (fun _=>none) nb (some (cat cL xs ++ zrP j D.any))⟩) (fun i=>i ≤ xs.length) (fun i=>xs.length - i) (0) ?_ ?_ ?_);exact Nat.zero_le _;((repeat' (first | exact Qk (by assumption) | exact Qm | refine Qj ?_ ?_ | refine Ql ?_)) <;> simp [-zg,-zd,↓Qb,↓Qa,go_sem]);rintro i hi)
 | (refine ⟨i + 1,by omega,by first | omega | (simp;done) | (simp;omega),?_⟩;((repeat' (first | exact Qk (by assumption) | exact Qm | refine Qj ?_ ?_ | refine Ql ?_)) <;> simp [-zg,-zd,↓Qb,↓Qa,go_sem]))
 | (refine Qf ?_)
 | (refine Qr ?_;simp [-zg,-zd,↓Qb,↓Qa,go_sem])
 | (refine Qq ?_;simp [-zg,-zd,↓Qb,↓Qa,go_sem])
 | (refine Qt ?_;try simp [-zg,-zd,↓Qb,↓Qa,go_sem,Tryz.results110])
 | (intro hx;refine zA ?_)
 | (intro hx;change retR _ _ _ _ _)
 | (refine ⟨?_,?_⟩ <;> refine zA ?_)
 | (intro hx;constructor <;> intro hs)
 | (constructor <;> intro hs)
 | (refine ⟨?_,fun hs=>?_⟩;refine zA ?_)
 | (refine ⟨fun hs=>?_,?_⟩;rotate_left;refine zA ?_;rotate_left)))
  all_goals (first
 | (refine l7Pair_ret _ _ ((xs,(i:Int))) ?_ ?_ ?_;(first | exact Or.inl rfl | exact Or.inr rfl);(focus (simp [-zg,-zd,↓Qb,↓Qa,go_sem,Tryz.results110,zadf];done));(focus ((exact .inl rfl);done)))
 | (refine l7Pair_ret _ _ ((xs ++ [pr],(xs.length:Int))) ?_ ?_ ?_;(first | exact Or.inl rfl | exact Or.inr rfl);(focus (simp [-zg,-zd,↓Qb,↓Qa,go_sem,Tryz.results110,Xu,Xv,li,cL];done));(focus ((exact .inr rfl);done)))
 | skip)
@[go_sem] def l7PairC:Con:=.rel fun args H=>match args with
  | [.fr 1 n_xs c_xs,.fr 1 n_pr c_pr]=>((Is cL n_xs c_xs) ∧ (Is cI n_pr c_pr) ∧ ((de cL c_xs).length ≤ 100000),fun c=>(zacl (zaeu (de cL c_xs) (de cI c_pr) c),H))
  | _=>(False,fun _=>(.any,H))
theorem l7PairC_ok:ConOk Tryz.prog 110 l7PairC:=by
  refine ⟨Qo Tryz.func110 (by decide) rfl,fun args H h=>?_⟩
  revert h
  dsimp only
  split
  · intro h
    obtain ⟨⟨xs,rfl,rfl⟩,⟨pr,rfl,rfl⟩,hn⟩:=h
    try simp only [Qp] at *
    exact (SpecR.frame0 (l7Pair_pure xs pr hn) (H:=H))
  · intro h
    exact h.elim
@[go_sem] def Γy23:FuncId → Con:=ext Γy22x 110 l7PairC
theorem Xb:∀ g,ConOk Tryz.prog g (Γy23 g):=Qn Un l7PairC_ok


section
variable {P:Program} {B:Base} {n:Nat} {S:St} {c:Code} {Q:Exit → St → Prop}
theorem AW_boxNils3 (t:Nat) (hT:S.T t = .box [.nil,.nil,.nil]) (h:AW P B n c Q ⟨upd S.T t (.box [.fr 1 0 [],.fr 1 0 [],.fr 4 0 []]),S.H⟩):AW P B n c Q S :=
  zamg t hT (fun μ I w vs f hr=>by
    simp only [RepL] at hr ⊢
    obtain ⟨v,vs',f1,f2,e1,e2,r1,v2,vs2,g1,g2,e3,e4,r2,v3,vs3,g3,g4,e5,e6,r3,r4⟩:=hr
    exact ⟨v,vs',f1,f2,e1,e2,zado r1,v2,vs2,g1,g2,e3,e4,zado r2,v3,vs3,g3,g4,e5,e6,zado r3,r4⟩) (fun N hb=>by simp only [bndL,bnd];exact ⟨trivial,trivial,trivial,trivial⟩) h
theorem AW_matL (t:Nat) {ls:List (List Int)} {x y:Int} (hT:S.T t = .fr 1 (ls.length + 1) (cat cL ls ++ [.fr 1 2 [.int .i64 x,.int .i64 y]]))
    (h:∀ b cp k,S.H b = none → ls.length + 1 ≤ cp → cp ≤ ls.length + 1 + k → AW P B n c Q ⟨upd S.T t (.sl b 1 0 (ls.length + 1) cp),upd S.H b (some (cat cL (ls ++ [[x,y]]) ++ zrP k .any))⟩):AW P B n c Q S:=by
  refine Vl t hT fun b cp k hb h1 h2=>?_
  have hl:(cat cL ls).length = ls.length:=by rw [Qv];omega
  refine AW_shutCell b ls.length (all:=(cat cL ls ++ [.fr 1 2 [.int .i64 x,.int .i64 y]]) ++ zrP k .any) (d:=.fr 1 2 [.int .i64 x,.int .i64 y]) (by dsimp only;rw [Qh]) ?_ rfl ?_
  · rw [List.append_assoc,List.getElem?_append_right (by omega),hl,Nat.sub_self];rfl
  · have e:((cat cL ls ++ [D.fr 1 2 [.int .i64 x,.int .i64 y]]) ++ zrP k D.any).set ls.length (dat (.fr 1 2 [.int .i64 x,.int .i64 y])) = cat cL (ls ++ [[x,y]]) ++ zrP k .any:=by
      rw [List.append_assoc,Xu,Xv,List.append_assoc,List.set_append,if_neg (by omega),hl,Nat.sub_self];rfl
    rw [e]
    have e2:upd (upd S.H b (some (cat cL ls ++ [D.fr 1 2 [.int .i64 x,.int .i64 y]] ++ zrP k D.any))) b (some (cat cL (ls ++ [[x,y]]) ++ zrP k .any)) = upd S.H b (some (cat cL (ls ++ [[x,y]]) ++ zrP k .any)):=upd_upd ..
    dsimp only
    rw [e2]
    exact h b cp k hb h1 (by omega)
end
@[go_sem] theorem is_lit2 (x0 x1:Int):Is cI 2 [D.int .i64 x0,D.int .i64 x1] = True:=eq_true ⟨[x0,x1],rfl,rfl⟩
@[go_sem] theorem de_lit2 (x0 x1:Int):de cI [D.int .i64 x0,D.int .i64 x1] = [x0,x1]:=Qp (f:=cI) [x0,x1]
theorem snoc_cT (xs:List Tr4) (a b c d:Int):cat cT xs ++ [.int .i64 a,.int .i64 b,.int .i64 c,.int .i64 d] = cat cT (xs ++ [(a,b,c,d)]):=by rw [Xu,Xv];rfl
def SmallT (xs:List Tr4):Prop:=∀ i,i < xs.length → (nth xs i).2.2.1 ≤ 9223372036854775807
theorem SmallT.nil:SmallT []:=fun i h=>by simp at h
theorem SmallT.snoc {xs:List Tr4} (h:SmallT xs) {e:Tr4} (he:e.2.2.1 ≤ 9223372036854775807):SmallT (xs ++ [e]):=fun i hi=>by
  rw [List.length_append,List.length_singleton] at hi
  by_cases q:i < xs.length
  · simp only [nth,List.getD_eq_getElem?_getD,List.getElem?_append_left q]
    have:=h i q
    simpa only [nth,List.getD_eq_getElem?_getD] using this
  · have:i = xs.length:=by omega
    subst this
    simp only [nth,List.getD_eq_getElem?_getD,List.getElem?_append_right (Nat.le_refl _),Nat.sub_self]
    exact he
def PairsOk (us:List Int) (ls:List (List Int)):Prop:=∀ p,p ∈ ls → ∃ s ph,p = [s,ph] ∧ PhOk us ph
theorem PairsOk.nil (us:List Int):PairsOk us []:=fun p h=>nomatch h
theorem PairsOk.snoc {us:List Int} {ls:List (List Int)} (h:PairsOk us ls) {s ph:Int} (hp:PhOk us ph):PairsOk us (ls ++ [[s,ph]]):=fun p hp2=>by
  rcases List.mem_append.1 hp2 with q | q
  · exact h p q
  · exact ⟨s,ph,by simpa using q,hp⟩
structure TA where
  ls:List (List Int)
  js:List Int
  qs:List Bool
  es:List Tr4
  nb:Nat
  cp:Nat
  j:Nat
  H:Hp
def TAi (ab:Nat) (us:List Int) (q:TA):Prop:=PairsOk us q.ls ∧ SmallT q.es ∧ ¬ q.nb = ab ∧ q.ls.length ≤ q.cp ∧ q.cp ≤ q.ls.length + q.j ∧ q.H ab = some [.fr 1 q.js.length (cat cI q.js),.fr 1 q.qs.length (cat cB q.qs),.fr 4 q.es.length (cat cT q.es)] ∧ q.H q.nb = some (cat cL q.ls ++ zrP q.j .any)
def T1 (ab:Nat) (us:List Int) (cn:Nat) (q:Nat × TA):Prop:=q.1 ≤ cn ∧ TAi ab us q.2 ∧ q.2.ls.length ≤ q.1 ∧ q.2.js.length ≤ q.1 ∧ q.2.qs.length = 0 ∧ q.2.es.length = 0
def T2 (ab:Nat) (us:List Int) (q:Nat × TA):Prop:=q.1 ≤ q.2.ls.length ∧ TAi ab us q.2 ∧ q.2.ls.length ≤ 96 ∧ q.2.js.length ≤ 32 ∧ q.2.qs.length = q.1 ∧ q.2.es.length ≤ q.1 * 32
def T3y (ab:Nat) (us:List Int) (cn:Nat) (i n0:Nat) (y:Nat × TA):Prop:=y.1 ≤ cn ∧ TAi ab us y.2 ∧ y.2.ls.length ≤ n0 + y.1 ∧ i + 1 ≤ y.2.ls.length ∧ y.2.js.length ≤ 32 ∧ y.2.qs.length = i + 1 ∧ y.2.es.length ≤ i * 32 + y.1
theorem pow_cn {n:Nat} (h:n ≤ 5):∃ cn:Nat,cn ≤ 32 ∧ IntKind.i64.wrap (2 ^ min (IntKind.u64.wrap (n:Int)).toNat 64) = (cn:Int):=by
  have:n = 0 ∨ n = 1 ∨ n = 2 ∨ n = 3 ∨ n = 4 ∨ n = 5:=by omega
  rcases this with e | e | e | e | e | e <;> subst e
  · exact ⟨1,by omega,by decide⟩
  · exact ⟨2,by omega,by decide⟩
  · exact ⟨4,by omega,by decide⟩
  · exact ⟨8,by omega,by decide⟩
  · exact ⟨16,by omega,by decide⟩
  · exact ⟨32,by omega,by decide⟩

@[go_sem] def Ud:(List Int × List Bool × List Tr4) × Bool → D:=fun x=>.tup [.st [li cI x.1.1,li cB x.1.2.1,li cT x.1.2.2],.bool x.2]
theorem zafu (x:(List Int × List Bool × List Tr4) × Bool):dat (Ud x) = Ud x:=by simp [go_sem]
def zaae (k:Int) (v:Int) (ks:List Tree):(List Int × List Bool × List Tr4) × Bool → Prop:=fun x=>x.1.1.length ≤ 3000 ∧ x.1.2.1.length ≤ 3000 ∧ x.1.2.2.length ≤ 4000 ∧ SmallT x.1.2.2
def zaaw (k:Int) (v:Int) (ks:List Tree) (x:((List Int × List Bool × List Tr4) × Bool) × D):Prop:=zaae k v ks x.1 ∧ dat x.2 = Ud x.1
def zaam (k:Int) (v:Int) (ks:List Tree) (c:Any):((List Int × List Bool × List Tr4) × Bool) × D:=sel (zaaw k v ks) (((([],[],[]),false):(List Int × List Bool × List Tr4) × Bool),Ud ((([],[],[]),false))) c
def zabd (k:Int) (v:Int) (ks:List Tree) (c:Any):(List Int × List Bool × List Tr4) × Bool:=(zaam k v ks c).1
theorem zacz (k:Int) (v:Int) (ks:List Tree)  (c:Any):zaaw k v ks (zaam k v ks c):=by
  have hx:zaae k v ks ((([],[],[]),false)):=⟨by simp,by simp,by simp,SmallT.nil⟩
  exact Zi (p:=zaaw k v ks) (x0:=(((([],[],[]),false):(List Int × List Bool × List Tr4) × Bool),Ud ((([],[],[]),false)))) ⟨hx,zafu _⟩ c
theorem zahr (k:Int) (v:Int) (ks:List Tree)  (c:Any):zaae k v ks (zabd k v ks c):=(zacz k v ks  c).1
theorem zabe (k:Int) (v:Int) (ks:List Tree) {e_:Exit} {S_:St} (x:(List Int × List Bool × List Tr4) × Bool) (he_:e_ = .ret ∨ e_ = .normal)
    (h1:(Qg Tryz.prog S_ Tryz.f80.results.toList).1 ∧ dat (resD (Qg Tryz.prog S_ Tryz.f80.results.toList).2.1) = Ud x) (hg:zaae k v ks x) :
    retR Tryz.prog Tryz.f80 (fun c=>((zaam k v ks c).2,fun _=>none)) e_ S_ :=
  Ze (good:=zaaw k v ks) (enc:=fun x:((List Int × List Bool × List Tr4) × Bool) × D=>x.2) (x,resD (Qg Tryz.prog S_ Tryz.f80.results.toList).2.1) he_ ⟨h1.1,rfl⟩ ⟨hg,h1.2⟩
set_option maxHeartbeats 16000000 in
theorem zaft (k:Int) (v:Int) (ks:List Tree)  : SpecR Tryz.prog 80 [.st [.int .i64 k,.int .i64 v,li cX ks]] (fun _=>none) (fun c=>((zaam k v ks c).2,fun _=>none)):=by
  refine SpecR.of_walk Tryz.func80 rfl (by simp [Tryz.f80]) fun B=>?_
  (repeat' (first
 | refine Qs ?_
 | refine Qc (id:=0) Xb [] (by kernel_rfl) ?_;simp [-zg,-zd,↓Qb,↓Qa,go_sem];try (refine Xw 1 ?_;simp [go_sem])
 | refine Qc (id:=1) Xb [] (by kernel_rfl) ?_;simp [-zg,-zd,↓Qb,↓Qa,go_sem];try ((intro c1);(have z0:=zamf k v ks c1);(generalize zach k v ks c1 = z1 at *);(obtain ⟨bs,okb⟩:=z1);(simp only [zaap] at z0);(obtain ⟨hb5,hA⟩:=z0))
 | refine Qc (id:=2) Xb [] (by kernel_rfl) ?_;simp [-zg,-zd,↓Qb,↓Qa,go_sem]
 | refine Qc (id:=3) Xb [] (by kernel_rfl) ?_;simp [-zg,-zd,↓Qb,↓Qa,go_sem]
 | refine Qc (id:=4) Xb [] (by kernel_rfl) ?_;simp [-zg,-zd,↓Qb,↓Qa,go_sem];try ((intro c4);(have z4:=zajc k v ks c4);(generalize zaci k v ks c4 = z5 at *);(obtain ⟨⟨gk,gv,gs⟩,okc⟩:=z5);(simp only [Uf] at z4);(have hV:Valu (.mk gk gv gs):=(by rcases z4.2 with h | h;exact Valu.zero h;exact h.valu));(clear z4);(refine Xw 6 ?_);(simp [go_sem]))
 | refine Qc (id:=5) Xb [] (by kernel_rfl) ?_;simp [-zg,-zd,↓Qb,↓Qa,go_sem,wrapu_nn (bs.length:Int)];try ((obtain ⟨cn,hcn,ecn⟩:=pow_cn hb5);(rw [ecn]);(clear ecn))
 | refine Qc (id:=6) Xb [] (by kernel_rfl) ?_;simp [-zg,-zd,↓Qb,↓Qa,go_sem,(show bs.length ≤ 1000 by omega)];try ((intro c6);(have hU:=l7Untils_ok bs (by omega) c6);(simp only [zaby] at hU);(generalize zacv bs c6 = us at *);(have hul:us.length ≤ 1000:=(by have:=hU.1;omega));(refine Xw 9 ?_);(simp [go_sem,dat,datL_map]))
 | refine Qc (id:=7) Xb [] (by kernel_rfl) ?_;simp [-zg,-zd,↓Qb,↓Qa,go_sem]
 | refine Qc (id:=8) Xb [] (by kernel_rfl) ?_;simp [-zg,-zd,↓Qb,↓Qa,go_sem]
 | ((refine AW_boxNils3 10 rfl ?_);(refine Jd 10 rfl fun ab hab=>?_);(refine Vl 11 rfl fun nb cp j hnb hcp hcj=>?_);(have hna:¬ nb = ab:=(by rintro rfl;simp [upd] at hnb));(clear hab hnb);(refine Qx (fun H1=>TAi ab us ⟨[],[],[],[],nb,cp,j,H1⟩) ⟨PairsOk.nil us,SmallT.nil,hna,Nat.zero_le _,by simpa using hcj,by simp [upd,zS hna,Xh],by simp [upd,Xh]⟩ fun H1 hT=>?_));refine Qc (id:=9) Xb [] (by kernel_rfl) ?_;simp [-zg,-zd,↓Qb,↓Qa,go_sem]
 | ((have hq1:=hq.1));refine Qc (id:=10) Xb [] (by kernel_rfl) ?_;simp [-zg,-zd,↓Qb,↓Qa,go_sem]
 | refine Qc (id:=12) Xb [] (by kernel_rfl) ?_;simp [-zg,-zd,↓Qb,↓Qa,go_sem,hV]
 | ((obtain ⟨i,zq⟩:=q);(obtain ⟨g1,g2,g3,g4,g5,g6⟩:=hq);(dsimp only at g1 g2 g3 g4 g5 g6);(obtain ⟨ls,js,qs,es,nb,cp,j,H0⟩:=zq);(dsimp only at *);(obtain ⟨t1,t2,t3,t4,t5,t6,t7⟩:=g2);(dsimp only at t1 t2 t3 t4 t5 t6 t7));refine Qc (id:=13) Xb [] (by kernel_rfl) ?_;simp [-zg,-zd,↓Qb,↓Qa,go_sem,t6,(show js.length ≤ 9223372036854775806 by omega),(show 2 * (js.length + 1) * 8 ≤ 281474976710656 by omega),snoc_cI];try ((refine Qx (fun H1=>H1 ab = some [.fr 1 (js.length + 1) (cat cI (js ++ [(ls.length:Int)])),.fr 1 qs.length (cat cB qs),.fr 4 es.length (cat cT es)] ∧ H1 nb = some (cat cL ls ++ zrP j .any)) ⟨by simp [upd],by simp [upd,t3,t7]⟩ fun H2 ⟨u1,u2⟩=>?_))
 | refine Qc (id:=14) Xb [] (by kernel_rfl) ?_;simp [-zg,-zd,↓Qb,↓Qa,go_sem,u1,u2,t3,zS t3,(show ls.length ≤ 9223372036854775806 by omega),(show 2 * (ls.length + 1) * 24 ≤ 281474976710656 by omega),t5,(show ls.length ≤ ls.length + j by omega)];try ((refine AW_matL 11 (ls:=ls) (x:=(i:Int)) (y:=0) rfl fun nb2 cp2 j2 hn2 hc2 hj2=>?_);(have n2:¬ nb2 = ab:=(by rintro rfl;simp [upd,t3,zS t3,u1] at hn2));(refine Qx (fun H1=>TAi ab us ⟨ls ++ [[(i:Int),0]],js ++ [(ls.length:Int)],qs,es,nb2,cp2,j2,H1⟩) ⟨t1.snoc (PhOk.zero us),t2,n2,by simpa using hc2,by simpa using hj2,by simp [upd,n2,zS n2,t3,zS t3,u1],by simp [upd]⟩ fun H3 hT3=>?_);(have hl3:(ls ++ [[(i:Int),0]]).length = ls.length + 1:=(by simp));(have hz:T1 ab us cn (i + 1,⟨ls ++ [[(i:Int),0]],js ++ [(ls.length:Int)],qs,es,nb2,cp2,j2,H3⟩):=⟨by dsimp only;omega,hT3,by simp;omega,by simp;omega,g5,g6⟩);(rw [← hl3]);(obtain ⟨zz,hzz⟩:∃ zz:TA,zz = ⟨ls ++ [[(i:Int),0]],js ++ [(ls.length:Int)],qs,es,nb2,cp2,j2,H3⟩:=⟨_,rfl⟩);(rw [← hzz] at hz);(have z1:ls ++ [[(i:Int),0]] = zz.ls:=(by rw [hzz]));(have z2:nb2 = zz.nb:=(by rw [hzz]));(have z3:cp2 = zz.cp:=(by rw [hzz]));(have z4:H3 = zz.H:=(by rw [hzz]));(rw [z1,z2,z3,z4]);(clear hzz))
 | refine Qc (id:=11) Xb [] (by kernel_rfl) ?_;simp [-zg,-zd,↓Qb,↓Qa,go_sem,wrapS (k:=i) (by omega)]
 | refine Qc (id:=11) Xb [] (by kernel_rfl) ?_;simp [-zg,-zd,↓Qb,↓Qa,go_sem,wrapS (k:=q.1) (by omega)]
 | ((obtain ⟨i0,q1⟩:=q);(obtain ⟨g1,g2,g3,g4,g5,g6⟩:=hq);(dsimp only at *));refine Qc (id:=15) Xb [] (by kernel_rfl) ?_;simp [-zg,-zd,↓Qb,↓Qa,go_sem]
 | ((have hr1:=hr.1);(have hr3:=hr.2.2.1));refine Qc (id:=16) Xb [] (by kernel_rfl) ?_;simp [-zg,-zd,↓Qb,↓Qa,go_sem]
 | refine Qc (id:=18) Xb [] (by kernel_rfl) ?_;simp [-zg,-zd,↓Qb,↓Qa,go_sem]
 | refine Qc (id:=19) Xb [] (by kernel_rfl) ?_;simp [-zg,-zd,↓Qb,↓Qa,go_sem]
 | ((obtain ⟨i,rz⟩:=r);(obtain ⟨h1,h2,h3,h4,h5,h6⟩:=hr);(dsimp only at *);(obtain ⟨ls,js,qs,es,nb,cp,j,H0⟩:=rz);(dsimp only at *);(obtain ⟨t1,t2,t3,t4,t5,t6,t7⟩:=h2);(dsimp only at t1 t2 t3 t4 t5 t6 t7);(have hil:i < ls.length:=(by omega));(obtain ⟨s,ph,hp,hph⟩:=t1 (nth ls i) (Zz hil)));refine Qc (id:=20) Xb [] (by kernel_rfl) ?_;simp [-zg,-zd,↓Qb,↓Qa,go_sem,hil,Qi hil,zsP hil,t7,hp,(show nth [s,ph] 0 = s from rfl),(show i < ls.length + j by omega)]
 | refine Qc (id:=21) Xb [] (by kernel_rfl) ?_;simp [-zg,-zd,↓Qb,↓Qa,go_sem,hA,hU,hph,hul,(show nth [ph] 0 = ph from rfl),(show nth [s,ph] 1 = ph from rfl),hil,Qi hil,zsP hil,t7,hp,(show i < ls.length + j by omega)];try ((intro c21);(have h21:=l7Phase_ok bs us s ph hA hU hph hul c21);(simp only [zacw] at h21);(generalize zadr bs us s ph c21 = zp at *);(obtain ⟨ph2,ac⟩:=zp);(dsimp only at h21 ⊢))
 | refine Qc (id:=22) Xb [] (by kernel_rfl) ?_;simp [-zg,-zd,↓Qb,↓Qa,go_sem,t6,(show qs.length ≤ 9223372036854775806 by omega),(show 2 * (qs.length + 1) * 1 ≤ 281474976710656 by omega),(show 2 * (qs.length + 1) ≤ 281474976710656 by omega),snoc_cB];try ((refine Qx (fun H1=>H1 ab = some [.fr 1 js.length (cat cI js),.fr 1 (qs ++ [ac]).length (cat cB (qs ++ [ac])),.fr 4 es.length (cat cT es)] ∧ H1 nb = some (cat cL ls ++ zrP j .any)) ⟨by simp [upd],by simp [upd,t3,t7]⟩ fun H2 ⟨u1,u2⟩=>?_))
 | refine Qc (id:=23) Xb [] (by kernel_rfl) ?_;simp [-zg,-zd,↓Qb,↓Qa,go_sem,hA];try ((intro c23);(have h23:=l7Letter_ok bs s hA c23);(simp only [zabf] at h23);(generalize zacx bs s c23 = zl at *);(obtain ⟨care,vl⟩:=zl);(dsimp only at h23 ⊢))
 | refine Qc (id:=24) Xb [] (by kernel_rfl) ?_;simp [-zg,-zd,↓Qb,↓Qa,go_sem]
 | ((have hy1:=hy.1));refine Qc (id:=25) Xb [] (by kernel_rfl) ?_;simp [-zg,-zd,↓Qb,↓Qa,go_sem]
 | refine Qc (id:=27) Xb [] (by kernel_rfl) ?_;simp [-zg,-zd,↓Qb,↓Qa,go_sem,hA];try ((intro c27);(generalize zacb bs s (y.1:Int) c27 = fb at *))
 | ((obtain ⟨e,yz⟩:=y);(obtain ⟨y1,y2,y3,y4,y5,y6,y7⟩:=hy);(dsimp only at *);(obtain ⟨ls2,js2,qs2,es2,nb2,cp2,j2,H4⟩:=yz);(dsimp only at *);(obtain ⟨w1,w2,w3,w4,w5,w6,w7⟩:=y2);(dsimp only at w1 w2 w3 w4 w5 w6 w7));refine Qc (id:=28) Xb [] (by kernel_rfl) ?_;simp [-zg,-zd,↓Qb,↓Qa,go_sem]
 | ((refine zaiw 11 (b:=nb2) (sz:=1) (m:=ls2.length) (all:=cat cL ls2 ++ zrP j2 D.any) rfl w7 (by omega) (by simp [Qv]) (by simp [Qv];omega) ?_);(simp only [Nat.mul_one,zadf]));refine Qc (id:=29) Xb [] (by kernel_rfl) ?_;simp [-zg,-zd,↓Qb,↓Qa,go_sem,(show ls2.length ≤ 100000 by omega)];try ((intro c29);(have h29:=l7Pair_ok ls2 [(e:Int),ph2] (by omega) c29);(simp only [zads] at h29);(generalize zaeu ls2 [(e:Int),ph2] c29 = zq at *);(obtain ⟨ls3,ix⟩:=zq);(dsimp only at h29 ⊢);(have hl3:ls3.length ≤ ls2.length + 1 ∧ ls2.length ≤ ls3.length:=(by rcases h29 with h | h <;> rw [h] <;> simp));(have hP3:PairsOk us ls3:=(by rcases h29 with h | h;rw [h];exact w1;rw [h];exact w1.snoc h21));(refine Vl 11 rfl fun nb3 cp3 j3 hn3 hc3 hj3=>?_);(have n3:¬ nb3 = ab:=(by rintro rfl;simp [upd,w3,zS w3,w6] at hn3));(refine Qx (fun H1=>H1 ab = some [.fr 1 js2.length (cat cI js2),.fr 1 qs2.length (cat cB qs2),.fr 4 es2.length (cat cT es2)] ∧ H1 nb3 = some (cat cL ls3 ++ zrP j3 .any)) ⟨by simp [upd,n3,zS n3,w3,zS w3,w6],by simp [upd]⟩ fun H5 ⟨v1,v2⟩=>?_))
 | refine Qc (id:=30) Xb [] (by kernel_rfl) ?_;simp [-zg,-zd,↓Qb,↓Qa,go_sem,v1,(show es2.length ≤ 9223372036854775806 by omega),(show 2 * (es2.length + 1) * 32 ≤ 281474976710656 by omega),snoc_cT];try ((have hl4:(es2 ++ [((i:Int),care,vl,ix)]).length = es2.length + 1:=(by simp));(refine Qx (fun H1=>TAi ab us ⟨ls3,js2,qs2,es2 ++ [((i:Int),care,vl,ix)],nb3,cp3,j3,H1⟩) ⟨hP3,w2.snoc h23,n3,(show ls3.length ≤ cp3 by omega),(show cp3 ≤ ls3.length + j3 by omega),by simp [upd],by simp [upd,n3,v2]⟩ fun H6 hT6=>?_);(have hz:T3y ab us cn i ls.length (e + 1,⟨ls3,js2,qs2,es2 ++ [((i:Int),care,vl,ix)],nb3,cp3,j3,H6⟩):=⟨by dsimp only;omega,hT6,by dsimp only;omega,by dsimp only;omega,y5,y6,by dsimp only;omega⟩);(obtain ⟨zz,hzz⟩:∃ zz:TA,zz = ⟨ls3,js2,qs2,es2 ++ [((i:Int),care,vl,ix)],nb3,cp3,j3,H6⟩:=⟨_,rfl⟩);(rw [← hzz] at hz);(have z1:ls3 = zz.ls:=(by rw [hzz]));(have z2:nb3 = zz.nb:=(by rw [hzz]));(have z3:cp3 = zz.cp:=(by rw [hzz]));(have z4:H6 = zz.H:=(by rw [hzz]));(rw [z1,z2,z3,z4]);(clear hzz))
 | refine Qc (id:=26) Xb [] (by kernel_rfl) ?_;simp [-zg,-zd,↓Qb,↓Qa,go_sem,wrapS (k:=e) (by omega)]
 | refine Qc (id:=26) Xb [] (by kernel_rfl) ?_;simp [-zg,-zd,↓Qb,↓Qa,go_sem,wrapS (k:=y.1) (by omega)]
 | ((obtain ⟨e,yz⟩:=y);(obtain ⟨y1,y2,y3,y4,y5,y6,y7⟩:=hy);(dsimp only at *);(have hyz:T2 ab us (i + 1,yz):=⟨by dsimp only;omega,y2,by dsimp only;omega,by dsimp only;omega,y6,by dsimp only;omega⟩));refine Qc (id:=17) Xb [] (by kernel_rfl) ?_;simp [-zg,-zd,↓Qb,↓Qa,go_sem,wrapS (k:=i) (by omega)]
 | ((obtain ⟨i,rz⟩:=r);(obtain ⟨h1,h2,h3,h4,h5,h6⟩:=hr);(dsimp only at *);(obtain ⟨ls,js,qs,es,nb,cp,j,H0⟩:=rz);(dsimp only at *);(obtain ⟨t1,t2,t3,t4,t5,t6,t7⟩:=h2);(dsimp only at t1 t2 t3 t4 t5 t6 t7));refine Qc (id:=31) Xb [] (by kernel_rfl) ?_;simp [-zg,-zd,↓Qb,↓Qa,go_sem]
 | refine Qc (id:=32) Xb [] (by kernel_rfl) ?_;simp [-zg,-zd,↓Qb,↓Qa,go_sem,t6];try ((refine Qx (fun H1=>H1 ab = some [.fr 1 js.length (cat cI js),.fr 1 [false].length (cat cB [false]),.fr 4 es.length (cat cT es)]) (by simp [upd,Xv,cB]) fun H2 u1=>?_))
 | refine Qc (id:=33) Xb [] (by kernel_rfl) ?_;simp [-zg,-zd,↓Qb,↓Qa,go_sem,u1]
 | refine Qc (id:=33) Xb [] (by kernel_rfl) ?_;simp [-zg,-zd,↓Qb,↓Qa,go_sem,t6]
 | refine Qe (c:=.tmp 27) ?_;simp [-zg,-zd,↓Qb,↓Qa,go_sem];try first | (refine ⟨?_,?_⟩ <;> refine zA ?_) | (refine ⟨fun c27=>?_,fun c27=>?_⟩ <;> (try simp [B_iff,B_not] at c27))
 | refine Qe (c:=.tmp 44) ?_;simp [-zg,-zd,↓Qb,↓Qa,go_sem];try first | (refine ⟨?_,?_⟩ <;> refine zA ?_) | (refine ⟨fun c44=>?_,fun c44=>?_⟩ <;> (try simp [B_iff,B_not] at c44))
 | refine Qe (c:=.tmp 50) ?_;simp [-zg,-zd,↓Qb,↓Qa,go_sem];try first | (refine ⟨?_,?_⟩ <;> refine zA ?_) | (refine ⟨fun c50=>?_,fun c50=>?_⟩ <;> (try simp [B_iff,B_not] at c50))
 | refine Qe (c:=.tmp 66) ?_;simp [-zg,-zd,↓Qb,↓Qa,go_sem];try first | (refine ⟨?_,?_⟩ <;> refine zA ?_) | (refine ⟨fun c66=>?_,fun c66=>?_⟩ <;> (try simp [B_iff,B_not] at c66))
 | refine Qe (c:=.tmp 71) ?_;simp [-zg,-zd,↓Qb,↓Qa,go_sem];try first | (refine ⟨?_,?_⟩ <;> refine zA ?_) | (refine ⟨fun c71=>?_,fun c71=>?_⟩ <;> (try simp [B_iff,B_not] at c71))
 | refine Qe (c:=.tmp 106) ?_;simp [-zg,-zd,↓Qb,↓Qa,go_sem];try first | (refine ⟨?_,?_⟩ <;> refine zA ?_) | (refine ⟨fun c106=>?_,fun c106=>?_⟩ <;> (try simp [B_iff,B_not] at c106))
 | refine Qe (c:=.tmp 112) ?_;simp [-zg,-zd,↓Qb,↓Qa,go_sem];try first | (refine ⟨?_,?_⟩ <;> refine zA ?_) | (refine ⟨fun c112=>?_,fun c112=>?_⟩ <;> (try simp [B_iff,B_not] at c112))
 | refine Qe (c:=.tmp 133) ?_;simp [-zg,-zd,↓Qb,↓Qa,go_sem];try first | (refine ⟨?_,?_⟩ <;> refine zA ?_) | (refine ⟨fun c133=>?_,fun c133=>?_⟩ <;> (try simp [B_iff,B_not] at c133))
 | (refine Qf (id:=0) (Qz (ι:=Nat × TA) (fun q:Nat × TA=>⟨(upd (upd (upd (upd (upd (upd (upd (upd (fun _=>.any) 2 (.box [.nil,.nil,.nil])) 4 (li cX bs)) 8 (.int .i64 (cn:Int))) 9 (li cI us)) 10 (.ptr ab 0)) 6 (.pd [.int .i64 gk,.int .i64 gv,li cX gs])) 11 (.sl q.2.nb 1 0 q.2.ls.length q.2.cp)) 12 (.int .i64 q.1)),q.2.H⟩) (fun q=>T1 ab us cn q) (fun q=>cn - q.1) ((0,⟨[],[],[],[],nb,cp,j,H1⟩)) ?_ ?_ ?_);exact ⟨Nat.zero_le _,hT,Nat.le_refl _,Nat.le_refl _,rfl,rfl⟩;((repeat' (first | exact Qk (by assumption) | exact Qm | refine Qj ?_ ?_ | refine Ql ?_)) <;> simp [-zg,-zd,↓Qb,↓Qa,go_sem,List.length_nil]);rintro q hq)
 | (refine ⟨(i + 1,zz),hz,by first | omega | (simp;done) | (simp;omega),?_⟩;((repeat' (first | exact Qk (by assumption) | exact Qm | refine Qj ?_ ?_ | refine Ql ?_)) <;> simp [-zg,-zd,↓Qb,↓Qa,go_sem,]))
 | (refine Qf (id:=2) (Qz (ι:=Nat × TA) (fun r:Nat × TA=>⟨(upd (upd (upd (upd (upd (upd (upd (fun _=>.any) 2 (.box [.nil,.nil,.nil])) 4 (li cX bs)) 8 (.int .i64 (cn:Int))) 9 (li cI us)) 10 (.ptr ab 0)) 11 (.sl r.2.nb 1 0 r.2.ls.length r.2.cp)) 13 (.int .i64 r.1)),r.2.H⟩) (fun r=>T2 ab us r) (fun r=>96 - r.1) ((0,q1)) ?_ ?_ ?_);exact ⟨Nat.zero_le _,g2,by dsimp only;omega,by dsimp only;omega,g5,by dsimp only;omega⟩;((repeat' (first | exact Qk (by assumption) | exact Qm | refine Qj ?_ ?_ | refine Ql ?_)) <;> simp [-zg,-zd,↓Qb,↓Qa,go_sem]);rintro r hr)
 | (refine ⟨(i + 1,yz),hyz,by first | omega | (simp;done) | (simp;omega),?_⟩;((repeat' (first | exact Qk (by assumption) | exact Qm | refine Qj ?_ ?_ | refine Ql ?_)) <;> simp [-zg,-zd,↓Qb,↓Qa,go_sem]))
 | (refine Qf (id:=4) (Qz (ι:=Nat × TA) (fun y:Nat × TA=>⟨(upd (upd (upd (upd (upd (upd (upd (upd (upd (upd (upd (upd (fun _=>.any) 2 (.box [.nil,.nil,.nil])) 4 (li cX bs)) 8 (.int .i64 (cn:Int))) 9 (li cI us)) 10 (.ptr ab 0)) 11 (.sl y.2.nb 1 0 y.2.ls.length y.2.cp)) 13 (.int .i64 i)) 14 (.int .i64 s)) 15 (.int .i64 ph2)) 17 (.int .i64 care)) 18 (.int .i64 vl)) 19 (.int .i64 y.1)),y.2.H⟩) (fun y=>T3y ab us cn i ls.length y) (fun y=>cn - y.1) ((0,⟨ls,js,qs ++ [ac],es,nb,cp,j,H2⟩)) ?_ ?_ ?_);exact ⟨Nat.zero_le _,⟨t1,t2,t3,t4,t5,u1,u2⟩,by dsimp only;omega,by dsimp only;omega,h4,by simp;omega,by dsimp only;omega⟩;((repeat' (first | exact Qk (by assumption) | exact Qm | refine Qj ?_ ?_ | refine Ql ?_)) <;> simp [-zg,-zd,↓Qb,↓Qa,go_sem]);rintro y hy)
 | (refine ⟨(e + 1,zz),hz,by first | omega | (simp;done) | (simp;omega),?_⟩;((repeat' (first | exact Qk (by assumption) | exact Qm | refine Qj ?_ ?_ | refine Ql ?_)) <;> simp [-zg,-zd,↓Qb,↓Qa,go_sem]))
 | (refine Qf ?_)
 | (refine Qr ?_;simp [-zg,-zd,↓Qb,↓Qa,go_sem])
 | (refine Qq ?_;simp [-zg,-zd,↓Qb,↓Qa,go_sem])
 | (refine Qt ?_;try simp [-zg,-zd,↓Qb,↓Qa,go_sem,Tryz.results80])
 | (intro hx;refine zA ?_)
 | (intro hx;change retR _ _ _ _ _)
 | (refine ⟨?_,?_⟩ <;> refine zA ?_)
 | (intro hx;constructor <;> intro hs)
 | (constructor <;> intro hs)
 | (refine ⟨?_,fun hs=>?_⟩;refine zA ?_)
 | (refine ⟨fun hs=>?_,?_⟩;rotate_left;refine zA ?_;rotate_left)
 | ((fail_if_success change retR _ _ _ _ _);(refine ⟨(q.1 + 1,q.2),⟨by dsimp only;omega,hq.2.1,by have:=hq.2.2.1;dsimp only;omega,by have:=hq.2.2.2.1;dsimp only;omega,hq.2.2.2.2⟩,by dsimp only;omega,?_⟩;((repeat' (first | exact Qk (by assumption) | exact Qm | refine Qj ?_ ?_ | refine Ql ?_)) <;> simp [-zg,-zd,go_sem]);done))
 | ((fail_if_success change retR _ _ _ _ _);(refine ⟨(y.1 + 1,y.2),⟨by dsimp only;omega,hy.2.1,by have:=hy.2.2.1;dsimp only;omega,hy.2.2.2.1,hy.2.2.2.2.1,hy.2.2.2.2.2.1,by have:=hy.2.2.2.2.2.2;dsimp only;omega⟩,by dsimp only;omega,?_⟩;((repeat' (first | exact Qk (by assumption) | exact Qm | refine Qj ?_ ?_ | refine Ql ?_)) <;> simp [-zg,-zd,go_sem]);done))))
  all_goals (first
 | (refine zabe _ _ _ ((([],[],[]),false)) ?_ ?_ ?_;(first | exact Or.inl rfl | exact Or.inr rfl);(focus (simp [-zg,-zd,↓Qb,↓Qa,go_sem,Tryz.results80,dat,datL_map,li,Xh];done));(focus ((exact ⟨by simp,by simp,by simp,SmallT.nil⟩);done)))
 | (refine zabe _ _ _ (((js,qs,es),true)) ?_ ?_ ?_;(first | exact Or.inl rfl | exact Or.inr rfl);(focus (simp [-zg,-zd,↓Qb,↓Qa,go_sem,Tryz.results80,dat,datL_map,li,Vc];done));(focus ((exact ⟨by dsimp only;omega,by dsimp only;omega,by dsimp only;omega,t2⟩);done)))
 | (refine zabe _ _ _ (((js,[false],es),true)) ?_ ?_ ?_;(first | exact Or.inl rfl | exact Or.inr rfl);(focus (simp [-zg,-zd,↓Qb,↓Qa,go_sem,Tryz.results80,dat,datL_map,li,Vc,Xv,cB];done));(focus ((exact ⟨by dsimp only;omega,by simp,by dsimp only;omega,t2⟩);done)))
 | skip)
@[go_sem] def zacf:Con:=.rel fun args H=>match args with
  | [.st [.int .i64 k,.int .i64 v,.list n_ks c_ks]]=>((Is cX n_ks c_ks),fun c=>(Ud (zabd k v (de cX c_ks) c),H))
  | _=>(False,fun _=>(.any,H))
theorem zags:ConOk Tryz.prog 80 zacf:=by
  refine ⟨Qo Tryz.func80 (by decide) rfl,fun args H h=>?_⟩
  revert h
  dsimp only
  split
  · intro h
    obtain ⟨ks,rfl,rfl⟩:=h
    try simp only [Qp] at *
    exact SpecR.enc ((SpecR.frame0 (zaft _ _ ks ) (H:=H)).shut) fun c=>Prod.ext (zacz _ _ _  c).2.symm rfl
  · intro h
    exact h.elim
@[go_sem] def Γy24:FuncId → Con:=ext Γy23 80 zacf
theorem Γy24_ok:∀ g,ConOk Tryz.prog g (Γy24 g):=Qn Xb zags


set_option maxHeartbeats 4000000 in

@[go_sem] def Jz:Tree → D:=sX
theorem l5Random_flat (x:Tree):dat (Jz x) = Jz x:=by simp [go_sem]
def zacc (d:Int):Tree → Prop:=fun _=>True
def zaig (d:Int) (x:(Tree) × D):Prop:=zacc d x.1 ∧ dat x.2 = Jz x.1
def Jk (d:Int) (p:Int) (c:Any):((Tree) × D) × Int:=dsel (zaig d) ((.mk 1 0 []:Tree),Jz (.mk 1 0 [])) (kR d.toNat) p c
def Zt (d:Int) (p:Int) (c:Any):(Tree) × Int:=((Jk d p c).1.1,(Jk d p c).2)
theorem zagj (d:Int) (hd:d ≤ 4) (p:Int) (c:Any):(zacc d (Zt d p c).1 ∧ p ≤ (Zt d p c).2 ∧ (Zt d p c).2 ≤ p + (kR d.toNat)) ∧ dat (Jk d p c).1.2 = Jz (Zt d p c).1:=by
  have hx:zacc d (.mk 1 0 []):=trivial
  have h:=dsel_ok (good:=zaig d) (x0:=((.mk 1 0 []:Tree),Jz (.mk 1 0 []))) ⟨hx,l5Random_flat _⟩ (K:=(kR d.toNat)) (kR_nn _) (p:=p) c
  exact ⟨⟨h.1.1,h.2.1,h.2.2⟩,h.1.2⟩
theorem zanm (d:Int) (hd:d ≤ 4) (p:Int) (c:Any):zacc d (Zt d p c).1 ∧ p ≤ (Zt d p c).2 ∧ (Zt d p c).2 ≤ p + (kR d.toNat):=(zagj d hd p c).1
theorem zabu (d:Int) (ys:List UInt8) (p:Int) (b:Nat) {e_:Exit} {S_:St} (x:Tree) (p':Int) (he_:e_ = .ret ∨ e_ = .normal)
    (h1:(Qg Tryz.prog S_ Tryz.f111.results.toList).1 ∧ dat (resD (Qg Tryz.prog S_ Tryz.f111.results.toList).2.1) = Jz x ∧ (Qg Tryz.prog S_ Tryz.f111.results.toList).2.2.H b = some [li cY ys,.int .i64 p']) (hg:zacc d x) (h2:p ≤ p' ∧ p' ≤ p + (kR d.toNat)) :
    retR Tryz.prog Tryz.f111 (fun c=>((Jk d p c).1.2,one b [li cY ys,.int .i64 (Jk d p c).2])) e_ S_ :=
  ret_draw (good:=zaig d) (enc:=fun x:(Tree) × D=>x.2) (cells:=fun q=>[li cY ys,.int .i64 q]) (x,resD (Qg Tryz.prog S_ Tryz.f111.results.toList).2.1) p' he_ ⟨h1.1,rfl,h1.2.2⟩ ⟨hg,h1.2.1⟩ h2
@[go_sem] def l5RandomCn (n_:Nat):Con:=.rel fun args H=>match args with
  | [.ptr b 0,.int .i64 d]=>match H b with
    | some [.list m cs,.int .i64 p]=>((Is cY m cs) ∧ (m ≤ 2000) ∧ (0 ≤ p) ∧ (p + (kR d.toNat) ≤ 1000000) ∧ (d ≤ 4) ∧ (d.toNat < n_),fun c=>(Jz (Zt d p c).1,upd H b (some [.list m cs,.int .i64 (Zt d p c).2])))
    | _=>(False,fun _=>(.any,H))
  | _=>(False,fun _=>(.any,H))
theorem l5RandomCn_ok {n_:Nat} (ih:∀ (ys:List UInt8) (p:Int) (b:Nat) (d:Int) (hl:ys.length ≤ 2000) (h0_:0 ≤ p) (hp_:p + (kR d.toNat) ≤ 1000000) (hd:d ≤ 4) (hm_:d.toNat < n_),SpecR Tryz.prog 111 [.ptr b 0,.int .i64 d] (one b [li cY ys,.int .i64 p]) (fun c=>((Jk d p c).1.2,one b [li cY ys,.int .i64 (Jk d p c).2]))):ConOk Tryz.prog 111 (l5RandomCn n_):=by
  refine ⟨Qo Tryz.func111 (by decide) rfl,fun args H h=>?_⟩
  revert h
  dsimp only
  split
  · split
    · rename_i hH
      intro h
      obtain ⟨⟨ys,rfl,rfl⟩,hl,h0_,hp_,hd,hm_⟩:=h
      try simp only [Qp] at *
      exact SpecR.enc ((ih ys _ _ _ hl h0_ hp_ hd hm_).frame hH).shut fun c=>Prod.ext (zagj _ hd _ _).2.symm rfl
    · intro h;exact h.elim
  · intro h
    exact h.elim
theorem l5Random_rec:∀ (n_:Nat),∀ (ys:List UInt8) (p:Int) (b:Nat) (d:Int) (hl:ys.length ≤ 2000) (h0_:0 ≤ p) (hp_:p + (kR d.toNat) ≤ 1000000) (hd:d ≤ 4) (hm_:d.toNat < n_),SpecR Tryz.prog 111 [.ptr b 0,.int .i64 d] (one b [li cY ys,.int .i64 p]) (fun c=>((Jk d p c).1.2,one b [li cY ys,.int .i64 (Jk d p c).2])):=by
  intro n_
  induction n_ with
  | zero=>intros;omega
  | succ n_ ih =>
  intro ys p b d hl h0_ hp_ hd hm_
  have Γr_ok:=Qn Γy24_ok (l5RandomCn_ok ih)
  refine SpecR.of_walk Tryz.func111 rfl (by simp [Tryz.f111]) fun B=>?_
  have hk3:=kR_ge d.toNat;by_cases hd2:d < 2
  all_goals (repeat' (first
 | refine Qs ?_
 | refine Qc (id:=0) Γr_ok [] (by kernel_rfl) ?_;simp [-zg,-zd,↓Qb,↓Qa,go_sem]
 | refine Qc (id:=1) Γr_ok [9] (by kernel_rfl) ?_;simp [-zg,-zd,↓Qb,↓Qa,go_sem,hd2,hl,(show 0 ≤ p by omega),(show p ≤ 1000000 by omega),(show 0 ≤ p + 1 by omega),(show p + 1 ≤ 1000000 by omega)];try (refine ⟨fun s1a=>?_,fun s1a=>?_⟩ <;> (try simp [B_iff,B_not] at s1a) <;> try (refine ⟨fun s1b=>?_,fun s1b=>?_⟩ <;> (try simp [B_iff,B_not] at s1b)))
 | refine Qc (id:=2) Γr_ok [] (by kernel_rfl) ?_;simp [-zg,-zd,↓Qb,↓Qa,go_sem,hl,(show 0 ≤ p by omega),(show p ≤ 1000000 by omega),(show 0 ≤ p + 1 by omega),(show p + 1 ≤ 1000000 by omega),(show 0 ≤ p + 1 + 1 by omega),(show p + 1 + 1 ≤ 1000000 by omega)]
 | refine Qc (id:=3) Γr_ok [] (by kernel_rfl) ?_;simp [-zg,-zd,↓Qb,↓Qa,go_sem];try (intro c3;generalize zahh c3 = z3 at *)
 | refine Qc (id:=4) Γr_ok [] (by kernel_rfl) ?_;simp [-zg,-zd,↓Qb,↓Qa,go_sem,hl,(show 0 ≤ p by omega),(show p ≤ 1000000 by omega),(show 0 ≤ p + 1 by omega),(show p + 1 ≤ 1000000 by omega),(show 0 ≤ p + 1 + 1 by omega),(show p + 1 + 1 ≤ 1000000 by omega),(show 0 ≤ p + 1 + 1 + 1 by omega),(show p + 1 + 1 + 1 ≤ 1000000 by omega)]
 | refine Qc (id:=5) Γr_ok [] (by kernel_rfl) ?_;simp [-zg,-zd,↓Qb,↓Qa,go_sem,hl,(show 0 ≤ p by omega),(show p ≤ 1000000 by omega),(show 0 ≤ p + 1 by omega),(show p + 1 ≤ 1000000 by omega),(show 0 ≤ p + 1 + 1 by omega),(show p + 1 + 1 ≤ 1000000 by omega),(show 0 ≤ p + 1 + 1 + 1 by omega),(show p + 1 + 1 + 1 ≤ 1000000 by omega)];try ((generalize numI ys (p + 1) [7,9,10,3,4,5,6,8] = kk at *);(have hks:=kR_step (d:=d) (by omega));(have hM:=kR_ge (d - 1).toNat);(have hd1:(d - 1).toNat = d.toNat - 1:=(by omega));(rw [hd1] at hks hM);(refine AW_boxNil2 5 3 rfl ?_);(refine Jd 5 rfl fun qb hqb=>?_);(have hbq:¬ b = qb:=(by rintro rfl;simp [go_sem] at hqb));(clear hqb);(refine Qx (fun H1=>H1 b = some [.list ys.length (cat cY ys),.int .i64 (p + 1 + 1)] ∧ H1 qb = some [.int .i64 kk,.int .i64 0,.fr 3 0 []]) ⟨by simp [go_sem,hbq],by simp [go_sem,hbq]⟩ fun H1 ⟨w1,w2⟩=>?_))
 | refine Qc (id:=6) Γr_ok [] (by kernel_rfl) ?_;simp [-zg,-zd,↓Qb,↓Qa,go_sem,w2];try (have hal:=arF_le kk;generalize arF kk = aa at *)
 | refine Qc (id:=7) Γr_ok [] (by kernel_rfl) ?_;simp [-zg,-zd,↓Qb,↓Qa,go_sem]
 | ((refine Zo qb 2 (all:=[.int .i64 kk,.int .i64 0,.fr 3 q.1.length (cat cX q.1)]) g6 rfl fun u cu ju hu hcu hdu=>?_);(have ub:¬ u = b:=(by intro e;rw [e] at hu;dsimp only at hu;rw [g5] at hu;cases hu));(have uq:¬ u = qb:=(by intro e;rw [e] at hu;dsimp only at hu;rw [g6] at hu;cases hu));(clear hu));refine Zs (id:=9) Γr_ok mixed [(qb,[.int .i64 kk,.int .i64 0,.sl u 3 0 q.1.length cu])] [] [] (by kernel_rfl) (by kernel_rfl) (by simp [-zg,-zd,↓Qb,↓Qa,go_sem,g5,hl,wrap_in (x:=d - 1) (by omega) (by omega),hbq,zS hbq,ub,uq,zS ub,zS uq,(show 0 ≤ q.2.2.1 by omega),(show d - 1 ≤ 4 by omega),(show d.toNat - 1 < n_ by omega),(show q.1.length ≤ 9223372036854775806 by omega),(show 2 * (q.1.length + 1) * 40 ≤ 281474976710656 by omega),(show q.2.2.1 + kR (d.toNat - 1) ≤ 1000000 by omega),hdu]) (by simp [-zg,-zd,↓Qb,↓Qa,go_sem,g5,hl,wrap_in (x:=d - 1) (by omega) (by omega),hbq,zS hbq,ub,uq,zS ub,zS uq,(show 0 ≤ q.2.2.1 by omega),(show d - 1 ≤ 4 by omega),(show d.toNat - 1 < n_ by omega),(show q.1.length ≤ 9223372036854775806 by omega),(show 2 * (q.1.length + 1) * 40 ≤ 281474976710656 by omega),(show q.2.2.1 + kR (d.toNat - 1) ≤ 1000000 by omega),hdu]) ?_;simp [-zg,-zd,↓Qb,↓Qa,go_sem,g5,hl,wrap_in (x:=d - 1) (by omega) (by omega),hbq,zS hbq,ub,uq,zS ub,zS uq,(show 0 ≤ q.2.2.1 by omega),(show d - 1 ≤ 4 by omega),(show d.toNat - 1 < n_ by omega),(show q.1.length ≤ 9223372036854775806 by omega),(show 2 * (q.1.length + 1) * 40 ≤ 281474976710656 by omega),(show q.2.2.1 + kR (d.toNat - 1) ≤ 1000000 by omega),hdu];try (intro c10;have z0:=zanm (d - 1) (by omega) q.2.2.1 c10;generalize Zt (d - 1) q.2.2.1 c10 = z at *;obtain ⟨-,z1,z2⟩:=z0;rw [hd1] at z2;obtain ⟨t,p2⟩:=z;dsimp only at z1 z2;refine Qx (fun H2=>H2 b = some [.list ys.length (cat cY ys),.int .i64 p2] ∧ H2 qb = some [.int .i64 kk,.int .i64 0,.fr 3 (q.1 ++ [t]).length (cat cX (q.1 ++ [t]))]) ⟨by simp [upd,hbq,zS hbq,ub,uq,zS ub,zS uq],by simp [upd,hbq,zS hbq,ub,uq,zS ub,zS uq,Xu,Xv,cX_eq,li]⟩ fun H2 ⟨y1,y2⟩=>?_)
 | refine Qc (id:=8) Γr_ok [] (by kernel_rfl) ?_;simp [-zg,-zd,↓Qb,↓Qa,go_sem,wrap_in (x:=q.2.1 - 1) (by omega) (by omega)]
 | refine Qc (id:=10) Γr_ok [] (by kernel_rfl) ?_;simp [-zg,-zd,↓Qb,↓Qa,go_sem,g6]
 | refine Qe (c:=.tmp 13) ?_;simp [-zg,-zd,↓Qb,↓Qa,go_sem];try first | (refine ⟨?_,?_⟩ <;> refine zA ?_) | (refine ⟨fun c13=>?_,fun c13=>?_⟩ <;> (try simp [B_iff,B_not] at c13))
 | refine Qe (c:=.tmp 16) ?_;simp [-zg,-zd,↓Qb,↓Qa,go_sem];try first | (refine ⟨?_,?_⟩ <;> refine zA ?_) | (refine ⟨fun c16=>?_,fun c16=>?_⟩ <;> (try simp [B_iff,B_not] at c16))
 | refine Qe (c:=.tmp 30) ?_;simp [-zg,-zd,↓Qb,↓Qa,go_sem];try first | (refine ⟨?_,?_⟩ <;> refine zA ?_) | (refine ⟨fun c30=>?_,fun c30=>?_⟩ <;> (try simp [B_iff,B_not] at c30))
 | (refine Qf (id:=0) (Qz (ι:=List Tree × Int × Int × Hp) (fun q:List Tree × Int × Int × Hp=>⟨(upd (upd (upd (upd (upd (fun _=>.any) 0 (.ptr b 0)) 1 (.int .i64 d)) 4 (.box [.int .i64 0,.int .i64 0,.nil])) 5 (.ptr qb 0)) 6 (.int .i64 q.2.1)),q.2.2.2⟩) (fun q=>q.2.1 ≤ 2 ∧ (q.1.length:Int) + q.2.1 ≤ 2 ∧ p ≤ q.2.2.1 ∧ (q.2.1 ≤ 2 ∧ q.2.2.1 ≤ p + 3 ∨ q.2.1 ≤ 1 ∧ q.2.2.1 ≤ p + 3 + kR (d.toNat - 1) ∨ q.2.1 ≤ 0 ∧ q.2.2.1 ≤ p + 3 + 2 * kR (d.toNat - 1)) ∧ q.2.2.2 b = some [.list ys.length (cat cY ys),.int .i64 q.2.2.1] ∧ q.2.2.2 qb = some [.int .i64 kk,.int .i64 0,.fr 3 q.1.length (cat cX q.1)]) (fun q=>q.2.1.toNat) (([],aa,p + 1 + 1,H1)) ?_ ?_ ?_);exact ⟨by dsimp only;omega,by simpa using hal,by dsimp only;omega,by dsimp only;omega,by dsimp only;exact w1,by dsimp only;exact w2⟩;((repeat' (first | exact Qk (by assumption) | exact Qm | refine Qj ?_ ?_ | refine Ql ?_)) <;> simp [-zg,-zd,↓Qb,↓Qa,go_sem]);rintro q ⟨g1,g2,g3,g4,g5,g6⟩)
 | (refine ⟨(q.1 ++ [t],q.2.1 - 1,p2,H2),⟨by dsimp only;omega,by simp;omega,by dsimp only;omega,by dsimp only;omega,y1,y2⟩,by first | omega | (simp;done) | (simp;omega),?_⟩;((repeat' (first | exact Qk (by assumption) | exact Qm | refine Qj ?_ ?_ | refine Ql ?_)) <;> simp [-zg,-zd,↓Qb,↓Qa,go_sem,]))
 | (refine Qf ?_)
 | (refine Qr ?_;simp [-zg,-zd,↓Qb,↓Qa,go_sem])
 | (refine Qq ?_;simp [-zg,-zd,↓Qb,↓Qa,go_sem])
 | (refine Qt ?_;try simp [-zg,-zd,↓Qb,↓Qa,go_sem,Tryz.results111])
 | (intro hx;refine zA ?_)
 | (intro hx;change retR _ _ _ _ _)
 | (refine ⟨?_,?_⟩ <;> refine zA ?_)
 | (intro hx;constructor <;> intro hs)
 | (constructor <;> intro hs)
 | (refine ⟨?_,fun hs=>?_⟩;refine zA ?_)
 | (refine ⟨fun hs=>?_,?_⟩;rotate_left;refine zA ?_;rotate_left)
 | ((fail_if_success change retR _ _ _ _ _);(exfalso;omega))))
  all_goals (first
 | (refine zabu _ _ _ _ (z3) (p + 1) ?_ ?_ ?_ ?_;(first | exact Or.inl rfl | exact Or.inr rfl);(focus (simp [-zg,-zd,↓Qb,↓Qa,go_sem,Tryz.results111];done));(focus ((trivial);done));(focus (refine ⟨?_,?_⟩ <;> omega)))
 | (refine zabu _ _ _ _ (z3) (p + 1 + 1) ?_ ?_ ?_ ?_;(first | exact Or.inl rfl | exact Or.inr rfl);(focus (simp [-zg,-zd,↓Qb,↓Qa,go_sem,Tryz.results111];done));(focus ((trivial);done));(focus (refine ⟨?_,?_⟩ <;> omega)))
 | (refine zabu _ _ _ _ (.mk 2 (numI ys (p + 1) [0,1,0,2]) []) (p + 1 + 1) ?_ ?_ ?_ ?_;(first | exact Or.inl rfl | exact Or.inr rfl);(focus (simp [-zg,-zd,↓Qb,↓Qa,go_sem,Tryz.results111];done));(focus ((trivial);done));(focus (refine ⟨?_,?_⟩ <;> omega)))
 | (refine zabu _ _ _ _ (.mk 2 (numI ys (p + 1 + 1) [0,1,0,2]) []) (p + 1 + 1 + 1) ?_ ?_ ?_ ?_;(first | exact Or.inl rfl | exact Or.inr rfl);(focus (simp [-zg,-zd,↓Qb,↓Qa,go_sem,Tryz.results111];done));(focus ((trivial);done));(focus (refine ⟨?_,?_⟩ <;> omega)))
 | (refine zabu _ _ _ _ (.mk 2 (numI ys p [0,1,0,2]) []) (p + 1) ?_ ?_ ?_ ?_;(first | exact Or.inl rfl | exact Or.inr rfl);(focus (simp [-zg,-zd,↓Qb,↓Qa,go_sem,Tryz.results111];done));(focus ((trivial);done));(focus (refine ⟨?_,?_⟩ <;> omega)))
 | (refine zabu _ _ _ _ (.mk kk 0 q.1) (q.2.2.1) ?_ ?_ ?_ ?_;(first | exact Or.inl rfl | exact Or.inr rfl);(focus (simp [-zg,-zd,↓Qb,↓Qa,go_sem,Tryz.results111,li,dat,datL_map,hbq,g5];done));(focus ((trivial);done));(focus (refine ⟨?_,?_⟩ <;> omega)))
 | skip)
theorem l5Random_spec (ys:List UInt8) (p:Int) (b:Nat) (d:Int) (hl:ys.length ≤ 2000) (h0_:0 ≤ p) (hp_:p + (kR d.toNat) ≤ 1000000) (hd:d ≤ 4):SpecR Tryz.prog 111 [.ptr b 0,.int .i64 d] (one b [li cY ys,.int .i64 p]) (fun c=>((Jk d p c).1.2,one b [li cY ys,.int .i64 (Jk d p c).2])):=l5Random_rec (d.toNat + 1) ys p b d hl h0_ hp_ hd (by omega)
@[go_sem] def l5RandomC:Con:=.rel fun args H=>match args with
  | [.ptr b 0,.int .i64 d]=>match H b with
    | some [.list m cs,.int .i64 p]=>((Is cY m cs) ∧ (m ≤ 2000) ∧ (0 ≤ p) ∧ (p + (kR d.toNat) ≤ 1000000) ∧ (d ≤ 4),fun c=>(Jz (Zt d p c).1,upd H b (some [.list m cs,.int .i64 (Zt d p c).2])))
    | _=>(False,fun _=>(.any,H))
  | _=>(False,fun _=>(.any,H))
theorem l5RandomC_ok:ConOk Tryz.prog 111 l5RandomC:=by
  refine ⟨Qo Tryz.func111 (by decide) rfl,fun args H h=>?_⟩
  revert h
  dsimp only
  split
  · split
    · rename_i hH
      intro h
      obtain ⟨⟨ys,rfl,rfl⟩,hl,h0_,hp_,hd⟩:=h
      try simp only [Qp] at *
      exact SpecR.enc ((l5Random_spec ys _ _ _ hl h0_ hp_ hd).frame hH).shut fun c=>Prod.ext (zagj _ hd _ _).2.symm rfl
    · intro h;exact h.elim
  · intro h
    exact h.elim
@[go_sem] def Γy25:FuncId → Con:=ext Γy24 111 l5RandomC
theorem zahv:∀ g,ConOk Tryz.prog g (Γy25 g):=Qn Γy24_ok l5RandomC_ok

theorem forOk_atom:ForOk (.mk 2 0 []):=by
  refine ⟨⟨by simp [Tree.ks,Tree.k,arF],by simp [Tree.v],by simp [Tree.v],.inl rfl,fun i hi=>by simp [Tree.ks] at hi⟩,?_⟩
  simp [cntT,csum,Tree.ks]
theorem forOk_always:ForOk (.mk 10 0 [.mk 2 0 []]):=by
  refine ⟨⟨by simp [Tree.ks,Tree.k,arF],by simp [Tree.v],by simp [Tree.v],.inr rfl,fun i hi=>?_⟩,?_⟩
  · have:i = 0:=by simp only [Tree.ks,List.length_singleton] at hi;omega
    subst this
    exact ⟨by simp [Tree.ks,Tree.k,arF,nth],by simp [Tree.v,nth,Tree.ks],by simp [Tree.v,nth,Tree.ks],.inl rfl,fun i hi=>by simp [Tree.ks,nth] at hi⟩
  · simp [cntT,csum,Tree.ks]

@[go_sem] def Vp:Tree → D:=sX
theorem l5Formula_flat (x:Tree):dat (Vp x) = Vp x:=by simp [go_sem]
def zabj  : Tree → Prop:=fun x=>ForOk x
def zagk  (x:(Tree) × D):Prop:=zabj x.1 ∧ dat x.2 = Vp x.1
def zaar  (p:Int) (c:Any):((Tree) × D) × Int:=dsel (zagk) ((.mk 2 0 []:Tree),Vp (.mk 2 0 [])) 100 p c
def Jx  (p:Int) (c:Any):(Tree) × Int:=((zaar p c).1.1,(zaar p c).2)
theorem zaja   (p:Int) (c:Any):(zabj (Jx p c).1 ∧ p ≤ (Jx p c).2 ∧ (Jx p c).2 ≤ p + 100) ∧ dat (zaar p c).1.2 = Vp (Jx p c).1:=by
  have hx:zabj (.mk 2 0 []):=forOk_atom
  have h:=dsel_ok (good:=zagk) (x0:=((.mk 2 0 []:Tree),Vp (.mk 2 0 []))) ⟨hx,l5Formula_flat _⟩ (K:=100) (by omega) (p:=p) c
  exact ⟨⟨h.1.1,h.2.1,h.2.2⟩,h.1.2⟩
theorem l5Formula_ok   (p:Int) (c:Any):zabj (Jx p c).1 ∧ p ≤ (Jx p c).2 ∧ (Jx p c).2 ≤ p + 100:=(zaja  p c).1
theorem zaiz  (ys:List UInt8) (p:Int) (b:Nat) {e_:Exit} {S_:St} (x:Tree) (p':Int) (he_:e_ = .ret ∨ e_ = .normal)
    (h1:(Qg Tryz.prog S_ Tryz.f81.results.toList).1 ∧ dat (resD (Qg Tryz.prog S_ Tryz.f81.results.toList).2.1) = Vp x ∧ (Qg Tryz.prog S_ Tryz.f81.results.toList).2.2.H b = some [li cY ys,.int .i64 p']) (hg:zabj x) (h2:p ≤ p' ∧ p' ≤ p + 100) :
    retR Tryz.prog Tryz.f81 (fun c=>((zaar p c).1.2,one b [li cY ys,.int .i64 (zaar p c).2])) e_ S_ :=
  ret_draw (good:=zagk) (enc:=fun x:(Tree) × D=>x.2) (cells:=fun q=>[li cY ys,.int .i64 q]) (x,resD (Qg Tryz.prog S_ Tryz.f81.results.toList).2.1) p' he_ ⟨h1.1,rfl,h1.2.2⟩ ⟨hg,h1.2.1⟩ h2
set_option maxHeartbeats 4000000 in
theorem l5Formula_spec (ys:List UInt8) (p:Int) (b:Nat)  (hl:ys.length ≤ 2000) (h0_:0 ≤ p) (hp_:p + 100 ≤ 1000000)  : SpecR Tryz.prog 81 [.ptr b 0] (one b [li cY ys,.int .i64 p]) (fun c=>((zaar p c).1.2,one b [li cY ys,.int .i64 (zaar p c).2])):=by
  refine SpecR.of_walk Tryz.func81 rfl (by simp [Tryz.f81]) fun B=>?_
  have hr:=zadp ys (p:=p) (by omega) (xs:=[3,2,4,3]) (lo:=2) (hi:=4) (by simp) (by simp);have hk:=kR_le (d:=numI ys p [3,2,4,3]) (by omega);have hk0:=kR_nn (numI ys p [3,2,4,3]).toNat
  all_goals (repeat' (first
 | refine Qs ?_
 | refine Qc (id:=0) zahv [] (by kernel_rfl) ?_;simp [-zg,-zd,↓Qb,↓Qa,go_sem]
 | refine Qc (id:=1) zahv [] (by kernel_rfl) ?_;simp [-zg,-zd,↓Qb,↓Qa,go_sem,hl,(show 0 ≤ p by omega),(show p ≤ 1000000 by omega),(show 0 ≤ p + 1 by omega),(show p + 1 ≤ 1000000 by omega),(show 0 ≤ p + 1 + 1 by omega),(show p + 1 + 1 ≤ 1000000 by omega),hr,(show p + 1 + kR (numI ys p [3,2,4,3]).toNat ≤ 1000000 by omega)];try (intro c1;have z0:=zanm (numI ys p [3,2,4,3]) (by omega) (p + 1) c1;generalize Zt (numI ys p [3,2,4,3]) (p + 1) c1 = z at *;obtain ⟨-,z1,z2⟩:=z0;obtain ⟨⟨tk,tv,ts⟩,p2⟩:=z;dsimp only at z1 z2;refine Xw 3 ?_;simp [go_sem])
 | refine Qc (id:=2) zahv [] (by kernel_rfl) ?_;simp [-zg,-zd,↓Qb,↓Qa,go_sem]
 | refine Qc (id:=3) zahv [] (by kernel_rfl) ?_;simp [-zg,-zd,↓Qb,↓Qa,go_sem]
 | refine Qc (id:=4) zahv [] (by kernel_rfl) ?_;simp [-zg,-zd,↓Qb,↓Qa,go_sem]
 | refine Qe (c:=.tmp 10) ?_;simp [-zg,-zd,↓Qb,↓Qa,go_sem];try first | (refine ⟨?_,?_⟩ <;> refine zA ?_) | (refine ⟨fun c10=>?_,fun c10=>?_⟩ <;> (try simp [B_iff,B_not] at c10))
 | (refine Qf ?_)
 | (refine Qr ?_;simp [-zg,-zd,↓Qb,↓Qa,go_sem])
 | (refine Qq ?_;simp [-zg,-zd,↓Qb,↓Qa,go_sem])
 | (refine Qt ?_;try simp [-zg,-zd,↓Qb,↓Qa,go_sem,Tryz.results81])
 | (intro hx;refine zA ?_)
 | (intro hx;change retR _ _ _ _ _)
 | (refine ⟨?_,?_⟩ <;> refine zA ?_)
 | (intro hx;constructor <;> intro hs)
 | (constructor <;> intro hs)
 | (refine ⟨?_,fun hs=>?_⟩;refine zA ?_)
 | (refine ⟨fun hs=>?_,?_⟩;rotate_left;refine zA ?_;rotate_left)))
  all_goals (first
 | (refine zaiz _ _ _ (.mk tk tv ts) (p2) ?_ ?_ ?_ ?_;(first | exact Or.inl rfl | exact Or.inr rfl);(focus (simp [-zg,-zd,↓Qb,↓Qa,go_sem,Tryz.results81,li,dat,datL_map];done));(focus ((assumption);done));(focus (refine ⟨?_,?_⟩ <;> omega)))
 | (refine zaiz _ _ _ (.mk 10 0 [.mk 2 0 []]) (p2) ?_ ?_ ?_ ?_;(first | exact Or.inl rfl | exact Or.inr rfl);(focus (simp [-zg,-zd,↓Qb,↓Qa,go_sem,Tryz.results81,li,Xk,cX_mk,dat,datL,datL_map,Xh];done));(focus ((exact forOk_always);done));(focus (refine ⟨?_,?_⟩ <;> omega)))
 | skip)
@[go_sem] def zall:Con:=.rel fun args H=>match args with
  | [.ptr b 0]=>match H b with
    | some [.list m cs,.int .i64 p]=>((Is cY m cs) ∧ (m ≤ 2000) ∧ (0 ≤ p) ∧ (p + 100 ≤ 1000000),fun c=>(Vp (Jx p c).1,upd H b (some [.list m cs,.int .i64 (Jx p c).2])))
    | _=>(False,fun _=>(.any,H))
  | _=>(False,fun _=>(.any,H))
theorem l5FormulaC_ok:ConOk Tryz.prog 81 zall:=by
  refine ⟨Qo Tryz.func81 (by decide) rfl,fun args H h=>?_⟩
  revert h
  dsimp only
  split
  · split
    · rename_i hH
      intro h
      obtain ⟨⟨ys,rfl,rfl⟩,hl,h0_,hp_⟩:=h
      try simp only [Qp] at *
      exact SpecR.enc ((l5Formula_spec ys _ _ hl h0_ hp_ ).frame hH).shut fun c=>Prod.ext (zaja  _ _).2.symm rfl
    · intro h;exact h.elim
  · intro h
    exact h.elim
@[go_sem] def Γy26:FuncId → Con:=ext Γy25 81 zall
theorem Xs:∀ g,ConOk Tryz.prog g (Γy26 g):=Qn zahv l5FormulaC_ok

end
end Go.Proofs.YtiilmjojffjhlaaGreatDoor.Vm

