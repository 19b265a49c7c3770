import Derived.Test.YtnfldmfamnhpcaaDoorY4
/-
  Formulas: what follows, letters, phases, pairs. No conditions.
-/
namespace Go.Proofs.YtnfldmfamnhpcaaDoor.Vm
open Go
open Nat renaming sub_pos_of_lt → zsP
open List renaming getD_eq_getElem?_getD → zg,drop_one → zd,replicate → zrP
noncomputable section
set_option linter.unusedVariables false
set_option linter.unusedSimpArgs false
set_option maxRecDepth 200000

@[go_sem] def Vh:Bool → D:=fun x=>.bool x
def zaba (bs:List Tree) (s:Int) (t:Int):Bool → Prop:=fun _=>True
def zabq (bs:List Tree) (s:Int) (t:Int) (c:Any):Bool:=sel (zaba bs s t) (true) c
theorem l7Follows_ret (bs:List Tree) (s:Int) (t:Int) {e_:Exit} {S_:St} (x:Bool) (he_:e_ = .ret ∨ e_ = .normal)
    (h1:(Qe Tryd.prog S_ Tryd.f67.results.toList).1 ∧ resD (Qe Tryd.prog S_ Tryd.f67.results.toList).2.1 = Vh x) (hg:zaba bs s t x) :
    retR Tryd.prog Tryd.f67 (fun c=>(Vh (zabq bs s t c),fun _=>none)) e_ S_:=Xz (enc:=Vh) x he_ h1 hg
theorem zafq (bs:List Tree) (s:Int) (t:Int) {e_:Exit} {S_:St} (he_:e_ = .ret ∨ e_ = .normal)
    (h:∃ x,(Qe Tryd.prog S_ Tryd.f67.results.toList).1 ∧ resD (Qe Tryd.prog S_ Tryd.f67.results.toList).2.1 = Vh x ∧ zaba bs s t x) :
    retR Tryd.prog Tryd.f67 (fun c=>(Vh (zabq bs s t c),fun _=>none)) e_ S_:=by
  obtain ⟨x,h1,h2,h3⟩:=h
  exact l7Follows_ret _ _ _ x he_ ⟨h1,h2⟩ h3
set_option maxHeartbeats 8000000 in
theorem l7Follows_pure (bs:List Tree) (s:Int) (t:Int) (hA:AllW bs):PureR Tryd.prog 67 [li cX bs,.int .i64 s,.int .i64 t] (fun c=>Vh (zabq bs s t c)):=by
  refine PureR.of_walk Tryd.func67 rfl (by simp [Tryd.f67]) (fun c=>by simp [-zd,go_sem]) fun B hK=>?_
  (repeat' (first
 | refine Qu ?_
 | refine Qc (id:=0) Xq [] (by kernel_rfl) ?_;simp [-zg,-zd,↓Qb,↓Qa,go_sem]
 | (refine Jn 0 rfl fun hm=>?_);refine Qc (id:=1) Xq [] (by kernel_rfl) ?_;simp [-zg,-zd,↓Qb,↓Qa,go_sem]
 | refine Qc (id:=2) Xq [] (by kernel_rfl) ?_;simp [-zg,-zd,↓Qb,↓Qa,go_sem]
 | ((obtain ⟨⟨uk,uv,us⟩,hu⟩:∃ u,nth bs i = u:=⟨_,rfl⟩);(have hw:WellF (.mk uk uv us):=(by rw [← hu];exact hA.at c14));(have hk1:=hw.ks1);(have hk2:=hw.ks2);(have w4:=hw.at.2.2.2));refine Qc (id:=4) Xq [] (by kernel_rfl) ?_;simp [-zg,-zd,↓Qb,↓Qa,go_sem,c14,Qg c14,zsP c14,hu];try ((refine Xn hK 8 ?_);(simp [go_sem]))
 | refine Qc (id:=5) Xq [] (by kernel_rfl) ?_;simp [-zg,-zd,↓Qb,↓Qa,go_sem]
 | refine Qc (id:=6) Xq [] (by kernel_rfl) ?_;simp [-zg,-zd,↓Qb,↓Qa,go_sem]
 | refine Qc (id:=7) Xq [] (by kernel_rfl) ?_;simp [-zg,-zd,↓Qb,↓Qa,go_sem]
 | refine Qc (id:=8) Xq [] (by kernel_rfl) ?_;simp [-zg,-zd,↓Qb,↓Qa,go_sem]
 | ((have ql:=hk1 (by omega));(have qk:0 < us.length:=(by omega));(have qw:=(w4 0 qk).valu));refine Qc (id:=9) Xq [] (by kernel_rfl) ?_;simp [-zg,-zd,↓Qb,↓Qa,go_sem,qk,Qg qk,zsP qk,Zi (f:=cX) qk,(show 3 ≤ us.length * 3 by omega),Tree.eta,qw]
 | refine Qc (id:=10) Xq [] (by kernel_rfl) ?_;simp [-zg,-zd,↓Qb,↓Qa,go_sem]
 | ((have ql:=hk2 (by omega) (by omega) (by omega) (by omega) (by omega) (by omega));(have qk:0 < us.length:=(by omega));(have qj:1 < us.length:=(by omega));(have qw:=(w4 0 qk).valu);(have qx:=(w4 1 qj).valu));refine Qc (id:=11) Xq [45,53] (by kernel_rfl) ?_;simp [-zg,-zd,↓Qb,↓Qa,go_sem,qk,Qg qk,zsP qk,qj,Zi (f:=cX) qk,(show 3 ≤ us.length * 3 by omega),(show (cat cX us).drop 3 = cat cX (us.drop 1) from Zw (f:=cX) (sz:=3) us 1),(show 3 ≤ us.length * 3 - 3 by omega),(show 3 ≤ (us.length - 1) * 3 by omega),(show (1:Int) < (us.length:Int) by omega),zsP qj,Tree.eta,qw,qx];try (refine ⟨fun s11a=>?_,fun s11a=>?_⟩ <;> (try simp [B_iff,B_not] at s11a) <;> try (refine ⟨fun s11b=>?_,fun s11b=>?_⟩ <;> (try simp [B_iff,B_not] at s11b) <;> try (refine ⟨fun s11c=>?_,fun s11c=>?_⟩ <;> (try simp [B_iff,B_not] at s11c))))
 | refine Qc (id:=12) Xq [] (by kernel_rfl) ?_;simp [-zg,-zd,↓Qb,↓Qa,go_sem]
 | ((have ql:=hk2 (by omega) (by omega) (by omega) (by omega) (by omega) (by omega));(have qk:0 < us.length:=(by omega));(have qj:1 < us.length:=(by omega));(have qw:=(w4 0 qk).valu);(have qx:=(w4 1 qj).valu));refine Qc (id:=13) Xq [68,76] (by kernel_rfl) ?_;simp [-zg,-zd,↓Qb,↓Qa,go_sem,qk,Qg qk,zsP qk,qj,Zi (f:=cX) qk,(show 3 ≤ us.length * 3 by omega),(show (cat cX us).drop 3 = cat cX (us.drop 1) from Zw (f:=cX) (sz:=3) us 1),(show 3 ≤ us.length * 3 - 3 by omega),(show 3 ≤ (us.length - 1) * 3 by omega),(show (1:Int) < (us.length:Int) by omega),zsP qj,Tree.eta,qw,qx];try (refine ⟨fun s13a=>?_,fun s13a=>?_⟩ <;> (try simp [B_iff,B_not] at s13a) <;> try (refine ⟨fun s13b=>?_,fun s13b=>?_⟩ <;> (try simp [B_iff,B_not] at s13b) <;> try (refine ⟨fun s13c=>?_,fun s13c=>?_⟩ <;> (try simp [B_iff,B_not] at s13c))))
 | refine Qc (id:=14) Xq [] (by kernel_rfl) ?_;simp [-zg,-zd,↓Qb,↓Qa,go_sem]
 | refine Qc (id:=15) Xq [] (by kernel_rfl) ?_;simp [-zg,-zd,↓Qb,↓Qa,go_sem]
 | refine Qc (id:=3) Xq [] (by kernel_rfl) ?_;simp [-zg,-zd,↓Qb,↓Qa,go_sem,wrapS (k:=i) (by omega)]
 | refine Qc (id:=16) Xq [] (by kernel_rfl) ?_;simp [-zg,-zd,↓Qb,↓Qa,go_sem]
 | refine Qd (c:=.tmp 14) ?_;simp [-zg,-zd,↓Qb,↓Qa,go_sem];try first | (refine ⟨?_,?_⟩ <;> refine zA ?_) | (refine ⟨fun c14=>?_,fun c14=>?_⟩ <;> (try simp [B_iff,B_not] at c14))
 | refine Qd (c:=.tmp 27) ?_;simp [-zg,-zd,↓Qb,↓Qa,go_sem];try first | (refine ⟨?_,?_⟩ <;> refine zA ?_) | (refine ⟨fun c27=>?_,fun c27=>?_⟩ <;> (try simp [B_iff,B_not] at c27))
 | refine Qd (c:=.tmp 36) ?_;simp [-zg,-zd,↓Qb,↓Qa,go_sem];try first | (refine ⟨?_,?_⟩ <;> refine zA ?_) | (refine ⟨fun c36=>?_,fun c36=>?_⟩ <;> (try simp [B_iff,B_not] at c36))
 | refine Qd (c:=.tmp 59) ?_;simp [-zg,-zd,↓Qb,↓Qa,go_sem];try first | (refine ⟨?_,?_⟩ <;> refine zA ?_) | (refine ⟨fun c59=>?_,fun c59=>?_⟩ <;> (try simp [B_iff,B_not] at c59))
 | refine Qd (c:=.tmp 84) ?_;simp [-zg,-zd,↓Qb,↓Qa,go_sem];try first | (refine ⟨?_,?_⟩ <;> refine zA ?_) | (refine ⟨fun c84=>?_,fun c84=>?_⟩ <;> (try simp [B_iff,B_not] at c84))
 | (refine Qh (id:=0) (Xd (ι:=Nat) (fun i:Nat=>⟨(upd (upd (upd (upd (fun _=>.any) 0 (li cX bs)) 1 (.int .i64 s)) 2 (.int .i64 t)) 7 (.int .i64 i)),fun _=>none⟩) (fun i=>i ≤ bs.length) (fun i=>bs.length - i) (0) ?_ ?_ ?_);exact Nat.zero_le _;((repeat' (first | exact Ql (by assumption) | exact Qo | refine Qk ?_ ?_ | refine Qn ?_)) <;> simp [-zg,-zd,↓Qb,↓Qa,go_sem]);rintro i hi)
 | (refine ⟨i + 1,by omega,by first | omega | (simp;done) | (simp;omega),?_⟩;((repeat' (first | exact Ql (by assumption) | exact Qo | refine Qk ?_ ?_ | refine Qn ?_)) <;> simp [-zg,-zd,↓Qb,↓Qa,go_sem]))
 | (refine Qh ?_)
 | (refine Qt ?_;simp [-zg,-zd,↓Qb,↓Qa,go_sem])
 | (refine Qs ?_;simp [-zg,-zd,↓Qb,↓Qa,go_sem])
 | (refine Qv ?_;try simp [-zg,-zd,↓Qb,↓Qa,go_sem,Tryd.results67])
 | (intro hx;refine zA ?_)
 | (intro hx;change retR _ _ _ _ _)
 | (refine ⟨?_,?_⟩ <;> refine zA ?_)
 | (intro hx;constructor <;> intro hs)
 | (constructor <;> intro hs)
 | (refine ⟨?_,fun hs=>?_⟩;refine zA ?_)
 | (refine ⟨fun hs=>?_,?_⟩;rotate_left;refine zA ?_;rotate_left)))
  all_goals (first
 | (refine zafq _ _ _ ?_ ?_;(first | exact Or.inl rfl | exact Or.inr rfl);(simp [-zg,-zd,↓Qb,↓Qa,go_sem,Tryd.results67,zaba]);((trivial);done))
 | (refine zafq _ _ _ ?_ ?_;(first | exact Or.inl rfl | exact Or.inr rfl);(simp [-zg,-zd,↓Qb,↓Qa,go_sem,Tryd.results67,zaba];done))
 | skip)
@[go_sem] def zaiu:Con:=.prel fun
  | [.list n_bs c_bs,.int .i64 s,.int .i64 t]=>((Is cX n_bs c_bs) ∧ (AllW (de cX c_bs)),fun c=>Vh (zabq (de cX c_bs) s t c))
  | _=>(False,fun _=>.any)
theorem l7FollowsC_ok:ConOk Tryd.prog 67 zaiu:=by
  refine ⟨Qq Tryd.func67 (by decide) rfl,fun args h=>?_⟩
  revert h
  dsimp only
  split
  · intro h
    obtain ⟨⟨bs,rfl,rfl⟩,hA⟩:=h
    try simp only [Qj] at *
    exact ⟨l7Follows_pure bs _ _ hA,fun c=>by simp [go_sem]⟩
  · intro h
    exact h.elim
@[go_sem] def Γy18:FuncId → Con:=ext Γy17 67 zaiu
theorem Γy18_ok:∀ g,ConOk Tryd.prog g (Γy18 g):=Qp Xq l7FollowsC_ok

@[go_sem] def Vg:Bool → D:=fun x=>.bool x
def zaaz (bs:List Tree) (s:Int) (u:Int):Bool → Prop:=fun _=>True
def zabp (bs:List Tree) (s:Int) (u:Int) (c:Any):Bool:=sel (zaaz bs s u) (true) c
theorem l7Fulfils_ret (bs:List Tree) (s:Int) (u:Int) {e_:Exit} {S_:St} (x:Bool) (he_:e_ = .ret ∨ e_ = .normal)
    (h1:(Qe Tryd.prog S_ Tryd.f81.results.toList).1 ∧ resD (Qe Tryd.prog S_ Tryd.f81.results.toList).2.1 = Vg x) (hg:zaaz bs s u x) :
    retR Tryd.prog Tryd.f81 (fun c=>(Vg (zabp bs s u c),fun _=>none)) e_ S_:=Xz (enc:=Vg) x he_ h1 hg
theorem zafp (bs:List Tree) (s:Int) (u:Int) {e_:Exit} {S_:St} (he_:e_ = .ret ∨ e_ = .normal)
    (h:∃ x,(Qe Tryd.prog S_ Tryd.f81.results.toList).1 ∧ resD (Qe Tryd.prog S_ Tryd.f81.results.toList).2.1 = Vg x ∧ zaaz bs s u x) :
    retR Tryd.prog Tryd.f81 (fun c=>(Vg (zabp bs s u c),fun _=>none)) e_ S_:=by
  obtain ⟨x,h1,h2,h3⟩:=h
  exact l7Fulfils_ret _ _ _ x he_ ⟨h1,h2⟩ h3
set_option maxHeartbeats 8000000 in
theorem l7Fulfils_pure (bs:List Tree) (s:Int) (u:Int) (hA:AllW bs) (h0:0 ≤ u) (h1:u < bs.length) (hk:(nth bs u.toNat).k = 7):PureR Tryd.prog 81 [li cX bs,.int .i64 s,.int .i64 u] (fun c=>Vg (zabp bs s u c)):=by
  refine PureR.of_walk Tryd.func81 rfl (by simp [Tryd.f81]) (fun c=>by simp [-zd,go_sem]) fun B hK=>?_
  have hul:u.toNat < bs.length:=(by omega);obtain ⟨⟨uk,uv,us⟩,hu⟩:∃ x,nth bs u.toNat = x:=⟨_,rfl⟩;have hw:WellF (.mk uk uv us):=(by rw [← hu];exact hA.at hul);have hk7:uk = 7:=(by rw [hu] at hk;exact hk);have ql:=hw.ks2 (by omega) (by omega) (by omega) (by omega) (by omega) (by omega);have qj:1 < us.length:=(by omega);have qk:0 < us.length:=(by omega);have qx:=(hw.at.2.2.2 1 qj).valu
  all_goals (repeat' (first
 | refine Qu ?_
 | refine Qc (id:=0) Γy18_ok [] (by kernel_rfl) ?_;simp [-zg,-zd,↓Qb,↓Qa,go_sem]
 | refine Qc (id:=1) Γy18_ok [11] (by kernel_rfl) ?_;simp [-zg,-zd,↓Qb,↓Qa,go_sem,hul,Qg hul,zsP hul,h0,h1,hu,qk,Qg qk,zsP qk,qj,(show 3 ≤ us.length * 3 by omega),(show (cat cX us).drop 3 = cat cX (us.drop 1) from Zw (f:=cX) (sz:=3) us 1),(show 3 ≤ us.length * 3 - 3 by omega),(show 3 ≤ (us.length - 1) * 3 by omega),(show (1:Int) < (us.length:Int) by omega),zsP qj,Tree.eta,qx];try (refine ⟨fun s1a=>?_,fun s1a=>?_⟩ <;> (try simp [B_iff,B_not] at s1a) <;> try (refine ⟨fun s1b=>?_,fun s1b=>?_⟩ <;> (try simp [B_iff,B_not] at s1b)))
 | (refine Qh ?_)
 | (refine Qt ?_;simp [-zg,-zd,↓Qb,↓Qa,go_sem])
 | (refine Qs ?_;simp [-zg,-zd,↓Qb,↓Qa,go_sem])
 | (refine Qv ?_;try simp [-zg,-zd,↓Qb,↓Qa,go_sem,Tryd.results81])
 | (intro hx;refine zA ?_)
 | (intro hx;change retR _ _ _ _ _)
 | (refine ⟨?_,?_⟩ <;> refine zA ?_)
 | (intro hx;constructor <;> intro hs)
 | (constructor <;> intro hs)
 | (refine ⟨?_,fun hs=>?_⟩;refine zA ?_)
 | (refine ⟨fun hs=>?_,?_⟩;rotate_left;refine zA ?_;rotate_left)))
  all_goals (first
 | (refine zafp _ _ _ ?_ ?_;(first | exact Or.inl rfl | exact Or.inr rfl);(simp [-zg,-zd,↓Qb,↓Qa,go_sem,Tryd.results81,zaaz]);((trivial);done))
 | (refine zafp _ _ _ ?_ ?_;(first | exact Or.inl rfl | exact Or.inr rfl);(simp [-zg,-zd,↓Qb,↓Qa,go_sem,Tryd.results81,zaaz];done))
 | skip)
@[go_sem] def zait:Con:=.prel fun
  | [.list n_bs c_bs,.int .i64 s,.int .i64 u]=>((Is cX n_bs c_bs) ∧ (AllW (de cX c_bs)) ∧ (0 ≤ u) ∧ (u < (de cX c_bs).length) ∧ ((nth (de cX c_bs) u.toNat).k = 7),fun c=>Vg (zabp (de cX c_bs) s u c))
  | _=>(False,fun _=>.any)
theorem l7FulfilsC_ok:ConOk Tryd.prog 81 zait:=by
  refine ⟨Qq Tryd.func81 (by decide) rfl,fun args h=>?_⟩
  revert h
  dsimp only
  split
  · intro h
    obtain ⟨⟨bs,rfl,rfl⟩,hA,h0,h1,hk⟩:=h
    try simp only [Qj] at *
    exact ⟨l7Fulfils_pure bs _ _ hA h0 h1 hk,fun c=>by simp [go_sem]⟩
  · intro h
    exact h.elim
@[go_sem] def Γy19:FuncId → Con:=ext Γy18 81 zait
theorem Zj:∀ g,ConOk Tryd.prog g (Γy19 g):=Qp Γy18_ok l7FulfilsC_ok

theorem bitsD_le (x y:Int):bitsD .or .i64 x y ≤ 9223372036854775807:=by
  show IntKind.i64.wrap _ ≤ _
  unfold IntKind.wrap;simp [IntKind.bits,IntKind.signed];split <;> omega

@[go_sem] def zabi:Int × Int → D:=fun x=>.tup [.int .i64 x.1,.int .i64 x.2]
def zaaw (bs:List Tree) (s:Int):Int × Int → Prop:=fun x=>x.2 ≤ 9223372036854775807
def zack (bs:List Tree) (s:Int) (c:Any):Int × Int:=sel (zaaw bs s) ((0,0)) c
theorem l7Letter_ok (bs:List Tree) (s:Int) (hA:AllW bs) (c:Any):zaaw bs s (zack bs s c):=Zd (p:=zaaw bs s) (x0:=(0,0)) (by simp [zaaw]) c
theorem l7Letter_ret (bs:List Tree) (s:Int) {e_:Exit} {S_:St} (x:Int × Int) (he_:e_ = .ret ∨ e_ = .normal)
    (h1:(Qe Tryd.prog S_ Tryd.f66.results.toList).1 ∧ resD (Qe Tryd.prog S_ Tryd.f66.results.toList).2.1 = zabi x) (hg:zaaw bs s x) :
    retR Tryd.prog Tryd.f66 (fun c=>(zabi (zack bs s c),fun _=>none)) e_ S_:=Xz (enc:=zabi) x he_ h1 hg
set_option maxHeartbeats 8000000 in
theorem l7Letter_pure (bs:List Tree) (s:Int) (hA:AllW bs):PureR Tryd.prog 66 [li cX bs,.int .i64 s] (fun c=>zabi (zack bs s c)):=by
  refine PureR.of_walk Tryd.func66 rfl (by simp [Tryd.f66]) (fun c=>by simp [-zd,go_sem]) fun B hK=>?_
  (repeat' (first
 | refine Qu ?_
 | refine Qc (id:=0) Zj [] (by kernel_rfl) ?_;simp [-zg,-zd,↓Qb,↓Qa,go_sem]
 | refine Qc (id:=1) Zj [] (by kernel_rfl) ?_;simp [-zg,-zd,↓Qb,↓Qa,go_sem]
 | refine Qc (id:=2) Zj [] (by kernel_rfl) ?_;simp [-zg,-zd,↓Qb,↓Qa,go_sem]
 | (refine Jn 0 rfl fun hm=>?_);refine Qc (id:=3) Zj [] (by kernel_rfl) ?_;simp [-zg,-zd,↓Qb,↓Qa,go_sem]
 | refine Qc (id:=4) Zj [] (by kernel_rfl) ?_;simp [-zg,-zd,↓Qb,↓Qa,go_sem]
 | ((obtain ⟨⟨uk,uv,us⟩,hu⟩:∃ u,nth bs q.1 = u:=⟨_,rfl⟩);(have hw:WellF (.mk uk uv us):=(by rw [← hu];exact hA.at c12));(have hv:=hw.at);(obtain ⟨v1,v2,v3,v4⟩:=hv));refine Qc (id:=6) Zj [] (by kernel_rfl) ?_;simp [-zg,-zd,↓Qb,↓Qa,go_sem,c12,Qg c12,zsP c12,hu]
 | refine Qc (id:=7) Zj [] (by kernel_rfl) ?_;simp [-zg,-zd,↓Qb,↓Qa,go_sem,c12,Qg c12,zsP c12,hu,wrapu_nn uv];try ((generalize bitsD BinOp.or IntKind.i64 q.2.1 (IntKind.i64.wrap (2 ^ min (IntKind.u64.wrap uv).toNat 64)) = cr at *))
 | refine Qc (id:=8) Zj [] (by kernel_rfl) ?_;simp [-zg,-zd,↓Qb,↓Qa,go_sem]
 | refine Qc (id:=9) Zj [] (by kernel_rfl) ?_;simp [-zg,-zd,↓Qb,↓Qa,go_sem,c12,Qg c12,zsP c12,hu,wrapu_nn uv];try ((have h9:=bitsD_le q.2.2 (IntKind.i64.wrap (2 ^ min (IntKind.u64.wrap uv).toNat 64)));(generalize bitsD BinOp.or IntKind.i64 q.2.2 (IntKind.i64.wrap (2 ^ min (IntKind.u64.wrap uv).toNat 64)) = vr at *))
 | refine Qc (id:=5) Zj [] (by kernel_rfl) ?_;simp [-zg,-zd,↓Qb,↓Qa,go_sem,wrapS (k:=q.1) (by omega)]
 | refine Qc (id:=10) Zj [] (by kernel_rfl) ?_;simp [-zg,-zd,↓Qb,↓Qa,go_sem]
 | refine Qd (c:=.tmp 12) ?_;simp [-zg,-zd,↓Qb,↓Qa,go_sem];try first | (refine ⟨?_,?_⟩ <;> refine zA ?_) | (refine ⟨fun c12=>?_,fun c12=>?_⟩ <;> (try simp [B_iff,B_not] at c12))
 | refine Qd (c:=.tmp 20) ?_;simp [-zg,-zd,↓Qb,↓Qa,go_sem];try first | (refine ⟨?_,?_⟩ <;> refine zA ?_) | (refine ⟨fun c20=>?_,fun c20=>?_⟩ <;> (try simp [B_iff,B_not] at c20))
 | refine Qd (c:=.tmp 32) ?_;simp [-zg,-zd,↓Qb,↓Qa,go_sem];try first | (refine ⟨?_,?_⟩ <;> refine zA ?_) | (refine ⟨fun c32=>?_,fun c32=>?_⟩ <;> (try simp [B_iff,B_not] at c32))
 | (refine Qh (id:=0) (Xd (ι:=Nat × Int × Int) (fun q:Nat × Int × Int=>⟨(upd (upd (upd (upd (upd (fun _=>.any) 0 (li cX bs)) 1 (.int .i64 s)) 6 (.int .i64 q.2.1)) 7 (.int .i64 q.2.2)) 8 (.int .i64 q.1)),fun _=>none⟩) (fun q=>q.1 ≤ bs.length ∧ q.2.2 ≤ 9223372036854775807) (fun q=>bs.length - q.1) ((0,0,0)) ?_ ?_ ?_);exact ⟨Nat.zero_le _,by dsimp only;omega⟩;((repeat' (first | exact Ql (by assumption) | exact Qo | refine Qk ?_ ?_ | refine Qn ?_)) <;> simp [-zg,-zd,↓Qb,↓Qa,go_sem]);rintro q ⟨g1,g2⟩)
 | (refine ⟨(q.1 + 1,cr,vr),⟨by dsimp only;omega,h9⟩,by first | omega | (simp;done) | (simp;omega),?_⟩;((repeat' (first | exact Ql (by assumption) | exact Qo | refine Qk ?_ ?_ | refine Qn ?_)) <;> simp [-zg,-zd,↓Qb,↓Qa,go_sem]))
 | (refine Qh ?_)
 | (refine Qt ?_;simp [-zg,-zd,↓Qb,↓Qa,go_sem])
 | (refine Qs ?_;simp [-zg,-zd,↓Qb,↓Qa,go_sem])
 | (refine Qv ?_;try simp [-zg,-zd,↓Qb,↓Qa,go_sem,Tryd.results66])
 | (intro hx;refine zA ?_)
 | (intro hx;change retR _ _ _ _ _)
 | (refine ⟨?_,?_⟩ <;> refine zA ?_)
 | (intro hx;constructor <;> intro hs)
 | (constructor <;> intro hs)
 | (refine ⟨?_,fun hs=>?_⟩;refine zA ?_)
 | (refine ⟨fun hs=>?_,?_⟩;rotate_left;refine zA ?_;rotate_left)
 | ((fail_if_success change retR _ _ _ _ _);(refine ⟨(q.1 + 1,cr,q.2.2),⟨by dsimp only;omega,g2⟩,by dsimp only;omega,?_⟩;((repeat' (first | exact Ql (by assumption) | exact Qo | refine Qk ?_ ?_ | refine Qn ?_)) <;> simp [-zg,-zd,go_sem]);done))
 | ((fail_if_success change retR _ _ _ _ _);(refine ⟨(q.1 + 1,q.2.1,q.2.2),⟨by dsimp only;omega,g2⟩,by dsimp only;omega,?_⟩;((repeat' (first | exact Ql (by assumption) | exact Qo | refine Qk ?_ ?_ | refine Qn ?_)) <;> simp [-zg,-zd,go_sem]);done))))
  all_goals (first
 | (refine l7Letter_ret _ _ ((q.2.1,q.2.2)) ?_ ?_ ?_;(first | exact Or.inl rfl | exact Or.inr rfl);(focus (simp [-zg,-zd,↓Qb,↓Qa,go_sem,Tryd.results66];done));(focus ((exact g2);done)))
 | skip)
@[go_sem] def l7LetterC:Con:=.prel fun
  | [.list n_bs c_bs,.int .i64 s]=>((Is cX n_bs c_bs) ∧ (AllW (de cX c_bs)),fun c=>zabi (zack (de cX c_bs) s c))
  | _=>(False,fun _=>.any)
theorem l7LetterC_ok:ConOk Tryd.prog 66 l7LetterC:=by
  refine ⟨Qq Tryd.func66 (by decide) rfl,fun args h=>?_⟩
  revert h
  dsimp only
  split
  · intro h
    obtain ⟨⟨bs,rfl,rfl⟩,hA⟩:=h
    try simp only [Qj] at *
    exact ⟨l7Letter_pure bs _ hA,fun c=>by simp [go_sem]⟩
  · intro h
    exact h.elim
@[go_sem] def Γy20:FuncId → Con:=ext Γy19 66 l7LetterC
theorem Jz:∀ g,ConOk Tryd.prog g (Γy20 g):=Qp Zj l7LetterC_ok

def UntOk (bs:List Tree) (us:List Int):Prop:=us.length ≤ bs.length ∧ ∀ u,u ∈ us → 0 ≤ u ∧ u < bs.length ∧ (nth bs u.toNat).k = 7
theorem UntOk.nil (bs:List Tree):UntOk bs []:=⟨by simp,fun u h=>nomatch h⟩
def UntK (bs:List Tree) (us:List Int) (k:Nat):Prop:=us.length ≤ k ∧ ∀ u,u ∈ us → 0 ≤ u ∧ u < bs.length ∧ (nth bs u.toNat).k = 7
theorem UntK.snoc {bs:List Tree} {us:List Int} {k:Nat} (h:UntK bs us k) (hk:k < bs.length) (e:(nth bs k).k = 7):UntK bs (us ++ [(k:Int)]) (k + 1):=by
  refine ⟨by have:=h.1;simp;omega,fun u hu=>?_⟩
  rcases List.mem_append.1 hu with q | q
  · exact h.2 u q
  · have:u = (k:Int):=by simpa using q
    subst this
    exact ⟨by omega,by omega,by rw [Int.toNat_natCast];exact e⟩
theorem UntK.skip {bs:List Tree} {us:List Int} {k:Nat} (h:UntK bs us k):UntK bs us (k + 1):=⟨by have:=h.1;omega,h.2⟩

@[go_sem] def zabg:List Int → D:=fun x=>fr 1 cI x
def zabo (bs:List Tree):List Int → Prop:=fun x=>UntOk bs x
def zaci (bs:List Tree) (c:Any):List Int:=sel (zabo bs) ([]) c
theorem l7Untils_ok (bs:List Tree) (hl:bs.length ≤ 1000) (c:Any):zabo bs (zaci bs c):=Zd (p:=zabo bs) (x0:=[]) (UntOk.nil bs) c
theorem l7Untils_ret (bs:List Tree) {e_:Exit} {S_:St} (x:List Int) (he_:e_ = .ret ∨ e_ = .normal)
    (h1:(Qe Tryd.prog S_ Tryd.f63.results.toList).1 ∧ resD (Qe Tryd.prog S_ Tryd.f63.results.toList).2.1 = zabg x) (hg:zabo bs x) :
    retR Tryd.prog Tryd.f63 (fun c=>(zabg (zaci bs c),fun _=>none)) e_ S_:=Xz (enc:=zabg) x he_ h1 hg
set_option maxHeartbeats 8000000 in
theorem l7Untils_pure (bs:List Tree) (hl:bs.length ≤ 1000):PureR Tryd.prog 63 [li cX bs] (fun c=>zabg (zaci bs c)):=by
  refine PureR.of_walk Tryd.func63 rfl (by simp [Tryd.f63]) (fun c=>by simp [-zd,go_sem]) fun B hK=>?_
  (repeat' (first
 | refine Qu ?_
 | refine Qc (id:=0) Jz [] (by kernel_rfl) ?_;simp [-zg,-zd,↓Qb,↓Qa,go_sem]
 | refine Qc (id:=1) Jz [] (by kernel_rfl) ?_;simp [-zg,-zd,↓Qb,↓Qa,go_sem]
 | refine Qc (id:=2) Jz [] (by kernel_rfl) ?_;simp [-zg,-zd,↓Qb,↓Qa,go_sem]
 | refine Qc (id:=3) Jz [] (by kernel_rfl) ?_;simp [-zg,-zd,↓Qb,↓Qa,go_sem]
 | ((have g3:=g2.1);(obtain ⟨⟨uk,uv,us⟩,hu⟩:∃ u,nth bs q.1 = u:=⟨_,rfl⟩));refine Qc (id:=5) Jz [] (by kernel_rfl) ?_;simp [-zg,-zd,↓Qb,↓Qa,go_sem,c9,Qg c9,zsP c9,hu]
 | refine Qc (id:=6) Jz [] (by kernel_rfl) ?_;simp [-zg,-zd,↓Qb,↓Qa,go_sem,(show q.2.length ≤ 9223372036854775806 by omega),(show 2 * (q.2.length + 1) * 8 ≤ 281474976710656 by omega),snoc_cI];try ((have o4:=g2.snoc c9 (by rw [hu];simp only [Tree.k];omega));(have o3:(q.2 ++ [(q.1:Int)]).length = q.2.length + 1:=(by simp));(rw [← o3]);(generalize q.2 ++ [(q.1:Int)] = o2 at *))
 | refine Qc (id:=4) Jz [] (by kernel_rfl) ?_;simp [-zg,-zd,↓Qb,↓Qa,go_sem,wrapS (k:=q.1) (by omega)]
 | refine Qc (id:=7) Jz [] (by kernel_rfl) ?_;simp [-zg,-zd,↓Qb,↓Qa,go_sem]
 | refine Qd (c:=.tmp 9) ?_;simp [-zg,-zd,↓Qb,↓Qa,go_sem];try first | (refine ⟨?_,?_⟩ <;> refine zA ?_) | (refine ⟨fun c9=>?_,fun c9=>?_⟩ <;> (try simp [B_iff,B_not] at c9))
 | refine Qd (c:=.tmp 17) ?_;simp [-zg,-zd,↓Qb,↓Qa,go_sem];try first | (refine ⟨?_,?_⟩ <;> refine zA ?_) | (refine ⟨fun c17=>?_,fun c17=>?_⟩ <;> (try simp [B_iff,B_not] at c17))
 | (refine Qh (id:=0) (Xd (ι:=Nat × List Int) (fun q:Nat × List Int=>⟨(upd (upd (upd (fun _=>.any) 0 (li cX bs)) 3 (.fr 1 q.2.length (cat cI q.2))) 4 (.int .i64 q.1)),fun _=>none⟩) (fun q=>q.1 ≤ bs.length ∧ UntK bs q.2 q.1) (fun q=>bs.length - q.1) ((0,[])) ?_ ?_ ?_);exact ⟨Nat.zero_le _,Nat.le_refl _,fun u h=>nomatch h⟩;((repeat' (first | exact Ql (by assumption) | exact Qo | refine Qk ?_ ?_ | refine Qn ?_)) <;> simp [-zg,-zd,↓Qb,↓Qa,go_sem,List.length_nil,Xe]);rintro q ⟨g1,g2⟩)
 | (refine ⟨(q.1 + 1,o2),⟨by dsimp only;omega,o4⟩,by first | omega | (simp;done) | (simp;omega),?_⟩;((repeat' (first | exact Ql (by assumption) | exact Qo | refine Qk ?_ ?_ | refine Qn ?_)) <;> simp [-zg,-zd,↓Qb,↓Qa,go_sem,List.length_nil,Xe]))
 | (refine Qh ?_)
 | (refine Qt ?_;simp [-zg,-zd,↓Qb,↓Qa,go_sem])
 | (refine Qs ?_;simp [-zg,-zd,↓Qb,↓Qa,go_sem])
 | (refine Qv ?_;try simp [-zg,-zd,↓Qb,↓Qa,go_sem,Tryd.results63])
 | (intro hx;refine zA ?_)
 | (intro hx;change retR _ _ _ _ _)
 | (refine ⟨?_,?_⟩ <;> refine zA ?_)
 | (intro hx;constructor <;> intro hs)
 | (constructor <;> intro hs)
 | (refine ⟨?_,fun hs=>?_⟩;refine zA ?_)
 | (refine ⟨fun hs=>?_,?_⟩;rotate_left;refine zA ?_;rotate_left)
 | ((fail_if_success change retR _ _ _ _ _);(refine ⟨(q.1 + 1,q.2),⟨by dsimp only;omega,g2.skip⟩,by dsimp only;omega,?_⟩;((repeat' (first | exact Ql (by assumption) | exact Qo | refine Qk ?_ ?_ | refine Qn ?_)) <;> simp [-zg,-zd,go_sem]);done))))
  all_goals (first
 | (refine l7Untils_ret _ (q.2) ?_ ?_ ?_;(first | exact Or.inl rfl | exact Or.inr rfl);(focus (simp [-zg,-zd,↓Qb,↓Qa,go_sem,Tryd.results63,li,fr];done));(focus (((show UntOk bs q.2);exact ⟨by have:=g2.1;omega,g2.2⟩);done)))
 | skip)
@[go_sem] def l7UntilsC:Con:=.prel fun
  | [.list n_bs c_bs]=>((Is cX n_bs c_bs) ∧ ((de cX c_bs).length ≤ 1000),fun c=>zabg (zaci (de cX c_bs) c))
  | _=>(False,fun _=>.any)
theorem l7UntilsC_ok:ConOk Tryd.prog 63 l7UntilsC:=by
  refine ⟨Qq Tryd.func63 (by decide) rfl,fun args h=>?_⟩
  revert h
  dsimp only
  split
  · intro h
    obtain ⟨⟨bs,rfl,rfl⟩,hl⟩:=h
    try simp only [Qj] at *
    exact ⟨l7Untils_pure bs hl,fun c=>by simp [go_sem]⟩
  · intro h
    exact h.elim
@[go_sem] def Γy21:FuncId → Con:=ext Γy20 63 l7UntilsC
theorem zaew:∀ g,ConOk Tryd.prog g (Γy21 g):=Qp Jz l7UntilsC_ok

def PhOk (us:List Int) (ph:Int):Prop:=0 ≤ ph ∧ ph ≤ 1000 ∧ (us.length = 0 ∨ ph < us.length)
theorem PhOk.zero (us:List Int):PhOk us 0:=⟨by omega,by omega,by omega⟩
theorem PhOk.next {us:List Int} {ph:Int} (h:PhOk us ph) (hl:us.length ≤ 1000) (hn:¬ us.length = 0):PhOk us ((ph + 1).tmod us.length):=by
  obtain ⟨h1,h2,h3⟩:=h
  have a:=Int.tmod_nonneg (a:=ph + 1) (us.length:Int) (by omega)
  have b:=Int.tmod_lt_of_pos (ph + 1) (b:=(us.length:Int)) (by omega)
  exact ⟨a,by omega,.inr b⟩

@[go_sem] def zabz:Int × Bool → D:=fun x=>.tup [.int .i64 x.1,.bool x.2]
def zacj (bs:List Tree) (us:List Int) (s:Int) (ph:Int):Int × Bool → Prop:=fun x=>PhOk us x.1
def zadb (bs:List Tree) (us:List Int) (s:Int) (ph:Int) (c:Any):Int × Bool:=sel (zacj bs us s ph) ((0,true)) c
theorem l7Phase_ok (bs:List Tree) (us:List Int) (s:Int) (ph:Int) (hA:AllW bs) (hU:UntOk bs us) (hp:PhOk us ph) (hl:us.length ≤ 1000) (c:Any):zacj bs us s ph (zadb bs us s ph c):=Zd (p:=zacj bs us s ph) (x0:=(0,true)) (PhOk.zero us) c
theorem zage (bs:List Tree) (us:List Int) (s:Int) (ph:Int) {e_:Exit} {S_:St} (x:Int × Bool) (he_:e_ = .ret ∨ e_ = .normal)
    (h1:(Qe Tryd.prog S_ Tryd.f65.results.toList).1 ∧ resD (Qe Tryd.prog S_ Tryd.f65.results.toList).2.1 = zabz x) (hg:zacj bs us s ph x) :
    retR Tryd.prog Tryd.f65 (fun c=>(zabz (zadb bs us s ph c),fun _=>none)) e_ S_:=Xz (enc:=zabz) x he_ h1 hg
set_option maxHeartbeats 8000000 in
theorem l7Phase_pure (bs:List Tree) (us:List Int) (s:Int) (ph:Int) (hA:AllW bs) (hU:UntOk bs us) (hp:PhOk us ph) (hl:us.length ≤ 1000):PureR Tryd.prog 65 [li cX bs,li cI us,.int .i64 s,.int .i64 ph] (fun c=>zabz (zadb bs us s ph c)):=by
  refine PureR.of_walk Tryd.func65 rfl (by simp [Tryd.f65]) (fun c=>by simp [-zd,go_sem]) fun B hK=>?_
  obtain ⟨p1,p2,p3⟩:=id hp
  all_goals (repeat' (first
 | refine Qu ?_
 | refine Qc (id:=0) zaew [] (by kernel_rfl) ?_;simp [-zg,-zd,↓Qb,↓Qa,go_sem]
 | refine Qc (id:=1) zaew [] (by kernel_rfl) ?_;simp [-zg,-zd,↓Qb,↓Qa,go_sem]
 | refine Qc (id:=2) zaew [] (by kernel_rfl) ?_;simp [-zg,-zd,↓Qb,↓Qa,go_sem]
 | ((have hn:¬ us.length = 0:=(fun h=>c12 (List.length_eq_zero_iff.1 h)));(have hpl:ph.toNat < us.length:=(by omega));(obtain ⟨u0,u1,u2⟩:=hU.2 (nth us ph.toNat) (Jm hpl)));refine Qc (id:=3) zaew [] (by kernel_rfl) ?_;simp [-zg,-zd,↓Qb,↓Qa,go_sem,hpl,Qg hpl,zsP hpl,p1,(show ph < (us.length:Int) by omega),hA,u0,u1,u2];try ((intro c3);(generalize zabp bs s (nth us ph.toNat) c3 = zf at *))
 | refine Qc (id:=4) zaew [] (by kernel_rfl) ?_;simp [-zg,-zd,↓Qb,↓Qa,go_sem,wrap_in (x:=ph + 1) (by omega) (by omega),hn,(show ¬ us = [] by rintro rfl;simp at hn)]
 | refine Qc (id:=5) zaew [] (by kernel_rfl) ?_;simp [-zg,-zd,↓Qb,↓Qa,go_sem]
 | refine Qd (c:=.tmp 12) ?_;simp [-zg,-zd,↓Qb,↓Qa,go_sem];try first | (refine ⟨?_,?_⟩ <;> refine zA ?_) | (refine ⟨fun c12=>?_,fun c12=>?_⟩ <;> (try simp [B_iff,B_not] at c12))
 | refine Qd (c:=.tmp 19) ?_;simp [-zg,-zd,↓Qb,↓Qa,go_sem];try first | (refine ⟨?_,?_⟩ <;> refine zA ?_) | (refine ⟨fun c19=>?_,fun c19=>?_⟩ <;> (try simp [B_iff,B_not] at c19))
 | (refine Qh ?_)
 | (refine Qt ?_;simp [-zg,-zd,↓Qb,↓Qa,go_sem])
 | (refine Qs ?_;simp [-zg,-zd,↓Qb,↓Qa,go_sem])
 | (refine Qv ?_;try simp [-zg,-zd,↓Qb,↓Qa,go_sem,Tryd.results65])
 | (intro hx;refine zA ?_)
 | (intro hx;change retR _ _ _ _ _)
 | (refine ⟨?_,?_⟩ <;> refine zA ?_)
 | (intro hx;constructor <;> intro hs)
 | (constructor <;> intro hs)
 | (refine ⟨?_,fun hs=>?_⟩;refine zA ?_)
 | (refine ⟨fun hs=>?_,?_⟩;rotate_left;refine zA ?_;rotate_left)))
  all_goals (first
 | (refine zage _ _ _ _ ((0,true)) ?_ ?_ ?_;(first | exact Or.inl rfl | exact Or.inr rfl);(focus (simp [-zg,-zd,↓Qb,↓Qa,go_sem,Tryd.results65];done));(focus ((exact PhOk.zero us);done)))
 | (refine zage _ _ _ _ (((ph + 1).tmod us.length,decide (ph = 0))) ?_ ?_ ?_;(first | exact Or.inl rfl | exact Or.inr rfl);(focus (simp [-zg,-zd,↓Qb,↓Qa,go_sem,Tryd.results65];done));(focus ((exact hp.next hl hn);done)))
 | (refine zage _ _ _ _ ((ph,false)) ?_ ?_ ?_;(first | exact Or.inl rfl | exact Or.inr rfl);(focus (simp [-zg,-zd,↓Qb,↓Qa,go_sem,Tryd.results65];done));(focus ((exact hp);done)))
 | skip)
@[go_sem] def l7PhaseC:Con:=.prel fun
  | [.list n_bs c_bs,.list n_us c_us,.int .i64 s,.int .i64 ph]=>((Is cX n_bs c_bs) ∧ (Is cI n_us c_us) ∧ (AllW (de cX c_bs)) ∧ (UntOk (de cX c_bs) (de cI c_us)) ∧ (PhOk (de cI c_us) ph) ∧ ((de cI c_us).length ≤ 1000),fun c=>zabz (zadb (de cX c_bs) (de cI c_us) s ph c))
  | _=>(False,fun _=>.any)
theorem l7PhaseC_ok:ConOk Tryd.prog 65 l7PhaseC:=by
  refine ⟨Qq Tryd.func65 (by decide) rfl,fun args h=>?_⟩
  revert h
  dsimp only
  split
  · intro h
    obtain ⟨⟨bs,rfl,rfl⟩,⟨us,rfl,rfl⟩,hA,hU,hp,hl⟩:=h
    try simp only [Qj] at *
    exact ⟨l7Phase_pure bs us _ _ hA hU hp hl,fun c=>by simp [go_sem]⟩
  · intro h
    exact h.elim
@[go_sem] def Γy22:FuncId → Con:=ext Γy21 65 l7PhaseC
theorem Γy22_ok:∀ g,ConOk Tryd.prog g (Γy22 g):=Qp zaew l7PhaseC_ok

@[go_sem] def Γy22x:FuncId → Con:=ext Γy22 45 zadk
theorem Vp:∀ g,ConOk Tryd.prog g (Γy22x g):=Qp Γy22_ok zaev

@[go_sem] def zaca:List (List Int) × Int → D:=fun x=>.tup [.fr 1 x.1.length (cat cL x.1),.int .i64 x.2]
def zadc (xs:List (List Int)) (pr:List Int):List (List Int) × Int → Prop:=fun x=>(x.1 = xs ∨ x.1 = xs ++ [pr])
def zadv (xs:List (List Int)) (pr:List Int) (c:Any):List (List Int) × Int:=sel (zadc xs pr) ((xs,0)) c
theorem l7Pair_ok (xs:List (List Int)) (pr:List Int) (hn:xs.length ≤ 100000) (c:Any):zadc xs pr (zadv xs pr c):=Zd (p:=zadc xs pr) (x0:=(xs,0)) (.inl rfl) c
theorem l7Pair_ret (xs:List (List Int)) (pr:List Int) {e_:Exit} {S_:St} (x:List (List Int) × Int) (he_:e_ = .ret ∨ e_ = .normal)
    (h1:(Qe Tryd.prog S_ Tryd.f68.results.toList).1 ∧ resD (Qe Tryd.prog S_ Tryd.f68.results.toList).2.1 = zaca x) (hg:zadc xs pr x) :
    retR Tryd.prog Tryd.f68 (fun c=>(zaca (zadv xs pr c),fun _=>none)) e_ S_:=Xz (enc:=zaca) x he_ h1 hg
set_option maxHeartbeats 8000000 in
theorem l7Pair_pure (xs:List (List Int)) (pr:List Int) (hn:xs.length ≤ 100000):SpecR Tryd.prog 68 [fr 1 cL xs,fr 1 cI pr] (fun _=>none) (fun c=>(zaca (zadv xs pr c),fun _=>none)):=by
  refine SpecR.of_walk Tryd.func68 rfl (by simp [Tryd.f68]) fun B=>?_
  (repeat' (first
 | refine Qu ?_
 | ((refine Xk 1 ?_);(simp only [go_sem,dat,datL_map,Zg]);(refine AW_mat 0 rfl fun nb cp j hnb hcp hcj=>?_);(simp only [go_sem] at hnb ⊢);(clear hnb);(have e0:=zacs (f:=cL) xs (zrP j D.any)));refine Qc (id:=0) Vp [] (by kernel_rfl) ?_;simp [-zg,-zd,↓Qb,↓Qa,go_sem]
 | refine Qc (id:=1) Vp [] (by kernel_rfl) ?_;simp [-zg,-zd,↓Qb,↓Qa,go_sem]
 | refine Qc (id:=2) Vp [] (by kernel_rfl) ?_;simp [-zg,-zd,↓Qb,↓Qa,go_sem]
 | refine Qc (id:=4) Vp [] (by kernel_rfl) ?_;simp [-zg,-zd,↓Qb,↓Qa,go_sem,c10,Qg c10,zsP c10,(show i < xs.length + j by omega)]
 | ((refine AW_unmat 0 (b:=nb) (all:=cat cL xs ++ zrP j D.any) rfl (by simp [upd]) (by omega) (by simp [Qy]) (by simp [Qy];omega) ?_));refine Qc (id:=5) Vp [] (by kernel_rfl) ?_;simp [-zg,-zd,↓Qb,↓Qa,go_sem]
 | refine Qc (id:=3) Vp [] (by kernel_rfl) ?_;simp [-zg,-zd,↓Qb,↓Qa,go_sem,wrapS (k:=i) (by omega)]
 | refine Qc (id:=6) Vp [] (by kernel_rfl) ?_;simp [-zg,-zd,↓Qb,↓Qa,go_sem,(show xs.length ≤ 9223372036854775806 by omega),(show 2 * (xs.length + 1) * 24 ≤ 281474976710656 by omega),(show cp ≤ xs.length + j by omega),hcj,(show xs.length ≤ xs.length + j by omega)]
 | refine Qd (c:=.tmp 10) ?_;simp [-zg,-zd,↓Qb,↓Qa,go_sem];try first | (refine ⟨?_,?_⟩ <;> refine zA ?_) | (refine ⟨fun c10=>?_,fun c10=>?_⟩ <;> (try simp [B_iff,B_not] at c10))
 | refine Qd (c:=.tmp 18) ?_;simp [-zg,-zd,↓Qb,↓Qa,go_sem];try first | (refine ⟨?_,?_⟩ <;> refine zA ?_) | (refine ⟨fun c18=>?_,fun c18=>?_⟩ <;> (try simp [B_iff,B_not] at c18))
 | (refine Qh (id:=0) (Xd (ι:=Nat) (fun i:Nat=>⟨(upd (upd (upd (fun _=>.any) 0 (.sl nb 1 0 xs.length cp)) 1 (.list pr.length (cat cI pr))) 6 (.int .i64 i)),upd (fun _=>none) nb (some (cat cL xs ++ zrP j D.any))⟩) (fun i=>i ≤ xs.length) (fun i=>xs.length - i) (0) ?_ ?_ ?_);exact Nat.zero_le _;((repeat' (first | exact Ql (by assumption) | exact Qo | refine Qk ?_ ?_ | refine Qn ?_)) <;> simp [-zg,-zd,↓Qb,↓Qa,go_sem]);rintro i hi)
 | (refine ⟨i + 1,by omega,by first | omega | (simp;done) | (simp;omega),?_⟩;((repeat' (first | exact Ql (by assumption) | exact Qo | refine Qk ?_ ?_ | refine Qn ?_)) <;> simp [-zg,-zd,↓Qb,↓Qa,go_sem]))
 | (refine Qh ?_)
 | (refine Qt ?_;simp [-zg,-zd,↓Qb,↓Qa,go_sem])
 | (refine Qs ?_;simp [-zg,-zd,↓Qb,↓Qa,go_sem])
 | (refine Qv ?_;try simp [-zg,-zd,↓Qb,↓Qa,go_sem,Tryd.results68])
 | (intro hx;refine zA ?_)
 | (intro hx;change retR _ _ _ _ _)
 | (refine ⟨?_,?_⟩ <;> refine zA ?_)
 | (intro hx;constructor <;> intro hs)
 | (constructor <;> intro hs)
 | (refine ⟨?_,fun hs=>?_⟩;refine zA ?_)
 | (refine ⟨fun hs=>?_,?_⟩;rotate_left;refine zA ?_;rotate_left)))
  all_goals (first
 | (refine l7Pair_ret _ _ ((xs,(i:Int))) ?_ ?_ ?_;(first | exact Or.inl rfl | exact Or.inr rfl);(focus (simp [-zg,-zd,↓Qb,↓Qa,go_sem,Tryd.results68,zacs];done));(focus ((exact .inl rfl);done)))
 | (refine l7Pair_ret _ _ ((xs ++ [pr],(xs.length:Int))) ?_ ?_ ?_;(first | exact Or.inl rfl | exact Or.inr rfl);(focus (simp [-zg,-zd,↓Qb,↓Qa,go_sem,Tryd.results68,Zr,Za,li,cL];done));(focus ((exact .inr rfl);done)))
 | skip)
@[go_sem] def l7PairC:Con:=.rel fun args H=>match args with
  | [.fr 1 n_xs c_xs,.fr 1 n_pr c_pr]=>((Is cL n_xs c_xs) ∧ (Is cI n_pr c_pr) ∧ ((de cL c_xs).length ≤ 100000),fun c=>(zaca (zadv (de cL c_xs) (de cI c_pr) c),H))
  | _=>(False,fun _=>(.any,H))
theorem l7PairC_ok:ConOk Tryd.prog 68 l7PairC:=by
  refine ⟨Qq Tryd.func68 (by decide) rfl,fun args H h=>?_⟩
  revert h
  dsimp only
  split
  · intro h
    obtain ⟨⟨xs,rfl,rfl⟩,⟨pr,rfl,rfl⟩,hn⟩:=h
    try simp only [Qj] at *
    exact (SpecR.frame0 (l7Pair_pure xs pr hn) (H:=H))
  · intro h
    exact h.elim
@[go_sem] def Γy23:FuncId → Con:=ext Γy22x 68 l7PairC
theorem Qx:∀ g,ConOk Tryd.prog g (Γy23 g):=Qp Vp l7PairC_ok


section
variable {P:Program} {B:Base} {n:Nat} {S:St} {c:Code} {Q:Exit → St → Prop}
theorem AW_boxNils3 (t:Nat) (hT:S.T t = .box [.nil,.nil,.nil]) (h:AW P B n c Q ⟨upd S.T t (.box [.fr 1 0 [],.fr 1 0 [],.fr 4 0 []]),S.H⟩):AW P B n c Q S :=
  AW_rebox t hT (fun μ I w vs f hr=>by
    simp only [RepL] at hr ⊢
    obtain ⟨v,vs',f1,f2,e1,e2,r1,v2,vs2,g1,g2,e3,e4,r2,v3,vs3,g3,g4,e5,e6,r3,r4⟩:=hr
    exact ⟨v,vs',f1,f2,e1,e2,zacz r1,v2,vs2,g1,g2,e3,e4,zacz r2,v3,vs3,g3,g4,e5,e6,zacz r3,r4⟩) (fun N hb=>by simp only [bndL,bnd];exact ⟨trivial,trivial,trivial,trivial⟩) h
theorem AW_matL (t:Nat) {ls:List (List Int)} {x y:Int} (hT:S.T t = .fr 1 (ls.length + 1) (cat cL ls ++ [.fr 1 2 [.int .i64 x,.int .i64 y]]))
    (h:∀ b cp k,S.H b = none → ls.length + 1 ≤ cp → cp ≤ ls.length + 1 + k → AW P B n c Q ⟨upd S.T t (.sl b 1 0 (ls.length + 1) cp),upd S.H b (some (cat cL (ls ++ [[x,y]]) ++ zrP k .any))⟩):AW P B n c Q S:=by
  refine AW_mat t hT fun b cp k hb h1 h2=>?_
  have hl:(cat cL ls).length = ls.length:=by rw [Qy];omega
  refine AW_shutCell b ls.length (all:=(cat cL ls ++ [.fr 1 2 [.int .i64 x,.int .i64 y]]) ++ zrP k .any) (d:=.fr 1 2 [.int .i64 x,.int .i64 y]) (by dsimp only;rw [Qi]) ?_ rfl ?_
  · rw [List.append_assoc,List.getElem?_append_right (by omega),hl,Nat.sub_self];rfl
  · have e:((cat cL ls ++ [D.fr 1 2 [.int .i64 x,.int .i64 y]]) ++ zrP k D.any).set ls.length (dat (.fr 1 2 [.int .i64 x,.int .i64 y])) = cat cL (ls ++ [[x,y]]) ++ zrP k .any:=by
      rw [List.append_assoc,Zr,Za,List.append_assoc,List.set_append,if_neg (by omega),hl,Nat.sub_self];rfl
    rw [e]
    have e2:upd (upd S.H b (some (cat cL ls ++ [D.fr 1 2 [.int .i64 x,.int .i64 y]] ++ zrP k D.any))) b (some (cat cL (ls ++ [[x,y]]) ++ zrP k .any)) = upd S.H b (some (cat cL (ls ++ [[x,y]]) ++ zrP k .any)):=upd_upd ..
    dsimp only
    rw [e2]
    exact h b cp k hb h1 (by omega)
end
@[go_sem] theorem is_lit2 (x0 x1:Int):Is cI 2 [D.int .i64 x0,D.int .i64 x1] = True:=eq_true ⟨[x0,x1],rfl,rfl⟩
@[go_sem] theorem de_lit2 (x0 x1:Int):de cI [D.int .i64 x0,D.int .i64 x1] = [x0,x1]:=Qj (f:=cI) [x0,x1]
theorem snoc_cT (xs:List Tr4) (a b c d:Int):cat cT xs ++ [.int .i64 a,.int .i64 b,.int .i64 c,.int .i64 d] = cat cT (xs ++ [(a,b,c,d)]):=by rw [Zr,Za];rfl
def SmallT (xs:List Tr4):Prop:=∀ i,i < xs.length → (nth xs i).2.2.1 ≤ 9223372036854775807
theorem SmallT.nil:SmallT []:=fun i h=>by simp at h
theorem SmallT.snoc {xs:List Tr4} (h:SmallT xs) {e:Tr4} (he:e.2.2.1 ≤ 9223372036854775807):SmallT (xs ++ [e]):=fun i hi=>by
  rw [List.length_append,List.length_singleton] at hi
  by_cases q:i < xs.length
  · simp only [nth,List.getD_eq_getElem?_getD,List.getElem?_append_left q]
    have:=h i q
    simpa only [nth,List.getD_eq_getElem?_getD] using this
  · have:i = xs.length:=by omega
    subst this
    simp only [nth,List.getD_eq_getElem?_getD,List.getElem?_append_right (Nat.le_refl _),Nat.sub_self]
    exact he
def PairsOk (us:List Int) (ls:List (List Int)):Prop:=∀ p,p ∈ ls → ∃ s ph,p = [s,ph] ∧ PhOk us ph
theorem PairsOk.nil (us:List Int):PairsOk us []:=fun p h=>nomatch h
theorem PairsOk.snoc {us:List Int} {ls:List (List Int)} (h:PairsOk us ls) {s ph:Int} (hp:PhOk us ph):PairsOk us (ls ++ [[s,ph]]):=fun p hp2=>by
  rcases List.mem_append.1 hp2 with q | q
  · exact h p q
  · exact ⟨s,ph,by simpa using q,hp⟩
structure TA where
  ls:List (List Int)
  js:List Int
  qs:List Bool
  es:List Tr4
  nb:Nat
  cp:Nat
  j:Nat
  H:Hp
def TAi (ab:Nat) (us:List Int) (q:TA):Prop:=PairsOk us q.ls ∧ SmallT q.es ∧ ¬ q.nb = ab ∧ q.ls.length ≤ q.cp ∧ q.cp ≤ q.ls.length + q.j ∧ q.H ab = some [.fr 1 q.js.length (cat cI q.js),.fr 1 q.qs.length (cat cB q.qs),.fr 4 q.es.length (cat cT q.es)] ∧ q.H q.nb = some (cat cL q.ls ++ zrP q.j .any)
def T1 (ab:Nat) (us:List Int) (cn:Nat) (q:Nat × TA):Prop:=q.1 ≤ cn ∧ TAi ab us q.2 ∧ q.2.ls.length ≤ q.1 ∧ q.2.js.length ≤ q.1 ∧ q.2.qs.length = 0 ∧ q.2.es.length = 0
def T2 (ab:Nat) (us:List Int) (q:Nat × TA):Prop:=q.1 ≤ q.2.ls.length ∧ TAi ab us q.2 ∧ q.2.ls.length ≤ 96 ∧ q.2.js.length ≤ 32 ∧ q.2.qs.length = q.1 ∧ q.2.es.length ≤ q.1 * 32
def T3y (ab:Nat) (us:List Int) (cn:Nat) (i n0:Nat) (y:Nat × TA):Prop:=y.1 ≤ cn ∧ TAi ab us y.2 ∧ y.2.ls.length ≤ n0 + y.1 ∧ i + 1 ≤ y.2.ls.length ∧ y.2.js.length ≤ 32 ∧ y.2.qs.length = i + 1 ∧ y.2.es.length ≤ i * 32 + y.1
theorem pow_cn {n:Nat} (h:n ≤ 5):∃ cn:Nat,cn ≤ 32 ∧ IntKind.i64.wrap (2 ^ min (IntKind.u64.wrap (n:Int)).toNat 64) = (cn:Int):=by
  have:n = 0 ∨ n = 1 ∨ n = 2 ∨ n = 3 ∨ n = 4 ∨ n = 5:=by omega
  rcases this with e | e | e | e | e | e <;> subst e
  · exact ⟨1,by omega,by decide⟩
  · exact ⟨2,by omega,by decide⟩
  · exact ⟨4,by omega,by decide⟩
  · exact ⟨8,by omega,by decide⟩
  · exact ⟨16,by omega,by decide⟩
  · exact ⟨32,by omega,by decide⟩

@[go_sem] def Vc:(List Int × List Bool × List Tr4) × Bool → D:=fun x=>.tup [.st [li cI x.1.1,li cB x.1.2.1,li cT x.1.2.2],.bool x.2]
theorem zaeo (x:(List Int × List Bool × List Tr4) × Bool):dat (Vc x) = Vc x:=by simp [go_sem]
def zaaa (k:Int) (v:Int) (ks:List Tree):(List Int × List Bool × List Tr4) × Bool → Prop:=fun x=>x.1.1.length ≤ 3000 ∧ x.1.2.1.length ≤ 3000 ∧ x.1.2.2.length ≤ 4000 ∧ SmallT x.1.2.2
def zaan (k:Int) (v:Int) (ks:List Tree) (x:((List Int × List Bool × List Tr4) × Bool) × D):Prop:=zaaa k v ks x.1 ∧ dat x.2 = Vc x.1
def zaae (k:Int) (v:Int) (ks:List Tree) (c:Any):((List Int × List Bool × List Tr4) × Bool) × D:=sel (zaan k v ks) (((([],[],[]),false):(List Int × List Bool × List Tr4) × Bool),Vc ((([],[],[]),false))) c
def zaat (k:Int) (v:Int) (ks:List Tree) (c:Any):(List Int × List Bool × List Tr4) × Bool:=(zaae k v ks c).1
theorem zacm (k:Int) (v:Int) (ks:List Tree)  (c:Any):zaan k v ks (zaae k v ks c):=by
  have hx:zaaa k v ks ((([],[],[]),false)):=⟨by simp,by simp,by simp,SmallT.nil⟩
  exact Zd (p:=zaan k v ks) (x0:=(((([],[],[]),false):(List Int × List Bool × List Tr4) × Bool),Vc ((([],[],[]),false)))) ⟨hx,zaeo _⟩ c
theorem zafy (k:Int) (v:Int) (ks:List Tree)  (c:Any):zaaa k v ks (zaat k v ks c):=(zacm k v ks  c).1
theorem zaau (k:Int) (v:Int) (ks:List Tree) {e_:Exit} {S_:St} (x:(List Int × List Bool × List Tr4) × Bool) (he_:e_ = .ret ∨ e_ = .normal)
    (h1:(Qe Tryd.prog S_ Tryd.f54.results.toList).1 ∧ dat (resD (Qe Tryd.prog S_ Tryd.f54.results.toList).2.1) = Vc x) (hg:zaaa k v ks x) :
    retR Tryd.prog Tryd.f54 (fun c=>((zaae k v ks c).2,fun _=>none)) e_ S_ :=
  Xz (good:=zaan k v ks) (enc:=fun x:((List Int × List Bool × List Tr4) × Bool) × D=>x.2) (x,resD (Qe Tryd.prog S_ Tryd.f54.results.toList).2.1) he_ ⟨h1.1,rfl⟩ ⟨hg,h1.2⟩
set_option maxHeartbeats 16000000 in
theorem zaen (k:Int) (v:Int) (ks:List Tree)  : SpecR Tryd.prog 54 [.st [.int .i64 k,.int .i64 v,li cX ks]] (fun _=>none) (fun c=>((zaae k v ks c).2,fun _=>none)):=by
  refine SpecR.of_walk Tryd.func54 rfl (by simp [Tryd.f54]) fun B=>?_
  (repeat' (first
 | refine Qu ?_
 | refine Qc (id:=0) Qx [] (by kernel_rfl) ?_;simp [-zg,-zd,↓Qb,↓Qa,go_sem];try (refine Xk 1 ?_;simp [go_sem])
 | refine Qc (id:=1) Qx [] (by kernel_rfl) ?_;simp [-zg,-zd,↓Qb,↓Qa,go_sem];try ((intro c1);(have z0:=zajs k v ks c1);(generalize zabv k v ks c1 = z1 at *);(obtain ⟨bs,okb⟩:=z1);(simp only [zaag] at z0);(obtain ⟨hb5,hA⟩:=z0))
 | refine Qc (id:=2) Qx [] (by kernel_rfl) ?_;simp [-zg,-zd,↓Qb,↓Qa,go_sem]
 | refine Qc (id:=3) Qx [] (by kernel_rfl) ?_;simp [-zg,-zd,↓Qb,↓Qa,go_sem]
 | refine Qc (id:=4) Qx [] (by kernel_rfl) ?_;simp [-zg,-zd,↓Qb,↓Qa,go_sem];try ((intro c4);(have z4:=zaha k v ks c4);(generalize zabx k v ks c4 = z5 at *);(obtain ⟨⟨gk,gv,gs⟩,okc⟩:=z5);(simp only [Ve] at z4);(have hV:Valu (.mk gk gv gs):=(by rcases z4.2 with h | h;exact Valu.zero h;exact h.valu));(clear z4);(refine Xk 6 ?_);(simp [go_sem]))
 | refine Qc (id:=5) Qx [] (by kernel_rfl) ?_;simp [-zg,-zd,↓Qb,↓Qa,go_sem,wrapu_nn (bs.length:Int)];try ((obtain ⟨cn,hcn,ecn⟩:=pow_cn hb5);(rw [ecn]);(clear ecn))
 | refine Qc (id:=6) Qx [] (by kernel_rfl) ?_;simp [-zg,-zd,↓Qb,↓Qa,go_sem,(show bs.length ≤ 1000 by omega)];try ((intro c6);(have hU:=l7Untils_ok bs (by omega) c6);(simp only [zabo] at hU);(generalize zaci bs c6 = us at *);(have hul:us.length ≤ 1000:=(by have:=hU.1;omega));(refine Xk 9 ?_);(simp [go_sem,dat,datL_map]))
 | refine Qc (id:=7) Qx [] (by kernel_rfl) ?_;simp [-zg,-zd,↓Qb,↓Qa,go_sem]
 | refine Qc (id:=8) Qx [] (by kernel_rfl) ?_;simp [-zg,-zd,↓Qb,↓Qa,go_sem]
 | ((refine AW_boxNils3 10 rfl ?_);(refine zado 10 rfl fun ab hab=>?_);(refine AW_mat 11 rfl fun nb cp j hnb hcp hcj=>?_);(have hna:¬ nb = ab:=(by rintro rfl;simp [upd] at hnb));(clear hab hnb);(refine Xb (fun H1=>TAi ab us ⟨[],[],[],[],nb,cp,j,H1⟩) ⟨PairsOk.nil us,SmallT.nil,hna,Nat.zero_le _,by simpa using hcj,by simp [upd,Ne.symm hna,Xe],by simp [upd,Xe]⟩ fun H1 hT=>?_));refine Qc (id:=9) Qx [] (by kernel_rfl) ?_;simp [-zg,-zd,↓Qb,↓Qa,go_sem]
 | ((have hq1:=hq.1));refine Qc (id:=10) Qx [] (by kernel_rfl) ?_;simp [-zg,-zd,↓Qb,↓Qa,go_sem]
 | refine Qc (id:=12) Qx [] (by kernel_rfl) ?_;simp [-zg,-zd,↓Qb,↓Qa,go_sem,hV]
 | ((obtain ⟨i,zq⟩:=q);(obtain ⟨g1,g2,g3,g4,g5,g6⟩:=hq);(dsimp only at g1 g2 g3 g4 g5 g6);(obtain ⟨ls,js,qs,es,nb,cp,j,H0⟩:=zq);(dsimp only at *);(obtain ⟨t1,t2,t3,t4,t5,t6,t7⟩:=g2);(dsimp only at t1 t2 t3 t4 t5 t6 t7));refine Qc (id:=13) Qx [] (by kernel_rfl) ?_;simp [-zg,-zd,↓Qb,↓Qa,go_sem,t6,(show js.length ≤ 9223372036854775806 by omega),(show 2 * (js.length + 1) * 8 ≤ 281474976710656 by omega),snoc_cI];try ((refine Xb (fun H1=>H1 ab = some [.fr 1 (js.length + 1) (cat cI (js ++ [(ls.length:Int)])),.fr 1 qs.length (cat cB qs),.fr 4 es.length (cat cT es)] ∧ H1 nb = some (cat cL ls ++ zrP j .any)) ⟨by simp [upd],by simp [upd,t3,t7]⟩ fun H2 ⟨u1,u2⟩=>?_))
 | refine Qc (id:=14) Qx [] (by kernel_rfl) ?_;simp [-zg,-zd,↓Qb,↓Qa,go_sem,u1,u2,t3,Ne.symm t3,(show ls.length ≤ 9223372036854775806 by omega),(show 2 * (ls.length + 1) * 24 ≤ 281474976710656 by omega),t5,(show ls.length ≤ ls.length + j by omega)];try ((refine AW_matL 11 (ls:=ls) (x:=(i:Int)) (y:=0) rfl fun nb2 cp2 j2 hn2 hc2 hj2=>?_);(have n2:¬ nb2 = ab:=(by rintro rfl;simp [upd,t3,Ne.symm t3,u1] at hn2));(refine Xb (fun H1=>TAi ab us ⟨ls ++ [[(i:Int),0]],js ++ [(ls.length:Int)],qs,es,nb2,cp2,j2,H1⟩) ⟨t1.snoc (PhOk.zero us),t2,n2,by simpa using hc2,by simpa using hj2,by simp [upd,n2,Ne.symm n2,t3,Ne.symm t3,u1],by simp [upd]⟩ fun H3 hT3=>?_);(have hl3:(ls ++ [[(i:Int),0]]).length = ls.length + 1:=(by simp));(have hz:T1 ab us cn (i + 1,⟨ls ++ [[(i:Int),0]],js ++ [(ls.length:Int)],qs,es,nb2,cp2,j2,H3⟩):=⟨by dsimp only;omega,hT3,by simp;omega,by simp;omega,g5,g6⟩);(rw [← hl3]);(obtain ⟨zz,hzz⟩:∃ zz:TA,zz = ⟨ls ++ [[(i:Int),0]],js ++ [(ls.length:Int)],qs,es,nb2,cp2,j2,H3⟩:=⟨_,rfl⟩);(rw [← hzz] at hz);(have z1:ls ++ [[(i:Int),0]] = zz.ls:=(by rw [hzz]));(have z2:nb2 = zz.nb:=(by rw [hzz]));(have z3:cp2 = zz.cp:=(by rw [hzz]));(have z4:H3 = zz.H:=(by rw [hzz]));(rw [z1,z2,z3,z4]);(clear hzz))
 | refine Qc (id:=11) Qx [] (by kernel_rfl) ?_;simp [-zg,-zd,↓Qb,↓Qa,go_sem,wrapS (k:=i) (by omega)]
 | refine Qc (id:=11) Qx [] (by kernel_rfl) ?_;simp [-zg,-zd,↓Qb,↓Qa,go_sem,wrapS (k:=q.1) (by omega)]
 | ((obtain ⟨i0,q1⟩:=q);(obtain ⟨g1,g2,g3,g4,g5,g6⟩:=hq);(dsimp only at *));refine Qc (id:=15) Qx [] (by kernel_rfl) ?_;simp [-zg,-zd,↓Qb,↓Qa,go_sem]
 | ((have hr1:=hr.1);(have hr3:=hr.2.2.1));refine Qc (id:=16) Qx [] (by kernel_rfl) ?_;simp [-zg,-zd,↓Qb,↓Qa,go_sem]
 | refine Qc (id:=18) Qx [] (by kernel_rfl) ?_;simp [-zg,-zd,↓Qb,↓Qa,go_sem]
 | refine Qc (id:=19) Qx [] (by kernel_rfl) ?_;simp [-zg,-zd,↓Qb,↓Qa,go_sem]
 | ((obtain ⟨i,rz⟩:=r);(obtain ⟨h1,h2,h3,h4,h5,h6⟩:=hr);(dsimp only at *);(obtain ⟨ls,js,qs,es,nb,cp,j,H0⟩:=rz);(dsimp only at *);(obtain ⟨t1,t2,t3,t4,t5,t6,t7⟩:=h2);(dsimp only at t1 t2 t3 t4 t5 t6 t7);(have hil:i < ls.length:=(by omega));(obtain ⟨s,ph,hp,hph⟩:=t1 (nth ls i) (Jm hil)));refine Qc (id:=20) Qx [] (by kernel_rfl) ?_;simp [-zg,-zd,↓Qb,↓Qa,go_sem,hil,Qg hil,zsP hil,t7,hp,(show nth [s,ph] 0 = s from rfl),(show i < ls.length + j by omega)]
 | refine Qc (id:=21) Qx [] (by kernel_rfl) ?_;simp [-zg,-zd,↓Qb,↓Qa,go_sem,hA,hU,hph,hul,(show nth [ph] 0 = ph from rfl),(show nth [s,ph] 1 = ph from rfl),hil,Qg hil,zsP hil,t7,hp,(show i < ls.length + j by omega)];try ((intro c21);(have h21:=l7Phase_ok bs us s ph hA hU hph hul c21);(simp only [zacj] at h21);(generalize zadb bs us s ph c21 = zp at *);(obtain ⟨ph2,ac⟩:=zp);(dsimp only at h21 ⊢))
 | refine Qc (id:=22) Qx [] (by kernel_rfl) ?_;simp [-zg,-zd,↓Qb,↓Qa,go_sem,t6,(show qs.length ≤ 9223372036854775806 by omega),(show 2 * (qs.length + 1) * 1 ≤ 281474976710656 by omega),(show 2 * (qs.length + 1) ≤ 281474976710656 by omega),snoc_cB];try ((refine Xb (fun H1=>H1 ab = some [.fr 1 js.length (cat cI js),.fr 1 (qs ++ [ac]).length (cat cB (qs ++ [ac])),.fr 4 es.length (cat cT es)] ∧ H1 nb = some (cat cL ls ++ zrP j .any)) ⟨by simp [upd],by simp [upd,t3,t7]⟩ fun H2 ⟨u1,u2⟩=>?_))
 | refine Qc (id:=23) Qx [] (by kernel_rfl) ?_;simp [-zg,-zd,↓Qb,↓Qa,go_sem,hA];try ((intro c23);(have h23:=l7Letter_ok bs s hA c23);(simp only [zaaw] at h23);(generalize zack bs s c23 = zl at *);(obtain ⟨care,vl⟩:=zl);(dsimp only at h23 ⊢))
 | refine Qc (id:=24) Qx [] (by kernel_rfl) ?_;simp [-zg,-zd,↓Qb,↓Qa,go_sem]
 | ((have hy1:=hy.1));refine Qc (id:=25) Qx [] (by kernel_rfl) ?_;simp [-zg,-zd,↓Qb,↓Qa,go_sem]
 | refine Qc (id:=27) Qx [] (by kernel_rfl) ?_;simp [-zg,-zd,↓Qb,↓Qa,go_sem,hA];try ((intro c27);(generalize zabq bs s (y.1:Int) c27 = fb at *))
 | ((obtain ⟨e,yz⟩:=y);(obtain ⟨y1,y2,y3,y4,y5,y6,y7⟩:=hy);(dsimp only at *);(obtain ⟨ls2,js2,qs2,es2,nb2,cp2,j2,H4⟩:=yz);(dsimp only at *);(obtain ⟨w1,w2,w3,w4,w5,w6,w7⟩:=y2);(dsimp only at w1 w2 w3 w4 w5 w6 w7));refine Qc (id:=28) Qx [] (by kernel_rfl) ?_;simp [-zg,-zd,↓Qb,↓Qa,go_sem]
 | ((refine AW_unmat 11 (b:=nb2) (sz:=1) (m:=ls2.length) (all:=cat cL ls2 ++ zrP j2 D.any) rfl w7 (by omega) (by simp [Qy]) (by simp [Qy];omega) ?_);(simp only [Nat.mul_one,zacs]));refine Qc (id:=29) Qx [] (by kernel_rfl) ?_;simp [-zg,-zd,↓Qb,↓Qa,go_sem,(show ls2.length ≤ 100000 by omega)];try ((intro c29);(have h29:=l7Pair_ok ls2 [(e:Int),ph2] (by omega) c29);(simp only [zadc] at h29);(generalize zadv ls2 [(e:Int),ph2] c29 = zq at *);(obtain ⟨ls3,ix⟩:=zq);(dsimp only at h29 ⊢);(have hl3:ls3.length ≤ ls2.length + 1 ∧ ls2.length ≤ ls3.length:=(by rcases h29 with h | h <;> rw [h] <;> simp));(have hP3:PairsOk us ls3:=(by rcases h29 with h | h;rw [h];exact w1;rw [h];exact w1.snoc h21));(refine AW_mat 11 rfl fun nb3 cp3 j3 hn3 hc3 hj3=>?_);(have n3:¬ nb3 = ab:=(by rintro rfl;simp [upd,w3,Ne.symm w3,w6] at hn3));(refine Xb (fun H1=>H1 ab = some [.fr 1 js2.length (cat cI js2),.fr 1 qs2.length (cat cB qs2),.fr 4 es2.length (cat cT es2)] ∧ H1 nb3 = some (cat cL ls3 ++ zrP j3 .any)) ⟨by simp [upd,n3,Ne.symm n3,w3,Ne.symm w3,w6],by simp [upd]⟩ fun H5 ⟨v1,v2⟩=>?_))
 | refine Qc (id:=30) Qx [] (by kernel_rfl) ?_;simp [-zg,-zd,↓Qb,↓Qa,go_sem,v1,(show es2.length ≤ 9223372036854775806 by omega),(show 2 * (es2.length + 1) * 32 ≤ 281474976710656 by omega),snoc_cT];try ((have hl4:(es2 ++ [((i:Int),care,vl,ix)]).length = es2.length + 1:=(by simp));(refine Xb (fun H1=>TAi ab us ⟨ls3,js2,qs2,es2 ++ [((i:Int),care,vl,ix)],nb3,cp3,j3,H1⟩) ⟨hP3,w2.snoc h23,n3,(show ls3.length ≤ cp3 by omega),(show cp3 ≤ ls3.length + j3 by omega),by simp [upd],by simp [upd,n3,v2]⟩ fun H6 hT6=>?_);(have hz:T3y ab us cn i ls.length (e + 1,⟨ls3,js2,qs2,es2 ++ [((i:Int),care,vl,ix)],nb3,cp3,j3,H6⟩):=⟨by dsimp only;omega,hT6,by dsimp only;omega,by dsimp only;omega,y5,y6,by dsimp only;omega⟩);(obtain ⟨zz,hzz⟩:∃ zz:TA,zz = ⟨ls3,js2,qs2,es2 ++ [((i:Int),care,vl,ix)],nb3,cp3,j3,H6⟩:=⟨_,rfl⟩);(rw [← hzz] at hz);(have z1:ls3 = zz.ls:=(by rw [hzz]));(have z2:nb3 = zz.nb:=(by rw [hzz]));(have z3:cp3 = zz.cp:=(by rw [hzz]));(have z4:H6 = zz.H:=(by rw [hzz]));(rw [z1,z2,z3,z4]);(clear hzz))
 | refine Qc (id:=26) Qx [] (by kernel_rfl) ?_;simp [-zg,-zd,↓Qb,↓Qa,go_sem,wrapS (k:=e) (by omega)]
 | refine Qc (id:=26) Qx [] (by kernel_rfl) ?_;simp [-zg,-zd,↓Qb,↓Qa,go_sem,wrapS (k:=y.1) (by omega)]
 | ((obtain ⟨e,yz⟩:=y);(obtain ⟨y1,y2,y3,y4,y5,y6,y7⟩:=hy);(dsimp only at *);(have hyz:T2 ab us (i + 1,yz):=⟨by dsimp only;omega,y2,by dsimp only;omega,by dsimp only;omega,y6,by dsimp only;omega⟩));refine Qc (id:=17) Qx [] (by kernel_rfl) ?_;simp [-zg,-zd,↓Qb,↓Qa,go_sem,wrapS (k:=i) (by omega)]
 | ((obtain ⟨i,rz⟩:=r);(obtain ⟨h1,h2,h3,h4,h5,h6⟩:=hr);(dsimp only at *);(obtain ⟨ls,js,qs,es,nb,cp,j,H0⟩:=rz);(dsimp only at *);(obtain ⟨t1,t2,t3,t4,t5,t6,t7⟩:=h2);(dsimp only at t1 t2 t3 t4 t5 t6 t7));refine Qc (id:=31) Qx [] (by kernel_rfl) ?_;simp [-zg,-zd,↓Qb,↓Qa,go_sem]
 | refine Qc (id:=32) Qx [] (by kernel_rfl) ?_;simp [-zg,-zd,↓Qb,↓Qa,go_sem,t6];try ((refine Xb (fun H1=>H1 ab = some [.fr 1 js.length (cat cI js),.fr 1 [false].length (cat cB [false]),.fr 4 es.length (cat cT es)]) (by simp [upd,Za,cB]) fun H2 u1=>?_))
 | refine Qc (id:=33) Qx [] (by kernel_rfl) ?_;simp [-zg,-zd,↓Qb,↓Qa,go_sem,u1]
 | refine Qc (id:=33) Qx [] (by kernel_rfl) ?_;simp [-zg,-zd,↓Qb,↓Qa,go_sem,t6]
 | refine Qd (c:=.tmp 27) ?_;simp [-zg,-zd,↓Qb,↓Qa,go_sem];try first | (refine ⟨?_,?_⟩ <;> refine zA ?_) | (refine ⟨fun c27=>?_,fun c27=>?_⟩ <;> (try simp [B_iff,B_not] at c27))
 | refine Qd (c:=.tmp 44) ?_;simp [-zg,-zd,↓Qb,↓Qa,go_sem];try first | (refine ⟨?_,?_⟩ <;> refine zA ?_) | (refine ⟨fun c44=>?_,fun c44=>?_⟩ <;> (try simp [B_iff,B_not] at c44))
 | refine Qd (c:=.tmp 50) ?_;simp [-zg,-zd,↓Qb,↓Qa,go_sem];try first | (refine ⟨?_,?_⟩ <;> refine zA ?_) | (refine ⟨fun c50=>?_,fun c50=>?_⟩ <;> (try simp [B_iff,B_not] at c50))
 | refine Qd (c:=.tmp 66) ?_;simp [-zg,-zd,↓Qb,↓Qa,go_sem];try first | (refine ⟨?_,?_⟩ <;> refine zA ?_) | (refine ⟨fun c66=>?_,fun c66=>?_⟩ <;> (try simp [B_iff,B_not] at c66))
 | refine Qd (c:=.tmp 71) ?_;simp [-zg,-zd,↓Qb,↓Qa,go_sem];try first | (refine ⟨?_,?_⟩ <;> refine zA ?_) | (refine ⟨fun c71=>?_,fun c71=>?_⟩ <;> (try simp [B_iff,B_not] at c71))
 | refine Qd (c:=.tmp 106) ?_;simp [-zg,-zd,↓Qb,↓Qa,go_sem];try first | (refine ⟨?_,?_⟩ <;> refine zA ?_) | (refine ⟨fun c106=>?_,fun c106=>?_⟩ <;> (try simp [B_iff,B_not] at c106))
 | refine Qd (c:=.tmp 112) ?_;simp [-zg,-zd,↓Qb,↓Qa,go_sem];try first | (refine ⟨?_,?_⟩ <;> refine zA ?_) | (refine ⟨fun c112=>?_,fun c112=>?_⟩ <;> (try simp [B_iff,B_not] at c112))
 | refine Qd (c:=.tmp 133) ?_;simp [-zg,-zd,↓Qb,↓Qa,go_sem];try first | (refine ⟨?_,?_⟩ <;> refine zA ?_) | (refine ⟨fun c133=>?_,fun c133=>?_⟩ <;> (try simp [B_iff,B_not] at c133))
 | (refine Qh (id:=0) (Xd (ι:=Nat × TA) (fun q:Nat × TA=>⟨(upd (upd (upd (upd (upd (upd (upd (upd (fun _=>.any) 2 (.box [.nil,.nil,.nil])) 4 (li cX bs)) 8 (.int .i64 (cn:Int))) 9 (li cI us)) 10 (.ptr ab 0)) 6 (.pd [.int .i64 gk,.int .i64 gv,li cX gs])) 11 (.sl q.2.nb 1 0 q.2.ls.length q.2.cp)) 12 (.int .i64 q.1)),q.2.H⟩) (fun q=>T1 ab us cn q) (fun q=>cn - q.1) ((0,⟨[],[],[],[],nb,cp,j,H1⟩)) ?_ ?_ ?_);exact ⟨Nat.zero_le _,hT,Nat.le_refl _,Nat.le_refl _,rfl,rfl⟩;((repeat' (first | exact Ql (by assumption) | exact Qo | refine Qk ?_ ?_ | refine Qn ?_)) <;> simp [-zg,-zd,↓Qb,↓Qa,go_sem,List.length_nil]);rintro q hq)
 | (refine ⟨(i + 1,zz),hz,by first | omega | (simp;done) | (simp;omega),?_⟩;((repeat' (first | exact Ql (by assumption) | exact Qo | refine Qk ?_ ?_ | refine Qn ?_)) <;> simp [-zg,-zd,↓Qb,↓Qa,go_sem,]))
 | (refine Qh (id:=2) (Xd (ι:=Nat × TA) (fun r:Nat × TA=>⟨(upd (upd (upd (upd (upd (upd (upd (fun _=>.any) 2 (.box [.nil,.nil,.nil])) 4 (li cX bs)) 8 (.int .i64 (cn:Int))) 9 (li cI us)) 10 (.ptr ab 0)) 11 (.sl r.2.nb 1 0 r.2.ls.length r.2.cp)) 13 (.int .i64 r.1)),r.2.H⟩) (fun r=>T2 ab us r) (fun r=>96 - r.1) ((0,q1)) ?_ ?_ ?_);exact ⟨Nat.zero_le _,g2,by dsimp only;omega,by dsimp only;omega,g5,by dsimp only;omega⟩;((repeat' (first | exact Ql (by assumption) | exact Qo | refine Qk ?_ ?_ | refine Qn ?_)) <;> simp [-zg,-zd,↓Qb,↓Qa,go_sem]);rintro r hr)
 | (refine ⟨(i + 1,yz),hyz,by first | omega | (simp;done) | (simp;omega),?_⟩;((repeat' (first | exact Ql (by assumption) | exact Qo | refine Qk ?_ ?_ | refine Qn ?_)) <;> simp [-zg,-zd,↓Qb,↓Qa,go_sem]))
 | (refine Qh (id:=4) (Xd (ι:=Nat × TA) (fun y:Nat × TA=>⟨(upd (upd (upd (upd (upd (upd (upd (upd (upd (upd (upd (upd (fun _=>.any) 2 (.box [.nil,.nil,.nil])) 4 (li cX bs)) 8 (.int .i64 (cn:Int))) 9 (li cI us)) 10 (.ptr ab 0)) 11 (.sl y.2.nb 1 0 y.2.ls.length y.2.cp)) 13 (.int .i64 i)) 14 (.int .i64 s)) 15 (.int .i64 ph2)) 17 (.int .i64 care)) 18 (.int .i64 vl)) 19 (.int .i64 y.1)),y.2.H⟩) (fun y=>T3y ab us cn i ls.length y) (fun y=>cn - y.1) ((0,⟨ls,js,qs ++ [ac],es,nb,cp,j,H2⟩)) ?_ ?_ ?_);exact ⟨Nat.zero_le _,⟨t1,t2,t3,t4,t5,u1,u2⟩,by dsimp only;omega,by dsimp only;omega,h4,by simp;omega,by dsimp only;omega⟩;((repeat' (first | exact Ql (by assumption) | exact Qo | refine Qk ?_ ?_ | refine Qn ?_)) <;> simp [-zg,-zd,↓Qb,↓Qa,go_sem]);rintro y hy)
 | (refine ⟨(e + 1,zz),hz,by first | omega | (simp;done) | (simp;omega),?_⟩;((repeat' (first | exact Ql (by assumption) | exact Qo | refine Qk ?_ ?_ | refine Qn ?_)) <;> simp [-zg,-zd,↓Qb,↓Qa,go_sem]))
 | (refine Qh ?_)
 | (refine Qt ?_;simp [-zg,-zd,↓Qb,↓Qa,go_sem])
 | (refine Qs ?_;simp [-zg,-zd,↓Qb,↓Qa,go_sem])
 | (refine Qv ?_;try simp [-zg,-zd,↓Qb,↓Qa,go_sem,Tryd.results54])
 | (intro hx;refine zA ?_)
 | (intro hx;change retR _ _ _ _ _)
 | (refine ⟨?_,?_⟩ <;> refine zA ?_)
 | (intro hx;constructor <;> intro hs)
 | (constructor <;> intro hs)
 | (refine ⟨?_,fun hs=>?_⟩;refine zA ?_)
 | (refine ⟨fun hs=>?_,?_⟩;rotate_left;refine zA ?_;rotate_left)
 | ((fail_if_success change retR _ _ _ _ _);(refine ⟨(q.1 + 1,q.2),⟨by dsimp only;omega,hq.2.1,by have:=hq.2.2.1;dsimp only;omega,by have:=hq.2.2.2.1;dsimp only;omega,hq.2.2.2.2⟩,by dsimp only;omega,?_⟩;((repeat' (first | exact Ql (by assumption) | exact Qo | refine Qk ?_ ?_ | refine Qn ?_)) <;> simp [-zg,-zd,go_sem]);done))
 | ((fail_if_success change retR _ _ _ _ _);(refine ⟨(y.1 + 1,y.2),⟨by dsimp only;omega,hy.2.1,by have:=hy.2.2.1;dsimp only;omega,hy.2.2.2.1,hy.2.2.2.2.1,hy.2.2.2.2.2.1,by have:=hy.2.2.2.2.2.2;dsimp only;omega⟩,by dsimp only;omega,?_⟩;((repeat' (first | exact Ql (by assumption) | exact Qo | refine Qk ?_ ?_ | refine Qn ?_)) <;> simp [-zg,-zd,go_sem]);done))))
  all_goals (first
 | (refine zaau _ _ _ ((([],[],[]),false)) ?_ ?_ ?_;(first | exact Or.inl rfl | exact Or.inr rfl);(focus (simp [-zg,-zd,↓Qb,↓Qa,go_sem,Tryd.results54,dat,datL_map,li,Xe];done));(focus ((exact ⟨by simp,by simp,by simp,SmallT.nil⟩);done)))
 | (refine zaau _ _ _ (((js,qs,es),true)) ?_ ?_ ?_;(first | exact Or.inl rfl | exact Or.inr rfl);(focus (simp [-zg,-zd,↓Qb,↓Qa,go_sem,Tryd.results54,dat,datL_map,li,Zg];done));(focus ((exact ⟨by dsimp only;omega,by dsimp only;omega,by dsimp only;omega,t2⟩);done)))
 | (refine zaau _ _ _ (((js,[false],es),true)) ?_ ?_ ?_;(first | exact Or.inl rfl | exact Or.inr rfl);(focus (simp [-zg,-zd,↓Qb,↓Qa,go_sem,Tryd.results54,dat,datL_map,li,Zg,Za,cB];done));(focus ((exact ⟨by dsimp only;omega,by simp,by dsimp only;omega,t2⟩);done)))
 | skip)
@[go_sem] def zabt:Con:=.rel fun args H=>match args with
  | [.st [.int .i64 k,.int .i64 v,.list n_ks c_ks]]=>((Is cX n_ks c_ks),fun c=>(Vc (zaat k v (de cX c_ks) c),H))
  | _=>(False,fun _=>(.any,H))
theorem zaff:ConOk Tryd.prog 54 zabt:=by
  refine ⟨Qq Tryd.func54 (by decide) rfl,fun args H h=>?_⟩
  revert h
  dsimp only
  split
  · intro h
    obtain ⟨ks,rfl,rfl⟩:=h
    try simp only [Qj] at *
    exact SpecR.enc ((SpecR.frame0 (zaen _ _ ks ) (H:=H)).shut) fun c=>Prod.ext (zacm _ _ _  c).2.symm rfl
  · intro h
    exact h.elim
@[go_sem] def Γy24:FuncId → Con:=ext Γy23 54 zabt
theorem Γy24_ok:∀ g,ConOk Tryd.prog g (Γy24 g):=Qp Qx zaff

end
end Go.Proofs.YtnfldmfamnhpcaaDoor.Vm

