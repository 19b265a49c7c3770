import Derived.Test.YtiilmjojffjhlaaGreatDoorYE4
/-
  Formulas: what follows, letters, phases, pairs. No conditions.
-/
namespace Go.Proofs.YtiilmjojffjhlaaGreatDoor.Vm
open Go
open Nat renaming sub_pos_of_lt → zsP
open List renaming getD_eq_getElem?_getD → zg,drop_one → zd,replicate → zrP
open Ne renaming symm → zS
noncomputable section
set_option linter.unusedVariables false
set_option linter.unusedSimpArgs false
set_option maxRecDepth 200000

@[go_sem] def Ww:Bool → D:=fun x=>.bool x
def zacy (bs:List Tree) (s:Int) (t:Int):Bool → Prop:=fun _=>True
def zaec (bs:List Tree) (s:Int) (t:Int) (c:Any):Bool:=sel (zacy bs s t) (true) c
theorem l7Follows_ret (bs:List Tree) (s:Int) (t:Int) {e_:Exit} {S_:St} (x:Bool) (he_:e_ = .ret ∨ e_ = .normal)
    (h1:(Qd Tryz.prog S_ Tryz.f109.results.toList).1 ∧ resD (Qd Tryz.prog S_ Tryz.f109.results.toList).2.1 = Ww x) (hg:zacy bs s t x) :
    retR Tryz.prog Tryz.f109 (fun c=>(Ww (zaec bs s t c),fun _=>none)) e_ S_:=Xi (enc:=Ww) x he_ h1 hg
theorem zald (bs:List Tree) (s:Int) (t:Int) {e_:Exit} {S_:St} (he_:e_ = .ret ∨ e_ = .normal)
    (h:∃ x,(Qd Tryz.prog S_ Tryz.f109.results.toList).1 ∧ resD (Qd Tryz.prog S_ Tryz.f109.results.toList).2.1 = Ww x ∧ zacy bs s t x) :
    retR Tryz.prog Tryz.f109 (fun c=>(Ww (zaec bs s t c),fun _=>none)) e_ S_:=by
  obtain ⟨x,h1,h2,h3⟩:=h
  exact l7Follows_ret _ _ _ x he_ ⟨h1,h2⟩ h3
set_option maxHeartbeats 8000000 in
theorem l7Follows_pure (bs:List Tree) (s:Int) (t:Int) (hA:AllW bs):PureR Tryz.prog 109 [li cX bs,.int .i64 s,.int .i64 t] (fun c=>Ww (zaec bs s t c)):=by
  refine PureR.of_walk Tryz.func109 rfl (by simp [Tryz.f109]) (fun c=>by simp [-zd,go_sem]) fun B hK=>?_
  (repeat' (first
 | refine Qt ?_
 | (refine Jb 0 rfl fun hm=>?_);refine Qc (id:=1) Yj [] (by kernel_rfl) ?_;simp [-zg,-zd,↓Qb,↓Qa,go_sem]
 | ((obtain ⟨⟨uk,uv,us⟩,hu⟩:∃ u,nth bs i = u:=⟨_,rfl⟩);(have hw:WellF (.mk uk uv us):=(by rw [← hu];exact hA.at c14));(have hk1:=hw.ks1);(have hk2:=hw.ks2);(have w4:=hw.at.2.2.2));refine Qc (id:=4) Yj [] (by kernel_rfl) ?_;simp [-zg,-zd,↓Qb,↓Qa,go_sem,c14,Qk c14,zsP c14,hu];try ((refine Xh hK 8 ?_);(simp [go_sem]))
 | ((have ql:=hk1 (by omega));(have qk:0 < us.length:=(by omega));(have qw:=(w4 0 qk).valu));refine Qc (id:=9) Yj [] (by kernel_rfl) ?_;simp [-zg,-zd,↓Qb,↓Qa,go_sem,qk,Qk qk,zsP qk,Jq (f:=cX) qk,(show 3 ≤ us.length * 3 by omega),Tree.eta,qw]
 | ((have ql:=hk2 (by omega) (by omega) (by omega) (by omega) (by omega) (by omega));(have qk:0 < us.length:=(by omega));(have qj:1 < us.length:=(by omega));(have qw:=(w4 0 qk).valu);(have qx:=(w4 1 qj).valu));refine Qc (id:=11) Yj [45,53] (by kernel_rfl) ?_;simp [-zg,-zd,↓Qb,↓Qa,go_sem,qk,Qk qk,zsP qk,qj,Jq (f:=cX) qk,(show 3 ≤ us.length * 3 by omega),(show (cat cX us).drop 3 = cat cX (us.drop 1) from Vb (f:=cX) (sz:=3) us 1),(show 3 ≤ us.length * 3 - 3 by omega),(show 3 ≤ (us.length - 1) * 3 by omega),(show (1:Int) < (us.length:Int) by omega),zsP qj,Tree.eta,qw,qx];try (refine ⟨fun s11a=>?_,fun s11a=>?_⟩ <;> (try simp [B_iff,B_not] at s11a) <;> try (refine ⟨fun s11b=>?_,fun s11b=>?_⟩ <;> (try simp [B_iff,B_not] at s11b) <;> try (refine ⟨fun s11c=>?_,fun s11c=>?_⟩ <;> (try simp [B_iff,B_not] at s11c))))
 | ((have ql:=hk2 (by omega) (by omega) (by omega) (by omega) (by omega) (by omega));(have qk:0 < us.length:=(by omega));(have qj:1 < us.length:=(by omega));(have qw:=(w4 0 qk).valu);(have qx:=(w4 1 qj).valu));refine Qc (id:=13) Yj [68,76] (by kernel_rfl) ?_;simp [-zg,-zd,↓Qb,↓Qa,go_sem,qk,Qk qk,zsP qk,qj,Jq (f:=cX) qk,(show 3 ≤ us.length * 3 by omega),(show (cat cX us).drop 3 = cat cX (us.drop 1) from Vb (f:=cX) (sz:=3) us 1),(show 3 ≤ us.length * 3 - 3 by omega),(show 3 ≤ (us.length - 1) * 3 by omega),(show (1:Int) < (us.length:Int) by omega),zsP qj,Tree.eta,qw,qx];try (refine ⟨fun s13a=>?_,fun s13a=>?_⟩ <;> (try simp [B_iff,B_not] at s13a) <;> try (refine ⟨fun s13b=>?_,fun s13b=>?_⟩ <;> (try simp [B_iff,B_not] at s13b) <;> try (refine ⟨fun s13c=>?_,fun s13c=>?_⟩ <;> (try simp [B_iff,B_not] at s13c))))
 | refine Qc (id:=3) Yj [] (by kernel_rfl) ?_;simp [-zg,-zd,↓Qb,↓Qa,go_sem,wrapS (k:=i) (by omega)]
 | refine Qj (c:=.tmp 14) ?_;simp [-zg,-zd,↓Qb,↓Qa,go_sem];try first | (refine ⟨?_,?_⟩ <;> refine zA ?_) | (refine ⟨fun c14=>?_,fun c14=>?_⟩ <;> (try simp [B_iff,B_not] at c14))
 | (refine Qe (id:=0) (Qw (ι:=Nat) (fun i:Nat=>⟨(upd (upd (upd (upd (fun _=>.any) 0 (li cX bs)) 1 (.int .i64 s)) 2 (.int .i64 t)) 7 (.int .i64 i)),fun _=>none⟩) (fun i=>i ≤ bs.length) (fun i=>bs.length - i) (0) ?_ ?_ ?_);exact Nat.zero_le _;((repeat' (first | exact Qg (by assumption) | exact Qi | refine Qf ?_ ?_ | refine Qh ?_)) <;> simp [-zg,-zd,↓Qb,↓Qa,go_sem]);rintro i hi)
 | (refine ⟨i + 1,by omega,by first | omega | (simp;done) | (simp;omega),?_⟩;((repeat' (first | exact Qg (by assumption) | exact Qi | refine Qf ?_ ?_ | refine Qh ?_)) <;> simp [-zg,-zd,↓Qb,↓Qa,go_sem]))
 | (refine Qe ?_)
 | (refine Qs ?_;simp [-zg,-zd,↓Qb,↓Qa,go_sem])
 | (refine Qr ?_;simp [-zg,-zd,↓Qb,↓Qa,go_sem])
 | (refine Qq ?_;try simp [-zg,-zd,↓Qb,↓Qa,go_sem,Tryz.results109])
 | (intro hx;refine zA ?_)
 | (intro hx;change retR _ _ _ _ _)
 | (refine ⟨?_,?_⟩ <;> refine zA ?_)
 | (intro hx;constructor <;> intro hs)
 | (constructor <;> intro hs)
 | (refine ⟨?_,fun hs=>?_⟩;refine zA ?_)
 | (refine ⟨fun hs=>?_,?_⟩;rotate_left;refine zA ?_;rotate_left)
 | (refine Qj ?_;simp [-zg,-zd,↓Qb,↓Qa,go_sem];try first | (refine ⟨?_,?_⟩ <;> refine zA ?_) | (refine ⟨fun cz=>?_,fun cz=>?_⟩ <;> (try simp [B_iff,B_not] at cz)))
 | (refine Qc Yj [] (by kernel_rfl) ?_;simp [-zg,-zd,↓Qb,↓Qa,go_sem])
 | fail))
  all_goals (first
 | (refine zald _ _ _ ?_ ?_;(first | exact Or.inl rfl | exact Or.inr rfl);(simp [-zg,-zd,↓Qb,↓Qa,go_sem,Tryz.results109,zacy]);((trivial);done))
 | (refine zald _ _ _ ?_ ?_;(first | exact Or.inl rfl | exact Or.inr rfl);(simp [-zg,-zd,↓Qb,↓Qa,go_sem,Tryz.results109,zacy];done))
 | skip)
@[go_sem] def zaqp:Con:=.prel fun
  | [.list n_bs c_bs,.int .i64 s,.int .i64 t]=>((Is cX n_bs c_bs) ∧ (AllW (de cX c_bs)),fun c=>Ww (zaec (de cX c_bs) s t c))
  | _=>(False,fun _=>.any)
theorem l7FollowsC_ok:ConOk Tryz.prog 109 zaqp:=by
  refine ⟨Qo Tryz.func109 (by decide) rfl,fun args h=>?_⟩
  revert h
  dsimp only
  split
  · intro h
    obtain ⟨⟨bs,rfl,rfl⟩,hA⟩:=h
    try simp only [Qm] at *
    exact ⟨l7Follows_pure bs _ _ hA,fun c=>by simp [go_sem]⟩
  · intro h
    exact h.elim
@[go_sem] def Γy18:FuncId → Con:=ext Γy17 109 zaqp
theorem Γy18_ok:∀ g,ConOk Tryz.prog g (Γy18 g):=Qn Yj l7FollowsC_ok

@[go_sem] def Wv:Bool → D:=fun x=>.bool x
def zacx (bs:List Tree) (s:Int) (u:Int):Bool → Prop:=fun _=>True
def zaeb (bs:List Tree) (s:Int) (u:Int) (c:Any):Bool:=sel (zacx bs s u) (true) c
theorem l7Fulfils_ret (bs:List Tree) (s:Int) (u:Int) {e_:Exit} {S_:St} (x:Bool) (he_:e_ = .ret ∨ e_ = .normal)
    (h1:(Qd Tryz.prog S_ Tryz.f147.results.toList).1 ∧ resD (Qd Tryz.prog S_ Tryz.f147.results.toList).2.1 = Wv x) (hg:zacx bs s u x) :
    retR Tryz.prog Tryz.f147 (fun c=>(Wv (zaeb bs s u c),fun _=>none)) e_ S_:=Xi (enc:=Wv) x he_ h1 hg
theorem zalc (bs:List Tree) (s:Int) (u:Int) {e_:Exit} {S_:St} (he_:e_ = .ret ∨ e_ = .normal)
    (h:∃ x,(Qd Tryz.prog S_ Tryz.f147.results.toList).1 ∧ resD (Qd Tryz.prog S_ Tryz.f147.results.toList).2.1 = Wv x ∧ zacx bs s u x) :
    retR Tryz.prog Tryz.f147 (fun c=>(Wv (zaeb bs s u c),fun _=>none)) e_ S_:=by
  obtain ⟨x,h1,h2,h3⟩:=h
  exact l7Fulfils_ret _ _ _ x he_ ⟨h1,h2⟩ h3
set_option maxHeartbeats 8000000 in
theorem l7Fulfils_pure (bs:List Tree) (s:Int) (u:Int) (hA:AllW bs) (h0:0 ≤ u) (h1:u < bs.length) (hk:(nth bs u.toNat).k = 7):PureR Tryz.prog 147 [li cX bs,.int .i64 s,.int .i64 u] (fun c=>Wv (zaeb bs s u c)):=by
  refine PureR.of_walk Tryz.func147 rfl (by simp [Tryz.f147]) (fun c=>by simp [-zd,go_sem]) fun B hK=>?_
  have hul:u.toNat < bs.length:=(by omega);obtain ⟨⟨uk,uv,us⟩,hu⟩:∃ x,nth bs u.toNat = x:=⟨_,rfl⟩;have hw:WellF (.mk uk uv us):=(by rw [← hu];exact hA.at hul);have hk7:uk = 7:=(by rw [hu] at hk;exact hk);have ql:=hw.ks2 (by omega) (by omega) (by omega) (by omega) (by omega) (by omega);have qj:1 < us.length:=(by omega);have qk:0 < us.length:=(by omega);have qx:=(hw.at.2.2.2 1 qj).valu
  all_goals (repeat' (first
 | refine Qt ?_
 | refine Qc (id:=1) Γy18_ok [11] (by kernel_rfl) ?_;simp [-zg,-zd,↓Qb,↓Qa,go_sem,hul,Qk hul,zsP hul,h0,h1,hu,qk,Qk qk,zsP qk,qj,(show 3 ≤ us.length * 3 by omega),(show (cat cX us).drop 3 = cat cX (us.drop 1) from Vb (f:=cX) (sz:=3) us 1),(show 3 ≤ us.length * 3 - 3 by omega),(show 3 ≤ (us.length - 1) * 3 by omega),(show (1:Int) < (us.length:Int) by omega),zsP qj,Tree.eta,qx];try (refine ⟨fun s1a=>?_,fun s1a=>?_⟩ <;> (try simp [B_iff,B_not] at s1a) <;> try (refine ⟨fun s1b=>?_,fun s1b=>?_⟩ <;> (try simp [B_iff,B_not] at s1b)))
 | (refine Qe ?_)
 | (refine Qs ?_;simp [-zg,-zd,↓Qb,↓Qa,go_sem])
 | (refine Qr ?_;simp [-zg,-zd,↓Qb,↓Qa,go_sem])
 | (refine Qq ?_;try simp [-zg,-zd,↓Qb,↓Qa,go_sem,Tryz.results147])
 | (intro hx;refine zA ?_)
 | (intro hx;change retR _ _ _ _ _)
 | (refine ⟨?_,?_⟩ <;> refine zA ?_)
 | (intro hx;constructor <;> intro hs)
 | (constructor <;> intro hs)
 | (refine ⟨?_,fun hs=>?_⟩;refine zA ?_)
 | (refine ⟨fun hs=>?_,?_⟩;rotate_left;refine zA ?_;rotate_left)
 | (refine Qc Γy18_ok [] (by kernel_rfl) ?_;simp [-zg,-zd,↓Qb,↓Qa,go_sem])
 | fail))
  all_goals (first
 | (refine zalc _ _ _ ?_ ?_;(first | exact Or.inl rfl | exact Or.inr rfl);(simp [-zg,-zd,↓Qb,↓Qa,go_sem,Tryz.results147,zacx]);((trivial);done))
 | (refine zalc _ _ _ ?_ ?_;(first | exact Or.inl rfl | exact Or.inr rfl);(simp [-zg,-zd,↓Qb,↓Qa,go_sem,Tryz.results147,zacx];done))
 | skip)
@[go_sem] def zaqo:Con:=.prel fun
  | [.list n_bs c_bs,.int .i64 s,.int .i64 u]=>((Is cX n_bs c_bs) ∧ (AllW (de cX c_bs)) ∧ (0 ≤ u) ∧ (u < (de cX c_bs).length) ∧ ((nth (de cX c_bs) u.toNat).k = 7),fun c=>Wv (zaeb (de cX c_bs) s u c))
  | _=>(False,fun _=>.any)
theorem l7FulfilsC_ok:ConOk Tryz.prog 147 zaqo:=by
  refine ⟨Qo Tryz.func147 (by decide) rfl,fun args h=>?_⟩
  revert h
  dsimp only
  split
  · intro h
    obtain ⟨⟨bs,rfl,rfl⟩,hA,h0,h1,hk⟩:=h
    try simp only [Qm] at *
    exact ⟨l7Fulfils_pure bs _ _ hA h0 h1 hk,fun c=>by simp [go_sem]⟩
  · intro h
    exact h.elim
@[go_sem] def Γy19:FuncId → Con:=ext Γy18 147 zaqo
theorem zajr:∀ g,ConOk Tryz.prog g (Γy19 g):=Qn Γy18_ok l7FulfilsC_ok

theorem bitsD_le (x y:Int):bitsD .or .i64 x y ≤ 9223372036854775807:=by
  show IntKind.i64.wrap _ ≤ _
  unfold IntKind.wrap;simp [IntKind.bits,IntKind.signed];split <;> omega

@[go_sem] def zadq:Int × Int → D:=fun x=>.tup [.int .i64 x.1,.int .i64 x.2]
def zaco (bs:List Tree) (s:Int):Int × Int → Prop:=fun x=>x.2 ≤ 9223372036854775807
def zafc (bs:List Tree) (s:Int) (c:Any):Int × Int:=sel (zaco bs s) ((0,0)) c
theorem l7Letter_ok (bs:List Tree) (s:Int) (hA:AllW bs) (c:Any):zaco bs s (zafc bs s c):=Xl (p:=zaco bs s) (x0:=(0,0)) (by simp [zaco]) c
theorem l7Letter_ret (bs:List Tree) (s:Int) {e_:Exit} {S_:St} (x:Int × Int) (he_:e_ = .ret ∨ e_ = .normal)
    (h1:(Qd Tryz.prog S_ Tryz.f108.results.toList).1 ∧ resD (Qd Tryz.prog S_ Tryz.f108.results.toList).2.1 = zadq x) (hg:zaco bs s x) :
    retR Tryz.prog Tryz.f108 (fun c=>(zadq (zafc bs s c),fun _=>none)) e_ S_:=Xi (enc:=zadq) x he_ h1 hg
set_option maxHeartbeats 8000000 in
theorem l7Letter_pure (bs:List Tree) (s:Int) (hA:AllW bs):PureR Tryz.prog 108 [li cX bs,.int .i64 s] (fun c=>zadq (zafc bs s c)):=by
  refine PureR.of_walk Tryz.func108 rfl (by simp [Tryz.f108]) (fun c=>by simp [-zd,go_sem]) fun B hK=>?_
  (repeat' (first
 | refine Qt ?_
 | (refine Jb 0 rfl fun hm=>?_);refine Qc (id:=3) zajr [] (by kernel_rfl) ?_;simp [-zg,-zd,↓Qb,↓Qa,go_sem]
 | ((obtain ⟨⟨uk,uv,us⟩,hu⟩:∃ u,nth bs q.1 = u:=⟨_,rfl⟩);(have hw:WellF (.mk uk uv us):=(by rw [← hu];exact hA.at c12));(have hv:=hw.at);(obtain ⟨v1,v2,v3,v4⟩:=hv));refine Qc (id:=6) zajr [] (by kernel_rfl) ?_;simp [-zg,-zd,↓Qb,↓Qa,go_sem,c12,Qk c12,zsP c12,hu]
 | refine Qc (id:=7) zajr [] (by kernel_rfl) ?_;simp [-zg,-zd,↓Qb,↓Qa,go_sem,c12,Qk c12,zsP c12,hu,wrapu_nn uv];try ((generalize bitsD BinOp.or IntKind.i64 q.2.1 (IntKind.i64.wrap (2 ^ min (IntKind.u64.wrap uv).toNat 64)) = cr at *))
 | refine Qc (id:=9) zajr [] (by kernel_rfl) ?_;simp [-zg,-zd,↓Qb,↓Qa,go_sem,c12,Qk c12,zsP c12,hu,wrapu_nn uv];try ((have h9:=bitsD_le q.2.2 (IntKind.i64.wrap (2 ^ min (IntKind.u64.wrap uv).toNat 64)));(generalize bitsD BinOp.or IntKind.i64 q.2.2 (IntKind.i64.wrap (2 ^ min (IntKind.u64.wrap uv).toNat 64)) = vr at *))
 | refine Qc (id:=5) zajr [] (by kernel_rfl) ?_;simp [-zg,-zd,↓Qb,↓Qa,go_sem,wrapS (k:=q.1) (by omega)]
 | refine Qj (c:=.tmp 12) ?_;simp [-zg,-zd,↓Qb,↓Qa,go_sem];try first | (refine ⟨?_,?_⟩ <;> refine zA ?_) | (refine ⟨fun c12=>?_,fun c12=>?_⟩ <;> (try simp [B_iff,B_not] at c12))
 | (refine Qe (id:=0) (Qw (ι:=Nat × Int × Int) (fun q:Nat × Int × Int=>⟨(upd (upd (upd (upd (upd (fun _=>.any) 0 (li cX bs)) 1 (.int .i64 s)) 6 (.int .i64 q.2.1)) 7 (.int .i64 q.2.2)) 8 (.int .i64 q.1)),fun _=>none⟩) (fun q=>q.1 ≤ bs.length ∧ q.2.2 ≤ 9223372036854775807) (fun q=>bs.length - q.1) ((0,0,0)) ?_ ?_ ?_);exact ⟨Nat.zero_le _,by dsimp only;omega⟩;((repeat' (first | exact Qg (by assumption) | exact Qi | refine Qf ?_ ?_ | refine Qh ?_)) <;> simp [-zg,-zd,↓Qb,↓Qa,go_sem]);rintro q ⟨g1,g2⟩)
 | (refine ⟨(q.1 + 1,cr,vr),⟨by dsimp only;omega,h9⟩,by first | omega | (simp;done) | (simp;omega),?_⟩;((repeat' (first | exact Qg (by assumption) | exact Qi | refine Qf ?_ ?_ | refine Qh ?_)) <;> simp [-zg,-zd,↓Qb,↓Qa,go_sem]))
 | (refine Qe ?_)
 | (refine Qs ?_;simp [-zg,-zd,↓Qb,↓Qa,go_sem])
 | (refine Qr ?_;simp [-zg,-zd,↓Qb,↓Qa,go_sem])
 | (refine Qq ?_;try simp [-zg,-zd,↓Qb,↓Qa,go_sem,Tryz.results108])
 | (intro hx;refine zA ?_)
 | (intro hx;change retR _ _ _ _ _)
 | (refine ⟨?_,?_⟩ <;> refine zA ?_)
 | (intro hx;constructor <;> intro hs)
 | (constructor <;> intro hs)
 | (refine ⟨?_,fun hs=>?_⟩;refine zA ?_)
 | (refine ⟨fun hs=>?_,?_⟩;rotate_left;refine zA ?_;rotate_left)
 | ((fail_if_success change retR _ _ _ _ _);(refine ⟨(q.1 + 1,cr,q.2.2),⟨by dsimp only;omega,g2⟩,by dsimp only;omega,?_⟩;((repeat' (first | exact Qg (by assumption) | exact Qi | refine Qf ?_ ?_ | refine Qh ?_)) <;> simp [-zg,-zd,go_sem]);done))
 | ((fail_if_success change retR _ _ _ _ _);(refine ⟨(q.1 + 1,q.2.1,q.2.2),⟨by dsimp only;omega,g2⟩,by dsimp only;omega,?_⟩;((repeat' (first | exact Qg (by assumption) | exact Qi | refine Qf ?_ ?_ | refine Qh ?_)) <;> simp [-zg,-zd,go_sem]);done))
 | (refine Qj ?_;simp [-zg,-zd,↓Qb,↓Qa,go_sem];try first | (refine ⟨?_,?_⟩ <;> refine zA ?_) | (refine ⟨fun cz=>?_,fun cz=>?_⟩ <;> (try simp [B_iff,B_not] at cz)))
 | (refine Qc zajr [] (by kernel_rfl) ?_;simp [-zg,-zd,↓Qb,↓Qa,go_sem])
 | fail))
  all_goals (first
 | (refine l7Letter_ret _ _ ((q.2.1,q.2.2)) ?_ ?_ ?_;(first | exact Or.inl rfl | exact Or.inr rfl);(focus (simp [-zg,-zd,↓Qb,↓Qa,go_sem,Tryz.results108];done));(focus ((exact g2);done)))
 | skip)
@[go_sem] def l7LetterC:Con:=.prel fun
  | [.list n_bs c_bs,.int .i64 s]=>((Is cX n_bs c_bs) ∧ (AllW (de cX c_bs)),fun c=>zadq (zafc (de cX c_bs) s c))
  | _=>(False,fun _=>.any)
theorem l7LetterC_ok:ConOk Tryz.prog 108 l7LetterC:=by
  refine ⟨Qo Tryz.func108 (by decide) rfl,fun args h=>?_⟩
  revert h
  dsimp only
  split
  · intro h
    obtain ⟨⟨bs,rfl,rfl⟩,hA⟩:=h
    try simp only [Qm] at *
    exact ⟨l7Letter_pure bs _ hA,fun c=>by simp [go_sem]⟩
  · intro h
    exact h.elim
@[go_sem] def Γy20:FuncId → Con:=ext Γy19 108 l7LetterC
theorem zapc:∀ g,ConOk Tryz.prog g (Γy20 g):=Qn zajr l7LetterC_ok

def UntOk (bs:List Tree) (us:List Int):Prop:=us.length ≤ bs.length ∧ ∀ u,u ∈ us → 0 ≤ u ∧ u < bs.length ∧ (nth bs u.toNat).k = 7
theorem UntOk.nil (bs:List Tree):UntOk bs []:=⟨by simp,fun u h=>nomatch h⟩
def UntK (bs:List Tree) (us:List Int) (k:Nat):Prop:=us.length ≤ k ∧ ∀ u,u ∈ us → 0 ≤ u ∧ u < bs.length ∧ (nth bs u.toNat).k = 7
theorem UntK.snoc {bs:List Tree} {us:List Int} {k:Nat} (h:UntK bs us k) (hk:k < bs.length) (e:(nth bs k).k = 7):UntK bs (us ++ [(k:Int)]) (k + 1):=by
  refine ⟨by have:=h.1;simp;omega,fun u hu=>?_⟩
  rcases List.mem_append.1 hu with q | q
  · exact h.2 u q
  · have:u = (k:Int):=by simpa using q
    subst this
    exact ⟨by omega,by omega,by rw [Int.toNat_natCast];exact e⟩
theorem UntK.skip {bs:List Tree} {us:List Int} {k:Nat} (h:UntK bs us k):UntK bs us (k + 1):=⟨by have:=h.1;omega,h.2⟩

@[go_sem] def zadp:List Int → D:=fun x=>fr 1 cI x
def zaea (bs:List Tree):List Int → Prop:=fun x=>UntOk bs x
def zafa (bs:List Tree) (c:Any):List Int:=sel (zaea bs) ([]) c
theorem l7Untils_ok (bs:List Tree) (hl:bs.length ≤ 1000) (c:Any):zaea bs (zafa bs c):=Xl (p:=zaea bs) (x0:=[]) (UntOk.nil bs) c
theorem l7Untils_ret (bs:List Tree) {e_:Exit} {S_:St} (x:List Int) (he_:e_ = .ret ∨ e_ = .normal)
    (h1:(Qd Tryz.prog S_ Tryz.f105.results.toList).1 ∧ resD (Qd Tryz.prog S_ Tryz.f105.results.toList).2.1 = zadp x) (hg:zaea bs x) :
    retR Tryz.prog Tryz.f105 (fun c=>(zadp (zafa bs c),fun _=>none)) e_ S_:=Xi (enc:=zadp) x he_ h1 hg
set_option maxHeartbeats 8000000 in
theorem l7Untils_pure (bs:List Tree) (hl:bs.length ≤ 1000):PureR Tryz.prog 105 [li cX bs] (fun c=>zadp (zafa bs c)):=by
  refine PureR.of_walk Tryz.func105 rfl (by simp [Tryz.f105]) (fun c=>by simp [-zd,go_sem]) fun B hK=>?_
  (repeat' (first
 | refine Qt ?_
 | ((have g3:=g2.1);(obtain ⟨⟨uk,uv,us⟩,hu⟩:∃ u,nth bs q.1 = u:=⟨_,rfl⟩));refine Qc (id:=5) zapc [] (by kernel_rfl) ?_;simp [-zg,-zd,↓Qb,↓Qa,go_sem,c9,Qk c9,zsP c9,hu]
 | refine Qc (id:=6) zapc [] (by kernel_rfl) ?_;simp [-zg,-zd,↓Qb,↓Qa,go_sem,(show q.2.length ≤ 9223372036854775806 by omega),(show 2 * (q.2.length + 1) * 8 ≤ 281474976710656 by omega),Vd];try ((have o4:=g2.snoc c9 (by rw [hu];simp only [Tree.k];omega));(have o3:(q.2 ++ [(q.1:Int)]).length = q.2.length + 1:=(by simp));(rw [← o3]);(generalize q.2 ++ [(q.1:Int)] = o2 at *))
 | refine Qc (id:=4) zapc [] (by kernel_rfl) ?_;simp [-zg,-zd,↓Qb,↓Qa,go_sem,wrapS (k:=q.1) (by omega)]
 | refine Qj (c:=.tmp 9) ?_;simp [-zg,-zd,↓Qb,↓Qa,go_sem];try first | (refine ⟨?_,?_⟩ <;> refine zA ?_) | (refine ⟨fun c9=>?_,fun c9=>?_⟩ <;> (try simp [B_iff,B_not] at c9))
 | (refine Qe (id:=0) (Qw (ι:=Nat × List Int) (fun q:Nat × List Int=>⟨(upd (upd (upd (fun _=>.any) 0 (li cX bs)) 3 (.fr 1 q.2.length (cat cI q.2))) 4 (.int .i64 q.1)),fun _=>none⟩) (fun q=>q.1 ≤ bs.length ∧ UntK bs q.2 q.1) (fun q=>bs.length - q.1) ((0,[])) ?_ ?_ ?_);exact ⟨Nat.zero_le _,Nat.le_refl _,fun u h=>nomatch h⟩;((repeat' (first | exact Qg (by assumption) | exact Qi | refine Qf ?_ ?_ | refine Qh ?_)) <;> simp [-zg,-zd,↓Qb,↓Qa,go_sem,List.length_nil,Xb]);rintro q ⟨g1,g2⟩)
 | (refine ⟨(q.1 + 1,o2),⟨by dsimp only;omega,o4⟩,by first | omega | (simp;done) | (simp;omega),?_⟩;((repeat' (first | exact Qg (by assumption) | exact Qi | refine Qf ?_ ?_ | refine Qh ?_)) <;> simp [-zg,-zd,↓Qb,↓Qa,go_sem,List.length_nil,Xb]))
 | (refine Qe ?_)
 | (refine Qs ?_;simp [-zg,-zd,↓Qb,↓Qa,go_sem])
 | (refine Qr ?_;simp [-zg,-zd,↓Qb,↓Qa,go_sem])
 | (refine Qq ?_;try simp [-zg,-zd,↓Qb,↓Qa,go_sem,Tryz.results105])
 | (intro hx;refine zA ?_)
 | (intro hx;change retR _ _ _ _ _)
 | (refine ⟨?_,?_⟩ <;> refine zA ?_)
 | (intro hx;constructor <;> intro hs)
 | (constructor <;> intro hs)
 | (refine ⟨?_,fun hs=>?_⟩;refine zA ?_)
 | (refine ⟨fun hs=>?_,?_⟩;rotate_left;refine zA ?_;rotate_left)
 | ((fail_if_success change retR _ _ _ _ _);(refine ⟨(q.1 + 1,q.2),⟨by dsimp only;omega,g2.skip⟩,by dsimp only;omega,?_⟩;((repeat' (first | exact Qg (by assumption) | exact Qi | refine Qf ?_ ?_ | refine Qh ?_)) <;> simp [-zg,-zd,go_sem]);done))
 | (refine Qj ?_;simp [-zg,-zd,↓Qb,↓Qa,go_sem];try first | (refine ⟨?_,?_⟩ <;> refine zA ?_) | (refine ⟨fun cz=>?_,fun cz=>?_⟩ <;> (try simp [B_iff,B_not] at cz)))
 | (refine Qc zapc [] (by kernel_rfl) ?_;simp [-zg,-zd,↓Qb,↓Qa,go_sem])
 | fail))
  all_goals (first
 | (refine l7Untils_ret _ (q.2) ?_ ?_ ?_;(first | exact Or.inl rfl | exact Or.inr rfl);(focus (simp [-zg,-zd,↓Qb,↓Qa,go_sem,Tryz.results105,li,fr];done));(focus (((show UntOk bs q.2);exact ⟨by have:=g2.1;omega,g2.2⟩);done)))
 | skip)
@[go_sem] def l7UntilsC:Con:=.prel fun
  | [.list n_bs c_bs]=>((Is cX n_bs c_bs) ∧ ((de cX c_bs).length ≤ 1000),fun c=>zadp (zafa (de cX c_bs) c))
  | _=>(False,fun _=>.any)
theorem l7UntilsC_ok:ConOk Tryz.prog 105 l7UntilsC:=by
  refine ⟨Qo Tryz.func105 (by decide) rfl,fun args h=>?_⟩
  revert h
  dsimp only
  split
  · intro h
    obtain ⟨⟨bs,rfl,rfl⟩,hl⟩:=h
    try simp only [Qm] at *
    exact ⟨l7Untils_pure bs hl,fun c=>by simp [go_sem]⟩
  · intro h
    exact h.elim
@[go_sem] def Γy21:FuncId → Con:=ext Γy20 105 l7UntilsC
theorem Γy21_ok:∀ g,ConOk Tryz.prog g (Γy21 g):=Qn zapc l7UntilsC_ok

def PhOk (us:List Int) (ph:Int):Prop:=0 ≤ ph ∧ ph ≤ 1000 ∧ (us.length = 0 ∨ ph < us.length)
theorem PhOk.zero (us:List Int):PhOk us 0:=⟨by omega,by omega,by omega⟩
theorem PhOk.next {us:List Int} {ph:Int} (h:PhOk us ph) (hl:us.length ≤ 1000) (hn:¬ us.length = 0):PhOk us ((ph + 1).tmod us.length):=by
  obtain ⟨h1,h2,h3⟩:=h
  have a:=Int.tmod_nonneg (a:=ph + 1) (us.length:Int) (by omega)
  have b:=Int.tmod_lt_of_pos (ph + 1) (b:=(us.length:Int)) (by omega)
  exact ⟨a,by omega,.inr b⟩

@[go_sem] def zaeo:Int × Bool → D:=fun x=>.tup [.int .i64 x.1,.bool x.2]
def zafb (bs:List Tree) (us:List Int) (s:Int) (ph:Int):Int × Bool → Prop:=fun x=>PhOk us x.1
def zagi (bs:List Tree) (us:List Int) (s:Int) (ph:Int) (c:Any):Int × Bool:=sel (zafb bs us s ph) ((0,true)) c
theorem l7Phase_ok (bs:List Tree) (us:List Int) (s:Int) (ph:Int) (hA:AllW bs) (hU:UntOk bs us) (hp:PhOk us ph) (hl:us.length ≤ 1000) (c:Any):zafb bs us s ph (zagi bs us s ph c):=Xl (p:=zafb bs us s ph) (x0:=(0,true)) (PhOk.zero us) c
theorem zamq (bs:List Tree) (us:List Int) (s:Int) (ph:Int) {e_:Exit} {S_:St} (x:Int × Bool) (he_:e_ = .ret ∨ e_ = .normal)
    (h1:(Qd Tryz.prog S_ Tryz.f107.results.toList).1 ∧ resD (Qd Tryz.prog S_ Tryz.f107.results.toList).2.1 = zaeo x) (hg:zafb bs us s ph x) :
    retR Tryz.prog Tryz.f107 (fun c=>(zaeo (zagi bs us s ph c),fun _=>none)) e_ S_:=Xi (enc:=zaeo) x he_ h1 hg
set_option maxHeartbeats 8000000 in
theorem l7Phase_pure (bs:List Tree) (us:List Int) (s:Int) (ph:Int) (hA:AllW bs) (hU:UntOk bs us) (hp:PhOk us ph) (hl:us.length ≤ 1000):PureR Tryz.prog 107 [li cX bs,li cI us,.int .i64 s,.int .i64 ph] (fun c=>zaeo (zagi bs us s ph c)):=by
  refine PureR.of_walk Tryz.func107 rfl (by simp [Tryz.f107]) (fun c=>by simp [-zd,go_sem]) fun B hK=>?_
  obtain ⟨p1,p2,p3⟩:=id hp
  all_goals (repeat' (first
 | refine Qt ?_
 | ((have hn:¬ us.length = 0:=(fun h=>c12 (List.length_eq_zero_iff.1 h)));(have hpl:ph.toNat < us.length:=(by omega));(obtain ⟨u0,u1,u2⟩:=hU.2 (nth us ph.toNat) (Xz hpl)));refine Qc (id:=3) Γy21_ok [] (by kernel_rfl) ?_;simp [-zg,-zd,↓Qb,↓Qa,go_sem,hpl,Qk hpl,zsP hpl,p1,(show ph < (us.length:Int) by omega),hA,u0,u1,u2];try ((intro c3);(generalize zaeb bs s (nth us ph.toNat) c3 = zf at *))
 | refine Qc (id:=4) Γy21_ok [] (by kernel_rfl) ?_;simp [-zg,-zd,↓Qb,↓Qa,go_sem,Xa (x:=ph + 1) (by omega) (by omega),hn,(show ¬ us = [] by rintro rfl;simp at hn)]
 | refine Qj (c:=.tmp 12) ?_;simp [-zg,-zd,↓Qb,↓Qa,go_sem];try first | (refine ⟨?_,?_⟩ <;> refine zA ?_) | (refine ⟨fun c12=>?_,fun c12=>?_⟩ <;> (try simp [B_iff,B_not] at c12))
 | (refine Qe ?_)
 | (refine Qs ?_;simp [-zg,-zd,↓Qb,↓Qa,go_sem])
 | (refine Qr ?_;simp [-zg,-zd,↓Qb,↓Qa,go_sem])
 | (refine Qq ?_;try simp [-zg,-zd,↓Qb,↓Qa,go_sem,Tryz.results107])
 | (intro hx;refine zA ?_)
 | (intro hx;change retR _ _ _ _ _)
 | (refine ⟨?_,?_⟩ <;> refine zA ?_)
 | (intro hx;constructor <;> intro hs)
 | (constructor <;> intro hs)
 | (refine ⟨?_,fun hs=>?_⟩;refine zA ?_)
 | (refine ⟨fun hs=>?_,?_⟩;rotate_left;refine zA ?_;rotate_left)
 | (refine Qj ?_;simp [-zg,-zd,↓Qb,↓Qa,go_sem];try first | (refine ⟨?_,?_⟩ <;> refine zA ?_) | (refine ⟨fun cz=>?_,fun cz=>?_⟩ <;> (try simp [B_iff,B_not] at cz)))
 | (refine Qc Γy21_ok [] (by kernel_rfl) ?_;simp [-zg,-zd,↓Qb,↓Qa,go_sem])
 | fail))
  all_goals (first
 | (refine zamq _ _ _ _ ((0,true)) ?_ ?_ ?_;(first | exact Or.inl rfl | exact Or.inr rfl);(focus (simp [-zg,-zd,↓Qb,↓Qa,go_sem,Tryz.results107];done));(focus ((exact PhOk.zero us);done)))
 | (refine zamq _ _ _ _ (((ph + 1).tmod us.length,decide (ph = 0))) ?_ ?_ ?_;(first | exact Or.inl rfl | exact Or.inr rfl);(focus (simp [-zg,-zd,↓Qb,↓Qa,go_sem,Tryz.results107];done));(focus ((exact hp.next hl hn);done)))
 | (refine zamq _ _ _ _ ((ph,false)) ?_ ?_ ?_;(first | exact Or.inl rfl | exact Or.inr rfl);(focus (simp [-zg,-zd,↓Qb,↓Qa,go_sem,Tryz.results107];done));(focus ((exact hp);done)))
 | skip)
@[go_sem] def l7PhaseC:Con:=.prel fun
  | [.list n_bs c_bs,.list n_us c_us,.int .i64 s,.int .i64 ph]=>((Is cX n_bs c_bs) ∧ (Is cI n_us c_us) ∧ (AllW (de cX c_bs)) ∧ (UntOk (de cX c_bs) (de cI c_us)) ∧ (PhOk (de cI c_us) ph) ∧ ((de cI c_us).length ≤ 1000),fun c=>zaeo (zagi (de cX c_bs) (de cI c_us) s ph c))
  | _=>(False,fun _=>.any)
theorem l7PhaseC_ok:ConOk Tryz.prog 107 l7PhaseC:=by
  refine ⟨Qo Tryz.func107 (by decide) rfl,fun args h=>?_⟩
  revert h
  dsimp only
  split
  · intro h
    obtain ⟨⟨bs,rfl,rfl⟩,⟨us,rfl,rfl⟩,hA,hU,hp,hl⟩:=h
    try simp only [Qm] at *
    exact ⟨l7Phase_pure bs us _ _ hA hU hp hl,fun c=>by simp [go_sem]⟩
  · intro h
    exact h.elim
@[go_sem] def Γy22:FuncId → Con:=ext Γy21 107 l7PhaseC
theorem Γy22_ok:∀ g,ConOk Tryz.prog g (Γy22 g):=Qn Γy21_ok l7PhaseC_ok

@[go_sem] def Γy22x:FuncId → Con:=ext Γy22 148 zahd
theorem zagx:∀ g,ConOk Tryz.prog g (Γy22x g):=Qn Γy22_ok zajq

@[go_sem] def zaep:List (List Int) × Int → D:=fun x=>.tup [.fr 1 x.1.length (cat cL x.1),.int .i64 x.2]
def zagj (xs:List (List Int)) (pr:List Int):List (List Int) × Int → Prop:=fun x=>(x.1 = xs ∨ x.1 = xs ++ [pr])
def zaic (xs:List (List Int)) (pr:List Int) (c:Any):List (List Int) × Int:=sel (zagj xs pr) ((xs,0)) c
theorem l7Pair_ok (xs:List (List Int)) (pr:List Int) (hn:xs.length ≤ 100000) (c:Any):zagj xs pr (zaic xs pr c):=Xl (p:=zagj xs pr) (x0:=(xs,0)) (.inl rfl) c
theorem l7Pair_ret (xs:List (List Int)) (pr:List Int) {e_:Exit} {S_:St} (x:List (List Int) × Int) (he_:e_ = .ret ∨ e_ = .normal)
    (h1:(Qd Tryz.prog S_ Tryz.f110.results.toList).1 ∧ resD (Qd Tryz.prog S_ Tryz.f110.results.toList).2.1 = zaep x) (hg:zagj xs pr x) :
    retR Tryz.prog Tryz.f110 (fun c=>(zaep (zaic xs pr c),fun _=>none)) e_ S_:=Xi (enc:=zaep) x he_ h1 hg
set_option maxHeartbeats 8000000 in
theorem l7Pair_pure (xs:List (List Int)) (pr:List Int) (hn:xs.length ≤ 100000):SpecR Tryz.prog 110 [fr 1 cL xs,fr 1 cI pr] (fun _=>none) (fun c=>(zaep (zaic xs pr c),fun _=>none)):=by
  refine SpecR.of_walk Tryz.func110 rfl (by simp [Tryz.f110]) fun B=>?_
  (repeat' (first
 | refine Qt ?_
 | ((refine Qy 1 ?_);(simp only [go_sem,dat,Qz,Xx]);(refine Zb 0 rfl fun nb cp j hnb hcp hcj=>?_);(simp only [go_sem] at hnb ⊢);(clear hnb);(have e0:=Zf (f:=cL) xs (zrP j D.any)));refine Qc (id:=0) zagx [] (by kernel_rfl) ?_;simp [-zg,-zd,↓Qb,↓Qa,go_sem]
 | refine Qc (id:=4) zagx [] (by kernel_rfl) ?_;simp [-zg,-zd,↓Qb,↓Qa,go_sem,c10,Qk c10,zsP c10,(show i < xs.length + j by omega)]
 | ((refine Zz 0 (b:=nb) (all:=cat cL xs ++ zrP j D.any) rfl (by simp [upd]) (by omega) (by simp [Qv]) (by simp [Qv];omega) ?_));refine Qc (id:=5) zagx [] (by kernel_rfl) ?_;simp [-zg,-zd,↓Qb,↓Qa,go_sem]
 | refine Qc (id:=3) zagx [] (by kernel_rfl) ?_;simp [-zg,-zd,↓Qb,↓Qa,go_sem,wrapS (k:=i) (by omega)]
 | refine Qc (id:=6) zagx [] (by kernel_rfl) ?_;simp [-zg,-zd,↓Qb,↓Qa,go_sem,(show xs.length ≤ 9223372036854775806 by omega),(show 2 * (xs.length + 1) * 24 ≤ 281474976710656 by omega),(show cp ≤ xs.length + j by omega),hcj,(show xs.length ≤ xs.length + j by omega)]
 | refine Qj (c:=.tmp 10) ?_;simp [-zg,-zd,↓Qb,↓Qa,go_sem];try first | (refine ⟨?_,?_⟩ <;> refine zA ?_) | (refine ⟨fun c10=>?_,fun c10=>?_⟩ <;> (try simp [B_iff,B_not] at c10))
 | (refine Qe (id:=0) (Qw (ι:=Nat) (fun i:Nat=>⟨(upd (upd (upd (fun _=>.any) 0 (.sl nb 1 0 xs.length cp)) 1 (.list pr.length (cat cI pr))) 6 (.int .i64 i)),upd (fun _=>none) nb (some (cat cL xs ++ zrP j D.any))⟩) (fun i=>i ≤ xs.length) (fun i=>xs.length - i) (0) ?_ ?_ ?_);exact Nat.zero_le _;((repeat' (first | exact Qg (by assumption) | exact Qi | refine Qf ?_ ?_ | refine Qh ?_)) <;> simp [-zg,-zd,↓Qb,↓Qa,go_sem]);rintro i hi)
 | (refine ⟨i + 1,by omega,by first | omega | (simp;done) | (simp;omega),?_⟩;((repeat' (first | exact Qg (by assumption) | exact Qi | refine Qf ?_ ?_ | refine Qh ?_)) <;> simp [-zg,-zd,↓Qb,↓Qa,go_sem]))
 | (refine Qe ?_)
 | (refine Qs ?_;simp [-zg,-zd,↓Qb,↓Qa,go_sem])
 | (refine Qr ?_;simp [-zg,-zd,↓Qb,↓Qa,go_sem])
 | (refine Qq ?_;try simp [-zg,-zd,↓Qb,↓Qa,go_sem,Tryz.results110])
 | (intro hx;refine zA ?_)
 | (intro hx;change retR _ _ _ _ _)
 | (refine ⟨?_,?_⟩ <;> refine zA ?_)
 | (intro hx;constructor <;> intro hs)
 | (constructor <;> intro hs)
 | (refine ⟨?_,fun hs=>?_⟩;refine zA ?_)
 | (refine ⟨fun hs=>?_,?_⟩;rotate_left;refine zA ?_;rotate_left)
 | (refine Qj ?_;simp [-zg,-zd,↓Qb,↓Qa,go_sem];try first | (refine ⟨?_,?_⟩ <;> refine zA ?_) | (refine ⟨fun cz=>?_,fun cz=>?_⟩ <;> (try simp [B_iff,B_not] at cz)))
 | (refine Qc zagx [] (by kernel_rfl) ?_;simp [-zg,-zd,↓Qb,↓Qa,go_sem])
 | fail))
  all_goals (first
 | (refine l7Pair_ret _ _ ((xs,(i:Int))) ?_ ?_ ?_;(first | exact Or.inl rfl | exact Or.inr rfl);(focus (simp [-zg,-zd,↓Qb,↓Qa,go_sem,Tryz.results110,Zf];done));(focus ((exact .inl rfl);done)))
 | (refine l7Pair_ret _ _ ((xs ++ [pr],(xs.length:Int))) ?_ ?_ ?_;(first | exact Or.inl rfl | exact Or.inr rfl);(focus (simp [-zg,-zd,↓Qb,↓Qa,go_sem,Tryz.results110,Xk,Xg,li,cL];done));(focus ((exact .inr rfl);done)))
 | skip)
@[go_sem] def l7PairC:Con:=.rel fun args H=>match args with
  | [.fr 1 n_xs c_xs,.fr 1 n_pr c_pr]=>((Is cL n_xs c_xs) ∧ (Is cI n_pr c_pr) ∧ ((de cL c_xs).length ≤ 100000),fun c=>(zaep (zaic (de cL c_xs) (de cI c_pr) c),H))
  | _=>(False,fun _=>(.any,H))
theorem l7PairC_ok:ConOk Tryz.prog 110 l7PairC:=by
  refine ⟨Qo Tryz.func110 (by decide) rfl,fun args H h=>?_⟩
  revert h
  dsimp only
  split
  · intro h
    obtain ⟨⟨xs,rfl,rfl⟩,⟨pr,rfl,rfl⟩,hn⟩:=h
    try simp only [Qm] at *
    exact (SpecR.frame0 (l7Pair_pure xs pr hn) (H:=H))
  · intro h
    exact h.elim
@[go_sem] def Γy23:FuncId → Con:=ext Γy22x 110 l7PairC
theorem Xp:∀ g,ConOk Tryz.prog g (Γy23 g):=Qn zagx l7PairC_ok


section
variable {P:Program} {B:Base} {n:Nat} {S:St} {c:Code} {Q:Exit → St → Prop}
theorem AW_boxNils3 (t:Nat) (hT:S.T t = .box [.nil,.nil,.nil]) (h:AW P B n c Q ⟨upd S.T t (.box [.fr 1 0 [],.fr 1 0 [],.fr 4 0 []]),S.H⟩):AW P B n c Q S :=
  Yn t hT (fun μ I w vs f hr=>by
    simp only [RepL] at hr ⊢
    obtain ⟨v,vs',f1,f2,e1,e2,r1,v2,vs2,g1,g2,e3,e4,r2,v3,vs3,g3,g4,e5,e6,r3,r4⟩:=hr
    exact ⟨v,vs',f1,f2,e1,e2,Jw r1,v2,vs2,g1,g2,e3,e4,Jw r2,v3,vs3,g3,g4,e5,e6,Jw r3,r4⟩) (fun N hb=>by simp only [bndL,bnd];exact ⟨trivial,trivial,trivial,trivial⟩) h
theorem AW_matL (t:Nat) {ls:List (List Int)} {x y:Int} (hT:S.T t = .fr 1 (ls.length + 1) (cat cL ls ++ [.fr 1 2 [.int .i64 x,.int .i64 y]]))
    (h:∀ b cp k,S.H b = none → ls.length + 1 ≤ cp → cp ≤ ls.length + 1 + k → AW P B n c Q ⟨upd S.T t (.sl b 1 0 (ls.length + 1) cp),upd S.H b (some (cat cL (ls ++ [[x,y]]) ++ zrP k .any))⟩):AW P B n c Q S:=by
  refine Zb t hT fun b cp k hb h1 h2=>?_
  have hl:(cat cL ls).length = ls.length:=by rw [Qv];omega
  refine Yd b ls.length (all:=(cat cL ls ++ [.fr 1 2 [.int .i64 x,.int .i64 y]]) ++ zrP k .any) (d:=.fr 1 2 [.int .i64 x,.int .i64 y]) (by dsimp only;rw [Qu]) ?_ rfl ?_
  · rw [List.append_assoc,List.getElem?_append_right (by omega),hl,Nat.sub_self];rfl
  · have e:((cat cL ls ++ [D.fr 1 2 [.int .i64 x,.int .i64 y]]) ++ zrP k D.any).set ls.length (dat (.fr 1 2 [.int .i64 x,.int .i64 y])) = cat cL (ls ++ [[x,y]]) ++ zrP k .any:=by
      rw [List.append_assoc,Xk,Xg,List.append_assoc,List.set_append,if_neg (by omega),hl,Nat.sub_self];rfl
    rw [e]
    have e2:upd (upd S.H b (some (cat cL ls ++ [D.fr 1 2 [.int .i64 x,.int .i64 y]] ++ zrP k D.any))) b (some (cat cL (ls ++ [[x,y]]) ++ zrP k .any)) = upd S.H b (some (cat cL (ls ++ [[x,y]]) ++ zrP k .any)):=upd_upd ..
    dsimp only
    rw [e2]
    exact h b cp k hb h1 (by omega)
end
@[go_sem] theorem is_lit2 (x0 x1:Int):Is cI 2 [D.int .i64 x0,D.int .i64 x1] = True:=eq_true ⟨[x0,x1],rfl,rfl⟩
@[go_sem] theorem de_lit2 (x0 x1:Int):de cI [D.int .i64 x0,D.int .i64 x1] = [x0,x1]:=Qm (f:=cI) [x0,x1]
theorem snoc_cTy (xs:List Tr4) (a b c d:Int):cat cT xs ++ [.int .i64 a,.int .i64 b,.int .i64 c,.int .i64 d] = cat cT (xs ++ [(a,b,c,d)]):=by rw [Xk,Xg];rfl
def SmallT (xs:List Tr4):Prop:=∀ i,i < xs.length → (nth xs i).2.2.1 ≤ 9223372036854775807
theorem SmallT.nil:SmallT []:=fun i h=>by simp at h
theorem SmallT.snoc {xs:List Tr4} (h:SmallT xs) {e:Tr4} (he:e.2.2.1 ≤ 9223372036854775807):SmallT (xs ++ [e]):=fun i hi=>by
  rw [List.length_append,List.length_singleton] at hi
  by_cases q:i < xs.length
  · simp only [nth,List.getD_eq_getElem?_getD,List.getElem?_append_left q]
    have:=h i q
    simpa only [nth,List.getD_eq_getElem?_getD] using this
  · have:i = xs.length:=by omega
    subst this
    simp only [nth,List.getD_eq_getElem?_getD,List.getElem?_append_right (Nat.le_refl _),Nat.sub_self]
    exact he
def PairsOk (us:List Int) (ls:List (List Int)):Prop:=∀ p,p ∈ ls → ∃ s ph,p = [s,ph] ∧ PhOk us ph
theorem PairsOk.nil (us:List Int):PairsOk us []:=fun p h=>nomatch h
theorem PairsOk.snoc {us:List Int} {ls:List (List Int)} (h:PairsOk us ls) {s ph:Int} (hp:PhOk us ph):PairsOk us (ls ++ [[s,ph]]):=fun p hp2=>by
  rcases List.mem_append.1 hp2 with q | q
  · exact h p q
  · exact ⟨s,ph,by simpa using q,hp⟩
structure TA where
  ls:List (List Int)
  js:List Int
  qs:List Bool
  es:List Tr4
  nb:Nat
  cp:Nat
  j:Nat
  H:Hp
def TAi (ab:Nat) (us:List Int) (q:TA):Prop:=PairsOk us q.ls ∧ SmallT q.es ∧ ¬ q.nb = ab ∧ q.ls.length ≤ q.cp ∧ q.cp ≤ q.ls.length + q.j ∧ q.H ab = some [.fr 1 q.js.length (cat cI q.js),.fr 1 q.qs.length (cat cB q.qs),.fr 4 q.es.length (cat cT q.es)] ∧ q.H q.nb = some (cat cL q.ls ++ zrP q.j .any)
def T1 (ab:Nat) (us:List Int) (cn:Nat) (q:Nat × TA):Prop:=q.1 ≤ cn ∧ TAi ab us q.2 ∧ q.2.ls.length ≤ q.1 ∧ q.2.js.length ≤ q.1 ∧ q.2.qs.length = 0 ∧ q.2.es.length = 0
def T2 (ab:Nat) (us:List Int) (q:Nat × TA):Prop:=q.1 ≤ q.2.ls.length ∧ TAi ab us q.2 ∧ q.2.ls.length ≤ 96 ∧ q.2.js.length ≤ 32 ∧ q.2.qs.length = q.1 ∧ q.2.es.length ≤ q.1 * 32
def T3y (ab:Nat) (us:List Int) (cn:Nat) (i n0:Nat) (y:Nat × TA):Prop:=y.1 ≤ cn ∧ TAi ab us y.2 ∧ y.2.ls.length ≤ n0 + y.1 ∧ i + 1 ≤ y.2.ls.length ∧ y.2.js.length ≤ 32 ∧ y.2.qs.length = i + 1 ∧ y.2.es.length ≤ i * 32 + y.1
theorem pow_cn {n:Nat} (h:n ≤ 5):∃ cn:Nat,cn ≤ 32 ∧ IntKind.i64.wrap (2 ^ min (IntKind.u64.wrap (n:Int)).toNat 64) = (cn:Int):=by
  have:n = 0 ∨ n = 1 ∨ n = 2 ∨ n = 3 ∨ n = 4 ∨ n = 5:=by omega
  rcases this with e | e | e | e | e | e <;> subst e
  · exact ⟨1,by omega,by decide⟩
  · exact ⟨2,by omega,by decide⟩
  · exact ⟨4,by omega,by decide⟩
  · exact ⟨8,by omega,by decide⟩
  · exact ⟨16,by omega,by decide⟩
  · exact ⟨32,by omega,by decide⟩

@[go_sem] def zaam:(List Int × List Bool × List Tr4) × Bool → D:=fun x=>.tup [if x.2 = true then .st [fr 1 cI x.1.1,fr 1 cB x.1.2.1,fr 4 cT x.1.2.2] else .st [.nil,.nil,.nil],.bool x.2]
def zaal (k:Int) (v:Int) (ks:List Tree):(List Int × List Bool × List Tr4) × Bool → Prop:=fun x=>x.1.1.length ≤ 3000 ∧ x.1.2.1.length ≤ 3000 ∧ x.1.2.2.length ≤ 4000 ∧ SmallT x.1.2.2 ∧ (x.2 = false → x.1 = ([],[],[]))
def Jc (k:Int) (v:Int) (ks:List Tree) (c:Any):(List Int × List Bool × List Tr4) × Bool:=sel (zaal k v ks) ((([],[],[]),false)) c
theorem zafn (k:Int) (v:Int) (ks:List Tree)  (c:Any):zaal k v ks (Jc k v ks c):=Xl (p:=zaal k v ks) (x0:=(([],[],[]),false)) (⟨by simp,by simp,by simp,SmallT.nil,fun _=>rfl⟩) c
theorem zacj (k:Int) (v:Int) (ks:List Tree) {e_:Exit} {S_:St} (x:(List Int × List Bool × List Tr4) × Bool) (he_:e_ = .ret ∨ e_ = .normal)
    (h1:(Qd Tryz.prog S_ Tryz.f80.results.toList).1 ∧ resD (Qd Tryz.prog S_ Tryz.f80.results.toList).2.1 = zaam x) (hg:zaal k v ks x) :
    retR Tryz.prog Tryz.f80 (fun c=>(zaam (Jc k v ks c),fun _=>none)) e_ S_:=Xi (enc:=zaam) x he_ h1 hg
set_option maxHeartbeats 16000000 in
theorem zajl (k:Int) (v:Int) (ks:List Tree)  : SpecR Tryz.prog 80 [.st [.int .i64 k,.int .i64 v,li cX ks]] (fun _=>none) (fun c=>(zaam (Jc k v ks c),fun _=>none)):=by
  refine SpecR.of_walk Tryz.func80 rfl (by simp [Tryz.f80]) fun B=>?_
  (repeat' (first
 | refine Qt ?_
 | refine Qc (id:=0) Xp [] (by kernel_rfl) ?_;simp [-zg,-zd,↓Qb,↓Qa,go_sem];try (refine Qy 1 ?_;simp [go_sem])
 | refine Qc (id:=1) Xp [] (by kernel_rfl) ?_;simp [-zg,-zd,↓Qb,↓Qa,go_sem];try ((intro c1);(have z0:=zasp k v ks c1);(generalize zaek k v ks c1 = z1 at *);(obtain ⟨bs,okb⟩:=z1);(simp only [zaba] at z0);(obtain ⟨hb5,hA⟩:=z0))
 | refine Qc (id:=4) Xp [] (by kernel_rfl) ?_;simp [-zg,-zd,↓Qb,↓Qa,go_sem];try ((intro c4);(have z4:=zanx k v ks c4);(generalize zael k v ks c4 = z5 at *);(obtain ⟨⟨gk,gv,gs⟩,okc⟩:=z5);(simp only [Wq] at z4);(have hV:Valu (.mk gk gv gs):=(by rcases z4.2 with h | h;exact Valu.zero h;exact h.valu));(clear z4);(refine Qy 6 ?_);(simp [go_sem]))
 | refine Qc (id:=5) Xp [] (by kernel_rfl) ?_;simp [-zg,-zd,↓Qb,↓Qa,go_sem,wrapu_nn (bs.length:Int)];try ((obtain ⟨cn,hcn,ecn⟩:=pow_cn hb5);(rw [ecn]);(clear ecn))
 | refine Qc (id:=6) Xp [] (by kernel_rfl) ?_;simp [-zg,-zd,↓Qb,↓Qa,go_sem,(show bs.length ≤ 1000 by omega)];try ((intro c6);(have hU:=l7Untils_ok bs (by omega) c6);(simp only [zaea] at hU);(generalize zafa bs c6 = us at *);(have hul:us.length ≤ 1000:=(by have:=hU.1;omega));(refine Qy 9 ?_);(simp [go_sem,dat,Qz]))
 | ((refine AW_boxNils3 10 rfl ?_);(refine Xs 10 rfl fun ab hab=>?_);(refine Zb 11 rfl fun nb cp j hnb hcp hcj=>?_);(have hna:¬ nb = ab:=(by rintro rfl;simp [upd] at hnb));(clear hab hnb);(refine Qp (fun H1=>TAi ab us ⟨[],[],[],[],nb,cp,j,H1⟩) ⟨PairsOk.nil us,SmallT.nil,hna,Nat.zero_le _,by simpa using hcj,by simp [upd,zS hna,Xb],by simp [upd,Xb]⟩ fun H1 hT=>?_));refine Qc (id:=9) Xp [] (by kernel_rfl) ?_;simp [-zg,-zd,↓Qb,↓Qa,go_sem]
 | ((have hq1:=hq.1));refine Qc (id:=10) Xp [] (by kernel_rfl) ?_;simp [-zg,-zd,↓Qb,↓Qa,go_sem]
 | refine Qc (id:=12) Xp [] (by kernel_rfl) ?_;simp [-zg,-zd,↓Qb,↓Qa,go_sem,hV]
 | ((obtain ⟨i,zq⟩:=q);(obtain ⟨g1,g2,g3,g4,g5,g6⟩:=hq);(dsimp only at g1 g2 g3 g4 g5 g6);(obtain ⟨ls,js,qs,es,nb,cp,j,H0⟩:=zq);(dsimp only at *);(obtain ⟨t1,t2,t3,t4,t5,t6,t7⟩:=g2);(dsimp only at t1 t2 t3 t4 t5 t6 t7));refine Qc (id:=13) Xp [] (by kernel_rfl) ?_;simp [-zg,-zd,↓Qb,↓Qa,go_sem,t6,(show js.length ≤ 9223372036854775806 by omega),(show 2 * (js.length + 1) * 8 ≤ 281474976710656 by omega),Vd];try ((refine Qp (fun H1=>H1 ab = some [.fr 1 (js.length + 1) (cat cI (js ++ [(ls.length:Int)])),.fr 1 qs.length (cat cB qs),.fr 4 es.length (cat cT es)] ∧ H1 nb = some (cat cL ls ++ zrP j .any)) ⟨by simp [upd],by simp [upd,t3,t7]⟩ fun H2 ⟨u1,u2⟩=>?_))
 | refine Qc (id:=14) Xp [] (by kernel_rfl) ?_;simp [-zg,-zd,↓Qb,↓Qa,go_sem,u1,u2,t3,zS t3,(show ls.length ≤ 9223372036854775806 by omega),(show 2 * (ls.length + 1) * 24 ≤ 281474976710656 by omega),t5,(show ls.length ≤ ls.length + j by omega)];try ((refine AW_matL 11 (ls:=ls) (x:=(i:Int)) (y:=0) rfl fun nb2 cp2 j2 hn2 hc2 hj2=>?_);(have n2:¬ nb2 = ab:=(by rintro rfl;simp [upd,t3,zS t3,u1] at hn2));(refine Qp (fun H1=>TAi ab us ⟨ls ++ [[(i:Int),0]],js ++ [(ls.length:Int)],qs,es,nb2,cp2,j2,H1⟩) ⟨t1.snoc (PhOk.zero us),t2,n2,by simpa using hc2,by simpa using hj2,by simp [upd,n2,zS n2,t3,zS t3,u1],by simp [upd]⟩ fun H3 hT3=>?_);(have hl3:(ls ++ [[(i:Int),0]]).length = ls.length + 1:=(by simp));(have hz:T1 ab us cn (i + 1,⟨ls ++ [[(i:Int),0]],js ++ [(ls.length:Int)],qs,es,nb2,cp2,j2,H3⟩):=⟨by dsimp only;omega,hT3,by simp;omega,by simp;omega,g5,g6⟩);(rw [← hl3]);(obtain ⟨zz,hzz⟩:∃ zz:TA,zz = ⟨ls ++ [[(i:Int),0]],js ++ [(ls.length:Int)],qs,es,nb2,cp2,j2,H3⟩:=⟨_,rfl⟩);(rw [← hzz] at hz);(have z1:ls ++ [[(i:Int),0]] = zz.ls:=(by rw [hzz]));(have z2:nb2 = zz.nb:=(by rw [hzz]));(have z3:cp2 = zz.cp:=(by rw [hzz]));(have z4:H3 = zz.H:=(by rw [hzz]));(rw [z1,z2,z3,z4]);(clear hzz))
 | refine Qc (id:=11) Xp [] (by kernel_rfl) ?_;simp [-zg,-zd,↓Qb,↓Qa,go_sem,wrapS (k:=i) (by omega)]
 | refine Qc (id:=11) Xp [] (by kernel_rfl) ?_;simp [-zg,-zd,↓Qb,↓Qa,go_sem,wrapS (k:=q.1) (by omega)]
 | ((obtain ⟨i0,q1⟩:=q);(obtain ⟨g1,g2,g3,g4,g5,g6⟩:=hq);(dsimp only at *));refine Qc (id:=15) Xp [] (by kernel_rfl) ?_;simp [-zg,-zd,↓Qb,↓Qa,go_sem]
 | ((have hr1:=hr.1);(have hr3:=hr.2.2.1));refine Qc (id:=16) Xp [] (by kernel_rfl) ?_;simp [-zg,-zd,↓Qb,↓Qa,go_sem]
 | ((obtain ⟨i,rz⟩:=r);(obtain ⟨h1,h2,h3,h4,h5,h6⟩:=hr);(dsimp only at *);(obtain ⟨ls,js,qs,es,nb,cp,j,H0⟩:=rz);(dsimp only at *);(obtain ⟨t1,t2,t3,t4,t5,t6,t7⟩:=h2);(dsimp only at t1 t2 t3 t4 t5 t6 t7);(have hil:i < ls.length:=(by omega));(obtain ⟨s,ph,hp,hph⟩:=t1 (nth ls i) (Xz hil)));refine Qc (id:=20) Xp [] (by kernel_rfl) ?_;simp [-zg,-zd,↓Qb,↓Qa,go_sem,hil,Qk hil,zsP hil,t7,hp,(show nth [s,ph] 0 = s from rfl),(show i < ls.length + j by omega)]
 | refine Qc (id:=21) Xp [] (by kernel_rfl) ?_;simp [-zg,-zd,↓Qb,↓Qa,go_sem,hA,hU,hph,hul,(show nth [ph] 0 = ph from rfl),(show nth [s,ph] 1 = ph from rfl),hil,Qk hil,zsP hil,t7,hp,(show i < ls.length + j by omega)];try ((intro c21);(have h21:=l7Phase_ok bs us s ph hA hU hph hul c21);(simp only [zafb] at h21);(generalize zagi bs us s ph c21 = zp at *);(obtain ⟨ph2,ac⟩:=zp);(dsimp only at h21 ⊢))
 | refine Qc (id:=22) Xp [] (by kernel_rfl) ?_;simp [-zg,-zd,↓Qb,↓Qa,go_sem,t6,(show qs.length ≤ 9223372036854775806 by omega),(show 2 * (qs.length + 1) * 1 ≤ 281474976710656 by omega),(show 2 * (qs.length + 1) ≤ 281474976710656 by omega),snoc_cB];try ((refine Qp (fun H1=>H1 ab = some [.fr 1 js.length (cat cI js),.fr 1 (qs ++ [ac]).length (cat cB (qs ++ [ac])),.fr 4 es.length (cat cT es)] ∧ H1 nb = some (cat cL ls ++ zrP j .any)) ⟨by simp [upd],by simp [upd,t3,t7]⟩ fun H2 ⟨u1,u2⟩=>?_))
 | refine Qc (id:=23) Xp [] (by kernel_rfl) ?_;simp [-zg,-zd,↓Qb,↓Qa,go_sem,hA];try ((intro c23);(have h23:=l7Letter_ok bs s hA c23);(simp only [zaco] at h23);(generalize zafc bs s c23 = zl at *);(obtain ⟨care,vl⟩:=zl);(dsimp only at h23 ⊢))
 | ((have hy1:=hy.1));refine Qc (id:=25) Xp [] (by kernel_rfl) ?_;simp [-zg,-zd,↓Qb,↓Qa,go_sem]
 | refine Qc (id:=27) Xp [] (by kernel_rfl) ?_;simp [-zg,-zd,↓Qb,↓Qa,go_sem,hA];try ((intro c27);(generalize zaec bs s (y.1:Int) c27 = fb at *))
 | ((obtain ⟨e,yz⟩:=y);(obtain ⟨y1,y2,y3,y4,y5,y6,y7⟩:=hy);(dsimp only at *);(obtain ⟨ls2,js2,qs2,es2,nb2,cp2,j2,H4⟩:=yz);(dsimp only at *);(obtain ⟨w1,w2,w3,w4,w5,w6,w7⟩:=y2);(dsimp only at w1 w2 w3 w4 w5 w6 w7));refine Qc (id:=28) Xp [] (by kernel_rfl) ?_;simp [-zg,-zd,↓Qb,↓Qa,go_sem]
 | ((refine Zz 11 (b:=nb2) (sz:=1) (m:=ls2.length) (all:=cat cL ls2 ++ zrP j2 D.any) rfl w7 (by omega) (by simp [Qv]) (by simp [Qv];omega) ?_);(simp only [Nat.mul_one,Zf]));refine Qc (id:=29) Xp [] (by kernel_rfl) ?_;simp [-zg,-zd,↓Qb,↓Qa,go_sem,(show ls2.length ≤ 100000 by omega)];try ((intro c29);(have h29:=l7Pair_ok ls2 [(e:Int),ph2] (by omega) c29);(simp only [zagj] at h29);(generalize zaic ls2 [(e:Int),ph2] c29 = zq at *);(obtain ⟨ls3,ix⟩:=zq);(dsimp only at h29 ⊢);(have hl3:ls3.length ≤ ls2.length + 1 ∧ ls2.length ≤ ls3.length:=(by rcases h29 with h | h <;> rw [h] <;> simp));(have hP3:PairsOk us ls3:=(by rcases h29 with h | h;rw [h];exact w1;rw [h];exact w1.snoc h21));(refine Zb 11 rfl fun nb3 cp3 j3 hn3 hc3 hj3=>?_);(have n3:¬ nb3 = ab:=(by rintro rfl;simp [upd,w3,zS w3,w6] at hn3));(refine Qp (fun H1=>H1 ab = some [.fr 1 js2.length (cat cI js2),.fr 1 qs2.length (cat cB qs2),.fr 4 es2.length (cat cT es2)] ∧ H1 nb3 = some (cat cL ls3 ++ zrP j3 .any)) ⟨by simp [upd,n3,zS n3,w3,zS w3,w6],by simp [upd]⟩ fun H5 ⟨v1,v2⟩=>?_))
 | refine Qc (id:=30) Xp [] (by kernel_rfl) ?_;simp [-zg,-zd,↓Qb,↓Qa,go_sem,v1,(show es2.length ≤ 9223372036854775806 by omega),(show 2 * (es2.length + 1) * 32 ≤ 281474976710656 by omega),snoc_cTy];try ((have hl4:(es2 ++ [((i:Int),care,vl,ix)]).length = es2.length + 1:=(by simp));(refine Qp (fun H1=>TAi ab us ⟨ls3,js2,qs2,es2 ++ [((i:Int),care,vl,ix)],nb3,cp3,j3,H1⟩) ⟨hP3,w2.snoc h23,n3,(show ls3.length ≤ cp3 by omega),(show cp3 ≤ ls3.length + j3 by omega),by simp [upd],by simp [upd,n3,v2]⟩ fun H6 hT6=>?_);(have hz:T3y ab us cn i ls.length (e + 1,⟨ls3,js2,qs2,es2 ++ [((i:Int),care,vl,ix)],nb3,cp3,j3,H6⟩):=⟨by dsimp only;omega,hT6,by dsimp only;omega,by dsimp only;omega,y5,y6,by dsimp only;omega⟩);(obtain ⟨zz,hzz⟩:∃ zz:TA,zz = ⟨ls3,js2,qs2,es2 ++ [((i:Int),care,vl,ix)],nb3,cp3,j3,H6⟩:=⟨_,rfl⟩);(rw [← hzz] at hz);(have z1:ls3 = zz.ls:=(by rw [hzz]));(have z2:nb3 = zz.nb:=(by rw [hzz]));(have z3:cp3 = zz.cp:=(by rw [hzz]));(have z4:H6 = zz.H:=(by rw [hzz]));(rw [z1,z2,z3,z4]);(clear hzz))
 | refine Qc (id:=26) Xp [] (by kernel_rfl) ?_;simp [-zg,-zd,↓Qb,↓Qa,go_sem,wrapS (k:=e) (by omega)]
 | refine Qc (id:=26) Xp [] (by kernel_rfl) ?_;simp [-zg,-zd,↓Qb,↓Qa,go_sem,wrapS (k:=y.1) (by omega)]
 | ((obtain ⟨e,yz⟩:=y);(obtain ⟨y1,y2,y3,y4,y5,y6,y7⟩:=hy);(dsimp only at *);(have hyz:T2 ab us (i + 1,yz):=⟨by dsimp only;omega,y2,by dsimp only;omega,by dsimp only;omega,y6,by dsimp only;omega⟩));refine Qc (id:=17) Xp [] (by kernel_rfl) ?_;simp [-zg,-zd,↓Qb,↓Qa,go_sem,wrapS (k:=i) (by omega)]
 | ((obtain ⟨i,rz⟩:=r);(obtain ⟨h1,h2,h3,h4,h5,h6⟩:=hr);(dsimp only at *);(obtain ⟨ls,js,qs,es,nb,cp,j,H0⟩:=rz);(dsimp only at *);(obtain ⟨t1,t2,t3,t4,t5,t6,t7⟩:=h2);(dsimp only at t1 t2 t3 t4 t5 t6 t7));refine Qc (id:=31) Xp [] (by kernel_rfl) ?_;simp [-zg,-zd,↓Qb,↓Qa,go_sem]
 | refine Qc (id:=32) Xp [] (by kernel_rfl) ?_;simp [-zg,-zd,↓Qb,↓Qa,go_sem,t6];try ((refine Qp (fun H1=>H1 ab = some [.fr 1 js.length (cat cI js),.fr 1 [false].length (cat cB [false]),.fr 4 es.length (cat cT es)]) (by simp [upd,Xg,cB]) fun H2 u1=>?_))
 | refine Qc (id:=33) Xp [] (by kernel_rfl) ?_;simp [-zg,-zd,↓Qb,↓Qa,go_sem,u1]
 | refine Qc (id:=33) Xp [] (by kernel_rfl) ?_;simp [-zg,-zd,↓Qb,↓Qa,go_sem,t6]
 | refine Qj (c:=.tmp 27) ?_;simp [-zg,-zd,↓Qb,↓Qa,go_sem];try first | (refine ⟨?_,?_⟩ <;> refine zA ?_) | (refine ⟨fun c27=>?_,fun c27=>?_⟩ <;> (try simp [B_iff,B_not] at c27))
 | (refine Qe (id:=0) (Qw (ι:=Nat × TA) (fun q:Nat × TA=>⟨(upd (upd (upd (upd (upd (upd (upd (upd (fun _=>.any) 2 (.box [.nil,.nil,.nil])) 4 (li cX bs)) 8 (.int .i64 (cn:Int))) 9 (li cI us)) 10 (.ptr ab 0)) 6 (.pd [.int .i64 gk,.int .i64 gv,li cX gs])) 11 (.sl q.2.nb 1 0 q.2.ls.length q.2.cp)) 12 (.int .i64 q.1)),q.2.H⟩) (fun q=>T1 ab us cn q) (fun q=>cn - q.1) ((0,⟨[],[],[],[],nb,cp,j,H1⟩)) ?_ ?_ ?_);exact ⟨Nat.zero_le _,hT,Nat.le_refl _,Nat.le_refl _,rfl,rfl⟩;((repeat' (first | exact Qg (by assumption) | exact Qi | refine Qf ?_ ?_ | refine Qh ?_)) <;> simp [-zg,-zd,↓Qb,↓Qa,go_sem,List.length_nil]);rintro q hq)
 | (refine ⟨(i + 1,zz),hz,by first | omega | (simp;done) | (simp;omega),?_⟩;((repeat' (first | exact Qg (by assumption) | exact Qi | refine Qf ?_ ?_ | refine Qh ?_)) <;> simp [-zg,-zd,↓Qb,↓Qa,go_sem,]))
 | (refine Qe (id:=2) (Qw (ι:=Nat × TA) (fun r:Nat × TA=>⟨(upd (upd (upd (upd (upd (upd (upd (fun _=>.any) 2 (.box [.nil,.nil,.nil])) 4 (li cX bs)) 8 (.int .i64 (cn:Int))) 9 (li cI us)) 10 (.ptr ab 0)) 11 (.sl r.2.nb 1 0 r.2.ls.length r.2.cp)) 13 (.int .i64 r.1)),r.2.H⟩) (fun r=>T2 ab us r) (fun r=>96 - r.1) ((0,q1)) ?_ ?_ ?_);exact ⟨Nat.zero_le _,g2,by dsimp only;omega,by dsimp only;omega,g5,by dsimp only;omega⟩;((repeat' (first | exact Qg (by assumption) | exact Qi | refine Qf ?_ ?_ | refine Qh ?_)) <;> simp [-zg,-zd,↓Qb,↓Qa,go_sem]);rintro r hr)
 | (refine ⟨(i + 1,yz),hyz,by first | omega | (simp;done) | (simp;omega),?_⟩;((repeat' (first | exact Qg (by assumption) | exact Qi | refine Qf ?_ ?_ | refine Qh ?_)) <;> simp [-zg,-zd,↓Qb,↓Qa,go_sem]))
 | (refine Qe (id:=4) (Qw (ι:=Nat × TA) (fun y:Nat × TA=>⟨(upd (upd (upd (upd (upd (upd (upd (upd (upd (upd (upd (upd (fun _=>.any) 2 (.box [.nil,.nil,.nil])) 4 (li cX bs)) 8 (.int .i64 (cn:Int))) 9 (li cI us)) 10 (.ptr ab 0)) 11 (.sl y.2.nb 1 0 y.2.ls.length y.2.cp)) 13 (.int .i64 i)) 14 (.int .i64 s)) 15 (.int .i64 ph2)) 17 (.int .i64 care)) 18 (.int .i64 vl)) 19 (.int .i64 y.1)),y.2.H⟩) (fun y=>T3y ab us cn i ls.length y) (fun y=>cn - y.1) ((0,⟨ls,js,qs ++ [ac],es,nb,cp,j,H2⟩)) ?_ ?_ ?_);exact ⟨Nat.zero_le _,⟨t1,t2,t3,t4,t5,u1,u2⟩,by dsimp only;omega,by dsimp only;omega,h4,by simp;omega,by dsimp only;omega⟩;((repeat' (first | exact Qg (by assumption) | exact Qi | refine Qf ?_ ?_ | refine Qh ?_)) <;> simp [-zg,-zd,↓Qb,↓Qa,go_sem]);rintro y hy)
 | (refine ⟨(e + 1,zz),hz,by first | omega | (simp;done) | (simp;omega),?_⟩;((repeat' (first | exact Qg (by assumption) | exact Qi | refine Qf ?_ ?_ | refine Qh ?_)) <;> simp [-zg,-zd,↓Qb,↓Qa,go_sem]))
 | (refine Qe ?_)
 | (refine Qs ?_;simp [-zg,-zd,↓Qb,↓Qa,go_sem])
 | (refine Qr ?_;simp [-zg,-zd,↓Qb,↓Qa,go_sem])
 | (refine Qq ?_;try simp [-zg,-zd,↓Qb,↓Qa,go_sem,Tryz.results80])
 | (intro hx;refine zA ?_)
 | (intro hx;change retR _ _ _ _ _)
 | (refine ⟨?_,?_⟩ <;> refine zA ?_)
 | (intro hx;constructor <;> intro hs)
 | (constructor <;> intro hs)
 | (refine ⟨?_,fun hs=>?_⟩;refine zA ?_)
 | (refine ⟨fun hs=>?_,?_⟩;rotate_left;refine zA ?_;rotate_left)
 | ((fail_if_success change retR _ _ _ _ _);(refine ⟨(q.1 + 1,q.2),⟨by dsimp only;omega,hq.2.1,by have:=hq.2.2.1;dsimp only;omega,by have:=hq.2.2.2.1;dsimp only;omega,hq.2.2.2.2⟩,by dsimp only;omega,?_⟩;((repeat' (first | exact Qg (by assumption) | exact Qi | refine Qf ?_ ?_ | refine Qh ?_)) <;> simp [-zg,-zd,go_sem]);done))
 | ((fail_if_success change retR _ _ _ _ _);(refine ⟨(y.1 + 1,y.2),⟨by dsimp only;omega,hy.2.1,by have:=hy.2.2.1;dsimp only;omega,hy.2.2.2.1,hy.2.2.2.2.1,hy.2.2.2.2.2.1,by have:=hy.2.2.2.2.2.2;dsimp only;omega⟩,by dsimp only;omega,?_⟩;((repeat' (first | exact Qg (by assumption) | exact Qi | refine Qf ?_ ?_ | refine Qh ?_)) <;> simp [-zg,-zd,go_sem]);done))
 | (refine Qj ?_;simp [-zg,-zd,↓Qb,↓Qa,go_sem];try first | (refine ⟨?_,?_⟩ <;> refine zA ?_) | (refine ⟨fun cz=>?_,fun cz=>?_⟩ <;> (try simp [B_iff,B_not] at cz)))
 | (refine Qc Xp [] (by kernel_rfl) ?_;simp [-zg,-zd,↓Qb,↓Qa,go_sem])
 | fail))
  all_goals (first
 | (refine zacj _ _ _ ((([],[],[]),false)) ?_ ?_ ?_;(first | exact Or.inl rfl | exact Or.inr rfl);(focus (simp [-zg,-zd,↓Qb,↓Qa,go_sem,Tryz.results80,Xb];done));(focus ((exact ⟨by simp,by simp,by simp,SmallT.nil,fun _=>rfl⟩);done)))
 | (refine zacj _ _ _ (((js,qs,es),true)) ?_ ?_ ?_;(first | exact Or.inl rfl | exact Or.inr rfl);(focus (simp [-zg,-zd,↓Qb,↓Qa,go_sem,Tryz.results80,Xb];done));(focus ((exact ⟨by dsimp only;omega,by dsimp only;omega,by dsimp only;omega,t2,by simp⟩);done)))
 | (refine zacj _ _ _ (((js,[false],es),true)) ?_ ?_ ?_;(first | exact Or.inl rfl | exact Or.inr rfl);(focus (simp [-zg,-zd,↓Qb,↓Qa,go_sem,Tryz.results80,Xg,cB];done));(focus ((exact ⟨by dsimp only;omega,by simp,by dsimp only;omega,t2,by simp⟩);done)))
 | skip)
theorem SpecR.rep {P:Program} {f:FuncId} {args:List D} {H:Hp} {G G':Any → D × Hp} (h:SpecR P f args H G) (e2:∀ c,(G' c).2 = (G c).2) (hb:∀ c N,bnd N (G c).1 → bnd N (G' c).1)
    (hr:∀ c μ I w v fl,Rep μ I w (G c).1 v fl → Rep μ I w (G' c).1 v fl):SpecR P f args H G':=by
  intro w J vs μ fp N hR
  refine (h w J vs μ fp N hR).mono fun e w' ⟨c,v,μ',fp',N',he,hR'⟩=>⟨c,v,μ',fp',N',he,?_⟩
  have hd:∀ t,Xj [(G' c).1] t = if t = 0 then (G' c).1 else .any:=fun t=>by cases t <;> rfl
  have hd0:∀ t,Xj [(G c).1] t = if t = 0 then (G c).1 else .any:=fun t=>by cases t <;> rfl
  refine ⟨hR'.len,hR'.dfs,hR'.frm,hR'.jk,hR'.own,hR'.nod,hR'.dis,fun t=>?_,hR'.bg,fun b cs hc=>hR'.hp b cs (by dsimp only at hc ⊢;rw [← e2];exact hc),fun b hb'=>hR'.hn b (by dsimp only at hb' ⊢;rw [← e2];exact hb'),fun t=>?_,hR'.bB,fun b cs hc=>hR'.bH b cs (by dsimp only at hc ⊢;rw [← e2];exact hc),hR'.rn⟩
  · have ht:=hR'.tm t
    dsimp only at ht ⊢
    rw [hd0] at ht
    rw [hd]
    split
    · rename_i e;rw [if_pos e] at ht;exact hr c _ _ _ _ _ ht
    · rename_i e;rw [if_neg e] at ht;exact ht
  · have:=hR'.bT t
    dsimp only at this ⊢
    rw [hd0] at this
    rw [hd]
    split
    · rename_i e;rw [if_pos e] at this;exact hb c N' this
    · rename_i e;rw [if_neg e] at this;exact this
theorem rep_nil3Y {bo:Bool} {μ:Nat → Nat} {I:Nat → Prop} {w:World} {v:Value} {f:List Nat} (h2:Rep μ I w (.tup [.st [.nil,.nil,.nil],.bool bo]) v f):Rep μ I w (.tup [.st [.fr 1 0 [],.fr 1 0 [],.fr 4 0 []],.bool bo]) v f:=by
  rw [Rep] at h2 ⊢
  obtain ⟨vs,e1,h2⟩:=h2
  refine ⟨vs,e1,?_⟩
  rw [RepL] at h2 ⊢
  obtain ⟨v1,vs1,f1,f2,e2,e3,r1,r2⟩:=h2
  refine ⟨v1,vs1,f1,f2,e2,e3,?_,r2⟩
  rw [Rep] at r1 ⊢
  obtain ⟨us,e4,r1⟩:=r1
  refine ⟨us,e4,?_⟩
  rw [RepL] at r1 ⊢
  obtain ⟨u1,us1,g1,g2,k1,k2,s1,r1⟩:=r1
  refine ⟨u1,us1,g1,g2,k1,k2,Jw s1,?_⟩
  rw [RepL] at r1 ⊢
  obtain ⟨u2,us2,g3,g4,k3,k4,s2,r1⟩:=r1
  refine ⟨u2,us2,g3,g4,k3,k4,Jw s2,?_⟩
  rw [RepL] at r1 ⊢
  obtain ⟨u3,us3,g5,g6,k5,k6,s3,r1⟩:=r1
  exact ⟨u3,us3,g5,g6,k5,k6,Jw s3,r1⟩
theorem trF_fr (k v:Int) (ks:List Tree) (H:Hp):SpecR Tryz.prog 80 [.st [.int .i64 k,.int .i64 v,li cX ks]] H (fun c=>(.tup [.st [fr 1 cI (Jc k v ks c).1.1,fr 1 cB (Jc k v ks c).1.2.1,fr 4 cT (Jc k v ks c).1.2.2],.bool (Jc k v ks c).2],H)):=by
  refine SpecR.rep (SpecR.frame0 (zajl k v ks) (H:=H)) (fun c=>rfl) (fun c N _=>?_) fun c μ I w v' fl h=>?_
  · simp [go_sem]
  · have hg:=(zafn k v ks c).2.2.2.2
    revert h hg
    generalize Jc k v ks c = z
    obtain ⟨⟨x1,x2,x3⟩,bo⟩:=z
    intro h hg
    cases bo with
    | true=>exact h
    | false =>
      have hg2:=hg rfl
      simp only [Prod.mk.injEq] at hg2
      obtain ⟨rfl,rfl,rfl⟩:=hg2
      exact rep_nil3Y h
@[go_sem] def trFC:Con:=.rel fun args H=>match args with
  | [.st [.int .i64 k,.int .i64 v,.list n_ks c_ks]]=>(Is cX n_ks c_ks,fun c=>(.tup [.st [fr 1 cI (Jc k v (de cX c_ks) c).1.1,fr 1 cB (Jc k v (de cX c_ks) c).1.2.1,fr 4 cT (Jc k v (de cX c_ks) c).1.2.2],.bool (Jc k v (de cX c_ks) c).2],H))
  | _=>(False,fun _=>(.any,H))
theorem trFC_ok:ConOk Tryz.prog 80 trFC:=by
  refine ⟨Qo Tryz.func80 (by decide) rfl,fun args H h=>?_⟩
  revert h
  dsimp only
  split
  · rintro ⟨ks,rfl,rfl⟩
    rw [Qm]
    exact trF_fr _ _ ks H
  · intro h
    exact h.elim
@[go_sem] def Γy24k:FuncId → Con:=ext Γy23 80 trFC
theorem Γy24k_ok:∀ g,ConOk Tryz.prog g (Γy24k g):=Qn Xp trFC_ok

set_option maxHeartbeats 4000000 in

@[go_sem] def Vk:Tree → D:=sX
theorem l5Random_flat (x:Tree):dat (Vk x) = Vk x:=by simp [go_sem]
def zaed (d:Int):Tree → Prop:=fun _=>True
def zamu (d:Int) (x:(Tree) × D):Prop:=zaed d x.1 ∧ dat x.2 = Vk x.1
def Js (d:Int) (p:Int) (c:Any):((Tree) × D) × Int:=dsel (zamu d) ((.mk 1 0 []:Tree),Vk (.mk 1 0 [])) (kR d.toNat) p c
def Jd (d:Int) (p:Int) (c:Any):(Tree) × Int:=((Js d p c).1.1,(Js d p c).2)
theorem zake (d:Int) (hd:d ≤ 4) (p:Int) (c:Any):(zaed d (Jd d p c).1 ∧ p ≤ (Jd d p c).2 ∧ (Jd d p c).2 ≤ p + (kR d.toNat)) ∧ dat (Js d p c).1.2 = Vk (Jd d p c).1:=by
  have hx:zaed d (.mk 1 0 []):=trivial
  have h:=Zy (good:=zamu d) (x0:=((.mk 1 0 []:Tree),Vk (.mk 1 0 []))) ⟨hx,l5Random_flat _⟩ (K:=(kR d.toNat)) (kR_nn _) (p:=p) c
  exact ⟨⟨h.1.1,h.2.1,h.2.2⟩,h.1.2⟩
theorem zauf (d:Int) (hd:d ≤ 4) (p:Int) (c:Any):zaed d (Jd d p c).1 ∧ p ≤ (Jd d p c).2 ∧ (Jd d p c).2 ≤ p + (kR d.toNat):=(zake d hd p c).1
theorem zadr (d:Int) (ys:List UInt8) (p:Int) (b:Nat) {e_:Exit} {S_:St} (x:Tree) (p':Int) (he_:e_ = .ret ∨ e_ = .normal)
    (h1:(Qd Tryz.prog S_ Tryz.f111.results.toList).1 ∧ dat (resD (Qd Tryz.prog S_ Tryz.f111.results.toList).2.1) = Vk x ∧ (Qd Tryz.prog S_ Tryz.f111.results.toList).2.2.H b = some [li cY ys,.int .i64 p']) (hg:zaed d x) (h2:p ≤ p' ∧ p' ≤ p + (kR d.toNat)) :
    retR Tryz.prog Tryz.f111 (fun c=>((Js d p c).1.2,one b [li cY ys,.int .i64 (Js d p c).2])) e_ S_ :=
  Zw (good:=zamu d) (enc:=fun x:(Tree) × D=>x.2) (cells:=fun q=>[li cY ys,.int .i64 q]) (x,resD (Qd Tryz.prog S_ Tryz.f111.results.toList).2.1) p' he_ ⟨h1.1,rfl,h1.2.2⟩ ⟨hg,h1.2.1⟩ h2
@[go_sem] def l5RandomCn (n_:Nat):Con:=.rel fun args H=>match args with
  | [.ptr b 0,.int .i64 d]=>match H b with
    | some [.list m cs,.int .i64 p]=>((Is cY m cs) ∧ (m ≤ 2000) ∧ (0 ≤ p) ∧ (p + (kR d.toNat) ≤ 1000000) ∧ (d ≤ 4) ∧ (d.toNat < n_),fun c=>(Vk (Jd d p c).1,upd H b (some [.list m cs,.int .i64 (Jd d p c).2])))
    | _=>(False,fun _=>(.any,H))
  | _=>(False,fun _=>(.any,H))
theorem l5RandomCn_ok {n_:Nat} (ih:∀ (ys:List UInt8) (p:Int) (b:Nat) (d:Int) (hl:ys.length ≤ 2000) (h0_:0 ≤ p) (hp_:p + (kR d.toNat) ≤ 1000000) (hd:d ≤ 4) (hm_:d.toNat < n_),SpecR Tryz.prog 111 [.ptr b 0,.int .i64 d] (one b [li cY ys,.int .i64 p]) (fun c=>((Js d p c).1.2,one b [li cY ys,.int .i64 (Js d p c).2]))):ConOk Tryz.prog 111 (l5RandomCn n_):=by
  refine ⟨Qo Tryz.func111 (by decide) rfl,fun args H h=>?_⟩
  revert h
  dsimp only
  split
  · split
    · rename_i hH
      intro h
      obtain ⟨⟨ys,rfl,rfl⟩,hl,h0_,hp_,hd,hm_⟩:=h
      try simp only [Qm] at *
      exact SpecR.enc ((ih ys _ _ _ hl h0_ hp_ hd hm_).frame hH).shut fun c=>Prod.ext (zake _ hd _ _).2.symm rfl
    · intro h;exact h.elim
  · intro h
    exact h.elim
theorem l5Random_rec:∀ (n_:Nat),∀ (ys:List UInt8) (p:Int) (b:Nat) (d:Int) (hl:ys.length ≤ 2000) (h0_:0 ≤ p) (hp_:p + (kR d.toNat) ≤ 1000000) (hd:d ≤ 4) (hm_:d.toNat < n_),SpecR Tryz.prog 111 [.ptr b 0,.int .i64 d] (one b [li cY ys,.int .i64 p]) (fun c=>((Js d p c).1.2,one b [li cY ys,.int .i64 (Js d p c).2])):=by
  intro n_
  induction n_ with
  | zero=>intros;omega
  | succ n_ ih =>
  intro ys p b d hl h0_ hp_ hd hm_
  have Γr_ok:=Qn Γy24k_ok (l5RandomCn_ok ih)
  refine SpecR.of_walk Tryz.func111 rfl (by simp [Tryz.f111]) fun B=>?_
  have hk3:=kR_ge d.toNat;by_cases hd2:d < 2
  all_goals (repeat' (first
 | refine Qt ?_
 | refine Qc (id:=1) Γr_ok [9] (by kernel_rfl) ?_;simp [-zg,-zd,↓Qb,↓Qa,go_sem,hd2,hl,(show 0 ≤ p by omega),(show p ≤ 1000000 by omega),(show 0 ≤ p + 1 by omega),(show p + 1 ≤ 1000000 by omega)];try (refine ⟨fun s1a=>?_,fun s1a=>?_⟩ <;> (try simp [B_iff,B_not] at s1a) <;> try (refine ⟨fun s1b=>?_,fun s1b=>?_⟩ <;> (try simp [B_iff,B_not] at s1b)))
 | refine Qc (id:=2) Γr_ok [] (by kernel_rfl) ?_;simp [-zg,-zd,↓Qb,↓Qa,go_sem,hl,(show 0 ≤ p by omega),(show p ≤ 1000000 by omega),(show 0 ≤ p + 1 by omega),(show p + 1 ≤ 1000000 by omega),(show 0 ≤ p + 1 + 1 by omega),(show p + 1 + 1 ≤ 1000000 by omega)]
 | refine Qc (id:=3) Γr_ok [] (by kernel_rfl) ?_;simp [-zg,-zd,↓Qb,↓Qa,go_sem];try (intro c3;generalize zale c3 = z3 at *)
 | refine Qc (id:=4) Γr_ok [] (by kernel_rfl) ?_;simp [-zg,-zd,↓Qb,↓Qa,go_sem,hl,(show 0 ≤ p by omega),(show p ≤ 1000000 by omega),(show 0 ≤ p + 1 by omega),(show p + 1 ≤ 1000000 by omega),(show 0 ≤ p + 1 + 1 by omega),(show p + 1 + 1 ≤ 1000000 by omega),(show 0 ≤ p + 1 + 1 + 1 by omega),(show p + 1 + 1 + 1 ≤ 1000000 by omega)]
 | refine Qc (id:=5) Γr_ok [] (by kernel_rfl) ?_;simp [-zg,-zd,↓Qb,↓Qa,go_sem,hl,(show 0 ≤ p by omega),(show p ≤ 1000000 by omega),(show 0 ≤ p + 1 by omega),(show p + 1 ≤ 1000000 by omega),(show 0 ≤ p + 1 + 1 by omega),(show p + 1 + 1 ≤ 1000000 by omega),(show 0 ≤ p + 1 + 1 + 1 by omega),(show p + 1 + 1 + 1 ≤ 1000000 by omega)];try ((generalize numI ys (p + 1) [7,9,10,3,4,5,6,8] = kk at *);(have hks:=kR_step (d:=d) (by omega));(have hM:=kR_ge (d - 1).toNat);(have hd1:(d - 1).toNat = d.toNat - 1:=(by omega));(rw [hd1] at hks hM);(refine zaiw 5 3 rfl ?_);(refine Xs 5 rfl fun qb hqb=>?_);(have hbq:¬ b = qb:=(by rintro rfl;simp [go_sem] at hqb));(clear hqb);(refine Qp (fun H1=>H1 b = some [.list ys.length (cat cY ys),.int .i64 (p + 1 + 1)] ∧ H1 qb = some [.int .i64 kk,.int .i64 0,.fr 3 0 []]) ⟨by simp [go_sem,hbq],by simp [go_sem,hbq]⟩ fun H1 ⟨w1,w2⟩=>?_))
 | refine Qc (id:=6) Γr_ok [] (by kernel_rfl) ?_;simp [-zg,-zd,↓Qb,↓Qa,go_sem,w2];try (have hal:=arF_le kk;generalize arF kk = aa at *)
 | ((refine Xw qb 2 (all:=[.int .i64 kk,.int .i64 0,.fr 3 q.1.length (cat cX q.1)]) g6 rfl fun u cu ju hu hcu hdu=>?_);(have ub:¬ u = b:=(by intro e;rw [e] at hu;dsimp only at hu;rw [g5] at hu;cases hu));(have uq:¬ u = qb:=(by intro e;rw [e] at hu;dsimp only at hu;rw [g6] at hu;cases hu));(clear hu));refine Xr (id:=9) Γr_ok mixed [(qb,[.int .i64 kk,.int .i64 0,.sl u 3 0 q.1.length cu])] [] [] (by kernel_rfl) (by kernel_rfl) ?_ ?_ ?_ <;> simp [-zg,-zd,↓Qb,↓Qa,go_sem,g5,hl,Xa (x:=d - 1) (by omega) (by omega),hbq,zS hbq,ub,uq,zS ub,zS uq,(show 0 ≤ q.2.2.1 by omega),(show d - 1 ≤ 4 by omega),(show d.toNat - 1 < n_ by omega),(show q.1.length ≤ 9223372036854775806 by omega),(show 2 * (q.1.length + 1) * 40 ≤ 281474976710656 by omega),(show q.2.2.1 + kR (d.toNat - 1) ≤ 1000000 by omega),hdu];try (intro c10;have z0:=zauf (d - 1) (by omega) q.2.2.1 c10;generalize Jd (d - 1) q.2.2.1 c10 = z at *;obtain ⟨-,z1,z2⟩:=z0;rw [hd1] at z2;obtain ⟨t,p2⟩:=z;dsimp only at z1 z2;refine Qp (fun H2=>H2 b = some [.list ys.length (cat cY ys),.int .i64 p2] ∧ H2 qb = some [.int .i64 kk,.int .i64 0,.fr 3 (q.1 ++ [t]).length (cat cX (q.1 ++ [t]))]) ⟨by simp [upd,hbq,zS hbq,ub,uq,zS ub,zS uq],by simp [upd,hbq,zS hbq,ub,uq,zS ub,zS uq,Xk,Xg,cX_eq,li]⟩ fun H2 ⟨y1,y2⟩=>?_)
 | refine Qc (id:=8) Γr_ok [] (by kernel_rfl) ?_;simp [-zg,-zd,↓Qb,↓Qa,go_sem,Xa (x:=q.2.1 - 1) (by omega) (by omega)]
 | refine Qc (id:=10) Γr_ok [] (by kernel_rfl) ?_;simp [-zg,-zd,↓Qb,↓Qa,go_sem,g6]
 | (refine Qe (id:=0) (Qw (ι:=List Tree × Int × Int × Hp) (fun q:List Tree × Int × Int × Hp=>⟨(upd (upd (upd (upd (upd (fun _=>.any) 0 (.ptr b 0)) 1 (.int .i64 d)) 4 (.box [.int .i64 0,.int .i64 0,.nil])) 5 (.ptr qb 0)) 6 (.int .i64 q.2.1)),q.2.2.2⟩) (fun q=>q.2.1 ≤ 2 ∧ (q.1.length:Int) + q.2.1 ≤ 2 ∧ p ≤ q.2.2.1 ∧ (q.2.1 ≤ 2 ∧ q.2.2.1 ≤ p + 3 ∨ q.2.1 ≤ 1 ∧ q.2.2.1 ≤ p + 3 + kR (d.toNat - 1) ∨ q.2.1 ≤ 0 ∧ q.2.2.1 ≤ p + 3 + 2 * kR (d.toNat - 1)) ∧ q.2.2.2 b = some [.list ys.length (cat cY ys),.int .i64 q.2.2.1] ∧ q.2.2.2 qb = some [.int .i64 kk,.int .i64 0,.fr 3 q.1.length (cat cX q.1)]) (fun q=>q.2.1.toNat) (([],aa,p + 1 + 1,H1)) ?_ ?_ ?_);exact ⟨by dsimp only;omega,by simpa using hal,by dsimp only;omega,by dsimp only;omega,by dsimp only;exact w1,by dsimp only;exact w2⟩;((repeat' (first | exact Qg (by assumption) | exact Qi | refine Qf ?_ ?_ | refine Qh ?_)) <;> simp [-zg,-zd,↓Qb,↓Qa,go_sem]);rintro q ⟨g1,g2,g3,g4,g5,g6⟩)
 | (refine ⟨(q.1 ++ [t],q.2.1 - 1,p2,H2),⟨by dsimp only;omega,by simp;omega,by dsimp only;omega,by dsimp only;omega,y1,y2⟩,by first | omega | (simp;done) | (simp;omega),?_⟩;((repeat' (first | exact Qg (by assumption) | exact Qi | refine Qf ?_ ?_ | refine Qh ?_)) <;> simp [-zg,-zd,↓Qb,↓Qa,go_sem,]))
 | (refine Qe ?_)
 | (refine Qs ?_;simp [-zg,-zd,↓Qb,↓Qa,go_sem])
 | (refine Qr ?_;simp [-zg,-zd,↓Qb,↓Qa,go_sem])
 | (refine Qq ?_;try simp [-zg,-zd,↓Qb,↓Qa,go_sem,Tryz.results111])
 | (intro hx;refine zA ?_)
 | (intro hx;change retR _ _ _ _ _)
 | (refine ⟨?_,?_⟩ <;> refine zA ?_)
 | (intro hx;constructor <;> intro hs)
 | (constructor <;> intro hs)
 | (refine ⟨?_,fun hs=>?_⟩;refine zA ?_)
 | (refine ⟨fun hs=>?_,?_⟩;rotate_left;refine zA ?_;rotate_left)
 | ((fail_if_success change retR _ _ _ _ _);(exfalso;omega))
 | (refine Qj ?_;simp [-zg,-zd,↓Qb,↓Qa,go_sem];try first | (refine ⟨?_,?_⟩ <;> refine zA ?_) | (refine ⟨fun cz=>?_,fun cz=>?_⟩ <;> (try simp [B_iff,B_not] at cz)))
 | (refine Qc Γr_ok [] (by kernel_rfl) ?_;simp [-zg,-zd,↓Qb,↓Qa,go_sem])
 | fail))
  all_goals (first
 | (refine zadr _ _ _ _ (z3) (p + 1) ?_ ?_ ?_ ?_;(first | exact Or.inl rfl | exact Or.inr rfl);(focus (simp [-zg,-zd,↓Qb,↓Qa,go_sem,Tryz.results111];done));(focus ((trivial);done));(focus (refine ⟨?_,?_⟩ <;> omega)))
 | (refine zadr _ _ _ _ (z3) (p + 1 + 1) ?_ ?_ ?_ ?_;(first | exact Or.inl rfl | exact Or.inr rfl);(focus (simp [-zg,-zd,↓Qb,↓Qa,go_sem,Tryz.results111];done));(focus ((trivial);done));(focus (refine ⟨?_,?_⟩ <;> omega)))
 | (refine zadr _ _ _ _ (.mk 2 (numI ys (p + 1) [0,1,0,2]) []) (p + 1 + 1) ?_ ?_ ?_ ?_;(first | exact Or.inl rfl | exact Or.inr rfl);(focus (simp [-zg,-zd,↓Qb,↓Qa,go_sem,Tryz.results111];done));(focus ((trivial);done));(focus (refine ⟨?_,?_⟩ <;> omega)))
 | (refine zadr _ _ _ _ (.mk 2 (numI ys (p + 1 + 1) [0,1,0,2]) []) (p + 1 + 1 + 1) ?_ ?_ ?_ ?_;(first | exact Or.inl rfl | exact Or.inr rfl);(focus (simp [-zg,-zd,↓Qb,↓Qa,go_sem,Tryz.results111];done));(focus ((trivial);done));(focus (refine ⟨?_,?_⟩ <;> omega)))
 | (refine zadr _ _ _ _ (.mk 2 (numI ys p [0,1,0,2]) []) (p + 1) ?_ ?_ ?_ ?_;(first | exact Or.inl rfl | exact Or.inr rfl);(focus (simp [-zg,-zd,↓Qb,↓Qa,go_sem,Tryz.results111];done));(focus ((trivial);done));(focus (refine ⟨?_,?_⟩ <;> omega)))
 | (refine zadr _ _ _ _ (.mk kk 0 q.1) (q.2.2.1) ?_ ?_ ?_ ?_;(first | exact Or.inl rfl | exact Or.inr rfl);(focus (simp [-zg,-zd,↓Qb,↓Qa,go_sem,Tryz.results111,li,dat,Qz,hbq,g5];done));(focus ((trivial);done));(focus (refine ⟨?_,?_⟩ <;> omega)))
 | skip)
theorem l5Random_spec (ys:List UInt8) (p:Int) (b:Nat) (d:Int) (hl:ys.length ≤ 2000) (h0_:0 ≤ p) (hp_:p + (kR d.toNat) ≤ 1000000) (hd:d ≤ 4):SpecR Tryz.prog 111 [.ptr b 0,.int .i64 d] (one b [li cY ys,.int .i64 p]) (fun c=>((Js d p c).1.2,one b [li cY ys,.int .i64 (Js d p c).2])):=l5Random_rec (d.toNat + 1) ys p b d hl h0_ hp_ hd (by omega)
@[go_sem] def l5RandomC:Con:=.rel fun args H=>match args with
  | [.ptr b 0,.int .i64 d]=>match H b with
    | some [.list m cs,.int .i64 p]=>((Is cY m cs) ∧ (m ≤ 2000) ∧ (0 ≤ p) ∧ (p + (kR d.toNat) ≤ 1000000) ∧ (d ≤ 4),fun c=>(Vk (Jd d p c).1,upd H b (some [.list m cs,.int .i64 (Jd d p c).2])))
    | _=>(False,fun _=>(.any,H))
  | _=>(False,fun _=>(.any,H))
theorem l5RandomC_ok:ConOk Tryz.prog 111 l5RandomC:=by
  refine ⟨Qo Tryz.func111 (by decide) rfl,fun args H h=>?_⟩
  revert h
  dsimp only
  split
  · split
    · rename_i hH
      intro h
      obtain ⟨⟨ys,rfl,rfl⟩,hl,h0_,hp_,hd⟩:=h
      try simp only [Qm] at *
      exact SpecR.enc ((l5Random_spec ys _ _ _ hl h0_ hp_ hd).frame hH).shut fun c=>Prod.ext (zake _ hd _ _).2.symm rfl
    · intro h;exact h.elim
  · intro h
    exact h.elim
@[go_sem] def Γy25:FuncId → Con:=ext Γy24k 111 l5RandomC
theorem Γy25_ok:∀ g,ConOk Tryz.prog g (Γy25 g):=Qn Γy24k_ok l5RandomC_ok

theorem forOk_atom:ForOk (.mk 2 0 []):=by
  refine ⟨⟨by simp [Tree.ks,Tree.k,arF],by simp [Tree.v],by simp [Tree.v],.inl rfl,fun i hi=>by simp [Tree.ks] at hi⟩,?_⟩
  simp [cntT,csum,Tree.ks]
theorem forOk_always:ForOk (.mk 10 0 [.mk 2 0 []]):=by
  refine ⟨⟨by simp [Tree.ks,Tree.k,arF],by simp [Tree.v],by simp [Tree.v],.inr rfl,fun i hi=>?_⟩,?_⟩
  · have:i = 0:=by simp only [Tree.ks,List.length_singleton] at hi;omega
    subst this
    exact ⟨by simp [Tree.ks,Tree.k,arF,nth],by simp [Tree.v,nth,Tree.ks],by simp [Tree.v,nth,Tree.ks],.inl rfl,fun i hi=>by simp [Tree.ks,nth] at hi⟩
  · simp [cntT,csum,Tree.ks]

@[go_sem] def Uh:Tree → D:=sX
theorem l5Formula_flat (x:Tree):dat (Uh x) = Uh x:=by simp [go_sem]
def zacz  : Tree → Prop:=fun x=>ForOk x
def zakf  (x:(Tree) × D):Prop:=zacz x.1 ∧ dat x.2 = Uh x.1
def zabc  (p:Int) (c:Any):((Tree) × D) × Int:=dsel (zakf) ((.mk 2 0 []:Tree),Uh (.mk 2 0 [])) 100 p c
def Vh  (p:Int) (c:Any):(Tree) × Int:=((zabc p c).1.1,(zabc p c).2)
theorem zanw   (p:Int) (c:Any):(zacz (Vh p c).1 ∧ p ≤ (Vh p c).2 ∧ (Vh p c).2 ≤ p + 100) ∧ dat (zabc p c).1.2 = Uh (Vh p c).1:=by
  have hx:zacz (.mk 2 0 []):=forOk_atom
  have h:=Zy (good:=zakf) (x0:=((.mk 2 0 []:Tree),Uh (.mk 2 0 []))) ⟨hx,l5Formula_flat _⟩ (K:=100) (by omega) (p:=p) c
  exact ⟨⟨h.1.1,h.2.1,h.2.2⟩,h.1.2⟩
theorem l5Formula_ok   (p:Int) (c:Any):zacz (Vh p c).1 ∧ p ≤ (Vh p c).2 ∧ (Vh p c).2 ≤ p + 100:=(zanw  p c).1
theorem zanv  (ys:List UInt8) (p:Int) (b:Nat) {e_:Exit} {S_:St} (x:Tree) (p':Int) (he_:e_ = .ret ∨ e_ = .normal)
    (h1:(Qd Tryz.prog S_ Tryz.f81.results.toList).1 ∧ dat (resD (Qd Tryz.prog S_ Tryz.f81.results.toList).2.1) = Uh x ∧ (Qd Tryz.prog S_ Tryz.f81.results.toList).2.2.H b = some [li cY ys,.int .i64 p']) (hg:zacz x) (h2:p ≤ p' ∧ p' ≤ p + 100) :
    retR Tryz.prog Tryz.f81 (fun c=>((zabc p c).1.2,one b [li cY ys,.int .i64 (zabc p c).2])) e_ S_ :=
  Zw (good:=zakf) (enc:=fun x:(Tree) × D=>x.2) (cells:=fun q=>[li cY ys,.int .i64 q]) (x,resD (Qd Tryz.prog S_ Tryz.f81.results.toList).2.1) p' he_ ⟨h1.1,rfl,h1.2.2⟩ ⟨hg,h1.2.1⟩ h2
set_option maxHeartbeats 4000000 in
theorem l5Formula_spec (ys:List UInt8) (p:Int) (b:Nat)  (hl:ys.length ≤ 2000) (h0_:0 ≤ p) (hp_:p + 100 ≤ 1000000)  : SpecR Tryz.prog 81 [.ptr b 0] (one b [li cY ys,.int .i64 p]) (fun c=>((zabc p c).1.2,one b [li cY ys,.int .i64 (zabc p c).2])):=by
  refine SpecR.of_walk Tryz.func81 rfl (by simp [Tryz.f81]) fun B=>?_
  have hr:=Jx ys (p:=p) (by omega) (xs:=[3,2,4,3]) (lo:=2) (hi:=4) (by simp) (by simp);have hk:=kR_le (d:=numI ys p [3,2,4,3]) (by omega);have hk0:=kR_nn (numI ys p [3,2,4,3]).toNat
  all_goals (repeat' (first
 | refine Qt ?_
 | refine Qc (id:=1) Γy25_ok [] (by kernel_rfl) ?_;simp [-zg,-zd,↓Qb,↓Qa,go_sem,hl,(show 0 ≤ p by omega),(show p ≤ 1000000 by omega),(show 0 ≤ p + 1 by omega),(show p + 1 ≤ 1000000 by omega),(show 0 ≤ p + 1 + 1 by omega),(show p + 1 + 1 ≤ 1000000 by omega),hr,(show p + 1 + kR (numI ys p [3,2,4,3]).toNat ≤ 1000000 by omega)];try (intro c1;have z0:=zauf (numI ys p [3,2,4,3]) (by omega) (p + 1) c1;generalize Jd (numI ys p [3,2,4,3]) (p + 1) c1 = z at *;obtain ⟨-,z1,z2⟩:=z0;obtain ⟨⟨tk,tv,ts⟩,p2⟩:=z;dsimp only at z1 z2;refine Qy 3 ?_;simp [go_sem])
 | (refine Qe ?_)
 | (refine Qs ?_;simp [-zg,-zd,↓Qb,↓Qa,go_sem])
 | (refine Qr ?_;simp [-zg,-zd,↓Qb,↓Qa,go_sem])
 | (refine Qq ?_;try simp [-zg,-zd,↓Qb,↓Qa,go_sem,Tryz.results81])
 | (intro hx;refine zA ?_)
 | (intro hx;change retR _ _ _ _ _)
 | (refine ⟨?_,?_⟩ <;> refine zA ?_)
 | (intro hx;constructor <;> intro hs)
 | (constructor <;> intro hs)
 | (refine ⟨?_,fun hs=>?_⟩;refine zA ?_)
 | (refine ⟨fun hs=>?_,?_⟩;rotate_left;refine zA ?_;rotate_left)
 | (refine Qj ?_;simp [-zg,-zd,↓Qb,↓Qa,go_sem];try first | (refine ⟨?_,?_⟩ <;> refine zA ?_) | (refine ⟨fun cz=>?_,fun cz=>?_⟩ <;> (try simp [B_iff,B_not] at cz)))
 | (refine Qc Γy25_ok [] (by kernel_rfl) ?_;simp [-zg,-zd,↓Qb,↓Qa,go_sem])
 | fail))
  all_goals (first
 | (refine zanv _ _ _ (.mk tk tv ts) (p2) ?_ ?_ ?_ ?_;(first | exact Or.inl rfl | exact Or.inr rfl);(focus (simp [-zg,-zd,↓Qb,↓Qa,go_sem,Tryz.results81,li,dat,Qz];done));(focus ((assumption);done));(focus (refine ⟨?_,?_⟩ <;> omega)))
 | (refine zanv _ _ _ (.mk 10 0 [.mk 2 0 []]) (p2) ?_ ?_ ?_ ?_;(first | exact Or.inl rfl | exact Or.inr rfl);(focus (simp [-zg,-zd,↓Qb,↓Qa,go_sem,Tryz.results81,li,Xe,cX_mk,dat,datL,Qz,Xb];done));(focus ((exact forOk_always);done));(focus (refine ⟨?_,?_⟩ <;> omega)))
 | skip)
@[go_sem] def zaqv:Con:=.rel fun args H=>match args with
  | [.ptr b 0]=>match H b with
    | some [.list m cs,.int .i64 p]=>((Is cY m cs) ∧ (m ≤ 2000) ∧ (0 ≤ p) ∧ (p + 100 ≤ 1000000),fun c=>(Uh (Vh p c).1,upd H b (some [.list m cs,.int .i64 (Vh p c).2])))
    | _=>(False,fun _=>(.any,H))
  | _=>(False,fun _=>(.any,H))
theorem l5FormulaC_ok:ConOk Tryz.prog 81 zaqv:=by
  refine ⟨Qo Tryz.func81 (by decide) rfl,fun args H h=>?_⟩
  revert h
  dsimp only
  split
  · split
    · rename_i hH
      intro h
      obtain ⟨⟨ys,rfl,rfl⟩,hl,h0_,hp_⟩:=h
      try simp only [Qm] at *
      exact SpecR.enc ((l5Formula_spec ys _ _ hl h0_ hp_ ).frame hH).shut fun c=>Prod.ext (zanw  _ _).2.symm rfl
    · intro h;exact h.elim
  · intro h
    exact h.elim
@[go_sem] def Γy26:FuncId → Con:=ext Γy25 81 zaqv
theorem Zg:∀ g,ConOk Tryz.prog g (Γy26 g):=Qn Γy25_ok l5FormulaC_ok

end
end Go.Proofs.YtiilmjojffjhlaaGreatDoor.Vm

