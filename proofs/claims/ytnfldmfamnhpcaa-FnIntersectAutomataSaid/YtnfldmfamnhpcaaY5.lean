/-
  Formulas: what follows, letters, phases, pairs. No conditions.
-/
import Derived.Test.YtnfldmfamnhpcaaY4
namespace Go.Proofs.Ytnfldmfamnhpcaa.Vm
open Go
open Nat renaming sub_pos_of_lt → zsP
open List renaming getD_eq_getElem?_getD → zg,drop_one → zd
noncomputable section
set_option linter.unusedVariables false
set_option linter.unusedSimpArgs false
set_option maxRecDepth 200000

@[go_sem] def We:Bool → D:=fun x=>.bool x
def zabc (bs:List Tree) (s:Int) (t:Int):Bool → Prop:=fun _=>True
def zabw (bs:List Tree) (s:Int) (t:Int) (c:Any):Bool:=sel (zabc bs s t) (true) c
theorem l7Follows_ret (bs:List Tree) (s:Int) (t:Int) {e_:Exit} {S_:St} (x:Bool) (he_:e_ = .ret ∨ e_ = .normal)
    (h1:(Ql Try.prog S_ Try.f78.results.toList).1 ∧ resD (Ql Try.prog S_ Try.f78.results.toList).2.1 = We x) (hg:zabc bs s t x) :
    retR Try.prog Try.f78 (fun c=>(We (zabw bs s t c),fun _=>none)) e_ S_:=Jd (enc:=We) x he_ h1 hg
theorem zahb (bs:List Tree) (s:Int) (t:Int) {e_:Exit} {S_:St} (he_:e_ = .ret ∨ e_ = .normal)
    (h:∃ x,(Ql Try.prog S_ Try.f78.results.toList).1 ∧ resD (Ql Try.prog S_ Try.f78.results.toList).2.1 = We x ∧ zabc bs s t x) :
    retR Try.prog Try.f78 (fun c=>(We (zabw bs s t c),fun _=>none)) e_ S_:=by
  obtain ⟨x,h1,h2,h3⟩:=h
  exact l7Follows_ret _ _ _ x he_ ⟨h1,h2⟩ h3
set_option maxHeartbeats 8000000 in
theorem l7Follows_pure (bs:List Tree) (s:Int) (t:Int) (hA:AllW bs):PureR Try.prog 78 [li cX bs,.int .i64 s,.int .i64 t] (fun c=>We (zabw bs s t c)):=by
  refine PureR.of_walk Try.func78 rfl (by simp [Try.f78]) (fun c=>by simp [-zd,go_sem]) fun B hK=>?_
  (repeat' (first
 | refine Qu ?_
 | refine Qc (id:=0) Zu [] (by kernel_rfl) ?_;simp [-zg,-zd,↓Qb,↓Qa,go_sem]
 | (refine Vb 0 rfl fun hm=>?_);refine Qc (id:=1) Zu [] (by kernel_rfl) ?_;simp [-zg,-zd,↓Qb,↓Qa,go_sem]
 | refine Qc (id:=2) Zu [] (by kernel_rfl) ?_;simp [-zg,-zd,↓Qb,↓Qa,go_sem]
 | ((obtain ⟨⟨uk,uv,us⟩,hu⟩:∃ u,nth bs i = u:=⟨_,rfl⟩);(have hw:WellF (.mk uk uv us):=(by rw [← hu];exact hA.at c14));(have hk1:=hw.ks1);(have hk2:=hw.ks2);(have w4:=hw.at.2.2.2));refine Qc (id:=4) Zu [] (by kernel_rfl) ?_;simp [-zg,-zd,↓Qb,↓Qa,go_sem,c14,Qj c14,zsP c14,hu];try ((refine Xb hK 8 ?_);(simp [go_sem]))
 | refine Qc (id:=5) Zu [] (by kernel_rfl) ?_;simp [-zg,-zd,↓Qb,↓Qa,go_sem]
 | refine Qc (id:=6) Zu [] (by kernel_rfl) ?_;simp [-zg,-zd,↓Qb,↓Qa,go_sem]
 | refine Qc (id:=7) Zu [] (by kernel_rfl) ?_;simp [-zg,-zd,↓Qb,↓Qa,go_sem]
 | refine Qc (id:=8) Zu [] (by kernel_rfl) ?_;simp [-zg,-zd,↓Qb,↓Qa,go_sem]
 | ((have ql:=hk1 (by omega));(have qk:0 < us.length:=(by omega));(have qw:=(w4 0 qk).valu));refine Qc (id:=9) Zu [] (by kernel_rfl) ?_;simp [-zg,-zd,↓Qb,↓Qa,go_sem,qk,Qj qk,zsP qk,Vd (f:=cX) qk,(show 3 ≤ us.length * 3 by omega),Tree.eta,qw]
 | refine Qc (id:=10) Zu [] (by kernel_rfl) ?_;simp [-zg,-zd,↓Qb,↓Qa,go_sem]
 | ((have ql:=hk2 (by omega) (by omega) (by omega) (by omega) (by omega) (by omega));(have qk:0 < us.length:=(by omega));(have qj:1 < us.length:=(by omega));(have qw:=(w4 0 qk).valu);(have qx:=(w4 1 qj).valu));refine Qc (id:=11) Zu [45,53] (by kernel_rfl) ?_;simp [-zg,-zd,↓Qb,↓Qa,go_sem,qk,Qj qk,zsP qk,qj,Vd (f:=cX) qk,(show 3 ≤ us.length * 3 by omega),(show (cat cX us).drop 3 = cat cX (us.drop 1) from Vh (f:=cX) (sz:=3) us 1),(show 3 ≤ us.length * 3 - 3 by omega),(show 3 ≤ (us.length - 1) * 3 by omega),(show (1:Int) < (us.length:Int) by omega),zsP qj,Tree.eta,qw,qx];try (refine ⟨fun s11a=>?_,fun s11a=>?_⟩ <;> (try simp [B_iff,B_not] at s11a) <;> try (refine ⟨fun s11b=>?_,fun s11b=>?_⟩ <;> (try simp [B_iff,B_not] at s11b) <;> try (refine ⟨fun s11c=>?_,fun s11c=>?_⟩ <;> (try simp [B_iff,B_not] at s11c))))
 | refine Qc (id:=12) Zu [] (by kernel_rfl) ?_;simp [-zg,-zd,↓Qb,↓Qa,go_sem]
 | ((have ql:=hk2 (by omega) (by omega) (by omega) (by omega) (by omega) (by omega));(have qk:0 < us.length:=(by omega));(have qj:1 < us.length:=(by omega));(have qw:=(w4 0 qk).valu);(have qx:=(w4 1 qj).valu));refine Qc (id:=13) Zu [68,76] (by kernel_rfl) ?_;simp [-zg,-zd,↓Qb,↓Qa,go_sem,qk,Qj qk,zsP qk,qj,Vd (f:=cX) qk,(show 3 ≤ us.length * 3 by omega),(show (cat cX us).drop 3 = cat cX (us.drop 1) from Vh (f:=cX) (sz:=3) us 1),(show 3 ≤ us.length * 3 - 3 by omega),(show 3 ≤ (us.length - 1) * 3 by omega),(show (1:Int) < (us.length:Int) by omega),zsP qj,Tree.eta,qw,qx];try (refine ⟨fun s13a=>?_,fun s13a=>?_⟩ <;> (try simp [B_iff,B_not] at s13a) <;> try (refine ⟨fun s13b=>?_,fun s13b=>?_⟩ <;> (try simp [B_iff,B_not] at s13b) <;> try (refine ⟨fun s13c=>?_,fun s13c=>?_⟩ <;> (try simp [B_iff,B_not] at s13c))))
 | refine Qc (id:=14) Zu [] (by kernel_rfl) ?_;simp [-zg,-zd,↓Qb,↓Qa,go_sem]
 | refine Qc (id:=15) Zu [] (by kernel_rfl) ?_;simp [-zg,-zd,↓Qb,↓Qa,go_sem]
 | refine Qc (id:=3) Zu [] (by kernel_rfl) ?_;simp [-zg,-zd,↓Qb,↓Qa,go_sem,wrapS (k:=i) (by omega)]
 | refine Qc (id:=16) Zu [] (by kernel_rfl) ?_;simp [-zg,-zd,↓Qb,↓Qa,go_sem]
 | refine Qd (c:=.tmp 14) ?_;simp [-zg,-zd,↓Qb,↓Qa,go_sem];try first | (refine ⟨?_,?_⟩ <;> refine zA ?_) | (refine ⟨fun c14=>?_,fun c14=>?_⟩ <;> (try simp [B_iff,B_not] at c14))
 | refine Qd (c:=.tmp 27) ?_;simp [-zg,-zd,↓Qb,↓Qa,go_sem];try first | (refine ⟨?_,?_⟩ <;> refine zA ?_) | (refine ⟨fun c27=>?_,fun c27=>?_⟩ <;> (try simp [B_iff,B_not] at c27))
 | refine Qd (c:=.tmp 36) ?_;simp [-zg,-zd,↓Qb,↓Qa,go_sem];try first | (refine ⟨?_,?_⟩ <;> refine zA ?_) | (refine ⟨fun c36=>?_,fun c36=>?_⟩ <;> (try simp [B_iff,B_not] at c36))
 | refine Qd (c:=.tmp 59) ?_;simp [-zg,-zd,↓Qb,↓Qa,go_sem];try first | (refine ⟨?_,?_⟩ <;> refine zA ?_) | (refine ⟨fun c59=>?_,fun c59=>?_⟩ <;> (try simp [B_iff,B_not] at c59))
 | refine Qd (c:=.tmp 84) ?_;simp [-zg,-zd,↓Qb,↓Qa,go_sem];try first | (refine ⟨?_,?_⟩ <;> refine zA ?_) | (refine ⟨fun c84=>?_,fun c84=>?_⟩ <;> (try simp [B_iff,B_not] at c84))
 | (refine Qe (id:=0) (Qz (ι:=Nat) (fun i:Nat=>⟨(upd (upd (upd (upd (fun _=>.any) 0 (li cX bs)) 1 (.int .i64 s)) 2 (.int .i64 t)) 7 (.int .i64 i)),fun _=>none⟩) (fun i=>i ≤ bs.length) (fun i=>bs.length - i) (0) ?_ ?_ ?_);exact Nat.zero_le _;((repeat' (first | exact Qg (by assumption) | exact Qi | refine Qf ?_ ?_ | refine Qh ?_)) <;> simp [-zg,-zd,↓Qb,↓Qa,go_sem]);rintro i hi)
 | (refine ⟨i + 1,by omega,by first | omega | (simp;done) | (simp;omega),?_⟩;((repeat' (first | exact Qg (by assumption) | exact Qi | refine Qf ?_ ?_ | refine Qh ?_)) <;> simp [-zg,-zd,↓Qb,↓Qa,go_sem]))
 | (refine Qe ?_)
 | (refine Qt ?_;simp [-zg,-zd,↓Qb,↓Qa,go_sem])
 | (refine Qs ?_;simp [-zg,-zd,↓Qb,↓Qa,go_sem])
 | (refine Qv ?_;try simp [-zg,-zd,↓Qb,↓Qa,go_sem,Try.results78])
 | (intro hx;refine zA ?_)
 | (intro hx;change retR _ _ _ _ _)
 | (refine ⟨?_,?_⟩ <;> refine zA ?_)
 | (intro hx;constructor <;> intro hs)
 | (constructor <;> intro hs)
 | (refine ⟨?_,fun hs=>?_⟩;refine zA ?_)
 | (refine ⟨fun hs=>?_,?_⟩;rotate_left;refine zA ?_;rotate_left)))
  all_goals (first
 | (refine zahb _ _ _ ?_ ?_;(first | exact Or.inl rfl | exact Or.inr rfl);(simp [-zg,-zd,↓Qb,↓Qa,go_sem,Try.results78,zabc]);((trivial);done))
 | (refine zahb _ _ _ ?_ ?_;(first | exact Or.inl rfl | exact Or.inr rfl);(simp [-zg,-zd,↓Qb,↓Qa,go_sem,Try.results78,zabc];done))
 | skip)
@[go_sem] def zali:Con:=.prel fun
  | [.list n_bs c_bs,.int .i64 s,.int .i64 t]=>((Is cX n_bs c_bs) ∧ (AllW (de cX c_bs)),fun c=>We (zabw (de cX c_bs) s t c))
  | _=>(False,fun _=>.any)
theorem l7FollowsC_ok:ConOk Try.prog 78 zali:=by
  refine ⟨Qp Try.func78 (by decide) rfl,fun args h=>?_⟩
  revert h
  dsimp only
  split
  · intro h
    obtain ⟨⟨bs,rfl,rfl⟩,hA⟩:=h
    try simp only [Qr] at *
    exact ⟨l7Follows_pure bs _ _ hA,fun c=>by simp [go_sem]⟩
  · intro h
    exact h.elim
@[go_sem] def Γy18:FuncId → Con:=ext Γy17 78 zali
theorem Γy18_ok:∀ g,ConOk Try.prog g (Γy18 g):=Qo Zu l7FollowsC_ok

@[go_sem] def Wd:Bool → D:=fun x=>.bool x
def zabb (bs:List Tree) (s:Int) (u:Int):Bool → Prop:=fun _=>True
def zabv (bs:List Tree) (s:Int) (u:Int) (c:Any):Bool:=sel (zabb bs s u) (true) c
theorem l7Fulfils_ret (bs:List Tree) (s:Int) (u:Int) {e_:Exit} {S_:St} (x:Bool) (he_:e_ = .ret ∨ e_ = .normal)
    (h1:(Ql Try.prog S_ Try.f97.results.toList).1 ∧ resD (Ql Try.prog S_ Try.f97.results.toList).2.1 = Wd x) (hg:zabb bs s u x) :
    retR Try.prog Try.f97 (fun c=>(Wd (zabv bs s u c),fun _=>none)) e_ S_:=Jd (enc:=Wd) x he_ h1 hg
theorem zaha (bs:List Tree) (s:Int) (u:Int) {e_:Exit} {S_:St} (he_:e_ = .ret ∨ e_ = .normal)
    (h:∃ x,(Ql Try.prog S_ Try.f97.results.toList).1 ∧ resD (Ql Try.prog S_ Try.f97.results.toList).2.1 = Wd x ∧ zabb bs s u x) :
    retR Try.prog Try.f97 (fun c=>(Wd (zabv bs s u c),fun _=>none)) e_ S_:=by
  obtain ⟨x,h1,h2,h3⟩:=h
  exact l7Fulfils_ret _ _ _ x he_ ⟨h1,h2⟩ h3
set_option maxHeartbeats 8000000 in
theorem l7Fulfils_pure (bs:List Tree) (s:Int) (u:Int) (hA:AllW bs) (h0:0 ≤ u) (h1:u < bs.length) (hk:(nth bs u.toNat).k = 7):PureR Try.prog 97 [li cX bs,.int .i64 s,.int .i64 u] (fun c=>Wd (zabv bs s u c)):=by
  refine PureR.of_walk Try.func97 rfl (by simp [Try.f97]) (fun c=>by simp [-zd,go_sem]) fun B hK=>?_
  have hul:u.toNat < bs.length:=(by omega);obtain ⟨⟨uk,uv,us⟩,hu⟩:∃ x,nth bs u.toNat = x:=⟨_,rfl⟩;have hw:WellF (.mk uk uv us):=(by rw [← hu];exact hA.at hul);have hk7:uk = 7:=(by rw [hu] at hk;exact hk);have ql:=hw.ks2 (by omega) (by omega) (by omega) (by omega) (by omega) (by omega);have qj:1 < us.length:=(by omega);have qk:0 < us.length:=(by omega);have qx:=(hw.at.2.2.2 1 qj).valu
  all_goals (repeat' (first
 | refine Qu ?_
 | refine Qc (id:=0) Γy18_ok [] (by kernel_rfl) ?_;simp [-zg,-zd,↓Qb,↓Qa,go_sem]
 | refine Qc (id:=1) Γy18_ok [11] (by kernel_rfl) ?_;simp [-zg,-zd,↓Qb,↓Qa,go_sem,hul,Qj hul,zsP hul,h0,h1,hu,qk,Qj qk,zsP qk,qj,(show 3 ≤ us.length * 3 by omega),(show (cat cX us).drop 3 = cat cX (us.drop 1) from Vh (f:=cX) (sz:=3) us 1),(show 3 ≤ us.length * 3 - 3 by omega),(show 3 ≤ (us.length - 1) * 3 by omega),(show (1:Int) < (us.length:Int) by omega),zsP qj,Tree.eta,qx];try (refine ⟨fun s1a=>?_,fun s1a=>?_⟩ <;> (try simp [B_iff,B_not] at s1a) <;> try (refine ⟨fun s1b=>?_,fun s1b=>?_⟩ <;> (try simp [B_iff,B_not] at s1b)))
 | (refine Qe ?_)
 | (refine Qt ?_;simp [-zg,-zd,↓Qb,↓Qa,go_sem])
 | (refine Qs ?_;simp [-zg,-zd,↓Qb,↓Qa,go_sem])
 | (refine Qv ?_;try simp [-zg,-zd,↓Qb,↓Qa,go_sem,Try.results97])
 | (intro hx;refine zA ?_)
 | (intro hx;change retR _ _ _ _ _)
 | (refine ⟨?_,?_⟩ <;> refine zA ?_)
 | (intro hx;constructor <;> intro hs)
 | (constructor <;> intro hs)
 | (refine ⟨?_,fun hs=>?_⟩;refine zA ?_)
 | (refine ⟨fun hs=>?_,?_⟩;rotate_left;refine zA ?_;rotate_left)))
  all_goals (first
 | (refine zaha _ _ _ ?_ ?_;(first | exact Or.inl rfl | exact Or.inr rfl);(simp [-zg,-zd,↓Qb,↓Qa,go_sem,Try.results97,zabb]);((trivial);done))
 | (refine zaha _ _ _ ?_ ?_;(first | exact Or.inl rfl | exact Or.inr rfl);(simp [-zg,-zd,↓Qb,↓Qa,go_sem,Try.results97,zabb];done))
 | skip)
@[go_sem] def zalh:Con:=.prel fun
  | [.list n_bs c_bs,.int .i64 s,.int .i64 u]=>((Is cX n_bs c_bs) ∧ (AllW (de cX c_bs)) ∧ (0 ≤ u) ∧ (u < (de cX c_bs).length) ∧ ((nth (de cX c_bs) u.toNat).k = 7),fun c=>Wd (zabv (de cX c_bs) s u c))
  | _=>(False,fun _=>.any)
theorem l7FulfilsC_ok:ConOk Try.prog 97 zalh:=by
  refine ⟨Qp Try.func97 (by decide) rfl,fun args h=>?_⟩
  revert h
  dsimp only
  split
  · intro h
    obtain ⟨⟨bs,rfl,rfl⟩,hA,h0,h1,hk⟩:=h
    try simp only [Qr] at *
    exact ⟨l7Fulfils_pure bs _ _ hA h0 h1 hk,fun c=>by simp [go_sem]⟩
  · intro h
    exact h.elim
@[go_sem] def Γy19:FuncId → Con:=ext Γy18 97 zalh
theorem Ve:∀ g,ConOk Try.prog g (Γy19 g):=Qo Γy18_ok l7FulfilsC_ok

theorem bitsD_le (x y:Int):bitsD .or .i64 x y ≤ 9223372036854775807:=by
  show IntKind.i64.wrap _ ≤ _
  unfold IntKind.wrap;simp [IntKind.bits,IntKind.signed];split <;> omega

@[go_sem] def zabl:Int × Int → D:=fun x=>.tup [.int .i64 x.1,.int .i64 x.2]
def zaax (bs:List Tree) (s:Int):Int × Int → Prop:=fun x=>x.2 ≤ 9223372036854775807
def zacr (bs:List Tree) (s:Int) (c:Any):Int × Int:=sel (zaax bs s) ((0,0)) c
theorem l7Letter_ok (bs:List Tree) (s:Int) (hA:AllW bs) (c:Any):zaax bs s (zacr bs s c):=Jh (p:=zaax bs s) (x0:=(0,0)) (by simp [zaax]) c
theorem l7Letter_ret (bs:List Tree) (s:Int) {e_:Exit} {S_:St} (x:Int × Int) (he_:e_ = .ret ∨ e_ = .normal)
    (h1:(Ql Try.prog S_ Try.f77.results.toList).1 ∧ resD (Ql Try.prog S_ Try.f77.results.toList).2.1 = zabl x) (hg:zaax bs s x) :
    retR Try.prog Try.f77 (fun c=>(zabl (zacr bs s c),fun _=>none)) e_ S_:=Jd (enc:=zabl) x he_ h1 hg
set_option maxHeartbeats 8000000 in
theorem l7Letter_pure (bs:List Tree) (s:Int) (hA:AllW bs):PureR Try.prog 77 [li cX bs,.int .i64 s] (fun c=>zabl (zacr bs s c)):=by
  refine PureR.of_walk Try.func77 rfl (by simp [Try.f77]) (fun c=>by simp [-zd,go_sem]) fun B hK=>?_
  (repeat' (first
 | refine Qu ?_
 | refine Qc (id:=0) Ve [] (by kernel_rfl) ?_;simp [-zg,-zd,↓Qb,↓Qa,go_sem]
 | refine Qc (id:=1) Ve [] (by kernel_rfl) ?_;simp [-zg,-zd,↓Qb,↓Qa,go_sem]
 | refine Qc (id:=2) Ve [] (by kernel_rfl) ?_;simp [-zg,-zd,↓Qb,↓Qa,go_sem]
 | (refine Vb 0 rfl fun hm=>?_);refine Qc (id:=3) Ve [] (by kernel_rfl) ?_;simp [-zg,-zd,↓Qb,↓Qa,go_sem]
 | refine Qc (id:=4) Ve [] (by kernel_rfl) ?_;simp [-zg,-zd,↓Qb,↓Qa,go_sem]
 | ((obtain ⟨⟨uk,uv,us⟩,hu⟩:∃ u,nth bs q.1 = u:=⟨_,rfl⟩);(have hw:WellF (.mk uk uv us):=(by rw [← hu];exact hA.at c12));(have hv:=hw.at);(obtain ⟨v1,v2,v3,v4⟩:=hv));refine Qc (id:=6) Ve [] (by kernel_rfl) ?_;simp [-zg,-zd,↓Qb,↓Qa,go_sem,c12,Qj c12,zsP c12,hu]
 | refine Qc (id:=7) Ve [] (by kernel_rfl) ?_;simp [-zg,-zd,↓Qb,↓Qa,go_sem,c12,Qj c12,zsP c12,hu,wrapu_nn uv];try ((generalize bitsD BinOp.or IntKind.i64 q.2.1 (IntKind.i64.wrap (2 ^ min (IntKind.u64.wrap uv).toNat 64)) = cr at *))
 | refine Qc (id:=8) Ve [] (by kernel_rfl) ?_;simp [-zg,-zd,↓Qb,↓Qa,go_sem]
 | refine Qc (id:=9) Ve [] (by kernel_rfl) ?_;simp [-zg,-zd,↓Qb,↓Qa,go_sem,c12,Qj c12,zsP c12,hu,wrapu_nn uv];try ((have h9:=bitsD_le q.2.2 (IntKind.i64.wrap (2 ^ min (IntKind.u64.wrap uv).toNat 64)));(generalize bitsD BinOp.or IntKind.i64 q.2.2 (IntKind.i64.wrap (2 ^ min (IntKind.u64.wrap uv).toNat 64)) = vr at *))
 | refine Qc (id:=5) Ve [] (by kernel_rfl) ?_;simp [-zg,-zd,↓Qb,↓Qa,go_sem,wrapS (k:=q.1) (by omega)]
 | refine Qc (id:=10) Ve [] (by kernel_rfl) ?_;simp [-zg,-zd,↓Qb,↓Qa,go_sem]
 | refine Qd (c:=.tmp 12) ?_;simp [-zg,-zd,↓Qb,↓Qa,go_sem];try first | (refine ⟨?_,?_⟩ <;> refine zA ?_) | (refine ⟨fun c12=>?_,fun c12=>?_⟩ <;> (try simp [B_iff,B_not] at c12))
 | refine Qd (c:=.tmp 20) ?_;simp [-zg,-zd,↓Qb,↓Qa,go_sem];try first | (refine ⟨?_,?_⟩ <;> refine zA ?_) | (refine ⟨fun c20=>?_,fun c20=>?_⟩ <;> (try simp [B_iff,B_not] at c20))
 | refine Qd (c:=.tmp 32) ?_;simp [-zg,-zd,↓Qb,↓Qa,go_sem];try first | (refine ⟨?_,?_⟩ <;> refine zA ?_) | (refine ⟨fun c32=>?_,fun c32=>?_⟩ <;> (try simp [B_iff,B_not] at c32))
 | (refine Qe (id:=0) (Qz (ι:=Nat × Int × Int) (fun q:Nat × Int × Int=>⟨(upd (upd (upd (upd (upd (fun _=>.any) 0 (li cX bs)) 1 (.int .i64 s)) 6 (.int .i64 q.2.1)) 7 (.int .i64 q.2.2)) 8 (.int .i64 q.1)),fun _=>none⟩) (fun q=>q.1 ≤ bs.length ∧ q.2.2 ≤ 9223372036854775807) (fun q=>bs.length - q.1) ((0,0,0)) ?_ ?_ ?_);exact ⟨Nat.zero_le _,by dsimp only;omega⟩;((repeat' (first | exact Qg (by assumption) | exact Qi | refine Qf ?_ ?_ | refine Qh ?_)) <;> simp [-zg,-zd,↓Qb,↓Qa,go_sem]);rintro q ⟨g1,g2⟩)
 | (refine ⟨(q.1 + 1,cr,vr),⟨by dsimp only;omega,h9⟩,by first | omega | (simp;done) | (simp;omega),?_⟩;((repeat' (first | exact Qg (by assumption) | exact Qi | refine Qf ?_ ?_ | refine Qh ?_)) <;> simp [-zg,-zd,↓Qb,↓Qa,go_sem]))
 | (refine Qe ?_)
 | (refine Qt ?_;simp [-zg,-zd,↓Qb,↓Qa,go_sem])
 | (refine Qs ?_;simp [-zg,-zd,↓Qb,↓Qa,go_sem])
 | (refine Qv ?_;try simp [-zg,-zd,↓Qb,↓Qa,go_sem,Try.results77])
 | (intro hx;refine zA ?_)
 | (intro hx;change retR _ _ _ _ _)
 | (refine ⟨?_,?_⟩ <;> refine zA ?_)
 | (intro hx;constructor <;> intro hs)
 | (constructor <;> intro hs)
 | (refine ⟨?_,fun hs=>?_⟩;refine zA ?_)
 | (refine ⟨fun hs=>?_,?_⟩;rotate_left;refine zA ?_;rotate_left)
 | ((fail_if_success change retR _ _ _ _ _);(refine ⟨(q.1 + 1,cr,q.2.2),⟨by dsimp only;omega,g2⟩,by dsimp only;omega,?_⟩;((repeat' (first | exact Qg (by assumption) | exact Qi | refine Qf ?_ ?_ | refine Qh ?_)) <;> simp [-zg,-zd,go_sem]);done))
 | ((fail_if_success change retR _ _ _ _ _);(refine ⟨(q.1 + 1,q.2.1,q.2.2),⟨by dsimp only;omega,g2⟩,by dsimp only;omega,?_⟩;((repeat' (first | exact Qg (by assumption) | exact Qi | refine Qf ?_ ?_ | refine Qh ?_)) <;> simp [-zg,-zd,go_sem]);done))))
  all_goals (first
 | (refine l7Letter_ret _ _ ((q.2.1,q.2.2)) ?_ ?_ ?_;(first | exact Or.inl rfl | exact Or.inr rfl);(focus (simp [-zg,-zd,↓Qb,↓Qa,go_sem,Try.results77];done));(focus ((exact g2);done)))
 | skip)
@[go_sem] def l7LetterC:Con:=.prel fun
  | [.list n_bs c_bs,.int .i64 s]=>((Is cX n_bs c_bs) ∧ (AllW (de cX c_bs)),fun c=>zabl (zacr (de cX c_bs) s c))
  | _=>(False,fun _=>.any)
theorem l7LetterC_ok:ConOk Try.prog 77 l7LetterC:=by
  refine ⟨Qp Try.func77 (by decide) rfl,fun args h=>?_⟩
  revert h
  dsimp only
  split
  · intro h
    obtain ⟨⟨bs,rfl,rfl⟩,hA⟩:=h
    try simp only [Qr] at *
    exact ⟨l7Letter_pure bs _ hA,fun c=>by simp [go_sem]⟩
  · intro h
    exact h.elim
@[go_sem] def Γy20:FuncId → Con:=ext Γy19 77 l7LetterC
theorem Us:∀ g,ConOk Try.prog g (Γy20 g):=Qo Ve l7LetterC_ok

def UntOk (bs:List Tree) (us:List Int):Prop:=us.length ≤ bs.length ∧ ∀ u,u ∈ us → 0 ≤ u ∧ u < bs.length ∧ (nth bs u.toNat).k = 7
theorem UntOk.nil (bs:List Tree):UntOk bs []:=⟨by simp,fun u h=>nomatch h⟩
def UntK (bs:List Tree) (us:List Int) (k:Nat):Prop:=us.length ≤ k ∧ ∀ u,u ∈ us → 0 ≤ u ∧ u < bs.length ∧ (nth bs u.toNat).k = 7
theorem UntK.snoc {bs:List Tree} {us:List Int} {k:Nat} (h:UntK bs us k) (hk:k < bs.length) (e:(nth bs k).k = 7):UntK bs (us ++ [(k:Int)]) (k + 1):=by
  refine ⟨by have:=h.1;simp;omega,fun u hu=>?_⟩
  rcases List.mem_append.1 hu with q | q
  · exact h.2 u q
  · have:u = (k:Int):=by simpa using q
    subst this
    exact ⟨by omega,by omega,by rw [Int.toNat_natCast];exact e⟩
theorem UntK.skip {bs:List Tree} {us:List Int} {k:Nat} (h:UntK bs us k):UntK bs us (k + 1):=⟨by have:=h.1;omega,h.2⟩

@[go_sem] def zabk:List Int → D:=fun x=>fr 1 cI x
def zabt (bs:List Tree):List Int → Prop:=fun x=>UntOk bs x
def zacp (bs:List Tree) (c:Any):List Int:=sel (zabt bs) ([]) c
theorem l7Untils_ok (bs:List Tree) (hl:bs.length ≤ 1000) (c:Any):zabt bs (zacp bs c):=Jh (p:=zabt bs) (x0:=[]) (UntOk.nil bs) c
theorem l7Untils_ret (bs:List Tree) {e_:Exit} {S_:St} (x:List Int) (he_:e_ = .ret ∨ e_ = .normal)
    (h1:(Ql Try.prog S_ Try.f74.results.toList).1 ∧ resD (Ql Try.prog S_ Try.f74.results.toList).2.1 = zabk x) (hg:zabt bs x) :
    retR Try.prog Try.f74 (fun c=>(zabk (zacp bs c),fun _=>none)) e_ S_:=Jd (enc:=zabk) x he_ h1 hg
set_option maxHeartbeats 8000000 in
theorem l7Untils_pure (bs:List Tree) (hl:bs.length ≤ 1000):PureR Try.prog 74 [li cX bs] (fun c=>zabk (zacp bs c)):=by
  refine PureR.of_walk Try.func74 rfl (by simp [Try.f74]) (fun c=>by simp [-zd,go_sem]) fun B hK=>?_
  (repeat' (first
 | refine Qu ?_
 | refine Qc (id:=0) Us [] (by kernel_rfl) ?_;simp [-zg,-zd,↓Qb,↓Qa,go_sem]
 | refine Qc (id:=1) Us [] (by kernel_rfl) ?_;simp [-zg,-zd,↓Qb,↓Qa,go_sem]
 | refine Qc (id:=2) Us [] (by kernel_rfl) ?_;simp [-zg,-zd,↓Qb,↓Qa,go_sem]
 | refine Qc (id:=3) Us [] (by kernel_rfl) ?_;simp [-zg,-zd,↓Qb,↓Qa,go_sem]
 | ((have g3:=g2.1);(obtain ⟨⟨uk,uv,us⟩,hu⟩:∃ u,nth bs q.1 = u:=⟨_,rfl⟩));refine Qc (id:=5) Us [] (by kernel_rfl) ?_;simp [-zg,-zd,↓Qb,↓Qa,go_sem,c9,Qj c9,zsP c9,hu]
 | refine Qc (id:=6) Us [] (by kernel_rfl) ?_;simp [-zg,-zd,↓Qb,↓Qa,go_sem,(show q.2.length ≤ 9223372036854775806 by omega),(show 2 * (q.2.length + 1) * 8 ≤ 281474976710656 by omega),Ja];try ((have o4:=g2.snoc c9 (by rw [hu];simp only [Tree.k];omega));(have o3:(q.2 ++ [(q.1:Int)]).length = q.2.length + 1:=(by simp));(rw [← o3]);(generalize q.2 ++ [(q.1:Int)] = o2 at *))
 | refine Qc (id:=4) Us [] (by kernel_rfl) ?_;simp [-zg,-zd,↓Qb,↓Qa,go_sem,wrapS (k:=q.1) (by omega)]
 | refine Qc (id:=7) Us [] (by kernel_rfl) ?_;simp [-zg,-zd,↓Qb,↓Qa,go_sem]
 | refine Qd (c:=.tmp 9) ?_;simp [-zg,-zd,↓Qb,↓Qa,go_sem];try first | (refine ⟨?_,?_⟩ <;> refine zA ?_) | (refine ⟨fun c9=>?_,fun c9=>?_⟩ <;> (try simp [B_iff,B_not] at c9))
 | refine Qd (c:=.tmp 17) ?_;simp [-zg,-zd,↓Qb,↓Qa,go_sem];try first | (refine ⟨?_,?_⟩ <;> refine zA ?_) | (refine ⟨fun c17=>?_,fun c17=>?_⟩ <;> (try simp [B_iff,B_not] at c17))
 | (refine Qe (id:=0) (Qz (ι:=Nat × List Int) (fun q:Nat × List Int=>⟨(upd (upd (upd (fun _=>.any) 0 (li cX bs)) 3 (.fr 1 q.2.length (cat cI q.2))) 4 (.int .i64 q.1)),fun _=>none⟩) (fun q=>q.1 ≤ bs.length ∧ UntK bs q.2 q.1) (fun q=>bs.length - q.1) ((0,[])) ?_ ?_ ?_);exact ⟨Nat.zero_le _,Nat.le_refl _,fun u h=>nomatch h⟩;((repeat' (first | exact Qg (by assumption) | exact Qi | refine Qf ?_ ?_ | refine Qh ?_)) <;> simp [-zg,-zd,↓Qb,↓Qa,go_sem,List.length_nil,Xg]);rintro q ⟨g1,g2⟩)
 | (refine ⟨(q.1 + 1,o2),⟨by dsimp only;omega,o4⟩,by first | omega | (simp;done) | (simp;omega),?_⟩;((repeat' (first | exact Qg (by assumption) | exact Qi | refine Qf ?_ ?_ | refine Qh ?_)) <;> simp [-zg,-zd,↓Qb,↓Qa,go_sem,List.length_nil,Xg]))
 | (refine Qe ?_)
 | (refine Qt ?_;simp [-zg,-zd,↓Qb,↓Qa,go_sem])
 | (refine Qs ?_;simp [-zg,-zd,↓Qb,↓Qa,go_sem])
 | (refine Qv ?_;try simp [-zg,-zd,↓Qb,↓Qa,go_sem,Try.results74])
 | (intro hx;refine zA ?_)
 | (intro hx;change retR _ _ _ _ _)
 | (refine ⟨?_,?_⟩ <;> refine zA ?_)
 | (intro hx;constructor <;> intro hs)
 | (constructor <;> intro hs)
 | (refine ⟨?_,fun hs=>?_⟩;refine zA ?_)
 | (refine ⟨fun hs=>?_,?_⟩;rotate_left;refine zA ?_;rotate_left)
 | ((fail_if_success change retR _ _ _ _ _);(refine ⟨(q.1 + 1,q.2),⟨by dsimp only;omega,g2.skip⟩,by dsimp only;omega,?_⟩;((repeat' (first | exact Qg (by assumption) | exact Qi | refine Qf ?_ ?_ | refine Qh ?_)) <;> simp [-zg,-zd,go_sem]);done))))
  all_goals (first
 | (refine l7Untils_ret _ (q.2) ?_ ?_ ?_;(first | exact Or.inl rfl | exact Or.inr rfl);(focus (simp [-zg,-zd,↓Qb,↓Qa,go_sem,Try.results74,li,fr];done));(focus (((show UntOk bs q.2);exact ⟨by have:=g2.1;omega,g2.2⟩);done)))
 | skip)
@[go_sem] def l7UntilsC:Con:=.prel fun
  | [.list n_bs c_bs]=>((Is cX n_bs c_bs) ∧ ((de cX c_bs).length ≤ 1000),fun c=>zabk (zacp (de cX c_bs) c))
  | _=>(False,fun _=>.any)
theorem l7UntilsC_ok:ConOk Try.prog 74 l7UntilsC:=by
  refine ⟨Qp Try.func74 (by decide) rfl,fun args h=>?_⟩
  revert h
  dsimp only
  split
  · intro h
    obtain ⟨⟨bs,rfl,rfl⟩,hl⟩:=h
    try simp only [Qr] at *
    exact ⟨l7Untils_pure bs hl,fun c=>by simp [go_sem]⟩
  · intro h
    exact h.elim
@[go_sem] def Γy21:FuncId → Con:=ext Γy20 74 l7UntilsC
theorem zafs:∀ g,ConOk Try.prog g (Γy21 g):=Qo Us l7UntilsC_ok

def PhOk (us:List Int) (ph:Int):Prop:=0 ≤ ph ∧ ph ≤ 1000 ∧ (us.length = 0 ∨ ph < us.length)
theorem PhOk.zero (us:List Int):PhOk us 0:=⟨by omega,by omega,by omega⟩
theorem PhOk.next {us:List Int} {ph:Int} (h:PhOk us ph) (hl:us.length ≤ 1000) (hn:¬ us.length = 0):PhOk us ((ph + 1).tmod us.length):=by
  obtain ⟨h1,h2,h3⟩:=h
  have a:=Int.tmod_nonneg (a:=ph + 1) (us.length:Int) (by omega)
  have b:=Int.tmod_lt_of_pos (ph + 1) (b:=(us.length:Int)) (by omega)
  exact ⟨a,by omega,.inr b⟩

@[go_sem] def zacg:Int × Bool → D:=fun x=>.tup [.int .i64 x.1,.bool x.2]
def zacq (bs:List Tree) (us:List Int) (s:Int) (ph:Int):Int × Bool → Prop:=fun x=>PhOk us x.1
def zadi (bs:List Tree) (us:List Int) (s:Int) (ph:Int) (c:Any):Int × Bool:=sel (zacq bs us s ph) ((0,true)) c
theorem l7Phase_ok (bs:List Tree) (us:List Int) (s:Int) (ph:Int) (hA:AllW bs) (hU:UntOk bs us) (hp:PhOk us ph) (hl:us.length ≤ 1000) (c:Any):zacq bs us s ph (zadi bs us s ph c):=Jh (p:=zacq bs us s ph) (x0:=(0,true)) (PhOk.zero us) c
theorem zahy (bs:List Tree) (us:List Int) (s:Int) (ph:Int) {e_:Exit} {S_:St} (x:Int × Bool) (he_:e_ = .ret ∨ e_ = .normal)
    (h1:(Ql Try.prog S_ Try.f76.results.toList).1 ∧ resD (Ql Try.prog S_ Try.f76.results.toList).2.1 = zacg x) (hg:zacq bs us s ph x) :
    retR Try.prog Try.f76 (fun c=>(zacg (zadi bs us s ph c),fun _=>none)) e_ S_:=Jd (enc:=zacg) x he_ h1 hg
set_option maxHeartbeats 8000000 in
theorem l7Phase_pure (bs:List Tree) (us:List Int) (s:Int) (ph:Int) (hA:AllW bs) (hU:UntOk bs us) (hp:PhOk us ph) (hl:us.length ≤ 1000):PureR Try.prog 76 [li cX bs,li cI us,.int .i64 s,.int .i64 ph] (fun c=>zacg (zadi bs us s ph c)):=by
  refine PureR.of_walk Try.func76 rfl (by simp [Try.f76]) (fun c=>by simp [-zd,go_sem]) fun B hK=>?_
  obtain ⟨p1,p2,p3⟩:=id hp
  all_goals (repeat' (first
 | refine Qu ?_
 | refine Qc (id:=0) zafs [] (by kernel_rfl) ?_;simp [-zg,-zd,↓Qb,↓Qa,go_sem]
 | refine Qc (id:=1) zafs [] (by kernel_rfl) ?_;simp [-zg,-zd,↓Qb,↓Qa,go_sem]
 | refine Qc (id:=2) zafs [] (by kernel_rfl) ?_;simp [-zg,-zd,↓Qb,↓Qa,go_sem]
 | ((have hn:¬ us.length = 0:=(fun h=>c12 (List.length_eq_zero_iff.1 h)));(have hpl:ph.toNat < us.length:=(by omega));(obtain ⟨u0,u1,u2⟩:=hU.2 (nth us ph.toNat) (Xl hpl)));refine Qc (id:=3) zafs [] (by kernel_rfl) ?_;simp [-zg,-zd,↓Qb,↓Qa,go_sem,hpl,Qj hpl,zsP hpl,p1,(show ph < (us.length:Int) by omega),hA,u0,u1,u2];try ((intro c3);(generalize zabv bs s (nth us ph.toNat) c3 = zf at *))
 | refine Qc (id:=4) zafs [] (by kernel_rfl) ?_;simp [-zg,-zd,↓Qb,↓Qa,go_sem,Qw (x:=ph + 1) (by omega) (by omega),hn,(show ¬ us = [] by rintro rfl;simp at hn)]
 | refine Qc (id:=5) zafs [] (by kernel_rfl) ?_;simp [-zg,-zd,↓Qb,↓Qa,go_sem]
 | refine Qd (c:=.tmp 12) ?_;simp [-zg,-zd,↓Qb,↓Qa,go_sem];try first | (refine ⟨?_,?_⟩ <;> refine zA ?_) | (refine ⟨fun c12=>?_,fun c12=>?_⟩ <;> (try simp [B_iff,B_not] at c12))
 | refine Qd (c:=.tmp 19) ?_;simp [-zg,-zd,↓Qb,↓Qa,go_sem];try first | (refine ⟨?_,?_⟩ <;> refine zA ?_) | (refine ⟨fun c19=>?_,fun c19=>?_⟩ <;> (try simp [B_iff,B_not] at c19))
 | (refine Qe ?_)
 | (refine Qt ?_;simp [-zg,-zd,↓Qb,↓Qa,go_sem])
 | (refine Qs ?_;simp [-zg,-zd,↓Qb,↓Qa,go_sem])
 | (refine Qv ?_;try simp [-zg,-zd,↓Qb,↓Qa,go_sem,Try.results76])
 | (intro hx;refine zA ?_)
 | (intro hx;change retR _ _ _ _ _)
 | (refine ⟨?_,?_⟩ <;> refine zA ?_)
 | (intro hx;constructor <;> intro hs)
 | (constructor <;> intro hs)
 | (refine ⟨?_,fun hs=>?_⟩;refine zA ?_)
 | (refine ⟨fun hs=>?_,?_⟩;rotate_left;refine zA ?_;rotate_left)))
  all_goals (first
 | (refine zahy _ _ _ _ ((0,true)) ?_ ?_ ?_;(first | exact Or.inl rfl | exact Or.inr rfl);(focus (simp [-zg,-zd,↓Qb,↓Qa,go_sem,Try.results76];done));(focus ((exact PhOk.zero us);done)))
 | (refine zahy _ _ _ _ (((ph + 1).tmod us.length,decide (ph = 0))) ?_ ?_ ?_;(first | exact Or.inl rfl | exact Or.inr rfl);(focus (simp [-zg,-zd,↓Qb,↓Qa,go_sem,Try.results76];done));(focus ((exact hp.next hl hn);done)))
 | (refine zahy _ _ _ _ ((ph,false)) ?_ ?_ ?_;(first | exact Or.inl rfl | exact Or.inr rfl);(focus (simp [-zg,-zd,↓Qb,↓Qa,go_sem,Try.results76];done));(focus ((exact hp);done)))
 | skip)
@[go_sem] def l7PhaseC:Con:=.prel fun
  | [.list n_bs c_bs,.list n_us c_us,.int .i64 s,.int .i64 ph]=>((Is cX n_bs c_bs) ∧ (Is cI n_us c_us) ∧ (AllW (de cX c_bs)) ∧ (UntOk (de cX c_bs) (de cI c_us)) ∧ (PhOk (de cI c_us) ph) ∧ ((de cI c_us).length ≤ 1000),fun c=>zacg (zadi (de cX c_bs) (de cI c_us) s ph c))
  | _=>(False,fun _=>.any)
theorem l7PhaseC_ok:ConOk Try.prog 76 l7PhaseC:=by
  refine ⟨Qp Try.func76 (by decide) rfl,fun args h=>?_⟩
  revert h
  dsimp only
  split
  · intro h
    obtain ⟨⟨bs,rfl,rfl⟩,⟨us,rfl,rfl⟩,hA,hU,hp,hl⟩:=h
    try simp only [Qr] at *
    exact ⟨l7Phase_pure bs us _ _ hA hU hp hl,fun c=>by simp [go_sem]⟩
  · intro h
    exact h.elim
@[go_sem] def Γy22:FuncId → Con:=ext Γy21 76 l7PhaseC
theorem Γy22_ok:∀ g,ConOk Try.prog g (Γy22 g):=Qo zafs l7PhaseC_ok

@[go_sem] def Γy22x:FuncId → Con:=ext Γy22 49 zadw
theorem Wm:∀ g,ConOk Try.prog g (Γy22x g):=Qo Γy22_ok zafp

@[go_sem] def zach:List (List Int) × Int → D:=fun x=>.tup [.fr 1 x.1.length (cat cL x.1),.int .i64 x.2]
def zadj (xs:List (List Int)) (pr:List Int):List (List Int) × Int → Prop:=fun x=>(x.1 = xs ∨ x.1 = xs ++ [pr])
def zaeq (xs:List (List Int)) (pr:List Int) (c:Any):List (List Int) × Int:=sel (zadj xs pr) ((xs,0)) c
theorem l7Pair_ok (xs:List (List Int)) (pr:List Int) (hn:xs.length ≤ 100000) (c:Any):zadj xs pr (zaeq xs pr c):=Jh (p:=zadj xs pr) (x0:=(xs,0)) (.inl rfl) c
theorem l7Pair_ret (xs:List (List Int)) (pr:List Int) {e_:Exit} {S_:St} (x:List (List Int) × Int) (he_:e_ = .ret ∨ e_ = .normal)
    (h1:(Ql Try.prog S_ Try.f21.results.toList).1 ∧ resD (Ql Try.prog S_ Try.f21.results.toList).2.1 = zach x) (hg:zadj xs pr x) :
    retR Try.prog Try.f21 (fun c=>(zach (zaeq xs pr c),fun _=>none)) e_ S_:=Jd (enc:=zach) x he_ h1 hg
set_option maxHeartbeats 8000000 in
theorem l7Pair_pure (xs:List (List Int)) (pr:List Int) (hn:xs.length ≤ 100000):SpecR Try.prog 21 [fr 1 cL xs,fr 1 cI pr] (fun _=>none) (fun c=>(zach (zaeq xs pr c),fun _=>none)):=by
  refine SpecR.of_walk Try.func21 rfl (by simp [Try.f21]) fun B=>?_
  (repeat' (first
 | refine Qu ?_
 | ((refine Xv 1 ?_);(simp only [go_sem,dat,Xd,Zj]);(refine Zk 0 rfl fun nb cp j hnb hcp hcj=>?_);(simp only [go_sem] at hnb ⊢);(clear hnb);(have e0:=Xy (f:=cL) xs (List.replicate j D.any)));refine Qc (id:=0) Wm [] (by kernel_rfl) ?_;simp [-zg,-zd,↓Qb,↓Qa,go_sem]
 | refine Qc (id:=1) Wm [] (by kernel_rfl) ?_;simp [-zg,-zd,↓Qb,↓Qa,go_sem]
 | refine Qc (id:=2) Wm [] (by kernel_rfl) ?_;simp [-zg,-zd,↓Qb,↓Qa,go_sem]
 | refine Qc (id:=4) Wm [] (by kernel_rfl) ?_;simp [-zg,-zd,↓Qb,↓Qa,go_sem,c10,Qj c10,zsP c10,(show i < xs.length + j by omega)]
 | ((refine Jz 0 (b:=nb) (all:=cat cL xs ++ List.replicate j D.any) rfl (by simp [upd]) (by omega) (by simp [Qx]) (by simp [Qx];omega) ?_));refine Qc (id:=5) Wm [] (by kernel_rfl) ?_;simp [-zg,-zd,↓Qb,↓Qa,go_sem]
 | refine Qc (id:=3) Wm [] (by kernel_rfl) ?_;simp [-zg,-zd,↓Qb,↓Qa,go_sem,wrapS (k:=i) (by omega)]
 | refine Qc (id:=6) Wm [] (by kernel_rfl) ?_;simp [-zg,-zd,↓Qb,↓Qa,go_sem,(show xs.length ≤ 9223372036854775806 by omega),(show 2 * (xs.length + 1) * 24 ≤ 281474976710656 by omega),(show cp ≤ xs.length + j by omega),hcj,(show xs.length ≤ xs.length + j by omega)]
 | refine Qd (c:=.tmp 10) ?_;simp [-zg,-zd,↓Qb,↓Qa,go_sem];try first | (refine ⟨?_,?_⟩ <;> refine zA ?_) | (refine ⟨fun c10=>?_,fun c10=>?_⟩ <;> (try simp [B_iff,B_not] at c10))
 | refine Qd (c:=.tmp 18) ?_;simp [-zg,-zd,↓Qb,↓Qa,go_sem];try first | (refine ⟨?_,?_⟩ <;> refine zA ?_) | (refine ⟨fun c18=>?_,fun c18=>?_⟩ <;> (try simp [B_iff,B_not] at c18))
 | (refine Qe (id:=0) (Qz (ι:=Nat) (fun i:Nat=>⟨(upd (upd (upd (fun _=>.any) 0 (.sl nb 1 0 xs.length cp)) 1 (.list pr.length (cat cI pr))) 6 (.int .i64 i)),upd (fun _=>none) nb (some (cat cL xs ++ List.replicate j D.any))⟩) (fun i=>i ≤ xs.length) (fun i=>xs.length - i) (0) ?_ ?_ ?_);exact Nat.zero_le _;((repeat' (first | exact Qg (by assumption) | exact Qi | refine Qf ?_ ?_ | refine Qh ?_)) <;> simp [-zg,-zd,↓Qb,↓Qa,go_sem]);rintro i hi)
 | (refine ⟨i + 1,by omega,by first | omega | (simp;done) | (simp;omega),?_⟩;((repeat' (first | exact Qg (by assumption) | exact Qi | refine Qf ?_ ?_ | refine Qh ?_)) <;> simp [-zg,-zd,↓Qb,↓Qa,go_sem]))
 | (refine Qe ?_)
 | (refine Qt ?_;simp [-zg,-zd,↓Qb,↓Qa,go_sem])
 | (refine Qs ?_;simp [-zg,-zd,↓Qb,↓Qa,go_sem])
 | (refine Qv ?_;try simp [-zg,-zd,↓Qb,↓Qa,go_sem,Try.results21])
 | (intro hx;refine zA ?_)
 | (intro hx;change retR _ _ _ _ _)
 | (refine ⟨?_,?_⟩ <;> refine zA ?_)
 | (intro hx;constructor <;> intro hs)
 | (constructor <;> intro hs)
 | (refine ⟨?_,fun hs=>?_⟩;refine zA ?_)
 | (refine ⟨fun hs=>?_,?_⟩;rotate_left;refine zA ?_;rotate_left)))
  all_goals (first
 | (refine l7Pair_ret _ _ ((xs,(i:Int))) ?_ ?_ ?_;(first | exact Or.inl rfl | exact Or.inr rfl);(focus (simp [-zg,-zd,↓Qb,↓Qa,go_sem,Try.results21,Xy];done));(focus ((exact .inl rfl);done)))
 | (refine l7Pair_ret _ _ ((xs ++ [pr],(xs.length:Int))) ?_ ?_ ?_;(first | exact Or.inl rfl | exact Or.inr rfl);(focus (simp [-zg,-zd,↓Qb,↓Qa,go_sem,Try.results21,Zi,Zf,li,cL];done));(focus ((exact .inr rfl);done)))
 | skip)
@[go_sem] def l7PairC:Con:=.rel fun args H=>match args with
  | [.fr 1 n_xs c_xs,.fr 1 n_pr c_pr]=>((Is cL n_xs c_xs) ∧ (Is cI n_pr c_pr) ∧ ((de cL c_xs).length ≤ 100000),fun c=>(zach (zaeq (de cL c_xs) (de cI c_pr) c),H))
  | _=>(False,fun _=>(.any,H))
theorem l7PairC_ok:ConOk Try.prog 21 l7PairC:=by
  refine ⟨Qp Try.func21 (by decide) rfl,fun args H h=>?_⟩
  revert h
  dsimp only
  split
  · intro h
    obtain ⟨⟨xs,rfl,rfl⟩,⟨pr,rfl,rfl⟩,hn⟩:=h
    try simp only [Qr] at *
    exact (SpecR.frame0 (l7Pair_pure xs pr hn) (H:=H))
  · intro h
    exact h.elim
@[go_sem] def Γy23:FuncId → Con:=ext Γy22x 21 l7PairC
theorem Xh:∀ g,ConOk Try.prog g (Γy23 g):=Qo Wm l7PairC_ok

end
end Go.Proofs.Ytnfldmfamnhpcaa.Vm

