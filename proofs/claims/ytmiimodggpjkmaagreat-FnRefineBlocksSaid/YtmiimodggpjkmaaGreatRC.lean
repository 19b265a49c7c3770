/-
  Draws of labels. No conditions.
-/
import Derived.Test.YtmiimodggpjkmaaGreatRE
namespace Go.Proofs.YtmiimodggpjkmaaGreat.Vm
open Go
open List renaming getD_eq_getElem?_getD → zg,drop_one → zd
open Ne renaming symm → zS
noncomputable section
set_option linter.unusedVariables false
set_option linter.unusedSimpArgs false
set_option maxRecDepth 200000

theorem Spec.shutF {P:Program} {f:FuncId} {args:List D} {r:D} (h:Spec P f args (fun _=>none) r (fun _=>none)) (H:Hp):Spec P f args H (dat r) H:=by
  have h1:SpecR P f args (fun _=>none) (fun _=>(r,fun _=>none)):=fun w J vs μ fp N hR=>(h w J vs μ fp N hR).mono fun e w' ⟨v,μ',fp',N',he,hr⟩=>⟨⟨Unit,()⟩,v,μ',fp',N',he,hr⟩
  have h2:=(SpecR.frame0 (r:=fun _=>r) h1 (H:=H)).shut
  exact fun w J vs μ fp N hR=>(h2 w J vs μ fp N hR).mono fun e w' ⟨c,v,μ',fp',N',he,hr⟩=>⟨v,μ',fp',N',he,hr⟩
theorem Spec.shutG {P:Program} {f:FuncId} {args:List D} {r r2:D} (h:Spec P f args (fun _=>none) r (fun _=>none)) (hd:dat r = r2) (H:Hp):Spec P f args H r2 H:=hd ▸ Spec.shutF h H

mutual
def subT:Tree → Tree
  | .mk k v ks=>if k = 2 ∧ v = -1 then .mk 0 0 [] else .mk k v (subL ks)
def subL:List Tree → List Tree
  | []=>[]
  | t :: ts=>subT t :: subL ts
end
theorem subL_eq:∀ ts,subL ts = ts.map subT
  | []=>rfl
  | t :: ts=>by rw [subL,subL_eq ts];rfl
theorem subT_yes {k v:Int} {ks:List Tree} (h1:k = 2) (h2:v = -1):subT (.mk k v ks) = .mk 0 0 []:=by rw [subT,if_pos ⟨h1,h2⟩]
theorem subT_no {k v:Int} {ks:List Tree} (h:k = 2 → ¬ v = -1):subT (.mk k v ks) = .mk k v (subL ks):=by rw [subT,if_neg fun q=>h q.1 q.2]
theorem subL_succ {ks:List Tree} {i:Nat} (h:i < ks.length):subL (ks.take (i + 1)) = subL (ks.take i) ++ [subT (nth ks i)]:=by
  rw [subL_eq,subL_eq,List.take_succ_eq_append_getElem h,List.map_append,Xa h];rfl
theorem subL_len (ks:List Tree):(subL ks).length = ks.length:=by rw [subL_eq,List.length_map]
theorem tms_app:∀ a b:List Tree,tms (a ++ b) = tms a + tms b
  | [],b=>by simp [tms]
  | t :: ts,b=>by rw [List.cons_append,tms,tms_app ts b,tms];omega
mutual
theorem tm_sub:∀ t,tm (subT t) ≤ tm t
  | .mk k v ks=>by
    rw [subT];split
    · simp [tm,tms]
    · rw [tm,tm];exact tms_sub ks
theorem tms_sub:∀ ts,tms (subL ts) ≤ tms ts
  | []=>by simp [subL]
  | t :: ts=>by rw [subL,tms,tms];have:=tm_sub t;have:=tms_sub ts;omega
end
theorem tms_len (ts:List Tree):ts.length ≤ tms ts:=by rw [tms_eq];omega
theorem tms_nth {ks:List Tree} {i:Nat} (h:i < ks.length):tm (nth ks i) < tms ks:=by
  rw [tms_eq];have:=msum_at (m:=tm) h;omega
theorem tms_kid {ks:List Tree} {i N:Nat} (h:i < ks.length) (hs:tms ks ≤ N):tms (nth ks i).ks ≤ N:=by
  have h1:=tms_nth h
  rw [tm_eq,← tms_eq] at h1
  omega
theorem sub_res {k v:Int} {ks:List Tree} {n:Nat} (h:k = 2 → ¬ v = -1) (hn:n = ks.length):k = (subT (.mk k v ks)).k ∧ v = (subT (.mk k v ks)).v ∧ n = (subT (.mk k v ks)).ks.length ∧ cat cX (subL (ks.take n)) = cat cX (subT (.mk k v ks)).ks:=by
  subst hn;rw [subT_no h,List.take_length];exact ⟨rfl,rfl,(subL_len ks).symm,rfl⟩
def mS (k:Int) (ks:List Tree):Nat:=2 * tms ks + if k = 2 then 1 else 0
theorem mS_kid {k:Int} {ks:List Tree} {i n:Nat} (h:i < ks.length) (hn:mS k ks < n + 1):mS (nth ks i).k (nth ks i).ks < n:=by
  have h1:=tms_nth h
  have h2:tm (nth ks i) = tms (nth ks i).ks:=by cases nth ks i;rw [tm];rfl
  unfold mS at *
  split at hn <;> split <;> omega
set_option maxHeartbeats 1000000 in
theorem l1Subst0_spec (x:D) (u:Int) (y:D) (hx:x = .st [.int .i64 0,.int .i64 0,.nil] ∨ x = .st [.int .i64 0,.int .i64 0,.list 0 []]) (hu:u = -1) (hy:y = .st [.int .i64 0,.int .i64 0,.nil] ∨ y = .st [.int .i64 0,.int .i64 0,.list 0 []]):Spec Tryz.prog 78 [x,.int .i64 u,y] (fun _=>none) (.st [.int .i64 0,.int .i64 0,.fr 3 0 []]) (fun _=>none):=by
  refine Spec.of_walk Tryz.func78 rfl (by simp [Tryz.f78]) fun B=>?_
  subst hu;rcases hx with rfl | rfl <;> rcases hy with rfl | rfl
  all_goals (repeat' (first
 | refine Qt ?_
 | refine Qc (id:=0) Vr [] (by kernel_rfl) ?_;simp [-zg,-zd,↓Qb,↓Qa,go_sem];try (refine Xe 3 ?_;refine Xe 5 ?_;simp [go_sem])
 | refine Qc (id:=1) Vr [12] (by kernel_rfl) ?_;simp [-zg,-zd,↓Qb,↓Qa,go_sem];try (refine ⟨fun s1a=>?_,fun s1a=>?_⟩ <;> (try simp [B_iff,B_not] at s1a) <;> try (refine ⟨fun s1b=>?_,fun s1b=>?_⟩ <;> (try simp [B_iff,B_not] at s1b)))
 | refine Qc (id:=2) Vr [] (by kernel_rfl) ?_;simp [-zg,-zd,↓Qb,↓Qa,go_sem]
 | refine Qc (id:=3) Vr [] (by kernel_rfl) ?_;simp [-zg,-zd,↓Qb,↓Qa,go_sem];try ((refine zamx 7 3 rfl ?_);(refine Zn 7 rfl fun qb hqb=>?_))
 | refine Qc (id:=4) Vr [] (by kernel_rfl) ?_;simp [-zg,-zd,↓Qb,↓Qa,go_sem]
 | refine Qc (id:=5) Vr [] (by kernel_rfl) ?_;simp [-zg,-zd,↓Qb,↓Qa,go_sem]
 | refine Xm (id:=7) Vr mixed [] [] (by kernel_rfl) (by kernel_rfl) (by simp [-zg,-zd,↓Qb,↓Qa,go_sem]) ?_;simp [-zg,-zd,↓Qb,↓Qa,go_sem]
 | refine Qc (id:=6) Vr [] (by kernel_rfl) ?_;simp [-zg,-zd,↓Qb,↓Qa,go_sem]
 | refine Qc (id:=8) Vr [] (by kernel_rfl) ?_;simp [-zg,-zd,↓Qb,↓Qa,go_sem]
 | refine Qd (c:=.tmp 17) ?_;simp [-zg,-zd,↓Qb,↓Qa,go_sem];try first | (refine ⟨?_,?_⟩ <;> refine zA ?_) | (refine ⟨fun c17=>?_,fun c17=>?_⟩ <;> (try simp [B_iff,B_not] at c17))
 | refine Qd (c:=.tmp 30) ?_;simp [-zg,-zd,↓Qb,↓Qa,go_sem];try first | (refine ⟨?_,?_⟩ <;> refine zA ?_) | (refine ⟨fun c30=>?_,fun c30=>?_⟩ <;> (try simp [B_iff,B_not] at c30))
 | (refine Qg (id:=0) (Qx (ι:=Nat) (fun i:Nat=>⟨(upd (upd (upd (upd (upd (upd (fun _=>.any) 1 (.int .i64 (-1))) 3 (.pd [.int .i64 0,.int .i64 0,.list 0 []])) 5 (.pd [.int .i64 0,.int .i64 0,.list 0 []])) 6 (.box [.int .i64 0,.int .i64 0,.nil])) 7 (.ptr qb 0)) 8 (.int .i64 0)),upd (fun _=>none) qb (some [.int .i64 0,.int .i64 0,.fr 3 0 []])⟩) (fun i=>i = 0) (fun i=>i) (0) ?_ ?_ ?_);exact rfl;((repeat' (first | exact Qh (by assumption) | exact Qj | refine Qk ?_ ?_ | refine Qi ?_)) <;> simp [-zg,-zd,↓Qb,↓Qa,go_sem]);rintro i hi)
 | (refine ⟨0,rfl,by first | omega | (simp;done) | (simp;omega),?_⟩;((repeat' (first | exact Qh (by assumption) | exact Qj | refine Qk ?_ ?_ | refine Qi ?_)) <;> simp [-zg,-zd,↓Qb,↓Qa,go_sem]))
 | (refine Qg ?_)
 | (refine Qs ?_;simp [-zg,-zd,↓Qb,↓Qa,go_sem])
 | (refine Qr ?_;simp [-zg,-zd,↓Qb,↓Qa,go_sem])
 | (refine Qq ?_;simp [-zg,-zd,↓Qb,↓Qa,go_sem,Tryz.results78])
 | (intro hx;refine zA ?_)
 | (refine ⟨?_,?_⟩ <;> refine zA ?_)
 | (intro hx;constructor <;> intro hs)
 | (constructor <;> intro hs)
 | (refine ⟨?_,fun hs=>?_⟩;refine zA ?_)
 | (refine ⟨fun hs=>?_,?_⟩;rotate_left;refine zA ?_;rotate_left)))
@[go_sem] def zaeh:Con:=.gen fun args H=>match args with
  | [x,.int .i64 u,y]=>((x = .st [.int .i64 0,.int .i64 0,.nil] ∨ x = .st [.int .i64 0,.int .i64 0,.list 0 []]) ∧ (u = -1) ∧ (y = .st [.int .i64 0,.int .i64 0,.nil] ∨ y = .st [.int .i64 0,.int .i64 0,.list 0 []]),.st [.int .i64 0,.int .i64 0,.fr 3 0 []],H)
  | _=>(False,.any,H)
theorem zajl:ConOk Tryz.prog 78 zaeh:=by
  refine ⟨Qo Tryz.func78 (by decide) rfl,fun args H h=>?_⟩
  revert h
  dsimp only
  split
  · intro h
    obtain ⟨hx,hu,hy⟩:=h
    try simp only [Qm] at *
    exact Spec.frameF (l1Subst0_spec _ _ _ hx hu hy) H
  · intro h
    exact h.elim
@[go_sem] def Γl2:FuncId → Con:=ext Γm7 78 zaeh
theorem Γl2_ok:∀ g,ConOk Tryz.prog g (Γl2 g):=Qn Vr zajl

@[go_sem] def zaho (n_:Nat):Con:=.gen fun args H=>match args with
  | [.st [.int .i64 k,.int .i64 v,.list n_ks c_ks],.int .i64 u,y]=>((Is cX n_ks c_ks) ∧ (u = -1) ∧ (y = .st [.int .i64 0,.int .i64 0,.nil] ∨ y = .st [.int .i64 0,.int .i64 0,.list 0 []]) ∧ (tms (de cX c_ks) ≤ 1000) ∧ (mS k (de cX c_ks) < n_),.st [.int .i64 (subT (.mk k v (de cX c_ks))).k,.int .i64 (subT (.mk k v (de cX c_ks))).v,li cX (subT (.mk k v (de cX c_ks))).ks],H)
  | _=>(False,.any,H)
theorem zajk {n_:Nat} (ih:∀ (k:Int) (v:Int) (ks:List Tree) (u:Int) (y:D) (hu:u = -1) (hy:y = .st [.int .i64 0,.int .i64 0,.nil] ∨ y = .st [.int .i64 0,.int .i64 0,.list 0 []]) (hs:tms ks ≤ 1000) (hm_:mS k ks < n_),Spec Tryz.prog 78 [.st [.int .i64 k,.int .i64 v,li cX ks],.int .i64 u,y] (fun _=>none) (.st [.int .i64 (subT (.mk k v ks)).k,.int .i64 (subT (.mk k v ks)).v,fr 3 cX (subT (.mk k v ks)).ks]) (fun _=>none)):ConOk Tryz.prog 78 (zaho n_):=by
  refine ⟨Qo Tryz.func78 (by decide) rfl,fun args H h=>?_⟩
  revert h
  dsimp only
  split
  · intro h
    obtain ⟨⟨ks,rfl,rfl⟩,hu,hy,hs,hm_⟩:=h
    try simp only [Qm] at *
    exact Spec.shutG (ih _ _ ks _ _ hu hy hs hm_) (by simp [go_sem]) H
  · intro h
    exact h.elim
set_option maxHeartbeats 2000000 in
theorem zalp:∀ (n_:Nat),∀ (k:Int) (v:Int) (ks:List Tree) (u:Int) (y:D) (hu:u = -1) (hy:y = .st [.int .i64 0,.int .i64 0,.nil] ∨ y = .st [.int .i64 0,.int .i64 0,.list 0 []]) (hs:tms ks ≤ 1000) (hm_:mS k ks < n_),Spec Tryz.prog 78 [.st [.int .i64 k,.int .i64 v,li cX ks],.int .i64 u,y] (fun _=>none) (.st [.int .i64 (subT (.mk k v ks)).k,.int .i64 (subT (.mk k v ks)).v,fr 3 cX (subT (.mk k v ks)).ks]) (fun _=>none):=by
  intro n_
  induction n_ with
  | zero=>intros;omega
  | succ n_ ih =>
  intro k v ks u y hu hy hs hm_
  have Γr_ok:=Qn Γl2_ok (zajk ih)
  refine Spec.of_walk Tryz.func78 rfl (by simp [Tryz.f78]) fun B=>?_
  subst hu;have hkl:=tms_len ks;rcases hy with rfl | rfl
  all_goals (repeat' (first
 | refine Qt ?_
 | refine Qc (id:=0) Γr_ok [] (by kernel_rfl) ?_;simp [-zg,-zd,↓Qb,↓Qa,go_sem];try (refine Xe 3 ?_;refine Xe 5 ?_;simp [go_sem])
 | refine Qc (id:=1) Γr_ok [12] (by kernel_rfl) ?_;simp [-zg,-zd,↓Qb,↓Qa,go_sem];try (refine ⟨fun s1a=>?_,fun s1a=>?_⟩ <;> (try simp [B_iff,B_not] at s1a) <;> try (refine ⟨fun s1b=>?_,fun s1b=>?_⟩ <;> (try simp [B_iff,B_not] at s1b)))
 | (have Γr_ok:=Γl2_ok);refine Qc (id:=2) Γr_ok [] (by kernel_rfl) ?_;simp [-zg,-zd,↓Qb,↓Qa,go_sem]
 | refine Qc (id:=3) Γr_ok [] (by kernel_rfl) ?_;simp [-zg,-zd,↓Qb,↓Qa,go_sem];try ((refine zamx 7 3 rfl ?_);(refine Zn 7 rfl fun qb hqb=>?_);(clear hqb);(refine Qw (fun H1=>H1 qb = some [.int .i64 k,.int .i64 v,.fr 3 0 []]) (by simp [go_sem]) fun H1 w1=>?_))
 | refine Qc (id:=4) Γr_ok [] (by kernel_rfl) ?_;simp [-zg,-zd,↓Qb,↓Qa,go_sem]
 | refine Qc (id:=5) Γr_ok [] (by kernel_rfl) ?_;simp [-zg,-zd,↓Qb,↓Qa,go_sem]
 | ((refine Zx qb 2 (all:=[.int .i64 k,.int .i64 v,.fr 3 q.1 (cat cX (subL (ks.take q.1)))]) g2 rfl fun b cu ju hu hcu hdu=>?_);(have ub:¬ b = qb:=(by intro e;rw [e] at hu;dsimp only at hu;rw [g2] at hu;cases hu));(clear hu);(have hsl:(subL (ks.take q.1)).length = q.1:=(by rw [subL_len,List.length_take];omega)));refine Zu (id:=7) Γr_ok mixed [(qb,[.int .i64 k,.int .i64 v,.sl b 3 0 q.1 cu])] [] [] (by kernel_rfl) (by kernel_rfl) (by simp [-zg,-zd,↓Qb,↓Qa,go_sem,c30,Qe c30,Nat.sub_pos_of_lt c30,hsl,ub,zS ub,mS_kid c30 hm_,(show q.1 ≤ 9223372036854775806 by omega),(show 2 * (q.1 + 1) * 40 ≤ 281474976710656 by omega),hdu,tms_kid c30 hs,Tree.eta]) (by simp [-zg,-zd,↓Qb,↓Qa,go_sem,c30,Qe c30,Nat.sub_pos_of_lt c30,hsl,ub,zS ub,mS_kid c30 hm_,(show q.1 ≤ 9223372036854775806 by omega),(show 2 * (q.1 + 1) * 40 ≤ 281474976710656 by omega),hdu,tms_kid c30 hs,Tree.eta]) ?_;simp [-zg,-zd,↓Qb,↓Qa,go_sem,c30,Qe c30,Nat.sub_pos_of_lt c30,hsl,ub,zS ub,mS_kid c30 hm_,(show q.1 ≤ 9223372036854775806 by omega),(show 2 * (q.1 + 1) * 40 ≤ 281474976710656 by omega),hdu,tms_kid c30 hs,Tree.eta];try (refine Qw (fun H2=>H2 qb = some [.int .i64 k,.int .i64 v,.fr 3 (q.1 + 1) (cat cX (subL (ks.take (q.1 + 1))))]) (by simp [upd,ub,zS ub,subL_succ c30,Xk,Xi,cX_eq,li]) fun H2 y2=>?_)
 | refine Qc (id:=6) Γr_ok [] (by kernel_rfl) ?_;simp [-zg,-zd,↓Qb,↓Qa,go_sem,wrapS (k:=q.1) (by omega)]
 | ((have hq:q.1 = ks.length:=(by omega)));refine Qc (id:=8) Γr_ok [] (by kernel_rfl) ?_;simp [-zg,-zd,↓Qb,↓Qa,go_sem,g2]
 | refine Qd (c:=.tmp 17) ?_;simp [-zg,-zd,↓Qb,↓Qa,go_sem];try first | (refine ⟨?_,?_⟩ <;> refine zA ?_) | (refine ⟨fun c17=>?_,fun c17=>?_⟩ <;> (try simp [B_iff,B_not] at c17))
 | refine Qd (c:=.tmp 30) ?_;simp [-zg,-zd,↓Qb,↓Qa,go_sem];try first | (refine ⟨?_,?_⟩ <;> refine zA ?_) | (refine ⟨fun c30=>?_,fun c30=>?_⟩ <;> (try simp [B_iff,B_not] at c30))
 | (refine Qg (id:=0) (Qx (ι:=Nat × Hp) (fun q:Nat × Hp=>⟨(upd (upd (upd (upd (upd (upd (fun _=>.any) 1 (.int .i64 (-1))) 3 (.pd [.int .i64 k,.int .i64 v,li cX ks])) 5 (.pd [.int .i64 0,.int .i64 0,.list 0 []])) 6 (.box [.int .i64 0,.int .i64 0,.nil])) 7 (.ptr qb 0)) 8 (.int .i64 q.1)),q.2⟩) (fun q=>q.1 ≤ ks.length ∧ q.2 qb = some [.int .i64 k,.int .i64 v,.fr 3 q.1 (cat cX (subL (ks.take q.1)))]) (fun q=>ks.length - q.1) ((0,H1)) ?_ ?_ ?_);exact ⟨Nat.zero_le _,by simpa [subL,Xl] using w1⟩;((repeat' (first | exact Qh (by assumption) | exact Qj | refine Qk ?_ ?_ | refine Qi ?_)) <;> simp [-zg,-zd,↓Qb,↓Qa,go_sem]);rintro q ⟨g1,g2⟩)
 | (refine ⟨(q.1 + 1,H2),⟨by dsimp only;omega,y2⟩,by first | omega | (simp;done) | (simp;omega),?_⟩;((repeat' (first | exact Qh (by assumption) | exact Qj | refine Qk ?_ ?_ | refine Qi ?_)) <;> simp [-zg,-zd,↓Qb,↓Qa,go_sem,]))
 | (refine Qg ?_)
 | (refine Qs ?_;simp [-zg,-zd,↓Qb,↓Qa,go_sem])
 | (refine Qr ?_;simp [-zg,-zd,↓Qb,↓Qa,go_sem])
 | (refine Qq ?_;simp [-zg,-zd,↓Qb,↓Qa,go_sem,Tryz.results78])
 | (intro hx;refine zA ?_)
 | (refine ⟨?_,?_⟩ <;> refine zA ?_)
 | (intro hx;constructor <;> intro hs)
 | (constructor <;> intro hs)
 | (refine ⟨?_,fun hs=>?_⟩;refine zA ?_)
 | (refine ⟨fun hs=>?_,?_⟩;rotate_left;refine zA ?_;rotate_left)))
  all_goals (first
 | exact sub_res (fun _=>c17) hq
 | exact sub_res (fun e=>absurd e s1a) hq
 | (rw [subT_yes s1a c17];exact ⟨rfl,rfl,rfl,rfl⟩)
 | (rw [subT_yes s1a c17];simp [Xl];done)
 | skip)
theorem l1Subst_spec (k:Int) (v:Int) (ks:List Tree) (u:Int) (y:D) (hu:u = -1) (hy:y = .st [.int .i64 0,.int .i64 0,.nil] ∨ y = .st [.int .i64 0,.int .i64 0,.list 0 []]) (hs:tms ks ≤ 1000):Spec Tryz.prog 78 [.st [.int .i64 k,.int .i64 v,li cX ks],.int .i64 u,y] (fun _=>none) (.st [.int .i64 (subT (.mk k v ks)).k,.int .i64 (subT (.mk k v ks)).v,fr 3 cX (subT (.mk k v ks)).ks]) (fun _=>none):=zalp (mS k ks + 1) k v ks u y hu hy hs (by omega)
@[go_sem] def zaez:Con:=.gen fun args H=>match args with
  | [.st [.int .i64 k,.int .i64 v,.list n_ks c_ks],.int .i64 u,y]=>((Is cX n_ks c_ks) ∧ (u = -1) ∧ (y = .st [.int .i64 0,.int .i64 0,.nil] ∨ y = .st [.int .i64 0,.int .i64 0,.list 0 []]) ∧ (tms (de cX c_ks) ≤ 1000),.st [.int .i64 (subT (.mk k v (de cX c_ks))).k,.int .i64 (subT (.mk k v (de cX c_ks))).v,fr 3 cX (subT (.mk k v (de cX c_ks))).ks],H)
  | _=>(False,.any,H)
theorem zalq:ConOk Tryz.prog 78 zaez:=by
  refine ⟨Qo Tryz.func78 (by decide) rfl,fun args H h=>?_⟩
  revert h
  dsimp only
  split
  · intro h
    obtain ⟨⟨ks,rfl,rfl⟩,hu,hy,hs⟩:=h
    try simp only [Qm] at *
    exact Spec.frameF (l1Subst_spec _ _ ks _ _ hu hy hs) H
  · intro h
    exact h.elim
@[go_sem] def Γl3:FuncId → Con:=ext Γl2 78 zaez
theorem Je:∀ g,ConOk Tryz.prog g (Γl3 g):=Qn Γl2_ok zalq

theorem tms_sub2 {k v:Int} {ks:List Tree} {N:Nat} (h:tms ks ≤ N):tms (subT (.mk k v ks)).ks ≤ N:=by
  have:=tm_sub (.mk k v ks);rw [tm_eq,← tms_eq,tm] at this;omega
set_option maxHeartbeats 2000000 in

@[go_sem] def Ug:Tree → D:=sX
theorem l1Mutate_flat (x:Tree):dat (Ug x) = Ug x:=by simp [go_sem]
def Ji (k:Int) (v:Int) (ks:List Tree):Tree → Prop:=fun x=>tm x ≤ tms ks + 1
def zair (k:Int) (v:Int) (ks:List Tree) (x:(Tree) × D):Prop:=Ji k v ks x.1 ∧ dat x.2 = Ug x.1
def zaau (k:Int) (v:Int) (ks:List Tree) (p:Int) (c:Any):((Tree) × D) × Int:=dsel (zair k v ks) ((.mk 0 0 []:Tree),Ug (.mk 0 0 [])) 2 p c
def Za (k:Int) (v:Int) (ks:List Tree) (p:Int) (c:Any):(Tree) × Int:=((zaau k v ks p c).1.1,(zaau k v ks p c).2)
theorem zalt (k:Int) (v:Int) (ks:List Tree) (hs:tms ks ≤ 100) (p:Int) (c:Any):(Ji k v ks (Za k v ks p c).1 ∧ p ≤ (Za k v ks p c).2 ∧ (Za k v ks p c).2 ≤ p + 2) ∧ dat (zaau k v ks p c).1.2 = Ug (Za k v ks p c).1:=by
  have hx:Ji k v ks (.mk 0 0 []):=by simp [Ji,tm,tms]
  have h:=Vc (good:=zair k v ks) (x0:=((.mk 0 0 []:Tree),Ug (.mk 0 0 []))) ⟨hx,l1Mutate_flat _⟩ (K:=2) (by omega) (p:=p) c
  exact ⟨⟨h.1.1,h.2.1,h.2.2⟩,h.1.2⟩
theorem zaoi (k:Int) (v:Int) (ks:List Tree) (hs:tms ks ≤ 100) (p:Int) (c:Any):Ji k v ks (Za k v ks p c).1 ∧ p ≤ (Za k v ks p c).2 ∧ (Za k v ks p c).2 ≤ p + 2:=(zalt k v ks hs p c).1
theorem zade (k:Int) (v:Int) (ks:List Tree) (ys:List UInt8) (p:Int) (b:Nat) {e_:Exit} {S_:St} (x:Tree) (p':Int) (he_:e_ = .ret ∨ e_ = .normal)
    (h1:(Qf Tryz.prog S_ Tryz.f57.results.toList).1 ∧ dat (resD (Qf Tryz.prog S_ Tryz.f57.results.toList).2.1) = Ug x ∧ (Qf Tryz.prog S_ Tryz.f57.results.toList).2.2.H b = some [li cY ys,.int .i64 p']) (hg:Ji k v ks x) (h2:p ≤ p' ∧ p' ≤ p + 2) :
    retR Tryz.prog Tryz.f57 (fun c=>((zaau k v ks p c).1.2,one b [li cY ys,.int .i64 (zaau k v ks p c).2])) e_ S_ :=
  Jv (good:=zair k v ks) (enc:=fun x:(Tree) × D=>x.2) (cells:=fun q=>[li cY ys,.int .i64 q]) (x,resD (Qf Tryz.prog S_ Tryz.f57.results.toList).2.1) p' he_ ⟨h1.1,rfl,h1.2.2⟩ ⟨hg,h1.2.1⟩ h2
theorem l1Mutate_spec (ys:List UInt8) (p:Int) (b:Nat) (k:Int) (v:Int) (ks:List Tree) (hl:ys.length ≤ 2000) (h0_:0 ≤ p) (hp_:p + 2 ≤ 1000000) (hs:tms ks ≤ 100):SpecR Tryz.prog 57 [.ptr b 0,.st [.int .i64 k,.int .i64 v,li cX ks]] (one b [li cY ys,.int .i64 p]) (fun c=>((zaau k v ks p c).1.2,one b [li cY ys,.int .i64 (zaau k v ks p c).2])):=by
  refine SpecR.of_walk Tryz.func57 rfl (by simp [Tryz.f57]) fun B=>?_
  (repeat' (first
 | refine Qt ?_
 | refine Qc (id:=0) Je [] (by kernel_rfl) ?_;simp [-zg,-zd,↓Qb,↓Qa,go_sem];try (refine Xe 3 ?_;simp [go_sem])
 | refine Qc (id:=1) Je [] (by kernel_rfl) ?_;simp [-zg,-zd,↓Qb,↓Qa,go_sem,hs,(show tms ks ≤ 1000 by omega)];try ((generalize hzz:subT (.mk k v ks) = zz at *);(have hz:tms zz.ks ≤ tms ks:=(by rw [← hzz];exact tms_sub2 (Nat.le_refl _)));(have hzl:=tms_len zz.ks);(refine Zn 5 rfl fun qb hqb=>?_);(have hbq:¬ b = qb:=(by rintro rfl;simp [go_sem] at hqb));(clear hqb))
 | refine Qc (id:=2) Je [] (by kernel_rfl) ?_;simp [-zg,-zd,↓Qb,↓Qa,go_sem,hl,(show 0 ≤ p by omega),(show p ≤ 1000000 by omega),(show 0 ≤ p + 1 by omega),(show p + 1 ≤ 1000000 by omega),hbq,zS hbq]
 | refine Qc (id:=3) Je [] (by kernel_rfl) ?_;simp [-zg,-zd,↓Qb,↓Qa,go_sem]
 | refine Qc (id:=4) Je [] (by kernel_rfl) ?_;simp [-zg,-zd,↓Qb,↓Qa,go_sem,hl,(show 0 ≤ p by omega),(show p ≤ 1000000 by omega),(show 0 ≤ p + 1 by omega),(show p + 1 ≤ 1000000 by omega),(show 0 ≤ p + 1 + 1 by omega),(show p + 1 + 1 ≤ 1000000 by omega),hbq,zS hbq]
 | refine Qc (id:=5) Je [] (by kernel_rfl) ?_;simp [-zg,-zd,↓Qb,↓Qa,go_sem]
 | refine Qc (id:=6) Je [] (by kernel_rfl) ?_;simp [-zg,-zd,↓Qb,↓Qa,go_sem,hl,(show 0 ≤ p by omega),(show p ≤ 1000000 by omega),(show 0 ≤ p + 1 by omega),(show p + 1 ≤ 1000000 by omega),(show 0 ≤ p + 1 + 1 by omega),(show p + 1 + 1 ≤ 1000000 by omega),hbq,zS hbq]
 | refine Qc (id:=7) Je [] (by kernel_rfl) ?_;simp [-zg,-zd,↓Qb,↓Qa,go_sem]
 | refine Qc (id:=8) Je [] (by kernel_rfl) ?_;simp [-zg,-zd,↓Qb,↓Qa,go_sem,hbq,zS hbq,(show zz.ks.length ≤ 9223372036854775806 by omega),(show 2 * (zz.ks.length + 1) * 40 ≤ 281474976710656 by omega),(show zz.ks.length + 1 ≤ 9223372036854775807 by omega)]
 | refine Qc (id:=9) Je [] (by kernel_rfl) ?_;simp [-zg,-zd,↓Qb,↓Qa,go_sem]
 | refine Qc (id:=10) Je [] (by kernel_rfl) ?_;simp [-zg,-zd,↓Qb,↓Qa,go_sem]
 | refine Qc (id:=11) Je [] (by kernel_rfl) ?_;simp [-zg,-zd,↓Qb,↓Qa,go_sem,hbq,zS hbq]
 | refine Qd (c:=.tmp 11) ?_;simp [-zg,-zd,↓Qb,↓Qa,go_sem];try first | (refine ⟨?_,?_⟩ <;> refine zA ?_) | (refine ⟨fun c11=>?_,fun c11=>?_⟩ <;> (try simp [B_iff,B_not] at c11))
 | refine Qd (c:=.tmp 17) ?_;simp [-zg,-zd,↓Qb,↓Qa,go_sem];try first | (refine ⟨?_,?_⟩ <;> refine zA ?_) | (refine ⟨fun c17=>?_,fun c17=>?_⟩ <;> (try simp [B_iff,B_not] at c17))
 | refine Qd (c:=.tmp 23) ?_;simp [-zg,-zd,↓Qb,↓Qa,go_sem];try first | (refine ⟨?_,?_⟩ <;> refine zA ?_) | (refine ⟨fun c23=>?_,fun c23=>?_⟩ <;> (try simp [B_iff,B_not] at c23))
 | refine Qd (c:=.tmp 31) ?_;simp [-zg,-zd,↓Qb,↓Qa,go_sem];try first | (refine ⟨?_,?_⟩ <;> refine zA ?_) | (refine ⟨fun c31=>?_,fun c31=>?_⟩ <;> (try simp [B_iff,B_not] at c31))
 | (refine Qg ?_)
 | (refine Qs ?_;simp [-zg,-zd,↓Qb,↓Qa,go_sem])
 | (refine Qr ?_;simp [-zg,-zd,↓Qb,↓Qa,go_sem])
 | (refine Qq ?_;try simp [-zg,-zd,↓Qb,↓Qa,go_sem,Tryz.results57])
 | (intro hx;refine zA ?_)
 | (intro hx;change retR _ _ _ _ _)
 | (refine ⟨?_,?_⟩ <;> refine zA ?_)
 | (intro hx;constructor <;> intro hs)
 | (constructor <;> intro hs)
 | (refine ⟨?_,fun hs=>?_⟩;refine zA ?_)
 | (refine ⟨fun hs=>?_,?_⟩;rotate_left;refine zA ?_;rotate_left)))
  all_goals (first
 | (refine zade _ _ _ _ _ _ (.mk 0 0 []) (p + 1) ?_ ?_ ?_ ?_;(first | exact Or.inl rfl | exact Or.inr rfl);(focus (simp [-zg,-zd,↓Qb,↓Qa,go_sem,Tryz.results57,hbq,zS hbq];done));(focus ((simp [Ji,tm,tms]);done));(focus (refine ⟨?_,?_⟩ <;> omega)))
 | (refine zade _ _ _ _ _ _ (.mk (numI ys (p + 1) [0,10,-1,1,2,3,4]) zz.v zz.ks) (p + 1 + 1) ?_ ?_ ?_ ?_;(first | exact Or.inl rfl | exact Or.inr rfl);(focus (simp [-zg,-zd,↓Qb,↓Qa,go_sem,Tryz.results57,hbq,zS hbq,li,dat,Xh];done));(focus ((simp only [Ji,tm];omega);done));(focus (refine ⟨?_,?_⟩ <;> omega)))
 | (refine zade _ _ _ _ _ _ (.mk zz.k (numI ys (p + 1) [-1,4,3,9223372036854775807]) zz.ks) (p + 1 + 1) ?_ ?_ ?_ ?_;(first | exact Or.inl rfl | exact Or.inr rfl);(focus (simp [-zg,-zd,↓Qb,↓Qa,go_sem,Tryz.results57,hbq,zS hbq,li,dat,Xh];done));(focus ((simp only [Ji,tm];omega);done));(focus (refine ⟨?_,?_⟩ <;> omega)))
 | (refine zade _ _ _ _ _ _ (.mk zz.k zz.v (zz.ks ++ [.mk 1 0 []])) (p + 1) ?_ ?_ ?_ ?_;(first | exact Or.inl rfl | exact Or.inr rfl);(focus (simp [-zg,-zd,↓Qb,↓Qa,go_sem,Tryz.results57,hbq,zS hbq,li,dat,Xh,Xk,Xi,cX_mk];done));(focus ((simp only [Ji,tm,tms_app,tms];omega);done));(focus (refine ⟨?_,?_⟩ <;> omega)))
 | (refine zade _ _ _ _ _ _ (.mk zz.k zz.v zz.ks) (p + 1) ?_ ?_ ?_ ?_;(first | exact Or.inl rfl | exact Or.inr rfl);(focus (simp [-zg,-zd,↓Qb,↓Qa,go_sem,Tryz.results57,hbq,zS hbq,li,dat,Xh];done));(focus ((simp only [Ji,tm];omega);done));(focus (refine ⟨?_,?_⟩ <;> omega)))
 | skip)
@[go_sem] def l1MutateC:Con:=.rel fun args H=>match args with
  | [.ptr b 0,.st [.int .i64 k,.int .i64 v,.list n_ks c_ks]]=>match H b with
    | some [.list m cs,.int .i64 p]=>((Is cY m cs) ∧ (m ≤ 2000) ∧ (0 ≤ p) ∧ (p + 2 ≤ 1000000) ∧ (Is cX n_ks c_ks) ∧ (tms (de cX c_ks) ≤ 100),fun c=>(Ug (Za k v (de cX c_ks) p c).1,upd H b (some [.list m cs,.int .i64 (Za k v (de cX c_ks) p c).2])))
    | _=>(False,fun _=>(.any,H))
  | _=>(False,fun _=>(.any,H))
theorem l1MutateC_ok:ConOk Tryz.prog 57 l1MutateC:=by
  refine ⟨Qo Tryz.func57 (by decide) rfl,fun args H h=>?_⟩
  revert h
  dsimp only
  split
  · split
    · rename_i hH
      intro h
      obtain ⟨⟨ys,rfl,rfl⟩,hl,h0_,hp_,⟨ks,rfl,rfl⟩,hs⟩:=h
      try simp only [Qm] at *
      exact SpecR.enc ((l1Mutate_spec ys _ _ _ _ ks hl h0_ hp_ hs).frame hH).shut fun c=>Prod.ext (zalt _ _ _ hs _ _).2.symm rfl
    · intro h;exact h.elim
  · intro h
    exact h.elim
@[go_sem] def Γl4:FuncId → Con:=ext Γl3 57 l1MutateC
theorem Zj:∀ g,ConOk Tryz.prog g (Γl4 g):=Qn Je l1MutateC_ok

end
end Go.Proofs.YtmiimodggpjkmaaGreat.Vm

