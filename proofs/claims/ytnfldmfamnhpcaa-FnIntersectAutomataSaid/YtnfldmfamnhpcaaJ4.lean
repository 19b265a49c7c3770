/-
  The closure of impl.components: its walk. No conditions.
-/
import Derived.Test.YtnfldmfamnhpcaaJ3
namespace Go.Proofs.Ytnfldmfamnhpcaa.Vm
open Go
open List renaming getD_eq_getElem?_getD → zg,drop_one → zd,replicate → zrP
set_option linter.unusedVariables false
set_option linter.unusedSimpArgs false
set_option maxRecDepth 200000

theorem Ze (m:VN) {nx:List (List Int)} {y:Int} (h:Nd nx y):0 ≤ y ∧ y < nx.length ∧ y.toNat < nx.length ∧ ¬ nx = [] ∧ 0 < nx.length - y.toNat ∧ y.toNat < nx.length + m.j2 ∧ y.toNat < nx.length + m.j3 ∧ y.toNat < nx.length + m.j7 ∧ y.toNat + 1 ≤ nx.length + m.j2 ∧ y.toNat + 1 ≤ nx.length + m.j3 ∧ y.toNat + 1 ≤ nx.length + m.j7:=by
  obtain ⟨h1,h2⟩:=h
  refine ⟨h1,h2,by omega,?_,by omega,by omega,by omega,by omega,by omega,by omega,by omega⟩
  rintro rfl
  simp at h2
  omega
theorem take_snocJ {xs:List Int} {k:Nat} (h:k < xs.length):cat cI (xs.take k) ++ [.int .i64 (nth xs k)] = cat cI (xs.take (k + 1)):=by
  rw [Ja,List.take_succ_eq_append_getElem h,Qy h]
theorem exists_NEs (m:VN):∃ sb,NEs m sb:=⟨m.c1 + m.v2 + m.b2 + m.v3 + m.b3 + m.v4 + m.v6 + m.v7 + m.b7 + m.c8 + 1,by unfold NEs;omega⟩
theorem spl_h4 {m:VN} {st:List Int} {H:Hp} (h:(∃ (sb sk:Nat) (jl:List D),H m.v4 = some [.sl sb 1 0 st.length sk] ∧ H sb = some (cat cI st ++ jl) ∧ st.length ≤ sk ∧ sk ≤ st.length + jl.length ∧ NEs m sb) ∨ (st = [] ∧ H m.v4 = some [.nil])) :
    (∃ (sb sk:Nat) (jl:List D),H m.v4 = some [.sl sb 1 0 st.length sk] ∧ H sb = some (cat cI st ++ jl) ∧ st.length ≤ sk ∧ sk ≤ st.length + jl.length ∧ NEs m sb ∧ True) ∨ (∃ (sb sk jl:Nat),H m.v4 = some [.nil] ∧ True ∧ True ∧ True ∧ NEs m sb ∧ st = []):=by
  rcases h with ⟨sb,sk,jl,h4,g4,l4,l5,hsb⟩ | ⟨e,h⟩
  · exact .inl ⟨sb,sk,jl,h4,g4,l4,l5,hsb,trivial⟩
  · obtain ⟨sb,hsb⟩:=exists_NEs m
    exact .inr ⟨sb,0,0,h,trivial,trivial,trivial,hsb,e⟩
theorem Lp.may {nx:List (List Int)} (hx:Xp nx) {G:Int → Prop} {a:Int} {s0 s:TS} {k j:Nat} (hm:May nx G a s0) (h:Lp nx G a s0 k s) (hj:j < (nth nx a.toNat).length) (h0:nth s.num (nth (nth nx a.toNat) j).toNat = 0):May nx (Gp G a) (nth (nth nx a.toNat) j) s :=
  ⟨h.inv,Jg hx hm.nd (Xl hj),h0,fun x q=>by
    rcases q with q | rfl
    · exact (hm.gr x q).trans (.edge (Xl hj))
    · exact .edge (Xl hj)⟩
def popT (l:List Int) (j:Nat):Int:=if j = 0 then -1 else nth l (l.length - j)
theorem pop_end {f:Int → Int} {pre r0:List Int} {a:Int} (hp:(pre ++ a :: r0).Pairwise (fun x y=>f x < f y)) (ha:0 ≤ a) {j:Nat} (hj:j ≤ r0.length + 1):popT (pre ++ a :: r0) j = a ↔ j = r0.length + 1:=by
  have hl:(pre ++ a :: r0).length = pre.length + (r0.length + 1):=by simp
  unfold popT
  by_cases h0:j = 0
  · rw [if_pos h0];omega
  · rw [if_neg h0,hl]
    constructor
    · intro e
      refine Classical.byContradiction fun c=>?_
      have h1:pre.length < (pre ++ a :: r0).length:=by omega
      have h2:pre.length + (r0.length + 1) - j < (pre ++ a :: r0).length:=by omega
      have:=List.pairwise_iff_getElem.1 hp pre.length (pre.length + (r0.length + 1) - j) h1 h2 (by omega)
      rw [Qy h2] at e
      rw [e,List.getElem_append_right (Nat.le_refl _)] at this
      simp at this
    · rintro rfl
      rw [show pre.length + (r0.length + 1) - (r0.length + 1) = pre.length by omega,Qy (by omega),List.getElem_append_right (Nat.le_refl _)]
      simp
theorem NEs.fresh {m:VN} {sb:Nat} {H:Hp} (hf:H sb = none) (h:∀ x ∈ [m.c1,m.v2,m.b2,m.v3,m.b3,m.v4,m.v6,m.v7,m.b7,m.c8],¬ H x = none):NEs m sb:=by
  have key:∀ x ∈ [m.c1,m.v2,m.b2,m.v3,m.b3,m.v4,m.v6,m.v7,m.b7,m.c8],¬ sb = x ∧ ¬ x = sb:=fun x hx=>⟨by rintro rfl;exact h _ hx hf,by rintro rfl;exact h _ hx hf⟩
  simp only [List.mem_cons,List.not_mem_nil,or_false,forall_eq_or_imp,forall_eq] at key
  unfold NEs
  simp only [key,not_false_eq_true,and_self]
set_option maxHeartbeats 16000000 in
theorem visit_spec (m:VN) (hne_:NEm m) (nx:List (List Int)) (hx:Xp nx) (hs:NextS nx) (hn:nx.length ≤ 1048576):∀ f,VisSpec m nx f:=by
  intro f
  induction f with
  | zero =>
    rintro a s H ⟨hT,⟨G,hm⟩,hw⟩
    have:=wh_set (l:=s.num) (k:=a.toNat) (v:=1) (by rw [hm.inv.ln];have:=hm.nd.1;have:=hm.nd.2;omega) hm.at0 (by omega)
    omega
  | succ f ih =>
  intro a s H hpre
  have Γr_ok:=Qo Γ0_ok (visitCn_ok ih)
  obtain ⟨hT,⟨G,hm⟩,hw⟩:=id hpre
  obtain ⟨a0,a1⟩:=hm.nd
  have a2:a.toNat < nx.length:=by omega
  have hcn:=hm.inv.cw
  have hps:=hm.inv.ps
  have hp1:=hm.inv.p1
  have hL2:=hm.inv.ln
  have hL3:=hm.inv.ll
  have hL7:=hm.inv.lp
  have ha0:=hm.at0
  have hc0:0 ≤ s.cnt:=by have:=hm.inv.n1 a hm.nd;omega
  have hwl:1 ≤ wh s.num:=by
    have:=wh_set (l:=s.num) (k:=a.toNat) (v:=1) (by omega) hm.at0 (by omega)
    omega
  obtain ⟨ns,hns⟩:∃ ns,nth nx a.toNat = ns:=⟨_,rfl⟩
  have hlp:=loop_ok hx hm hw
  rw [hns] at hlp
  have hnl:ns.length ≤ 1048576:=by rw [← hns];exact hs _ a2
  refine SpecR.of_walk Try.func104 rfl (by simp [Try.f104,VN.args]) fun B=>?_
  obtain ⟨h1,h2,g2,h3,g3,h6,h7,g7,h8,h4w⟩:=id hT
  (repeat' (first
 | refine Qu ?_
 | refine Qc (id:=0) Γr_ok [] (by kernel_rfl) ?_;simp [-zg,-zd,↓Qb,↓Qa,go_sem,h1,Qw (x:=s.cnt + 1) (by omega) (by omega)];try ((refine Qq (fun H1=>TMw m nx ({ s with cnt:=s.cnt + 1 }) H1) ⟨by simp [upd,h1,NEm.w_c1 hne_,tPush,pop1,gt],by simp [upd,h2,NEm.w_c1 hne_,tPush,pop1,gt],by simp [upd,g2,NEm.w_c1 hne_,tPush,pop1,gt],by simp [upd,h3,NEm.w_c1 hne_,tPush,pop1,gt],by simp [upd,g3,NEm.w_c1 hne_,tPush,pop1,gt],by simp [upd,h6,NEm.w_c1 hne_,tPush,pop1,gt],by simp [upd,h7,NEm.w_c1 hne_,tPush,pop1,gt],by simp [upd,g7,NEm.w_c1 hne_,tPush,pop1,gt],by simp [upd,h8,NEm.w_c1 hne_,tPush,pop1,gt],(by rcases h4w with ⟨sb,sk,jl,h4,g4,l4,l5,hsb⟩ | ⟨e4,h4⟩;exact .inl ⟨sb,sk,jl,by simp [upd,h4,NEm.w_c1 hne_],by simp [upd,g4,NEs.l hsb],l4,l5,hsb⟩;exact .inr ⟨e4,by simp [upd,h4,NEm.w_c1 hne_]⟩)⟩ fun H0 hT=>?_);(obtain ⟨h1,h2,g2,h3,g3,h6,h7,g7,h8,h4w⟩:=hT))
 | refine Xq (id:=1) Γr_ok mixed [(m.v2,[.sl m.b2 1 0 nx.length m.k2]),(m.v3,[.sl m.b3 1 0 nx.length m.k3]),(m.c1,[.int .i64 (s.cnt + 1)])] [] [0,1] (by kernel_rfl) (by kernel_rfl) (by simp [-zg,-zd,↓Qb,↓Qa,go_sem,h1,h2,g2,h3,g3,NEm.w_c1 hne_,NEm.w_v2 hne_,NEm.w_b2 hne_,NEm.w_v3 hne_,NEm.w_b3 hne_,hL2,hL3,hL7,Ze m hm.nd]) (by simp [-zg,-zd,↓Qb,↓Qa,go_sem,h1,h2,g2,h3,g3,NEm.w_c1 hne_,NEm.w_v2 hne_,NEm.w_b2 hne_,NEm.w_v3 hne_,NEm.w_b3 hne_,hL2,hL3,hL7,Ze m hm.nd]) ?_;simp [-zg,-zd,↓Qb,↓Qa,go_sem,h1,h2,g2,h3,g3,NEm.w_c1 hne_,NEm.w_v2 hne_,NEm.w_b2 hne_,NEm.w_v3 hne_,NEm.w_b3 hne_,hL2,hL3,hL7,Ze m hm.nd];try ((refine Qq (fun H1=>TMw m nx ({ s with num:=s.num.set a.toNat (s.cnt + 1),low:=s.low.set a.toNat (s.cnt + 1),cnt:=s.cnt + 1 }) H1) ⟨by simp [upd,h1,NEm.w_b2 hne_,NEm.w_b3 hne_,tPush,pop1,gt],by simp [upd,h2,NEm.w_b2 hne_,NEm.w_b3 hne_,tPush,pop1,gt],by simp [upd,g2,NEm.w_b2 hne_,NEm.w_b3 hne_,tPush,pop1,gt],by simp [upd,h3,NEm.w_b2 hne_,NEm.w_b3 hne_,tPush,pop1,gt],by simp [upd,g3,NEm.w_b2 hne_,NEm.w_b3 hne_,tPush,pop1,gt],by simp [upd,h6,NEm.w_b2 hne_,NEm.w_b3 hne_,tPush,pop1,gt],by simp [upd,h7,NEm.w_b2 hne_,NEm.w_b3 hne_,tPush,pop1,gt],by simp [upd,g7,NEm.w_b2 hne_,NEm.w_b3 hne_,tPush,pop1,gt],by simp [upd,h8,NEm.w_b2 hne_,NEm.w_b3 hne_,tPush,pop1,gt],(by rcases h4w with ⟨sb,sk,jl,h4,g4,l4,l5,hsb⟩ | ⟨e4,h4⟩;exact .inl ⟨sb,sk,jl,by simp [upd,h4,NEm.w_b2 hne_,NEm.w_b3 hne_],by simp [upd,g4,NEs.l hsb],l4,l5,hsb⟩;exact .inr ⟨e4,by simp [upd,h4,NEm.w_b2 hne_,NEm.w_b3 hne_]⟩)⟩ fun H1 hT=>?_);(obtain ⟨h1,h2,g2,h3,g3,h6,h7,g7,h8,h4w⟩:=hT);(rcases spl_h4 h4w with ⟨sb,sk,jl,h4,g4,l4,l5,hsb,e4⟩ | ⟨sb,sk,jl,h4,g4,l4,l5,hsb,e4⟩);(try (dsimp only at e4)))
 | refine Qc (id:=2) Γr_ok [] (by kernel_rfl) ?_;simp [-zg,-zd,↓Qb,↓Qa,go_sem,e4,(show makeD [D.int .i64 0] 1 = [D.int .i64 0] from rfl),h4,g4,l4,l5,NEm.w_v4 hne_,NEs.r hsb,(show s.stk.length ≤ 9223372036854775806 by omega),(show 2 * (s.stk.length + 1) * 8 ≤ 281474976710656 by omega),Ja,Xy];try ((refine Xs m.v4 0 (all:=[.fr 1 (s.stk.length + 1) (cat cI (s.stk ++ [a]))]) (by first | (have e5:s.stk = []:=e4;simp [upd,e5,Xm,cI,cat];done) | (simp [upd,NEs.r hsb];done)) rfl fun sb2 sk2 j2 hf hk hd=>?_);(dsimp only at hf);(have hsb2:NEs m sb2:=NEs.fresh hf (by simp [upd,h1,h2,g2,h3,g3,h6,h7,g7,h8,h4,g4,NEm.w_v4 hne_,NEs.r hsb]));(refine Qq (fun H1=>TM m nx (tPush a s) H1) ⟨by simp [upd,h1,NEm.w_v4 hne_,tPush,pop1,gt,NEs.r hsb,NEs.r hsb2],by simp [upd,h2,NEm.w_v4 hne_,tPush,pop1,gt,NEs.r hsb,NEs.r hsb2],by simp [upd,g2,NEm.w_v4 hne_,tPush,pop1,gt,NEs.r hsb,NEs.r hsb2],by simp [upd,h3,NEm.w_v4 hne_,tPush,pop1,gt,NEs.r hsb,NEs.r hsb2],by simp [upd,g3,NEm.w_v4 hne_,tPush,pop1,gt,NEs.r hsb,NEs.r hsb2],by simp [upd,h6,NEm.w_v4 hne_,tPush,pop1,gt,NEs.r hsb,NEs.r hsb2],by simp [upd,h7,NEm.w_v4 hne_,tPush,pop1,gt,NEs.r hsb,NEs.r hsb2],by simp [upd,g7,NEm.w_v4 hne_,tPush,pop1,gt,NEs.r hsb,NEs.r hsb2],by simp [upd,h8,NEm.w_v4 hne_,tPush,pop1,gt,NEs.r hsb,NEs.r hsb2],⟨sb2,sk2,zrP j2 .any,by simp [upd,tPush,NEs.r hsb2],by simp [upd,tPush],by simp [tPush];omega,by simp [tPush];omega,hsb2⟩⟩ fun H2 hT=>?_))
 | refine Qc (id:=3) Γr_ok [] (by kernel_rfl) ?_;simp [-zg,-zd,↓Qb,↓Qa,go_sem,hns,Ze m hm.nd]
 | refine Qc (id:=4) Γr_ok [] (by kernel_rfl) ?_;simp [-zg,-zd,↓Qb,↓Qa,go_sem]
 | refine Qc (id:=5) Γr_ok [] (by kernel_rfl) ?_;simp [-zg,-zd,↓Qb,↓Qa,go_sem,c33,Qj c33,Nat.sub_pos_of_lt c33];try ((obtain ⟨y,hy⟩:∃ y,nth ns q.1 = y:=⟨_,rfl⟩);(rw [hy]);(have hyd:Nd nx y:=(by rw [← hy];exact Jg hx hm.nd (by rw [hns];exact Xl c33)));(obtain ⟨y0,y1⟩:=id hyd);(have y2:y.toNat < nx.length:=by omega);(have hL:=hlp q.1 (by omega));(obtain ⟨u,hu⟩:∃ u,tLoop (visit nx f) a (ns.take q.1) (tPush a s) = u:=⟨_,rfl⟩);(rw [hu] at q2 hL);(have hI:=hL.inv);(have hL2:=hI.ln);(have hL3:=hI.ll);(have hL7:=hI.lp);(obtain ⟨h1,h2,g2,h3,g3,h6,h7,g7,h8,sb,sk,jl,h4,g4,l4,l5,hsb⟩:=id q2))
 | refine Qc (id:=6) Γr_ok [] (by kernel_rfl) ?_;simp [-zg,-zd,↓Qb,↓Qa,go_sem,h2,g2,hL2,hL3,hL7,Ze m hyd]
 | ((have hM:May nx (Gp G a) y u:=(by rw [← hy,← hns];exact hL.may hx hm (by rw [hns];exact c33) (by rw [hns,hy];assumption)));(have hwu:wh u.num ≤ f:=(by have:=hL.wl;omega));(have hpr:Ji m nx f y u q.2:=⟨q2.w,⟨_,hM⟩,hwu⟩);(have hex:∃ s,Ji m nx f y s q.2:=⟨u,hpr⟩));refine Qc (id:=7) Γr_ok [] (by kernel_rfl) ?_;simp [-zg,-zd,↓Qb,↓Qa,go_sem,h6,hex];try ((intro c7);(have hT:=vsel_ok hne_ hpr c7);(have hV:=visit_ok hx f y u _ hM hwu);(generalize vsel m nx f y q.2 c7 = H7 at *);(obtain ⟨t,ht⟩:∃ t,visit nx f y u = t:=⟨_,rfl⟩);(rw [ht] at hT hV);(have hL2:=hV.inv.ln);(have hL3:=hV.inv.ll);(have hL7:=hV.inv.lp);(obtain ⟨h1,h2,g2,h3,g3,h6,h7,g7,h8,sb,sk,jl,h4,g4,l4,l5,hsb⟩:=hT))
 | refine Xq (id:=8) Γr_ok mixed [(m.v3,[.sl m.b3 1 0 nx.length m.k3]),(m.b3,cat cI t.low ++ zrP m.j3 .any)] [] [3,0] (by kernel_rfl) (by kernel_rfl) (by simp [-zg,-zd,↓Qb,↓Qa,go_sem,h3,g3,NEm.w_v3 hne_,NEm.w_b3 hne_,hL2,hL3,hL7,Ze m hm.nd,Ze m hyd]) (by simp [-zg,-zd,↓Qb,↓Qa,go_sem,h3,g3,NEm.w_v3 hne_,NEm.w_b3 hne_,hL2,hL3,hL7,Ze m hm.nd,Ze m hyd]) ?_;simp [-zg,-zd,↓Qb,↓Qa,go_sem,h3,g3,NEm.w_v3 hne_,NEm.w_b3 hne_,hL2,hL3,hL7,Ze m hm.nd,Ze m hyd];try ((have e9:tStep (visit nx f) a u y = { t with low:=t.low.set a.toNat (min (gt t.low a) (gt t.low y)) }:=(by rw [tStep,if_pos (by assumption),ht]));(refine Qq (fun H1=>TM m nx ({ t with low:=t.low.set a.toNat (min (gt t.low a) (gt t.low y)) }) H1) ⟨by simp [upd,h1,NEm.w_b3 hne_,tPush,pop1,gt],by simp [upd,h2,NEm.w_b3 hne_,tPush,pop1,gt],by simp [upd,g2,NEm.w_b3 hne_,tPush,pop1,gt],by simp [upd,h3,NEm.w_b3 hne_,tPush,pop1,gt],by simp [upd,g3,NEm.w_b3 hne_,tPush,pop1,gt],by simp [upd,h6,NEm.w_b3 hne_,tPush,pop1,gt],by simp [upd,h7,NEm.w_b3 hne_,tPush,pop1,gt],by simp [upd,g7,NEm.w_b3 hne_,tPush,pop1,gt],by simp [upd,h8,NEm.w_b3 hne_,tPush,pop1,gt],⟨sb,sk,jl,by simp [upd,h4,NEm.w_b3 hne_,tPush,pop1],by simp [upd,g4,NEs.l hsb,tPush,pop1],l4,l5,hsb⟩⟩ fun H9 t9=>?_);(rw [← e9] at t9);(have fl:True ∧ True:=⟨trivial,trivial⟩))
 | refine Qc (id:=9) Γr_ok [] (by kernel_rfl) ?_;simp [-zg,-zd,↓Qb,↓Qa,go_sem,h7,g7,hL2,hL3,hL7,Ze m hyd]
 | refine Xq (id:=10) Γr_ok mixed [(m.v3,[.sl m.b3 1 0 nx.length m.k3]),(m.b3,cat cI u.low ++ zrP m.j3 .any),(m.v2,[.sl m.b2 1 0 nx.length m.k2]),(m.b2,cat cI u.num ++ zrP m.j2 .any)] [] [3,0] (by kernel_rfl) (by kernel_rfl) (by simp [-zg,-zd,↓Qb,↓Qa,go_sem,h3,g3,h2,g2,NEm.w_v3 hne_,NEm.w_b3 hne_,NEm.w_v2 hne_,NEm.w_b2 hne_,hL2,hL3,hL7,Ze m hm.nd,Ze m hyd]) (by simp [-zg,-zd,↓Qb,↓Qa,go_sem,h3,g3,h2,g2,NEm.w_v3 hne_,NEm.w_b3 hne_,NEm.w_v2 hne_,NEm.w_b2 hne_,hL2,hL3,hL7,Ze m hm.nd,Ze m hyd]) ?_;simp [-zg,-zd,↓Qb,↓Qa,go_sem,h3,g3,h2,g2,NEm.w_v3 hne_,NEm.w_b3 hne_,NEm.w_v2 hne_,NEm.w_b2 hne_,hL2,hL3,hL7,Ze m hm.nd,Ze m hyd];try ((have e9:tStep (visit nx f) a u y = { u with low:=u.low.set a.toNat (min (gt u.low a) (gt u.num y)) }:=(by rw [tStep,if_neg (by assumption),if_pos (by assumption)]));(refine Qq (fun H1=>TM m nx ({ u with low:=u.low.set a.toNat (min (gt u.low a) (gt u.num y)) }) H1) ⟨by simp [upd,h1,NEm.w_b3 hne_,tPush,pop1,gt],by simp [upd,h2,NEm.w_b3 hne_,tPush,pop1,gt],by simp [upd,g2,NEm.w_b3 hne_,tPush,pop1,gt],by simp [upd,h3,NEm.w_b3 hne_,tPush,pop1,gt],by simp [upd,g3,NEm.w_b3 hne_,tPush,pop1,gt],by simp [upd,h6,NEm.w_b3 hne_,tPush,pop1,gt],by simp [upd,h7,NEm.w_b3 hne_,tPush,pop1,gt],by simp [upd,g7,NEm.w_b3 hne_,tPush,pop1,gt],by simp [upd,h8,NEm.w_b3 hne_,tPush,pop1,gt],⟨sb,sk,jl,by simp [upd,h4,NEm.w_b3 hne_,tPush,pop1],by simp [upd,g4,NEs.l hsb,tPush,pop1],l4,l5,hsb⟩⟩ fun H9 t9=>?_);(rw [← e9] at t9);(have fl:True ∧ True:=⟨trivial,trivial⟩))
 | (first | (rename True ∧ True=>k_;skip) | ((have e9:tStep (visit nx f) a u y = u:=(by rw [tStep,if_neg (by assumption),if_neg (by show ¬ nth u.part y.toNat < 0;omega)]));(refine Qq (fun H1=>TM m nx u H1) q2 fun H9 t9=>?_);(rw [← e9] at t9)));refine Qc (id:=11) Γr_ok [] (by kernel_rfl) ?_;simp [-zg,-zd,↓Qb,↓Qa,go_sem,wrapS (k:=q.1) (by omega)]
 | ((have hq:q.1 = ns.length:=(by omega));(have hL:=hlp ns.length (Nat.le_refl _));(have hTe:=q2);(rw [hq,List.take_length] at hTe);(rw [List.take_length] at hL);(obtain ⟨u,hu⟩:∃ u,tLoop (visit nx f) a ns (tPush a s) = u:=⟨_,rfl⟩);(rw [hu] at hTe hL);(have hvis:visit nx (f + 1) a s = tEnd a u:=(by show tEnd a (tLoop (visit nx f) a (nth nx a.toNat) (tPush a s)) = _;rw [hns,hu]));(have hI:=hL.inv);(have hL2:=hI.ln);(have hL3:=hI.ll);(have hL7:=hI.lp);(have hcu:=hI.cw);(have hpu:=hI.ps);(have hp1u:=hI.p1);(obtain ⟨h1,h2,g2,h3,g3,h6,h7,g7,h8,sb,sk,jl,h4,g4,l4,l5,hsb⟩:=id hTe);(obtain ⟨r0,hr0⟩:=hL.pre);(have hul:u.stk.length = s.stk.length + (r0.length + 1):=(by rw [hr0];simp));(have hpe:=fun j (hj:j ≤ r0.length + 1)=>pop_end (f:=fun x=>gt u.num x) (by rw [← hr0];exact hI.so) a0 hj);(rw [← hr0] at hpe);(have hix:u.stk.length - u.stk.idxOf a = r0.length + 1:=(by have hna:¬ a ∈ s.stk:=fun z=>((hm.inv.st a).1 z).2.1 hm.at0;rw [hul,hr0,List.idxOf_append,if_neg hna];simp <;> omega));(have hnp:∀ x,x ∈ u.stk → Nd nx x:=fun x z=>((hI.st x).1 z).1));refine Xq (id:=12) Γr_ok mixed [(m.v3,[.sl m.b3 1 0 nx.length m.k3]),(m.b3,cat cI u.low ++ zrP m.j3 .any),(m.v2,[.sl m.b2 1 0 nx.length m.k2]),(m.b2,cat cI u.num ++ zrP m.j2 .any)] [] [0] (by kernel_rfl) (by kernel_rfl) (by simp [-zg,-zd,↓Qb,↓Qa,go_sem,h3,g3,h2,g2,NEm.w_v3 hne_,NEm.w_b3 hne_,NEm.w_v2 hne_,NEm.w_b2 hne_,hL2,hL3,hL7,Ze m hm.nd]) (by simp [-zg,-zd,↓Qb,↓Qa,go_sem,h3,g3,h2,g2,NEm.w_v3 hne_,NEm.w_b3 hne_,NEm.w_v2 hne_,NEm.w_b2 hne_,hL2,hL3,hL7,Ze m hm.nd]) ?_;simp [-zg,-zd,↓Qb,↓Qa,go_sem,h3,g3,h2,g2,NEm.w_v3 hne_,NEm.w_b3 hne_,NEm.w_v2 hne_,NEm.w_b2 hne_,hL2,hL3,hL7,Ze m hm.nd];try ((have hTq:TM m nx (pops 0 u) q.2:=hTe))
 | refine Qc (id:=13) Γr_ok [] (by kernel_rfl) ?_;simp [-zg,-zd,↓Qb,↓Qa,go_sem]
 | refine Qc (id:=14) Γr_ok [] (by kernel_rfl) ?_;simp [-zg,-zd,↓Qb,↓Qa,go_sem]
 | ((have hj:r.1 < r0.length + 1:=(by rcases Nat.lt_or_ge r.1 (r0.length + 1) with z | z;(exact z);(exfalso;exact c87 (by rw [r3];exact (hpe r.1 r1).2 (by omega)))));(obtain ⟨k1,k2,k3,k4,k5,k6,k7⟩:=pops_ok hI.lp hnp r.1 (by omega));(obtain ⟨v,hv⟩:∃ v,pops r.1 u = v:=⟨_,rfl⟩);(rw [hv] at r2 k1 k2 k3 k4 k5 k6);(have hvl:v.stk.length = u.stk.length - r.1:=(by rw [k1];simp));(obtain ⟨h1,h2,g2,h3,g3,h6,h7,g7,h8,sb,sk,jl,h4,g4,l4,l5,hsb⟩:=id r2);(have vl:v.stk.length - 1 < v.stk.length:=(by omega));(have vw:=Qw (x:=(v.stk.length:Int) - 1) (by omega) (by omega));(have vt:((v.stk.length:Int) - 1).toNat = v.stk.length - 1:=(by omega));(have v0:(0:Int) ≤ (v.stk.length:Int) - 1:=(by omega));(have v1:(1:Int) ≤ (v.stk.length:Int):=(by omega));(have v2:(v.stk.length:Int) - 1 < (v.stk.length:Int):=(by omega));(have v3:v.stk.length - 1 < v.stk.length + jl.length:=(by omega));(have v5:v.stk.length - 1 + 1 ≤ v.stk.length + jl.length:=(by omega));(have v6:v.stk.length - 1 ≤ sk:=(by omega));(have v7:(v.stk.length:Int) - 1 ≤ (sk:Int):=(by omega));(have v8:v.stk.length ≤ sk + 1:=(by omega));(have v9:(v.stk.length:Int) - 1 ≤ (v.stk.length:Int):=(by omega)));refine Qc (id:=15) Γr_ok [] (by kernel_rfl) ?_;simp [-zg,-zd,↓Qb,↓Qa,go_sem,h4,g4,vl,vw,vt,v0,v1,v2,v3,v5];try ((obtain ⟨tp,htp⟩:∃ tp,nth v.stk (v.stk.length - 1) = tp:=⟨_,rfl⟩);(rw [htp]);(have htp2:tp = popT u.stk (r.1 + 1):=(by rw [← htp,popT,if_neg (by omega),hvl,k1,Vq (by omega)];congr 1));(have htn:Nd nx tp:=(by apply hnp;rw [← htp,hvl,k1,Vq (by omega)];exact Xl (by omega))))
 | refine Qc (id:=16) Γr_ok [] (by kernel_rfl) ?_;simp [-zg,-zd,↓Qb,↓Qa,go_sem,h4,g4,vl,vw,vt,v0,v1,v2,v3,v5,v6,v7,v8,v9];try ((have hlast:cat cI v.stk = cat cI (v.stk.take (v.stk.length - 1)) ++ [D.int .i64 tp]:=(by rw [← htp,take_snocJ vl,Nat.sub_add_cancel (by omega),List.take_length]));(refine Qq (fun H1=>TM m nx ({ v with stk:=v.stk.take (v.stk.length - 1) }) H1) ⟨by simp [upd,h1,NEm.w_v4 hne_,tPush,pop1,gt,NEs.r hsb],by simp [upd,h2,NEm.w_v4 hne_,tPush,pop1,gt,NEs.r hsb],by simp [upd,g2,NEm.w_v4 hne_,tPush,pop1,gt,NEs.r hsb],by simp [upd,h3,NEm.w_v4 hne_,tPush,pop1,gt,NEs.r hsb],by simp [upd,g3,NEm.w_v4 hne_,tPush,pop1,gt,NEs.r hsb],by simp [upd,h6,NEm.w_v4 hne_,tPush,pop1,gt,NEs.r hsb],by simp [upd,h7,NEm.w_v4 hne_,tPush,pop1,gt,NEs.r hsb],by simp [upd,g7,NEm.w_v4 hne_,tPush,pop1,gt,NEs.r hsb],by simp [upd,h8,NEm.w_v4 hne_,tPush,pop1,gt,NEs.r hsb],⟨sb,sk,D.int .i64 tp :: jl,by simp [upd],by simp [upd,NEs.l hsb,g4,hlast],by simp;omega,by simp;omega,hsb⟩⟩ fun H8 t8=>?_);(obtain ⟨h1,h2,g2,h3,g3,h6,h7,g7,h8,sb,sk,jl,h4,g4,l4,l5,hsb⟩:=t8))
 | refine Qc (id:=17) Γr_ok [] (by kernel_rfl) ?_;simp [-zg,-zd,↓Qb,↓Qa,go_sem,h7,g7,h8,NEm.w_v4 hne_,NEm.w_v7 hne_,NEm.w_b7 hne_,NEm.w_c8 hne_,k6,Ze m htn]
 | ((have hjf:r.1 = r0.length + 1:=((hpe r.1 r1).1 (by rw [← r3];omega)));(have hTz:=r2);(rw [hjf] at hTz);(obtain ⟨v,hv⟩:∃ v,pops (r0.length + 1) u = v:=⟨_,rfl⟩);(rw [hv] at hTz);(obtain ⟨k1,k2,k3,k4,k5,k6,k7⟩:=pops_ok hI.lp hnp (r0.length + 1) (by omega));(rw [hv] at k5);(have hpw:=Qw (x:=v.pts + 1) (by omega) (by omega));(have hfin:tPop a u = { v with pts:=v.pts + 1 }:=(by rw [tPop,hix,hv,k5]));(obtain ⟨h1,h2,g2,h3,g3,h6,h7,g7,h8,sb,sk,jl,h4,g4,l4,l5,hsb⟩:=id hTz));refine Qc (id:=18) Γr_ok [] (by kernel_rfl) ?_;simp [-zg,-zd,↓Qb,↓Qa,go_sem,h8,hpw]
 | refine Qd (c:=.tmp 33) ?_;simp [-zg,-zd,↓Qb,↓Qa,go_sem];try first | (refine ⟨?_,?_⟩ <;> refine zA ?_) | (refine ⟨fun c33=>?_,fun c33=>?_⟩ <;> (try simp [B_iff,B_not] at c33))
 | refine Qd (c:=.tmp 36) ?_;simp [-zg,-zd,↓Qb,↓Qa,go_sem];try first | (refine ⟨?_,?_⟩ <;> refine zA ?_) | (refine ⟨fun c36=>?_,fun c36=>?_⟩ <;> (try simp [B_iff,B_not] at c36))
 | refine Qd (c:=.tmp 57) ?_;simp [-zg,-zd,↓Qb,↓Qa,go_sem];try first | (refine ⟨?_,?_⟩ <;> refine zA ?_) | (refine ⟨fun c57=>?_,fun c57=>?_⟩ <;> (try simp [B_iff,B_not] at c57))
 | refine Qd (c:=.tmp 84) ?_;simp [-zg,-zd,↓Qb,↓Qa,go_sem];try first | (refine ⟨?_,?_⟩ <;> refine zA ?_) | (refine ⟨fun c84=>?_,fun c84=>?_⟩ <;> (try simp [B_iff,B_not] at c84))
 | refine Qd (c:=.tmp 87) ?_;simp [-zg,-zd,↓Qb,↓Qa,go_sem];try first | (refine ⟨?_,?_⟩ <;> refine zA ?_) | (refine ⟨fun c87=>?_,fun c87=>?_⟩ <;> (try simp [B_iff,B_not] at c87))
 | (refine Qe (id:=0) (Qz (ι:=Nat × Hp) (fun q:Nat × Hp=>⟨(upd (upd (upd (upd (upd (upd (upd (upd (upd (upd (upd (upd (fun _=>.any) 0 (.int .i64 a)) 1 (.ptr m.c1 0)) 2 (.ptr m.v2 0)) 3 (.ptr m.v3 0)) 4 (.ptr m.v4 0)) 5 (.pd [li cL nx])) 6 (.ptr m.v6 0)) 7 (.ptr m.v7 0)) 8 (.ptr m.c8 0)) 30 (li cI ns)) 31 (.int .i64 ns.length)) 32 (.int .i64 q.1)),q.2⟩) (fun q=>q.1 ≤ ns.length ∧ TM m nx (tLoop (visit nx f) a (ns.take q.1) (tPush a s)) q.2) (fun q=>ns.length - q.1) ((0,H2)) ?_ ?_ ?_);exact ⟨Nat.zero_le _,by dsimp only;rw [zakf];exact hT⟩;((repeat' (first | exact Qg (by assumption) | exact Qi | refine Qf ?_ ?_ | refine Qh ?_)) <;> simp [-zg,-zd,↓Qb,↓Qa,go_sem]);rintro q ⟨q1,q2⟩)
 | (refine ⟨(q.1 + 1,H9),⟨by dsimp only;omega,by dsimp only;rw [zakg _ _ c33,hu,hy];exact t9⟩,by first | omega | (simp;done) | (simp;omega),?_⟩;((repeat' (first | exact Qg (by assumption) | exact Qi | refine Qf ?_ ?_ | refine Qh ?_)) <;> simp [-zg,-zd,↓Qb,↓Qa,go_sem,]))
 | (refine Qe (id:=3) (Qz (ι:=Nat × Int × Hp) (fun r:Nat × Int × Hp=>⟨(upd (upd (upd (upd (upd (upd (upd (upd (upd (upd (fun _=>.any) 0 (.int .i64 a)) 1 (.ptr m.c1 0)) 2 (.ptr m.v2 0)) 3 (.ptr m.v3 0)) 4 (.ptr m.v4 0)) 5 (.pd [li cL nx])) 6 (.ptr m.v6 0)) 7 (.ptr m.v7 0)) 8 (.ptr m.c8 0)) 12 (.int .i64 r.2.1)),r.2.2⟩) (fun r=>r.1 ≤ r0.length + 1 ∧ TM m nx (pops r.1 u) r.2.2 ∧ r.2.1 = popT u.stk r.1) (fun r=>r0.length + 1 - r.1) ((0,-1,q.2)) ?_ ?_ ?_);exact ⟨Nat.zero_le _,hTq,rfl⟩;((repeat' (first | exact Qg (by assumption) | exact Qi | refine Qf ?_ ?_ | refine Qh ?_)) <;> simp [-zg,-zd,↓Qb,↓Qa,go_sem]);rintro r ⟨r1,r2,r3⟩)
 | (refine ⟨(r.1 + 1,tp,upd H8 m.b7 (some (cat cI (v.part.set tp.toNat v.pts) ++ zrP m.j7 .any))),⟨by dsimp only;omega,by show TM m nx (pop1 (pops r.1 u)) _;rw [hv];exact ⟨by simp [upd,h1,NEm.w_b7 hne_,tPush,pop1,gt,htp],by simp [upd,h2,NEm.w_b7 hne_,tPush,pop1,gt,htp],by simp [upd,g2,NEm.w_b7 hne_,tPush,pop1,gt,htp],by simp [upd,h3,NEm.w_b7 hne_,tPush,pop1,gt,htp],by simp [upd,g3,NEm.w_b7 hne_,tPush,pop1,gt,htp],by simp [upd,h6,NEm.w_b7 hne_,tPush,pop1,gt,htp],by simp [upd,h7,NEm.w_b7 hne_,tPush,pop1,gt,htp],by simp [upd,g7,NEm.w_b7 hne_,tPush,pop1,gt,htp],by simp [upd,h8,NEm.w_b7 hne_,tPush,pop1,gt,htp],⟨sb,sk,jl,by simp [upd,h4,NEm.w_b7 hne_,tPush,pop1,htp],by simp [upd,g4,NEs.l hsb,tPush,pop1,htp],l4,l5,hsb⟩⟩,by dsimp only;rw [htp2]⟩,by first | omega | (simp;done) | (simp;omega),?_⟩;((repeat' (first | exact Qg (by assumption) | exact Qi | refine Qf ?_ ?_ | refine Qh ?_)) <;> simp [-zg,-zd,↓Qb,↓Qa,go_sem,]))
 | (refine Qe ?_)
 | (refine Qt ?_;simp [-zg,-zd,↓Qb,↓Qa,go_sem])
 | (refine Qs ?_;simp [-zg,-zd,↓Qb,↓Qa,go_sem])
 | (refine Qv ?_;simp [-zg,-zd,↓Qb,↓Qa,go_sem,Try.results104])
 | (intro hx;refine zA ?_)
 | (refine ⟨?_,?_⟩ <;> refine zA ?_)
 | (intro hx;constructor <;> intro hs)
 | (constructor <;> intro hs)
 | (refine ⟨?_,fun hs=>?_⟩;refine zA ?_)
 | (refine ⟨fun hs=>?_,?_⟩;rotate_left;refine zA ?_;rotate_left)))
  all_goals (first
 | (refine ret_vis (fn:=Try.f104) rfl (.inr rfl) hpre ?_;rw [hvis,tEnd,if_pos (by assumption),hfin];exact ⟨by simp [upd,h1,NEm.w_c8 hne_,tPush,pop1,gt],by simp [upd,h2,NEm.w_c8 hne_,tPush,pop1,gt],by simp [upd,g2,NEm.w_c8 hne_,tPush,pop1,gt],by simp [upd,h3,NEm.w_c8 hne_,tPush,pop1,gt],by simp [upd,g3,NEm.w_c8 hne_,tPush,pop1,gt],by simp [upd,h6,NEm.w_c8 hne_,tPush,pop1,gt],by simp [upd,h7,NEm.w_c8 hne_,tPush,pop1,gt],by simp [upd,g7,NEm.w_c8 hne_,tPush,pop1,gt],by simp [upd,h8,NEm.w_c8 hne_,tPush,pop1,gt],⟨sb,sk,jl,by simp [upd,h4,NEm.w_c8 hne_,tPush,pop1],by simp [upd,g4,NEs.l hsb,tPush,pop1],l4,l5,hsb⟩⟩)
 | (refine Qs ?_;refine ret_vis (fn:=Try.f104) rfl (.inr rfl) hpre ?_;rw [hvis,tEnd,if_neg (by assumption)];exact hTe)
 | skip)
end Go.Proofs.Ytnfldmfamnhpcaa.Vm

