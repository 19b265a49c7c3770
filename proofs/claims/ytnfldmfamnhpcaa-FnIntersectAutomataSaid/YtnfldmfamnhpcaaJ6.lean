/-
  impl.components: its walk. No conditions.
-/
import Derived.Test.YtnfldmfamnhpcaaJ5
namespace Go.Proofs.Ytnfldmfamnhpcaa.Vm
open Go
open Nat renaming sub_pos_of_lt → zsP
open List renaming getD_eq_getElem?_getD → zg,drop_one → zd,replicate → zrP
open Ne renaming symm → zS
set_option linter.unusedVariables false
set_option linter.unusedSimpArgs false
set_option maxRecDepth 200000

def fl1 (n k:Nat):List Int:=zrP k (-1) ++ zrP (n - k) 0
theorem zaim (n:Nat):fl1 n 0 = zrP n 0:=by simp [fl1]
theorem fl1_all (n:Nat):fl1 n n = zrP n (-1):=by simp [fl1]
theorem fl1_len {n k:Nat} (h:k ≤ n):(fl1 n k).length = n:=by simp [fl1];omega
theorem fl1_set {n k:Nat} (h:k < n):(fl1 n k).set k (-1) = fl1 n (k + 1):=by
  obtain ⟨m,e⟩:∃ m,n - k = m + 1:=⟨n - k - 1,by omega⟩
  have e2:n - (k + 1) = m:=by omega
  rw [fl1,fl1,e,e2,List.replicate_succ,set_mid (by simp),List.replicate_succ'];simp
structure V6 where
  v2:Nat
  b2:Nat
  k2:Nat
  j2:Nat
  v3:Nat
  b3:Nat
  k3:Nat
  j3:Nat
  v7:Nat
  b7:Nat
  k7:Nat
  j7:Nat
structure FM (m:V6) (n:Nat) (ps:List Int) (H:Hp):Prop where
  h2:H m.v2 = some [.sl m.b2 1 0 n m.k2]
  g2:H m.b2 = some (cat cI (zrP n 0) ++ zrP m.j2 .any)
  h3:H m.v3 = some [.sl m.b3 1 0 n m.k3]
  g3:H m.b3 = some (cat cI (zrP n 0) ++ zrP m.j3 .any)
  h7:H m.v7 = some [.sl m.b7 1 0 n m.k7]
  g7:H m.b7 = some (cat cI ps ++ zrP m.j7 .any)
def NE6 (m:V6):Prop:=¬ m.v2 = m.b2 ∧ ¬ m.v2 = m.v3 ∧ ¬ m.v2 = m.b3 ∧ ¬ m.v2 = m.v7 ∧ ¬ m.v2 = m.b7 ∧ ¬ m.b2 = m.v2 ∧ ¬ m.b2 = m.v3 ∧ ¬ m.b2 = m.b3 ∧ ¬ m.b2 = m.v7 ∧ ¬ m.b2 = m.b7 ∧ ¬ m.v3 = m.v2 ∧ ¬ m.v3 = m.b2 ∧ ¬ m.v3 = m.b3 ∧ ¬ m.v3 = m.v7 ∧ ¬ m.v3 = m.b7 ∧ ¬ m.b3 = m.v2 ∧ ¬ m.b3 = m.b2 ∧ ¬ m.b3 = m.v3 ∧ ¬ m.b3 = m.v7 ∧ ¬ m.b3 = m.b7 ∧ ¬ m.v7 = m.v2 ∧ ¬ m.v7 = m.b2 ∧ ¬ m.v7 = m.v3 ∧ ¬ m.v7 = m.b3 ∧ ¬ m.v7 = m.b7 ∧ ¬ m.b7 = m.v2 ∧ ¬ m.b7 = m.b2 ∧ ¬ m.b7 = m.v3 ∧ ¬ m.b7 = m.b3 ∧ ¬ m.b7 = m.v7
theorem NE6.out {m:V6} (h:NE6 m):¬ m.v2 = m.b2 ∧ ¬ m.v2 = m.v3 ∧ ¬ m.v2 = m.b3 ∧ ¬ m.v2 = m.v7 ∧ ¬ m.v2 = m.b7 ∧ ¬ m.b2 = m.v2 ∧ ¬ m.b2 = m.v3 ∧ ¬ m.b2 = m.b3 ∧ ¬ m.b2 = m.v7 ∧ ¬ m.b2 = m.b7 ∧ ¬ m.v3 = m.v2 ∧ ¬ m.v3 = m.b2 ∧ ¬ m.v3 = m.b3 ∧ ¬ m.v3 = m.v7 ∧ ¬ m.v3 = m.b7 ∧ ¬ m.b3 = m.v2 ∧ ¬ m.b3 = m.b2 ∧ ¬ m.b3 = m.v3 ∧ ¬ m.b3 = m.v7 ∧ ¬ m.b3 = m.b7 ∧ ¬ m.v7 = m.v2 ∧ ¬ m.v7 = m.b2 ∧ ¬ m.v7 = m.v3 ∧ ¬ m.v7 = m.b3 ∧ ¬ m.v7 = m.b7 ∧ ¬ m.b7 = m.v2 ∧ ¬ m.b7 = m.b2 ∧ ¬ m.b7 = m.v3 ∧ ¬ m.b7 = m.b3 ∧ ¬ m.b7 = m.v7:=h
theorem NE6.w_v2 {m:V6} (h:NE6 m):¬ m.b2 = m.v2 ∧ ¬ m.v3 = m.v2 ∧ ¬ m.b3 = m.v2 ∧ ¬ m.v7 = m.v2 ∧ ¬ m.b7 = m.v2:=by
  have h:=h.out
  simp only [h,not_false_eq_true,and_self]
theorem NE6.w_b2 {m:V6} (h:NE6 m):¬ m.v2 = m.b2 ∧ ¬ m.v3 = m.b2 ∧ ¬ m.b3 = m.b2 ∧ ¬ m.v7 = m.b2 ∧ ¬ m.b7 = m.b2:=by
  have h:=h.out
  simp only [h,not_false_eq_true,and_self]
theorem NE6.w_v3 {m:V6} (h:NE6 m):¬ m.v2 = m.v3 ∧ ¬ m.b2 = m.v3 ∧ ¬ m.b3 = m.v3 ∧ ¬ m.v7 = m.v3 ∧ ¬ m.b7 = m.v3:=by
  have h:=h.out
  simp only [h,not_false_eq_true,and_self]
theorem NE6.w_b3 {m:V6} (h:NE6 m):¬ m.v2 = m.b3 ∧ ¬ m.b2 = m.b3 ∧ ¬ m.v3 = m.b3 ∧ ¬ m.v7 = m.b3 ∧ ¬ m.b7 = m.b3:=by
  have h:=h.out
  simp only [h,not_false_eq_true,and_self]
theorem NE6.w_v7 {m:V6} (h:NE6 m):¬ m.v2 = m.v7 ∧ ¬ m.b2 = m.v7 ∧ ¬ m.v3 = m.v7 ∧ ¬ m.b3 = m.v7 ∧ ¬ m.b7 = m.v7:=by
  have h:=h.out
  simp only [h,not_false_eq_true,and_self]
theorem NE6.w_b7 {m:V6} (h:NE6 m):¬ m.v2 = m.b7 ∧ ¬ m.b2 = m.b7 ∧ ¬ m.v3 = m.b7 ∧ ¬ m.b3 = m.b7 ∧ ¬ m.v7 = m.b7:=by
  have h:=h.out
  simp only [h,not_false_eq_true,and_self]
structure NM (m:VN) (mb:Nat) (nx:List (List Int)) (ps:List Int) (k:Nat) (H:Hp):Prop where
  h7:H m.v7 = some [.sl m.b7 1 0 nx.length m.k7]
  g7:H m.b7 = some (cat cI (half ps k) ++ zrP m.j7 .any)
  hm:H mb = some (mp (esN 0 (dist (ps.take k))))
structure NM3 (m:VN) (mb:Nat) (nx:List (List Int)) (ps:List Int) (k:Nat) (H:Hp):Prop where
  h7:H m.v7 = some [.sl m.b7 1 0 nx.length m.k7]
  g7:H m.b7 = some (cat cI (half ps k) ++ zrP m.j7 .any)
  hm:H mb = some (mp (esN 0 (dist (ps.take (k + 1)))))
theorem map_II:mapII Try.prog 136:=⟨3,3,(Try.prog.info? 3).get (by kernel_rfl),by kernel_rfl,by kernel_rfl,(Option.some_get _).symm,by kernel_rfl⟩
@[go_sem] theorem map_IIt:mapII Try.prog 136 = True:=eq_true map_II
attribute [go_sem] esN_one esN_len
theorem sound_allocFn {P:Program} {o:Oper} {t:TypeId} (H:Hp) (ho:o.op = .alloc t) {ti:Ti} (ht:τ P t = some ti) (hz:ti.zero ≠ []) (h1:∀ i z,P.info? t = some i → i.zero = some z → z.cells.toList.all (fun v=>v.oneCell') = true):Sound P o [] H ⟨True,.box ti.zero,H,none⟩:=by
  refine .ofNew rfl rfl fun μ I w a f N avals hr hav hn hb hp hI hf=>?_
  obtain ⟨z,q1,⟨i,q2,q3,_⟩,q4⟩:=zado ht hz
  have hrep:RepL μ (fun x=>I x ∨ (w.heap.size ≤ x ∧ x < (w.alloc (.cells z.cells t)).heap.size ∧ x ∉ [w.heap.size])) (w.alloc (.cells z.cells t)) ti.zero z.cells.toList []:=by
    rw [q4];exact RepL.leafD _ _ _ _
  refine ⟨.pointer (some ⟨w.heap.size,0,none⟩),w.alloc (.cells z.cells t),[w.heap.size],?_,Frm.alloc _ _,?_,by simp,by simp,?_⟩
  · simp [execOp,ho,Instr.alloc,q1,newVar,newRow]
  · simp only [Rep]
    exact ⟨w.heap.size,z.cells,[],rfl,Whole.new w z.cells t (fun v hv=>(List.all_eq_true.1 (h1 i z q2 q3)) v hv),hrep,rfl⟩
  · simp only [bnd];rw [q4];exact zacu _ _
theorem AW_allocFn {P:Program} {B:Base} {n:Nat} {Q:Exit → St → Prop} {S:St} {id:Nat} {ops:Array Oper} {o:Oper} {t:TypeId} {d:Nat} (hops:ops = #[o]) (ho:o.op = .alloc t) (hdst:o.dst = some d) (hg:o.guard = none) (hd:d < n) {ti:Ti} (ht:τ P t = some ti) (hz:ti.zero ≠ []) (h1:∀ i z,P.info? t = some i → i.zero = some z → z.cells.toList.all (fun v=>v.oneCell') = true)
    (h:Q .normal ⟨upd S.T d (.box ti.zero),S.H⟩):AW P B n (.region id ops false) Q S:=fun a w μ fp N hR=>by
  subst hops
  refine wp_region ?_
  rw [show List.range (#[o]:Array Oper).size = [0] from rfl,wpOps_cons]
  unfold wpOp
  rw [show (#[o]:Array Oper)[0]? = some o from rfl]
  dsimp only
  rw [zama (b:=true) hR (by unfold Va;rw [hg]) (fun j oj t' hj ht'=>by
    rcases j with _ | j
    · simp at hj;subst hj;rw [hdst] at ht';cases ht';exact hd
    · simp at hj),if_pos rfl]
  refine .inl ?_
  have hop:o.op.operands.toList = []:=by rw [ho];rfl
  refine sound_allocFn S.H ho ht hz h1 B n S.T a w μ fp N [] hR (by rw [hop];rfl) trivial _ _ fun v w' μ' fp' N' hR'=>?_
  rw [hdst]
  obtain ⟨fp2,h2⟩:=R.put (ds:=[]) (vs:=[]) hR' hd
  exact ⟨_,μ',fp2,N',h2,h⟩
theorem tfn_zero:tfn.zero = [.any]:=by kernel_rfl
theorem tfn_one:∀ i z,Try.prog.info? 135 = some i → i.zero = some z → z.cells.toList.all (fun v=>v.oneCell') = true:=by
  have key:∀ (x:Option TypeInfo),x.map (fun i=>(i.zero.map (fun z=>z.cells.toList.all (fun v=>v.oneCell'))).getD false) = some true → ∀ i z,x = some i → i.zero = some z → z.cells.toList.all (fun v=>v.oneCell') = true:=by
    rintro _ h i z rfl h2
    simpa only [Option.map_some,h2,Option.getD_some,Option.some.injEq] using h
  exact key _ (by kernel_rfl)
theorem tInit_w (m:VN) (nx:List (List Int)) (H:Hp) (h1:H m.c1 = some [.int .i64 0]) (hF:FM ⟨m.v2,m.b2,m.k2,m.j2,m.v3,m.b3,m.k3,m.j3,m.v7,m.b7,m.k7,m.j7⟩ nx.length (zrP nx.length (-1)) H) (h6:H m.v6 = some [.fn 104 (m.args nx)]) (h8:H m.c8 = some [.int .i64 0]) (h4:H m.v4 = some [.nil]):TMw m nx (tAll nx 0) H :=
  ⟨h1,hF.h2,hF.g2,hF.h3,hF.g3,h6,hF.h7,hF.g7,h8,.inr ⟨rfl,h4⟩⟩
set_option maxHeartbeats 16000000 in
theorem comps_pure (nx:List (List Int)) (hx:Xp nx) (hs:NextS nx) (hn:nx.length ≤ 1048576):Pure Try.prog 84 [li cL nx] (fr 1 cI (Zc nx)):=by
  refine Pure.of_walk Try.func84 rfl (by simp [Try.f84]) (by simp [-zd,go_sem]) fun B hK=>?_
  have Γr_ok:=Γ0_ok
  (repeat' (first
 | refine Qu ?_
 | refine Qc (id:=0) Γr_ok [] (by kernel_rfl) ?_;simp [-zg,-zd,↓Qb,↓Qa,go_sem];try (refine Xb hK 1 ?_;simp [go_sem])
 | refine Qc (id:=1) Γr_ok [] (by kernel_rfl) ?_;simp [-zg,-zd,↓Qb,↓Qa,go_sem]
 | refine Xr (id:=2) Γr_ok mixed [] [3] (by kernel_rfl) (by kernel_rfl) (by simp [-zg,-zd,↓Qb,↓Qa,go_sem,make_cI,(by omega:8 * (nx.length:Int) ≤ 281474976710656),(by omega:(nx.length:Int) ≤ 281474976710656),(by omega:(nx.length:Int) ≤ 9223372036854775807)]) ?_;simp [-zg,-zd,↓Qb,↓Qa,go_sem,make_cI,(by omega:8 * (nx.length:Int) ≤ 281474976710656),(by omega:(nx.length:Int) ≤ 281474976710656),(by omega:(nx.length:Int) ≤ 9223372036854775807)];try ((refine Xu 4 rfl fun v2 f_v2=>?_);(dsimp only at f_v2);(refine Xu 5 rfl fun v3 f_v3=>?_);(dsimp only at f_v3);(have n_v3_v2:¬ v3 = v2:=(by rintro rfl;simp [upd] at f_v3));(refine Xu 6 rfl fun v7 f_v7=>?_);(dsimp only at f_v7);(have n_v7_v2:¬ v7 = v2:=(by rintro rfl;simp [upd,n_v3_v2,zS n_v3_v2] at f_v7));(have n_v7_v3:¬ v7 = v3:=(by rintro rfl;simp [upd,n_v3_v2,zS n_v3_v2] at f_v7));(refine Xs v2 0 (all:=[.fr 1 nx.length (cat cI (zrP nx.length 0))]) (by simp [upd,n_v3_v2,zS n_v3_v2,n_v7_v2,zS n_v7_v2,n_v7_v3,zS n_v7_v3]) rfl fun b2 k2 j2 f_b2 h_k2 h_j2=>?_);(dsimp only at f_b2);(have n_b2_v2:¬ b2 = v2:=(by rintro rfl;simp [upd,n_v3_v2,zS n_v3_v2,n_v7_v2,zS n_v7_v2,n_v7_v3,zS n_v7_v3] at f_b2));(have n_b2_v3:¬ b2 = v3:=(by rintro rfl;simp [upd,n_v3_v2,zS n_v3_v2,n_v7_v2,zS n_v7_v2,n_v7_v3,zS n_v7_v3] at f_b2));(have n_b2_v7:¬ b2 = v7:=(by rintro rfl;simp [upd,n_v3_v2,zS n_v3_v2,n_v7_v2,zS n_v7_v2,n_v7_v3,zS n_v7_v3] at f_b2));(refine Xs v3 0 (all:=[.fr 1 nx.length (cat cI (zrP nx.length 0))]) (by simp [upd,n_v3_v2,zS n_v3_v2,n_v7_v2,zS n_v7_v2,n_b2_v2,zS n_b2_v2,n_v7_v3,zS n_v7_v3,n_b2_v3,zS n_b2_v3,n_b2_v7,zS n_b2_v7]) rfl fun b3 k3 j3 f_b3 h_k3 h_j3=>?_);(dsimp only at f_b3);(have n_b3_v2:¬ b3 = v2:=(by rintro rfl;simp [upd,n_v3_v2,zS n_v3_v2,n_v7_v2,zS n_v7_v2,n_b2_v2,zS n_b2_v2,n_v7_v3,zS n_v7_v3,n_b2_v3,zS n_b2_v3,n_b2_v7,zS n_b2_v7] at f_b3));(have n_b3_v3:¬ b3 = v3:=(by rintro rfl;simp [upd,n_v3_v2,zS n_v3_v2,n_v7_v2,zS n_v7_v2,n_b2_v2,zS n_b2_v2,n_v7_v3,zS n_v7_v3,n_b2_v3,zS n_b2_v3,n_b2_v7,zS n_b2_v7] at f_b3));(have n_b3_v7:¬ b3 = v7:=(by rintro rfl;simp [upd,n_v3_v2,zS n_v3_v2,n_v7_v2,zS n_v7_v2,n_b2_v2,zS n_b2_v2,n_v7_v3,zS n_v7_v3,n_b2_v3,zS n_b2_v3,n_b2_v7,zS n_b2_v7] at f_b3));(have n_b3_b2:¬ b3 = b2:=(by rintro rfl;simp [upd,n_v3_v2,zS n_v3_v2,n_v7_v2,zS n_v7_v2,n_b2_v2,zS n_b2_v2,n_v7_v3,zS n_v7_v3,n_b2_v3,zS n_b2_v3,n_b2_v7,zS n_b2_v7] at f_b3));(refine Xs v7 0 (all:=[.fr 1 nx.length (cat cI (zrP nx.length 0))]) (by simp [upd,n_v3_v2,zS n_v3_v2,n_v7_v2,zS n_v7_v2,n_b2_v2,zS n_b2_v2,n_b3_v2,zS n_b3_v2,n_v7_v3,zS n_v7_v3,n_b2_v3,zS n_b2_v3,n_b3_v3,zS n_b3_v3,n_b2_v7,zS n_b2_v7,n_b3_v7,zS n_b3_v7,n_b3_b2,zS n_b3_b2]) rfl fun b7 k7 j7 f_b7 h_k7 h_j7=>?_);(dsimp only at f_b7);(have n_b7_v2:¬ b7 = v2:=(by rintro rfl;simp [upd,n_v3_v2,zS n_v3_v2,n_v7_v2,zS n_v7_v2,n_b2_v2,zS n_b2_v2,n_b3_v2,zS n_b3_v2,n_v7_v3,zS n_v7_v3,n_b2_v3,zS n_b2_v3,n_b3_v3,zS n_b3_v3,n_b2_v7,zS n_b2_v7,n_b3_v7,zS n_b3_v7,n_b3_b2,zS n_b3_b2] at f_b7));(have n_b7_v3:¬ b7 = v3:=(by rintro rfl;simp [upd,n_v3_v2,zS n_v3_v2,n_v7_v2,zS n_v7_v2,n_b2_v2,zS n_b2_v2,n_b3_v2,zS n_b3_v2,n_v7_v3,zS n_v7_v3,n_b2_v3,zS n_b2_v3,n_b3_v3,zS n_b3_v3,n_b2_v7,zS n_b2_v7,n_b3_v7,zS n_b3_v7,n_b3_b2,zS n_b3_b2] at f_b7));(have n_b7_v7:¬ b7 = v7:=(by rintro rfl;simp [upd,n_v3_v2,zS n_v3_v2,n_v7_v2,zS n_v7_v2,n_b2_v2,zS n_b2_v2,n_b3_v2,zS n_b3_v2,n_v7_v3,zS n_v7_v3,n_b2_v3,zS n_b2_v3,n_b3_v3,zS n_b3_v3,n_b2_v7,zS n_b2_v7,n_b3_v7,zS n_b3_v7,n_b3_b2,zS n_b3_b2] at f_b7));(have n_b7_b2:¬ b7 = b2:=(by rintro rfl;simp [upd,n_v3_v2,zS n_v3_v2,n_v7_v2,zS n_v7_v2,n_b2_v2,zS n_b2_v2,n_b3_v2,zS n_b3_v2,n_v7_v3,zS n_v7_v3,n_b2_v3,zS n_b2_v3,n_b3_v3,zS n_b3_v3,n_b2_v7,zS n_b2_v7,n_b3_v7,zS n_b3_v7,n_b3_b2,zS n_b3_b2] at f_b7));(have n_b7_b3:¬ b7 = b3:=(by rintro rfl;simp [upd,n_v3_v2,zS n_v3_v2,n_v7_v2,zS n_v7_v2,n_b2_v2,zS n_b2_v2,n_b3_v2,zS n_b3_v2,n_v7_v3,zS n_v7_v3,n_b2_v3,zS n_b2_v3,n_b3_v3,zS n_b3_v3,n_b2_v7,zS n_b2_v7,n_b3_v7,zS n_b3_v7,n_b3_b2,zS n_b3_b2] at f_b7));(clear f_v2 f_v3 f_v7 f_b2 f_b3 f_b7);(refine Qq (fun H1=>FM ⟨v2,b2,k2,j2,v3,b3,k3,j3,v7,b7,k7,j7⟩ nx.length (fl1 nx.length 0) H1) ⟨by simp [upd,zaim,n_v3_v2,zS n_v3_v2,n_v7_v2,zS n_v7_v2,n_b2_v2,zS n_b2_v2,n_b3_v2,zS n_b3_v2,n_b7_v2,zS n_b7_v2,n_v7_v3,zS n_v7_v3,n_b2_v3,zS n_b2_v3,n_b3_v3,zS n_b3_v3,n_b7_v3,zS n_b7_v3,n_b2_v7,zS n_b2_v7,n_b3_v7,zS n_b3_v7,n_b7_v7,zS n_b7_v7,n_b3_b2,zS n_b3_b2,n_b7_b2,zS n_b7_b2,n_b7_b3,zS n_b7_b3],by simp [upd,zaim,n_v3_v2,zS n_v3_v2,n_v7_v2,zS n_v7_v2,n_b2_v2,zS n_b2_v2,n_b3_v2,zS n_b3_v2,n_b7_v2,zS n_b7_v2,n_v7_v3,zS n_v7_v3,n_b2_v3,zS n_b2_v3,n_b3_v3,zS n_b3_v3,n_b7_v3,zS n_b7_v3,n_b2_v7,zS n_b2_v7,n_b3_v7,zS n_b3_v7,n_b7_v7,zS n_b7_v7,n_b3_b2,zS n_b3_b2,n_b7_b2,zS n_b7_b2,n_b7_b3,zS n_b7_b3],by simp [upd,zaim,n_v3_v2,zS n_v3_v2,n_v7_v2,zS n_v7_v2,n_b2_v2,zS n_b2_v2,n_b3_v2,zS n_b3_v2,n_b7_v2,zS n_b7_v2,n_v7_v3,zS n_v7_v3,n_b2_v3,zS n_b2_v3,n_b3_v3,zS n_b3_v3,n_b7_v3,zS n_b7_v3,n_b2_v7,zS n_b2_v7,n_b3_v7,zS n_b3_v7,n_b7_v7,zS n_b7_v7,n_b3_b2,zS n_b3_b2,n_b7_b2,zS n_b7_b2,n_b7_b3,zS n_b7_b3],by simp [upd,zaim,n_v3_v2,zS n_v3_v2,n_v7_v2,zS n_v7_v2,n_b2_v2,zS n_b2_v2,n_b3_v2,zS n_b3_v2,n_b7_v2,zS n_b7_v2,n_v7_v3,zS n_v7_v3,n_b2_v3,zS n_b2_v3,n_b3_v3,zS n_b3_v3,n_b7_v3,zS n_b7_v3,n_b2_v7,zS n_b2_v7,n_b3_v7,zS n_b3_v7,n_b7_v7,zS n_b7_v7,n_b3_b2,zS n_b3_b2,n_b7_b2,zS n_b7_b2,n_b7_b3,zS n_b7_b3],by simp [upd,zaim,n_v3_v2,zS n_v3_v2,n_v7_v2,zS n_v7_v2,n_b2_v2,zS n_b2_v2,n_b3_v2,zS n_b3_v2,n_b7_v2,zS n_b7_v2,n_v7_v3,zS n_v7_v3,n_b2_v3,zS n_b2_v3,n_b3_v3,zS n_b3_v3,n_b7_v3,zS n_b7_v3,n_b2_v7,zS n_b2_v7,n_b3_v7,zS n_b3_v7,n_b7_v7,zS n_b7_v7,n_b3_b2,zS n_b3_b2,n_b7_b2,zS n_b7_b2,n_b7_b3,zS n_b7_b3],by simp [upd,zaim,n_v3_v2,zS n_v3_v2,n_v7_v2,zS n_v7_v2,n_b2_v2,zS n_b2_v2,n_b3_v2,zS n_b3_v2,n_b7_v2,zS n_b7_v2,n_v7_v3,zS n_v7_v3,n_b2_v3,zS n_b2_v3,n_b3_v3,zS n_b3_v3,n_b7_v3,zS n_b7_v3,n_b2_v7,zS n_b2_v7,n_b3_v7,zS n_b3_v7,n_b7_v7,zS n_b7_v7,n_b3_b2,zS n_b3_b2,n_b7_b2,zS n_b7_b2,n_b7_b3,zS n_b7_b3]⟩ fun H1 hF=>?_);(obtain ⟨m6,hm6⟩:∃ m6:V6,m6 = ⟨v2,b2,k2,j2,v3,b3,k3,j3,v7,b7,k7,j7⟩:=⟨_,rfl⟩);(have hN6:NE6 m6:=(by rw [hm6];unfold NE6;simp only [n_v3_v2,zS n_v3_v2,n_v7_v2,zS n_v7_v2,n_b2_v2,zS n_b2_v2,n_b3_v2,zS n_b3_v2,n_b7_v2,zS n_b7_v2,n_v7_v3,zS n_v7_v3,n_b2_v3,zS n_b2_v3,n_b3_v3,zS n_b3_v3,n_b7_v3,zS n_b7_v3,n_b2_v7,zS n_b2_v7,n_b3_v7,zS n_b3_v7,n_b7_v7,zS n_b7_v7,n_b3_b2,zS n_b3_b2,n_b7_b2,zS n_b7_b2,n_b7_b3,zS n_b7_b3,not_false_eq_true,and_self]));(rw [← hm6] at hF);(have x_k7:nx.length ≤ m6.k7:=(by rw [hm6];exact h_k7));(have x_j7:m6.k7 ≤ nx.length + m6.j7:=(by rw [hm6];show k7 ≤ nx.length + j7;omega));(obtain ⟨q2,q3,q7⟩:v2 = m6.v2 ∧ v3 = m6.v3 ∧ v7 = m6.v7:=(by rw [hm6];exact ⟨rfl,rfl,rfl⟩));(rw [q2,q3,q7]);(clear hm6 q2 q3 q7 h_k2 h_j2 h_k3 h_j3 h_k7 h_j7 n_v3_v2 n_v7_v2 n_b2_v2 n_b3_v2 n_b7_v2 n_v7_v3 n_b2_v3 n_b3_v3 n_b7_v3 n_b2_v7 n_b3_v7 n_b7_v7 n_b3_b2 n_b7_b2 n_b7_b3))
 | refine Qc (id:=3) Γr_ok [] (by kernel_rfl) ?_;simp [-zg,-zd,↓Qb,↓Qa,go_sem,hF.h7]
 | refine Qc (id:=4) Γr_ok [] (by kernel_rfl) ?_;simp [-zg,-zd,↓Qb,↓Qa,go_sem]
 | refine Qc (id:=5) Γr_ok [] (by kernel_rfl) ?_;simp [-zg,-zd,↓Qb,↓Qa,go_sem]
 | refine Qc (id:=6) Γr_ok [] (by kernel_rfl) ?_;simp [-zg,-zd,↓Qb,↓Qa,go_sem,g2.h7,g2.g7,c29,Qj c29,zsP c29,fl1_len g1,fl1_set c29,(show q.1 < nx.length + m6.j7 by omega),(show q.1 + 1 ≤ nx.length + m6.j7 by omega)]
 | refine Qc (id:=7) Γr_ok [] (by kernel_rfl) ?_;simp [-zg,-zd,↓Qb,↓Qa,go_sem,wrapS (k:=q.1) (by omega)]
 | ((obtain ⟨kx,H3⟩:=q);(dsimp only at *);(obtain rfl:kx = nx.length:=by omega);(rw [fl1_all] at g2);(have hF2:=g2);(obtain ⟨h2,g2,h3,g3,h7,g7⟩:=g2));refine Qc (id:=8) Γr_ok [] (by kernel_rfl) ?_;simp [-zg,-zd,↓Qb,↓Qa,go_sem];try ((refine Xu 8 rfl fun v4 f_v4=>?_);(dsimp only at f_v4);(have n_v4_v2:¬ v4 = m6.v2:=(by intro e;rw [e] at f_v4;simp [upd,h2,g2,h3,g3,h7,g7] at f_v4));(have n_v4_b2:¬ v4 = m6.b2:=(by intro e;rw [e] at f_v4;simp [upd,h2,g2,h3,g3,h7,g7] at f_v4));(have n_v4_v3:¬ v4 = m6.v3:=(by intro e;rw [e] at f_v4;simp [upd,h2,g2,h3,g3,h7,g7] at f_v4));(have n_v4_b3:¬ v4 = m6.b3:=(by intro e;rw [e] at f_v4;simp [upd,h2,g2,h3,g3,h7,g7] at f_v4));(have n_v4_v7:¬ v4 = m6.v7:=(by intro e;rw [e] at f_v4;simp [upd,h2,g2,h3,g3,h7,g7] at f_v4));(have n_v4_b7:¬ v4 = m6.b7:=(by intro e;rw [e] at f_v4;simp [upd,h2,g2,h3,g3,h7,g7] at f_v4)))
 | refine Qc (id:=9) Γr_ok [] (by kernel_rfl) ?_;simp [-zg,-zd,↓Qb,↓Qa,go_sem];try ((refine Xu 9 rfl fun c1 f_c1=>?_);(dsimp only at f_c1);(have n_c1_v2:¬ c1 = m6.v2:=(by intro e;rw [e] at f_c1;simp [upd,h2,g2,h3,g3,h7,g7,n_v4_v2,zS n_v4_v2] at f_c1));(have n_c1_b2:¬ c1 = m6.b2:=(by intro e;rw [e] at f_c1;simp [upd,h2,g2,h3,g3,h7,g7,n_v4_b2,zS n_v4_b2] at f_c1));(have n_c1_v3:¬ c1 = m6.v3:=(by intro e;rw [e] at f_c1;simp [upd,h2,g2,h3,g3,h7,g7,n_v4_v3,zS n_v4_v3] at f_c1));(have n_c1_b3:¬ c1 = m6.b3:=(by intro e;rw [e] at f_c1;simp [upd,h2,g2,h3,g3,h7,g7,n_v4_b3,zS n_v4_b3] at f_c1));(have n_c1_v7:¬ c1 = m6.v7:=(by intro e;rw [e] at f_c1;simp [upd,h2,g2,h3,g3,h7,g7,n_v4_v7,zS n_v4_v7] at f_c1));(have n_c1_b7:¬ c1 = m6.b7:=(by intro e;rw [e] at f_c1;simp [upd,h2,g2,h3,g3,h7,g7,n_v4_b7,zS n_v4_b7] at f_c1));(have n_c1_v4:¬ c1 = v4:=(by rintro rfl;simp [upd] at f_c1));(refine Xu 10 rfl fun c8 f_c8=>?_);(dsimp only at f_c8);(have n_c8_v2:¬ c8 = m6.v2:=(by intro e;rw [e] at f_c8;simp [upd,h2,g2,h3,g3,h7,g7,n_v4_v2,zS n_v4_v2,n_c1_v2,zS n_c1_v2] at f_c8));(have n_c8_b2:¬ c8 = m6.b2:=(by intro e;rw [e] at f_c8;simp [upd,h2,g2,h3,g3,h7,g7,n_v4_b2,zS n_v4_b2,n_c1_b2,zS n_c1_b2] at f_c8));(have n_c8_v3:¬ c8 = m6.v3:=(by intro e;rw [e] at f_c8;simp [upd,h2,g2,h3,g3,h7,g7,n_v4_v3,zS n_v4_v3,n_c1_v3,zS n_c1_v3] at f_c8));(have n_c8_b3:¬ c8 = m6.b3:=(by intro e;rw [e] at f_c8;simp [upd,h2,g2,h3,g3,h7,g7,n_v4_b3,zS n_v4_b3,n_c1_b3,zS n_c1_b3] at f_c8));(have n_c8_v7:¬ c8 = m6.v7:=(by intro e;rw [e] at f_c8;simp [upd,h2,g2,h3,g3,h7,g7,n_v4_v7,zS n_v4_v7,n_c1_v7,zS n_c1_v7] at f_c8));(have n_c8_b7:¬ c8 = m6.b7:=(by intro e;rw [e] at f_c8;simp [upd,h2,g2,h3,g3,h7,g7,n_v4_b7,zS n_v4_b7,n_c1_b7,zS n_c1_b7] at f_c8));(have n_c8_v4:¬ c8 = v4:=(by rintro rfl;simp [upd,n_c1_v4,zS n_c1_v4] at f_c8));(have n_c8_c1:¬ c8 = c1:=(by rintro rfl;simp [upd,n_c1_v4,zS n_c1_v4] at f_c8)))
 | (fail);refine Qc (id:=10) Γr_ok [] (by kernel_rfl) ?_;simp [-zg,-zd,↓Qb,↓Qa,go_sem]
 | refine Qc (id:=11) Γr_ok [] (by kernel_rfl) ?_;simp [-zg,-zd,↓Qb,↓Qa,go_sem,n_v4_v2,zS n_v4_v2,n_v4_b2,zS n_v4_b2,n_v4_v3,zS n_v4_v3,n_v4_b3,zS n_v4_b3,n_v4_v7,zS n_v4_v7,n_v4_b7,zS n_v4_b7,n_c1_v2,zS n_c1_v2,n_c1_b2,zS n_c1_b2,n_c1_v3,zS n_c1_v3,n_c1_b3,zS n_c1_b3,n_c1_v7,zS n_c1_v7,n_c1_b7,zS n_c1_b7,n_c8_v2,zS n_c8_v2,n_c8_b2,zS n_c8_b2,n_c8_v3,zS n_c8_v3,n_c8_b3,zS n_c8_b3,n_c8_v7,zS n_c8_v7,n_c8_b7,zS n_c8_b7,n_v6_v2,zS n_v6_v2,n_v6_b2,zS n_v6_b2,n_v6_v3,zS n_v6_v3,n_v6_b3,zS n_v6_b3,n_v6_v7,zS n_v6_v7,n_v6_b7,zS n_v6_b7,n_c1_v4,zS n_c1_v4,n_c8_v4,zS n_c8_v4,n_v6_v4,zS n_v6_v4,n_c8_c1,zS n_c8_c1,n_v6_c1,zS n_v6_c1,n_v6_c8,zS n_v6_c8];try ((obtain ⟨m,hm⟩:∃ m:VN,m = ⟨c1,m6.v2,m6.b2,m6.k2,m6.j2,m6.v3,m6.b3,m6.k3,m6.j3,v4,v6,m6.v7,m6.b7,m6.k7,m6.j7,c8⟩:=⟨_,rfl⟩);(have hne_:NEm m:=(by rw [hm];unfold NEm;simp only [n_v4_v2,zS n_v4_v2,n_v4_b2,zS n_v4_b2,n_v4_v3,zS n_v4_v3,n_v4_b3,zS n_v4_b3,n_v4_v7,zS n_v4_v7,n_v4_b7,zS n_v4_b7,n_c1_v2,zS n_c1_v2,n_c1_b2,zS n_c1_b2,n_c1_v3,zS n_c1_v3,n_c1_b3,zS n_c1_b3,n_c1_v7,zS n_c1_v7,n_c1_b7,zS n_c1_b7,n_c8_v2,zS n_c8_v2,n_c8_b2,zS n_c8_b2,n_c8_v3,zS n_c8_v3,n_c8_b3,zS n_c8_b3,n_c8_v7,zS n_c8_v7,n_c8_b7,zS n_c8_b7,n_v6_v2,zS n_v6_v2,n_v6_b2,zS n_v6_b2,n_v6_v3,zS n_v6_v3,n_v6_b3,zS n_v6_b3,n_v6_v7,zS n_v6_v7,n_v6_b7,zS n_v6_b7,n_c1_v4,zS n_c1_v4,n_c8_v4,zS n_c8_v4,n_v6_v4,zS n_v6_v4,n_c8_c1,zS n_c8_c1,n_v6_c1,zS n_v6_c1,n_v6_c8,zS n_v6_c8,NE6.w_v2 hN6,NE6.w_b2 hN6,NE6.w_v3 hN6,NE6.w_b3 hN6,NE6.w_v7 hN6,NE6.w_b7 hN6,(NE6.w_v2 hN6),not_false_eq_true,and_self]));(refine Qq (fun H4=>TMw m nx (tAll nx 0) H4) (by rw [hm];exact tInit_w _ nx _ (by simp [upd,n_v4_v2,zS n_v4_v2,n_v4_b2,zS n_v4_b2,n_v4_v3,zS n_v4_v3,n_v4_b3,zS n_v4_b3,n_v4_v7,zS n_v4_v7,n_v4_b7,zS n_v4_b7,n_c1_v2,zS n_c1_v2,n_c1_b2,zS n_c1_b2,n_c1_v3,zS n_c1_v3,n_c1_b3,zS n_c1_b3,n_c1_v7,zS n_c1_v7,n_c1_b7,zS n_c1_b7,n_c8_v2,zS n_c8_v2,n_c8_b2,zS n_c8_b2,n_c8_v3,zS n_c8_v3,n_c8_b3,zS n_c8_b3,n_c8_v7,zS n_c8_v7,n_c8_b7,zS n_c8_b7,n_v6_v2,zS n_v6_v2,n_v6_b2,zS n_v6_b2,n_v6_v3,zS n_v6_v3,n_v6_b3,zS n_v6_b3,n_v6_v7,zS n_v6_v7,n_v6_b7,zS n_v6_b7,n_c1_v4,zS n_c1_v4,n_c8_v4,zS n_c8_v4,n_v6_v4,zS n_v6_v4,n_c8_c1,zS n_c8_c1,n_v6_c1,zS n_v6_c1,n_v6_c8,zS n_v6_c8]) ⟨by simp [upd,h2,n_v4_v2,zS n_v4_v2,n_v4_b2,zS n_v4_b2,n_v4_v3,zS n_v4_v3,n_v4_b3,zS n_v4_b3,n_v4_v7,zS n_v4_v7,n_v4_b7,zS n_v4_b7,n_c1_v2,zS n_c1_v2,n_c1_b2,zS n_c1_b2,n_c1_v3,zS n_c1_v3,n_c1_b3,zS n_c1_b3,n_c1_v7,zS n_c1_v7,n_c1_b7,zS n_c1_b7,n_c8_v2,zS n_c8_v2,n_c8_b2,zS n_c8_b2,n_c8_v3,zS n_c8_v3,n_c8_b3,zS n_c8_b3,n_c8_v7,zS n_c8_v7,n_c8_b7,zS n_c8_b7,n_v6_v2,zS n_v6_v2,n_v6_b2,zS n_v6_b2,n_v6_v3,zS n_v6_v3,n_v6_b3,zS n_v6_b3,n_v6_v7,zS n_v6_v7,n_v6_b7,zS n_v6_b7,n_c1_v4,zS n_c1_v4,n_c8_v4,zS n_c8_v4,n_v6_v4,zS n_v6_v4,n_c8_c1,zS n_c8_c1,n_v6_c1,zS n_v6_c1,n_v6_c8,zS n_v6_c8],by simp [upd,g2,n_v4_v2,zS n_v4_v2,n_v4_b2,zS n_v4_b2,n_v4_v3,zS n_v4_v3,n_v4_b3,zS n_v4_b3,n_v4_v7,zS n_v4_v7,n_v4_b7,zS n_v4_b7,n_c1_v2,zS n_c1_v2,n_c1_b2,zS n_c1_b2,n_c1_v3,zS n_c1_v3,n_c1_b3,zS n_c1_b3,n_c1_v7,zS n_c1_v7,n_c1_b7,zS n_c1_b7,n_c8_v2,zS n_c8_v2,n_c8_b2,zS n_c8_b2,n_c8_v3,zS n_c8_v3,n_c8_b3,zS n_c8_b3,n_c8_v7,zS n_c8_v7,n_c8_b7,zS n_c8_b7,n_v6_v2,zS n_v6_v2,n_v6_b2,zS n_v6_b2,n_v6_v3,zS n_v6_v3,n_v6_b3,zS n_v6_b3,n_v6_v7,zS n_v6_v7,n_v6_b7,zS n_v6_b7,n_c1_v4,zS n_c1_v4,n_c8_v4,zS n_c8_v4,n_v6_v4,zS n_v6_v4,n_c8_c1,zS n_c8_c1,n_v6_c1,zS n_v6_c1,n_v6_c8,zS n_v6_c8],by simp [upd,h3,n_v4_v2,zS n_v4_v2,n_v4_b2,zS n_v4_b2,n_v4_v3,zS n_v4_v3,n_v4_b3,zS n_v4_b3,n_v4_v7,zS n_v4_v7,n_v4_b7,zS n_v4_b7,n_c1_v2,zS n_c1_v2,n_c1_b2,zS n_c1_b2,n_c1_v3,zS n_c1_v3,n_c1_b3,zS n_c1_b3,n_c1_v7,zS n_c1_v7,n_c1_b7,zS n_c1_b7,n_c8_v2,zS n_c8_v2,n_c8_b2,zS n_c8_b2,n_c8_v3,zS n_c8_v3,n_c8_b3,zS n_c8_b3,n_c8_v7,zS n_c8_v7,n_c8_b7,zS n_c8_b7,n_v6_v2,zS n_v6_v2,n_v6_b2,zS n_v6_b2,n_v6_v3,zS n_v6_v3,n_v6_b3,zS n_v6_b3,n_v6_v7,zS n_v6_v7,n_v6_b7,zS n_v6_b7,n_c1_v4,zS n_c1_v4,n_c8_v4,zS n_c8_v4,n_v6_v4,zS n_v6_v4,n_c8_c1,zS n_c8_c1,n_v6_c1,zS n_v6_c1,n_v6_c8,zS n_v6_c8],by simp [upd,g3,n_v4_v2,zS n_v4_v2,n_v4_b2,zS n_v4_b2,n_v4_v3,zS n_v4_v3,n_v4_b3,zS n_v4_b3,n_v4_v7,zS n_v4_v7,n_v4_b7,zS n_v4_b7,n_c1_v2,zS n_c1_v2,n_c1_b2,zS n_c1_b2,n_c1_v3,zS n_c1_v3,n_c1_b3,zS n_c1_b3,n_c1_v7,zS n_c1_v7,n_c1_b7,zS n_c1_b7,n_c8_v2,zS n_c8_v2,n_c8_b2,zS n_c8_b2,n_c8_v3,zS n_c8_v3,n_c8_b3,zS n_c8_b3,n_c8_v7,zS n_c8_v7,n_c8_b7,zS n_c8_b7,n_v6_v2,zS n_v6_v2,n_v6_b2,zS n_v6_b2,n_v6_v3,zS n_v6_v3,n_v6_b3,zS n_v6_b3,n_v6_v7,zS n_v6_v7,n_v6_b7,zS n_v6_b7,n_c1_v4,zS n_c1_v4,n_c8_v4,zS n_c8_v4,n_v6_v4,zS n_v6_v4,n_c8_c1,zS n_c8_c1,n_v6_c1,zS n_v6_c1,n_v6_c8,zS n_v6_c8],by simp [upd,h7,n_v4_v2,zS n_v4_v2,n_v4_b2,zS n_v4_b2,n_v4_v3,zS n_v4_v3,n_v4_b3,zS n_v4_b3,n_v4_v7,zS n_v4_v7,n_v4_b7,zS n_v4_b7,n_c1_v2,zS n_c1_v2,n_c1_b2,zS n_c1_b2,n_c1_v3,zS n_c1_v3,n_c1_b3,zS n_c1_b3,n_c1_v7,zS n_c1_v7,n_c1_b7,zS n_c1_b7,n_c8_v2,zS n_c8_v2,n_c8_b2,zS n_c8_b2,n_c8_v3,zS n_c8_v3,n_c8_b3,zS n_c8_b3,n_c8_v7,zS n_c8_v7,n_c8_b7,zS n_c8_b7,n_v6_v2,zS n_v6_v2,n_v6_b2,zS n_v6_b2,n_v6_v3,zS n_v6_v3,n_v6_b3,zS n_v6_b3,n_v6_v7,zS n_v6_v7,n_v6_b7,zS n_v6_b7,n_c1_v4,zS n_c1_v4,n_c8_v4,zS n_c8_v4,n_v6_v4,zS n_v6_v4,n_c8_c1,zS n_c8_c1,n_v6_c1,zS n_v6_c1,n_v6_c8,zS n_v6_c8],by simp [upd,g7,n_v4_v2,zS n_v4_v2,n_v4_b2,zS n_v4_b2,n_v4_v3,zS n_v4_v3,n_v4_b3,zS n_v4_b3,n_v4_v7,zS n_v4_v7,n_v4_b7,zS n_v4_b7,n_c1_v2,zS n_c1_v2,n_c1_b2,zS n_c1_b2,n_c1_v3,zS n_c1_v3,n_c1_b3,zS n_c1_b3,n_c1_v7,zS n_c1_v7,n_c1_b7,zS n_c1_b7,n_c8_v2,zS n_c8_v2,n_c8_b2,zS n_c8_b2,n_c8_v3,zS n_c8_v3,n_c8_b3,zS n_c8_b3,n_c8_v7,zS n_c8_v7,n_c8_b7,zS n_c8_b7,n_v6_v2,zS n_v6_v2,n_v6_b2,zS n_v6_b2,n_v6_v3,zS n_v6_v3,n_v6_b3,zS n_v6_b3,n_v6_v7,zS n_v6_v7,n_v6_b7,zS n_v6_b7,n_c1_v4,zS n_c1_v4,n_c8_v4,zS n_c8_v4,n_v6_v4,zS n_v6_v4,n_c8_c1,zS n_c8_c1,n_v6_c1,zS n_v6_c1,n_v6_c8,zS n_v6_c8]⟩ (by simp [upd,VN.args,li,n_v4_v2,zS n_v4_v2,n_v4_b2,zS n_v4_b2,n_v4_v3,zS n_v4_v3,n_v4_b3,zS n_v4_b3,n_v4_v7,zS n_v4_v7,n_v4_b7,zS n_v4_b7,n_c1_v2,zS n_c1_v2,n_c1_b2,zS n_c1_b2,n_c1_v3,zS n_c1_v3,n_c1_b3,zS n_c1_b3,n_c1_v7,zS n_c1_v7,n_c1_b7,zS n_c1_b7,n_c8_v2,zS n_c8_v2,n_c8_b2,zS n_c8_b2,n_c8_v3,zS n_c8_v3,n_c8_b3,zS n_c8_b3,n_c8_v7,zS n_c8_v7,n_c8_b7,zS n_c8_b7,n_v6_v2,zS n_v6_v2,n_v6_b2,zS n_v6_b2,n_v6_v3,zS n_v6_v3,n_v6_b3,zS n_v6_b3,n_v6_v7,zS n_v6_v7,n_v6_b7,zS n_v6_b7,n_c1_v4,zS n_c1_v4,n_c8_v4,zS n_c8_v4,n_v6_v4,zS n_v6_v4,n_c8_c1,zS n_c8_c1,n_v6_c1,zS n_v6_c1,n_v6_c8,zS n_v6_c8]) (by simp [upd,n_v4_v2,zS n_v4_v2,n_v4_b2,zS n_v4_b2,n_v4_v3,zS n_v4_v3,n_v4_b3,zS n_v4_b3,n_v4_v7,zS n_v4_v7,n_v4_b7,zS n_v4_b7,n_c1_v2,zS n_c1_v2,n_c1_b2,zS n_c1_b2,n_c1_v3,zS n_c1_v3,n_c1_b3,zS n_c1_b3,n_c1_v7,zS n_c1_v7,n_c1_b7,zS n_c1_b7,n_c8_v2,zS n_c8_v2,n_c8_b2,zS n_c8_b2,n_c8_v3,zS n_c8_v3,n_c8_b3,zS n_c8_b3,n_c8_v7,zS n_c8_v7,n_c8_b7,zS n_c8_b7,n_v6_v2,zS n_v6_v2,n_v6_b2,zS n_v6_b2,n_v6_v3,zS n_v6_v3,n_v6_b3,zS n_v6_b3,n_v6_v7,zS n_v6_v7,n_v6_b7,zS n_v6_b7,n_c1_v4,zS n_c1_v4,n_c8_v4,zS n_c8_v4,n_v6_v4,zS n_v6_v4,n_c8_c1,zS n_c8_c1,n_v6_c1,zS n_v6_c1,n_v6_c8,zS n_v6_c8]) (by simp [upd,n_v4_v2,zS n_v4_v2,n_v4_b2,zS n_v4_b2,n_v4_v3,zS n_v4_v3,n_v4_b3,zS n_v4_b3,n_v4_v7,zS n_v4_v7,n_v4_b7,zS n_v4_b7,n_c1_v2,zS n_c1_v2,n_c1_b2,zS n_c1_b2,n_c1_v3,zS n_c1_v3,n_c1_b3,zS n_c1_b3,n_c1_v7,zS n_c1_v7,n_c1_b7,zS n_c1_b7,n_c8_v2,zS n_c8_v2,n_c8_b2,zS n_c8_b2,n_c8_v3,zS n_c8_v3,n_c8_b3,zS n_c8_b3,n_c8_v7,zS n_c8_v7,n_c8_b7,zS n_c8_b7,n_v6_v2,zS n_v6_v2,n_v6_b2,zS n_v6_b2,n_v6_v3,zS n_v6_v3,n_v6_b3,zS n_v6_b3,n_v6_v7,zS n_v6_v7,n_v6_b7,zS n_v6_b7,n_c1_v4,zS n_c1_v4,n_c8_v4,zS n_c8_v4,n_v6_v4,zS n_v6_v4,n_c8_c1,zS n_c8_c1,n_v6_c1,zS n_v6_c1,n_v6_c8,zS n_v6_c8])) fun H4 hT=>?_);(have y_k7:nx.length ≤ m.k7:=(by rw [hm];exact x_k7));(have y_j7:m.k7 ≤ nx.length + m.j7:=(by rw [hm];exact x_j7));(obtain ⟨r1,r2,r3,r4,r5,r6,r7⟩:c1 = m.c1 ∧ m6.v2 = m.v2 ∧ m6.v3 = m.v3 ∧ v4 = m.v4 ∧ v6 = m.v6 ∧ m6.v7 = m.v7 ∧ c8 = m.c8:=(by rw [hm];exact ⟨rfl,rfl,rfl,rfl,rfl,rfl,rfl⟩));(rw [r1,r2,r3,r4,r5,r6,r7]);(clear hm r1 r2 r3 r4 r5 r6 r7 h2 g2 h3 g3 h7 g7 hF2 n_v4_v2 n_v4_b2 n_v4_v3 n_v4_b3 n_v4_v7 n_v4_b7 n_c1_v2 n_c1_b2 n_c1_v3 n_c1_b3 n_c1_v7 n_c1_b7 n_c8_v2 n_c8_b2 n_c8_v3 n_c8_b3 n_c8_v7 n_c8_b7 n_v6_v2 n_v6_b2 n_v6_v3 n_v6_b3 n_v6_v7 n_v6_b7 n_c1_v4 n_c8_v4 n_v6_v4 n_c8_c1 n_v6_c1 n_v6_c8 f_v4 f_c1 f_c8 f_v6);(have Γr_ok:=Qo Γ0_ok (visitCn_ok (visit_spec m hne_ nx hx hs hn nx.length))))
 | refine Qc (id:=12) Γr_ok [] (by kernel_rfl) ?_;simp [-zg,-zd,↓Qb,↓Qa,go_sem]
 | refine Qc (id:=13) Γr_ok [] (by kernel_rfl) ?_;simp [-zg,-zd,↓Qb,↓Qa,go_sem]
 | refine Qc (id:=14) Γr_ok [] (by kernel_rfl) ?_;simp [-zg,-zd,↓Qb,↓Qa,go_sem]
 | ((obtain ⟨hI,hJ⟩:=tAll_ok hx q.1 (by omega));(obtain ⟨u,hu⟩:∃ u,tAll nx q.1 = u:=⟨_,rfl⟩);(have hsu:tAll nx (q.1 + 1) = if gt u.num (q.1:Int) = 0 then visit nx nx.length q.1 u else u:=(by rw [tAll,hu]));(rw [hu] at hI g2);(have hL2:=hI.ln));refine Qc (id:=15) Γr_ok [] (by kernel_rfl) ?_;simp [-zg,-zd,↓Qb,↓Qa,go_sem,g2.h2,g2.g2,hL2,c38,Qj c38,zsP c38,(show q.1 < nx.length + m.j2 by omega),(show q.1 + 1 ≤ nx.length + m.j2 by omega)]
 | ((have h0:gt u.num (q.1:Int) = 0:=(by simpa [gt] using c44));(have hM:May nx NoG (q.1:Int) u:=⟨hI,⟨by omega,by omega⟩,h0,fun x h=>h.elim⟩);(have hpr:Ji m nx nx.length q.1 u q.2:=⟨g2,⟨_,hM⟩,hI.wle⟩);(have hex:∃ s,Ji m nx nx.length q.1 s q.2:=⟨u,hpr⟩));refine Qc (id:=16) Γr_ok [] (by kernel_rfl) ?_;simp [-zg,-zd,↓Qb,↓Qa,go_sem,g2.h6,hex];try ((intro c7);(have hT7:=(vsel_ok hne_ hpr c7).w);(rw [if_pos h0] at hsu);(rw [← hsu] at hT7);(generalize vsel m nx nx.length q.1 q.2 c7 = H7 at *);(have fl:True ∧ True:=⟨trivial,trivial⟩))
 | (first | (rename True ∧ True=>k_;skip) | ((rw [if_neg (by simpa [gt] using c44)] at hsu);(refine Qq (fun H1=>TMw m nx u H1) g2 fun H7 hT7=>?_);(rw [← hsu] at hT7)));refine Qc (id:=17) Γr_ok [] (by kernel_rfl) ?_;simp [-zg,-zd,↓Qb,↓Qa,go_sem,wrapS (k:=q.1) (by omega)]
 | ((obtain ⟨kx,H8⟩:=q);(dsimp only at *);(obtain rfl:kx = nx.length:=by omega);(obtain ⟨hI,hJ⟩:=tAll_ok hx nx.length (Nat.le_refl _));(have hL7:=hI.lp);(obtain ⟨ps,hps⟩:∃ ps,(tAll nx nx.length).part = ps:=⟨_,rfl⟩);(have hcl:Zc nx = named ps nx.length:=(by rw [Zc,hps]));(rw [hps] at hL7);(have h7:=g2.h7);(have g7:=g2.g7);(rw [hps] at g7);(clear g2));refine Qc (id:=18) Γr_ok [] (by kernel_rfl) ?_;simp [-zg,-zd,↓Qb,↓Qa,go_sem];try ((refine AW_matMap 13 rfl fun mb f_mb=>?_);(dsimp only at f_mb);(have n1:¬ mb = m.v7:=(by rintro rfl;rw [h7] at f_mb;cases f_mb));(have n2:¬ mb = m.b7:=(by rintro rfl;rw [g7] at f_mb;cases f_mb));(refine Qq (fun H9=>NM m mb nx ps 0 H9) ⟨by simp [upd,zS n1,h7],by simp [upd,zS n2,g7,half_zero],by simp [upd,dist,esN]⟩ fun H9 hN=>?_))
 | refine Qc (id:=19) Γr_ok [] (by kernel_rfl) ?_;simp [-zg,-zd,↓Qb,↓Qa,go_sem,hN.h7]
 | refine Qc (id:=20) Γr_ok [] (by kernel_rfl) ?_;simp [-zg,-zd,↓Qb,↓Qa,go_sem]
 | ((obtain ⟨h7,g7,hm⟩:=g2);(have hkl:q.1 < ps.length:=(by omega));(have hhn:=half_nth hkl);(have hhl:=half_len (xs:=ps) (k:=q.1) (by omega));(have hdl:=dist_len ps q.1 (by omega)));refine Qc (id:=21) Γr_ok [] (by kernel_rfl) ?_;simp [-zg,-zd,↓Qb,↓Qa,go_sem,h7,g7,hhl,hL7,hhn,c53,Qj c53,zsP c53,(show q.1 < nx.length + m.j7 by omega),(show q.1 + 1 ≤ nx.length + m.j7 by omega)]
 | ((have hfe:=find_esN (nth ps q.1) 0 (dist (ps.take q.1))));refine Qc (id:=22) Γr_ok [] (by kernel_rfl) ?_;simp [-zg,-zd,↓Qb,↓Qa,go_sem,hm,hfe,Ju,zalz,esN_one]
 | refine Qc (id:=23) Γr_ok [] (by kernel_rfl) ?_;simp [-zg,-zd,↓Qb,↓Qa,go_sem]
 | ((have hnm:¬ nth ps q.1 ∈ dist (ps.take q.1):=(by intro z;simp_all));(have hput:=es_new hkl hnm));refine Qc (id:=24) Γr_ok [] (by kernel_rfl) ?_;simp [-zg,-zd,↓Qb,↓Qa,go_sem,hm,Ju,zalz,esN_one,esN_len,hput];try ((refine Qq (fun H1=>NM3 m mb nx ps q.1 H1) ⟨by simp [upd,h7,n1,zS n1],by simp [upd,g7,n2,zS n2],by simp [upd]⟩ fun H11 hN11=>?_);(have fl:True ∧ True:=⟨trivial,trivial⟩))
 | ((first | (rename True ∧ True=>k_;skip) | ((have hnm:nth ps q.1 ∈ dist (ps.take q.1):=(by first | exact c64 | (refine Classical.byContradiction fun z=>?_;simp_all)));(refine Qq (fun H1=>NM3 m mb nx ps q.1 H1) ⟨h7,g7,by show q.2 mb = _;rw [hm,es_old hkl hnm]⟩ fun H11 hN11=>?_)));(have hfe2:=es_find hkl);(have hst:=half_set hkl));refine Qc (id:=25) Γr_ok [] (by kernel_rfl) ?_;simp [-zg,-zd,↓Qb,↓Qa,go_sem,hN11.h7,hN11.g7,hN11.hm,Ju,zalz,esN_one,hfe2,hst,hhl,hL7,(show q.1 < nx.length + m.j7 by omega),(show q.1 + 1 ≤ nx.length + m.j7 by omega),c53,Qj c53,zsP c53];try ((refine Qq (fun H1=>NM m mb nx ps (q.1 + 1) H1) ⟨by simp [upd,hN11.h7,NEm.w_b7 hne_],by simp [upd],by simp [upd,hN11.hm,n2,zS n2]⟩ fun H12 hN12=>?_))
 | refine Qc (id:=26) Γr_ok [] (by kernel_rfl) ?_;simp [-zg,-zd,↓Qb,↓Qa,go_sem,wrapS (k:=q.1) (by omega)]
 | ((obtain ⟨kx,H13⟩:=q);(dsimp only at *);(obtain rfl:kx = nx.length:=by omega);(obtain ⟨h7,g7,hm⟩:=g2);(have hhe:half ps nx.length = Zc nx:=(by rw [← hL7,half_end,hL7,hcl]));(rw [hhe] at g7);(have hcn:=zami hx);(refine Zh m.v7 0 (b':=m.b7) (sz:=1) (m:=nx.length) (cp:=m.k7) (all:=[.sl m.b7 1 0 nx.length m.k7]) (cs:=cat cI (Zc nx) ++ zrP m.j7 .any) h7 rfl (by have:=hne_.out;simp only [this,ne_eq,not_false_eq_true]) g7 (by omega) (by simp [Qx];omega) (by simp [Qx];omega) ?_));refine Qc (id:=27) Γr_ok [] (by kernel_rfl) ?_;simp [-zg,-zd,↓Qb,↓Qa,go_sem,hcn,NEm.w_b7 hne_,Zg (f:=cI) (Zc nx) (zrP m.j7 .any) (n:=nx.length) hcn.symm]
 | refine Qd (c:=.tmp 29) ?_;simp [-zg,-zd,↓Qb,↓Qa,go_sem];try first | (refine ⟨?_,?_⟩ <;> refine zA ?_) | (refine ⟨fun c29=>?_,fun c29=>?_⟩ <;> (try simp [B_iff,B_not] at c29))
 | refine Qd (c:=.tmp 38) ?_;simp [-zg,-zd,↓Qb,↓Qa,go_sem];try first | (refine ⟨?_,?_⟩ <;> refine zA ?_) | (refine ⟨fun c38=>?_,fun c38=>?_⟩ <;> (try simp [B_iff,B_not] at c38))
 | refine Qd (c:=.tmp 44) ?_;simp [-zg,-zd,↓Qb,↓Qa,go_sem];try first | (refine ⟨?_,?_⟩ <;> refine zA ?_) | (refine ⟨fun c44=>?_,fun c44=>?_⟩ <;> (try simp [B_iff,B_not] at c44))
 | refine Qd (c:=.tmp 53) ?_;simp [-zg,-zd,↓Qb,↓Qa,go_sem];try first | (refine ⟨?_,?_⟩ <;> refine zA ?_) | (refine ⟨fun c53=>?_,fun c53=>?_⟩ <;> (try simp [B_iff,B_not] at c53))
 | refine Qd (c:=.tmp 64) ?_;simp [-zg,-zd,↓Qb,↓Qa,go_sem];try first | (refine ⟨?_,?_⟩ <;> refine zA ?_) | (refine ⟨fun c64=>?_,fun c64=>?_⟩ <;> (try simp [B_iff,B_not] at c64))
 | (refine Qe (id:=0) (Qz (ι:=Nat × Hp) (fun q:Nat × Hp=>⟨(upd (upd (upd (upd (upd (upd (upd (fun _=>.any) 1 (.pd [li cL nx])) 3 (.int .i64 nx.length)) 4 (.ptr m6.v2 0)) 5 (.ptr m6.v3 0)) 6 (.ptr m6.v7 0)) 27 (.int .i64 nx.length)) 28 (.int .i64 q.1)),q.2⟩) (fun q=>q.1 ≤ nx.length ∧ FM m6 nx.length (fl1 nx.length q.1) q.2) (fun q=>nx.length - q.1) ((0,H1)) ?_ ?_ ?_);exact ⟨Nat.zero_le _,hF⟩;((repeat' (first | exact Qg (by assumption) | exact Qi | refine Qf ?_ ?_ | refine Qh ?_)) <;> simp [-zg,-zd,↓Qb,↓Qa,go_sem]);rintro q ⟨g1,g2⟩)
 | (refine ⟨(q.1 + 1,upd q.2 m6.b7 (some (cat cI (fl1 nx.length (q.1 + 1)) ++ zrP m6.j7 .any))),⟨by dsimp only;omega,(by obtain ⟨h2,g2,h3,g3,h7,g7⟩:=g2;exact ⟨by simp [upd,h2,NE6.w_b7 hN6],by simp [upd,g2,NE6.w_b7 hN6],by simp [upd,h3,NE6.w_b7 hN6],by simp [upd,g3,NE6.w_b7 hN6],by simp [upd,h7,NE6.w_b7 hN6],by simp [upd]⟩)⟩,by first | omega | (simp;done) | (simp;omega),?_⟩;((repeat' (first | exact Qg (by assumption) | exact Qi | refine Qf ?_ ?_ | refine Qh ?_)) <;> simp [-zg,-zd,↓Qb,↓Qa,go_sem,]))
 | (refine Qe (id:=2) (Qz (ι:=Nat × Hp) (fun q:Nat × Hp=>⟨(upd (upd (upd (upd (upd (upd (upd (upd (upd (upd (upd (fun _=>.any) 1 (.pd [li cL nx])) 3 (.int .i64 nx.length)) 4 (.ptr m.v2 0)) 5 (.ptr m.v3 0)) 6 (.ptr m.v7 0)) 8 (.ptr m.v4 0)) 9 (.ptr m.c1 0)) 10 (.ptr m.c8 0)) 11 (.ptr m.v6 0)) 36 (.int .i64 nx.length)) 37 (.int .i64 q.1)),q.2⟩) (fun q=>q.1 ≤ nx.length ∧ TMw m nx (tAll nx q.1) q.2) (fun q=>nx.length - q.1) ((0,H4)) ?_ ?_ ?_);exact ⟨Nat.zero_le _,hT⟩;((repeat' (first | exact Qg (by assumption) | exact Qi | refine Qf ?_ ?_ | refine Qh ?_)) <;> simp [-zg,-zd,↓Qb,↓Qa,go_sem]);rintro q ⟨g1,g2⟩)
 | (refine ⟨(q.1 + 1,H7),⟨by dsimp only;omega,hT7⟩,by first | omega | (simp;done) | (simp;omega),?_⟩;((repeat' (first | exact Qg (by assumption) | exact Qi | refine Qf ?_ ?_ | refine Qh ?_)) <;> simp [-zg,-zd,↓Qb,↓Qa,go_sem,]))
 | (refine Qe (id:=4) (Qz (ι:=Nat × Hp) (fun q:Nat × Hp=>⟨(upd (upd (upd (upd (upd (upd (upd (upd (upd (upd (upd (upd (upd (fun _=>.any) 1 (.pd [li cL nx])) 3 (.int .i64 nx.length)) 4 (.ptr m.v2 0)) 5 (.ptr m.v3 0)) 6 (.ptr m.v7 0)) 8 (.ptr m.v4 0)) 9 (.ptr m.c1 0)) 10 (.ptr m.c8 0)) 11 (.ptr m.v6 0)) 13 (.mr mb)) 50 (.sl m.b7 1 0 nx.length m.k7)) 51 (.int .i64 nx.length)) 52 (.int .i64 q.1)),q.2⟩) (fun q=>q.1 ≤ nx.length ∧ NM m mb nx ps q.1 q.2) (fun q=>nx.length - q.1) ((0,H9)) ?_ ?_ ?_);exact ⟨Nat.zero_le _,hN⟩;((repeat' (first | exact Qg (by assumption) | exact Qi | refine Qf ?_ ?_ | refine Qh ?_)) <;> simp [-zg,-zd,↓Qb,↓Qa,go_sem]);rintro q ⟨g1,g2⟩)
 | (refine ⟨(q.1 + 1,H12),⟨by dsimp only;omega,hN12⟩,by first | omega | (simp;done) | (simp;omega),?_⟩;((repeat' (first | exact Qg (by assumption) | exact Qi | refine Qf ?_ ?_ | refine Qh ?_)) <;> simp [-zg,-zd,↓Qb,↓Qa,go_sem,]))
 | (refine Qe ?_)
 | (refine Qt ?_;simp [-zg,-zd,↓Qb,↓Qa,go_sem])
 | (refine Qs ?_;simp [-zg,-zd,↓Qb,↓Qa,go_sem])
 | (refine Qv ?_;simp [-zg,-zd,↓Qb,↓Qa,go_sem,Try.results84])
 | (intro hx;refine zA ?_)
 | (refine ⟨?_,?_⟩ <;> refine zA ?_)
 | (intro hx;constructor <;> intro hs)
 | (constructor <;> intro hs)
 | (refine ⟨?_,fun hs=>?_⟩;refine zA ?_)
 | (refine ⟨fun hs=>?_,?_⟩;rotate_left;refine zA ?_;rotate_left)
 | (refine AW_allocFn rfl rfl rfl rfl (by decide) ty_fn (by rw [tfn_zero];simp) tfn_one ?_;rw [tfn_zero];simp [Exit.thenA];(refine Xu 11 rfl fun v6 f_v6=>?_);(dsimp only at f_v6);(have n_v6_v2:¬ v6 = m6.v2:=(by intro e;rw [e] at f_v6;simp [upd,h2,g2,h3,g3,h7,g7,n_v4_v2,zS n_v4_v2,n_c1_v2,zS n_c1_v2,n_c8_v2,zS n_c8_v2] at f_v6));(have n_v6_b2:¬ v6 = m6.b2:=(by intro e;rw [e] at f_v6;simp [upd,h2,g2,h3,g3,h7,g7,n_v4_b2,zS n_v4_b2,n_c1_b2,zS n_c1_b2,n_c8_b2,zS n_c8_b2] at f_v6));(have n_v6_v3:¬ v6 = m6.v3:=(by intro e;rw [e] at f_v6;simp [upd,h2,g2,h3,g3,h7,g7,n_v4_v3,zS n_v4_v3,n_c1_v3,zS n_c1_v3,n_c8_v3,zS n_c8_v3] at f_v6));(have n_v6_b3:¬ v6 = m6.b3:=(by intro e;rw [e] at f_v6;simp [upd,h2,g2,h3,g3,h7,g7,n_v4_b3,zS n_v4_b3,n_c1_b3,zS n_c1_b3,n_c8_b3,zS n_c8_b3] at f_v6));(have n_v6_v7:¬ v6 = m6.v7:=(by intro e;rw [e] at f_v6;simp [upd,h2,g2,h3,g3,h7,g7,n_v4_v7,zS n_v4_v7,n_c1_v7,zS n_c1_v7,n_c8_v7,zS n_c8_v7] at f_v6));(have n_v6_b7:¬ v6 = m6.b7:=(by intro e;rw [e] at f_v6;simp [upd,h2,g2,h3,g3,h7,g7,n_v4_b7,zS n_v4_b7,n_c1_b7,zS n_c1_b7,n_c8_b7,zS n_c8_b7] at f_v6));(have n_v6_v4:¬ v6 = v4:=(by rintro rfl;simp [upd,n_c1_v4,zS n_c1_v4,n_c8_v4,zS n_c8_v4,n_c8_c1,zS n_c8_c1] at f_v6));(have n_v6_c1:¬ v6 = c1:=(by rintro rfl;simp [upd,n_c1_v4,zS n_c1_v4,n_c8_v4,zS n_c8_v4,n_c8_c1,zS n_c8_c1] at f_v6));(have n_v6_c8:¬ v6 = c8:=(by rintro rfl;simp [upd,n_c1_v4,zS n_c1_v4,n_c8_v4,zS n_c8_v4,n_c8_c1,zS n_c8_c1] at f_v6)))))

noncomputable def zaip:Con:=.pure fun
  | [.list n_nx c_nx]=>((Is cL n_nx c_nx) ∧ (Xp (de cL c_nx)) ∧ (NextS (de cL c_nx)) ∧ ((de cL c_nx).length ≤ 1048576),fr 1 cI (Zc (de cL c_nx)))
  | _=>(False,.any)
attribute [go_sem] zaip
theorem comps_pureC_ok:ConOk Try.prog 84 zaip:=by
  refine ⟨Qp Try.func84 (by decide) rfl,fun args h=>?_⟩
  revert h
  dsimp only
  split
  · intro h
    obtain ⟨⟨nx,rfl,rfl⟩,hx,hs,hn⟩:=h
    try simp only [Qr] at *
    exact ⟨comps_pure nx hx hs hn,by simp [go_sem]⟩
  · intro h
    exact h.elim
noncomputable def Γj1:FuncId → Con:=ext Γs8 84 zaip
attribute [go_sem] Γj1
theorem Γj1_ok:∀ g,ConOk Try.prog g (Γj1 g):=Qo Γs8_ok comps_pureC_ok

end Go.Proofs.Ytnfldmfamnhpcaa.Vm

