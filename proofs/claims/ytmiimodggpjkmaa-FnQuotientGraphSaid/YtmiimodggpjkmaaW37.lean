/-
  FnQuotientGraph: the walk of the law. No conditions.
-/
import Derived.Test.YtmiimodggpjkmaaRH
import Derived.Test.YtmiimodggpjkmaaQC
import Derived.Test.YtmiimodggpjkmaaQD
namespace Go.Proofs.Ytmiimodggpjkmaa.Vm
open Go
open Nat renaming sub_pos_of_lt → zsP
open List renaming getD_eq_getElem?_getD → zg,drop_one → zd
set_option linter.unusedVariables false
set_option linter.unusedSimpArgs false
set_option maxRecDepth 200000

noncomputable def Γl10:FuncId → Con:=ext Γl9 9 zaeg
attribute [go_sem] Γl10
theorem Γl10_ok:∀ g,ConOk Try.prog g (Γl10 g):=Qm Γl9_ok zagl

noncomputable def Γl11:FuncId → Con:=ext Γl10 8 zahd
attribute [go_sem] Γl11
theorem Zl:∀ g,ConOk Try.prog g (Γl11 g):=Qm Γl10_ok zaol

theorem SmS.sum {a:List Ints2} (h:SmS a):msum mP a a.length ≤ 1048576:=by
  have key:∀ k,k ≤ a.length → msum mP a k ≤ k * 2020:=by
    intro k
    induction k with
    | zero=>intro _;simp [msum]
    | succ k ih =>
      intro hk
      rw [zakx (by omega)]
      have h1:=ih (by omega)
      have h2:=h.2 (nth a k) (Xs (by omega))
      simp only [mP]
      omega
  have:=key a.length (Nat.le_refl _)
  have:=h.1
  omega

set_option maxHeartbeats 4000000 in
theorem zaiz (xs:List UInt8)  : Pure Try.prog 3 [li cY xs] (.bool true):=by
  refine Pure.of_walk Try.func3 rfl (by simp [Try.f3]) (by simp [-zd,go_sem]) fun B hK=>?_
  (repeat' (first
 | refine Qs ?_
 | (refine Zn 0 rfl fun hm0=>?_);refine Qc (id:=0) Zl [] (by kernel_rfl) ?_;simp [-zg,-zd,↓Qb,↓Qa,go_sem]
 | refine Qc (id:=1) Zl [] (by kernel_rfl) ?_;simp [-zg,-zd,↓Qb,↓Qa,go_sem]
 | refine Qc (id:=2) Zl [] (by kernel_rfl) ?_;simp [-zg,-zd,↓Qb,↓Qa,go_sem]
 | refine Qc (id:=3) Zl [] (by kernel_rfl) ?_;simp [-zg,-zd,↓Qb,↓Qa,go_sem];try ((intro c3);(have z0:=zaho xs c3);(generalize zabc xs c3 = z at *);(obtain ⟨⟨ga,gb⟩,bk⟩:=z);(simp only [zaaa] at z0);(have hm:msum mP ga ga.length ≤ 1048576:=z0.sum);(refine Xb hK 3 ?_);(simp [go_sem]);(by_cases hQ:GraphOk ga gb ∧ Xy bk ∧ bk.length = ga.length);(have hB:=B_yes hQ);rotate_left 1;(have hB:=B_no hQ);rotate_left 1)
 | refine Qc (id:=4) Zl [] (by kernel_rfl) ?_;simp [-zg,-zd,↓Qb,↓Qa,go_sem,hm,hB];try ((refine Xb hK 5 ?_);(simp [go_sem]))
 | refine Qc (id:=5) Zl [] (by kernel_rfl) ?_;simp [-zg,-zd,↓Qb,↓Qa,go_sem,hm,hB];try ((refine Xb hK 7 ?_);(simp [go_sem]))
 | refine Qc (id:=6) Zl [34,40] (by kernel_rfl) ?_;simp [-zg,-zd,↓Qb,↓Qa,go_sem];try (refine ⟨fun s6a=>?_,fun s6a=>?_⟩ <;> (try simp [B_iff,B_not] at s6a) <;> try (refine ⟨fun s6b=>?_,fun s6b=>?_⟩ <;> (try simp [B_iff,B_not] at s6b) <;> try (refine ⟨fun s6c=>?_,fun s6c=>?_⟩ <;> (try simp [B_iff,B_not] at s6c))))
 | refine Qc (id:=7) Zl [47] (by kernel_rfl) ?_;simp [-zg,-zd,↓Qb,↓Qa,go_sem];try (refine ⟨fun s7a=>?_,fun s7a=>?_⟩ <;> (try simp [B_iff,B_not] at s7a) <;> try (refine ⟨fun s7b=>?_,fun s7b=>?_⟩ <;> (try simp [B_iff,B_not] at s7b)))
 | refine Qc (id:=8) Zl [] (by kernel_rfl) ?_;simp [-zg,-zd,↓Qb,↓Qa,go_sem];try ((obtain ⟨hG1,hP1,hL1⟩:=hQ);(have h60:ga.length ≤ 60:=hG1.2.1);(have hQ2:QgOk ga gb bk:=⟨hG1,hP1,hL1⟩);(have hG:=B_yes hQ2.graph);(have hz0:(fsN bk 0).length = 0:=rfl))
 | refine Qc (id:=9) Zl [] (by kernel_rfl) ?_;simp [-zg,-zd,↓Qb,↓Qa,go_sem]
 | refine Qc (id:=10) Zl [] (by kernel_rfl) ?_;simp [-zg,-zd,↓Qb,↓Qa,go_sem]
 | refine Qc (id:=12) Zl [] (by kernel_rfl) ?_;simp [-zg,-zd,↓Qb,↓Qa,go_sem,c55,Qg c55,zsP c55]
 | ((obtain ⟨k1,k2⟩:=qS_first (a:=ga) c63 c55);(have k3:i < ga.length:=(by omega)));refine Xm (id:=13) Zl mixed [] [] (by kernel_rfl) (by kernel_rfl) (by simp [-zg,-zd,↓Qb,↓Qa,go_sem,k1,Qg k1,zsP k1,k3,Qg k3,zsP k3,k2]) ?_;simp [-zg,-zd,↓Qb,↓Qa,go_sem,k1,Qg k1,zsP k1,k3,Qg k3,zsP k3,k2]
 | refine Qc (id:=14) Zl [] (by kernel_rfl) ?_;simp [-zg,-zd,↓Qb,↓Qa,go_sem]
 | ((have k4:=fsN_le bk i);(have e9:((fsN bk (i + 1)).length:Int) = ((fsN bk i).length:Int) + 1:=(by rw [zapn c63];simp)));refine Qc (id:=15) Zl [] (by kernel_rfl) ?_;simp [-zg,-zd,↓Qb,↓Qa,go_sem,Qz (x:=((fsN bk i).length:Int) + 1) (by omega) (by omega)]
 | (first | (have e10:=e9;skip) | (have e9:((fsN bk (i + 1)).length:Int) = ((fsN bk i).length:Int):=(by rw [fsN_no c63])));refine Qc (id:=11) Zl [] (by kernel_rfl) ?_;simp [-zg,-zd,↓Qb,↓Qa,go_sem,wrapS (k:=i) (by omega)]
 | ((obtain rfl:i = bk.length:=by omega));refine Qc (id:=16) Zl [80] (by kernel_rfl) ?_;simp [-zg,-zd,↓Qb,↓Qa,go_sem,hG,Vw];try (refine ⟨fun s16a=>?_,fun s16a=>?_⟩ <;> (try simp [B_iff,B_not] at s16a) <;> try (refine ⟨fun s16b=>?_,fun s16b=>?_⟩ <;> (try simp [B_iff,B_not] at s16b)))
 | refine Qd (c:=.tmp 13) ?_;simp [-zg,-zd,↓Qb,↓Qa,go_sem];try first | (refine ⟨?_,?_⟩ <;> refine zA ?_) | (refine ⟨fun c13=>?_,fun c13=>?_⟩ <;> (try simp [B_iff,B_not] at c13))
 | refine Qd (c:=.tmp 43) ?_;simp [-zg,-zd,↓Qb,↓Qa,go_sem];try first | (refine ⟨?_,?_⟩ <;> refine zA ?_) | (refine ⟨fun c43=>?_,fun c43=>?_⟩ <;> (try simp [B_iff,B_not] at c43))
 | refine Qd (c:=.tmp 55) ?_;simp [-zg,-zd,↓Qb,↓Qa,go_sem];try first | (refine ⟨?_,?_⟩ <;> refine zA ?_) | (refine ⟨fun c55=>?_,fun c55=>?_⟩ <;> (try simp [B_iff,B_not] at c55))
 | refine Qd (c:=.tmp 63) ?_;simp [-zg,-zd,↓Qb,↓Qa,go_sem];try first | (refine ⟨?_,?_⟩ <;> refine zA ?_) | (refine ⟨fun c63=>?_,fun c63=>?_⟩ <;> (try simp [B_iff,B_not] at c63))
 | refine Qd (c:=.tmp 75) ?_;simp [-zg,-zd,↓Qb,↓Qa,go_sem];try first | (refine ⟨?_,?_⟩ <;> refine zA ?_) | (refine ⟨fun c75=>?_,fun c75=>?_⟩ <;> (try simp [B_iff,B_not] at c75))
 | (refine Qe (id:=0) (Qy (ι:=Nat) (fun i:Nat=>⟨(upd (upd (upd (upd (upd (fun _=>.any) 3 (.pd [li cP ga,li cL gb])) 4 (li cI bk)) 5 (.pd [li cP (qS ga bk bk.length),li cL (qN gb bk bk.length)])) 9 (.int .i64 (fsN bk i).length)) 10 (.int .i64 i)),fun _=>none⟩) (fun i=>i ≤ bk.length) (fun i=>bk.length - i) (0) ?_ ?_ ?_);exact Nat.zero_le _;((repeat' (first | exact Qh (by assumption) | exact Qj | refine Qk ?_ ?_ | refine Qi ?_)) <;> simp [-zg,-zd,↓Qb,↓Qa,go_sem,hz0]);rintro i hi)
 | (refine ⟨i + 1,by omega,by first | omega | (simp;done) | (simp;omega),?_⟩;((repeat' (first | exact Qh (by assumption) | exact Qj | refine Qk ?_ ?_ | refine Qi ?_)) <;> simp [-zg,-zd,↓Qb,↓Qa,go_sem,e9]))
 | (refine Qe ?_)
 | (refine Qr ?_;simp [-zg,-zd,↓Qb,↓Qa,go_sem])
 | (refine Qq ?_;simp [-zg,-zd,↓Qb,↓Qa,go_sem])
 | (refine Qp ?_;simp [-zg,-zd,↓Qb,↓Qa,go_sem,Try.results3])
 | (intro hx;refine zA ?_)
 | (refine ⟨?_,?_⟩ <;> refine zA ?_)
 | (intro hx;constructor <;> intro hs)
 | (constructor <;> intro hs)
 | (refine ⟨?_,fun hs=>?_⟩;refine zA ?_)
 | (refine ⟨fun hs=>?_,?_⟩;rotate_left;refine zA ?_;rotate_left)))

end Go.Proofs.Ytmiimodggpjkmaa.Vm

