import Derived.Test.YtiilmjojffjhlaaGreatDoorKFA0
import Derived.Test.YtiilmjojffjhlaaGreatDoorKDV
import Derived.Test.YtiilmjojffjhlaaGreatDoorKPCb
/-
  From the machine's contracts to contracts over values; automata read out of memory. No conditions.
-/
namespace Go.Proofs.YtiilmjojffjhlaaGreatDoor.Vm
open Go Go.RowKit Go.Deep
set_option linter.unusedVariables false
set_option linter.unusedSimpArgs false
set_option maxRecDepth 200000

structure BR (w:World) (A:Option Addr) (N:Nat) (xs:List Bool):Prop where
  len:N = xs.length
  cells:∀ k,k < N → ∃ ad,A = some ad ∧ w.cell? (ad.add k) = some (.bool (nth xs k))
theorem DV.bools {w:World} {v:Value} {xs:List Bool} (h:DV w v (li cB xs)):∃ A c,v = .slice A xs.length c ∧ BR w A xs.length xs:=by
  obtain ⟨A,c,rfl,_,hc⟩:=DV.slice h
  refine ⟨A,c,rfl,rfl,fun k hk=>?_⟩
  obtain ⟨d,hd,e⟩:=cat_some (f:=cB) hk (j:=0) (by decide)
  simp at hd
  obtain ⟨bk,o,u,ha,hu,hr⟩:=hc k d hd
  refine ⟨_,ha,?_⟩
  rw [add0,hu,show u = .bool (nth xs k) from by rw [e] at hr;simpa [DV,Rep,cB] using hr]
structure TR (w:World) (A:Option Addr) (N:Nat) (xs:List Tr4):Prop where
  len:N = xs.length
  cells:∀ k,k < N → ∃ ad,A = some ad ∧ w.cell? (ad.add (k * 4)) = some (.int .i64 (nth xs k).1) ∧ w.cell? ⟨(ad.add (k * 4)).block,(ad.add (k * 4)).off + 1,none⟩ = some (.int .i64 (nth xs k).2.1) ∧
    w.cell? ⟨(ad.add (k * 4)).block,(ad.add (k * 4)).off + 2,none⟩ = some (.int .i64 (nth xs k).2.2.1) ∧ w.cell? ⟨(ad.add (k * 4)).block,(ad.add (k * 4)).off + 3,none⟩ = some (.int .i64 (nth xs k).2.2.2)
theorem DV.edges {w:World} {v:Value} {xs:List Tr4} (h:DV w v (li cT xs)):∃ A c,v = .slice A xs.length c ∧ TR w A xs.length xs:=by
  obtain ⟨A,c,rfl,_,hc⟩:=DV.slice h
  refine ⟨A,c,rfl,rfl,fun k hk=>?_⟩
  have key:∀ j (hj:j < 4) z,(cT (nth xs k)).getD j .any = .int .i64 z → ∃ bk o,A = some ⟨bk,o,none⟩ ∧ w.cell? ⟨bk,o + (k * 4 + j),none⟩ = some (.int .i64 z):=by
    intro j hj z hz
    obtain ⟨d,hd,e⟩:=cat_some (f:=cT) hk hj
    obtain ⟨bk,o,u,ha,hu,hr⟩:=hc _ d hd
    refine ⟨bk,o,ha,?_⟩
    rw [hu,show u = .int .i64 z from by rw [e,hz] at hr;simpa [DV,Rep] using hr]
  obtain ⟨bk,o,ha,h0⟩:=key 0 (by decide) _ rfl
  subst ha
  refine ⟨_,rfl,by rw [add0];exact h0,?_,?_,?_⟩
  · obtain ⟨bk',o',ha,h1⟩:=key 1 (by decide) _ rfl;cases ha;rw [add0];simpa only [Nat.add_assoc] using h1
  · obtain ⟨bk',o',ha,h1⟩:=key 2 (by decide) _ rfl;cases ha;rw [add0];simpa only [Nat.add_assoc] using h1
  · obtain ⟨bk',o',ha,h1⟩:=key 3 (by decide) _ rfl;cases ha;rw [add0];simpa only [Nat.add_assoc] using h1
def AU (w:World) (v:Value) (a:List Int) (b:List Bool) (c:List Tr4):Prop:=DV w v (.st [li cI a,li cB b,li cT c])
theorem AU.gr {w w':World} {v:Value} {a:List Int} {b:List Bool} {c:List Tr4} (h:AU w v a b c) (g:Gr w w'):AU w' v a b c:=DV.gr h g
theorem AU.shape {w:World} {v:Value} {a:List Int} {b:List Bool} {c:List Tr4} (h:AU w v a b c) :
    ∃ A1 c1 A2 c2 A3 c3,v = .agg #[.slice A1 a.length c1,.slice A2 b.length c2,.slice A3 c.length c3] ∧ IRw w A1 a.length c1 a ∧ BR w A2 b.length b ∧ TR w A3 c.length c ∧ DV w (.slice A1 a.length c1) (li cI a) ∧ DV w (.slice A2 b.length c2) (li cB b) ∧ DV w (.slice A3 c.length c3) (li cT c):=by
  unfold AU DV at h
  rw [Rep] at h
  obtain ⟨vs,rfl,h⟩:=h
  rw [RepL] at h
  obtain ⟨v1,vs1,f1,f2,rfl,e1,r1,h⟩:=h
  rw [RepL] at h
  obtain ⟨v2,vs2,f3,f4,rfl,e2,r2,h⟩:=h
  rw [RepL] at h
  obtain ⟨v3,vs3,f5,f6,rfl,e3,r3,h⟩:=h
  rw [RepL] at h
  obtain ⟨rfl,rfl⟩:=h
  obtain ⟨rfl,e1⟩:f1 = [] ∧ f2 = []:=by simpa using e1.symm
  subst e1
  obtain ⟨rfl,e2⟩:f3 = [] ∧ f4 = []:=by simpa using e2.symm
  subst e2
  obtain ⟨rfl,_⟩:f5 = [] ∧ True:=by simpa using e3.symm
  obtain ⟨A1,c1,rfl,i1⟩:=DV.ints r1
  obtain ⟨A2,c2,rfl,i2⟩:=DV.bools r2
  obtain ⟨A3,c3,rfl,i3⟩:=DV.edges r3
  exact ⟨A1,c1,A2,c2,A3,c3,rfl,i1,i2,i3,r1,r2,r3⟩
end Go.Proofs.YtiilmjojffjhlaaGreatDoor.Vm

/-
  The specification's text of an automaton. Its condition: the edges' values are of 64 bits.
-/
namespace Go.Proofs.YtiilmjojffjhlaaGreatDoor
open Go.RowKit Go.Deep
open Vm (Tr4 AutOk AllSmall AU accT)
set_option linter.unusedVariables false

theorem edge_val {v c:Int} (h0:0 ≤ c) (h7:c ≤ 7) (h:Vm.bitsD .and .i64 v c = v):v ≤ 7:=by
  have hc:(BitVec.ofInt 64 c).toNat = c.toNat:=by
    rw [BitVec.toNat_ofInt]
    have:c % ((2 ^ 64:Nat):Int) = c:=Int.emod_eq_of_lt h0 (by omega)
    rw [this]
  have k:(BitVec.ofInt 64 v &&& BitVec.ofInt 64 c).toNat ≤ c.toNat:=by rw [BitVec.toNat_and,hc];exact Nat.and_le_right
  have key:∀ x:BitVec 64,x.toNat ≤ c.toNat → IntKind.i64.wrap (x.toNat:Int) = x.toNat:=fun x hx=>Vm.wrap_in (by omega) (by omega)
  have e1:Vm.bitsD .and .i64 v c = ((BitVec.ofInt 64 v &&& BitVec.ofInt 64 c).toNat:Int):=key _ k
  omega
def edgeL (e:Tr4):List Int:=[e.1,e.2.1,e.2.2.1,e.2.2.2]
def wAut:List UInt8:=[97,117,116,111,109,97,116,111,110]
def wIni:List UInt8:=[105,110,105,116,105,97,108]
def wAcc:List UInt8:=[97,99,99,101,112,116,105,110,103]
def wEdge:List UInt8:=[101,100,103,101]
def edgeT (e:Tr4):List UInt8:=Qx wEdge (edgeL e)
def headT (a:List Int) (b:List Bool):List UInt8:=Qx wAut [(b.length:Int)] ++ Qx wIni a ++ Qx wAcc (accT b b.length)
def Xy (a:List Int) (b:List Bool) (c:List Tr4) (k:Nat):List UInt8:=headT a b ++ (c.take k).flatMap edgeT
noncomputable def autT (a:List Int) (b:List Bool) (c:List Tr4):List UInt8:=if Vm.B (AutOk a b.length c) = true then Xy a b c c.length else []
theorem autT_no {a:List Int} {b:List Bool} {c:List Tr4} (h:Vm.B (AutOk a b.length c) = false):autT a b c = []:=by simp [autT,h]
theorem zagj {a:List Int} {b:List Bool} {c:List Tr4} (h:Vm.B (AutOk a b.length c) = true):autT a b c = Xy a b c c.length:=by simp [autT,h]
theorem zada {a:List Int} {b:List Bool} {c:List Tr4} {k:Nat} (h:k < c.length):Xy a b c (k + 1) = Xy a b c k ++ edgeT (Vm.nth c k):=by
  show _ ++ (c.take (k + 1)).flatMap edgeT = (_ ++ (c.take k).flatMap edgeT) ++ _
  rw [List.take_succ_eq_append_getElem h,Vm.nth_lt h,List.flatMap_append,List.append_assoc]
  simp only [List.flatMap_cons,List.flatMap_nil,List.append_nil]
structure AutN (a:List Int) (b:List Bool) (c:List Tr4):Prop where
  la:a.length ≤ 64
  lb:b.length ≤ 64
  lc:c.length ≤ 2048
  na:NumOk a
  ne:∀ i,i < c.length → NumOk (edgeL (Vm.nth c i))
theorem autN {a:List Int} {b:List Bool} {c:List Tr4} (h:AutOk a b.length c):AutN a b c:=by
  obtain ⟨g1,g2,g3,g4,g5⟩:=h
  refine ⟨Nat.le_trans (Vm.sorted_len g3) g2,g2,g4,fun i hi=>?_,fun i hi=>?_⟩
  · have h1:=Vm.sorted_ge (a:=a) (k:=a.length) (fun i hi=>(g3 i hi).1) i hi
    have h2:=(g3 i hi).2
    have e:nth a i = Vm.nth a i:=rfl
    rw [e];omega
  · obtain ⟨k1,k2,k3,k4,k5,k6,k7,k8⟩:=g5 i hi
    have hv:=edge_val k5 k6 k8
    intro j hj
    match j,hj with
    | 0,_=>show 0 ≤ (Vm.nth c i).1 ∧ (Vm.nth c i).1 ≤ 99;omega
    | 1,_=>show 0 ≤ (Vm.nth c i).2.1 ∧ (Vm.nth c i).2.1 ≤ 99;omega
    | 2,_=>show 0 ≤ (Vm.nth c i).2.2.1 ∧ (Vm.nth c i).2.2.1 ≤ 99;omega
    | 3,_=>show 0 ≤ (Vm.nth c i).2.2.2 ∧ (Vm.nth c i).2.2.2 ≤ 99;omega
theorem zahj {n:Nat} (h:n ≤ 64):NumOk [(n:Int)]:=fun i hi=>by
  obtain rfl:i = 0:=by simpa using hi
  show 0 ≤ (n:Int) ∧ (n:Int) ≤ 99
  omega
theorem num_acc {b:List Bool} (h:b.length ≤ 64) {k:Nat} (hk:k ≤ b.length):NumOk (accT b k):=fun i hi=>by
  have:=Vm.accT_bd b k (accT b k)[i] (List.getElem_mem hi)
  rw [nth_lt hi];omega
theorem headT_len {a:List Int} {b:List Bool} {c:List Tr4} (h:AutN a b c):(headT a b).length ≤ 1600:=by
  have h1:=Zu (wd:=wAut) (zahj h.lb)
  have h2:=Zu (wd:=wIni) h.na
  have h3:=Zu (wd:=wAcc) (num_acc h.lb (Nat.le_refl _))
  have h4:=Vm.accT_len b b.length
  have:=h.la;have:=h.lb
  have e1:wAut.length = 9:=rfl
  have e2:wIni.length = 7:=rfl
  have e3:wAcc.length = 9:=rfl
  simp only [headT,List.length_append,List.length_cons,List.length_nil] at *;omega
theorem edgeT_len {c:List Tr4} {i:Nat} (h:NumOk (edgeL (Vm.nth c i))):(edgeT (Vm.nth c i)).length ≤ 49:=by
  have h1:=Zu (wd:=wEdge) h
  have e1:wEdge.length = 4:=rfl
  have e2:(edgeL (Vm.nth c i)).length = 4:=rfl
  rw [edgeT];omega
theorem zaec {a:List Int} {b:List Bool} {c:List Tr4} (h:AutN a b c):∀ k,k ≤ c.length → (Xy a b c k).length ≤ 1600 + 49 * k
  | 0,_=>by have:=headT_len h;simp [Xy];omega
  | k + 1,hk=>by
    rw [zada (by omega),List.length_append]
    have:=zaec h k (by omega)
    have:=edgeT_len (h.ne k (by omega))
    omega
def numsT (l:List Int):List UInt8:=l.flatMap fun n=>32 :: decN n.toNat
def s1 (a:List Int) (b:List Bool) (k:Nat):List UInt8:=Qx wAut [(b.length:Int)] ++ (wIni ++ numsT (a.take k))
def s2 (a:List Int) (b:List Bool) (k:Nat):List UInt8:=Qx wAut [(b.length:Int)] ++ Qx wIni a ++ (wAcc ++ numsT (accT b k))
theorem numsT_app (x y:List Int):numsT (x ++ y) = numsT x ++ numsT y:=by simp [numsT]
theorem s1_succ {a:List Int} {b:List Bool} {k:Nat} (h:k < a.length):s1 a b (k + 1) = s1 a b k ++ [32] ++ decN (nth a k).toNat:=by
  rw [s1,List.take_succ_eq_append_getElem h,numsT_app,nth_lt h,s1];simp [numsT]
theorem s1_end (a:List Int) (b:List Bool):s1 a b a.length ++ ([10] ++ wAcc) = s2 a b 0:=by
  simp [s1,s2,Qx,numsT,Vm.accT]
theorem s2_yes {a:List Int} {b:List Bool} {k:Nat} (h:Vm.nth b k = true):s2 a b (k + 1) = s2 a b k ++ [32] ++ decN k:=by
  rw [s2,Vm.accT_yes h,numsT_app,s2];simp [numsT]
theorem s2_no {a:List Int} {b:List Bool} {k:Nat} (h:Vm.nth b k = false):s2 a b (k + 1) = s2 a b k:=by rw [s2,Vm.accT_no h,s2]
theorem s2_end (a:List Int) (b:List Bool) (c:List Tr4):s2 a b b.length ++ [10] = Xy a b c 0:=by
  simp [s2,Xy,headT,Qx,numsT]
theorem s1_len {a:List Int} {b:List Bool} {c:List Tr4} (h:AutN a b c) (k:Nat):(s1 a b k).length ≤ 1600:=by
  have h1:=Zu (wd:=wAut) (zahj h.lb)
  have h2:=flat_len (a.take k) (fun i hi=>by
    have hi2:i < k ∧ i < a.length:=by have h9:=hi;simp at h9;omega
    have:=h.na i hi2.2
    rw [nth_lt hi,List.getElem_take,← nth_lt hi2.2];exact this)
  have:=h.la
  have e1:wAut.length = 9:=rfl
  have e2:wIni.length = 7:=rfl
  have e3:(a.take k).length ≤ 64:=by simp;omega
  simp only [s1,numsT,List.length_append,List.length_cons,List.length_nil] at *;omega
theorem s2_len {a:List Int} {b:List Bool} {c:List Tr4} (h:AutN a b c) {k:Nat} (hk:k ≤ b.length):(s2 a b k).length ≤ 2400:=by
  have h1:=Zu (wd:=wAut) (zahj h.lb)
  have h2:=Zu (wd:=wIni) h.na
  have h3:=flat_len (accT b k) (num_acc h.lb hk)
  have h4:=Vm.accT_len b k
  have:=h.la;have:=h.lb
  have e1:wAut.length = 9:=rfl
  have e2:wIni.length = 7:=rfl
  have e3:wAcc.length = 9:=rfl
  simp only [s2,numsT,List.length_append,List.length_cons,List.length_nil] at *;omega
theorem dec2 {n:Int} (h:0 ≤ n ∧ n ≤ 99):(decN n.toNat).length ≤ 2:=zadz 1 _ (by omega)
end Go.Proofs.YtiilmjojffjhlaaGreatDoor

/-
  The text of an automaton tells it. Plain lemmas; no conditions.
-/
namespace Go.Proofs.YtiilmjojffjhlaaGreatDoor
open Go.RowKit Go.Deep
open Vm (Tr4 AutOk AllSmall AU accT)
set_option linter.unusedVariables false

theorem numsT_no:∀ (x:List Int),(10:UInt8) ∉ numsT x
  | [],h=>by simp [numsT] at h
  | n :: x,h=>by
    have e:numsT (n :: x) = 32 :: (decN n.toNat ++ numsT x):=by simp [numsT]
    rw [e,List.mem_cons,List.mem_append] at h
    rcases h with h | h | h
    · exact absurd h (by decide)
    · exact decN_no (by decide) h
    · exact numsT_no x h
theorem accT_mem {b:List Bool}:∀ {k i:Nat},(i:Int) ∈ accT b k ↔ i < k ∧ Vm.nth b i = true
  | 0,i=>by simp [accT]
  | k + 1,i=>by
    rw [accT,List.mem_append,accT_mem (k:=k)]
    by_cases hk:Vm.nth b k = true
    · simp only [hk,if_true,List.mem_singleton]
      constructor
      · rintro (⟨h1,h2⟩ | h)
        · exact ⟨by omega,h2⟩
        · obtain rfl:i = k:=by omega
          exact ⟨by omega,hk⟩
      · rintro ⟨h1,h2⟩
        by_cases h:i = k
        · exact .inr (by omega)
        · exact .inl ⟨by omega,h2⟩
    · simp only [hk]
      constructor
      · rintro (⟨h1,h2⟩ | h)
        · exact ⟨by omega,h2⟩
        · simp at h
      · rintro ⟨h1,h2⟩
        by_cases h:i = k
        · subst h;exact absurd h2 hk
        · exact .inl ⟨by omega,h2⟩
theorem autT_ne {a:List Int} {b:List Bool} {c:List Tr4} (h:AutOk a b.length c):autT a b c ≠ []:=by
  rw [zagj (Vm.B_yes h)]
  simp [Xy,headT,Qx,wAut]
end Go.Proofs.YtiilmjojffjhlaaGreatDoor

