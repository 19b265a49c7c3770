/-
  The specification's text of an automaton. Its condition: the edges' values are of 64 bits.
-/
import Derived.Test.YtnfldmfamnhpcaaDoorFA2
namespace Go.Proofs.YtnfldmfamnhpcaaDoor
open Go.RowKit Go.Deep
open Vm (Tr4 AutOk Zc AU accT)
set_option linter.unusedVariables false

theorem edge_val {v c:Int} (h0:0 ≤ c) (h7:c ≤ 7) (h:Vm.bitsD .and .i64 v c = v):v ≤ 7:=by
  have hc:(BitVec.ofInt 64 c).toNat = c.toNat:=by
    rw [BitVec.toNat_ofInt]
    have:c % ((2 ^ 64:Nat):Int) = c:=Int.emod_eq_of_lt h0 (by omega)
    rw [this]
  have k:(BitVec.ofInt 64 v &&& BitVec.ofInt 64 c).toNat ≤ c.toNat:=by rw [BitVec.toNat_and,hc];exact Nat.and_le_right
  have key:∀ x:BitVec 64,x.toNat ≤ c.toNat → IntKind.i64.wrap (x.toNat:Int) = x.toNat:=fun x hx=>Vm.wrap_in (by omega) (by omega)
  have e1:Vm.bitsD .and .i64 v c = ((BitVec.ofInt 64 v &&& BitVec.ofInt 64 c).toNat:Int):=key _ k
  omega
def edgeL (e:Tr4):List Int:=[e.1,e.2.1,e.2.2.1,e.2.2.2]
def wAut:List UInt8:=[97,117,116,111,109,97,116,111,110]
def wIni:List UInt8:=[105,110,105,116,105,97,108]
def wAcc:List UInt8:=[97,99,99,101,112,116,105,110,103]
def wEdge:List UInt8:=[101,100,103,101]
def edgeT (e:Tr4):List UInt8:=Xa wEdge (edgeL e)
def headT (a:List Int) (b:List Bool):List UInt8:=Xa wAut [(b.length:Int)] ++ Xa wIni a ++ Xa wAcc (accT b b.length)
def Ja (a:List Int) (b:List Bool) (c:List Tr4) (k:Nat):List UInt8:=headT a b ++ (c.take k).flatMap edgeT
noncomputable def autT (a:List Int) (b:List Bool) (c:List Tr4):List UInt8:=if Vm.B (AutOk a b.length c) = true then Ja a b c c.length else []
theorem autT_no {a:List Int} {b:List Bool} {c:List Tr4} (h:Vm.B (AutOk a b.length c) = false):autT a b c = []:=by simp [autT,h]
theorem autT_yes {a:List Int} {b:List Bool} {c:List Tr4} (h:Vm.B (AutOk a b.length c) = true):autT a b c = Ja a b c c.length:=by simp [autT,h]
theorem zajp {a:List Int} {b:List Bool} {c:List Tr4} {k:Nat} (h:k < c.length):Ja a b c (k + 1) = Ja a b c k ++ edgeT (Vm.nth c k):=by
  show _ ++ (c.take (k + 1)).flatMap edgeT = (_ ++ (c.take k).flatMap edgeT) ++ _
  rw [List.take_succ_eq_append_getElem h,Vm.nth_lt h,List.flatMap_append,List.append_assoc]
  simp only [List.flatMap_cons,List.flatMap_nil,List.append_nil]
structure AutN (a:List Int) (b:List Bool) (c:List Tr4):Prop where
  la:a.length ≤ 64
  lb:b.length ≤ 64
  lc:c.length ≤ 2048
  na:NumOk a
  ne:∀ i,i < c.length → NumOk (edgeL (Vm.nth c i))
theorem autN {a:List Int} {b:List Bool} {c:List Tr4} (h:AutOk a b.length c):AutN a b c:=by
  obtain ⟨g1,g2,g3,g4,g5⟩:=h
  refine ⟨Nat.le_trans (Vm.sorted_len g3) g2,g2,g4,fun i hi=>?_,fun i hi=>?_⟩
  · have h1:=Vm.sorted_ge (a:=a) (k:=a.length) (fun i hi=>(g3 i hi).1) i hi
    have h2:=(g3 i hi).2
    have e:nth a i = Vm.nth a i:=rfl
    rw [e];omega
  · obtain ⟨k1,k2,k3,k4,k5,k6,k7,k8⟩:=g5 i hi
    have hv:=edge_val k5 k6 k8
    intro j hj
    match j,hj with
    | 0,_=>show 0 ≤ (Vm.nth c i).1 ∧ (Vm.nth c i).1 ≤ 99;omega
    | 1,_=>show 0 ≤ (Vm.nth c i).2.1 ∧ (Vm.nth c i).2.1 ≤ 99;omega
    | 2,_=>show 0 ≤ (Vm.nth c i).2.2.1 ∧ (Vm.nth c i).2.2.1 ≤ 99;omega
    | 3,_=>show 0 ≤ (Vm.nth c i).2.2.2 ∧ (Vm.nth c i).2.2.2 ≤ 99;omega
theorem num_one {n:Nat} (h:n ≤ 64):NumOk [(n:Int)]:=fun i hi=>by
  obtain rfl:i = 0:=by simpa using hi
  show 0 ≤ (n:Int) ∧ (n:Int) ≤ 99
  omega
theorem num_acc {b:List Bool} (h:b.length ≤ 64) {k:Nat} (hk:k ≤ b.length):NumOk (accT b k):=fun i hi=>by
  have:=Vm.accT_bd b k (accT b k)[i] (List.getElem_mem hi)
  rw [nth_lt hi];omega
theorem headT_len {a:List Int} {b:List Bool} {c:List Tr4} (h:AutN a b c):(headT a b).length ≤ 1600:=by
  have h1:=Vj (wd:=wAut) (num_one h.lb)
  have h2:=Vj (wd:=wIni) h.na
  have h3:=Vj (wd:=wAcc) (num_acc h.lb (Nat.le_refl _))
  have h4:=Vm.accT_len b b.length
  have:=h.la;have:=h.lb
  have e1:wAut.length = 9:=rfl
  have e2:wIni.length = 7:=rfl
  have e3:wAcc.length = 9:=rfl
  simp only [headT,List.length_append,List.length_cons,List.length_nil] at *;omega
theorem edgeT_len {c:List Tr4} {i:Nat} (h:NumOk (edgeL (Vm.nth c i))):(edgeT (Vm.nth c i)).length ≤ 49:=by
  have h1:=Vj (wd:=wEdge) h
  have e1:wEdge.length = 4:=rfl
  have e2:(edgeL (Vm.nth c i)).length = 4:=rfl
  rw [edgeT];omega
theorem zakq {a:List Int} {b:List Bool} {c:List Tr4} (h:AutN a b c):∀ k,k ≤ c.length → (Ja a b c k).length ≤ 1600 + 49 * k
  | 0,_=>by have:=headT_len h;simp [Ja];omega
  | k + 1,hk=>by
    rw [zajp (by omega),List.length_append]
    have:=zakq h k (by omega)
    have:=edgeT_len (h.ne k (by omega))
    omega
def numsT (l:List Int):List UInt8:=l.flatMap fun n=>32 :: decN n.toNat
def s1 (a:List Int) (b:List Bool) (k:Nat):List UInt8:=Xa wAut [(b.length:Int)] ++ (wIni ++ numsT (a.take k))
def s2 (a:List Int) (b:List Bool) (k:Nat):List UInt8:=Xa wAut [(b.length:Int)] ++ Xa wIni a ++ (wAcc ++ numsT (accT b k))
end Go.Proofs.YtnfldmfamnhpcaaDoor

