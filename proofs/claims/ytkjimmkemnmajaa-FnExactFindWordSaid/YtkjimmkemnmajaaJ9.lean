/-
  Successors gathered from edges, plain; rows of which some are nil. No conditions.
-/
import Derived.Test.YtkjimmkemnmajaaJ8
import Derived.Test.YtkjimmkemnmajaaTr
namespace Go.Proofs.Ytkjimmkemnmajaa.Vm
open Go
open List renaming replicate → zrP
set_option linter.unusedVariables false
set_option linter.unusedSimpArgs false
set_option maxRecDepth 200000

def oNd (x:List Int):D:=if x = [] then .nil else .fr 1 x.length (cat cI x)
def oN (x:List Int):List D:=[oNd x]
theorem oNd_nil:oNd [] = .nil:=rfl
theorem zaem {x:List Int} (h:¬ x = []):oNd x = .fr 1 x.length (cat cI x):=by rw [oNd,if_neg h]
theorem oNd_leaf (x:List Int):leaf (oNd x) = true:=by
  unfold oNd;split <;> rfl
theorem oNd_dat (x:List Int):dat (oNd x) = li cI x:=by
  by_cases h:x = []
  · subst h;simp [oNd_nil,dat,li,cat]
  · rw [zaem h];exact fr_dat x
instance:Wide oN 1:=⟨fun _=>rfl,by omega,fun a=>by simp [oN,oNd_leaf]⟩
instance:Own oN cL 2:=⟨fun a=>by
    by_cases h:a = []
    · subst h;simp [oN,oNd_nil,Zc,closed]
    · simp [oN,zaem h,Zc];exact fr_closed a,fun a=>by simp [oN,cL,oNd_dat],fun a N=>by
    by_cases h:a = []
    · subst h;simp [oN,oNd_nil,bndL,bnd]
    · simp only [oN,zaem h];exact ⟨fr_bnd N a,trivial⟩,fun a H j hj=>by
    by_cases h:a = []
    · subst h
      obtain ⟨j,rfl⟩:∃ i,j = i + 1:=⟨j - 1,by omega⟩
      simp [oN,oNd_nil,deref,cL,li,cat]
    · simp only [oN,zaem h,cL,List.map_cons,List.map_nil]
      have:=fr_deref (sz:=1) (f:=cI) H hj a
      simpa [fr] using this⟩
theorem oN_set {xs:List (List Int)} {i:Nat} {junk:List D} {y:List Int} (h:i < xs.length):(cat oN xs ++ junk).set i (oNd y) = cat oN (xs.set i y) ++ junk:=zahu h rfl
theorem oN_rep (n:Nat):cat oN (zrP n []) = zrP n .nil:=by
  induction n with
  | zero=>rfl
  | succ n ih=>rw [List.replicate_succ,List.replicate_succ,Xk,ih];rfl
theorem oN_get {xs:List (List Int)} {i:Nat} (h:i < xs.length) (junk:List D):(cat oN xs ++ junk).getD i .any = oNd (nth xs i):=by
  have h1:i < (cat oN xs).length:=by rw [Qu];omega
  rw [List.getD_eq_getElem?_getD,List.getElem?_append_left h1]
  have:=cat_get1 (f:=oN) h
  rw [List.getD_eq_getElem?_getD] at this
  exact this
def addE (r:List (List Int)) (f t:Int):List (List Int):=r.set f.toNat (nth r f.toNat ++ [t])
theorem addE_len (r:List (List Int)) (f t:Int):(addE r f t).length = r.length:=by simp [addE]
theorem zagz {r:List (List Int)} {f t:Int} {i:Nat} (hf:f.toNat < r.length):nth (addE r f t) i = if f.toNat = i then nth r i ++ [t] else nth r i:=by
  unfold addE
  by_cases e:f.toNat = i
  · subst e;rw [Zm hf,if_pos rfl]
  · rw [Za e,if_neg e]
theorem mem_addE {r:List (List Int)} {f t:Int} {i:Nat} (hf:f.toNat < r.length) (y:Int):y ∈ nth (addE r f t) i ↔ y ∈ nth r i ∨ (f.toNat = i ∧ y = t):=by
  rw [zagz hf]
  split
  · rename_i e;simp [e]
  · rename_i e;simp [e]
def InRng (n:Nat) (es:List Tr4):Prop:=∀ i,i < es.length → (0 ≤ (nth es i).1 ∧ (nth es i).1 < n) ∧ 0 ≤ (nth es i).2.2.2 ∧ (nth es i).2.2.2 < n
def nxE (n:Nat) (es:List Tr4) (k:Nat):List (List Int):=(es.take k).foldl (fun r e=>addE r e.1 e.2.2.2) (zrP n [])
theorem zagx (n:Nat) (es:List Tr4):nxE n es 0 = zrP n []:=by simp [nxE]
theorem zadi {n:Nat} {es:List Tr4} {k:Nat} (h:k < es.length):nxE n es (k + 1) = addE (nxE n es k) (nth es k).1 (nth es k).2.2.2:=by
  unfold nxE;rw [List.take_succ_eq_append_getElem h,← Qm h,List.foldl_append];rfl
theorem Xr (n:Nat) (es:List Tr4):∀ k,k ≤ es.length → (nxE n es k).length = n
  | 0,_=>by simp [nxE]
  | k + 1,h=>by rw [zadi (by omega),addE_len,Xr n es k (by omega)]
theorem nxE_row {n:Nat} {es:List Tr4} (hr:InRng n es):∀ k,k ≤ es.length → ∀ i,(nth (nxE n es k) i).length ≤ k
  | 0,_,i=>by
    rw [zagx]
    simp only [nth,List.getD_eq_getElem?_getD]
    rcases Nat.lt_or_ge i n with q | q
    · simp [q]
    · rw [List.getElem?_eq_none (by simpa using q)];simp [default]
  | k + 1,h,i=>by
    have ih:=nxE_row hr k (by omega) i
    have hk:=(hr k (by omega)).1
    rw [zadi (by omega),zagz (by rw [Xr n es k (by omega)];omega)]
    split
    · simp;omega
    · omega
theorem nxE_rng {n:Nat} {es:List Tr4} (hr:InRng n es):∀ k,k ≤ es.length → ∀ i y,y ∈ nth (nxE n es k) i → 0 ≤ y ∧ y < n
  | 0,_,i,y=>by
    rw [zagx]
    simp only [nth,List.getD_eq_getElem?_getD]
    rcases Nat.lt_or_ge i n with q | q
    · simp [q]
    · rw [List.getElem?_eq_none (by simpa using q)];simp [default]
  | k + 1,h,i,y=>by
    have ih:=nxE_rng hr k (by omega) i y
    have hk:=(hr k (by omega)).1
    rw [zadi (by omega),mem_addE (by rw [Xr n es k (by omega)];omega)]
    rintro (q | ⟨_,rfl⟩)
    · exact ih q
    · exact (hr k (by omega)).2
theorem Zk {n:Nat} {es:List Tr4} (hr:InRng n es):Qz (nxE n es es.length):=fun j hj k hk=>by
  have:=nxE_rng hr es.length (Nat.le_refl _) j _ (Xl hk)
  rw [Xr n es _ (Nat.le_refl _)];exact this
def Liv (nx:List (List Int)) (acc:List Bool) (ss:List Int):Prop:=∃ x,Nd nx x ∧ RchS nx ss x ∧ Cyc nx x ∧ nth acc x.toNat = true
noncomputable def livL (nx:List (List Int)) (acc:List Bool):List Bool:=(List.range nx.length).map fun i:Nat=>Vm.B (Liv nx acc [(i:Int)])
end Go.Proofs.Ytkjimmkemnmajaa.Vm

