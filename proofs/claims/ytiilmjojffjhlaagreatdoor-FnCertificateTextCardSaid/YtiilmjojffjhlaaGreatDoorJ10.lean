import Derived.Test.YtiilmjojffjhlaaGreatDoorJ1
import Derived.Test.YtiilmjojffjhlaaGreatDoorRow
import Derived.Test.YtiilmjojffjhlaaGreatDoorVm15
import Derived.Test.YtiilmjojffjhlaaGreatDoorW16
import Derived.Test.YtiilmjojffjhlaaGreatDoorTr
/-
  The closure of impl.components: one visit. No conditions.
-/
namespace Go.Proofs.YtiilmjojffjhlaaGreatDoor.Vm
open Go
set_option linter.unusedVariables false
set_option linter.unusedSimpArgs false
set_option maxRecDepth 200000
end Go.Proofs.YtiilmjojffjhlaaGreatDoor.Vm

/-
  Breadth-first search, plain: what is met is what can be reached, and the way back is a shortest one. No conditions.
-/
namespace Go.Proofs.YtiilmjojffjhlaaGreatDoor.Vm
open Go
set_option linter.unusedVariables false
set_option linter.unusedSimpArgs false
set_option maxRecDepth 200000


def dist (xs:List Int):List Int:=xs.foldl (fun d x=>if x ∈ d then d else d ++ [x]) []
def named (xs:List Int) (k:Nat):List Int:=(xs.take k).map fun x=>((dist (xs.take k)).idxOf x:Int)


noncomputable def Γj1:FuncId → Con:=Γs8
attribute [go_sem] Γj1
theorem Γj1_ok:∀ g,ConOk Tryz.prog g (Γj1 g):=Γs8_ok

def mkd (m:List Bool) (x:Int):Prop:=nth m x.toNat = true
def un (m:List Bool):Nat:=(m.filter (fun x=>!x)).length
theorem un_set:∀ {m:List Bool} {k:Nat},k < m.length → nth m k = false → un (m.set k true) + 1 = un m
  | [],k,h,_=>by simp at h
  | x :: P,0,h,hx=>by
    have:x = false:=hx
    subst this
    simp [un]
  | x :: P,k + 1,h,hx=>by
    have ih:=un_set (m:=P) (k:=k) (by simpa using h) hx
    unfold un at ih ⊢
    rw [List.set_cons_succ,List.filter_cons,List.filter_cons]
    split <;> (try simp only [List.length_cons]) <;> omega
theorem un_le (m:List Bool):un m ≤ m.length:=List.length_filter_le ..
theorem mk_set {nx:List (List Int)} {m:List Bool} {x y:Int} (hl:m.length = nx.length) (hx:Nd nx x) (hy:Nd nx y):mkd (m.set x.toNat true) y ↔ x = y ∨ mkd m y:=by
  obtain ⟨h1,h2⟩:=hx
  obtain ⟨h3,h4⟩:=hy
  unfold mkd
  by_cases e:x.toNat = y.toNat
  · have:x = y:=by omega
    subst this
    rw [zacd (by omega)];simp
  · rw [Uv e]
    have:¬ x = y:=fun q=>e (by rw [q])
    simp [this]

noncomputable def Γj2:FuncId → Con:=Γj1
attribute [go_sem] Γj2
theorem Γj2_ok:∀ g,ConOk Tryz.prog g (Γj2 g):=Γj1_ok

noncomputable def Γj3:FuncId → Con:=Γj2
attribute [go_sem] Γj3
theorem Γj3_ok:∀ g,ConOk Tryz.prog g (Γj3 g):=Γj2_ok
noncomputable def Γj4:FuncId → Con:=Γj3
attribute [go_sem] Γj4
theorem Γj4_ok:∀ g,ConOk Tryz.prog g (Γj4 g):=Γj3_ok

def Zj (n:Nat) (ss:List Int) (k:Nat):List Bool:=(ss.take k).foldl (fun m x=>m.set x.toNat true) (List.replicate n false)
theorem zajb (n:Nat) (ss:List Int):Zj n ss 0 = List.replicate n false:=by simp [Zj]
theorem zajc {n:Nat} {ss:List Int} {k:Nat} (h:k < ss.length):(Zj n ss k).set (nth ss k).toNat true = Zj n ss (k + 1):=by
  unfold Zj
  rw [List.take_succ_eq_append_getElem h,List.foldl_append,← Xc h];rfl
theorem zakz (n:Nat) (ss:List Int) (k:Nat):(Zj n ss k).length = n:=by
  have:∀ (l:List Int) (m:List Bool),(l.foldl (fun m x=>m.set x.toNat true) m).length = m.length:=by
    intro l
    induction l with
    | nil=>intro m;rfl
    | cons x l ih=>intro m;rw [List.foldl_cons,ih,List.length_set]
  rw [Zj,this,List.length_replicate]
theorem marksK_mk {nx:List (List Int)} {ss:List Int} (hs:∀ x,x ∈ ss → Nd nx x):∀ k,k ≤ ss.length → ∀ x,Nd nx x → (mkd (Zj nx.length ss k) x ↔ x ∈ ss.take k)
  | 0,_,x,hx=>by
    have:=hx.1;have:=hx.2
    rw [zajb]
    unfold mkd
    rw [Xc (by simp;omega)];simp
  | k + 1,hk,x,hx=>by
    have ih:=marksK_mk hs k (by omega) x hx
    rw [← zajc (by omega),mk_set (nx:=nx) (zakz ..) (hs _ (Xz (by omega))) hx,ih,List.take_succ_eq_append_getElem (by omega),← Xc (by omega),List.mem_append,List.mem_singleton]
    constructor
    · rintro (q | q)
      · exact .inr q.symm
      · exact .inl q
    · rintro (q | q)
      · exact .inr q
      · exact .inl q.symm

def oNd (x:List Int):D:=if x = [] then .nil else .fr 1 x.length (cat cI x)
def oN (x:List Int):List D:=[oNd x]
theorem oNd_nil:oNd [] = .nil:=rfl
theorem zamm {x:List Int} (h:¬ x = []):oNd x = .fr 1 x.length (cat cI x):=by rw [oNd,if_neg h]
theorem oNd_leaf (x:List Int):leaf (oNd x) = true:=by
  unfold oNd;split <;> rfl
theorem oNd_dat (x:List Int):dat (oNd x) = li cI x:=by
  by_cases h:x = []
  · subst h;simp [oNd_nil,dat,li,cat]
  · rw [zamm h];exact fr_dat x
instance:Wide oN 1:=⟨fun _=>rfl,by omega,fun a=>by simp [oN,oNd_leaf]⟩
instance:Own oN cL 2:=⟨fun a=>by
    by_cases h:a = []
    · subst h;simp [oN,oNd_nil,Zo,closed]
    · simp [oN,zamm h,Zo];exact fr_closed a,fun a=>by simp [oN,cL,oNd_dat],fun a N=>by
    by_cases h:a = []
    · subst h;simp [oN,oNd_nil,bndL,bnd]
    · simp only [oN,zamm h];exact ⟨fr_bnd N a,trivial⟩,fun a H j hj=>by
    by_cases h:a = []
    · subst h
      obtain ⟨j,rfl⟩:∃ i,j = i + 1:=⟨j - 1,by omega⟩
      simp [oN,oNd_nil,deref,cL,li,cat]
    · simp only [oN,zamm h,cL,List.map_cons,List.map_nil]
      have:=fr_deref (sz:=1) (f:=cI) H hj a
      simpa [fr] using this⟩
theorem oN_set {xs:List (List Int)} {i:Nat} {junk:List D} {y:List Int} (h:i < xs.length):(cat oN xs ++ junk).set i (oNd y) = cat oN (xs.set i y) ++ junk:=zanj h rfl
theorem oN_rep (n:Nat):cat oN (List.replicate n []) = List.replicate n .nil:=by
  induction n with
  | zero=>rfl
  | succ n ih=>rw [List.replicate_succ,List.replicate_succ,Xe,ih];rfl
theorem oN_get {xs:List (List Int)} {i:Nat} (h:i < xs.length) (junk:List D):(cat oN xs ++ junk).getD i .any = oNd (nth xs i):=by
  have h1:i < (cat oN xs).length:=by rw [Qv];omega
  rw [List.getD_eq_getElem?_getD,List.getElem?_append_left h1]
  have:=cat_get1 (f:=oN) h
  rw [List.getD_eq_getElem?_getD] at this
  exact this
def addE (r:List (List Int)) (f t:Int):List (List Int):=r.set f.toNat (nth r f.toNat ++ [t])
theorem addE_len (r:List (List Int)) (f t:Int):(addE r f t).length = r.length:=by simp [addE]
theorem nth_addE {r:List (List Int)} {f t:Int} {i:Nat} (hf:f.toNat < r.length):nth (addE r f t) i = if f.toNat = i then nth r i ++ [t] else nth r i:=by
  unfold addE
  by_cases e:f.toNat = i
  · subst e;rw [zacd hf,if_pos rfl]
  · rw [Uv e,if_neg e]
theorem mem_addE {r:List (List Int)} {f t:Int} {i:Nat} (hf:f.toNat < r.length) (y:Int):y ∈ nth (addE r f t) i ↔ y ∈ nth r i ∨ (f.toNat = i ∧ y = t):=by
  rw [nth_addE hf]
  split
  · rename_i e;simp [e]
  · rename_i e;simp [e]
def InRng (n:Nat) (es:List Tr4):Prop:=∀ i,i < es.length → (0 ≤ (nth es i).1 ∧ (nth es i).1 < n) ∧ 0 ≤ (nth es i).2.2.2 ∧ (nth es i).2.2.2 < n
end Go.Proofs.YtiilmjojffjhlaaGreatDoor.Vm

