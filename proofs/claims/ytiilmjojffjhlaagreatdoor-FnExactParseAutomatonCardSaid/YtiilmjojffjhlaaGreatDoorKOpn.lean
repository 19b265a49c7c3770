/-
  From the reading of an argument to an abstract value; what a law's row asks of the world behind the call. Plain lemmas; no conditions.
-/
import Derived.Test.YtiilmjojffjhlaaGreatDoorRows
import Derived.Test.YtiilmjojffjhlaaGreatDoorKCat
import Derived.ProofKit
import Derived.Lib.SmallJoins
import Derived.OpenShut
import Derived.Deep.Fields
namespace Go.Proofs.YtiilmjojffjhlaaGreatDoor.Vm
open Go
open Go.ChangeShapes Go.WideShapes Go.ChangeAt Go.RowKit Go.Deep Go.Joins
set_option linter.unusedVariables false

section
variable {P:Program}
def Opens {α:Type} (P:Program) (t:TypeId) (f:α → List D):Prop :=
  ∀ (H:Type) (enc:TypeId × Value → H) (w:World) (fuel:Nat) (cs:List Value) (y:DataW H × List MemPlace),DataW.trod enc P w 0 (fun _=>true) true fuel t cs = some y → ∃ a:α,∀ μ,RepL μ (fun x=>x < w.heap.size) w (f a) cs []
theorem one_rep {μ:Nat → Nat} {I:Nat → Prop} {w:World} {d:D} {v:Value} (h:Rep μ I w d v []):RepL μ I w [d] [v] []:=by
  simp only [RepL];exact ⟨v,[],[],[],rfl,rfl,h,rfl,rfl⟩
theorem Opens.int {t:TypeId} (ht:P.underlying t = some (.int .i64)):Opens P t cI:=fun H enc w fuel cs y h=>by
  obtain ⟨n,rfl,_,_⟩:=DataW.trod_int ht h
  exact ⟨n,fun μ=>one_rep (by simp [Rep])⟩
theorem Opens.bool {t:TypeId} (ht:P.underlying t = some .bool):Opens P t cB:=fun H enc w fuel cs y h=>by
  obtain ⟨n,rfl,_⟩:=DataW.trod_bool ht h
  exact ⟨n,fun μ=>one_rep (by simp [Rep])⟩
theorem Opens.str {t:TypeId} (ht:P.underlying t = some .string):Opens P t cStr:=fun H enc w fuel cs y h=>by
  obtain ⟨s,rfl,_⟩:=DataW.trod_string ht h
  exact ⟨s.data.toList,fun μ=>one_rep (by simp [Rep,mkS])⟩
theorem RepL.flat {μ:Nat → Nat} {I:Nat → Prop} {w:World} {g:Nat → List D} {h:Nat → List Value}:∀ {L:List Nat},(∀ i ∈ L,RepL μ I w (g i) (h i) []) → RepL μ I w (L.flatMap g) (L.flatMap h) []
  | [],_=>by simp [RepL]
  | i :: L,hh=>by
    rw [List.flatMap_cons,List.flatMap_cons]
    have:=RepL.append (RepL.flat (L:=L) fun j hj=>hh j (List.mem_cons_of_mem _ hj)) (hh i (List.mem_cons_self ..))
    simpa using this
theorem flat_get {sz:Nat} {h:Nat → List Value} (h0:0 < sz):∀ {len:Nat},(∀ i,i < len → (h i).length = sz) → ∀ (k:Nat) (v:Value),((List.range len).flatMap h)[k]? = some v → ∃ i j,i < len ∧ j < sz ∧ k = i * sz + j ∧ (h i)[j]? = some v
  | 0,_,k,v,hv=>by simp at hv
  | len + 1,hl,k,v,hv=>by
    rw [List.range_succ,List.flatMap_append,List.getElem?_append] at hv
    have hlen:((List.range len).flatMap h).length = len * sz:=by
      clear hv
      induction len with
      | zero=>simp
      | succ n ih=>rw [List.range_succ,List.flatMap_append,List.length_append,ih (fun i hi=>hl i (by omega))];simp [hl n (by omega),Nat.succ_mul]
    split at hv
    · obtain ⟨i,j,q1,q2,q3,q4⟩:=flat_get h0 (fun i hi=>hl i (by omega)) k v hv
      exact ⟨i,j,by omega,q2,q3,q4⟩
    · rename_i hk
      rw [hlen] at hk hv
      simp only [List.flatMap_cons,List.flatMap_nil,List.append_nil] at hv
      have hj:k - len * sz < sz:=by
        rcases Nat.lt_or_ge (k - len * sz) sz with q | q
        · exact q
        · rw [List.getElem?_eq_none (by rw [hl len (by omega)];exact q)] at hv;cases hv
      exact ⟨len,k - len * sz,by omega,hj,by omega,hv⟩
theorem Opens.list {α:Type} {f:α → List D} {sz:Nat} [Wide f sz] {t e:TypeId} (ht:P.underlying t = some (.slice e)) (hsz:P.cellsOf e = sz) (h:Opens P e f):Opens P t (fun xs:List α=>[li f xs]):=fun H enc w fuel cs y hy=>by
  rcases DataW.trod_slice ht hy with ⟨rfl,_⟩ | ⟨ad,len,cap,elems,rest,m,hm,rfl,_,hb,hl,hcap,hlen,hel,_,_⟩
  · exact ⟨[],fun μ=>one_rep (by simp [RepL,Rep,li,cat])⟩
  · rw [hsz] at hel
    have h0:=Wide.pos (f:=f)
    have each:∀ i,i < len → ∃ p:α × List Value,p.2.length = sz ∧ (∀ j,j < sz → w.cell? ((ad.add (i * sz)).add j) = p.2[j]?) ∧ ∀ μ,RepL μ (fun x=>x < w.heap.size) w (f p.1) p.2 []:=by
      intro i hi
      have h1:=hel i hi
      rw [List.getElem?_eq_getElem (by omega)] at h1
      obtain ⟨cs',hc,hrd⟩:=Option.bind_eq_some_iff.1 h1
      obtain ⟨_,hcl,hat⟩:=World.cells?_some hc
      obtain ⟨a,ha⟩:=h H enc w _ _ _ hrd
      exact ⟨(a,cs'),hcl,hat,ha⟩
    rcases Nat.eq_zero_or_pos len with rfl | hpos
    · exact ⟨[],fun μ=>one_rep (by simp only [li,Rep,List.length_nil,cat_nil,RepL];exact ⟨trivial,Nat.zero_le _,_,cap,[],rfl,hl,.inl trivial,by simp⟩)⟩
    haveI:Inhabited (α × List Value):=⟨(each 0 hpos).choose⟩
    obtain ⟨V,hV⟩:=choose_lt each
    have hcat:cat f ((List.range len).map fun i=>(V i).1) = (List.range len).flatMap fun i=>f (V i).1:=by simp [cat,List.flatMap_map]
    have hrep:∀ μ,RepL μ (fun x=>x < w.heap.size) w (cat f ((List.range len).map fun i=>(V i).1)) ((List.range len).flatMap fun i=>(V i).2) []:=fun μ=>by
      rw [hcat]
      exact RepL.flat fun i hi=>(hV i (List.mem_range.1 hi)).2.2 μ
    refine ⟨(List.range len).map fun i=>(V i).1,fun μ=>?_⟩
    simp only [RepL,li,Rep,List.length_map,List.length_range]
    refine ⟨_,[],[],[],rfl,rfl,⟨rfl,Nat.le_trans hl hcap,some ad,cap,_,rfl,hl,?_,hrep μ⟩,rfl,rfl⟩
    · right
      -- the row lies in one block
      have first:=(hV 0 hpos).2.1 0 h0
      have e0:(ad.add (0 * sz)).add 0 = ad:=by rw [Nat.zero_mul];simp [Addr.add]
      rw [e0,List.getElem?_eq_getElem (by rw [(hV 0 hpos).1];exact h0)] at first
      obtain ⟨b,o,sp⟩:=ad
      have hs:sp = none:=by
        simp only [World.cell?] at first
        split at first
        · cases sp with
          | none=>rfl
          | some _=>simp at first
        · cases first
      subst hs
      have hone:∀ v ∈ (List.range len).flatMap fun i=>(V i).2,v.oneCell' = true:=zabs (cat_leaf (f:=f) _) (hrep id)
      obtain ⟨c,ty,fz,hh⟩:∃ c ty fz,w.heap[b]? = some (.cells c ty fz):=by
        simp only [World.cell?] at first
        split at first
        · rename_i c ty fz hh;exact ⟨c,ty,fz,hh⟩
        · cases first
      refine ⟨b,o,rfl,?_,c,ty,fz,hh,fun k v hv=>?_,hone⟩
      · rcases Nat.lt_or_ge b w.heap.size with q | q
        · exact q
        · rw [Array.getElem?_eq_none q] at hh;cases hh
      · obtain ⟨i,j,q1,q2,rfl,q4⟩:=flat_get h0 (fun i hi=>(hV i hi).1) k v hv
        have:=(hV i q1).2.1 j q2
        rw [q4,Addr.add_lit,Addr.add_lit] at this
        simp only [World.cell?,hh] at this
        rw [← Nat.add_assoc]
        simpa using this
section
variable {H:Type} {enc:TypeId × Value → H} {w:World}
theorem arg_one {α:Type} {f:α → D} {t:TypeId} {v:Value} {d:DataW H} {p:List MemPlace} (ho:Opens P t fun a=>[f a]) (hv:v.cells = #[v])
    (h:DataW.Trod enc P w 0 (fun _=>true) true t v d p):∃ a:α,∀ μ,Rep μ (fun x=>x < w.heap.size) w (f a) v []:=by
  obtain ⟨fuel,hf⟩:=h
  rw [hv] at hf
  obtain ⟨a,ha⟩:=ho H enc w _ _ _ hf
  exact ⟨a,fun μ=>(ha μ).one⟩
theorem arg_str {t:TypeId} {r:Reach} {b0:Nat} {v:Value} {d:DataW H} {p:List MemPlace} (ht:P.underlying t = some .string)
    (hv:Value.okWide P w r b0 t v) (h:DataW.Trod enc P w 0 (fun _=>true) true t v d p):∃ a:List UInt8,∀ μ,Rep μ (fun x=>x < w.heap.size) w (.str a) v []:=by
  obtain ⟨a,rfl⟩:=okWide_string ht hv
  exact arg_one (Opens.str ht) rfl h
theorem zaef {W W':World} (hl:laidOutB P = true) (hg:Below W.heap.size W W'):∀ (ts:List TypeId) (vs:List Value) (ds:List (DataW H)) (ps:List MemPlace),
    DataW.TrodAll enc P W 0 (fun _=>true) true ts vs ds ps → ts.all (fun t=>P.readableRec t && decide (t < P.types.size)) = true → (∀ x ∈ ps,x.block < W.heap.size) →
    DataW.TrodAll enc P W' 0 (fun b=>decide (b < W.heap.size)) true ts vs ds ps
  | [],[],[],ps,h,_,_=>h
  | t :: ts,v :: vs,d :: ds,ps,h,hr,hlt=>by
    obtain ⟨p,q,h1,h2,rfl⟩:=h
    simp only [List.all_cons,Bool.and_eq_true,decide_eq_true_eq] at hr
    exact ⟨p,q,Below.trod hl hr.1.1 hr.1.2 h1 hg (fun x hx=>hlt x (List.mem_append_left _ hx)),zaef hl hg ts vs ds q h2 hr.2 (fun x hx=>hlt x (List.mem_append_right _ hx)),rfl⟩
  | [],_ :: _,_,_,h,_,_=>h.elim
  | [],[],_ :: _,_,h,_,_=>h.elim
  | _ :: _,[],_,_,h,_,_=>h.elim
  | _ :: _,_ :: _,[],_,h,_,_=>h.elim
theorem law_post {f:Func} {s:ChangeSpec} {apart fresh handsOn:Bool} {W W':World} {args:Array Value} {ds gs:List (DataW H)} {before:List MemPlace} {tb:TypeId}
    (hl:laidOutB P = true) (hB:f.resultTypes = #[tb]) (hb:P.underlying tb = some .bool) (hvars:s.vars = [])
    (hr:f.params.toList.all (fun t=>P.readableRec t && decide (t < P.types.size)) = true)
    (hW:DataW.Whole enc P f.params.toList s.vars apart W args.toList ds gs before)
    (he1:(s.fn H (ds ++ gs)).results = [.lit (.bool true)]) (he2:(s.fn H (ds ++ gs)).args = ds) (he3:(s.fn H (ds ++ gs)).vars = [])
    (hg:Below W.heap.size W W'):s.post enc P f apart fresh handsOn false W args (.bool true) W':=by
  have hW':=hW
  obtain ⟨p,q,hA,hV,rfl,_,_⟩:=hW
  have hlt:=hW'.lt
  refine ⟨ds,gs,p ++ q,[],p,[],hW',?_,?_,?_,hg.frame _,fun h=>by cases h⟩
  · rw [he1,hB]
    exact trodAll_cons_mk (shut_bool hb _) trodAll_mk0
  · rw [he2]
    exact zaef hl hg _ _ _ _ hA hr (fun x hx=>hlt x (List.mem_append_left _ hx))
  · rw [he3,hvars]
    rfl
end
end
end Go.Proofs.YtiilmjojffjhlaaGreatDoor.Vm

