/-
  From the reading of an argument to an abstract value whose numbers are of 64 bits. Plain lemmas; no conditions.
-/
import Derived.Test.YtnfldmfamnhpcaaDoorOpn
namespace Go.Proofs.YtnfldmfamnhpcaaDoor.Vm
open Go
open Go.ChangeShapes Go.WideShapes Go.ChangeAt Go.RowKit Go.Deep Go.Joins
set_option linter.unusedVariables false

section
variable {P:Program}
def OpensW {α:Type} (P:Program) (t:TypeId) (f:α → List D) (W:α → Prop):Prop :=
  ∀ (H:Type) (enc:TypeId × Value → H) (w:World) (fuel:Nat) (cs:List Value) (y:DataW H × List MemPlace),DataW.trod enc P w 0 (fun _=>true) true fuel t cs = some y → ∃ a:α,W a ∧ ∀ μ,RepL μ (fun x=>x < w.heap.size) w (f a) cs []
theorem OpensW.int {t:TypeId} (ht:P.underlying t = some (.int .i64)):OpensW P t cI (fun n=>n ≤ 9223372036854775807):=fun H enc w fuel cs y h=>by
  obtain ⟨n,rfl,_,hw⟩:=DataW.trod_int ht h
  exact ⟨n,(bounds_i64 hw).2,fun μ=>Zj (by simp [Rep])⟩
theorem OpensW.bool {t:TypeId} (ht:P.underlying t = some .bool):OpensW P t cB (fun _=>True):=fun H enc w fuel cs y h=>by
  obtain ⟨n,rfl,_⟩:=DataW.trod_bool ht h
  exact ⟨n,trivial,fun μ=>Zj (by simp [Rep])⟩
theorem OpensW.list {α:Type} {W:α → Prop} {f:α → List D} {sz:Nat} [Wide f sz] {t e:TypeId} (ht:P.underlying t = some (.slice e)) (hsz:P.cellsOf e = sz) (h:OpensW P e f W):OpensW P t (fun xs:List α=>[li f xs]) (fun xs=>∀ x ∈ xs,W x):=fun H enc w fuel cs y hy=>by
  rcases DataW.trod_slice ht hy with ⟨rfl,_⟩ | ⟨ad,len,cap,elems,rest,m,hm,rfl,_,hb,hl,hcap,hlen,hel,_,_⟩
  · exact ⟨[],by simp,fun μ=>Zj (by simp [RepL,Rep,li,cat])⟩
  · rw [hsz] at hel
    have h0:=Wide.pos (f:=f)
    have each:∀ i,i < len → ∃ p:α × List Value,W p.1 ∧ p.2.length = sz ∧ (∀ j,j < sz → w.cell? ((ad.add (i * sz)).add j) = p.2[j]?) ∧ ∀ μ,RepL μ (fun x=>x < w.heap.size) w (f p.1) p.2 []:=by
      intro i hi
      have h1:=hel i hi
      rw [List.getElem?_eq_getElem (by omega)] at h1
      obtain ⟨cs',hc,hrd⟩:=Option.bind_eq_some_iff.1 h1
      obtain ⟨_,hcl,hat⟩:=World.cells?_some hc
      obtain ⟨a,hw,ha⟩:=h H enc w _ _ _ hrd
      exact ⟨(a,cs'),hw,hcl,hat,ha⟩
    rcases Nat.eq_zero_or_pos len with rfl | hpos
    · exact ⟨[],by simp,fun μ=>Zj (by simp only [li,Rep,List.length_nil,cat_nil,RepL];exact ⟨trivial,Nat.zero_le _,_,cap,[],rfl,hl,.inl trivial,by simp⟩)⟩
    haveI:Inhabited (α × List Value):=⟨(each 0 hpos).choose⟩
    obtain ⟨V,hV⟩:=choose_lt each
    have hcat:cat f ((List.range len).map fun i=>(V i).1) = (List.range len).flatMap fun i=>f (V i).1:=by simp [cat,List.flatMap_map]
    have hrep:∀ μ,RepL μ (fun x=>x < w.heap.size) w (cat f ((List.range len).map fun i=>(V i).1)) ((List.range len).flatMap fun i=>(V i).2) []:=fun μ=>by
      rw [hcat]
      exact RepL.flat fun i hi=>(hV i (List.mem_range.1 hi)).2.2.2 μ
    refine ⟨(List.range len).map fun i=>(V i).1,fun x hx=>by obtain ⟨i,hi,rfl⟩:=List.mem_map.1 hx;exact (hV i (List.mem_range.1 hi)).1,fun μ=>?_⟩
    simp only [RepL,li,Rep,List.length_map,List.length_range]
    refine ⟨_,[],[],[],rfl,rfl,⟨rfl,Nat.le_trans hl hcap,some ad,cap,_,rfl,hl,?_,hrep μ⟩,rfl,rfl⟩
    · right
      -- the row lies in one block
      have first:=(hV 0 hpos).2.2.1 0 h0
      have e0:(ad.add (0 * sz)).add 0 = ad:=by rw [Nat.zero_mul];simp [Addr.add]
      rw [e0,List.getElem?_eq_getElem (by rw [(hV 0 hpos).2.1];exact h0)] at first
      obtain ⟨b,o,sp⟩:=ad
      have hs:sp = none:=by
        simp only [World.cell?] at first
        split at first
        · cases sp with
          | none=>rfl
          | some _=>simp at first
        · cases first
      subst hs
      have hone:∀ v ∈ (List.range len).flatMap fun i=>(V i).2,v.oneCell' = true:=Zm (cat_leaf (f:=f) _) (hrep id)
      obtain ⟨c,ty,fz,hh⟩:∃ c ty fz,w.heap[b]? = some (.cells c ty fz):=by
        simp only [World.cell?] at first
        split at first
        · rename_i c ty fz hh;exact ⟨c,ty,fz,hh⟩
        · cases first
      refine ⟨b,o,rfl,?_,c,ty,fz,hh,fun k v hv=>?_,hone⟩
      · rcases Nat.lt_or_ge b w.heap.size with q | q
        · exact q
        · rw [Array.getElem?_eq_none q] at hh;cases hh
      · obtain ⟨i,j,q1,q2,rfl,q4⟩:=flat_get h0 (fun i hi=>(hV i hi).2.1) k v hv
        have:=(hV i q1).2.2.1 j q2
        rw [q4,Addr.add_lit,Addr.add_lit] at this
        simp only [World.cell?,hh] at this
        rw [← Nat.add_assoc]
        simpa using this
theorem OpensW.struct3 {α β γ:Type} {W0:α → Prop} {W1:β → Prop} {W2:γ → Prop} {f:α → List D} {g:β → List D} {h:γ → List D} {t:TypeId} {f0 f1 f2:Field} (hs:P.underlying t = some (.struct #[f0,f1,f2])) (hone:oneCellFields P #[f0,f1,f2] = true) (hC:P.cellsOf t = 3)
    (hf:OpensW P f0.type f W0) (hg:OpensW P f1.type g W1) (hh:OpensW P f2.type h W2):OpensW P t (fun p:α × β × γ=>f p.1 ++ (g p.2.1 ++ h p.2.2)) (fun p=>W0 p.1 ∧ W1 p.2.1 ∧ W2 p.2.2):=fun H enc w fuel cs y hy=>by
  obtain ⟨ys,n,_,hx,hcl,hlen,hgt⟩:=DataW.trod_struct hs hy
  obtain ⟨o0,k0⟩:=hone_of hone 0 f0 rfl
  obtain ⟨o1,k1⟩:=hone_of hone 1 f1 rfl
  obtain ⟨o2,k2⟩:=hone_of hone 2 f2 rfl
  rw [hC] at hcl
  match cs,hcl,ys,hlen with
  | [c0,c1,c2],_,[y0,y1,y2],_ =>
    have h0:DataW.trod enc P w 0 (fun _=>true) true n f0.type [c0] = some y0:=by simpa [o0,k0] using hgt 0 f0 rfl
    have h1:DataW.trod enc P w 0 (fun _=>true) true n f1.type [c1] = some y1:=by simpa [o1,k1] using hgt 1 f1 rfl
    have h2:DataW.trod enc P w 0 (fun _=>true) true n f2.type [c2] = some y2:=by simpa [o2,k2] using hgt 2 f2 rfl
    obtain ⟨a,wa,ha⟩:=hf H enc w _ _ _ h0
    obtain ⟨b,wb,hb⟩:=hg H enc w _ _ _ h1
    obtain ⟨c,wc,hc⟩:=hh H enc w _ _ _ h2
    exact ⟨(a,b,c),⟨wa,wb,wc⟩,fun μ=>by have:=RepL.append (RepL.append (hc μ) (hb μ)) (ha μ);simpa using this⟩
theorem OpensW.struct4 {α β γ δ:Type} {W0:α → Prop} {W1:β → Prop} {W2:γ → Prop} {W3:δ → Prop} {f:α → List D} {g:β → List D} {h:γ → List D} {k:δ → List D} {t:TypeId} {f0 f1 f2 f3:Field} (hs:P.underlying t = some (.struct #[f0,f1,f2,f3])) (hone:oneCellFields P #[f0,f1,f2,f3] = true) (hC:P.cellsOf t = 4)
    (hf:OpensW P f0.type f W0) (hg:OpensW P f1.type g W1) (hh:OpensW P f2.type h W2) (hk:OpensW P f3.type k W3):OpensW P t (fun p:α × β × γ × δ=>f p.1 ++ (g p.2.1 ++ (h p.2.2.1 ++ k p.2.2.2))) (fun p=>W0 p.1 ∧ W1 p.2.1 ∧ W2 p.2.2.1 ∧ W3 p.2.2.2):=fun H enc w fuel cs y hy=>by
  obtain ⟨ys,n,_,hx,hcl,hlen,hgt⟩:=DataW.trod_struct hs hy
  obtain ⟨o0,k0⟩:=hone_of hone 0 f0 rfl
  obtain ⟨o1,k1⟩:=hone_of hone 1 f1 rfl
  obtain ⟨o2,k2⟩:=hone_of hone 2 f2 rfl
  obtain ⟨o3,k3⟩:=hone_of hone 3 f3 rfl
  rw [hC] at hcl
  match cs,hcl,ys,hlen with
  | [c0,c1,c2,c3],_,[y0,y1,y2,y3],_ =>
    have h0:DataW.trod enc P w 0 (fun _=>true) true n f0.type [c0] = some y0:=by simpa [o0,k0] using hgt 0 f0 rfl
    have h1:DataW.trod enc P w 0 (fun _=>true) true n f1.type [c1] = some y1:=by simpa [o1,k1] using hgt 1 f1 rfl
    have h2:DataW.trod enc P w 0 (fun _=>true) true n f2.type [c2] = some y2:=by simpa [o2,k2] using hgt 2 f2 rfl
    have h3:DataW.trod enc P w 0 (fun _=>true) true n f3.type [c3] = some y3:=by simpa [o3,k3] using hgt 3 f3 rfl
    obtain ⟨a,wa,ha⟩:=hf H enc w _ _ _ h0
    obtain ⟨b,wb,hb⟩:=hg H enc w _ _ _ h1
    obtain ⟨c,wc,hc⟩:=hh H enc w _ _ _ h2
    obtain ⟨d,wd,hd⟩:=hk H enc w _ _ _ h3
    exact ⟨(a,b,c,d),⟨wa,wb,wc,wd⟩,fun μ=>by have:=RepL.append (RepL.append (RepL.append (hd μ) (hc μ)) (hb μ)) (ha μ);simpa using this⟩

theorem argW_struct {H:Type} {enc:TypeId × Value → H} {w:World} {α:Type} {f:α → List D} {W:α → Prop} {t:TypeId} {fs:Array Field} {r:Reach} {b0:Nat} {v:Value} {d:DataW H} {p:List MemPlace} (ht:P.underlying t = some (.struct fs)) (ho:OpensW P t f W)
    (hv:Value.okWide P w r b0 t v) (h:DataW.Trod enc P w 0 (fun _=>true) true t v d p):∃ a:α,W a ∧ ∀ μ,Rep μ (fun x=>x < w.heap.size) w (.st (f a)) v []:=by
  obtain ⟨cs,rfl,_⟩:=okWide_struct ht hv
  obtain ⟨fuel,hf⟩:=h
  obtain ⟨a,hw,ha⟩:=ho H enc w _ _ _ hf
  exact ⟨a,hw,fun μ=>by simp only [Rep];exact ⟨cs.toList,by simp,ha μ⟩⟩
end
end Go.Proofs.YtnfldmfamnhpcaaDoor.Vm

