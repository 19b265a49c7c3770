/-
  From the reading of an argument to a tree, an edge, a process. Plain lemmas; no conditions.
-/
import Derived.Test.YtkjimmkemnmajaaOpn
import Derived.Test.YtkjimmkemnmajaaSY4
namespace Go.Proofs.Ytkjimmkemnmajaa.Vm
open Go
open Go.ChangeShapes Go.WideShapes Go.ChangeAt Go.RowKit Go.Deep Go.Joins
set_option linter.unusedVariables false

section
variable {P:Program}
def OpensN {α:Type} (P:Program) (t:TypeId) (f:α → List D) (N:Nat):Prop :=
  ∀ (H:Type) (enc:TypeId × Value → H) (w:World) (fuel:Nat) (cs:List Value) (y:DataW H × List MemPlace),fuel ≤ N → DataW.trod enc P w 0 (fun _=>true) true fuel t cs = some y → ∃ a:α,∀ μ,RepL μ (fun x=>x < w.heap.size) w (f a) cs []
theorem Opens.toN {α:Type} {t:TypeId} {f:α → List D} (h:Opens P t f) (N:Nat):OpensN P t f N:=fun H enc w fuel cs y _ hy=>h H enc w fuel cs y hy
theorem OpensN.list {α:Type} {f:α → List D} {sz:Nat} [Wide f sz] {t e:TypeId} (ht:P.underlying t = some (.slice e)) (hsz:P.cellsOf e = sz) {N:Nat} (h:OpensN P e f N):OpensN P t (fun xs:List α=>[li f xs]) (N + 1):=fun H enc w fuel cs y hf hy=>by
  rcases DataW.trod_slice ht hy with ⟨rfl,_⟩ | ⟨ad,len,cap,elems,rest,m,hm,rfl,_,hb,hl,hcap,hlen,hel,_,_⟩
  · exact ⟨[],fun μ=>zaga (by simp [RepL,Rep,li,cat])⟩
  · rw [hsz] at hel
    have h0:=Wide.pos (f:=f)
    have each:∀ i,i < len → ∃ p:α × List Value,p.2.length = sz ∧ (∀ j,j < sz → w.cell? ((ad.add (i * sz)).add j) = p.2[j]?) ∧ ∀ μ,RepL μ (fun x=>x < w.heap.size) w (f p.1) p.2 []:=by
      intro i hi
      have h1:=hel i hi
      rw [List.getElem?_eq_getElem (by omega)] at h1
      obtain ⟨cs',hc,hrd⟩:=Option.bind_eq_some_iff.1 h1
      obtain ⟨_,hcl,hat⟩:=World.cells?_some hc
      obtain ⟨a,ha⟩:=h H enc w _ _ _ (by omega) hrd
      exact ⟨(a,cs'),hcl,hat,ha⟩
    rcases Nat.eq_zero_or_pos len with rfl | hpos
    · exact ⟨[],fun μ=>zaga (by simp only [li,Rep,List.length_nil,cat_nil,RepL];exact ⟨trivial,Nat.zero_le _,_,cap,[],rfl,hl,.inl trivial,by simp⟩)⟩
    haveI:Inhabited (α × List Value):=⟨(each 0 hpos).choose⟩
    obtain ⟨V,hV⟩:=choose_lt each
    have hcat:cat f ((List.range len).map fun i=>(V i).1) = (List.range len).flatMap fun i=>f (V i).1:=by simp [cat,List.flatMap_map]
    have hrep:∀ μ,RepL μ (fun x=>x < w.heap.size) w (cat f ((List.range len).map fun i=>(V i).1)) ((List.range len).flatMap fun i=>(V i).2) []:=fun μ=>by
      rw [hcat]
      exact RepL.flat fun i hi=>(hV i (List.mem_range.1 hi)).2.2 μ
    refine ⟨(List.range len).map fun i=>(V i).1,fun μ=>?_⟩
    simp only [RepL,li,Rep,List.length_map,List.length_range]
    refine ⟨_,[],[],[],rfl,rfl,⟨rfl,Nat.le_trans hl hcap,some ad,cap,_,rfl,hl,?_,hrep μ⟩,rfl,rfl⟩
    · right
      -- the row lies in one block
      have first:=(hV 0 hpos).2.1 0 h0
      have e0:(ad.add (0 * sz)).add 0 = ad:=by rw [Nat.zero_mul];simp [Addr.add]
      rw [e0,List.getElem?_eq_getElem (by rw [(hV 0 hpos).1];exact h0)] at first
      obtain ⟨b,o,sp⟩:=ad
      have hs:sp = none:=by
        simp only [World.cell?] at first
        split at first
        · cases sp with
          | none=>rfl
          | some _=>simp at first
        · cases first
      subst hs
      have hone:∀ v ∈ (List.range len).flatMap fun i=>(V i).2,v.oneCell' = true:=Zo (cat_leaf (f:=f) _) (hrep id)
      obtain ⟨c,ty,fz,hh⟩:∃ c ty fz,w.heap[b]? = some (.cells c ty fz):=by
        simp only [World.cell?] at first
        split at first
        · rename_i c ty fz hh;exact ⟨c,ty,fz,hh⟩
        · cases first
      refine ⟨b,o,rfl,?_,c,ty,fz,hh,fun k v hv=>?_,hone⟩
      · rcases Nat.lt_or_ge b w.heap.size with q | q
        · exact q
        · rw [Array.getElem?_eq_none q] at hh;cases hh
      · obtain ⟨i,j,q1,q2,rfl,q4⟩:=flat_get h0 (fun i hi=>(hV i hi).1) k v hv
        have:=(hV i q1).2.1 j q2
        rw [q4,Addr.add_lit,Addr.add_lit] at this
        simp only [World.cell?,hh] at this
        rw [← Nat.add_assoc]
        simpa using this
theorem OpensN.struct3 {α β γ:Type} {f:α → List D} {g:β → List D} {h:γ → List D} {t:TypeId} {f0 f1 f2:Field} (hs:P.underlying t = some (.struct #[f0,f1,f2])) (hone:oneCellFields P #[f0,f1,f2] = true) (hC:P.cellsOf t = 3)
    {N:Nat} (hf:OpensN P f0.type f N) (hg:OpensN P f1.type g N) (hh:OpensN P f2.type h N):OpensN P t (fun p:α × β × γ=>f p.1 ++ (g p.2.1 ++ h p.2.2)) (N + 1):=fun H enc w fuel cs y hN hy=>by
  obtain ⟨ys,n,hfu,hx,hcl,hlen,hgt⟩:=DataW.trod_struct hs hy
  obtain ⟨o0,k0⟩:=hone_of hone 0 f0 rfl
  obtain ⟨o1,k1⟩:=hone_of hone 1 f1 rfl
  obtain ⟨o2,k2⟩:=hone_of hone 2 f2 rfl
  rw [hC] at hcl
  match cs,hcl,ys,hlen with
  | [c0,c1,c2],_,[y0,y1,y2],_ =>
    have h0:DataW.trod enc P w 0 (fun _=>true) true n f0.type [c0] = some y0:=by simpa [o0,k0] using hgt 0 f0 rfl
    have h1:DataW.trod enc P w 0 (fun _=>true) true n f1.type [c1] = some y1:=by simpa [o1,k1] using hgt 1 f1 rfl
    have h2:DataW.trod enc P w 0 (fun _=>true) true n f2.type [c2] = some y2:=by simpa [o2,k2] using hgt 2 f2 rfl
    obtain ⟨a,ha⟩:=hf H enc w _ _ _ (by omega) h0
    obtain ⟨b,hb⟩:=hg H enc w _ _ _ (by omega) h1
    obtain ⟨c,hc⟩:=hh H enc w _ _ _ (by omega) h2
    exact ⟨(a,b,c),fun μ=>by have:=RepL.append (RepL.append (hc μ) (hb μ)) (ha μ);simpa using this⟩
theorem Opens.tree {t:TypeId} {f0 f1 f2:Field} (hs:P.underlying t = some (.struct #[f0,f1,f2])) (hone:oneCellFields P #[f0,f1,f2] = true) (hC:P.cellsOf t = 3)
    (h0:Opens P f0.type cI) (h1:Opens P f1.type cI) (h2:P.underlying f2.type = some (.slice t)):Opens P t cX:=by
  have key:∀ N,OpensN P t cX N:=by
    intro N
    induction N with
    | zero =>
      intro H enc w fuel cs y hN hy
      obtain ⟨ys,n,hfu,_⟩:=DataW.trod_struct hs hy
      omega
    | succ N ih =>
      intro H enc w fuel cs y hN hy
      obtain ⟨a,ha⟩:=OpensN.struct3 hs hone hC (h0.toN _) (h1.toN _) (OpensN.list h2 hC ih) H enc w fuel cs y (by omega) hy
      exact ⟨.mk a.1 a.2.1 a.2.2,fun μ=>by rw [cX_mk];exact ha μ⟩
  exact fun H enc w fuel cs y hy=>key fuel H enc w fuel cs y (Nat.le_refl _) hy
theorem Opens.map {α β:Type} {f:α → List D} {g:β → List D} {t:TypeId} (m:α → β) (hm:∀ a,f a = g (m a)) (h:Opens P t f):Opens P t g:=fun H enc w fuel cs y hy=>by
  obtain ⟨a,ha⟩:=h H enc w fuel cs y hy
  exact ⟨m a,fun μ=>by rw [← hm];exact ha μ⟩
def edgeFields (P:Program) (fs:Array Field):Bool:=(List.range fs.size).all fun i=>match fs[i]? with
  | some f=>f.offset == [0,1,2,5,6,9].getD i 0 && P.cellsOf f.type == [1,1,3,1,3,1].getD i 0
  | none=>false
theorem zahq {fs:Array Field} (h:edgeFields P fs = true):∀ (i:Nat) (f:Field),fs[i]? = some f → f.offset = [0,1,2,5,6,9].getD i 0 ∧ P.cellsOf f.type = [1,1,3,1,3,1].getD i 0:=by
  intro i f hi
  have hlt:i < fs.size:=(Array.getElem?_eq_some_iff.1 hi).1
  have:=List.all_eq_true.1 h i (List.mem_range.2 hlt)
  simp only [hi,Bool.and_eq_true,beq_iff_eq] at this
  exact this
theorem Opens.edge {t:TypeId} {f0 f1 f2 f3 f4 f5:Field} (hs:P.underlying t = some (.struct #[f0,f1,f2,f3,f4,f5])) (hone:edgeFields P #[f0,f1,f2,f3,f4,f5] = true) (hC:P.cellsOf t = 10)
    (h0:Opens P f0.type cI) (h1:Opens P f1.type cI) (h2:Opens P f2.type cX) (h3:Opens P f3.type cI) (h4:Opens P f4.type cX) (h5:Opens P f5.type cI):Opens P t cE:=fun H enc w fuel cs y hy=>by
  obtain ⟨ys,n,_,hx,hcl,hlen,hgt⟩:=DataW.trod_struct hs hy
  obtain ⟨o0,k0⟩:=zahq hone 0 f0 rfl
  obtain ⟨o1,k1⟩:=zahq hone 1 f1 rfl
  obtain ⟨o2,k2⟩:=zahq hone 2 f2 rfl
  obtain ⟨o3,k3⟩:=zahq hone 3 f3 rfl
  obtain ⟨o4,k4⟩:=zahq hone 4 f4 rfl
  obtain ⟨o5,k5⟩:=zahq hone 5 f5 rfl
  rw [hC] at hcl
  match cs,hcl,ys,hlen with
  | [c0,c1,c2,c3,c4,c5,c6,c7,c8,c9],_,[y0,y1,y2,y3,y4,y5],_ =>
    have e0:DataW.trod enc P w 0 (fun _=>true) true n f0.type [c0] = some y0:=by simpa [o0,k0] using hgt 0 f0 rfl
    have e1:DataW.trod enc P w 0 (fun _=>true) true n f1.type [c1] = some y1:=by simpa [o1,k1] using hgt 1 f1 rfl
    have e2:DataW.trod enc P w 0 (fun _=>true) true n f2.type [c2,c3,c4] = some y2:=by simpa [o2,k2] using hgt 2 f2 rfl
    have e3:DataW.trod enc P w 0 (fun _=>true) true n f3.type [c5] = some y3:=by simpa [o3,k3] using hgt 3 f3 rfl
    have e4:DataW.trod enc P w 0 (fun _=>true) true n f4.type [c6,c7,c8] = some y4:=by simpa [o4,k4] using hgt 4 f4 rfl
    have e5:DataW.trod enc P w 0 (fun _=>true) true n f5.type [c9] = some y5:=by simpa [o5,k5] using hgt 5 f5 rfl
    obtain ⟨a,ha⟩:=h0 H enc w _ _ _ e0
    obtain ⟨b,hb⟩:=h1 H enc w _ _ _ e1
    obtain ⟨c,hc⟩:=h2 H enc w _ _ _ e2
    obtain ⟨d,hd⟩:=h3 H enc w _ _ _ e3
    obtain ⟨e,he⟩:=h4 H enc w _ _ _ e4
    obtain ⟨f,hf⟩:=h5 H enc w _ _ _ e5
    refine ⟨⟨a,b,c,d,e,f⟩,fun μ=>?_⟩
    have:=RepL.append (RepL.append (RepL.append (RepL.append (RepL.append (hf μ) (he μ)) (hd μ)) (hc μ)) (hb μ)) (ha μ)
    rw [cX_eq,cX_eq] at this
    simpa [cE,cI] using this
end
end Go.Proofs.Ytkjimmkemnmajaa.Vm

