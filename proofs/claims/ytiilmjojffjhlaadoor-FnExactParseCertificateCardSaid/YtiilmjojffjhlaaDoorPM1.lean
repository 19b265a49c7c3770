/-
  Certificates' texts for the machine: contracts of the texts written. Conditions: the library's variables hold what the program's text lays.
-/
import Derived.Test.YtiilmjojffjhlaaDoorPE2
import Derived.Test.YtiilmjojffjhlaaDoorDV
import Derived.Test.YtiilmjojffjhlaaDoorVm16
import Derived.Test.YtiilmjojffjhlaaDoorG2
namespace Go.Proofs.YtiilmjojffjhlaaDoor.Vm
open Go
set_option linter.unusedVariables false
set_option linter.unusedSimpArgs false
set_option maxRecDepth 200000

theorem LibOk.frm (w w':World) (f:Frm w (fun _=>False) w') (h:LibOk w):LibOk w':=h.gr (Frm.gr f)
theorem DV.cert {w:World} {v:Value} {a:List Int} (h:DV w v (.st [li cI a])):OW w v a ∧ a.length ≤ maxLen:=by
  unfold DV at h
  rw [Rep] at h
  obtain ⟨vs,rfl,h⟩:=h
  rw [RepL] at h
  obtain ⟨v1,vs1,f1,f2,rfl,e1,r1,h⟩:=h
  rw [RepL] at h
  obtain ⟨rfl,rfl⟩:=h
  obtain ⟨rfl,_⟩:f1 = [] ∧ True:=by simpa using e1.symm
  obtain ⟨_,_,_,hm,_⟩:=DV.slice r1
  obtain ⟨A,c,rfl,i1⟩:=DV.ints r1
  exact ⟨⟨_,rfl,_,_,_,rfl,i1⟩,hm⟩
theorem Rep.cert {μ:Nat → Nat} {w:World} {vs:List Value} {a:List Int} (hr:RepL μ (fun x=>x < w.heap.size) w [.st [li cI a]] vs []):∃ v,vs = [v] ∧ OW w v a ∧ a.length ≤ maxLen:=by
  obtain ⟨v,rfl⟩:∃ v,vs = [v]:=by
    have:=hr.length
    match vs,this with
    | [v],_=>exact ⟨v,rfl⟩
  have h1:Rep (fun b=>b) (fun x=>x < w.heap.size) w (.st [li cI a]) v []:=Rep.ren (N:=0) (fun b hb=>absurd hb (by omega)) (by simp [bnd,bndL,cat_bnd,li]) hr.one
  exact ⟨v,rfl,DV.cert h1⟩
theorem str_ret {P:Program} {f:FuncId} {μ:Nat → Nat} {w:World} {vs:List Value} {t:List UInt8} (h:Calls P f vs.toArray w fun e w'=>e = .returned (.string (tx t)) ∧ Gr w w') :
    Calls P f vs.toArray w fun e w'=>∃ v fl,e = .returned v ∧ Rep μ (fun _=>False) w' (.str t) v fl ∧ fl.Nodup ∧ (∀ x ∈ fl,w.heap.size ≤ x ∧ x < w'.heap.size) ∧ Frm w (fun _=>False) w' :=
  h.mono fun e w' ⟨he,hg⟩=>⟨_,[],he,by simp [Rep,mkS,tx],.nil,by simp,⟨hg.os,hg.tape,hg.output,hg.size,fun b hb _=>hg.block b hb⟩⟩
theorem zaas (a:List Int):Pure Tryd.prog 11 [.st [li cI a]] (.str (certT a)):=fun μ w vs _ hr=>by
  obtain ⟨v,rfl,ho,hm⟩:=Rep.cert hr
  exact str_ret (zaaw w v a ho hm)
theorem zaav (a:List Int):PureI Tryd.prog LibOk 14 [.st [li cI a]] (.str (certT a)):=fun μ w vs hI _ hr=>by
  obtain ⟨v,rfl,ho,hm⟩:=Rep.cert hr
  exact str_ret (zaba w v a ho hm hI.pow)
theorem frB {μ:Nat → Nat} {I:Nat → Prop} {w:World} {g n:Nat} {t:TypeId} {xs:List Int} (hn:n = xs.length) (hm:n ≤ maxLen) (h:w.rowIs g t n (fun i=>.int .i64 (xs.getD i 0))):Rep μ I w (fr 1 cI xs) (.slice (some ⟨g,0,none⟩) n n) [g]:=by
  subst hn
  obtain ⟨c,hb,hs,hc⟩:=h
  have hce:c = (xs.map fun x=>Value.int .i64 x).toArray:=by
    apply Array.ext
    · simp [hs]
    · intro i h1 h2
      have:=hc i (by omega)
      rw [Array.getElem?_eq_getElem h1] at this
      simp only [Option.some.injEq] at this
      rw [this]
      simp [List.getElem?_eq_getElem (show i < xs.length by omega)]
  subst hce
  unfold fr
  rw [Rep]
  refine ⟨hm,by simp [Qw],.inr ⟨g,xs.length,_,xs.map fun x=>Value.int .i64 x,[],rfl,Nat.le_refl _,⟨t,hb,?_⟩,by simp,?_,?_,rfl⟩⟩
  · intro i v hv
    simp at hv
    obtain ⟨x,_,rfl⟩:=hv
    rfl
  · intro i v hv;simpa using hv
  · clear hb hs hc hm
    induction xs with
    | nil=>simp [cat,RepL]
    | cons x xs ih=>simp only [cat,List.flatMap_cons,cI,List.cons_append,List.nil_append,List.map_cons,RepL];exact ⟨_,_,[],[],rfl,rfl,by simp [Rep],ih⟩
theorem readWords_pure (s:List UInt8) (hl:s.length ≤ 1048576):PureI Tryd.prog LibOk 12 [.str s] (.tup [.str (headW s),fr 1 cI (certR s)]):=fun μ w vs hI _ hr=>by
  obtain ⟨v,rfl⟩:∃ v,vs = [v]:=by
    have:=hr.length
    match vs,this with
    | [v],_=>exact ⟨v,rfl⟩
  obtain rfl:v = .string (tx s):=by have:=hr.one;simpa [Rep,mkS,tx] using this
  refine (readWords_any w s hl hI).mono ?_
  rintro e w' ⟨g,rfl,hg0,hrow,hg⟩
  refine ⟨_,[g],rfl,?_,by simp,by intro x hx;simp at hx;subst hx;exact ⟨hg0,hrow.lt⟩,⟨hg.os,hg.tape,hg.output,hg.size,fun b hb _=>hg.block b hb⟩⟩
  have hm:(certR s).length ≤ maxLen:=by have h1:=zabz s;have h2:=zadg 32 s [];unfold maxLen;omega
  rw [Rep]
  refine ⟨[_,_],rfl,?_⟩
  rw [RepL]
  refine ⟨_,_,[],[g],rfl,rfl,by simp [Rep,mkS,tx,headW],?_⟩
  rw [RepL]
  exact ⟨_,[],[g],[],rfl,rfl,frB rfl hm hrow,by simp [RepL]⟩
end Go.Proofs.YtiilmjojffjhlaaDoor.Vm

