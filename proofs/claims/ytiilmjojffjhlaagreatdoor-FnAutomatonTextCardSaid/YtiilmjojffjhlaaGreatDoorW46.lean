/-
  FnAutomatonText: the walk of the law. Condition: the library's variables hold what the program's text lays.
-/
import Derived.Test.YtiilmjojffjhlaaGreatDoorW45
import Derived.Test.YtiilmjojffjhlaaGreatDoorYT2
namespace Go.Proofs.YtiilmjojffjhlaaGreatDoor.Vm
open Go
open List renaming getD_eq_getElem?_getD → zg,drop_one → zd
noncomputable section
set_option linter.unusedVariables false
set_option linter.unusedSimpArgs false
set_option maxRecDepth 200000

@[go_sem] def Γat1:FuncId → Con:=ext Γpq1 18 zaat
theorem Γat1_ok:∀ g,ConOk Tryz.prog g (Γat1 g):=Qn Γpq1_ok zabo

@[go_sem] def Γat2:FuncId → Con:=ext Γat1 24 zabk
theorem Γat2_ok:∀ g,ConOk Tryz.prog g (Γat2 g):=Qn Γat1_ok zafe

@[go_sem] def Γat3:FuncId → Con:=Γat2
theorem Γat3_ok:∀ g,ConI Tryz.prog LibOk g (Γat3 g):=fun g=>(Γat2_ok g).toI

@[go_sem] def Γat4:FuncId → Con:=ext Γat3 7 implPAFC
theorem Zv:∀ g,ConI Tryz.prog LibOk g (Γat4 g):=ext_okI Γat3_ok implPAFC_ok
theorem ansI_text (a:List Int) (b:List Bool) (c:List Tr4):(Vm.B (AutOk a b.length c) = true ∧ ansI (autT a b c) = some (a,b,c)) ∨ (Vm.B (AutOk a b.length c) = false ∧ ansI (autT a b c) = none):=by
  cases h:Vm.B (AutOk a b.length c) with
  | true =>
    have h1:AutOk a b.length c:=by rw [B_iff] at h;exact h
    exact .inl ⟨rfl,ansI_yes (readI_aut h1) h1 rfl⟩
  | false =>
    refine .inr ⟨rfl,?_⟩
    rw [autT_no h,ansI_read]
    have:readA (readI []) [] = (([],[],[]),false):=by
      rcases zahz (readI []) [] with h | ⟨a,b,c,h0,_⟩
      · exact h
      · exact absurd rfl h0
    rw [this]
theorem ansI_two (t:List UInt8):ansI t = none ∨ ∃ A C E,ansI t = some (A,C,E) ∧ AllSmall E ∧ autT A C E = t:=by
  cases h:ansI t with
  | none=>exact .inl rfl
  | some q =>
    obtain ⟨A,C,E⟩:=q
    unfold ansI at h
    split at h
    · split at h
      · rename_i hc
        injection h with h
        subst h
        have h1:=hc.1
        rw [B_iff] at h1
        refine .inr ⟨A,C,E,rfl,?_,hc.2⟩
        intro i hi
        have h2:=(autN h1).ne i hi
        have h3:=h2 2 (by simp [edgeL])
        simp only [edgeL] at h3
        have h4:nth [(nth E i).1,(nth E i).2.1,(nth E i).2.2.1,(nth E i).2.2.2] 2 = (nth E i).2.2.1:=rfl
        have h5:0 ≤ (nth E i).2.2.1 ∧ (nth E i).2.2.1 ≤ 99:=h3
        omega
      · cases h
    · cases h

set_option maxHeartbeats 8000000 in
theorem lawAT (xs:List UInt8) (zs:List UInt8)  : PureI Tryz.prog LibOk 5 [li cY xs,li cY zs] (.bool true):=by
  refine PureI.of_walk Tryz.func5 rfl (by simp [Tryz.f5]) (by simp [-zd,go_sem]) LibOk.frm fun B hK hB=>?_
  (repeat' (first
 | refine Qs ?_
 | refine Xc (id:=0) Zv hB [] (by kernel_rfl) ?_;simp [-zg,-zd,↓Qb,↓Qa,go_sem]
 | refine Xc (id:=1) Zv hB [17] (by kernel_rfl) ?_;simp [-zg,-zd,↓Qb,↓Qa,go_sem];try (refine ⟨fun s1a=>?_,fun s1a=>?_⟩ <;> (try simp [B_iff,B_not] at s1a) <;> try (refine ⟨fun s1b=>?_,fun s1b=>?_⟩ <;> (try simp [B_iff,B_not] at s1b)))
 | refine Xc (id:=2) Zv hB [] (by kernel_rfl) ?_;simp [-zg,-zd,↓Qb,↓Qa,go_sem]
 | refine Xc (id:=3) Zv hB [] (by kernel_rfl) ?_;simp [-zg,-zd,↓Qb,↓Qa,go_sem];try ((intro c3);(have y0:=zaff xs c3);(generalize (zaav xs c3) = z at *);(obtain ⟨a,b,c⟩:=z);(have hS:AllSmall c:=y0.2.2.2);(dsimp only);(refine Xg hK 5 ?_);(simp [go_sem]);(have hle:(autT a b c).length ≤ 1048576:=Nat.le_trans (autT_le a b c) (by omega));(rcases ansI_text a b c with ⟨hv,hans⟩ | ⟨hv,hans⟩))
 | refine Xc (id:=4) Zv hB [] (by kernel_rfl) ?_;simp [-zg,-zd,↓Qb,↓Qa,go_sem,hS]
 | refine Xc (id:=5) Zv hB [] (by kernel_rfl) ?_;simp [-zg,-zd,↓Qb,↓Qa,go_sem,hle,hans,oI,oB,oT];try ((refine Xg hK 7 ?_);(simp [go_sem]))
 | refine zand (id:=6) Zv hB mixed [35,42,48,50] [5] (by kernel_rfl) (by kernel_rfl) (by simp [-zg,-zd,↓Qb,↓Qa,go_sem,hS,hv]) ?_;simp [-zg,-zd,↓Qb,↓Qa,go_sem,hS,hv];try (refine ⟨fun s6a=>?_,fun s6a=>?_⟩ <;> (try simp [B_iff,B_not] at s6a) <;> try (refine ⟨fun s6b=>?_,fun s6b=>?_⟩ <;> (try simp [B_iff,B_not] at s6b) <;> try (refine ⟨fun s6c=>?_,fun s6c=>?_⟩ <;> (try simp [B_iff,B_not] at s6c) <;> try (refine ⟨fun s6d=>?_,fun s6d=>?_⟩ <;> (try simp [B_iff,B_not] at s6d) <;> try (refine ⟨fun s6e=>?_,fun s6e=>?_⟩ <;> (try simp [B_iff,B_not] at s6e))))))
 | refine Xc (id:=7) Zv hB [] (by kernel_rfl) ?_;simp [-zg,-zd,↓Qb,↓Qa,go_sem]
 | refine Xc (id:=8) Zv hB [] (by kernel_rfl) ?_;simp [-zg,-zd,↓Qb,↓Qa,go_sem];try ((intro c8);(have y8:=zafx zs c8);(generalize (zaac zs c8) = t at *);(have hl:t.length ≤ 1048576:=Nat.le_trans y8 (by omega));(rcases ansI_two t with hq | ⟨A,C,E,hq,hSm,hT⟩))
 | refine Xc (id:=9) Zv hB [] (by kernel_rfl) ?_;simp [-zg,-zd,↓Qb,↓Qa,go_sem,hl,hq,oI,oB,oT];try ((refine Xg hK 10 ?_);(simp [go_sem]))
 | refine Xc (id:=10) Zv hB [] (by kernel_rfl) ?_;simp [-zg,-zd,↓Qb,↓Qa,go_sem,hl,hq,oI,oB,oT];try ((refine Xg hK 12 ?_);(simp [go_sem]))
 | refine Xc (id:=11) Zv hB [72,77,80] (by kernel_rfl) ?_;simp [-zg,-zd,↓Qb,↓Qa,go_sem,hSm,hT];try (refine ⟨fun s11a=>?_,fun s11a=>?_⟩ <;> (try simp [B_iff,B_not] at s11a) <;> try (refine ⟨fun s11b=>?_,fun s11b=>?_⟩ <;> (try simp [B_iff,B_not] at s11b) <;> try (refine ⟨fun s11c=>?_,fun s11c=>?_⟩ <;> (try simp [B_iff,B_not] at s11c) <;> try (refine ⟨fun s11d=>?_,fun s11d=>?_⟩ <;> (try simp [B_iff,B_not] at s11d)))))
 | refine Xc (id:=11) Zv hB [72,77,80] (by kernel_rfl) ?_;simp [-zg,-zd,↓Qb,↓Qa,go_sem,hl];try (refine ⟨fun s11a=>?_,fun s11a=>?_⟩ <;> (try simp [B_iff,B_not] at s11a) <;> try (refine ⟨fun s11b=>?_,fun s11b=>?_⟩ <;> (try simp [B_iff,B_not] at s11b) <;> try (refine ⟨fun s11c=>?_,fun s11c=>?_⟩ <;> (try simp [B_iff,B_not] at s11c) <;> try (refine ⟨fun s11d=>?_,fun s11d=>?_⟩ <;> (try simp [B_iff,B_not] at s11d)))))
 | refine Qe (c:=.tmp 21) ?_;simp [-zg,-zd,↓Qb,↓Qa,go_sem];try first | (refine ⟨?_,?_⟩ <;> refine zA ?_) | (refine ⟨fun c21=>?_,fun c21=>?_⟩ <;> (try simp [B_iff,B_not] at c21))
 | refine Qe (c:=.tmp 56) ?_;simp [-zg,-zd,↓Qb,↓Qa,go_sem];try first | (refine ⟨?_,?_⟩ <;> refine zA ?_) | (refine ⟨fun c56=>?_,fun c56=>?_⟩ <;> (try simp [B_iff,B_not] at c56))
 | (refine Qf ?_)
 | (refine Qr ?_;simp [-zg,-zd,↓Qb,↓Qa,go_sem])
 | (refine Qq ?_;simp [-zg,-zd,↓Qb,↓Qa,go_sem])
 | (refine Qt ?_;simp [-zg,-zd,↓Qb,↓Qa,go_sem,Tryz.results5])
 | (intro hx;refine zA ?_)
 | (refine ⟨?_,?_⟩ <;> refine zA ?_)
 | (intro hx;constructor <;> intro hs)
 | (constructor <;> intro hs)
 | (refine ⟨?_,fun hs=>?_⟩;refine zA ?_)
 | (refine ⟨fun hs=>?_,?_⟩;rotate_left;refine zA ?_;rotate_left)))

end
end Go.Proofs.YtiilmjojffjhlaaGreatDoor.Vm

