/-
  Contracts of strings.Builder at this dump, of a builder that the call itself has made. No other conditions.
-/
import Derived.Test.YtiilmjojffjhlaaGreatDoorKInts
import Derived.Lib.Builder
namespace Go.Proofs.YtiilmjojffjhlaaGreatDoor
open Go.RowKit Go.Deep
set_option linter.unusedVariables false

theorem sizeBuilder:(Tryz.prog.info? 64).map (·.size) = some 2:=by kernel_rfl
theorem liesBuilder:liesAt Tryz.prog Tryz.prog.depth 64 (2 / Tryz.prog.cellsOf 64) 0 64 1 = true:=by kernel_rfl
theorem infoByte:(Tryz.prog.info? 5).map (fun i=>(i.zero,i.size,i.bytes)) = some (some (.int .u8 0),1,1):=by kernel_rfl

def Bld (w:World) (B b:Nat) (p:Value) (l:List Value):Prop :=
  B ≤ b ∧ ∃ v,Box w b 64 #[p,v] ∧ w.ownsRow B 5 1 v l.length l ∧ v.ownBlock ≠ some b
def self (b:Nat):Value:=.pointer (some ⟨b,0,none⟩)
theorem Bld.fresh (w:World):Bld (w.alloc (.cells #[.pointer none,.slice none 0 0] 64)) w.heap.size w.heap.size (.pointer none) []:=by
  refine ⟨Nat.le_refl _,_,Box.new rfl,⟨by simp,.inl ⟨rfl,rfl⟩⟩,by simp [Value.ownBlock]⟩

set_option maxRecDepth 100000 in
set_option maxHeartbeats 1000000 in
theorem copyCheck_any (w:World) (B b:Nat) (p:Value) (l:List Value) (h:Bld w B b p l) (hp:p = .pointer none ∨ p = self b) :
    Calls Tryz.prog 70 #[.pointer (some ⟨b,0,none⟩)] w fun e w'=>e = .returned (.tuple #[]) ∧ Bld w' B b (self b) l ∧ Below B w w':=by
  obtain ⟨j,hj,hjs⟩:=Option.map_eq_some_iff.1 sizeBuilder
  obtain ⟨hB,v,hb,hown,hne⟩:=h
  have f0:=hb.f 0
  have c0:=hb.c 0
  have hsh:w.shape? b = some (64,2):=by unfold Box at hb;simp [World.shape?,hb]
  have H:=Lib.hid (And.intro hb (And.intro hown hne))
  clear hb hown hne
  rcases hp with rfl | rfl
  · go_enter Tryz.func70,Tryz.ntmps70
    go_wp2_with fail
    rw [Lib.run_to_unsafe w ⟨b,0,none⟩ Tryz.underlying62 Tryz.underlying116 hj (by rw [hjs];decide) hsh (Nat.zero_lt_succ 1),Result.andThen,Oper.upon_value]
    go_wp2_with fail
    rw [run_callFunc_extern Tryz.func93 (by kernel_rfl) (by kernel_rfl) (by kernel_rfl) (e:=Extern.AbiNoEscape.same) (by kernel_rfl),Lib.run_noEscape,Result.andThen,Oper.upon_value]
    go_wp2_with fail
    rw [Lib.run_from_unsafe w ⟨b,0,none⟩ Tryz.underlying116 Tryz.underlying62 hj hsh liesBuilder,Result.andThen,Oper.upon_value]
    go_wp2_with fail
    go_end0
    obtain ⟨hb,hown,hne⟩:=H.out
    exact ⟨rfl,⟨hB,v,hb.set_,(Lib.BuilderAt.used ⟨hB,v,hb,hown,hne⟩ (self b)).2.elim fun v' hv'=>by
      have e:=(Box.set_ hb (i:=0) (u:=self b)).symm.trans hv'.1
      simp at e
      rw [e]
      exact hv'.2.1,hne⟩,(Below.refl B w).setCell hB _⟩
  · unfold self at c0
    go_enter Tryz.func70,Tryz.ntmps70
    go_wp2_with fail
    rw [Lib.run_neq_ptr_same w _ Tryz.underlying62 hj]
    go_wp2_with fail
    go_end0
    obtain ⟨hb,hown,hne⟩:=H.out
    exact ⟨rfl,⟨hB,v,hb,hown,hne⟩,Below.refl B w⟩

end Go.Proofs.YtiilmjojffjhlaaGreatDoor
