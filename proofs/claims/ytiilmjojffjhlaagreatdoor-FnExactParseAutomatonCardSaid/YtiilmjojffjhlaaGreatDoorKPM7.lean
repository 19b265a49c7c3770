/-
  What the library's variables hold, out of what a row lists. No conditions of its own.
-/
import Derived.Test.YtiilmjojffjhlaaGreatDoorRows
import Derived.Test.YtiilmjojffjhlaaGreatDoorKPE1
import Derived.Test.YtiilmjojffjhlaaGreatDoorKVm16
import Derived.LaidMore
import Derived.Stop.Joined
import Derived.Stop.LaidErr
import Derived.Lib.LaidTab
namespace Go.Proofs.YtiilmjojffjhlaaGreatDoor
open Go.RowKit Go.Deep
set_option linter.unusedVariables false

theorem starErr : "*" ++ "errors.errorString" = "*errors.errorString" := by decide
theorem rowErr (u:TypeId) (h:Tryz.prog.typeName? 3 u = some "*errors.errorString"):u = 234 :=
  typeName_ptr_named (nm := "errors.errorString") (by rw [starErr];kernel_rfl) (by kernel_rfl) (by decide) u (by rw [starErr];exact h)
theorem errVar {W:World} {n:String} {text:List UInt8} {r:List (String × DataW Unit)} {g:Nat} (h:laidMet Tryz.prog ((n,.iface "*errors.errorString" (.ptr (.agg [.lit (.string text)]))) :: r) W)
    (hg:Tryz.prog.globalNamed n = some g) (ht:(Tryz.prog.globals[g]?).map (·.type) = some 66):∃ tp p,W.var? Tryz.prog n = some #[.iface tp p]:=by
  obtain ⟨a,s,hv,_⟩:=laid_sentinel h hg ht Tryz.underlying66 rowErr Tryz.underlying234 Tryz.underlying236 rfl rfl Tryz.underlying9 (by kernel_rfl) (by kernel_rfl)
  exact ⟨_,_,hv⟩
theorem gTab:Tryz.prog.globalNamed "internal/strconv.uint64pow10" = some 3:=by kernel_rfl
theorem gTabType:(Tryz.prog.globals[3]?).map (·.type) = some 199:=by kernel_rfl
theorem cellsT:Tryz.prog.cellsOf 199 = 20:=by kernel_rfl
theorem cellsE:Tryz.prog.cellsOf 157 = 1:=by kernel_rfl
theorem gRng:Tryz.prog.globalNamed "strconv.ErrRange" = some 2:=by kernel_rfl
theorem gRngType:(Tryz.prog.globals[2]?).map (·.type) = some 66:=by kernel_rfl
theorem gSyn:Tryz.prog.globalNamed "strconv.ErrSyntax" = some 1:=by kernel_rfl
theorem gSynType:(Tryz.prog.globals[1]?).map (·.type) = some 66:=by kernel_rfl
theorem LibOk.of_met {W:World} {x:String × DataW Unit} {t1 t2:List UInt8} {r:List (String × DataW Unit)}
    (h:laidMet Tryz.prog (("internal/strconv.uint64pow10",Lib.tabData .u64 Lib.pow10Tab) :: x :: ("strconv.ErrRange",.iface "*errors.errorString" (.ptr (.agg [.lit (.string t1)]))) :: ("strconv.ErrSyntax",.iface "*errors.errorString" (.ptr (.agg [.lit (.string t2)]))) :: r) W)
    (hs:W.ShapedOpen Tryz.prog):LibOk W :=
  ⟨Lib.tabIs_of_head gTab gTabType Tryz.underlying199 Tryz.underlying157 cellsE cellsT h,errVar (laidMet.tail (laidMet.tail (laidMet.tail h))) gSyn gSynType,errVar (laidMet.tail (laidMet.tail h)) gRng gRngType,Tryz.laysM146.s1_3 W hs⟩
end Go.Proofs.YtiilmjojffjhlaaGreatDoor
namespace Go.Proofs.YtiilmjojffjhlaaGreatDoor.Vm
open Go Go.RowKit Go.Deep
theorem law_callsI {P:Program} {I:World → Prop} {f:FuncId} {args:List D} {vs:List Value} {w:World} (hI:I w) (h:PureI P I f args (.bool true)) (hb:bndL 0 args) (hr:RepL id (fun x=>x < w.heap.size) w args vs []):Calls P f vs.toArray w fun e w'=>e = .returned (.bool true) ∧ Below w.heap.size w w' :=
  (h id w vs hI ⟨0,hb⟩ hr).mono fun e w' ⟨v,fl,he,hv,_,_,hF⟩=>by
    simp only [Rep] at hv
    exact ⟨by rw [he,hv.2],⟨hF.os,hF.tape,hF.output,hF.size,fun k hk=>hF.same k hk (fun h=>h)⟩⟩
end Go.Proofs.YtiilmjojffjhlaaGreatDoor.Vm

