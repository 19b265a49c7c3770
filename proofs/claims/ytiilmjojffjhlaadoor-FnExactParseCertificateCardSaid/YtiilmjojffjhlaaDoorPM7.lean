/-
  What the library's variables hold, out of what a row lists. No conditions of its own.
-/
import Derived.Test.YtiilmjojffjhlaaDoorRows
import Derived.Test.YtiilmjojffjhlaaDoorPE1
import Derived.Test.YtiilmjojffjhlaaDoorVm16
import Derived.LaidMore
import Derived.Stop.Joined
import Derived.Stop.LaidErr
import Derived.Lib.LaidTab
namespace Go.Proofs.YtiilmjojffjhlaaDoor
open Go.RowKit Go.Deep
set_option linter.unusedVariables false

theorem starErr : "*" ++ "errors.errorString" = "*errors.errorString" := by decide
theorem rowErr (u:TypeId) (h:Tryd.prog.typeName? 3 u = some "*errors.errorString"):u = 86 :=
  typeName_ptr_named (nm := "errors.errorString") (by rw [starErr];kernel_rfl) (by kernel_rfl) (by decide) u (by rw [starErr];exact h)
theorem errVar {W:World} {n:String} {text:List UInt8} {r:List (String × DataW Unit)} {g:Nat} (h:laidMet Tryd.prog ((n,.iface "*errors.errorString" (.ptr (.agg [.lit (.string text)]))) :: r) W)
    (hg:Tryd.prog.globalNamed n = some g) (ht:(Tryd.prog.globals[g]?).map (·.type) = some 44):∃ tp p,W.var? Tryd.prog n = some #[.iface tp p]:=by
  obtain ⟨a,s,hv,_⟩:=laid_sentinel h hg ht Tryd.underlying44 rowErr Tryd.underlying86 Tryd.underlying88 rfl rfl Tryd.underlying9 (by kernel_rfl) (by kernel_rfl)
  exact ⟨_,_,hv⟩
theorem gTab:Tryd.prog.globalNamed "internal/strconv.uint64pow10" = some 3:=by kernel_rfl
theorem gTabType:(Tryd.prog.globals[3]?).map (·.type) = some 90:=by kernel_rfl
theorem cellsT:Tryd.prog.cellsOf 90 = 20:=by kernel_rfl
theorem cellsE:Tryd.prog.cellsOf 71 = 1:=by kernel_rfl
theorem gRng:Tryd.prog.globalNamed "strconv.ErrRange" = some 1:=by kernel_rfl
theorem gRngType:(Tryd.prog.globals[1]?).map (·.type) = some 44:=by kernel_rfl
theorem gSyn:Tryd.prog.globalNamed "strconv.ErrSyntax" = some 0:=by kernel_rfl
theorem gSynType:(Tryd.prog.globals[0]?).map (·.type) = some 44:=by kernel_rfl
theorem LibOk.of_met {W:World} {x:String × DataW Unit} {t1 t2:List UInt8} {r:List (String × DataW Unit)}
    (h:laidMet Tryd.prog (("internal/strconv.uint64pow10",Lib.tabData .u64 Lib.pow10Tab) :: x :: ("strconv.ErrRange",.iface "*errors.errorString" (.ptr (.agg [.lit (.string t1)]))) :: ("strconv.ErrSyntax",.iface "*errors.errorString" (.ptr (.agg [.lit (.string t2)]))) :: r) W)
    (hs:W.ShapedOpen Tryd.prog):LibOk W :=
  ⟨Lib.tabIs_of_head gTab gTabType Tryd.underlying90 Tryd.underlying71 cellsE cellsT h,errVar (laidMet.tail (laidMet.tail (laidMet.tail h))) gSyn gSynType,errVar (laidMet.tail (laidMet.tail h)) gRng gRngType,Tryd.laysM146.s1_3 W hs⟩
end Go.Proofs.YtiilmjojffjhlaaDoor
namespace Go.Proofs.YtiilmjojffjhlaaDoor.Vm
open Go Go.RowKit Go.Deep
theorem law_callsI {P:Program} {I:World → Prop} {f:FuncId} {args:List D} {vs:List Value} {w:World} (hI:I w) (h:PureI P I f args (.bool true)) (hb:bndL 0 args) (hr:RepL id (fun x=>x < w.heap.size) w args vs []):Calls P f vs.toArray w fun e w'=>e = .returned (.bool true) ∧ Below w.heap.size w w' :=
  (h id w vs hI ⟨0,hb⟩ hr).mono fun e w' ⟨v,fl,he,hv,_,_,hF⟩=>by
    simp only [Rep] at hv
    exact ⟨by rw [he,hv.2],⟨hF.os,hF.tape,hF.output,hF.size,fun k hk=>hF.same k hk (fun h=>h)⟩⟩
end Go.Proofs.YtiilmjojffjhlaaDoor.Vm

