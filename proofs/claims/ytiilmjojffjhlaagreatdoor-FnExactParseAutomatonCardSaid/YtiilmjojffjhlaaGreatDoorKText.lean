/-
  Contracts of the functions that write digits and numbers. No conditions but that the slices can be read.
-/
import Derived.Test.YtiilmjojffjhlaaGreatDoorKInts
namespace Go.Proofs.YtiilmjojffjhlaaGreatDoor
open Go.RowKit Go.Deep
set_option linter.unusedVariables false

def tx (l:List UInt8):ByteArray:=⟨l.toArray⟩
theorem Zj (l:List UInt8):(tx l).size = l.length:=by simp [tx,ByteArray.size]
theorem tx_add (a b:List UInt8):tx a ++ tx b = tx (a ++ b):=ByteArray.mk_append_mk a b
def digB (n:Int):UInt8:=UInt8.ofNat (48 + n.toNat)
def decN (n:Nat):List UInt8:=if h:n ≤ 9 then [digB n] else decN (n / 10) ++ [digB (n % 10:Nat)]
termination_by n
decreasing_by omega

def byt (x:Int):UInt8:=UInt8.ofNat x.toNat
theorem zagp (W:World) (x:Int):(convert 32 9 (.slice (some ⟨W.heap.size,0,none⟩) 1 1)).run Tryz.prog (W.alloc (.cells #[.int .u8 x] 5)) =
    .ok (.string (tx [byt x])) (W.alloc (.cells #[.int .u8 x] 5)):=by
  rw [run_convert_bytes_string _ 32 9 5 _ _ _ Tryz.underlying32 Tryz.underlying5 Tryz.underlying9]
  rw [run_bytesToString _ _ 1 1 [x] (by simp [go_sem])]
  rfl
theorem digB_of (k:Nat):byt (48 + (k:Int)) = digB k:=by unfold digB byt;congr 1
theorem digB_mod (k:Nat):byt (48 + (k:Int) % 10) = digB (k % 10:Nat):=by unfold digB byt;congr 1
theorem Jo {k:Nat} (h:k ≤ 9):decN k = [digB k]:=by rw [decN,dif_pos h]
theorem Vd {k:Nat} (h:9 < k):decN k = decN (k / 10) ++ [digB (k % 10:Nat)]:=by rw [decN,dif_neg (by omega)]

set_option maxRecDepth 100000 in
set_option maxHeartbeats 1000000 in
theorem l16Dec_any (w:World) (n:Nat) (hn:n ≤ 1000000000) :
    Calls Tryz.prog 47 #[.int .i64 n] w fun e w'=>e = .returned (.string (tx (decN n))) ∧ Gr w w':=by
  have h0:¬ ((n:Int) < -9223372036854775807):=by omega
  have h1:¬ ((n:Int) < 0):=by omega
  go_enter Tryz.func47,Tryz.ntmps47
  go_wp2_with fail
  go_loopw [0,3] (fun i s wr=>∃ (k:Nat) (l:List UInt8),k ≤ n ∧ i = .int .i64 k ∧ s = .string (tx l) ∧ l.length + k ≤ 1000000000 ∧ Hid (decN n = decN k ++ l) ∧ Gr w wr) (fun i _ _=>(intOf i).toNat)
  case atStart=>exact ⟨n,[],Nat.le_refl _,rfl,rfl,by simp;omega,by show _ = _;simp,Gr.refl w⟩
  case round =>
    obtain ⟨k,l,hk,rfl,rfl,hl,hd,hg⟩:=hrel
    have hsz:=Zj l
    have hcv:=zagp
    have hs1:∀ b,(tx [b]).size = 1:=fun b=>Zj _
    by_cases h9:9 < k
    · have HD:=Lib.hid (show decN n = decN (k / 10) ++ (digB (k % 10:Nat) :: l) by rw [hd.out,Vd h9];simp)
      go_wp2_with fail
      exact ⟨⟨k / 10,_,by omega,by go_num,congrArg Value.string (tx_add [byt (48 + (k:Int) % 10)] l),by simp;omega,by show _ = _;rw [HD.out,digB_mod];rfl,hg.alloc _⟩,by simp [intOf];omega⟩
    · have HD:=Lib.hid (show decN n = digB k :: l by rw [hd.out,Jo (by omega)];rfl)
      go_wp2_with fail
      go_ret
      exact ⟨by rw [HD.out,← digB_of];exact congrArg (fun s=>Ending.returned (Value.string s)) (tx_add [_] l),hg.alloc _⟩

end Go.Proofs.YtiilmjojffjhlaaGreatDoor
