import Derived.WalkKit
import Derived.WalkSpells
import Derived.WalkLawsBesides
import Derived.Deep.Draws
import Derived.BigQuiet
import Derived.Lib.Hide
import Derived.Deep.OwnRows
import Derived.KernelRfl
import Derived.Test.YtiilmjojffjhlaaGreatDoorRows
/-
  Plain lemmas on worlds and on slices that read as lists of integers. No conditions; nothing of the program is named here.
-/
namespace Go.Proofs.YtiilmjojffjhlaaGreatDoor
open Go.RowKit Go.Deep

def Gr (w w':World):Prop:=Below w.heap.size w w'

theorem Gr.refl (w:World):Gr w w:=Below.refl _ _
theorem Gr.trans {a b c:World} (h:Gr a b) (k:Gr b c):Gr a c:=Below.trans h (Below.mono k h.size)
theorem Gr.drewN {a b:World} (h:Gr a b) (n:Nat):Gr a (b.drewN n):=⟨h.os,h.tape,h.output,h.size,h.block⟩
theorem Gr.drew {a b:World} (h:Gr a b):Gr a b.drew:=Below.drew h
theorem Gr.alloc {a b:World} (h:Gr a b) (o:Obj):Gr a (b.alloc o):=Below.alloc h h.size o
theorem Gr.set {w W:World} (h:Gr w W) {g:Nat} (hp:w.heap.size ≤ g) {i:Nat} {u:Value}:Gr w (W.setCell ⟨g,i,none⟩ u):=Below.setCell h hp u
theorem lt_of_cell {w:World} {p:Addr} {v:Value} (h:w.cell? p = some v):p.block < w.heap.size:=World.block_lt_of_cell? w p h
theorem Gr.cell {w w':World} (h:Gr w w') {p:Addr} {v:Value} (hc:w.cell? p = some v):w'.cell? p = some v :=
  (Below.cell h (lt_of_cell hc)).trans hc
def Box (w:World) (g:Nat) (t:TypeId) (cs:Array Value):Prop:=w.heap[g]? = some (.cells cs t (0,0))
section
variable {w w':World} {g:Nat} {t:TypeId} {cs:Array Value}
theorem Box.lt (h:Box w g t cs):g < w.heap.size:=by
  rcases Nat.lt_or_ge g w.heap.size with hlt | hge
  · exact hlt
  · unfold Box at h;rw [Array.getElem?_eq_none hge] at h;cases h
theorem Box.c (h:Box w g t cs):∀ i,w.cell? ⟨g,i,none⟩ = cs[i]?:=fun i=>by
  unfold Box at h;simp [World.cell?,h]
theorem Box.f (h:Box w g t cs):∀ i,w.frozen? ⟨g,i,none⟩ = false:=fun i=>by
  unfold Box at h;simp [World.frozen?,h]
theorem Box.gr (h:Box w g t cs) (k:Gr w w'):Box w' g t cs:=(k.block g h.lt).trans h
theorem Box.drewN (h:Box w g t cs) (n:Nat):Box (w.drewN n) g t cs:=h
theorem Box.drew (h:Box w g t cs):Box w.drew g t cs:=h
theorem Box.alloc (h:Box w g t cs) (o:Obj):Box (w.alloc o) g t cs:=(Below.heap_alloc w o g h.lt).trans h
theorem Box.set_ (h:Box w g t cs) {i:Nat} {u:Value}:Box (w.setCell ⟨g,i,none⟩ u) g t (cs.setIfInBounds i u):=by
  unfold Box at h ⊢
  simp [World.setCell,Array.getElem?_modify,h]
theorem Box.off (h:Box w g t cs) {g':Nat} (hp:g ≠ g') {i:Nat} {u:Value}:Box (w.setCell ⟨g',i,none⟩ u) g t cs:=(Below.heap_setCell w ⟨g',i,none⟩ u g hp).trans h
theorem Box.new {k:Nat} (hk:w.heap.size = k):Box (w.alloc (.cells cs t)) k t cs:=by
  subst hk
  exact heap_alloc_new w _
theorem row_gr {n:Nat} {f:Nat → Value} (h:w.rowIs g t n f) (k:Gr w w'):w'.rowIs g t n f:=h.of_block (k.block g h.lt)
end

def nth (xs:List Int) (k:Nat):Int:=xs.getD k 0
theorem Xc {xs:List Int} {k:Nat} (h:k < xs.length):nth xs k = xs[k]:=by simp [nth,List.getD_eq_getElem?_getD,List.getElem?_eq_getElem h]

theorem add0 (b o k:Nat):(⟨b,o,none⟩:Addr).add k = ⟨b,o + k,none⟩:=by
  unfold Addr.add;split <;> simp_all
abbrev Ints2:=List Int × List Int
def inR (n lo hi:Int):Bool:=decide (lo ≤ n) && decide (n ≤ hi)
theorem inR_yes {n lo hi:Int} (h:lo ≤ n) (h':n ≤ hi):inR n lo hi = true:=by simp [inR,h,h']
theorem inR_lo {n lo hi:Int} (h:n < lo):inR n lo hi = false:=by simp [inR];omega
theorem inR_hi {n lo hi:Int} (h:hi < n):inR n lo hi = false:=by simp [inR];omega
theorem inR_iff {n lo hi:Int}:inR n lo hi = true ↔ lo ≤ n ∧ n ≤ hi:=by simp [inR]
def NoneTill (p:Int → Bool) (xs:List Int) (k:Nat):Prop:=∀ i,i < k → p (nth xs i) = false
theorem NoneTill.zero (p:Int → Bool) (xs:List Int):NoneTill p xs 0:=fun _ h=>absurd h (by omega)
theorem NoneTill.succ {p:Int → Bool} {xs:List Int} {k:Nat} (h:NoneTill p xs k) (e:p (nth xs k) = false):NoneTill p xs (k + 1):=fun i hi=>by
  rcases Nat.lt_or_ge i k with h1 | h1
  · exact h i h1
  · obtain rfl:i = k:=by omega
    exact e
def anyB (p:Int → Bool) (xs:List Int):Bool:=xs.any p
theorem anyB_no {p:Int → Bool} {xs:List Int} {k:Nat} (h:NoneTill p xs k) (hk:xs.length ≤ k):anyB p xs = false:=by
  rw [anyB,List.any_eq_false]
  intro x hx
  obtain ⟨i,hi,rfl⟩:=List.getElem_of_mem hx
  have:=h i (by omega)
  rw [Xc hi] at this
  simp [this]
theorem anyB_yes {p:Int → Bool} {xs:List Int} {k:Nat} (hk:k < xs.length) (e:p (nth xs k) = true):anyB p xs = true:=by
  rw [anyB,List.any_eq_true]
  exact ⟨xs[k],List.getElem_mem hk,by rw [← Xc hk];exact e⟩
end Go.Proofs.YtiilmjojffjhlaaGreatDoor

/-
  Contracts of the functions over slices of integers. No conditions but that the slices can be read.
-/
namespace Go.Proofs.YtiilmjojffjhlaaGreatDoor
open Go.RowKit Go.Deep

theorem infoInt:(Tryz.prog.info? 3).map (fun i=>(i.zero,i.size,i.bytes)) = some (some (.int .i64 0),1,8):=by kernel_rfl

end Go.Proofs.YtiilmjojffjhlaaGreatDoor

/-
  Contracts of the functions that write digits and numbers. No conditions but that the slices can be read.
-/
namespace Go.Proofs.YtiilmjojffjhlaaGreatDoor
open Go.RowKit Go.Deep
set_option linter.unusedVariables false

def tx (l:List UInt8):ByteArray:=⟨l.toArray⟩
theorem Ja (l:List UInt8):(tx l).size = l.length:=by simp [tx,ByteArray.size]
theorem tx_add (a b:List UInt8):tx a ++ tx b = tx (a ++ b):=ByteArray.mk_append_mk a b
def digB (n:Int):UInt8:=UInt8.ofNat (48 + n.toNat)
def decN (n:Nat):List UInt8:=if h:n ≤ 9 then [digB n] else decN (n / 10) ++ [digB (n % 10:Nat)]
termination_by n
decreasing_by omega

def byt (x:Int):UInt8:=UInt8.ofNat x.toNat
theorem zasw (W:World) (x:Int):(convert 32 9 (.slice (some ⟨W.heap.size,0,none⟩) 1 1)).run Tryz.prog (W.alloc (.cells #[.int .u8 x] 5)) =
    .ok (.string (tx [byt x])) (W.alloc (.cells #[.int .u8 x] 5)):=by
  rw [run_convert_bytes_string _ 32 9 5 _ _ _ Tryz.underlying32 Tryz.underlying5 Tryz.underlying9]
  rw [run_bytesToString _ _ 1 1 [x] (by simp [go_sem])]
  rfl
theorem digB_of (k:Nat):byt (48 + (k:Int)) = digB k:=by unfold digB byt;congr 1
theorem digB_mod (k:Nat):byt (48 + (k:Int) % 10) = digB (k % 10:Nat):=by unfold digB byt;congr 1
theorem Vz {k:Nat} (h:k ≤ 9):decN k = [digB k]:=by rw [decN,dif_pos h]
theorem Yq {k:Nat} (h:9 < k):decN k = decN (k / 10) ++ [digB (k % 10:Nat)]:=by rw [decN,dif_neg (by omega)]

set_option maxRecDepth 100000 in
set_option maxHeartbeats 1000000 in
theorem l16Dec_any (w:World) (n:Nat) (hn:n ≤ 1000000000) :
    Calls Tryz.prog 47 #[.int .i64 n] w fun e w'=>e = .returned (.string (tx (decN n))) ∧ Gr w w':=by
  have h0:¬ ((n:Int) < -9223372036854775807):=by omega
  have h1:¬ ((n:Int) < 0):=by omega
  go_enter Tryz.func47,Tryz.ntmps47
  go_wp2_with fail
  go_loopw [0,3] (fun i s wr=>∃ (k:Nat) (l:List UInt8),k ≤ n ∧ i = .int .i64 k ∧ s = .string (tx l) ∧ l.length + k ≤ 1000000000 ∧ Hid (decN n = decN k ++ l) ∧ Gr w wr) (fun i _ _=>(intOf i).toNat)
  case atStart=>exact ⟨n,[],Nat.le_refl _,rfl,rfl,by simp;omega,by show _ = _;simp,Gr.refl w⟩
  case round =>
    obtain ⟨k,l,hk,rfl,rfl,hl,hd,hg⟩:=hrel
    have hsz:=Ja l
    have hcv:=zasw
    have hs1:∀ b,(tx [b]).size = 1:=fun b=>Ja _
    by_cases h9:9 < k
    · have HD:=Lib.hid (show decN n = decN (k / 10) ++ (digB (k % 10:Nat) :: l) by rw [hd.out,Yq h9];simp)
      go_wp2_with fail
      exact ⟨⟨k / 10,_,by omega,by go_num,congrArg Value.string (tx_add [byt (48 + (k:Int) % 10)] l),by simp;omega,by show _ = _;rw [HD.out,digB_mod];rfl,hg.alloc _⟩,by simp [intOf];omega⟩
    · have HD:=Lib.hid (show decN n = digB k :: l by rw [hd.out,Vz (by omega)];rfl)
      go_wp2_with fail
      go_ret
      exact ⟨by rw [HD.out,← digB_of];exact congrArg (fun s=>Ending.returned (Value.string s)) (tx_add [_] l),hg.alloc _⟩

end Go.Proofs.YtiilmjojffjhlaaGreatDoor

/-
  Contracts of the functions over structs of two slices of integers (lassos, states). No conditions but that the slices can be read.
-/
namespace Go.Proofs.YtiilmjojffjhlaaGreatDoor
open Go.RowKit Go.Deep

end Go.Proofs.YtiilmjojffjhlaaGreatDoor

/-
  Contracts of the functions on letters and valid lassos. No conditions but that the slices can be read.
-/
namespace Go.Proofs.YtiilmjojffjhlaaGreatDoor
open Go.RowKit Go.Deep

set_option maxHeartbeats 400000 in
theorem in_any (w:World) (n lo hi:Int) :
    Calls Tryz.prog 30 #[.int .i64 n,.int .i64 lo,.int .i64 hi] w fun e w'=>e = .returned (.bool (inR n lo hi)) ∧ w = w':=by
  by_cases h1:n < lo
  · rw [inR_lo h1]
    go_enter Tryz.func30,Tryz.ntmps30
    go_wp2_with fail
    go_ret
    exact ⟨rfl,rfl⟩
  · by_cases h2:hi < n
    · rw [inR_hi h2]
      go_enter Tryz.func30,Tryz.ntmps30
      go_wp2_with fail
      go_ret
      exact ⟨by first | rfl | (simp;omega),rfl⟩
    · rw [inR_yes (by omega) (by omega)]
      go_enter Tryz.func30,Tryz.ntmps30
      go_wp2_with fail
      go_ret
      exact ⟨by first | rfl | (simp;omega),rfl⟩

end Go.Proofs.YtiilmjojffjhlaaGreatDoor

/-
  Contracts of the functions over certificates. No conditions but that the slices can be read.
-/
namespace Go.Proofs.YtiilmjojffjhlaaGreatDoor
open Go.RowKit Go.Deep
end Go.Proofs.YtiilmjojffjhlaaGreatDoor
