/-
  Plain lemmas on worlds and on slices that read as lists of integers. No conditions; nothing of the program is named here.
-/
import Derived.WalkKit
import Derived.WalkSpells
import Derived.WalkLawsBesides
import Derived.Deep.Draws
import Derived.BigQuiet
import Derived.Lib.Hide
import Derived.Deep.OwnRows
import Derived.KernelRfl
namespace Go.Proofs.YtiilmjojffjhlaaGreatDoor
open Go.RowKit Go.Deep

def Gr (w w':World):Prop:=Below w.heap.size w w'

theorem Gr.refl (w:World):Gr w w:=Below.refl _ _
theorem Gr.trans {a b c:World} (h:Gr a b) (k:Gr b c):Gr a c:=Below.trans h (Below.mono k h.size)
theorem Gr.drewN {a b:World} (h:Gr a b) (n:Nat):Gr a (b.drewN n):=⟨h.os,h.tape,h.output,h.size,h.block⟩
theorem Gr.drew {a b:World} (h:Gr a b):Gr a b.drew:=Below.drew h
theorem Gr.alloc {a b:World} (h:Gr a b) (o:Obj):Gr a (b.alloc o):=Below.alloc h h.size o
theorem Gr.set {w W:World} (h:Gr w W) {g:Nat} (hp:w.heap.size ≤ g) {i:Nat} {u:Value}:Gr w (W.setCell ⟨g,i,none⟩ u):=Below.setCell h hp u
theorem lt_of_cell {w:World} {p:Addr} {v:Value} (h:w.cell? p = some v):p.block < w.heap.size:=World.block_lt_of_cell? w p h
theorem Gr.cell {w w':World} (h:Gr w w') {p:Addr} {v:Value} (hc:w.cell? p = some v):w'.cell? p = some v :=
  (Below.cell h (lt_of_cell hc)).trans hc
def Box (w:World) (g:Nat) (t:TypeId) (cs:Array Value):Prop:=w.heap[g]? = some (.cells cs t (0,0))
section
variable {w w':World} {g:Nat} {t:TypeId} {cs:Array Value}
theorem Box.lt (h:Box w g t cs):g < w.heap.size:=by
  rcases Nat.lt_or_ge g w.heap.size with hlt | hge
  · exact hlt
  · unfold Box at h;rw [Array.getElem?_eq_none hge] at h;cases h
theorem Box.c (h:Box w g t cs):∀ i,w.cell? ⟨g,i,none⟩ = cs[i]?:=fun i=>by
  unfold Box at h;simp [World.cell?,h]
theorem Box.f (h:Box w g t cs):∀ i,w.frozen? ⟨g,i,none⟩ = false:=fun i=>by
  unfold Box at h;simp [World.frozen?,h]
theorem Box.gr (h:Box w g t cs) (k:Gr w w'):Box w' g t cs:=(k.block g h.lt).trans h
theorem Box.drewN (h:Box w g t cs) (n:Nat):Box (w.drewN n) g t cs:=h
theorem Box.drew (h:Box w g t cs):Box w.drew g t cs:=h
theorem Box.alloc (h:Box w g t cs) (o:Obj):Box (w.alloc o) g t cs:=(Below.heap_alloc w o g h.lt).trans h
theorem Box.set_ (h:Box w g t cs) {i:Nat} {u:Value}:Box (w.setCell ⟨g,i,none⟩ u) g t (cs.setIfInBounds i u):=by
  unfold Box at h ⊢
  simp [World.setCell,Array.getElem?_modify,h]
theorem Box.off (h:Box w g t cs) {g':Nat} (hp:g ≠ g') {i:Nat} {u:Value}:Box (w.setCell ⟨g',i,none⟩ u) g t cs:=(Below.heap_setCell w ⟨g',i,none⟩ u g hp).trans h
theorem Box.new {k:Nat} (hk:w.heap.size = k):Box (w.alloc (.cells cs t)) k t cs:=by
  subst hk
  exact heap_alloc_new w _
theorem row_gr {n:Nat} {f:Nat → Value} (h:w.rowIs g t n f) (k:Gr w w'):w'.rowIs g t n f:=h.of_block (k.block g h.lt)
end

def nth (xs:List Int) (k:Nat):Int:=xs.getD k 0
theorem nth_lt {xs:List Int} {k:Nat} (h:k < xs.length):nth xs k = xs[k]:=by simp [nth,List.getD_eq_getElem?_getD,List.getElem?_eq_getElem h]

def Cap (A:Option Addr) (N c:Nat):Prop:=N ≤ c ∧ c ≤ maxLen ∧ (A = none → c = 0)
theorem Cap.row {p:Addr} {n:Nat} (h:n ≤ maxLen):Cap (some p) n n:=⟨Nat.le_refl _,h,fun h=>by cases h⟩
theorem Cap.len {A:Option Addr} {N c:Nat} (h:Cap A N c):N ≤ maxLen:=Nat.le_trans h.1 h.2.1
structure IR (w:World) (A:Option Addr) (N c:Nat) (xs:List Int):Prop where
  len:N = xs.length
  cells:∀ k,k < N → ∃ ad,A = some ad ∧ w.cell? (ad.add k) = some (.int .i64 (nth xs k))
  cap:Cap A N c
def IS (w:World) (v:Value) (xs:List Int):Prop:=∃ A N c,v = .slice A N c ∧ IR w A N c xs
theorem IR.gr {w w':World} {A:Option Addr} {N c:Nat} {xs:List Int} (h:IR w A N c xs) (g:Gr w w'):IR w' A N c xs :=
  ⟨h.1,fun k hlt=>by obtain ⟨ad,ha,hc⟩:=h.2 k hlt;exact ⟨ad,ha,g.cell hc⟩,h.3⟩
theorem IS.gr {w w':World} {v:Value} {xs:List Int} (h:IS w v xs) (g:Gr w w'):IS w' v xs:=by
  obtain ⟨A,N,c,hv,hk⟩:=h
  exact ⟨A,N,c,hv,hk.gr g⟩
theorem IS.drew {w:World} {v:Value} {xs:List Int} (h:IS w v xs):IS w.drew v xs:=⟨_,_,_,h.choose_spec.choose_spec.choose_spec.1,h.choose_spec.choose_spec.choose_spec.2.1,h.choose_spec.choose_spec.choose_spec.2.2,h.choose_spec.choose_spec.choose_spec.2.3⟩
theorem IS.len {w:World} {v:Value} {xs:List Int} (h:IS w v xs):xs.length ≤ maxLen:=by
  obtain ⟨A,N,c,_,hk⟩:=h
  rw [← hk.1];exact hk.3.len
theorem add0 (b o k:Nat):(⟨b,o,none⟩:Addr).add k = ⟨b,o + k,none⟩:=by
  unfold Addr.add;split <;> simp_all
def Agree (k:Nat) (xs ys:List Int):Prop:=∀ i,i < k → nth xs i = nth ys i
theorem Agree.zero (xs ys:List Int):Agree 0 xs ys:=fun _ h=>absurd h (by omega)
theorem Agree.succ {k:Nat} {xs ys:List Int} (h:Agree k xs ys) (e:nth xs k = nth ys k):Agree (k + 1) xs ys:=fun i hi=>by
  rcases Nat.lt_or_ge i k with h1 | h1
  · exact h i h1
  · obtain rfl:i = k:=by omega
    exact e
theorem Agree.all {xs ys:List Int} (h:Agree xs.length xs ys) (hl:xs.length = ys.length):xs = ys:=by
  apply List.ext_getElem hl
  intro i h1 h2
  have:=h i h1
  rwa [nth_lt h1,nth_lt h2] at this

def NewInts (t:TypeId) (w:World) (xs:List Int) (e:Ending) (w':World):Prop :=
  e = .returned (.slice (some ⟨w.heap.size,0,none⟩) xs.length xs.length) ∧ Gr w w' ∧ w'.heap.size = w.heap.size + 1 ∧ w'.rowIs w.heap.size t xs.length (fun i=>.int .i64 (nth xs i))

def Filled (t:TypeId) (w wr:World) (xs:List Int) (k:Nat):Prop :=
  Gr w wr ∧ wr.heap.size = w.heap.size + 1 ∧ wr.rowIs w.heap.size t xs.length (fun i=>if i < k then .int .i64 (nth xs i) else .int .i64 0)
theorem Filled.zero (t:TypeId) (w:World) (xs:List Int):Filled t w (w.alloc (.cells (madeCells #[.int .i64 0] xs.length) t)) xs 0 :=
  ⟨(Gr.refl w).alloc _,by simp,(World.rowIs_made _ _ _ _).congr fun i _=>by simp⟩
theorem Filled.drew {t:TypeId} {w wr:World} {xs:List Int} {k:Nat} (h:Filled t w wr xs k) (n:Nat):Filled t w (wr.drewN n) xs k:=⟨h.1.drewN n,h.2.1,h.2.2⟩
theorem Filled.succ {t:TypeId} {w wr:World} {xs:List Int} {k:Nat} (h:Filled t w wr xs k):Filled t w (wr.setCell ⟨w.heap.size,k,none⟩ (.int .i64 (nth xs k))) xs (k + 1) :=
  ⟨Below.setCell h.1 (Nat.le_refl _) _,by simp [World.setCell,h.2.1],(h.2.2.set k _).congr fun i _=>by
    by_cases h1:i = k
    · subst h1;simp
    · by_cases h2:i < k
      · rw [if_neg h1,if_pos h2,if_pos (by omega)]
      · rw [if_neg h1,if_neg h2,if_neg (by omega)]⟩
theorem Filled.done {t:TypeId} {w wr:World} {xs:List Int} {k:Nat} (h:Filled t w wr xs k) (hk:xs.length ≤ k):NewInts t w xs (.returned (.slice (some ⟨w.heap.size,0,none⟩) xs.length xs.length)) wr :=
  ⟨rfl,h.1,h.2.1,h.2.2.congr fun i hi=>by rw [if_pos (by omega)]⟩

abbrev Ints2:=List Int × List Int
def PS (w:World) (v:Value) (l:Ints2):Prop:=∃ s1 s2,v = .agg #[s1,s2] ∧ IS w s1 l.1 ∧ IS w s2 l.2
theorem PS.gr {w w':World} {v:Value} {l:Ints2} (h:PS w v l) (g:Gr w w'):PS w' v l:=by
  obtain ⟨s1,s2,hv,h1,h2⟩:=h
  exact ⟨s1,s2,hv,h1.gr g,h2.gr g⟩
def NoneTill (p:Int → Bool) (xs:List Int) (k:Nat):Prop:=∀ i,i < k → p (nth xs i) = false
theorem NoneTill.zero (p:Int → Bool) (xs:List Int):NoneTill p xs 0:=fun _ h=>absurd h (by omega)
theorem NoneTill.succ {p:Int → Bool} {xs:List Int} {k:Nat} (h:NoneTill p xs k) (e:p (nth xs k) = false):NoneTill p xs (k + 1):=fun i hi=>by
  rcases Nat.lt_or_ge i k with h1 | h1
  · exact h i h1
  · obtain rfl:i = k:=by omega
    exact e
def OS (w:World) (v:Value) (l:List Int):Prop:=∃ s1,v = .agg #[s1] ∧ IS w s1 l
theorem OS.gr {w w':World} {v:Value} {l:List Int} (h:OS w v l) (g:Gr w w'):OS w' v l:=by
  obtain ⟨s1,hv,h1⟩:=h
  exact ⟨s1,hv,h1.gr g⟩
end Go.Proofs.YtiilmjojffjhlaaGreatDoor

