import Derived.Orders
import Derived.WalkKit
import Derived.Deep.AppendSrc
import Derived.Laws.StructEq
/-
  Values of an abstract machine, and what it is for a value of the program's memory to read as one. No conditions; nothing of the program is named here.
-/
namespace Go.Proofs.YtiilmjojffjhlaaGreatDoor.Vm
open Go
set_option linter.unusedVariables false
set_option linter.unusedSimpArgs false
set_option linter.unusedSectionVars false

inductive D where
  | any
  | nil
  | int (k:IntKind) (n:Int)
  | bool (b:Bool)
  | str (s:List UInt8)
  | list (n:Nat) (cs:List D)
  | fr (sz n:Nat) (cs:List D)
  | st (cs:List D)
  | tup (ds:List D)
  | sl (b sz o n c:Nat)
  | ptr (b o:Nat)
  | pd (cs:List D)
  | box (cs:List D)
  | fn (f:FuncId) (caps:List D)
  | nilp
  | ubool
  | mr (b:Nat)
  | om (cs:List D)
  deriving Inhabited

def mkS (s:List UInt8):ByteArray:=⟨s.toArray⟩
def Seg (w:World) (b o:Nat) (vs:List Value):Prop:=∃ cells ty fz,w.heap[b]? = some (.cells cells ty fz) ∧ (∀ (i:Nat) (v:Value),vs[i]? = some v → cells[o + i]? = some v) ∧ ∀ v ∈ vs,v.oneCell' = true
def Whole (w:World) (b:Nat) (cells:Array Value):Prop:=∃ ty,w.heap[b]? = some (.cells cells ty (0,0)) ∧ ∀ (i:Nat) (v:Value),cells[i]? = some v → v.oneCell' = true

def cM (e:List Int × Int):D:=.tup (.int .i64 e.2 :: e.1.map (D.int .i64))
def mp (es:List (List Int × Int)):List D:=.tup [] :: es.map cM
def keyV:List Int → Value
  | [k]=>.int .i64 k
  | ks=>.agg (ks.map fun k=>Value.int .i64 k).toArray
def MapIs (entries:Array MapEntry) (cs:List D):Prop:=∃ es:List (List Int × Int),cs = mp es ∧ entries.toList.map (fun e=>(e.key,e.val)) = es.map fun e=>(keyV e.1,Value.int .i64 e.2)
mutual
def Rep (μ:Nat → Nat) (I:Nat → Prop) (w:World):D → Value → List Nat → Prop
  | .any,_,fp=>fp = []
  | .nil,v,fp=>fp = [] ∧ ∃ A,v = .slice A 0 0
  | .int k n,v,fp=>fp = [] ∧ v = .int k n
  | .bool b,v,fp=>fp = [] ∧ v = .bool b
  | .str s,v,fp=>fp = [] ∧ v = .string (mkS s)
  | .list n cs,v,fp=>fp = [] ∧ n ≤ maxLen ∧ ∃ A c vs,v = .slice A n c ∧ n ≤ c ∧ (cs = [] ∨ ∃ b o,A = some ⟨b,o,none⟩ ∧ I b ∧ Seg w b o vs) ∧ RepL μ I w cs vs []
  | .fr sz n cs,v,fp=>n ≤ maxLen ∧ cs.length = n * sz ∧ ((n = 0 ∧ fp = [] ∧ ∃ A,v = .slice A 0 0) ∨ ∃ b c cells vs f,v = .slice (some ⟨b,0,none⟩) n c ∧ n ≤ c ∧ Whole w b cells ∧ c * sz ≤ cells.size ∧
      (∀ (i:Nat) (v:Value),vs[i]? = some v → cells[i]? = some v) ∧ RepL μ I w cs vs f ∧ fp = b :: f)
  | .st cs,v,fp=>∃ vs:List Value,v = .agg vs.toArray ∧ RepL μ I w cs vs fp
  | .tup cs,v,fp=>∃ vs:List Value,v = .tuple vs.toArray ∧ RepL μ I w cs vs fp
  | .sl b _ o n c,v,fp=>fp = [] ∧ n ≤ c ∧ n ≤ maxLen ∧ (∃ A,v = .slice A n c) ∧ (c = 0 ∨ v = .slice (some ⟨μ b,o,none⟩) n c)
  | .ptr b o,v,fp=>fp = [] ∧ v = .pointer (some ⟨μ b,o,none⟩)
  | .pd cs,v,fp=>fp = [] ∧ ∃ b o vs,v = .pointer (some ⟨b,o,none⟩) ∧ I b ∧ Seg w b o vs ∧ RepL μ I w cs vs []
  | .box cs,v,fp=>∃ b cells f,v = .pointer (some ⟨b,0,none⟩) ∧ Whole w b cells ∧ RepL μ I w cs cells.toList f ∧ fp = b :: f
  | .fn f caps,v,fp=>∃ vs:List Value,v = .func (.func f) #[] vs.toArray ∧ RepL μ I w caps vs fp
  | .nilp,v,fp=>fp = [] ∧ v = .pointer none
  | .ubool,v,fp=>fp = [] ∧ ∃ b,v = .bool b
  | .mr b,v,fp=>fp = [] ∧ v = .map (some (μ b))
  | .om cs,v,fp=>∃ b entries clock,v = .map (some b) ∧ w.heap[b]? = some (.map entries clock) ∧ MapIs entries cs ∧ fp = [b]
def RepL (μ:Nat → Nat) (I:Nat → Prop) (w:World):List D → List Value → List Nat → Prop
  | [],vs,fp=>vs = [] ∧ fp = []
  | d :: ds,vs,fp=>∃ v vs' f1 f2,vs = v :: vs' ∧ fp = f1 ++ f2 ∧ Rep μ I w d v f1 ∧ RepL μ I w ds vs' f2
end

section
variable {μ μ':Nat → Nat} {I I':Nat → Prop} {w w':World}
theorem Seg.mono {b o:Nat} {vs:List Value} (h:Seg w b o vs) (e:w'.heap[b]? = w.heap[b]?):Seg w' b o vs:=by
  obtain ⟨c,t,z,h1,h2,h3⟩:=h
  exact ⟨c,t,z,e.trans h1,h2,h3⟩
theorem Whole.mono {b:Nat} {cs:Array Value} (h:Whole w b cs) (e:w'.heap[b]? = w.heap[b]?):Whole w' b cs:=by
  obtain ⟨t,h1,h2⟩:=h
  exact ⟨t,e.trans h1,h2⟩
theorem Whole.lt {b:Nat} {cs:Array Value} (h:Whole w b cs):b < w.heap.size:=by
  obtain ⟨t,h,_⟩:=h
  rcases Nat.lt_or_ge b w.heap.size with hl | hl
  · exact hl
  · rw [Array.getElem?_eq_none hl] at h;cases h
theorem Seg.lt {b o:Nat} {vs:List Value} (h:Seg w b o vs):b < w.heap.size:=by
  obtain ⟨_,_,_,h,_⟩:=h
  rcases Nat.lt_or_ge b w.heap.size with hl | hl
  · exact hl
  · rw [Array.getElem?_eq_none hl] at h;cases h

mutual
theorem Rep.mono (hI:∀ b,I b → I' b ∧ w'.heap[b]? = w.heap[b]?):∀ {d:D} {v:Value} {fp:List Nat},(∀ b ∈ fp,w'.heap[b]? = w.heap[b]?) → Rep μ I w d v fp → Rep μ I' w' d v fp
  | .any,v,fp,hF,h=>by simpa only [Rep] using h
  | .nil,v,fp,hF,h=>by simpa only [Rep] using h
  | .int _ _,v,fp,hF,h=>by simpa only [Rep] using h
  | .bool _,v,fp,hF,h=>by simpa only [Rep] using h
  | .str _,v,fp,hF,h=>by simpa only [Rep] using h
  | .list n cs,v,fp,hF,h=>by
    simp only [Rep] at h ⊢
    obtain ⟨h0,h1,A,c,vs,h2,h3,h4,h5⟩:=h
    refine ⟨h0,h1,A,c,vs,h2,h3,?_,RepL.mono hI (by simp) h5⟩
    rcases h4 with h4 | ⟨b,o,h6,h7,h8⟩
    · exact .inl h4
    · exact .inr ⟨b,o,h6,(hI b h7).1,h8.mono (hI b h7).2⟩
  | .fr sz n cs,v,fp,hF,h=>by
    simp only [Rep] at h ⊢
    obtain ⟨h0,h1,h⟩:=h
    refine ⟨h0,h1,?_⟩
    rcases h with h | ⟨b,c,cells,vs,f,h2,h3,h4,h5,h6,h7,rfl⟩
    · exact .inl h
    · exact .inr ⟨b,c,cells,vs,f,h2,h3,h4.mono (hF b (by simp)),h5,h6,RepL.mono hI (fun x hx=>hF x (by simp [hx])) h7,rfl⟩
  | .st cs,v,fp,hF,h=>by
    simp only [Rep] at h ⊢
    obtain ⟨vs,h1,h2⟩:=h
    exact ⟨vs,h1,RepL.mono hI hF h2⟩
  | .tup cs,v,fp,hF,h=>by
    simp only [Rep] at h ⊢
    obtain ⟨vs,h1,h2⟩:=h
    exact ⟨vs,h1,RepL.mono hI hF h2⟩
  | .sl ..,v,fp,hF,h=>by simpa only [Rep] using h
  | .ptr ..,v,fp,hF,h=>by simpa only [Rep] using h
  | .pd cs,v,fp,hF,h=>by
    simp only [Rep] at h ⊢
    obtain ⟨h0,b,o,vs,h2,h3,h4,h5⟩:=h
    exact ⟨h0,b,o,vs,h2,(hI b h3).1,h4.mono (hI b h3).2,RepL.mono hI (by simp) h5⟩
  | .box cs,v,fp,hF,h=>by
    simp only [Rep] at h ⊢
    obtain ⟨b,cells,f,h2,h3,h4,rfl⟩:=h
    exact ⟨b,cells,f,h2,h3.mono (hF b (by simp)),RepL.mono hI (fun x hx=>hF x (by simp [hx])) h4,rfl⟩
  | .fn g caps,v,fp,hF,h=>by
    simp only [Rep] at h ⊢
    obtain ⟨vs,h1,h2⟩:=h
    exact ⟨vs,h1,RepL.mono hI hF h2⟩
  | .nilp,v,fp,hF,h=>by simpa only [Rep] using h
  | .ubool,v,fp,hF,h=>by simpa only [Rep] using h
  | .mr _,v,fp,hF,h=>by simpa only [Rep] using h
  | .om cs,v,fp,hF,h=>by
    simp only [Rep] at h ⊢
    obtain ⟨b,e,c,h1,h2,h3,rfl⟩:=h
    exact ⟨b,e,c,h1,(hF b (by simp)).trans h2,h3,rfl⟩
theorem RepL.mono (hI:∀ b,I b → I' b ∧ w'.heap[b]? = w.heap[b]?):∀ {ds:List D} {vs:List Value} {fp:List Nat},(∀ b ∈ fp,w'.heap[b]? = w.heap[b]?) → RepL μ I w ds vs fp → RepL μ I' w' ds vs fp
  | [],vs,fp,hF,h=>by simpa only [RepL] using h
  | d :: ds,vs,fp,hF,h=>by
    simp only [RepL] at h ⊢
    obtain ⟨v,vs',f1,f2,h1,rfl,h3,h4⟩:=h
    exact ⟨v,vs',f1,f2,h1,rfl,Rep.mono hI (fun b hb=>hF b (by simp [hb])) h3,RepL.mono hI (fun b hb=>hF b (by simp [hb])) h4⟩
end

mutual
def bnd (N:Nat):D → Prop
  | .list _ cs=>bndL N cs
  | .fr _ _ cs=>bndL N cs
  | .st cs=>bndL N cs
  | .tup cs=>bndL N cs
  | .sl b _ _ _ _=>b < N ∧ b % 2 = 0
  | .ptr b _=>b < N ∧ b % 2 = 0
  | .mr b=>b < N ∧ b % 2 = 1
  | .pd cs=>bndL N cs
  | .box cs=>bndL N cs
  | .fn _ cs=>bndL N cs
  | _=>True
def bndL (N:Nat):List D → Prop
  | []=>True
  | d :: ds=>bnd N d ∧ bndL N ds
end
theorem Qi {N:Nat} {ds:List D}:bndL N ds ↔ ∀ d ∈ ds,bnd N d:=by
  induction ds with
  | nil=>simp [bndL]
  | cons d ds ih=>simp [bndL,ih]
mutual
theorem bnd.mono {N N':Nat} (hN:N ≤ N'):∀ {d:D},bnd N d → bnd N' d
  | .any,h=>by simp [bnd]
  | .nil,h=>by simp [bnd]
  | .nilp,h=>by simp [bnd]
  | .ubool,h=>by simp [bnd]
  | .om _,h=>by simp [bnd]
  | .int _ _,h=>by simp [bnd]
  | .bool _,h=>by simp [bnd]
  | .str _,h=>by simp [bnd]
  | .list n cs,h=>by simp only [bnd] at h ⊢;exact bndL.mono hN h
  | .fr _ _ cs,h=>by simp only [bnd] at h ⊢;exact bndL.mono hN h
  | .st cs,h=>by simp only [bnd] at h ⊢;exact bndL.mono hN h
  | .tup cs,h=>by simp only [bnd] at h ⊢;exact bndL.mono hN h
  | .sl ..,h=>by simp only [bnd] at h ⊢;omega
  | .ptr ..,h=>by simp only [bnd] at h ⊢;omega
  | .mr _,h=>by simp only [bnd] at h ⊢;omega
  | .pd cs,h=>by simp only [bnd] at h ⊢;exact bndL.mono hN h
  | .box cs,h=>by simp only [bnd] at h ⊢;exact bndL.mono hN h
  | .fn _ cs,h=>by simp only [bnd] at h ⊢;exact bndL.mono hN h
theorem bndL.mono {N N':Nat} (hN:N ≤ N'):∀ {ds:List D},bndL N ds → bndL N' ds
  | [],h=>by simp [bndL]
  | d :: ds,h=>by simp only [bndL] at h ⊢;exact ⟨bnd.mono hN h.1,bndL.mono hN h.2⟩
end
mutual
theorem Rep.ren {N:Nat} (hμ:∀ b,b < N → μ' b = μ b):∀ {d:D} {v:Value} {fp:List Nat},bnd N d → Rep μ I w d v fp → Rep μ' I w d v fp
  | .any,v,fp,hb,h=>by simpa only [Rep] using h
  | .nil,v,fp,hb,h=>by simpa only [Rep] using h
  | .nilp,v,fp,hb,h=>by simpa only [Rep] using h
  | .ubool,v,fp,hb,h=>by simpa only [Rep] using h
  | .om _,v,fp,hb,h=>by simpa only [Rep] using h
  | .int _ _,v,fp,hb,h=>by simpa only [Rep] using h
  | .bool _,v,fp,hb,h=>by simpa only [Rep] using h
  | .str _,v,fp,hb,h=>by simpa only [Rep] using h
  | .list n cs,v,fp,hb,h=>by
    simp only [bnd] at hb;simp only [Rep] at h ⊢
    obtain ⟨h0,h1,A,c,vs,h2,h3,h4,h5⟩:=h
    exact ⟨h0,h1,A,c,vs,h2,h3,h4,RepL.ren hμ hb h5⟩
  | .fr sz n cs,v,fp,hb,h=>by
    simp only [bnd] at hb;simp only [Rep] at h ⊢
    obtain ⟨h0,h1,h⟩:=h
    refine ⟨h0,h1,?_⟩
    rcases h with h | ⟨b,c,cells,vs,f,h2,h3,h4,h5,h6,h7,rfl⟩
    · exact .inl h
    · exact .inr ⟨b,c,cells,vs,f,h2,h3,h4,h5,h6,RepL.ren hμ hb h7,rfl⟩
  | .st cs,v,fp,hb,h=>by
    simp only [bnd] at hb;simp only [Rep] at h ⊢
    obtain ⟨vs,h1,h2⟩:=h
    exact ⟨vs,h1,RepL.ren hμ hb h2⟩
  | .tup cs,v,fp,hb,h=>by
    simp only [bnd] at hb;simp only [Rep] at h ⊢
    obtain ⟨vs,h1,h2⟩:=h
    exact ⟨vs,h1,RepL.ren hμ hb h2⟩
  | .sl b _ _ _ _,v,fp,hb,h=>by simp only [bnd] at hb;simp only [Rep] at h ⊢;rw [hμ b hb.1];exact h
  | .ptr b _,v,fp,hb,h=>by simp only [bnd] at hb;simp only [Rep] at h ⊢;rw [hμ b hb.1];exact h
  | .mr b,v,fp,hb,h=>by simp only [bnd] at hb;simp only [Rep] at h ⊢;rw [hμ b hb.1];exact h
  | .pd cs,v,fp,hb,h=>by
    simp only [bnd] at hb;simp only [Rep] at h ⊢
    obtain ⟨h0,b,o,vs,h2,h3,h4,h5⟩:=h
    exact ⟨h0,b,o,vs,h2,h3,h4,RepL.ren hμ hb h5⟩
  | .box cs,v,fp,hb,h=>by
    simp only [bnd] at hb;simp only [Rep] at h ⊢
    obtain ⟨b,cells,f,h2,h3,h4,rfl⟩:=h
    exact ⟨b,cells,f,h2,h3,RepL.ren hμ hb h4,rfl⟩
  | .fn g caps,v,fp,hb,h=>by
    simp only [bnd] at hb;simp only [Rep] at h ⊢
    obtain ⟨vs,h1,h2⟩:=h
    exact ⟨vs,h1,RepL.ren hμ hb h2⟩
theorem RepL.ren {N:Nat} (hμ:∀ b,b < N → μ' b = μ b):∀ {ds:List D} {vs:List Value} {fp:List Nat},bndL N ds → RepL μ I w ds vs fp → RepL μ' I w ds vs fp
  | [],vs,fp,hb,h=>by simpa only [RepL] using h
  | d :: ds,vs,fp,hb,h=>by
    simp only [bndL] at hb
    simp only [RepL] at h ⊢
    obtain ⟨v,vs',f1,f2,h1,rfl,h3,h4⟩:=h
    exact ⟨v,vs',f1,f2,h1,rfl,Rep.ren hμ hb.1 h3,RepL.ren hμ hb.2 h4⟩
end

mutual
def closed:D → Bool
  | .list _ _=>false
  | .fr _ _ cs=>Xt cs
  | .st cs=>Xt cs
  | .tup cs=>Xt cs
  | .pd _=>false
  | .box cs=>Xt cs
  | .fn _ cs=>Xt cs
  | .sl ..=>false
  | .ptr ..=>false
  | .mr _=>false
  | _=>true
def Xt:List D → Bool
  | []=>true
  | d :: ds=>closed d && Xt ds
end
theorem zahl {ds:List D}:Xt ds = true ↔ ∀ d ∈ ds,closed d = true:=by
  induction ds with
  | nil=>simp [Xt]
  | cons d ds ih=>simp [Xt,ih]
mutual
theorem Rep.closed:∀ {d:D} {v:Value} {fp:List Nat},closed d = true → Rep μ I w d v fp → Rep μ' I' w d v fp
  | .any,v,fp,hc,h=>by simpa only [Rep] using h
  | .nil,v,fp,hc,h=>by simpa only [Rep] using h
  | .nilp,v,fp,hc,h=>by simpa only [Rep] using h
  | .ubool,v,fp,hc,h=>by simpa only [Rep] using h
  | .om _,v,fp,hc,h=>by simpa only [Rep] using h
  | .int _ _,v,fp,hc,h=>by simpa only [Rep] using h
  | .bool _,v,fp,hc,h=>by simpa only [Rep] using h
  | .str _,v,fp,hc,h=>by simpa only [Rep] using h
  | .list n cs,v,fp,hc,h=>by simp [Vm.closed] at hc
  | .fr sz n cs,v,fp,hc,h=>by
    simp only [Vm.closed] at hc;simp only [Rep] at h ⊢
    obtain ⟨h0,h1,h⟩:=h
    refine ⟨h0,h1,?_⟩
    rcases h with h | ⟨b,c,cells,vs,f,h2,h3,h4,h5,h6,h7,rfl⟩
    · exact .inl h
    · exact .inr ⟨b,c,cells,vs,f,h2,h3,h4,h5,h6,RepL.closed hc h7,rfl⟩
  | .st cs,v,fp,hc,h=>by
    simp only [Vm.closed] at hc;simp only [Rep] at h ⊢
    obtain ⟨vs,h1,h2⟩:=h
    exact ⟨vs,h1,RepL.closed hc h2⟩
  | .tup cs,v,fp,hc,h=>by
    simp only [Vm.closed] at hc;simp only [Rep] at h ⊢
    obtain ⟨vs,h1,h2⟩:=h
    exact ⟨vs,h1,RepL.closed hc h2⟩
  | .sl ..,v,fp,hc,h=>by simp [Vm.closed] at hc
  | .ptr ..,v,fp,hc,h=>by simp [Vm.closed] at hc
  | .mr _,v,fp,hc,h=>by simp [Vm.closed] at hc
  | .pd cs,v,fp,hc,h=>by simp [Vm.closed] at hc
  | .box cs,v,fp,hc,h=>by
    simp only [Vm.closed] at hc;simp only [Rep] at h ⊢
    obtain ⟨b,cells,f,h2,h3,h4,rfl⟩:=h
    exact ⟨b,cells,f,h2,h3,RepL.closed hc h4,rfl⟩
  | .fn g caps,v,fp,hc,h=>by
    simp only [Vm.closed] at hc;simp only [Rep] at h ⊢
    obtain ⟨vs,h1,h2⟩:=h
    exact ⟨vs,h1,RepL.closed hc h2⟩
theorem RepL.closed:∀ {ds:List D} {vs:List Value} {fp:List Nat},Xt ds = true → RepL μ I w ds vs fp → RepL μ' I' w ds vs fp
  | [],vs,fp,hc,h=>by simpa only [RepL] using h
  | d :: ds,vs,fp,hc,h=>by
    simp only [Xt,Bool.and_eq_true] at hc
    simp only [RepL] at h ⊢
    obtain ⟨v,vs',f1,f2,h1,rfl,h3,h4⟩:=h
    exact ⟨v,vs',f1,f2,h1,rfl,Rep.closed hc.1 h3,RepL.closed hc.2 h4⟩
end
mutual
def owns:D → Bool
  | .om _=>true
  | .fr ..=>true
  | .box ..=>true
  | .st cs=>ownsL cs
  | .tup cs=>ownsL cs
  | .fn _ cs=>ownsL cs
  | _=>false
def ownsL:List D → Bool
  | []=>false
  | d :: ds=>owns d || ownsL ds
end
mutual
theorem Rep.free:∀ {d:D} {v:Value} {fp:List Nat},owns d = false → Rep μ I w d v fp → fp = []
  | .any,v,fp,hc,h=>by simpa only [Rep] using h
  | .nil,v,fp,hc,h=>by simp only [Rep] at h;exact h.1
  | .nilp,v,fp,hc,h=>by simp only [Rep] at h;exact h.1
  | .ubool,v,fp,hc,h=>by simp only [Rep] at h;exact h.1
  | .int _ _,v,fp,hc,h=>by simp only [Rep] at h;exact h.1
  | .bool _,v,fp,hc,h=>by simp only [Rep] at h;exact h.1
  | .str _,v,fp,hc,h=>by simp only [Rep] at h;exact h.1
  | .list n cs,v,fp,hc,h=>by simp only [Rep] at h;exact h.1
  | .fr ..,v,fp,hc,h=>by simp [owns] at hc
  | .st cs,v,fp,hc,h=>by
    simp only [owns] at hc;simp only [Rep] at h
    obtain ⟨vs,h1,h2⟩:=h
    exact RepL.free hc h2
  | .tup cs,v,fp,hc,h=>by
    simp only [owns] at hc;simp only [Rep] at h
    obtain ⟨vs,h1,h2⟩:=h
    exact RepL.free hc h2
  | .sl ..,v,fp,hc,h=>by simp only [Rep] at h;exact h.1
  | .ptr ..,v,fp,hc,h=>by simp only [Rep] at h;exact h.1
  | .mr _,v,fp,hc,h=>by simp only [Rep] at h;exact h.1
  | .om _,v,fp,hc,h=>by simp [owns] at hc
  | .pd cs,v,fp,hc,h=>by simp only [Rep] at h;exact h.1
  | .box cs,v,fp,hc,h=>by simp [owns] at hc
  | .fn g caps,v,fp,hc,h=>by
    simp only [owns] at hc;simp only [Rep] at h
    obtain ⟨vs,h1,h2⟩:=h
    exact RepL.free hc h2
theorem RepL.free:∀ {ds:List D} {vs:List Value} {fp:List Nat},ownsL ds = false → RepL μ I w ds vs fp → fp = []
  | [],vs,fp,hc,h=>by simp only [RepL] at h;exact h.2
  | d :: ds,vs,fp,hc,h=>by
    simp only [ownsL,Bool.or_eq_false_iff] at hc
    simp only [RepL] at h
    obtain ⟨v,vs',f1,f2,h1,rfl,h3,h4⟩:=h
    rw [Rep.free hc.1 h3,RepL.free hc.2 h4];rfl
end

theorem RepL.length:∀ {ds:List D} {vs:List Value} {fp:List Nat},RepL μ I w ds vs fp → vs.length = ds.length
  | [],vs,fp,h=>by simp only [RepL] at h;simp [h.1]
  | d :: ds,vs,fp,h=>by
    simp only [RepL] at h
    obtain ⟨v,vs',f1,f2,rfl,rfl,h3,h4⟩:=h
    simp [RepL.length h4]
theorem RepL.append {ds':List D} {vs':List Value} {fp':List Nat} (h':RepL μ I w ds' vs' fp'):∀ {ds:List D} {vs:List Value} {fp:List Nat},RepL μ I w ds vs fp → RepL μ I w (ds ++ ds') (vs ++ vs') (fp ++ fp')
  | [],vs,fp,h=>by simp only [RepL] at h;simp [h.1,h.2,h']
  | d :: ds,vs,fp,h=>by
    simp only [RepL] at h
    obtain ⟨v,vs2,f1,f2,rfl,rfl,h3,h4⟩:=h
    simp only [List.cons_append,RepL]
    exact ⟨v,vs2 ++ vs',f1,f2 ++ fp',rfl,by simp,h3,RepL.append h' h4⟩
theorem RepL.split:∀ {ds ds':List D} {vs:List Value} {fp:List Nat},RepL μ I w (ds ++ ds') vs fp → ∃ v1 v2 f1 f2,vs = v1 ++ v2 ∧ fp = f1 ++ f2 ∧ RepL μ I w ds v1 f1 ∧ RepL μ I w ds' v2 f2
  | [],ds',vs,fp,h=>⟨[],vs,[],fp,rfl,rfl,by simp [RepL],h⟩
  | d :: ds,ds',vs,fp,h=>by
    simp only [List.cons_append,RepL] at h
    obtain ⟨v,vs2,f1,f2,rfl,rfl,h3,h4⟩:=h
    obtain ⟨v1,v2,g1,g2,rfl,rfl,h5,h6⟩:=RepL.split h4
    exact ⟨v :: v1,v2,f1 ++ g1,g2,rfl,by simp,by simp only [RepL];exact ⟨v,v1,f1,g1,rfl,rfl,h3,h5⟩,h6⟩
theorem RepL.get {ds:List D} {vs:List Value} (h:RepL μ I w ds vs []):∀ {i:Nat} {d:D},ds[i]? = some d → ∃ v,vs[i]? = some v ∧ Rep μ I w d v []:=by
  induction ds generalizing vs with
  | nil=>intro i d hd;simp at hd
  | cons e ds ih =>
    simp only [RepL] at h
    obtain ⟨v,vs',f1,f2,rfl,hf,h3,h4⟩:=h
    simp at hf
    rw [hf.1] at h3
    rw [hf.2] at h4
    intro i d hd
    cases i with
    | zero=>simp at hd;subst hd;exact ⟨v,rfl,h3⟩
    | succ i=>exact ih h4 (by simpa using hd)
theorem RepL.build {ds:List D} {vs:List Value} (hl:vs.length = ds.length) (h:∀ (i:Nat) (d:D) (v:Value),ds[i]? = some d → vs[i]? = some v → Rep μ I w d v []):RepL μ I w ds vs []:=by
  induction ds generalizing vs with
  | nil=>cases vs with
    | nil=>simp [RepL]
    | cons=>simp at hl
  | cons d ds ih=>cases vs with
    | nil=>simp at hl
    | cons v vs =>
      simp only [RepL]
      exact ⟨v,vs,[],[],rfl,rfl,h 0 d v rfl rfl,ih (by simpa using hl) fun i d' v' h1 h2=>h (i + 1) d' v' h1 h2⟩

theorem RepL.get' {ds:List D} {vs:List Value} (h:RepL μ I w ds vs []) {i:Nat} {d:D} {v:Value} (hd:ds[i]? = some d) (hv:vs[i]? = some v):Rep μ I w d v []:=by
  obtain ⟨v',h1,h2⟩:=h.get hd
  rw [hv] at h1
  cases h1
  exact h2
theorem RepL.drop {ds:List D} {vs:List Value} (h:RepL μ I w ds vs []) (k:Nat):RepL μ I w (ds.drop k) (vs.drop k) [] :=
  .build (by simp [h.length]) fun i d v h1 h2=>h.get' (i:=k + i) (by simpa using h1) (by simpa using h2)
theorem RepL.take {ds:List D} {vs:List Value} (h:RepL μ I w ds vs []) (k:Nat):RepL μ I w (ds.take k) (vs.take k) [] :=
  .build (by simp [h.length]) fun i d v h1 h2=>by
    rw [List.getElem?_take] at h1 h2
    split at h1
    · rename_i hk
      rw [if_pos hk] at h2
      exact h.get' h1 h2
    · cases h1

mutual
def dat:D → D
  | .nil=>.list 0 []
  | .fr _ n cs=>.list n (datL cs)
  | .st cs=>.st (datL cs)
  | .tup cs=>.tup (datL cs)
  | .box cs=>.pd (datL cs)
  | .fn f cs=>.fn f (datL cs)
  | .om _=>.any
  | d=>d
def datL:List D → List D
  | []=>[]
  | d :: ds=>dat d :: datL ds
end
theorem datL_map (ds:List D):datL ds = ds.map dat:=by
  induction ds with
  | nil=>rfl
  | cons d ds ih=>simp [datL,ih]
theorem Seg.of_whole {b:Nat} {cells:Array Value} {vs:List Value} (h:Whole w b cells) {o:Nat} (hv:∀ i v,vs[i]? = some v → cells[o + i]? = some v):Seg w b o vs:=by
  obtain ⟨t,h,h1⟩:=h
  refine ⟨cells,t,_,h,hv,fun v hm=>?_⟩
  obtain ⟨i,hi⟩:=List.getElem?_of_mem hm
  exact h1 _ _ (hv i v hi)
mutual
theorem Rep.dat (hI:∀ b,I b → I' b):∀ {d:D} {v:Value} {fp:List Nat},(∀ b ∈ fp,I' b) → Rep μ I w d v fp → Rep μ I' w (dat d) v []
  | .any,v,fp,hF,h=>by simp [Vm.dat,Rep]
  | .nil,v,fp,hF,h=>by
    simp only [Rep] at h
    obtain ⟨_,A,rfl⟩:=h
    simp [Vm.dat,Rep,RepL]
  | .nilp,v,fp,hF,h=>by simp only [Rep] at h;obtain ⟨_,rfl⟩:=h;simp [Vm.dat,Rep]
  | .ubool,v,fp,hF,h=>by simp only [Rep] at h;obtain ⟨_,b,rfl⟩:=h;simp [Vm.dat,Rep]
  | .int _ _,v,fp,hF,h=>by simp only [Rep] at h;obtain ⟨_,rfl⟩:=h;simp [Vm.dat,Rep]
  | .bool _,v,fp,hF,h=>by simp only [Rep] at h;obtain ⟨_,rfl⟩:=h;simp [Vm.dat,Rep]
  | .str _,v,fp,hF,h=>by simp only [Rep] at h;obtain ⟨_,rfl⟩:=h;simp [Vm.dat,Rep]
  | .list n cs,v,fp,hF,h=>by
    simp only [Vm.dat]
    have h0:fp = []:=by simp only [Rep] at h;exact h.1
    subst h0
    exact Rep.mono (fun b hb=>⟨hI b hb,rfl⟩) (by simp) h
  | .fr sz n cs,v,fp,hF,h=>by
    simp only [Vm.dat,Rep] at h ⊢
    obtain ⟨h0,h1,h⟩:=h
    rcases h with ⟨rfl,rfl,A,rfl⟩ | ⟨b,c,cells,vs,f,rfl,h3,h4,h5,h6,h7,rfl⟩
    · have:cs = []:=List.eq_nil_of_length_eq_zero (by simpa using h1)
      subst this
      exact ⟨trivial,h0,A,0,[],rfl,by simp,.inl rfl,by simp [RepL,datL]⟩
    · exact ⟨trivial,h0,_,c,vs,rfl,h3,.inr ⟨b,0,rfl,hF b (by simp),.of_whole h4 (by simpa using h6)⟩,RepL.dat hI (fun x hx=>hF x (by simp [hx])) h7⟩
  | .st cs,v,fp,hF,h=>by
    simp only [Vm.dat,Rep] at h ⊢
    obtain ⟨vs,h1,h2⟩:=h
    exact ⟨vs,h1,RepL.dat hI hF h2⟩
  | .tup cs,v,fp,hF,h=>by
    simp only [Vm.dat,Rep] at h ⊢
    obtain ⟨vs,h1,h2⟩:=h
    exact ⟨vs,h1,RepL.dat hI hF h2⟩
  | .sl ..,v,fp,hF,h=>by
    simp only [Vm.dat]
    have h0:fp = []:=by simp only [Rep] at h;exact h.1
    subst h0
    exact h
  | .ptr ..,v,fp,hF,h=>by simp only [Rep] at h;obtain ⟨_,rfl⟩:=h;simp [Vm.dat,Rep]
  | .mr _,v,fp,hF,h=>by simp only [Rep] at h;obtain ⟨_,rfl⟩:=h;simp [Vm.dat,Rep]
  | .om _,v,fp,hF,h=>by simp [Vm.dat,Rep]
  | .pd cs,v,fp,hF,h=>by
    simp only [Vm.dat]
    have h0:fp = []:=by simp only [Rep] at h;exact h.1
    subst h0
    exact Rep.mono (fun b hb=>⟨hI b hb,rfl⟩) (by simp) h
  | .box cs,v,fp,hF,h=>by
    simp only [Vm.dat,Rep] at h ⊢
    obtain ⟨b,cells,f,rfl,h3,h4,rfl⟩:=h
    exact ⟨trivial,b,0,cells.toList,rfl,hF b (by simp),.of_whole h3 (by simp),RepL.dat hI (fun x hx=>hF x (by simp [hx])) h4⟩
  | .fn g caps,v,fp,hF,h=>by
    simp only [Vm.dat,Rep] at h ⊢
    obtain ⟨vs,h1,h2⟩:=h
    exact ⟨vs,h1,RepL.dat hI hF h2⟩
theorem RepL.dat (hI:∀ b,I b → I' b):∀ {ds:List D} {vs:List Value} {fp:List Nat},(∀ b ∈ fp,I' b) → RepL μ I w ds vs fp → RepL μ I' w (datL ds) vs []
  | [],vs,fp,hF,h=>by simp only [RepL] at h;simp [datL,RepL,h.1]
  | d :: ds,vs,fp,hF,h=>by
    simp only [RepL] at h
    obtain ⟨v,vs',f1,f2,rfl,rfl,h3,h4⟩:=h
    simp only [datL,RepL]
    exact ⟨v,vs',[],[],rfl,rfl,Rep.dat hI (fun b hb=>hF b (by simp [hb])) h3,RepL.dat hI (fun b hb=>hF b (by simp [hb])) h4⟩
end
end

inductive Root where
  | slot (t:Nat)
  | cell (b i:Nat)
  | blk (b:Nat)
  | bag
  deriving DecidableEq

def upd {α:Type} (f:Nat → α) (a:Nat) (x:α):Nat → α:=fun b=>if b = a then x else f b
theorem Qe {α:Type} (f:Nat → α) (a:Nat) (x:α):upd f a x a = x:=by simp [upd]
theorem Qd {α:Type} {f:Nat → α} {a b:Nat} {x:α} (h:b ≠ a):upd f a x b = f b:=by simp [upd,h]

theorem Jk {α:Type} {f:Nat → α} {a:Nat} {x:α} (h:f a = x):upd f a x = f:=by
  funext b
  by_cases e:b = a
  · subst e;rw [Qe,h]
  · rw [Qd e]
structure St where
  T:Nat → D
  H:Nat → Option (List D)
structure Base where
  w0:World
  K:Nat → Prop
  J:Nat → Prop
  μ0:Nat → Nat
  N0:Nat

structure Frm (w0:World) (K:Nat → Prop) (w:World):Prop where
  os:w.os = w0.os
  tape:w.tape = w0.tape
  output:w.output = w0.output
  size:w0.heap.size ≤ w.heap.size
  same:∀ b,b < w0.heap.size → ¬ K b → w.heap[b]? = w0.heap[b]?
theorem Frm.weaken {w0 w:World} {K K':Nat → Prop} (h:Frm w0 K w) (k:∀ x,K x → K' x):Frm w0 K' w:=⟨h.os,h.tape,h.output,h.size,fun b hb hk=>h.same b hb fun hx=>hk (k b hx)⟩
theorem Frm.refl (w:World) (K:Nat → Prop):Frm w K w:=⟨rfl,rfl,rfl,Nat.le_refl _,fun _ _ _=>rfl⟩

def Im (B:Base) (w:World) (fp:Root → List Nat) (x:Nat):Prop:=x < w.heap.size ∧ ((B.J x ∨ B.K x) ∨ B.w0.heap.size ≤ x) ∧ ∀ r,x ∉ fp r

def isTup:D → Bool
  | .tup _=>true
  | _=>false
def NoMap (b:Nat) (cs:List D):Prop:=b % 2 = 0 ∨ ∃ (j:Nat) (d:D),cs[j]? = some d ∧ isTup d = false
theorem MapIs.no {entries:Array MapEntry} {cs:List D} (h:MapIs entries cs) {b:Nat} (hb:b % 2 = 1) (k:NoMap b cs):False:=by
  rcases k with k | ⟨j,d,k1,k2⟩
  · omega
  · obtain ⟨es,rfl,_⟩:=h
    cases j with
    | zero=>simp [mp] at k1;subst k1;simp [isTup] at k2
    | succ j =>
      simp only [mp,List.getElem?_cons_succ,List.getElem?_map] at k1
      cases he:es[j]? with
      | none=>rw [he] at k1;cases k1
      | some e=>rw [he] at k1;cases k1;simp [isTup,cM] at k2
def Chunk (μ:Nat → Nat) (I:Nat → Prop) (w:World) (fp:Root → List Nat) (b:Nat) (cs:List D):Prop :=
  (cs = [] ∧ fp (.blk b) = [] ∧ ∀ i,fp (.cell b i) = []) ∨
  (∃ cells,Whole w (μ b) cells ∧ cells.size = cs.length ∧ fp (.blk b) = [μ b] ∧ (∀ (i:Nat) (d:D),cs[i]? = some d → ∃ v,cells[i]? = some v ∧ Rep μ I w d v (fp (.cell b i))) ∧ ∀ i,cs.length ≤ i → fp (.cell b i) = []) ∨
  (b % 2 = 1 ∧ ∃ entries clock,w.heap[μ b]? = some (.map entries clock) ∧ MapIs entries cs ∧ fp (.blk b) = [μ b] ∧ ∀ i,fp (.cell b i) = [])

structure R (B:Base) (n:Nat) (S:St) (ds:List D) (vs:List Value) (a:Act) (w:World) (μ:Nat → Nat) (fp:Root → List Nat) (N:Nat):Prop where
  len:a.tmps.size = n
  dfs:a.defers = []
  frm:Frm B.w0 B.K w
  jk:∀ x,B.J x → x < B.w0.heap.size ∧ ¬ B.K x
  own:∀ r x,x ∈ fp r → (B.K x ∨ B.w0.heap.size ≤ x) ∧ x < w.heap.size
  nod:∀ r,(fp r).Nodup
  dis:∀ r r' x,x ∈ fp r → x ∈ fp r' → r = r'
  tm:∀ t,Rep μ (Im B w fp) w (S.T t) (a.tmps.getD t undef) (fp (.slot t))
  bg:RepL μ (Im B w fp) w ds vs (fp .bag)
  hp:∀ b cs,S.H b = some cs → Chunk μ (Im B w fp) w fp b cs
  hn:∀ b,S.H b = none → fp (.blk b) = [] ∧ ∀ i,fp (.cell b i) = []
  bT:∀ t,bnd N (S.T t)
  bB:bndL N ds
  bH:∀ b cs,S.H b = some cs → b < N ∧ bndL N cs
  rn:B.N0 ≤ N ∧ ∀ b,b < B.N0 → μ b = B.μ0 b

section
variable {B:Base} {n:Nat} {S:St} {ds:List D} {vs:List Value} {a:Act} {w:World} {μ:Nat → Nat} {fp fp':Root → List Nat} {N:Nat}

theorem Im.sub (h:∀ r x,x ∈ fp' r → ∃ r',x ∈ fp r') {x:Nat} (k:Im B w fp x):Im B w fp' x :=
  ⟨k.1,k.2.1,fun r hx=>by obtain ⟨r',h'⟩:=h r x hx;exact k.2.2 r' h'⟩
theorem Rep.sub {d:D} {v:Value} {f:List Nat} (h:∀ r x,x ∈ fp' r → ∃ r',x ∈ fp r') (k:Rep μ (Im B w fp) w d v f):Rep μ (Im B w fp') w d v f :=
  Rep.mono (fun _ hb=>⟨hb.sub h,rfl⟩) (fun _ _=>rfl) k
theorem RepL.sub {d:List D} {v:List Value} {f:List Nat} (h:∀ r x,x ∈ fp' r → ∃ r',x ∈ fp r') (k:RepL μ (Im B w fp) w d v f):RepL μ (Im B w fp') w d v f :=
  RepL.mono (fun _ hb=>⟨hb.sub h,rfl⟩) (fun _ _=>rfl) k
theorem Chunk.sub {b:Nat} {cs:List D} (h:∀ r x,x ∈ fp' r → ∃ r',x ∈ fp r') (h1:fp' (.blk b) = fp (.blk b)) (h2:∀ i,fp' (.cell b i) = fp (.cell b i)) (k:Chunk μ (Im B w fp) w fp b cs):Chunk μ (Im B w fp') w fp' b cs:=by
  rcases k with ⟨k1,k2,k3⟩ | ⟨cells,k1,k2,k3,k4,k5⟩ | ⟨k1,e,ck,k2,k3,k4,k5⟩
  · exact .inl ⟨k1,h1.trans k2,fun i=>(h2 i).trans (k3 i)⟩
  · refine .inr (.inl ⟨cells,k1,k2,h1.trans k3,fun i d hd=>?_,fun i hi=>(h2 i).trans (k5 i hi)⟩)
    obtain ⟨v,hv,hr⟩:=k4 i d hd
    rw [h2 i]
    exact ⟨v,hv,hr.sub h⟩
  · exact .inr (.inr ⟨k1,e,ck,k2,k3,h1.trans k4,fun i=>(h2 i).trans (k5 i)⟩)

def fset (fp:Root → List Nat) (r:Root) (l:List Nat):Root → List Nat:=fun r'=>if r' = r then l else fp r'
theorem Xi (r:Root) (l:List Nat):fset fp r l r = l:=by simp [fset]
theorem Qw {r r':Root} {l:List Nat} (h:r' ≠ r):fset fp r l r' = fp r':=by simp [fset,h]

structure Moves (fp fp':Root → List Nat):Prop where
  sub:∀ r x,x ∈ fp' r → ∃ r',x ∈ fp r'
  nod:∀ r,(fp' r).Nodup
  dis:∀ r r' x,x ∈ fp' r → x ∈ fp' r' → r = r'
theorem Moves.drop (h1:∀ r,(fp r).Nodup) (h2:∀ r r' x,x ∈ fp r → x ∈ fp r' → r = r') (h:∀ r,fp' r = fp r ∨ fp' r = []):Moves fp fp' where
  sub r x hx:=by
    rcases h r with e | e
    · rw [e] at hx;exact ⟨r,hx⟩
    · rw [e] at hx;cases hx
  nod r:=by
    rcases h r with e | e
    · rw [e];exact h1 r
    · rw [e];exact .nil
  dis r r' x hx hy:=by
    rcases h r with e | e
    · rcases h r' with e' | e'
      · rw [e] at hx;rw [e'] at hy;exact h2 r r' x hx hy
      · rw [e'] at hy;cases hy
    · rw [e] at hx;cases hx
theorem Moves.two (h1:∀ r,(fp r).Nodup) (h2:∀ r r' x,x ∈ fp r → x ∈ fp r' → r = r') {p q:Root} {l m:List Nat} (hpq:p ≠ q)
    (hs:∀ x,x ∈ l ∨ x ∈ m → x ∈ fp p ∨ x ∈ fp q) (hl:l.Nodup) (hm:m.Nodup) (hd:∀ x,x ∈ l → x ∉ m):Moves fp (fset (fset fp p l) q m) where
  sub r x hx:=by
    by_cases e1:r = q
    · subst e1;rw [Xi] at hx
      rcases hs x (.inr hx) with h | h <;> exact ⟨_,h⟩
    · rw [Qw e1] at hx
      by_cases e2:r = p
      · subst e2;rw [Xi] at hx
        rcases hs x (.inl hx) with h | h <;> exact ⟨_,h⟩
      · rw [Qw e2] at hx;exact ⟨_,hx⟩
  nod r:=by
    by_cases e1:r = q
    · subst e1;rw [Xi];exact hm
    · rw [Qw e1]
      by_cases e2:r = p
      · subst e2;rw [Xi];exact hl
      · rw [Qw e2];exact h1 r
  dis r r' x hx hy:=by
    have key:∀ r,x ∈ fset (fset fp p l) q m r → (r = q ∧ x ∈ m) ∨ (r = p ∧ x ∈ l) ∨ (r ≠ p ∧ r ≠ q ∧ x ∈ fp r):=by
      intro r hx
      by_cases e1:r = q
      · subst e1;rw [Xi] at hx;exact .inl ⟨rfl,hx⟩
      · rw [Qw e1] at hx
        by_cases e2:r = p
        · subst e2;rw [Xi] at hx;exact .inr (.inl ⟨rfl,hx⟩)
        · rw [Qw e2] at hx;exact .inr (.inr ⟨e2,e1,hx⟩)
    have none:∀ r,r ≠ p → r ≠ q → x ∈ fp r → x ∈ l ∨ x ∈ m → False:=by
      intro r e1 e2 hx h
      rcases hs x h with h | h
      · exact e1 (h2 _ _ _ hx h)
      · exact e2 (h2 _ _ _ hx h)
    rcases key r hx with ⟨e,h⟩ | ⟨e,h⟩ | ⟨e,e',h⟩ <;> rcases key r' hy with ⟨k,g⟩ | ⟨k,g⟩ | ⟨k,k',g⟩
    · rw [e,k]
    · exact (hd x g h).elim
    · exact (none _ k k' g (.inr h)).elim
    · exact (hd x h g).elim
    · rw [e,k]
    · exact (none _ k k' g (.inl h)).elim
    · exact (none _ e e' h (.inr g)).elim
    · exact (none _ e e' h (.inl g)).elim
    · exact h2 _ _ _ h g

theorem R.own' (h:R B n S ds vs a w μ fp N) (m:Moves fp fp'):∀ r x,x ∈ fp' r → (B.K x ∨ B.w0.heap.size ≤ x) ∧ x < w.heap.size:=fun r x hx=>by
  obtain ⟨r',h'⟩:=m.sub r x hx
  exact h.own r' x h'

def grab (T:Nat → D) (t:Nat):Nat → D:=if owns (T t) then upd T t .any else T
theorem grab_no {T:Nat → D} {t:Nat} (h:owns (T t) = false):grab T t = T:=by simp [grab,h]
theorem Zh {l m:List Nat} (h1:l.Nodup) (h2:m.Nodup) (h3:∀ x,x ∈ l → x ∉ m):(l ++ m).Nodup:=by
  rw [List.nodup_append]
  exact ⟨h1,h2,fun a ha b hb e=>h3 a ha (e ▸ hb)⟩
theorem R.grab (h:R B n S ds vs a w μ fp N) (t:Nat) :
    ∃ fp',R B n ⟨grab S.T t,S.H⟩ (ds ++ [S.T t]) (vs ++ [a.tmps.getD t undef]) a w μ fp' N:=by
  by_cases ho:owns (S.T t) = true
  · have hm:=Moves.two (fp:=fp) (p:=.slot t) (q:=.bag) (l:=[]) (m:=fp .bag ++ fp (.slot t)) h.nod h.dis (by simp) (by simp [or_comm]) .nil
      (Zh (h.nod _) (h.nod _) fun x hx hy=>by have:=h.dis _ _ x hx hy;cases this) (by simp)
    refine ⟨fset (fset fp (.slot t) []) .bag (fp .bag ++ fp (.slot t)),h.len,h.dfs,h.frm,h.jk,h.own' hm,hm.nod,hm.dis,?_,?_,?_,?_,?_,?_,h.bH,h.rn⟩
    · intro t'
      rw [Qw (by simp)]
      by_cases e:t' = t
      · subst e
        simp [Vm.grab,ho,Qe,Rep,Xi]
      · rw [Qw (by simp [e])]
        simp only [Vm.grab,ho,if_true]
        rw [Qd e]
        exact (h.tm t').sub hm.sub
    · rw [Xi]
      exact RepL.append (by simp only [RepL];exact ⟨_,[],_,[],rfl,by simp,(h.tm t).sub hm.sub,rfl,rfl⟩) (h.bg.sub hm.sub)
    · intro b cs hc
      exact (h.hp b cs hc).sub hm.sub (by simp [fset]) (by simp [fset])
    · intro b hb
      have:=h.hn b hb
      simp [fset,this]
    · intro t'
      simp only [Vm.grab,ho,if_true,upd]
      split
      · simp [bnd]
      · exact h.bT t'
    · rw [Qi]
      intro d hd
      rcases List.mem_append.1 hd with hd | hd
      · exact Qi.1 h.bB d hd
      · simp at hd;subst hd;exact h.bT t
  · have ho:owns (S.T t) = false:=by simpa using ho
    refine ⟨fp,h.len,h.dfs,h.frm,h.jk,h.own,h.nod,h.dis,?_,?_,h.hp,h.hn,?_,?_,h.bH,h.rn⟩
    · simp only [grab_no ho];exact h.tm
    · have e:fp (.slot t) = []:=(h.tm t).free ho
      have:=RepL.append (ds:=ds) (by simp only [RepL];exact ⟨_,[],_,[],rfl,by simp,h.tm t,rfl,rfl⟩:RepL μ (Im B w fp) w [S.T t] [a.tmps.getD t undef] (fp (.slot t))) h.bg
      rwa [e,List.append_nil] at this
    · simp only [grab_no ho];exact h.bT
    · rw [Qi]
      intro d hd
      rcases List.mem_append.1 hd with hd | hd
      · exact Qi.1 h.bB d hd
      · simp at hd;subst hd;exact h.bT t
theorem R.join (h:R B n S ds vs a w μ fp N) {d:D} {v:Value} (hr:Rep μ (Im B w fp) w d v []) (hb:bnd N d):R B n S (ds ++ [d]) (vs ++ [v]) a w μ fp N :=
  { h with
    bg:=by
      have:=RepL.append (ds:=ds) (by simp only [RepL];exact ⟨_,[],_,[],rfl,by simp,hr,rfl,rfl⟩:RepL μ (Im B w fp) w [d] [v] []) h.bg
      rwa [List.append_nil] at this
    bB:=by
      rw [Qi]
      intro e he
      rcases List.mem_append.1 he with he | he
      · exact Qi.1 h.bB e he
      · simp at he;subst he;exact hb }
theorem R.put {d:D} {v:Value} (h:R B n S (d :: ds) (v :: vs) a w μ fp N) {t:Nat} (ht:t < n):∃ fp',R B n ⟨upd S.T t d,S.H⟩ ds vs (a.put (some t) v) w μ fp' N:=by
  have hbg:=h.bg
  simp only [RepL] at hbg
  obtain ⟨v',vs',f1,f2,he,hf,h1,h2⟩:=hbg
  cases he
  have hnod:(f1 ++ f2).Nodup:=hf ▸ h.nod .bag
  have hm:=Moves.two (fp:=fp) (p:=.slot t) (q:=.bag) (l:=f1) (m:=f2) h.nod h.dis (by simp) (fun x hx=>.inr (by rw [hf];simpa using hx)) (List.nodup_append.1 hnod).1 (List.nodup_append.1 hnod).2.1
    fun x hx hy=>(List.nodup_append.1 hnod).2.2 x hx x hy rfl
  refine ⟨fset (fset fp (.slot t) f1) .bag f2,by simp [Act.put,h.len],h.dfs,h.frm,h.jk,h.own' hm,hm.nod,hm.dis,?_,?_,?_,?_,?_,?_,h.bH,h.rn⟩
  · intro t'
    rw [Qw (by simp)]
    by_cases e:t' = t
    · subst e
      rw [Xi]
      simp only [Qe,Act.put]
      rw [Array.getD_eq_getD_getElem?,Array.getElem?_setIfInBounds]
      simp only [if_true]
      rw [if_pos (by rw [h.len];exact ht)]
      exact h1.sub hm.sub
    · rw [Qw (by simp [e])]
      simp only [Act.put]
      rw [Qd e,Array.getD_eq_getD_getElem?,Array.getElem?_setIfInBounds,if_neg (fun h=>e h.symm),← Array.getD_eq_getD_getElem?]
      exact (h.tm t').sub hm.sub
  · rw [Xi];exact h2.sub hm.sub
  · intro b cs hc
    exact (h.hp b cs hc).sub hm.sub (by simp [fset]) (by simp [fset])
  · intro b hb
    have:=h.hn b hb
    simp [fset,this]
  · intro t'
    simp only [upd]
    split
    · have:=h.bB;simp only [bndL] at this;exact this.1
    · exact h.bT t'
  · have:=h.bB;simp only [bndL] at this;exact this.2
theorem R.unbag {d:D} {v:Value} (h:R B n S (d :: ds) (v :: vs) a w μ fp N):∃ fp',R B n S ds vs a w μ fp' N:=by
  have hbg:=h.bg
  simp only [RepL] at hbg
  obtain ⟨v',vs',f1,f2,he,hf,h1,h2⟩:=hbg
  cases he
  have hnod:(f1 ++ f2).Nodup:=hf ▸ h.nod .bag
  have hm:Moves fp (fset fp .bag f2):=by
    have:=Moves.two (fp:=fp) (p:=.blk 0) (q:=.bag) (l:=fp (.blk 0)) (m:=f2) h.nod h.dis (by simp) (fun x hx=>by rw [hf];rcases hx with hx | hx;exact .inl hx;exact .inr (by simp [hx])) (h.nod _) (List.nodup_append.1 hnod).2.1
      fun x hx hy=>by have:=h.dis (.blk 0) .bag x hx (by rw [hf];simp [hy]);cases this
    have e:fset (fset fp (.blk 0) (fp (.blk 0))) .bag f2 = fset fp .bag f2:=by funext r;simp only [fset];split <;> simp_all
    rwa [e] at this
  refine ⟨_,h.len,h.dfs,h.frm,h.jk,h.own' hm,hm.nod,hm.dis,?_,?_,?_,?_,h.bT,?_,h.bH,h.rn⟩
  · intro t';rw [Qw (by simp)];exact (h.tm t').sub hm.sub
  · rw [Xi];exact h2.sub hm.sub
  · intro b cs hc
    exact (h.hp b cs hc).sub hm.sub (by simp [fset]) (by simp [fset])
  · intro b hb
    have:=h.hn b hb
    simp [fset,this]
  · have:=h.bB;simp only [bndL] at this;exact this.2
theorem R.putback {d:D} {t:Nat} (h:R B n S (d :: ds) (a.tmps.getD t undef :: vs) a w μ fp N):∃ fp',R B n ⟨upd S.T t d,S.H⟩ ds vs a w μ fp' N:=by
  have hbg:=h.bg
  simp only [RepL] at hbg
  obtain ⟨v',vs',f1,f2,he,hf,h1,h2⟩:=hbg
  simp only [List.cons.injEq] at he
  obtain ⟨he,he'⟩:=he
  subst he'
  rw [← he] at h1
  clear he
  have hnod:(f1 ++ f2).Nodup:=hf ▸ h.nod .bag
  have hm:=Moves.two (fp:=fp) (p:=.slot t) (q:=.bag) (l:=f1) (m:=f2) h.nod h.dis (by simp) (fun x hx=>.inr (by rw [hf];simpa using hx)) (List.nodup_append.1 hnod).1 (List.nodup_append.1 hnod).2.1
    fun x hx hy=>(List.nodup_append.1 hnod).2.2 x hx x hy rfl
  refine ⟨fset (fset fp (.slot t) f1) .bag f2,h.len,h.dfs,h.frm,h.jk,h.own' hm,hm.nod,hm.dis,?_,?_,?_,?_,?_,?_,h.bH,h.rn⟩
  · intro t'
    rw [Qw (by simp)]
    by_cases e:t' = t
    · subst e
      rw [Xi]
      simp only [Qe]
      exact h1.sub hm.sub
    · rw [Qw (by simp [e])]
      dsimp only
      rw [Qd e]
      exact (h.tm t').sub hm.sub
  · rw [Xi];exact h2.sub hm.sub
  · intro b cs hc
    exact (h.hp b cs hc).sub hm.sub (by simp [fset]) (by simp [fset])
  · intro b hb
    have:=h.hn b hb
    simp [fset,this]
  · intro t'
    simp only [upd]
    split
    · have:=h.bB;simp only [bndL] at this;exact this.1
    · exact h.bT t'
  · have:=h.bB;simp only [bndL] at this;exact this.2

theorem Frm.drewN {w0 w:World} {K:Nat → Prop} (h:Frm w0 K w) (k:Nat):Frm w0 K { w with drawn:=k }:=⟨h.1,h.2,h.3,h.4,h.5⟩
theorem R.drewN (h:R B n S ds vs a w μ fp N) (k:Nat):R B n S ds vs a { w with drawn:=k } μ fp N:=by
  refine ⟨h.len,h.dfs,h.frm.drewN k,h.jk,h.own,h.nod,h.dis,fun t=>?_,?_,fun b cs hc=>?_,h.hn,h.bT,h.bB,h.bH,h.rn⟩
  · exact Rep.mono (w:=w) (w':={ w with drawn:=k }) (I:=Im B w fp) (I':=Im B { w with drawn:=k } fp) (fun b hb=>⟨hb,rfl⟩) (fun _ _=>rfl) (h.tm t)
  · exact RepL.mono (w:=w) (w':={ w with drawn:=k }) (I:=Im B w fp) (I':=Im B { w with drawn:=k } fp) (fun b hb=>⟨hb,rfl⟩) (fun _ _=>rfl) h.bg
  · rcases h.hp b cs hc with k | ⟨cells,k1,k2,k3,k4,k5⟩ | k
    · exact .inl k
    · refine .inr (.inl ⟨cells,k1,k2,k3,fun i d hd=>?_,k5⟩)
      obtain ⟨v,hv,hr⟩:=k4 i d hd
      exact ⟨v,hv,Rep.mono (w:=w) (w':={ w with drawn:=k }) (I:=Im B w fp) (I':=Im B { w with drawn:=k } fp) (fun b hb=>⟨hb,rfl⟩) (fun _ _=>rfl) hr⟩
    · exact .inr (.inr k)

theorem R.resF (h:R B n S ds vs a w μ fp N) {d:D} {v:Value} {f:List Nat} (hr:Rep μ (Im B w fp) w d v f) (hf:f.Nodup) (hs:∀ x,x ∈ f → x ∈ fp .bag) (hb:bnd N d):∃ fp',R B n S [d] [v] a w μ fp' N:=by
  have hm:Moves fp (fset fp .bag f):=by
    have:=Moves.two (fp:=fp) (p:=.blk 0) (q:=.bag) (l:=fp (.blk 0)) (m:=f) h.nod h.dis (by simp) (fun x hx=>by rcases hx with hx | hx;exact .inl hx;exact .inr (hs x hx)) (h.nod _) hf
      fun x hx hy=>by have:=h.dis (.blk 0) .bag x hx (hs x hy);cases this
    have e:fset (fset fp (.blk 0) (fp (.blk 0))) .bag f = fset fp .bag f:=by funext r;simp only [fset];split <;> simp_all
    rwa [e] at this
  refine ⟨_,h.len,h.dfs,h.frm,h.jk,h.own' hm,hm.nod,hm.dis,?_,?_,?_,?_,h.bT,?_,h.bH,h.rn⟩
  · intro t';rw [Qw (by simp)];exact (h.tm t').sub hm.sub
  · rw [Xi];simp only [RepL];exact ⟨v,[],f,[],rfl,by simp,hr.sub hm.sub,rfl,rfl⟩
  · intro b cs hc
    exact (h.hp b cs hc).sub hm.sub (by simp [fset]) (by simp [fset])
  · intro b hb
    have:=h.hn b hb
    simp [fset,this]
  · simp only [bndL];exact ⟨hb,trivial⟩
theorem R.rebagF (h:R B n S ds vs a w μ fp N) {ds':List D} {vs':List Value} {f:List Nat} (hr:RepL μ (Im B w fp) w ds' vs' f) (hf:f.Nodup) (hs:∀ x,x ∈ f → x ∈ fp .bag) (hb:bndL N ds'):∃ fp',R B n S ds' vs' a w μ fp' N:=by
  have hm:Moves fp (fset fp .bag f):=by
    have:=Moves.two (fp:=fp) (p:=.blk 0) (q:=.bag) (l:=fp (.blk 0)) (m:=f) h.nod h.dis (by simp) (fun x hx=>by rcases hx with hx | hx;exact .inl hx;exact .inr (hs x hx)) (h.nod _) hf
      fun x hx hy=>by have:=h.dis (.blk 0) .bag x hx (hs x hy);cases this
    have e:fset (fset fp (.blk 0) (fp (.blk 0))) .bag f = fset fp .bag f:=by funext r;simp only [fset];split <;> simp_all
    rwa [e] at this
  refine ⟨_,h.len,h.dfs,h.frm,h.jk,h.own' hm,hm.nod,hm.dis,?_,?_,?_,?_,h.bT,hb,h.bH,h.rn⟩
  · intro t';rw [Qw (by simp)];exact (h.tm t').sub hm.sub
  · rw [Xi];exact hr.sub hm.sub
  · intro b cs hc
    exact (h.hp b cs hc).sub hm.sub (by simp [fset]) (by simp [fset])
  · intro b hb
    have:=h.hn b hb
    simp [fset,this]
theorem R.res0 (h:R B n S ds vs a w μ fp N) {d:D} {v:Value} (hr:Rep μ (Im B w fp) w d v []) (hb:bnd N d):∃ fp',R B n S [d] [v] a w μ fp' N :=
  h.resF hr .nil (by simp) hb

theorem R.resNew (h:R B n S ds vs a w μ fp N) {w':World} (hw:Frm w (fun x=>x ∈ fp .bag) w') {d:D} {v:Value} {f:List Nat} (hr:Rep μ (fun x=>Im B w fp x ∨ (w.heap.size ≤ x ∧ x < w'.heap.size ∧ x ∉ f)) w' d v f) (hf:f.Nodup)
    (hs:∀ x,x ∈ f → x ∈ fp .bag ∨ (w.heap.size ≤ x ∧ x < w'.heap.size)) (hb:bnd N d):∃ fp',R B n S [d] [v] a w' μ fp' N:=by
  have hsame:∀ x,x < w.heap.size → x ∉ fp .bag → w'.heap[x]? = w.heap[x]?:=fun x hx hb=>hw.same x hx hb
  have hother:∀ r x,r ≠ .bag → x ∈ fp r → w'.heap[x]? = w.heap[x]?:=fun r x hr hx=>hsame x (h.own r x hx).2 fun hb=>hr (h.dis r .bag x hx hb)
  have key:∀ r x,x ∈ fset fp .bag f r → (r = .bag ∧ x ∈ f) ∨ (r ≠ .bag ∧ x ∈ fp r):=by
    intro r x hx
    by_cases e:r = .bag
    · subst e;rw [Xi] at hx;exact .inl ⟨rfl,hx⟩
    · rw [Qw e] at hx;exact .inr ⟨e,hx⟩
  have hsz:=h.frm.size
  have im:∀ x,Im B w fp x → Im B w' (fset fp .bag f) x ∧ w'.heap[x]? = w.heap[x]?:=fun x hx=>by
    refine ⟨⟨Nat.lt_of_lt_of_le hx.1 hw.size,hx.2.1,fun r hr=>?_⟩,hsame x hx.1 (hx.2.2 _)⟩
    rcases key r x hr with ⟨rfl,k⟩ | ⟨_,k⟩
    · rcases hs x k with k | k
      · exact hx.2.2 _ k
      · have:=hx.1;omega
    · exact hx.2.2 _ k
  refine ⟨fset fp .bag f,h.len,h.dfs,⟨hw.os.trans h.frm.os,hw.tape.trans h.frm.tape,hw.output.trans h.frm.output,Nat.le_trans hsz hw.size,fun b hb hk=>(hsame b (by omega) fun hx=>by have:=(h.own _ b hx).1;rcases this with k | k;exact hk k;omega).trans (h.frm.same b hb hk)⟩,h.jk,?_,?_,?_,?_,?_,?_,?_,h.bT,?_,h.bH,h.rn⟩
  · intro r x hx
    rcases key r x hx with ⟨rfl,k⟩ | ⟨_,k⟩
    · rcases hs x k with k | k
      · have:=h.own _ x k;exact ⟨this.1,Nat.lt_of_lt_of_le this.2 hw.size⟩
      · exact ⟨.inr (by omega),k.2⟩
    · have:=h.own _ x k;exact ⟨this.1,Nat.lt_of_lt_of_le this.2 hw.size⟩
  · intro r
    by_cases e:r = .bag
    · subst e;rw [Xi];exact hf
    · rw [Qw e];exact h.nod r
  · intro r r' x hx hy
    rcases key r x hx with ⟨e,k⟩ | ⟨e,k⟩ <;> rcases key r' x hy with ⟨e',k'⟩ | ⟨e',k'⟩
    · rw [e,e']
    · rcases hs x k with k | k
      · have:=h.dis _ _ x k k';exact absurd this.symm e'
      · have:=(h.own _ x k').2;omega
    · rcases hs x k' with k' | k'
      · have:=h.dis _ _ x k k';exact absurd this e
      · have:=(h.own _ x k).2;omega
    · exact h.dis _ _ x k k'
  · intro t
    rw [Qw (by simp)]
    exact Rep.mono im (fun b hb=>hother (.slot t) b (by simp) hb) (h.tm t)
  · rw [Xi]
    simp only [RepL]
    refine ⟨v,[],f,[],rfl,by simp,Rep.mono (fun x hx=>?_) (fun _ _=>rfl) hr,rfl,rfl⟩
    rcases hx with hx | hx
    · exact ⟨(im x hx).1,rfl⟩
    · refine ⟨⟨hx.2.1,.inr (by omega),fun r hr=>?_⟩,rfl⟩
      rcases key r x hr with ⟨rfl,k⟩ | ⟨_,k⟩
      · exact hx.2.2 k
      · have:=(h.own _ x k).2;omega
  · intro b cs hc
    rcases h.hp b cs hc with ⟨k1,k2,k3⟩ | ⟨cells,k1,k2,k3,k4,k5⟩ | ⟨k1,e,ck,k2,k3,k4,k5⟩
    · exact .inl ⟨k1,by simpa [fset] using k2,by simpa [fset] using k3⟩
    · refine .inr (.inl ⟨cells,k1.mono (hother (.blk b) _ (by simp) (by rw [k3];simp)),k2,by simpa [fset] using k3,fun i d hd=>?_,by simpa [fset] using k5⟩)
      obtain ⟨v,hv,hr⟩:=k4 i d hd
      exact ⟨v,hv,by rw [Qw (by simp)];exact Rep.mono im (fun x hx=>hother (.cell b i) x (by simp) hx) hr⟩
    · exact .inr (.inr ⟨k1,e,ck,(hother (.blk b) _ (by simp) (by rw [k4];simp)).trans k2,k3,by simpa [fset] using k4,by simpa [fset] using k5⟩)
  · intro b hb
    have:=h.hn b hb
    simp [fset,this]
  · simp only [bndL];exact ⟨hb,trivial⟩
theorem zafz {fp:Root → List Nat} (b:Nat) (h1:∀ r,(fp r).Nodup) (h2:∀ r r' x,x ∈ fp r → x ∈ fp r' → r = r'):∀ k,((List.range k).flatMap fun i=>fp (.cell b i)).Nodup
  | 0=>by simp
  | k + 1=>by
    rw [List.range_succ,List.flatMap_append]
    refine Zh (zafz b h1 h2 k) (by simpa using h1 (.cell b k)) fun x hx hy=>?_
    simp only [List.mem_flatMap,List.mem_range] at hx
    obtain ⟨i,hi,hx⟩:=hx
    have:=h2 _ _ x hx (by simpa using hy:x ∈ fp (.cell b k))
    simp only [Root.cell.injEq] at this
    omega
theorem zagd {μ:Nat → Nat} {I:Nat → Prop} {w:World} {fp:Root → List Nat} (b:Nat) {cs:List D} {us:List Value} (hl:us.length = cs.length) (h:∀ (i:Nat) (d:D),cs[i]? = some d → ∃ v,us[i]? = some v ∧ Rep μ I w d v (fp (.cell b i))):∀ k,k ≤ cs.length → RepL μ I w (cs.take k) (us.take k) ((List.range k).flatMap fun i=>fp (.cell b i))
  | 0,_=>by simp [RepL]
  | k + 1,hk=>by
    obtain ⟨v,hv,hr⟩:=h k _ (List.getElem?_eq_getElem (by omega))
    have ih:=zagd b hl h k (by omega)
    rw [List.range_succ,List.flatMap_append,List.take_succ_eq_append_getElem (by omega)]
    have hv':us[k]'(by omega) = v:=by
      have:=List.getElem?_eq_getElem (l:=us) (i:=k) (by omega)
      rw [this] at hv
      simpa using hv
    have e:us.take (k + 1) = us.take k ++ [v]:=by rw [List.take_succ_eq_append_getElem (by omega),hv']
    rw [e]
    refine RepL.append ?_ ih
    simp only [RepL]
    exact ⟨v,[],fp (.cell b k),[],rfl,by simp,hr,rfl,rfl⟩
theorem R.unname {b sz m c:Nat} {all:List D} {v:Value} (h:R B n S (.sl b sz 0 m c :: ds) (v :: vs) a w μ fp N) (hH:S.H b = some all) (hsz:0 < sz) (hm':m * sz ≤ all.length) (hc:c * sz ≤ all.length) :
    ∃ fp',R B n ⟨S.T,upd S.H b none⟩ (.fr sz m (all.take (m * sz)) :: ds) (v :: vs) a w μ fp' N ∧ (∀ r x,x ∈ fp' r → ∃ r',x ∈ fp r'):=by
  have hbg:=h.bg
  simp only [RepL] at hbg
  obtain ⟨v',vs',f1,f2,he,hf,h1,h2⟩:=hbg
  cases he
  simp only [Rep] at h1
  obtain ⟨rfl,hmc,hmax,⟨A,hA⟩,hv⟩:=h1
  rw [List.nil_append] at hf
  have bH':∀ b' cs,upd S.H b none b' = some cs → S.H b' = some cs ∧ b' ≠ b:=by
    intro b' cs hb'
    by_cases e:b' = b
    · subst e;rw [Qe] at hb';cases hb'
    · rw [Qd e] at hb';exact ⟨hb',e⟩
  have hbnd:bndL N (.fr sz m (all.take (m * sz)) :: ds):=by
    have:=h.bB
    simp only [bndL,bnd] at this ⊢
    refine ⟨?_,this.2⟩
    have hb2:=(h.bH b all hH).2
    rw [Qi] at *
    exact fun d hd=>hb2 d (List.mem_of_mem_take hd)
  rcases hv with rfl | hv
  · have hm0:m = 0:=by omega
    subst hm0
    have hm:Moves fp (fun r=>match r with
      | .blk b'=>if b' = b then [] else fp (.blk b')
      | .cell b' i=>if b' = b then [] else fp (.cell b' i)
      | r=>fp r):=.drop h.nod h.dis fun r=>by
        cases r <;> dsimp only
        · exact .inl rfl
        · split <;> simp
        · split <;> simp
        · exact .inl rfl
    refine ⟨_,⟨h.len,h.dfs,h.frm,h.jk,h.own' hm,hm.nod,hm.dis,fun t=>(h.tm t).sub hm.sub,?_,?_,?_,h.bT,hbnd,fun b' cs hb'=>h.bH b' cs (bH' b' cs hb').1,h.rn⟩,hm.sub⟩
    · simp only [RepL]
      refine ⟨v,vs,[],f2,rfl,by simpa using hf,?_,h2.sub hm.sub⟩
      simp only [Rep]
      exact ⟨hmax,by simp,.inl ⟨trivial,trivial,A,hA⟩⟩
    · intro b' cs hb'
      obtain ⟨q1,q2⟩:=bH' b' cs hb'
      exact (h.hp b' cs q1).sub hm.sub (by simp [q2]) (by simp [q2])
    · intro b' hb'
      by_cases e:b' = b
      · subst e;simp
      · dsimp only at hb';rw [Qd e] at hb';have:=h.hn b' hb';simp [e,this]
  rcases h.hp b all hH with ⟨rfl,k2,k3⟩ | ⟨cells,k1,k2,k3,k4,k5⟩ | ⟨kodd,_⟩
  rotate_left 2
  · have hpar:=h.bB
    simp only [bndL,bnd] at hpar
    omega
  · -- nothing there

    have:c = 0:=by rcases Nat.mul_eq_zero.1 (Nat.le_zero.1 (by simpa using hc)) with h | h <;> omega
    subst this
    have hm0:m = 0:=by omega
    subst hm0
    refine ⟨fp,⟨h.len,h.dfs,h.frm,h.jk,h.own,h.nod,h.dis,h.tm,?_,?_,?_,h.bT,hbnd,fun b' cs hb'=>h.bH b' cs (bH' b' cs hb').1,h.rn⟩,fun r x hx=>⟨r,hx⟩⟩
    · simp only [RepL]
      refine ⟨v,vs,[],f2,rfl,by simpa using hf,?_,h2⟩
      simp only [Rep]
      exact ⟨hmax,by simp,.inl ⟨trivial,trivial,A,hA⟩⟩
    · exact fun b' cs hb'=>h.hp b' cs (bH' b' cs hb').1
    · intro b' hb'
      by_cases e:b' = b
      · subst e;exact ⟨k2,k3⟩
      · dsimp only at hb';rw [Qd e] at hb';exact h.hn b' hb'
  · let l := μ b :: ((List.range (m * sz)).flatMap fun i=>fp (.cell b i))
    have hfl:=zafz b h.nod h.dis (m * sz)
    have hmem:∀ x,x ∈ l → x ∈ fp (.blk b) ∨ ∃ i,x ∈ fp (.cell b i):=by
      intro x hx
      rcases List.mem_cons.1 hx with rfl | hx
      · exact .inl (by rw [k3];simp)
      · simp only [List.mem_flatMap] at hx
        obtain ⟨i,_,hx⟩:=hx
        exact .inr ⟨i,hx⟩
    have hlnod:l.Nodup:=by
      rw [List.nodup_cons]
      refine ⟨fun hx=>?_,hfl⟩
      simp only [List.mem_flatMap] at hx
      obtain ⟨i,_,hx⟩:=hx
      have:=h.dis (.cell b i) (.blk b) _ hx (by rw [k3];simp)
      cases this
    let fp':Root → List Nat:=fun r=>match r with
      | .bag=>l ++ f2
      | .blk b'=>if b' = b then [] else fp (.blk b')
      | .cell b' i=>if b' = b then [] else fp (.cell b' i)
      | .slot t=>fp (.slot t)
    have hbag:fp .bag = f2:=hf
    have hkey:∀ r x,x ∈ fp' r → r ≠ .bag → x ∈ fp r ∧ (∀ i,r ≠ .cell b i) ∧ r ≠ .blk b:=by
      intro r x hx hr
      cases r with
      | slot t=>exact ⟨hx,by simp,by simp⟩
      | bag=>exact (hr rfl).elim
      | blk b' =>
        simp only [fp'] at hx
        split at hx
        · cases hx
        · rename_i e;exact ⟨hx,by simp,by simpa using e⟩
      | cell b' i =>
        simp only [fp'] at hx
        split at hx
        · cases hx
        · rename_i e;exact ⟨hx,fun j hj=>by simp at hj;exact e hj.1,by simp⟩
    have hbagx:∀ x,x ∈ fp' .bag → x ∈ f2 ∨ x ∈ l:=by intro x hx;simp only [fp',List.mem_append] at hx;exact hx.symm
    have hm : Moves fp fp':=by
      refine ⟨fun r x hx=>?_,fun r=>?_,fun r r' x hx hy=>?_⟩
      · by_cases e:r = .bag
        · subst e
          rcases hbagx x hx with hx | hx
          · exact ⟨.bag,by rw [hbag];exact hx⟩
          · rcases hmem x hx with hx | ⟨i,hx⟩
            · exact ⟨_,hx⟩
            · exact ⟨_,hx⟩
        · exact ⟨r,(hkey r x hx e).1⟩
      · by_cases e:r = .bag
        · subst e
          refine Zh hlnod (by rw [← hbag];exact h.nod _) fun x hx hy=>?_
          rw [← hbag] at hy
          rcases hmem x hx with hx | ⟨i,hx⟩
          · have:=h.dis _ _ x hx hy;cases this
          · have:=h.dis _ _ x hx hy;cases this
        · cases r with
          | slot t=>exact h.nod _
          | bag=>exact (e rfl).elim
          | blk b'=>simp only [fp'];split;exact .nil;exact h.nod _
          | cell b' i=>simp only [fp'];split;exact .nil;exact h.nod _
      · by_cases e:r = .bag <;> by_cases e':r' = .bag
        · rw [e,e']
        · subst e
          obtain ⟨q1,q2,q3⟩:=hkey r' x hy e'
          rcases hbagx x hx with hx | hx
          · rw [← hbag] at hx;exact absurd (h.dis _ _ x hx q1).symm e'
          · rcases hmem x hx with hx | ⟨i,hx⟩
            · exact absurd (h.dis _ _ x q1 hx) q3
            · exact absurd (h.dis _ _ x q1 hx) (q2 i)
        · subst e'
          obtain ⟨q1,q2,q3⟩:=hkey r x hx e
          rcases hbagx x hy with hy | hy
          · rw [← hbag] at hy;exact absurd (h.dis _ _ x hy q1).symm e
          · rcases hmem x hy with hy | ⟨i,hy⟩
            · exact absurd (h.dis _ _ x q1 hy) q3
            · exact absurd (h.dis _ _ x q1 hy) (q2 i)
        · exact h.dis _ _ x (hkey r x hx e).1 (hkey r' x hy e').1
    refine ⟨fp',⟨h.len,h.dfs,h.frm,h.jk,h.own' hm,hm.nod,hm.dis,fun t=>(h.tm t).sub hm.sub,?_,?_,?_,h.bT,hbnd,fun b' cs hb'=>h.bH b' cs (bH' b' cs hb').1,h.rn⟩,hm.sub⟩
    · simp only [RepL]
      refine ⟨v,vs,l,f2,rfl,rfl,?_,h2.sub hm.sub⟩
      have hcf:=zagd (μ:=μ) (I:=Im B w fp) (w:=w) b (us:=cells.toList) (by simpa using k2) (fun i d hd=>by obtain ⟨u,hu,hr⟩:=k4 i d hd;exact ⟨u,by simpa using hu,hr⟩) (m * sz) hm'
      simp only [Rep]
      refine ⟨hmax,by rw [List.length_take];omega,.inr ⟨μ b,c,cells,cells.toList.take (m * sz),_,hv,hmc,k1,by omega,?_,hcf.sub hm.sub,rfl⟩⟩
      intro i u hu
      rw [List.getElem?_take] at hu
      split at hu
      · simpa using hu
      · cases hu
    · intro b' cs hb'
      obtain ⟨q1,q2⟩:=bH' b' cs hb'
      exact (h.hp b' cs q1).sub hm.sub (by simp [fp',q2]) (by simp [fp',q2])
    · intro b' hb'
      by_cases e:b' = b
      · subst e;simp [fp']
      · dsimp only at hb';rw [Qd e] at hb';have:=h.hn b' hb';simp [fp',e,this]
theorem R.rebag' (h:R B n S ds vs a w μ fp N) {ds':List D} {vs':List Value} (hr:RepL μ (Im B w fp) w ds' vs' (fp .bag)) (hb:bndL N ds'):R B n S ds' vs' a w μ fp N:={ h with bg:=hr,bB:=hb }
structure Sub (S S':St):Prop where
  T:∀ t,S'.T t = .any ∨ S'.T t = S.T t
  H:∀ b cs,S'.H b = some cs → S.H b = some cs
theorem Sub.refl (S:St):Sub S S:=⟨fun _=>.inr rfl,fun _ _ h=>h⟩
theorem Sub.trans {S1 S2 S3:St} (h:Sub S1 S2) (k:Sub S2 S3):Sub S1 S3 :=
  ⟨fun t=>by rcases k.T t with e | e;exact .inl e;rw [e];exact h.T t,fun b cs hc=>h.H b cs (k.H b cs hc)⟩
open Classical in
theorem R.less {S':St} (h:R B n S ds vs a w μ fp N) (k:Sub S S'):∃ fp',R B n S' ds vs a w μ fp' N:=by
  let fp':Root → List Nat:=fun r=>match r with
    | .slot t=>if S'.T t = S.T t then fp (.slot t) else []
    | .cell b i=>if (S'.H b).isSome then fp (.cell b i) else []
    | .blk b=>if (S'.H b).isSome then fp (.blk b) else []
    | .bag=>fp .bag
  have hm:Moves fp fp':=.drop h.nod h.dis fun r=>by
    cases r <;> simp only [fp']
    · split <;> simp
    · split <;> simp
    · split <;> simp
    · simp
  refine ⟨fp',h.len,h.dfs,h.frm,h.jk,h.own' hm,hm.nod,hm.dis,?_,h.bg.sub hm.sub,?_,?_,?_,h.bB,fun b cs hc=>h.bH b cs (k.H b cs hc),h.rn⟩
  · intro t
    by_cases e:S'.T t = S.T t
    · simp only [fp',e,if_true]
      exact (h.tm t).sub hm.sub
    · rcases k.T t with e' | e'
      · simp only [fp',e,if_false]
        rw [e']
        simp [Rep]
      · exact (e e').elim
  · intro b cs hc
    exact (h.hp b cs (k.H b cs hc)).sub hm.sub (by simp [fp',hc]) (by simp [fp',hc])
  · intro b hb
    simp [fp',hb]
  · intro t
    rcases k.T t with e | e
    · rw [e];simp [bnd]
    · rw [e];exact h.bT t
end

def leafD:Value → D
  | .int k n=>.int k n
  | .bool b=>.bool b
  | .string s=>.str s.data.toList
  | .slice _ 0 0=>.nil
  | .pointer none=>.nilp
  | _=>.any
def cst:Value → D
  | .agg cs=>.st (cs.toList.map leafD)
  | v=>leafD v
theorem Rep.leafD (μ:Nat → Nat) (I:Nat → Prop) (w:World) (v:Value):Rep μ I w (leafD v) v []:=by
  unfold Vm.leafD
  split <;> simp [Rep,mkS]
theorem RepL.leafD (μ:Nat → Nat) (I:Nat → Prop) (w:World) (vs:List Value):RepL μ I w (vs.map Vm.leafD) vs []:=by
  induction vs with
  | nil=>simp [RepL]
  | cons v vs ih=>simp only [List.map_cons,RepL];exact ⟨v,vs,[],[],rfl,rfl,Rep.leafD μ I w v,ih⟩
theorem Rep.cst (μ:Nat → Nat) (I:Nat → Prop) (w:World) (v:Value):Rep μ I w (cst v) v []:=by
  unfold Vm.cst
  split
  · simp only [Rep];exact ⟨_,by simp,RepL.leafD μ I w _⟩
  · exact Rep.leafD μ I w _
theorem bnd_leafD (N:Nat) (v:Value):bnd N (leafD v):=by unfold leafD;split <;> simp [bnd]
theorem zabo (N:Nat) (vs:List Value):bndL N (vs.map leafD):=by
  induction vs with
  | nil=>simp [bndL]
  | cons v vs ih=>simp only [List.map_cons,bndL];exact ⟨bnd_leafD N v,ih⟩
theorem bnd_cst (N:Nat) (v:Value):bnd N (cst v):=by
  unfold cst
  split
  · simp only [bnd];exact zabo N _
  · exact bnd_leafD N _
def leaf:D → Bool
  | .st _=>false
  | .tup _=>false
  | .any=>false
  | _=>true
theorem leaf_one {μ:Nat → Nat} {I:Nat → Prop} {w:World} {d:D} {v:Value} {f:List Nat} (hl:leaf d = true) (h:Rep μ I w d v f):v.oneCell' = true:=by
  cases d <;> simp only [leaf,Bool.false_eq_true] at hl <;> simp only [Rep] at h
  · obtain ⟨_,A,rfl⟩:=h;rfl
  · obtain ⟨_,rfl⟩:=h;rfl
  · obtain ⟨_,rfl⟩:=h;rfl
  · obtain ⟨_,rfl⟩:=h;rfl
  · obtain ⟨_,_,A,c,vs,rfl,_⟩:=h;rfl
  · obtain ⟨_,_,⟨_,_,A,rfl⟩ | ⟨_,_,_,_,_,rfl,_⟩⟩:=h <;> rfl
  · obtain ⟨_,_,_,⟨A,rfl⟩,_⟩:=h;rfl
  · obtain ⟨_,rfl⟩:=h;rfl
  · obtain ⟨_,_,_,_,rfl,_⟩:=h;rfl
  · obtain ⟨_,_,_,rfl,_⟩:=h;rfl
  · obtain ⟨_,rfl,_⟩:=h;rfl
  · obtain ⟨_,rfl⟩:=h;rfl
  · obtain ⟨_,b,rfl⟩:=h;rfl
  · obtain ⟨_,rfl⟩:=h;rfl
  · obtain ⟨_,_,_,rfl,_⟩:=h;rfl

structure Ti where
  size:Nat
  bytes:Nat
  agg:Bool
  zero:List D
  desc:TypeDesc
def aggDesc:TypeDesc → Bool
  | .struct _=>true
  | .array _ _=>true
  | _=>false
def τ (P:Program) (t:TypeId):Option Ti :=
  match P.info? t,P.underlying t with
  | some i,some d=>some ⟨i.size,i.bytes,aggDesc d,(match i.zero with | some z=>z.cells.toList.map leafD | none=>[]),d⟩
  | _,_=>none
section
variable {P:Program} {t:TypeId} {ti:Ti} {w:World}
theorem τ_spec (h:τ P t = some ti):∃ i,P.info? t = some i ∧ i.size = ti.size ∧ i.bytes = ti.bytes ∧ P.underlying t = some ti.desc ∧ aggDesc ti.desc = ti.agg ∧ ti.zero = (match i.zero with | some z=>z.cells.toList.map leafD | none=>[]):=by
  unfold τ at h
  split at h
  · rename_i i d hi hd
    cases h
    exact ⟨i,hi,rfl,rfl,hd,rfl,rfl⟩
  · cases h
theorem Xw (h:τ P t = some ti) (w:World):(sizeOf t).run P w = .ok ti.size w:=by
  obtain ⟨i,hi,h1,_⟩:=τ_spec h
  simp [sizeOf,typeInfo,hi,h1]
theorem Zi (h:τ P t = some ti) (w:World):(underlying t).run P w = .ok ti.desc w:=by
  obtain ⟨i,hi,_,_,h1,_⟩:=τ_spec h
  exact run_underlying h1 w
theorem run_agg (h:τ P t = some ti) (w:World):(isAgg t).run P w = .ok ti.agg w:=by
  obtain ⟨i,hi,_,_,h1,h2,_⟩:=τ_spec h
  rw [← h2]
  simp only [isAgg,Sem.run_bind,run_underlying h1,Result.andThen_ok]
  cases ti.desc <;> rfl
end

structure Any:Type 1 where
  α:Type
  x:α
instance:Nonempty Any:=⟨⟨Unit,()⟩⟩
open Classical in
abbrev Hp:=Nat → Option (List D)
structure Res where
  pre:Prop
  val:D
  H:Hp
  back:Option D:=none
def bad (H:Hp):Res:=⟨False,.any,H,none⟩

variable (P:Program)

def Sound (o:Oper) (vals:List D) (H:Hp) (r:Res):Prop :=
  ∀ (B:Base) (n:Nat) (T:Nat → D) (a:Act) (w:World) (μ:Nat → Nat) (fp:Root → List Nat) (N:Nat) (avals:List Value),R B n ⟨T,H⟩ vals avals a w μ fp N → o.op.operands.toList.map a.eval = avals → r.pre →
    ∀ (next:Act → World → Prop) (Q:Exit → Act → World → Prop),(∀ v w' μ' fp' N',R B n ⟨T,r.H⟩ (r.val :: r.back.toList) (v :: r.back.toList.map fun _=>avals.headD undef) a w' μ' fp' N' → next (a.put o.dst v) w') → o.wp P a w next Q
theorem Sound.bad (o:Oper) (vals:List D) (H:Hp):Sound P o vals H (bad H):=fun B n T a w μ fp N avals _ _ h=>h.elim
def SoundC (o:Oper) (vals:List D) (H:Hp) (r:Any → Res):Prop :=
  ∀ (c0:Any) (B:Base) (n:Nat) (T:Nat → D) (a:Act) (w:World) (μ:Nat → Nat) (fp:Root → List Nat) (N:Nat) (avals:List Value),R B n ⟨T,H⟩ vals avals a w μ fp N → o.op.operands.toList.map a.eval = avals → (r c0).pre →
    ∀ (next:Act → World → Prop) (Q:Exit → Act → World → Prop),(∀ c v w' μ' fp' N',R B n ⟨T,(r c).H⟩ ((r c).val :: (r c).back.toList) (v :: (r c).back.toList.map fun _=>avals.headD undef) a w' μ' fp' N' → next (a.put o.dst v) w') → o.wp P a w next Q
variable {P}
theorem Sound.c {o:Oper} {vals:List D} {H:Hp} {r:Res} (h:Sound P o vals H r):SoundC P o vals H (fun _=>r):=fun c0 B n T a w μ fp N avals hR ha hp next Q hk=>h B n T a w μ fp N avals hR ha hp next Q (hk c0)
theorem Sound.of {o:Oper} {vals:List D} {H:Hp} {r:Res} (hb:r.back = none) (hH:r.H = H)
    (h:∀ (μ:Nat → Nat) (I:Nat → Prop) (w:World) (a:Act) (f:List Nat) (N:Nat) (avals:List Value),RepL μ I w vals avals f → o.op.operands.toList.map a.eval = avals → f.Nodup → bndL N vals → r.pre → ∃ v f',(execOp a.eval o).run P w = .ok (.value v) w ∧ Rep μ I w r.val v f' ∧ f'.Nodup ∧ (∀ x ∈ f',x ∈ f) ∧ bnd N r.val):Sound P o vals H r:=by
  intro B n T a w μ fp N avals hR hav hpre next Q hk
  obtain ⟨v,f',hrun,hrep,hnd,hsub,hbn⟩:=h μ _ w a _ N avals hR.bg hav (hR.nod .bag) hR.bB hpre
  obtain ⟨fp',hR'⟩:=hR.resF hrep hnd hsub hbn
  unfold Oper.wp
  rw [hrun]
  exact hk v w μ fp' N (by rw [hb,hH];exact hR')

section
variable {o:Oper} {vals:List D} {H:Hp}
theorem Xr {o:Oper} {x:Operand} (h:o.op.operands.toList = [x]) {a:Act} {avals:List Value} (hav:o.op.operands.toList.map a.eval = avals):avals = [a.eval x]:=by rw [← hav,h];rfl
theorem RepL.one {μ:Nat → Nat} {I:Nat → Prop} {w:World} {d:D} {v:Value} {f:List Nat} (h:RepL μ I w [d] [v] f):Rep μ I w d v f:=by
  simp only [RepL] at h
  obtain ⟨v',vs',f1,f2,h1,rfl,h3,h4,rfl⟩:=h
  cases h1
  simpa using h3
theorem RepL.two {μ:Nat → Nat} {I:Nat → Prop} {w:World} {d e:D} {v u:Value} {f:List Nat} (h:RepL μ I w [d,e] [v,u] f):∃ f1 f2,f = f1 ++ f2 ∧ Rep μ I w d v f1 ∧ Rep μ I w e u f2:=by
  simp only [RepL] at h
  obtain ⟨v',vs',f1,f2,h1,rfl,h3,v2,vs2,g1,g2,h4,rfl,h5,rfl,rfl⟩:=h
  cases h1;cases h4
  exact ⟨f1,g1,by simp,h3,h5⟩
theorem RepL.three {μ:Nat → Nat} {I:Nat → Prop} {w:World} {d e g:D} {v u x:Value} {f:List Nat} (h:RepL μ I w [d,e,g] [v,u,x] f):∃ f1 f2 f3,f = f1 ++ f2 ++ f3 ∧ Rep μ I w d v f1 ∧ Rep μ I w e u f2 ∧ Rep μ I w g x f3:=by
  simp only [RepL] at h
  obtain ⟨v',vs',f1,f2,h1,rfl,h3,v2,vs2,g1,g2,h4,rfl,h5,v3,vs3,k1,k2,h6,rfl,h7,rfl,rfl⟩:=h
  cases h1;cases h4;cases h6
  exact ⟨f1,g1,k1,by simp,h3,h5,h7⟩

theorem sound_move (x:Operand) (ho:o.op = .move x ∨ o.op = .assign x) (d:D):Sound P o [d] H ⟨True,d,H,none⟩:=by
  refine .of rfl rfl fun μ I w a f N avals hr hav hn hb _=>?_
  have hx:o.op.operands.toList = [x]:=by rcases ho with e | e <;> rw [e] <;> rfl
  obtain rfl:=Xr hx hav
  simp only [bndL] at hb
  exact ⟨a.eval x,f,by rcases ho with e | e <;> simp [execOp,e] <;> rfl,hr.one,hn,fun _ h=>h,hb.1⟩

def pickD (c:Bool):D → D → D
  | .bool x,.bool y=>.bool (if c then x else y)
  | x,y=>if c then x else y
theorem sound_pick (c x y:Operand) (ho:o.op = .pick c x y) (b:Bool) (d e:D):Sound P o [.bool b,d,e] H ⟨True,pickD b d e,H,none⟩:=by
  refine .of rfl rfl fun μ I w a f N avals hr hav hn hb _=>?_
  have hx:o.op.operands.toList = [c,x,y]:=by rw [ho];rfl
  rw [hx] at hav
  subst hav
  obtain ⟨f1,f2,f3,rfl,h1,h2,h3⟩:=RepL.three hr
  simp only [Rep] at h1
  obtain ⟨rfl,h1⟩:=h1
  simp only [bndL] at hb
  have hp:pickD b d e = if b then d else e:=by unfold pickD;split <;> split <;> rfl
  refine ⟨if b then a.eval x else a.eval y,if b then f2 else f3,?_,?_,?_,?_,?_⟩
  · simp only [execOp,ho,h1]
    cases b <;> rfl
  · show Rep μ I w (pickD b d e) _ _
    rw [hp]
    cases b
    · exact h3
    · exact h2
  · cases b
    · exact (List.nodup_append.1 hn).2.1
    · exact (List.nodup_append.1 (List.nodup_append.1 hn).1).2.1
  · intro z hz
    cases b
    · exact List.mem_append_right _ hz
    · exact List.mem_append_left _ (List.mem_append_right _ hz)
  · show bnd N (pickD b d e)
    rw [hp]
    cases b
    · exact hb.2.2.1
    · exact hb.2.1

def bitsD (op:BinOp) (k:IntKind) (x y:Int):Int :=
  let a:=BitVec.ofInt k.bits x
  let b:=BitVec.ofInt k.bits y
  match op with
  | .and=>k.wrap (a &&& b).toNat
  | .or=>k.wrap (a ||| b).toNat
  | .xor=>k.wrap (a ^^^ b).toNat
  | _=>k.wrap (a &&& ~~~b).toNat
def intOp (op:BinOp) (k k':IntKind) (x y:Int):Prop × D :=
  match op with
  | .shl=>(0 ≤ y,.int k (k.wrap (x * 2 ^ (min y.toNat k.bits))))
  | .shr=>(0 ≤ y,.int k (x.fdiv (2 ^ (min y.toNat k.bits))))
  | .add=>(k = k',.int k (k.wrap (x + y)))
  | .sub=>(k = k',.int k (k.wrap (x - y)))
  | .mul=>(k = k',.int k (k.wrap (x * y)))
  | .quo=>(k = k' ∧ y ≠ 0,.int k (k.wrap (x.tdiv y)))
  | .rem=>(k = k' ∧ y ≠ 0,.int k (x.tmod y))
  | .eql=>(k = k',.bool (decide (x = y)))
  | .neq=>(k = k',.bool (!decide (x = y)))
  | .lss=>(k = k',.bool (decide (x < y)))
  | .leq=>(k = k',.bool (decide (x ≤ y)))
  | .gtr=>(k = k',.bool (decide (y < x)))
  | .geq=>(k = k',.bool (decide (y ≤ x)))
  | op=>(k = k',.int k (bitsD op k x y))
theorem run_intOp (op:BinOp) (t t':TypeId) (x y:Operand) (k k':IntKind) (p q:Int) (ho:o.op = .binOp op t x y t') (h:(intOp op k k' p q).1) (ρ:Operand → Value) (hx:ρ x = .int k p) (hy:ρ y = .int k' q) (w:World) :
    ∃ v,(execOp ρ o).run P w = .ok (.value v) w ∧ ∀ μ I,Rep μ I w (intOp op k k' p q).2 v []:=by
  have e:(execOp ρ o).run P w = ((do eqGuard op t x y (.int k p) (.int k' q);binOp op t (.int k p) (.int k' q):Sem Value).run P w).andThen fun v w=>.ok (.value v) w:=by
    simp only [execOp,ho,hx,hy,Sem.run_bind]
    rfl
  rw [e]
  cases op <;> simp only [intOp] at h ⊢
  case add=>subst h;exact ⟨.int k (k.wrap (p + q)),by simp [eqGuard,binOp,Op.intArith],fun μ I=>by simp [Rep]⟩
  case sub=>subst h;exact ⟨.int k (k.wrap (p - q)),by simp [eqGuard,binOp,Op.intArith],fun μ I=>by simp [Rep]⟩
  case mul=>subst h;exact ⟨.int k (k.wrap (p * q)),by simp [eqGuard,binOp,Op.intArith],fun μ I=>by simp [Rep]⟩
  case quo=>obtain ⟨rfl,h⟩:=h;exact ⟨.int k (k.wrap (p.tdiv q)),by simp [eqGuard,binOp,Op.intDiv,h],fun μ I=>by simp [Rep]⟩
  case rem=>obtain ⟨rfl,h⟩:=h;exact ⟨.int k (p.tmod q),by simp [eqGuard,binOp,Op.intDiv,h],fun μ I=>by simp [Rep]⟩
  case and=>subst h;exact ⟨.int k (bitsD .and k p q),by simp [eqGuard,binOp,Op.intBits,bitsD],fun μ I=>by simp [Rep]⟩
  case or=>subst h;exact ⟨.int k (bitsD .or k p q),by simp [eqGuard,binOp,Op.intBits,bitsD],fun μ I=>by simp [Rep]⟩
  case xor=>subst h;exact ⟨.int k (bitsD .xor k p q),by simp [eqGuard,binOp,Op.intBits,bitsD],fun μ I=>by simp [Rep]⟩
  case andNot=>subst h;exact ⟨.int k (bitsD .andNot k p q),by simp [eqGuard,binOp,Op.intBits,bitsD],fun μ I=>by simp [Rep]⟩
  case eql=>subst h;exact ⟨.bool (decide (p = q)),by simp [eqGuard,binOp,Op.intCmp];rw [Bool.eq_iff_iff];simp,fun μ I=>by simp [Rep]⟩
  case neq=>subst h;exact ⟨.bool (!decide (p = q)),by simp [eqGuard,binOp,Op.intCmp,bne];rw [Bool.eq_iff_iff];simp,fun μ I=>by simp [Rep]⟩
  case lss=>subst h;exact ⟨.bool (decide (p < q)),by simp [eqGuard,binOp,Op.intCmp],fun μ I=>by simp [Rep]⟩
  case leq=>subst h;exact ⟨.bool (decide (p ≤ q)),by simp [eqGuard,binOp,Op.intCmp],fun μ I=>by simp [Rep]⟩
  case gtr=>subst h;exact ⟨.bool (decide (q < p)),by simp [eqGuard,binOp,Op.intCmp],fun μ I=>by simp [Rep]⟩
  case geq=>subst h;exact ⟨.bool (decide (q ≤ p)),by simp [eqGuard,binOp,Op.intCmp],fun μ I=>by simp [Rep]⟩
  case shl => have h':¬ q < 0:=by omega
              exact ⟨.int k (k.wrap (p * 2 ^ (min q.toNat k.bits))),by simp [eqGuard,binOp,Op.shift,h'],fun μ I=>by simp [Rep]⟩
  case shr => have h':¬ q < 0:=by omega
              exact ⟨.int k (p.fdiv (2 ^ (min q.toNat k.bits))),by simp [eqGuard,binOp,Op.shift,h'],fun μ I=>by simp [Rep]⟩
theorem zafs (s:List UInt8):(mkS s).size = s.length:=by simp [mkS,ByteArray.size]
theorem zabk (s:List UInt8):(mkS s).toList = s:=by simp [mkS,ByteArray.toList_eq]
theorem mkS_append (s t:List UInt8):mkS s ++ mkS t = mkS (s ++ t):=by
  apply ByteArray.ext
  simp [mkS,ByteArray.data_append]
def strOp (op:BinOp) (s t:List UInt8):Prop × D :=
  match op with
  | .add=>(s.length + t.length ≤ 9223372036854775807,.str (s ++ t))
  | .eql=>(True,.bool (decide (s = t)))
  | .neq=>(True,.bool (!decide (s = t)))
  | .lss=>(True,.bool (Op.bytesLess s t))
  | .leq=>(True,.bool (Op.bytesLess s t || decide (s = t)))
  | .gtr=>(True,.bool (!(Op.bytesLess s t || decide (s = t))))
  | .geq=>(True,.bool (!Op.bytesLess s t))
  | _=>(False,.any)
theorem run_strOp (op:BinOp) (t t':TypeId) (x y:Operand) (p q:List UInt8) (ho:o.op = .binOp op t x y t') (h:(strOp op p q).1) (ρ:Operand → Value) (hx:ρ x = .string (mkS p)) (hy:ρ y = .string (mkS q)) (w:World) :
    ∃ v,(execOp ρ o).run P w = .ok (.value v) w ∧ ∀ μ I,Rep μ I w (strOp op p q).2 v []:=by
  have e:(execOp ρ o).run P w = ((do eqGuard op t x y (.string (mkS p)) (.string (mkS q));binOp op t (.string (mkS p)) (.string (mkS q)):Sem Value).run P w).andThen fun v w=>.ok (.value v) w:=by
    simp only [execOp,ho,hx,hy,Sem.run_bind]
    rfl
  have d:(p == q) = decide (p = q):=by rw [Bool.eq_iff_iff];simp
  rw [e]
  cases op <;> simp only [strOp] at h ⊢
  case add =>
    have h':¬ (IntKind.i64.max < ((p.length:Int) + (q.length:Int))):=by
      have:IntKind.i64.max = 9223372036854775807:=by decide
      rw [this];omega
    exact ⟨.string (mkS (p ++ q)),by simp [eqGuard,binOp,Op.stringOp,zafs,h',mkS_append];omega,fun μ I=>by simp [Rep]⟩
  case eql=>exact ⟨.bool (decide (p = q)),by simp [eqGuard,binOp,Op.stringOp,zabk,d],fun μ I=>by simp [Rep]⟩
  case neq=>exact ⟨.bool (!decide (p = q)),by simp [eqGuard,binOp,Op.stringOp,zabk,d],fun μ I=>by simp [Rep]⟩
  case lss=>exact ⟨.bool (Op.bytesLess p q),by simp [eqGuard,binOp,Op.stringOp,zabk,d],fun μ I=>by simp [Rep]⟩
  case leq=>exact ⟨.bool (Op.bytesLess p q || decide (p = q)),by simp [eqGuard,binOp,Op.stringOp,zabk,d],fun μ I=>by simp [Rep]⟩
  case gtr=>exact ⟨.bool (!(Op.bytesLess p q || decide (p = q))),by simp [eqGuard,binOp,Op.stringOp,zabk,d],fun μ I=>by simp [Rep]⟩
  case geq=>exact ⟨.bool (!Op.bytesLess p q),by simp [eqGuard,binOp,Op.stringOp,zabk,d],fun μ I=>by simp [Rep]⟩
def boolOp (op:BinOp) (a b:Bool):Prop × D :=
  match op with
  | .eql=>(True,.bool (decide (a = b)))
  | .neq=>(True,.bool (!decide (a = b)))
  | _=>(False,.any)
def isSl:D → Bool
  | .nil=>true
  | .list _ _=>true
  | .fr _ _ _=>true
  | .sl _ _ _ _ _=>true
  | _=>false
theorem isSl_spec {μ:Nat → Nat} {I:Nat → Prop} {w:World} {d:D} {v:Value} {f:List Nat} (hs:isSl d = true) (h:Rep μ I w d v f):∃ A m c,v = .slice A m c:=by
  cases d <;> simp only [isSl,Bool.false_eq_true] at hs <;> simp only [Rep] at h
  · obtain ⟨_,A,rfl⟩:=h;exact ⟨_,_,_,rfl⟩
  · obtain ⟨_,_,A,c,vs,rfl,_⟩:=h;exact ⟨_,_,_,rfl⟩
  · obtain ⟨_,_,⟨_,_,A,rfl⟩ | ⟨_,_,_,_,_,rfl,_⟩⟩:=h <;> exact ⟨_,_,_,rfl⟩
  · obtain ⟨_,_,_,⟨A,rfl⟩,_⟩:=h;exact ⟨_,_,_,rfl⟩
def emp:D → Bool
  | .list _ cs=>cs.isEmpty
  | .fr _ n _=>n == 0
  | .sl _ _ _ _ c=>c == 0
  | _=>true
theorem emp_spec {μ:Nat → Nat} {I:Nat → Prop} {w:World} {d:D} {v:Value} {f:List Nat} (hs:isSl d = true) (he:emp d = false) (h:Rep μ I w d v f):∃ a m c,v = .slice (some a) m c:=by
  cases d <;> simp only [isSl,Bool.false_eq_true] at hs <;> simp only [emp,Bool.true_eq_false] at he <;> simp only [Rep] at h
  · obtain ⟨_,_,A,c,vs,rfl,_,h,_⟩:=h
    rcases h with h | ⟨b,o,rfl,_⟩
    · subst h;simp at he
    · exact ⟨_,_,_,rfl⟩
  · obtain ⟨_,_,⟨h,_⟩ | ⟨_,_,_,_,_,rfl,_⟩⟩:=h
    · subst h;simp at he
    · exact ⟨_,_,_,rfl⟩
  · obtain ⟨_,_,_,_,h | h⟩:=h
    · subst h;simp at he
    · exact ⟨_,_,_,h⟩
def nilD (op:BinOp) (d:D):D:=if emp d = true then .ubool else match op with
  | .neq=>.bool true
  | _=>.bool false
def isEq:BinOp → Bool
  | .eql=>true
  | .neq=>true
  | _=>false
def isNilK:Operand → Bool
  | .const (.slice none 0 0)=>true
  | _=>false
variable (P) in
def slTy (t:TypeId):Bool:=match P.underlying t with
  | some (.slice _)=>true
  | _=>false
variable (P) in
def St4 (t:TypeId):Prop:=P.eqGuardType P.depth t = false ∧ ∀ (a b c d a' b' c' d':Int) (w:World),(Op.equalIn 10000 t (.agg #[.int .i64 a,.int .i64 b,.int .i64 c,.int .i64 d]) (.agg #[.int .i64 a',.int .i64 b',.int .i64 c',.int .i64 d'])).run P w = .ok (decide (a = a') && decide (b = b') && decide (c = c') && decide (d = d')) w
theorem rep_st4 {μ:Nat → Nat} {I:Nat → Prop} {w:World} {a b c d:Int} {v:Value} {f:List Nat} (h:Rep μ I w (.st [.int .i64 a,.int .i64 b,.int .i64 c,.int .i64 d]) v f):v = .agg #[.int .i64 a,.int .i64 b,.int .i64 c,.int .i64 d]:=by
  simp only [Rep,RepL] at h
  obtain ⟨vs,rfl,v1,_,_,_,rfl,_,⟨_,rfl⟩,v2,_,_,_,rfl,_,⟨_,rfl⟩,v3,_,_,_,rfl,_,⟨_,rfl⟩,v4,_,_,_,rfl,_,⟨_,rfl⟩,rfl,_⟩:=h
  rfl
def eqB4 (op:BinOp) (e:Bool):D:=match op with
  | .neq=>.bool (!e)
  | _=>.bool e
variable (P) in
def opBin (op:BinOp) (t:TypeId) (y:Operand) (vs:List D) (H:Hp):Res :=
  match vs with
  | [.int k p,.int k' q]=>⟨(intOp op k k' p q).1,(intOp op k k' p q).2,H,none⟩
  | [.str p,.str q]=>⟨(strOp op p q).1,(strOp op p q).2,H,none⟩
  | [.bool p,.bool q]=>⟨P.underlying t = some .bool ∧ (boolOp op p q).1,(boolOp op p q).2,H,none⟩
  | [.st [.int .i64 a,.int .i64 b,.int .i64 c,.int .i64 d],.st [.int .i64 a',.int .i64 b',.int .i64 c',.int .i64 d']]=>⟨St4 P t ∧ isEq op = true,eqB4 op (decide (a = a') && decide (b = b') && decide (c = c') && decide (d = d')),H,none⟩
  | [d,.nil]=>⟨isSl d = true ∧ isEq op = true ∧ isNilK y = true ∧ slTy P t = true,nilD op d,H,none⟩
  | _=>bad H
theorem bnd_intOp (op:BinOp) (k k':IntKind) (p q:Int) (N:Nat):bnd N (intOp op k k' p q).2:=by cases op <;> simp [intOp,bnd]
theorem bnd_strOp (op:BinOp) (p q:List UInt8) (N:Nat):bnd N (strOp op p q).2:=by cases op <;> simp [strOp,bnd]
theorem sound_bin (op:BinOp) (t t':TypeId) (x y:Operand) (ho:o.op = .binOp op t x y t'):Sound P o vals H (opBin P op t y vals H):=by
  have hx:o.op.operands.toList = [x,y]:=by rw [ho];rfl
  unfold opBin
  split
  · rename_i k p k' q
    refine .of rfl rfl fun μ I w a f N avals hr hav hn hb hp=>?_
    rw [hx] at hav;subst hav
    obtain ⟨f1,f2,rfl,h1,h2⟩:=RepL.two hr
    simp only [Rep] at h1 h2
    obtain ⟨v,h3,h4⟩:=run_intOp (P:=P) op t t' x y k k' p q ho hp a.eval h1.2 h2.2 w
    exact ⟨v,[],h3,h4 μ I,.nil,by simp,bnd_intOp ..⟩
  · rename_i p q
    refine .of rfl rfl fun μ I w a f N avals hr hav hn hb hp=>?_
    rw [hx] at hav;subst hav
    obtain ⟨f1,f2,rfl,h1,h2⟩:=RepL.two hr
    simp only [Rep] at h1 h2
    obtain ⟨v,h3,h4⟩:=run_strOp (P:=P) op t t' x y p q ho hp a.eval h1.2 h2.2 w
    exact ⟨v,[],h3,h4 μ I,.nil,by simp,bnd_strOp ..⟩
  · rename_i p q
    refine .of rfl rfl fun μ I w a f N avals hr hav hn hb hp=>?_
    rw [hx] at hav;subst hav
    obtain ⟨f1,f2,rfl,h1,h2⟩:=RepL.two hr
    simp only [Rep] at h1 h2
    obtain ⟨pu,pb⟩:=hp
    have heq:∀ w,(Op.equal t (.bool p) (.bool q)).run P w = .ok (p == q) w:=fun w=>by
      have key:∀ d,(Op.equalIn (d + 1) t (.bool p) (.bool q)).run P w = .ok (p == q) w:=fun d=>by
        simp only [Op.equalIn,Sem.run_bind,run_underlying pu,Result.andThen_ok];rfl
      exact key 9999
    have d:(p == q) = decide (p = q):=by rw [Bool.eq_iff_iff];simp
    have ex:(execOp a.eval o).run P w = ((do eqGuard op t x y (.bool p) (.bool q);binOp op t (.bool p) (.bool q):Sem Value).run P w).andThen fun v w=>.ok (.value v) w:=by
      simp only [execOp,ho,h1.2,h2.2,Sem.run_bind]
      rfl
    have hg:∀ op w,(eqGuard op t x y (.bool p) (.bool q)).run P w = .ok () w:=fun op w=>by cases op <;> rfl
    rw [ex]
    cases op <;> simp only [boolOp] at pb ⊢
    · exact ⟨.bool (decide (p = q)),[],by simp [hg,binOp,heq,d],by simp [Rep],.nil,by simp,by simp [bnd]⟩
    · exact ⟨.bool (!decide (p = q)),[],by simp [hg,binOp,heq,d],by simp [Rep],.nil,by simp,by simp [bnd]⟩
  · rename_i a b c d a' b' c' d'
    refine .of rfl rfl fun μ I w ac f N avals hr hav hn hb hp=>?_
    rw [hx] at hav;subst hav
    obtain ⟨f1,f2,rfl,h1,h2⟩:=RepL.two hr
    obtain ⟨⟨p1,p2⟩,p3⟩:=hp
    have e1:=rep_st4 h1
    have e2:=rep_st4 h2
    have ex:(execOp ac.eval o).run P w = ((do eqGuard op t x y (ac.eval x) (ac.eval y);binOp op t (ac.eval x) (ac.eval y):Sem Value).run P w).andThen fun v w=>.ok (.value v) w:=by
      simp only [execOp,ho,Sem.run_bind]
      rfl
    rw [ex,e1,e2]
    have hg:(eqGuard op t x y (.agg #[.int .i64 a,.int .i64 b,.int .i64 c,.int .i64 d]) (.agg #[.int .i64 a',.int .i64 b',.int .i64 c',.int .i64 d'])).run P w = .ok () w:=run_eqGuard_agg w op t x y _ _ p1
    cases op <;> simp [isEq] at p3
    · exact ⟨.bool (decide (a = a') && decide (b = b') && decide (c = c') && decide (d = d')),[],by simp only [Sem.run_bind,hg,Result.andThen_ok,run_eql_struct,p2],by simp [Rep,eqB4],.nil,by simp,by simp [bnd,eqB4]⟩
    · exact ⟨.bool (!(decide (a = a') && decide (b = b') && decide (c = c') && decide (d = d'))),[],by simp only [Sem.run_bind,hg,Result.andThen_ok,run_neq_struct,p2],by simp [Rep,eqB4],.nil,by simp,by simp [bnd,eqB4]⟩
  · rename_i d
    refine .of rfl rfl fun μ I w a f N avals hr hav hn hb hp=>?_
    rw [hx] at hav;subst hav
    obtain ⟨f1,f2,rfl,h1,h2⟩:=RepL.two hr
    obtain ⟨p1,p2,p3,p4⟩:=hp
    obtain ⟨A,m,c,hv⟩:=isSl_spec p1 h1
    have hy:y = .const (.slice none 0 0):=by
      unfold isNilK at p3
      split at p3
      · rfl
      · cases p3
    subst hy
    obtain ⟨e,hu⟩:∃ e,P.underlying t = some (.slice e):=by
      unfold slTy at p4
      split at p4
      · exact ⟨_,by assumption⟩
      · cases p4
    have heq:∀ w,(Op.equal t (.slice A m c) (.slice none 0 0)).run P w = .ok A.isNone w:=fun w=>by
      have key:∀ d,(Op.equalIn (d + 1) t (.slice A m c) (.slice none 0 0)).run P w = .ok A.isNone w:=fun d=>by
        cases A <;> simp only [Op.equalIn,Sem.run_bind,run_underlying hu,Result.andThen_ok] <;> rfl
      exact key 9999
    have hg:∀ op w,(eqGuard op t x (.const (.slice none 0 0)) (.slice A m c) (.slice none 0 0)).run P w = .ok () w:=fun op w=>by
      cases op <;> rfl
    have hrep:Rep μ I w (nilD op d) (.bool (if op = .eql then A.isNone else !A.isNone)) []:=by
      unfold nilD
      split
      · simp [Rep]
      · rename_i he
        obtain ⟨a',m',c',hv'⟩:=emp_spec p1 (by simpa using he) h1
        rw [hv] at hv'
        cases hv'
        cases op <;> simp [isEq] at p2 <;> simp [Rep]
    have hbnd:bnd N (nilD op d):=by
      unfold nilD
      split
      · simp [bnd]
      · split <;> simp [bnd]
    refine ⟨.bool (if op = .eql then A.isNone else !A.isNone),[],?_,hrep,.nil,by simp,hbnd⟩
    have ex:(execOp a.eval o).run P w = ((do eqGuard op t x (.const (.slice none 0 0)) (.slice A m c) (.slice none 0 0);binOp op t (.slice A m c) (.slice none 0 0):Sem Value).run P w).andThen fun v w=>.ok (.value v) w:=by
      simp only [execOp,ho,hv,Sem.run_bind]
      rfl
    rw [ex]
    cases op <;> simp [isEq] at p2
    · simp [hg,binOp,heq]
    · simp [hg,binOp,heq]
  · exact .bad P o _ H
def opUn (op:UnOp) (vs:List D) (H:Hp):Res :=
  match op,vs with
  | .not,[.bool b]=>⟨True,.bool (!b),H,none⟩
  | .neg,[.int k n]=>⟨True,.int k (k.wrap (0 - n)),H,none⟩
  | _,_=>bad H
theorem sound_un (op:UnOp) (t:TypeId) (x:Operand) (ho:o.op = .unOp op t x):Sound P o vals H (opUn op vals H):=by
  have hx:o.op.operands.toList = [x]:=by rw [ho];rfl
  unfold opUn
  split
  · refine .of rfl rfl fun μ I w a f N avals hr hav hn hb hp=>?_
    obtain rfl:=Xr hx hav
    have h1:=hr.one
    simp only [Rep] at h1
    exact ⟨_,[],by simp only [execOp,ho,h1.2,Op.unary];rfl,by simp [Rep],.nil,by simp,by simp [bnd]⟩
  · refine .of rfl rfl fun μ I w a f N avals hr hav hn hb hp=>?_
    obtain rfl:=Xr hx hav
    have h1:=hr.one
    simp only [Rep] at h1
    exact ⟨_,[],by simp only [execOp,ho,h1.2,Op.unary,Op.intArith];rfl,by simp [Rep],.nil,by simp,by simp [bnd]⟩
  · exact .bad P o _ H

def opNil (vs:List D) (H:Hp):Res :=
  match vs with
  | [.ptr b i]=>⟨True,.ptr b i,H,none⟩
  | [.pd cs]=>⟨True,.pd cs,H,none⟩
  | [.box cs]=>⟨True,.box cs,H,none⟩
  | [.fn f cs]=>⟨True,.fn f cs,H,none⟩
  | _=>bad H
theorem sound_nil (x:Operand) (ho:o.op = .nilCheck x):Sound P o vals H (opNil vals H):=by
  have hx:o.op.operands.toList = [x]:=by rw [ho];rfl
  have key:∀ d:D,(∀ μ I w v f,Rep μ I w d v f → ∀ w',(∀ ρ:Operand → Value,ρ x = v → (execOp ρ o).run P w' = .ok (.value v) w')) → Sound P o [d] H ⟨True,d,H,none⟩:=by
    intro d hd
    refine .of rfl rfl fun μ I w a f N avals hr hav hn hb hp=>?_
    obtain rfl:=Xr hx hav
    simp only [bndL] at hb
    exact ⟨a.eval x,f,hd μ I w _ f hr.one w a.eval rfl,hr.one,hn,fun _ h=>h,hb.1⟩
  unfold opNil
  split
  · refine key _ fun μ I w v f h w' ρ hρ=>?_
    simp only [Rep] at h
    obtain ⟨_,rfl⟩:=h
    simp only [execOp,ho,hρ];rfl
  · refine key _ fun μ I w v f h w' ρ hρ=>?_
    simp only [Rep] at h
    obtain ⟨_,_,_,_,rfl,_⟩:=h
    simp only [execOp,ho,hρ];rfl
  · refine key _ fun μ I w v f h w' ρ hρ=>?_
    simp only [Rep] at h
    obtain ⟨_,_,_,rfl,_⟩:=h
    simp only [execOp,ho,hρ];rfl
  · refine key _ fun μ I w v f h w' ρ hρ=>?_
    simp only [Rep] at h
    obtain ⟨_,rfl,_⟩:=h
    simp only [execOp,ho,hρ];rfl
  · exact .bad P o _ H
def zaat (fn:Fn) (first:Array Operand) (vs:List D) (H:Hp):Res :=
  match fn with
  | .func f=>⟨first = #[],.fn f vs,H,none⟩
  | _=>bad H
theorem sound_makeFunc (fn:Fn) (first captured:Array Operand) (ho:o.op = .makeFunc fn first captured):Sound P o vals H (zaat fn first vals H):=by
  unfold zaat
  split
  · refine .of rfl rfl fun μ I w a f N avals hr hav hn hb hp=>?_
    dsimp only at hp
    subst hp
    have hx:o.op.operands.toList = captured.toList:=by rw [ho];simp [Op.operands]
    rw [hx] at hav
    refine ⟨.func (.func _) #[] avals.toArray,f,?_,by simp only [Rep];exact ⟨avals,rfl,hr⟩,hn,fun _ h=>h,by simp only [bnd];exact hb⟩
    subst hav
    simp only [execOp,ho,Instr.makeFunc]
    simp
    rw [← Array.toList_map]
  · exact .bad P o _ H
theorem RepL.set {μ:Nat → Nat} {I:Nat → Prop} {w:World}:∀ {ds:List D} {vs:List Value} {f:List Nat} {i:Nat} {d:D},RepL μ I w ds vs f → ds[i]? = some d → ∃ v f1 f2,vs[i]? = some v ∧ Rep μ I w d v f1 ∧ RepL μ I w (ds.set i .any) vs f2 ∧ (f.Nodup → (f1 ++ f2).Nodup) ∧ ∀ x,x ∈ f1 ∨ x ∈ f2 → x ∈ f
  | [],vs,f,i,d,h,hi=>by simp at hi
  | e :: ds,vs,f,i,d,h,hi=>by
    simp only [RepL] at h
    obtain ⟨v,vs',f1,f2,rfl,rfl,h3,h4⟩:=h
    cases i with
    | zero =>
      simp at hi;subst hi
      refine ⟨v,f1,f2,rfl,h3,?_,fun h=>h,fun x hx=>by simpa using hx⟩
      simp only [List.set_cons_zero,RepL]
      exact ⟨v,vs',[],f2,rfl,rfl,by simp [Rep],h4⟩
    | succ i =>
      obtain ⟨u,g1,g2,k1,k2,k3,k4,k5⟩:=RepL.set h4 (by simpa using hi)
      refine ⟨u,g1,f1 ++ g2,by simpa using k1,k2,?_,fun hn=>?_,fun x hx=>?_⟩
      · simp only [List.set_cons_succ,RepL]
        exact ⟨v,vs',f1,g2,rfl,rfl,h3,k3⟩
      · have n2:=k4 (List.nodup_append.1 hn).2.1
        have e2:(g1 ++ (f1 ++ g2)).Perm (f1 ++ (g1 ++ g2)):=by
          rw [← List.append_assoc,← List.append_assoc]
          exact List.perm_append_comm.append_right g2
        refine (e2.nodup_iff).2 ?_
        refine Zh (List.nodup_append.1 hn).1 n2 fun x hx hy=>?_
        exact (List.nodup_append.1 hn).2.2 x hx x (k5 x (by simpa using hy)) rfl
      · rcases hx with hx | hx
        · exact List.mem_append_right _ (k5 x (.inl hx))
        · rcases List.mem_append.1 hx with hx | hx
          · exact List.mem_append_left _ hx
          · exact List.mem_append_right _ (k5 x (.inr hx))
theorem bndL_set {N:Nat} {ds:List D} (h:bndL N ds) (i:Nat):bndL N (ds.set i .any):=by
  rw [Qi] at *
  intro d hd
  rcases List.mem_or_eq_of_mem_set hd with hd | rfl
  · exact h d hd
  · simp [bnd]
def Jh (i:Nat) (vs:List D) (H:Hp):Res :=
  match vs with
  | [.tup ds]=>⟨i < ds.length,ds.getD i .any,H,if ownsL ds then some (.tup (if owns (ds.getD i .any) then ds.set i .any else ds)) else none⟩
  | _=>bad H
theorem sound_extract (i:Nat) (x:Operand) (ho:o.op = .extract x i):Sound P o vals H (Jh i vals H):=by
  have hx:o.op.operands.toList = [x]:=by rw [ho];rfl
  unfold Jh
  split
  · rename_i ds
    intro B n T a w μ fp N avals hR hav hpre next Q hk
    obtain rfl:=Xr hx hav
    dsimp only at hpre
    have h1:=hR.bg.one
    simp only [Rep] at h1
    obtain ⟨vs,hv,h2⟩:=h1
    have hb:=hR.bB
    simp only [bndL,bnd] at hb
    have hg:ds[i]? = some (ds.getD i .any):=by rw [List.getD_eq_getElem?_getD,List.getElem?_eq_getElem hpre];rfl
    obtain ⟨v,f1,f2,k1,k2,k3,k4,k5⟩:=RepL.set h2 hg
    have hbd:bnd N (ds.getD i .any):=Qi.1 hb.1 _ (List.mem_of_getElem? hg)
    have hrun:(execOp a.eval o).run P w = .ok (.value v) w:=by
      simp [execOp,ho,hv,Instr.extract,k1]
    unfold Oper.wp
    rw [hrun]
    by_cases ho:ownsL ds = true
    · by_cases hi:owns (ds.getD i .any) = true
      case neg =>
        have hi:owns (ds.getD i .any) = false:=by simpa using hi
        have q2:=k2
        obtain rfl:=Rep.free hi q2
        refine hk v w μ fp N ?_
        simp only [ho,hi,if_true,Bool.false_eq_true,if_false,Option.toList]
        refine ⟨hR.len,hR.dfs,hR.frm,hR.jk,hR.own,hR.nod,hR.dis,hR.tm,?_,hR.hp,hR.hn,hR.bT,?_,hR.bH,hR.rn⟩
        · have hbg:=hR.bg
          simp only [RepL] at hbg ⊢
          exact ⟨v,_,[],_,rfl,rfl,k2,hbg⟩
        · simp only [bndL,bnd];exact ⟨hbd,hb.1,trivial⟩
      have hn:=k4 (hR.nod .bag)
      have hm:Moves fp (fset fp .bag (f1 ++ f2)):=by
        have:=Moves.two (fp:=fp) (p:=.blk 0) (q:=.bag) (l:=fp (.blk 0)) (m:=f1 ++ f2) hR.nod hR.dis (by simp) (fun x hx=>by rcases hx with hx | hx;exact .inl hx;exact .inr (k5 x (by simpa using hx))) (hR.nod _) hn
          fun x hx hy=>by have:=hR.dis (.blk 0) .bag x hx (k5 x (by simpa using hy));cases this
        have e:fset (fset fp (.blk 0) (fp (.blk 0))) .bag (f1 ++ f2) = fset fp .bag (f1 ++ f2):=by funext r;simp only [fset];split <;> simp_all
        rwa [e] at this
      refine hk v w μ (fset fp .bag (f1 ++ f2)) N ?_
      simp only [ho,hi,if_true,Option.toList]
      refine ⟨hR.len,hR.dfs,hR.frm,hR.jk,hR.own' hm,hm.nod,hm.dis,?_,?_,?_,?_,hR.bT,?_,hR.bH,hR.rn⟩
      · intro t';rw [Qw (by simp)];exact (hR.tm t').sub hm.sub
      · rw [Xi]
        simp only [RepL,List.map_cons,List.map_nil,List.headD_cons]
        refine ⟨v,_,f1,f2,rfl,rfl,k2.sub hm.sub,a.eval x,[],f2,[],rfl,by simp,?_,rfl,rfl⟩
        simp only [Rep]
        exact ⟨vs,hv,k3.sub hm.sub⟩
      · intro b cs hc
        exact (hR.hp b cs hc).sub hm.sub (by simp [fset]) (by simp [fset])
      · intro b hb
        have:=hR.hn b hb
        simp [fset,this]
      · simp only [bndL,bnd];exact ⟨hbd,bndL_set hb.1 i,trivial⟩
    · have ho:ownsL ds = false:=by simpa using ho
      obtain ⟨fp',hR'⟩:=hR.resF k2 (List.nodup_append.1 (k4 (hR.nod .bag))).1 (fun x hx=>k5 x (.inl hx)) hbd
      refine hk v w μ fp' N ?_
      simp only [ho,Bool.false_eq_true,if_false]
      exact hR'
  · exact .bad P o _ H

theorem Seg.drop {w:World} {b o:Nat} {vs:List Value} (h:Seg w b o vs) (k:Nat):Seg w b (o + k) (vs.drop k):=by
  obtain ⟨c,t,z,h1,h2,h3⟩:=h
  exact ⟨c,t,z,h1,fun i v hv=>by rw [Nat.add_assoc];exact h2 (k + i) v (by simpa using hv),fun v hv=>h3 v (List.mem_of_mem_drop hv)⟩
theorem Seg.take {w:World} {b o:Nat} {vs:List Value} (h:Seg w b o vs) (k:Nat):Seg w b o (vs.take k):=by
  obtain ⟨c,t,z,h1,h2,h3⟩:=h
  refine ⟨c,t,z,h1,fun i v hv=>h2 i v ?_,fun v hv=>h3 v (List.mem_of_mem_take hv)⟩
  rw [List.getElem?_take] at hv
  split at hv
  · exact hv
  · cases hv
theorem Seg.cell {w:World} {b o:Nat} {vs:List Value} (h:Seg w b o vs) {i:Nat} {v:Value} (hv:vs[i]? = some v):w.cell? ⟨b,o + i,none⟩ = some v:=by
  obtain ⟨c,t,z,h1,h2,_⟩:=h
  simp only [World.cell?,h1]
  exact h2 i v hv
theorem zack {N:Nat} {cs:List D} (h:bndL N cs) (k:Nat):bndL N (cs.drop k):=by
  rw [Qi] at *;exact fun d hd=>h d (List.mem_of_mem_drop hd)
theorem zabw {N:Nat} {cs:List D} (h:bndL N cs) (k:Nat):bndL N (cs.take k):=by
  rw [Qi] at *;exact fun d hd=>h d (List.mem_of_mem_take hd)
variable (P) in
def zaak (s f:Nat) (vs:List D) (H:Hp):Res :=
  match τ P s with
  | some ⟨_,_,_,_,.struct fields⟩ =>
    match fields[f]? with
    | some fd =>
      match τ P fd.type,vs with
      | some ti,[.ptr b i]=>⟨ti.size ≠ 0,.ptr b (i + fd.offset),H,none⟩
      | some ti,[.pd cs]=>⟨ti.size ≠ 0,.pd (cs.drop fd.offset),H,none⟩
      | _,_=>bad H
    | none=>bad H
  | _=>bad H
theorem zagn (s:TypeId) (f:Nat) (x:Operand) (ho:o.op = .fieldAddr s x f):Sound P o vals H (zaak P s f vals H):=by
  have hx:o.op.operands.toList = [x]:=by rw [ho];rfl
  unfold zaak
  split
  · rename_i fields hs
    split
    · rename_i fd hf
      split
      · rename_i ti b i ht
        refine .of rfl rfl fun μ I w a f N avals hr hav hn hb hp=>?_
        obtain rfl:=Xr hx hav
        have h1:=hr.one
        simp only [Rep] at h1
        dsimp only at hp
        simp only [bndL,bnd] at hb
        refine ⟨.pointer (some ⟨μ b,i + fd.offset,none⟩),[],?_,by simp [Rep],.nil,by simp,by simp only [bnd];exact hb.1⟩
        simp [execOp,ho,h1.2,Instr.fieldAt,Zi hs,hf,Instr.sureAddr,fieldPlace,Xw ht,hp,Addr.add_lit]
      · rename_i ti cs ht
        refine .of rfl rfl fun μ I w a f N avals hr hav hn hb hp=>?_
        obtain rfl:=Xr hx hav
        have h1:=hr.one
        simp only [Rep] at h1
        obtain ⟨_,b,i,vs,hv,hI,hseg,hrep⟩:=h1
        dsimp only at hp
        simp only [bndL,bnd] at hb
        refine ⟨.pointer (some ⟨b,i + fd.offset,none⟩),[],?_,?_,.nil,by simp,by simp only [bnd];exact zack hb.1 _⟩
        · simp [execOp,ho,hv,Instr.fieldAt,Zi hs,hf,Instr.sureAddr,fieldPlace,Xw ht,hp,Addr.add_lit]
        · simp only [Rep];exact ⟨trivial,b,_,_,rfl,hI,hseg.drop _,hrep.drop _⟩
      · exact .bad P o _ H
    · exact .bad P o _ H
  · exact .bad P o _ H
variable (P) in
def zafm (s f:Nat) (vs:List D) (H:Hp):Res :=
  match τ P s with
  | some ⟨_,_,_,_,.struct fields⟩ =>
    match fields[f]? with
    | some fd =>
      match τ P fd.type,vs with
      | some ti,[.st cs]=>⟨ownsL cs = false ∧ fd.offset < cs.length,if ti.agg then .st ((cs.drop fd.offset).take ti.size) else cs.getD fd.offset .any,H,none⟩
      | _,_=>bad H
    | none=>bad H
  | _=>bad H
theorem RepL.noown {μ:Nat → Nat} {I:Nat → Prop} {w:World} {ds:List D} {vs:List Value} {f:List Nat} (ho:ownsL ds = false) (h:RepL μ I w ds vs f):RepL μ I w ds vs []:=by
  have:=RepL.free ho h
  rwa [this] at h
theorem sound_field (s:TypeId) (f:Nat) (x:Operand) (ho:o.op = .field s x f):Sound P o vals H (zafm P s f vals H):=by
  have hx:o.op.operands.toList = [x]:=by rw [ho];rfl
  unfold zafm
  split
  · rename_i fields hs
    split
    · rename_i fd hf
      split
      · rename_i ti cs ht
        refine .of rfl rfl fun μ I w a f N avals hr hav hn hb hp=>?_
        obtain rfl:=Xr hx hav
        have h1:=hr.one
        simp only [Rep] at h1
        obtain ⟨vs,hv,h2⟩:=h1
        dsimp only at hp
        have h2:=h2.noown hp.1
        simp only [bndL,bnd] at hb
        have hl:=h2.length
        by_cases ha:ti.agg = true
        · refine ⟨.agg ((vs.toArray).extract fd.offset (fd.offset + ti.size)),[],?_,?_,.nil,by simp,?_⟩
          · simp [execOp,ho,hv,Instr.field,Zi hs,hf,asAgg,part,run_agg ht,ha,Xw ht]
          · dsimp only;rw [if_pos ha];simp only [Rep]
            refine ⟨(vs.drop fd.offset).take ti.size,?_,(h2.drop _).take _⟩
            congr 1
            apply Array.ext'
            simp [List.extract]
          · dsimp only;rw [if_pos ha];simp only [bnd];exact zabw (zack hb.1 _) _
        · have ha:ti.agg = false:=by simpa using ha
          obtain ⟨d,hd⟩:∃ d,cs[fd.offset]? = some d:=⟨_,List.getElem?_eq_getElem hp.2⟩
          obtain ⟨v,hv2,hr2⟩:=h2.get hd
          have hg:cs.getD fd.offset .any = d:=by rw [List.getD_eq_getElem?_getD,hd];rfl
          refine ⟨v,[],?_,?_,.nil,by simp,?_⟩
          · simp [execOp,ho,hv,Instr.field,Zi hs,hf,asAgg,part,run_agg ht,ha,hv2]
          · dsimp only;rw [if_neg (by simp [ha]),hg];exact hr2
          · dsimp only;rw [if_neg (by simp [ha]),hg];exact Qi.1 hb.1 d (List.mem_of_getElem? hd)
      · exact .bad P o _ H
    · exact .bad P o _ H
  · exact .bad P o _ H
variable (P) in
def zaaj (t:Nat) (vs:List D) (H:Hp):Res :=
  match τ P t with
  | some ⟨_,_,_,_,.slice e⟩ =>
    match τ P e,vs with
    | some ti,[.sl b sz i n c,.int k j]=>⟨0 ≤ j ∧ j < n,.ptr b (i + j.toNat * ti.size),H,none⟩
    | some ti,[.list n cs,.int k j]=>⟨0 ≤ j ∧ j < n ∧ cs ≠ [],.pd (cs.drop (j.toNat * ti.size)),H,none⟩
    | _,_=>bad H
  | _=>bad H
theorem zagm (t:TypeId) (x y:Operand) (ho:o.op = .indexAddr t x y):Sound P o vals H (zaaj P t vals H):=by
  have hx:o.op.operands.toList = [x,y]:=by rw [ho];rfl
  unfold zaaj
  split
  · rename_i e hs
    split
    · rename_i ti b sz i n c k j ht
      refine .of rfl rfl fun μ I w a f N avals hr hav hn hb hp=>?_
      rw [hx] at hav;subst hav
      obtain ⟨f1,f2,rfl,h1,h2⟩:=RepL.two hr
      simp only [Rep] at h1 h2
      obtain ⟨_,h3,_,h4,h5⟩:=h1
      dsimp only at hp
      have h5:=h5.resolve_left (by omega)
      simp only [bndL,bnd] at hb
      refine ⟨.pointer (some ⟨μ b,i + j.toNat * ti.size,none⟩),[],?_,by simp [Rep],.nil,by simp,by simp only [bnd];exact hb.1⟩
      simp [execOp,ho,h5,h2.2,Instr.indexAt,asIntOf,Zi hs,Xw ht,hp,Addr.add_lit]
    · rename_i ti n cs k j ht
      refine .of rfl rfl fun μ I w a f N avals hr hav hn hb hp=>?_
      rw [hx] at hav;subst hav
      obtain ⟨f1,f2,rfl,h1,h2⟩:=RepL.two hr
      simp only [Rep] at h1 h2
      obtain ⟨_,_,A,c,vs,hv,h3,h4,h5⟩:=h1
      dsimp only at hp
      obtain ⟨b,i,rfl,hI,hseg⟩:=h4.resolve_left hp.2.2
      simp only [bndL,bnd] at hb
      refine ⟨.pointer (some ⟨b,i + j.toNat * ti.size,none⟩),[],?_,?_,.nil,by simp,by simp only [bnd];exact zack hb.1 _⟩
      · simp [execOp,ho,hv,h2.2,Instr.indexAt,asIntOf,Zi hs,Xw ht,hp,Addr.add_lit]
      · simp only [Rep];exact ⟨trivial,b,_,_,rfl,hI,hseg.drop _,h5.drop _⟩
    · exact .bad P o _ H
  · exact .bad P o _ H
def zafl (vs:List D) (H:Hp):Res :=
  match vs with
  | [.str s,.int k j]=>⟨0 ≤ j ∧ j < s.length,.int .u8 (s.getD j.toNat 0).toNat,H,none⟩
  | _=>bad H
theorem sound_index (t:TypeId) (x y:Operand) (ho:o.op = .index t x y) (hs:P.underlying t = some .string):Sound P o vals H (zafl vals H):=by
  have hx:o.op.operands.toList = [x,y]:=by rw [ho];rfl
  unfold zafl
  split
  · rename_i s k j
    refine .of rfl rfl fun μ I w a f N avals hr hav hn hb hp=>?_
    rw [hx] at hav;subst hav
    obtain ⟨f1,f2,rfl,h1,h2⟩:=RepL.two hr
    simp only [Rep] at h1 h2
    dsimp only at hp
    have hj:j.toNat < s.length:=by omega
    have hg:(mkS s)[j.toNat]? = some s[j.toNat]:=by
      rw [getElem?_pos _ _ (by rw [zafs];exact hj)];rfl
    have hd:s.getD j.toNat 0 = s[j.toNat]:=by rw [List.getD_eq_getElem?_getD,List.getElem?_eq_getElem hj];rfl
    refine ⟨.int .u8 s[j.toNat].toNat,[],?_,by dsimp only;rw [hd];simp [Rep],.nil,by simp,by simp [bnd]⟩
    simp [execOp,ho,h1.2,h2.2,Instr.index,asIntOf,run_underlying hs,hp.1,hg]
  · exact .bad P o _ H
def opLen (vs:List D) (H:Hp):Res :=
  match vs with
  | [.str s]=>⟨True,.int .i64 s.length,H,none⟩
  | [.list n _]=>⟨True,.int .i64 n,H,none⟩
  | [.fr _ n _]=>⟨True,.int .i64 n,H,none⟩
  | [.sl _ _ _ n _]=>⟨True,.int .i64 n,H,none⟩
  | [.nil]=>⟨True,.int .i64 0,H,none⟩
  | _=>bad H
theorem sound_len (x:Operand) (t:TypeId) (d:TypeDesc) (ho:o.op = .call { callee:=.builtin .len,args:=#[x],argTypes:=#[t] }) (hd:P.underlying t = some d) (hd':d = .string ∨ ∃ e,d = .slice e) (hs:d = .string → ∃ s,vals = [.str s]) (hs':(∃ s,vals = [.str s]) → d = .string):Sound P o vals H (opLen vals H):=by
  have hx:o.op.operands.toList = [x]:=by rw [ho];rfl
  have key:∀ (d':D) (n:Nat),(∀ s,d' ≠ .str s) → (∃ e,d = .slice e) → (∀ μ I w v f,Rep μ I w d' v f → ∃ A c,v = .slice A n c) → Sound P o [d'] H ⟨True,.int .i64 n,H,none⟩:=by
    intro d' n _ ⟨e,he⟩ hv
    subst he
    refine .of rfl rfl fun μ I w a f N avals hr hav hn hb hp=>?_
    obtain rfl:=Xr hx hav
    obtain ⟨A,c,hv⟩:=hv μ I w _ f hr.one
    refine ⟨.int .i64 n,[],?_,by simp [Rep],.nil,by simp,by simp [bnd]⟩
    simp [execOp,ho,resolve,invoke,builtin,Builtin.len_,run_underlying hd,hv,goInt]
  have ns:(¬ ∃ s,vals = [.str s]) → ∃ e,d = .slice e:=fun h=>hd'.resolve_left fun e=>h (hs e)
  unfold opLen
  split
  · rename_i s
    have hd2:=hs' ⟨s,rfl⟩
    subst hd2
    refine .of rfl rfl fun μ I w a f N avals hr hav hn hb hp=>?_
    obtain rfl:=Xr hx hav
    have h1:=hr.one
    simp only [Rep] at h1
    refine ⟨.int .i64 s.length,[],?_,by simp [Rep],.nil,by simp,by simp [bnd]⟩
    simp [execOp,ho,resolve,invoke,builtin,Builtin.len_,run_underlying hd,h1.2,goInt,zafs]
  · refine key _ _ (by simp) (ns (by simp)) fun μ I w v f h=>?_
    simp only [Rep] at h
    obtain ⟨_,_,A,c,_,hv,_⟩:=h
    exact ⟨A,c,hv⟩
  · refine key _ _ (by simp) (ns (by simp)) fun μ I w v f h=>?_
    simp only [Rep] at h
    obtain ⟨_,_,⟨rfl,_,A,hv⟩ | ⟨b,c,_,_,_,hv,_⟩⟩:=h
    · exact ⟨A,0,hv⟩
    · exact ⟨_,c,hv⟩
  · refine key _ _ (by simp) (ns (by simp)) fun μ I w v f h=>?_
    simp only [Rep] at h
    obtain ⟨_,_,_,⟨A,hv⟩,_⟩:=h
    exact ⟨A,_,hv⟩
  · refine key _ 0 (by simp) (ns (by simp)) fun μ I w v f h=>?_
    simp only [Rep] at h
    obtain ⟨_,A,hv⟩:=h
    exact ⟨A,0,hv⟩
  · exact .bad P o _ H

def zaem (lo hi mx:Option Operand) (vs:List D):Option (Option Int × Option Int × Option Int) :=
  match lo,hi,mx,vs with
  | none,none,none,[]=>some (none,none,none)
  | some _,none,none,[.int _ l]=>some (some l,none,none)
  | none,some _,none,[.int _ h]=>some (none,some h,none)
  | some _,some _,none,[.int _ l,.int _ h]=>some (some l,some h,none)
  | none,some _,some _,[.int _ h,.int _ m]=>some (none,some h,some m)
  | some _,some _,some _,[.int _ l,.int _ h,.int _ m]=>some (some l,some h,some m)
  | _,_,_,_=>none
def zaho (x:Option Value) (y:Option Int):Prop:=(x = none ∧ y = none) ∨ ∃ k n,x = some (.int k n) ∧ y = some n
theorem zaag {μ:Nat → Nat} {I:Nat → Prop} {w:World} {lo hi mx:Option Operand} {ρ:Operand → Value} {ds:List D} {f:List Nat} {l h m:Option Int} (hs:zaem lo hi mx ds = some (l,h,m))
    (hr:RepL μ I w ds ((lo.toList ++ hi.toList ++ mx.toList).map ρ) f):zaho (lo.map ρ) l ∧ zaho (hi.map ρ) h ∧ zaho (mx.map ρ) m ∧ (h = none → m = none):=by
  unfold zaem at hs
  split at hs <;> cases hs <;> simp at hr
  · exact ⟨.inl ⟨rfl,rfl⟩,.inl ⟨rfl,rfl⟩,.inl ⟨rfl,rfl⟩,fun _=>rfl⟩
  · have:=hr.one;simp only [Rep] at this
    exact ⟨.inr ⟨_,_,by rw [← this.2];rfl,rfl⟩,.inl ⟨rfl,rfl⟩,.inl ⟨rfl,rfl⟩,fun _=>rfl⟩
  · have:=hr.one;simp only [Rep] at this
    exact ⟨.inl ⟨rfl,rfl⟩,.inr ⟨_,_,by rw [← this.2];rfl,rfl⟩,.inl ⟨rfl,rfl⟩,fun _=>rfl⟩
  · obtain ⟨_,_,_,h1,h2⟩:=hr.two;simp only [Rep] at h1 h2
    exact ⟨.inr ⟨_,_,by rw [← h1.2];rfl,rfl⟩,.inr ⟨_,_,by rw [← h2.2];rfl,rfl⟩,.inl ⟨rfl,rfl⟩,fun _=>rfl⟩
  · obtain ⟨_,_,_,h1,h2⟩:=hr.two;simp only [Rep] at h1 h2
    exact ⟨.inl ⟨rfl,rfl⟩,.inr ⟨_,_,by rw [← h1.2];rfl,rfl⟩,.inr ⟨_,_,by rw [← h2.2];rfl,rfl⟩,fun h=>by cases h⟩
  · obtain ⟨_,_,_,_,h1,h2,h3⟩:=hr.three;simp only [Rep] at h1 h2 h3
    exact ⟨.inr ⟨_,_,by rw [← h1.2];rfl,rfl⟩,.inr ⟨_,_,by rw [← h2.2];rfl,rfl⟩,.inr ⟨_,_,by rw [← h3.2];rfl,rfl⟩,fun h=>by cases h⟩
theorem zabi (sl:Bool) (len cap:Nat) {x y z:Option Value} {l h m:Option Int} (hx:zaho x l) (hy:zaho y h) (hz:zaho z m) (hm:h = none → m = none)
    (h1:0 ≤ l.getD 0) (h2:l.getD 0 ≤ h.getD len) (h3:h.getD len ≤ m.getD cap) (h4:m.getD cap ≤ cap) (w:World) :
    (Instr.sliceBounds sl len cap x y z).run P w = .ok ((l.getD 0).toNat,(h.getD len).toNat,(m.getD cap).toNat) w:=by
  rcases hx with ⟨rfl,rfl⟩ | ⟨k,l,rfl,rfl⟩ <;> rcases hy with ⟨rfl,rfl⟩ | ⟨k2,h,rfl,rfl⟩ <;> rcases hz with ⟨rfl,rfl⟩ | ⟨k3,m,rfl,rfl⟩ <;> simp at h1 h2 h3 h4 hm <;>
    simp [Instr.sliceBounds,Instr.sliceBound,asIntOf,h1,h2,h3,h4] <;>
    (try (repeat (first | rw [if_pos (by omega)] | simp)))
theorem RepL.takeF {μ:Nat → Nat} {I:Nat → Prop} {w:World} {ds:List D} {vs:List Value} {f:List Nat} (h:RepL μ I w ds vs f) (k:Nat):∃ f',RepL μ I w (ds.take k) (vs.take k) f' ∧ (f.Nodup → f'.Nodup) ∧ ∀ x,x ∈ f' → x ∈ f:=by
  have h':=h
  rw [← List.take_append_drop k ds] at h'
  obtain ⟨v1,v2,f1,f2,rfl,rfl,h1,h2⟩:=RepL.split h'
  have e:(v1 ++ v2).take k = v1:=by
    have l1:=h1.length
    have l2:=h2.length
    rw [List.length_take] at l1
    rw [List.length_drop] at l2
    by_cases hk:k ≤ ds.length
    · rw [List.take_append_of_le_length (by omega),List.take_of_length_le (by omega)]
    · have:v2 = []:=List.eq_nil_of_length_eq_zero (by omega)
      subst this
      rw [List.append_nil,List.take_of_length_le (by omega)]
  rw [e]
  exact ⟨f1,h1,fun hn=>(List.nodup_append.1 hn).1,fun x hx=>List.mem_append_left _ hx⟩
variable (P) in
def zafk (t:Nat) (lo hi mx:Option Operand) (vs:List D) (H:Hp):Res :=
  match vs with
  | x :: rest =>
    match zaem lo hi mx rest with
    | some (l,h,m) =>
      match τ P t with
      | some ⟨_,_,_,_,.string⟩ =>
        match x with
        | .str s=>⟨m = none ∧ 0 ≤ l.getD 0 ∧ l.getD 0 ≤ h.getD s.length ∧ h.getD s.length ≤ s.length,.str ((s.drop (l.getD 0).toNat).take (h.getD s.length - l.getD 0).toNat),H,none⟩
        | _=>bad H
      | some ⟨_,_,_,_,.slice e⟩ =>
        match τ P e with
        | some te =>
          match x with
          | .nil=>⟨l.getD 0 = 0 ∧ h.getD 0 = 0 ∧ m.getD 0 = 0,.nil,H,none⟩
          | .list n cs=>⟨0 ≤ l.getD 0 ∧ l.getD 0 ≤ h.getD n ∧ h.getD n ≤ n ∧ (∀ y,m = some y → h.getD n ≤ y ∧ y ≤ n),.list (h.getD n - l.getD 0).toNat ((cs.drop ((l.getD 0).toNat * te.size)).take ((h.getD n - l.getD 0).toNat * te.size)),H,none⟩
          | .sl b sz i n c=>⟨0 ≤ l.getD 0 ∧ l.getD 0 ≤ h.getD n ∧ h.getD n ≤ n ∧ h.getD n ≤ m.getD c ∧ m.getD c ≤ c,.sl b sz (i + (l.getD 0).toNat * te.size) (h.getD n - l.getD 0).toNat (m.getD c - l.getD 0).toNat,H,none⟩
          | .fr sz n cs=>⟨l.getD 0 = 0 ∧ 0 ≤ h.getD n ∧ h.getD n ≤ n ∧ (∀ y,m = some y → h.getD n ≤ y ∧ y ≤ n),.fr sz (h.getD n).toNat (cs.take ((h.getD n).toNat * sz)),H,none⟩
          | _=>bad H
        | none=>bad H
      | _=>bad H
    | none=>bad H
  | []=>bad H
theorem sound_slice (t:TypeId) (x:Operand) (lo hi mx:Option Operand) (ho:o.op = .slice t x lo hi mx):Sound P o vals H (zafk P t lo hi mx vals H):=by
  have hx:o.op.operands.toList = x :: (lo.toList ++ hi.toList ++ mx.toList):=by rw [ho];simp [Op.operands]
  unfold zafk
  split
  case h_2=>exact .bad P o _ H
  rename_i d rest
  split
  case h_2=>exact .bad P o _ H
  rename_i l h m hs
  split
  · rename_i hu
    split
    case h_2=>exact .bad P o _ H
    rename_i s
    refine .of rfl rfl fun μ I w a f N avals hr hav hn hb hp=>?_
    rw [hx,List.map_cons] at hav;subst hav
    simp only [RepL] at hr
    obtain ⟨v,vs',f1,f2,hv,rfl,h1,h2⟩:=hr
    cases hv
    obtain ⟨b1,b2,b3,b4⟩:=zaag (ρ:=a.eval) hs h2
    simp only [Rep] at h1
    dsimp only at hp
    obtain ⟨rfl,p1,p2,p3⟩:=hp
    have b3':mx.map a.eval = none:=by
      rcases b3 with ⟨h,_⟩ | ⟨_,_,_,h⟩
      · exact h
      · cases h
    have hmx:mx = none:=by simpa using b3'
    subst hmx
    have hrun:=zabi (P:=P) false s.length s.length b1 b2 (.inl ⟨rfl,rfl⟩) (fun _=>rfl) p1 p2 (by simpa using p3) (by simp) w
    refine ⟨.string (mkS ((s.drop (l.getD 0).toNat).take (h.getD s.length - l.getD 0).toNat)),[],?_,by simp [Rep],.nil,by simp,by simp [bnd]⟩
    simp [execOp,ho,h1.2,Instr.sliceAt,Instr.slice,Zi hu,zafs,hrun]
    apply ByteArray.ext
    apply Array.ext'
    simp [mkS,List.extract]
    congr 1
    omega
  · rename_i e hu
    split
    case h_2=>exact .bad P o _ H
    rename_i te he
    split
    case h_5=>exact .bad P o _ H
    · refine .of rfl rfl fun μ I w a f N avals hr hav hn hb hp=>?_
      rw [hx,List.map_cons] at hav;subst hav
      simp only [RepL] at hr
      obtain ⟨v,vs',f1,f2,hv,rfl,h1,h2⟩:=hr
      cases hv
      obtain ⟨b1,b2,b3,b4⟩:=zaag (ρ:=a.eval) hs h2
      simp only [Rep] at h1
      obtain ⟨_,A,h1⟩:=h1
      dsimp only at hp
      obtain ⟨p1,p2,p3⟩:=hp
      have hrun:=zabi (P:=P) true 0 0 b1 b2 b3 b4 (by omega) (by simp;omega) (by simp;omega) (by simp;omega) w
      refine ⟨.slice A 0 0,[],?_,by simp [Rep],.nil,by simp,by simp [bnd]⟩
      simp [p1,p2,p3] at hrun
      simp [execOp,ho,h1,Instr.sliceAt,Instr.slice,Zi hu,Xw he,hrun]
    · rename_i n cs
      refine .of rfl rfl fun μ I w a f N avals hr hav hn hb hp=>?_
      rw [hx,List.map_cons] at hav;subst hav
      simp only [RepL] at hr
      obtain ⟨v,vs',f1,f2,hv,rfl,h1,h2⟩:=hr
      cases hv
      obtain ⟨b1,b2,b3,b4⟩:=zaag (ρ:=a.eval) hs h2
      simp only [Rep] at h1
      obtain ⟨_,hmax,A,c,vs,hv,hnc,hA,hrep⟩:=h1
      dsimp only at hp
      obtain ⟨p1,p2,p3,p4⟩:=hp
      have q1:h.getD n ≤ m.getD c:=by
        cases m with
        | none=>simp;omega
        | some y=>simp;exact (p4 y rfl).1
      have q2:m.getD c ≤ c:=by
        cases m with
        | none=>simp
        | some y=>simp;have:=(p4 y rfl).2;omega
      have hrun:=zabi (P:=P) true n c b1 b2 b3 b4 p1 p2 q1 q2 w
      generalize l.getD 0 = L at *
      generalize h.getD (n:Int) = R at *
      generalize m.getD (c:Int) = M at *
      refine ⟨.slice (if M.toNat = L.toNat then A else A.map (·.add (L.toNat * te.size))) (R.toNat - L.toNat) (M.toNat - L.toNat),[],?_,?_,.nil,by simp,?_⟩
      · simp [execOp,ho,hv,Instr.sliceAt,Instr.slice,Zi hu,Xw he,hrun]
      · simp only [Rep]
        refine ⟨trivial,by omega,(if M.toNat = L.toNat then A else A.map (·.add (L.toNat * te.size))),M.toNat - L.toNat,(vs.drop (L.toNat * te.size)).take ((R - L).toNat * te.size),?_,by omega,?_,(hrep.drop _).take _⟩
        · rw [show R.toNat - L.toNat = (R - L).toNat by omega]
        · rcases hA with rfl | ⟨b,i,rfl,hI,hseg⟩
          · exact .inl (by simp)
          · by_cases hml:M.toNat = L.toNat
            · have:(R - L).toNat = 0:=by omega
              exact .inl (by simp [this])
            · exact .inr ⟨b,i + L.toNat * te.size,by rw [if_neg hml];simp [Addr.add_lit],hI,(hseg.drop _).take _⟩
      · simp only [bndL,bnd] at hb ⊢
        exact zabw (zack hb.1 _) _
    · rename_i b sz i n c
      refine .of rfl rfl fun μ I w a f N avals hr hav hn hb hp=>?_
      rw [hx,List.map_cons] at hav;subst hav
      simp only [RepL] at hr
      obtain ⟨v,vs',f1,f2,hv,rfl,h1,h2⟩:=hr
      cases hv
      obtain ⟨b1,b2,b3,b4⟩:=zaag (ρ:=a.eval) hs h2
      simp only [Rep] at h1
      obtain ⟨_,hnc,hmax,⟨A,hv⟩,hA⟩:=h1
      dsimp only at hp
      obtain ⟨p1,p2,p3,p4,p5⟩:=hp
      have hrun:=zabi (P:=P) true n c b1 b2 b3 b4 p1 p2 p4 p5 w
      generalize l.getD 0 = L at *
      generalize h.getD (n:Int) = R at *
      generalize m.getD (c:Int) = M at *
      refine ⟨.slice (if M.toNat = L.toNat then A else A.map (·.add (L.toNat * te.size))) (R.toNat - L.toNat) (M.toNat - L.toNat),[],?_,?_,.nil,by simp,?_⟩
      · simp [execOp,ho,hv,Instr.sliceAt,Instr.slice,Zi hu,Xw he,hrun]
      · simp only [Rep]
        rw [show R.toNat - L.toNat = (R - L).toNat by omega,show M.toNat - L.toNat = (M - L).toNat by omega]
        refine ⟨trivial,by omega,by omega,⟨_,rfl⟩,?_⟩
        by_cases hml:M.toNat = L.toNat
        · exact .inl (by omega)
        · refine .inr ?_
          have hA:=hA.resolve_left (by omega)
          rw [hv] at hA
          cases hA
          rw [if_neg hml]
          simp [Addr.add_lit]
      · simp only [bndL,bnd] at hb ⊢
        exact hb.1
    · rename_i sz n cs
      refine .of rfl rfl fun μ I w a f N avals hr hav hn hb hp=>?_
      rw [hx,List.map_cons] at hav;subst hav
      simp only [RepL] at hr
      obtain ⟨v,vs',f1,f2,hv,rfl,h1,h2⟩:=hr
      cases hv
      obtain ⟨b1,b2,b3,b4⟩:=zaag (ρ:=a.eval) hs h2
      simp only [Rep] at h1
      dsimp only at hp
      obtain ⟨p1,p2,p3,p4⟩:=hp
      obtain ⟨hmax,hlen,h1⟩:=h1
      simp only [bndL,bnd] at hb
      rcases h1 with ⟨rfl,rfl,A,hv⟩ | ⟨b,c,cells,vs,g,hv,hnc,hw,hsz,hcell,hrep,rfl⟩
      · have hcs:cs = []:=List.eq_nil_of_length_eq_zero (by simpa using hlen)
        subst hcs
        have q0:h.getD (0:Nat) = 0:=by omega
        have q1:m.getD (0:Nat) = 0:=by
          cases m with
          | none=>simp
          | some y=>simp;have:=p4 y rfl;omega
        have hrun:=zabi (P:=P) true 0 0 b1 b2 b3 b4 (by omega) (by omega) (by omega) (by omega) w
        rw [p1,q0,q1] at hrun
        refine ⟨.slice A 0 0,[],?_,?_,.nil,by simp,by simp [bnd,bndL]⟩
        · simp [execOp,ho,hv,Instr.sliceAt,Instr.slice,Zi hu,Xw he,hrun]
        · simp only [Rep]
          rw [q0]
          exact ⟨by simp,by simp,.inl ⟨by simp,trivial,A,by simp⟩⟩
      · have q1:h.getD n ≤ m.getD c:=by
          cases m with
          | none=>simp;omega
          | some y=>simp;exact (p4 y rfl).1
        have q2:m.getD c ≤ c:=by
          cases m with
          | none=>simp
          | some y=>simp;have:=(p4 y rfl).2;omega
        have hrun:=zabi (P:=P) true n c b1 b2 b3 b4 (by omega) (by omega) q1 q2 w
        rw [p1] at hrun
        generalize h.getD (n:Int) = R at *
        generalize m.getD (c:Int) = M at *
        obtain ⟨g',k1,k2,k3⟩:=hrep.takeF (R.toNat * sz)
        have hn':=(List.nodup_append.1 hn).1
        refine ⟨.slice (some ⟨b,0,none⟩) R.toNat M.toNat,b :: g',?_,?_,?_,?_,?_⟩
        · simp [execOp,ho,hv,Instr.sliceAt,Instr.slice,Zi hu,Xw he,hrun,Addr.add_lit]
        · simp only [Rep]
          refine ⟨by omega,?_,.inr ⟨b,M.toNat,cells,vs.take (R.toNat * sz),g',rfl,by omega,hw,Nat.le_trans (Nat.mul_le_mul_right sz (by omega)) hsz,fun i v hv=>?_,k1,rfl⟩⟩
          · rw [List.length_take,hlen];exact Nat.min_eq_left (Nat.mul_le_mul_right sz (by omega))
          · rw [List.getElem?_take] at hv
            split at hv
            · exact hcell i v hv
            · cases hv
        · rw [List.nodup_cons] at hn' ⊢
          exact ⟨fun hx=>hn'.1 (k3 b hx),k2 hn'.2⟩
        · intro x hx
          rcases List.mem_cons.1 hx with rfl | hx
          · simp
          · simp [k3 x hx]
        · simp only [bnd];exact zabw hb.1 _
  · exact .bad P o _ H
variable (P) in
def zabr (s t:Nat) (vs:List D) (H:Hp):Res :=
  match P.underlying s,P.underlying t,vs with
  | some (.int _),some (.int k),[.int _ n]=>⟨True,.int k (k.wrap n),H,none⟩
  | some .string,some .string,[.str s]=>⟨True,.str s,H,none⟩
  | _,_,_=>bad H
theorem sound_convert (s t:TypeId) (x:Operand) (ho:o.op = .convert s t x):Sound P o vals H (zabr P s t vals H):=by
  have hx:o.op.operands.toList = [x]:=by rw [ho];rfl
  unfold zabr
  split
  · rename_i k0 k k' n h1 h2
    refine .of rfl rfl fun μ I w a f N avals hr hav hn hb hp=>?_
    obtain rfl:=Xr hx hav
    have h3:=hr.one
    simp only [Rep] at h3
    refine ⟨.int k (k.wrap n),[],?_,by simp [Rep],.nil,by simp,by simp [bnd]⟩
    simp [execOp,ho,convert,run_underlying h1,run_underlying h2,h3.2,Conv.intToInt]
  · rename_i st h1 h2
    refine .of rfl rfl fun μ I w a f N avals hr hav hn hb hp=>?_
    obtain rfl:=Xr hx hav
    have h3:=hr.one
    simp only [Rep] at h3
    refine ⟨.string (mkS st),[],?_,by simp [Rep],.nil,by simp,by simp [bnd]⟩
    simp [execOp,ho,convert,run_underlying h1,run_underlying h2,h3.2]
  · exact .bad P o _ H
end
section
variable {P:Program} {o:Oper} {vals:List D} {H:Hp}

theorem zaas {t:TypeId} {ti:Ti} (ht:τ P t = some ti) (ha:ti.agg = true) {w:World} {b i:Nat} {vs:List Value} (hl:vs.length = ti.size) (h:∀ (j:Nat) (v:Value),vs[j]? = some v → w.cell? ⟨b,i + j,none⟩ = some v) :
    (Instr.loadAt t (.pointer (some ⟨b,i,none⟩))).run P w = .ok (.agg vs.toArray) w:=by
  have:=run_loadCells_list (P:=P) w ⟨b,i,none⟩ vs (fun j v hv=>by rw [Addr.add_lit];exact h j v hv)
  simp [Instr.loadAt,Instr.sureAddr,loadVar,run_agg ht,ha,Xw ht,← hl,this]
theorem zaar {t:TypeId} {ti:Ti} (ht:τ P t = some ti) (ha:ti.agg = false) {w:World} {b i:Nat} {v:Value} (h:w.cell? ⟨b,i,none⟩ = some v) :
    (Instr.loadAt t (.pointer (some ⟨b,i,none⟩))).run P w = .ok v w:=by
  simp [Instr.loadAt,Instr.sureAddr,loadVar,run_agg ht,ha,load,Sem.run,h]
variable (P) in
def Xz (t:Nat) (vs:List D) (H:Hp):Res :=
  match τ P t with
  | some ti =>
    match vs with
    | [.ptr b i] =>
      match H b with
      | some cs=>if ti.agg then ⟨0 < ti.size ∧ i + ti.size ≤ cs.length ∧ ownsL ((cs.drop i).take ti.size) = false,.st ((cs.drop i).take ti.size),H,none⟩
        else ⟨i < cs.length ∧ owns (cs.getD i .any) = false,cs.getD i .any,H,none⟩
      | none=>bad H
    | [.pd cs]=>if ti.agg then ⟨ti.size ≤ cs.length,.st (cs.take ti.size),H,none⟩ else ⟨0 < cs.length,cs.getD 0 .any,H,none⟩
    | _=>bad H
  | none=>bad H
theorem Whole.cell {w:World} {b:Nat} {cells:Array Value} (h:Whole w b cells) {i:Nat} {v:Value} (hv:cells[i]? = some v):w.cell? ⟨b,i,none⟩ = some v:=by
  obtain ⟨t,h1,_⟩:=h
  simp only [World.cell?,h1]
  exact hv
theorem zadg {ds:List D}:ownsL ds = false ↔ ∀ d ∈ ds,owns d = false:=by
  induction ds with
  | nil=>simp [ownsL]
  | cons d ds ih=>simp [ownsL,ih]
theorem zadd (t:TypeId) (x:Operand) (ho:o.op = .load t x):Sound P o vals H (Xz P t vals H):=by
  have hx:o.op.operands.toList = [x]:=by rw [ho];rfl
  unfold Xz
  split
  case h_2=>exact .bad P o _ H
  rename_i ti ht
  split
  · rename_i b i
    split
    case h_2=>exact .bad P o _ H
    rename_i cs hc
    have main:∀ (d:D) (pre:Prop),(pre → cs ≠ [] ∧ ∀ (w:World) (cells:Array Value) (μ:Nat → Nat) (I:Nat → Prop),Whole w (μ b) cells → cells.size = cs.length → (∀ (j:Nat) (e:D),cs[j]? = some e → owns e = false → ∃ v,cells[j]? = some v ∧ Rep μ I w e v []) →
        ∃ v,(Instr.loadAt t (.pointer (some ⟨μ b,i,none⟩))).run P w = .ok v w ∧ Rep μ I w d v []) → (∀ N,pre → bndL N cs → bnd N d) → Sound P o [.ptr b i] H ⟨pre,d,H,none⟩:=by
      intro d pre hmain hbd B n T a w μ fp N avals hR hav hpre next Q hk
      obtain rfl:=Xr hx hav
      have h1:=hR.bg.one
      simp only [Rep] at h1
      obtain ⟨hne,hmain⟩:=hmain hpre
      rcases hR.hp b cs hc with ⟨k,_⟩ | ⟨cells,k1,k2,k3,k4,k5⟩ | ⟨kodd,_⟩
      rotate_left 2
      · have hpar:=hR.bB;simp only [bndL,bnd] at hpar;omega
      · exact (hne k).elim
      · obtain ⟨v,h2,h3⟩:=hmain w cells μ (Im B w fp) k1 k2 fun j e he ho=>by
          obtain ⟨v,hv,hr⟩:=k4 j e he
          have:=hr.free ho
          rw [this] at hr
          exact ⟨v,hv,hr⟩
        obtain ⟨fp',hR'⟩:=hR.res0 h3 (hbd N hpre (hR.bH b cs hc).2)
        have hrun:(execOp a.eval o).run P w = .ok (.value v) w:=by simp [execOp,ho,h1.2,h2]
        unfold Oper.wp
        rw [hrun]
        exact hk v w μ fp' N hR'
    split
    · rename_i ha
      refine main _ _ (fun hp=>⟨fun e=>by subst e;simp at hp;omega,fun w cells μ I hw hsz hcell=>?_⟩) (fun N _ hb=>by simp only [bnd];exact zabw (zack hb _) _)
      obtain ⟨p0,p1,p2⟩:=hp
      have hown:∀ j,j < ti.size → ∃ e v,cs[i + j]? = some e ∧ cells[i + j]? = some v ∧ Rep μ I w e v []:=by
        intro j hj
        have he:cs[i + j]? = some cs[i + j]:=List.getElem?_eq_getElem (by omega)
        obtain ⟨v,hv,hr⟩:=hcell _ _ he (zadg.1 p2 _ (by
          refine List.mem_of_getElem? (i:=j) ?_
          rw [List.getElem?_take,if_pos hj,List.getElem?_drop];exact he))
        exact ⟨_,v,he,hv,hr⟩
      have hl:((cells.toList.drop i).take ti.size).length = ti.size:=by simp;omega
      refine ⟨.agg ((cells.toList.drop i).take ti.size).toArray,zaas ht ha hl fun j v hv=>?_,?_⟩
      · rw [List.getElem?_take] at hv
        split at hv
        · rw [List.getElem?_drop] at hv
          exact hw.cell (by simpa using hv)
        · cases hv
      · simp only [Rep]
        refine ⟨_,rfl,.build (by rw [hl];simp;omega) fun j e v h1 h2=>?_⟩
        rw [List.getElem?_take] at h1 h2
        split at h1
        · rename_i hj
          rw [if_pos hj] at h2
          rw [List.getElem?_drop] at h1 h2
          obtain ⟨e',v',q1,q2,q3⟩:=hown j hj
          rw [q1] at h1;cases h1
          have:cells[i + j]? = some v:=by simpa using h2
          rw [q2] at this;cases this
          exact q3
        · cases h1
    · rename_i ha
      have ha:ti.agg = false:=by simpa using ha
      refine main _ _ (fun hp=>⟨fun e=>by subst e;simp at hp,fun w cells μ I hw hsz hcell=>?_⟩) (fun N hp hb=>?_)
      · have he:cs[i]? = some (cs.getD i .any):=by rw [List.getD_eq_getElem?_getD,List.getElem?_eq_getElem hp.1];rfl
        obtain ⟨v,hv,hr⟩:=hcell i _ he hp.2
        exact ⟨v,zaar ht ha (hw.cell hv),hr⟩
      · have he:cs[i]? = some (cs.getD i .any):=by rw [List.getD_eq_getElem?_getD,List.getElem?_eq_getElem hp.1];rfl
        exact Qi.1 hb _ (List.mem_of_getElem? he)
  · rename_i cs
    split
    · rename_i ha
      refine .of rfl rfl fun μ I w a f N avals hr hav hn hb hp=>?_
      obtain rfl:=Xr hx hav
      have h1:=hr.one
      simp only [Rep] at h1
      obtain ⟨_,b,i,vs,hv,hI,hseg,hrep⟩:=h1
      dsimp only at hp
      simp only [bndL,bnd] at hb
      refine ⟨.agg (vs.take ti.size).toArray,[],?_,?_,.nil,by simp,by simp only [bnd];exact zabw hb.1 _⟩
      · have:=zaas (P:=P) ht ha (w:=w) (b:=b) (i:=i) (vs:=vs.take ti.size) (by rw [List.length_take,hrep.length];omega) fun j v hv=>(hseg.take _).cell hv
        simp [execOp,ho,hv,this]
      · simp only [Rep];exact ⟨_,rfl,hrep.take _⟩
    · rename_i ha
      have ha:ti.agg = false:=by simpa using ha
      refine .of rfl rfl fun μ I w a f N avals hr hav hn hb hp=>?_
      obtain rfl:=Xr hx hav
      have h1:=hr.one
      simp only [Rep] at h1
      obtain ⟨_,b,i,vs,hv,hI,hseg,hrep⟩:=h1
      dsimp only at hp
      simp only [bndL,bnd] at hb
      have he:cs[0]? = some (cs.getD 0 .any):=by rw [List.getD_eq_getElem?_getD,List.getElem?_eq_getElem hp];rfl
      obtain ⟨v,hv2,hr2⟩:=hrep.get he
      refine ⟨v,[],?_,hr2,.nil,by simp,Qi.1 hb.1 _ (List.mem_of_getElem? he)⟩
      have:=zaar (P:=P) ht ha (hseg.cell hv2)
      simp only [Nat.add_zero] at this
      simp [execOp,ho,hv,this]
  · exact .bad P o _ H

theorem Frm.alloc (w:World) (x:Obj):Frm w (fun _=>False) (w.alloc x) :=
  ⟨rfl,rfl,rfl,by simp,fun b hb _=>by
    show (w.heap.push x)[b]? = _
    rw [Array.getElem?_push,if_neg (Nat.ne_of_lt hb)]⟩
theorem Frm.drew (w:World):Frm w (fun _=>False) w.drew:=⟨rfl,rfl,rfl,Nat.le_refl _,fun _ _ _=>rfl⟩
theorem Frm.trans0 {w w' w'':World} (h:Frm w (fun _=>False) w') (k:Frm w' (fun _=>False) w''):Frm w (fun _=>False) w'' :=
  ⟨k.os.trans h.os,k.tape.trans h.tape,k.output.trans h.output,Nat.le_trans h.size k.size,fun b hb hf=>(k.same b (Nat.lt_of_lt_of_le hb h.size) hf).trans (h.same b hb hf)⟩
theorem Whole.new (w:World) (cells:Array Value) (t:TypeId) (h:∀ v ∈ cells.toList,v.oneCell' = true):Whole (w.alloc (.cells cells t)) w.heap.size cells :=
  ⟨t,(by show (w.heap.push _)[w.heap.size]? = _;simp),fun i v hv=>h v (List.mem_of_getElem? (i:=i) (by simpa using hv))⟩
theorem zabs {μ:Nat → Nat} {I:Nat → Prop} {w:World}:∀ {ds:List D} {vs:List Value} {f:List Nat},ds.all leaf = true → RepL μ I w ds vs f → ∀ v ∈ vs,v.oneCell' = true
  | [],vs,f,h,hr=>by simp only [RepL] at hr;simp [hr.1]
  | d :: ds,vs,f,h,hr=>by
    simp only [RepL] at hr
    obtain ⟨v,vs',f1,f2,rfl,rfl,h1,h2⟩:=hr
    simp only [List.all_cons,Bool.and_eq_true] at h
    intro u hu
    rcases List.mem_cons.1 hu with rfl | hu
    · exact leaf_one h.1 h1
    · exact zabs h.2 h2 u hu

theorem Sound.ofNew {r:Res} (hb:r.back = none) (hH:r.H = H)
    (h:∀ (μ:Nat → Nat) (I:Nat → Prop) (w:World) (a:Act) (f:List Nat) (N:Nat) (avals:List Value),RepL μ I w vals avals f → o.op.operands.toList.map a.eval = avals → f.Nodup → bndL N vals → r.pre → (∀ x,I x → x < w.heap.size) → (∀ x ∈ f,x < w.heap.size) →
      ∃ v w' f',(execOp a.eval o).run P w = .ok (.value v) w' ∧ Frm w (fun _=>False) w' ∧ Rep μ (fun x=>I x ∨ (w.heap.size ≤ x ∧ x < w'.heap.size ∧ x ∉ f')) w' r.val v f' ∧ f'.Nodup ∧ (∀ x ∈ f',x ∈ f ∨ (w.heap.size ≤ x ∧ x < w'.heap.size)) ∧ bnd N r.val):Sound P o vals H r:=by
  intro B n T a w μ fp N avals hR hav hpre next Q hk
  obtain ⟨v,w',f',hrun,hw,hrep,hnd,hsub,hbn⟩:=h μ (Im B w fp) w a _ N avals hR.bg hav (hR.nod .bag) hR.bB hpre (fun x hx=>hx.1) (fun x hx=>(hR.own _ x hx).2)
  obtain ⟨fp',hR'⟩:=hR.resNew (hw.weaken (by simp)) hrep hnd hsub hbn
  unfold Oper.wp
  rw [hrun]
  exact hk v w' μ fp' N (by rw [hb,hH];exact hR')
theorem zace {t:TypeId} {ti:Ti} (ht:τ P t = some ti) (hz:ti.zero ≠ []):∃ z,(∀ w,(zeroValue t).run P w = .ok z w) ∧ (∃ i,P.info? t = some i ∧ i.zero = some z ∧ i.size = ti.size ∧ i.bytes = ti.bytes) ∧ ti.zero = z.cells.toList.map leafD:=by
  obtain ⟨i,hi,h1,h2,h3,h4,h5⟩:=τ_spec ht
  cases hzi:i.zero with
  | none=>rw [hzi] at h5;exact (hz h5).elim
  | some z =>
    rw [hzi] at h5
    refine ⟨z,fun w=>?_,⟨i,hi,hzi,h1,h2⟩,h5⟩
    simp [zeroValue,typeInfo,hi,hzi]
variable (P) in
def OneT (t:Nat):Prop:=∀ i z,P.info? t = some i → i.zero = some z → z.cells.toList.all (fun v=>v.oneCell') = true
variable (P) in
def zafp (t:Nat) (vs:List D) (H:Hp):Res :=
  match τ P t,vs with
  | some ti,[]=>⟨ti.zero ≠ [] ∧ (ti.zero.all leaf = true ∨ OneT P t),.box ti.zero,H,none⟩
  | _,_=>bad H
theorem sound_alloc (t:TypeId) (ho:o.op = .alloc t):Sound P o vals H (zafp P t vals H):=by
  unfold zafp
  split
  · rename_i ti ht
    refine .ofNew rfl rfl fun μ I w a f N avals hr hav hn hb hp hI hf=>?_
    dsimp only at hp
    obtain ⟨z,h1,⟨iz,hiz,hizz,_⟩,h2⟩:=zace ht hp.1
    have hrep:RepL μ (fun x=>I x ∨ (w.heap.size ≤ x ∧ x < (w.alloc (.cells z.cells t)).heap.size ∧ x ∉ [w.heap.size])) (w.alloc (.cells z.cells t)) ti.zero z.cells.toList []:=by
      rw [h2];exact RepL.leafD _ _ _ _
    refine ⟨.pointer (some ⟨w.heap.size,0,none⟩),w.alloc (.cells z.cells t),[w.heap.size],?_,Frm.alloc _ _,?_,by simp,by simp,?_⟩
    · simp [execOp,ho,Instr.alloc,h1,newVar,newRow]
    · simp only [Rep]
      refine ⟨w.heap.size,z.cells,[],rfl,Whole.new w z.cells t ?_,hrep,rfl⟩
      rcases hp.2 with hl | hl
      · exact zabs hl hrep
      · exact fun v hv=>List.all_eq_true.1 (hl iz z hiz hizz) v hv
    · simp only [bnd];rw [h2];exact zabo _ _
  · exact .bad P o _ H
def Xo:D → List D
  | .st cs=>cs
  | d=>[d]
theorem zaeu {μ:Nat → Nat} {I:Nat → Prop} {w:World} {d:D} {v:Value} {f:List Nat} (hl:(Xo d).all leaf = true) (h:Rep μ I w d v f):RepL μ I w (Xo d) v.cells.toList f:=by
  cases d with
  | st cs =>
    simp only [Rep] at h
    obtain ⟨vs,rfl,h⟩:=h
    simpa [Xo,Value.cells] using h
  | _ =>
    simp only [Xo,List.all_cons,List.all_nil,Bool.and_true] at hl
    have h1:=leaf_one hl h
    have e:v.cells = #[v]:=by cases v <;> simp [Value.oneCell',Value.cells] at h1 ⊢
    rw [e]
    simp only [Xo,RepL]
    exact ⟨v,[],f,[],rfl,by simp,h,rfl,rfl⟩
theorem zaev {N:Nat} {d:D} (h:bnd N d):bndL N (Xo d):=by
  cases d with
  | st cs=>simpa only [bnd,Xo] using h
  | _=>simp only [Xo,bndL];exact ⟨h,trivial⟩
def opBox (vs:List D) (H:Hp):Res :=
  match vs with
  | [d]=>⟨(Xo d).all leaf = true,.box (Xo d),H,none⟩
  | _=>bad H
theorem sound_box (t:TypeId) (x:Operand) (ho:o.op = .box t x):Sound P o vals H (opBox vals H):=by
  have hx:o.op.operands.toList = [x]:=by rw [ho];rfl
  unfold opBox
  split
  · rename_i d
    refine .ofNew rfl rfl fun μ I w a f N avals hr hav hn hb hp hI hf=>?_
    obtain rfl:=Xr hx hav
    dsimp only at hp
    simp only [bndL] at hb
    have h1:=zaeu hp hr.one
    have hnew:w.heap.size ∉ f:=fun hx=>Nat.lt_irrefl _ (hf _ hx)
    have hw:=Frm.alloc w (.cells (a.eval x).cells t)
    have h2:RepL μ (fun y=>I y ∨ (w.heap.size ≤ y ∧ y < (w.alloc (.cells (a.eval x).cells t)).heap.size ∧ y ∉ w.heap.size :: f)) (w.alloc (.cells (a.eval x).cells t)) (Xo d) (a.eval x).cells.toList f :=
      RepL.mono (fun y hy=>⟨.inl hy,hw.same y (hI y hy) (by simp)⟩) (fun y hy=>hw.same y (hf y hy) (by simp)) h1
    refine ⟨.pointer (some ⟨w.heap.size,0,none⟩),w.alloc (.cells (a.eval x).cells t),w.heap.size :: f,?_,hw,?_,by simp [hnew,hn],?_,by simp only [bnd];exact zaev hb.1⟩
    · simp [execOp,ho,Instr.box,newVar,newRow]
    · simp only [Rep]
      exact ⟨w.heap.size,_,f,rfl,Whole.new w _ t (zabs hp h1),h2,rfl⟩
    · intro y hy
      rcases List.mem_cons.1 hy with rfl | hy
      · exact .inr ⟨Nat.le_refl _,by simp⟩
      · exact .inl hy
  · exact .bad P o _ H

def setSeg {α:Type}:List α → Nat → List α → List α
  | cs,_,[]=>cs
  | cs,i,d :: ds=>setSeg (cs.set i d) (i + 1) ds
def stSeg (cs:List D) (i:Nat) (ds:List D):List D:=setSeg cs i ds
theorem zabc {α:Type}:∀ (ds cs:List α) (i:Nat),(setSeg cs i ds).length = cs.length
  | [],cs,i=>rfl
  | d :: ds,cs,i=>by simp [setSeg,zabc ds]
theorem RepL.set1 {μ:Nat → Nat} {I:Nat → Prop} {w:World}:∀ {ds:List D} {vs:List Value} {f g:List Nat} {i:Nat} {d:D} {v:Value},RepL μ I w ds vs f → Rep μ I w d v g → (f ++ g).Nodup → i < ds.length →
    ∃ f',RepL μ I w (ds.set i d) (vs.set i v) f' ∧ f'.Nodup ∧ ∀ x,x ∈ f' → x ∈ f ∨ x ∈ g
  | [],vs,f,g,i,d,v,h,hg,hn,hi=>by simp at hi
  | e :: ds,vs,f,g,i,d,v,h,hg,hn,hi=>by
    simp only [RepL] at h
    obtain ⟨u,vs',f1,f2,rfl,rfl,h3,h4⟩:=h
    have hn':=List.nodup_append.1 hn
    have hf:=List.nodup_append.1 hn'.1
    cases i with
    | zero =>
      refine ⟨g ++ f2,?_,Zh hn'.2.1 hf.2.1 fun x hx hy=>hn'.2.2 x (List.mem_append_right _ hy) x hx rfl,fun x hx=>?_⟩
      · simp only [List.set_cons_zero,RepL]
        exact ⟨v,vs',g,f2,rfl,rfl,hg,h4⟩
      · rcases List.mem_append.1 hx with hx | hx
        · exact .inr hx
        · exact .inl (List.mem_append_right _ hx)
    | succ i =>
      obtain ⟨f',k1,k2,k3⟩:=RepL.set1 h4 hg (Zh hf.2.1 hn'.2.1 fun x hx hy=>hn'.2.2 x (List.mem_append_right _ hx) x hy rfl) (by simpa using hi)
      refine ⟨f1 ++ f',?_,Zh hf.1 k2 fun x hx hy=>?_,fun x hx=>?_⟩
      · simp only [List.set_cons_succ,RepL]
        exact ⟨u,vs'.set i v,f1,f',rfl,rfl,h3,k1⟩
      · rcases k3 x hy with hy | hy
        · exact hf.2.2 x hx x hy rfl
        · exact hn'.2.2 x (List.mem_append_left _ hx) x hy rfl
      · rcases List.mem_append.1 hx with hx | hx
        · exact .inl (List.mem_append_left _ hx)
        · rcases k3 x hx with hx | hx
          · exact .inl (List.mem_append_right _ hx)
          · exact .inr hx
theorem RepL.setSeg {μ:Nat → Nat} {I:Nat → Prop} {w:World}:∀ {es:List D} {us:List Value} {ds:List D} {vs:List Value} {f g:List Nat} {i:Nat},RepL μ I w ds vs f → RepL μ I w es us g → (f ++ g).Nodup → i + es.length ≤ ds.length →
    ∃ f',RepL μ I w (setSeg ds i es) (Vm.setSeg vs i us) f' ∧ f'.Nodup ∧ ∀ x,x ∈ f' → x ∈ f ∨ x ∈ g
  | [],us,ds,vs,f,g,i,h,hg,hn,hi=>by
    simp only [RepL] at hg
    obtain ⟨rfl,rfl⟩:=hg
    exact ⟨f,by simpa [Vm.setSeg] using h,(List.nodup_append.1 hn).1,fun x hx=>.inl hx⟩
  | e :: es,us,ds,vs,f,g,i,h,hg,hn,hi=>by
    simp only [RepL] at hg
    obtain ⟨u,us',g1,g2,rfl,rfl,h3,h4⟩:=hg
    rw [← List.append_assoc] at hn
    have hn':=List.nodup_append.1 hn
    simp only [List.length_cons] at hi
    obtain ⟨f1,k1,k2,k3⟩:=RepL.set1 h h3 hn'.1 (i:=i) (by omega)
    obtain ⟨f2,l1,l2,l3⟩:=RepL.setSeg k1 h4 (Zh k2 hn'.2.1 fun x hx hy=>hn'.2.2 x (by rcases k3 x hx with hx | hx;exact List.mem_append_left _ hx;exact List.mem_append_right _ hx) x hy rfl) (i:=i + 1) (by simp;omega)
    refine ⟨f2,l1,l2,fun x hx=>?_⟩
    rcases l3 x hx with hx | hx
    · rcases k3 x hx with hx | hx
      · exact .inl hx
      · exact .inr (List.mem_append_left _ hx)
    · exact .inr (List.mem_append_right _ hx)
theorem zafy:∀ (us:List Value) (k off:Nat) (cells:Array Value),((us.zipIdx k).foldl (fun cs (c,j)=>cs.setIfInBounds (off + j) c) cells).toList = setSeg cells.toList (off + k) us
  | [],k,off,cells=>rfl
  | u :: us,k,off,cells=>by
    simp only [List.zipIdx_cons,List.foldl_cons,setSeg]
    rw [zafy us (k + 1) off]
    simp [Nat.add_assoc]
def fillD (place:Nat → Option (Nat × Nat)):List D → List (Nat × D) → Option (List D)
  | cs,[]=>some cs
  | cs,(i,d) :: rest =>
    match place i with
    | none=>none
    | some (off,size)=>if (Xo d).length = size ∧ off + size ≤ cs.length ∧ (Xo d).all leaf = true then fillD place (setSeg cs off (Xo d)) rest else none
theorem fill_rep {μ:Nat → Nat} {I:Nat → Prop} {w:World} (place:Nat → Option (Nat × Nat)):∀ {idx:List Nat} {es:List D} {us:List Value} {ds r:List D} {cells:Array Value} {f g:List Nat},idx.length = es.length → fillD place ds (idx.zip es) = some r →
    RepL μ I w ds cells.toList f → RepL μ I w es us g → (f ++ g).Nodup → ∃ cells' f',Instr.fill place cells (idx.zip us) = some cells' ∧ cells'.size = cells.size ∧ RepL μ I w r cells'.toList f' ∧ f'.Nodup ∧ ∀ x,x ∈ f' → x ∈ f ∨ x ∈ g
  | [],es,us,ds,r,cells,f,g,hl,hf,h,hg,hn=>by
    simp [fillD] at hf
    subst hf
    exact ⟨cells,f,by simp [Instr.fill],rfl,h,(List.nodup_append.1 hn).1,fun x hx=>.inl hx⟩
  | i :: idx,[],us,ds,r,cells,f,g,hl,hf,h,hg,hn=>by simp at hl
  | i :: idx,e :: es,us,ds,r,cells,f,g,hl,hf,h,hg,hn=>by
    simp only [RepL] at hg
    obtain ⟨u,us',g1,g2,rfl,rfl,h3,h4⟩:=hg
    simp only [List.zip_cons_cons,fillD] at hf
    split at hf
    · cases hf
    · rename_i off size hp
      split at hf
      · rename_i hc
        have hcr:=zaeu hc.2.2 h3
        have hul:u.cells.size = size:=by have:=hcr.length;simp at this;omega
        rw [← List.append_assoc] at hn
        have hn':=List.nodup_append.1 hn
        have hdl:cells.size = ds.length:=by have:=h.length;simpa using this
        obtain ⟨f1,k1,k2,k3⟩:=RepL.setSeg h hcr hn'.1 (i:=off) (by omega)
        have e1:(u.cells.zipIdx.foldl (fun cs (c,j)=>cs.setIfInBounds (off + j) c) cells).toList = setSeg cells.toList off u.cells.toList:=by
          have:=zafy u.cells.toList 0 off cells
          rw [Nat.add_zero] at this
          rw [← this,← Array.foldl_toList]
          simp
        have k1':RepL μ I w (setSeg ds off (Xo e)) (u.cells.zipIdx.foldl (fun cs (c,j)=>cs.setIfInBounds (off + j) c) cells).toList f1:=by rw [e1];exact k1
        obtain ⟨cells',f',l1,l0,l2,l3,l4⟩:=fill_rep place (by simpa using hl) hf k1' h4 (Zh k2 hn'.2.1 fun x hx hy=>hn'.2.2 x (by rcases k3 x hx with hx | hx;exact List.mem_append_left _ hx;exact List.mem_append_right _ hx) x hy rfl)
        refine ⟨cells',f',?_,?_,l2,l3,fun x hx=>?_⟩
        · simp only [List.zip_cons_cons,Instr.fill,hp]
          rw [if_neg (by simp [hul];omega)]
          exact l1
        · rw [l0,← Array.length_toList,e1,zabc];simp
        · rcases l4 x hx with hx | hx
          · rcases k3 x hx with hx | hx
            · exact .inl hx
            · exact .inr (List.mem_append_left _ hx)
          · exact .inr (List.mem_append_right _ hx)
      · cases hf
theorem zahm {N:Nat}:∀ (es ds:List D) (i:Nat),bndL N ds → bndL N es → bndL N (setSeg ds i es)
  | [],ds,i,h,hg=>h
  | e :: es,ds,i,h,hg=>by
    simp only [bndL] at hg
    refine zahm es _ _ ?_ hg.2
    rw [Qi] at *
    intro d hd
    rcases List.mem_or_eq_of_mem_set hd with hd | rfl
    · exact h d hd
    · exact hg.1
theorem zagh {N:Nat} (place:Nat → Option (Nat × Nat)):∀ {idx:List Nat} {es ds r:List D},fillD place ds (idx.zip es) = some r → bndL N ds → bndL N es → bndL N r
  | [],es,ds,r,hf,h,hg=>by simp [fillD] at hf;subst hf;exact h
  | i :: idx,[],ds,r,hf,h,hg=>by simp [fillD] at hf;subst hf;exact h
  | i :: idx,e :: es,ds,r,hf,h,hg=>by
    simp only [List.zip_cons_cons,fillD] at hf
    simp only [bndL] at hg
    split at hf
    · cases hf
    · split at hf
      · exact zagh place hf (zahm _ _ _ h (zaev hg.1)) hg.2
      · cases hf
variable (P) in
def placesD (fields:Array Field):Option (List (Nat × Nat)):=fields.toList.mapM (fun f=>(τ P f.type).map fun i=>(f.offset,i.size))
theorem zafj:∀ (fs:List Field) (places:List (Nat × Nat)),fs.mapM (fun f=>(τ P f.type).map fun i=>(f.offset,i.size)) = some places → fs.mapM (fun f=>(P.info? f.type).map fun i=>(f.offset,i.size)) = some places
  | [],places,h=>by simpa using h
  | f :: fs,places,h=>by
    simp only [List.mapM_cons,Option.bind_eq_bind,Option.pure_def] at h ⊢
    cases ht:τ P f.type with
    | none=>simp [ht] at h
    | some ti =>
      obtain ⟨i,hi,h1,_⟩:=τ_spec ht
      cases hr:fs.mapM (fun f=>(τ P f.type).map fun i=>(f.offset,i.size)) with
      | none=>simp [ht,hr] at h
      | some rest =>
        simp [ht,hr] at h
        subst h
        simp [hi,zafj fs rest hr,h1]
variable (P) in
def zafn (t:Nat) (idx:List Nat) (vs:List D) (H:Hp):Res :=
  match τ P t with
  | some ⟨_,_,_,zero,.struct fields⟩ =>
    match placesD P fields with
    | some places=>⟨zero ≠ [] ∧ (fillD (places.toArray[·]?) zero (idx.zip vs)).isSome = true,.st ((fillD (places.toArray[·]?) zero (idx.zip vs)).getD []),H,none⟩
    | none=>bad H
  | _=>bad H
theorem zahe {α β γ:Type} (l:List (α × β)) (f:β → γ):l.map (fun x=>(x.1,f x.2)) = (l.map (·.1)).zip (l.map (fun x=>f x.2)):=by
  induction l with
  | nil=>rfl
  | cons a l ih=>simp [ih]
theorem sound_build (t:TypeId) (parts:Array (Nat × Operand)) (ho:o.op = .build t parts):Sound P o vals H (zafn P t (parts.toList.map (·.1)) vals H):=by
  have hx:o.op.operands.toList = parts.toList.map (·.2):=by rw [ho];simp [Op.operands]
  unfold zafn
  split
  case h_2=>exact .bad P o _ H
  rename_i zero fields ht
  split
  case h_2=>exact .bad P o _ H
  rename_i places hp
  refine .of rfl rfl fun μ I w a f N avals hr hav hn hb hpre=>?_
  obtain ⟨hz,hsome⟩:=hpre
  obtain ⟨r,hr'⟩:=Option.isSome_iff_exists.1 hsome
  obtain ⟨z,h1,⟨i,hi,hzi,h4,h5⟩,h2⟩:=zace ht hz
  obtain ⟨i',hi',_,_,hu,_⟩:=τ_spec ht
  dsimp only at h2
  have hrep:RepL μ I w zero z.cells.toList []:=by rw [h2];exact RepL.leafD _ _ _ _
  have hl:(parts.toList.map (·.1)).length = vals.length:=by
    have:=hr.length
    rw [← hav,hx] at this
    simpa using this
  obtain ⟨cells',f',k1,_,k2,k3,k4⟩:=fill_rep (places.toArray[·]?) hl hr' hrep hr (by simpa using hn)
  refine ⟨.agg cells',f',?_,?_,k3,fun x hx=>by simpa using k4 x hx,?_⟩
  · have hbuilt:P.built t (parts.map fun (i,x)=>(i,a.eval x)).toList = some cells':=by
      simp only [Program.built,hi,hu,hzi]
      rw [zafj _ _ hp]
      dsimp only
      rw [← k1,← hav,hx]
      congr 1
      simp only [Array.toList_map,List.map_map]
      exact zahe parts.toList a.eval
    simp only [execOp,ho,Sem.run_bind,run_build w t _ cells' hbuilt,Result.andThen_ok]
    rfl
  · dsimp only
    rw [hr']
    simp only [Option.getD_some,Rep]
    exact ⟨cells'.toList,by simp,k2⟩
  · dsimp only
    rw [hr']
    simp only [Option.getD_some,bnd]
    exact zagh _ hr' (by rw [h2];exact zabo _ _) hb

def makeD (zero:List D) (n:Nat):List D:=(List.range n).map fun j=>zero.getD (j % zero.length) .any
theorem zaeq (z:D) (n:Nat):makeD [z] n = List.replicate n z:=by
  unfold makeD
  apply List.ext_getElem
  · simp
  · intro i h1 h2;simp [Nat.mod_one]
theorem Jx (zero:List D) (n:Nat):(makeD zero n).length = n:=by simp [makeD]
theorem made_rep {μ:Nat → Nat} {I:Nat → Prop} {w:World} {zero:List D} {z:Array Value} (hz:zero = z.toList.map leafD) (h0:zero ≠ []) (n:Nat):RepL μ I w (makeD zero n) (madeCells z n).toList []:=by
  have hl:z.size = zero.length:=by rw [hz];simp
  have hp:0 < zero.length:=List.length_pos_iff.2 h0
  refine .build (by simp [makeD,madeCells]) fun i d v h1 h2=>?_
  simp only [makeD,List.getElem?_map] at h1
  have h2':(madeCells z n)[i]? = some v:=by simpa using h2
  simp only [madeCells,Array.getElem?_map] at h2'
  cases hr:(List.range n)[i]? with
  | none=>rw [hr] at h1;cases h1
  | some j =>
    rw [hr] at h1
    have hj:(Array.range n)[i]? = some j:=by
      rw [← Array.getElem?_toList,Array.toList_range];exact hr
    rw [hj] at h2'
    simp only [Option.map_some,Option.some.injEq] at h1 h2'
    have hm:j % zero.length < z.size:=by rw [hl];exact Nat.mod_lt _ hp
    have e1:z[j % z.size]! = z[j % zero.length]:=by rw [hl];exact getElem!_pos z _ hm
    have e2:zero.getD (j % zero.length) .any = leafD (z[j % zero.length]):=by
      subst hz
      rw [List.getD_eq_getElem?_getD,List.getElem?_map]
      rw [List.getElem?_eq_getElem (by simpa using hm)]
      simp
    rw [← h1,← h2',e1,e2]
    exact Rep.leafD _ _ _ _
theorem made_one {zero:List D} {z:Array Value} (hz:zero = z.toList.map leafD) (h0:zero ≠ []) (ha:zero.all leaf = true) (n:Nat):∀ v ∈ (madeCells z n).toList,v.oneCell' = true:=by
  intro v hv
  have hl:z.size = zero.length:=by rw [hz];simp
  have hp:0 < zero.length:=List.length_pos_iff.2 h0
  simp only [madeCells,Array.toList_map,List.mem_map] at hv
  obtain ⟨j,_,rfl⟩:=hv
  have hm:j % z.size < z.size:=Nat.mod_lt _ (by omega)
  rw [getElem!_pos z _ hm]
  have:leaf (leafD z[j % z.size]) = true:=by
    rw [List.all_eq_true] at ha
    refine ha _ ?_
    rw [hz,List.mem_map]
    exact ⟨_,by simp,rfl⟩
  exact leaf_one (μ:=id) (I:=fun _=>True) (w:=default) this (Rep.leafD ..)
theorem zagg {N:Nat} {zero:List D} (h:bndL N zero) (n:Nat):bndL N (makeD zero n):=by
  rw [Qi] at *
  intro d hd
  simp only [makeD,List.mem_map] at hd
  obtain ⟨j,_,rfl⟩:=hd
  rw [List.getD_eq_getElem?_getD]
  cases hg:zero[j % zero.length]? with
  | none=>simp [bnd]
  | some e=>exact h e (List.mem_of_getElem? hg)
theorem fr_new {μ:Nat → Nat} {I:Nat → Prop} {w:World} {sz n c:Nat} {ds:List D} {cells:Array Value} {f:List Nat} (t:TypeId) (h1:n ≤ maxLen) (h2:ds.length = n * sz) (h3:n ≤ c) (h4:c * sz ≤ cells.size) (h5:∀ v ∈ cells.toList,v.oneCell' = true)
    (hr:RepL μ I (w.alloc (.cells cells t)) ds (cells.toList.take ds.length) f):Rep μ I (w.alloc (.cells cells t)) (.fr sz n ds) (.slice (some ⟨w.heap.size,0,none⟩) n c) (w.heap.size :: f):=by
  simp only [Rep]
  refine ⟨h1,h2,.inr ⟨w.heap.size,c,cells,cells.toList.take ds.length,f,rfl,h3,Whole.new w cells t h5,h4,fun i v hv=>?_,hr,rfl⟩⟩
  rw [List.getElem?_take] at hv
  split at hv
  · simpa using hv
  · cases hv
variable (P) in
def zaaf (t len:Nat) (idx:List Nat) (vs:List D) (H:Hp):Res :=
  match τ P t with
  | some ⟨_,_,_,_,.slice e⟩ =>
    match τ P e with
    | some te=>⟨te.zero ≠ [] ∧ len * te.size ≤ 16777216 ∧ len ≤ 16777216 ∧ (fillD (fun i=>some (i * te.size,te.size)) (if len * te.size = 0 then [] else makeD te.zero (len * te.size)) (idx.zip vs)).isSome = true ∧
        ((fillD (fun i=>some (i * te.size,te.size)) (if len * te.size = 0 then [] else makeD te.zero (len * te.size)) (idx.zip vs)).getD []).all leaf = true,
        .fr te.size len ((fillD (fun i=>some (i * te.size,te.size)) (if len * te.size = 0 then [] else makeD te.zero (len * te.size)) (idx.zip vs)).getD []),H,none⟩
    | none=>bad H
  | _=>bad H
theorem zaga (place:Nat → Option (Nat × Nat)):∀ {l:List (Nat × D)} {ds r:List D},fillD place ds l = some r → r.length = ds.length
  | [],ds,r,h=>by simp [fillD] at h;rw [h]
  | (i,e) :: l,ds,r,h=>by
    simp only [fillD] at h
    split at h
    · cases h
    · split at h
      · rw [zaga place h,zabc]
      · cases h
theorem zafc (t:TypeId) (len:Nat) (parts:Array (Nat × Operand)) (ho:o.op = .buildSlice t len parts):Sound P o vals H (zaaf P t len (parts.toList.map (·.1)) vals H):=by
  have hx:o.op.operands.toList = parts.toList.map (·.2):=by rw [ho];simp [Op.operands]
  unfold zaaf
  split
  case h_2=>exact .bad P o _ H
  rename_i e ht
  split
  case h_2=>exact .bad P o _ H
  rename_i te he
  refine .ofNew rfl rfl fun μ I w a f N avals hr hav hn hb hpre hI hf=>?_
  obtain ⟨hz,h24,hlen,hsome,hleaf⟩:=hpre
  generalize hst:(if len * te.size = 0 then [] else makeD te.zero (len * te.size)) = start at hsome hleaf ⊢
  obtain ⟨r,hr'⟩:=Option.isSome_iff_exists.1 hsome
  rw [hr'] at hleaf ⊢
  simp only [Option.getD_some] at hleaf ⊢
  obtain ⟨z,h1,⟨i,hi,hzi,h4,h5⟩,h2⟩:=zace he hz
  let c0:Array Value:=(Array.range (len * te.size)).map ((if len * te.size = 0 then #[] else z.cells)[· % (if len * te.size = 0 then #[] else z.cells).size]!)
  have hl:(parts.toList.map (·.1)).length = vals.length:=by
    have:=hr.length
    rw [← hav,hx] at this
    simpa using this
  have hrep:RepL μ I w start c0.toList [] ∧ start.length = len * te.size ∧ c0.size = len * te.size ∧ bndL N start:=by
    by_cases h0:len * te.size = 0
    · simp only [h0,if_true] at hst
      subst hst
      refine ⟨?_,by simp [h0],by simp [c0],by simp [bndL]⟩
      have:c0.toList = []:=List.eq_nil_of_length_eq_zero (by simp [c0,h0])
      rw [this]
      simp [RepL]
    · rw [if_neg h0] at hst
      subst hst
      have e:c0 = madeCells z.cells (len * te.size):=by simp [c0,h0,madeCells]
      rw [e]
      refine ⟨made_rep h2 hz _,Jx _ _,by simp [madeCells],zagg (by rw [h2];exact zabo _ _) _⟩
  obtain ⟨cells',f',k1,k0,k2,k3,k4⟩:=fill_rep (fun i=>some (i * te.size,te.size)) hl hr' hrep.1 hr (by simpa using hn)
  have hk4:∀ x,x ∈ f' → x ∈ f:=fun x hx=>by simpa using k4 x hx
  have hnew:w.heap.size ∉ f':=fun hx=>Nat.lt_irrefl _ (hf _ (hk4 _ hx))
  have hrl:r.length = len * te.size:=by rw [zaga _ hr',hrep.2.1]
  have hw:=Frm.alloc w (.cells cells' e)
  refine ⟨.slice (some ⟨w.heap.size,0,none⟩) len len,w.alloc (.cells cells' e),w.heap.size :: f',?_,hw,?_,by simp [hnew,k3],?_,?_⟩
  · have hz0:(if len * te.size = 0 then (pure #[]:Sem (Array Value)) else do pure (← zeroValue e).cells).run P w = .ok (if len * te.size = 0 then #[] else z.cells) w:=by
      split <;> simp [h1]
    have h24':¬ (16777216 < len * te.size):=by omega
    have hfill:Instr.fill (fun i=>some (i * te.size,te.size)) c0 (parts.map fun (i,x)=>(i,a.eval x)).toList = some cells':=by
      rw [← k1,← hav,hx]
      congr 1
      simp only [Array.toList_map,List.map_map]
      exact zahe parts.toList a.eval
    simp only [execOp,ho,Sem.run_bind,Instr.buildSlice,Zi ht,Xw he,Result.andThen_ok,hz0]
    rw [if_neg (by omega)]
    by_cases h0:len * te.size = 0
    · have e0:c0 = Array.map (fun x=>(#[]:Array Value)[x % (#[]:Array Value).size]!) (Array.range (len * te.size)):=by simp only [c0,h0,if_true]
      rw [e0] at hfill
      rw [if_pos h0]
      simp only [pure_bind,hfill]
      simp [newRow]
    · have e0:c0 = Array.map (fun x=>z.cells[x % z.cells.size]!) (Array.range (len * te.size)):=by simp only [c0,h0,if_false]
      rw [e0] at hfill
      rw [if_neg h0]
      simp only [Sem.run_bind,h1,Result.andThen_ok,pure_bind,hfill]
      simp [newRow]
  · refine fr_new e (Nat.le_trans hlen (by decide)) hrl (Nat.le_refl _) (by rw [k0,hrep.2.2.1];exact Nat.le_refl _) (zabs hleaf k2) ?_
    rw [List.take_of_length_le (by have:=k2.length;omega)]
    exact RepL.mono (fun y hy=>⟨.inl hy,hw.same y (hI y hy) (by simp)⟩) (fun y hy=>hw.same y (hf y (hk4 y hy)) (by simp)) k2
  · intro y hy
    rcases List.mem_cons.1 hy with rfl | hy
    · exact .inr ⟨Nat.le_refl _,by simp⟩
    · exact .inl (hk4 y hy)
  · simp only [bnd]
    exact zagh _ hr' hrep.2.2.2 hb
variable (P) in
def zaai (t:Nat) (vs:List D) (H:Hp):Res :=
  match τ P t with
  | some ⟨_,_,_,_,.slice e⟩ =>
    match τ P e,vs with
    | some te,[.int _ l,.int _ c]=>⟨te.zero ≠ [] ∧ te.zero.all leaf = true ∧ 0 ≤ l ∧ l ≤ c ∧ te.bytes * c ≤ 281474976710656 ∧ c ≤ 9223372036854775807,.fr te.size l.toNat (makeD te.zero (l.toNat * te.size)),H,none⟩
    | _,_=>bad H
  | _=>bad H
theorem madeCells_take (z:Array Value) {m n:Nat} (h:m ≤ n):(madeCells z n).toList.take m = (madeCells z m).toList:=by
  simp only [madeCells,Array.toList_map,Array.toList_range,← List.map_take,List.take_range,Nat.min_eq_left h]
theorem zagl (t:TypeId) (x y:Operand) (ho:o.op = .makeSlice t x y):Sound P o vals H (zaai P t vals H):=by
  have hx:o.op.operands.toList = [x,y]:=by rw [ho];rfl
  unfold zaai
  split
  case h_2=>exact .bad P o _ H
  rename_i e ht
  split
  case h_2=>exact .bad P o _ H
  rename_i te kl l kc c he
  refine .ofNew rfl rfl fun μ I w a f N avals hr hav hn hb hpre hI hf=>?_
  rw [hx] at hav;subst hav
  obtain ⟨f1,f2,rfl,r1,r2⟩:=RepL.two hr
  simp only [Rep] at r1 r2
  obtain ⟨hz,hall,p1,p2,p3,p4⟩:=hpre
  obtain ⟨z,h1,⟨i,hi,hzi,h4,h5⟩,h2⟩:=zace he hz
  obtain ⟨_,_,_,_,hu,_⟩:=τ_spec ht
  have hrun:=run_make (P:=P) w t e i z hu hi hzi kl kc l c p1 p2 (by rw [h5];exact p3) p4
  rw [h4] at hrun
  refine ⟨_,_,[w.heap.size],by simp [execOp,ho,r1.2,r2.2,hrun];exact ⟨rfl,rfl⟩,Frm.alloc _ _,?_,by simp,by simp,?_⟩
  · refine fr_new e (by unfold maxLen;omega) (Jx _ _) (by omega) (by simp [madeCells]) (made_one h2 hz hall _) ?_
    rw [Jx,madeCells_take _ (Nat.mul_le_mul_right _ (by omega))]
    exact made_rep h2 hz _
  · simp only [bnd];exact zagg (by rw [h2];exact zabo _ _) _
end
section
variable {P:Program} {o:Oper} {vals:List D} {H:Hp}

def srcD (H:Hp) (size:Nat):D → Option (Nat × List D)
  | .nil=>some (0,[])
  | .list m cs=>some (m,cs)
  | .fr _ m cs=>some (m,cs)
  | .sl b _ i m _=>match H b with
    | some all=>some (m,(all.drop i).take (m * size))
    | none=>none
  | .str s=>some (s.length,s.map fun b=>.int .u8 b.toNat)
  | _=>none
def isStr:D → Bool
  | .str _=>true
  | _=>false
theorem src_spec {size:Nat} (h0:0 < size) {B:Base} {n:Nat} {T:Nat → D} {ds:List D} {vs:List Value} {a:Act} {w:World} {μ:Nat → Nat} {fp:Root → List Nat} {N:Nat} (hR:R B n ⟨T,H⟩ ds vs a w μ fp N) {tx e':TypeId} {s:D} {u:Value} {g:List Nat}
    (hr:Rep μ (Im B w fp) w s u g) (htx:if isStr s then P.underlying tx = some .string ∧ size = 1 else P.underlying tx = some (.slice e')) {m:Nat} {ys:List D} (hs:srcD H size s = some (m,ys)) (hl:ys.length = m * size) (ho:owns s = false → ownsL ys = false) (hbs:bnd N s) :
    ∃ news g',Src P size tx u m news w ∧ RepL μ (Im B w fp) w ys news g' ∧ (∀ x,x ∈ g' → x ∈ g) ∧ (g.Nodup → g'.Nodup) ∧ bndL N ys:=by
  have slc:∀ (A:Option Addr) (c:Nat) (news:List Value),news.length = m * size → (A = none → m = 0) → (∀ b,A = some b → ∀ j v,news[j]? = some v → w.cell? (b.add j) = some v) → (∀ v ∈ news,v.oneCell' = true) → isStr s = false → Src P size tx (.slice A m c) m news w:=by
    intro A c news h1 h0 h2 h3 h4
    rw [h4] at htx
    cases A with
    | none =>
      have:=h0 rfl
      subst this
      have:news = []:=List.eq_nil_of_length_eq_zero (by simpa using h1)
      subst this
      exact Src.ofNil w htx c
    | some b=>exact Src.ofSlice w htx b m c news h1 (h2 b rfl) h3
  cases s <;> simp only [srcD] at hs <;> try (cases hs;done)
  · cases hs
    simp only [Rep] at hr
    obtain ⟨rfl,A,rfl⟩:=hr
    refine ⟨[],[],slc A 0 [] (by simp) (fun _=>rfl) (by simp) (by simp) rfl,by simp [RepL],by simp,fun _=>.nil,by simp [bndL]⟩
  · rename_i st
    cases hs
    simp only [Rep] at hr
    obtain ⟨rfl,rfl⟩:=hr
    simp only [isStr,if_true] at htx
    have e:st.map (fun b=>(D.int .u8 b.toNat)) = st.map fun b=>D.int .u8 b.toNat:=rfl
    have hby:byteCells (mkS st) = st.map fun b=>Value.int .u8 b.toNat:=by simp [byteCells,mkS]
    have:=Src.ofString (P:=P) w htx.1 (mkS st)
    rw [zafs] at this
    refine ⟨byteCells (mkS st),[],by rw [htx.2];exact this,?_,by simp,fun _=>.nil,?_⟩
    · rw [hby]
      refine .build (by simp) fun i d v h1 h2=>?_
      rw [List.getElem?_map] at h1 h2
      cases hi:st[i]? with
      | none=>rw [hi] at h1;cases h1
      | some x =>
        rw [hi] at h1 h2
        simp at h1 h2
        subst h1;subst h2
        simp [Rep]
    · rw [Qi]
      intro d hd
      rw [List.mem_map] at hd
      obtain ⟨x,_,rfl⟩:=hd
      simp [bnd]
  · cases hs
    simp only [Rep] at hr
    obtain ⟨rfl,hmax,A,c,vs,rfl,hmc,hA,hrep⟩:=hr
    have hvl:=hrep.length
    simp only [bnd] at hbs
    refine ⟨vs,[],slc A c vs (by omega) (fun hA'=>?_) (fun b hb j v hv=>?_) (fun v hv=>?_) rfl,hrep,by simp,fun _=>.nil,hbs⟩
    · rcases hA with rfl | ⟨b,i,rfl,_⟩
      · have h1:=hl.symm;simp only [List.length_nil] at h1
        rcases Nat.mul_eq_zero.1 h1 with h | h
        · exact h
        · omega
      · cases hA'
    · rcases hA with rfl | ⟨b',i,rfl,hI,hseg⟩
      · simp at hvl;subst hvl;simp at hv
      · cases hb;rw [Addr.add_lit];exact hseg.cell hv
    · rcases hA with rfl | ⟨b',i,rfl,hI,hseg⟩
      · simp at hvl;subst hvl;simp at hv
      · obtain ⟨_,_,_,_,_,h3⟩:=hseg;exact h3 v hv
  · cases hs
    simp only [Rep] at hr
    simp only [bnd] at hbs
    obtain ⟨hmax,hlen,hr⟩:=hr
    rcases hr with ⟨rfl,rfl,A,rfl⟩ | ⟨b,c,cells,vs,f,rfl,hmc,hw,hsz,hcell,hrep,rfl⟩
    · have:ys = []:=List.eq_nil_of_length_eq_zero (by simpa using hl)
      subst this
      exact ⟨[],[],slc A 0 [] (by simp) (fun _=>rfl) (by simp) (by simp) rfl,by simp [RepL],by simp,fun _=>.nil,by simp [bndL]⟩
    · have hvl:=hrep.length
      refine ⟨vs,f,slc _ c vs (by omega) (fun h=>by cases h) (fun b' hb j v hv=>?_) (fun v hv=>?_) rfl,hrep,by simp +contextual,fun h=>(List.nodup_cons.1 h).2,hbs⟩
      · cases hb;rw [Addr.add_lit,Nat.zero_add];exact hw.cell (hcell j v hv)
      · obtain ⟨j,hj⟩:=List.getElem?_of_mem hv
        obtain ⟨t,_,h3⟩:=hw
        exact h3 j v (hcell j v hj)
  · rename_i b sz i m' c
    split at hs
    · rename_i all hall
      cases hs
      simp only [Rep] at hr
      obtain ⟨rfl,hmc,hmax,⟨A,rfl⟩,hv⟩:=hr
      have ho:=ho rfl
      have hbn:bndL N ((all.drop i).take (m * size)):=zabw (zack (hR.bH b all hall).2 _) _
      by_cases h0:m = 0
      · subst h0
        have:(all.drop i).take (0 * size) = []:=by simp
        rw [this]
        exact ⟨[],[],slc A c [] (by simp) (fun _=>rfl) (by simp) (by simp) rfl,by simp [RepL],by simp,fun _=>.nil,by simp [bndL]⟩
      · have hv := hv.resolve_left (by omega)
        cases hv
        by_cases hs0:m * size = 0
        · rw [hs0] at hl ⊢
          simp only [List.take_zero]
          exact ⟨[],[],slc _ c [] (by simp [hs0]) (fun h=>by cases h) (by simp) (by simp) rfl,by simp [RepL],by simp,fun _=>.nil,by simp [bndL]⟩
        · rcases hR.hp b all hall with ⟨k,_⟩ | ⟨cells,k1,k2,k3,k4,k5⟩ | ⟨kodd,_⟩
          rotate_left 2
          · have hpar:=hbs;simp only [bnd] at hpar;omega
          · subst k;simp at hl;omega
          · rw [List.length_take,List.length_drop] at hl
            have hcl:((cells.toList.drop i).take (m * size)).length = m * size:=by simp;omega
            have hrep:RepL μ (Im B w fp) w ((all.drop i).take (m * size)) ((cells.toList.drop i).take (m * size)) []:=by
              refine .build (by rw [hcl,List.length_take,List.length_drop];omega) fun j d v h1 h2=>?_
              have h1':=h1
              rw [List.getElem?_take] at h1 h2
              split at h1
              · rename_i hj
                rw [if_pos hj] at h2
                rw [List.getElem?_drop] at h1 h2
                obtain ⟨v',q1,q2⟩:=k4 _ _ h1
                have:cells[i + j]? = some v:=by simpa using h2
                rw [q1] at this;cases this
                have:=q2.free (zadg.1 ho _ (List.mem_of_getElem? h1'))
                rwa [this] at q2
              · cases h1
            refine ⟨_,[],slc _ c _ hcl (fun h=>by cases h) (fun b' hb j v hv=>?_) (fun v hv=>?_) rfl,hrep,by simp,fun _=>.nil,hbn⟩
            · cases hb
              rw [Addr.add_lit]
              rw [List.getElem?_take] at hv
              split at hv
              · rw [List.getElem?_drop] at hv
                exact k1.cell (by simpa using hv)
              · cases hv
            · have hm:=List.mem_of_mem_drop (List.mem_of_mem_take hv)
              obtain ⟨j,hj⟩:=List.getElem?_of_mem hm
              obtain ⟨t,_,h3⟩:=k1
              exact h3 j v (by simpa using hj)
    · cases hs

theorem zade {α:Type}:∀ (us cs:List α) (i j:Nat),i + us.length ≤ cs.length → (setSeg cs i us)[j]? = if i ≤ j ∧ j < i + us.length then us[j - i]? else cs[j]?
  | [],cs,i,j,h=>by simp [setSeg];omega
  | u :: us,cs,i,j,h=>by
    simp only [List.length_cons] at h
    rw [setSeg,zade us _ (i + 1) j (by simp;omega)]
    by_cases h1:i + 1 ≤ j ∧ j < i + 1 + us.length
    · rw [if_pos h1,if_pos (by simp;omega)]
      rw [show j - i = (j - (i + 1)) + 1 by omega]
      simp
    · rw [if_neg h1]
      by_cases h2:j = i
      · subst h2
        rw [if_pos (by simp),List.getElem?_set_self (by omega)]
        simp
      · rw [if_neg (by simp;omega),List.getElem?_set_ne (fun h=>h2 h.symm)]
theorem zaeg (b:Nat):∀ (vs:List Value) (i:Nat) (w:World) (cells:Array Value) (t:TypeId),w.heap[b]? = some (.cells cells t (0,0)) → ∃ cells':Array Value,(w.setCells b i vs).heap[b]? = some (.cells cells' t (0,0)) ∧ cells'.toList = setSeg cells.toList i vs ∧ Frm w (fun x=>x = b) (w.setCells b i vs)
  | [],i,w,cells,t,h=>⟨cells,h,rfl,Frm.refl _ _⟩
  | v :: vs,i,w,cells,t,h=>by
    have h1:=heap_setCell_same w b i cells t v h
    obtain ⟨cells',k1,k2,k3⟩:=zaeg b vs (i + 1) (w.setCell ⟨b,i,none⟩ v) _ t h1
    refine ⟨cells',k1,by rw [k2];simp [setSeg],⟨k3.os,k3.tape,k3.output,?_,fun x hx hn=>?_⟩⟩
    · have:=k3.size;rwa [World.size_setCell] at this
    · rw [World.setCells,k3.same x (by rw [World.size_setCell];exact hx) hn]
      exact heap_setCell_other w _ x v hn

theorem zahk (w:World) (need old:Nat) (e:TypeId):need ≤ grownCap w need old e:=by
  unfold grownCap;simp [Question.cut]
theorem Frm.trans {w w' w'':World} {K:Nat → Prop} (h:Frm w K w') (k:Frm w' (fun _=>False) w''):Frm w K w'' :=
  ⟨k.os.trans h.os,k.tape.trans h.tape,k.output.trans h.output,Nat.le_trans h.size k.size,fun b hb hf=>(k.same b (Nat.lt_of_lt_of_le hb h.size) (by simp)).trans (h.same b hb hf)⟩

theorem zahn {B:Base} {n:Nat} {S:St} {ds:List D} {vs:List Value} {a:Act} {w:World} {μ:Nat → Nat} {fp:Root → List Nat} {N sz m k:Nat} {cs ys:List D} {v u:Value} {news:List Value} {g:List Nat} {t tx ty e:TypeId} {te:Ti}
    (hR:R B n S (.fr sz m cs :: ds) (v :: vs) a w μ fp N) (ht:P.underlying t = some (.slice e)) (he:τ P e = some te) (hsz:sz = te.size) (hz:te.zero ≠ []) (hzl:te.zero.length = te.size) (hza:te.zero.all leaf = true) (hs0:0 < te.size)
    (hsrc:Src P te.size tx u k news w) (hy:RepL μ (Im B w fp) w ys news g) {f1 f2:List Nat} (hf:fp .bag = f1 ++ f2) (h1:Rep μ (Im B w fp) w (.fr sz m cs) v f1) (hgs:∀ x,x ∈ g → x ∈ f2) (hgn:g.Nodup) (hyl:ys.length = k * te.size) (hyb:bndL N ys)
    (hmax:m + k ≤ maxLen) (hbytes:2 * (m + k) * te.bytes ≤ 281474976710656) :
    ∃ v' w' fp',(Builtin.append_ #[t,tx] ty #[v,u]).run P w = .ok v' w' ∧ R B n S [.fr sz (m + k) (cs ++ ys)] [v'] a w' μ fp' N:=by
  subst hsz
  obtain ⟨z,_,⟨i,hi,hzi,hsi,hbi⟩,hzz⟩:=zace he hz
  have hbag:∀ x,x ∈ f1 ∨ x ∈ g → x ∈ fp .bag:=fun x hx=>by rw [hf];rcases hx with hx | hx;exact List.mem_append_left _ hx;exact List.mem_append_right _ (hgs x hx)
  have hbn:bndL N (cs ++ ys):=by
    have hb:=hR.bB
    simp only [bndL,bnd] at hb
    rw [Qi] at *
    intro d hd
    rcases List.mem_append.1 hd with hd | hd
    · exact hb.1 d hd
    · exact hyb d hd
  have hnod:(f1 ++ g).Nodup:=by
    have hn:(f1 ++ f2).Nodup:=hf ▸ hR.nod .bag
    refine Zh (List.nodup_append.1 hn).1 hgn fun x hx hy=>(List.nodup_append.1 hn).2.2 x hx x (hgs x hy) rfl
  simp only [Rep] at h1
  obtain ⟨hm1,hcl,h1⟩:=h1
  have hlen:(cs ++ ys).length = (m + k) * te.size:=by rw [List.length_append,hcl,hyl,Nat.add_mul]
  have hnl:news.length = k * te.size:=by rw [hy.length,hyl]
  -- a new row
  have grow : ∀ (base:Option Addr) (c:Nat) (olds:List Value) (f:List Nat),v = .slice base m c → c < m + k → (∀ x,x ∈ f → x ∈ f1) → (f ++ g).Nodup → RepL μ (Im B w fp) w cs olds f → (Builtin.firstCells i.size m (.slice base m c)).run P w.drew = .ok olds.toArray w.drew →
      ∃ v' w' fp',(Builtin.append_ #[t,tx] ty #[v,u]).run P w = .ok v' w' ∧ R B n S [.fr te.size (m + k) (cs ++ ys)] [v'] a w' μ fp' N:=by
    intro base c olds f hv hc hfs hfn hrep hfirst
    have hrun:=run_append_grow_src (P:=P) w t tx ty e i z ht hi hzi base m c olds hfirst u k news (by rw [hsi];exact hsrc) hc (by unfold maxLen at hmax;omega) (by
      have:=nextslicecap_le hc
      rw [hbi]
      exact Nat.le_trans (Nat.mul_le_mul_right _ this) hbytes)
    let c1:=grownCap w (m + k) c e
    have hc1:=zahk w (m + k) c e
    let cells:=(olds ++ news).toArray ++ Builtin.zeroCells z.cells (c1 - (m + k))
    have hfr:Frm w (fun _=>False) (w.drew.alloc (.cells cells e)):=(Frm.drew w).trans0 (Frm.alloc _ _)
    have hnew:∀ x,x ∈ f ++ g → x < w.heap.size:=fun x hx=>by
      rcases List.mem_append.1 hx with hx | hx
      · exact (hR.own _ x (hbag x (.inl (hfs x hx)))).2
      · exact (hR.own _ x (hbag x (.inr hx))).2
    have hol:olds.length = m * te.size:=by rw [hrep.length,hcl]
    have hzs:z.cells.size = te.size:=by rw [← hzl,hzz];simp
    have hcells:cells.size = c1 * te.size:=by
      simp only [cells,Array.size_append,Builtin.zeroCells,Array.size_map,Array.size_range,List.size_toArray,List.length_append,hol,hnl,hzs]
      rw [← Nat.add_mul,← Nat.add_mul]
      congr 1;omega
    have hrep2:RepL μ (Im B w fp) w (cs ++ ys) (olds ++ news) (f ++ g):=RepL.append hy hrep
    have hjunk:∀ x ∈ (Builtin.zeroCells z.cells (c1 - (m + k))).toList,x.oneCell' = true:=by
      have:Builtin.zeroCells z.cells (c1 - (m + k)) = madeCells z.cells ((c1 - (m + k)) * z.cells.size):=rfl
      rw [this]
      exact made_one hzz hz hza _
    have hcs:∀ x ∈ olds,x.oneCell' = true:=by
      intro x hx
      rcases h1 with ⟨rfl,rfl,_⟩ | ⟨b,c',cells',vs',f',hv',_,hw,_,hcell,hrep',_⟩
      · have:olds = []:=List.eq_nil_of_length_eq_zero (by rw [hol];simp)
        subst this;cases hx
      · rw [hv] at hv'
        cases hv'
        have e1:=run_firstCells_some (P:=P) w.drew i.size m ⟨b,0,none⟩ m c vs' (by rw [hrep'.length,hcl,hsi]) fun j y hy=>by
          rw [Addr.add_lit,Nat.zero_add]
          exact (hw.mono (w':=w.drew) rfl).cell (hcell j y hy)
        rw [hfirst] at e1
        simp at e1
        subst e1
        obtain ⟨j,hj⟩:=List.getElem?_of_mem hx
        obtain ⟨_,_,h3⟩:=hw
        exact h3 j x (hcell j x hj)
    obtain ⟨fp',hR'⟩:=hR.resNew (hfr.weaken (by simp)) (d:=.fr te.size (m + k) (cs ++ ys)) (v:=.slice (some ⟨w.heap.size,0,none⟩) (m + k) c1) (f:=w.heap.size :: (f ++ g)) (by
        refine fr_new (w:=w.drew) e hmax hlen hc1 (by rw [hcells];exact Nat.le_refl _) ?_ ?_
        · intro x hx
          simp only [cells,Array.toList_append,List.mem_append] at hx
          rcases hx with (hx | hx) | hx
          · exact hcs x hx
          · exact hsrc.one x hx
          · exact hjunk x hx
        · have e1:cells.toList.take (cs ++ ys).length = olds ++ news:=by
            simp only [cells,Array.toList_append]
            rw [List.take_append_of_le_length (by rw [← hrep2.length];exact Nat.le_refl _),List.take_of_length_le (by rw [← hrep2.length];exact Nat.le_refl _)]
          rw [e1]
          exact RepL.mono (fun y hy=>⟨.inl hy,hfr.same y hy.1 (by simp)⟩) (fun y hy=>hfr.same y (hnew y hy) (by simp)) hrep2)
      (by rw [List.nodup_cons];exact ⟨fun hx=>Nat.lt_irrefl _ (hnew _ hx),hfn⟩)
      (by
        intro x hx
        rcases List.mem_cons.1 hx with rfl | hx
        · exact .inr ⟨Nat.le_refl _,by show w.heap.size < (w.drew.alloc (.cells cells e)).heap.size;rw [World.size_alloc];exact Nat.lt_succ_self _⟩
        · rcases List.mem_append.1 hx with hx | hx
          · exact .inl (hbag x (.inl (hfs x hx)))
          · exact .inl (hbag x (.inr hx)))
      (by simp only [bnd];exact hbn)
    exact ⟨_,_,fp',by rw [hv];exact hrun,hR'⟩
  rcases h1 with ⟨rfl,rfl,A,hv⟩ | ⟨b,c,cells,us,f,hv,hmc,hw,hcs,hcell,hrep,rfl⟩
  · have hc0:cs = []:=List.eq_nil_of_length_eq_zero (by simpa using hcl)
    subst hc0
    by_cases hk:k = 0
    · subst hk
      have:ys = []:=List.eq_nil_of_length_eq_zero (by simpa using hyl)
      subst this
      have hn0:news = []:=List.eq_nil_of_length_eq_zero (by simpa using hnl)
      subst hn0
      obtain ⟨fp',hR'⟩:=hR.res0 (d:=.fr te.size (0 + 0) ([] ++ [])) (v:=.slice A 0 0) (by simp only [Rep];exact ⟨by simp,by simp,.inl ⟨by simp,trivial,A,by simp⟩⟩) (by simp only [bnd];exact hbn)
      refine ⟨.slice A 0 0,w,fp',?_,hR'⟩
      have hlen0:=hsrc.len
      cases A with
      | none=>rcases hsrc.kind with ⟨e',hk⟩ | hk <;> simp [hv,Builtin.append_,run_underlying ht,run_underlying hk,sizeOf,typeInfo,hi,hlen0,hsi,hsrc.cells]
      | some b=>rcases hsrc.kind with ⟨e',hk⟩ | hk <;> simp [hv,Builtin.append_,run_underlying ht,run_underlying hk,sizeOf,typeInfo,hi,hlen0,hsi,hsrc.cells,storeCells]
    · refine grow A 0 [] [] hv (by omega) (by simp) (by simpa using hgn) (by simp [RepL]) ?_
      cases A with
      | none=>exact run_firstCells_none _ _ _ _ _
      | some b=>exact run_firstCells_some _ _ 0 b 0 0 [] (by simp) (by simp)
  · have hnb:b ∉ f ∧ f.Nodup:=by
      have:=(List.nodup_append.1 hnod).1
      exact List.nodup_cons.1 this
    have hfg:(f ++ g).Nodup:=by
      have:=hnod
      rw [List.cons_append,List.nodup_cons] at this
      exact this.2
    have hbg':b ∉ g:=fun hx=>(List.nodup_append.1 hnod).2.2 b (by simp) b hx rfl
    have hul:=hrep.length
    by_cases hroom:m + k ≤ c
    · obtain ⟨ty0,hheap,hone⟩:=hw
      have hbd:m * te.size + news.length ≤ cells.size:=by
        rw [hnl,← Nat.add_mul]
        exact Nat.le_trans (Nat.mul_le_mul_right _ hroom) hcs
      have hrun:=run_append_room_src (P:=P) w t tx ty e i ht hi b 0 m c u k news (by rw [hsi];exact hsrc) hroom (by
          intro j hj
          rw [hsi,Nat.zero_add]
          simp only [World.cell?,hheap]
          simp;omega) (by intro j hj;simp [World.frozen?,hheap])
      rw [hsi,Nat.zero_add] at hrun
      obtain ⟨cells',k1,k2,k3⟩:=zaeg b news (m * te.size) w cells ty0 hheap
      have hsz':cells'.size = cells.size:=by rw [← Array.length_toList,k2,zabc];simp
      have hother:∀ x,x < w.heap.size → x ≠ b → (w.setCells b (m * te.size) news).heap[x]? = w.heap[x]?:=fun x hx hn=>k3.same x hx hn
      have hbb:b ∈ fp .bag:=hbag b (.inl (by simp))
      have hrep2:RepL μ (Im B w fp) w (cs ++ ys) (us ++ news) (f ++ g):=RepL.append hy hrep
      have hget:∀ (j:Nat) (x:Value),(us ++ news)[j]? = some x → cells'[j]? = some x:=by
        intro j x hj
        rw [← Array.getElem?_toList,k2,zade _ _ _ _ (by rw [Array.length_toList];exact hbd)]
        by_cases hlt:j < us.length
        · rw [List.getElem?_append_left hlt] at hj
          rw [if_neg (by omega)]
          simpa using hcell j x hj
        · rw [List.getElem?_append_right (by omega)] at hj
          have hjl:j - us.length < news.length:=by
            rcases Nat.lt_or_ge (j - us.length) news.length with h | h
            · exact h
            · rw [List.getElem?_eq_none h] at hj;cases hj
          rw [if_pos (by omega),show j - m * te.size = j - us.length by omega]
          exact hj
      obtain ⟨fp',hR'⟩:=hR.resNew (k3.weaken (fun x hx=>by subst hx;exact hbb)) (d:=.fr te.size (m + k) (cs ++ ys)) (v:=.slice (some ⟨b,0,none⟩) (m + k) c) (f:=b :: (f ++ g)) (by
          simp only [Rep]
          refine ⟨hmax,hlen,.inr ⟨b,c,cells',us ++ news,f ++ g,rfl,hroom,⟨ty0,k1,fun j x hj=>?_⟩,by rw [hsz'];exact hcs,hget,?_,rfl⟩⟩
          · rw [← Array.getElem?_toList,k2,zade _ _ _ _ (by rw [Array.length_toList];exact hbd)] at hj
            split at hj
            · exact hsrc.one x (List.mem_of_getElem? hj)
            · exact hone j x (by simpa using hj)
          · refine RepL.mono (fun y hy=>⟨.inl hy,hother y hy.1 fun e=>?_⟩) (fun y hy=>hother y ?_ fun e=>?_) hrep2
            · subst e;exact hy.2.2 _ hbb
            · rcases List.mem_append.1 hy with hy | hy
              · exact (hR.own _ y (hbag y (.inl (by simp [hy])))).2
              · exact (hR.own _ y (hbag y (.inr hy))).2
            · subst e
              rcases List.mem_append.1 hy with hy | hy
              · exact hnb.1 hy
              · exact hbg' hy)
        (by rw [List.nodup_cons];exact ⟨fun hx=>by rcases List.mem_append.1 hx with hx | hx;exact hnb.1 hx;exact hbg' hx,hfg⟩)
        (by
          intro x hx
          rcases List.mem_cons.1 hx with rfl | hx
          · exact .inl hbb
          · rcases List.mem_append.1 hx with hx | hx
            · exact .inl (hbag x (.inl (by simp [hx])))
            · exact .inl (hbag x (.inr hx)))
        (by simp only [bnd];exact hbn)
      exact ⟨_,_,fp',by rw [hv];exact hrun,hR'⟩
    · refine grow _ c us f hv (by omega) (fun x hx=>by simp [hx]) hfg hrep ?_
      refine run_firstCells_some _ _ _ _ _ _ us (by rw [hul,hcl,hsi]) fun j y hy=>?_
      rw [Addr.add_lit,Nat.zero_add]
      exact (hw.mono (w':=w.drew) rfl).cell (hcell j y hy)

variable (P) in
def appPre (te:Ti) (tx k:Nat) (s:D) (ys:List D):Prop :=
  te.zero ≠ [] ∧ te.zero.length = te.size ∧ te.zero.all leaf = true ∧ 0 < te.size ∧ ys.length = k * te.size ∧ (owns s = false → ownsL ys = false) ∧ ∃ e',if isStr s then P.underlying tx = some .string ∧ te.size = 1 else P.underlying tx = some (.slice e')
variable (P) in
def zacq (t tx:Nat) (vs:List D) (H:Hp):Res :=
  match τ P t with
  | some ⟨_,_,_,_,.slice e⟩ =>
    match τ P e,vs with
    | some te,[d,s] =>
      match srcD H te.size s with
      | some (k,ys) =>
        match d with
        | .nil=>⟨appPre P te tx k s ys ∧ k ≤ 9223372036854775807 ∧ 2 * k * te.bytes ≤ 281474976710656,.fr te.size k ys,H,none⟩
        | .fr sz m cs=>⟨appPre P te tx k s ys ∧ sz = te.size ∧ m + k ≤ 9223372036854775807 ∧ 2 * (m + k) * te.bytes ≤ 281474976710656,.fr te.size (m + k) (cs ++ ys),H,none⟩
        | .sl b sz i m c =>
          match H b with
          | some all=>⟨appPre P te tx k s ys ∧ sz = te.size ∧ i = 0 ∧ m * te.size ≤ all.length ∧ c * te.size ≤ all.length ∧ m + k ≤ 9223372036854775807 ∧ 2 * (m + k) * te.bytes ≤ 281474976710656,
              .fr te.size (m + k) (all.take (m * te.size) ++ ys),upd H b none,none⟩
          | none=>bad H
        | _=>bad H
      | none=>bad H
    | _,_=>bad H
  | _=>bad H
theorem zagk {t tx ty e:TypeId} {ti te:Ti} {d:D} {k:Nat} {s:D} {ys:List D} (ht:τ P t = some ti) (hd:ti.desc = .slice e) (he:τ P e = some te) (hp:appPre P te tx k s ys)
    {B:Base} {n:Nat} {T:Nat → D} {H H':Hp} {a:Act} {w:World} {μ:Nat → Nat} {fp fp':Root → List Nat} {N m:Nat} {cs:List D} {v u:Value} (hR:R B n ⟨T,H⟩ [d,s] [v,u] a w μ fp N) (hs:srcD H te.size s = some (k,ys))
    (hR':R B n ⟨T,H'⟩ [.fr te.size m cs,s] [v,u] a w μ fp' N) (hsub:∀ r x,x ∈ fp' r → ∃ r',x ∈ fp r') (hmax:m + k ≤ 9223372036854775807) (hbytes:2 * (m + k) * te.bytes ≤ 281474976710656) :
    ∃ v' w' fp',(Builtin.append_ #[t,tx] ty #[v,u]).run P w = .ok v' w' ∧ R B n ⟨T,H'⟩ [.fr te.size (m + k) (cs ++ ys)] [v'] a w' μ fp' N:=by
  obtain ⟨p1,p2,p3,p4,p5,p6,e',p7⟩:=hp
  obtain ⟨_,_,_,_,hu,_⟩:=τ_spec ht
  rw [hd] at hu
  have hm:m + k ≤ maxLen:=by unfold maxLen;omega
  obtain ⟨f1,f2,hf,r1,r2⟩:=RepL.two hR'.bg
  have hn:(f1 ++ f2).Nodup:=hf ▸ hR'.nod .bag
  have hb':=hR'.bB
  simp only [bndL] at hb'
  by_cases ho:owns s = true
  · -- what is appended is owned: it is no slice of a named block
    have hs':srcD H' te.size s = some (k,ys):=by
      cases s with
      | fr sz m cs=>exact hs
      | _=>first | (simp [owns] at ho;done) | (simp [srcD] at hs;done)
    obtain ⟨news,g,q1,q2,q3,q4,q5⟩:=src_spec (P:=P) p4 hR' r2 p7 hs' p5 p6 hb'.2.1
    exact zahn hR' hu he rfl p1 p2 p3 p4 q1 q2 hf r1 q3 (q4 (List.nodup_append.1 hn).2.1) p5 q5 hm hbytes
  · have ho:owns s = false:=by simpa using ho
    obtain ⟨g1,g2,hg,s1,s2⟩:=RepL.two hR.bg
    have hb:=hR.bB
    simp only [bndL] at hb
    obtain ⟨news,g,q1,q2,q3,q4,q5⟩:=src_spec (P:=P) p4 hR s2 p7 hs p5 p6 hb.2.1
    have:g2 = []:=s2.free ho
    subst this
    have:g = []:=List.eq_nil_iff_forall_not_mem.2 fun x hx=>by cases q3 x hx
    subst this
    exact zahn hR' hu he rfl p1 p2 p3 p4 q1 (q2.sub hsub) hf r1 (by simp) .nil p5 q5 hm hbytes
theorem sound_append (t tx:TypeId) (x y:Operand) (ho:o.op = .call { callee:=.builtin .append,args:=#[x,y],argTypes:=#[t,tx] }):Sound P o vals H (zacq P t tx vals H):=by
  have hx:o.op.operands.toList = [x,y]:=by rw [ho];rfl
  unfold zacq
  split
  case h_2=>exact .bad P o _ H
  rename_i size bytes agg zero e ht
  split
  case h_2=>exact .bad P o _ H
  rename_i te d s he
  split
  case h_2=>exact .bad P o _ H
  rename_i k ys hs
  have fin:∀ {B:Base} {n:Nat} {T:Nat → D} {H':Hp} {a:Act} {w:World} {μ:Nat → Nat} {N:Nat} {val:D} (next:Act → World → Prop) (Q:Exit → Act → World → Prop),
      (∃ v' w' fp',(Builtin.append_ #[t,tx] o.type #[a.eval x,a.eval y]).run P w = .ok v' w' ∧ R B n ⟨T,H'⟩ [val] [v'] a w' μ fp' N) →
      (∀ v w' μ' fp' N',R B n ⟨T,H'⟩ (val :: (none:Option D).toList) (v :: (none:Option D).toList.map fun _=>[a.eval x,a.eval y].headD undef) a w' μ' fp' N' → next (a.put o.dst v) w') → o.wp P a w next Q:=by
    intro B n T H' a w μ N val next Q hex hk
    obtain ⟨v',w',fp',h1,h2⟩:=hex
    unfold Oper.wp
    have:(execOp a.eval o).run P w = .ok (.value v') w':=by simp [execOp,ho,resolve,invoke,builtin,h1]
    rw [this]
    exact hk v' w' μ fp' N h2
  split
  case h_4=>exact .bad P o _ H
  · intro B n T a w μ fp N avals hR hav hpre next Q hk
    rw [hx] at hav;subst hav
    obtain ⟨hp,h1,h2⟩:=hpre
    refine fin (μ:=μ) (N:=N) next Q ?_ hk
    have hR':R B n ⟨T,H⟩ [.fr te.size 0 [],s] (List.map a.eval [x,y]) a w μ fp N :=
      { hR with
        bg:=by
          have:=hR.bg
          simp only [RepL] at this ⊢
          obtain ⟨v,vs',f1,f2,g1,g2,g3,g4⟩:=this
          refine ⟨v,vs',f1,f2,g1,g2,?_,g4⟩
          simp only [Rep] at g3 ⊢
          obtain ⟨rfl,A,hA⟩:=g3
          exact ⟨by simp,by simp,.inl ⟨by simp,by simp,A,hA⟩⟩
        bB:=by have:=hR.bB;simp only [bndL,bnd] at this ⊢;exact ⟨trivial,this.2⟩ }
    have:=zagk (ty:=o.type) ht rfl he hp hR hs hR' (fun r x hx=>⟨r,hx⟩) (by omega) (by simpa using h2)
    simpa using this
  · rename_i sz m cs
    intro B n T a w μ fp N avals hR hav hpre next Q hk
    rw [hx] at hav;subst hav
    obtain ⟨hp,rfl,h1,h2⟩:=hpre
    exact fin (μ:=μ) (N:=N) next Q (zagk (ty:=o.type) ht rfl he hp hR hs hR (fun r x hx=>⟨r,hx⟩) h1 h2) hk
  · rename_i b sz i m c
    split
    case h_2=>exact .bad P o _ H
    rename_i all hall
    intro B n T a w μ fp N avals hR hav hpre next Q hk
    rw [hx] at hav;subst hav
    obtain ⟨hp,rfl,rfl,h3,h4,h1,h2⟩:=hpre
    obtain ⟨fp',hR',hsub⟩:=hR.unname hall hp.2.2.2.1 h3 h4
    exact fin (μ:=μ) (N:=N) next Q (zagk (ty:=o.type) ht rfl he hp hR hs hR' hsub h1 h2) hk
end
section
variable {P:Program} {o:Oper} {vals:List D} {H:Hp}

theorem R.store1 {B:Base} {n:Nat} {S:St} {d:D} {ds:List D} {v:Value} {vs:List Value} {a:Act} {w:World} {μ:Nat → Nat} {fp:Root → List Nat} {N b i:Nat} {cs:List D} (h:R B n S (d :: ds) (v :: vs) a w μ fp N) (hc:S.H b = some cs) (hnm:NoMap b cs) (hi:i < cs.length) (hv:v.oneCell' = true) :
    ∃ fp',R B n ⟨S.T,upd S.H b (some (cs.set i d))⟩ ds vs a (w.setCell ⟨μ b,i,none⟩ v) μ fp' N ∧ (store ⟨μ b,i,none⟩ v).run P w = .ok () (w.setCell ⟨μ b,i,none⟩ v):=by
  rcases h.hp b cs hc with ⟨k,_⟩ | ⟨cells,⟨ty,hheap,hone⟩,k2,k3,k4,k5⟩ | ⟨kodd,_,_,_,kmap,_⟩
  rotate_left 2
  · exact (kmap.no kodd hnm).elim
  · subst k;simp at hi
  have hbg:=h.bg
  simp only [RepL] at hbg
  obtain ⟨v',vs',f1,f2,he,hf,h1,h2⟩:=hbg
  cases he
  have hnod:(f1 ++ f2).Nodup:=hf ▸ h.nod .bag
  have hm:=Moves.two (fp:=fp) (p:=.cell b i) (q:=.bag) (l:=f1) (m:=f2) h.nod h.dis (by simp) (fun x hx=>.inr (by rw [hf];simpa using hx)) (List.nodup_append.1 hnod).1 (List.nodup_append.1 hnod).2.1
    fun x hx hy=>(List.nodup_append.1 hnod).2.2 x hx x hy rfl
  have hown:=h.own (.blk b) (μ b) (by rw [k3];simp)
  have hsame:∀ x,x ≠ μ b → (w.setCell ⟨μ b,i,none⟩ v).heap[x]? = w.heap[x]?:=fun x hx=>heap_setCell_other w _ x v hx
  have hself:=heap_setCell_same w (μ b) i cells ty v hheap
  have hnot:∀ r x,r ≠ .blk b → x ∈ fp r → x ≠ μ b:=fun r x hr hx e=>hr (h.dis r (.blk b) x hx (by rw [e,k3];simp))
  have im:∀ x,Im B w fp x → Im B (w.setCell ⟨μ b,i,none⟩ v) (fset (fset fp (.cell b i) f1) .bag f2) x ∧ (w.setCell ⟨μ b,i,none⟩ v).heap[x]? = w.heap[x]?:=fun x hx =>
    ⟨by have:=hx.sub hm.sub;exact ⟨by rw [World.size_setCell];exact this.1,this.2⟩,hsame x fun e=>hx.2.2 (.blk b) (by rw [e,k3];simp)⟩
  refine ⟨fset (fset fp (.cell b i) f1) .bag f2,⟨h.len,h.dfs,⟨h.frm.os,h.frm.tape,h.frm.output,by rw [World.size_setCell];exact h.frm.size,fun x hx hk=>?_⟩,h.jk,fun r x hx=>by rw [World.size_setCell];exact h.own' hm r x hx,hm.nod,hm.dis,?_,?_,?_,?_,h.bT,?_,?_,h.rn⟩,?_⟩
  · rw [hsame x fun e=>?_]
    · exact h.frm.same x hx hk
    · subst e;rcases hown.1 with k | k
      · exact hk k
      · omega
  · intro t
    rw [Qw (by simp),Qw (by simp)]
    exact Rep.mono im (fun x hx=>hsame x (hnot (.slot t) x (by simp) hx)) (h.tm t)
  · rw [Xi]
    exact RepL.mono im (fun x hx=>hsame x (hnot .bag x (by simp) (by rw [hf];exact List.mem_append_right _ hx))) h2
  · intro b' cs' hc'
    by_cases e:b' = b
    · subst e
      dsimp only at hc'
      rw [Qe] at hc'
      cases hc'
      refine .inr (.inl ⟨cells.setIfInBounds i v,⟨ty,hself,fun j x hj=>?_⟩,by simp [k2],by simp [fset,k3],fun j e he=>?_,fun j hj=>?_⟩)
      · rw [Array.getElem?_setIfInBounds] at hj
        split at hj
        · split at hj
          · cases hj;exact hv
          · cases hj
        · exact hone j x hj
      · rw [Qw (by simp)]
        by_cases ej:j = i
        · subst ej
          rw [Xi]
          rw [List.getElem?_set_self hi] at he
          cases he
          refine ⟨v,by rw [Array.getElem?_setIfInBounds];simp;omega,Rep.mono im (fun x hx=>hsame x (hnot .bag x (by simp) (by rw [hf];exact List.mem_append_left _ hx))) h1⟩
        · rw [Qw (by simp [ej])]
          rw [List.getElem?_set_ne (fun h=>ej h.symm)] at he
          obtain ⟨x,hx,hr⟩:=k4 j e he
          exact ⟨x,by rw [Array.getElem?_setIfInBounds,if_neg (fun h=>ej h.symm)];exact hx,Rep.mono im (fun y hy=>hsame y (hnot (.cell b' j) y (by simp) hy)) hr⟩
      · rw [List.length_set] at hj
        rw [Qw (by simp),Qw (by simp;omega)]
        exact k5 j hj
    · dsimp only at hc'
      rw [Qd e] at hc'
      rcases h.hp b' cs' hc' with ⟨q1,q2,q3⟩ | ⟨cells2,q1,q2,q3,q4,q5⟩ | ⟨q1,es,ck,q2,q3,q4,q5⟩
      · exact .inl ⟨q1,by simpa [fset] using q2,fun j=>by simpa [fset,e] using q3 j⟩
      · refine .inr (.inl ⟨cells2,q1.mono (hsame _ (hnot (.blk b') _ (by simp [e]) (by rw [q3];simp))),q2,by simpa [fset] using q3,fun j d' hd'=>?_,fun j hj=>by simpa [fset,e] using q5 j hj⟩)
        obtain ⟨x,hx,hr⟩:=q4 j d' hd'
        refine ⟨x,hx,?_⟩
        rw [Qw (by simp),Qw (by simp [e])]
        exact Rep.mono im (fun y hy=>hsame y (hnot (.cell b' j) y (by simp) hy)) hr
      · exact .inr (.inr ⟨q1,es,ck,(hsame _ (hnot (.blk b') _ (by simp [e]) (by rw [q4];simp))).trans q2,q3,by simpa [fset] using q4,fun j=>by simpa [fset,e] using q5 j⟩)
  · intro b' hb'
    have e:b' ≠ b:=by rintro rfl;dsimp only at hb';rw [Qe] at hb';cases hb'
    dsimp only at hb'
    rw [Qd e] at hb'
    have:=h.hn b' hb'
    simp [fset,e,this]
  · have:=h.bB;simp only [bndL] at this;exact this.2
  · intro b' cs' hc'
    by_cases e:b' = b
    · subst e
      dsimp only at hc'
      rw [Qe] at hc'
      cases hc'
      have hb:=h.bH b' cs hc
      refine ⟨hb.1,?_⟩
      have hd:=h.bB
      simp only [bndL] at hd
      rw [Qi] at *
      intro x hx
      rcases List.mem_or_eq_of_mem_set hx with hx | rfl
      · exact hb.2 x hx
      · exact hd.1
    · dsimp only at hc'
      rw [Qd e] at hc'
      exact h.bH b' cs' hc'
  · have hcell:w.cell? ⟨μ b,i,none⟩ = some (cells[i]'(by omega)):=by
      simp only [World.cell?,hheap];simp
    have hfz:w.frozen? ⟨μ b,i,none⟩ = false:=by simp [World.frozen?,hheap]
    rw [run_store P w _ v _ hv,hcell]
    simp [hfz]
theorem R.storeL {B:Base} {n:Nat}:∀ {es:List D} {us:List Value} {T:Nat → D} {H:Hp} {a:Act} {w:World} {μ:Nat → Nat} {fp:Root → List Nat} {N b i:Nat} {cs:List D},R B n ⟨T,H⟩ es us a w μ fp N → b % 2 = 0 → H b = some cs → i + es.length ≤ cs.length → (∀ v ∈ us,v.oneCell' = true) → (j:Nat) → (o0:Nat) → o0 + j = i →
    ∃ fp' w',R B n ⟨T,upd H b (some (setSeg cs i es))⟩ [] [] a w' μ fp' N ∧ (storeCells ⟨μ b,o0,none⟩ us j).run P w = .ok () w'
  | [],us,T,H,a,w,μ,fp,N,b,i,cs,h,hpb,hc,hi,hv,j,o0,hj=>by
    have hu:us = []:=List.eq_nil_of_length_eq_zero (by rw [h.bg.length];rfl)
    subst hu
    have:upd H b (some (setSeg cs i [])) = H:=by
      funext x
      by_cases e:x = b
      · subst e;rw [Qe];exact hc.symm
      · rw [Qd e]
    rw [this]
    exact ⟨fp,w,h,by simp [storeCells]⟩
  | e :: es,us,T,H,a,w,μ,fp,N,b,i,cs,h,hpb,hc,hi,hv,j,o0,hj=>by
    have hlen:=h.bg.length
    cases us with
    | nil=>simp at hlen
    | cons u us =>
      simp only [List.length_cons] at hi
      obtain ⟨fp1,h1,hrun⟩:=h.store1 (P:=P) hc (.inl hpb) (i:=i) (by omega) (hv u (by simp))
      obtain ⟨fp2,w2,h2,hrun2⟩:=R.storeL h1 (b:=b) hpb (i:=i + 1) (cs:=cs.set i e) (Qe ..) (by simp;omega) (fun v hv'=>hv v (by simp [hv'])) (j + 1) o0 (by omega)
      refine ⟨fp2,w2,?_,?_⟩
      · have:upd (upd H b (some (cs.set i e))) b (some (setSeg (cs.set i e) (i + 1) es)) = upd H b (some (setSeg cs i (e :: es))):=by
          funext x
          by_cases ex:x = b
          · subst ex;rw [Qe,Qe];rfl
          · rw [Qd ex,Qd ex,Qd ex]
        rw [← this]
        exact h2
      · simp only [storeCells,Sem.run_bind]
        rw [Addr.add_lit,hj,hrun]
        exact hrun2
variable (P) in
def opStore (t:Nat) (vs:List D) (H:Hp):Res :=
  match τ P t,vs with
  | some ti,[.ptr b i,d] =>
    match H b with
    | some cs=>⟨(Xo d).length = ti.size ∧ i + ti.size ≤ cs.length ∧ (Xo d).all leaf = true,.any,upd H b (some (stSeg cs i (Xo d))),none⟩
    | none=>bad H
  | some ti,[.box cs,d]=>⟨(Xo d).length = ti.size ∧ cs.length = ti.size ∧ (Xo d).all leaf = true,.any,H,some (.box (Xo d))⟩
  | _,_=>bad H
theorem sound_store (t:TypeId) (x y:Operand) (ho:o.op = .store t x y):Sound P o vals H (opStore P t vals H):=by
  have hx:o.op.operands.toList = [x,y]:=by rw [ho];rfl
  unfold opStore
  split
  case h_3=>exact .bad P o _ H
  · rename_i ti b i d ht
    split
    case h_2=>exact .bad P o _ H
    rename_i cs hc
    intro B n T a w μ fp N avals hR hav hpre next Q hk
    rw [hx] at hav;subst hav
    obtain ⟨p1,p2,p3⟩:=hpre
    obtain ⟨f1,f2,hf,r1,r2⟩:=RepL.two hR.bg
    have hcr:=zaeu p3 r2
    have h1:=r1
    simp only [Rep] at h1
    obtain ⟨rfl,hx1⟩:=h1
    have hb:=hR.bB
    simp only [bndL] at hb
    have hR1:R B n ⟨T,H⟩ (Xo d) (a.eval y).cells.toList a w μ fp N:={ hR with bg:=by rw [hf];simpa using hcr,bB:=zaev hb.2.1 }
    have hl:(a.eval y).cells.size = ti.size:=by have:=hcr.length;simp at this;omega
    obtain ⟨fp',w',h2,h3⟩:=R.storeL (P:=P) (i:=i) hR1 (by have hpar:=hb.1;simp only [bnd] at hpar;exact hpar.2) hc (by omega) (zabs p3 hcr) 0 i (by omega)
    have hrun:(execOp a.eval o).run P w = .ok .skip w':=by
      simp [execOp,ho,hx1,Instr.storeAt,Instr.sureAddr,storeVar,Xw ht,hl,h3]
    unfold Oper.wp
    rw [hrun]
    obtain ⟨fp2,h4⟩:=h2.res0 (d:=.any) (v:=undef) (by simp [Rep]) (by simp [bnd])
    exact hk undef w' μ fp2 N h4
  · rename_i ti cs d ht
    intro B n T a w μ fp N avals hR hav hpre next Q hk
    rw [hx] at hav;subst hav
    obtain ⟨p1,p2,p3⟩:=hpre
    obtain ⟨f1,f2,hf,r1,r2⟩:=RepL.two hR.bg
    have hcr:=zaeu p3 r2
    have hb:=hR.bB
    simp only [bndL] at hb
    have h1:=r1
    simp only [Rep] at h1
    obtain ⟨b,cells,f,hx1,⟨ty,hheap,hone⟩,h2,rfl⟩:=h1
    have hn:((b :: f) ++ f2).Nodup:=hf ▸ hR.nod .bag
    have hn':=List.nodup_append.1 hn
    have hl:(a.eval y).cells.size = ti.size:=by have:=hcr.length;simp at this;omega
    have hcl:cells.size = ti.size:=by have:=h2.length;simp at this;omega
    have hones:=zabs p3 hcr
    have hrun0:=run_storeCells_at (P:=P) b 0 ty (a.eval y).cells.toList 0 cells w hheap (by simp;omega) hones
    -- the row is turned whole
    obtain ⟨w',hw1,hw2,hw3⟩:∃ w':World,(storeCells ⟨b,0,none⟩ (a.eval y).cells.toList 0).run P w = .ok () w' ∧ w'.heap[b]? = some (.cells (a.eval y).cells ty (0,0)) ∧ Frm w (fun x=>x = b) w':=by
      have key:∀ (us:List Value) (k:Nat) (w:World) (cs:Array Value),w.heap[b]? = some (.cells cs ty (0,0)) → k + us.length ≤ cs.size → (∀ v ∈ us,v.oneCell' = true) → ∃ w':World,(storeCells ⟨b,0,none⟩ us k).run P w = .ok () w' ∧ (∃ cs':Array Value,w'.heap[b]? = some (.cells cs' ty (0,0)) ∧ cs'.toList = setSeg cs.toList k us) ∧ Frm w (fun x=>x = b) w':=by
        intro us
        induction us with
        | nil=>intro k w cs hh _ _;exact ⟨w,by simp [storeCells],⟨cs,hh,rfl⟩,Frm.refl _ _⟩
        | cons u us ih =>
          intro k w cs hh hk hv
          simp only [List.length_cons] at hk
          have h1:=heap_setCell_same w b k cs ty u hh
          obtain ⟨w',q1,⟨cs',q2,q3⟩,q4⟩:=ih (k + 1) (w.setCell ⟨b,k,none⟩ u) _ h1 (by simp;omega) (fun v hv'=>hv v (by simp [hv']))
          have hcell:w.cell? ⟨b,k,none⟩ = some (cs[k]'(by omega)):=by simp only [World.cell?,hh];simp
          have hfz:w.frozen? ⟨b,k,none⟩ = false:=by simp [World.frozen?,hh]
          refine ⟨w',?_,⟨cs',q2,by rw [q3];simp [setSeg]⟩,⟨q4.os,q4.tape,q4.output,by have:=q4.size;rwa [World.size_setCell] at this,fun x hx hn=>?_⟩⟩
          · simp only [storeCells,Sem.run_bind]
            rw [Addr.add_lit,Nat.zero_add,run_store P w _ u _ (hv u (by simp)),hcell]
            simp [hfz,q1]
          · rw [q4.same x (by rw [World.size_setCell];exact hx) hn]
            exact heap_setCell_other w _ x u hn
      obtain ⟨w',q1,⟨cs',q2,q3⟩,q4⟩:=key _ 0 w cells hheap (by simp;omega) hones
      refine ⟨w',q1,?_,q4⟩
      have:cs' = (a.eval y).cells:=by
        apply Array.ext'
        rw [q3]
        apply List.ext_getElem?
        intro j
        rw [zade _ _ _ _ (by simp;omega)]
        split
        · simp
        · rename_i hj
          simp at hj
          rw [List.getElem?_eq_none (by simp;omega),List.getElem?_eq_none (by simp;omega)]
      rw [← this];exact q2
    have hrun:(execOp a.eval o).run P w = .ok .skip w':=by
      simp [execOp,ho,hx1,Instr.storeAt,Instr.sureAddr,storeVar,Xw ht,hl,hw1]
    unfold Oper.wp
    rw [hrun]
    have hbb:b ∈ fp .bag:=by rw [hf];simp
    have hnb:b ∉ f2:=fun hx=>hn'.2.2 b (by simp) b hx rfl
    obtain ⟨fp2,h4⟩:=hR.resNew (hw3.weaken (fun x hx=>by subst hx;exact hbb)) (d:=.box (Xo d)) (v:=a.eval x) (f:=b :: f2) (by
        simp only [Rep]
        refine ⟨b,(a.eval y).cells,f2,hx1,⟨ty,hw2,fun j v hj=>hones v (List.mem_of_getElem? (i:=j) (by simpa using hj))⟩,RepL.mono (fun z hz=>⟨.inl hz,hw3.same z hz.1 fun e=>?_⟩) (fun z hz=>hw3.same z ?_ fun e=>?_) hcr,rfl⟩
        · subst e;exact hz.2.2 _ hbb
        · exact (hR.own .bag z (by rw [hf];exact List.mem_append_right _ hz)).2
        · subst e;exact hnb hz)
      (by rw [List.nodup_cons];exact ⟨hnb,hn'.2.1⟩)
      (by
        intro z hz
        rcases List.mem_cons.1 hz with rfl | hz
        · exact .inl hbb
        · exact .inl (by rw [hf];exact List.mem_append_right _ hz))
      (by simp only [bnd];exact zaev hb.2.1)
    refine hk undef w' μ fp2 N ?_
    refine { h4 with bg:=?_,bB:=?_ }
    · have:=h4.bg
      simp only [RepL] at this ⊢
      exact ⟨undef,_,[],_,rfl,by simp,by simp [Rep],this⟩
    · have:=h4.bB
      simp only [bndL] at this ⊢
      exact ⟨by simp [bnd],this⟩
theorem R.cellOut {B:Base} {n:Nat} {S:St} {ds:List D} {vs:List Value} {a:Act} {w:World} {μ:Nat → Nat} {fp:Root → List Nat} {N:Nat} {b i:Nat} {cs:List D} {d:D} (h:R B n S ds vs a w μ fp N) (hc:S.H b = some cs) (hnm:NoMap b cs) (hi:cs[i]? = some d) :
    ∃ v fp',w.cell? ⟨μ b,i,none⟩ = some v ∧ v.oneCell' = true ∧ R B n ⟨S.T,upd S.H b (some (cs.set i .any))⟩ (d :: ds) (v :: vs) a w μ fp' N:=by
  rcases h.hp b cs hc with ⟨k,_⟩ | ⟨cells,k1,k2,k3,k4,k5⟩ | ⟨kodd,_,_,_,kmap,_⟩
  rotate_left 2
  · exact (kmap.no kodd hnm).elim
  · subst k;simp at hi
  obtain ⟨v,hv,hr⟩:=k4 i d hi
  have hm:=Moves.two (fp:=fp) (p:=.cell b i) (q:=.bag) (l:=[]) (m:=fp (.cell b i) ++ fp .bag) h.nod h.dis (by simp) (by simp) .nil
    (Zh (h.nod _) (h.nod _) fun x hx hy=>by have:=h.dis _ _ x hx hy;cases this) (by simp)
  have hil:i < cs.length:=by rcases Nat.lt_or_ge i cs.length with q | q;exact q;rw [List.getElem?_eq_none q] at hi;cases hi
  refine ⟨v,fset (fset fp (.cell b i) []) .bag (fp (.cell b i) ++ fp .bag),k1.cell hv,?_,h.len,h.dfs,h.frm,h.jk,h.own' hm,hm.nod,hm.dis,?_,?_,?_,?_,h.bT,?_,?_,h.rn⟩
  · obtain ⟨_,_,hone⟩:=k1;exact hone i v hv
  · intro t;rw [Qw (by simp),Qw (by simp)];exact (h.tm t).sub hm.sub
  · rw [Xi]
    simp only [RepL]
    exact ⟨v,vs,_,_,rfl,rfl,hr.sub hm.sub,h.bg.sub hm.sub⟩
  · intro b' cs' hc'
    by_cases e:b' = b
    · subst e
      dsimp only at hc'
      rw [Qe] at hc'
      cases hc'
      refine .inr (.inl ⟨cells,k1,by simp [k2],by simp [fset,k3],fun j e he=>?_,fun j hj=>?_⟩)
      · rw [Qw (by simp)]
        by_cases ej:j = i
        · subst ej
          rw [Xi]
          rw [List.getElem?_set_self hil] at he
          cases he
          exact ⟨v,hv,by simp [Rep]⟩
        · rw [Qw (by simp [ej])]
          rw [List.getElem?_set_ne (fun h=>ej h.symm)] at he
          obtain ⟨x,hx,hr⟩:=k4 j e he
          exact ⟨x,hx,hr.sub hm.sub⟩
      · rw [List.length_set] at hj
        rw [Qw (by simp),Qw (by simp;omega)]
        exact k5 j hj
    · dsimp only at hc'
      rw [Qd e] at hc'
      exact (h.hp b' cs' hc').sub hm.sub (by simp [fset]) (by simp [fset,e])
  · intro b' hb'
    have e:b' ≠ b:=by rintro rfl;dsimp only at hb';rw [Qe] at hb';cases hb'
    dsimp only at hb'
    rw [Qd e] at hb'
    have:=h.hn b' hb'
    simp [fset,e,this]
  · simp only [bndL]
    exact ⟨Qi.1 (h.bH b cs hc).2 d (List.mem_of_getElem? hi),h.bB⟩
  · intro b' cs' hc'
    by_cases e:b' = b
    · subst e
      dsimp only at hc'
      rw [Qe] at hc'
      cases hc'
      have hb:=h.bH b' cs hc
      refine ⟨hb.1,?_⟩
      rw [Qi] at *
      intro x hx
      rcases List.mem_or_eq_of_mem_set hx with hx | rfl
      · exact hb.2 x hx
      · simp [bnd]
    · dsimp only at hc'
      rw [Qd e] at hc'
      exact h.bH b' cs' hc'
def anyOut (cs:List D) (i:Nat):Nat → List D
  | 0=>cs
  | m + 1=>anyOut (cs.set (i + m) .any) i m
theorem R.cellsOut {B:Base} {n:Nat} {a:Act} {w:World} {μ:Nat → Nat} {b i:Nat}:∀ {m:Nat} {S:St} {ds:List D} {vs:List Value} {fp:Root → List Nat} {N:Nat} {cs:List D},R B n S ds vs a w μ fp N → b % 2 = 0 → S.H b = some cs → i + m ≤ cs.length →
    ∃ us fp',us.length = m ∧ (∀ (j:Nat) (v:Value),us[j]? = some v → w.cell? ⟨μ b,i + j,none⟩ = some v) ∧ R B n ⟨S.T,upd S.H b (some (anyOut cs i m))⟩ ((cs.drop i).take m ++ ds) (us ++ vs) a w μ fp' N
  | 0,S,ds,vs,fp,N,cs,h,hpb,hc,hi=>by
    have e:upd S.H b (some cs) = S.H:=Jk hc
    exact ⟨[],fp,rfl,by simp,by simpa [anyOut,e] using h⟩
  | m + 1,S,ds,vs,fp,N,cs,h,hpb,hc,hi=>by
    have he:cs[i + m]? = some cs[i + m]:=List.getElem?_eq_getElem (by omega)
    obtain ⟨v,fp1,hw,_,h1⟩:=h.cellOut hc (.inl hpb) he
    obtain ⟨us,fp2,k1,k2,k3⟩:=R.cellsOut (m:=m) h1 (b:=b) hpb (i:=i) (cs:=cs.set (i + m) .any) (Qe ..) (by simp;omega)
    refine ⟨us ++ [v],fp2,by simp [k1],fun j u hu=>?_,?_⟩
    · rw [List.getElem?_append] at hu
      split at hu
      · exact k2 j u hu
      · rename_i hj
        have:j = m:=by
          rcases Nat.lt_or_ge (j - us.length) 1 with q | q
          · omega
          · rw [List.getElem?_eq_none (by simpa using q)] at hu;cases hu
        subst this
        rw [k1,Nat.sub_self] at hu
        cases hu
        exact hw
    · have e1:((cs.set (i + m) .any).drop i).take m = (cs.drop i).take m:=by
        apply List.ext_getElem?
        intro j
        rw [List.getElem?_take,List.getElem?_take]
        split
        · rw [List.getElem?_drop,List.getElem?_drop,List.getElem?_set_ne (by omega)]
        · rfl
      have e2:(cs.drop i).take (m + 1) = (cs.drop i).take m ++ [cs[i + m]]:=by
        rw [List.take_succ_eq_append_getElem (by simp;omega)];simp
      have e3:upd (upd S.H b (some (cs.set (i + m) .any))) b (some (anyOut (cs.set (i + m) .any) i m)) = upd S.H b (some (anyOut cs i (m + 1))):=by
        funext x
        by_cases ex:x = b
        · subst ex;rw [Qe,Qe];rfl
        · rw [Qd ex,Qd ex,Qd ex]
      dsimp only at k3
      rw [e1,e3] at k3
      rw [e2]
      simpa using k3
variable (P) in
def opLoadM (t:Nat) (vs:List D) (H:Hp):Res :=
  match τ P t,vs with
  | some ti,[.ptr b i] =>
    match H b with
    | some cs=>if ti.agg = true then (if ownsL ((cs.drop i).take ti.size) = true then ⟨0 < ti.size ∧ i + ti.size ≤ cs.length,.st ((cs.drop i).take ti.size),upd H b (some (anyOut cs i ti.size)),none⟩ else Xz P t [.ptr b i] H)
      else (if owns (cs.getD i .any) = true then ⟨i < cs.length,cs.getD i .any,upd H b (some (cs.set i .any)),none⟩ else Xz P t [.ptr b i] H)
    | none=>bad H
  | _,_=>Xz P t vs H
theorem sound_loadM (t:TypeId) (x:Operand) (ho:o.op = .load t x):Sound P o vals H (opLoadM P t vals H):=by
  have hx:o.op.operands.toList = [x]:=by rw [ho];rfl
  unfold opLoadM
  split
  · rename_i ti b i ht
    split
    · rename_i cs hc
      split
      · rename_i ha
        split
        · intro B n T a w μ fp N avals hR hav hpre next Q hk
          obtain rfl:=Xr hx hav
          have h1:=hR.bg.one
          simp only [Rep] at h1
          obtain ⟨fp1,h2⟩:=hR.unbag
          obtain ⟨us,fp2,k1,k2,k3⟩:=R.cellsOut (m:=ti.size) h2 (by have hpar:=hR.bB;simp only [bndL,bnd] at hpar;omega) hc hpre.2
          have hl:=zaas (P:=P) ht ha k1 k2
          have hrun:(execOp a.eval o).run P w = .ok (.value (.agg us.toArray)) w:=by simp [execOp,ho,h1.2,hl]
          unfold Oper.wp
          rw [hrun]
          refine hk _ w μ fp2 N (k3.rebag' ?_ ?_)
          · have:=k3.bg
            rw [List.append_nil,List.append_nil] at this
            simp only [RepL,Rep]
            exact ⟨_,[],_,[],rfl,by simp,⟨us,rfl,this⟩,rfl,rfl⟩
          · have:=k3.bB
            rw [List.append_nil] at this
            simp only [bndL,bnd];exact ⟨this,trivial⟩
        · exact zadd t x ho
      · rename_i ha
        have ha:ti.agg = false:=by simpa using ha
        split
        · intro B n T a w μ fp N avals hR hav hpre next Q hk
          obtain rfl:=Xr hx hav
          have h1:=hR.bg.one
          simp only [Rep] at h1
          obtain ⟨fp1,h2⟩:=hR.unbag
          have he:cs[i]? = some (cs.getD i .any):=by rw [List.getD_eq_getElem?_getD,List.getElem?_eq_getElem hpre];rfl
          obtain ⟨v,fp2,k1,_,k3⟩:=h2.cellOut hc (.inl (by have hpar:=hR.bB;simp only [bndL,bnd] at hpar;omega)) he
          have hl:=zaar (P:=P) ht ha k1
          have hrun:(execOp a.eval o).run P w = .ok (.value v) w:=by simp [execOp,ho,h1.2,hl]
          unfold Oper.wp
          rw [hrun]
          exact hk _ w μ fp2 N k3
        · exact zadd t x ho
    · exact .bad P o _ H
  · exact zadd t x ho
end
end Go.Proofs.YtiilmjojffjhlaaGreatDoor.Vm

