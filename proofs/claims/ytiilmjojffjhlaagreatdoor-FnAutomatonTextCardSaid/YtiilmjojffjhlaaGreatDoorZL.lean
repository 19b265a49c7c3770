/-
  The ground of the draws of automata: numbers drawn, trees as cells, boxes. No conditions.
-/
import Derived.Test.YtiilmjojffjhlaaGreatDoorRow
import Derived.Test.YtiilmjojffjhlaaGreatDoorTr
import Derived.Test.YtiilmjojffjhlaaGreatDoorVm15
namespace Go.Proofs.YtiilmjojffjhlaaGreatDoor.Vm
open Go
open Nat renaming sub_pos_of_lt → zsP
open List renaming getD_eq_getElem?_getD → zg,drop_one → zd
noncomputable section
set_option linter.unusedVariables false
set_option linter.unusedSimpArgs false
set_option maxRecDepth 200000

@[go_sem] def Γz0:FuncId → Con:=Γ0
theorem Js:∀ g,ConOk Tryz.prog g (Γz0 g):=Γ0_ok

attribute [go_sem] VS stepS isLoad isApp snH AGL
@[go_sem] def cY (x:UInt8):List D:=[.int .u8 x.toNat]
instance:Wide cY 1:=⟨fun _=>rfl,by omega,fun _=>rfl⟩
instance:Plain cY:=⟨fun _=>rfl,fun _ _ _=>rfl,fun _ _=>⟨trivial,trivial⟩,fun a b h=>by simp only [cY,List.cons.injEq,D.int.injEq,true_and,and_true] at h;exact UInt8.toNat.inj (by omega)⟩
theorem byte_lt (x:UInt8):x.toNat < 256:=x.toNat_lt
def mixx (ys:List UInt8) (p:Nat):Int:=((nth ys (p % ys.length)).toNat:Int) * 131 + ((nth ys ((p * 7 + 3) % ys.length)).toNat:Int) * 1117 + (p:Int) * 29 + (p:Int) / (ys.length:Int) * 53
def pk (ys:List UInt8) (p:Nat) (n:Int):Int :=
  if n < 1 ∨ ys.length = 0 then 0 else if p < ys.length then ((nth ys p).toNat:Int).tmod n else (bitsD .xor .i64 (mixx ys p) ((mixx ys p).tdiv 64)).tmod n
theorem mixx_range (ys:List UInt8) {p:Nat} (hp:p ≤ 1000000):0 ≤ mixx ys p ∧ mixx ys p ≤ 100000000:=by
  have h1:=byte_lt (nth ys (p % ys.length))
  have h2:=byte_lt (nth ys ((p * 7 + 3) % ys.length))
  have h3:(p:Int) / (ys.length:Int) = ((p / ys.length:Nat):Int):=by rw [Int.natCast_ediv]
  have h4:p / ys.length ≤ p:=Nat.div_le_self _ _
  have h5:0 ≤ (p:Int) / (ys.length:Int):=by rw [h3];exact Int.natCast_nonneg _
  have h6:(p:Int) / (ys.length:Int) ≤ p:=by rw [h3];exact_mod_cast h4
  unfold mixx
  omega
theorem xor_range {x y:Int} (h1:0 ≤ x) (h2:x ≤ 100000000) (h3:0 ≤ y) (h4:y ≤ 100000000):0 ≤ bitsD .xor .i64 x y:=by
  have kx:∀ x:Int,0 ≤ x → x ≤ 100000000 → (BitVec.ofInt 64 x).toNat = x.toNat:=fun x h1 h2=>by
    rw [BitVec.toNat_ofInt]
    have:x % ((2 ^ 64:Nat):Int) = x:=Int.emod_eq_of_lt h1 (by omega)
    rw [this]
  show 0 ≤ IntKind.i64.wrap ((BitVec.ofInt 64 x ^^^ BitVec.ofInt 64 y).toNat:Int)
  rw [BitVec.toNat_xor,kx x h1 h2,kx y h3 h4]
  have:x.toNat ^^^ y.toNat < 2 ^ 27:=Nat.xor_lt_two_pow (by omega) (by omega)
  rw [wrap_in (by omega) (by omega)]
  omega
theorem pk_range (ys:List UInt8) {p:Nat} (hp:p ≤ 1000000) {n:Int} (hn:1 ≤ n):0 ≤ pk ys p n ∧ pk ys p n < n:=by
  obtain ⟨m1,m2⟩:=mixx_range ys hp
  have t:0 ≤ (mixx ys p).tdiv 64 ∧ (mixx ys p).tdiv 64 ≤ 100000000:=by
    rw [Int.tdiv_eq_ediv_of_nonneg m1];omega
  have x:=xor_range m1 m2 t.1 t.2
  unfold pk
  split
  · omega
  · split
    · exact ⟨Int.tmod_nonneg _ (by omega),Int.tmod_lt_of_pos _ (by omega)⟩
    · exact ⟨Int.tmod_nonneg _ x,Int.tmod_lt_of_pos _ (by omega)⟩

set_option maxHeartbeats 1000000 in
theorem pick_spec (ys:List UInt8) (p:Nat) (n:Int) (b:Nat) (H:Hp) (hH:H b = some [li cY ys,.int .i64 p]) (hp:p ≤ 1000000) (hl:ys.length ≤ 2000) (hn:n ≤ 1000000) :
    Spec Tryz.prog 74 [.ptr b 0,.int .i64 n] H (.int .i64 (pk ys p n)) (upd H b (some [li cY ys,.int .i64 ((p + 1:Nat):Int)])):=by
  refine Spec.of_walk Tryz.func74 rfl (by simp [Tryz.f74]) fun B=>?_
  obtain ⟨m1,m2⟩:=mixx_range ys hp
  have t:0 ≤ (mixx ys p).tdiv 64 ∧ (mixx ys p).tdiv 64 ≤ 100000000:=by
    rw [Int.tdiv_eq_ediv_of_nonneg m1];omega
  by_cases h1:n < 1 <;> by_cases h2:ys.length = 0 <;> by_cases h3:p < ys.length
  all_goals (repeat' (first
 | refine Qs ?_
 | refine Qc (id:=0) Js [] (by kernel_rfl) ?_;simp [-zg,-zd,↓Qb,↓Qa,go_sem]
 | refine Qc (id:=1) Js [] (by kernel_rfl) ?_;simp [-zg,-zd,↓Qb,↓Qa,go_sem,hH,wrap_in (x:=(p:Int) + 1) (by omega) (by omega)]
 | refine Qc (id:=2) Js [17] (by kernel_rfl) ?_;simp [-zg,-zd,↓Qb,↓Qa,go_sem,h1,h2];try (refine ⟨fun s2a=>?_,fun s2a=>?_⟩ <;> (try simp [B_iff,B_not] at s2a) <;> try (refine ⟨fun s2b=>?_,fun s2b=>?_⟩ <;> (try simp [B_iff,B_not] at s2b)))
 | refine Qc (id:=3) Js [] (by kernel_rfl) ?_;simp [-zg,-zd,↓Qb,↓Qa,go_sem]
 | refine Qc (id:=4) Js [] (by kernel_rfl) ?_;simp [-zg,-zd,↓Qb,↓Qa,go_sem,(show (p:Int) + 1 - 1 = p by omega),wrap_in (x:=(p:Int)) (by omega) (by omega)]
 | refine Qc (id:=5) Js [] (by kernel_rfl) ?_;simp [-zg,-zd,↓Qb,↓Qa,go_sem,h3]
 | (have y1:=byte_lt (nth ys p));refine Qc (id:=6) Js [] (by kernel_rfl) ?_;simp [-zg,-zd,↓Qb,↓Qa,go_sem,h3,Qi h3,zsP h3,wrap_in (x:=((nth ys p).toNat:Int)) (by omega) (by omega),(show ¬ n = 0 by omega)]
 | (have q1:p % ys.length < ys.length:=(Nat.mod_lt _ (by omega));have q2:(p * 7 + 3) % ys.length < ys.length:=(Nat.mod_lt _ (by omega));have y1:=byte_lt (nth ys (p % ys.length));have y2:=byte_lt (nth ys ((p * 7 + 3) % ys.length));have e1:(p:Int) % (ys.length:Int) = ((p % ys.length:Nat):Int):=(by rw [Int.natCast_emod]);have e2:((p:Int) * 7 + 3) % (ys.length:Int) = (((p * 7 + 3) % ys.length:Nat):Int):=(by rw [Int.natCast_emod];push_cast;rfl);have e4:0 ≤ (p:Int) / (ys.length:Int):=(by rw [← Int.natCast_ediv];exact Int.natCast_nonneg _);have e5:(p:Int) / (ys.length:Int) ≤ p:=(by rw [← Int.natCast_ediv];exact_mod_cast Nat.div_le_self _ _));refine Xx (id:=7) Js mixed [] [0,5] (by kernel_rfl) (by kernel_rfl) (by simp [-zg,-zd,↓Qb,↓Qa,go_sem,q1,Qi q1,zsP q1,q2,Qi q2,zsP q2,h2,(show ¬ ys = [] by rintro rfl;simp at h2),wrap_in (x:=(p:Int) * 7) (by omega) (by omega),wrap_in (x:=(p:Int) * 7 + 3) (by omega) (by omega),(show (p:Int).tmod (ys.length:Int) = (p:Int) % (ys.length:Int) from Int.tmod_eq_emod_of_nonneg (by omega)),(show ((p:Int) * 7 + 3).tmod (ys.length:Int) = ((p:Int) * 7 + 3) % (ys.length:Int) from Int.tmod_eq_emod_of_nonneg (by omega)),(show ((p:Int) % (ys.length:Int)).toNat = p % ys.length by rw [e1];rfl),(show (((p:Int) * 7 + 3) % (ys.length:Int)).toNat = (p * 7 + 3) % ys.length by rw [e2];rfl),(show 0 ≤ (p:Int) % (ys.length:Int) by rw [e1];exact Int.natCast_nonneg _),(show 0 ≤ ((p:Int) * 7 + 3) % (ys.length:Int) by rw [e2];exact Int.natCast_nonneg _),(show (p:Int) % (ys.length:Int) < ys.length by rw [e1];exact_mod_cast q1),(show ((p:Int) * 7 + 3) % (ys.length:Int) < ys.length by rw [e2];exact_mod_cast q2),(show (p:Int).tdiv (ys.length:Int) = (p:Int) / (ys.length:Int) from Int.tdiv_eq_ediv_of_nonneg (by omega)),wrap_in (x:=(p:Int) / (ys.length:Int)) (by omega) (by omega),wrap_in (x:=((nth ys (p % ys.length)).toNat:Int)) (by omega) (by omega),wrap_in (x:=((nth ys ((p * 7 + 3) % ys.length)).toNat:Int)) (by omega) (by omega),wrap_in (x:=((nth ys (p % ys.length)).toNat:Int) * 131) (by omega) (by omega),wrap_in (x:=((nth ys ((p * 7 + 3) % ys.length)).toNat:Int) * 1117) (by omega) (by omega),wrap_in (x:=((nth ys (p % ys.length)).toNat:Int) * 131 + ((nth ys ((p * 7 + 3) % ys.length)).toNat:Int) * 1117) (by omega) (by omega),wrap_in (x:=(p:Int) * 29) (by omega) (by omega),wrap_in (x:=((nth ys (p % ys.length)).toNat:Int) * 131 + ((nth ys ((p * 7 + 3) % ys.length)).toNat:Int) * 1117 + (p:Int) * 29) (by omega) (by omega),wrap_in (x:=(p:Int) / (ys.length:Int) * 53) (by omega) (by omega),(show IntKind.i64.wrap (((nth ys (p % ys.length)).toNat:Int) * 131 + ((nth ys ((p * 7 + 3) % ys.length)).toNat:Int) * 1117 + (p:Int) * 29 + (p:Int) / (ys.length:Int) * 53) = mixx ys p from wrap_in (x:=mixx ys p) (by omega) (by omega))]) ?_;simp [-zg,-zd,↓Qb,↓Qa,go_sem,q1,Qi q1,zsP q1,q2,Qi q2,zsP q2,h2,(show ¬ ys = [] by rintro rfl;simp at h2),wrap_in (x:=(p:Int) * 7) (by omega) (by omega),wrap_in (x:=(p:Int) * 7 + 3) (by omega) (by omega),(show (p:Int).tmod (ys.length:Int) = (p:Int) % (ys.length:Int) from Int.tmod_eq_emod_of_nonneg (by omega)),(show ((p:Int) * 7 + 3).tmod (ys.length:Int) = ((p:Int) * 7 + 3) % (ys.length:Int) from Int.tmod_eq_emod_of_nonneg (by omega)),(show ((p:Int) % (ys.length:Int)).toNat = p % ys.length by rw [e1];rfl),(show (((p:Int) * 7 + 3) % (ys.length:Int)).toNat = (p * 7 + 3) % ys.length by rw [e2];rfl),(show 0 ≤ (p:Int) % (ys.length:Int) by rw [e1];exact Int.natCast_nonneg _),(show 0 ≤ ((p:Int) * 7 + 3) % (ys.length:Int) by rw [e2];exact Int.natCast_nonneg _),(show (p:Int) % (ys.length:Int) < ys.length by rw [e1];exact_mod_cast q1),(show ((p:Int) * 7 + 3) % (ys.length:Int) < ys.length by rw [e2];exact_mod_cast q2),(show (p:Int).tdiv (ys.length:Int) = (p:Int) / (ys.length:Int) from Int.tdiv_eq_ediv_of_nonneg (by omega)),wrap_in (x:=(p:Int) / (ys.length:Int)) (by omega) (by omega),wrap_in (x:=((nth ys (p % ys.length)).toNat:Int)) (by omega) (by omega),wrap_in (x:=((nth ys ((p * 7 + 3) % ys.length)).toNat:Int)) (by omega) (by omega),wrap_in (x:=((nth ys (p % ys.length)).toNat:Int) * 131) (by omega) (by omega),wrap_in (x:=((nth ys ((p * 7 + 3) % ys.length)).toNat:Int) * 1117) (by omega) (by omega),wrap_in (x:=((nth ys (p % ys.length)).toNat:Int) * 131 + ((nth ys ((p * 7 + 3) % ys.length)).toNat:Int) * 1117) (by omega) (by omega),wrap_in (x:=(p:Int) * 29) (by omega) (by omega),wrap_in (x:=((nth ys (p % ys.length)).toNat:Int) * 131 + ((nth ys ((p * 7 + 3) % ys.length)).toNat:Int) * 1117 + (p:Int) * 29) (by omega) (by omega),wrap_in (x:=(p:Int) / (ys.length:Int) * 53) (by omega) (by omega),(show IntKind.i64.wrap (((nth ys (p % ys.length)).toNat:Int) * 131 + ((nth ys ((p * 7 + 3) % ys.length)).toNat:Int) * 1117 + (p:Int) * 29 + (p:Int) / (ys.length:Int) * 53) = mixx ys p from wrap_in (x:=mixx ys p) (by omega) (by omega))]
 | refine Qc (id:=8) Js [] (by kernel_rfl) ?_;simp [-zg,-zd,↓Qb,↓Qa,go_sem,wrap_in (x:=(mixx ys p).tdiv 64) (by omega) (by omega)]
 | refine Qc (id:=9) Js [] (by kernel_rfl) ?_;simp [-zg,-zd,↓Qb,↓Qa,go_sem,(show ¬ n = 0 by omega)]
 | refine Qe (c:=.tmp 24) ?_;simp [-zg,-zd,↓Qb,↓Qa,go_sem];try first | (refine ⟨?_,?_⟩ <;> refine zA ?_) | (refine ⟨fun c24=>?_,fun c24=>?_⟩ <;> (try simp [B_iff,B_not] at c24))
 | refine Qe (c:=.tmp 36) ?_;simp [-zg,-zd,↓Qb,↓Qa,go_sem];try first | (refine ⟨?_,?_⟩ <;> refine zA ?_) | (refine ⟨fun c36=>?_,fun c36=>?_⟩ <;> (try simp [B_iff,B_not] at c36))
 | (refine Qf ?_)
 | (refine Qr ?_;simp [-zg,-zd,↓Qb,↓Qa,go_sem])
 | (refine Qq ?_;simp [-zg,-zd,↓Qb,↓Qa,go_sem])
 | (refine Qt ?_;simp [-zg,-zd,↓Qb,↓Qa,go_sem,Tryz.results74])
 | (intro hx;refine zA ?_)
 | (refine ⟨?_,?_⟩ <;> refine zA ?_)
 | (intro hx;constructor <;> intro hs)
 | (constructor <;> intro hs)
 | (refine ⟨?_,fun hs=>?_⟩;refine zA ?_)
 | (refine ⟨fun hs=>?_,?_⟩;rotate_left;refine zA ?_;rotate_left)
 | (exfalso;omega)))
  all_goals (first
 | (simp [pk,h1,h2,h3];done)
 | skip)
def pkI (ys:List UInt8) (p n:Int):Int:=pk ys p.toNat n
theorem zafk (ys:List UInt8) {p:Int} (hp:p ≤ 1000000) {n:Int} (hn:1 ≤ n):0 ≤ pkI ys p n ∧ pkI ys p n < n:=pk_range ys (by omega) hn
@[go_sem] def pickC:Con:=.gen fun args H=>match args with
  | [.ptr b 0,.int .i64 n]=>match H b with
    | some [.list m cs,.int .i64 p]=>(Is cY m cs ∧ 0 ≤ p ∧ p ≤ 1000000 ∧ m ≤ 2000 ∧ n ≤ 1000000,.int .i64 (pkI (de cY cs) p n),upd H b (some [.list m cs,.int .i64 (p + 1)]))
    | _=>(False,.any,H)
  | _=>(False,.any,H)
theorem pickC_ok:ConOk Tryz.prog 74 pickC:=by
  refine ⟨Qo Tryz.func74 (by decide) rfl,fun args H h=>?_⟩
  revert h
  dsimp only
  split
  · rename_i b n
    split
    · rename_i m cs p hH
      rintro ⟨⟨ys,rfl,rfl⟩,h0,h1,h2,h3⟩
      obtain ⟨q,rfl⟩:∃ q:Nat,p = q:=⟨p.toNat,by omega⟩
      rw [Qp]
      have:=pick_spec ys q n b H hH (by omega) h2 h3
      simpa [pkI,li] using this
    · intro h;exact h.elim
  · intro h
    exact h.elim
@[go_sem] def Γz1:FuncId → Con:=ext Γz0 74 pickC
theorem Γz1_ok:∀ g,ConOk Tryz.prog g (Γz1 g):=Qn Js pickC_ok

def numI (ys:List UInt8) (p:Int) (xs:List Int):Int:=nth xs (pkI ys p xs.length).toNat
theorem num_spec (ys:List UInt8) (p:Int) (xs:List Int) (b:Nat) (H:Hp) (hH:H b = some [li cY ys,.int .i64 p]) (h0:0 ≤ p) (hp:p ≤ 1000000) (hl:ys.length ≤ 2000) (hx:1 ≤ xs.length) (hn:xs.length ≤ 1000000) :
    Spec Tryz.prog 82 [.ptr b 0,fr 1 cI xs] H (.int .i64 (numI ys p xs)) (upd H b (some [li cY ys,.int .i64 (p + 1)])):=by
  refine Spec.of_walk Tryz.func82 rfl (by simp [Tryz.f82]) fun B=>?_
  obtain ⟨k1,k2⟩:=zafk ys hp (n:=(xs.length:Int)) (by omega)
  have k3:(pkI ys p xs.length).toNat < xs.length:=by omega
  (repeat' (first
 | refine Qs ?_
 | refine Qc (id:=0) Γz1_ok [] (by kernel_rfl) ?_;simp [-zg,-zd,↓Qb,↓Qa,go_sem];try (refine Vl 1 rfl fun c cp j hc hcp hj=>?_;have hbc:¬ b = c:=(by rintro rfl;dsimp only at hc;rw [hH] at hc;cases hc))
 | refine Qc (id:=1) Γz1_ok [] (by kernel_rfl) ?_;simp [-zg,-zd,↓Qb,↓Qa,go_sem,hH,hbc,Ne.symm hbc,h0,hp,hl,k1,k2,k3,(show (xs.length:Int) ≤ 1000000 by omega),(show xs.length ≤ 1000000 by omega),(show (pkI ys p xs.length).toNat < xs.length + j by omega)]
 | (refine Qf ?_)
 | (refine Qr ?_;simp [-zg,-zd,↓Qb,↓Qa,go_sem])
 | (refine Qq ?_;simp [-zg,-zd,↓Qb,↓Qa,go_sem])
 | (refine Qt ?_;simp [-zg,-zd,↓Qb,↓Qa,go_sem,Tryz.results82])
 | (intro hx;refine zA ?_)
 | (refine ⟨?_,?_⟩ <;> refine zA ?_)
 | (intro hx;constructor <;> intro hs)
 | (constructor <;> intro hs)
 | (refine ⟨?_,fun hs=>?_⟩;refine zA ?_)
 | (refine ⟨fun hs=>?_,?_⟩;rotate_left;refine zA ?_;rotate_left)))
  all_goals (first
 | (refine ⟨rfl,fun b' cs' h=>?_⟩;dsimp only at hc;by_cases e1:b' = b <;> by_cases e2:b' = c <;> simp_all;done)
 | skip)
@[go_sem] def numC:Con:=.gen fun args H=>match args with
  | [.ptr b 0,.fr 1 n ds]=>match H b with
    | some [.list m cs,.int .i64 p]=>(Is cY m cs ∧ Is cI n ds ∧ 0 ≤ p ∧ p ≤ 1000000 ∧ m ≤ 2000 ∧ 1 ≤ n ∧ n ≤ 1000000,.int .i64 (numI (de cY cs) p (de cI ds)),upd H b (some [.list m cs,.int .i64 (p + 1)]))
    | _=>(False,.any,H)
  | _=>(False,.any,H)
theorem numC_ok:ConOk Tryz.prog 82 numC:=by
  refine ⟨Qo Tryz.func82 (by decide) rfl,fun args H h=>?_⟩
  revert h
  dsimp only
  split
  · rename_i b n ds
    split
    · rename_i m cs p hH
      rintro ⟨⟨ys,rfl,rfl⟩,⟨xs,rfl,rfl⟩,h0,h1,h2,h3,h4⟩
      rw [Qp,Qp]
      have:=num_spec ys p xs b H hH h0 h1 h2 h3 h4
      exact this
    · intro h;exact h.elim
  · intro h
    exact h.elim
@[go_sem] def Γz2:FuncId → Con:=ext Γz1 82 numC
theorem Γz2_ok:∀ g,ConOk Tryz.prog g (Γz2 g):=Qn Γz1_ok numC_ok

def Ux (ys:List UInt8):List UInt8:=ys.take 2000
theorem open_spec (ys:List UInt8) (H:Hp):Spec Tryz.prog 48 [li cY ys] H (.box [li cY (Ux ys),.int .i64 0]) H:=by
  refine Spec.of_walk Tryz.func48 rfl (by simp [Tryz.f48]) fun B=>?_
  by_cases hl:2000 < ys.length
  all_goals (repeat' (first
 | refine Qs ?_
 | refine Qc (id:=0) Γz2_ok [] (by kernel_rfl) ?_;simp [-zg,-zd,↓Qb,↓Qa,go_sem]
 | refine Qc (id:=1) Γz2_ok [] (by kernel_rfl) ?_;simp [-zg,-zd,↓Qb,↓Qa,go_sem,hl]
 | refine Qc (id:=2) Γz2_ok [] (by kernel_rfl) ?_;simp [-zg,-zd,↓Qb,↓Qa,go_sem,(show 2000 ≤ ys.length by omega),(show (2000:Int) ≤ ys.length by omega)]
 | refine Qc (id:=3) Γz2_ok [] (by kernel_rfl) ?_;simp [-zg,-zd,↓Qb,↓Qa,go_sem]
 | refine Qe (c:=.tmp 5) ?_;simp [-zg,-zd,↓Qb,↓Qa,go_sem];try first | (refine ⟨?_,?_⟩ <;> refine zA ?_) | (refine ⟨fun c5=>?_,fun c5=>?_⟩ <;> (try simp [B_iff,B_not] at c5))
 | (refine Qf ?_)
 | (refine Qr ?_;simp [-zg,-zd,↓Qb,↓Qa,go_sem])
 | (refine Qq ?_;simp [-zg,-zd,↓Qb,↓Qa,go_sem])
 | (refine Qt ?_;simp [-zg,-zd,↓Qb,↓Qa,go_sem,Tryz.results48])
 | (intro hx;refine zA ?_)
 | (refine ⟨?_,?_⟩ <;> refine zA ?_)
 | (intro hx;constructor <;> intro hs)
 | (constructor <;> intro hs)
 | (refine ⟨?_,fun hs=>?_⟩;refine zA ?_)
 | (refine ⟨fun hs=>?_,?_⟩;rotate_left;refine zA ?_;rotate_left)))
  all_goals (first
 | (simp [Ux,hl,(show min 2000 ys.length = 2000 by omega)];done)
 | (simp [Ux,List.take_of_length_le (show ys.length ≤ 2000 by omega)];done)
 | skip)
@[go_sem] def openC:Con:=.gen fun args H=>match args with
  | [.list n cs]=>(Is cY n cs,.box [li cY (Ux (de cY cs)),.int .i64 0],H)
  | _=>(False,.any,H)
theorem openC_ok:ConOk Tryz.prog 48 openC:=by
  refine ⟨Qo Tryz.func48 (by decide) rfl,fun args H h=>?_⟩
  revert h
  dsimp only
  split
  · rintro ⟨xs,rfl,rfl⟩
    rw [Qp]
    exact open_spec xs H
  · intro h
    exact h.elim
@[go_sem] def Γz3:FuncId → Con:=ext Γz2 48 openC
theorem Γz3_ok:∀ g,ConOk Tryz.prog g (Γz3 g):=Qn Γz2_ok openC_ok

@[go_sem] theorem makeD_3 (x:D):makeD [x] 3 = [x,x,x]:=by rw [Jb];rfl
@[go_sem] theorem makeD_4 (x:D):makeD [x] 4 = [x,x,x,x]:=by rw [Jb];rfl
@[go_sem] theorem makeD_5 (x:D):makeD [x] 5 = [x,x,x,x,x]:=by rw [Jb];rfl
@[go_sem] theorem makeD_9 (x:D):makeD [x] 9 = [x,x,x,x,x,x,x,x,x]:=by rw [Jb];rfl
theorem zadp (ys:List UInt8) {p:Int} (hp:p ≤ 1000000) {xs:List Int} {lo hi:Int} (h:∀ x ∈ xs,lo ≤ x ∧ x ≤ hi) (hx:1 ≤ xs.length):lo ≤ numI ys p xs ∧ numI ys p xs ≤ hi:=by
  obtain ⟨k1,k2⟩:=zafk ys hp (n:=(xs.length:Int)) (by omega)
  have k3:(pkI ys p xs.length).toNat < xs.length:=by omega
  unfold numI
  rw [nth_lt k3]
  exact h _ (List.getElem_mem k3)
attribute [go_sem] one
@[go_sem] theorem mk22 (a b:D):makeD [a,b] 2 = [a,b]:=rfl
@[go_sem] theorem mk33 (a b c:D):makeD [a,b,c] 3 = [a,b,c]:=rfl
@[go_sem] theorem mk36 (a b c:D):makeD [a,b,c] 6 = [a,b,c,a,b,c]:=by simp [makeD,List.range_succ]
@[go_sem] theorem mk44 (a b c d:D):makeD [a,b,c,d] 4 = [a,b,c,d]:=rfl
@[go_sem] theorem mkEE (a b c d e f g h i j:D):makeD [a,b,c,d,e,f,g,h,i,j] 10 = [a,b,c,d,e,f,g,h,i,j]:=rfl
@[go_sem] theorem ss9 (x0 x1 x2 x3 x4 x5 x6 x7 x8 x9 y:D) (l:List D):stSeg (x0 :: x1 :: x2 :: x3 :: x4 :: x5 :: x6 :: x7 :: x8 :: x9 :: l) 9 [y] = x0 :: x1 :: x2 :: x3 :: x4 :: x5 :: x6 :: x7 :: x8 :: y :: l:=rfl
@[go_sem] theorem ssE6 (x0 x1 x2 x3 x4 x5 x6 x7 x8 y z u:D) (l:List D):stSeg (x0 :: x1 :: x2 :: x3 :: x4 :: x5 :: x6 :: x7 :: x8 :: l) 6 [y,z,u] = x0 :: x1 :: x2 :: x3 :: x4 :: x5 :: y :: z :: u :: l:=rfl
@[go_sem] theorem ssE0 (x0 x1 x2 x3 x4 x5 x6 x7 x8 x9 y0 y1 y2 y3 y4 y5 y6 y7 y8 y9:D) (l:List D):stSeg (x0 :: x1 :: x2 :: x3 :: x4 :: x5 :: x6 :: x7 :: x8 :: x9 :: l) 0 [y0,y1,y2,y3,y4,y5,y6,y7,y8,y9] = y0 :: y1 :: y2 :: y3 :: y4 :: y5 :: y6 :: y7 :: y8 :: y9 :: l:=rfl
inductive Tree where
  | mk (k v:Int) (ks:List Tree)
def Tree.k:Tree → Int | .mk k _ _=>k
def Tree.v:Tree → Int | .mk _ v _=>v
def Tree.ks:Tree → List Tree | .mk _ _ ks=>ks
instance:Inhabited Tree:=⟨.mk 0 0 []⟩
theorem Tree.eta (t:Tree):Tree.mk t.k t.v t.ks = t:=by cases t;rfl
@[go_sem] theorem Tree.k_mk (k v:Int) (ks:List Tree):(Tree.mk k v ks).k = k:=rfl
@[go_sem] theorem Tree.v_mk (k v:Int) (ks:List Tree):(Tree.mk k v ks).v = v:=rfl
@[go_sem] theorem Tree.ks_mk (k v:Int) (ks:List Tree):(Tree.mk k v ks).ks = ks:=rfl
mutual
def cX:Tree → List D
  | .mk k v ks=>[.int .i64 k,.int .i64 v,.list ks.length (cXs ks)]
def cXs:List Tree → List D
  | []=>[]
  | t :: ts=>cX t ++ cXs ts
end
theorem cXs_eq:∀ ts,cXs ts = cat cX ts
  | []=>rfl
  | t :: ts=>by rw [cXs,cXs_eq ts,Xk]
theorem cX_mk (k v:Int) (ks:List Tree):cX (.mk k v ks) = [.int .i64 k,.int .i64 v,li cX ks]:=by rw [cX,cXs_eq];rfl
theorem cX_eq (t:Tree):cX t = [.int .i64 t.k,.int .i64 t.v,li cX t.ks]:=by cases t;exact cX_mk ..
instance:Wide cX 3:=⟨fun a=>by rw [cX_eq];rfl,by omega,fun a=>by rw [cX_eq];rfl⟩
theorem cX_deref (a:Tree) (H:Hp) (j:Nat):(cX a).map (deref (j + 1) H) = cX a:=by rw [cX_eq];simp [deref,li]
mutual
theorem cX_bnd:∀ (a:Tree) (N:Nat),bndL N (cX a)
  | .mk k v ks,N=>by rw [cX];exact ⟨trivial,trivial,by simp only [bnd];exact cXs_bnd ks N,trivial⟩
theorem cXs_bnd:∀ (ts:List Tree) (N:Nat),bndL N (cXs ts)
  | [],N=>by simp [cXs,bndL]
  | t :: ts,N=>by
    rw [cXs,Qu]
    intro d hd
    rcases List.mem_append.1 hd with h | h
    · exact Qu.1 (cX_bnd t N) d h
    · exact Qu.1 (cXs_bnd ts N) d h
end
mutual
theorem cX_inj:∀ (a b:Tree),cX a = cX b → a = b
  | .mk k v ks,.mk k' v' ks',h=>by
    rw [cX,cX] at h
    simp only [List.cons.injEq,D.int.injEq,true_and,D.list.injEq,and_true] at h
    obtain ⟨rfl,rfl,_,h⟩:=h
    rw [cXs_inj ks ks' h]
theorem cXs_inj:∀ (a b:List Tree),cXs a = cXs b → a = b
  | [],[],h=>rfl
  | [],t :: ts,h=>by
    have:=congrArg List.length h
    rw [cXs,cXs,List.length_append,Wide.len (f:=cX)] at this;simp at this;omega
  | t :: ts,[],h=>by
    have:=congrArg List.length h
    rw [cXs,cXs,List.length_append,Wide.len (f:=cX)] at this;simp at this
  | t :: ts,u :: us,h=>by
    rw [cXs,cXs] at h
    obtain ⟨h1,h2⟩:=List.append_inj h (by rw [Wide.len (f:=cX),Wide.len (f:=cX)])
    rw [cX_inj t u h1,cXs_inj ts us h2]
end
instance:Plain cX:=⟨fun a=>by rw [cX_eq];rfl,cX_deref,cX_bnd,cX_inj⟩
attribute [go_sem] cX_eq
class Flat {α:Type} (f:α → List D):Prop where
  dat:∀ a,(f a).map dat = f a
section
variable {α:Type} {f:α → List D}
@[go_sem] theorem cat_flat [Flat f] (xs:List α):datL (cat f xs) = cat f xs:=by
  rw [datL_map,map_cat];congr 1;funext a;exact Flat.dat a
@[go_sem] theorem Vc [Flat f] (xs:List α):(cat f xs).map dat = cat f xs:=by
  rw [map_cat];congr 1;funext a;exact Flat.dat a
end
instance:Flat cX:=⟨fun a=>by rw [cX_eq];rfl⟩
instance:Flat cI:=⟨fun _=>rfl⟩
instance:Flat cP:=⟨fun _=>rfl⟩
instance:Flat cL:=⟨fun _=>rfl⟩
instance:Flat cB:=⟨fun _=>rfl⟩
instance:Flat cT:=⟨fun _=>rfl⟩
def csum (m:Tree → Int) (ks:List Tree) (i:Nat):Int:=((ks.take i).map m).sum
theorem csum_zero (m:Tree → Int) (ks:List Tree):csum m ks 0 = 0:=by simp [csum]
theorem csum_succ (m:Tree → Int) {ks:List Tree} {i:Nat} (h:i < ks.length):csum m ks (i + 1) = csum m ks i + m (nth ks i):=by
  unfold csum;rw [List.take_succ_eq_append_getElem h,List.map_append,List.sum_append,nth_lt h];simp
theorem csum_rng {m:Tree → Int} {ks:List Tree} {M:Int} (h:∀ i,i < ks.length → 1 ≤ m (nth ks i) ∧ m (nth ks i) ≤ M):∀ i,i ≤ ks.length → 0 ≤ csum m ks i ∧ csum m ks i ≤ i * M
  | 0,_=>by rw [csum_zero];simp
  | i + 1,hi=>by
    have h1:=csum_rng h i (by omega)
    have h2:=h i (by omega)
    rw [csum_succ m (by omega)]
    have:((i + 1:Nat):Int) * M = i * M + M:=by rw [Int.natCast_add,Int.add_mul];simp
    omega
def cntT:Nat → Tree → Int
  | 0,_=>1
  | d + 1,t=>1 + csum (cntT d) t.ks t.ks.length
theorem pow_le20 {d:Nat} (h:d ≤ 20):4 ^ d ≤ 1099511627776:=by
  have:4 ^ d ≤ 4 ^ 20:=Nat.pow_le_pow_right (by omega) h
  have e:4 ^ 20 = 1099511627776:=by decide
  omega
mutual
def tsz:Tree → Nat
  | .mk _ _ ks=>1 + tszs ks
def tszs:List Tree → Nat
  | []=>0
  | t :: ts=>tsz t + tszs ts
end
theorem tsz_kid:∀ (ks:List Tree) (i:Nat),i < ks.length → tsz (nth ks i) ≤ tszs ks
  | [],i,h=>by simp at h
  | t :: ts,0,h=>by rw [tszs,nth_zero];omega
  | t :: ts,i + 1,h=>by rw [tszs,nth_succ];have:=tsz_kid ts i (by simpa using h);omega
theorem Xq {k v:Int} {ks:List Tree} {i:Nat} (h:i < ks.length):tsz (nth ks i) < tsz (.mk k v ks):=by rw [tsz];have:=tsz_kid ks i h;omega
theorem Jc {α:Type} [Inhabited α] {f:α → List D} {sz:Nat} [Wide f sz] {xs:List α} (h:0 < xs.length):(cat f xs).take sz = f (nth xs 0):=by
  have:=cat_at (f:=f) h
  rwa [List.drop_zero] at this
theorem SpecR.enc {P:Program} {f:FuncId} {args:List D} {H:Hp} {G G':Any → D × Hp} (h:SpecR P f args H G) (e:∀ c,G' c = G c):SpecR P f args H G':=by
  have:G' = G:=funext e
  rw [this];exact h
@[go_sem] def sX (t:Tree):D:=.st [.int .i64 t.k,.int .i64 t.v,li cX t.ks]
theorem zado {μ:Nat → Nat} {I:Nat → Prop} {w:World} {v:Value} {f:List Nat} {sz:Nat} (h:Rep μ I w .nil v f):Rep μ I w (.fr sz 0 []) v f:=by
  simp only [Rep] at h ⊢
  exact ⟨Nat.zero_le _,by simp,.inl ⟨trivial,h.1,h.2⟩⟩
theorem AW_boxNil2 {P:Program} {B:Base} {n:Nat} {S:St} {c:Code} {Q:Exit → St → Prop} (t sz:Nat) {d e:D} (hT:S.T t = .box [d,e,.nil]) (h:AW P B n c Q ⟨upd S.T t (.box [d,e,.fr sz 0 []]),S.H⟩):AW P B n c Q S :=
  zamg t hT (fun μ I w vs f hr=>by
    simp only [RepL] at hr ⊢
    obtain ⟨v,vs',f1,f2,e1,e2,r1,v2,vs2,g1,g2,e3,e4,r2,v3,vs3,g3,g4,e5,e6,r3,r4⟩:=hr
    exact ⟨v,vs',f1,f2,e1,e2,r1,v2,vs2,g1,g2,e3,e4,r2,v3,vs3,g3,g4,e5,e6,zado r3,r4⟩) (fun N hb=>by simp only [bndL,bnd] at hb ⊢;exact ⟨hb.1,hb.2.1,trivial,trivial⟩) h
@[go_sem] theorem is_lit1 (x0:Int):Is cI 1 [D.int .i64 x0] = True:=eq_true ⟨[x0],rfl,rfl⟩
@[go_sem] theorem de_lit1 (x0:Int):de cI [D.int .i64 x0] = [x0]:=Qp (f:=cI) [x0]
@[go_sem] theorem is_lit3 (x0 x1 x2:Int):Is cI 3 [D.int .i64 x0,D.int .i64 x1,D.int .i64 x2] = True:=eq_true ⟨[x0,x1,x2],rfl,rfl⟩
@[go_sem] theorem de_lit3 (x0 x1 x2:Int):de cI [D.int .i64 x0,D.int .i64 x1,D.int .i64 x2] = [x0,x1,x2]:=Qp (f:=cI) [x0,x1,x2]
@[go_sem] theorem is_lit4 (x0 x1 x2 x3:Int):Is cI 4 [D.int .i64 x0,D.int .i64 x1,D.int .i64 x2,D.int .i64 x3] = True:=eq_true ⟨[x0,x1,x2,x3],rfl,rfl⟩
@[go_sem] theorem de_lit4 (x0 x1 x2 x3:Int):de cI [D.int .i64 x0,D.int .i64 x1,D.int .i64 x2,D.int .i64 x3] = [x0,x1,x2,x3]:=Qp (f:=cI) [x0,x1,x2,x3]
@[go_sem] theorem is_lit5 (x0 x1 x2 x3 x4:Int):Is cI 5 [D.int .i64 x0,D.int .i64 x1,D.int .i64 x2,D.int .i64 x3,D.int .i64 x4] = True:=eq_true ⟨[x0,x1,x2,x3,x4],rfl,rfl⟩
@[go_sem] theorem de_lit5 (x0 x1 x2 x3 x4:Int):de cI [D.int .i64 x0,D.int .i64 x1,D.int .i64 x2,D.int .i64 x3,D.int .i64 x4] = [x0,x1,x2,x3,x4]:=Qp (f:=cI) [x0,x1,x2,x3,x4]
@[go_sem] theorem is_lit6 (x0 x1 x2 x3 x4 x5:Int):Is cI 6 [D.int .i64 x0,D.int .i64 x1,D.int .i64 x2,D.int .i64 x3,D.int .i64 x4,D.int .i64 x5] = True:=eq_true ⟨[x0,x1,x2,x3,x4,x5],rfl,rfl⟩
@[go_sem] theorem de_lit6 (x0 x1 x2 x3 x4 x5:Int):de cI [D.int .i64 x0,D.int .i64 x1,D.int .i64 x2,D.int .i64 x3,D.int .i64 x4,D.int .i64 x5] = [x0,x1,x2,x3,x4,x5]:=Qp (f:=cI) [x0,x1,x2,x3,x4,x5]
@[go_sem] theorem is_lit7 (x0 x1 x2 x3 x4 x5 x6:Int):Is cI 7 [D.int .i64 x0,D.int .i64 x1,D.int .i64 x2,D.int .i64 x3,D.int .i64 x4,D.int .i64 x5,D.int .i64 x6] = True:=eq_true ⟨[x0,x1,x2,x3,x4,x5,x6],rfl,rfl⟩
@[go_sem] theorem de_lit7 (x0 x1 x2 x3 x4 x5 x6:Int):de cI [D.int .i64 x0,D.int .i64 x1,D.int .i64 x2,D.int .i64 x3,D.int .i64 x4,D.int .i64 x5,D.int .i64 x6] = [x0,x1,x2,x3,x4,x5,x6]:=Qp (f:=cI) [x0,x1,x2,x3,x4,x5,x6]

def kR:Nat → Int
  | 0=>3
  | n + 1=>3 + 2 * kR n
theorem kR_ge:∀ n,3 ≤ kR n
  | 0=>by simp [kR]
  | n + 1=>by have:=kR_ge n;simp only [kR];omega
theorem kR_nn (n:Nat):0 ≤ kR n:=by have:=kR_ge n;omega
theorem kR_step {d:Int} (h:2 ≤ d):kR d.toNat = 3 + 2 * kR (d - 1).toNat:=by
  obtain ⟨m,hm⟩:∃ m:Nat,d.toNat = m + 1:=⟨d.toNat - 1,by omega⟩
  rw [hm,show (d - 1).toNat = m by omega];rfl
@[go_sem] theorem makeD_6 (x:D):makeD [x] 6 = [x,x,x,x,x,x]:=by rw [Jb];rfl
@[go_sem] theorem makeD_7 (x:D):makeD [x] 7 = [x,x,x,x,x,x,x]:=by rw [Jb];rfl

theorem kR_le {d:Int} (h:d ≤ 4):kR d.toNat ≤ 93:=by
  have:d.toNat = 0 ∨ d.toNat = 1 ∨ d.toNat = 2 ∨ d.toNat = 3 ∨ d.toNat = 4:=by omega
  rcases this with e | e | e | e | e <;> rw [e] <;> decide
section
variable {P:Program} {B:Base} {n:Nat} {S:St} {a:Act} {w:World} {μ:Nat → Nat} {fp:Root → List Nat} {N:Nat}
theorem R.shutBag {d:D} {v:Value} (hR:R B n S [d] [v] a w μ fp N):R B n S [dat d] [v] a w μ (fset fp .bag []) N:=by
  have hm:Moves fp (fset fp .bag []):=.drop hR.nod hR.dis fun r=>by
    by_cases e:r = .bag
    · subst e;exact .inr (Xf ..)
    · exact .inl (Qy e)
  refine ⟨hR.len,hR.dfs,hR.frm,hR.jk,hR.own' hm,hm.nod,hm.dis,fun t'=>?_,?_,?_,?_,hR.bT,?_,hR.bH,hR.rn⟩
  · rw [Qy (by simp)]
    exact (hR.tm t').sub hm.sub
  · rw [Xf]
    have hb1:=hR.bg
    simp only [RepL] at hb1 ⊢
    obtain ⟨v',vs',f1,f2,e1,e2,r1,r2⟩:=hb1
    obtain ⟨rfl,rfl⟩:v' = v ∧ vs' = []:=by simpa using e1.symm
    have e3:fp .bag = f1:=by rw [e2,r2.2,List.append_nil]
    refine ⟨v',[],[],[],rfl,rfl,Rep.dat (I:=Im B w fp) (fun b hb=>hb.sub hm.sub) (fun b hb=>?_) r1,rfl,rfl⟩
    rw [← e3] at hb
    have ho:=hR.own _ b hb
    refine ⟨ho.2,?_,fun r hr=>?_⟩
    · rcases ho.1 with q | q
      · exact .inl (.inr q)
      · exact .inr q
    · by_cases e:r = .bag
      · subst e;rw [Xf] at hr;cases hr
      · rw [Qy e] at hr;exact e (hR.dis _ _ b hr hb)
  · intro b cs hc;exact (hR.hp b cs hc).sub hm.sub (by simp [fset]) (by simp [fset])
  · intro b hb;have:=hR.hn b hb;simp [fset,this]
  · have:=hR.bB
    simp only [bndL] at this ⊢
    exact ⟨bnd_dat this.1,trivial⟩
theorem AW_shutCell (b i:Nat) {c:Code} {Q:Exit → St → Prop} {all:List D} {d:D} (hH:S.H b = some all) (hi:all[i]? = some d) (hnt:isTup d = false)
    (h:AW P B n c Q ⟨S.T,upd S.H b (some (all.set i (dat d)))⟩):AW P B n c Q S:=fun a w μ fp N hR=>by
  have hil:i < all.length:=by rcases Nat.lt_or_ge i all.length with q | q;exact q;rw [List.getElem?_eq_none q] at hi;cases hi
  obtain ⟨v,fp1,hw,hone,h1⟩:=hR.cellOut hH (.inr ⟨i,_,hi,hnt⟩) hi
  obtain ⟨fp3,h3⟩:=h1.shutBag.cellIn (b:=b) (i:=i) (cs:=all.set i .any) (by dsimp only;rw [Qh]) (.inr ⟨i,.any,by rw [List.getElem?_set_self hil],rfl⟩) (by simpa using hil) hone hw
  refine h a w μ fp3 N ?_
  have e:upd (upd S.H b (some (all.set i .any))) b (some ((all.set i .any).set i (dat d))) = upd S.H b (some (all.set i (dat d))):=by
    funext x
    by_cases e2:x = b
    · subst e2;rw [Qh,Qh,List.set_set]
    · rw [Qd e2,Qd e2,Qd e2]
  dsimp only at h3
  rw [e] at h3
  exact h3
end
theorem cut_len (xs:List UInt8):(Ux xs).length ≤ 2000:=by simp [Ux];omega

def IsK (E:D):Prop:=E = .nil ∨ ∃ ks,E = li cX ks
@[go_sem] theorem isK_nil:IsK .nil = True:=eq_true (.inl rfl)
@[go_sem] theorem isK_list (ks:List Tree):IsK (.list ks.length (cat cX ks)) = True:=eq_true (.inr ⟨ks,rfl⟩)
@[go_sem] theorem isK_li (ks:List Tree):IsK (li cX ks) = True:=eq_true (.inr ⟨ks,rfl⟩)
@[go_sem] theorem is_lit8 (x0 x1 x2 x3 x4 x5 x6 x7:Int):Is cI 8 [D.int .i64 x0,D.int .i64 x1,D.int .i64 x2,D.int .i64 x3,D.int .i64 x4,D.int .i64 x5,D.int .i64 x6,D.int .i64 x7] = True:=eq_true ⟨[x0,x1,x2,x3,x4,x5,x6,x7],rfl,rfl⟩
@[go_sem] theorem de_lit8 (x0 x1 x2 x3 x4 x5 x6 x7:Int):de cI [D.int .i64 x0,D.int .i64 x1,D.int .i64 x2,D.int .i64 x3,D.int .i64 x4,D.int .i64 x5,D.int .i64 x6,D.int .i64 x7] = [x0,x1,x2,x3,x4,x5,x6,x7]:=Qp (f:=cI) [x0,x1,x2,x3,x4,x5,x6,x7]
@[go_sem] theorem is_lit9 (x0 x1 x2 x3 x4 x5 x6 x7 x8:Int):Is cI 9 [D.int .i64 x0,D.int .i64 x1,D.int .i64 x2,D.int .i64 x3,D.int .i64 x4,D.int .i64 x5,D.int .i64 x6,D.int .i64 x7,D.int .i64 x8] = True:=eq_true ⟨[x0,x1,x2,x3,x4,x5,x6,x7,x8],rfl,rfl⟩
@[go_sem] theorem de_lit9 (x0 x1 x2 x3 x4 x5 x6 x7 x8:Int):de cI [D.int .i64 x0,D.int .i64 x1,D.int .i64 x2,D.int .i64 x3,D.int .i64 x4,D.int .i64 x5,D.int .i64 x6,D.int .i64 x7,D.int .i64 x8] = [x0,x1,x2,x3,x4,x5,x6,x7,x8]:=Qp (f:=cI) [x0,x1,x2,x3,x4,x5,x6,x7,x8]
@[go_sem] theorem makeD_8 (x:D):makeD [x] 8 = [x,x,x,x,x,x,x,x]:=by rw [Jb];rfl
@[go_sem] theorem makeD_1z (x:D):makeD [x] 1 = [x]:=by rw [Jb];rfl
theorem snoc_cX (xs:List Tree) (t:Tree):cat cX xs ++ [.int .i64 t.k,.int .i64 t.v,li cX t.ks] = cat cX (xs ++ [t]):=by rw [Xu,Xv,cX_eq]
@[go_sem] theorem take_cX (xs:List Tree) (ys:List D):(cat cX xs ++ ys).take (xs.length * 3) = cat cX xs:=Vr xs ys
end
end Go.Proofs.YtiilmjojffjhlaaGreatDoor.Vm

