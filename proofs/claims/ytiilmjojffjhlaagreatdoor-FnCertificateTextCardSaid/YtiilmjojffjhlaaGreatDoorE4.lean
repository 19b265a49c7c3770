import Derived.Test.YtiilmjojffjhlaaGreatDoorW16
import Derived.Test.YtiilmjojffjhlaaGreatDoorVm15
/-
  Where the drawing functions' table begins. No conditions.
-/
namespace Go.Proofs.YtiilmjojffjhlaaGreatDoor.Vm
open Go
open Nat renaming sub_pos_of_lt → zsP
open List renaming getD_eq_getElem?_getD → zg,drop_one → zd
noncomputable section
set_option linter.unusedVariables false
set_option linter.unusedSimpArgs false
set_option maxRecDepth 200000
@[go_sem] def Γe0:FuncId → Con:=Γs8
theorem Vy:∀ g,ConOk Tryz.prog g (Γe0 g):=Γs8_ok

attribute [go_sem] VS stepS isLoad isApp snH AGL
@[go_sem] def cY (x:UInt8):List D:=[.int .u8 x.toNat]
instance:Wide cY 1:=⟨fun _=>rfl,by omega,fun _=>rfl⟩
instance:Plain cY:=⟨fun _=>rfl,fun _ _ _=>rfl,fun _ _=>⟨trivial,trivial⟩,fun a b h=>by simp only [cY,List.cons.injEq,D.int.injEq,true_and,and_true] at h;exact UInt8.toNat.inj (by omega)⟩
theorem byte_lt (x:UInt8):x.toNat < 256:=x.toNat_lt
def mixx (ys:List UInt8) (p:Nat):Int:=((nth ys (p % ys.length)).toNat:Int) * 131 + ((nth ys ((p * 7 + 3) % ys.length)).toNat:Int) * 1117 + (p:Int) * 29 + (p:Int) / (ys.length:Int) * 53
def pk (ys:List UInt8) (p:Nat) (n:Int):Int :=
  if n < 1 ∨ ys.length = 0 then 0 else if p < ys.length then ((nth ys p).toNat:Int).tmod n else (bitsD .xor .i64 (mixx ys p) ((mixx ys p).tdiv 64)).tmod n
theorem mixx_range (ys:List UInt8) {p:Nat} (hp:p ≤ 1000000):0 ≤ mixx ys p ∧ mixx ys p ≤ 100000000:=by
  have h1:=byte_lt (nth ys (p % ys.length))
  have h2:=byte_lt (nth ys ((p * 7 + 3) % ys.length))
  have h3:(p:Int) / (ys.length:Int) = ((p / ys.length:Nat):Int):=by rw [Int.natCast_ediv]
  have h4:p / ys.length ≤ p:=Nat.div_le_self _ _
  have h5:0 ≤ (p:Int) / (ys.length:Int):=by rw [h3];exact Int.natCast_nonneg _
  have h6:(p:Int) / (ys.length:Int) ≤ p:=by rw [h3];exact_mod_cast h4
  unfold mixx
  omega
theorem xor_range {x y:Int} (h1:0 ≤ x) (h2:x ≤ 100000000) (h3:0 ≤ y) (h4:y ≤ 100000000):0 ≤ bitsD .xor .i64 x y:=by
  have kx:∀ x:Int,0 ≤ x → x ≤ 100000000 → (BitVec.ofInt 64 x).toNat = x.toNat:=fun x h1 h2=>by
    rw [BitVec.toNat_ofInt]
    have:x % ((2 ^ 64:Nat):Int) = x:=Int.emod_eq_of_lt h1 (by omega)
    rw [this]
  show 0 ≤ IntKind.i64.wrap ((BitVec.ofInt 64 x ^^^ BitVec.ofInt 64 y).toNat:Int)
  rw [BitVec.toNat_xor,kx x h1 h2,kx y h3 h4]
  have:x.toNat ^^^ y.toNat < 2 ^ 27:=Nat.xor_lt_two_pow (by omega) (by omega)
  rw [Xa (by omega) (by omega)]
  omega
theorem pk_range (ys:List UInt8) {p:Nat} (hp:p ≤ 1000000) {n:Int} (hn:1 ≤ n):0 ≤ pk ys p n ∧ pk ys p n < n:=by
  obtain ⟨m1,m2⟩:=mixx_range ys hp
  have t:0 ≤ (mixx ys p).tdiv 64 ∧ (mixx ys p).tdiv 64 ≤ 100000000:=by
    rw [Int.tdiv_eq_ediv_of_nonneg m1];omega
  have x:=xor_range m1 m2 t.1 t.2
  unfold pk
  split
  · omega
  · split
    · exact ⟨Int.tmod_nonneg _ (by omega),Int.tmod_lt_of_pos _ (by omega)⟩
    · exact ⟨Int.tmod_nonneg _ x,Int.tmod_lt_of_pos _ (by omega)⟩

set_option maxHeartbeats 1000000 in
theorem pick_spec (ys:List UInt8) (p:Nat) (n:Int) (b:Nat) (H:Hp) (hH:H b = some [li cY ys,.int .i64 p]) (hp:p ≤ 1000000) (hl:ys.length ≤ 2000) (hn:n ≤ 1000000) :
    Spec Tryz.prog 74 [.ptr b 0,.int .i64 n] H (.int .i64 (pk ys p n)) (upd H b (some [li cY ys,.int .i64 ((p + 1:Nat):Int)])):=by
  refine Spec.of_walk Tryz.func74 rfl (by simp [Tryz.f74]) fun B=>?_
  obtain ⟨m1,m2⟩:=mixx_range ys hp
  have t:0 ≤ (mixx ys p).tdiv 64 ∧ (mixx ys p).tdiv 64 ≤ 100000000:=by
    rw [Int.tdiv_eq_ediv_of_nonneg m1];omega
  by_cases h1:n < 1 <;> by_cases h2:ys.length = 0 <;> by_cases h3:p < ys.length
  all_goals (repeat' (first
 | refine Qt ?_
 | refine Qc (id:=1) Vy [] (by kernel_rfl) ?_;simp [-zg,-zd,↓Qb,↓Qa,go_sem,hH,Xa (x:=(p:Int) + 1) (by omega) (by omega)]
 | refine Qc (id:=2) Vy [17] (by kernel_rfl) ?_;simp [-zg,-zd,↓Qb,↓Qa,go_sem,h1,h2];try (refine ⟨fun s2a=>?_,fun s2a=>?_⟩ <;> (try simp [B_iff,B_not] at s2a) <;> try (refine ⟨fun s2b=>?_,fun s2b=>?_⟩ <;> (try simp [B_iff,B_not] at s2b)))
 | refine Qc (id:=4) Vy [] (by kernel_rfl) ?_;simp [-zg,-zd,↓Qb,↓Qa,go_sem,(show (p:Int) + 1 - 1 = p by omega),Xa (x:=(p:Int)) (by omega) (by omega)]
 | refine Qc (id:=5) Vy [] (by kernel_rfl) ?_;simp [-zg,-zd,↓Qb,↓Qa,go_sem,h3]
 | (have y1:=byte_lt (nth ys p));refine Qc (id:=6) Vy [] (by kernel_rfl) ?_;simp [-zg,-zd,↓Qb,↓Qa,go_sem,h3,Qk h3,zsP h3,Xa (x:=((nth ys p).toNat:Int)) (by omega) (by omega),(show ¬ n = 0 by omega)]
 | (have q1:p % ys.length < ys.length:=(Nat.mod_lt _ (by omega));have q2:(p * 7 + 3) % ys.length < ys.length:=(Nat.mod_lt _ (by omega));have y1:=byte_lt (nth ys (p % ys.length));have y2:=byte_lt (nth ys ((p * 7 + 3) % ys.length));have e1:(p:Int) % (ys.length:Int) = ((p % ys.length:Nat):Int):=(by rw [Int.natCast_emod]);have e2:((p:Int) * 7 + 3) % (ys.length:Int) = (((p * 7 + 3) % ys.length:Nat):Int):=(by rw [Int.natCast_emod];push_cast;rfl);have e4:0 ≤ (p:Int) / (ys.length:Int):=(by rw [← Int.natCast_ediv];exact Int.natCast_nonneg _);have e5:(p:Int) / (ys.length:Int) ≤ p:=(by rw [← Int.natCast_ediv];exact_mod_cast Nat.div_le_self _ _));refine Xn (id:=7) Vy mixed [] [0,5] (by kernel_rfl) (by kernel_rfl) ?_ ?_ <;> simp [-zg,-zd,↓Qb,↓Qa,go_sem,q1,Qk q1,zsP q1,q2,Qk q2,zsP q2,h2,(show ¬ ys = [] by rintro rfl;simp at h2),Xa (x:=(p:Int) * 7) (by omega) (by omega),Xa (x:=(p:Int) * 7 + 3) (by omega) (by omega),(show (p:Int).tmod (ys.length:Int) = (p:Int) % (ys.length:Int) from Int.tmod_eq_emod_of_nonneg (by omega)),(show ((p:Int) * 7 + 3).tmod (ys.length:Int) = ((p:Int) * 7 + 3) % (ys.length:Int) from Int.tmod_eq_emod_of_nonneg (by omega)),(show ((p:Int) % (ys.length:Int)).toNat = p % ys.length by rw [e1];rfl),(show (((p:Int) * 7 + 3) % (ys.length:Int)).toNat = (p * 7 + 3) % ys.length by rw [e2];rfl),(show 0 ≤ (p:Int) % (ys.length:Int) by rw [e1];exact Int.natCast_nonneg _),(show 0 ≤ ((p:Int) * 7 + 3) % (ys.length:Int) by rw [e2];exact Int.natCast_nonneg _),(show (p:Int) % (ys.length:Int) < ys.length by rw [e1];exact_mod_cast q1),(show ((p:Int) * 7 + 3) % (ys.length:Int) < ys.length by rw [e2];exact_mod_cast q2),(show (p:Int).tdiv (ys.length:Int) = (p:Int) / (ys.length:Int) from Int.tdiv_eq_ediv_of_nonneg (by omega)),Xa (x:=(p:Int) / (ys.length:Int)) (by omega) (by omega),Xa (x:=((nth ys (p % ys.length)).toNat:Int)) (by omega) (by omega),Xa (x:=((nth ys ((p * 7 + 3) % ys.length)).toNat:Int)) (by omega) (by omega),Xa (x:=((nth ys (p % ys.length)).toNat:Int) * 131) (by omega) (by omega),Xa (x:=((nth ys ((p * 7 + 3) % ys.length)).toNat:Int) * 1117) (by omega) (by omega),Xa (x:=((nth ys (p % ys.length)).toNat:Int) * 131 + ((nth ys ((p * 7 + 3) % ys.length)).toNat:Int) * 1117) (by omega) (by omega),Xa (x:=(p:Int) * 29) (by omega) (by omega),Xa (x:=((nth ys (p % ys.length)).toNat:Int) * 131 + ((nth ys ((p * 7 + 3) % ys.length)).toNat:Int) * 1117 + (p:Int) * 29) (by omega) (by omega),Xa (x:=(p:Int) / (ys.length:Int) * 53) (by omega) (by omega),(show IntKind.i64.wrap (((nth ys (p % ys.length)).toNat:Int) * 131 + ((nth ys ((p * 7 + 3) % ys.length)).toNat:Int) * 1117 + (p:Int) * 29 + (p:Int) / (ys.length:Int) * 53) = mixx ys p from Xa (x:=mixx ys p) (by omega) (by omega))]
 | refine Qc (id:=8) Vy [] (by kernel_rfl) ?_;simp [-zg,-zd,↓Qb,↓Qa,go_sem,Xa (x:=(mixx ys p).tdiv 64) (by omega) (by omega)]
 | refine Qc (id:=9) Vy [] (by kernel_rfl) ?_;simp [-zg,-zd,↓Qb,↓Qa,go_sem,(show ¬ n = 0 by omega)]
 | (refine Qe ?_)
 | (refine Qs ?_;simp [-zg,-zd,↓Qb,↓Qa,go_sem])
 | (refine Qr ?_;simp [-zg,-zd,↓Qb,↓Qa,go_sem])
 | (refine Qq ?_;simp [-zg,-zd,↓Qb,↓Qa,go_sem,Tryz.results74])
 | (intro hx;refine zA ?_)
 | (refine ⟨?_,?_⟩ <;> refine zA ?_)
 | (intro hx;constructor <;> intro hs)
 | (constructor <;> intro hs)
 | (refine ⟨?_,fun hs=>?_⟩;refine zA ?_)
 | (refine ⟨fun hs=>?_,?_⟩;rotate_left;refine zA ?_;rotate_left)
 | (exfalso;omega)
 | (refine Qj ?_;simp [-zg,-zd,↓Qb,↓Qa,go_sem];try first | (refine ⟨?_,?_⟩ <;> refine zA ?_) | (refine ⟨fun cz=>?_,fun cz=>?_⟩ <;> (try simp [B_iff,B_not] at cz)))
 | (refine Qc Vy [] (by kernel_rfl) ?_;simp [-zg,-zd,↓Qb,↓Qa,go_sem])
 | fail))
  all_goals (first
 | (simp [pk,h1,h2,h3];done)
 | skip)
def pkI (ys:List UInt8) (p n:Int):Int:=pk ys p.toNat n
theorem Wb (ys:List UInt8) {p:Int} (hp:p ≤ 1000000) {n:Int} (hn:1 ≤ n):0 ≤ pkI ys p n ∧ pkI ys p n < n:=pk_range ys (by omega) hn
@[go_sem] def pickC:Con:=.gen fun args H=>match args with
  | [.ptr b 0,.int .i64 n]=>match H b with
    | some [.list m cs,.int .i64 p]=>(Is cY m cs ∧ 0 ≤ p ∧ p ≤ 1000000 ∧ m ≤ 2000 ∧ n ≤ 1000000,.int .i64 (pkI (de cY cs) p n),upd H b (some [.list m cs,.int .i64 (p + 1)]))
    | _=>(False,.any,H)
  | _=>(False,.any,H)
theorem pickC_ok:ConOk Tryz.prog 74 pickC:=by
  refine ⟨Qo Tryz.func74 (by decide) rfl,fun args H h=>?_⟩
  revert h
  dsimp only
  split
  · rename_i b n
    split
    · rename_i m cs p hH
      rintro ⟨⟨ys,rfl,rfl⟩,h0,h1,h2,h3⟩
      obtain ⟨q,rfl⟩:∃ q:Nat,p = q:=⟨p.toNat,by omega⟩
      rw [Qm]
      have:=pick_spec ys q n b H hH (by omega) h2 h3
      simpa [pkI,li] using this
    · intro h;exact h.elim
  · intro h
    exact h.elim
@[go_sem] def Γe1:FuncId → Con:=ext Γe0 74 pickC
theorem Γe1_ok:∀ g,ConOk Tryz.prog g (Γe1 g):=Qn Vy pickC_ok

def numI (ys:List UInt8) (p:Int) (xs:List Int):Int:=nth xs (pkI ys p xs.length).toNat
theorem num_spec (ys:List UInt8) (p:Int) (xs:List Int) (b:Nat) (H:Hp) (hH:H b = some [li cY ys,.int .i64 p]) (h0:0 ≤ p) (hp:p ≤ 1000000) (hl:ys.length ≤ 2000) (hx:1 ≤ xs.length) (hn:xs.length ≤ 1000000) :
    Spec Tryz.prog 82 [.ptr b 0,fr 1 cI xs] H (.int .i64 (numI ys p xs)) (upd H b (some [li cY ys,.int .i64 (p + 1)])):=by
  refine Spec.of_walk Tryz.func82 rfl (by simp [Tryz.f82]) fun B=>?_
  obtain ⟨k1,k2⟩:=Wb ys hp (n:=(xs.length:Int)) (by omega)
  have k3:(pkI ys p xs.length).toNat < xs.length:=by omega
  (repeat' (first
 | refine Qt ?_
 | refine Qc (id:=0) Γe1_ok [] (by kernel_rfl) ?_;simp [-zg,-zd,↓Qb,↓Qa,go_sem];try (refine Zb 1 rfl fun c cp j hc hcp hj=>?_;have hbc:¬ b = c:=(by rintro rfl;dsimp only at hc;rw [hH] at hc;cases hc))
 | refine Qc (id:=1) Γe1_ok [] (by kernel_rfl) ?_;simp [-zg,-zd,↓Qb,↓Qa,go_sem,hH,hbc,Ne.symm hbc,h0,hp,hl,k1,k2,k3,(show (xs.length:Int) ≤ 1000000 by omega),(show xs.length ≤ 1000000 by omega),(show (pkI ys p xs.length).toNat < xs.length + j by omega)]
 | (refine Qe ?_)
 | (refine Qs ?_;simp [-zg,-zd,↓Qb,↓Qa,go_sem])
 | (refine Qr ?_;simp [-zg,-zd,↓Qb,↓Qa,go_sem])
 | (refine Qq ?_;simp [-zg,-zd,↓Qb,↓Qa,go_sem,Tryz.results82])
 | (intro hx;refine zA ?_)
 | (refine ⟨?_,?_⟩ <;> refine zA ?_)
 | (intro hx;constructor <;> intro hs)
 | (constructor <;> intro hs)
 | (refine ⟨?_,fun hs=>?_⟩;refine zA ?_)
 | (refine ⟨fun hs=>?_,?_⟩;rotate_left;refine zA ?_;rotate_left)))
  all_goals (first
 | (refine ⟨rfl,fun b' cs' h=>?_⟩;dsimp only at hc;by_cases e1:b' = b <;> by_cases e2:b' = c <;> simp_all;done)
 | skip)
@[go_sem] def numC:Con:=.gen fun args H=>match args with
  | [.ptr b 0,.fr 1 n ds]=>match H b with
    | some [.list m cs,.int .i64 p]=>(Is cY m cs ∧ Is cI n ds ∧ 0 ≤ p ∧ p ≤ 1000000 ∧ m ≤ 2000 ∧ 1 ≤ n ∧ n ≤ 1000000,.int .i64 (numI (de cY cs) p (de cI ds)),upd H b (some [.list m cs,.int .i64 (p + 1)]))
    | _=>(False,.any,H)
  | _=>(False,.any,H)
theorem numC_ok:ConOk Tryz.prog 82 numC:=by
  refine ⟨Qo Tryz.func82 (by decide) rfl,fun args H h=>?_⟩
  revert h
  dsimp only
  split
  · rename_i b n ds
    split
    · rename_i m cs p hH
      rintro ⟨⟨ys,rfl,rfl⟩,⟨xs,rfl,rfl⟩,h0,h1,h2,h3,h4⟩
      rw [Qm,Qm]
      have:=num_spec ys p xs b H hH h0 h1 h2 h3 h4
      exact this
    · intro h;exact h.elim
  · intro h
    exact h.elim
@[go_sem] def Γe2:FuncId → Con:=ext Γe1 82 numC
theorem Γe2_ok:∀ g,ConOk Tryz.prog g (Γe2 g):=Qn Γe1_ok numC_ok

def Yr (ys:List UInt8):List UInt8:=ys.take 2000
theorem open_spec (ys:List UInt8) (H:Hp):Spec Tryz.prog 48 [li cY ys] H (.box [li cY (Yr ys),.int .i64 0]) H:=by
  refine Spec.of_walk Tryz.func48 rfl (by simp [Tryz.f48]) fun B=>?_
  by_cases hl:2000 < ys.length
  all_goals (repeat' (first
 | refine Qt ?_
 | refine Qc (id:=1) Γe2_ok [] (by kernel_rfl) ?_;simp [-zg,-zd,↓Qb,↓Qa,go_sem,hl]
 | refine Qc (id:=2) Γe2_ok [] (by kernel_rfl) ?_;simp [-zg,-zd,↓Qb,↓Qa,go_sem,(show 2000 ≤ ys.length by omega),(show (2000:Int) ≤ ys.length by omega)]
 | (refine Qe ?_)
 | (refine Qs ?_;simp [-zg,-zd,↓Qb,↓Qa,go_sem])
 | (refine Qr ?_;simp [-zg,-zd,↓Qb,↓Qa,go_sem])
 | (refine Qq ?_;simp [-zg,-zd,↓Qb,↓Qa,go_sem,Tryz.results48])
 | (intro hx;refine zA ?_)
 | (refine ⟨?_,?_⟩ <;> refine zA ?_)
 | (intro hx;constructor <;> intro hs)
 | (constructor <;> intro hs)
 | (refine ⟨?_,fun hs=>?_⟩;refine zA ?_)
 | (refine ⟨fun hs=>?_,?_⟩;rotate_left;refine zA ?_;rotate_left)
 | (refine Qj ?_;simp [-zg,-zd,↓Qb,↓Qa,go_sem];try first | (refine ⟨?_,?_⟩ <;> refine zA ?_) | (refine ⟨fun cz=>?_,fun cz=>?_⟩ <;> (try simp [B_iff,B_not] at cz)))
 | (refine Qc Γe2_ok [] (by kernel_rfl) ?_;simp [-zg,-zd,↓Qb,↓Qa,go_sem])
 | fail))
  all_goals (first
 | (simp [Yr,hl,(show min 2000 ys.length = 2000 by omega)];done)
 | (simp [Yr,List.take_of_length_le (show ys.length ≤ 2000 by omega)];done)
 | skip)
@[go_sem] def openC:Con:=.gen fun args H=>match args with
  | [.list n cs]=>(Is cY n cs,.box [li cY (Yr (de cY cs)),.int .i64 0],H)
  | _=>(False,.any,H)
theorem openC_ok:ConOk Tryz.prog 48 openC:=by
  refine ⟨Qo Tryz.func48 (by decide) rfl,fun args H h=>?_⟩
  revert h
  dsimp only
  split
  · rintro ⟨xs,rfl,rfl⟩
    rw [Qm]
    exact open_spec xs H
  · intro h
    exact h.elim
@[go_sem] def Γe3:FuncId → Con:=ext Γe2 48 openC
theorem Γe3_ok:∀ g,ConOk Tryz.prog g (Γe3 g):=Qn Γe2_ok openC_ok

@[go_sem] theorem makeD_3 (x:D):makeD [x] 3 = [x,x,x]:=by rw [Zs];rfl
@[go_sem] theorem makeD_4 (x:D):makeD [x] 4 = [x,x,x,x]:=by rw [Zs];rfl
@[go_sem] theorem makeD_5 (x:D):makeD [x] 5 = [x,x,x,x,x]:=by rw [Zs];rfl
@[go_sem] theorem makeD_9 (x:D):makeD [x] 9 = [x,x,x,x,x,x,x,x,x]:=by rw [Zs];rfl
theorem Jx (ys:List UInt8) {p:Int} (hp:p ≤ 1000000) {xs:List Int} {lo hi:Int} (h:∀ x ∈ xs,lo ≤ x ∧ x ≤ hi) (hx:1 ≤ xs.length):lo ≤ numI ys p xs ∧ numI ys p xs ≤ hi:=by
  obtain ⟨k1,k2⟩:=Wb ys hp (n:=(xs.length:Int)) (by omega)
  have k3:(pkI ys p xs.length).toNat < xs.length:=by omega
  unfold numI
  rw [Xc k3]
  exact h _ (List.getElem_mem k3)

attribute [go_sem] one
@[go_sem] theorem mk22 (a b:D):makeD [a,b] 2 = [a,b]:=rfl
@[go_sem] theorem mk33 (a b c:D):makeD [a,b,c] 3 = [a,b,c]:=rfl
@[go_sem] theorem mk36 (a b c:D):makeD [a,b,c] 6 = [a,b,c,a,b,c]:=by simp [makeD,List.range_succ]
@[go_sem] theorem mk44 (a b c d:D):makeD [a,b,c,d] 4 = [a,b,c,d]:=rfl
@[go_sem] theorem mkEE (a b c d e f g h i j:D):makeD [a,b,c,d,e,f,g,h,i,j] 10 = [a,b,c,d,e,f,g,h,i,j]:=rfl
@[go_sem] theorem ss9 (x0 x1 x2 x3 x4 x5 x6 x7 x8 x9 y:D) (l:List D):stSeg (x0 :: x1 :: x2 :: x3 :: x4 :: x5 :: x6 :: x7 :: x8 :: x9 :: l) 9 [y] = x0 :: x1 :: x2 :: x3 :: x4 :: x5 :: x6 :: x7 :: x8 :: y :: l:=rfl
@[go_sem] theorem ssE6 (x0 x1 x2 x3 x4 x5 x6 x7 x8 y z u:D) (l:List D):stSeg (x0 :: x1 :: x2 :: x3 :: x4 :: x5 :: x6 :: x7 :: x8 :: l) 6 [y,z,u] = x0 :: x1 :: x2 :: x3 :: x4 :: x5 :: y :: z :: u :: l:=rfl
@[go_sem] theorem ssE0 (x0 x1 x2 x3 x4 x5 x6 x7 x8 x9 y0 y1 y2 y3 y4 y5 y6 y7 y8 y9:D) (l:List D):stSeg (x0 :: x1 :: x2 :: x3 :: x4 :: x5 :: x6 :: x7 :: x8 :: x9 :: l) 0 [y0,y1,y2,y3,y4,y5,y6,y7,y8,y9] = y0 :: y1 :: y2 :: y3 :: y4 :: y5 :: y6 :: y7 :: y8 :: y9 :: l:=rfl
inductive Tree where
  | mk (k v:Int) (ks:List Tree)
def Tree.k:Tree → Int | .mk k _ _=>k
def Tree.v:Tree → Int | .mk _ v _=>v
def Tree.ks:Tree → List Tree | .mk _ _ ks=>ks
instance:Inhabited Tree:=⟨.mk 0 0 []⟩
theorem Tree.eta (t:Tree):Tree.mk t.k t.v t.ks = t:=by cases t;rfl
@[go_sem] theorem Tree.k_mk (k v:Int) (ks:List Tree):(Tree.mk k v ks).k = k:=rfl
@[go_sem] theorem Tree.v_mk (k v:Int) (ks:List Tree):(Tree.mk k v ks).v = v:=rfl
@[go_sem] theorem Tree.ks_mk (k v:Int) (ks:List Tree):(Tree.mk k v ks).ks = ks:=rfl
mutual
def cX:Tree → List D
  | .mk k v ks=>[.int .i64 k,.int .i64 v,.list ks.length (cXs ks)]
def cXs:List Tree → List D
  | []=>[]
  | t :: ts=>cX t ++ cXs ts
end
theorem cXs_eq:∀ ts,cXs ts = cat cX ts
  | []=>rfl
  | t :: ts=>by rw [cXs,cXs_eq ts,Xe]
theorem cX_mk (k v:Int) (ks:List Tree):cX (.mk k v ks) = [.int .i64 k,.int .i64 v,li cX ks]:=by rw [cX,cXs_eq];rfl
theorem cX_eq (t:Tree):cX t = [.int .i64 t.k,.int .i64 t.v,li cX t.ks]:=by cases t;exact cX_mk ..
instance:Wide cX 3:=⟨fun a=>by rw [cX_eq];rfl,by omega,fun a=>by rw [cX_eq];rfl⟩
theorem cX_deref (a:Tree) (H:Hp) (j:Nat):(cX a).map (deref (j + 1) H) = cX a:=by rw [cX_eq];simp [deref,li]
mutual
theorem cX_bnd:∀ (a:Tree) (N:Nat),bndL N (cX a)
  | .mk k v ks,N=>by rw [cX];exact ⟨trivial,trivial,by simp only [bnd];exact cXs_bnd ks N,trivial⟩
theorem cXs_bnd:∀ (ts:List Tree) (N:Nat),bndL N (cXs ts)
  | [],N=>by simp [cXs,bndL]
  | t :: ts,N=>by
    rw [cXs,Qx]
    intro d hd
    rcases List.mem_append.1 hd with h | h
    · exact Qx.1 (cX_bnd t N) d h
    · exact Qx.1 (cXs_bnd ts N) d h
end
mutual
theorem cX_inj:∀ (a b:Tree),cX a = cX b → a = b
  | .mk k v ks,.mk k' v' ks',h=>by
    rw [cX,cX] at h
    simp only [List.cons.injEq,D.int.injEq,true_and,D.list.injEq,and_true] at h
    obtain ⟨rfl,rfl,_,h⟩:=h
    rw [cXs_inj ks ks' h]
theorem cXs_inj:∀ (a b:List Tree),cXs a = cXs b → a = b
  | [],[],h=>rfl
  | [],t :: ts,h=>by
    have:=congrArg List.length h
    rw [cXs,cXs,List.length_append,Wide.len (f:=cX)] at this;simp at this;omega
  | t :: ts,[],h=>by
    have:=congrArg List.length h
    rw [cXs,cXs,List.length_append,Wide.len (f:=cX)] at this;simp at this
  | t :: ts,u :: us,h=>by
    rw [cXs,cXs] at h
    obtain ⟨h1,h2⟩:=List.append_inj h (by rw [Wide.len (f:=cX),Wide.len (f:=cX)])
    rw [cX_inj t u h1,cXs_inj ts us h2]
end
instance:Plain cX:=⟨fun a=>by rw [cX_eq];rfl,cX_deref,cX_bnd,cX_inj⟩
attribute [go_sem] cX_eq
class Flat {α:Type} (f:α → List D):Prop where
  dat:∀ a,(f a).map dat = f a
section
variable {α:Type} {f:α → List D}
@[go_sem] theorem cat_flat [Flat f] (xs:List α):datL (cat f xs) = cat f xs:=by
  rw [Qz,map_cat];congr 1;funext a;exact Flat.dat a
@[go_sem] theorem Xx [Flat f] (xs:List α):(cat f xs).map dat = cat f xs:=by
  rw [map_cat];congr 1;funext a;exact Flat.dat a
end
instance:Flat cX:=⟨fun a=>by rw [cX_eq];rfl⟩
structure Ed where
  fr:Int
  to:Int
  g:Tree
  v:Int
  e:Tree
  sy:Int
instance:Inhabited Ed:=⟨⟨0,0,default,0,default,0⟩⟩
def cE (x:Ed):List D:=[.int .i64 x.fr,.int .i64 x.to,.int .i64 x.g.k,.int .i64 x.g.v,li cX x.g.ks,.int .i64 x.v,.int .i64 x.e.k,.int .i64 x.e.v,li cX x.e.ks,.int .i64 x.sy]
instance:Wide cE 10:=⟨fun _=>rfl,by omega,fun _=>rfl⟩
instance:Flat cE:=⟨fun _=>rfl⟩
instance:Plain cE:=⟨fun _=>rfl,fun a H j=>by simp [cE,deref,li],fun a N=>by simp only [cE,bndL,bnd,true_and,and_true];exact ⟨li_bnd N _,li_bnd N _⟩,fun a b h=>by
  simp only [cE,List.cons.injEq,D.int.injEq,true_and,and_true] at h
  obtain ⟨h1,h2,h3,h4,h5,h6,h7,h8,h9,h10⟩:=h
  have e1:a.g = b.g:=by rw [← Tree.eta a.g,← Tree.eta b.g,h3,h4,li_inj h5]
  have e2:a.e = b.e:=by rw [← Tree.eta a.e,← Tree.eta b.e,h7,h8,li_inj h9]
  cases a;cases b;simp_all⟩
structure Pr where
  loc:Int
  es:List Ed
instance:Inhabited Pr:=⟨⟨0,[]⟩⟩
def cR (x:Pr):List D:=[.int .i64 x.loc,li cE x.es]
instance:Wide cR 2:=⟨fun _=>rfl,by omega,fun _=>rfl⟩
instance:Flat cR:=⟨fun _=>rfl⟩
instance:Plain cR:=⟨fun _=>rfl,fun a H j=>by simp [cR,deref,li],fun a N=>by simp only [cR,bndL,bnd,true_and,and_true];exact li_bnd N _,fun a b h=>by
  simp only [cR,List.cons.injEq,D.int.injEq,true_and,and_true] at h
  have:=li_inj h.2
  cases a;cases b;simp_all⟩
attribute [go_sem] cE cR
instance:Flat cI:=⟨fun _=>rfl⟩
instance:Flat cP:=⟨fun _=>rfl⟩
instance:Flat cL:=⟨fun _=>rfl⟩

def ar (k:Int):Int:=if k = 1 ∨ k = 2 then 0 else if k = 3 then 1 else if 4 ≤ k ∧ k ≤ 9 then 2 else -1
def lim (k:Int):Int:=if k = 1 then 3 else if k = 2 then 2 else 0
def ShapeOk:Nat → Tree → Prop
  | 0,_=>False
  | d + 1,t=>(t.ks.length:Int) = ar t.k ∧ 0 ≤ t.v ∧ t.v ≤ lim t.k ∧ ∀ i,i < t.ks.length → ShapeOk d (nth t.ks i)
theorem ar_le (k:Int):ar k ≤ 2:=by unfold ar;split;omega;split;omega;split <;> omega
theorem ShapeOk.two {d:Nat} {t:Tree} (h:ShapeOk d t):t.ks.length ≤ 2:=by
  cases d with
  | zero=>exact h.elim
  | succ d=>have:=h.1;have:=ar_le t.k;omega

theorem l1Arity_pure (k:Int)  : Pure Tryz.prog 201 [.int .i64 k] (.int .i64 (ar k)):=by
  refine Pure.of_walk Tryz.func201 rfl (by simp [Tryz.f201]) (by simp [-zd,go_sem]) fun B hK=>?_
  (repeat' (first
 | refine Qt ?_
 | refine Qc (id:=7) Γe3_ok [11] (by kernel_rfl) ?_;simp [-zg,-zd,↓Qb,↓Qa,go_sem];try (refine ⟨fun s7a=>?_,fun s7a=>?_⟩ <;> (try simp [B_iff,B_not] at s7a) <;> try (refine ⟨fun s7b=>?_,fun s7b=>?_⟩ <;> (try simp [B_iff,B_not] at s7b)))
 | (refine Qe ?_)
 | (refine Qs ?_;simp [-zg,-zd,↓Qb,↓Qa,go_sem])
 | (refine Qr ?_;simp [-zg,-zd,↓Qb,↓Qa,go_sem])
 | (refine Qq ?_;simp [-zg,-zd,↓Qb,↓Qa,go_sem,Tryz.results201])
 | (intro hx;refine zA ?_)
 | (refine ⟨?_,?_⟩ <;> refine zA ?_)
 | (intro hx;constructor <;> intro hs)
 | (constructor <;> intro hs)
 | (refine ⟨?_,fun hs=>?_⟩;refine zA ?_)
 | (refine ⟨fun hs=>?_,?_⟩;rotate_left;refine zA ?_;rotate_left)
 | (refine Qj ?_;simp [-zg,-zd,↓Qb,↓Qa,go_sem];try first | (refine ⟨?_,?_⟩ <;> refine zA ?_) | (refine ⟨fun cz=>?_,fun cz=>?_⟩ <;> (try simp [B_iff,B_not] at cz)))
 | (refine Qc Γe3_ok [] (by kernel_rfl) ?_;simp [-zg,-zd,↓Qb,↓Qa,go_sem])
 | fail))
  all_goals (first
 | (unfold ar;simp_all;done)
 | (unfold ar;rw [if_neg (by omega)];first | (rw [if_pos (by omega)];done) | (rw [if_neg (by omega),if_pos (by omega)];done) | (rw [if_neg (by omega),if_neg (by omega)];done))
 | (unfold ar;first | (rw [if_pos (by omega)];done) | (rw [if_neg (by omega),if_pos (by omega)];done) | (rw [if_neg (by omega),if_neg (by omega),if_pos (by omega)];done) | (rw [if_neg (by omega),if_neg (by omega),if_neg (by omega)];done))
 | skip)
@[go_sem] def zaio:Con:=.pure fun
  | [.int .i64 k]=>(True,.int .i64 (ar k))
  | _=>(False,.any)
theorem zars:ConOk Tryz.prog 201 zaio:=by
  refine ⟨Qo Tryz.func201 (by decide) rfl,fun args h=>?_⟩
  revert h
  dsimp only
  split
  · intro h
    skip
    skip
    exact ⟨l1Arity_pure _,by simp [go_sem]⟩
  · intro h
    exact h.elim
@[go_sem] def Γe4:FuncId → Con:=ext Γe3 201 zaio
theorem Γe4_ok:∀ g,ConOk Tryz.prog g (Γe4 g):=Qn Γe3_ok zars

theorem shape_iff {d:Int} (h:1 ≤ d) {k v:Int} {ks:List Tree}:ShapeOk d.toNat (.mk k v ks) ↔ (ks.length:Int) = ar k ∧ 0 ≤ v ∧ v ≤ lim k ∧ ∀ i,i < ks.length → ShapeOk (d.toNat - 1) (nth ks i):=by
  obtain ⟨d',e⟩:∃ d',d.toNat = d' + 1:=⟨d.toNat - 1,by omega⟩
  rw [e,Nat.add_sub_cancel];exact Iff.rfl

@[go_sem] def zaln (n_:Nat):Con:=.pure fun
  | [.st [.int .i64 k,.int .i64 v,.list n_ks c_ks],.int .i64 d]=>((Is cX n_ks c_ks) ∧ (d ≤ 1000000) ∧ (d.toNat < n_),.bool (B (ShapeOk d.toNat (.mk k v (de cX c_ks)))))
  | _=>(False,.any)
theorem zaod {n_:Nat} (ih:∀ (k:Int) (v:Int) (ks:List Tree) (d:Int) (h0:d ≤ 1000000) (hm_:d.toNat < n_),Pure Tryz.prog 195 [.st [.int .i64 k,.int .i64 v,li cX ks],.int .i64 d] (.bool (B (ShapeOk d.toNat (.mk k v ks))))):ConOk Tryz.prog 195 (zaln n_):=by
  refine ⟨Qo Tryz.func195 (by decide) rfl,fun args h=>?_⟩
  revert h
  dsimp only
  split
  · intro h
    obtain ⟨⟨ks,rfl,rfl⟩,h0,hm_⟩:=h
    try simp only [Qm] at *
    exact ⟨ih _ _ ks _ h0 hm_,by simp [go_sem]⟩
  · intro h
    exact h.elim
set_option maxHeartbeats 1000000 in
theorem zarn:∀ (n_:Nat),∀ (k:Int) (v:Int) (ks:List Tree) (d:Int) (h0:d ≤ 1000000) (hm_:d.toNat < n_),Pure Tryz.prog 195 [.st [.int .i64 k,.int .i64 v,li cX ks],.int .i64 d] (.bool (B (ShapeOk d.toNat (.mk k v ks)))):=by
  intro n_
  induction n_ with
  | zero=>intros;omega
  | succ n_ ih =>
  intro k v ks d h0 hm_
  have Γr_ok:=Qn Γe4_ok (zaod ih)
  refine Pure.of_walk Tryz.func195 rfl (by simp [Tryz.f195]) (by simp [-zd,go_sem]) fun B hK=>?_
  (repeat' (first
 | refine Qt ?_
 | refine Qc (id:=0) Γr_ok [] (by kernel_rfl) ?_;simp [-zg,-zd,↓Qb,↓Qa,go_sem];try (refine Xh hK 2 ?_;simp [go_sem])
 | (refine Wk 2 2 ⟨rfl,rfl⟩ fun hm=>?_);refine Xn (id:=1) Γr_ok mixed [9] [2] (by kernel_rfl) (by kernel_rfl) ?_ ?_ <;> simp [-zg,-zd,↓Qb,↓Qa,go_sem];try (refine ⟨fun s1a=>?_,fun s1a=>?_⟩ <;> (try simp [B_iff,B_not] at s1a) <;> try (refine ⟨fun s1b=>?_,fun s1b=>?_⟩ <;> (try simp [B_iff,B_not] at s1b)))
 | refine Qc (id:=9) Γr_ok [27] (by kernel_rfl) ?_;simp [-zg,-zd,↓Qb,↓Qa,go_sem];try (refine ⟨fun s9a=>?_,fun s9a=>?_⟩ <;> (try simp [B_iff,B_not] at s9a) <;> try (refine ⟨fun s9b=>?_,fun s9b=>?_⟩ <;> (try simp [B_iff,B_not] at s9b)))
 | refine Qc (id:=14) Γr_ok [] (by kernel_rfl) ?_;simp [-zg,-zd,↓Qb,↓Qa,go_sem,c37,Qk c37,zsP c37,Xa (x:=d - 1) (by omega) (by omega),(show d - 1 ≤ 1000000 by omega),(show d ≤ 1000000 + 1 by omega),(show d.toNat - 1 < n_ by omega),(show 0 < d.toNat by omega),Tree.eta]
 | refine Qc (id:=13) Γr_ok [] (by kernel_rfl) ?_;simp [-zg,-zd,↓Qb,↓Qa,go_sem,wrapS (k:=i) (by omega)]
 | refine Qj (c:=.tmp 17) ?_;simp [-zg,-zd,↓Qb,↓Qa,go_sem];try first | (refine ⟨?_,?_⟩ <;> refine zA ?_) | (refine ⟨fun c17=>?_,fun c17=>?_⟩ <;> (try simp [B_iff,B_not] at c17))
 | refine Qj (c:=.tmp 37) ?_;simp [-zg,-zd,↓Qb,↓Qa,go_sem];try first | (refine ⟨?_,?_⟩ <;> refine zA ?_) | (refine ⟨fun c37=>?_,fun c37=>?_⟩ <;> (try simp [B_iff,B_not] at c37))
 | refine Qj (c:=.tmp 48) ?_;simp [-zg,-zd,↓Qb,↓Qa,go_sem];try first | (refine ⟨?_,?_⟩ <;> refine zA ?_) | (refine ⟨fun c48=>?_,fun c48=>?_⟩ <;> (try simp [B_iff,B_not] at c48))
 | (refine Qe (id:=1) (Qw (ι:=Nat) (fun i:Nat=>⟨(upd (upd (upd (fun _=>.any) 1 (.int .i64 d)) 2 (.pd [.int .i64 k,.int .i64 v,li cX ks])) 6 (.int .i64 i)),fun _=>none⟩) (fun i=>i ≤ ks.length ∧ AllTill (fun i=>ShapeOk (d.toNat - 1) (nth ks i)) i) (fun i=>ks.length - i) (0) ?_ ?_ ?_);exact ⟨Nat.zero_le _,.zero _⟩;((repeat' (first | exact Qg (by assumption) | exact Qi | refine Qf ?_ ?_ | refine Qh ?_)) <;> simp [-zg,-zd,↓Qb,↓Qa,go_sem]);rintro i ⟨hi,hu⟩)
 | (refine ⟨i + 1,⟨by omega,hu.succ c48⟩,by first | omega | (simp;done) | (simp;omega),?_⟩;((repeat' (first | exact Qg (by assumption) | exact Qi | refine Qf ?_ ?_ | refine Qh ?_)) <;> simp [-zg,-zd,↓Qb,↓Qa,go_sem]))
 | (refine Qe ?_)
 | (refine Qs ?_;simp [-zg,-zd,↓Qb,↓Qa,go_sem])
 | (refine Qr ?_;simp [-zg,-zd,↓Qb,↓Qa,go_sem])
 | (refine Qq ?_;simp [-zg,-zd,↓Qb,↓Qa,go_sem,Tryz.results195])
 | (intro hx;refine zA ?_)
 | (refine ⟨?_,?_⟩ <;> refine zA ?_)
 | (intro hx;constructor <;> intro hs)
 | (constructor <;> intro hs)
 | (refine ⟨?_,fun hs=>?_⟩;refine zA ?_)
 | (refine ⟨fun hs=>?_,?_⟩;rotate_left;refine zA ?_;rotate_left)
 | (refine Qj ?_;simp [-zg,-zd,↓Qb,↓Qa,go_sem];try first | (refine ⟨?_,?_⟩ <;> refine zA ?_) | (refine ⟨fun cz=>?_,fun cz=>?_⟩ <;> (try simp [B_iff,B_not] at cz)))
 | (refine Qc Γr_ok [] (by kernel_rfl) ?_;simp [-zg,-zd,↓Qb,↓Qa,go_sem])
 | fail))
  all_goals (first
 | (rw [shape_iff (by omega)];exact ⟨c17,by omega,by simp only [lim];(repeat' split) <;> omega,fun j hj=>hu j (by omega)⟩)
 | (intro h;rw [show d.toNat = 0 by omega] at h;exact h)
 | (rw [shape_iff (by omega)];rintro ⟨q1,q2,q3,q4⟩;first | (exact absurd q1 (by assumption)) | (exact absurd (q4 i (by assumption)) (by assumption)) | (simp only [lim] at q3;revert q3;(repeat' split) <;> intros <;> omega))
 | skip)
theorem l1Shape_pure (k:Int) (v:Int) (ks:List Tree) (d:Int) (h0:d ≤ 1000000):Pure Tryz.prog 195 [.st [.int .i64 k,.int .i64 v,li cX ks],.int .i64 d] (.bool (B (ShapeOk d.toNat (.mk k v ks)))):=zarn (d.toNat + 1) k v ks d h0 (by omega)
@[go_sem] def zaim:Con:=.pure fun
  | [.st [.int .i64 k,.int .i64 v,.list n_ks c_ks],.int .i64 d]=>((Is cX n_ks c_ks) ∧ (d ≤ 1000000),.bool (B (ShapeOk d.toNat (.mk k v (de cX c_ks)))))
  | _=>(False,.any)
theorem zaro:ConOk Tryz.prog 195 zaim:=by
  refine ⟨Qo Tryz.func195 (by decide) rfl,fun args h=>?_⟩
  revert h
  dsimp only
  split
  · intro h
    obtain ⟨⟨ks,rfl,rfl⟩,h0⟩:=h
    try simp only [Qm] at *
    exact ⟨l1Shape_pure _ _ ks _ h0,by simp [go_sem]⟩
  · intro h
    exact h.elim
@[go_sem] def Γe5:FuncId → Con:=ext Γe4 195 zaim
theorem Γe5_ok:∀ g,ConOk Tryz.prog g (Γe5 g):=Qn Γe4_ok zaro


def csum (m:Tree → Int) (ks:List Tree) (i:Nat):Int:=((ks.take i).map m).sum
theorem csum_zero (m:Tree → Int) (ks:List Tree):csum m ks 0 = 0:=by simp [csum]
theorem csum_succ (m:Tree → Int) {ks:List Tree} {i:Nat} (h:i < ks.length):csum m ks (i + 1) = csum m ks i + m (nth ks i):=by
  unfold csum;rw [List.take_succ_eq_append_getElem h,List.map_append,List.sum_append,Xc h];simp
theorem zasa {m:Tree → Int} {ks:List Tree} {M:Int} (h:∀ i,i < ks.length → 1 ≤ m (nth ks i) ∧ m (nth ks i) ≤ M):∀ i,i ≤ ks.length → 0 ≤ csum m ks i ∧ csum m ks i ≤ i * M
  | 0,_=>by rw [csum_zero];simp
  | i + 1,hi=>by
    have h1:=zasa h i (by omega)
    have h2:=h i (by omega)
    rw [csum_succ m (by omega)]
    have:((i + 1:Nat):Int) * M = i * M + M:=by rw [Int.natCast_add,Int.add_mul];simp
    omega
def cntT:Nat → Tree → Int
  | 0,_=>1
  | d + 1,t=>1 + csum (cntT d) t.ks t.ks.length
theorem cnt_rng:∀ (d:Nat) (t:Tree),ShapeOk d t → 1 ≤ cntT d t ∧ cntT d t ≤ ((4 ^ d:Nat):Int)
  | 0,t,h=>h.elim
  | d + 1,t,h=>by
    have h2:=h.two
    have h3:=zasa (m:=cntT d) (ks:=t.ks) (M:=((4 ^ d:Nat):Int)) (fun i hi=>cnt_rng d _ (h.2.2.2 i hi)) t.ks.length (Nat.le_refl _)
    have p:1 ≤ 4 ^ d:=Nat.one_le_pow _ _ (by omega)
    have h4:(t.ks.length:Int) * ((4 ^ d:Nat):Int) ≤ 2 * ((4 ^ d:Nat):Int):=Int.mul_le_mul_of_nonneg_right (by omega) (by omega)
    have h5:4 ^ (d + 1) = 4 * 4 ^ d:=by rw [Nat.pow_succ,Nat.mul_comm]
    rw [cntT,h5]
    omega
theorem pow_le20 {d:Nat} (h:d ≤ 20):4 ^ d ≤ 1099511627776:=by
  have:4 ^ d ≤ 4 ^ 20:=Nat.pow_le_pow_right (by omega) h
  have e:4 ^ 20 = 1099511627776:=by decide
  omega
theorem cnt_bd {d:Nat} {t:Tree} (h:ShapeOk d t) (hd:d ≤ 20):1 ≤ cntT d t ∧ cntT d t ≤ 1099511627776:=by
  have:=cnt_rng d t h;have:=pow_le20 hd;omega
theorem shape_at {d:Int} {k v:Int} {ks:List Tree} (h:ShapeOk d.toNat (.mk k v ks)):1 ≤ d ∧ (ks.length:Int) = ar k ∧ ks.length ≤ 2 ∧ (0 ≤ v ∧ v ≤ lim k) ∧ ∀ i,i < ks.length → ShapeOk (d.toNat - 1) (nth ks i):=by
  have h1:1 ≤ d:=by
    rcases Int.lt_or_le d 1 with q | q
    · rw [show d.toNat = 0 by omega] at h;exact h.elim
    · exact q
  obtain ⟨q1,q2,q3,q4⟩:=(shape_iff h1).1 h
  exact ⟨h1,q1,h.two,⟨q2,q3⟩,q4⟩

@[go_sem] def zalp (n_:Nat):Con:=.pure fun
  | [.st [.int .i64 k,.int .i64 v,.list n_ks c_ks],.int .i64 d]=>((Is cX n_ks c_ks) ∧ (d ≤ 20) ∧ (ShapeOk d.toNat (.mk k v (de cX c_ks))) ∧ (d.toNat < n_),.int .i64 (cntT d.toNat (.mk k v (de cX c_ks))))
  | _=>(False,.any)
theorem zaoe {n_:Nat} (ih:∀ (k:Int) (v:Int) (ks:List Tree) (d:Int) (h0:d ≤ 20) (hS:ShapeOk d.toNat (.mk k v ks)) (hm_:d.toNat < n_),Pure Tryz.prog 196 [.st [.int .i64 k,.int .i64 v,li cX ks],.int .i64 d] (.int .i64 (cntT d.toNat (.mk k v ks)))):ConOk Tryz.prog 196 (zalp n_):=by
  refine ⟨Qo Tryz.func196 (by decide) rfl,fun args h=>?_⟩
  revert h
  dsimp only
  split
  · intro h
    obtain ⟨⟨ks,rfl,rfl⟩,h0,hS,hm_⟩:=h
    try simp only [Qm] at *
    exact ⟨ih _ _ ks _ h0 hS hm_,by simp [go_sem]⟩
  · intro h
    exact h.elim
theorem zarq:∀ (n_:Nat),∀ (k:Int) (v:Int) (ks:List Tree) (d:Int) (h0:d ≤ 20) (hS:ShapeOk d.toNat (.mk k v ks)) (hm_:d.toNat < n_),Pure Tryz.prog 196 [.st [.int .i64 k,.int .i64 v,li cX ks],.int .i64 d] (.int .i64 (cntT d.toNat (.mk k v ks))):=by
  intro n_
  induction n_ with
  | zero=>intros;omega
  | succ n_ ih =>
  intro k v ks d h0 hS hm_
  have Γr_ok:=Qn Γe5_ok (zaoe ih)
  refine Pure.of_walk Tryz.func196 rfl (by simp [Tryz.f196]) (by simp [-zd,go_sem]) fun B hK=>?_
  obtain ⟨s1,s2,s3,s4,s5⟩:=shape_at hS;have hcb:∀ i,i < ks.length → 1 ≤ cntT (d.toNat - 1) (nth ks i) ∧ cntT (d.toNat - 1) (nth ks i) ≤ 1099511627776:=(fun i hi=>cnt_bd (s5 i hi) (by omega))
  all_goals (repeat' (first
 | refine Qt ?_
 | refine Qc (id:=0) Γr_ok [] (by kernel_rfl) ?_;simp [-zg,-zd,↓Qb,↓Qa,go_sem];try (refine Xh hK 2 ?_;simp [go_sem])
 | refine Qc (id:=3) Γr_ok [12] (by kernel_rfl) ?_;simp [-zg,-zd,↓Qb,↓Qa,go_sem,(show 0 < d by omega)];try (refine ⟨fun s3a=>?_,fun s3a=>?_⟩ <;> (try simp [B_iff,B_not] at s3a) <;> try (refine ⟨fun s3b=>?_,fun s3b=>?_⟩ <;> (try simp [B_iff,B_not] at s3b)))
 | (have q1:=zasa hcb i hi;have q2:=hcb i s3a);refine Qc (id:=5) Γr_ok [] (by kernel_rfl) ?_;simp [-zg,-zd,↓Qb,↓Qa,go_sem,s3a,Qk s3a,zsP s3a,Xa (x:=d - 1) (by omega) (by omega),(show d - 1 ≤ 20 by omega),(show d ≤ 20 + 1 by omega),(show d.toNat - 1 < n_ by omega),(show 0 < d.toNat by omega),Tree.eta,s5 i s3a,Xa (x:=1 + csum (cntT (d.toNat - 1)) ks i + cntT (d.toNat - 1) (nth ks i)) (by omega) (by omega)]
 | refine Qc (id:=4) Γr_ok [] (by kernel_rfl) ?_;simp [-zg,-zd,↓Qb,↓Qa,go_sem,wrapS (k:=i) (by omega)]
 | (refine Qe (id:=0) (Qw (ι:=Nat) (fun i:Nat=>⟨(upd (upd (upd (upd (fun _=>.any) 1 (.int .i64 d)) 2 (.pd [.int .i64 k,.int .i64 v,li cX ks])) 5 (.int .i64 (1 + csum (cntT (d.toNat - 1)) ks i))) 6 (.int .i64 i)),fun _=>none⟩) (fun i=>i ≤ ks.length) (fun i=>ks.length - i) (0) ?_ ?_ ?_);exact Nat.zero_le _;((repeat' (first | exact Qg (by assumption) | exact Qi | refine Qf ?_ ?_ | refine Qh ?_)) <;> simp [-zg,-zd,↓Qb,↓Qa,go_sem,csum_zero]);rintro i hi)
 | (refine ⟨i + 1,by omega,by first | omega | (simp;done) | (simp;omega),?_⟩;((repeat' (first | exact Qg (by assumption) | exact Qi | refine Qf ?_ ?_ | refine Qh ?_)) <;> simp [-zg,-zd,↓Qb,↓Qa,go_sem,csum_succ (cntT (d.toNat - 1)) s3a,Int.add_assoc]))
 | (refine Qe ?_)
 | (refine Qs ?_;simp [-zg,-zd,↓Qb,↓Qa,go_sem])
 | (refine Qr ?_;simp [-zg,-zd,↓Qb,↓Qa,go_sem])
 | (refine Qq ?_;simp [-zg,-zd,↓Qb,↓Qa,go_sem,Tryz.results196])
 | (intro hx;refine zA ?_)
 | (refine ⟨?_,?_⟩ <;> refine zA ?_)
 | (intro hx;constructor <;> intro hs)
 | (constructor <;> intro hs)
 | (refine ⟨?_,fun hs=>?_⟩;refine zA ?_)
 | (refine ⟨fun hs=>?_,?_⟩;rotate_left;refine zA ?_;rotate_left)
 | (refine Qj ?_;simp [-zg,-zd,↓Qb,↓Qa,go_sem];try first | (refine ⟨?_,?_⟩ <;> refine zA ?_) | (refine ⟨fun cz=>?_,fun cz=>?_⟩ <;> (try simp [B_iff,B_not] at cz)))
 | (refine Qc Γr_ok [] (by kernel_rfl) ?_;simp [-zg,-zd,↓Qb,↓Qa,go_sem])
 | fail))
  all_goals (first
 | (obtain ⟨d',e⟩:∃ d',d.toNat = d' + 1:=⟨d.toNat - 1,by omega⟩;obtain rfl:i = ks.length:=(by omega);rw [e];simp only [cntT,Nat.add_sub_cancel,Tree.ks])
 | skip)
theorem l1Count_pure (k:Int) (v:Int) (ks:List Tree) (d:Int) (h0:d ≤ 20) (hS:ShapeOk d.toNat (.mk k v ks)):Pure Tryz.prog 196 [.st [.int .i64 k,.int .i64 v,li cX ks],.int .i64 d] (.int .i64 (cntT d.toNat (.mk k v ks))):=zarq (d.toNat + 1) k v ks d h0 hS (by omega)
@[go_sem] def zain:Con:=.pure fun
  | [.st [.int .i64 k,.int .i64 v,.list n_ks c_ks],.int .i64 d]=>((Is cX n_ks c_ks) ∧ (d ≤ 20) ∧ (ShapeOk d.toNat (.mk k v (de cX c_ks))),.int .i64 (cntT d.toNat (.mk k v (de cX c_ks))))
  | _=>(False,.any)
theorem zarr:ConOk Tryz.prog 196 zain:=by
  refine ⟨Qo Tryz.func196 (by decide) rfl,fun args h=>?_⟩
  revert h
  dsimp only
  split
  · intro h
    obtain ⟨⟨ks,rfl,rfl⟩,h0,hS⟩:=h
    try simp only [Qm] at *
    exact ⟨l1Count_pure _ _ ks _ h0 hS,by simp [go_sem]⟩
  · intro h
    exact h.elim
@[go_sem] def Γe6:FuncId → Con:=ext Γe5 196 zain
theorem Γe6_ok:∀ g,ConOk Tryz.prog g (Γe6 g):=Qn Γe5_ok zarr

def ExprOk (t:Tree):Prop:=ShapeOk 6 t ∧ cntT 6 t ≤ 15

theorem ExprValid_pure (k:Int) (v:Int) (ks:List Tree)  : Pure Tryz.prog 176 [.st [.int .i64 k,.int .i64 v,li cX ks]] (.bool (B (ExprOk (.mk k v ks)))):=by
  refine Pure.of_walk Tryz.func176 rfl (by simp [Tryz.f176]) (by simp [-zd,go_sem]) fun B hK=>?_
  cases hs:Vm.B (ShapeOk 6 (.mk k v ks))
  all_goals (repeat' (first
 | refine Qt ?_
 | refine Qc (id:=0) Γe6_ok [] (by kernel_rfl) ?_;simp [-zg,-zd,↓Qb,↓Qa,go_sem];try (refine Xh hK 1 ?_;simp [go_sem])
 | ((try (have hS:ShapeOk 6 (.mk k v ks):=(by rw [B_iff] at hs;exact hs)));skip);refine Qc (id:=1) Γe6_ok [5] (by kernel_rfl) ?_;simp [-zg,-zd,↓Qb,↓Qa,go_sem,hs,hS];try (refine ⟨fun s1a=>?_,fun s1a=>?_⟩ <;> (try simp [B_iff,B_not] at s1a) <;> try (refine ⟨fun s1b=>?_,fun s1b=>?_⟩ <;> (try simp [B_iff,B_not] at s1b)))
 | refine Qc (id:=1) Γe6_ok [5] (by kernel_rfl) ?_;simp [-zg,-zd,↓Qb,↓Qa,go_sem,hs];try (refine ⟨fun s1a=>?_,fun s1a=>?_⟩ <;> (try simp [B_iff,B_not] at s1a) <;> try (refine ⟨fun s1b=>?_,fun s1b=>?_⟩ <;> (try simp [B_iff,B_not] at s1b)))
 | (refine Qe ?_)
 | (refine Qs ?_;simp [-zg,-zd,↓Qb,↓Qa,go_sem])
 | (refine Qr ?_;simp [-zg,-zd,↓Qb,↓Qa,go_sem])
 | (refine Qq ?_;simp [-zg,-zd,↓Qb,↓Qa,go_sem,Tryz.results176])
 | (intro hx;refine zA ?_)
 | (refine ⟨?_,?_⟩ <;> refine zA ?_)
 | (intro hx;constructor <;> intro hs)
 | (constructor <;> intro hs)
 | (refine ⟨?_,fun hs=>?_⟩;refine zA ?_)
 | (refine ⟨fun hs=>?_,?_⟩;rotate_left;refine zA ?_;rotate_left)))
  all_goals (first
 | (rw [eq_comm,B_not];intro h;have:=B_yes h.1;rw [hs] at this;cases this;done)
 | (rw [B_not];intro h;have:=B_yes h.1;rw [hs] at this;cases this;done)
 | (rw [Bool.eq_iff_iff,B_iff,decide_eq_true_eq];exact ⟨fun h=>⟨hS,h⟩,fun h=>h.2⟩)
 | (intro h;have:=B_yes h.1;rw [hs] at this;cases this;done)
 | skip)
@[go_sem] def zafw:Con:=.pure fun
  | [.st [.int .i64 k,.int .i64 v,.list n_ks c_ks]]=>((Is cX n_ks c_ks),.bool (B (ExprOk (.mk k v (de cX c_ks)))))
  | _=>(False,.any)
theorem zanm:ConOk Tryz.prog 176 zafw:=by
  refine ⟨Qo Tryz.func176 (by decide) rfl,fun args h=>?_⟩
  revert h
  dsimp only
  split
  · intro h
    obtain ⟨ks,rfl,rfl⟩:=h
    try simp only [Qm] at *
    exact ⟨ExprValid_pure _ _ ks,by simp [go_sem]⟩
  · intro h
    exact h.elim
@[go_sem] def Γe7:FuncId → Con:=ext Γe6 176 zafw
theorem Γe7_ok:∀ g,ConOk Tryz.prog g (Γe7 g):=Qn Γe6_ok zanm

theorem l1Bool_pure (b:Bool)  : Pure Tryz.prog 202 [.bool b] (.int .i64 (if b then 1 else 0)):=by
  refine Pure.of_walk Tryz.func202 rfl (by simp [Tryz.f202]) (by simp [-zd,go_sem]) fun B hK=>?_
  cases b
  all_goals (repeat' (first
 | refine Qt ?_
 | (refine Qe ?_)
 | (refine Qs ?_;simp [-zg,-zd,↓Qb,↓Qa,go_sem])
 | (refine Qr ?_;simp [-zg,-zd,↓Qb,↓Qa,go_sem])
 | (refine Qq ?_;simp [-zg,-zd,↓Qb,↓Qa,go_sem,Tryz.results202])
 | (intro hx;refine zA ?_)
 | (refine ⟨?_,?_⟩ <;> refine zA ?_)
 | (intro hx;constructor <;> intro hs)
 | (constructor <;> intro hs)
 | (refine ⟨?_,fun hs=>?_⟩;refine zA ?_)
 | (refine ⟨fun hs=>?_,?_⟩;rotate_left;refine zA ?_;rotate_left)
 | (refine Qj ?_;simp [-zg,-zd,↓Qb,↓Qa,go_sem];try first | (refine ⟨?_,?_⟩ <;> refine zA ?_) | (refine ⟨fun cz=>?_,fun cz=>?_⟩ <;> (try simp [B_iff,B_not] at cz)))
 | (refine Qc Γe7_ok [] (by kernel_rfl) ?_;simp [-zg,-zd,↓Qb,↓Qa,go_sem])
 | fail))
@[go_sem] def zakm:Con:=.pure fun
  | [.bool b]=>(True,.int .i64 (if b then 1 else 0))
  | _=>(False,.any)
theorem zath:ConOk Tryz.prog 202 zakm:=by
  refine ⟨Qo Tryz.func202 (by decide) rfl,fun args h=>?_⟩
  revert h
  dsimp only
  split
  · intro h
    skip
    skip
    exact ⟨l1Bool_pure _,by simp [go_sem]⟩
  · intro h
    exact h.elim
@[go_sem] def Γe8:FuncId → Con:=ext Γe7 202 zakm
theorem Γe8_ok:∀ g,ConOk Tryz.prog g (Γe8 g):=Qn Γe7_ok zath

mutual
def tsz:Tree → Nat
  | .mk _ _ ks=>1 + tszs ks
def tszs:List Tree → Nat
  | []=>0
  | t :: ts=>tsz t + tszs ts
end
theorem tsz_kid:∀ (ks:List Tree) (i:Nat),i < ks.length → tsz (nth ks i) ≤ tszs ks
  | [],i,h=>by simp at h
  | t :: ts,0,h=>by rw [tszs,nth_zero];omega
  | t :: ts,i + 1,h=>by rw [tszs,nth_succ];have:=tsz_kid ts i (by simpa using h);omega
theorem Xt {k v:Int} {ks:List Tree} {i:Nat} (h:i < ks.length):tsz (nth ks i) < tsz (.mk k v ks):=by rw [tsz];have:=tsz_kid ks i h;omega
def Well (t:Tree):Prop:=∃ d,ShapeOk d t
theorem Well.at {k v:Int} {ks:List Tree} (h:Well (.mk k v ks)):(ks.length:Int) = ar k ∧ 0 ≤ v ∧ v ≤ lim k ∧ ∀ i,i < ks.length → Well (nth ks i):=by
  obtain ⟨d,h⟩:=h
  cases d with
  | zero=>exact h.elim
  | succ d=>obtain ⟨q1,q2,q3,q4⟩:=h;exact ⟨q1,q2,q3,fun i hi=>⟨d,q4 i hi⟩⟩
theorem ValsOk.at {xs:List Int} (h:ValsOk xs) {i:Nat} (hi:i < 3):i < xs.length ∧ 0 ≤ nth xs i ∧ nth xs i ≤ 3:=by
  have:=h.1;exact ⟨by omega,h.2 i (by omega)⟩

theorem Jq {α:Type} [Inhabited α] {f:α → List D} {sz:Nat} [Wide f sz] {xs:List α} (h:0 < xs.length):(cat f xs).take sz = f (nth xs 0):=by
  have:=cat_at (f:=f) h
  rwa [List.drop_zero] at this
theorem mod4 {x:Int} (h:0 ≤ x):0 ≤ x.tmod 4 ∧ x.tmod 4 ≤ 3:=by rw [Int.tmod_eq_emod_of_nonneg h];omega

@[go_sem] def Jy:Int → D:=fun x=>.int .i64 x
def Uu (k:Int) (v:Int) (ks:List Tree) (xs:List Int):Int → Prop:=fun x=>0 ≤ x ∧ x ≤ 3
def Jf (k:Int) (v:Int) (ks:List Tree) (xs:List Int) (c:Any):Int:=sel (Uu k v ks xs) (0) c
theorem zalo (k:Int) (v:Int) (ks:List Tree) (xs:List Int) (hw:Well (.mk k v ks)) (hv:ValsOk xs) (c:Any):Uu k v ks xs (Jf k v ks xs c):=Xl (p:=Uu k v ks xs) (x0:=0) (by simp [Uu]) c
theorem l1Eval_ret (k:Int) (v:Int) (ks:List Tree) (xs:List Int) {e_:Exit} {S_:St} (x:Int) (he_:e_ = .ret ∨ e_ = .normal)
    (h1:(Qd Tryz.prog S_ Tryz.f197.results.toList).1 ∧ resD (Qd Tryz.prog S_ Tryz.f197.results.toList).2.1 = Jy x) (hg:Uu k v ks xs x) :
    retR Tryz.prog Tryz.f197 (fun c=>(Jy (Jf k v ks xs c),fun _=>none)) e_ S_:=Xi (enc:=Jy) x he_ h1 hg
theorem zauo (k:Int) (v:Int) (ks:List Tree) (xs:List Int) {e_:Exit} {S_:St} (he_:e_ = .ret ∨ e_ = .normal)
    (h:∃ x,(Qd Tryz.prog S_ Tryz.f197.results.toList).1 ∧ resD (Qd Tryz.prog S_ Tryz.f197.results.toList).2.1 = Jy x ∧ Uu k v ks xs x) :
    retR Tryz.prog Tryz.f197 (fun c=>(Jy (Jf k v ks xs c),fun _=>none)) e_ S_:=by
  obtain ⟨x,h1,h2,h3⟩:=h
  exact l1Eval_ret _ _ _ _ x he_ ⟨h1,h2⟩ h3
@[go_sem] def l1EvalCn (n_:Nat):Con:=.prel fun
  | [.st [.int .i64 k,.int .i64 v,.list n_ks c_ks],.list n_xs c_xs]=>((Is cX n_ks c_ks) ∧ (Is cI n_xs c_xs) ∧ (Well (.mk k v (de cX c_ks))) ∧ (ValsOk (de cI c_xs)) ∧ (tsz (.mk k v (de cX c_ks)) < n_),fun c=>Jy (Jf k v (de cX c_ks) (de cI c_xs) c))
  | _=>(False,fun _=>.any)
theorem l1EvalCn_ok {n_:Nat} (ih:∀ (k:Int) (v:Int) (ks:List Tree) (xs:List Int) (hw:Well (.mk k v ks)) (hv:ValsOk xs) (hm_:tsz (.mk k v ks) < n_),PureR Tryz.prog 197 [.st [.int .i64 k,.int .i64 v,li cX ks],li cI xs] (fun c=>Jy (Jf k v ks xs c))):ConOk Tryz.prog 197 (l1EvalCn n_):=by
  refine ⟨Qo Tryz.func197 (by decide) rfl,fun args h=>?_⟩
  revert h
  dsimp only
  split
  · intro h
    obtain ⟨⟨ks,rfl,rfl⟩,⟨xs,rfl,rfl⟩,hw,hv,hm_⟩:=h
    try simp only [Qm] at *
    exact ⟨ih _ _ ks xs hw hv hm_,fun c=>by simp [go_sem]⟩
  · intro h
    exact h.elim
set_option maxHeartbeats 1000000 in
theorem l1Eval_rec:∀ (n_:Nat),∀ (k:Int) (v:Int) (ks:List Tree) (xs:List Int) (hw:Well (.mk k v ks)) (hv:ValsOk xs) (hm_:tsz (.mk k v ks) < n_),PureR Tryz.prog 197 [.st [.int .i64 k,.int .i64 v,li cX ks],li cI xs] (fun c=>Jy (Jf k v ks xs c)):=by
  intro n_
  induction n_ with
  | zero=>intros;omega
  | succ n_ ih =>
  intro k v ks xs hw hv hm_
  have Γr_ok:=Qn Γe8_ok (l1EvalCn_ok ih)
  refine PureR.of_walk Tryz.func197 rfl (by simp [Tryz.f197]) (fun c=>by simp [-zd,go_sem]) fun B hK=>?_
  obtain ⟨w1,w2,w3,w4⟩:=hw.at;have e1:k = 1 → v ≤ 3:=(by intro h;simp only [lim,h] at w3;simpa using w3);have e2:k = 2 → v ≤ 2:=(by intro h;simp only [lim,h] at w3;simpa using w3);have e3:k = 3 → ks.length = 1:=(by intro h;simp only [ar,h] at w1;simp at w1;omega);have e4:¬ k = 1 → ¬ k = 2 → ¬ k = 3 → ks.length = 2:=(by intro a b c;simp only [ar] at w1;rw [if_neg (by omega),if_neg (by omega)] at w1;split at w1 <;> omega);have hxl:=hv.1
  all_goals (repeat' (first
 | refine Qt ?_
 | refine Qc (id:=0) Γr_ok [] (by kernel_rfl) ?_;simp [-zg,-zd,↓Qb,↓Qa,go_sem];try (refine Xh hK 2 ?_;simp [go_sem])
 | (have q2:=e2 c13;obtain ⟨y1,y2,y3⟩:=hv.at (i:=v.toNat) (by omega));refine Qc (id:=5) Γr_ok [] (by kernel_rfl) ?_;simp [-zg,-zd,↓Qb,↓Qa,go_sem,w2,(show v < xs.length by omega),y1,Qk y1,zsP y1,c13]
 | (have q3:=e3 c20;have qk:0 < ks.length:=(by omega);have qt:=Xt (k:=k) (v:=v) qk;have qw:=w4 0 qk);refine Qc (id:=7) Γr_ok [] (by kernel_rfl) ?_;simp [-zg,-zd,↓Qb,↓Qa,go_sem,qk,Qk qk,zsP qk,Jq (f:=cX) qk,(show 3 ≤ ks.length * 3 by omega),(show tsz (nth ks 0) < n_ by omega),Tree.eta,qw,hv,c20];try (intro c7;have h7:=zalo (nth ks 0).k (nth ks 0).v (nth ks 0).ks xs (by rw [Tree.eta];exact qw) hv c7;(generalize Jf (nth ks 0).k (nth ks 0).v (nth ks 0).ks xs c7 = z7 at *))
 | (have q4:=e4 (by assumption) (by assumption) (by assumption);have qk:0 < ks.length:=(by omega);have qj:1 < ks.length:=(by omega);have qt:=Xt (k:=k) (v:=v) qk;have qu:=Xt (k:=k) (v:=v) qj;have qw:=w4 0 qk;have qx:=w4 1 qj);refine Qc (id:=8) Γr_ok [] (by kernel_rfl) ?_;simp [-zg,-zd,↓Qb,↓Qa,go_sem,qk,Qk qk,zsP qk,Jq (f:=cX) qk,(show 3 ≤ ks.length * 3 by omega),(show tsz (nth ks 0) < n_ by omega),Tree.eta,qw,hv];try (intro c8;have h8:=zalo (nth ks 0).k (nth ks 0).v (nth ks 0).ks xs (by rw [Tree.eta];exact qw) hv c8;(generalize Jf (nth ks 0).k (nth ks 0).v (nth ks 0).ks xs c8 = z8 at *);(obtain ⟨h8a,h8b⟩:=h8))
 | refine Qc (id:=9) Γr_ok [] (by kernel_rfl) ?_;simp [-zg,-zd,↓Qb,↓Qa,go_sem,qk,Qk qk,zsP qk,qj,(show (cat cX ks).drop 3 = cat cX (ks.drop 1) from Vb (f:=cX) (sz:=3) ks 1),(show 3 ≤ ks.length * 3 - 3 by omega),(show 3 ≤ (ks.length - 1) * 3 by omega),(show (1:Int) < (ks.length:Int) by omega),zsP qj,(show tsz (nth ks 1) < n_ by omega),Tree.eta,qx,hv];try (intro c9;have h9:=zalo (nth ks 1).k (nth ks 1).v (nth ks 1).ks xs (by rw [Tree.eta];exact qx) hv c9;(generalize Jf (nth ks 1).k (nth ks 1).v (nth ks 1).ks xs c9 = z9 at *);(obtain ⟨h9a,h9b⟩:=h9))
 | refine Qc (id:=12) Γr_ok [48] (by kernel_rfl) ?_;simp [-zg,-zd,↓Qb,↓Qa,go_sem];try (refine ⟨fun s12a=>?_,fun s12a=>?_⟩ <;> (try simp [B_iff,B_not] at s12a) <;> try (refine ⟨fun s12b=>?_,fun s12b=>?_⟩ <;> (try simp [B_iff,B_not] at s12b)))
 | refine Qc (id:=14) Γr_ok [57] (by kernel_rfl) ?_;simp [-zg,-zd,↓Qb,↓Qa,go_sem];try (refine ⟨fun s14a=>?_,fun s14a=>?_⟩ <;> (try simp [B_iff,B_not] at s14a) <;> try (refine ⟨fun s14b=>?_,fun s14b=>?_⟩ <;> (try simp [B_iff,B_not] at s14b)))
 | refine Qc (id:=20) Γr_ok [] (by kernel_rfl) ?_;simp [-zg,-zd,↓Qb,↓Qa,go_sem,Xa (x:=z8 + z9) (by omega) (by omega)]
 | refine Qc (id:=21) Γr_ok [] (by kernel_rfl) ?_;simp [-zg,-zd,↓Qb,↓Qa,go_sem,Xa (x:=z8 - z9) (by omega) (by omega),Xa (x:=z8 - z9 + 3) (by omega) (by omega),Xa (x:=z8 - z9 + 3 + 1) (by omega) (by omega)]
 | refine Qj (c:=.tmp 9) ?_;simp [-zg,-zd,↓Qb,↓Qa,go_sem];try first | (refine ⟨?_,?_⟩ <;> refine zA ?_) | (refine ⟨fun c9=>?_,fun c9=>?_⟩ <;> (try simp [B_iff,B_not] at c9))
 | refine Qj (c:=.tmp 13) ?_;simp [-zg,-zd,↓Qb,↓Qa,go_sem];try first | (refine ⟨?_,?_⟩ <;> refine zA ?_) | (refine ⟨fun c13=>?_,fun c13=>?_⟩ <;> (try simp [B_iff,B_not] at c13))
 | refine Qj (c:=.tmp 20) ?_;simp [-zg,-zd,↓Qb,↓Qa,go_sem];try first | (refine ⟨?_,?_⟩ <;> refine zA ?_) | (refine ⟨fun c20=>?_,fun c20=>?_⟩ <;> (try simp [B_iff,B_not] at c20))
 | (refine Qe ?_)
 | (refine Qs ?_;simp [-zg,-zd,↓Qb,↓Qa,go_sem])
 | (refine Qr ?_;simp [-zg,-zd,↓Qb,↓Qa,go_sem])
 | (refine Qq ?_;try simp [-zg,-zd,↓Qb,↓Qa,go_sem,Tryz.results197])
 | (intro hx;refine zA ?_)
 | (intro hx;change retR _ _ _ _ _)
 | (refine ⟨?_,?_⟩ <;> refine zA ?_)
 | (intro hx;constructor <;> intro hs)
 | (constructor <;> intro hs)
 | (refine ⟨?_,fun hs=>?_⟩;refine zA ?_)
 | (refine ⟨fun hs=>?_,?_⟩;rotate_left;refine zA ?_;rotate_left)
 | (refine Qj ?_;simp [-zg,-zd,↓Qb,↓Qa,go_sem];try first | (refine ⟨?_,?_⟩ <;> refine zA ?_) | (refine ⟨fun cz=>?_,fun cz=>?_⟩ <;> (try simp [B_iff,B_not] at cz)))
 | (refine Qc Γr_ok [] (by kernel_rfl) ?_;simp [-zg,-zd,↓Qb,↓Qa,go_sem])
 | fail))
  all_goals (first
 | (refine zauo _ _ _ _ ?_ ?_;(first | exact Or.inl rfl | exact Or.inr rfl);(simp [-zg,-zd,↓Qb,↓Qa,go_sem,Tryz.results197,Uu]);(((first | omega | exact mod4 (by omega) | (split <;> omega) | (constructor <;> split <;> omega)));done))
 | (refine zauo _ _ _ _ ?_ ?_;(first | exact Or.inl rfl | exact Or.inr rfl);(simp [-zg,-zd,↓Qb,↓Qa,go_sem,Tryz.results197,Uu];done))
 | skip)
theorem l1Eval_pure (k:Int) (v:Int) (ks:List Tree) (xs:List Int) (hw:Well (.mk k v ks)) (hv:ValsOk xs):PureR Tryz.prog 197 [.st [.int .i64 k,.int .i64 v,li cX ks],li cI xs] (fun c=>Jy (Jf k v ks xs c)):=l1Eval_rec (tsz (.mk k v ks) + 1) k v ks xs hw hv (by omega)
@[go_sem] def l1EvalC:Con:=.prel fun
  | [.st [.int .i64 k,.int .i64 v,.list n_ks c_ks],.list n_xs c_xs]=>((Is cX n_ks c_ks) ∧ (Is cI n_xs c_xs) ∧ (Well (.mk k v (de cX c_ks))) ∧ (ValsOk (de cI c_xs)),fun c=>Jy (Jf k v (de cX c_ks) (de cI c_xs) c))
  | _=>(False,fun _=>.any)
theorem l1EvalC_ok:ConOk Tryz.prog 197 l1EvalC:=by
  refine ⟨Qo Tryz.func197 (by decide) rfl,fun args h=>?_⟩
  revert h
  dsimp only
  split
  · intro h
    obtain ⟨⟨ks,rfl,rfl⟩,⟨xs,rfl,rfl⟩,hw,hv⟩:=h
    try simp only [Qm] at *
    exact ⟨l1Eval_pure _ _ ks xs hw hv,fun c=>by simp [go_sem]⟩
  · intro h
    exact h.elim
@[go_sem] def Γe9:FuncId → Con:=ext Γe8 197 l1EvalC
theorem Γe9_ok:∀ g,ConOk Tryz.prog g (Γe9 g):=Qn Γe8_ok l1EvalC_ok

end
end Go.Proofs.YtiilmjojffjhlaaGreatDoor.Vm

