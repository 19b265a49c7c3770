import Derived.Test.YtnfldmfamnhpcaaDoorJ10
import Derived.Test.YtnfldmfamnhpcaaDoorTr
/-
  Automata: rows of Bools, of transitions; sz, to, eq. No conditions.
-/
namespace Go.Proofs.YtnfldmfamnhpcaaDoor.Vm
open Go
open Nat renaming sub_pos_of_lt → zsP
open List renaming getD_eq_getElem?_getD → zg,drop_one → zd
noncomputable section
set_option linter.unusedVariables false
set_option linter.unusedSimpArgs false
set_option maxRecDepth 200000

theorem szBoolS_pure (xs:List Bool) (left:Int) (h0:-1 ≤ left) (h1:left ≤ 1048576):Pure Tryd.prog 28 [li cB xs,.int .i64 left] (.int .i64 (szOf left xs.length)):=by
  refine Pure.of_walk Tryd.func28 rfl (by simp [Tryd.f28]) (by simp [-zd,go_sem]) fun B hK=>?_
  (repeat' (first
 | refine Qy ?_
 | (refine AW_len 0 rfl fun hm=>?_);refine Qc (id:=0) zafj [] (by kernel_rfl) ?_;simp [-zg,-zd,↓Qb,↓Qa,go_sem]
 | refine Qc (id:=1) zafj [] (by kernel_rfl) ?_;simp [-zg,-zd,↓Qb,↓Qa,go_sem,wrap_sub h0 h1 hm]
 | refine Qc (id:=2) zafj [] (by kernel_rfl) ?_;simp [-zg,-zd,↓Qb,↓Qa,go_sem]
 | refine Qc (id:=3) zafj [] (by kernel_rfl) ?_;simp [-zg,-zd,↓Qb,↓Qa,go_sem]
 | refine Qc (id:=4) zafj [] (by kernel_rfl) ?_;simp [-zg,-zd,↓Qb,↓Qa,go_sem]
 | refine Qh (c:=.tmp 10) ?_;simp [-zg,-zd,↓Qb,↓Qa,go_sem];try first | (refine ⟨?_,?_⟩ <;> refine zA ?_) | (refine ⟨fun c10=>?_,fun c10=>?_⟩ <;> (try simp [B_iff,B_not] at c10))
 | (refine Qj ?_)
 | (refine Qw ?_;simp [-zg,-zd,↓Qb,↓Qa,go_sem])
 | (refine Qv ?_;simp [-zg,-zd,↓Qb,↓Qa,go_sem])
 | (refine Qz ?_;simp [-zg,-zd,↓Qb,↓Qa,go_sem,Tryd.results28])
 | (intro hx;refine zA ?_)
 | (refine ⟨?_,?_⟩ <;> refine zA ?_)
 | (intro hx;constructor <;> intro hs)
 | (constructor <;> intro hs)
 | (refine ⟨?_,fun hs=>?_⟩;refine zA ?_)
 | (refine ⟨fun hs=>?_,?_⟩;rotate_left;refine zA ?_;rotate_left)))
  all_goals (first
 | rw [szOf_no (by omega)]
 | rw [szOf_yes (by omega)]
 | skip)
@[go_sem] def zabs:Con:=.pure fun
  | [.list n_xs c_xs,.int .i64 left]=>((Is cB n_xs c_xs) ∧ (-1 ≤ left) ∧ (left ≤ 1048576),.int .i64 (szOf left (de cB c_xs).length))
  | _=>(False,.any)
theorem zadx:ConOk Tryd.prog 28 zabs:=by
  refine ⟨Qt Tryd.func28 (by decide) rfl,fun args h=>?_⟩
  revert h
  dsimp only
  split
  · intro h
    obtain ⟨⟨xs,rfl,rfl⟩,h0,h1⟩:=h
    try simp only [Xd] at *
    exact ⟨szBoolS_pure xs _ h0 h1,by simp [go_sem]⟩
  · intro h
    exact h.elim
@[go_sem] def Γa1:FuncId → Con:=ext Γj4 28 zabs
theorem zafl:∀ g,ConOk Tryd.prog g (Γa1 g):=Qu zafj zadx

theorem zacw (xs:List Tr4) (left:Int) (h0:-1 ≤ left) (h1:left ≤ 1048576):Pure Tryd.prog 29 [li cT xs,.int .i64 left] (.int .i64 (szOf left xs.length)):=by
  refine Pure.of_walk Tryd.func29 rfl (by simp [Tryd.f29]) (by simp [-zd,go_sem]) fun B hK=>?_
  (repeat' (first
 | refine Qy ?_
 | (refine AW_len 0 rfl fun hm=>?_);refine Qc (id:=0) zafl [] (by kernel_rfl) ?_;simp [-zg,-zd,↓Qb,↓Qa,go_sem]
 | refine Qc (id:=1) zafl [] (by kernel_rfl) ?_;simp [-zg,-zd,↓Qb,↓Qa,go_sem,wrap_sub h0 h1 hm]
 | refine Qc (id:=2) zafl [] (by kernel_rfl) ?_;simp [-zg,-zd,↓Qb,↓Qa,go_sem]
 | refine Qc (id:=3) zafl [] (by kernel_rfl) ?_;simp [-zg,-zd,↓Qb,↓Qa,go_sem]
 | refine Qc (id:=4) zafl [] (by kernel_rfl) ?_;simp [-zg,-zd,↓Qb,↓Qa,go_sem]
 | refine Qh (c:=.tmp 10) ?_;simp [-zg,-zd,↓Qb,↓Qa,go_sem];try first | (refine ⟨?_,?_⟩ <;> refine zA ?_) | (refine ⟨fun c10=>?_,fun c10=>?_⟩ <;> (try simp [B_iff,B_not] at c10))
 | (refine Qj ?_)
 | (refine Qw ?_;simp [-zg,-zd,↓Qb,↓Qa,go_sem])
 | (refine Qv ?_;simp [-zg,-zd,↓Qb,↓Qa,go_sem])
 | (refine Qz ?_;simp [-zg,-zd,↓Qb,↓Qa,go_sem,Tryd.results29])
 | (intro hx;refine zA ?_)
 | (refine ⟨?_,?_⟩ <;> refine zA ?_)
 | (intro hx;constructor <;> intro hs)
 | (constructor <;> intro hs)
 | (refine ⟨?_,fun hs=>?_⟩;refine zA ?_)
 | (refine ⟨fun hs=>?_,?_⟩;rotate_left;refine zA ?_;rotate_left)))
  all_goals (first
 | rw [szOf_no (by omega)]
 | rw [szOf_yes (by omega)]
 | skip)
@[go_sem] def zaah:Con:=.pure fun
  | [.list n_xs c_xs,.int .i64 left]=>((Is cT n_xs c_xs) ∧ (-1 ≤ left) ∧ (left ≤ 1048576),.int .i64 (szOf left (de cT c_xs).length))
  | _=>(False,.any)
theorem zabr:ConOk Tryd.prog 29 zaah:=by
  refine ⟨Qt Tryd.func29 (by decide) rfl,fun args h=>?_⟩
  revert h
  dsimp only
  split
  · intro h
    obtain ⟨⟨xs,rfl,rfl⟩,h0,h1⟩:=h
    try simp only [Xd] at *
    exact ⟨zacw xs _ h0 h1,by simp [go_sem]⟩
  · intro h
    exact h.elim
@[go_sem] def Γa2:FuncId → Con:=ext Γa1 29 zaah
theorem Zq:∀ g,ConOk Tryd.prog g (Γa2 g):=Qu zafl zabr

theorem toBoolS_pure (xs:List Bool) (h0:xs.length ≤ 1048576):Pure Tryd.prog 31 [li cB xs] (fr 1 cB xs):=by
  refine Pure.of_walk Tryd.func31 rfl (by simp [Tryd.f31]) (by simp [-zd,go_sem]) fun B hK=>?_
  (repeat' (first
 | refine Qy ?_
 | refine Qc (id:=0) Zq [] (by kernel_rfl) ?_;simp [-zg,-zd,↓Qb,↓Qa,go_sem]
 | refine Qc (id:=1) Zq [] (by kernel_rfl) ?_;simp [-zg,-zd,↓Qb,↓Qa,go_sem,(by omega:(xs.length:Int) ≤ 281474976710656),(by omega:(xs.length:Int) ≤ 9223372036854775807)];try ((refine AW_mat 3 rfl fun b cp j _ hcp hj=>?_))
 | refine Qc (id:=2) Zq [] (by kernel_rfl) ?_;simp [-zg,-zd,↓Qb,↓Qa,go_sem]
 | refine Qc (id:=3) Zq [] (by kernel_rfl) ?_;simp [-zg,-zd,↓Qb,↓Qa,go_sem]
 | refine Qc (id:=5) Zq [] (by kernel_rfl) ?_;simp [-zg,-zd,↓Qb,↓Qa,go_sem,c11,Qs c11,zsP c11]
 | refine Qc (id:=4) Zq [] (by kernel_rfl) ?_;simp [-zg,-zd,↓Qb,↓Qa,go_sem,wrapS (k:=k) (by omega)]
 | ((obtain rfl:k = xs.length:=by omega);refine AW_unmat 3 (b:=b) (all:=cat cB xs ++ List.replicate j .any) rfl (by simp [go_sem,fill_all]) (by omega) (by simp [Xe]) (by simp [Xe];omega) ?_);refine Qc (id:=6) Zq [] (by kernel_rfl) ?_;simp [-zg,-zd,↓Qb,↓Qa,go_sem]
 | refine Qh (c:=.tmp 11) ?_;simp [-zg,-zd,↓Qb,↓Qa,go_sem];try first | (refine ⟨?_,?_⟩ <;> refine zA ?_) | (refine ⟨fun c11=>?_,fun c11=>?_⟩ <;> (try simp [B_iff,B_not] at c11))
 | (refine Qj (id:=0) (Xp (ι:=Nat) (fun k:Nat=>⟨(upd (upd (upd (fun _=>.any) 0 (li cB xs)) 3 (.sl b 1 0 xs.length cp)) 4 (.int .i64 k)),upd (fun _=>none) b (some (fillC cB [.bool false] 1 xs k (List.replicate j .any)))⟩) (fun k=>k ≤ xs.length) (fun k=>xs.length - k) (0) ?_ ?_ ?_);exact Nat.zero_le _;((repeat' (first | exact Qn (by assumption) | exact Qp | refine Qq ?_ ?_ | refine Qo ?_)) <;> simp [-zg,-zd,↓Qb,↓Qa,go_sem,zacb]);rintro k hk)
 | (refine ⟨k + 1,by omega,by first | omega | (simp;done) | (simp;omega),?_⟩;((repeat' (first | exact Qn (by assumption) | exact Qp | refine Qq ?_ ?_ | refine Qo ?_)) <;> simp [-zg,-zd,↓Qb,↓Qa,go_sem,zacb]))
 | (refine Qj ?_)
 | (refine Qw ?_;simp [-zg,-zd,↓Qb,↓Qa,go_sem])
 | (refine Qv ?_;simp [-zg,-zd,↓Qb,↓Qa,go_sem])
 | (refine Qz ?_;simp [-zg,-zd,↓Qb,↓Qa,go_sem,Tryd.results31])
 | (intro hx;refine zA ?_)
 | (refine ⟨?_,?_⟩ <;> refine zA ?_)
 | (intro hx;constructor <;> intro hs)
 | (constructor <;> intro hs)
 | (refine ⟨?_,fun hs=>?_⟩;refine zA ?_)
 | (refine ⟨fun hs=>?_,?_⟩;rotate_left;refine zA ?_;rotate_left)))
@[go_sem] def zabq:Con:=.pure fun
  | [.list n_xs c_xs]=>((Is cB n_xs c_xs) ∧ ((de cB c_xs).length ≤ 1048576),fr 1 cB (de cB c_xs))
  | _=>(False,.any)
theorem zadv:ConOk Tryd.prog 31 zabq:=by
  refine ⟨Qt Tryd.func31 (by decide) rfl,fun args h=>?_⟩
  revert h
  dsimp only
  split
  · intro h
    obtain ⟨⟨xs,rfl,rfl⟩,h0⟩:=h
    try simp only [Xd] at *
    exact ⟨toBoolS_pure xs h0,by simp [go_sem]⟩
  · intro h
    exact h.elim
@[go_sem] def Γa3:FuncId → Con:=ext Γa2 31 zabq
theorem Zp:∀ g,ConOk Tryd.prog g (Γa3 g):=Qu Zq zadv

theorem zadi (p:Int) (q:Int) (r:Int) (s:Int)  : Pure Tryd.prog 49 [.st [.int .i64 p,.int .i64 q,.int .i64 r,.int .i64 s]] (.st [.int .i64 p,.int .i64 q,.int .i64 r,.int .i64 s]):=by
  refine Pure.of_walk Tryd.func49 rfl (by simp [Tryd.f49]) (by simp [-zd,go_sem]) fun B hK=>?_
  (repeat' (first
 | refine Qy ?_
 | refine Qc (id:=0) Zp [] (by kernel_rfl) ?_;simp [-zg,-zd,↓Qb,↓Qa,go_sem];try (refine Xi hK 1 ?_;simp [go_sem])
 | refine Qc (id:=1) Zp [] (by kernel_rfl) ?_;simp [-zg,-zd,↓Qb,↓Qa,go_sem];try (refine AW_matBox 3 rfl fun b3 hb3=>?_)
 | refine Qc (id:=2) Zp [] (by kernel_rfl) ?_;simp [-zg,-zd,↓Qb,↓Qa,go_sem]
 | refine Qc (id:=3) Zp [] (by kernel_rfl) ?_;simp [-zg,-zd,↓Qb,↓Qa,go_sem]
 | refine Qc (id:=4) Zp [] (by kernel_rfl) ?_;simp [-zg,-zd,↓Qb,↓Qa,go_sem]
 | refine Qc (id:=5) Zp [] (by kernel_rfl) ?_;simp [-zg,-zd,↓Qb,↓Qa,go_sem]
 | refine Qc (id:=6) Zp [] (by kernel_rfl) ?_;simp [-zg,-zd,↓Qb,↓Qa,go_sem]
 | (refine Qj ?_)
 | (refine Qw ?_;simp [-zg,-zd,↓Qb,↓Qa,go_sem])
 | (refine Qv ?_;simp [-zg,-zd,↓Qb,↓Qa,go_sem])
 | (refine Qz ?_;simp [-zg,-zd,↓Qb,↓Qa,go_sem,Tryd.results49])
 | (intro hx;refine zA ?_)
 | (refine ⟨?_,?_⟩ <;> refine zA ?_)
 | (intro hx;constructor <;> intro hs)
 | (constructor <;> intro hs)
 | (refine ⟨?_,fun hs=>?_⟩;refine zA ?_)
 | (refine ⟨fun hs=>?_,?_⟩;rotate_left;refine zA ?_;rotate_left)))
@[go_sem] def zaak:Con:=.pure fun
  | [.st [.int .i64 p,.int .i64 q,.int .i64 r,.int .i64 s]]=>(True,.st [.int .i64 p,.int .i64 q,.int .i64 r,.int .i64 s])
  | _=>(False,.any)
theorem zacd:ConOk Tryd.prog 49 zaak:=by
  refine ⟨Qt Tryd.func49 (by decide) rfl,fun args h=>?_⟩
  revert h
  dsimp only
  split
  · intro h
    skip
    skip
    exact ⟨zadi _ _ _ _,by simp [go_sem]⟩
  · intro h
    exact h.elim
@[go_sem] def Γa4:FuncId → Con:=ext Γa3 49 zaak
theorem Zo:∀ g,ConOk Tryd.prog g (Γa4 g):=Qu Zp zacd

theorem zacv (xs:List Tr4) (h0:xs.length ≤ 1048576):Pure Tryd.prog 32 [li cT xs] (fr 4 cT xs):=by
  refine Pure.of_walk Tryd.func32 rfl (by simp [Tryd.f32]) (by simp [-zd,go_sem]) fun B hK=>?_
  (repeat' (first
 | refine Qy ?_
 | refine Qc (id:=0) Zo [] (by kernel_rfl) ?_;simp [-zg,-zd,↓Qb,↓Qa,go_sem]
 | refine Qc (id:=1) Zo [] (by kernel_rfl) ?_;simp [-zg,-zd,↓Qb,↓Qa,go_sem,(by omega:32 * (xs.length:Int) ≤ 281474976710656),(by omega:(xs.length:Int) ≤ 9223372036854775807)];try ((refine AW_mat 3 rfl fun b cp j _ hcp hj=>?_))
 | refine Qc (id:=2) Zo [] (by kernel_rfl) ?_;simp [-zg,-zd,↓Qb,↓Qa,go_sem]
 | refine Qc (id:=3) Zo [] (by kernel_rfl) ?_;simp [-zg,-zd,↓Qb,↓Qa,go_sem]
 | refine Qc (id:=5) Zo [] (by kernel_rfl) ?_;simp [-zg,-zd,↓Qb,↓Qa,go_sem,c11,Qs c11,zsP c11]
 | refine Qc (id:=4) Zo [] (by kernel_rfl) ?_;simp [-zg,-zd,↓Qb,↓Qa,go_sem,wrapS (k:=k) (by omega)]
 | ((obtain rfl:k = xs.length:=by omega);refine AW_unmat 3 (b:=b) (all:=cat cT xs ++ List.replicate j .any) rfl (by simp [go_sem,fill_all]) (by omega) (by simp [Xe]) (by simp [Xe];omega) ?_);refine Qc (id:=6) Zo [] (by kernel_rfl) ?_;simp [-zg,-zd,↓Qb,↓Qa,go_sem]
 | refine Qh (c:=.tmp 11) ?_;simp [-zg,-zd,↓Qb,↓Qa,go_sem];try first | (refine ⟨?_,?_⟩ <;> refine zA ?_) | (refine ⟨fun c11=>?_,fun c11=>?_⟩ <;> (try simp [B_iff,B_not] at c11))
 | (refine Qj (id:=0) (Xp (ι:=Nat) (fun k:Nat=>⟨(upd (upd (upd (fun _=>.any) 0 (li cT xs)) 3 (.sl b 4 0 xs.length cp)) 4 (.int .i64 k)),upd (fun _=>none) b (some (fillC cT [.int .i64 0,.int .i64 0,.int .i64 0,.int .i64 0] 4 xs k (List.replicate j .any)))⟩) (fun k=>k ≤ xs.length) (fun k=>xs.length - k) (0) ?_ ?_ ?_);exact Nat.zero_le _;((repeat' (first | exact Qn (by assumption) | exact Qp | refine Qq ?_ ?_ | refine Qo ?_)) <;> simp [-zg,-zd,↓Qb,↓Qa,go_sem,zacb]);rintro k hk)
 | (refine ⟨k + 1,by omega,by first | omega | (simp;done) | (simp;omega),?_⟩;((repeat' (first | exact Qn (by assumption) | exact Qp | refine Qq ?_ ?_ | refine Qo ?_)) <;> simp [-zg,-zd,↓Qb,↓Qa,go_sem,zacb]))
 | (refine Qj ?_)
 | (refine Qw ?_;simp [-zg,-zd,↓Qb,↓Qa,go_sem])
 | (refine Qv ?_;simp [-zg,-zd,↓Qb,↓Qa,go_sem])
 | (refine Qz ?_;simp [-zg,-zd,↓Qb,↓Qa,go_sem,Tryd.results32])
 | (intro hx;refine zA ?_)
 | (refine ⟨?_,?_⟩ <;> refine zA ?_)
 | (intro hx;constructor <;> intro hs)
 | (constructor <;> intro hs)
 | (refine ⟨?_,fun hs=>?_⟩;refine zA ?_)
 | (refine ⟨fun hs=>?_,?_⟩;rotate_left;refine zA ?_;rotate_left)))
@[go_sem] def zaag:Con:=.pure fun
  | [.list n_xs c_xs]=>((Is cT n_xs c_xs) ∧ ((de cT c_xs).length ≤ 1048576),fr 4 cT (de cT c_xs))
  | _=>(False,.any)
theorem zabp:ConOk Tryd.prog 32 zaag:=by
  refine ⟨Qt Tryd.func32 (by decide) rfl,fun args h=>?_⟩
  revert h
  dsimp only
  split
  · intro h
    obtain ⟨⟨xs,rfl,rfl⟩,h0⟩:=h
    try simp only [Xd] at *
    exact ⟨zacv xs h0,by simp [go_sem]⟩
  · intro h
    exact h.elim
@[go_sem] def Γa5:FuncId → Con:=ext Γa4 32 zaag
theorem Zf:∀ g,ConOk Tryd.prog g (Γa5 g):=Qu Zo zabp

theorem eqBoolS_pure (xs:List Bool) (ys:List Bool)  : Pure Tryd.prog 36 [li cB xs,li cB ys] (.bool (decide (xs = ys))):=by
  refine Pure.of_walk Tryd.func36 rfl (by simp [Tryd.f36]) (by simp [-zd,go_sem]) fun B hK=>?_
  (repeat' (first
 | refine Qy ?_
 | (refine AW_len 0 rfl fun hm=>?_);refine Qc (id:=0) Zf [] (by kernel_rfl) ?_;simp [-zg,-zd,↓Qb,↓Qa,go_sem]
 | refine Qc (id:=1) Zf [] (by kernel_rfl) ?_;simp [-zg,-zd,↓Qb,↓Qa,go_sem]
 | refine Qc (id:=2) Zf [] (by kernel_rfl) ?_;simp [-zg,-zd,↓Qb,↓Qa,go_sem]
 | refine Qc (id:=3) Zf [] (by kernel_rfl) ?_;simp [-zg,-zd,↓Qb,↓Qa,go_sem]
 | refine Qc (id:=4) Zf [] (by kernel_rfl) ?_;simp [-zg,-zd,↓Qb,↓Qa,go_sem]
 | (have cy:k < ys.length:=by omega);refine zaae (id:=6) Zf mixed [] [5] (by kernel_rfl) (by kernel_rfl) (by simp [-zg,-zd,↓Qb,↓Qa,go_sem,c14,Qs c14,zsP c14,cy,Qs cy,zsP cy]) ?_;simp [-zg,-zd,↓Qb,↓Qa,go_sem,c14,Qs c14,zsP c14,cy,Qs cy,zsP cy]
 | refine Qc (id:=7) Zf [] (by kernel_rfl) ?_;simp [-zg,-zd,↓Qb,↓Qa,go_sem]
 | refine Qc (id:=5) Zf [] (by kernel_rfl) ?_;simp [-zg,-zd,↓Qb,↓Qa,go_sem,wrapS (k:=k) (by omega)]
 | refine Qc (id:=8) Zf [] (by kernel_rfl) ?_;simp [-zg,-zd,↓Qb,↓Qa,go_sem]
 | refine Qh (c:=.tmp 10) ?_;simp [-zg,-zd,↓Qb,↓Qa,go_sem];try first | (refine ⟨?_,?_⟩ <;> refine zA ?_) | (refine ⟨fun c10=>?_,fun c10=>?_⟩ <;> (try simp [B_iff,B_not] at c10))
 | refine Qh (c:=.tmp 14) ?_;simp [-zg,-zd,↓Qb,↓Qa,go_sem];try first | (refine ⟨?_,?_⟩ <;> refine zA ?_) | (refine ⟨fun c14=>?_,fun c14=>?_⟩ <;> (try simp [B_iff,B_not] at c14))
 | refine Qh (c:=.tmp 25) ?_;simp [-zg,-zd,↓Qb,↓Qa,go_sem];try first | (refine ⟨?_,?_⟩ <;> refine zA ?_) | (refine ⟨fun c25=>?_,fun c25=>?_⟩ <;> (try simp [B_iff,B_not] at c25))
 | (refine Qj (id:=0) (Xp (ι:=Nat) (fun k:Nat=>⟨(upd (upd (upd (fun _=>.any) 0 (li cB xs)) 1 (li cB ys)) 5 (.int .i64 k)),fun _=>none⟩) (fun k=>k ≤ xs.length ∧ NoneTill (neAt xs ys) k) (fun k=>xs.length - k) (0) ?_ ?_ ?_);exact ⟨Nat.zero_le _,.zero _⟩;((repeat' (first | exact Qn (by assumption) | exact Qp | refine Qq ?_ ?_ | refine Qo ?_)) <;> simp [-zg,-zd,↓Qb,↓Qa,go_sem]);rintro k ⟨hk,ht⟩)
 | (refine ⟨k + 1,⟨by omega,ht.succ (by simp [neAt];first | exact c25 | (apply Prod.ext <;> simp_all;done) | (simp_all [Prod.ext_iff];done) | simp_all)⟩,by first | omega | (simp;done) | (simp;omega),?_⟩;((repeat' (first | exact Qn (by assumption) | exact Qp | refine Qq ?_ ?_ | refine Qo ?_)) <;> simp [-zg,-zd,↓Qb,↓Qa,go_sem]))
 | (refine Qj ?_)
 | (refine Qw ?_;simp [-zg,-zd,↓Qb,↓Qa,go_sem])
 | (refine Qv ?_;simp [-zg,-zd,↓Qb,↓Qa,go_sem])
 | (refine Qz ?_;simp [-zg,-zd,↓Qb,↓Qa,go_sem,Tryd.results36])
 | (intro hx;refine zA ?_)
 | (refine ⟨?_,?_⟩ <;> refine zA ?_)
 | (intro hx;constructor <;> intro hs)
 | (constructor <;> intro hs)
 | (refine ⟨?_,fun hs=>?_⟩;refine zA ?_)
 | (refine ⟨fun hs=>?_,?_⟩;rotate_left;refine zA ?_;rotate_left)))
  all_goals (first
 | (rintro rfl;simp at c10;done)
 | (rintro rfl;simp at c25;done)
 | exact zaeq (by omega) ht (by omega)
 | skip)
@[go_sem] def zabv:Con:=.pure fun
  | [.list n_xs c_xs,.list n_ys c_ys]=>((Is cB n_xs c_xs) ∧ (Is cB n_ys c_ys),.bool (decide ((de cB c_xs) = (de cB c_ys))))
  | _=>(False,.any)
theorem zaer:ConOk Tryd.prog 36 zabv:=by
  refine ⟨Qt Tryd.func36 (by decide) rfl,fun args h=>?_⟩
  revert h
  dsimp only
  split
  · intro h
    obtain ⟨⟨xs,rfl,rfl⟩,⟨ys,rfl,rfl⟩⟩:=h
    try simp only [Xd] at *
    exact ⟨eqBoolS_pure xs ys,by simp [go_sem]⟩
  · intro h
    exact h.elim
@[go_sem] def Γa6:FuncId → Con:=ext Γa5 36 zabv
theorem Za:∀ g,ConOk Tryd.prog g (Γa6 g):=Qu Zf zaer

theorem zadj (p:Int) (q:Int) (r:Int) (s:Int) (p':Int) (q':Int) (r':Int) (s':Int)  : Pure Tryd.prog 53 [.st [.int .i64 p,.int .i64 q,.int .i64 r,.int .i64 s],.st [.int .i64 p',.int .i64 q',.int .i64 r',.int .i64 s']] (.bool (decide (p = p') && decide (q = q') && decide (r = r') && decide (s = s'))):=by
  refine Pure.of_walk Tryd.func53 rfl (by simp [Tryd.f53]) (by simp [-zd,go_sem]) fun B hK=>?_
  (repeat' (first
 | refine Qy ?_
 | refine Qc (id:=0) Za [] (by kernel_rfl) ?_;simp [-zg,-zd,↓Qb,↓Qa,go_sem];try (refine Xi hK 2 ?_;simp [go_sem];refine Xi hK 3 ?_;simp [go_sem])
 | refine Qc (id:=1) Za [] (by kernel_rfl) ?_;simp [-zg,-zd,↓Qb,↓Qa,go_sem]
 | refine Qc (id:=2) Za [] (by kernel_rfl) ?_;simp [-zg,-zd,↓Qb,↓Qa,go_sem]
 | refine Qc (id:=3) Za [] (by kernel_rfl) ?_;simp [-zg,-zd,↓Qb,↓Qa,go_sem]
 | refine Qc (id:=4) Za [] (by kernel_rfl) ?_;simp [-zg,-zd,↓Qb,↓Qa,go_sem]
 | refine Qc (id:=5) Za [] (by kernel_rfl) ?_;simp [-zg,-zd,↓Qb,↓Qa,go_sem]
 | refine Qc (id:=6) Za [] (by kernel_rfl) ?_;simp [-zg,-zd,↓Qb,↓Qa,go_sem]
 | refine Qc (id:=7) Za [] (by kernel_rfl) ?_;simp [-zg,-zd,↓Qb,↓Qa,go_sem]
 | refine Qc (id:=8) Za [] (by kernel_rfl) ?_;simp [-zg,-zd,↓Qb,↓Qa,go_sem]
 | refine Qc (id:=9) Za [] (by kernel_rfl) ?_;simp [-zg,-zd,↓Qb,↓Qa,go_sem]
 | refine Qh (c:=.tmp 9) ?_;simp [-zg,-zd,↓Qb,↓Qa,go_sem];try first | (refine ⟨?_,?_⟩ <;> refine zA ?_) | (refine ⟨fun c9=>?_,fun c9=>?_⟩ <;> (try simp [B_iff,B_not] at c9))
 | refine Qh (c:=.tmp 14) ?_;simp [-zg,-zd,↓Qb,↓Qa,go_sem];try first | (refine ⟨?_,?_⟩ <;> refine zA ?_) | (refine ⟨fun c14=>?_,fun c14=>?_⟩ <;> (try simp [B_iff,B_not] at c14))
 | refine Qh (c:=.tmp 19) ?_;simp [-zg,-zd,↓Qb,↓Qa,go_sem];try first | (refine ⟨?_,?_⟩ <;> refine zA ?_) | (refine ⟨fun c19=>?_,fun c19=>?_⟩ <;> (try simp [B_iff,B_not] at c19))
 | refine Qh (c:=.tmp 24) ?_;simp [-zg,-zd,↓Qb,↓Qa,go_sem];try first | (refine ⟨?_,?_⟩ <;> refine zA ?_) | (refine ⟨fun c24=>?_,fun c24=>?_⟩ <;> (try simp [B_iff,B_not] at c24))
 | (refine Qj ?_)
 | (refine Qw ?_;simp [-zg,-zd,↓Qb,↓Qa,go_sem])
 | (refine Qv ?_;simp [-zg,-zd,↓Qb,↓Qa,go_sem])
 | (refine Qz ?_;simp [-zg,-zd,↓Qb,↓Qa,go_sem,Tryd.results53])
 | (intro hx;refine zA ?_)
 | (refine ⟨?_,?_⟩ <;> refine zA ?_)
 | (intro hx;constructor <;> intro hs)
 | (constructor <;> intro hs)
 | (refine ⟨?_,fun hs=>?_⟩;refine zA ?_)
 | (refine ⟨fun hs=>?_,?_⟩;rotate_left;refine zA ?_;rotate_left)))
  all_goals (first
 | (simp_all;done)
 | (intros;simp_all;done)
 | skip)
@[go_sem] def zaao:Con:=.pure fun
  | [.st [.int .i64 p,.int .i64 q,.int .i64 r,.int .i64 s],.st [.int .i64 p',.int .i64 q',.int .i64 r',.int .i64 s']]=>(True,.bool (decide (p = p') && decide (q = q') && decide (r = r') && decide (s = s')))
  | _=>(False,.any)
theorem zace:ConOk Tryd.prog 53 zaao:=by
  refine ⟨Qt Tryd.func53 (by decide) rfl,fun args h=>?_⟩
  revert h
  dsimp only
  split
  · intro h
    skip
    skip
    exact ⟨zadj _ _ _ _ _ _ _ _,by simp [go_sem]⟩
  · intro h
    exact h.elim
@[go_sem] def Γa7:FuncId → Con:=ext Γa6 53 zaao
theorem Ze:∀ g,ConOk Tryd.prog g (Γa7 g):=Qu Za zace

theorem zada (xs:List Tr4) (ys:List Tr4)  : Pure Tryd.prog 37 [li cT xs,li cT ys] (.bool (decide (xs = ys))):=by
  refine Pure.of_walk Tryd.func37 rfl (by simp [Tryd.f37]) (by simp [-zd,go_sem]) fun B hK=>?_
  (repeat' (first
 | refine Qy ?_
 | (refine AW_len 0 rfl fun hm=>?_);refine Qc (id:=0) Ze [] (by kernel_rfl) ?_;simp [-zg,-zd,↓Qb,↓Qa,go_sem]
 | refine Qc (id:=1) Ze [] (by kernel_rfl) ?_;simp [-zg,-zd,↓Qb,↓Qa,go_sem]
 | refine Qc (id:=2) Ze [] (by kernel_rfl) ?_;simp [-zg,-zd,↓Qb,↓Qa,go_sem]
 | refine Qc (id:=3) Ze [] (by kernel_rfl) ?_;simp [-zg,-zd,↓Qb,↓Qa,go_sem]
 | refine Qc (id:=4) Ze [] (by kernel_rfl) ?_;simp [-zg,-zd,↓Qb,↓Qa,go_sem]
 | (have cy:k < ys.length:=by omega);refine zaae (id:=6) Ze mixed [] [5] (by kernel_rfl) (by kernel_rfl) (by simp [-zg,-zd,↓Qb,↓Qa,go_sem,c14,Qs c14,zsP c14,cy,Qs cy,zsP cy]) ?_;simp [-zg,-zd,↓Qb,↓Qa,go_sem,c14,Qs c14,zsP c14,cy,Qs cy,zsP cy]
 | refine Qc (id:=7) Ze [] (by kernel_rfl) ?_;simp [-zg,-zd,↓Qb,↓Qa,go_sem]
 | refine Qc (id:=5) Ze [] (by kernel_rfl) ?_;simp [-zg,-zd,↓Qb,↓Qa,go_sem,wrapS (k:=k) (by omega)]
 | refine Qc (id:=8) Ze [] (by kernel_rfl) ?_;simp [-zg,-zd,↓Qb,↓Qa,go_sem]
 | refine Qh (c:=.tmp 10) ?_;simp [-zg,-zd,↓Qb,↓Qa,go_sem];try first | (refine ⟨?_,?_⟩ <;> refine zA ?_) | (refine ⟨fun c10=>?_,fun c10=>?_⟩ <;> (try simp [B_iff,B_not] at c10))
 | refine Qh (c:=.tmp 14) ?_;simp [-zg,-zd,↓Qb,↓Qa,go_sem];try first | (refine ⟨?_,?_⟩ <;> refine zA ?_) | (refine ⟨fun c14=>?_,fun c14=>?_⟩ <;> (try simp [B_iff,B_not] at c14))
 | refine Qh (c:=.tmp 26) ?_;simp [-zg,-zd,↓Qb,↓Qa,go_sem];try first | (refine ⟨?_,?_⟩ <;> refine zA ?_) | (refine ⟨fun c26=>?_,fun c26=>?_⟩ <;> (try simp [B_iff,B_not] at c26))
 | (refine Qj (id:=0) (Xp (ι:=Nat) (fun k:Nat=>⟨(upd (upd (upd (fun _=>.any) 0 (li cT xs)) 1 (li cT ys)) 5 (.int .i64 k)),fun _=>none⟩) (fun k=>k ≤ xs.length ∧ NoneTill (neAt xs ys) k) (fun k=>xs.length - k) (0) ?_ ?_ ?_);exact ⟨Nat.zero_le _,.zero _⟩;((repeat' (first | exact Qn (by assumption) | exact Qp | refine Qq ?_ ?_ | refine Qo ?_)) <;> simp [-zg,-zd,↓Qb,↓Qa,go_sem]);rintro k ⟨hk,ht⟩)
 | (refine ⟨k + 1,⟨by omega,ht.succ (by simp [neAt];first | exact c26 | (apply Prod.ext <;> simp_all;done) | (simp_all [Prod.ext_iff];done) | simp_all)⟩,by first | omega | (simp;done) | (simp;omega),?_⟩;((repeat' (first | exact Qn (by assumption) | exact Qp | refine Qq ?_ ?_ | refine Qo ?_)) <;> simp [-zg,-zd,↓Qb,↓Qa,go_sem]))
 | (refine Qj ?_)
 | (refine Qw ?_;simp [-zg,-zd,↓Qb,↓Qa,go_sem])
 | (refine Qv ?_;simp [-zg,-zd,↓Qb,↓Qa,go_sem])
 | (refine Qz ?_;simp [-zg,-zd,↓Qb,↓Qa,go_sem,Tryd.results37])
 | (intro hx;refine zA ?_)
 | (refine ⟨?_,?_⟩ <;> refine zA ?_)
 | (intro hx;constructor <;> intro hs)
 | (constructor <;> intro hs)
 | (refine ⟨?_,fun hs=>?_⟩;refine zA ?_)
 | (refine ⟨fun hs=>?_,?_⟩;rotate_left;refine zA ?_;rotate_left)))
  all_goals (first
 | (rintro rfl;simp at c10;done)
 | (rintro rfl;simp at c26;done)
 | exact zaeq (by omega) ht (by omega)
 | skip)
@[go_sem] def zaaj:Con:=.pure fun
  | [.list n_xs c_xs,.list n_ys c_ys]=>((Is cT n_xs c_xs) ∧ (Is cT n_ys c_ys),.bool (decide ((de cT c_xs) = (de cT c_ys))))
  | _=>(False,.any)
theorem zabu:ConOk Tryd.prog 37 zaaj:=by
  refine ⟨Qt Tryd.func37 (by decide) rfl,fun args h=>?_⟩
  revert h
  dsimp only
  split
  · intro h
    obtain ⟨⟨xs,rfl,rfl⟩,⟨ys,rfl,rfl⟩⟩:=h
    try simp only [Xd] at *
    exact ⟨zada xs ys,by simp [go_sem]⟩
  · intro h
    exact h.elim
@[go_sem] def Γa8:FuncId → Con:=ext Γa7 37 zaaj
theorem Xv:∀ g,ConOk Tryd.prog g (Γa8 g):=Qu Ze zabu

theorem zady (a:List Int) (b:List Bool) (c:List Tr4) (left:Int) (h0:-1 ≤ left) (h1:left ≤ 1048576):Pure Tryd.prog 11 [.st [li cI a,li cB b,li cT c],.int .i64 left] (.int .i64 (szOf left (a.length + b.length + c.length))):=by
  refine Pure.of_walk Tryd.func11 rfl (by simp [Tryd.f11]) (by simp [-zd,go_sem]) fun B hK=>?_
  (repeat' (first
 | refine Qy ?_
 | refine Qc (id:=0) Xv [] (by kernel_rfl) ?_;simp [-zg,-zd,↓Qb,↓Qa,go_sem,Xm h0,Xn h1,Xl h0];try (refine Xi hK 2 ?_;simp [go_sem])
 | refine Qc (id:=1) Xv [] (by kernel_rfl) ?_;simp [-zg,-zd,↓Qb,↓Qa,go_sem,h0,h1,Xm h0,Xn h1,Xl h0]
 | refine Qc (id:=2) Xv [] (by kernel_rfl) ?_;simp [-zg,-zd,↓Qb,↓Qa,go_sem,Xm h0,Xn h1,Xl h0]
 | refine Qc (id:=3) Xv [] (by kernel_rfl) ?_;simp [-zg,-zd,↓Qb,↓Qa,go_sem,Xm h0,Xn h1,Xl h0]
 | refine Qc (id:=4) Xv [] (by kernel_rfl) ?_;simp [-zg,-zd,↓Qb,↓Qa,go_sem,Xm h0,Xn h1,Xl h0]
 | refine Qc (id:=5) Xv [] (by kernel_rfl) ?_;simp [-zg,-zd,↓Qb,↓Qa,go_sem,Xm h0,Xn h1,Xl h0]
 | refine Qc (id:=6) Xv [] (by kernel_rfl) ?_;simp [-zg,-zd,↓Qb,↓Qa,go_sem,Xm h0,Xn h1,Xl h0]
 | refine Qc (id:=7) Xv [] (by kernel_rfl) ?_;simp [-zg,-zd,↓Qb,↓Qa,go_sem,Xm h0,Xn h1,Xl h0]
 | refine Qc (id:=8) Xv [] (by kernel_rfl) ?_;simp [-zg,-zd,↓Qb,↓Qa,go_sem,Xm h0,Xn h1,Xl h0]
 | refine Qc (id:=9) Xv [] (by kernel_rfl) ?_;simp [-zg,-zd,↓Qb,↓Qa,go_sem,Xm h0,Xn h1,Xl h0]
 | refine Qc (id:=10) Xv [] (by kernel_rfl) ?_;simp [-zg,-zd,↓Qb,↓Qa,go_sem,Xm h0,Xn h1,Xl h0]
 | refine Qh (c:=.tmp 10) ?_;simp [-zg,-zd,↓Qb,↓Qa,go_sem,Xm h0,Xn h1,Xl h0];try first | (refine ⟨?_,?_⟩ <;> refine zA ?_) | (refine ⟨fun c10=>?_,fun c10=>?_⟩ <;> (try simp [B_iff,B_not] at c10))
 | refine Qh (c:=.tmp 16) ?_;simp [-zg,-zd,↓Qb,↓Qa,go_sem,Xm h0,Xn h1,Xl h0];try first | (refine ⟨?_,?_⟩ <;> refine zA ?_) | (refine ⟨fun c16=>?_,fun c16=>?_⟩ <;> (try simp [B_iff,B_not] at c16))
 | refine Qh (c:=.tmp 22) ?_;simp [-zg,-zd,↓Qb,↓Qa,go_sem,Xm h0,Xn h1,Xl h0];try first | (refine ⟨?_,?_⟩ <;> refine zA ?_) | (refine ⟨fun c22=>?_,fun c22=>?_⟩ <;> (try simp [B_iff,B_not] at c22))
 | (refine Qj ?_)
 | (refine Qw ?_;simp [-zg,-zd,↓Qb,↓Qa,go_sem])
 | (refine Qv ?_;simp [-zg,-zd,↓Qb,↓Qa,go_sem])
 | (refine Qz ?_;simp [-zg,-zd,↓Qb,↓Qa,go_sem,Tryd.results11,Xm h0,Xn h1,Xl h0])
 | (intro hx;refine zA ?_)
 | (refine ⟨?_,?_⟩ <;> refine zA ?_)
 | (intro hx;constructor <;> intro hs)
 | (constructor <;> intro hs)
 | (refine ⟨?_,fun hs=>?_⟩;refine zA ?_)
 | (refine ⟨fun hs=>?_,?_⟩;rotate_left;refine zA ?_;rotate_left)))
  all_goals (first
 | exact (szOf_neg (by assumption) h0 (by omega)).symm
 | skip)
@[go_sem] def zaar:Con:=.pure fun
  | [.st [.list n_a c_a,.list n_b c_b,.list n_c c_c],.int .i64 left]=>((Is cI n_a c_a) ∧ (Is cB n_b c_b) ∧ (Is cT n_c c_c) ∧ (-1 ≤ left) ∧ (left ≤ 1048576),.int .i64 (szOf left ((de cI c_a).length + (de cB c_b).length + (de cT c_c).length)))
  | _=>(False,.any)
theorem zacj:ConOk Tryd.prog 11 zaar:=by
  refine ⟨Qt Tryd.func11 (by decide) rfl,fun args h=>?_⟩
  revert h
  dsimp only
  split
  · intro h
    obtain ⟨⟨a,rfl,rfl⟩,⟨b,rfl,rfl⟩,⟨c,rfl,rfl⟩,h0,h1⟩:=h
    try simp only [Xd] at *
    exact ⟨zady a b c _ h0 h1,by simp [go_sem]⟩
  · intro h
    exact h.elim
@[go_sem] def Γa9:FuncId → Con:=ext Γa8 11 zaar
theorem zadt:∀ g,ConOk Tryd.prog g (Γa9 g):=Qu Xv zacj

theorem zadw (a:List Int) (b:List Bool) (c:List Tr4) (h0:a.length ≤ 1048576) (h1:b.length ≤ 1048576) (h2:c.length ≤ 1048576):Pure Tryd.prog 13 [.st [li cI a,li cB b,li cT c]] (.st [fr 1 cI a,fr 1 cB b,fr 4 cT c]):=by
  refine Pure.of_walk Tryd.func13 rfl (by simp [Tryd.f13]) (by simp [-zd,go_sem]) fun B hK=>?_
  (repeat' (first
 | refine Qy ?_
 | refine Qc (id:=0) zadt [] (by kernel_rfl) ?_;simp [-zg,-zd,↓Qb,↓Qa,go_sem,h0,h1,h2];try (refine Xi hK 1 ?_;simp [go_sem])
 | refine Qc (id:=1) zadt [] (by kernel_rfl) ?_;simp [-zg,-zd,↓Qb,↓Qa,go_sem,h0,h1,h2];try (refine AW_matBox 3 rfl fun b3 hb3=>?_)
 | refine Qc (id:=2) zadt [] (by kernel_rfl) ?_;simp [-zg,-zd,↓Qb,↓Qa,go_sem,h0,h1,h2]
 | refine Qc (id:=3) zadt [] (by kernel_rfl) ?_;simp [-zg,-zd,↓Qb,↓Qa,go_sem,h0,h1,h2]
 | refine Qc (id:=4) zadt [] (by kernel_rfl) ?_;simp [-zg,-zd,↓Qb,↓Qa,go_sem,h0,h1,h2]
 | refine Qc (id:=5) zadt [] (by kernel_rfl) ?_;simp [-zg,-zd,↓Qb,↓Qa,go_sem,h0,h1,h2]
 | (refine Qj ?_)
 | (refine Qw ?_;simp [-zg,-zd,↓Qb,↓Qa,go_sem])
 | (refine Qv ?_;simp [-zg,-zd,↓Qb,↓Qa,go_sem])
 | (refine Qz ?_;simp [-zg,-zd,↓Qb,↓Qa,go_sem,Tryd.results13,h0,h1,h2])
 | (intro hx;refine zA ?_)
 | (refine ⟨?_,?_⟩ <;> refine zA ?_)
 | (intro hx;constructor <;> intro hs)
 | (constructor <;> intro hs)
 | (refine ⟨?_,fun hs=>?_⟩;refine zA ?_)
 | (refine ⟨fun hs=>?_,?_⟩;rotate_left;refine zA ?_;rotate_left)))
@[go_sem] def zaaq:Con:=.pure fun
  | [.st [.list n_a c_a,.list n_b c_b,.list n_c c_c]]=>((Is cI n_a c_a) ∧ (Is cB n_b c_b) ∧ (Is cT n_c c_c) ∧ ((de cI c_a).length ≤ 1048576) ∧ ((de cB c_b).length ≤ 1048576) ∧ ((de cT c_c).length ≤ 1048576),.st [fr 1 cI (de cI c_a),fr 1 cB (de cB c_b),fr 4 cT (de cT c_c)])
  | _=>(False,.any)
theorem zach:ConOk Tryd.prog 13 zaaq:=by
  refine ⟨Qt Tryd.func13 (by decide) rfl,fun args h=>?_⟩
  revert h
  dsimp only
  split
  · intro h
    obtain ⟨⟨a,rfl,rfl⟩,⟨b,rfl,rfl⟩,⟨c,rfl,rfl⟩,h0,h1,h2⟩:=h
    try simp only [Xd] at *
    exact ⟨zadw a b c h0 h1 h2,by simp [go_sem]⟩
  · intro h
    exact h.elim
@[go_sem] def Γa10:FuncId → Con:=ext Γa9 13 zaaq
theorem Zi:∀ g,ConOk Tryd.prog g (Γa10 g):=Qu zadt zach

theorem zaes (a:List Int) (b:List Bool) (c:List Tr4) (a':List Int) (b':List Bool) (c':List Tr4)  : Pure Tryd.prog 15 [.st [li cI a,li cB b,li cT c],.st [li cI a',li cB b',li cT c']] (.bool (decide (a = a') && decide (b = b') && decide (c = c'))):=by
  refine Pure.of_walk Tryd.func15 rfl (by simp [Tryd.f15]) (by simp [-zd,go_sem]) fun B hK=>?_
  (repeat' (first
 | refine Qy ?_
 | refine Qc (id:=0) Zi [] (by kernel_rfl) ?_;simp [-zg,-zd,↓Qb,↓Qa,go_sem];try (refine Xi hK 2 ?_;simp [go_sem];refine Xi hK 3 ?_;simp [go_sem])
 | refine Qc (id:=1) Zi [] (by kernel_rfl) ?_;simp [-zg,-zd,↓Qb,↓Qa,go_sem]
 | refine Qc (id:=2) Zi [] (by kernel_rfl) ?_;simp [-zg,-zd,↓Qb,↓Qa,go_sem]
 | refine Qc (id:=3) Zi [] (by kernel_rfl) ?_;simp [-zg,-zd,↓Qb,↓Qa,go_sem]
 | refine Qc (id:=4) Zi [] (by kernel_rfl) ?_;simp [-zg,-zd,↓Qb,↓Qa,go_sem]
 | refine Qc (id:=5) Zi [] (by kernel_rfl) ?_;simp [-zg,-zd,↓Qb,↓Qa,go_sem]
 | refine Qc (id:=6) Zi [] (by kernel_rfl) ?_;simp [-zg,-zd,↓Qb,↓Qa,go_sem]
 | refine Qc (id:=7) Zi [] (by kernel_rfl) ?_;simp [-zg,-zd,↓Qb,↓Qa,go_sem]
 | refine Qh (c:=.tmp 10) ?_;simp [-zg,-zd,↓Qb,↓Qa,go_sem];try first | (refine ⟨?_,?_⟩ <;> refine zA ?_) | (refine ⟨fun c10=>?_,fun c10=>?_⟩ <;> (try simp [B_iff,B_not] at c10))
 | refine Qh (c:=.tmp 16) ?_;simp [-zg,-zd,↓Qb,↓Qa,go_sem];try first | (refine ⟨?_,?_⟩ <;> refine zA ?_) | (refine ⟨fun c16=>?_,fun c16=>?_⟩ <;> (try simp [B_iff,B_not] at c16))
 | refine Qh (c:=.tmp 22) ?_;simp [-zg,-zd,↓Qb,↓Qa,go_sem];try first | (refine ⟨?_,?_⟩ <;> refine zA ?_) | (refine ⟨fun c22=>?_,fun c22=>?_⟩ <;> (try simp [B_iff,B_not] at c22))
 | (refine Qj ?_)
 | (refine Qw ?_;simp [-zg,-zd,↓Qb,↓Qa,go_sem])
 | (refine Qv ?_;simp [-zg,-zd,↓Qb,↓Qa,go_sem])
 | (refine Qz ?_;simp [-zg,-zd,↓Qb,↓Qa,go_sem,Tryd.results15])
 | (intro hx;refine zA ?_)
 | (refine ⟨?_,?_⟩ <;> refine zA ?_)
 | (intro hx;constructor <;> intro hs)
 | (constructor <;> intro hs)
 | (refine ⟨?_,fun hs=>?_⟩;refine zA ?_)
 | (refine ⟨fun hs=>?_,?_⟩;rotate_left;refine zA ?_;rotate_left)))
  all_goals (first
 | (simp_all;done)
 | (intros;simp_all;done)
 | skip)
@[go_sem] def zaas:Con:=.pure fun
  | [.st [.list n_a c_a,.list n_b c_b,.list n_c c_c],.st [.list n_a' c_a',.list n_b' c_b',.list n_c' c_c']]=>((Is cI n_a c_a) ∧ (Is cB n_b c_b) ∧ (Is cT n_c c_c) ∧ (Is cI n_a' c_a') ∧ (Is cB n_b' c_b') ∧ (Is cT n_c' c_c'),.bool (decide ((de cI c_a) = (de cI c_a')) && decide ((de cB c_b) = (de cB c_b')) && decide ((de cT c_c) = (de cT c_c'))))
  | _=>(False,.any)
theorem zacn:ConOk Tryd.prog 15 zaas:=by
  refine ⟨Qt Tryd.func15 (by decide) rfl,fun args h=>?_⟩
  revert h
  dsimp only
  split
  · intro h
    obtain ⟨⟨a,rfl,rfl⟩,⟨b,rfl,rfl⟩,⟨c,rfl,rfl⟩,⟨a',rfl,rfl⟩,⟨b',rfl,rfl⟩,⟨c',rfl,rfl⟩⟩:=h
    try simp only [Xd] at *
    exact ⟨zaes a b c a' b' c',by simp [go_sem]⟩
  · intro h
    exact h.elim
@[go_sem] def Γa11:FuncId → Con:=ext Γa10 15 zaas
theorem Γa11_ok:∀ g,ConOk Tryd.prog g (Γa11 g):=Qu Zi zacn


theorem st4_tr:St4 Tryd.prog 65:=by
  refine ⟨by kernel_rfl,fun a b c d a' b' c' d' w=>?_⟩
  have hI:=Tryd.underlying3
  have hS:Tryd.prog.underlying 65 = some (.struct (Tryd.prog.fieldsOf 65)):=by kernel_rfl
  have hp:Tryd.prog.stoodInHeld 65 = false:=by kernel_rfl
  rw [show (10000:Nat) = 9999 + 1 from rfl,run_equalIn_agg w 9999 _ _ _ hS hp]
  have hz:∀ w,(sizeOf 3).run Tryd.prog w = .ok 1 w:=Xh (P:=Tryd.prog) (ty3)
  have ha:∀ w,(isAgg 3).run Tryd.prog w = .ok false w:=run_agg (P:=Tryd.prog) (ty3)
  have hf:(Tryd.prog.fieldsOf 65).toList.map (fun f=>(f.name,f.type,f.offset)) = [("From",3,0),("Care",3,1),("Value",3,2),("To",3,3)]:=by kernel_rfl
  simp only [Program.fieldsOf,Tryd.underlying65]
  simp [Op.eqFields,part,ha,run_equalIn_int w 9998 _ _ _ _ _ hI]
  by_cases h1:a = a' <;> by_cases h2:b = b' <;> by_cases h3:c = c' <;> by_cases h4:d = d' <;> simp [h1,h2,h3,h4]
@[go_sem] theorem st4_on:St4 Tryd.prog 65 = True:=eq_true st4_tr

@[go_sem] def Γa12:FuncId → Con:=Γa11
theorem Γa12_ok:∀ g,ConOk Tryd.prog g (Γa12 g):=Γa11_ok

@[go_sem] def Γa13:FuncId → Con:=Γa12
theorem Γa13_ok:∀ g,ConOk Tryd.prog g (Γa13 g):=Γa12_ok

@[go_sem] def Γa14:FuncId → Con:=Γa13
theorem Γa14_ok:∀ g,ConOk Tryd.prog g (Γa14 g):=Γa13_ok

@[go_sem] def Γa15:FuncId → Con:=Γa14
theorem Γa15_ok:∀ g,ConOk Tryd.prog g (Γa15 g):=Γa14_ok

@[go_sem] def Γa16:FuncId → Con:=Γa15
theorem Γa16_ok:∀ g,ConOk Tryd.prog g (Γa16 g):=Γa15_ok

@[go_sem] def Γa17:FuncId → Con:=Γa16
theorem Γa17_ok:∀ g,ConOk Tryd.prog g (Γa17 g):=Γa16_ok


theorem bits_iff (a b:BitVec 64):a &&& b = a ↔ a &&& ~~~b = 0#64:=by
  constructor
  · intro h
    apply BitVec.eq_of_getLsbD_eq
    intro i hi
    have:=congrArg (fun x=>x.getLsbD i) h
    simp only [BitVec.getLsbD_and] at this
    simp only [BitVec.getLsbD_and,BitVec.getLsbD_not,BitVec.getLsbD_zero]
    cases h1:a.getLsbD i <;> cases h2:b.getLsbD i <;> simp_all
  · intro h
    apply BitVec.eq_of_getLsbD_eq
    intro i hi
    have:=congrArg (fun x=>x.getLsbD i) h
    simp only [BitVec.getLsbD_and,BitVec.getLsbD_not,BitVec.getLsbD_zero] at this
    simp only [BitVec.getLsbD_and]
    cases h1:a.getLsbD i <;> cases h2:b.getLsbD i <;> simp_all
theorem bits_same {v c:Int} (h0:0 ≤ v) (h1:v ≤ 9223372036854775807):(bitsD .and .i64 v c = v) = (bitsD .andNot .i64 v c = 0):=by
  have key:∀ x:BitVec 64,x.toNat ≤ v.toNat → IntKind.i64.wrap (x.toNat:Int) = x.toNat:=fun x hx=>wrap_in (by omega) (by omega)
  have hv:(BitVec.ofInt 64 v).toNat = v.toNat:=by
    rw [BitVec.toNat_ofInt]
    have:v % ((2 ^ 64:Nat):Int) = v:=Int.emod_eq_of_lt h0 (by omega)
    rw [this]
  have k1:(BitVec.ofInt 64 v &&& BitVec.ofInt 64 c).toNat ≤ v.toNat:=by rw [BitVec.toNat_and,hv];exact Nat.and_le_left
  have k2:(BitVec.ofInt 64 v &&& ~~~ BitVec.ofInt 64 c).toNat ≤ v.toNat:=by rw [BitVec.toNat_and,hv];exact Nat.and_le_left
  have e1:bitsD .and .i64 v c = ((BitVec.ofInt 64 v &&& BitVec.ofInt 64 c).toNat:Int):=key _ k1
  have e2:bitsD .andNot .i64 v c = ((BitVec.ofInt 64 v &&& ~~~ BitVec.ofInt 64 c).toNat:Int):=key _ k2
  rw [e1,e2,eq_iff_iff]
  have b:=bits_iff (BitVec.ofInt 64 v) (BitVec.ofInt 64 c)
  constructor
  · intro h
    have:BitVec.ofInt 64 v &&& BitVec.ofInt 64 c = BitVec.ofInt 64 v:=BitVec.eq_of_toNat_eq (by rw [hv];omega)
    rw [b.1 this];rfl
  · intro h
    have q:(BitVec.ofInt 64 v &&& ~~~ BitVec.ofInt 64 c).toNat = 0:=by omega
    have:BitVec.ofInt 64 v &&& ~~~ BitVec.ofInt 64 c = 0#64:=BitVec.eq_of_toNat_eq (q.trans rfl)
    rw [b.2 this,hv];omega

def EdgeOk (e:Tr4) (n:Int):Prop:=0 ≤ e.1 ∧ e.1 < n ∧ 0 ≤ e.2.2.2 ∧ e.2.2.2 < n ∧ 0 ≤ e.2.1 ∧ e.2.1 ≤ 7 ∧ 0 ≤ e.2.2.1 ∧ bitsD .and .i64 e.2.2.1 e.2.1 = e.2.2.1

set_option maxHeartbeats 2000000 in

theorem l7Edge_pure (p:Int) (q:Int) (r:Int) (s:Int) (n:Int)  : Pure Tryd.prog 48 [.st [.int .i64 p,.int .i64 q,.int .i64 r,.int .i64 s],.int .i64 n] (.bool (B (EdgeOk (p,q,r,s) n))):=by
  refine Pure.of_walk Tryd.func48 rfl (by simp [Tryd.f48]) (by simp [-zd,go_sem]) fun B hK=>?_
  (repeat' (first
 | refine Qy ?_
 | refine Qc (id:=0) Γa17_ok [] (by kernel_rfl) ?_;simp [-zg,-zd,↓Qb,↓Qa,go_sem];try (refine Xi hK 2 ?_;simp [go_sem])
 | refine Qc (id:=1) Γa17_ok [8,14,19,25,30,35,40] (by kernel_rfl) ?_;simp [-zg,-zd,↓Qb,↓Qa,go_sem];try (refine ⟨fun s1a=>?_,fun s1a=>?_⟩ <;> (try simp [B_iff,B_not] at s1a) <;> try (refine ⟨fun s1b=>?_,fun s1b=>?_⟩ <;> (try simp [B_iff,B_not] at s1b) <;> try (refine ⟨fun s1c=>?_,fun s1c=>?_⟩ <;> (try simp [B_iff,B_not] at s1c) <;> try (refine ⟨fun s1d=>?_,fun s1d=>?_⟩ <;> (try simp [B_iff,B_not] at s1d) <;> try (refine ⟨fun s1e=>?_,fun s1e=>?_⟩ <;> (try simp [B_iff,B_not] at s1e) <;> try (refine ⟨fun s1f=>?_,fun s1f=>?_⟩ <;> (try simp [B_iff,B_not] at s1f) <;> try (refine ⟨fun s1g=>?_,fun s1g=>?_⟩ <;> (try simp [B_iff,B_not] at s1g) <;> try (refine ⟨fun s1h=>?_,fun s1h=>?_⟩ <;> (try simp [B_iff,B_not] at s1h)))))))))
 | (refine Qj ?_)
 | (refine Qw ?_;simp [-zg,-zd,↓Qb,↓Qa,go_sem])
 | (refine Qv ?_;simp [-zg,-zd,↓Qb,↓Qa,go_sem])
 | (refine Qz ?_;simp [-zg,-zd,↓Qb,↓Qa,go_sem,Tryd.results48])
 | (intro hx;refine zA ?_)
 | (refine ⟨?_,?_⟩ <;> refine zA ?_)
 | (intro hx;constructor <;> intro hs)
 | (constructor <;> intro hs)
 | (refine ⟨?_,fun hs=>?_⟩;refine zA ?_)
 | (refine ⟨fun hs=>?_,?_⟩;rotate_left;refine zA ?_;rotate_left)))
  all_goals (first
 | (rintro ⟨g1,g2,g3,g4,g5,g6,g7,g8⟩;dsimp only at *;omega)
 | (rw [Bool.eq_iff_iff,B_iff,decide_eq_true_eq];exact ⟨fun h=>⟨by assumption,by assumption,by assumption,by assumption,by assumption,by assumption,by assumption,h⟩,fun h=>h.2.2.2.2.2.2.2⟩)
 | skip)
@[go_sem] def zacl:Con:=.pure fun
  | [.st [.int .i64 p,.int .i64 q,.int .i64 r,.int .i64 s],.int .i64 n]=>(True,.bool (B (EdgeOk (p,q,r,s) n)))
  | _=>(False,.any)
theorem zafg:ConOk Tryd.prog 48 zacl:=by
  refine ⟨Qt Tryd.func48 (by decide) rfl,fun args h=>?_⟩
  revert h
  dsimp only
  split
  · intro h
    skip
    skip
    exact ⟨l7Edge_pure _ _ _ _ _,by simp [go_sem]⟩
  · intro h
    exact h.elim
@[go_sem] def Γa18:FuncId → Con:=ext Γa17 48 zacl
theorem Γa18_ok:∀ g,ConOk Tryd.prog g (Γa18 g):=Qu Γa17_ok zafg

def Xx (n:Int) (e:Tr4):Bool:=!B (EdgeOk e n)
def Xj (xs:List Tr4):Prop:=∀ i,i < xs.length → (nth xs i).2.2.1 ≤ 9223372036854775807
set_option maxHeartbeats 2000000 in

theorem edge1_pure (p:Int) (q:Int) (r:Int) (s:Int) (n:Int) (h0:0 ≤ n) (h1:n ≤ 9223372036854775807) (h2:r ≤ 9223372036854775807):Pure Tryd.prog 51 [.st [.int .i64 p,.int .i64 q,.int .i64 r,.int .i64 s],.pd [.int .i64 n]] (.bool (Xx n (p,q,r,s))):=by
  refine Pure.of_walk Tryd.func51 rfl (by simp [Tryd.f51]) (by simp [-zd,go_sem]) fun B hK=>?_
  (repeat' (first
 | refine Qy ?_
 | refine Qc (id:=0) Γa18_ok [] (by kernel_rfl) ?_;simp [-zg,-zd,↓Qb,↓Qa,go_sem];try (refine Xi hK 2 ?_;simp [go_sem])
 | refine Qc (id:=1) Γa18_ok [10,18,24,29] (by kernel_rfl) ?_;simp [-zg,-zd,↓Qb,↓Qa,go_sem,wrap_in (x:=n - 1) (by omega) (by omega)];try (refine ⟨fun s1a=>?_,fun s1a=>?_⟩ <;> (try simp [B_iff,B_not] at s1a) <;> try (refine ⟨fun s1b=>?_,fun s1b=>?_⟩ <;> (try simp [B_iff,B_not] at s1b) <;> try (refine ⟨fun s1c=>?_,fun s1c=>?_⟩ <;> (try simp [B_iff,B_not] at s1c) <;> try (refine ⟨fun s1d=>?_,fun s1d=>?_⟩ <;> (try simp [B_iff,B_not] at s1d) <;> try (refine ⟨fun s1e=>?_,fun s1e=>?_⟩ <;> (try simp [B_iff,B_not] at s1e))))))
 | (refine Qj ?_)
 | (refine Qw ?_;simp [-zg,-zd,↓Qb,↓Qa,go_sem])
 | (refine Qv ?_;simp [-zg,-zd,↓Qb,↓Qa,go_sem])
 | (refine Qz ?_;simp [-zg,-zd,↓Qb,↓Qa,go_sem,Tryd.results51])
 | (intro hx;refine zA ?_)
 | (refine ⟨?_,?_⟩ <;> refine zA ?_)
 | (intro hx;constructor <;> intro hs)
 | (constructor <;> intro hs)
 | (refine ⟨?_,fun hs=>?_⟩;refine zA ?_)
 | (refine ⟨fun hs=>?_,?_⟩;rotate_left;refine zA ?_;rotate_left)))
  all_goals (first
 | (rw [Xx,Bool.not_eq_true',B_not];rintro ⟨g1,g2,g3,g4,g5,g6,g7,g8⟩;dsimp only at *;omega)
 | (rw [Xx,Bool.not_not,Bool.eq_iff_iff,decide_eq_true_eq,B_iff,← bits_same (by omega) h2];exact ⟨fun h=>⟨s1a.1,by dsimp only;omega,s1b.1,by dsimp only;omega,s1c.1,s1c.2,s1d,h⟩,fun h=>h.2.2.2.2.2.2.2⟩)
 | skip)
@[go_sem] def zadb:Con:=.pure fun
  | [.st [.int .i64 p,.int .i64 q,.int .i64 r,.int .i64 s],.pd [.int .i64 n]]=>((0 ≤ n) ∧ (n ≤ 9223372036854775807) ∧ (r ≤ 9223372036854775807),.bool (Xx n (p,q,r,s)))
  | _=>(False,.any)
theorem edge1_pureC_ok:ConOk Tryd.prog 51 zadb:=by
  refine ⟨Qt Tryd.func51 (by decide) rfl,fun args h=>?_⟩
  revert h
  dsimp only
  split
  · intro h
    obtain ⟨h0,h1,h2⟩:=h
    skip
    exact ⟨edge1_pure _ _ _ _ _ h0 h1 h2,by simp [go_sem]⟩
  · intro h
    exact h.elim
@[go_sem] def Γa19:FuncId → Con:=ext Γa18 51 zadb
theorem Zh:∀ g,ConOk Tryd.prog g (Γa19 g):=Qu Γa18_ok edge1_pureC_ok

theorem indexEdge_pure (xs:List Tr4) (n:Int) (h0:0 ≤ n) (h1:n ≤ 9223372036854775807) (hS:Xj xs):Pure Tryd.prog 59 [li cT xs,.fn 51 [.pd [.int .i64 n]]] (.int .i64 (findI (Xx n) xs)):=by
  refine Pure.of_walk Tryd.func59 rfl (by simp [Tryd.f59]) (by simp [-zd,go_sem]) fun B hK=>?_
  (repeat' (first
 | refine Qy ?_
 | (refine AW_len 0 rfl fun hm=>?_);refine Qc (id:=0) Zh [] (by kernel_rfl) ?_;simp [-zg,-zd,↓Qb,↓Qa,go_sem]
 | refine Qc (id:=1) Zh [] (by kernel_rfl) ?_;simp [-zg,-zd,↓Qb,↓Qa,go_sem]
 | refine Qc (id:=2) Zh [] (by kernel_rfl) ?_;simp [-zg,-zd,↓Qb,↓Qa,go_sem]
 | refine Qc (id:=3) Zh [] (by kernel_rfl) ?_;simp [-zg,-zd,↓Qb,↓Qa,go_sem]
 | refine Qc (id:=4) Zh [] (by kernel_rfl) ?_;simp [-zg,-zd,↓Qb,↓Qa,go_sem,c9,Qs c9,zsP c9,h0,h1,hS k c9]
 | refine Qc (id:=5) Zh [] (by kernel_rfl) ?_;simp [-zg,-zd,↓Qb,↓Qa,go_sem]
 | refine Qc (id:=6) Zh [] (by kernel_rfl) ?_;simp [-zg,-zd,↓Qb,↓Qa,go_sem,wrapS (k:=k) (by omega)]
 | refine Qc (id:=7) Zh [] (by kernel_rfl) ?_;simp [-zg,-zd,↓Qb,↓Qa,go_sem]
 | refine Qh (c:=.tmp 9) ?_;simp [-zg,-zd,↓Qb,↓Qa,go_sem];try first | (refine ⟨?_,?_⟩ <;> refine zA ?_) | (refine ⟨fun c9=>?_,fun c9=>?_⟩ <;> (try simp [B_iff,B_not] at c9))
 | refine Qh (c:=.tmp 16) ?_;simp [-zg,-zd,↓Qb,↓Qa,go_sem];try first | (refine ⟨?_,?_⟩ <;> refine zA ?_) | (refine ⟨fun c16=>?_,fun c16=>?_⟩ <;> (try simp [B_iff,B_not] at c16))
 | (refine Qj (id:=0) (Xp (ι:=Nat) (fun k:Nat=>⟨(upd (upd (upd (upd (upd (fun _=>.any) 0 (li cT xs)) 1 (.fn 51 [.pd [.int .i64 n]])) 6 (li cT xs)) 7 (.int .i64 xs.length)) 8 (.int .i64 k)),fun _=>none⟩) (fun k=>k ≤ xs.length ∧ NoneTill (fun i=>(Xx n) (nth xs i)) k) (fun k=>xs.length - k) (0) ?_ ?_ ?_);exact ⟨Nat.zero_le _,.zero _⟩;((repeat' (first | exact Qn (by assumption) | exact Qp | refine Qq ?_ ?_ | refine Qo ?_)) <;> simp [-zg,-zd,↓Qb,↓Qa,go_sem]);rintro k ⟨hk,ht⟩)
 | (refine ⟨k + 1,⟨by omega,ht.succ (by simp_all)⟩,by first | omega | (simp;done) | (simp;omega),?_⟩;((repeat' (first | exact Qn (by assumption) | exact Qp | refine Qq ?_ ?_ | refine Qo ?_)) <;> simp [-zg,-zd,↓Qb,↓Qa,go_sem]))
 | (refine Qj ?_)
 | (refine Qw ?_;simp [-zg,-zd,↓Qb,↓Qa,go_sem])
 | (refine Qv ?_;simp [-zg,-zd,↓Qb,↓Qa,go_sem])
 | (refine Qz ?_;simp [-zg,-zd,↓Qb,↓Qa,go_sem,Tryd.results59])
 | (intro hx;refine zA ?_)
 | (refine ⟨?_,?_⟩ <;> refine zA ?_)
 | (intro hx;constructor <;> intro hs)
 | (constructor <;> intro hs)
 | (refine ⟨?_,fun hs=>?_⟩;refine zA ?_)
 | (refine ⟨fun hs=>?_,?_⟩;rotate_left;refine zA ?_;rotate_left)))
  all_goals (first
 | (rw [findI_at ht c9 (by simp_all)])
 | (rw [findI_none ht (by omega)])
 | skip)
@[go_sem] def zabd:Con:=.pure fun
  | [.list n_xs c_xs,.fn 51 [.pd [.int .i64 n]]]=>((Is cT n_xs c_xs) ∧ (0 ≤ n) ∧ (n ≤ 9223372036854775807) ∧ (Xj (de cT c_xs)),.int .i64 (findI (Xx n) (de cT c_xs)))
  | _=>(False,.any)
theorem zacy:ConOk Tryd.prog 59 zabd:=by
  refine ⟨Qt Tryd.func59 (by decide) rfl,fun args h=>?_⟩
  revert h
  dsimp only
  split
  · intro h
    obtain ⟨⟨xs,rfl,rfl⟩,h0,h1,hS⟩:=h
    try simp only [Xd] at *
    exact ⟨indexEdge_pure xs _ h0 h1 hS,by simp [go_sem]⟩
  · intro h
    exact h.elim
@[go_sem] def Γa20:FuncId → Con:=ext Γa19 59 zabd
theorem Γa20_ok:∀ g,ConOk Tryd.prog g (Γa20 g):=Qu Zh zacy

theorem zadk (xs:List Tr4) (n:Int) (h0:0 ≤ n) (h1:n ≤ 9223372036854775807) (hS:Xj xs):Pure Tryd.prog 50 [li cT xs,.fn 51 [.pd [.int .i64 n]]] (.bool (decide (0 ≤ findI (Xx n) xs))):=by
  refine Pure.of_walk Tryd.func50 rfl (by simp [Tryd.f50]) (by simp [-zd,go_sem]) fun B hK=>?_
  (repeat' (first
 | refine Qy ?_
 | refine Qc (id:=0) Γa20_ok [] (by kernel_rfl) ?_;simp [-zg,-zd,↓Qb,↓Qa,go_sem]
 | refine Qc (id:=1) Γa20_ok [] (by kernel_rfl) ?_;simp [-zg,-zd,↓Qb,↓Qa,go_sem,h0,h1,hS]
 | (refine Qj ?_)
 | (refine Qw ?_;simp [-zg,-zd,↓Qb,↓Qa,go_sem])
 | (refine Qv ?_;simp [-zg,-zd,↓Qb,↓Qa,go_sem])
 | (refine Qz ?_;simp [-zg,-zd,↓Qb,↓Qa,go_sem,Tryd.results50])
 | (intro hx;refine zA ?_)
 | (refine ⟨?_,?_⟩ <;> refine zA ?_)
 | (intro hx;constructor <;> intro hs)
 | (constructor <;> intro hs)
 | (refine ⟨?_,fun hs=>?_⟩;refine zA ?_)
 | (refine ⟨fun hs=>?_,?_⟩;rotate_left;refine zA ?_;rotate_left)))
@[go_sem] def zaap:Con:=.pure fun
  | [.list n_xs c_xs,.fn 51 [.pd [.int .i64 n]]]=>((Is cT n_xs c_xs) ∧ (0 ≤ n) ∧ (n ≤ 9223372036854775807) ∧ (Xj (de cT c_xs)),.bool (decide (0 ≤ findI (Xx n) (de cT c_xs))))
  | _=>(False,.any)
theorem zacf:ConOk Tryd.prog 50 zaap:=by
  refine ⟨Qt Tryd.func50 (by decide) rfl,fun args h=>?_⟩
  revert h
  dsimp only
  split
  · intro h
    obtain ⟨⟨xs,rfl,rfl⟩,h0,h1,hS⟩:=h
    try simp only [Xd] at *
    exact ⟨zadk xs _ h0 h1 hS,by simp [go_sem]⟩
  · intro h
    exact h.elim
@[go_sem] def Γa21:FuncId → Con:=ext Γa20 50 zaap
theorem Xt:∀ g,ConOk Tryd.prog g (Γa21 g):=Qu Γa20_ok zacf

def ahead (a:List Int):Nat → Int
  | 0=>-1
  | k + 1=>nth a k
def AutOk (a:List Int) (n:Nat) (c:List Tr4):Prop:=1 ≤ n ∧ n ≤ 64 ∧ (∀ i,i < a.length → ahead a i < nth a i ∧ nth a i < n) ∧ c.length ≤ 2048 ∧ ∀ i,i < c.length → EdgeOk (nth c i) n
theorem sorted_ge {a:List Int} {k:Nat} (h:AllTill (fun i=>ahead a i < nth a i) k):∀ i,i < k → (i:Int) ≤ nth a i
  | 0,hi=>by have:=h 0 hi;simp only [ahead] at this;omega
  | i + 1,hi=>by
    have:=h (i + 1) hi
    have:=sorted_ge h i (by omega)
    simp only [ahead] at *
    omega
theorem sorted_len {a:List Int} {n:Nat} (h:∀ i,i < a.length → ahead a i < nth a i ∧ nth a i < n):a.length ≤ n:=by
  rcases Nat.eq_zero_or_pos a.length with h0 | h0
  · omega
  · have h1:=sorted_ge (a:=a) (k:=a.length) (fun i hi=>(h i hi).1) (a.length - 1) (by omega)
    have h2:=(h (a.length - 1) (by omega)).2
    omega
theorem ahead_bd {a:List Int} {n k:Nat} (h:AllTill (fun i=>ahead a i < nth a i ∧ nth a i < n) k):-1 ≤ ahead a k ∧ ahead a k < n:=by
  cases k with
  | zero=>simp only [ahead];omega
  | succ k =>
    have:=h k (by omega)
    have:=sorted_ge (a:=a) (k:=k + 1) (fun i hi=>(h i hi).1) k (by omega)
    simp only [ahead];omega
theorem ahead_pos {a:List Int} {k:Nat} (h:0 < k):ahead a k = nth a (k - 1):=by
  cases k with
  | zero=>omega
  | succ k=>rfl
theorem find_edge {c:List Tr4} {n:Int}:(0 ≤ findI (Xx n) c) = ¬ ∀ i,i < c.length → EdgeOk (nth c i) n:=by
  rw [findI_ge,eq_iff_iff]
  constructor
  · rintro ⟨i,h,e⟩ k
    rw [Xx,Bool.not_eq_true',B_not] at e
    exact e (k i h)
  · intro h
    apply Classical.byContradiction;intro h2
    apply h;intro i hi
    apply Classical.byContradiction;intro h3
    exact h2 ⟨i,hi,by rw [Xx,Bool.not_eq_true',B_not];exact h3⟩

set_option maxHeartbeats 2000000 in

theorem implAutomatonValid_pure (a:List Int) (b:List Bool) (c:List Tr4) (hS:Xj c):Pure Tryd.prog 33 [.st [li cI a,li cB b,li cT c]] (.bool (B (AutOk a b.length c))):=by
  refine Pure.of_walk Tryd.func33 rfl (by simp [Tryd.f33]) (by simp [-zd,go_sem]) fun B hK=>?_
  (repeat' (first
 | refine Qy ?_
 | refine Qc (id:=0) Xt [] (by kernel_rfl) ?_;simp [-zg,-zd,↓Qb,↓Qa,go_sem];try (refine Xi hK 1 ?_;simp [go_sem])
 | (refine AW_lenP 1 1 ⟨rfl,rfl⟩ fun hm=>?_;refine AW_lenP 1 0 ⟨rfl,rfl⟩ fun hma=>?_);refine Qc (id:=1) Xt [] (by kernel_rfl) ?_;simp [-zg,-zd,↓Qb,↓Qa,go_sem];try (refine Xi hK 3 ?_;simp [go_sem])
 | refine Qc (id:=2) Xt [] (by kernel_rfl) ?_;simp [-zg,-zd,↓Qb,↓Qa,go_sem]
 | refine Qc (id:=3) Xt [] (by kernel_rfl) ?_;simp [-zg,-zd,↓Qb,↓Qa,go_sem]
 | refine Qc (id:=4) Xt [] (by kernel_rfl) ?_;simp [-zg,-zd,↓Qb,↓Qa,go_sem]
 | refine Qc (id:=5) Xt [] (by kernel_rfl) ?_;simp [-zg,-zd,↓Qb,↓Qa,go_sem,c14,Qs c14,zsP c14]
 | (obtain ⟨a1,a2⟩:=ahead_bd ht);refine Qc (id:=6) Xt [] (by kernel_rfl) ?_;simp [-zg,-zd,↓Qb,↓Qa,go_sem,wrap_in (x:=ahead a k + 1) (by omega) (by omega),wrap_in (x:=(b.length:Int) - 1) (by omega) (by omega)]
 | refine Qc (id:=7) Xt [] (by kernel_rfl) ?_;simp [-zg,-zd,↓Qb,↓Qa,go_sem]
 | refine Qc (id:=8) Xt [] (by kernel_rfl) ?_;simp [-zg,-zd,↓Qb,↓Qa,go_sem]
 | refine Qc (id:=9) Xt [] (by kernel_rfl) ?_;simp [-zg,-zd,↓Qb,↓Qa,go_sem,wrapS (k:=k) (by omega)]
 | refine Qc (id:=10) Xt [28,34] (by kernel_rfl) ?_;simp [-zg,-zd,↓Qb,↓Qa,go_sem,hS,(by omega:(b.length:Int) ≤ 9223372036854775807),(by omega:b.length ≤ 9223372036854775807)];try (refine ⟨fun s10a=>?_,fun s10a=>?_⟩ <;> (try simp [B_iff,B_not] at s10a) <;> try (refine ⟨fun s10b=>?_,fun s10b=>?_⟩ <;> (try simp [B_iff,B_not] at s10b) <;> try (refine ⟨fun s10c=>?_,fun s10c=>?_⟩ <;> (try simp [B_iff,B_not] at s10c))))
 | refine Qh (c:=.tmp 14) ?_;simp [-zg,-zd,↓Qb,↓Qa,go_sem];try first | (refine ⟨?_,?_⟩ <;> refine zA ?_) | (refine ⟨fun c14=>?_,fun c14=>?_⟩ <;> (try simp [B_iff,B_not] at c14))
 | refine Qh (c:=.tmp 23) ?_;simp [-zg,-zd,↓Qb,↓Qa,go_sem];try first | (refine ⟨?_,?_⟩ <;> refine zA ?_) | (refine ⟨fun c23=>?_,fun c23=>?_⟩ <;> (try simp [B_iff,B_not] at c23))
 | (refine Qj (id:=0) (Xp (ι:=Nat) (fun k:Nat=>⟨(upd (upd (upd (upd (upd (upd (fun _=>.any) 1 (.pd [li cI a,li cB b,li cT c])) 3 (.pd [.int .i64 b.length])) 4 (.int .i64 (ahead a k))) 11 (li cI a)) 12 (.int .i64 a.length)) 13 (.int .i64 k)),fun _=>none⟩) (fun k=>k ≤ a.length ∧ AllTill (fun i=>ahead a i < nth a i ∧ nth a i < (b.length:Nat)) k) (fun k=>a.length - k) (0) ?_ ?_ ?_);exact ⟨Nat.zero_le _,.zero _⟩;((repeat' (first | exact Qn (by assumption) | exact Qp | refine Qq ?_ ?_ | refine Qo ?_)) <;> simp [-zg,-zd,↓Qb,↓Qa,go_sem,ahead]);rintro k ⟨hk,ht⟩)
 | (refine ⟨k + 1,⟨by omega,ht.succ ⟨by omega,by omega⟩⟩,by first | omega | (simp;done) | (simp;omega),?_⟩;((repeat' (first | exact Qn (by assumption) | exact Qp | refine Qq ?_ ?_ | refine Qo ?_)) <;> simp [-zg,-zd,↓Qb,↓Qa,go_sem,ahead]))
 | (refine Qj ?_)
 | (refine Qw ?_;simp [-zg,-zd,↓Qb,↓Qa,go_sem])
 | (refine Qv ?_;simp [-zg,-zd,↓Qb,↓Qa,go_sem])
 | (refine Qz ?_;simp [-zg,-zd,↓Qb,↓Qa,go_sem,Tryd.results33])
 | (intro hx;refine zA ?_)
 | (refine ⟨?_,?_⟩ <;> refine zA ?_)
 | (intro hx;constructor <;> intro hs)
 | (constructor <;> intro hs)
 | (refine ⟨?_,fun hs=>?_⟩;refine zA ?_)
 | (refine ⟨fun hs=>?_,?_⟩;rotate_left;refine zA ?_;rotate_left)))
  all_goals (first
 | (rintro ⟨g1,g2,g3,g4,g5⟩;have:=g3 k c14;omega)
 | (rintro ⟨g1,g2,g3,g4,g5⟩;omega)
 | (rw [Bool.eq_iff_iff,decide_eq_true_eq,find_edge,Bool.not_eq_true',B_not];exact ⟨fun h k=>h k.2.2.2.2,fun h k=>h ⟨by omega,by omega,fun i hi=>ht i (by omega),by omega,k⟩⟩)
 | skip)
@[go_sem] def zaad:Con:=.pure fun
  | [.st [.list n_a c_a,.list n_b c_b,.list n_c c_c]]=>((Is cI n_a c_a) ∧ (Is cB n_b c_b) ∧ (Is cT n_c c_c) ∧ (Xj (de cT c_c)),.bool (B (AutOk (de cI c_a) (de cB c_b).length (de cT c_c))))
  | _=>(False,.any)
theorem zaba:ConOk Tryd.prog 33 zaad:=by
  refine ⟨Qt Tryd.func33 (by decide) rfl,fun args h=>?_⟩
  revert h
  dsimp only
  split
  · intro h
    obtain ⟨⟨a,rfl,rfl⟩,⟨b,rfl,rfl⟩,⟨c,rfl,rfl⟩,hS⟩:=h
    try simp only [Xd] at *
    exact ⟨implAutomatonValid_pure a b c hS,by simp [go_sem]⟩
  · intro h
    exact h.elim
@[go_sem] def Γa22:FuncId → Con:=ext Γa21 33 zaad
theorem Xg:∀ g,ConOk Tryd.prog g (Γa22 g):=Qu Xt zaba

set_option maxHeartbeats 2000000 in

theorem zabn (a:List Int) (b:List Bool) (c:List Tr4) (hS:Xj c):Pure Tryd.prog 30 [.st [li cI a,li cB b,li cT c]] (.bool (B (AutOk a b.length c))):=by
  refine Pure.of_walk Tryd.func30 rfl (by simp [Tryd.f30]) (by simp [-zd,go_sem]) fun B hK=>?_
  (repeat' (first
 | refine Qy ?_
 | refine Qc (id:=0) Xg [] (by kernel_rfl) ?_;simp [-zg,-zd,↓Qb,↓Qa,go_sem];try (refine Xi hK 1 ?_;simp [go_sem])
 | (refine AW_lenP 1 1 ⟨rfl,rfl⟩ fun hm=>?_;refine AW_lenP 1 0 ⟨rfl,rfl⟩ fun hma=>?_);refine Qc (id:=1) Xg [] (by kernel_rfl) ?_;simp [-zg,-zd,↓Qb,↓Qa,go_sem]
 | refine Qc (id:=2) Xg [11,15,22] (by kernel_rfl) ?_;simp [-zg,-zd,↓Qb,↓Qa,go_sem];try (refine ⟨fun s2a=>?_,fun s2a=>?_⟩ <;> (try simp [B_iff,B_not] at s2a) <;> try (refine ⟨fun s2b=>?_,fun s2b=>?_⟩ <;> (try simp [B_iff,B_not] at s2b) <;> try (refine ⟨fun s2c=>?_,fun s2c=>?_⟩ <;> (try simp [B_iff,B_not] at s2c) <;> try (refine ⟨fun s2d=>?_,fun s2d=>?_⟩ <;> (try simp [B_iff,B_not] at s2d)))))
 | refine Qc (id:=3) Xg [] (by kernel_rfl) ?_;simp [-zg,-zd,↓Qb,↓Qa,go_sem]
 | refine Qc (id:=4) Xg [] (by kernel_rfl) ?_;simp [-zg,-zd,↓Qb,↓Qa,go_sem]
 | refine Qc (id:=5) Xg [] (by kernel_rfl) ?_;simp [-zg,-zd,↓Qb,↓Qa,go_sem]
 | refine zaae (id:=7) Xg mixed [41,50,53] [1,4] (by kernel_rfl) (by kernel_rfl) (by simp [-zg,-zd,↓Qb,↓Qa,go_sem,(show k = 0 from h0),(show 0 < a.length by omega),Qs c32,zsP c32]) ?_;simp [-zg,-zd,↓Qb,↓Qa,go_sem,(show k = 0 from h0),(show 0 < a.length by omega),Qs c32,zsP c32];try (refine ⟨fun s7a=>?_,fun s7a=>?_⟩ <;> (try simp [B_iff,B_not] at s7a) <;> try (refine ⟨fun s7b=>?_,fun s7b=>?_⟩ <;> (try simp [B_iff,B_not] at s7b) <;> try (refine ⟨fun s7c=>?_,fun s7c=>?_⟩ <;> (try simp [B_iff,B_not] at s7c) <;> try (refine ⟨fun s7d=>?_,fun s7d=>?_⟩ <;> (try simp [B_iff,B_not] at s7d)))))
 | refine zaae (id:=7) Xg mixed [41,50,53] [1,4] (by kernel_rfl) (by kernel_rfl) (by simp [-zg,-zd,↓Qb,↓Qa,go_sem,(show 0 < k by omega),c32,Qs c32,zsP c32,wrap_in (x:=(k:Int) - 1) (by omega) (by omega),(show (k - 1) < a.length by omega),(show (0:Int) ≤ (k:Int) - 1 by omega),(show (k:Int) - 1 < a.length by omega),(show (1:Int) ≤ (k:Int) by omega),(show 0 < a.length - (k - 1) by omega),(show ((k:Int) - 1).toNat = k - 1 by omega)]) ?_;simp [-zg,-zd,↓Qb,↓Qa,go_sem,(show 0 < k by omega),c32,Qs c32,zsP c32,wrap_in (x:=(k:Int) - 1) (by omega) (by omega),(show (k - 1) < a.length by omega),(show (0:Int) ≤ (k:Int) - 1 by omega),(show (k:Int) - 1 < a.length by omega),(show (1:Int) ≤ (k:Int) by omega),(show 0 < a.length - (k - 1) by omega),(show ((k:Int) - 1).toNat = k - 1 by omega)];try (refine ⟨fun s7a=>?_,fun s7a=>?_⟩ <;> (try simp [B_iff,B_not] at s7a) <;> try (refine ⟨fun s7b=>?_,fun s7b=>?_⟩ <;> (try simp [B_iff,B_not] at s7b) <;> try (refine ⟨fun s7c=>?_,fun s7c=>?_⟩ <;> (try simp [B_iff,B_not] at s7c) <;> try (refine ⟨fun s7d=>?_,fun s7d=>?_⟩ <;> (try simp [B_iff,B_not] at s7d)))))
 | refine Qc (id:=8) Xg [] (by kernel_rfl) ?_;simp [-zg,-zd,↓Qb,↓Qa,go_sem]
 | refine Qc (id:=6) Xg [] (by kernel_rfl) ?_;simp [-zg,-zd,↓Qb,↓Qa,go_sem,wrapS (k:=k) (by omega),(by decide:IntKind.i64.wrap 1 = 1)]
 | refine Qc (id:=9) Xg [] (by kernel_rfl) ?_;simp [-zg,-zd,↓Qb,↓Qa,go_sem]
 | refine Qc (id:=10) Xg [] (by kernel_rfl) ?_;simp [-zg,-zd,↓Qb,↓Qa,go_sem]
 | refine Qc (id:=12) Xg [] (by kernel_rfl) ?_;simp [-zg,-zd,↓Qb,↓Qa,go_sem,c72,Qs c72,zsP c72]
 | refine Qc (id:=13) Xg [] (by kernel_rfl) ?_;simp [-zg,-zd,↓Qb,↓Qa,go_sem]
 | refine Qc (id:=11) Xg [] (by kernel_rfl) ?_;simp [-zg,-zd,↓Qb,↓Qa,go_sem,wrapS (k:=i) (by omega)]
 | refine Qc (id:=14) Xg [] (by kernel_rfl) ?_;simp [-zg,-zd,↓Qb,↓Qa,go_sem]
 | refine Qh (c:=.tmp 27) ?_;simp [-zg,-zd,↓Qb,↓Qa,go_sem];try first | (refine ⟨?_,?_⟩ <;> refine zA ?_) | (refine ⟨fun c27=>?_,fun c27=>?_⟩ <;> (try simp [B_iff,B_not] at c27))
 | refine Qh (c:=.tmp 32) ?_;simp [-zg,-zd,↓Qb,↓Qa,go_sem];try first | (refine ⟨?_,?_⟩ <;> refine zA ?_) | (refine ⟨fun c32=>?_,fun c32=>?_⟩ <;> (try simp [B_iff,B_not] at c32))
 | refine Qh (c:=.tmp 67) ?_;simp [-zg,-zd,↓Qb,↓Qa,go_sem];try first | (refine ⟨?_,?_⟩ <;> refine zA ?_) | (refine ⟨fun c67=>?_,fun c67=>?_⟩ <;> (try simp [B_iff,B_not] at c67))
 | refine Qh (c:=.tmp 72) ?_;simp [-zg,-zd,↓Qb,↓Qa,go_sem];try first | (refine ⟨?_,?_⟩ <;> refine zA ?_) | (refine ⟨fun c72=>?_,fun c72=>?_⟩ <;> (try simp [B_iff,B_not] at c72))
 | refine Qh (c:=.tmp 82) ?_;simp [-zg,-zd,↓Qb,↓Qa,go_sem];try first | (refine ⟨?_,?_⟩ <;> refine zA ?_) | (refine ⟨fun c82=>?_,fun c82=>?_⟩ <;> (try simp [B_iff,B_not] at c82))
 | (refine Qj (id:=0) (Xp (ι:=Nat) (fun k:Nat=>⟨(upd (upd (upd (fun _=>.any) 1 (.pd [li cI a,li cB b,li cT c])) 3 (.int .i64 b.length)) 4 (.int .i64 k)),fun _=>none⟩) (fun k=>k ≤ a.length ∧ AllTill (fun i=>ahead a i < nth a i ∧ nth a i < (b.length:Nat)) k) (fun k=>a.length - k) (0) ?_ ?_ ?_);exact ⟨Nat.zero_le _,.zero _⟩;((repeat' (first | exact Qn (by assumption) | exact Qp | refine Qq ?_ ?_ | refine Qo ?_)) <;> simp [-zg,-zd,↓Qb,↓Qa,go_sem]);rintro k ⟨hk,ht⟩;obtain ⟨k0,h0⟩ | ⟨j,h0⟩:(∃ z:Nat,k = 0) ∨ ∃ j,k = j + 1:=(by rcases k with _ | j;exact .inl ⟨0,rfl⟩;exact .inr ⟨j,rfl⟩))
 | (refine ⟨k + 1,⟨by omega,ht.succ (by first | (subst h0;simp only [ahead];omega) | (show ahead a k < nth a k ∧ nth a k < ((b.length:Nat):Int);rw [ahead_pos (by omega)];omega))⟩,by first | omega | (simp;done) | (simp;omega),?_⟩;((repeat' (first | exact Qn (by assumption) | exact Qp | refine Qq ?_ ?_ | refine Qo ?_)) <;> simp [-zg,-zd,↓Qb,↓Qa,go_sem,h0]))
 | (refine Qj (id:=2) (Xp (ι:=Nat) (fun i:Nat=>⟨(upd (upd (upd (fun _=>.any) 1 (.pd [li cI a,li cB b,li cT c])) 3 (.int .i64 b.length)) 5 (.int .i64 i)),fun _=>none⟩) (fun i=>i ≤ c.length ∧ AllTill (fun j=>EdgeOk (nth c j) (b.length:Nat)) i) (fun i=>c.length - i) (0) ?_ ?_ ?_);exact ⟨Nat.zero_le _,.zero _⟩;((repeat' (first | exact Qn (by assumption) | exact Qp | refine Qq ?_ ?_ | refine Qo ?_)) <;> simp [-zg,-zd,↓Qb,↓Qa,go_sem]);rintro i ⟨hi,hu⟩)
 | (refine ⟨i + 1,⟨by omega,hu.succ c82⟩,by first | omega | (simp;done) | (simp;omega),?_⟩;((repeat' (first | exact Qn (by assumption) | exact Qp | refine Qq ?_ ?_ | refine Qo ?_)) <;> simp [-zg,-zd,↓Qb,↓Qa,go_sem]))
 | (refine Qj ?_)
 | (refine Qw ?_;simp [-zg,-zd,↓Qb,↓Qa,go_sem])
 | (refine Qv ?_;simp [-zg,-zd,↓Qb,↓Qa,go_sem])
 | (refine Qz ?_;simp [-zg,-zd,↓Qb,↓Qa,go_sem,Tryd.results30])
 | (intro hx;refine zA ?_)
 | (refine ⟨?_,?_⟩ <;> refine zA ?_)
 | (intro hx;constructor <;> intro hs)
 | (constructor <;> intro hs)
 | (refine ⟨?_,fun hs=>?_⟩;refine zA ?_)
 | (refine ⟨fun hs=>?_,?_⟩;rotate_left;refine zA ?_;rotate_left)))
  all_goals (first
 | (rintro ⟨g1,g2,g3,g4,g5⟩;have q:=g3 k c32;subst h0;simp only [ahead] at q;omega)
 | (rintro ⟨g1,g2,g3,g4,g5⟩;have q:=g3 k c32;rw [ahead_pos (by omega)] at q;have q2:=sorted_ge (a:=a) (k:=k + 1) (fun i hi=>(g3 i (by omega)).1) k (by omega);omega)
 | (rintro ⟨g1,g2,g3,g4,g5⟩;omega)
 | (intro h;have:=sorted_len h.2.2.1;omega)
 | (rintro ⟨g1,g2,g3,g4,g5⟩;exact c82 (g5 i c72))
 | exact ⟨by omega,by omega,fun j hj=>ht j (by omega),by omega,fun j hj=>hu j (by omega)⟩
 | skip)
  all_goals trace_state
@[go_sem] def zaac:Con:=.pure fun
  | [.st [.list n_a c_a,.list n_b c_b,.list n_c c_c]]=>((Is cI n_a c_a) ∧ (Is cB n_b c_b) ∧ (Is cT n_c c_c) ∧ (Xj (de cT c_c)),.bool (B (AutOk (de cI c_a) (de cB c_b).length (de cT c_c))))
  | _=>(False,.any)
theorem zaaz:ConOk Tryd.prog 30 zaac:=by
  refine ⟨Qt Tryd.func30 (by decide) rfl,fun args h=>?_⟩
  revert h
  dsimp only
  split
  · intro h
    obtain ⟨⟨a,rfl,rfl⟩,⟨b,rfl,rfl⟩,⟨c,rfl,rfl⟩,hS⟩:=h
    try simp only [Xd] at *
    exact ⟨zabn a b c hS,by simp [go_sem]⟩
  · intro h
    exact h.elim
@[go_sem] def Γa23:FuncId → Con:=ext Γa22 30 zaac
theorem Zd:∀ g,ConOk Tryd.prog g (Γa23 g):=Qu Xg zaaz

end
end Go.Proofs.YtnfldmfamnhpcaaDoor.Vm

