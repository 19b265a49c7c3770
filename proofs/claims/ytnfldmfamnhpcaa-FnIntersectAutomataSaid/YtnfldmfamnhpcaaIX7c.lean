/-
  Intersections: the specification's search. No conditions.
-/
import Derived.Test.YtnfldmfamnhpcaaIX6
import Derived.Test.YtnfldmfamnhpcaaZL
namespace Go.Proofs.Ytnfldmfamnhpcaa.Vm
open Go
open Nat renaming sub_pos_of_lt → zsP
open List renaming getD_eq_getElem?_getD → zg,drop_one → zd,replicate → zrP
open Ne renaming symm → zS
noncomputable section
set_option linter.unusedVariables false
set_option linter.unusedSimpArgs false
set_option maxRecDepth 200000

section
variable {P:Program} {B:Base} {n:Nat} {S:St} {c:Code} {Q:Exit → St → Prop}
theorem AW_matL3 (t:Nat) {ls:List (List Int)} {x y z:Int} (hT:S.T t = .fr 1 (ls.length + 1) (cat cL ls ++ [.fr 1 3 [.int .i64 x,.int .i64 y,.int .i64 z]]))
    (h:∀ b cp k,S.H b = none → ls.length + 1 ≤ cp → cp ≤ ls.length + 1 + k → AW P B n c Q ⟨upd S.T t (.sl b 1 0 (ls.length + 1) cp),upd S.H b (some (cat cL (ls ++ [[x,y,z]]) ++ zrP k .any))⟩):AW P B n c Q S:=by
  refine Zk t hT fun b cp k hb h1 h2=>?_
  have hl:(cat cL ls).length = ls.length:=by rw [Qx];omega
  refine zaoq b ls.length (all:=(cat cL ls ++ [.fr 1 3 [.int .i64 x,.int .i64 y,.int .i64 z]]) ++ zrP k .any) (d:=.fr 1 3 [.int .i64 x,.int .i64 y,.int .i64 z]) (by dsimp only;rw [Qm]) ?_ rfl ?_
  · rw [List.append_assoc,List.getElem?_append_right (by omega),hl,Nat.sub_self];rfl
  · have e:((cat cL ls ++ [D.fr 1 3 [.int .i64 x,.int .i64 y,.int .i64 z]]) ++ zrP k D.any).set ls.length (dat (.fr 1 3 [.int .i64 x,.int .i64 y,.int .i64 z])) = cat cL (ls ++ [[x,y,z]]) ++ zrP k .any:=by
      rw [List.append_assoc,Zi,Zf,List.append_assoc,List.set_append,if_neg (by omega),hl,Nat.sub_self];rfl
    rw [e]
    have e2:upd (upd S.H b (some (cat cL ls ++ [D.fr 1 3 [.int .i64 x,.int .i64 y,.int .i64 z]] ++ zrP k D.any))) b (some (cat cL (ls ++ [[x,y,z]]) ++ zrP k .any)) = upd S.H b (some (cat cL (ls ++ [[x,y,z]]) ++ zrP k .any)):=upd_upd ..
    dsimp only
    rw [e2]
    exact h b cp k hb h1 (by omega)
end

theorem merge_pure (e0:Int) (e1:Int) (e2:Int) (e3:Int) (f0:Int) (f1:Int) (f2:Int) (f3:Int)  : Pure Try.prog 20 [.st [.int .i64 e0,.int .i64 e1,.int .i64 e2,.int .i64 e3],.st [.int .i64 f0,.int .i64 f1,.int .i64 f2,.int .i64 f3]] (.tup [.int .i64 (bitsD .or .i64 e1 f1),.int .i64 (bitsD .or .i64 e2 f2),.bool (decide (bitsD .and .i64 (bitsD .and .i64 (bitsD .xor .i64 e2 f2) e1) f1 = 0))]):=by
  refine Pure.of_walk Try.func20 rfl (by simp [Try.f20]) (by simp [-zd,go_sem]) fun B hK=>?_
  (repeat' (first
 | refine Qu ?_
 | refine Qc (id:=0) Γi4_ok [] (by kernel_rfl) ?_;simp [-zg,-zd,↓Qb,↓Qa,go_sem];try ((refine Xb hK 2 ?_);(refine Xb hK 3 ?_);simp [go_sem])
 | refine Xr (id:=1) Γi4_ok mixed [] [2,3] (by kernel_rfl) (by kernel_rfl) (by simp [-zg,-zd,↓Qb,↓Qa,go_sem]) ?_;simp [-zg,-zd,↓Qb,↓Qa,go_sem]
 | (refine Qe ?_)
 | (refine Qt ?_;simp [-zg,-zd,↓Qb,↓Qa,go_sem])
 | (refine Qs ?_;simp [-zg,-zd,↓Qb,↓Qa,go_sem])
 | (refine Qv ?_;simp [-zg,-zd,↓Qb,↓Qa,go_sem,Try.results20])
 | (intro hx;refine zA ?_)
 | (refine ⟨?_,?_⟩ <;> refine zA ?_)
 | (intro hx;constructor <;> intro hs)
 | (constructor <;> intro hs)
 | (refine ⟨?_,fun hs=>?_⟩;refine zA ?_)
 | (refine ⟨fun hs=>?_,?_⟩;rotate_left;refine zA ?_;rotate_left)))
@[go_sem] def zahw:Con:=.pure fun
  | [.st [.int .i64 e0,.int .i64 e1,.int .i64 e2,.int .i64 e3],.st [.int .i64 f0,.int .i64 f1,.int .i64 f2,.int .i64 f3]]=>(True,.tup [.int .i64 (bitsD .or .i64 e1 f1),.int .i64 (bitsD .or .i64 e2 f2),.bool (decide (bitsD .and .i64 (bitsD .and .i64 (bitsD .xor .i64 e2 f2) e1) f1 = 0))])
  | _=>(False,.any)
theorem merge_pureC_ok:ConOk Try.prog 20 zahw:=by
  refine ⟨Qp Try.func20 (by decide) rfl,fun args h=>?_⟩
  revert h
  dsimp only
  split
  · intro h
    skip
    skip
    exact ⟨merge_pure _ _ _ _ _ _ _ _,by simp [go_sem]⟩
  · intro h
    exact h.elim
@[go_sem] def Γi5:FuncId → Con:=ext Γi4 20 zahw
theorem Ws:∀ g,ConOk Try.prog g (Γi5 g):=Qo Γi4_ok merge_pureC_ok

theorem Spec.frameF {P:Program} {f:FuncId} {args:List D} {r:D} (h:Spec P f args (fun _=>none) r (fun _=>none)) (H:Hp):Spec P f args H r H:=by
  have h1:SpecR P f args (fun _=>none) (fun _=>(r,fun _=>none)):=fun w J vs μ fp N hR=>(h w J vs μ fp N hR).mono fun e w' ⟨v,μ',fp',N',he,hr⟩=>⟨⟨Unit,()⟩,v,μ',fp',N',he,hr⟩
  have h2:=SpecR.frame0 (r:=fun _=>r) h1 (H:=H)
  exact fun w J vs μ fp N hR=>(h2 w J vs μ fp N hR).mono fun e w' ⟨c,v,μ',fp',N',he,hr⟩=>⟨v,μ',fp',N',he,hr⟩
theorem notTill_succ {xs:List (List Int)} {pr:List Int} {i:Nat} (h:∀ k,k < i → ¬ nth xs k = pr) (e:¬ nth xs i = pr):∀ k,k < i + 1 → ¬ nth xs k = pr:=fun k hk=>by
  by_cases q:k = i
  · subst q;exact e
  · exact h k (by omega)
theorem idx_first {pr:List Int}:∀ (xs:List (List Int)) (i:Nat),i < xs.length → (∀ k,k < i → ¬ nth xs k = pr) → nth xs i = pr → xs.idxOf pr = i
  | [],_,h,_,_=>absurd h (by simp)
  | x :: xs,0,_,_,e=>by
    have e2:x = pr:=e
    rw [List.idxOf_cons,e2];simp
  | x :: xs,i + 1,h,ht,e=>by
    have h0:¬ x = pr:=ht 0 (by omega)
    have ih:=idx_first xs i (by simpa using h) (fun k hk=>ht (k + 1) (by omega)) e
    have h1:(x == pr) = false:=by simpa using h0
    rw [List.idxOf_cons,h1,ih];rfl
theorem add_at {xs:List (List Int)} {pr:List Int} {i:Nat} (h:i < xs.length) (ht:∀ k,k < i → ¬ nth xs k = pr) (e:nth xs i = pr):addT xs pr = xs ∧ (addT xs pr).idxOf pr = i:=by
  have hm:pr ∈ xs:=by rw [← e];exact Xl h
  rw [addT_old hm]
  exact ⟨rfl,idx_first xs i h ht e⟩
theorem add_none {xs:List (List Int)} {pr:List Int} (ht:∀ k,k < xs.length → ¬ nth xs k = pr):addT xs pr = xs ++ [pr] ∧ (addT xs pr).idxOf pr = xs.length:=by
  have hm:¬ pr ∈ xs:=fun h=>by
    obtain ⟨k,hk,e⟩:=List.getElem_of_mem h
    exact ht k hk (by rw [Qy hk];exact e)
  exact ⟨addT_new hm,addT_idx hm⟩

set_option maxHeartbeats 8000000 in
theorem pairX_spec (xs:List (List Int)) (pr:List Int) (hn:xs.length ≤ 100000):Spec Try.prog 21 [fr 1 cL xs,fr 1 cI pr] (fun _=>none) (.tup [.fr 1 (addT xs pr).length (cat cL (addT xs pr)),.int .i64 ((addT xs pr).idxOf pr:Int)]) (fun _=>none):=by
  refine Spec.of_walk Try.func21 rfl (by simp [Try.f21]) fun B=>?_
  obtain ⟨ws,hws⟩:∃ ws,addT xs pr = ws:=⟨_,rfl⟩;rw [hws]
  all_goals (repeat' (first
 | refine Qu ?_
 | ((refine Xv 1 ?_);(simp only [go_sem,dat,Xd,Zj]);(refine Zk 0 rfl fun nb cp j hnb hcp hcj=>?_);(simp only [go_sem] at hnb ⊢);(clear hnb);(have e0:=Xy (f:=cL) xs (zrP j D.any)));refine Qc (id:=0) Ws [] (by kernel_rfl) ?_;simp [-zg,-zd,↓Qb,↓Qa,go_sem]
 | refine Qc (id:=1) Ws [] (by kernel_rfl) ?_;simp [-zg,-zd,↓Qb,↓Qa,go_sem]
 | refine Qc (id:=2) Ws [] (by kernel_rfl) ?_;simp [-zg,-zd,↓Qb,↓Qa,go_sem]
 | refine Qc (id:=4) Ws [] (by kernel_rfl) ?_;simp [-zg,-zd,↓Qb,↓Qa,go_sem,c10,Qj c10,zsP c10,(show i < xs.length + j by omega)]
 | ((have hfd:=add_at c10 ht c18);(rw [hws] at hfd);(refine Jz 0 (b:=nb) (all:=cat cL xs ++ zrP j D.any) rfl (by simp [upd]) (by omega) (by simp [Qx]) (by simp [Qx];omega) ?_));refine Qc (id:=5) Ws [] (by kernel_rfl) ?_;simp [-zg,-zd,↓Qb,↓Qa,go_sem,Xy]
 | refine Qc (id:=3) Ws [] (by kernel_rfl) ?_;simp [-zg,-zd,↓Qb,↓Qa,go_sem,wrapS (k:=i) (by omega)]
 | ((obtain rfl:i = xs.length:=by omega);(have hfd:=add_none ht);(rw [hws] at hfd));refine Qc (id:=6) Ws [] (by kernel_rfl) ?_;simp [-zg,-zd,↓Qb,↓Qa,go_sem,(show xs.length ≤ 9223372036854775806 by omega),(show 2 * (xs.length + 1) * 24 ≤ 281474976710656 by omega),(show cp ≤ xs.length + j by omega),hcj,(show xs.length ≤ xs.length + j by omega)]
 | refine Qd (c:=.tmp 10) ?_;simp [-zg,-zd,↓Qb,↓Qa,go_sem];try first | (refine ⟨?_,?_⟩ <;> refine zA ?_) | (refine ⟨fun c10=>?_,fun c10=>?_⟩ <;> (try simp [B_iff,B_not] at c10))
 | refine Qd (c:=.tmp 18) ?_;simp [-zg,-zd,↓Qb,↓Qa,go_sem];try first | (refine ⟨?_,?_⟩ <;> refine zA ?_) | (refine ⟨fun c18=>?_,fun c18=>?_⟩ <;> (try simp [B_iff,B_not] at c18))
 | (refine Qe (id:=0) (Qz (ι:=Nat) (fun i:Nat=>⟨(upd (upd (upd (fun _=>.any) 0 (.sl nb 1 0 xs.length cp)) 1 (.list pr.length (cat cI pr))) 6 (.int .i64 i)),upd (fun _=>none) nb (some (cat cL xs ++ zrP j D.any))⟩) (fun i=>i ≤ xs.length ∧ ∀ k,k < i → ¬ nth xs k = pr) (fun i=>xs.length - i) (0) ?_ ?_ ?_);exact ⟨Nat.zero_le _,fun _ h=>absurd h (by omega)⟩;((repeat' (first | exact Qg (by assumption) | exact Qi | refine Qf ?_ ?_ | refine Qh ?_)) <;> simp [-zg,-zd,↓Qb,↓Qa,go_sem]);rintro i ⟨hi,ht⟩)
 | (refine ⟨i + 1,⟨by omega,notTill_succ ht (by simp_all)⟩,by first | omega | (simp;done) | (simp;omega),?_⟩;((repeat' (first | exact Qg (by assumption) | exact Qi | refine Qf ?_ ?_ | refine Qh ?_)) <;> simp [-zg,-zd,↓Qb,↓Qa,go_sem]))
 | (refine Qe ?_)
 | (refine Qt ?_;simp [-zg,-zd,↓Qb,↓Qa,go_sem])
 | (refine Qs ?_;simp [-zg,-zd,↓Qb,↓Qa,go_sem])
 | (refine Qv ?_;simp [-zg,-zd,↓Qb,↓Qa,go_sem,Try.results21])
 | (intro hx;refine zA ?_)
 | (refine ⟨?_,?_⟩ <;> refine zA ?_)
 | (intro hx;constructor <;> intro hs)
 | (constructor <;> intro hs)
 | (refine ⟨?_,fun hs=>?_⟩;refine zA ?_)
 | (refine ⟨fun hs=>?_,?_⟩;rotate_left;refine zA ?_;rotate_left)))
  all_goals (first
 | (rw [hfd.1,hfd.2] at *;simp [Xy];done)
 | (obtain ⟨rfl,h2⟩:=hfd;rw [h2];simp [Zi,Zf,li,cL];done)
 | skip)
@[go_sem] def zaht:Con:=.gen fun args H=>match args with
  | [.fr 1 n_xs c_xs,.fr 1 n_pr c_pr]=>((Is cL n_xs c_xs) ∧ (Is cI n_pr c_pr) ∧ ((de cL c_xs).length ≤ 100000),.tup [.fr 1 (addT (de cL c_xs) (de cI c_pr)).length (cat cL (addT (de cL c_xs) (de cI c_pr))),.int .i64 ((addT (de cL c_xs) (de cI c_pr)).idxOf (de cI c_pr):Int)],H)
  | _=>(False,.any,H)
theorem pairX_specC_ok:ConOk Try.prog 21 zaht:=by
  refine ⟨Qp Try.func21 (by decide) rfl,fun args H h=>?_⟩
  revert h
  dsimp only
  split
  · intro h
    obtain ⟨⟨xs,rfl,rfl⟩,⟨pr,rfl,rfl⟩,hn⟩:=h
    try simp only [Qr] at *
    exact Spec.frameF (pairX_spec xs pr hn) H
  · intro h
    exact h.elim
@[go_sem] def Γi6:FuncId → Con:=ext Γi5 21 zaht
theorem Xe:∀ g,ConOk Try.prog g (Γi6 g):=Qo Ws pairX_specC_ok

@[irreducible] def SubK (C:St) (S':St):Prop:=Sub S' C
theorem cut_sub {C S':St} (h:Sub S' C):SubK C S':=by unfold SubK;exact h
theorem cut_get {C S':St} (h:SubK C S'):Sub S' C:=by unfold SubK at h;exact h
def CutN (N:Hp → Prop) (T:Nat → D) (S':St):Prop:=∃ H7,N H7 ∧ Sub S' ⟨T,H7⟩
theorem cut_end {T' T:Nat → D} {H':Hp} {N:Hp → Prop} (h:N H') (s:Sub ⟨T',H'⟩ ⟨T,H'⟩):CutN N T ⟨T',H'⟩:=⟨H',h,s⟩
structure NX where
  nb:Nat
  cp:Nat
  j:Nat
  H:Hp
structure NIx (pb:Nat) (L:List (List Int)) (n0:Nat) (A:List Bool) (E:List Tr4) (m:NX):Prop where
  h1:¬ m.nb = pb
  h2:L.length ≤ m.cp
  h3:m.cp ≤ L.length + m.j
  h4:m.H pb = some [.fr 1 n0 (cat cI (ups n0)),.fr 1 A.length (cat cB A),.fr 4 E.length (cat cT E)]
  h5:m.H m.nb = some (cat cL L ++ zrP m.j .any)
def ixL (X:IxP) (k j:Nat):List (List Int):=ixIk X k ++ ixIin X (nth X.a k) j
theorem ixL_zero (X:IxP) (k:Nat):ixL X k 0 = ixIk X k:=by simp [ixL,ixIin_zero]
theorem ixL_succ {X:IxP} {k j:Nat} (h:j < X.a'.length):ixL X k (j + 1) = ixL X k j ++ [[nth X.a k,nth X.a' j,0]]:=by simp [ixL,ixIin_succ h]
theorem ixL_end {X:IxP} {k:Nat} (h:k < X.a.length):ixL X k X.a'.length = ixIk X (k + 1):=(ixIk_succ h).symm
theorem ixL_len {X:IxP} {k j:Nat} (h:k ≤ X.a.length) (hj:j ≤ X.a'.length):(ixL X k j).length = k * X.a'.length + j:=by rw [ixL,List.length_append,ixIk_len k h,ixIin_len hj]
def ixD (X:IxP) (i:Nat) (s:List (List Int) × List Tr4) (t:List Int) (k:Nat):List (List Int) × List Tr4:=ixRun i s (mvOut X t k)
def ixDE (X:IxP) (i:Nat) (s:List (List Int) × List Tr4) (t:List Int) (k j:Nat):List (List Int) × List Tr4:=ixRun i s (mvOut X t k ++ mvIn X t (nth X.c k) j)
theorem ixD_zero (X:IxP) (i:Nat) (s:List (List Int) × List Tr4) (t:List Int):ixD X i s t 0 = s:=rfl
theorem ixDE_zero (X:IxP) (i:Nat) (s:List (List Int) × List Tr4) (t:List Int) (k:Nat):ixDE X i s t k 0 = ixD X i s t k:=by simp [ixDE,ixD,mvIn_zero]
theorem ixDE_end {X:IxP} {k:Nat} (h:k < X.c.length) (i:Nat) (s:List (List Int) × List Tr4) (t:List Int):ixDE X i s t k X.c'.length = ixD X i s t (k + 1):=by simp [ixDE,ixD,zaen h]
theorem ixD_skip {X:IxP} {k:Nat} (h:k < X.c.length) (i:Nat) (s:List (List Int) × List Tr4) {t:List Int} (hn:¬ (nth X.c k).1 = nth t 0):ixD X i s t (k + 1) = ixD X i s t k:=by simp [ixD,zaen h,mvIn_off hn]
theorem ixDE_yes {X:IxP} {j:Nat} (h:j < X.c'.length) (i:Nat) (s:List (List Int) × List Tr4) {t:List Int} {k:Nat} (hy:mvOn t (nth X.c k) (nth X.c' j) = true):ixDE X i s t k (j + 1) = Xw i (ixDE X i s t k j) (mvE (mvPh X t) (nth X.c k) (nth X.c' j)):=by
  simp only [ixDE,mvIn_yes h hy]
  rw [← List.append_assoc,ixRun_snoc]
theorem ixDE_no {X:IxP} {j:Nat} (h:j < X.c'.length) (i:Nat) (s:List (List Int) × List Tr4) {t:List Int} {k:Nat} (hy:mvOn t (nth X.c k) (nth X.c' j) = false):ixDE X i s t k (j + 1) = ixDE X i s t k j:=by simp only [ixDE,mvIn_no h hy]
theorem ixDE_ok {X:IxP} (hX:X.Ok) {i k j:Nat} {s:List (List Int) × List Tr4} {t:List Int} (ht:TriIn X.b.length X.b'.length t) (hs:TriOk X.b.length X.b'.length s.1) (hk:k < X.c.length):TriOk X.b.length X.b'.length (ixDE X i s t k j).1:=by
  refine ixRun_ok _ _ hs fun m hm=>?_
  rcases List.mem_append.1 hm with q | q
  · exact mvOut_in hX ht m q
  · exact mvIn_in hX ht (Xl hk) m q
theorem ixDE_elen {X:IxP} {i k j:Nat} {s:List (List Int) × List Tr4} {t:List Int} (hk:k < X.c.length) (hj:j ≤ X.c'.length) (h1:X.c.length ≤ 2048) (h2:X.c'.length ≤ 2048):(ixDE X i s t k j).2.length ≤ s.2.length + 2048 * 2048 + 2048:=by
  rw [ixDE,zalx,List.length_append]
  have a1:=zagx X t k (by omega)
  have a2:=mvIn_len X t (nth X.c k) j
  have a3:k * X.c'.length ≤ 2048 * 2048:=Nat.mul_le_mul (by omega) h2
  omega
theorem ixE0l (X:IxP):(ixE X 0).l = ixI X:=rfl
theorem ix_pref {X:IxP} (i:Nat):∃ r,(ixE X i).l = ixI X ++ r:=by
  have:=(ixE_preN X 0 i).1
  rwa [Nat.zero_add] at this
theorem ix_fin0 {X:IxP} (hX:X.Ok) {i:Nat} (hU:IxUp X i) (hl:(ixE X i).l.length ≤ i) (hI:ixI X = []):(ixE X i).l = [] ∧ (ixE X i).a = [] ∧ (ixE X i).e = [] ∧ ixF X = ⟨[],[],[false]⟩ ∧ (ixI X).length = 0:=by
  obtain ⟨h1,_,h2⟩:=ix_none hX hI
  obtain rfl:i = 0:=by rw [← h2];exact ixN_eq hX hU hl
  exact ⟨hI,rfl,rfl,h1,by rw [hI];rfl⟩
theorem ix_fin1 {X:IxP} (hX:X.Ok) {i:Nat} (hU:IxUp X i) (hl:(ixE X i).l.length ≤ i) (hI:¬ ixI X = []):¬ (ixE X i).l = [] ∧ ixF X = ixE X i:=by
  refine ⟨fun h=>?_,?_⟩
  · obtain ⟨r,hr⟩:=ix_pref (X:=X) i
    rw [hr] at h
    exact hI (List.append_eq_nil_iff.1 h).1
  · rw [ixF,if_neg hI,← ixN_eq hX hU hl]
theorem ixF_small {X:IxP} (hX:X.Ok):Xn (ixF X).e:=by
  unfold ixF
  split
  · exact fun i h=>absurd h (by simp)
  · exact (ixE_small hX _).all
def Ue (X:IxP):D:=.tup [if Vm.B (X.Ok ∧ Zd X) = true then .st [fr 1 cI (ups (ixI X).length),fr 1 cB (ixF X).a,fr 4 cT (ixF X).e] else .st [.nil,.nil,.nil],.bool (Vm.B (X.Ok ∧ Zd X))]
theorem ixRes2_yes {X:IxP} (h:X.Ok) (h2:Zd X):Ue X = .tup [.st [fr 1 cI (ups (ixI X).length),fr 1 cB (ixF X).a,fr 4 cT (ixF X).e],.bool true]:=by simp [Ue,B_yes (And.intro h h2)]
theorem zadx {X:IxP} (h:¬ (X.Ok ∧ Zd X)):Ue X = .tup [.st [.nil,.nil,.nil],.bool false]:=by simp [Ue,B_no h]
@[go_sem] theorem ixRes2_closed (X:IxP):closed (Ue X) = true:=by
  unfold Ue
  split
  · simp [closed,Zq,fr]
    exact ⟨zact (f:=cI) _,zact (f:=cB) _,zact (f:=cT) _⟩
  · rfl
@[go_sem] theorem ixRes2_bnd (X:IxP) (N:Nat):bnd N (Ue X):=by
  unfold Ue
  split
  · simp only [bnd,bndL,fr,and_true]
    exact ⟨Wx N _,Wx N _,Wx N _⟩
  · simp [bnd,bndL]

set_option maxHeartbeats 32000000 in
theorem zany (a:List Int) (b:List Bool) (c:List Tr4) (a':List Int) (b':List Bool) (c':List Tr4) (hS:Xn c) (hS':Xn c'):Pure Try.prog 6 [.st [li cI a,li cB b,li cT c],.st [li cI a',li cB b',li cT c']] (Ue ⟨a,b,c,a',b',c'⟩):=by
  refine Pure.of_walk Try.func6 rfl (by simp [Try.f6]) (by simp [-zd,go_sem]) fun B hK=>?_
  obtain ⟨X,hXd⟩:∃ X:IxP,X = ⟨a,b,c,a',b',c'⟩:=⟨_,rfl⟩;have hXa:X.a = a:=(by rw [hXd]);have hXa':X.a' = a':=(by rw [hXd]);have hXb:X.b = b:=(by rw [hXd]);have hXb':X.b' = b':=(by rw [hXd]);have hXc:X.c = c:=(by rw [hXd]);have hXc':X.c' = c':=(by rw [hXd]);rw [← hXd];have no1:Vm.B (AutOk a b.length c) = false → ¬ (X.Ok ∧ Zd X):=(fun h k=>absurd k.1 (by rw [hXd];exact ixOk_no1 h));have no2:Vm.B (AutOk a' b'.length c') = false → ¬ (X.Ok ∧ Zd X):=(fun h k=>absurd k.1 (by rw [hXd];exact ixOk_no2 h));have yes:Vm.B (AutOk a b.length c) = true → Vm.B (AutOk a' b'.length c') = true → X.Ok:=(fun h h'=>by rw [hXd];exact ixOk_yes h h');clear hXd;cases hg:Vm.B (AutOk a b.length c) <;> cases hg2:Vm.B (AutOk a' b'.length c')
  all_goals (repeat' (first
 | refine Qu ?_
 | refine Qc (id:=0) Xe [] (by kernel_rfl) ?_;simp [-zg,-zd,↓Qb,↓Qa,go_sem];try ((refine Xb hK 2 ?_);(refine Xb hK 3 ?_);simp [go_sem])
 | refine Qc (id:=1) Xe [22] (by kernel_rfl) ?_;simp [-zg,-zd,↓Qb,↓Qa,go_sem,hg,hg2,hS,hS'];try (refine ⟨fun s1a=>?_,fun s1a=>?_⟩ <;> (try simp [B_iff,B_not] at s1a) <;> try (refine ⟨fun s1b=>?_,fun s1b=>?_⟩ <;> (try simp [B_iff,B_not] at s1b)))
 | refine Qc (id:=2) Xe [] (by kernel_rfl) ?_;simp [-zg,-zd,↓Qb,↓Qa,go_sem]
 | refine Qc (id:=3) Xe [] (by kernel_rfl) ?_;simp [-zg,-zd,↓Qb,↓Qa,go_sem]
 | refine Qc (id:=4) Xe [] (by kernel_rfl) ?_;simp [-zg,-zd,↓Qb,↓Qa,go_sem]
 | ((have hX:X.Ok:=yes hg hg2);(have hal:a.length ≤ 64:=(aut_len (by have:=hX.1;rwa [hXa,hXb,hXc] at this:AutOk a b.length c)));(have hal':a'.length ≤ 64:=(aut_len (by have:=hX.2;rwa [hXa',hXb',hXc'] at this:AutOk a' b'.length c')));(have hcl:c.length ≤ 2048:=(by have:=hX.1.2.2.2.1;rwa [hXc] at this));(have hcl':c'.length ≤ 2048:=(by have:=hX.2.2.2.2.1;rwa [hXc'] at this));(refine zamw 6 rfl ?_);(refine Xu 6 rfl fun pb hpb=>?_);(refine Zk 7 rfl fun nb cp j hnb hcp hcj=>?_);(have hna:¬ nb = pb:=(by rintro rfl;simp [upd] at hnb));(clear hpb hnb);(refine Qq (fun H1=>NIx pb [] 0 [] [] ⟨nb,cp,j,H1⟩) ⟨hna,Nat.zero_le _,by simpa using hcj,by simp [upd,hna,zS hna,Xg,ups_zero],by simp [upd,Xg]⟩ fun H1 hT=>?_));refine Qc (id:=5) Xe [] (by kernel_rfl) ?_;simp [-zg,-zd,↓Qb,↓Qa,go_sem]
 | refine Qc (id:=6) Xe [] (by kernel_rfl) ?_;simp [-zg,-zd,↓Qb,↓Qa,go_sem]
 | refine Qc (id:=8) Xe [] (by kernel_rfl) ?_;simp [-zg,-zd,↓Qb,↓Qa,go_sem]
 | refine Qc (id:=9) Xe [] (by kernel_rfl) ?_;simp [-zg,-zd,↓Qb,↓Qa,go_sem]
 | ((obtain ⟨jr,nb1,cp1,j1,H0⟩:=r);(dsimp only at *);(obtain ⟨t3,t4,t5,t6,t7⟩:=h2);(have hll:=ixL_len (X:=X) (k:=q.1) (j:=jr) (by rw [hXa];omega) (by rw [hXa'];omega));(have hmul:q.1 * X.a'.length ≤ 64 * 64:=Nat.mul_le_mul (by omega) (by rw [hXa'];exact hal'));(have e9:=ixL_succ (X:=X) (k:=q.1) (j:=jr) (by rw [hXa'];exact c41));(rw [hXa,hXa'] at e9);(generalize hlld:ixL X q.1 jr = ll at *);(have hlb:ll.length ≤ 5000:=(by omega));(dsimp only [List.length_nil] at t3 t4 t5 t6 t7);(simp only [List.length_nil,Xg] at t6));refine Qc (id:=11) Xe [] (by kernel_rfl) ?_;simp [-zg,-zd,↓Qb,↓Qa,go_sem,t6,(show ll.length ≤ 9223372036854775806 by omega),(show 2 * (ll.length + 1) * 8 ≤ 281474976710656 by omega),(show ll.length + 1 ≤ 9223372036854775807 by omega),Ja,Zz];try ((have hus:ups ll.length ++ [(ll.length:Int)] = ups (ll.length + 1):=(ups_succ _).symm);(refine Qq (fun H1=>H1 pb = some [.fr 1 (ll.length + 1) (cat cI (ups (ll.length + 1))),.fr 1 0 [],.fr 4 0 []] ∧ H1 nb1 = some (cat cL ll ++ zrP j1 .any)) ⟨by simp [upd,hus],by simp [upd,t3,t7]⟩ fun H2 ⟨u1,u2⟩=>?_))
 | refine Xq (id:=12) Xe mixed [] [] [] (by kernel_rfl) (by kernel_rfl) (by simp [-zg,-zd,↓Qb,↓Qa,go_sem,mk3k,ss3k,c34,Qj c34,zsP c34,c41,Qj c41,zsP c41,u1,u2,t3,zS t3,(show ll.length ≤ 9223372036854775806 by omega),(show 2 * (ll.length + 1) * 24 ≤ 281474976710656 by omega),(show ll.length + 1 ≤ 9223372036854775807 by omega),t5,(show ll.length ≤ ll.length + j1 by omega)]) (by simp [-zg,-zd,↓Qb,↓Qa,go_sem,mk3k,ss3k,c34,Qj c34,zsP c34,c41,Qj c41,zsP c41,u1,u2,t3,zS t3,(show ll.length ≤ 9223372036854775806 by omega),(show 2 * (ll.length + 1) * 24 ≤ 281474976710656 by omega),(show ll.length + 1 ≤ 9223372036854775807 by omega),t5,(show ll.length ≤ ll.length + j1 by omega)]) ?_;simp [-zg,-zd,↓Qb,↓Qa,go_sem,mk3k,ss3k,c34,Qj c34,zsP c34,c41,Qj c41,zsP c41,u1,u2,t3,zS t3,(show ll.length ≤ 9223372036854775806 by omega),(show 2 * (ll.length + 1) * 24 ≤ 281474976710656 by omega),(show ll.length + 1 ≤ 9223372036854775807 by omega),t5,(show ll.length ≤ ll.length + j1 by omega)];try ((refine AW_matL3 7 (ls:=ll) (x:=nth a q.1) (y:=nth a' jr) (z:=0) rfl fun nb2 cp2 j2 hn2 hc2 hj2=>?_);(have n2:¬ nb2 = pb:=(by rintro rfl;simp [upd,t3,zS t3,u1] at hn2));(have e9l:(ixL X q.1 (jr + 1)).length = ll.length + 1:=(by rw [e9];simp));(refine Qq (fun H1=>NIx pb (ixL X q.1 (jr + 1)) (ixL X q.1 (jr + 1)).length [] [] ⟨nb2,cp2,j2,H1⟩) ⟨n2,by rw [e9l];exact hc2,by rw [e9l];exact hj2,by simp [upd,n2,zS n2,t3,zS t3,u1,e9l,Xg],by simp [upd,e9]⟩ fun H3 hT3=>?_))
 | refine Qc (id:=10) Xe [] (by kernel_rfl) ?_;simp [-zg,-zd,↓Qb,↓Qa,go_sem,wrapS (k:=jr) (by omega),e9l]
 | ((obtain ⟨jr,rz⟩:=r);(dsimp only at *);(obtain rfl:jr = a'.length:=by omega);(have e7:=ixL_end (X:=X) (k:=q.1) (by rw [hXa];exact c34));(rw [hXa'] at e7);(rw [e7] at h2));refine Qc (id:=7) Xe [] (by kernel_rfl) ?_;simp [-zg,-zd,↓Qb,↓Qa,go_sem,wrapS (k:=q.1) (by omega),e7]
 | ((obtain ⟨kq,qz⟩:=q);(dsimp only at *);(obtain rfl:kq = a.length:=by omega);(have hxe:ixIk X a.length = ixI X:=(by rw [ixI,hXa]));(rw [hxe] at g2 ⊢));refine Qc (id:=13) Xe [] (by kernel_rfl) ?_;simp [-zg,-zd,↓Qb,↓Qa,go_sem]
 | refine Qc (id:=14) Xe [] (by kernel_rfl) ?_;simp [-zg,-zd,↓Qb,↓Qa,go_sem]
 | ((obtain ⟨i,nb1,cp1,j1,H0⟩:=x);(dsimp only at *);(obtain ⟨t3,t4,t5,t6,t7⟩:=u2);(dsimp only at t3 t4 t5 t6 t7);(have hokL:TriOk X.b.length X.b'.length (ixE X i).l:=ixE_ok hX i u1);(have hbg:=fun h=>ix_big hX u1 h);(have hnx:(ixE X (i + 1)).l = (ixD X i ((ixE X i).l,(ixE X i).e) (nth (ixE X i).l i) X.c.length).1 ∧ (ixE X (i + 1)).e = (ixD X i ((ixE X i).l,(ixE X i).e) (nth (ixE X i).l i) X.c.length).2 ∧ (ixE X (i + 1)).a = (ixE X i).a ++ [mvAc X (nth (ixE X i).l i)]:=⟨rfl,rfl,rfl⟩);(generalize hL:(ixE X i).l = L at *);(generalize hA:(ixE X i).a = A at *);(generalize hE:(ixE X i).e = E at *);(refine Xs pb 2 (all:=[.fr 1 (ixI X).length (cat cI (ups (ixI X).length)),.fr 1 A.length (cat cB A),.fr 4 E.length (cat cT E)]) t6 rfl fun ze ce je qe hce hje=>?_);(dsimp only at qe);(have z1:¬ ze = pb:=(by rintro rfl;rw [t6] at qe;cases qe));(have z2:¬ ze = nb1:=(by rintro rfl;rw [t7] at qe;cases qe));(clear qe);(refine Qq (fun H4=>H4 pb = some [.fr 1 (ixI X).length (cat cI (ups (ixI X).length)),.fr 1 A.length (cat cB A),.sl ze 4 0 E.length ce] ∧ H4 nb1 = some (cat cL L ++ zrP j1 .any) ∧ H4 ze = some (cat cT E ++ zrP je D.any)) ⟨by simp [upd,z1,zS z1],by simp [upd,z2,zS z2,t3,zS t3,t7],by simp [upd]⟩ fun H4 ⟨v8,v7,vz⟩=>?_));refine Qc (id:=16) Xe [74] (by kernel_rfl) ?_;simp [-zg,-zd,↓Qb,↓Qa,go_sem,v8,z1,zS z1];try (refine ⟨fun s16a=>?_,fun s16a=>?_⟩ <;> (try simp [B_iff,B_not] at s16a) <;> try (refine ⟨fun s16b=>?_,fun s16b=>?_⟩ <;> (try simp [B_iff,B_not] at s16b)))
 | ((have hbig:64 < L.length ∨ 2048 < E.length:=(by omega));(have hbd:=zadx (X:=X) (fun k=>hbg hbig k.2)));refine Qc (id:=17) Xe [] (by kernel_rfl) ?_;simp [-zg,-zd,↓Qb,↓Qa,go_sem,hbd]
 | ((have he8:E.length ≤ 2048:=(by omega));(have hl8:L.length ≤ 64:=(by omega));(have hti:=hokL.2 _ (Xl c68));(generalize hrow:nth L i = t at *);(obtain ⟨p,r,f,ht,hp,hq,hf⟩:=id hti);(rw [hXb] at hp);(rw [hXb'] at hq);(have h3:t.length = 3:=(by rw [ht];rfl));(have hne:¬ t = []:=(by rw [ht];simp));(have ht0:nth t 0 = p:=(by rw [ht];rfl));(have ht1:nth t 1 = r:=(by rw [ht];rfl));(have ht2:nth t 2 = f:=(by rw [ht];rfl));(have p2:p.toNat < b.length:=(by omega));(have r2:r.toNat < b'.length:=(by omega));(have hph:mvPh X t = phV f (nth b p.toNat) (nth b' r.toNat):=(by rw [ht,mvPh_v,hXb,hXb']));(have hac:mvAc X t = (decide (f = 1) && nth b' r.toNat):=(by rw [mvAc,ht2,ht1,hXb']));(refine Zh pb 2 (b':=ze) (sz:=4) (m:=E.length) (cp:=ce) (all:=[.fr 1 (ixI X).length (cat cI (ups (ixI X).length)),.fr 1 A.length (cat cB A),.sl ze 4 0 E.length ce]) (cs:=cat cT E ++ zrP je D.any) v8 rfl (zS z1) vz (by omega) (by simp [Qx]) (by simp [Qx];omega) ?_);(refine Qq (fun H5=>H5 pb = some [.fr 1 (ixI X).length (cat cI (ups (ixI X).length)),.fr 1 A.length (cat cB A),.fr 4 E.length (cat cT E)] ∧ H5 nb1 = some (cat cL L ++ zrP j1 .any)) ⟨by simp [upd,z1,zS z1,Zl],by simp [upd,z2,zS z2,t3,zS t3,v7]⟩ fun H5 ⟨w8,w7⟩=>?_));refine Qc (id:=18) Xe [] (by kernel_rfl) ?_;simp [-zg,-zd,↓Qb,↓Qa,go_sem,c68,Qj c68,zsP c68,w7,(show i < L.length + j1 by omega),hrow]
 | refine Qc (id:=19) Xe [] (by kernel_rfl) ?_;simp [-zg,-zd,↓Qb,↓Qa,go_sem,h3,hne,ht2];try ((refine AW_cut (SubK ⟨(upd (upd (upd (upd (upd (upd (upd (upd (upd (fun _=>.any) 2 (.pd [li cI a,li cB b,li cT c])) 3 (.pd [li cI a',li cB b',li cT c'])) 4 (.box [.nil,.nil,.nil])) 5 (.bool false)) 6 (.ptr pb 0)) 7 (.sl nb1 1 0 L.length cp1)) 10 (.int .i64 i)) 11 (li cI t)) 12 (.int .i64 (mvPh X t))),H5⟩) ?_ fun S' hs=>AW_less (cut_get hs) ?_);(rotate_left 1);(refine Xs pb 1 (all:=[.fr 1 (ixI X).length (cat cI (ups (ixI X).length)),.fr 1 A.length (cat cB A),.fr 4 E.length (cat cT E)]) w8 rfl fun ya ca ja qa hca hja=>?_);(dsimp only at qa);(have y1:¬ ya = pb:=(by rintro rfl;rw [w8] at qa;cases qa));(have y2:¬ ya = nb1:=(by rintro rfl;rw [w7] at qa;cases qa));(clear qa);(refine Qq (fun H6=>H6 pb = some [.fr 1 (ixI X).length (cat cI (ups (ixI X).length)),.sl ya 1 0 A.length ca,.fr 4 E.length (cat cT E)] ∧ H6 nb1 = some (cat cL L ++ zrP j1 .any) ∧ H6 ya = some (cat cB A ++ zrP ja D.any)) ⟨by simp [upd,y1,zS y1],by simp [upd,y2,zS y2,t3,zS t3,w7],by simp [upd]⟩ fun H6 ⟨d8,d7,da⟩=>?_);(refine AW_cut (CutN (fun H7=>NIx pb L (ixI X).length (A ++ [mvAc X t]) E ⟨nb1,cp1,j1,H7⟩) (upd (upd (upd (upd (upd (upd (upd (upd (upd (fun _=>.any) 2 (.pd [li cI a,li cB b,li cT c])) 3 (.pd [li cI a',li cB b',li cT c'])) 4 (.box [.nil,.nil,.nil])) 5 (.bool false)) 6 (.ptr pb 0)) 7 (.sl nb1 1 0 L.length cp1)) 10 (.int .i64 i)) 11 (li cI t)) 12 (.int .i64 (mvPh X t)))) ?_ fun S' hs=>?_);(rotate_left 1);(obtain ⟨H7,hT7,hs⟩:=hs);(refine AW_less hs ?_);(rotate_left 1);(rcases (show (nth b p.toNat = true ∧ f = 0) ∨ (nth b p.toNat = false ∧ f = 0) ∨ (nth b' r.toNat = true ∧ f = 1) ∨ (nth b' r.toNat = false ∧ f = 1) by rcases hf with q | q <;> cases nth b p.toNat <;> cases nth b' r.toNat <;> simp [q]) with ⟨hy,rfl⟩ | ⟨hy,rfl⟩ | ⟨hy,rfl⟩ | ⟨hy,rfl⟩);(rotate_left 4);(rcases (show (nth b p.toNat = true ∧ f = 0) ∨ (nth b p.toNat = false ∧ f = 0) ∨ (nth b' r.toNat = true ∧ f = 1) ∨ (nth b' r.toNat = false ∧ f = 1) by rcases hf with q | q <;> cases nth b p.toNat <;> cases nth b' r.toNat <;> simp [q]) with ⟨hy,rfl⟩ | ⟨hy,rfl⟩ | ⟨hy,rfl⟩ | ⟨hy,rfl⟩))
 | refine Xr (id:=20) Xe mixed [90] [] (by kernel_rfl) (by kernel_rfl) (by simp [-zg,-zd,↓Qb,↓Qa,go_sem,h3,hne,ht0,hp.1,hp.2,p2,Qj p2,zsP p2,hy]) ?_;simp [-zg,-zd,↓Qb,↓Qa,go_sem,h3,hne,ht0,hp.1,hp.2,p2,Qj p2,zsP p2,hy];try (refine ⟨fun s20a=>?_,fun s20a=>?_⟩ <;> (try simp [B_iff,B_not] at s20a) <;> try (refine ⟨fun s20b=>?_,fun s20b=>?_⟩ <;> (try simp [B_iff,B_not] at s20b)))
 | refine Qc (id:=21) Xe [] (by kernel_rfl) ?_;simp [-zg,-zd,↓Qb,↓Qa,go_sem]
 | refine Xr (id:=22) Xe mixed [101] [] (by kernel_rfl) (by kernel_rfl) (by simp [-zg,-zd,↓Qb,↓Qa,go_sem,h3,hne,ht1,hq.1,hq.2,r2,Qj r2,zsP r2,hy]) ?_;simp [-zg,-zd,↓Qb,↓Qa,go_sem,h3,hne,ht1,hq.1,hq.2,r2,Qj r2,zsP r2,hy];try (refine ⟨fun s22a=>?_,fun s22a=>?_⟩ <;> (try simp [B_iff,B_not] at s22a) <;> try (refine ⟨fun s22b=>?_,fun s22b=>?_⟩ <;> (try simp [B_iff,B_not] at s22b)))
 | refine Qc (id:=23) Xe [] (by kernel_rfl) ?_;simp [-zg,-zd,↓Qb,↓Qa,go_sem]
 | refine Xq (id:=24) Xe mixed [(pb,[.fr 1 (ixI X).length (cat cI (ups (ixI X).length)),.sl ya 1 0 A.length ca,.fr 4 E.length (cat cT E)])] [116] [] (by kernel_rfl) (by kernel_rfl) (by simp [-zg,-zd,↓Qb,↓Qa,go_sem,d8,da,h3,hne,ht1,ht2,hq.1,hq.2,r2,Qj r2,zsP r2,hy,zahq,y1,zS y1,(Zg (f:=cB) A (zrP ja D.any) (n:=A.length) rfl),(show A.length ≤ 9223372036854775806 by omega),(show 2 * (A.length + 1) * 1 ≤ 281474976710656 by omega),(show 2 * (A.length + 1) ≤ 281474976710656 by omega),(show A.length + 1 ≤ 9223372036854775807 by omega),(show A.length ≤ A.length + ja by omega),(show ca ≤ A.length + ja by omega)]) (by simp [-zg,-zd,↓Qb,↓Qa,go_sem,d8,da,h3,hne,ht1,ht2,hq.1,hq.2,r2,Qj r2,zsP r2,hy,zahq,y1,zS y1,(Zg (f:=cB) A (zrP ja D.any) (n:=A.length) rfl),(show A.length ≤ 9223372036854775806 by omega),(show 2 * (A.length + 1) * 1 ≤ 281474976710656 by omega),(show 2 * (A.length + 1) ≤ 281474976710656 by omega),(show A.length + 1 ≤ 9223372036854775807 by omega),(show A.length ≤ A.length + ja by omega),(show ca ≤ A.length + ja by omega)]) ?_;simp [-zg,-zd,↓Qb,↓Qa,go_sem,d8,da,h3,hne,ht1,ht2,hq.1,hq.2,r2,Qj r2,zsP r2,hy,zahq,y1,zS y1,(Zg (f:=cB) A (zrP ja D.any) (n:=A.length) rfl),(show A.length ≤ 9223372036854775806 by omega),(show 2 * (A.length + 1) * 1 ≤ 281474976710656 by omega),(show 2 * (A.length + 1) ≤ 281474976710656 by omega),(show A.length + 1 ≤ 9223372036854775807 by omega),(show A.length ≤ A.length + ja by omega),(show ca ≤ A.length + ja by omega)];try (refine ⟨fun s24a=>?_,fun s24a=>?_⟩ <;> (try simp [B_iff,B_not] at s24a) <;> try (refine ⟨fun s24b=>?_,fun s24b=>?_⟩ <;> (try simp [B_iff,B_not] at s24b)))
 | refine Qc (id:=25) Xe [] (by kernel_rfl) ?_;simp [-zg,-zd,↓Qb,↓Qa,go_sem]
 | refine Qc (id:=26) Xe [] (by kernel_rfl) ?_;simp [-zg,-zd,↓Qb,↓Qa,go_sem]
 | refine Xr (id:=28) Xe mixed [] [] (by kernel_rfl) (by kernel_rfl) (by simp [-zg,-zd,↓Qb,↓Qa,go_sem,c132,Qj c132,zsP c132,h3,hne,ht0]) ?_;simp [-zg,-zd,↓Qb,↓Qa,go_sem,c132,Qj c132,zsP c132,h3,hne,ht0]
 | refine Qc (id:=29) Xe [] (by kernel_rfl) ?_;simp [-zg,-zd,↓Qb,↓Qa,go_sem]
 | refine Qc (id:=30) Xe [] (by kernel_rfl) ?_;simp [-zg,-zd,↓Qb,↓Qa,go_sem]
 | refine Xr (id:=32) Xe mixed [] [152] (by kernel_rfl) (by kernel_rfl) (by simp [-zg,-zd,↓Qb,↓Qa,go_sem,c132,Qj c132,zsP c132,c149,Qj c149,zsP c149]) ?_;simp [-zg,-zd,↓Qb,↓Qa,go_sem,c132,Qj c132,zsP c132,c149,Qj c149,zsP c149]
 | refine Xr (id:=33) Xe mixed [177] [] (by kernel_rfl) (by kernel_rfl) (by simp [-zg,-zd,↓Qb,↓Qa,go_sem,c132,Qj c132,zsP c132,c149,Qj c149,zsP c149,h3,hne,ht1]) ?_;simp [-zg,-zd,↓Qb,↓Qa,go_sem,c132,Qj c132,zsP c132,c149,Qj c149,zsP c149,h3,hne,ht1];try (refine ⟨fun s33a=>?_,fun s33a=>?_⟩ <;> (try simp [B_iff,B_not] at s33a) <;> try (refine ⟨fun s33b=>?_,fun s33b=>?_⟩ <;> (try simp [B_iff,B_not] at s33b)))
 | refine Qc (id:=34) Xe [] (by kernel_rfl) ?_;simp [-zg,-zd,↓Qb,↓Qa,go_sem]
 | ((obtain ⟨zj,nb2,cp2,j2,H8⟩:=z);(dsimp only at *);(obtain ⟨k3,k4,k5,k6,k7⟩:=w2);(dsimp only at k3 k4 k5 k6 k7);(have hon:mvOn t (nth c y.1) (nth c' zj) = true:=(by simp_all [mvOn,fitE]));(have hst:=ixDE_yes (X:=X) (j:=zj) (by rw [hXc'];exact c149) i (L,E) (t:=t) (k:=y.1) (by rw [hXc,hXc'];exact hon));(rw [hXc,hXc'] at hst);(have hokR:=(ixDE_ok (j:=zj) (i:=i) (k:=y.1) (s:=(L,E)) hX hti hokL (by rw [hXc];exact c132)).len hX.1.2.1 hX.2.2.1);(have helR:=ixDE_elen (X:=X) (i:=i) (k:=y.1) (j:=zj) (s:=(L,E)) (t:=t) (by rw [hXc];exact c132) (by rw [hXc'];omega) (by rw [hXc];exact hcl) (by rw [hXc'];exact hcl'));(dsimp only at helR);(generalize hRd:ixDE X i (L,E) t y.1 zj = R at *);(refine Jz 7 (b:=nb2) (sz:=1) (m:=R.1.length) (all:=cat cL R.1 ++ zrP j2 D.any) rfl k7 (by omega) (by simp [Qx]) (by simp [Qx];omega) ?_);(simp only [Nat.mul_one,Xy]));refine Xr (id:=35) Xe mixed [] [] (by kernel_rfl) (by kernel_rfl) (by simp [-zg,-zd,↓Qb,↓Qa,go_sem,mk3k,ss3k,c132,Qj c132,zsP c132,c149,Qj c149,zsP c149,(show R.1.length ≤ 100000 by omega)]) ?_;simp [-zg,-zd,↓Qb,↓Qa,go_sem,mk3k,ss3k,c132,Qj c132,zsP c132,c149,Qj c149,zsP c149,(show R.1.length ≤ 100000 by omega)];try ((have hl3:(ixDE X i (L,E) t y.1 (zj + 1)).1 = addT R.1 [(nth c y.1).2.2.2,(nth c' zj).2.2.2,mvPh X t]:=(by rw [hst];rfl));(have he3:(ixDE X i (L,E) t y.1 (zj + 1)).2 = R.2 ++ [((i:Int),bitsD .or .i64 (nth c y.1).2.1 (nth c' zj).2.1,bitsD .or .i64 (nth c y.1).2.2.1 (nth c' zj).2.2.1,((addT R.1 [(nth c y.1).2.2.2,(nth c' zj).2.2.2,mvPh X t]).idxOf [(nth c y.1).2.2.2,(nth c' zj).2.2.2,mvPh X t]:Int))]:=(by rw [hst];rfl));(generalize hix:List.idxOf [(nth c y.1).2.2.2,(nth c' zj).2.2.2,mvPh X t] (addT R.1 [(nth c y.1).2.2.2,(nth c' zj).2.2.2,mvPh X t]) = ix at *);(generalize hR3:addT R.1 [(nth c y.1).2.2.2,(nth c' zj).2.2.2,mvPh X t] = R3 at *);(refine Zk 7 rfl fun nb3 cp3 j3 hn3 hc3 hj3=>?_);(have n3:¬ nb3 = pb:=(by rintro rfl;simp [upd,k3,zS k3,k6] at hn3));(refine Qq (fun H1=>H1 pb = some [.fr 1 (ixI X).length (cat cI (ups (ixI X).length)),.fr 1 (A ++ [mvAc X t]).length (cat cB (A ++ [mvAc X t])),.fr 4 R.2.length (cat cT R.2)] ∧ H1 nb3 = some (cat cL R3 ++ zrP j3 .any)) ⟨by simp [upd,n3,zS n3,k3,zS k3,k6],by simp [upd]⟩ fun H1 ⟨m8,m7⟩=>?_))
 | refine Qc (id:=36) Xe [] (by kernel_rfl) ?_;simp [-zg,-zd,↓Qb,↓Qa,go_sem,m8,(show R.2.length ≤ 9223372036854775806 by omega),(show 2 * (R.2.length + 1) * 32 ≤ 281474976710656 by omega),(show R.2.length + 1 ≤ 9223372036854775807 by omega),snoc_cTI,mk44i,ss44i];try ((refine Qq (fun H9=>NIx pb (ixDE X i (L,E) t y.1 (zj + 1)).1 (ixI X).length (A ++ [mvAc X t]) (ixDE X i (L,E) t y.1 (zj + 1)).2 ⟨nb3,cp3,j3,H9⟩) ⟨n3,by rw [hl3];exact (show R3.length ≤ cp3 by omega),by rw [hl3];exact (show cp3 ≤ R3.length + j3 by omega),by rw [he3];simp [upd],by rw [hl3];simp [upd,n3,zS n3,m7]⟩ fun H9 hT9=>?_))
 | refine Qc (id:=31) Xe [] (by kernel_rfl) ?_;simp [-zg,-zd,↓Qb,↓Qa,go_sem,wrapS (k:=zj) (by omega),hl3]
 | refine Qc (id:=31) Xe [] (by kernel_rfl) ?_;simp [-zg,-zd,↓Qb,↓Qa,go_sem,wrapS (k:=z.1) (by omega)]
 | ((obtain ⟨zj,zm⟩:=z);(dsimp only at *);(obtain rfl:zj = c'.length:=(by omega));(have e27:=ixDE_end (X:=X) (k:=y.1) (by rw [hXc];exact c132) i (L,E) t);(rw [hXc'] at e27);(rw [e27] at w2));refine Qc (id:=27) Xe [] (by kernel_rfl) ?_;simp [-zg,-zd,↓Qb,↓Qa,go_sem,wrapS (k:=y.1) (by omega),e27]
 | refine Qc (id:=27) Xe [] (by kernel_rfl) ?_;simp [-zg,-zd,↓Qb,↓Qa,go_sem,wrapS (k:=y.1) (by omega)]
 | ((obtain ⟨yk,ym⟩:=y);(dsimp only at *);(obtain rfl:yk = c.length:=by omega);(rw [hXc] at hnx);(obtain ⟨x1,x2,x3⟩:=hnx);(have hM:NIx pb (ixE X (i + 1)).l (ixI X).length (ixE X (i + 1)).a (ixE X (i + 1)).e ym:=(by rw [x1,x2,x3];exact v2)));refine Qc (id:=15) Xe [] (by kernel_rfl) ?_;simp [-zg,-zd,↓Qb,↓Qa,go_sem,wrapS (k:=i) (by omega),x1]
 | ((obtain ⟨i,nb1,cp1,j1,H0⟩:=x);(dsimp only at *);(obtain ⟨t3,t4,t5,t6,t7⟩:=u2);(dsimp only at t3 t4 t5 t6 t7);(have hfin:(ixE X i).l.length ≤ i:=(by omega)));refine Qc (id:=37) Xe [] (by kernel_rfl) ?_;simp [-zg,-zd,↓Qb,↓Qa,go_sem]
 | ((have hlz:(ixE X i).l.length = 0:=(by first | omega | (rw [c212];rfl) | simp_all));(have hI:ixI X = []:=(by obtain ⟨w,hw⟩:=ix_pref (X:=X) i;have hw2:=List.length_eq_zero_iff.1 hlz;rw [hw] at hw2;exact (List.append_eq_nil_iff.1 hw2).1));(have hz:=ix_fin0 hX u1 hfin hI));refine Qc (id:=38) Xe [] (by kernel_rfl) ?_;simp [-zg,-zd,↓Qb,↓Qa,go_sem,t6,hz.2.1,hz.2.2.1,Xg];try ((refine Qq (fun H5=>H5 pb = some [.fr 1 (ixI X).length (cat cI (ups (ixI X).length)),.fr 1 (ixF X).a.length (cat cB (ixF X).a),.fr 4 (ixF X).e.length (cat cT (ixF X).e)]) (by rw [hz.2.2.2.1];simp [upd,hz.2.1,hz.2.2.1,Xg,Zf,cB]) fun H5 m8=>?_))
 | ((first | (have m9:=m8) | (have hI:¬ ixI X = []:=(fun h=>absurd (ix_fin0 hX u1 hfin h).1 (by first | exact c212 | (intro h2;rw [h2] at c212;simp at c212) | simp_all));have hz:=ix_fin1 hX u1 hfin hI;refine Qq (fun H5=>H5 pb = some [.fr 1 (ixI X).length (cat cI (ups (ixI X).length)),.fr 1 (ixF X).a.length (cat cB (ixF X).a),.fr 4 (ixF X).e.length (cat cT (ixF X).e)]) (by rw [hz.2];exact t6) fun H5 m8=>?_));(have hsm:=ixF_small hX);(have hul:=Zz (ixI X).length);(have hGd:AutOk (ups (ixI X).length) (ixF X).a.length (ixF X).e = Zd X:=rfl);(refine Xs pb 0 (all:=[.fr 1 (ixI X).length (cat cI (ups (ixI X).length)),.fr 1 (ixF X).a.length (cat cB (ixF X).a),.fr 4 (ixF X).e.length (cat cT (ixF X).e)]) m8 rfl fun xi ci ji qi hci hji=>?_);(dsimp only at qi);(have x1:¬ xi = pb:=(by rintro rfl;rw [m8] at qi;cases qi));(clear qi);(refine Qq (fun H6=>H6 pb = some [.sl xi 1 0 (ixI X).length ci,.fr 1 (ixF X).a.length (cat cB (ixF X).a),.fr 4 (ixF X).e.length (cat cT (ixF X).e)] ∧ H6 xi = some (cat cI (ups (ixI X).length) ++ zrP ji D.any)) ⟨by simp [upd,x1,zS x1],by simp [upd]⟩ fun H6 ⟨a8,ax⟩=>?_);(refine Xs pb 1 (all:=[.sl xi 1 0 (ixI X).length ci,.fr 1 (ixF X).a.length (cat cB (ixF X).a),.fr 4 (ixF X).e.length (cat cT (ixF X).e)]) a8 rfl fun ya ca ja qa hca hja=>?_);(dsimp only at qa);(have y1:¬ ya = pb:=(by rintro rfl;rw [a8] at qa;cases qa));(have y2:¬ ya = xi:=(by rintro rfl;rw [ax] at qa;cases qa));(clear qa);(refine Qq (fun H6=>H6 pb = some [.sl xi 1 0 (ixI X).length ci,.sl ya 1 0 (ixF X).a.length ca,.fr 4 (ixF X).e.length (cat cT (ixF X).e)] ∧ H6 xi = some (cat cI (ups (ixI X).length) ++ zrP ji D.any) ∧ H6 ya = some (cat cB (ixF X).a ++ zrP ja D.any)) ⟨by simp [upd,y1,zS y1],by simp [upd,y2,zS y2,x1,zS x1,ax],by simp [upd]⟩ fun H6 ⟨b8,bx,ba⟩=>?_);(refine Xs pb 2 (all:=[.sl xi 1 0 (ixI X).length ci,.sl ya 1 0 (ixF X).a.length ca,.fr 4 (ixF X).e.length (cat cT (ixF X).e)]) b8 rfl fun ze ce je qe hce hje=>?_);(dsimp only at qe);(have e1:¬ ze = pb:=(by rintro rfl;rw [b8] at qe;cases qe));(have e2:¬ ze = xi:=(by rintro rfl;rw [bx] at qe;cases qe));(have e3:¬ ze = ya:=(by rintro rfl;rw [ba] at qe;cases qe));(clear qe);(refine Qq (fun H6=>H6 pb = some [.sl xi 1 0 (ixI X).length ci,.sl ya 1 0 (ixF X).a.length ca,.sl ze 4 0 (ixF X).e.length ce] ∧ H6 xi = some (cat cI (ups (ixI X).length) ++ zrP ji D.any) ∧ H6 ya = some (cat cB (ixF X).a ++ zrP ja D.any) ∧ H6 ze = some (cat cT (ixF X).e ++ zrP je D.any)) ⟨by simp [upd,e1,zS e1],by simp [upd,e2,zS e2,x1,zS x1,bx],by simp [upd,e3,zS e3,y1,zS y1,ba],by simp [upd]⟩ fun H6 ⟨l8,lx,la,le⟩=>?_));refine Qc (id:=39) Xe [] (by kernel_rfl) ?_;simp [-zg,-zd,↓Qb,↓Qa,go_sem,l8,lx,la,le,x1,zS x1,y1,zS y1,y2,zS y2,e1,zS e1,e2,zS e2,e3,zS e3,hul,hsm,(Zg (f:=cI) (ups (ixI X).length) (zrP ji D.any) (n:=(ixI X).length) (Zz _).symm),(Zg (f:=cB) (ixF X).a (zrP ja D.any) (n:=(ixF X).a.length) rfl),(Zl (f:=cT) (ixF X).e (zrP je D.any)),(show (ixI X).length ≤ (ixI X).length + ji by omega),(show (ixF X).a.length ≤ (ixF X).a.length + ja by omega),(show (ixF X).e.length * 4 ≤ (ixF X).e.length * 4 + je by omega),hGd]
 | ((have hbd:=zadx (X:=X) (fun k=>absurd k.2 (by simp_all))));refine Qc (id:=40) Xe [] (by kernel_rfl) ?_;simp [-zg,-zd,↓Qb,↓Qa,go_sem,hbd]
 | ((have hgd:Zd X:=(by simp_all));(have hres:=ixRes2_yes hX hgd);(refine Zh pb 2 (b':=ze) (sz:=4) (m:=(ixF X).e.length) (cp:=ce) (all:=[.sl xi 1 0 (ixI X).length ci,.sl ya 1 0 (ixF X).a.length ca,.sl ze 4 0 (ixF X).e.length ce]) (cs:=cat cT (ixF X).e ++ zrP je D.any) l8 rfl (zS e1) le (by omega) (by simp [Qx]) (by simp [Qx];omega) ?_);(refine Qq (fun H6=>H6 pb = some [.sl xi 1 0 (ixI X).length ci,.sl ya 1 0 (ixF X).a.length ca,.fr 4 (ixF X).e.length (cat cT (ixF X).e)] ∧ H6 xi = some (cat cI (ups (ixI X).length) ++ zrP ji D.any) ∧ H6 ya = some (cat cB (ixF X).a ++ zrP ja D.any)) ⟨by simp [upd,e1,zS e1,Zl],by simp [upd,e2,zS e2,x1,zS x1,lx],by simp [upd,e3,zS e3,y1,zS y1,la]⟩ fun H6 ⟨s8,sx,sa⟩=>?_);(refine Zh pb 1 (b':=ya) (sz:=1) (m:=(ixF X).a.length) (cp:=ca) (all:=[.sl xi 1 0 (ixI X).length ci,.sl ya 1 0 (ixF X).a.length ca,.fr 4 (ixF X).e.length (cat cT (ixF X).e)]) (cs:=cat cB (ixF X).a ++ zrP ja D.any) s8 rfl (zS y1) sa (by omega) (by simp [Qx]) (by simp [Qx];omega) ?_);(refine Qq (fun H6=>H6 pb = some [.sl xi 1 0 (ixI X).length ci,.fr 1 (ixF X).a.length (cat cB (ixF X).a),.fr 4 (ixF X).e.length (cat cT (ixF X).e)] ∧ H6 xi = some (cat cI (ups (ixI X).length) ++ zrP ji D.any)) ⟨by simp [upd,y1,zS y1,Xy],by simp [upd,y2,zS y2,x1,zS x1,sx]⟩ fun H6 ⟨o8,ox⟩=>?_);(refine Zh pb 0 (b':=xi) (sz:=1) (m:=(ixI X).length) (cp:=ci) (all:=[.sl xi 1 0 (ixI X).length ci,.fr 1 (ixF X).a.length (cat cB (ixF X).a),.fr 4 (ixF X).e.length (cat cT (ixF X).e)]) (cs:=cat cI (ups (ixI X).length) ++ zrP ji D.any) o8 rfl (zS x1) ox (by omega) (by simp [Qx,Zz]) (by simp [Qx,Zz];omega) ?_);(refine Qq (fun H6=>H6 pb = some [.fr 1 (ixI X).length (cat cI (ups (ixI X).length)),.fr 1 (ixF X).a.length (cat cB (ixF X).a),.fr 4 (ixF X).e.length (cat cT (ixF X).e)]) (by simp [upd,x1,zS x1,(Zg (f:=cI) (ups (ixI X).length) (zrP ji D.any) (n:=(ixI X).length) (Zz _).symm)]) fun H6 r8=>?_));refine Qc (id:=41) Xe [] (by kernel_rfl) ?_;simp [-zg,-zd,↓Qb,↓Qa,go_sem,r8,hres,fr,hul]
 | refine Qd (c:=.tmp 26) ?_;simp [-zg,-zd,↓Qb,↓Qa,go_sem];try first | (refine ⟨?_,?_⟩ <;> refine zA ?_) | (refine ⟨fun c26=>?_,fun c26=>?_⟩ <;> (try simp [B_iff,B_not] at c26))
 | refine Qd (c:=.tmp 34) ?_;simp [-zg,-zd,↓Qb,↓Qa,go_sem];try first | (refine ⟨?_,?_⟩ <;> refine zA ?_) | (refine ⟨fun c34=>?_,fun c34=>?_⟩ <;> (try simp [B_iff,B_not] at c34))
 | refine Qd (c:=.tmp 41) ?_;simp [-zg,-zd,↓Qb,↓Qa,go_sem];try first | (refine ⟨?_,?_⟩ <;> refine zA ?_) | (refine ⟨fun c41=>?_,fun c41=>?_⟩ <;> (try simp [B_iff,B_not] at c41))
 | refine Qd (c:=.tmp 68) ?_;simp [-zg,-zd,↓Qb,↓Qa,go_sem];try first | (refine ⟨?_,?_⟩ <;> refine zA ?_) | (refine ⟨fun c68=>?_,fun c68=>?_⟩ <;> (try simp [B_iff,B_not] at c68))
 | refine Qd (c:=.tmp 79) ?_;simp [-zg,-zd,↓Qb,↓Qa,go_sem];try first | (refine ⟨?_,?_⟩ <;> refine zA ?_) | (refine ⟨fun c79=>?_,fun c79=>?_⟩ <;> (try simp [B_iff,B_not] at c79))
 | refine Qd (c:=.tmp 98) ?_;simp [-zg,-zd,↓Qb,↓Qa,go_sem];try first | (refine ⟨?_,?_⟩ <;> refine zA ?_) | (refine ⟨fun c98=>?_,fun c98=>?_⟩ <;> (try simp [B_iff,B_not] at c98))
 | refine Qd (c:=.tmp 109) ?_;simp [-zg,-zd,↓Qb,↓Qa,go_sem];try first | (refine ⟨?_,?_⟩ <;> refine zA ?_) | (refine ⟨fun c109=>?_,fun c109=>?_⟩ <;> (try simp [B_iff,B_not] at c109))
 | refine Qd (c:=.tmp 132) ?_;simp [-zg,-zd,↓Qb,↓Qa,go_sem];try first | (refine ⟨?_,?_⟩ <;> refine zA ?_) | (refine ⟨fun c132=>?_,fun c132=>?_⟩ <;> (try simp [B_iff,B_not] at c132))
 | refine Qd (c:=.tmp 144) ?_;simp [-zg,-zd,↓Qb,↓Qa,go_sem];try first | (refine ⟨?_,?_⟩ <;> refine zA ?_) | (refine ⟨fun c144=>?_,fun c144=>?_⟩ <;> (try simp [B_iff,B_not] at c144))
 | refine Qd (c:=.tmp 149) ?_;simp [-zg,-zd,↓Qb,↓Qa,go_sem];try first | (refine ⟨?_,?_⟩ <;> refine zA ?_) | (refine ⟨fun c149=>?_,fun c149=>?_⟩ <;> (try simp [B_iff,B_not] at c149))
 | refine Qd (c:=.tmp 180) ?_;simp [-zg,-zd,↓Qb,↓Qa,go_sem];try first | (refine ⟨?_,?_⟩ <;> refine zA ?_) | (refine ⟨fun c180=>?_,fun c180=>?_⟩ <;> (try simp [B_iff,B_not] at c180))
 | refine Qd (c:=.tmp 212) ?_;simp [-zg,-zd,↓Qb,↓Qa,go_sem];try first | (refine ⟨?_,?_⟩ <;> refine zA ?_) | (refine ⟨fun c212=>?_,fun c212=>?_⟩ <;> (try simp [B_iff,B_not] at c212))
 | refine Qd (c:=.tmp 217) ?_;simp [-zg,-zd,↓Qb,↓Qa,go_sem];try first | (refine ⟨?_,?_⟩ <;> refine zA ?_) | (refine ⟨fun c217=>?_,fun c217=>?_⟩ <;> (try simp [B_iff,B_not] at c217))
 | (refine Qe (id:=0) (Qz (ι:=Nat × NX) (fun q:Nat × NX=>⟨(upd (upd (upd (upd (upd (upd (upd (fun _=>.any) 2 (.pd [li cI a,li cB b,li cT c])) 3 (.pd [li cI a',li cB b',li cT c'])) 4 (.box [.nil,.nil,.nil])) 5 (.bool false)) 6 (.ptr pb 0)) 7 (.sl q.2.nb 1 0 (ixIk X q.1).length q.2.cp)) 8 (.int .i64 q.1)),q.2.H⟩) (fun q=>q.1 ≤ a.length ∧ NIx pb (ixIk X q.1) (ixIk X q.1).length [] [] q.2) (fun q=>a.length - q.1) ((0,⟨nb,cp,j,H1⟩)) ?_ ?_ ?_);exact ⟨Nat.zero_le _,hT⟩;((repeat' (first | exact Qg (by assumption) | exact Qi | refine Qf ?_ ?_ | refine Qh ?_)) <;> simp [-zg,-zd,↓Qb,↓Qa,go_sem,ixIk_zero,List.length_nil]);rintro q ⟨g1,g2⟩)
 | (refine ⟨(q.1 + 1,rz),⟨by dsimp only;omega,h2⟩,by first | omega | (simp;done) | (simp;omega),?_⟩;((repeat' (first | exact Qg (by assumption) | exact Qi | refine Qf ?_ ?_ | refine Qh ?_)) <;> simp [-zg,-zd,↓Qb,↓Qa,go_sem,e7]))
 | (refine Qe (id:=2) (Qz (ι:=Nat × NX) (fun r:Nat × NX=>⟨(upd (upd (upd (upd (upd (upd (upd (upd (fun _=>.any) 2 (.pd [li cI a,li cB b,li cT c])) 3 (.pd [li cI a',li cB b',li cT c'])) 4 (.box [.nil,.nil,.nil])) 5 (.bool false)) 6 (.ptr pb 0)) 7 (.sl r.2.nb 1 0 (ixL X q.1 r.1).length r.2.cp)) 8 (.int .i64 q.1)) 9 (.int .i64 r.1)),r.2.H⟩) (fun r=>r.1 ≤ a'.length ∧ NIx pb (ixL X q.1 r.1) (ixL X q.1 r.1).length [] [] r.2) (fun r=>a'.length - r.1) ((0,q.2)) ?_ ?_ ?_);exact ⟨Nat.zero_le _,by rw [ixL_zero];exact g2⟩;((repeat' (first | exact Qg (by assumption) | exact Qi | refine Qf ?_ ?_ | refine Qh ?_)) <;> simp [-zg,-zd,↓Qb,↓Qa,go_sem,ixL_zero]);rintro r ⟨h1,h2⟩)
 | (refine ⟨(jr + 1,⟨nb2,cp2,j2,H3⟩),⟨by dsimp only;omega,hT3⟩,by first | omega | (simp;done) | (simp;omega),?_⟩;((repeat' (first | exact Qg (by assumption) | exact Qi | refine Qf ?_ ?_ | refine Qh ?_)) <;> simp [-zg,-zd,↓Qb,↓Qa,go_sem,e9l]))
 | (refine Qe (id:=4) (Qz (ι:=Nat × NX) (fun x:Nat × NX=>⟨(upd (upd (upd (upd (upd (upd (upd (fun _=>.any) 2 (.pd [li cI a,li cB b,li cT c])) 3 (.pd [li cI a',li cB b',li cT c'])) 4 (.box [.nil,.nil,.nil])) 5 (.bool false)) 6 (.ptr pb 0)) 7 (.sl x.2.nb 1 0 (ixE X x.1).l.length x.2.cp)) 10 (.int .i64 x.1)),x.2.H⟩) (fun x=>IxUp X x.1 ∧ NIx pb (ixE X x.1).l (ixI X).length (ixE X x.1).a (ixE X x.1).e x.2) (fun x=>8193 - x.1) ((0,qz)) ?_ ?_ ?_);exact ⟨.zero X,g2⟩;((repeat' (first | exact Qg (by assumption) | exact Qi | refine Qf ?_ ?_ | refine Qh ?_)) <;> simp [-zg,-zd,↓Qb,↓Qa,go_sem,ixE0l]);rintro x ⟨u1,u2⟩;have hle:=u1.le hX;have hal2:=zaly X x.1)
 | (refine ⟨(i + 1,ym),⟨u1.succ (by rw [hL];exact c68),hM⟩,by first | omega | (simp;done) | (simp;omega),?_⟩;((repeat' (first | exact Qg (by assumption) | exact Qi | refine Qf ?_ ?_ | refine Qh ?_)) <;> simp [-zg,-zd,↓Qb,↓Qa,go_sem,x1]))
 | (refine Qe (id:=6) (Qz (ι:=Nat × NX) (fun y:Nat × NX=>⟨(upd (upd (upd (upd (upd (upd (upd (upd (upd (upd (fun _=>.any) 2 (.pd [li cI a,li cB b,li cT c])) 3 (.pd [li cI a',li cB b',li cT c'])) 4 (.box [.nil,.nil,.nil])) 5 (.bool false)) 6 (.ptr pb 0)) 7 (.sl y.2.nb 1 0 (ixD X i (L,E) t y.1).1.length y.2.cp)) 10 (.int .i64 i)) 11 (li cI t)) 12 (.int .i64 (mvPh X t))) 13 (.int .i64 y.1)),y.2.H⟩) (fun y=>y.1 ≤ c.length ∧ NIx pb (ixD X i (L,E) t y.1).1 (ixI X).length (A ++ [mvAc X t]) (ixD X i (L,E) t y.1).2 y.2) (fun y=>c.length - y.1) ((0,⟨nb1,cp1,j1,H7⟩)) ?_ ?_ ?_);exact ⟨Nat.zero_le _,hT7⟩;((repeat' (first | exact Qg (by assumption) | exact Qi | refine Qf ?_ ?_ | refine Qh ?_)) <;> simp [-zg,-zd,↓Qb,↓Qa,go_sem,ixD_zero,h3]);rintro y ⟨v1,v2⟩)
 | (refine ⟨(y.1 + 1,zm),⟨by dsimp only;omega,w2⟩,by first | omega | (simp;done) | (simp;omega),?_⟩;((repeat' (first | exact Qg (by assumption) | exact Qi | refine Qf ?_ ?_ | refine Qh ?_)) <;> simp [-zg,-zd,↓Qb,↓Qa,go_sem,e27,h3]))
 | (refine Qe (id:=8) (Qz (ι:=Nat × NX) (fun z:Nat × NX=>⟨(upd (upd (upd (upd (upd (upd (upd (upd (upd (upd (upd (fun _=>.any) 2 (.pd [li cI a,li cB b,li cT c])) 3 (.pd [li cI a',li cB b',li cT c'])) 4 (.box [.nil,.nil,.nil])) 5 (.bool false)) 6 (.ptr pb 0)) 7 (.sl z.2.nb 1 0 (ixDE X i (L,E) t y.1 z.1).1.length z.2.cp)) 10 (.int .i64 i)) 11 (li cI t)) 12 (.int .i64 (mvPh X t))) 13 (.int .i64 y.1)) 14 (.int .i64 z.1)),z.2.H⟩) (fun z=>z.1 ≤ c'.length ∧ NIx pb (ixDE X i (L,E) t y.1 z.1).1 (ixI X).length (A ++ [mvAc X t]) (ixDE X i (L,E) t y.1 z.1).2 z.2) (fun z=>c'.length - z.1) ((0,y.2)) ?_ ?_ ?_);exact ⟨Nat.zero_le _,by rw [ixDE_zero];exact v2⟩;((repeat' (first | exact Qg (by assumption) | exact Qi | refine Qf ?_ ?_ | refine Qh ?_)) <;> simp [-zg,-zd,↓Qb,↓Qa,go_sem,ixDE_zero,h3]);rintro z ⟨w1,w2⟩)
 | (refine ⟨(zj + 1,⟨nb3,cp3,j3,H9⟩),⟨by dsimp only;omega,hT9⟩,by first | omega | (simp;done) | (simp;omega),?_⟩;((repeat' (first | exact Qg (by assumption) | exact Qi | refine Qf ?_ ?_ | refine Qh ?_)) <;> simp [-zg,-zd,↓Qb,↓Qa,go_sem,hl3,h3]))
 | (refine Qe ?_)
 | (refine Qt ?_;simp [-zg,-zd,↓Qb,↓Qa,go_sem])
 | (refine Qs ?_;simp [-zg,-zd,↓Qb,↓Qa,go_sem])
 | (refine Qv ?_;simp [-zg,-zd,↓Qb,↓Qa,go_sem,Try.results6])
 | (intro hx;refine zA ?_)
 | (refine ⟨?_,?_⟩ <;> refine zA ?_)
 | (intro hx;constructor <;> intro hs)
 | (constructor <;> intro hs)
 | (refine ⟨?_,fun hs=>?_⟩;refine zA ?_)
 | (refine ⟨fun hs=>?_,?_⟩;rotate_left;refine zA ?_;rotate_left)
 | (refine cut_end ⟨t3,t4,t5,by simp [upd,y1,zS y1,hac,hy],by simp [upd,y2,zS y2,t3,zS t3,d7]⟩ ?_;((repeat' (first | exact Qg (by assumption) | exact Qi | refine Qf ?_ ?_ | refine Qh ?_)) <;> simp [-zg,-zd,go_sem,h3,hph,phV,hy]);done)
 | (refine cut_sub ?_;((repeat' (first | exact Qg (by assumption) | exact Qi | refine Qf ?_ ?_ | refine Qh ?_)) <;> simp [-zg,-zd,go_sem,h3,hph,phV,hy]);done)
 | (have hoff:mvOn t (nth c y.1) (nth c' z.1) = false:=(by first | (rw [ht];exact mvOn_no2 s33a) | (rw [ht];exact mvOn_no3 c180) | simp_all [mvOn,fitE]);have hst:=ixDE_no (X:=X) (j:=z.1) (by rw [hXc'];exact c149) i (L,E) (t:=t) (k:=y.1) (by rw [hXc,hXc'];exact hoff);refine ⟨(z.1 + 1,z.2),⟨by dsimp only;omega,by dsimp only;rw [hst];exact w2⟩,by dsimp only;omega,?_⟩;((repeat' (first | exact Qg (by assumption) | exact Qi | refine Qf ?_ ?_ | refine Qh ?_)) <;> simp [-zg,-zd,go_sem,hst,h3]);done)
 | (have hskip:=ixD_skip (X:=X) (k:=y.1) (by rw [hXc];exact c132) i (L,E) (t:=t) (by rw [hXc,ht0];exact c144);refine ⟨(y.1 + 1,y.2),⟨by dsimp only;omega,by dsimp only;rw [hskip];exact v2⟩,by dsimp only;omega,?_⟩;((repeat' (first | exact Qg (by assumption) | exact Qi | refine Qf ?_ ?_ | refine Qh ?_)) <;> simp [-zg,-zd,go_sem,hskip,h3]);done)))
  all_goals (first
 | (rw [zadx (no1 hg)];done)
 | (rw [zadx (no2 hg2)];done)
 | (simp [zadx (no1 hg)];done)
 | (simp [zadx (no2 hg2)];done)
 | (simp [hbd];done)
 | (simp [hres,fr,Zz];done)
 | exact hul.symm
 | skip)
@[go_sem] def zafu:Con:=.pure fun
  | [.st [.list n_a c_a,.list n_b c_b,.list n_c c_c],.st [.list n_a' c_a',.list n_b' c_b',.list n_c' c_c']]=>((Is cI n_a c_a) ∧ (Is cB n_b c_b) ∧ (Is cT n_c c_c) ∧ (Is cI n_a' c_a') ∧ (Is cB n_b' c_b') ∧ (Is cT n_c' c_c') ∧ (Xn (de cT c_c)) ∧ (Xn (de cT c_c')),Ue ⟨(de cI c_a),(de cB c_b),(de cT c_c),(de cI c_a'),(de cB c_b'),(de cT c_c')⟩)
  | _=>(False,.any)
theorem zamy:ConOk Try.prog 6 zafu:=by
  refine ⟨Qp Try.func6 (by decide) rfl,fun args h=>?_⟩
  revert h
  dsimp only
  split
  · intro h
    obtain ⟨⟨a,rfl,rfl⟩,⟨b,rfl,rfl⟩,⟨c,rfl,rfl⟩,⟨a',rfl,rfl⟩,⟨b',rfl,rfl⟩,⟨c',rfl,rfl⟩,hS,hS'⟩:=h
    try simp only [Qr] at *
    exact ⟨zany a b c a' b' c' hS hS',by simp [go_sem]⟩
  · intro h
    exact h.elim
@[go_sem] def Γi7:FuncId → Con:=ext Γi6 6 zafu
theorem Γi7_ok:∀ g,ConOk Try.prog g (Γi7 g):=Qo Xe zamy

end
end Go.Proofs.Ytnfldmfamnhpcaa.Vm

