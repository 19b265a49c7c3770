import Derived.Test.YtiilmjojffjhlaaGreatDoorKPCc
import Derived.Test.YtiilmjojffjhlaaGreatDoorKFA6
import Derived.Test.YtiilmjojffjhlaaGreatDoorKPE1
import Derived.Lib.AtoiAllCases
set_option linter.unusedSimpArgs false
/-
  What the program and the reference read of an automaton's text; both read the same. Plain lemmas; no conditions.
-/
namespace Go.Proofs.YtiilmjojffjhlaaGreatDoor
open Go.RowKit Go.Deep
open Vm (Tr4 AutOk AllSmall AU accT)
set_option linter.unusedVariables false

def lineT (wd:List UInt8) (l:List Int):List UInt8:=wd ++ numsT l
theorem wordsT_line (wd:List UInt8) (l:List Int):Qx wd l = lineT wd l ++ [10]:=rfl
theorem pcs_nums:∀ (xs:List Int) (a:List UInt8),(32:UInt8) ∉ a → pcs 32 (a ++ numsT xs) [] = a :: xs.map fun n=>decN n.toNat
  | [],a,h=>by rw [show numsT [] = [] from rfl,List.append_nil,pcs_no h];rfl
  | n :: xs,a,h=>by
    rw [show numsT (n :: xs) = 32 :: (decN n.toNat ++ numsT xs) from by simp [numsT],pcs_at h,pcs_nums xs _ (decN_no (by decide))]
    rfl
theorem zadi {wd:List UInt8} (hw:(32:UInt8) ∉ wd) (l:List Int):headW (lineT wd l) = wd:=by rw [headW,lineT,pcs_nums l wd hw];rfl
theorem map_dec (f:List UInt8 → Int) (hf:∀ n:Nat,n ≤ 1000000000 → f (decN n) = n):∀ {l:List Int},NumOk l → (l.map fun n=>decN n.toNat).map f = l
  | [],_=>rfl
  | n :: l,h=>by
    have h0:=h 0 (by simp)
    simp only [nth,List.getD_cons_zero] at h0
    rw [List.map_cons,List.map_cons,map_dec f hf (l:=l) fun i hi=>h (i + 1) (by simpa using hi),hf n.toNat (by omega)]
    congr 1
    omega
theorem zadl {wd:List UInt8} (hw:(32:UInt8) ∉ wd) {l:List Int} (h:NumOk l):certR (lineT wd l) = l:=by
  rw [certR,lineT,pcs_nums l wd hw,List.drop_one,List.tail_cons]
  exact map_dec _ (fun n hn=>wordN_dec hn) h
def numsL (t:List UInt8):List Int:=(((pcs 32 t []).drop 1).take 64).map numV
theorem zadh {wd:List UInt8} (hw:(32:UInt8) ∉ wd) {l:List Int} (h:NumOk l) (hl:l.length ≤ 64):numsL (lineT wd l) = l:=by
  rw [numsL,lineT,pcs_nums l wd hw,List.drop_one,List.tail_cons,List.take_of_length_le (by simpa using hl)]
  exact map_dec _ (fun n hn=>(num_dec hn).2) h
theorem pcs_snoc (c:UInt8):∀ (l acc:List UInt8),pcs c (l ++ [c]) acc = pcs c l acc ++ [[]]
  | [],acc=>by simp [pcs]
  | b :: l,acc=>by
    rw [List.cons_append,pcs,pcs]
    split
    · rw [pcs_snoc c l []];rfl
    · exact pcs_snoc c l _
theorem pcs_lines:∀ (ls:List (List UInt8)),(∀ x ∈ ls,(10:UInt8) ∉ x) → pcs 10 (ls.flatMap (· ++ [10])) [] = ls ++ [[]]
  | [],_=>rfl
  | x :: ls,h=>by
    rw [List.flatMap_cons,List.append_assoc,List.singleton_append,pcs_at (h x (List.mem_cons_self ..)),pcs_lines ls fun y hy=>h y (List.mem_cons_of_mem _ hy)]
    rfl
def lsT (a:List Int) (b:List Bool) (c:List Tr4):List (List UInt8):=lineT wAut [(b.length:Int)] :: lineT wIni a :: lineT wAcc (accT b b.length) :: c.map fun e=>lineT wEdge (edgeL e)
theorem line_no {wd:List UInt8} (h:(10:UInt8) ∉ wd) (l:List Int):(10:UInt8) ∉ lineT wd l:=by
  rw [lineT,List.mem_append]
  rintro (k | k)
  · exact h k
  · exact numsT_no l k
theorem lsT_no (a:List Int) (b:List Bool) (c:List Tr4):∀ x ∈ lsT a b c,(10:UInt8) ∉ x:=fun x hx=>by
  simp only [lsT,List.mem_cons,List.mem_map] at hx
  rcases hx with rfl | rfl | rfl | ⟨e,_,rfl⟩ <;> exact line_no (by decide) _
theorem zaeh (a:List Int) (b:List Bool) (c:List Tr4):Xy a b c c.length = (lsT a b c).flatMap (· ++ [10]):=by
  rw [Xy,headT,List.take_length,lsT,List.flatMap_cons,List.flatMap_cons,List.flatMap_cons,List.flatMap_map]
  simp only [wordsT_line,edgeT,List.append_assoc]
  rfl
def trimN (s:List UInt8):List UInt8:=if s.getLast? = some 10 then s.dropLast else s
theorem trimN_app (r:List UInt8):trimN (r ++ [10]) = r:=by simp [trimN]
theorem flat_last:∀ {ls:List (List UInt8)},ls ≠ [] → ∃ r,ls.flatMap (· ++ [10]) = r ++ [10]
  | [],h=>absurd rfl h
  | [x],_=>⟨x,by simp⟩
  | x :: y :: ls,_=>by
    obtain ⟨r,e⟩:=flat_last (ls:=y :: ls) (by simp)
    exact ⟨x ++ [10] ++ r,by rw [List.flatMap_cons,e];simp⟩
theorem pcs_trim {ls:List (List UInt8)} (h0:ls ≠ []) (h:∀ x ∈ ls,(10:UInt8) ∉ x):pcs 10 (trimN (ls.flatMap (· ++ [10]))) [] = ls:=by
  obtain ⟨r,e⟩:=flat_last h0
  have h1:=pcs_lines ls h
  rw [e,pcs_snoc] at h1
  rw [e,trimN_app]
  exact List.append_cancel_right h1

def markB (b:List Bool) (xs:List Int):Nat → List Bool
  | 0=>b
  | k + 1=>(markB b xs k).set (nth xs k).toNat true
theorem zach (b:List Bool) (xs:List Int):∀ k,(markB b xs k).length = b.length
  | 0=>rfl
  | k + 1=>by rw [markB,List.length_set,zach b xs k]
abbrev Aut3:=List Int × List Bool × List Tr4
def inQ (xs:List Int) (n:Nat):Bool:=(List.range xs.length).all fun i=>decide (0 ≤ nth xs i ∧ nth xs i < n)
def stepI (line:List UInt8) (s:Aut3):Option Aut3 :=
  if headW line = wAut ∧ (certR line).length = 1 ∧ 1 ≤ nth (certR line) 0 ∧ nth (certR line) 0 ≤ 64 then some (s.1,List.replicate (nth (certR line) 0).toNat false,s.2.2)
  else if headW line = wIni then some (certR line,s.2.1,s.2.2)
  else if headW line = wAcc then (if inQ (certR line) s.2.1.length = true then some (s.1,markB s.2.1 (certR line) (certR line).length,s.2.2) else none)
  else if headW line = wEdge ∧ (certR line).length = 4 then some (s.1,s.2.1,s.2.2 ++ [(nth (certR line) 0,nth (certR line) 1,nth (certR line) 2,nth (certR line) 3)])
  else none
def goI:List (List UInt8) → Aut3 → Option Aut3
  | [],s=>some s
  | l :: ls,s=>(stepI l s).bind (goI ls)
theorem goI_snoc:∀ (ls:List (List UInt8)) (x:List UInt8) (s:Aut3),goI (ls ++ [x]) s = (goI ls s).bind (stepI x)
  | [],x,s=>by simp [goI]
  | l :: ls,x,s=>by
    rw [List.cons_append,goI,goI]
    cases stepI l s with
    | none=>rfl
    | some q=>exact goI_snoc ls x q
theorem markB_at (n:Nat) (xs:List Int):∀ (k:Nat),(∀ j,j < k → 0 ≤ nth xs j ∧ nth xs j < n) → ∀ i,i < n → (Vm.nth (markB (List.replicate n false) xs k) i = true ↔ ∃ j,j < k ∧ nth xs j = i)
  | 0,_,i,hi=>by simp [markB,Vm.nth,hi]
  | k + 1,h,i,hi=>by
    have ih:=markB_at n xs k (fun j hj=>h j (by omega)) i hi
    have hk:=h k (by omega)
    have hl:(markB (List.replicate n false) xs k).length = n:=by rw [zach,List.length_replicate]
    rw [markB]
    by_cases e:nth xs k = i
    · have e2:(nth xs k).toNat = i:=by omega
      rw [e2]
      constructor
      · intro _;exact ⟨k,by omega,e⟩
      · intro _
        simp [Vm.nth,List.getD_eq_getElem?_getD,List.getElem?_set,hl,hi]
    · have e2:¬ (nth xs k).toNat = i:=by omega
      have:Vm.nth ((markB (List.replicate n false) xs k).set (nth xs k).toNat true) i = Vm.nth (markB (List.replicate n false) xs k) i:=by
        simp [Vm.nth,List.getD_eq_getElem?_getD,List.getElem?_set,e2]
      rw [this,ih]
      constructor
      · rintro ⟨j,hj,q⟩;exact ⟨j,by omega,q⟩
      · rintro ⟨j,hj,q⟩
        refine ⟨j,?_,q⟩
        rcases Nat.lt_or_ge j k with h1 | h1
        · exact h1
        · exact absurd (by rw [← q,show j = k by omega]) e
theorem mark_acc (b:List Bool):markB (List.replicate b.length false) (accT b b.length) (accT b b.length).length = b:=by
  have hl:(markB (List.replicate b.length false) (accT b b.length) (accT b b.length).length).length = b.length:=by rw [zach,List.length_replicate]
  have hb:∀ j,j < (accT b b.length).length → 0 ≤ nth (accT b b.length) j ∧ nth (accT b b.length) j < b.length:=fun j hj=>by
    refine Vm.accT_bd b b.length _ ?_
    rw [nth_lt hj]
    exact List.getElem_mem hj
  apply List.ext_getElem hl
  intro i h1 h2
  have h3:=markB_at b.length (accT b b.length) (accT b b.length).length hb i h2
  have e1:Vm.nth (markB (List.replicate b.length false) (accT b b.length) (accT b b.length).length) i = (markB (List.replicate b.length false) (accT b b.length) (accT b b.length).length)[i]:=Vm.nth_lt h1
  have e2:Vm.nth b i = b[i]:=Vm.nth_lt h2
  rw [← e1,← e2]
  have h4:(∃ j,j < (accT b b.length).length ∧ nth (accT b b.length) j = i) ↔ Vm.nth b i = true:=by
    have h5:=accT_mem (b:=b) (k:=b.length) (i:=i)
    constructor
    · rintro ⟨j,hj,q⟩
      refine (h5.1 ?_).2
      rw [← q,nth_lt hj]
      exact List.getElem_mem hj
    · intro q
      obtain ⟨j,hj,e⟩:=List.getElem_of_mem (h5.2 ⟨h2,q⟩)
      exact ⟨j,hj,by rw [nth_lt hj];exact e⟩
  rw [h4] at h3
  exact Bool.eq_iff_iff.2 h3
theorem goI_edges:∀ (c:List Tr4) (s:Aut3),(∀ e ∈ c,NumOk (edgeL e)) → goI (c.map fun e=>lineT wEdge (edgeL e)) s = some (s.1,s.2.1,s.2.2 ++ c)
  | [],s,_=>by simp [goI]
  | e :: c,s,h=>by
    have h0:=h e (List.mem_cons_self ..)
    rw [List.map_cons,goI]
    have hs:stepI (lineT wEdge (edgeL e)) s = some (s.1,s.2.1,s.2.2 ++ [e]):=by
      unfold stepI
      rw [zadi (by decide),zadl (by decide) h0,if_neg (by rintro ⟨k,_⟩;exact absurd k (by decide)),if_neg (by decide),if_neg (by decide),if_pos ⟨rfl,rfl⟩]
      rfl
    rw [hs,Option.bind_some,goI_edges c _ fun e' he=>h e' (List.mem_cons_of_mem _ he)]
    simp
theorem edges_num {a:List Int} {b:List Bool} {c:List Tr4} (h:AutN a b c):∀ e ∈ c,NumOk (edgeL e):=fun e he=>by
  obtain ⟨i,hi,rfl⟩:=List.getElem_of_mem he
  have:=h.ne i hi
  rwa [Vm.nth_lt hi] at this
theorem goI_aut {a:List Int} {b:List Bool} {c:List Tr4} (h:AutOk a b.length c):goI (lsT a b c) ([],[],[]) = some (a,b,c):=by
  have hN:=autN h
  have h1:stepI (lineT wAut [(b.length:Int)]) ([],[],[]) = some ([],List.replicate b.length false,[]):=by
    unfold stepI
    rw [zadi (by decide),zadl (by decide) (zahj hN.lb),if_pos ⟨rfl,rfl,by show (1:Int) ≤ b.length;have:=h.1;omega,by show (b.length:Int) ≤ 64;have:=hN.lb;omega⟩]
    rfl
  have h2:stepI (lineT wIni a) ([],List.replicate b.length false,[]) = some (a,List.replicate b.length false,[]):=by
    unfold stepI
    rw [zadi (by decide),zadl (by decide) hN.na,if_neg (by rintro ⟨k,_⟩;exact absurd k (by decide)),if_pos rfl]
  have h3:stepI (lineT wAcc (accT b b.length)) (a,List.replicate b.length false,[]) = some (a,b,[]):=by
    unfold stepI
    have hq:inQ (accT b b.length) (List.replicate b.length false).length = true:=by
      rw [inQ,List.all_eq_true]
      intro i hi
      rw [List.mem_range] at hi
      have:=Vm.accT_bd b b.length (nth (accT b b.length) i) (by rw [nth_lt hi];exact List.getElem_mem hi)
      rw [List.length_replicate]
      exact decide_eq_true this
    rw [zadi (by decide),zadl (by decide) (num_acc hN.lb (Nat.le_refl _)),if_neg (by rintro ⟨k,_⟩;exact absurd k (by decide)),if_neg (by decide),if_pos rfl,if_pos hq,mark_acc]
  rw [lsT,goI,h1,Option.bind_some,goI,h2,Option.bind_some,goI,h3,Option.bind_some,goI_edges c _ (edges_num hN)]
  simp
def linesI (t:List UInt8):List (List UInt8):=pcs 10 (trimN t) []
def readI (t:List UInt8):Option Aut3:=goI (linesI t) ([],[],[])
theorem readI_aut {a:List Int} {b:List Bool} {c:List Tr4} (h:AutOk a b.length c):readI (autT a b c) = some (a,b,c):=by
  rw [readI,linesI,zagj (Vm.B_yes h),zaeh,pcs_trim (by simp [lsT]) (lsT_no a b c),goI_aut h]

def markS (b:List Bool) (xs:List Int):Nat → List Bool
  | 0=>b
  | k + 1=>if 0 ≤ nth xs k ∧ nth xs k < b.length then (markS b xs k).set (nth xs k).toNat true else markS b xs k
theorem markS_same (b:List Bool) (xs:List Int):∀ k,(∀ j,j < k → 0 ≤ nth xs j ∧ nth xs j < b.length) → markS b xs k = markB b xs k
  | 0,_=>rfl
  | k + 1,h=>by rw [markS,markB,if_pos (h k (by omega)),markS_same b xs k fun j hj=>h j (by omega)]
theorem markS_len (b:List Bool) (xs:List Int):∀ k,(markS b xs k).length = b.length
  | 0=>rfl
  | k + 1=>by rw [markS];split <;> simp [markS_len b xs k]
def edgeS (line:List UInt8):Tr4:=(nth (numsL line) 0,nth (numsL line) 1,nth (numsL line) 2,nth (numsL line) 3)
def Xn (t:List UInt8):List (List UInt8):=pcs 10 t []
def getL (ls:List (List UInt8)) (i:Nat):List UInt8:=ls.getD i []
def Xg (t:List UInt8):List (List UInt8):=((Xn t).drop 3).dropLast
def readS (t:List UInt8):Option Aut3 :=
  if (Xn t).length < 4 ∨ 2052 < (Xn t).length then none
  else if (numsL (getL (Xn t) 0)).length ≠ 1 ∨ nth (numsL (getL (Xn t) 0)) 0 < 1 ∨ 64 < nth (numsL (getL (Xn t) 0)) 0 then none
  else if (Xg t).all (fun l=>decide ((numsL l).length = 4)) = true then
    some (numsL (getL (Xn t) 1),markS (List.replicate (nth (numsL (getL (Xn t) 0)) 0).toNat false) (numsL (getL (Xn t) 2)) (numsL (getL (Xn t) 2)).length,(Xg t).map edgeS)
  else none
theorem readS_aut {a:List Int} {b:List Bool} {c:List Tr4} (h:AutOk a b.length c):readS (autT a b c) = some (a,b,c):=by
  have hN:=autN h
  have hE:=edges_num hN
  have e0:Xn (autT a b c) = lsT a b c ++ [[]]:=by rw [Xn,zagj (Vm.B_yes h),zaeh,pcs_lines _ (lsT_no a b c)]
  have e1:Xg (autT a b c) = c.map fun e=>lineT wEdge (edgeL e):=by rw [Xg,e0,lsT];simp
  have n0:numsL (lineT wAut [(b.length:Int)]) = [(b.length:Int)]:=zadh (by decide) (zahj hN.lb) (by simp)
  have n1:numsL (lineT wIni a) = a:=zadh (by decide) hN.na hN.la
  have hal:=Vm.accT_len b b.length
  have n2:numsL (lineT wAcc (accT b b.length)) = accT b b.length:=zadh (by decide) (num_acc hN.lb (Nat.le_refl _)) (by have:=hN.lb;omega)
  have n3:∀ e ∈ c,numsL (lineT wEdge (edgeL e)) = edgeL e:=fun e he=>zadh (by decide) (hE e he) (by simp [edgeL])
  have g0:getL (Xn (autT a b c)) 0 = lineT wAut [(b.length:Int)]:=by rw [e0];rfl
  have g1:getL (Xn (autT a b c)) 1 = lineT wIni a:=by rw [e0];rfl
  have g2:getL (Xn (autT a b c)) 2 = lineT wAcc (accT b b.length):=by rw [e0];rfl
  have hlc:=hN.lc
  have hb1:=h.1
  have hb2:=hN.lb
  have hz:nth [(b.length:Int)] 0 = b.length:=rfl
  unfold readS
  rw [if_neg (by rw [e0];simp [lsT];omega),g0,g1,g2,n0,n1,n2,e1,hz,if_neg (by simp;omega),if_pos]
  · rw [Int.toNat_natCast,markS_same,mark_acc,List.map_map]
    · congr 3
      conv=>rhs;rw [← List.map_id c]
      refine List.map_congr_left fun e he=>?_
      show edgeS (lineT wEdge (edgeL e)) = e
      unfold edgeS
      rw [n3 e he]
      rfl
    · intro j hj
      rw [List.length_replicate]
      refine Vm.accT_bd b b.length _ ?_
      rw [nth_lt hj]
      exact List.getElem_mem hj
  · rw [List.all_map,List.all_eq_true]
    intro e he
    show decide ((numsL (lineT wEdge (edgeL e))).length = 4) = true
    rw [n3 e he]
    rfl

noncomputable def readA (R:Option Aut3) (t:List UInt8):Aut3 × Bool:=match R with
  | some (a,b,c)=>if t = [] ∨ ¬ autT a b c = t then (([],[],[]),false) else ((a,b,c),true)
  | none=>(([],[],[]),false)
theorem autT_ok {a:List Int} {b:List Bool} {c:List Tr4} {t:List UInt8} (h0:¬ t = []) (h:autT a b c = t):AutOk a b.length c:=by
  cases e:Vm.B (AutOk a b.length c)
  · rw [autT_no e] at h;exact absurd h.symm h0
  · rwa [Vm.B_iff] at e
theorem readA_some {R:Option Aut3} {t:List UInt8} (h0:¬ t = []) {a:List Int} {b:List Bool} {c:List Tr4} (e:R = some (a,b,c)) (h:autT a b c = t):readA R t = ((a,b,c),true):=by
  rw [e,readA,if_neg (by rintro (k | k);exact h0 k;exact k h)]
theorem zahh (R:Option Aut3) (t:List UInt8):readA R t = (([],[],[]),false) ∨ ∃ a b c,¬ t = [] ∧ AutOk a b.length c ∧ autT a b c = t ∧ readA R t = ((a,b,c),true):=by
  match R with
  | none=>exact .inl rfl
  | some (a,b,c) =>
    by_cases h:t = [] ∨ ¬ autT a b c = t
    · exact .inl (by rw [readA,if_pos h])
    · have h0:¬ t = []:=fun k=>h (.inl k)
      have h1:autT a b c = t:=Classical.byContradiction fun k=>h (.inr k)
      exact .inr ⟨a,b,c,h0,autT_ok h0 h1,h1,by rw [readA,if_neg h]⟩
theorem readA_same (t:List UInt8):readA (readS t) t = readA (readI t) t:=by
  rcases zahh (readS t) t with h | ⟨a,b,c,h0,hv,ht,h⟩
  · rcases zahh (readI t) t with h2 | ⟨a,b,c,h0,hv,ht,h2⟩
    · rw [h,h2]
    · have e:=readS_aut hv
      rw [ht] at e
      rw [h2,readA_some h0 e ht]
  · have e:=readI_aut hv
    rw [ht] at e
    rw [h,readA_some h0 e ht]
end Go.Proofs.YtiilmjojffjhlaaGreatDoor

/-
  Readings of automata: ranges, ends of texts. Plain lemmas; no conditions.
-/
namespace Go.Proofs.YtiilmjojffjhlaaGreatDoor
open Go.RowKit Go.Deep
open Vm (Tr4 AutOk AllSmall AU accT)
set_option linter.unusedVariables false

theorem wordN_bd (l:List UInt8):-9223372036854775808 ≤ wordN l ∧ wordN l ≤ 9223372036854775807:=by
  unfold wordN
  cases h:Lib.atoiAll l with
  | ok v=>exact Lib.atoiAll_bounds h
  | range => exact ⟨by decide, by decide⟩
  | _ => exact ⟨by decide, by decide⟩
theorem certR_bd (l:List UInt8) (k:Nat):-9223372036854775808 ≤ nth (certR l) k ∧ nth (certR l) k ≤ 9223372036854775807:=by
  by_cases h:k < (certR l).length
  · rw [nth_lt h]
    have key:∀ x ∈ certR l,-9223372036854775808 ≤ x ∧ x ≤ 9223372036854775807:=fun x hx=>by
      rw [certR,List.mem_map] at hx
      obtain ⟨y,_,rfl⟩:=hx
      exact wordN_bd y
    exact key _ (List.getElem_mem h)
  · unfold nth
    rw [List.getD_eq_getElem?_getD,List.getElem?_eq_none (by omega)]
    exact ⟨by decide,by decide⟩
theorem certR_le (l:List UInt8):(certR l).length ≤ l.length:=by
  have h1:=zaet l
  have h2:=Jw 32 l []
  omega
theorem numV_bd (s:List UInt8):-100000000000000000 < numV s ∧ numV s < 100000000000000000:=by
  unfold numV numR
  split
  · rename_i h
    unfold numB at h
    rw [Bool.and_eq_true] at h
    obtain ⟨h1,h2⟩:=h
    have hl:(numT s).length ≤ 17:=by
      simp only [numBad,Bool.not_eq_true',Bool.or_eq_false_iff,decide_eq_false_iff_not] at h1
      omega
    have ht:Vm.NoneTill (noDg (numT s)) (numT s).length:=fun i hi=>by
      simp only [Bool.not_eq_true',List.any_eq_false,List.mem_range] at h2
      simpa using h2 i hi
    have:=nmD_s ht hl
    split <;> omega
  · exact ⟨by decide,by decide⟩
theorem numsL_bd (l:List UInt8) (k:Nat):-100000000000000000 < nth (numsL l) k ∧ nth (numsL l) k < 100000000000000000:=by
  by_cases h:k < (numsL l).length
  · rw [nth_lt h]
    have key:∀ x ∈ numsL l,-100000000000000000 < x ∧ x < 100000000000000000:=fun x hx=>by
      rw [numsL,List.mem_map] at hx
      obtain ⟨y,_,rfl⟩:=hx
      exact numV_bd y
    exact key _ (List.getElem_mem h)
  · unfold nth
    rw [List.getD_eq_getElem?_getD,List.getElem?_eq_none (by omega)]
    exact ⟨by decide,by decide⟩
theorem numsL_len (l:List UInt8):(numsL l).length ≤ 64:=by simp [numsL];omega
end Go.Proofs.YtiilmjojffjhlaaGreatDoor

