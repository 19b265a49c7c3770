/-
  Lists of things as rows of cells. No conditions.
-/
import Derived.Test.YtiilmjojffjhlaaGreatDoorKSim
namespace Go.Proofs.YtiilmjojffjhlaaGreatDoor.Vm
open Go
set_option linter.unusedVariables false
set_option linter.unusedSimpArgs false

open Classical in
noncomputable def B (p:Prop):Bool:=decide p
@[go_sem] theorem B_iff (p:Prop):(B p = true) = p:=by simp [B]
@[go_sem] theorem B_not (p:Prop):(B p = false) = ¬p:=by simp [B]
theorem B_yes {p:Prop} (h:p):B p = true:=by rw [B_iff];exact h
theorem B_no {p:Prop} (h:¬p):B p = false:=by rw [B_not];exact h
@[go_sem] theorem closed_ite {c:Prop} [Decidable c] (x y:D):closed (if c then x else y) = if c then closed x else closed y:=by split <;> rfl
@[go_sem] theorem bnd_ite {c:Prop} [Decidable c] (N:Nat) (x y:D):bnd N (if c then x else y) = if c then bnd N x else bnd N y:=by split <;> rfl
theorem Qh {α:Type} {xs:List α} {k:Nat} (h:k < xs.length):¬ xs = []:=by rintro rfl;simp at h
def nth {α:Type} [Inhabited α] (xs:List α) (k:Nat):α:=xs.getD k default
theorem nth_lt {α:Type} [Inhabited α] {xs:List α} {k:Nat} (h:k < xs.length):nth xs k = xs[k]:=by simp [nth,List.getD_eq_getElem?_getD,List.getElem?_eq_getElem h]
theorem Jn {α:Type} [Inhabited α] {xs:List α} {k:Nat} (h:k < xs.length):nth xs k ∈ xs:=by rw [nth_lt h];exact List.getElem_mem h
@[go_sem] theorem nth_drop {α:Type} [Inhabited α] (xs:List α) (k j:Nat):nth (xs.drop k) j = nth xs (k + j):=by simp [nth,List.getD_eq_getElem?_getD]
def cat {α:Type} (f:α → List D) (xs:List α):List D:=xs.flatMap f
class Wide {α:Type} (f:α → List D) (sz:outParam Nat):Prop where
  len:∀ a,(f a).length = sz
  pos:0 < sz
  leaf:∀ a,(f a).all leaf = true
class Plain {α:Type} (f:α → List D):Prop where
  owns:∀ a,ownsL (f a) = false
  deref:∀ a (H:Hp) j,(f a).map (deref (j + 1) H) = f a
  bnd:∀ a N,bndL N (f a)
  inj:∀ a b,f a = f b → a = b
class Own {α:Type} (f:α → List D) (g:outParam (α → List D)) (lv:outParam Nat):Prop where
  closed:∀ a,Xt (f a) = true
  dat:∀ a,(f a).map dat = g a
  bnd:∀ a N,bndL N (f a)
  deref:∀ a (H:Hp) j,lv ≤ j → (f a).map (deref j H) = g a
section
variable {α:Type} {f:α → List D} {sz:Nat}
theorem Qz [Wide f sz] (xs:List α):(cat f xs).length = xs.length * sz:=by
  induction xs with
  | nil=>simp [cat]
  | cons x xs ih=>simp only [cat,List.flatMap_cons,List.length_append,List.length_cons] at ih ⊢;rw [ih,Wide.len (f:=f),Nat.succ_mul];omega
theorem Jg (xs ys:List α):cat f (xs ++ ys) = cat f xs ++ cat f ys:=by simp [cat]
@[go_sem] theorem cat_nil:cat f ([]:List α) = []:=rfl
theorem Xx (x:α) (xs:List α):cat f (x :: xs) = f x ++ cat f xs:=by simp [cat]
theorem Ve (x:α):cat f [x] = f x:=by simp [cat]
theorem cat_drop [Wide f sz] (xs:List α) (k:Nat):(cat f xs).drop (k * sz) = cat f (xs.drop k):=by
  induction k generalizing xs with
  | zero=>simp
  | succ k ih =>
    cases xs with
    | nil=>simp [cat]
    | cons x xs =>
      rw [Xx,List.drop_succ_cons,← ih,Nat.succ_mul,Nat.add_comm,← List.drop_drop,← Wide.len (f:=f) x,List.drop_left']
      rfl
theorem cat_take [Wide f sz] (xs:List α) (k:Nat):(cat f xs).take (k * sz) = cat f (xs.take k):=by
  induction k generalizing xs with
  | zero=>simp [cat]
  | succ k ih =>
    cases xs with
    | nil=>simp [cat]
    | cons x xs =>
      rw [Xx,List.take_succ_cons,Xx,← ih,Nat.succ_mul,Nat.add_comm,List.take_append,Wide.len (f:=f),List.take_of_length_le (by rw [Wide.len (f:=f)];omega)]
      congr 2
      omega
theorem cat_split [Inhabited α] {xs:List α} {k:Nat} (h:k < xs.length):cat f (xs.drop k) = f (nth xs k) ++ cat f (xs.drop (k + 1)):=by
  rw [List.drop_eq_getElem_cons h,Xx,nth_lt h]
@[go_sem] theorem cat_drop_ [Wide f sz] (xs:List α) (k:Nat):(cat f xs).drop (k * sz) = cat f (xs.drop k):=cat_drop xs k
@[go_sem] theorem cat_take_ [Wide f sz] (xs:List α) (k:Nat):(cat f xs).take (k * sz) = cat f (xs.take k):=cat_take xs k
@[go_sem] theorem cat_drop1 [Wide f 1] (xs:List α) (k:Nat):(cat f xs).drop k = cat f (xs.drop k):=by have:=cat_drop (f:=f) xs k;simpa using this
@[go_sem] theorem cat_take1 [Wide f 1] (xs:List α) (k:Nat):(cat f xs).take k = cat f (xs.take k):=by have:=cat_take (f:=f) xs k;simpa using this
@[go_sem] theorem cat_len [Wide f sz] (xs:List α):(cat f xs).length = xs.length * sz:=Qz xs
@[go_sem] theorem cat_at [Wide f sz] [Inhabited α] {xs:List α} {k:Nat} (h:k < xs.length):(cat f (xs.drop k)).take sz = f (nth xs k):=by
  rw [cat_split h,List.take_append,Wide.len (f:=f),Nat.sub_self,List.take_zero,List.append_nil,List.take_of_length_le (by rw [Wide.len (f:=f)];omega)]
@[go_sem] theorem cat_get [Wide f sz] [Inhabited α] {xs:List α} {k j:Nat} (h:k < xs.length) (hj:j < sz):(cat f (xs.drop k)).getD j .any = (f (nth xs k)).getD j .any:=by
  rw [cat_split h,List.getD_eq_getElem?_getD,List.getD_eq_getElem?_getD,List.getElem?_append_left (by rw [Wide.len (f:=f)];exact hj)]
@[go_sem] theorem cat_drop_drop [Wide f sz] (xs:List α) (k j:Nat):(cat f xs).getD (k * sz + j) .any = (cat f (xs.drop k)).getD j .any:=by
  rw [← cat_drop,List.getD_eq_getElem?_getD,List.getD_eq_getElem?_getD,List.getElem?_drop]
@[go_sem] theorem cat_get1 [Wide f 1] [Inhabited α] {xs:List α} {k:Nat} (h:k < xs.length):(cat f xs).getD k .any = (f (nth xs k)).getD 0 .any:=by
  have:=cat_get (f:=f) (j:=0) h (by omega);rw [← this,← cat_drop1,List.getD_eq_getElem?_getD,List.getD_eq_getElem?_getD,List.getElem?_drop];rfl
@[go_sem] theorem cat_nil_iff [Wide f sz] (xs:List α):(cat f xs = []) = (xs = []):=by
  cases xs with
  | nil=>simp [cat]
  | cons x xs =>
    simp only [Xx,List.append_eq_nil_iff,reduceCtorEq,eq_iff_iff,iff_false,not_and]
    intro h
    have:=Wide.len (f:=f) x;rw [h] at this;have:=Wide.pos (f:=f);simp at *;omega
@[go_sem] theorem zaax [Wide f sz] (xs:List α) (ys:List D):(cat f xs ++ ys).take (xs.length * sz) = cat f xs:=by
  rw [← Qz (f:=f),List.take_left'];rfl
@[go_sem] theorem Zg [Wide f 1] (xs:List α) (ys:List D):(cat f xs ++ ys).take xs.length = cat f xs:=by
  have:=zaax (f:=f) xs ys;simpa using this
@[go_sem] theorem cat_leaf [Wide f sz] (xs:List α):(cat f xs).all leaf = true:=by
  induction xs with
  | nil=>rfl
  | cons x xs ih=>rw [Xx,List.all_append,Wide.leaf (f:=f),ih];rfl
theorem all_cat {p:D → Prop} (h:∀ a,∀ d ∈ f a,p d) (xs:List α):∀ d ∈ cat f xs,p d:=by
  intro d hd
  simp only [cat,List.mem_flatMap] at hd
  obtain ⟨a,_,hd⟩:=hd
  exact h a d hd
@[go_sem] theorem cat_owns [Plain f] (xs:List α):ownsL (cat f xs) = false:=by
  rw [zadg];exact all_cat (fun a=>zadg.1 (Plain.owns (f:=f) a)) xs
@[go_sem] theorem cat_bnd [Plain f] (N:Nat) (xs:List α):bndL N (cat f xs):=by
  rw [Qi];exact all_cat (fun a=>Qi.1 (Plain.bnd (f:=f) a N)) xs
theorem map_cat (g:D → D) (xs:List α):(cat f xs).map g = cat (fun a=>(f a).map g) xs:=by simp [cat,List.map_flatMap]
@[go_sem] theorem cat_deref [Plain f] (H:Hp) {j:Nat} (h:1 ≤ j) (xs:List α):(cat f xs).map (deref j H) = cat f xs:=by
  obtain ⟨j,rfl⟩:∃ i,j = i + 1:=⟨j - 1,by omega⟩
  rw [map_cat];congr 1;funext a;exact Plain.deref (f:=f) a H j
@[go_sem] theorem cat_closed {g:α → List D} {lv:Nat} [Own f g lv] (xs:List α):Xt (cat f xs) = true:=by
  rw [zahl];exact all_cat (fun a=>zahl.1 (Own.closed (f:=f) a)) xs
@[go_sem] theorem cat_bndO {g:α → List D} {lv:Nat} [Own f g lv] (N:Nat) (xs:List α):bndL N (cat f xs):=by
  rw [Qi];exact all_cat (fun a=>Qi.1 (Own.bnd (f:=f) a N)) xs
@[go_sem] theorem cat_dat {g:α → List D} {lv:Nat} [Own f g lv] (xs:List α):(cat f xs).map dat = cat g xs:=by
  rw [map_cat];congr 1;funext a;exact Own.dat (f:=f) a
@[go_sem] theorem cat_datL {g:α → List D} {lv:Nat} [Own f g lv] (xs:List α):datL (cat f xs) = cat g xs:=by rw [datL_map,cat_dat]
@[go_sem] theorem cat_derefO {g:α → List D} {lv:Nat} [Own f g lv] (H:Hp) {j:Nat} (h:lv ≤ j) (xs:List α):(cat f xs).map (deref j H) = cat g xs:=by
  rw [map_cat];congr 1;funext a;exact Own.deref (f:=f) a H j h
theorem cat_inj [Wide f sz] [Plain f]:∀ {xs ys:List α},cat f xs = cat f ys → xs = ys
  | [],[],_=>rfl
  | [],y :: ys,h=>by
    have:=congrArg List.length h
    have hp:=Wide.pos (f:=f)
    rw [Qz,Qz,List.length_cons,Nat.succ_mul] at this
    simp at this;omega
  | x :: xs,[],h=>by
    have:=congrArg List.length h
    have hp:=Wide.pos (f:=f)
    rw [Qz,Qz,List.length_cons,Nat.succ_mul] at this
    simp at this;omega
  | x :: xs,y :: ys,h=>by
    rw [Xx,Xx] at h
    obtain ⟨h1,h2⟩:=List.append_inj h (by rw [Wide.len (f:=f),Wide.len (f:=f)])
    rw [Plain.inj (f:=f) _ _ h1,cat_inj h2]
def Is (f:α → List D) (n:Nat) (cs:List D):Prop:=∃ xs:List α,n = xs.length ∧ cs = cat f xs
open Classical in
noncomputable def de (f:α → List D) (cs:List D):List α:=if h:∃ xs:List α,cs = cat f xs then Classical.choose h else []
@[go_sem] theorem is_cat [Wide f sz] [Plain f] (n:Nat) (xs:List α):Is f n (cat f xs) ↔ n = xs.length :=
  ⟨fun ⟨ys,h,e⟩=>by rw [cat_inj e,h],fun h=>⟨xs,h,rfl⟩⟩
@[go_sem] theorem Xb [Wide f sz] [Plain f] (xs:List α):de f (cat f xs) = xs:=by
  unfold de
  rw [dif_pos ⟨xs,rfl⟩]
  have:∃ ys:List α,cat f xs = cat f ys:=⟨xs,rfl⟩
  exact (cat_inj (Classical.choose_spec this)).symm
@[go_sem] theorem is_nil [Wide f sz] [Plain f] (n:Nat):Is f n [] ↔ n = 0:=is_cat (f:=f) n []
@[go_sem] theorem de_nil [Wide f sz] [Plain f]:de f ([]:List D) = ([]:List α):=Xb (f:=f) []
theorem Is.list [Wide f sz] [Plain f] {n:Nat} {cs:List D} (h:Is f n cs):D.list n cs = .list (de f cs).length (cat f (de f cs)):=by
  obtain ⟨xs,rfl,rfl⟩:=h
  rw [Xb]
def fillC (f:α → List D) (z:List D) (sz:Nat) (xs:List α) (k:Nat) (junk:List D):List D:=cat f (xs.take k) ++ (makeD z ((xs.length - k) * sz) ++ junk)
theorem makeD_add (z:List D) (m:Nat):makeD z ((m + 1) * z.length) = z ++ makeD z (m * z.length):=by
  apply List.ext_getElem
  · simp [Jx,Nat.succ_mul,Nat.add_comm]
  · intro i h1 h2
    simp only [makeD,List.getElem_map,List.getElem_range]
    rw [List.getElem_append]
    split
    · rename_i h;rw [Nat.mod_eq_of_lt h,List.getD_eq_getElem?_getD,List.getElem?_eq_getElem h];rfl
    · rename_i h;simp only [List.getElem_map,List.getElem_range];congr 1;rw [Nat.mod_eq_sub_mod (by omega)]
theorem zafe (A:List D):∀ (us B:List D),us.length ≤ B.length → setSeg (A ++ B) A.length us = A ++ us ++ B.drop us.length
  | [],B,h=>by simp [setSeg]
  | u :: us,b :: B,h=>by
    simp only [setSeg]
    have:=zafe (A ++ [u]) us B (by simpa using h)
    simp only [List.length_append,List.length_cons,List.length_nil,Nat.zero_add] at this
    rw [List.set_append,if_neg (Nat.lt_irrefl _),Nat.sub_self,List.set_cons_zero]
    simpa using this
theorem zacb [Wide f sz] [Inhabited α] {z:List D} (hz:z.length = sz) {xs:List α} {k:Nat} (h:k < xs.length) (junk:List D):stSeg (fillC f z sz xs k junk) (k * sz) (f (nth xs k)) = fillC f z sz xs (k + 1) junk:=by
  unfold fillC stSeg
  have e:(cat f (xs.take k)).length = k * sz:=by rw [Qz];simp;congr 1;omega
  rw [← e,zafe _ _ _ (by
    rw [Wide.len (f:=f),List.length_append,Jx]
    have:sz ≤ (xs.length - k) * sz:=Nat.le_mul_of_pos_left _ (by omega)
    omega)]
  have:xs.length - k = (xs.length - (k + 1)) + 1:=by omega
  rw [this,← hz,makeD_add,List.append_assoc z,Wide.len (f:=f),← hz,List.drop_left' rfl]
  rw [List.take_succ_eq_append_getElem h,Jg,Ve,nth_lt h]
theorem fill_len [Wide f sz] (z:List D) {xs:List α} {k:Nat} (h:k ≤ xs.length) (junk:List D):(fillC f z sz xs k junk).length = xs.length * sz + junk.length:=by
  unfold fillC
  rw [List.length_append,List.length_append,Qz,Jx,← Nat.add_assoc,← Nat.add_mul]
  simp
  congr 2;omega
@[go_sem] theorem fill_le [Wide f sz] {z:List D} {xs:List α} {k:Nat} {junk:List D} (h:k < xs.length):k * sz + sz ≤ (fillC f z sz xs k junk).length:=by
  rw [fill_len z (Nat.le_of_lt h)]
  have:(k + 1) * sz ≤ xs.length * sz:=Nat.mul_le_mul_right _ h
  rw [Nat.succ_mul] at this;omega
@[go_sem] theorem fill_le1 [Wide f 1] {z:List D} {xs:List α} {k:Nat} {junk:List D} (h:k < xs.length):k + 1 ≤ (fillC f z 1 xs k junk).length:=by have:=fill_le (f:=f) (z:=z) (junk:=junk) h;omega
@[go_sem] theorem fill_lt1 [Wide f 1] {z:List D} {xs:List α} {k:Nat} {junk:List D} (h:k < xs.length):k < (fillC f z 1 xs k junk).length:=by have:=fill_le (f:=f) (z:=z) (junk:=junk) h;omega
@[go_sem] theorem ltS {n k j:Nat} (h:0 < n - k) (hj:j < sz):0 < (n - k) * sz - j:=by
  have:sz ≤ (n - k) * sz:=Nat.le_mul_of_pos_left _ h
  omega
@[go_sem] theorem leS {n k:Nat} (h:0 < n - k):sz ≤ (n - k) * sz:=Nat.le_mul_of_pos_left _ h
end
def cI (x:Int):List D:=[.int .i64 x]
def cB (x:Bool):List D:=[.bool x]
def cStr (x:List UInt8):List D:=[.str x]
instance:Wide cI 1:=⟨fun _=>rfl,by omega,fun _=>rfl⟩
instance:Wide cB 1:=⟨fun _=>rfl,by omega,fun _=>rfl⟩
instance:Wide cStr 1:=⟨fun _=>rfl,by omega,fun _=>rfl⟩
instance:Plain cI:=⟨fun _=>rfl,fun _ _ _=>rfl,fun _ _=>⟨trivial,trivial⟩,fun a b h=>by simpa [cI] using h⟩
instance:Plain cB:=⟨fun _=>rfl,fun _ _ _=>rfl,fun _ _=>⟨trivial,trivial⟩,fun a b h=>by simpa [cB] using h⟩
instance:Plain cStr:=⟨fun _=>rfl,fun _ _ _=>rfl,fun _ _=>⟨trivial,trivial⟩,fun a b h=>by simpa [cStr] using h⟩
instance:Own cI cI 1:=⟨fun _=>rfl,fun _=>rfl,fun _ _=>⟨trivial,trivial⟩,fun _ _ j h=>by obtain ⟨j,rfl⟩:∃ i,j = i + 1:=⟨j - 1,by omega⟩;rfl⟩
instance:Own cB cB 1:=⟨fun _=>rfl,fun _=>rfl,fun _ _=>⟨trivial,trivial⟩,fun _ _ j h=>by obtain ⟨j,rfl⟩:∃ i,j = i + 1:=⟨j - 1,by omega⟩;rfl⟩
instance:Own cStr cStr 1:=⟨fun _=>rfl,fun _=>rfl,fun _ _=>⟨trivial,trivial⟩,fun _ _ j h=>by obtain ⟨j,rfl⟩:∃ i,j = i + 1:=⟨j - 1,by omega⟩;rfl⟩
attribute [go_sem] cI cB cStr
@[go_sem] theorem fill_cI {z:D} {xs:List Int} {k:Nat} {junk:List D} (h:k < xs.length):stSeg (fillC cI [z] 1 xs k junk) k [.int .i64 (nth xs k)] = fillC cI [z] 1 xs (k + 1) junk:=by have:=zacb (f:=cI) (sz:=1) (z:=[z]) rfl h junk;rwa [Nat.mul_one] at this
@[go_sem] theorem fill_cB {z:D} {xs:List Bool} {k:Nat} {junk:List D} (h:k < xs.length):stSeg (fillC cB [z] 1 xs k junk) k [.bool (nth xs k)] = fillC cB [z] 1 xs (k + 1) junk:=by have:=zacb (f:=cB) (sz:=1) (z:=[z]) rfl h junk;rwa [Nat.mul_one] at this
def li {α:Type} (f:α → List D) (xs:List α):D:=.list xs.length (cat f xs)
def fr {α:Type} (sz:Nat) (f:α → List D) (xs:List α):D:=.fr sz xs.length (cat f xs)
attribute [go_sem] li fr
section
variable {α:Type} {f:α → List D} {sz:Nat}
theorem li_inj [Wide f sz] [Plain f] {xs ys:List α} (h:li f xs = li f ys):xs = ys:=by
  simp only [li,D.list.injEq] at h
  exact cat_inj h.2
theorem li_deref [Plain f] (H:Hp) (j:Nat) (xs:List α):deref (j + 1) H (li f xs) = li f xs:=by simp [li,deref]
theorem fr_deref {g:α → List D} {lv:Nat} [Own f g lv] (H:Hp) {j:Nat} (h:lv + 1 ≤ j) (xs:List α):deref j H (fr sz f xs) = li g xs:=by
  obtain ⟨j,rfl⟩:∃ i,j = i + 1:=⟨j - 1,by omega⟩
  simp only [fr,li,deref];rw [cat_derefO H (by omega)]
theorem fr_dat {g:α → List D} {lv:Nat} [Own f g lv] (xs:List α):dat (fr sz f xs) = li g xs:=by simp only [fr,li,dat];rw [datL_map,cat_dat]
theorem fr_closed {g:α → List D} {lv:Nat} [Own f g lv] (xs:List α):closed (fr sz f xs) = true:=by simp only [fr,closed];exact cat_closed xs
theorem fr_bnd {g:α → List D} {lv:Nat} [Own f g lv] (N:Nat) (xs:List α):bnd N (fr sz f xs):=by simp only [fr,bnd];exact cat_bndO N xs
theorem li_bnd [Plain f] (N:Nat) (xs:List α):bnd N (li f xs):=by simp only [li,bnd];exact cat_bnd N xs
end
abbrev Ints2:=List Int × List Int
def cL (x:List Int):List D:=[li cI x]
def oL (x:List Int):List D:=[fr 1 cI x]
def cP (x:Ints2):List D:=[li cI x.1,li cI x.2]
def oP (x:Ints2):List D:=[fr 1 cI x.1,fr 1 cI x.2]
instance:Wide cL 1:=⟨fun _=>rfl,by omega,fun _=>rfl⟩
instance:Wide oL 1:=⟨fun _=>rfl,by omega,fun _=>rfl⟩
instance:Wide cP 2:=⟨fun _=>rfl,by omega,fun _=>rfl⟩
instance:Wide oP 2:=⟨fun _=>rfl,by omega,fun _=>rfl⟩
instance:Plain cL:=⟨fun _=>rfl,fun a H j=>by simp [cL,li_deref],fun a N=>⟨li_bnd N a,trivial⟩,fun a b h=>by simp only [cL,List.cons.injEq,and_true] at h;exact li_inj h⟩
instance:Plain cP:=⟨fun _=>rfl,fun a H j=>by simp [cP,li_deref],fun a N=>⟨li_bnd N _,li_bnd N _,trivial⟩,fun a b h=>by simp only [cP,List.cons.injEq,and_true] at h;exact Prod.ext (li_inj h.1) (li_inj h.2)⟩
instance:Own oL cL 2:=⟨fun a=>by simp [oL,Xt,fr_closed],fun a=>by simp [oL,cL,fr_dat],fun a N=>⟨fr_bnd N a,trivial⟩,fun a H j h=>by simp [oL,cL,fr_deref H h]⟩
instance:Own oP cP 2:=⟨fun a=>by simp [oP,Xt,fr_closed],fun a=>by simp [oP,cP,fr_dat],fun a N=>⟨fr_bnd N _,fr_bnd N _,trivial⟩,fun a H j h=>by simp [oP,cP,fr_deref H h]⟩
attribute [go_sem] cL oL cP oP
@[go_sem] theorem fill_oL {z:D} {xs:List (List Int)} {k:Nat} {junk:List D} (h:k < xs.length):stSeg (fillC oL [z] 1 xs k junk) k [.fr 1 (nth xs k).length (cat cI (nth xs k))] = fillC oL [z] 1 xs (k + 1) junk:=by have:=zacb (f:=oL) (sz:=1) (z:=[z]) rfl h junk;rwa [Nat.mul_one] at this
@[go_sem] theorem fill_oP {z y:D} {xs:List Ints2} {k:Nat} {junk:List D} (h:k < xs.length):stSeg (fillC oP [z,y] 2 xs k junk) (k * 2) [.fr 1 (nth xs k).1.length (cat cI (nth xs k).1),.fr 1 (nth xs k).2.length (cat cI (nth xs k).2)] = fillC oP [z,y] 2 xs (k + 1) junk:=zacb (f:=oP) (sz:=2) (z:=[z,y]) rfl h junk
end Go.Proofs.YtiilmjojffjhlaaGreatDoor.Vm

