import Derived.Test.YtiilmjojffjhlaaGreatDoorKPN1
/-
  Blocks of an automaton under way: names for its slices, and owned again. No conditions.
-/
namespace Go.Proofs.YtiilmjojffjhlaaGreatDoor.Vm
open Go
open List renaming replicate → zrP
open Ne renaming symm → zS
set_option linter.unusedVariables false
set_option linter.unusedSimpArgs false
set_option maxRecDepth 200000

section
variable {P:Program} {B:Base} {n:Nat} {c:Code} {Q:Exit → St → Prop} {S:St}
theorem zadf {sz:Nat} {μ:Nat → Nat} {I:Nat → Prop} {w:World} {v:Value} {f:List Nat} (h:Rep μ I w .nil v f):Rep μ I w (.fr sz 0 []) v f:=by
  simp only [Rep] at h ⊢
  exact ⟨Nat.zero_le _,by simp,.inl ⟨trivial,h.1,h.2⟩⟩
theorem AW_boxNilC (t:Nat) {d e:D} (hT:S.T t = .box [d,e,.nil]) (h:AW P B n c Q ⟨upd S.T t (.box [d,e,.fr 4 0 []]),S.H⟩):AW P B n c Q S :=
  AW_rebox t hT (fun μ I w vs f hr=>by
    simp only [RepL] at hr ⊢
    obtain ⟨v,vs',f1,f2,e1,e2,r1,v2,vs2,g1,g2,e3,e4,r2,v3,vs3,g3,g4,e5,e6,r3,r4⟩:=hr
    exact ⟨v,vs',f1,f2,e1,e2,r1,v2,vs2,g1,g2,e3,e4,r2,v3,vs3,g3,g4,e5,e6,zadf r3,r4⟩) (fun N hb=>by simp only [bndL,bnd] at hb ⊢;exact ⟨hb.1,hb.2.1,trivial,trivial⟩) h
theorem AW_boxNil3 (t:Nat) (hT:S.T t = .box [.nil,.nil,.nil]) (h:AW P B n c Q ⟨upd S.T t (.box [.fr 1 0 [],.fr 1 0 [],.fr 4 0 []]),S.H⟩):AW P B n c Q S :=
  AW_rebox t hT (fun μ I w vs f hr=>by
    simp only [RepL] at hr ⊢
    obtain ⟨v,vs',f1,f2,e1,e2,r1,v2,vs2,g1,g2,e3,e4,r2,v3,vs3,g3,g4,e5,e6,r3,r4⟩:=hr
    exact ⟨v,vs',f1,f2,e1,e2,zadf r1,v2,vs2,g1,g2,e3,e4,zadf r2,v3,vs3,g3,g4,e5,e6,zadf r3,r4⟩) (fun N hb=>by simp only [bndL,bnd] at hb ⊢;exact ⟨trivial,trivial,trivial,trivial⟩) h
theorem AW_mid (b:Nat) {f:Hp} {d e:D} {m:Nat} {cs:List D} (hH:S.H = upd f b (some [d,.fr 1 m cs,e]))
    (h:∀ y cp j,S.H y = none → ¬ b = y → m ≤ cp → cp * 1 ≤ m * 1 + j → AW P B n c Q ⟨S.T,upd (upd f b (some [d,.sl y 1 0 m cp,e])) y (some (cs ++ zrP j .any))⟩):AW P B n c Q S:=by
  refine Zv b 1 (all:=[d,.fr 1 m cs,e]) (by rw [hH,Qe]) rfl fun y cp j hy hc hd=>?_
  have hby:¬ b = y:=by rintro rfl;rw [hH,Qe] at hy;cases hy
  have:=h y cp j hy hby hc hd
  have e0:upd (upd S.H b (some ([d,.fr 1 m cs,e].set 1 (.sl y 1 0 m cp)))) y (some (cs ++ zrP j .any)) = upd (upd f b (some [d,.sl y 1 0 m cp,e])) y (some (cs ++ zrP j .any)):=by
    rw [hH]
    funext z
    by_cases e1:z = y
    · subst e1;rw [Qe,Qe]
    · by_cases e2:z = b
      · subst e2;rw [Qd e1,Qe,Qd e1,Qe];rfl
      · rw [Qd e1,Qd e2,Qd e2,Qd e1,Qd e2]
  rw [e0]
  exact this
theorem AW_unmid (b:Nat) {f:Hp} {d e:D} {y m cp:Nat} {Y:List D} (hby:¬ b = y) (hH:S.H = upd (upd f b (some [d,.sl y 1 0 m cp,e])) y (some Y)) (h1:m ≤ Y.length) (h2:cp ≤ Y.length)
    (h:AW P B n c Q ⟨S.T,upd (upd f b (some [d,.fr 1 m (Y.take m),e])) y none⟩):AW P B n c Q S:=by
  refine zaay b 1 (b':=y) (sz:=1) (m:=m) (cp:=cp) (all:=[d,.sl y 1 0 m cp,e]) (cs:=Y) (by rw [hH,Qd hby,Qe]) rfl hby (by rw [hH,Qe]) (by omega) (by omega) (by omega) ?_
  have e0:upd (upd S.H y none) b (some ([d,.sl y 1 0 m cp,e].set 1 (.fr 1 m (Y.take (m * 1))))) = upd (upd f b (some [d,.fr 1 m (Y.take m),e])) y none:=by
    rw [hH]
    funext z
    by_cases e1:z = y
    · subst e1;rw [Qd (fun q=>hby q.symm),Qe,Qe]
    · by_cases e2:z = b
      · subst e2;rw [Qe,Qd e1,Qe,Nat.mul_one];rfl
      · rw [Qd e2,Qd e1,Qd e1,Qd e2,Qd e1,Qd e2]
  rw [e0]
  exact h
theorem AW_outer (b:Nat) {f:Hp} {d:D} {m k:Nat} {cs es:List D} (hH:S.H b = some [.fr 1 m cs,d,.fr 4 k es])
    (h:∀ x z cp cq i j,S.H x = none → S.H z = none → ¬ b = x → ¬ b = z → ¬ x = z → m ≤ cp → cp * 1 ≤ m * 1 + i → k ≤ cq → cq * 4 ≤ k * 4 + j →
      AW P B n c Q ⟨S.T,upd (upd (upd S.H b (some [.sl x 1 0 m cp,d,.sl z 4 0 k cq])) x (some (cs ++ zrP i .any))) z (some (es ++ zrP j .any))⟩):AW P B n c Q S:=by
  refine Zv b 0 (all:=[.fr 1 m cs,d,.fr 4 k es]) hH rfl fun x cp i hx hc hd=>?_
  have hbx:¬ b = x:=by rintro rfl;rw [hH] at hx;cases hx
  refine Zv b 2 (all:=[.sl x 1 0 m cp,d,.fr 4 k es]) ?_ rfl fun z cq j hz hc2 hd2=>?_
  · dsimp only;rw [Qd hbx,Qe];rfl
  · have hxz:¬ x = z:=by rintro rfl;dsimp only at hz;rw [Qe] at hz;cases hz
    have hbz:¬ b = z:=by rintro rfl;dsimp only at hz;rw [Qd hbx,Qe] at hz;cases hz
    have hz0:S.H z = none:=by dsimp only at hz;rw [Qd (fun q=>hxz q.symm),Qd (fun q=>hbz q.symm)] at hz;exact hz
    have:=h x z cp cq i j hx hz0 hbx hbz hxz hc hd hc2 hd2
    have e0:upd (upd (upd (upd S.H b (some ([.fr 1 m cs,d,.fr 4 k es].set 0 (.sl x 1 0 m cp)))) x (some (cs ++ zrP i .any))) b (some ([.sl x 1 0 m cp,d,.fr 4 k es].set 2 (.sl z 4 0 k cq)))) z (some (es ++ zrP j .any))
        = upd (upd (upd S.H b (some [.sl x 1 0 m cp,d,.sl z 4 0 k cq])) x (some (cs ++ zrP i .any))) z (some (es ++ zrP j .any)):=by
      funext q
      by_cases e1:q = z
      · subst e1;rw [Qe,Qe]
      · by_cases e2:q = b
        · subst e2;rw [Qd e1,Qe,Qd e1,Qd hbx,Qe];rfl
        · by_cases e3:q = x
          · subst e3;rw [Qd e1,Qd e2,Qe,Qd e1,Qe]
          · rw [Qd e1,Qd e2,Qd e3,Qd e2,Qd e1,Qd e3,Qd e2]
    dsimp only at this ⊢
    rw [e0]
    exact this
theorem AW_own3 (t:Nat) {x y z m1 m2 m3 cp cq cr:Nat} {X Y Z:List D} (hT:S.T t = .box [.sl x 1 0 m1 cp,.sl y 1 0 m2 cq,.sl z 4 0 m3 cr]) (hx:S.H x = some X) (hy:S.H y = some Y) (hz:S.H z = some Z) (hxy:¬ x = y) (hxz:¬ x = z) (hyz:¬ y = z)
    (h1:m1 ≤ X.length) (h2:cp ≤ X.length) (h3:m2 ≤ Y.length) (h4:cq ≤ Y.length) (h5:m3 * 4 ≤ Z.length) (h6:cr * 4 ≤ Z.length)
    (h:∀ r,S.H r = none → AW P B n c Q ⟨upd S.T t (.ptr r 0),upd (upd (upd (upd S.H x none) y none) z none) r (some [.fr 1 m1 (X.take m1),.fr 1 m2 (Y.take m2),.fr 4 m3 (Z.take (m3 * 4))])⟩):AW P B n c Q S:=by
  refine zacl t hT fun r hr=>?_
  have rx:¬ r = x:=by rintro rfl;rw [hx] at hr;cases hr
  have ry:¬ r = y:=by rintro rfl;rw [hy] at hr;cases hr
  have rz:¬ r = z:=by rintro rfl;rw [hz] at hr;cases hr
  refine zaay r 0 (b':=x) (sz:=1) (m:=m1) (cp:=cp) (all:=[.sl x 1 0 m1 cp,.sl y 1 0 m2 cq,.sl z 4 0 m3 cr]) (cs:=X) (Qe ..) rfl rx (by dsimp only;rw [Qd (zS rx),hx]) (by omega) (by omega) (by omega) ?_
  refine zaay r 1 (b':=y) (sz:=1) (m:=m2) (cp:=cq) (all:=[.fr 1 m1 (X.take (m1 * 1)),.sl y 1 0 m2 cq,.sl z 4 0 m3 cr]) (cs:=Y) (Qe ..) rfl ry (by dsimp only;rw [Qd (zS ry),Qd (zS hxy),Qd (zS ry),hy]) (by omega) (by omega) (by omega) ?_
  refine zaay r 2 (b':=z) (sz:=4) (m:=m3) (cp:=cr) (all:=[.fr 1 m1 (X.take (m1 * 1)),.fr 1 m2 (Y.take (m2 * 1)),.sl z 4 0 m3 cr]) (cs:=Z) (Qe ..) rfl rz (by dsimp only;rw [Qd (zS rz),Qd (zS hyz),Qd (zS rz),Qd (zS hxz),Qd (zS rz),hz]) (by omega) (by omega) (by omega) ?_
  have:=h r hr
  refine cast ?_ this
  congr 2
  funext q
  by_cases e0:q = r
  · subst e0;dsimp only;rw [Qe,Qe,Nat.mul_one,Nat.mul_one];rfl
  · dsimp only
    by_cases e3:q = z
    · subst e3;rw [Qd e0,Qe,Qd e0,Qe]
    · by_cases e1:q = y
      · subst e1;rw [Qd e0,Qd e3,Qe,Qd e0,Qd e3,Qd e0,Qe]
      · by_cases e2:q = x
        · subst e2;rw [Qd e0,Qd e3,Qd e1,Qe,Qd e0,Qd e3,Qd e0,Qd e1,Qd e0,Qe]
        · rw [Qd e0,Qd e3,Qd e1,Qd e2,Qd e0,Qd e3,Qd e0,Qd e1,Qd e0,Qd e2,Qd e0]
end

attribute [go_sem] VS stepS isLoad isApp snH AGL
theorem mk44P (x y z u:D):makeD [x,y,z,u] 4 = [x,y,z,u]:=rfl
theorem ss44P (x y z u x' y' z' u':D):stSeg [x,y,z,u] 0 [x',y',z',u'] = [x',y',z',u']:=rfl
theorem Zm (xs:List Tr4) (ys:List D) {n:Nat} (h:n = xs.length):(cat cT xs ++ ys).take (n * 4) = cat cT xs:=by subst h;exact Ze xs ys
noncomputable def ansS (s:List UInt8):Option Aut3:=match readS s with
  | some q=>if autT q.1 q.2.1 q.2.2 = s then some q else none
  | none=>none
noncomputable def ansI (s:List UInt8):Option Aut3:=match readI s with
  | some q=>if B (AutOk q.1 q.2.1.length q.2.2) = true ∧ autT q.1 q.2.1 q.2.2 = s then some q else none
  | none=>none
def dA:Option Aut3 → D
  | some q=>.tup [.st [fr 1 cI q.1,fr 1 cB q.2.1,fr 4 cT q.2.2],.bool true]
  | none=>.tup [.st [.nil,.nil,.nil],.bool false]
@[go_sem] theorem dA_closed (o:Option Aut3):closed (dA o) = true:=by cases o <;> simp [dA,go_sem]
@[go_sem] theorem dA_bnd (o:Option Aut3):bnd 0 (dA o):=by cases o <;> simp [dA,go_sem]
theorem pcs_nil (c:UInt8):pcs c [] [] = [[]]:=rfl
theorem readS_nil:readS [] = none:=by
  unfold readS
  rw [if_pos (by left;rw [Xn,pcs_nil];simp)]
theorem ansS_read (s:List UInt8):ansS s = match (readA (readS s) s) with | (q,true)=>some q | (_,false)=>none:=by
  unfold ansS
  by_cases h0:s = []
  · subst h0;rw [readS_nil];rfl
  · cases h:readS s with
    | none=>rfl
    | some q =>
      obtain ⟨a,b,c⟩:=q
      dsimp only [readA]
      by_cases h1:autT a b c = s
      · rw [if_pos h1,if_neg (by rintro (k | k);exact h0 k;exact k h1)]
      · rw [if_neg h1,if_pos (.inr h1)]
theorem ansI_read (s:List UInt8):ansI s = match (readA (readI s) s) with | (q,true)=>some q | (_,false)=>none:=by
  unfold ansI
  cases h:readI s with
  | none=>rfl
  | some q =>
    obtain ⟨a,b,c⟩:=q
    dsimp only [readA]
    by_cases h0:s = []
    · subst h0
      rw [if_neg,if_pos (.inl rfl)]
      rintro ⟨k1,k2⟩
      rw [B_iff] at k1
      exact autT_ne k1 k2
    · by_cases h1:autT a b c = s
      · rw [if_pos ⟨B_yes (autT_ok h0 h1),h1⟩,if_neg (by rintro (k | k);exact h0 k;exact k h1)]
      · rw [if_neg (fun k=>h1 k.2),if_pos (.inr h1)]
theorem ans_same (s:List UInt8):ansS s = ansI s:=by rw [ansS_read,ansI_read,readA_same]

theorem zabv (s:List UInt8):(Xg s).length = (pcs 10 s []).length - 4:=by simp [Xg,Xn];omega
theorem edges_nth (s:List UInt8) {i:Nat} (h:i < (pcs 10 s []).length - 4):nth (Xg s) i = nth (pcs 10 s []) (i + 3):=by
  rw [nth_lt (by rw [zabv];exact h),nth_lt (show i + 3 < (pcs 10 s []).length by omega)]
  simp [Xg,Xn,List.getElem_dropLast,Nat.add_comm]
def eT (s:List UInt8) (k:Nat):List Tr4:=((Xg s).take k).map edgeS
theorem eT_zero (s:List UInt8):eT s 0 = []:=by simp [eT]
theorem eT_len {s:List UInt8} {k:Nat} (h:k ≤ (pcs 10 s []).length - 4):(eT s k).length = k:=by simp [eT,zabv];omega
theorem eT_succ {s:List UInt8} {k:Nat} (h:k < (pcs 10 s []).length - 4):eT s (k + 1) = eT s k ++ [edgeS (nth (pcs 10 s []) (k + 3))]:=by
  have hk:k < (Xg s).length:=by rw [zabv];exact h
  rw [eT,List.take_succ_eq_append_getElem hk,List.map_append,← edges_nth s h,nth_lt hk]
  rfl
theorem eT_all {s:List UInt8} {k:Nat} (h:(pcs 10 s []).length - 4 ≤ k):eT s k = (Xg s).map edgeS:=by
  rw [eT,List.take_of_length_le (by rw [zabv];exact h)]
theorem edgeS_small (l:List UInt8):(edgeS l).2.2.1 ≤ 9223372036854775807:=by
  have:=numsL_bd l 2
  unfold edgeS
  dsimp only
  omega
theorem edgesS_small (s:List UInt8):AllSmall ((Xg s).map edgeS):=fun i hi=>by
  rw [nth_lt hi]
  simp only [List.getElem_map]
  exact edgeS_small _
def badE (s:List UInt8) (k:Nat):Bool:=!decide ((numsL (nth (pcs 10 s []) (k + 3))).length = 4)
noncomputable def mkS2 (s:List UInt8):List Bool:=markS (zrP (nth (numsL (nth (pcs 10 s []) 0)) 0).toNat false) (numsL (nth (pcs 10 s []) 2)) (numsL (nth (pcs 10 s []) 2)).length
theorem specA_cases (s:List UInt8) :
    (((pcs 10 s []).length:Int) < 4 ∧ True ∧ True ∧ True ∧ True ∧ True ∧ ansS s = none) ∨
    (¬ ((pcs 10 s []).length:Int) < 4 ∧ 2052 < ((pcs 10 s []).length:Int) ∧ True ∧ True ∧ True ∧ True ∧ ansS s = none) ∨
    (¬ ((pcs 10 s []).length:Int) < 4 ∧ ¬ 2052 < ((pcs 10 s []).length:Int) ∧ ¬ ((numsL (nth (pcs 10 s []) 0)).length:Int) = 1 ∧ True ∧ True ∧ True ∧ ansS s = none) ∨
    (¬ ((pcs 10 s []).length:Int) < 4 ∧ ¬ 2052 < ((pcs 10 s []).length:Int) ∧ ((numsL (nth (pcs 10 s []) 0)).length:Int) = 1 ∧ nth (numsL (nth (pcs 10 s []) 0)) 0 < 1 ∧ True ∧ True ∧ ansS s = none) ∨
    (¬ ((pcs 10 s []).length:Int) < 4 ∧ ¬ 2052 < ((pcs 10 s []).length:Int) ∧ ((numsL (nth (pcs 10 s []) 0)).length:Int) = 1 ∧ ¬ nth (numsL (nth (pcs 10 s []) 0)) 0 < 1 ∧ 64 < nth (numsL (nth (pcs 10 s []) 0)) 0 ∧ True ∧ ansS s = none) ∨
    (¬ ((pcs 10 s []).length:Int) < 4 ∧ ¬ 2052 < ((pcs 10 s []).length:Int) ∧ ((numsL (nth (pcs 10 s []) 0)).length:Int) = 1 ∧ ¬ nth (numsL (nth (pcs 10 s []) 0)) 0 < 1 ∧ ¬ 64 < nth (numsL (nth (pcs 10 s []) 0)) 0 ∧
      (¬ NoneTill (badE s) ((pcs 10 s []).length - 4) ∨ ¬ autT (numsL (nth (pcs 10 s []) 1)) (mkS2 s) ((Xg s).map edgeS) = s) ∧ ansS s = none) ∨
    (¬ ((pcs 10 s []).length:Int) < 4 ∧ ¬ 2052 < ((pcs 10 s []).length:Int) ∧ ((numsL (nth (pcs 10 s []) 0)).length:Int) = 1 ∧ ¬ nth (numsL (nth (pcs 10 s []) 0)) 0 < 1 ∧ ¬ 64 < nth (numsL (nth (pcs 10 s []) 0)) 0 ∧
      (NoneTill (badE s) ((pcs 10 s []).length - 4) ∧ autT (numsL (nth (pcs 10 s []) 1)) (mkS2 s) ((Xg s).map edgeS) = s) ∧ ansS s = some (numsL (nth (pcs 10 s []) 1),mkS2 s,(Xg s).map edgeS)):=by
  have g:∀ i,getL (Xn s) i = nth (pcs 10 s []) i:=fun i=>rfl
  by_cases h1:((pcs 10 s []).length:Int) < 4
  · exact .inl ⟨h1,trivial,trivial,trivial,trivial,trivial,by unfold ansS readS;rw [if_pos (by left;show (pcs 10 s []).length < 4;omega)]⟩
  · by_cases h2 : 2052 < ((pcs 10 s []).length:Int)
    · exact .inr (.inl ⟨h1,h2,trivial,trivial,trivial,trivial,by unfold ansS readS;rw [if_pos (by right;show 2052 < (pcs 10 s []).length;omega)]⟩)
    · have n1 : ¬ ((Xn s).length < 4 ∨ 2052 < (Xn s).length):=by show ¬ ((pcs 10 s []).length < 4 ∨ 2052 < (pcs 10 s []).length);omega
      by_cases h3:((numsL (nth (pcs 10 s []) 0)).length:Int) = 1
      · by_cases h4:nth (numsL (nth (pcs 10 s []) 0)) 0 < 1
        · exact .inr (.inr (.inr (.inl ⟨h1,h2,h3,h4,trivial,trivial,by unfold ansS readS;rw [if_neg n1,if_pos (by rw [g];exact .inr (.inl h4))]⟩)))
        · by_cases h5:64 < nth (numsL (nth (pcs 10 s []) 0)) 0
          · exact .inr (.inr (.inr (.inr (.inl ⟨h1,h2,h3,h4,h5,trivial,by unfold ansS readS;rw [if_neg n1,if_pos (by rw [g];exact .inr (.inr h5))]⟩))))
          · have n2:¬ ((numsL (getL (Xn s) 0)).length ≠ 1 ∨ Go.Proofs.YtiilmjojffjhlaaGreatDoor.nth (numsL (getL (Xn s) 0)) 0 < 1 ∨ 64 < Go.Proofs.YtiilmjojffjhlaaGreatDoor.nth (numsL (getL (Xn s) 0)) 0):=by
              rw [g]
              rintro (k | k | k)
              · omega
              · exact h4 k
              · exact h5 k
            have ha:(Xg s).all (fun l=>decide ((numsL l).length = 4)) = true ↔ NoneTill (badE s) ((pcs 10 s []).length - 4):=by
              rw [List.all_eq_true]
              constructor
              · intro k i hi
                have hi2:i < (Xg s).length:=by rw [zabv];exact hi
                have:=k _ (List.getElem_mem hi2)
                rw [← nth_lt hi2,edges_nth s hi] at this
                rw [badE,this];rfl
              · intro k l hl
                obtain ⟨i,hi,rfl⟩:=List.getElem_of_mem hl
                have hi2:i < (pcs 10 s []).length - 4:=by rw [← zabv];exact hi
                have:=k i hi2
                rw [← nth_lt hi,edges_nth s hi2]
                simpa [badE] using this
            have hr:∀ (p:NoneTill (badE s) ((pcs 10 s []).length - 4)),readS s = some (numsL (nth (pcs 10 s []) 1),mkS2 s,(Xg s).map edgeS):=fun p=>by
              unfold readS
              rw [if_neg n1,if_neg n2,if_pos (ha.2 p)]
              rfl
            by_cases h6:NoneTill (badE s) ((pcs 10 s []).length - 4)
            · by_cases h7:autT (numsL (nth (pcs 10 s []) 1)) (mkS2 s) ((Xg s).map edgeS) = s
              · exact .inr (.inr (.inr (.inr (.inr (.inr ⟨h1,h2,h3,h4,h5,⟨h6,h7⟩,by unfold ansS;rw [hr h6];dsimp only;rw [if_pos h7]⟩)))))
              · exact .inr (.inr (.inr (.inr (.inr (.inl ⟨h1,h2,h3,h4,h5,.inr h7,by unfold ansS;rw [hr h6];dsimp only;rw [if_neg h7]⟩)))))
            · exact .inr (.inr (.inr (.inr (.inr (.inl ⟨h1,h2,h3,h4,h5,.inl h6,by unfold ansS readS;rw [if_neg n1,if_neg n2,if_neg (fun q=>h6 (ha.1 q))]⟩)))))
      · exact .inr (.inr (.inl ⟨h1,h2,h3,trivial,trivial,trivial,by unfold ansS readS;rw [if_neg n1,if_pos (by rw [g];left;omega)]⟩))
end Go.Proofs.YtiilmjojffjhlaaGreatDoor.Vm

