import Derived.Test.YtiilmjojffjhlaaGreatDoorY9
import Derived.Test.YtiilmjojffjhlaaGreatDoorW43
/-
  Texts drawn out of a list, texts bent. No conditions.
-/
namespace Go.Proofs.YtiilmjojffjhlaaGreatDoor.Vm
open Go
open List renaming getD_eq_getElem?_getD → zg,drop_one → zd
noncomputable section
set_option linter.unusedVariables false
set_option linter.unusedSimpArgs false
set_option maxRecDepth 200000

def ofT (ys:List UInt8) (p:Int) (xs:List (List UInt8)):List UInt8:=nth xs (pkI ys p xs.length).toNat
theorem ldT_app {xs:List (List UInt8)} {i:Nat} (h:i < xs.length) (ys:List D):(cat cStr xs ++ ys).getD i .any = .str (nth xs i):=by
  rw [List.getD_eq_getElem?_getD,List.getElem?_append_left (by rw [Qv];omega),← List.getD_eq_getElem?_getD,cat_get1 h];rfl
theorem of_spec (ys:List UInt8) (p:Int) (xs:List (List UInt8)) (b:Nat) (H:Hp) (hH:H b = some [li cY ys,.int .i64 p]) (h0:0 ≤ p) (hp:p ≤ 1000000) (hl:ys.length ≤ 2000) (hx:1 ≤ xs.length) (hn:xs.length ≤ 1000000) :
    Spec Tryz.prog 76 [.ptr b 0,fr 1 cStr xs] H (.str (ofT ys p xs)) (upd H b (some [li cY ys,.int .i64 (p + 1)])):=by
  refine Spec.of_walk Tryz.func76 rfl (by simp [Tryz.f76]) fun B=>?_
  obtain ⟨k1,k2⟩:=zafk ys hp (n:=(xs.length:Int)) (by omega)
  have k3:(pkI ys p xs.length).toNat < xs.length:=by omega
  (repeat' (first
 | refine Qs ?_
 | refine Qc (id:=0) Γy29_ok [] (by kernel_rfl) ?_;simp [-zg,-zd,↓Qb,↓Qa,go_sem];try (refine Vl 1 rfl fun c cp j hc hcp hj=>?_;have hbc:¬ b = c:=(by rintro rfl;dsimp only at hc;rw [hH] at hc;cases hc))
 | refine Qc (id:=1) Γy29_ok [] (by kernel_rfl) ?_;simp [-zg,-zd,↓Qb,↓Qa,go_sem,hH,hbc,Ne.symm hbc,h0,hp,hl,k1,k2,k3,(show (xs.length:Int) ≤ 1000000 by omega),(show xs.length ≤ 1000000 by omega),ldT_app k3,(show (pkI ys p xs.length).toNat < xs.length + j by omega)]
 | (refine Qf ?_)
 | (refine Qr ?_;simp [-zg,-zd,↓Qb,↓Qa,go_sem])
 | (refine Qq ?_;simp [-zg,-zd,↓Qb,↓Qa,go_sem])
 | (refine Qt ?_;simp [-zg,-zd,↓Qb,↓Qa,go_sem,Tryz.results76])
 | (intro hx;refine zA ?_)
 | (refine ⟨?_,?_⟩ <;> refine zA ?_)
 | (intro hx;constructor <;> intro hs)
 | (constructor <;> intro hs)
 | (refine ⟨?_,fun hs=>?_⟩;refine zA ?_)
 | (refine ⟨fun hs=>?_,?_⟩;rotate_left;refine zA ?_;rotate_left)))
  all_goals (first
 | (refine ⟨rfl,fun b' cs' h=>?_⟩;dsimp only at hc;by_cases e1:b' = b <;> by_cases e2:b' = c <;> simp_all;done)
 | skip)
@[go_sem] def ofC:Con:=.gen fun args H=>match args with
  | [.ptr b 0,.fr 1 n ds]=>match H b with
    | some [.list m cs,.int .i64 p]=>(Is cY m cs ∧ Is cStr n ds ∧ 0 ≤ p ∧ p ≤ 1000000 ∧ m ≤ 2000 ∧ 1 ≤ n ∧ n ≤ 1000000,.str (ofT (de cY cs) p (de cStr ds)),upd H b (some [.list m cs,.int .i64 (p + 1)]))
    | _=>(False,.any,H)
  | _=>(False,.any,H)
theorem ofC_ok:ConOk Tryz.prog 76 ofC:=by
  refine ⟨Qo Tryz.func76 (by decide) rfl,fun args H h=>?_⟩
  revert h
  dsimp only
  split
  · rename_i b n ds
    split
    · rename_i m cs p hH
      rintro ⟨⟨ys,rfl,rfl⟩,⟨xs,rfl,rfl⟩,h0,h1,h2,h3,h4⟩
      rw [Qp,Qp]
      exact of_spec ys p xs b H hH h0 h1 h2 h3 h4
    · intro h;exact h.elim
  · intro h
    exact h.elim
@[go_sem] def Γyt1:FuncId → Con:=ext Γy29 76 ofC
theorem zahu:∀ g,ConOk Tryz.prog g (Γyt1 g):=Qn Γy29_ok ofC_ok
def bendT (ys:List UInt8) (p:Int) (s:List UInt8) (gs:List (List UInt8)):List UInt8 :=
  if s.length = 0 then s else if pkI ys p 2 = 0 then s else s.take (pkI ys (p + 1) s.length).toNat ++ ofT ys (p + 1 + 1) gs ++ s.drop (pkI ys (p + 1) s.length + pkI ys (p + 1 + 1 + 1) 2).toNat
def bendP (ys:List UInt8) (p:Int) (s:List UInt8):Int :=
  if s.length = 0 then p else if pkI ys p 2 = 0 then p + 1 else p + 1 + 1 + 1 + 1
theorem ofT_le (ys:List UInt8) {p:Int} (hp:p ≤ 1000000) {gs:List (List UInt8)} (hg:1 ≤ gs.length) (h:∀ t ∈ gs,t.length ≤ 10):(ofT ys p gs).length ≤ 10:=by
  obtain ⟨k1,k2⟩:=zafk ys hp (n:=(gs.length:Int)) (by omega)
  have k3:(pkI ys p gs.length).toNat < gs.length:=by omega
  unfold ofT
  rw [nth_lt k3]
  exact h _ (List.getElem_mem k3)

set_option maxHeartbeats 1000000 in
theorem bend_spec (ys:List UInt8) (p:Int) (s:List UInt8) (gs:List (List UInt8)) (b:Nat) (H:Hp) (hH:H b = some [li cY ys,.int .i64 p]) (h0:0 ≤ p) (hp:p ≤ 800000) (hl:ys.length ≤ 2000) (hs:s.length ≤ 1000000) (hg:1 ≤ gs.length) (hg2:gs.length ≤ 1000) (hg3:∀ t ∈ gs,t.length ≤ 10) :
    Spec Tryz.prog 50 [.ptr b 0,.str s,fr 1 cStr gs] H (.str (bendT ys p s gs)) (upd H b (some [li cY ys,.int .i64 (bendP ys p s)])):=by
  refine Spec.of_walk Tryz.func50 rfl (by simp [Tryz.f50]) fun B=>?_
  have u:=ofT_le ys (p:=p + 1 + 1) (by omega) hg hg3
  by_cases h1:s.length = 0 <;> by_cases h2:pkI ys p 2 = 0
  all_goals (repeat' (first
 | refine Qs ?_
 | refine Qc (id:=0) zahu [] (by kernel_rfl) ?_;simp [-zg,-zd,↓Qb,↓Qa,go_sem]
 | refine Qc (id:=1) zahu [11] (by kernel_rfl) ?_;simp [-zg,-zd,↓Qb,↓Qa,go_sem,hH,h0,hl,h1,h2,(show p ≤ 1000000 by omega)];try (refine ⟨fun s1a=>?_,fun s1a=>?_⟩ <;> (try simp [B_iff,B_not] at s1a) <;> try (refine ⟨fun s1b=>?_,fun s1b=>?_⟩ <;> (try simp [B_iff,B_not] at s1b)))
 | refine Qc (id:=2) zahu [] (by kernel_rfl) ?_;simp [-zg,-zd,↓Qb,↓Qa,go_sem]
 | (obtain ⟨k1,k2⟩:=zafk ys (p:=p + 1) (by omega) (n:=(s.length:Int)) (by omega);obtain ⟨k3,k4⟩:=zafk ys (p:=p + 1 + 1 + 1) (by omega) (n:=2) (by omega));refine Qc (id:=3) zahu [] (by kernel_rfl) ?_;simp [-zg,-zd,↓Qb,↓Qa,go_sem,hH,hl,(show 0 ≤ p + 1 by omega),(show p + 1 ≤ 1000000 by omega),(show (s.length:Int) ≤ 1000000 by omega),(show s.length ≤ 1000000 by omega)]
 | refine Xx (id:=4) zahu mixed [] [1,7,0] (by kernel_rfl) (by kernel_rfl) (by simp [-zg,-zd,↓Qb,↓Qa,go_sem,hl,hg,hg3,(show gs.length ≤ 1000000 by omega),(show 0 ≤ p + 1 + 1 by omega),(show p + 1 + 1 ≤ 1000000 by omega),(show 0 ≤ p + 1 + 1 + 1 by omega),(show p + 1 + 1 + 1 ≤ 1000000 by omega),k1,(show pkI ys (p + 1) s.length ≤ s.length by omega),wrap_in (x:=pkI ys (p + 1) s.length + pkI ys (p + 1 + 1 + 1) 2) (by omega) (by omega),(show 0 ≤ pkI ys (p + 1) s.length + pkI ys (p + 1 + 1 + 1) 2 by omega),(show pkI ys (p + 1) s.length + pkI ys (p + 1 + 1 + 1) 2 ≤ s.length by omega),(show (pkI ys (p + 1) s.length).toNat + (ofT ys (p + 1 + 1) gs).length ≤ 9223372036854775807 by omega),(show (pkI ys (p + 1) s.length).toNat + (ofT ys (p + 1 + 1) gs).length + min (↑s.length - (pkI ys (p + 1) s.length + pkI ys (p + 1 + 1 + 1) 2)).toNat (s.length - (pkI ys (p + 1) s.length + pkI ys (p + 1 + 1 + 1) 2).toNat) ≤ 9223372036854775807 by omega)]) ?_;simp [-zg,-zd,↓Qb,↓Qa,go_sem,hl,hg,hg3,(show gs.length ≤ 1000000 by omega),(show 0 ≤ p + 1 + 1 by omega),(show p + 1 + 1 ≤ 1000000 by omega),(show 0 ≤ p + 1 + 1 + 1 by omega),(show p + 1 + 1 + 1 ≤ 1000000 by omega),k1,(show pkI ys (p + 1) s.length ≤ s.length by omega),wrap_in (x:=pkI ys (p + 1) s.length + pkI ys (p + 1 + 1 + 1) 2) (by omega) (by omega),(show 0 ≤ pkI ys (p + 1) s.length + pkI ys (p + 1 + 1 + 1) 2 by omega),(show pkI ys (p + 1) s.length + pkI ys (p + 1 + 1 + 1) 2 ≤ s.length by omega),(show (pkI ys (p + 1) s.length).toNat + (ofT ys (p + 1 + 1) gs).length ≤ 9223372036854775807 by omega),(show (pkI ys (p + 1) s.length).toNat + (ofT ys (p + 1 + 1) gs).length + min (↑s.length - (pkI ys (p + 1) s.length + pkI ys (p + 1 + 1 + 1) 2)).toNat (s.length - (pkI ys (p + 1) s.length + pkI ys (p + 1 + 1 + 1) 2).toNat) ≤ 9223372036854775807 by omega)]
 | refine Qe (c:=.tmp 15) ?_;simp [-zg,-zd,↓Qb,↓Qa,go_sem];try first | (refine ⟨?_,?_⟩ <;> refine zA ?_) | (refine ⟨fun c15=>?_,fun c15=>?_⟩ <;> (try simp [B_iff,B_not] at c15))
 | (refine Qf ?_)
 | (refine Qr ?_;simp [-zg,-zd,↓Qb,↓Qa,go_sem])
 | (refine Qq ?_;simp [-zg,-zd,↓Qb,↓Qa,go_sem])
 | (refine Qt ?_;simp [-zg,-zd,↓Qb,↓Qa,go_sem,Tryz.results50])
 | (intro hx;refine zA ?_)
 | (refine ⟨?_,?_⟩ <;> refine zA ?_)
 | (intro hx;constructor <;> intro hs)
 | (constructor <;> intro hs)
 | (refine ⟨?_,fun hs=>?_⟩;refine zA ?_)
 | (refine ⟨fun hs=>?_,?_⟩;rotate_left;refine zA ?_;rotate_left)))
  all_goals (first
 | (have e1:bendT ys p s gs = s:=(by simp [bendT,h1,h2]);have e2:bendP ys p s = p:=(by simp [bendP,h1]);refine ⟨e1.symm,fun z cs h=>?_⟩;rw [e2] at h;by_cases e:z = b <;> simp_all [li];done)
 | (have e1:bendT ys p s gs = s:=(by simp [bendT,h1,h2]);have e2:bendP ys p s = p + 1:=(by simp [bendP,h1,h2]);refine ⟨e1.symm,fun z cs h=>?_⟩;rw [e2] at h;by_cases e:z = b <;> simp_all [li];done)
 | (have e1:bendT ys p s gs = s.take (pkI ys (p + 1) s.length).toNat ++ ofT ys (p + 1 + 1) gs ++ s.drop (pkI ys (p + 1) s.length + pkI ys (p + 1 + 1 + 1) 2).toNat:=(by simp [bendT,h1,h2]);have e2:bendP ys p s = p + 1 + 1 + 1 + 1:=(by simp [bendP,h1,h2]);have e3:(s.drop (pkI ys (p + 1) s.length + pkI ys (p + 1 + 1 + 1) 2).toNat).take (↑s.length - (pkI ys (p + 1) s.length + pkI ys (p + 1 + 1 + 1) 2)).toNat = s.drop (pkI ys (p + 1) s.length + pkI ys (p + 1 + 1 + 1) 2).toNat:=(by apply List.take_of_length_le;rw [List.length_drop];omega);refine ⟨(by rw [e1,← e3];simp [e3]),fun z cs h=>?_⟩;rw [e2] at h;by_cases e:z = b <;> simp_all [li];done)
 | skip)
def Short (gs:List (List UInt8)):Prop:=∀ t ∈ gs,t.length ≤ 10
@[go_sem] def bendC:Con:=.gen fun args H=>match args with
  | [.ptr b 0,.str s,.fr 1 n ds]=>match H b with
    | some [.list m cs,.int .i64 p]=>(Is cY m cs ∧ Is cStr n ds ∧ 0 ≤ p ∧ p ≤ 800000 ∧ m ≤ 2000 ∧ s.length ≤ 1000000 ∧ 1 ≤ n ∧ n ≤ 1000 ∧ Short (de cStr ds),.str (bendT (de cY cs) p s (de cStr ds)),upd H b (some [.list m cs,.int .i64 (bendP (de cY cs) p s)]))
    | _=>(False,.any,H)
  | _=>(False,.any,H)
theorem bendC_ok:ConOk Tryz.prog 50 bendC:=by
  refine ⟨Qo Tryz.func50 (by decide) rfl,fun args H h=>?_⟩
  revert h
  dsimp only
  split
  · rename_i b s n ds
    split
    · rename_i m cs p hH
      rintro ⟨⟨ys,rfl,rfl⟩,⟨gs,rfl,rfl⟩,h0,h1,h2,h3,h4,h5,h6⟩
      rw [Qp,Qp] at *
      exact bend_spec ys p s gs b H hH h0 h1 h2 h3 h4 h5 h6
    · intro h;exact h.elim
  · intro h
    exact h.elim
@[go_sem] def Γyt2:FuncId → Con:=ext Γyt1 50 bendC
theorem Γyt2_ok:∀ g,ConOk Tryz.prog g (Γyt2 g):=Qn zahu bendC_ok

theorem bendT_len {ys:List UInt8} {p:Int} {s:List UInt8} {gs:List (List UInt8)} (hp:p ≤ 900000) (hg:1 ≤ gs.length) (h:∀ t ∈ gs,t.length ≤ 10):(bendT ys p s gs).length ≤ 2 * s.length + 10:=by
  have h2:=ofT_le ys (p:=p + 1 + 1) (by omega) hg h
  unfold bendT
  split
  · omega
  · split
    · omega
    · simp only [List.length_append,List.length_take,List.length_drop];omega

@[go_sem] def Ub:Au → D:=sA
theorem zaei (x:Au):dat (Ub x) = Ub x:=by simp [go_sem]
def zaag (xs:List UInt8):Au → Prop:=fun x=>AuM x
def zaak (xs:List UInt8) (x:(Au) × D):Prop:=zaag xs x.1 ∧ dat x.2 = Ub x.1
def zaaf (xs:List UInt8) (c:Any):(Au) × D:=sel (zaak xs) ((([],[],[]):Au),Ub (([],[],[]))) c
def zaav (xs:List UInt8) (c:Any):Au:=(zaaf xs c).1
theorem zabn (xs:List UInt8)  (c:Any):zaak xs (zaaf xs c):=by
  have hx:zaag xs (([],[],[])):=AuM.nil
  exact Zi (p:=zaak xs) (x0:=((([],[],[]):Au),Ub (([],[],[])))) ⟨hx,zaei _⟩ c
theorem zaff (xs:List UInt8)  (c:Any):zaag xs (zaav xs c):=(zabn xs  c).1
theorem zaep (xs:List UInt8) {e_:Exit} {S_:St} (x:Au) (he_:e_ = .ret ∨ e_ = .normal)
    (h1:(Qg Tryz.prog S_ Tryz.f18.results.toList).1 ∧ dat (resD (Qg Tryz.prog S_ Tryz.f18.results.toList).2.1) = Ub x) (hg:zaag xs x) :
    retR Tryz.prog Tryz.f18 (fun c=>((zaaf xs c).2,fun _=>none)) e_ S_ :=
  Ze (good:=zaak xs) (enc:=fun x:(Au) × D=>x.2) (x,resD (Qg Tryz.prog S_ Tryz.f18.results.toList).2.1) he_ ⟨h1.1,rfl⟩ ⟨hg,h1.2⟩
set_option maxHeartbeats 8000000 in
theorem zaeh (xs:List UInt8)  : SpecR Tryz.prog 18 [li cY xs] (fun _=>none) (fun c=>((zaaf xs c).2,fun _=>none)):=by
  refine SpecR.of_walk Tryz.func18 rfl (by simp [Tryz.f18]) fun B=>?_
  (repeat' (first
 | refine Qs ?_
 | refine Qc (id:=0) Γyt2_ok [] (by kernel_rfl) ?_;simp [-zg,-zd,↓Qb,↓Qa,go_sem]
 | refine Qc (id:=1) Γyt2_ok [] (by kernel_rfl) ?_;simp [-zg,-zd,↓Qb,↓Qa,go_sem];try ((intro c2);(have h2:AuM (zaal xs c2):=zafy xs c2);(generalize (zaal xs c2) = z at *))
 | (refine Qf ?_)
 | (refine Qr ?_;simp [-zg,-zd,↓Qb,↓Qa,go_sem])
 | (refine Qq ?_;simp [-zg,-zd,↓Qb,↓Qa,go_sem])
 | (refine Qt ?_;try simp [-zg,-zd,↓Qb,↓Qa,go_sem,Tryz.results18])
 | (intro hx;refine zA ?_)
 | (intro hx;change retR _ _ _ _ _)
 | (refine ⟨?_,?_⟩ <;> refine zA ?_)
 | (intro hx;constructor <;> intro hs)
 | (constructor <;> intro hs)
 | (refine ⟨?_,fun hs=>?_⟩;refine zA ?_)
 | (refine ⟨fun hs=>?_,?_⟩;rotate_left;refine zA ?_;rotate_left)))
  all_goals (first
 | (refine zaep _ (z) ?_ ?_ ?_;(first | exact Or.inl rfl | exact Or.inr rfl);(focus (simp [-zg,-zd,↓Qb,↓Qa,go_sem,Tryz.results18,dat,datL_map,li];done));(focus ((exact h2);done)))
 | skip)
@[go_sem] def zaat:Con:=.rel fun args H=>match args with
  | [.list n_xs c_xs]=>((Is cY n_xs c_xs),fun c=>(Ub (zaav (de cY c_xs) c),H))
  | _=>(False,fun _=>(.any,H))
theorem zabo:ConOk Tryz.prog 18 zaat:=by
  refine ⟨Qo Tryz.func18 (by decide) rfl,fun args H h=>?_⟩
  revert h
  dsimp only
  split
  · intro h
    obtain ⟨xs,rfl,rfl⟩:=h
    try simp only [Qp] at *
    exact SpecR.enc ((SpecR.frame0 (zaeh xs ) (H:=H)).shut) fun c=>Prod.ext (zabn _  c).2.symm rfl
  · intro h
    exact h.elim
@[go_sem] def Γyt3:FuncId → Con:=ext Γyt2 18 zaat
theorem Γyt3_ok:∀ g,ConOk Tryz.prog g (Γyt3 g):=Qn Γyt2_ok zabo

@[go_sem] def Γyt4:FuncId → Con:=ext Γyt3 20 zaad
theorem Γyt4_ok:∀ g,ConOk Tryz.prog g (Γyt4 g):=Qn Γyt3_ok zaax

def signsA:List (List UInt8):=[[],[32],[10],[48],[55],[120],[101,100,103,101]]
@[go_sem] theorem sgA_is:Is cStr 7 [.str [],.str [32],.str [10],.str [48],.str [55],.str [120],.str [101,100,103,101]] = True:=eq_true ⟨signsA,rfl,rfl⟩
@[go_sem] theorem sgA_de:de cStr [.str [],.str [32],.str [10],.str [48],.str [55],.str [120],.str [101,100,103,101]] = signsA:=Qp (f:=cStr) signsA
theorem signsA_ok:∀ t ∈ signsA,t.length ≤ 10:=by decide
@[go_sem] theorem signsA_sh:Short signsA = True:=eq_true signsA_ok
theorem autT_le (a:List Int) (b:List Bool) (c:List Tr4):(autT a b c).length ≤ 102000:=by
  cases h:Vm.B (AutOk a b.length c) with
  | false=>rw [autT_no h];simp
  | true =>
    rw [zaiq h]
    rw [B_iff] at h
    have hN:=autN h
    have h1:=zafr hN c.length (Nat.le_refl _)
    have h2:=hN.lc
    omega

@[go_sem] def zaba:List UInt8 → D:=fun x=>.str x
@[go_sem] def zaab:List UInt8 → D:=fun x=>.str x
theorem zafd (x:List UInt8):dat (zaab x) = zaba x:=by simp [go_sem]
def zaaa (xs:List UInt8):List UInt8 → Prop:=fun x=>x.length ≤ 1000000
def zaac (xs:List UInt8) (c:Any):List UInt8:=sel (zaaa xs) ([]) c
theorem zafx (xs:List UInt8)  (c:Any):zaaa xs (zaac xs c):=Zi (p:=zaaa xs) (x0:=[]) (by simp [zaaa]) c
theorem zafc (xs:List UInt8) {e_:Exit} {S_:St} (x:List UInt8) (he_:e_ = .ret ∨ e_ = .normal)
    (h1:(Qg Tryz.prog S_ Tryz.f24.results.toList).1 ∧ resD (Qg Tryz.prog S_ Tryz.f24.results.toList).2.1 = zaab x) (hg:zaaa xs x) :
    retR Tryz.prog Tryz.f24 (fun c=>(zaab (zaac xs c),fun _=>none)) e_ S_:=Ze (enc:=zaab) x he_ h1 hg
set_option maxHeartbeats 8000000 in
theorem zaeo (xs:List UInt8)  : SpecR Tryz.prog 24 [li cY xs] (fun _=>none) (fun c=>(zaab (zaac xs c),fun _=>none)):=by
  refine SpecR.of_walk Tryz.func24 rfl (by simp [Tryz.f24]) fun B=>?_
  have hl:=cut_len xs
  all_goals (repeat' (first
 | refine Qs ?_
 | refine Qc (id:=0) Γyt4_ok [] (by kernel_rfl) ?_;simp [-zg,-zd,↓Qb,↓Qa,go_sem]
 | refine Qc (id:=1) Γyt4_ok [] (by kernel_rfl) ?_;simp [-zg,-zd,↓Qb,↓Qa,go_sem];try (refine Jd 3 rfl fun b hb=>?_;clear hb)
 | ((have u2:∀ c,AuS (Xn 0 c).1 ∧ 0 ≤ (Xn 0 c).2 ∧ (Xn 0 c).2 ≤ 300:=(fun c=>by have h:=zahg 0 c;exact ⟨h.1,by omega,by omega⟩));(have u3:∀ c,AllSmall (Xn 0 c).1.2.2 ∧ (Xn 0 c).2 ≤ 800000:=(fun c=>⟨(u2 c).1.2.2.2,by have:=(u2 c).2.2;omega⟩));(have u4:∀ a b c,(autT a b c).length ≤ 1000000:=(fun a b c=>Nat.le_trans (autT_le a b c) (by omega))));refine Qc (id:=2) Γyt4_ok [] (by kernel_rfl) ?_;simp [-zg,-zd,↓Qb,↓Qa,go_sem,hl,u2,u3,u4];try ((intro c2);(have h2:=(u2 c2));(generalize (Xn 0 c2) = z at *);(obtain ⟨⟨za,zb,zc⟩,pz⟩:=z);(dsimp only at h2 ⊢);(have h5:=bendT_len (ys:=Ux xs) (p:=pz) (s:=autT za zb zc) (gs:=signsA) (by omega) (by decide) signsA_ok);(have h6:=autT_le za zb zc))
 | (refine Qf ?_)
 | (refine Qr ?_;simp [-zg,-zd,↓Qb,↓Qa,go_sem])
 | (refine Qq ?_;simp [-zg,-zd,↓Qb,↓Qa,go_sem])
 | (refine Qt ?_;try simp [-zg,-zd,↓Qb,↓Qa,go_sem,Tryz.results24])
 | (intro hx;refine zA ?_)
 | (intro hx;change retR _ _ _ _ _)
 | (refine ⟨?_,?_⟩ <;> refine zA ?_)
 | (intro hx;constructor <;> intro hs)
 | (constructor <;> intro hs)
 | (refine ⟨?_,fun hs=>?_⟩;refine zA ?_)
 | (refine ⟨fun hs=>?_,?_⟩;rotate_left;refine zA ?_;rotate_left)))
  all_goals (first
 | (refine zafc _ ((bendT (Ux xs) pz (autT za zb zc) signsA)) ?_ ?_ ?_;(first | exact Or.inl rfl | exact Or.inr rfl);(focus (simp [-zg,-zd,↓Qb,↓Qa,go_sem,Tryz.results24];done));(focus (((simp only [zaaa];omega));done)))
 | skip)
@[go_sem] def zabk:Con:=.rel fun args H=>match args with
  | [.list n_xs c_xs]=>((Is cY n_xs c_xs),fun c=>(zaba (zaac (de cY c_xs) c),H))
  | _=>(False,fun _=>(.any,H))
theorem zafe:ConOk Tryz.prog 24 zabk:=by
  refine ⟨Qo Tryz.func24 (by decide) rfl,fun args H h=>?_⟩
  revert h
  dsimp only
  split
  · intro h
    obtain ⟨xs,rfl,rfl⟩:=h
    try simp only [Qp] at *
    have h1_:=(SpecR.frame0 (zaeo xs ) (H:=H)).shut
    simp only [zafd] at h1_
    exact h1_
  · intro h
    exact h.elim
end
end Go.Proofs.YtiilmjojffjhlaaGreatDoor.Vm

