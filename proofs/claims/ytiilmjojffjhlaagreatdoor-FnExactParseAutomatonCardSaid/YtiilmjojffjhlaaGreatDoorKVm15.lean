import Derived.Test.YtiilmjojffjhlaaGreatDoorKVm10
/-
  The rules of walks over abstract states; contracts out of walks. No conditions; nothing of the program is named here.
-/
namespace Go.Proofs.YtiilmjojffjhlaaGreatDoor.Vm
open Go
set_option linter.unusedVariables false
set_option linter.unusedSimpArgs false
set_option linter.unusedSectionVars false
section
variable {P:Program} {Γ:FuncId → Con} {B:Base} {n:Nat} {S S':St} {Q:Exit → St → Prop}

def Exit.thenA (next:St → Prop) (Q:Exit → St → Prop):Exit → St → Prop
  | .normal,S=>next S
  | e,S=>Q e S
theorem Qr {x y:Code} (h:AW P B n x (Exit.thenA (AW P B n y Q) Q) S):AW P B n (.seq x y) Q S:=fun a w μ fp N hR =>
  wp_seq (wp_mono (h a w μ fp N hR) fun e a' w' he=>by
    cases e with
    | normal=>obtain ⟨S',μ',fp',N',h1,h2⟩:=he;exact h2 a' w' μ' fp' N' h1
    | exit id=>exact he
    | ret=>exact he
    | goto l=>exact he
    | panic c=>exact he
    | outgrown=>exact he)
theorem Qp (h:Q .normal S):AW P B n .skip Q S:=fun a w μ fp N hR=>wp_skip ⟨S,μ,fp,N,hR,h⟩
theorem Qq {id:Nat} (h:Q (.exit id) S):AW P B n (.exit id) Q S:=fun a w μ fp N hR=>wp_exit ⟨S,μ,fp,N,hR,h⟩
theorem Qs (h:Q .ret S):AW P B n .ret Q S:=fun a w μ fp N hR=>wp_ret ⟨S,μ,fp,N,hR,h⟩
theorem AW_cond {c:Operand} {x y:Code} {b:Bool} (hc:look S.T c = .bool b) (h1:b = true → AW P B n x Q S) (h2:b = false → AW P B n y Q S):AW P B n (.cond c x y) Q S:=fun a w μ fp N hR =>
  wp_cond_split (t:=b) (by have:=(hR.look c).1;rw [hc] at this;simp only [Rep] at this;exact this.2) (fun e=>h1 e a w μ fp N hR) (fun e=>h2 e a w μ fp N hR)
theorem AW_cond2 {c:Operand} {x y:Code} (hc:look S.T c = .ubool) (h1:AW P B n x Q S) (h2:AW P B n y Q S):AW P B n (.cond c x y) Q S:=fun a w μ fp N hR=>by
  have:=(hR.look c).1
  rw [hc] at this
  simp only [Rep] at this
  obtain ⟨_,b,hb⟩:=this
  exact wp_cond_split hb (fun _=>h1 a w μ fp N hR) (fun _=>h2 a w μ fp N hR)
def Exit.inBlockA (id:Nat) (Q:Exit → St → Prop):Exit → St → Prop
  | .exit id',S=>if id' = id then Q .normal S else Q (.exit id') S
  | e,S=>Q e S
theorem Qg {id:Nat} {c:Code} (h:AW P B n c (Exit.inBlockA id Q) S):AW P B n (.block id c) Q S:=fun a w μ fp N hR =>
  wp_block (wp_mono (h a w μ fp N hR) fun e a' w' he=>by
    cases e with
    | normal=>exact he
    | exit id' =>
      obtain ⟨S',μ',fp',N',h1,h2⟩:=he
      simp only [Exit.inBlock,Exit.inBlockA] at h2 ⊢
      split
      · rename_i e;rw [if_pos e] at h2;exact ⟨S',μ',fp',N',h1,h2⟩
      · rename_i e;rw [if_neg e] at h2;exact ⟨S',μ',fp',N',h1,h2⟩
    | ret=>exact he
    | goto l=>exact he
    | panic c=>exact he
    | outgrown=>exact he)
theorem wp_loop_ix {c:Code} {Q:Exit → Act → World → Prop} (I:Nat → Act → World → Prop) {k0:Nat} {a:Act} {w:World} (h₀:I k0 a w)
    (round:∀ k a w,I k a w → c.wp P (Exit.then (fun a' w'=>∃ k',k' < k ∧ I k' a' w') Q) a w):(Code.loop c).wp P Q a w:=by
  intro b k cs
  have key:∀ n a w,I n a w → ∃ e a' w',Q e a' w' ∧ Arrives P (lone (b.at a (.code c :: .inLoop c :: k)) cs w) b k cs e a' w':=by
    intro n
    induction n using Nat.strongRecOn with
    | _ n ih =>
      intro a w hI
      obtain ⟨e,a₁,w₁,hq,harr⟩:=round n a w hI b (.inLoop c :: k) cs
      cases e with
      | normal =>
        obtain ⟨k',hlt,hI₁⟩:=hq
        obtain ⟨e₂,a₂,w₂,hq₂,harr₂⟩:=ih k' hlt a₁ w₁ hI₁
        exact ⟨e₂,a₂,w₂,hq₂,.of_steps (Steps.trans harr (.one step_inLoop)) harr₂⟩
      | exit id=>exact ⟨_,a₁,w₁,hq,.pass (x:=.inLoop c) rfl (fun _ _=>.inl (by simp)) harr⟩
      | goto l=>exact ⟨_,a₁,w₁,hq,.pass (x:=.inLoop c) rfl (fun _ _=>.inl (by simp)) harr⟩
      | ret=>exact ⟨_,a₁,w₁,hq,.pass (x:=.inLoop c) rfl (fun _ _=>.inl (by simp)) harr⟩
      | panic ch=>exact ⟨_,a₁,w₁,hq,.pass (x:=.inLoop c) rfl (fun _ _=>.inl (by simp)) harr⟩
      | outgrown=>exact ⟨_,a₁,w₁,hq,.pass (x:=.inLoop c) rfl (fun _ _=>.inl (by simp)) harr⟩
  obtain ⟨e,a',w',hq,harr⟩:=key _ a w h₀
  exact ⟨e,a',w',hq,.of_steps (.one step_loop) harr⟩
def Next {ι:Type} (I:ι → St) (p:ι → Prop) (m:ι → Nat) (i:ι) (S':St):Prop:=∃ j,p j ∧ m j < m i ∧ Sub S' (I j)
theorem Xc {c:Code} {ι:Type} (I:ι → St) (p:ι → Prop) (m:ι → Nat) (i0:ι) (h0:p i0) (hs:Sub S (I i0))
    (round:∀ i,p i → AW P B n c (Exit.thenA (Next I p m i) Q) (I i)):AW P B n (.loop c) Q S:=fun a w μ fp N hR=>by
  obtain ⟨fp0,h0'⟩:=hR.less hs
  refine wp_loop_ix (fun k a w=>∃ i μ fp N,p i ∧ m i = k ∧ R B n (I i) [] [] a w μ fp N) ⟨i0,μ,fp0,N,h0,rfl,h0'⟩ ?_
  rintro k a w ⟨i,μ,fp,N,hp,rfl,hR⟩
  refine wp_mono (round i hp a w μ fp N hR) fun e a' w' he=>?_
  cases e with
  | normal =>
    obtain ⟨S',μ',fp',N',h1,j,hj,hm,hsub⟩:=he
    obtain ⟨fp2,h2⟩:=h1.less hsub
    exact ⟨m j,hm,j,μ',fp2,N',hj,rfl,h2⟩
  | exit id=>exact he
  | ret=>exact he
  | goto l=>exact he
  | panic c=>exact he
  | outgrown=>exact he

theorem AW_mat (t:Nat) {c:Code} {sz m:Nat} {cs:List D} (hT:S.T t = .fr sz m cs) (h:∀ b cp k,S.H b = none → m ≤ cp → cp * sz ≤ m * sz + k → AW P B n c Q ⟨upd S.T t (.sl b sz 0 m cp),upd S.H b (some (cs ++ List.replicate k .any))⟩):AW P B n c Q S:=fun a w μ fp N hR=>by
  obtain ⟨fp1,h1⟩:=hR.grab t
  rw [hT,List.nil_append,List.nil_append] at h1
  obtain ⟨cp,k,μ',fp2,q1,q2,_,h2⟩:=h1.mat
  obtain ⟨fp3,h3⟩:=h2.putback
  have e:upd (grab S.T t) t (.sl (ev N) sz 0 m cp) = upd S.T t (.sl (ev N) sz 0 m cp):=by
    funext y
    by_cases ey:y = t
    · subst ey;rw [Qe,Qe]
    · rw [Qd ey,Qd ey]
      simp only [grab]
      split
      · rw [Qd ey]
      · rfl
  rw [e] at h3
  exact h (ev N) cp k h1.hev q1 q2 a w μ' fp3 (ev N + 1) h3
theorem zacl (t:Nat) {c:Code} {cs:List D} (hT:S.T t = .box cs) (h:∀ b,S.H b = none → AW P B n c Q ⟨upd S.T t (.ptr b 0),upd S.H b (some cs)⟩):AW P B n c Q S:=fun a w μ fp N hR=>by
  obtain ⟨fp1,h1⟩:=hR.grab t
  rw [hT,List.nil_append,List.nil_append] at h1
  obtain ⟨μ',fp2,h2⟩:=h1.matBox
  obtain ⟨fp3,h3⟩:=h2.putback
  have e:upd (grab S.T t) t (.ptr (ev N) 0) = upd S.T t (.ptr (ev N) 0):=by
    funext y
    by_cases ey:y = t
    · subst ey;rw [Qe,Qe]
    · rw [Qd ey,Qd ey]
      simp only [grab]
      split
      · rw [Qd ey]
      · rfl
  rw [e] at h3
  exact h (ev N) h1.hev a w μ' fp3 (ev N + 1) h3
theorem AW_unmat (t:Nat) {c:Code} {b sz m cp:Nat} {all:List D} (hT:S.T t = .sl b sz 0 m cp) (hH:S.H b = some all) (hsz:0 < sz) (hm:m * sz ≤ all.length) (hc:cp * sz ≤ all.length) (h:AW P B n c Q ⟨upd S.T t (.fr sz m (all.take (m * sz))),upd S.H b none⟩):AW P B n c Q S:=fun a w μ fp N hR=>by
  obtain ⟨fp1,h1⟩:=hR.grab t
  rw [hT,List.nil_append,List.nil_append] at h1
  have e:grab S.T t = S.T:=grab_no (by rw [hT];rfl)
  rw [e] at h1
  obtain ⟨fp2,h2,_⟩:=h1.unname hH hsz hm hc
  obtain ⟨fp3,h3⟩:=h2.putback
  exact h a w μ fp3 N h3
mutual
theorem bnd_dat {N:Nat}:∀ {d:D},bnd N d → bnd N (dat d)
  | .any,h=>by simp [dat,bnd]
  | .nil,h=>by simp [dat,bnd,bndL]
  | .nilp,h=>by simp [dat,bnd]
  | .ubool,h=>by simp [dat,bnd]
  | .int _ _,h=>by simp [dat,bnd]
  | .bool _,h=>by simp [dat,bnd]
  | .str _,h=>by simp [dat,bnd]
  | .list n cs,h=>by simpa only [dat] using h
  | .fr _ _ cs,h=>by simp only [dat,bnd] at h ⊢;exact zaeb h
  | .st cs,h=>by simp only [dat,bnd] at h ⊢;exact zaeb h
  | .tup cs,h=>by simp only [dat,bnd] at h ⊢;exact zaeb h
  | .sl ..,h=>by simpa only [dat] using h
  | .ptr ..,h=>by simpa only [dat] using h
  | .mr _,h=>by simpa only [dat] using h
  | .om _,h=>by simp [dat,bnd]
  | .pd cs,h=>by simpa only [dat] using h
  | .box cs,h=>by simp only [dat,bnd] at h ⊢;exact zaeb h
  | .fn _ cs,h=>by simp only [dat,bnd] at h ⊢;exact zaeb h
theorem zaeb {N:Nat}:∀ {ds:List D},bndL N ds → bndL N (datL ds)
  | [],h=>by simp [datL,bndL]
  | d :: ds,h=>by simp only [datL,bndL] at h ⊢;exact ⟨bnd_dat h.1,zaeb h.2⟩
end
theorem AW_shut (t:Nat) {c:Code} (h:AW P B n c Q ⟨upd S.T t (dat (S.T t)),S.H⟩):AW P B n c Q S:=fun a w μ fp N hR=>by
  have hm:Moves fp (fset fp (.slot t) []):=.drop hR.nod hR.dis fun r=>by
    by_cases e:r = .slot t
    · subst e;exact .inr (Xi ..)
    · exact .inl (Qw e)
  refine h a w μ _ N ⟨hR.len,hR.dfs,hR.frm,hR.jk,hR.own' hm,hm.nod,hm.dis,fun t'=>?_,?_,?_,?_,fun t'=>?_,hR.bB,hR.bH,hR.rn⟩
  · by_cases e:t' = t
    · subst e
      dsimp only
      rw [Qe,Xi]
      refine Rep.dat (I:=Im B w fp) (fun b hb=>hb.sub hm.sub) (fun b hb=>?_) (hR.tm t')
      have ho:=hR.own _ b hb
      refine ⟨ho.2,?_,fun r hr=>?_⟩
      · rcases ho.1 with q | q
        · exact .inl (.inr q)
        · exact .inr q
      · by_cases e:r = .slot t'
        · subst e;rw [Xi] at hr;cases hr
        · rw [Qw e] at hr;exact e (hR.dis _ _ b hr hb)
    · dsimp only
      rw [Qd e,Qw (by simp [e])]
      exact (hR.tm t').sub hm.sub
  · rw [Qw (by simp)];exact hR.bg.sub hm.sub
  · intro b cs hc;exact (hR.hp b cs hc).sub hm.sub (by simp [fset]) (by simp [fset])
  · intro b hb;have:=hR.hn b hb;simp [fset,this]
  · dsimp only
    simp only [upd]
    split
    · rename_i e;exact bnd_dat (hR.bT t)
    · exact hR.bT t'
theorem Xm (hK:∀ x,¬ B.K x) (t:Nat) {c:Code} (h:AW P B n c Q ⟨upd S.T t (dat (S.T t)),S.H⟩):AW P B n c Q S:=AW_shut t h

theorem R.takeBlock {ds:List D} {vs:List Value} {a:Act} {w:World} {μ:Nat → Nat} {fp:Root → List Nat} {N b:Nat} {cs:List D} (h:R B n S ds vs a w μ fp N) (hc:S.H b = some cs) (hpb:b % 2 = 0) (hne:cs ≠ []) :
    ∃ cells fp',Whole w (μ b) cells ∧ cells.size = cs.length ∧ R B n ⟨S.T,upd S.H b none⟩ (ds ++ [.st cs]) (vs ++ [.agg cells]) a w μ fp' N:=by
  rcases h.hp b cs hc with ⟨k,_⟩ | ⟨cells,k1,k2,k3,k4,k5⟩ | ⟨kodd,_⟩
  rotate_left 2
  · omega
  · exact (hne k).elim
  let l:=(List.range cs.length).flatMap fun i=>fp (.cell b i)
  have hfl:l.Nodup:=zafz b h.nod h.dis cs.length
  have hmem:∀ x,x ∈ l → ∃ i,x ∈ fp (.cell b i):=by
    intro x hx
    simp only [l,List.mem_flatMap] at hx
    obtain ⟨i,_,hx⟩:=hx
    exact ⟨i,hx⟩
  let fp':Root → List Nat:=fun r=>match r with
    | .bag=>fp .bag ++ l
    | .blk b'=>if b' = b then [] else fp (.blk b')
    | .cell b' i=>if b' = b then [] else fp (.cell b' i)
    | .slot t=>fp (.slot t)
  have hkey:∀ r x,x ∈ fp' r → r ≠ .bag → x ∈ fp r ∧ (∀ i,r ≠ .cell b i):=by
    intro r x hx hr
    cases r with
    | slot t=>exact ⟨hx,by simp⟩
    | bag=>exact (hr rfl).elim
    | blk b' =>
      simp only [fp'] at hx
      split at hx
      · cases hx
      · exact ⟨hx,by simp⟩
    | cell b' i =>
      simp only [fp'] at hx
      split at hx
      · cases hx
      · rename_i e;exact ⟨hx,fun j hj=>by simp at hj;exact e hj.1⟩
  have hm : Moves fp fp':=by
    refine ⟨fun r x hx=>?_,fun r=>?_,fun r r' x hx hy=>?_⟩
    · by_cases e:r = .bag
      · subst e
        rcases List.mem_append.1 hx with hx | hx
        · exact ⟨_,hx⟩
        · obtain ⟨i,hx⟩:=hmem x hx;exact ⟨_,hx⟩
      · exact ⟨r,(hkey r x hx e).1⟩
    · cases r with
      | slot t=>exact h.nod _
      | bag =>
        refine Zh (h.nod _) hfl fun x hx hy=>?_
        obtain ⟨i,hy⟩:=hmem x hy
        have:=h.dis _ _ x hx hy;cases this
      | blk b'=>simp only [fp'];split;exact .nil;exact h.nod _
      | cell b' i=>simp only [fp'];split;exact .nil;exact h.nod _
    · have no:∀ r,r ≠ .bag → x ∈ fp' r → x ∈ fp' .bag → False:=by
        intro r hr hx hb
        obtain ⟨q1,q2⟩:=hkey r x hx hr
        rcases List.mem_append.1 hb with hb | hb
        · exact hr (h.dis _ _ x q1 hb)
        · obtain ⟨i,hb⟩:=hmem x hb
          exact q2 i (h.dis _ _ x q1 hb)
      by_cases e:r = .bag <;> by_cases e':r' = .bag
      · rw [e,e']
      · subst e;exact (no r' e' hy hx).elim
      · subst e';exact (no r e hx hy).elim
      · exact h.dis _ _ x (hkey r x hx e).1 (hkey r' x hy e').1
  have bH':∀ b' cs',upd S.H b none b' = some cs' → S.H b' = some cs' ∧ b' ≠ b:=by
    intro b' cs' hb'
    by_cases e:b' = b
    · subst e;rw [Qe] at hb';cases hb'
    · rw [Qd e] at hb';exact ⟨hb',e⟩
  refine ⟨cells,fp',k1,k2,h.len,h.dfs,h.frm,h.jk,h.own' hm,hm.nod,hm.dis,fun t=>(h.tm t).sub hm.sub,?_,?_,?_,h.bT,?_,fun b' cs' hb'=>h.bH b' cs' (bH' b' cs' hb').1,h.rn⟩
  · have hcf:=zagd (μ:=μ) (I:=Im B w fp) (w:=w) b (us:=cells.toList) (by simpa using k2) (fun i d hd=>by obtain ⟨u,hu,hr⟩:=k4 i d hd;exact ⟨u,by simpa using hu,hr⟩) cs.length (Nat.le_refl _)
    rw [List.take_of_length_le (Nat.le_refl _),List.take_of_length_le (by simp;omega)] at hcf
    refine RepL.append ?_ (h.bg.sub hm.sub)
    simp only [RepL,Rep]
    exact ⟨_,[],l,[],rfl,by simp,⟨cells.toList,by simp,hcf.sub hm.sub⟩,rfl,rfl⟩
  · intro b' cs' hb'
    obtain ⟨q1,q2⟩:=bH' b' cs' hb'
    exact (h.hp b' cs' q1).sub hm.sub (by simp [fp',q2]) (by simp [fp',q2])
  · intro b' hb'
    by_cases e:b' = b
    · subst e;simp [fp']
    · dsimp only at hb';rw [Qd e] at hb';have:=h.hn b' hb';simp [fp',e,this]
  · rw [Qi]
    intro d hd
    rcases List.mem_append.1 hd with hd | hd
    · exact Qi.1 h.bB d hd
    · simp at hd;subst hd;simp only [bnd];exact (h.bH b cs hc).2
def resOne (tmps:Array Value):ResultVar → Sem Value
  | .tmp t=>pure (tmps.getD t undef)
  | .cell x t=>do loadVar t (← asAddr (tmps.getD x undef))
theorem results_eq (fn:Func) (tmps:Array Value):results fn tmps = (do let vs ← fn.results.mapM (resOne tmps);pure (if h:vs.size = 1 then vs[0] else .tuple vs)):=by
  unfold results
  congr 1
variable (P) in
def Qv:St → List ResultVar → Prop × List D × St
  | S,[]=>(True,[],S)
  | S,.tmp t :: rs=>((Qv ⟨grab S.T t,S.H⟩ rs).1,S.T t :: (Qv ⟨grab S.T t,S.H⟩ rs).2.1,(Qv ⟨grab S.T t,S.H⟩ rs).2.2)
  | S,.cell t ty :: rs =>
    match S.T t with
    | .ptr b 0 =>
      match S.H b,τ P ty with
      | some cs,some ti=>(cs.length = ti.size ∧ cs ≠ [] ∧ (ti.agg = false → ti.size = 1) ∧ (Qv ⟨S.T,upd S.H b none⟩ rs).1,(if ti.agg then .st cs else cs.getD 0 .any) :: (Qv ⟨S.T,upd S.H b none⟩ rs).2.1,(Qv ⟨S.T,upd S.H b none⟩ rs).2.2)
      | _,_=>(False,[],S)
    | .box cs =>
      match τ P ty with
      | some ti=>(cs.length = ti.size ∧ cs ≠ [] ∧ (ti.agg = false → ti.size = 1) ∧ (Qv ⟨grab S.T t,S.H⟩ rs).1,(if ti.agg then .st cs else cs.getD 0 .any) :: (Qv ⟨grab S.T t,S.H⟩ rs).2.1,(Qv ⟨grab S.T t,S.H⟩ rs).2.2)
      | _=>(False,[],S)
    | _=>(False,[],S)
theorem zaap:∀ {rs:List ResultVar} {S:St} {ds:List D} {vs:List Value} {a:Act} {w:World} {μ:Nat → Nat} {fp:Root → List Nat} {N:Nat},R B n S ds vs a w μ fp N → (Qv P S rs).1 →
    ∃ us fp',(rs.mapM (m:=Sem) (resOne a.tmps)).run P w = .ok us w ∧ R B n (Qv P S rs).2.2 (ds ++ (Qv P S rs).2.1) (vs ++ us) a w μ fp' N
  | [],S,ds,vs,a,w,μ,fp,N,h,hp=>⟨[],fp,by simp,by simpa [Qv] using h⟩
  | .tmp t :: rs,S,ds,vs,a,w,μ,fp,N,h,hp=>by
    simp only [Qv] at hp
    obtain ⟨fp1,h1⟩:=h.grab t
    obtain ⟨us,fp2,h2,h3⟩:=zaap (rs:=rs) h1 hp
    refine ⟨a.tmps.getD t undef :: us,fp2,?_,?_⟩
    · simp only [List.mapM_cons,resOne,Sem.run_bind,pure_bind,h2]
      rfl
    · simp only [Qv]
      simpa using h3
  | .cell t ty :: rs,S,ds,vs,a,w,μ,fp,N,h,hp=>by
    simp only [Qv] at hp ⊢
    split at hp
    · rename_i b hT
      split at hp
      · rename_i cs ti hc ht
        obtain ⟨p1,p2,p3,p4⟩:=hp
        have htm:=h.tm t
        rw [hT] at htm
        simp only [Rep] at htm
        have hA:(asAddr (a.tmps.getD t undef)).run P w = .ok ⟨μ b,0,none⟩ w:=by rw [htm.2];rfl
        obtain ⟨cells,fp1,k1,k2,h1⟩:=h.takeBlock hc (by have hpar:=h.bT t;rw [hT] at hpar;simp only [bnd] at hpar;exact hpar.2) p2
        have hcell:∀ (j:Nat) (v:Value),cells[j]? = some v → w.cell? ⟨μ b,j,none⟩ = some v:=fun j v hj=>k1.cell hj
        by_cases ha:ti.agg = true
        · obtain ⟨us,fp2,h2,h3⟩:=zaap (rs:=rs) h1 p4
          have hl:=zaas (P:=P) ht ha (w:=w) (b:=μ b) (i:=0) (vs:=cells.toList) (by simp;omega) fun j v hj=>by rw [Nat.zero_add];exact hcell j v (by simpa using hj)
          have hlv:(loadVar ty ⟨μ b,0,none⟩).run P w = .ok (.agg cells) w:=by simpa [Instr.loadAt,Instr.sureAddr] using hl
          refine ⟨.agg cells :: us,fp2,?_,?_⟩
          · simp only [List.mapM_cons,resOne,Sem.run_bind,hA,pure_bind,hlv,Result.andThen_ok,h2]
            rfl
          · simp only [hc,ht,ha,if_true]
            simpa using h3
        · have ha:ti.agg = false:=by simpa using ha
          obtain ⟨d,rfl⟩:∃ d,cs = [d]:=by
            have:=p3 ha
            rw [this] at p1
            exact List.length_eq_one_iff.1 p1
          obtain ⟨v,hv⟩:∃ v,cells.toList = [v]:=List.length_eq_one_iff.1 (by simpa using k2)
          have h1':R B n ⟨S.T,upd S.H b none⟩ (ds ++ [d]) (vs ++ [v]) a w μ fp1 N:=by
            refine h1.rebag ?_ ?_
            · obtain ⟨v1,v2,f1,f2,e1,e2,r1,r2⟩:=RepL.split h1.bg
              have hl1:=r1.length
              have hl2:=h.bg.length
              obtain ⟨rfl,rfl⟩:=List.append_inj e1.symm (by omega)
              rw [e2]
              refine RepL.append ?_ r1
              have:=r2.one
              simp only [Rep] at this
              obtain ⟨us,hu,hr⟩:=this
              simp at hu
              subst hu
              have hv':us = [v]:=by simpa using hv
              rw [hv'] at hr
              exact hr
            · have:=h1.bB
              rw [Qi] at *
              intro x hx
              rcases List.mem_append.1 hx with hx | hx
              · exact this x (List.mem_append_left _ hx)
              · simp at hx;subst hx
                have:=this (.st [x]) (by simp)
                simp only [bnd,bndL] at this
                exact this.1
          obtain ⟨us,fp2,h2,h3⟩:=zaap (rs:=rs) h1' p4
          have hc0:cells[0]? = some v:=by rw [← Array.getElem?_toList,hv];rfl
          have hl:=zaar (P:=P) ht ha (hcell 0 v hc0)
          have hlv:(loadVar ty ⟨μ b,0,none⟩).run P w = .ok v w:=by simpa [Instr.loadAt,Instr.sureAddr] using hl
          refine ⟨v :: us,fp2,?_,?_⟩
          · simp only [List.mapM_cons,resOne,Sem.run_bind,hA,pure_bind,hlv,Result.andThen_ok,h2]
            rfl
          · simp only [hc,ht,ha,Bool.false_eq_true,if_false]
            simpa using h3
      · exact hp.elim
    · rename_i cs hT
      split at hp
      · rename_i ti ht
        obtain ⟨p1,p2,p3,p4⟩:=hp
        obtain ⟨fp1,h1⟩:=h.grab t
        rw [hT] at h1
        obtain ⟨v1,v2,f1,f2,e1,e2,r1,r2⟩:=RepL.split h1.bg
        have hl1:=r1.length
        have hl2:=h.bg.length
        obtain ⟨rfl,rfl⟩:=List.append_inj e1.symm (by omega)
        have hx:=r2.one
        simp only [Rep] at hx
        obtain ⟨b,cells,f,hv,hw,hrep,rfl⟩:=hx
        have hA:(asAddr (a.tmps.getD t undef)).run P w = .ok ⟨b,0,none⟩ w:=by rw [hv];rfl
        have hcell:∀ (j:Nat) (v:Value),cells[j]? = some v → w.cell? ⟨b,j,none⟩ = some v:=fun j v hj=>hw.cell hj
        have hul:=hrep.length
        have hnd:=h1.nod .bag
        rw [e2] at hnd
        have hnd2:(f1 ++ f).Nodup:=by
          have:=List.nodup_append.1 hnd
          exact Zh this.1 (List.nodup_cons.1 this.2.1).2 fun x hx hy=>this.2.2 x hx x (by simp [hy]) rfl
        have hsub:∀ x,x ∈ f1 ++ f → x ∈ fp1 .bag:=fun x hx=>by rw [e2];simp only [List.mem_append,List.mem_cons] at hx ⊢;rcases hx with hx | hx;exact .inl hx;exact .inr (.inr hx)
        have hbB:=h1.bB
        rw [Qi] at hbB
        have hbc:bndL N cs:=by have:=hbB (.box cs) (by simp);simpa only [bnd] using this
        by_cases ha:ti.agg = true
        · obtain ⟨fp3,h2⟩:=h1.rebagF (ds':=ds ++ [.st cs]) (vs':=v1 ++ [.agg cells]) (RepL.append (by simp only [RepL,Rep];exact ⟨_,[],f,[],rfl,by simp,⟨cells.toList,by simp,hrep⟩,rfl,rfl⟩) r1) hnd2 hsub (by
            rw [Qi];intro d hd
            rcases List.mem_append.1 hd with hd | hd
            · exact hbB d (List.mem_append_left _ hd)
            · simp at hd;subst hd;simpa only [bnd] using hbc)
          obtain ⟨us,fp2,h4,h3⟩:=zaap (rs:=rs) h2 p4
          have hl:=zaas (P:=P) ht ha (w:=w) (b:=b) (i:=0) (vs:=cells.toList) (by omega) fun j v hj=>by rw [Nat.zero_add];exact hcell j v (by simpa using hj)
          have hlv:(loadVar ty ⟨b,0,none⟩).run P w = .ok (.agg cells) w:=by simpa [Instr.loadAt,Instr.sureAddr] using hl
          refine ⟨.agg cells :: us,fp2,?_,?_⟩
          · simp only [List.mapM_cons,resOne,Sem.run_bind,hA,pure_bind,hlv,Result.andThen_ok,h4]
            rfl
          · simp only [ht,ha,if_true]
            simpa using h3
        · have ha:ti.agg = false:=by simpa using ha
          obtain ⟨d,rfl⟩:∃ d,cs = [d]:=by
            have:=p3 ha
            rw [this] at p1
            exact List.length_eq_one_iff.1 p1
          obtain ⟨v,hv1⟩:∃ v,cells.toList = [v]:=List.length_eq_one_iff.1 (by simpa using hul)
          have hrep1:=hrep
          rw [hv1] at hrep1
          obtain ⟨fp3,h2⟩:=h1.rebagF (ds':=ds ++ [d]) (vs':=v1 ++ [v]) (RepL.append hrep1 r1) hnd2 hsub (by
            rw [Qi];intro x hx
            rcases List.mem_append.1 hx with hx | hx
            · exact hbB x (List.mem_append_left _ hx)
            · exact Qi.1 hbc x hx)
          obtain ⟨us,fp2,h4,h3⟩:=zaap (rs:=rs) h2 p4
          have hc0:cells[0]? = some v:=by rw [← Array.getElem?_toList,hv1];rfl
          have hl:=zaar (P:=P) ht ha (hcell 0 v hc0)
          have hlv:(loadVar ty ⟨b,0,none⟩).run P w = .ok v w:=by simpa [Instr.loadAt,Instr.sureAddr] using hl
          refine ⟨v :: us,fp2,?_,?_⟩
          · simp only [List.mapM_cons,resOne,Sem.run_bind,hA,pure_bind,hlv,Result.andThen_ok,h4]
            rfl
          · simp only [ht,ha,Bool.false_eq_true,if_false]
            simpa using h3
      · exact hp.elim
    · exact hp.elim
def resD:List D → D
  | [d]=>d
  | ds=>.tup ds
theorem zabj {fn:Func} {a:Act} {w:World} {μ:Nat → Nat} {fp:Root → List Nat} {N:Nat} (h:R B n S [] [] a w μ fp N) (hp:(Qv P S fn.results.toList).1) :
    ∃ v fp',(results fn a.tmps).run P w = .ok v w ∧ R B n (Qv P S fn.results.toList).2.2 [resD (Qv P S fn.results.toList).2.1] [v] a w μ fp' N:=by
  obtain ⟨us,fp',h1,h2⟩:=zaap h hp
  rw [List.nil_append,List.nil_append] at h2
  have hl:=h2.bg.length
  have hrun:(fn.results.mapM (m:=Sem) (resOne a.tmps)).run P w = .ok us.toArray w:=by
    rw [Array.mapM_eq_mapM_toList]
    simp only [Sem.run_map,h1,Result.andThen_ok]
  generalize (Qv P S fn.results.toList).2.1 = rs at h2 hl ⊢
  generalize (Qv P S fn.results.toList).2.2 = S' at h2 ⊢
  have two:us.length ≠ 1 → (results fn a.tmps).run P w = .ok (.tuple us.toArray) w:=by
    intro hne
    rw [results_eq]
    simp only [Sem.run_bind,hrun,Result.andThen_ok]
    rw [dif_neg (by simpa using hne)]
    rfl
  have tp:∀ ds,ds = rs → resD rs = .tup rs → R B n S' [resD rs] [.tuple us.toArray] a w μ fp' N:=by
    intro ds _ e
    rw [e]
    refine h2.rebag ?_ ?_
    · simp only [RepL,Rep]
      exact ⟨_,[],_,[],rfl,by simp,⟨us,rfl,h2.bg⟩,rfl,rfl⟩
    · simp only [bndL,bnd];exact ⟨h2.bB,trivial⟩
  match rs,hl with
  | [],hl=>exact ⟨_,fp',two (by simp at hl;simp [hl]),tp _ rfl rfl⟩
  | [d],hl =>
    obtain ⟨v,rfl⟩:∃ v,us = [v]:=List.length_eq_one_iff.1 hl
    refine ⟨v,fp',?_,h2⟩
    rw [results_eq]
    simp only [Sem.run_bind,hrun,Result.andThen_ok]
    rfl
  | d :: e :: rs,hl=>exact ⟨_,fp',two (by simp at hl;omega),tp _ rfl rfl⟩
def retQ (P:Program) (fn:Func) (r:D) (H':Hp):Exit → St → Prop
  | .normal,S=>(Qv P S fn.results.toList).1 ∧ resD (Qv P S fn.results.toList).2.1 = r ∧ ∀ b cs,H' b = some cs → (Qv P S fn.results.toList).2.2.H b = some cs
  | .ret,S=>(Qv P S fn.results.toList).1 ∧ resD (Qv P S fn.results.toList).2.1 = r ∧ ∀ b cs,H' b = some cs → (Qv P S fn.results.toList).2.2.H b = some cs
  | _,_=>False
theorem zafx (vs:List Value) (k t:Nat):(vs.toArray ++ Array.replicate k undef).getD t undef = vs.getD t undef:=by
  rw [Array.getD_eq_getD_getElem?,List.getD_eq_getElem?_getD,Array.getElem?_append]
  split
  · simp
  · rename_i h
    rw [List.getElem?_eq_none (by simpa using h),Array.getElem?_replicate]
    split <;> rfl
theorem zagf {N:Nat} {ds:List D} (h:bndL N ds) (t:Nat):bnd N (Qy ds t):=by
  unfold Qy
  rw [List.getD_eq_getElem?_getD]
  cases hd:ds[t]? with
  | none=>simp [bnd]
  | some d=>exact Qi.1 h d (List.mem_of_getElem? hd)
def retR (P:Program) (fn:Func) (G:Any → D × Hp):Exit → St → Prop
  | .normal,S=>∃ c,(Qv P S fn.results.toList).1 ∧ resD (Qv P S fn.results.toList).2.1 = (G c).1 ∧ ∀ b cs,(G c).2 b = some cs → (Qv P S fn.results.toList).2.2.H b = some cs
  | .ret,S=>∃ c,(Qv P S fn.results.toList).1 ∧ resD (Qv P S fn.results.toList).2.1 = (G c).1 ∧ ∀ b cs,(G c).2 b = some cs → (Qv P S fn.results.toList).2.2.H b = some cs
  | _,_=>False
theorem Pure.of_walk {f:FuncId} {fn:Func} {c:Code} {args:List D} {r:D} (hf:P.funcs[f]? = some fn) (hb:fn.body = some c) (hn:args.length ≤ fn.ntmps) (hr:closed r = true)
    (h:∀ B:Base,(∀ x,¬ B.K x) → AW P B fn.ntmps c (retQ P fn r fun _=>none) ⟨Qy args,fun _=>none⟩):Pure P f args r:=by
  intro μ w vs ⟨N,hN⟩ hrep
  have hl:=hrep.length
  refine calls_of_wp hf hb ?_
  have hR:R ⟨w,fun _=>False,fun x=>x < w.heap.size,μ,N⟩ fn.ntmps ⟨Qy args,fun _=>none⟩ [] [] ⟨vs.toArray ++ Array.replicate (fn.ntmps - vs.toArray.size) undef,[]⟩ w μ (fun _=>[]) N:=by
    refine ⟨by simp;omega,rfl,Frm.refl _ _,fun x hx=>⟨hx,by simp⟩,by simp,by simp,by simp,fun t=>?_,by simp [RepL],by simp,by simp,fun t=>zagf hN t,by simp [bndL],by simp,⟨Nat.le_refl _,fun _ _=>rfl⟩⟩
    show Rep _ _ _ _ ((vs.toArray ++ Array.replicate _ undef).getD t undef) _
    rw [zafx]
    obtain ⟨g,g1,g2,_,_⟩:=hrep.slots .nil
    have:=g1 t
    have e:g t = []:=List.eq_nil_iff_forall_not_mem.2 fun x hx=>by have:=g2 t x hx;cases this
    rw [e] at this
    exact Rep.mono (fun x hx=>⟨⟨hx,.inl (.inl hx),by simp⟩,rfl⟩) (by simp) this
  refine wp_mono (h ⟨w,fun _=>False,fun x=>x < w.heap.size,μ,N⟩ (by simp) _ w μ _ N hR) fun e a' w' he=>?_
  have fin:∀ {S:St} {μ':Nat → Nat} {fp':Root → List Nat} {N':Nat},R ⟨w,fun _=>False,fun x=>x < w.heap.size,μ,N⟩ fn.ntmps S [] [] a' w' μ' fp' N' → (Qv P S fn.results.toList).1 → resD (Qv P S fn.results.toList).2.1 = r →
      a'.defers = [] ∧ ∃ v,(results fn a'.tmps).run P w' = .ok v w' ∧ ∃ v' fl,Ending.returned v = .returned v' ∧ Rep μ (fun _=>False) w' r v' fl ∧ fl.Nodup ∧ (∀ x ∈ fl,w.heap.size ≤ x ∧ x < w'.heap.size) ∧ Frm w (fun _=>False) w':=by
    intro S μ' fp' N' h1 h2 h3
    obtain ⟨v,fp2,h4,h5⟩:=zabj h1 h2
    rw [h3] at h5
    refine ⟨h1.dfs,v,h4,v,fp2 .bag,rfl,Rep.closed hr h5.bg.one,h5.nod _,fun x hx=>?_,h5.frm⟩
    have:=h5.own _ x hx
    exact ⟨this.1.resolve_left (by simp),this.2⟩
  cases e with
  | normal=>obtain ⟨S,μ',fp',N',h1,h2,h3,_⟩:=he;exact fin h1 h2 h3
  | ret=>obtain ⟨S,μ',fp',N',h1,h2,h3,_⟩:=he;exact fin h1 h2 h3
  | exit id=>obtain ⟨S,μ',fp',N',h1,h2⟩:=he;exact h2.elim
  | goto l=>exact he.elim
  | panic c=>exact he.elim
  | outgrown=>exact he.elim
theorem Spec.of_walk {f:FuncId} {fn:Func} {c:Code} {args:List D} {H:Hp} {r:D} {H':Hp} (hf:P.funcs[f]? = some fn) (hb:fn.body = some c) (hn:args.length ≤ fn.ntmps)
    (h:∀ B:Base,AW P B fn.ntmps c (retQ P fn r H') ⟨Qy args,H⟩):Spec P f args H r H':=by
  intro w J vs μ fp N hR
  have hl:vs.length = args.length:=by have:=hR.len;simpa using this
  refine calls_of_wp hf hb ?_
  have hR':R ⟨w,fun x=>∃ r,x ∈ fp r,J,μ,N⟩ fn.ntmps ⟨Qy args,H⟩ [] [] ⟨vs.toArray ++ Array.replicate (fn.ntmps - vs.toArray.size) undef,[]⟩ w μ fp N :=
    { hR with
      len:=by simp;omega
      tm:=fun t=>by
        have:=hR.tm t
        show Rep _ _ _ _ ((vs.toArray ++ Array.replicate _ undef).getD t undef) _
        rw [zafx]
        simpa [List.getD_eq_getElem?_getD,Array.getD_eq_getD_getElem?] using this }
  refine wp_mono (h _ _ w μ _ N hR') fun e a' w' he=>?_
  have fin:∀ {S:St} {μ':Nat → Nat} {fp':Root → List Nat} {N':Nat},R ⟨w,fun x=>∃ r,x ∈ fp r,J,μ,N⟩ fn.ntmps S [] [] a' w' μ' fp' N' → (Qv P S fn.results.toList).1 → resD (Qv P S fn.results.toList).2.1 = r → (∀ b cs,H' b = some cs → (Qv P S fn.results.toList).2.2.H b = some cs) →
      a'.defers = [] ∧ ∃ v,(results fn a'.tmps).run P w' = .ok v w' ∧ ∃ v' μ' fp' N',Ending.returned v = .returned v' ∧ R ⟨w,fun x=>∃ r,x ∈ fp r,J,μ,N⟩ 1 ⟨Qy [r],H'⟩ [] [] ⟨#[v'],[]⟩ w' μ' fp' N':=by
    intro S μ' fp' N' h1 h2 h3 h4
    obtain ⟨v,fp2,h5,h6⟩:=zabj h1 h2
    rw [h3] at h6
    obtain ⟨fp3,h7⟩:=h6.less (S':=⟨fun _=>.any,H'⟩) ⟨fun _=>.inl rfl,h4⟩
    -- the result goes to the one slot
    have h8:R ⟨w,fun x=>∃ r,x ∈ fp r,J,μ,N⟩ 1 ⟨fun _=>.any,H'⟩ [r] [v] ⟨#[undef],[]⟩ w' μ' (fun rt=>match rt with | .slot _=>[] | rt=>fp3 rt) N':=by
      have hm:Moves fp3 (fun rt=>match rt with | .slot _=>[] | rt=>fp3 rt):=.drop h7.nod h7.dis fun rt=>by cases rt <;> simp
      refine ⟨rfl,rfl,h7.frm,h7.jk,h7.own' hm,hm.nod,hm.dis,fun t=>by simp [Rep],h7.bg.sub hm.sub,fun b cs hc=>(h7.hp b cs hc).sub hm.sub rfl (fun _=>rfl),fun b hb=>h7.hn b hb,fun t=>by simp [bnd],h7.bB,h7.bH,h7.rn⟩
    obtain ⟨fp4,h9⟩:=h8.put (t:=0) (by omega)
    have e:upd (fun _:Nat=>D.any) 0 r = Qy [r]:=by
      funext t
      cases t with
      | zero=>rfl
      | succ t=>simp [upd,Qy]
    dsimp only at h9
    rw [e] at h9
    exact ⟨h1.dfs,v,h5,v,μ',fp4,N',rfl,h9⟩
  cases e with
  | normal=>obtain ⟨S,μ',fp',N',h1,h2,h3,h4⟩:=he;exact fin h1 h2 h3 h4
  | ret=>obtain ⟨S,μ',fp',N',h1,h2,h3,h4⟩:=he;exact fin h1 h2 h3 h4
  | exit id=>obtain ⟨S,μ',fp',N',h1,h2⟩:=he;exact h2.elim
  | goto l=>exact he.elim
  | panic c=>exact he.elim
  | outgrown=>exact he.elim
theorem PureR.of_walk {f:FuncId} {fn:Func} {c:Code} {args:List D} {G:Any → D} (hf:P.funcs[f]? = some fn) (hb:fn.body = some c) (hn:args.length ≤ fn.ntmps) (hr:∀ c,closed (G c) = true)
    (h:∀ B:Base,(∀ x,¬ B.K x) → AW P B fn.ntmps c (retR P fn fun c=>(G c,fun _=>none)) ⟨Qy args,fun _=>none⟩):PureR P f args G:=by
  intro μ w vs ⟨N,hN⟩ hrep
  have hl:=hrep.length
  refine calls_of_wp hf hb ?_
  have hR:R ⟨w,fun _=>False,fun x=>x < w.heap.size,μ,N⟩ fn.ntmps ⟨Qy args,fun _=>none⟩ [] [] ⟨vs.toArray ++ Array.replicate (fn.ntmps - vs.toArray.size) undef,[]⟩ w μ (fun _=>[]) N:=by
    refine ⟨by simp;omega,rfl,Frm.refl _ _,fun x hx=>⟨hx,by simp⟩,by simp,by simp,by simp,fun t=>?_,by simp [RepL],by simp,by simp,fun t=>zagf hN t,by simp [bndL],by simp,⟨Nat.le_refl _,fun _ _=>rfl⟩⟩
    show Rep _ _ _ _ ((vs.toArray ++ Array.replicate _ undef).getD t undef) _
    rw [zafx]
    obtain ⟨g,g1,g2,_,_⟩:=hrep.slots .nil
    have:=g1 t
    have e:g t = []:=List.eq_nil_iff_forall_not_mem.2 fun x hx=>by have:=g2 t x hx;cases this
    rw [e] at this
    exact Rep.mono (fun x hx=>⟨⟨hx,.inl (.inl hx),by simp⟩,rfl⟩) (by simp) this
  refine wp_mono (h ⟨w,fun _=>False,fun x=>x < w.heap.size,μ,N⟩ (by simp) _ w μ _ N hR) fun e a' w' he=>?_
  have fin:∀ {S:St} {μ':Nat → Nat} {fp':Root → List Nat} {N':Nat},R ⟨w,fun _=>False,fun x=>x < w.heap.size,μ,N⟩ fn.ntmps S [] [] a' w' μ' fp' N' → (Qv P S fn.results.toList).1 → (∃ c,resD (Qv P S fn.results.toList).2.1 = G c) →
      a'.defers = [] ∧ ∃ v,(results fn a'.tmps).run P w' = .ok v w' ∧ ∃ c v' fl,Ending.returned v = .returned v' ∧ Rep μ (fun _=>False) w' (G c) v' fl ∧ fl.Nodup ∧ (∀ x ∈ fl,w.heap.size ≤ x ∧ x < w'.heap.size) ∧ Frm w (fun _=>False) w':=by
    intro S μ' fp' N' h1 h2 ⟨c,h3⟩
    obtain ⟨v,fp2,h4,h5⟩:=zabj h1 h2
    rw [h3] at h5
    refine ⟨h1.dfs,v,h4,c,v,fp2 .bag,rfl,Rep.closed (hr c) h5.bg.one,h5.nod _,fun x hx=>?_,h5.frm⟩
    have:=h5.own _ x hx
    exact ⟨this.1.resolve_left (by simp),this.2⟩
  cases e with
  | normal=>obtain ⟨S,μ',fp',N',h1,c,h2,h3,_⟩:=he;exact fin h1 h2 ⟨c,h3⟩
  | ret=>obtain ⟨S,μ',fp',N',h1,c,h2,h3,_⟩:=he;exact fin h1 h2 ⟨c,h3⟩
  | exit id=>obtain ⟨S,μ',fp',N',h1,h2⟩:=he;exact h2.elim
  | goto l=>exact he.elim
  | panic c=>exact he.elim
  | outgrown=>exact he.elim
theorem SpecR.of_walk {f:FuncId} {fn:Func} {c:Code} {args:List D} {H:Hp} {G:Any → D × Hp} (hf:P.funcs[f]? = some fn) (hb:fn.body = some c) (hn:args.length ≤ fn.ntmps)
    (h:∀ B:Base,AW P B fn.ntmps c (retR P fn G) ⟨Qy args,H⟩):SpecR P f args H G:=by
  intro w J vs μ fp N hR
  have hl:vs.length = args.length:=by have:=hR.len;simpa using this
  refine calls_of_wp hf hb ?_
  have hR':R ⟨w,fun x=>∃ r,x ∈ fp r,J,μ,N⟩ fn.ntmps ⟨Qy args,H⟩ [] [] ⟨vs.toArray ++ Array.replicate (fn.ntmps - vs.toArray.size) undef,[]⟩ w μ fp N :=
    { hR with
      len:=by simp;omega
      tm:=fun t=>by
        have:=hR.tm t
        show Rep _ _ _ _ ((vs.toArray ++ Array.replicate _ undef).getD t undef) _
        rw [zafx]
        simpa [List.getD_eq_getElem?_getD,Array.getD_eq_getD_getElem?] using this }
  refine wp_mono (h _ _ w μ _ N hR') fun e a' w' he=>?_
  have fin:∀ {S:St} {μ':Nat → Nat} {fp':Root → List Nat} {N':Nat},R ⟨w,fun x=>∃ r,x ∈ fp r,J,μ,N⟩ fn.ntmps S [] [] a' w' μ' fp' N' → (Qv P S fn.results.toList).1 → ∀ c,resD (Qv P S fn.results.toList).2.1 = (G c).1 → (∀ b cs,(G c).2 b = some cs → (Qv P S fn.results.toList).2.2.H b = some cs) →
      a'.defers = [] ∧ ∃ v,(results fn a'.tmps).run P w' = .ok v w' ∧ ∃ c v' μ' fp' N',Ending.returned v = .returned v' ∧ R ⟨w,fun x=>∃ r,x ∈ fp r,J,μ,N⟩ 1 ⟨Qy [(G c).1],(G c).2⟩ [] [] ⟨#[v'],[]⟩ w' μ' fp' N':=by
    intro S μ' fp' N' h1 h2 c h3 h4
    obtain ⟨v,fp2,h5,h6⟩:=zabj h1 h2
    rw [h3] at h6
    obtain ⟨fp3,h7⟩:=h6.less (S':=⟨fun _=>.any,(G c).2⟩) ⟨fun _=>.inl rfl,h4⟩
    -- the result goes to the one slot
    have h8:R ⟨w,fun x=>∃ r,x ∈ fp r,J,μ,N⟩ 1 ⟨fun _=>.any,(G c).2⟩ [(G c).1] [v] ⟨#[undef],[]⟩ w' μ' (fun rt=>match rt with | .slot _=>[] | rt=>fp3 rt) N':=by
      have hm:Moves fp3 (fun rt=>match rt with | .slot _=>[] | rt=>fp3 rt):=.drop h7.nod h7.dis fun rt=>by cases rt <;> simp
      refine ⟨rfl,rfl,h7.frm,h7.jk,h7.own' hm,hm.nod,hm.dis,fun t=>by simp [Rep],h7.bg.sub hm.sub,fun b cs hc=>(h7.hp b cs hc).sub hm.sub rfl (fun _=>rfl),fun b hb=>h7.hn b hb,fun t=>by simp [bnd],h7.bB,h7.bH,h7.rn⟩
    obtain ⟨fp4,h9⟩:=h8.put (t:=0) (by omega)
    have e:upd (fun _:Nat=>D.any) 0 (G c).1 = Qy [(G c).1]:=by
      funext t
      cases t with
      | zero=>rfl
      | succ t=>simp [upd,Qy]
    dsimp only at h9
    rw [e] at h9
    exact ⟨h1.dfs,v,h5,c,v,μ',fp4,N',rfl,h9⟩
  cases e with
  | normal=>obtain ⟨S,μ',fp',N',h1,c,h2,h3,h4⟩:=he;exact fin h1 h2 c h3 h4
  | ret=>obtain ⟨S,μ',fp',N',h1,c,h2,h3,h4⟩:=he;exact fin h1 h2 c h3 h4
  | exit id=>obtain ⟨S,μ',fp',N',h1,h2⟩:=he;exact h2.elim
  | goto l=>exact he.elim
  | panic c=>exact he.elim
  | outgrown=>exact he.elim
end
section
variable {P:Program} {Γ:FuncId → Con} {ch cx cy:Any}

def Qo (o:Oper):List Nat:=o.op.operands.toList.filterMap fun | .tmp t=>some t | _=>none
def Ji (ops:Array Oper) (o:Oper):Option Nat:=o.guard.bind fun (j,_)=>(ops[j]?).bind (·.dst)
def Xl (ops:Array Oper) (o:Oper):List Nat:=Qo o ++ (Ji ops o).toList
theorem zaep {o:Oper} {t:Nat}:t ∈ Qo o ↔ Operand.tmp t ∈ o.op.operands.toList:=by
  unfold Qo
  rw [List.mem_filterMap]
  constructor
  · rintro ⟨x,hx,he⟩
    cases x <;> simp at he
    subst he;exact hx
  · intro h;exact ⟨_,h,rfl⟩
theorem zacj {T T':Nat → D}:∀ {xs:List Operand},(∀ t,Operand.tmp t ∈ xs → T t = T' t) → (grabs T xs).1 = (grabs T' xs).1 ∧ ∀ t,Operand.tmp t ∈ xs → (grabs T xs).2 t = (grabs T' xs).2 t
  | [],h=>⟨rfl,by simp⟩
  | .tmp t :: xs,h=>by
    have h0:=h t (by simp)
    have hg:∀ t',Operand.tmp t' ∈ (Operand.tmp t :: xs) → grab T t t' = grab T' t t':=fun t' ht'=>by
      simp only [grab,h0]
      split
      · simp only [upd];split;rfl;exact h t' ht'
      · exact h t' ht'
    have ih:=zacj (T:=grab T t) (T':=grab T' t) (xs:=xs) fun t' ht'=>hg t' (by simp [ht'])
    refine ⟨by simp only [grabs];rw [h0,ih.1],fun t' ht'=>?_⟩
    simp only [grabs]
    rcases List.mem_cons.1 ht' with e | e
    · cases e
      by_cases hm:Operand.tmp t ∈ xs
      · exact ih.2 t hm
      · have out:∀ {T:Nat → D} {xs:List Operand},Operand.tmp t ∉ xs → (grabs T xs).2 t = T t:=by
          intro T xs
          induction xs generalizing T with
          | nil=>intro _;rfl
          | cons x xs ih =>
            intro hm
            simp only [List.mem_cons,not_or] at hm
            cases x <;> simp only [grabs]
            · rw [ih hm.2]
              simp only [grab]
              split
              · rw [Qd (fun e=>hm.1 (by rw [e]))]
              · rfl
            all_goals exact ih hm.2
        rw [out hm,out hm]
        exact hg t (by simp)
    · exact ih.2 t' e
  | .const v :: xs,h=>by
    have ih:=zacj (xs:=xs) fun t ht=>h t (by simp [ht])
    exact ⟨by simp only [grabs];rw [ih.1],fun t ht=>by simp only [grabs];exact ih.2 t (by simpa using ht)⟩
  | .func f :: xs,h=>by
    have ih:=zacj (xs:=xs) fun t ht=>h t (by simp [ht])
    exact ⟨by simp only [grabs];rw [ih.1],fun t ht=>by simp only [grabs];exact ih.2 t (by simpa using ht)⟩
  | .global g :: xs,h=>by
    have ih:=zacj (xs:=xs) fun t ht=>h t (by simp [ht])
    exact ⟨by simp only [grabs];rw [ih.1],fun t ht=>by simp only [grabs];exact ih.2 t (by simpa using ht)⟩
theorem zadj {T:Nat → D} {t:Nat}:∀ {xs:List Operand},Operand.tmp t ∉ xs ∨ owns (T t) = false → (grabs T xs).2 t = T t
  | [],h=>rfl
  | x :: xs,h=>by
    have h':Operand.tmp t ∉ xs ∨ owns (T t) = false:=h.imp (fun h hm=>h (by simp [hm])) id
    cases x with
    | tmp t' =>
      simp only [grabs]
      have e:grab T t' t = T t:=by
        simp only [grab]
        split
        · rename_i ho
          by_cases e:t = t'
          · subst e
            rcases h with h | h
            · exact (h (by simp)).elim
            · rw [h] at ho;cases ho
          · rw [Qd e]
        · rfl
      rw [zadj (by rw [e];exact h'),e]
    | const v=>simp only [grabs];exact zadj h'
    | func f=>simp only [grabs];exact zadj h'
    | global g=>simp only [grabs];exact zadj h'
theorem taken_fst {T T':Nat → D} {o:Oper} (h:∀ t ∈ Qo o,T t = T' t):(taken T o.op).1 = (taken T' o.op).1 ∧ ∀ t ∈ Qo o,(taken T o.op).2 t = (taken T' o.op).2 t:=by
  have h':∀ t,Operand.tmp t ∈ o.op.operands.toList → T t = T' t:=fun t ht=>h t (zaep.2 ht)
  unfold taken
  split
  · refine ⟨?_,h⟩
    dsimp only
    apply List.map_congr_left
    intro x hx
    cases x with
    | tmp t=>simp only [look];rw [h' t hx]
    | _=>rfl
  · exact ⟨(zacj h').1,fun t ht=>(zacj h').2 t (zaep.1 ht)⟩
theorem taken_snd {T:Nat → D} {o:Oper} {t:Nat} (h:t ∉ Qo o ∨ owns (T t) = false):(taken T o.op).2 t = T t:=by
  unfold taken
  split
  · rfl
  · exact zadj (h.imp (fun h hm=>h (zaep.2 hm)) id)

theorem opF_H {o:Oper} {T:Nat → D} {H:Hp} (hk:kindO Γ o ≤ 1):(opF P Γ ch true o (taken T o.op).1 H).H = H:=by
  generalize hvs:(taken T o.op).1 = vs
  unfold opF
  unfold kindO at hk
  split <;> rename_i ho <;> (try rw [ho] at hk hvs)
  · split <;> rfl
  · split <;> rfl
  · split <;> rfl
  · unfold zafp;split <;> rfl
  · unfold opBox;split <;> rfl
  · unfold zafn;(repeat' split) <;> rfl
  · unfold zaaf;(repeat' split) <;> rfl
  · simp only [zahi];unfold Xz;(repeat' split) <;> rfl
  · simp at hk
  · unfold opNil;(repeat' split) <;> rfl
  · unfold opBin;(repeat' split) <;> rfl
  · unfold opUn;(repeat' split) <;> rfl
  · unfold zabr;(repeat' split) <;> rfl
  · unfold zaat;(repeat' split) <;> rfl
  · unfold zaai;(repeat' split) <;> rfl
  · unfold zafk;(repeat' split) <;> rfl
  · unfold zaak;(repeat' split) <;> rfl
  · unfold zafm;(repeat' split) <;> rfl
  · unfold zaaj;(repeat' split) <;> rfl
  · unfold zadq zafl;(repeat' split) <;> rfl
  · unfold Jh;(repeat' split) <;> rfl
  · rename_i c
    unfold Jc
    split
    · simp only [opLenD];unfold opLenT opLen;(repeat' split) <;> rfl
    · unfold zacg
      split
      · rfl
      · unfold opAppZ;(repeat' split) <;> rfl
      · rename_i hn _
        unfold zacq
        split
        · split
          · split
            · split
              · rfl
              · rfl
              · exact (hn _ _ _ _ _ _ rfl rfl).elim
              · rfl
            · rfl
          · rfl
        · rfl
    · unfold opCapT opCap;(repeat' split) <;> rfl
    · unfold opMin;(repeat' split) <;> rfl
    · rename_i h1 _ _
      dsimp only at hk
      rw [h1] at hk;simp at hk
    · rename_i g hg
      dsimp only at hk
      rw [hg] at hk
      cases g with
      | func f =>
        simp only at hk
        unfold Xa
        split
        · rename_i f' caps args
          have e:f' = f:=by
            obtain ⟨c1,c2,c3⟩:=c
            simp only at hg
            subst hg
            simp [taken,isLen,Op.operands,Call.operands,grabs] at hvs
            exact hvs.1.1.symm
          subst e
          cases hΓf:Γ f' with
          | none=>rfl
          | pure F=>rfl
          | ext F=>rfl
          | prel F=>rfl
          | rel F=>rw [hΓf] at hk;simp [isPure] at hk
          | gen F=>rw [hΓf] at hk;simp [isPure] at hk
        · rfl
      | _=>simp at hk
    · rfl
  · rfl
  · rfl
  · rfl
  · rfl
theorem opF_indep {o:Oper} {T:Nat → D} {H H':Hp} (hk:kindO Γ o = 0):(opF P Γ ch true o (taken T o.op).1 H).pre = (opF P Γ ch true o (taken T o.op).1 H').pre ∧ (opF P Γ ch true o (taken T o.op).1 H).val = (opF P Γ ch true o (taken T o.op).1 H').val ∧ (opF P Γ ch true o (taken T o.op).1 H).back = (opF P Γ ch true o (taken T o.op).1 H').back:=by
  generalize hvs:(taken T o.op).1 = vs
  unfold opF
  unfold kindO at hk
  split <;> rename_i ho <;> (try rw [ho] at hk hvs)
  · split <;> exact ⟨rfl,rfl,rfl⟩
  · split <;> exact ⟨rfl,rfl,rfl⟩
  · split <;> exact ⟨rfl,rfl,rfl⟩
  · unfold zafp;split <;> exact ⟨rfl,rfl,rfl⟩
  · unfold opBox;split <;> exact ⟨rfl,rfl,rfl⟩
  · unfold zafn;(repeat' split) <;> exact ⟨rfl,rfl,rfl⟩
  · unfold zaaf;(repeat' split) <;> exact ⟨rfl,rfl,rfl⟩
  · simp at hk
  · simp at hk
  · unfold opNil;(repeat' split) <;> exact ⟨rfl,rfl,rfl⟩
  · unfold opBin;(repeat' split) <;> exact ⟨rfl,rfl,rfl⟩
  · unfold opUn;(repeat' split) <;> exact ⟨rfl,rfl,rfl⟩
  · unfold zabr;(repeat' split) <;> exact ⟨rfl,rfl,rfl⟩
  · unfold zaat;(repeat' split) <;> exact ⟨rfl,rfl,rfl⟩
  · unfold zaai;(repeat' split) <;> exact ⟨rfl,rfl,rfl⟩
  · unfold zafk;(repeat' split) <;> exact ⟨rfl,rfl,rfl⟩
  · unfold zaak;(repeat' split) <;> exact ⟨rfl,rfl,rfl⟩
  · unfold zafm;(repeat' split) <;> exact ⟨rfl,rfl,rfl⟩
  · unfold zaaj;(repeat' split) <;> exact ⟨rfl,rfl,rfl⟩
  · unfold zadq zafl;(repeat' split) <;> exact ⟨rfl,rfl,rfl⟩
  · unfold Jh;(repeat' split) <;> exact ⟨rfl,rfl,rfl⟩
  · rename_i c
    unfold Jc
    split
    · simp only [opLenD];unfold opLenT opLen;(repeat' split) <;> exact ⟨rfl,rfl,rfl⟩
    · rename_i h1 _ _
      dsimp only at hk
      rw [h1] at hk;simp at hk
    · unfold opCapT opCap;(repeat' split) <;> exact ⟨rfl,rfl,rfl⟩
    · unfold opMin;(repeat' split) <;> exact ⟨rfl,rfl,rfl⟩
    · rename_i h1 _ _
      dsimp only at hk
      rw [h1] at hk;simp at hk
    · rename_i g hg
      dsimp only at hk
      rw [hg] at hk
      cases g with
      | func f=>simp only at hk;split at hk <;> simp at hk
      | _=>simp at hk
    · exact ⟨rfl,rfl,rfl⟩
  · exact ⟨rfl,rfl,rfl⟩
  · exact ⟨rfl,rfl,rfl⟩
  · exact ⟨rfl,rfl,rfl⟩
  · exact ⟨rfl,rfl,rfl⟩

theorem back_owned {o:Oper} {T:Nat → D} {H:Hp} {t:Nat} {xs:List Operand} (hx:o.op.operands.toList = .tmp t :: xs) (hb:(opF P Γ ch true o (taken T o.op).1 H).back ≠ none):owns (T t) = true:=by
  revert hb
  generalize hvs:(taken T o.op).1 = vs
  have key:∀ d ds,isLen o.op = false → vs = d :: ds → d = T t:=by
    intro d ds hl e
    rw [e] at hvs
    simp only [taken,hl,Bool.false_eq_true,if_false,hx,grabs] at hvs
    simp at hvs
    exact hvs.1.symm
  unfold opF
  split <;> rename_i ho <;> (try rw [ho] at key)
  · split <;> (intro h;exact (h rfl).elim)
  · split <;> (intro h;exact (h rfl).elim)
  · split <;> (intro h;exact (h rfl).elim)
  · unfold zafp;split <;> (intro h;exact (h rfl).elim)
  · unfold opBox;split <;> (intro h;exact (h rfl).elim)
  · unfold zafn;(repeat' split) <;> (intro h;exact (h rfl).elim)
  · unfold zaaf;(repeat' split) <;> (intro h;exact (h rfl).elim)
  · simp only [zahi];unfold Xz;(repeat' split) <;> (intro h;exact (h rfl).elim)
  · unfold opStore
    split
    · split <;> (intro h;exact (h rfl).elim)
    · intro _
      rw [← key _ _ rfl rfl]
      rfl
    · intro h;exact (h rfl).elim
  · unfold opNil;(repeat' split) <;> (intro h;exact (h rfl).elim)
  · unfold opBin;(repeat' split) <;> (intro h;exact (h rfl).elim)
  · unfold opUn;(repeat' split) <;> (intro h;exact (h rfl).elim)
  · unfold zabr;(repeat' split) <;> (intro h;exact (h rfl).elim)
  · unfold zaat;(repeat' split) <;> (intro h;exact (h rfl).elim)
  · unfold zaai;(repeat' split) <;> (intro h;exact (h rfl).elim)
  · unfold zafk;(repeat' split) <;> (intro h;exact (h rfl).elim)
  · unfold zaak;(repeat' split) <;> (intro h;exact (h rfl).elim)
  · unfold zafm;(repeat' split) <;> (intro h;exact (h rfl).elim)
  · unfold zaaj;(repeat' split) <;> (intro h;exact (h rfl).elim)
  · unfold zadq zafl;(repeat' split) <;> (intro h;exact (h rfl).elim)
  · unfold Jh
    split
    · rename_i ds
      dsimp only
      split
      · rename_i hds
        intro _
        rw [← key _ _ rfl rfl]
        exact hds
      · intro h;exact (h rfl).elim
    · intro h;exact (h rfl).elim
  · unfold Jc
    split
    · simp only [opLenD];unfold opLenT opLen;(repeat' split) <;> (intro h;exact (h rfl).elim)
    · unfold zacg zacq opAppZ;(repeat' split) <;> (intro h;exact (h rfl).elim)
    · unfold opCapT opCap;(repeat' split) <;> (intro h;exact (h rfl).elim)
    · unfold opMin;(repeat' split) <;> (intro h;exact (h rfl).elim)
    · unfold opCopy;(repeat' split) <;> (intro h;exact (h rfl).elim)
    · unfold Xa;(repeat' split) <;> (intro h;exact (h rfl).elim)
    · intro h;exact (h rfl).elim
  · intro h;exact (h rfl).elim
  · intro h;exact (h rfl).elim
  · intro h;exact (h rfl).elim
  · intro h;exact (h rfl).elim
theorem Zq {dst:Option Nat} {d:D} {T:Nat → D} {t:Nat} (h:dst ≠ some t):putD dst d T t = T t:=by
  cases dst with
  | none=>rfl
  | some t'=>exact Qd fun e=>h (by rw [e])
theorem Vc {dst:Option Nat} {d:D} {T:Nat → D} {t:Nat} (h:dst = some t):putD dst d T t = d:=by subst h;exact Qe ..
theorem backT_cases (op:Op) (b:Option D) (T:Nat → D):backT op b T = T ∨ ∃ d t xs,b = some d ∧ op.operands.toList = .tmp t :: xs ∧ backT op b T = upd T t d:=by
  unfold backT
  cases b with
  | none=>exact .inl rfl
  | some d =>
    cases hx:op.operands.toList with
    | nil=>exact .inl rfl
    | cons x xs =>
      cases x with
      | tmp t=>exact .inr ⟨d,t,xs,rfl,rfl,rfl⟩
      | _=>exact .inl rfl
theorem backT_congr (op:Op) (b:Option D) {T T':Nat → D} {t:Nat} (h:T t = T' t):backT op b T t = backT op b T' t:=by
  unfold backT
  cases b with
  | none=>exact h
  | some d =>
    cases op.operands.toList with
    | nil=>exact h
    | cons x xs =>
      cases x with
      | tmp t'=>simp only [upd];split;rfl;exact h
      | _=>exact h
theorem backT_ne {o:Oper} {b:Option D} {T:Nat → D} {t:Nat} (h:b ≠ none → ∀ xs,o.op.operands.toList ≠ .tmp t :: xs):backT o.op b T t = T t:=by
  rcases backT_cases o.op b T with e | ⟨d,t',xs,h1,h2,e⟩
  · rw [e]
  · rw [e]
    exact Qd fun e'=>h (by rw [h1];simp) xs (by rw [e'];exact h2)
theorem Zt {ops:Array Oper} {o:Oper} {S:St} {t:Nat} (h1:o.dst ≠ some t) (h2:t ∉ Qo o ∨ owns (S.T t) = false):(stepG P Γ ch true ops o S).2.T t = S.T t:=by
  unfold stepG
  split
  · rfl
  · exact Zq h1
  · simp only [step]
    rw [Zq h1,backT_ne,taken_snd h2]
    intro hb xs hx
    have ho:=back_owned hx hb
    rcases h2 with h2 | h2
    · exact h2 (zaep.2 (by rw [hx];simp))
    · rw [h2] at ho;cases ho
theorem zafb {ops:Array Oper} {o:Oper} {S:St} (hk:kindO Γ o ≤ 1):(stepG P Γ ch true ops o S).2.H = S.H:=by
  unfold stepG
  split
  · rfl
  · rfl
  · simp only [step];exact opF_H hk
theorem zafw {ops:Array Oper} {o:Oper} {T T':Nat → D} (hT:∀ t ∈ Xl ops o,T t = T' t):Zl ops o T = Zl ops o T':=by
  unfold Zl
  cases hg:o.guard with
  | none=>rfl
  | some jw =>
    obtain ⟨j,want⟩:=jw
    dsimp only
    cases hj:ops[j]? with
    | none=>rfl
    | some oj =>
      dsimp only
      cases hd:oj.dst with
      | none=>rfl
      | some d =>
        dsimp only
        rw [hT d (by simp [Xl,Ji,hg,hj,hd])]
theorem zacf {ops:Array Oper} {o:Oper} {S S':St} (hT:∀ t ∈ Xl ops o,S.T t = S'.T t) (hH:S.H = S'.H ∨ kindO Γ o = 0) :
    (stepG P Γ ch true ops o S).1 = (stepG P Γ ch true ops o S').1 ∧ ((stepG P Γ ch true ops o S).1 → (∀ t,t ∈ Qo o ∨ o.dst = some t → (stepG P Γ ch true ops o S).2.T t = (stepG P Γ ch true ops o S').2.T t) ∧ (S.H = S'.H → (stepG P Γ ch true ops o S).2.H = (stepG P Γ ch true ops o S').2.H)):=by
  have hT':∀ t ∈ Qo o,S.T t = S'.T t:=fun t ht=>hT t (by simp [Xl,ht])
  have hg:=zafw hT
  unfold stepG
  rw [← hg]
  cases Zl ops o S.T with
  | none=>exact ⟨rfl,fun h=>h.elim⟩
  | some b =>
    cases b with
    | false =>
      refine ⟨rfl,fun _=>⟨fun t ht=>?_,fun h=>h⟩⟩
      dsimp only
      by_cases hd:o.dst = some t
      · rw [Vc hd,Vc hd]
      · rw [Zq hd,Zq hd]
        exact hT' t (ht.resolve_right hd)
    | true =>
      dsimp only
      obtain ⟨e1,e2⟩:=taken_fst (o:=o) hT'
      have er:(opF P Γ ch true o (taken S.T o.op).1 S.H).pre = (opF P Γ ch true o (taken S'.T o.op).1 S'.H).pre ∧ (opF P Γ ch true o (taken S.T o.op).1 S.H).val = (opF P Γ ch true o (taken S'.T o.op).1 S'.H).val ∧ (opF P Γ ch true o (taken S.T o.op).1 S.H).back = (opF P Γ ch true o (taken S'.T o.op).1 S'.H).back:=by
        rcases hH with h | h
        · rw [e1,h];exact ⟨rfl,rfl,rfl⟩
        · have:=opF_indep (P:=P) (ch:=ch) (T:=S.T) (H:=S.H) (H':=S'.H) h
          rw [e1] at this ⊢
          exact this
      obtain ⟨r1,r2,r3⟩:=er
      simp only [step]
      rw [r1,r2,r3]
      refine ⟨rfl,fun _=>⟨fun t ht=>?_,fun h=>by rw [e1,h]⟩⟩
      by_cases hd:o.dst = some t
      · rw [Vc hd,Vc hd]
      · rw [Zq hd,Zq hd]
        have ht:=ht.resolve_right hd
        exact backT_congr _ _ (e2 t ht)

def NS (sh:List Nat) (S:St):Prop:=∀ t ∈ sh,owns (S.T t) = false
def disjoint2 (Γ:FuncId → Con) (ops:Array Oper) (sh:List Nat) (x y:Oper):Bool :=
  (match x.dst with
   | some d=>!(Xl ops y).contains d && !decide (y.dst = some d)
   | none=>true) &&
  (match y.dst with
   | some d=>!(Xl ops x).contains d
   | none=>true) &&
  (Qo x).all (fun t=>!(Qo y).contains t || sh.contains t) &&
  !(kindO Γ x == 2 && kindO Γ y != 0) && !(kindO Γ y == 2 && kindO Γ x != 0) &&
  (Ji ops y).toList.all (fun t=>!(Qo x).contains t || sh.contains t) && (Ji ops x).toList.all (fun t=>!(Qo y).contains t || sh.contains t)
structure Apart (Γ:FuncId → Con) (ops:Array Oper) (sh:List Nat) (x y:Oper):Prop where
  xy:∀ t,x.dst = some t → t ∉ Xl ops y ∧ y.dst ≠ some t
  yx:∀ t,y.dst = some t → t ∉ Xl ops x
  shr:∀ t,t ∈ Qo x → t ∈ Qo y → t ∈ sh
  k1:kindO Γ x = 2 → kindO Γ y = 0
  k2:kindO Γ y = 2 → kindO Γ x = 0
  gy:∀ t,Ji ops y = some t → t ∈ Qo x → t ∈ sh
  gx:∀ t,Ji ops x = some t → t ∈ Qo y → t ∈ sh
theorem apart_of {ops:Array Oper} {sh:List Nat} {x y:Oper} (h:disjoint2 Γ ops sh x y = true):Apart Γ ops sh x y:=by
  unfold disjoint2 at h
  simp only [Bool.and_eq_true] at h
  obtain ⟨⟨⟨⟨⟨⟨h1,h2⟩,h3⟩,h4⟩,h5⟩,h8⟩,h9⟩:=h
  refine ⟨fun t ht=>?_,fun t ht=>?_,fun t h6 h7=>?_,fun h6=>?_,fun h6=>?_,fun t h6 h7=>?_,fun t h6 h7=>?_⟩
  · rw [ht] at h1;simpa using h1
  · rw [ht] at h2;simpa using h2
  · rw [List.all_eq_true] at h3
    have:=h3 t h6
    simpa [h7] using this
  · simpa [h6] using h4
  · simpa [h6] using h5
  · rw [h6] at h8;simpa [h7] using h8
  · rw [h6] at h9;simpa [h7] using h9
theorem kind_le (o:Oper):kindO Γ o ≤ 2:=by
  unfold kindO
  split
  · omega
  · omega
  · split
    · omega
    · omega
    · omega
    · split <;> omega
    · omega
  · omega
theorem Apart.reads {ops:Array Oper} {sh:List Nat} {x y:Oper} (h:Apart Γ ops sh x y) {S:St} (hs:NS sh S):∀ t ∈ Xl ops y,(stepG P Γ cx true ops x S).2.T t = S.T t:=by
  intro t ht
  refine Zt (fun e=>(h.xy t e).1 ht) ?_
  by_cases hx:t ∈ Qo x
  · right
    unfold Xl at ht
    rcases List.mem_append.1 ht with ht | ht
    · exact hs t (h.shr t hx ht)
    · exact hs t (h.gy t (by simpa using ht) hx)
  · exact .inl hx
theorem Apart.symm {ops:Array Oper} {sh:List Nat} {x y:Oper} (h:Apart Γ ops sh x y):Apart Γ ops sh y x :=
  ⟨fun t ht=>⟨h.yx t ht,fun e=>(h.xy t e).2 ht⟩,fun t ht=>(h.xy t ht).1,fun t h1 h2=>h.shr t h2 h1,h.k2,h.k1,h.gx,h.gy⟩
theorem Apart.swap {ops:Array Oper} {sh:List Nat} {x y:Oper} (h:Apart Γ ops sh x y) {S:St} (hs:NS sh S)
    (px:(stepG P Γ cx true ops x S).1) (py:(stepG P Γ cy true ops y (stepG P Γ cx true ops x S).2).1) :
    (stepG P Γ cy true ops y S).1 ∧ (stepG P Γ cx true ops x (stepG P Γ cy true ops y S).2).1 ∧ (stepG P Γ cx true ops x (stepG P Γ cy true ops y S).2).2 = (stepG P Γ cy true ops y (stepG P Γ cx true ops x S).2).2 ∧
      (stepG P Γ cy true ops y S).2.T = (fun t=>if t ∈ Qo y ∨ y.dst = some t then (stepG P Γ cy true ops y (stepG P Γ cx true ops x S).2).2.T t else S.T t):=by
  have hry:=h.reads (P:=P) (cx:=cx) hs
  have hrx:=h.symm.reads (P:=P) (cx:=cy) hs
  have kx:=kind_le (Γ:=Γ) x
  have ky:=kind_le (Γ:=Γ) y
  -- y, before and behind x
  have hHy:(stepG P Γ cx true ops x S).2.H = S.H ∨ kindO Γ y = 0:=by
    by_cases e:kindO Γ x = 2
    · exact .inr (h.k1 e)
    · exact .inl (zafb (by omega))
  obtain ⟨ly1,ly2⟩:=zacf (P:=P) (ch:=cy) (S:=(stepG P Γ cx true ops x S).2) (S':=S) hry hHy
  have py':(stepG P Γ cy true ops y S).1:=by rw [← ly1];exact py
  obtain ⟨ly3,ly4⟩:=ly2 py
  have hHx:(stepG P Γ cy true ops y S).2.H = S.H ∨ kindO Γ x = 0:=by
    by_cases e:kindO Γ y = 2
    · exact .inr (h.k2 e)
    · exact .inl (zafb (by omega))
  obtain ⟨lx1,lx2⟩:=zacf (P:=P) (ch:=cx) (S:=(stepG P Γ cy true ops y S).2) (S':=S) hrx hHx
  have px':(stepG P Γ cx true ops x (stepG P Γ cy true ops y S).2).1:=by rw [lx1];exact px
  obtain ⟨lx3,lx4⟩:=lx2 px'
  -- slots
  have fx:∀ (S:St) t,¬ (t ∈ Qo x ∨ x.dst = some t) → (stepG P Γ cx true ops x S).2.T t = S.T t:=fun S t ht=>Zt (fun e=>ht (.inr e)) (.inl fun e=>ht (.inl e))
  have fy:∀ (S:St) t,¬ (t ∈ Qo y ∨ y.dst = some t) → (stepG P Γ cy true ops y S).2.T t = S.T t:=fun S t ht=>Zt (fun e=>ht (.inr e)) (.inl fun e=>ht (.inl e))
  have both:∀ t,(t ∈ Qo x ∨ x.dst = some t) → (t ∈ Qo y ∨ y.dst = some t) → t ∈ Qo x ∧ t ∈ Qo y ∧ x.dst ≠ some t ∧ y.dst ≠ some t ∧ owns (S.T t) = false:=by
    intro t h1 h2
    have n1:x.dst ≠ some t:=fun e=>by
      have:=h.xy t e
      rcases h2 with h2 | h2
      · exact this.1 (by simp [Xl,h2])
      · exact this.2 h2
    have h1:=h1.resolve_right n1
    have n2:y.dst ≠ some t:=fun e=>h.yx t e (by simp [Xl,h1])
    have h2:=h2.resolve_right n2
    exact ⟨h1,h2,n1,n2,hs t (h.shr t h1 h2)⟩
  have eqT:∀ t,(stepG P Γ cx true ops x (stepG P Γ cy true ops y S).2).2.T t = (stepG P Γ cy true ops y (stepG P Γ cx true ops x S).2).2.T t:=by
    intro t
    by_cases h1:t ∈ Qo x ∨ x.dst = some t <;> by_cases h2:t ∈ Qo y ∨ y.dst = some t
    · obtain ⟨a1,a2,a3,a4,a5⟩:=both t h1 h2
      have e1:(stepG P Γ cx true ops x S).2.T t = S.T t:=Zt a3 (.inr a5)
      have e2:(stepG P Γ cy true ops y S).2.T t = S.T t:=Zt a4 (.inr a5)
      have e3:=Zt (P:=P) (Γ:=Γ) (ch:=cx) (ops:=ops) (S:=(stepG P Γ cy true ops y S).2) a3 (.inr (by rw [e2];exact a5))
      have e4:=Zt (P:=P) (Γ:=Γ) (ch:=cy) (ops:=ops) (S:=(stepG P Γ cx true ops x S).2) a4 (.inr (by rw [e1];exact a5))
      rw [e3,e4,e1,e2]
    · rw [lx3 t h1,fy _ t h2]
    · rw [fx _ t h1,ly3 t h2]
    · rw [fx _ t h1,fy _ t h2,fy _ t h2,fx _ t h1]
  have eqH:(stepG P Γ cx true ops x (stepG P Γ cy true ops y S).2).2.H = (stepG P Γ cy true ops y (stepG P Γ cx true ops x S).2).2.H:=by
    by_cases e1:kindO Γ x = 2
    · have k0:=h.k1 e1
      rw [zafb (P:=P) (ch:=cy) (o:=y) (S:=(stepG P Γ cx true ops x S).2) (by omega)]
      exact lx4 (zafb (by omega))
    · rw [zafb (P:=P) (ch:=cx) (o:=x) (S:=(stepG P Γ cy true ops y S).2) (by omega)]
      exact (ly4 (zafb (by omega))).symm
  refine ⟨py',px',?_,?_⟩
  · cases hA:(stepG P Γ cx true ops x (stepG P Γ cy true ops y S).2).2 with
    | mk T1 H1 =>
      cases hB:(stepG P Γ cy true ops y (stepG P Γ cx true ops x S).2).2 with
      | mk T2 H2 =>
        rw [hA,hB] at eqH eqT
        dsimp only at eqH eqT
        rw [eqH,funext eqT]
  · funext t
    split
    · rename_i ht;exact (ly3 t ht).symm
    · rename_i ht;exact fy _ t ht

def twoX (sh:List Nat) (x y:Oper):Bool :=
  match x.op,y.op,x.dst,y.dst with
  | .extract (.tmp t) i,.extract (.tmp t') j,some d,some e=>decide (t = t') && !decide (i = j) && x.guard.isNone && y.guard.isNone && !decide (d = t) && !decide (e = t) && !decide (d = e) && !sh.contains d && !sh.contains e
  | _,_,_,_=>false
def hole (ds:List D) (i:Nat):List D:=if owns (ds.getD i .any) then ds.set i .any else ds
theorem hole_length (ds:List D) (i:Nat):(hole ds i).length = ds.length:=by unfold hole;split <;> simp
theorem hole_get (ds:List D) {i j:Nat} (h:i ≠ j):(hole ds i).getD j .any = ds.getD j .any:=by
  unfold hole;split
  · rw [List.getD_eq_getElem?_getD,List.getD_eq_getElem?_getD,List.getElem?_set_ne h]
  · rfl
theorem hole_comm (ds:List D) {i j:Nat} (h:i ≠ j):hole (hole ds i) j = hole (hole ds j) i:=by
  have e1:=hole_get ds h
  have e2:=hole_get ds h.symm
  have u1:∀ l,hole l i = if owns (l.getD i .any) then l.set i .any else l:=fun _=>rfl
  have u2:∀ l,hole l j = if owns (l.getD j .any) then l.set j .any else l:=fun _=>rfl
  rw [u2 (hole ds i),u1 (hole ds j),e1,e2,u1 ds,u2 ds]
  split <;> split <;> first | rfl | exact List.set_comm _ _ h
theorem hole_owns {ds:List D} (h:ownsL ds = false) (i:Nat):hole ds i = ds:=by
  unfold hole
  rw [if_neg]
  by_cases hi:i < ds.length
  · have:=zadg.1 h (ds.getD i .any) (by rw [List.getD_eq_getElem?_getD,List.getElem?_eq_getElem hi];exact List.getElem_mem hi)
    rw [this];simp
  · rw [List.getD_eq_getElem?_getD,List.getElem?_eq_none (by omega)];simp [owns]
theorem zabb {ops:Array Oper} {x:Oper} {t i d:Nat} (ho:x.op = .extract (.tmp t) i) (hg:x.guard = none) (hd:x.dst = some d) (hdt:d ≠ t) {S:St} :
    (∀ ds,S.T t = .tup ds → ((stepG P Γ cx true ops x S).1 ↔ i < ds.length) ∧ (stepG P Γ cx true ops x S).2 = ⟨upd (upd S.T t (.tup (hole ds i))) d (ds.getD i .any),S.H⟩) ∧ ((stepG P Γ cx true ops x S).1 → ∃ ds,S.T t = .tup ds):=by
  have hxs:x.op.operands.toList = [.tmp t]:=by rw [ho];rfl
  have e0:taken S.T x.op = ([S.T t],grab S.T t):=by
    unfold taken
    rw [if_neg (by rw [ho];simp [isLen]),hxs];rfl
  have e1:stepG P Γ cx true ops x S = step P Γ cx true x S:=by
    unfold stepG Zl;rw [hg]
  have e2:∀ vs H,opF P Γ cx true x vs H = Jh i vs H:=fun vs H=>by unfold opF;rw [ho]
  refine ⟨fun ds hT=>?_,fun h=>?_⟩
  · rw [e1]
    simp only [step,e0,e2,hT,Jh]
    by_cases hw:ownsL ds = true
    · simp only [hw,if_true]
      refine ⟨?_,?_⟩
      · unfold backOk;rw [hxs];simp [hd,hdt]
      · rw [hd]
        have:owns (S.T t) = true:=by rw [hT];simpa [owns] using hw
        simp only [putD,backT,hxs,grab,this,if_true]
        congr 2
        funext z
        by_cases e:z = t
        · subst e;rw [Qe,Qe];rfl
        · rw [Qd e,Qd e,Qd e]
    · have hw:ownsL ds = false:=by simpa using hw
      simp only [hw,Bool.false_eq_true,if_false]
      refine ⟨?_,?_⟩
      · unfold backOk;simp
      · rw [hd]
        have:owns (S.T t) = false:=by rw [hT];simpa [owns] using hw
        simp only [putD,backT,grab,this,Bool.false_eq_true,if_false]
        congr 2
        rw [hole_owns hw,Jk hT]
  · rw [e1] at h
    simp only [step,e0,e2] at h
    have h:=h.1
    unfold Jh at h
    split at h
    · rename_i ds he
      simp only [List.cons.injEq,and_true] at he
      exact ⟨ds,he⟩
    · exact h.elim
theorem twoX_swap {ops:Array Oper} {sh:List Nat} {x y:Oper} (h:twoX sh x y = true) {S:St}
    (px:(stepG P Γ cx true ops x S).1) (py:(stepG P Γ cy true ops y (stepG P Γ cx true ops x S).2).1) :
    (stepG P Γ cy true ops y S).1 ∧ (stepG P Γ cx true ops x (stepG P Γ cy true ops y S).2).1 ∧ (stepG P Γ cx true ops x (stepG P Γ cy true ops y S).2).2 = (stepG P Γ cy true ops y (stepG P Γ cx true ops x S).2).2 ∧ (∀ t,x.dst = some t → t ∉ sh) ∧ (∀ t,y.dst = some t → t ∉ sh):=by
  unfold twoX at h
  split at h
  · rename_i t i t' j d e hx hy hdx hdy
    simp only [Bool.and_eq_true,Bool.not_eq_true',decide_eq_true_eq,decide_eq_false_iff_not] at h
    obtain ⟨⟨⟨⟨⟨⟨⟨⟨rfl,hij⟩,gx⟩,gy⟩,n1⟩,n2⟩,n3⟩,m1⟩,m2⟩:=h
    have gx:x.guard = none:=by simpa using gx
    have gy:y.guard = none:=by simpa using gy
    obtain ⟨a1,a2⟩:=zabb (P:=P) (Γ:=Γ) (cx:=cx) (ops:=ops) hx gx hdx n1 (S:=S)
    obtain ⟨ds,hT⟩:=a2 px
    obtain ⟨a3,a4⟩:=a1 ds hT
    obtain ⟨b1,b2⟩:=zabb (P:=P) (Γ:=Γ) (cx:=cy) (ops:=ops) hy gy hdy n2 (S:=S)
    obtain ⟨b3,b4⟩:=b1 ds hT
    have T1:(stepG P Γ cx true ops x S).2.T t = .tup (hole ds i):=by rw [a4];dsimp only;rw [Qd (Ne.symm n1),Qe]
    have T2:(stepG P Γ cy true ops y S).2.T t = .tup (hole ds j):=by rw [b4];dsimp only;rw [Qd (Ne.symm n2),Qe]
    obtain ⟨c1,c2⟩:=(zabb (P:=P) (Γ:=Γ) (cx:=cy) (ops:=ops) hy gy hdy n2 (S:=(stepG P Γ cx true ops x S).2)).1 _ T1
    obtain ⟨d1,d2⟩:=(zabb (P:=P) (Γ:=Γ) (cx:=cx) (ops:=ops) hx gx hdx n1 (S:=(stepG P Γ cy true ops y S).2)).1 _ T2
    rw [hole_length] at c1 d1
    refine ⟨b3.2 (c1.1 py),d1.2 (a3.1 px),?_,fun z hz=>?_,fun z hz=>?_⟩
    · rw [c2,d2,a4,b4,hole_comm ds (Ne.symm hij),hole_get ds hij,hole_get ds (Ne.symm hij)]
      dsimp only
      congr 1
      funext z
      by_cases e1:z = d
      · subst e1;rw [Qe,Qd n3,Qd n1,Qe]
      · by_cases e2:z = e
        · subst e2;rw [Qd e1,Qd n2,Qe,Qe]
        · rw [Qd e1,Qd e2]
          by_cases e3:z = t
          · subst e3;rw [Qe,Qe]
          · rw [Qd e3,Qd e2,Qd e3,Qd e3,Qd e1,Qd e3]
    · rw [hdx] at hz;cases hz;simpa using m1
    · rw [hdy] at hz;cases hz;simpa using m2
  · cases h

variable (P Γ) in
def WD (sh:List Nat) (ops:Array Oper):List Nat → St → (St → Prop) → Prop
  | [],S,K=>K S
  | i :: L,S,K=>match ops[i]? with
    | none=>WD sh ops L S K
    | some o=>∀ ch,(stepG P Γ ch true ops o S).1 ∧ (∀ t,o.dst = some t → t ∈ sh → i + 1 ≠ ops.size → owns ((stepG P Γ ch true ops o S).2.T t) = false) ∧ WD sh ops L (stepG P Γ ch true ops o S).2 K
variable (P Γ) in
def VD (srcs sh:List Nat) (ops:Array Oper):List Oper → St → (St → Prop) → Prop
  | [],S,K=>K S
  | o :: L,S,K=>∀ ch,(stepG P Γ ch true ops o S).1 ∧
    match o.dst with
    | some t=>(t ∈ sh → L ≠ [] → owns ((stepG P Γ ch true ops o S).2.T t) = false) ∧ if t ∈ srcs then (match (stepG P Γ ch true ops o S).2.T t with
        | .bool b=>splitB b (VD srcs sh ops L ⟨upd (stepG P Γ ch true ops o S).2.T t (.bool true),(stepG P Γ ch true ops o S).2.H⟩ K) (VD srcs sh ops L ⟨upd (stepG P Γ ch true ops o S).2.T t (.bool false),(stepG P Γ ch true ops o S).2.H⟩ K)
        | _=>VD srcs sh ops L (stepG P Γ ch true ops o S).2 K) else VD srcs sh ops L (stepG P Γ ch true ops o S).2 K
    | none=>VD srcs sh ops L (stepG P Γ ch true ops o S).2 K
theorem VD_WD {srcs sh:List Nat} {ops:Array Oper} {K:St → Prop}:∀ {k:Nat} {L:List Oper} {S:St},(∀ j,L[j]? = ops[k + j]?) → VD P Γ srcs sh ops L S K → WD P Γ sh ops (List.range' k L.length) S K
  | k,[],S,hL,h=>h
  | k, o :: L,S,hL,h=>by
    have h0:ops[k]? = some o:=by have:=hL 0;simpa using this.symm
    have hL':∀ j,L[j]? = ops[k + 1 + j]?:=fun j=>by
      have:=hL (j + 1)
      rw [List.getElem?_cons_succ] at this
      rw [this];congr 1;omega
    have hne:k + 1 ≠ ops.size → L ≠ []:=fun hk e=>by
      subst e
      have h2:=hL' 0
      have h3:=(Array.getElem?_eq_some_iff.1 h0).1
      rw [Nat.add_zero] at h2
      have:ops.size ≤ k + 1:=by
        rcases Nat.lt_or_ge (k + 1) ops.size with h4 | h4
        · rw [Array.getElem?_eq_getElem h4] at h2;cases h2
        · exact h4
      omega
    simp only [List.length_cons,List.range'_succ,WD,h0]
    simp only [VD] at h
    intro ch
    obtain ⟨h1,h⟩:=h ch
    refine ⟨h1,?_⟩
    generalize (stepG P Γ ch true ops o S).2 = S' at h ⊢
    split at h
    · rename_i t hd
      obtain ⟨h2,h⟩:=h
      refine ⟨fun t' ht' hm hk=>by rw [hd] at ht';cases ht';exact h2 hm (hne hk),?_⟩
      split at h
      · split at h
        · rename_i b hb
          obtain ⟨h3,h4⟩:=h
          cases b
          · have:=h4 rfl
            rw [Jk hb] at this
            exact VD_WD hL' this
          · have:=h3 rfl
            rw [Jk hb] at this
            exact VD_WD hL' this
        · exact VD_WD hL' h
      · exact VD_WD hL' h
    · rename_i hd
      exact ⟨fun t' ht'=>by rw [hd] at ht';(try cases ht'),VD_WD hL' h⟩
theorem NS.step {sh:List Nat} {ops:Array Oper} {o:Oper} {S:St} (hs:NS sh S) (he:∀ t,o.dst = some t → t ∈ sh → owns ((stepG P Γ ch true ops o S).2.T t) = false):NS sh (stepG P Γ ch true ops o S).2:=fun t ht=>by
  by_cases hd:o.dst = some t
  · exact he t hd ht
  · rw [Zt hd (.inr (hs t ht))];exact hs t ht
theorem WD_first {sh:List Nat} {ops:Array Oper} {K:St → Prop} {i:Nat} {y:Oper} (hi:ops[i]? = some y) {M2:List Nat}:∀ {M1:List Nat} {S:St},(∀ j ∈ M1,(∃ x,ops[j]? = some x ∧ (Apart Γ ops sh x y ∨ twoX sh x y = true)) ∧ j + 1 ≠ ops.size) → (M1 ≠ [] → NS sh S) → WD P Γ sh ops (M1 ++ i :: M2) S K → WD P Γ sh ops (i :: (M1 ++ M2)) S K
  | [],S,hM,hs,h=>h
  | j :: M1,S,hM,hs,h=>by
    obtain ⟨⟨x,hj,hap⟩,hjl⟩:=hM j (by simp)
    have hs:=hs (by simp)
    rw [List.cons_append,WD,hj] at h
    dsimp only at h
    have both:∀ cx cy,(stepG P Γ cx true ops x S).1 ∧ (∀ t,x.dst = some t → t ∈ sh → j + 1 ≠ ops.size → owns ((stepG P Γ cx true ops x S).2.T t) = false) ∧
        (stepG P Γ cy true ops y (stepG P Γ cx true ops x S).2).1 ∧ (∀ t,y.dst = some t → t ∈ sh → i + 1 ≠ ops.size → owns ((stepG P Γ cy true ops y (stepG P Γ cx true ops x S).2).2.T t) = false) ∧ WD P Γ sh ops (M1 ++ M2) (stepG P Γ cy true ops y (stepG P Γ cx true ops x S).2).2 K:=by
      intro cx cy
      obtain ⟨p1,e1,h⟩:=h cx
      have ih:=WD_first hi (fun k hk=>hM k (by simp [hk])) (fun _=>hs.step fun t ht hm=>e1 t ht hm hjl) h
      rw [WD,hi] at ih
      dsimp only at ih
      obtain ⟨p2,e2,ih⟩:=ih cy
      exact ⟨p1,e1,p2,e2,ih⟩
    clear h
    rcases hap with hap | hap
    case inr =>
      rw [WD,hi]
      dsimp only
      intro cy
      refine ⟨?_,?_,?_⟩
      · obtain ⟨p1,e1,p2,e2,ih⟩:=both ⟨Unit,()⟩ cy
        exact (twoX_swap hap p1 p2).1
      · obtain ⟨p1,e1,p2,e2,ih⟩:=both ⟨Unit,()⟩ cy
        exact fun t ht hm hl=>((twoX_swap hap p1 p2).2.2.2.2 t ht hm).elim
      · rw [List.cons_append,WD,hj]
        dsimp only
        intro cx
        obtain ⟨p1,e1,p2,e2,ih⟩:=both cx cy
        obtain ⟨q1,q2,q3,q4,q5⟩:=twoX_swap hap p1 p2
        rw [q3]
        exact ⟨q2,fun t ht hm hl=>(q4 t ht hm).elim,ih⟩
    rw [WD,hi]
    dsimp only
    intro cy
    refine ⟨?_,fun t ht hm hl=>?_,?_⟩
    · obtain ⟨p1,e1,p2,e2,ih⟩:=both ⟨Unit,()⟩ cy
      exact (hap.swap hs p1 p2).1
    · obtain ⟨p1,e1,p2,e2,ih⟩:=both ⟨Unit,()⟩ cy
      rw [(hap.swap hs p1 p2).2.2.2]
      simp only [ht,or_true,if_true]
      exact e2 t ht hm hl
    · rw [List.cons_append,WD,hj]
      dsimp only
      intro cx
      obtain ⟨p1,e1,p2,e2,ih⟩:=both cx cy
      obtain ⟨q1,q2,q3,q4⟩:=hap.swap hs p1 p2
      rw [q3]
      refine ⟨q2,fun t ht hm hl=>?_,ih⟩
      have:=hap.xy t ht
      rw [Zt this.2 (.inl fun hx=>this.1 (by simp [Xl,hx]))]
      exact e1 t ht hm hl

def maskOf (o:Oper) (acc:List Nat):Nat:=(o.after.toList.filter (Region.binds .any)).foldl (fun s e=>s ||| 2 ^ e.on ||| acc.getD e.on 0) 0
def befGo:List Oper → List Nat → List Nat
  | [],acc=>acc
  | o :: os,acc=>befGo os (acc ++ [maskOf o acc])
def drawnOk (Γ:FuncId → Con) (ops:Array Oper) (sh:List Nat):Bool :=
  let b:=befGo ops.toList []
  (ops.toList.zipIdx.all fun (o,i)=>(o.after.toList.filter (Region.binds .any)).all fun e=>decide (e.on < i)) &&
  (ops.toList.zipIdx.all fun (y,i)=>ops.toList.zipIdx.all fun (x,j)=>!decide (j < i) || (b.getD i 0).testBit j || disjoint2 Γ ops sh x y || twoX sh x y) &&
  (ops.toList.zipIdx.all fun (y,i)=>!decide (i + 1 = ops.size) || !(y.dst.any fun t=>sh.contains t) || (List.range i).all fun j=>(b.getD i 0).testBit j)
theorem maskOf_bit {o:Oper} {acc:List Nat} {j:Nat} (h:(maskOf o acc).testBit j = true):∃ e ∈ o.after.toList,Region.binds .any e = true ∧ (j = e.on ∨ (acc.getD e.on 0).testBit j = true):=by
  unfold maskOf at h
  have key:∀ (l:List Edge) (s:Nat),(l.foldl (fun s e=>s ||| 2 ^ e.on ||| acc.getD e.on 0) s).testBit j = true → s.testBit j = true ∨ ∃ e ∈ l,j = e.on ∨ (acc.getD e.on 0).testBit j = true:=by
    intro l
    induction l with
    | nil=>intro s h;exact .inl h
    | cons e l ih =>
      intro s h
      rcases ih _ h with h | ⟨e',he',h⟩
      · rw [Nat.testBit_or,Nat.testBit_or,Bool.or_eq_true,Bool.or_eq_true] at h
        rcases h with (h | h) | h
        · exact .inl h
        · rw [Nat.testBit_two_pow] at h
          exact .inr ⟨e,by simp,.inl (by simpa using (of_decide_eq_true h).symm)⟩
        · exact .inr ⟨e,by simp,.inr h⟩
      · exact .inr ⟨e',by simp [he'],h⟩
  rcases key _ _ h with h | ⟨e,he,h⟩
  · simp at h
  · rw [List.mem_filter] at he
    exact ⟨e,he.1,he.2,h⟩
theorem zaew {ops:Array Oper} (Ls:Nat → Prop) (hcl:∀ k o,ops[k]? = some o → Ls k → ∀ e ∈ o.after.toList,Region.binds .any e = true → Ls e.on) :
    ∀ (os:List Oper) (acc:List Nat),(∀ k,os[k]? = ops[acc.length + k]?) → (∀ k o,k < acc.length → ops[k]? = some o → (∀ e ∈ o.after.toList,Region.binds .any e = true → Ls e.on) → ∀ j,(acc.getD k 0).testBit j = true → Ls j) →
      ∀ k o,ops[k]? = some o → (∀ e ∈ o.after.toList,Region.binds .any e = true → Ls e.on) → ∀ j,((befGo os acc).getD k 0).testBit j = true → Ls j
  | [],acc,hos,hacc,k,o,ho,hr,j,hj=>by
    simp only [befGo] at hj
    by_cases hk:k < acc.length
    · exact hacc k o hk ho hr j hj
    · rw [List.getD_eq_getElem?_getD,List.getElem?_eq_none (by omega)] at hj
      simp at hj
  | o' :: os, acc,hos,hacc,k,o,ho,hr,j,hj=>by
    simp only [befGo] at hj
    refine zaew Ls hcl os (acc ++ [maskOf o' acc]) (fun k=>?_) (fun k o hk ho hr j hj=>?_) k o ho hr j hj
    · have:=hos (k + 1)
      rw [List.getElem?_cons_succ] at this
      rw [this,List.length_append]
      congr 1
      simp;omega
    · rw [List.length_append] at hk
      by_cases hk':k < acc.length
      · rw [List.getD_eq_getElem?_getD,List.getElem?_append_left hk',← List.getD_eq_getElem?_getD] at hj
        exact hacc k o hk' ho hr j hj
      · have hk2:k = acc.length:=by simp at hk;omega
        subst hk2
        have h0:o' = o:=by have:=hos 0;rw [Nat.add_zero,ho] at this;simpa using this
        subst h0
        have e1:(acc ++ [maskOf o' acc]).getD acc.length 0 = maskOf o' acc:=by simp [List.getD_eq_getElem?_getD]
        rw [e1] at hj
        obtain ⟨e,he,hb,h⟩:=maskOf_bit hj
        rcases h with rfl | h
        · exact hr e he hb
        · have hlt:e.on < acc.length:=by
            rcases Nat.lt_or_ge e.on acc.length with h' | h'
            · exact h'
            · rw [List.getD_eq_getElem?_getD,List.getElem?_eq_none h'] at h;simp at h
          cases hoe:ops[e.on]? with
          | none =>
            have:e.on < ops.size:=by
              have:=(Array.getElem?_eq_some_iff.1 ho).1
              omega
            rw [Array.getElem?_eq_getElem this] at hoe
            cases hoe
          | some oe=>exact hacc e.on oe hlt hoe (hcl e.on oe hoe (hr e he hb)) j h
section
variable {B:Base} {n:Nat}
theorem WD_any (hΓ:∀ f,ConOk P f (Γ f)) {ops:Array Oper} {sh:List Nat} (hd:Zs n ops = true) (hok:drawnOk Γ ops sh = true) {Q:Exit → St → Prop}:∀ (fuel:Nat) (listed:Array Bool) (S:St) (a:Act) (w:World) (μ:Nat → Nat) (fp:Root → List Nat) (N:Nat),
    ((List.range ops.size).filter fun k=>!listed.getD k true).length ≤ fuel → listed.size = ops.size → (∀ k o,ops[k]? = some o → listed.getD k true = true → ∀ e ∈ o.after.toList,Region.binds .any e = true → listed.getD e.on false = true) → (((List.range ops.size).filter fun k=>!listed.getD k true) ≠ [] → NS sh S) → R B n S [] [] a w μ fp N →
    WD P Γ sh ops ((List.range ops.size).filter fun k=>!listed.getD k true) S (Q .normal) → wpAny P .any ops (lift B n Q) fuel listed a w
  | fuel, listed,S,a,w,μ,fp,N,hf,hsz,hcl,hs,hR,hw=>by
    have hback:∀ i y,ops[i]? = some y → ∀ e ∈ y.after.toList,Region.binds .any e = true → e.on < i:=by
      intro i y hi e he hb
      unfold drawnOk at hok
      simp only [Bool.and_eq_true] at hok
      have h1:=hok.1.1
      rw [List.all_eq_true] at h1
      have h2:=h1 (y,i) (by rw [List.mem_zipIdx_iff_getElem?];simpa using hi)
      rw [List.all_eq_true] at h2
      have:=h2 e (by rw [List.mem_filter];exact ⟨he,hb⟩)
      simpa using this
    -- where all that are left wait, none are left
    have hnone:Region.ready .any ops listed = [] → ((List.range ops.size).filter fun k=>!listed.getD k true) = []:=by
      intro hr
      cases hM:(List.range ops.size).filter fun k=>!listed.getD k true with
      | nil=>rfl
      | cons i M =>
        exfalso
        have hmem:i ∈ (List.range ops.size).filter fun k=>!listed.getD k true:=by rw [hM];simp
        rw [List.mem_filter,List.mem_range] at hmem
        have hsorted:((List.range ops.size).filter fun k=>!listed.getD k true).Pairwise (· < ·):=List.Pairwise.filter _ List.pairwise_lt_range
        have:i ∈ Region.ready .any ops listed:=by
          rw [mem_ready]
          refine ⟨by simpa using hmem.2,ops[i],Array.getElem?_eq_getElem hmem.1,fun e he hb=>?_⟩
          have hlt:=hback i _ (Array.getElem?_eq_getElem hmem.1) e (by simpa using he) hb
          have hlt':e.on < listed.size:=by omega
          cases hle:listed.getD e.on true with
          | true=>rwa [Array.getD_eq_getD_getElem?,Array.getElem?_eq_getElem hlt',Option.getD_some] at hle ⊢
          | false =>
            have hin:e.on ∈ (List.range ops.size).filter fun k=>!listed.getD k true:=by
              rw [List.mem_filter,List.mem_range];exact ⟨by omega,by simp [hle]⟩
            rw [hM] at hin hsorted
            rcases List.mem_cons.1 hin with h | h
            · omega
            · have:=(List.pairwise_cons.1 hsorted).1 _ h;omega
        rw [hr] at this
        cases this
    have hfin:Region.ready .any ops listed = [] → lift B n Q .normal a w:=fun hr=>by
      rw [hnone hr] at hw
      exact ⟨S,μ,fp,N,hR,hw⟩
    cases fuel with
    | zero =>
      have h0:((List.range ops.size).filter fun k=>!listed.getD k true) = []:=List.eq_nil_of_length_eq_zero (by omega)
      have hr:Region.ready .any ops listed = []:=by
        refine List.eq_nil_iff_forall_not_mem.2 fun i hi=>?_
        obtain ⟨h1,o,h2,_⟩:=mem_ready.1 hi
        have:i ∈ (List.range ops.size).filter fun k=>!listed.getD k true:=by
          rw [List.mem_filter,List.mem_range];exact ⟨(Array.getElem?_eq_some_iff.1 h2).1,by simp [h1]⟩
        rw [h0] at this;cases this
      exact ⟨hr,hfin hr⟩
    | succ fuel =>
      refine ⟨hfin,fun i hi=>?_⟩
      obtain ⟨h1,y,h2,h3⟩:=mem_ready.1 hi
      have hlt:=(Array.getElem?_eq_some_iff.1 h2).1
      have hmem:i ∈ (List.range ops.size).filter fun k=>!listed.getD k true:=by
        rw [List.mem_filter,List.mem_range];exact ⟨hlt,by simp [h1]⟩
      have hnodup:((List.range ops.size).filter fun k=>!listed.getD k true).Nodup:=List.Pairwise.filter _ List.nodup_range
      have hsorted:((List.range ops.size).filter fun k=>!listed.getD k true).Pairwise (· < ·):=List.Pairwise.filter _ List.pairwise_lt_range
      obtain ⟨M1,M2,hM⟩:=List.append_of_mem hmem
      have hbit:∀ j,j < ops.size → (!listed.getD j true) = true → ((befGo ops.toList []).getD i 0).testBit j = true → False:=by
        intro j hjs hjl q3
        have:=zaew (ops:=ops) (fun k=>listed.getD k false = true) (fun k o ho hk=>hcl k o ho (by
            have hk':k < listed.size:=by rw [hsz];exact (Array.getElem?_eq_some_iff.1 ho).1
            rw [Array.getD_eq_getD_getElem?,Array.getElem?_eq_getElem hk',Option.getD_some] at hk ⊢
            exact hk)) ops.toList [] (by simp) (by simp) i y h2 (fun e he hb=>h3 e (by simpa using he) hb) j q3
        have hj':j < listed.size:=by omega
        rw [Array.getD_eq_getD_getElem?,Array.getElem?_eq_getElem hj',Option.getD_some] at this
        rw [Array.getD_eq_getD_getElem?,Array.getElem?_eq_getElem hj',Option.getD_some,this] at hjl
        simp at hjl
      have hfirst:WD P Γ sh ops (i :: (M1 ++ M2)) S (Q .normal):=by
        refine WD_first h2 (fun j hj=>?_) (fun _=>hs (by rw [hM];simp)) (hM ▸ hw)
        have hjm:j ∈ (List.range ops.size).filter fun k=>!listed.getD k true:=by rw [hM];simp [hj]
        rw [List.mem_filter,List.mem_range] at hjm
        have hji:j < i:=by
          rw [hM] at hsorted
          exact (List.pairwise_append.1 hsorted).2.2 j hj i (by simp)
        refine ⟨⟨ops[j],Array.getElem?_eq_getElem hjm.1,?_⟩,by omega⟩
        have hok':=hok
        unfold drawnOk at hok'
        simp only [Bool.and_eq_true] at hok'
        have q1:=hok'.1.2
        rw [List.all_eq_true] at q1
        have q2:=q1 (y,i) (by rw [List.mem_zipIdx_iff_getElem?];simpa using h2)
        rw [List.all_eq_true] at q2
        have q3:=q2 (ops[j],j) (by rw [List.mem_zipIdx_iff_getElem?];simp [hjm.1])
        simp only [hji,decide_true,Bool.not_true,Bool.false_or,Bool.or_eq_true] at q3
        rcases q3 with (q3 | q3) | q3
        · exact (hbit j hjm.1 hjm.2 q3).elim
        · exact .inl (apart_of q3)
        · exact .inr q3
      rw [WD,h2] at hfirst
      dsimp only at hfirst
      have hM':((List.range ops.size).filter fun k=>!(listed.setIfInBounds i true).getD k true) = M1 ++ M2:=by
        have e2:((List.range ops.size).filter fun k=>!(listed.setIfInBounds i true).getD k true) = ((List.range ops.size).filter fun k=>!listed.getD k true).filter fun k=>decide (k ≠ i):=by
          rw [List.filter_filter]
          apply List.filter_congr
          intro k _
          by_cases e:k = i
          · subst e
            have:(listed.setIfInBounds k true).getD k true = true:=by
              rw [Array.getD_eq_getD_getElem?,Array.getElem?_setIfInBounds]
              simp only [if_true]
              split <;> rfl
            simp [this]
          · rw [getD_set_ne true (fun h=>e h.symm)]
            simp [e]
        rw [e2,hM]
        have hn:=hM ▸ hnodup
        rw [List.nodup_append] at hn
        have hn2:=List.nodup_cons.1 hn.2.1
        rw [List.filter_append,List.filter_cons]
        simp only [ne_eq,not_true_eq_false,decide_false,Bool.false_eq_true,if_false]
        rw [List.filter_eq_self.2,List.filter_eq_self.2]
        · intro k hk;simp;rintro rfl;exact hn2.1 hk
        · intro k hk;simp;rintro rfl;exact hn.2.2 k hk k (by simp) rfl
      have hns:((List.range ops.size).filter fun k=>!(listed.setIfInBounds i true).getD k true) ≠ [] → ∀ cy,NS sh (stepG P Γ cy true ops y S).2:=by
        intro hrest cy
        have e1:=(hfirst cy).2.1
        rw [hM'] at hrest
        have hs:=hs (by rw [hM];simp)
        by_cases hl:i + 1 = ops.size
        · have hM2:M2 = []:=by
            cases M2 with
            | nil=>rfl
            | cons k M2 =>
              exfalso
              have hk:k ∈ (List.range ops.size).filter fun k=>!listed.getD k true:=by rw [hM];simp
              rw [List.mem_filter,List.mem_range] at hk
              rw [hM] at hsorted
              have:=(List.pairwise_cons.1 (List.pairwise_append.1 hsorted).2.1).1 k (by simp)
              omega
          subst hM2
          have hok':=hok
          unfold drawnOk at hok'
          simp only [Bool.and_eq_true] at hok'
          have q1:=hok'.2
          rw [List.all_eq_true] at q1
          have q2:=q1 (y,i) (by rw [List.mem_zipIdx_iff_getElem?];simpa using h2)
          simp only [hl,decide_true,Bool.not_true,Bool.false_or,Bool.or_eq_true] at q2
          rcases q2 with q2 | q2
          · refine hs.step fun t ht hm=>?_
            rw [ht] at q2
            simp at q2
            exact (q2 hm).elim
          · exfalso
            cases M1 with
            | nil=>exact hrest rfl
            | cons j M1 =>
              have hjm:j ∈ (List.range ops.size).filter fun k=>!listed.getD k true:=by rw [hM];simp
              rw [List.mem_filter,List.mem_range] at hjm
              rw [List.all_eq_true] at q2
              have hji:j < i:=by
                rw [hM] at hsorted
                exact (List.pairwise_append.1 hsorted).2.2 j (by simp) i (by simp)
              exact hbit j hjm.1 hjm.2 (q2 j (by rw [List.mem_range];exact hji))
        · exact hs.step fun t ht hm=>e1 t ht hm hl
      refine zaey hΓ h2 hR (hfirst ⟨Unit,()⟩).1 (zabn hd) fun ch a' w' μ' fp' N' hR'=>?_
      refine WD_any hΓ hd hok fuel _ _ a' w' μ' fp' N' ?_ (by simp [hsz]) (fun k o ho hk e he hb=>?_) (fun hrest=>hns hrest ch) hR' (by rw [hM'];exact (hfirst ch).2.2)
      · rw [hM']
        have:((List.range ops.size).filter fun k=>!listed.getD k true).length = (M1 ++ M2).length + 1:=by rw [hM];simp;omega
        omega
      · by_cases e':k = i
        · subst e'
          rw [h2] at ho
          cases ho
          exact getD_set_true (h3 e (by simpa using he) hb)
        · rw [getD_set_ne true (fun h=>e' h.symm)] at hk
          exact getD_set_true (hcl k o ho hk e he hb)
theorem Zf (hΓ:∀ f,ConOk P f (Γ f)) (hm:P.follows .mixedOrders = true) {id:Nat} {ops:Array Oper} {Q:Exit → St → Prop} {S:St} (srcs sh:List Nat) (hd:Zs n ops = true) (hok:drawnOk Γ ops sh = true) (hs:NS sh S)
    (h:VD P Γ srcs sh ops ops.toList S (Q .normal)):AW P B n (.region id ops true) Q S:=fun a w μ fp N hR=>by
  refine wp_region_any hm ?_
  have hall:((List.range ops.size).filter fun k=>!(Array.replicate ops.size false).getD k true) = List.range ops.size:=by
    rw [List.filter_eq_self]
    intro k hk
    rw [List.mem_range] at hk
    rw [Array.getD_eq_getD_getElem?,Array.getElem?_replicate,if_pos hk]
    rfl
  have hw:WD P Γ sh ops (List.range ops.size) S (Q .normal):=by
    have:=VD_WD (k:=0) (by simp) h
    rw [List.range_eq_range']
    simpa using this
  refine WD_any hΓ hd hok _ _ S a _ μ fp N (by rw [hall];simp) (by simp) (fun k o ho hk=>?_) (fun _=>hs) (hR.drewN _) (by rw [hall];exact hw)
  have:=(Array.getElem?_eq_some_iff.1 ho).1
  rw [Array.getD_eq_getD_getElem?,Array.getElem?_replicate,if_pos this] at hk
  cases hk
end
end
section
variable {P:Program} {Γ:FuncId → Con} {B:Base} {n:Nat} {S:St} {ds:List D} {vs:List Value} {a:Act} {w:World} {μ:Nat → Nat} {fp:Root → List Nat} {N:Nat}

def CondA:D → Prop → Prop → Prop
  | .bool b,p,q=>(b = true → p) ∧ (b = false → q)
  | .ubool,p,q=>p ∧ q
  | _,_,_=>False
theorem Qf {c:Operand} {x y:Code} {Q:Exit → St → Prop} (h:CondA (look S.T c) (AW P B n x Q S) (AW P B n y Q S)):AW P B n (.cond c x y) Q S:=by
  unfold CondA at h
  split at h
  · rename_i b hb;exact AW_cond hb h.1 h.2
  · rename_i hb;exact AW_cond2 hb h.1 h.2
  · exact h.elim
theorem setCell_noop {w:World} {b i:Nat} {v:Value} (h:w.cell? ⟨b,i,none⟩ = some v):w.setCell ⟨b,i,none⟩ v = w:=by
  have:(w.setCell ⟨b,i,none⟩ v).heap = w.heap:=by
    apply Array.ext_getElem?
    intro k
    simp only [World.setCell,Array.getElem?_modify]
    split
    · rename_i e
      subst e
      cases hk:w.heap[b]? with
      | none=>rfl
      | some o =>
        simp only [World.cell?,hk] at h
        cases o with
        | cells c t f =>
          simp only [Option.map_some,Option.some.injEq,Obj.cells.injEq,and_true]
          simp at h
          apply Array.ext_getElem?
          intro j
          simp only [Option.isSome_none,Bool.false_eq_true,if_false]
          rw [Array.getElem?_setIfInBounds]
          split
          · rename_i e;subst e
            split
            · exact h.symm
            · rename_i q;rw [Array.getElem?_eq_none (by omega)]
          · rfl
        | _=>rfl
    · rfl
  cases w
  simp only [World.setCell] at this ⊢
  simp only [this]
theorem R.cellIn {b i:Nat} {cs:List D} {d:D} {v:Value} (h:R B n S (d :: ds) (v :: vs) a w μ fp N) (hc:S.H b = some cs) (hnm:NoMap b cs) (hi:i < cs.length) (hv:v.oneCell' = true) (hw:w.cell? ⟨μ b,i,none⟩ = some v) :
    ∃ fp',R B n ⟨S.T,upd S.H b (some (cs.set i d))⟩ ds vs a w μ fp' N:=by
  obtain ⟨fp',h',_⟩:=h.store1 (P:=Inhabited.default) hc hnm hi hv
  rw [setCell_noop hw] at h'
  exact ⟨fp',h'⟩
theorem Zv (b i:Nat) {c:Code} {Q:Exit → St → Prop} {sz m:Nat} {all cs:List D} (hH:S.H b = some all) (hi:all[i]? = some (.fr sz m cs))
    (h:∀ b' cp k,S.H b' = none → m ≤ cp → cp * sz ≤ m * sz + k → AW P B n c Q ⟨S.T,upd (upd S.H b (some (all.set i (.sl b' sz 0 m cp)))) b' (some (cs ++ List.replicate k .any))⟩):AW P B n c Q S:=fun a w μ fp N hR=>by
  have hil:i < all.length:=by rcases Nat.lt_or_ge i all.length with q | q;exact q;rw [List.getElem?_eq_none q] at hi;cases hi
  obtain ⟨v,fp1,hw,hone,h1⟩:=hR.cellOut hH (.inr ⟨i,_,hi,rfl⟩) hi
  obtain ⟨cp,k,μ',fp2,q1,q2,q3,h2⟩:=h1.mat
  have hbN:=Nat.lt_of_lt_of_le (hR.bH b all hH).1 (ev_le N)
  have hne:ev N ≠ b:=Nat.ne_of_gt hbN
  rw [← q3 b hbN] at hw
  obtain ⟨fp3,h3⟩:=h2.cellIn (b:=b) (i:=i) (cs:=all.set i .any) (by dsimp only;rw [Qd (Ne.symm hne),Qe]) (.inr ⟨i,.any,by rw [List.getElem?_set_self hil],rfl⟩) (by simpa using hil) hone hw
  refine h (ev N) cp k hR.hev q1 q2 a w μ' fp3 (ev N + 1) ?_
  have e:upd (upd (upd S.H b (some (all.set i .any))) (ev N) (some (cs ++ List.replicate k .any))) b (some ((all.set i .any).set i (.sl (ev N) sz 0 m cp))) = upd (upd S.H b (some (all.set i (.sl (ev N) sz 0 m cp)))) (ev N) (some (cs ++ List.replicate k .any)):=by
    funext x
    by_cases e1:x = ev N
    · subst e1;rw [Qd hne,Qe,Qe]
    · by_cases e2:x = b
      · subst e2;rw [Qe,Qd e1,Qe,List.set_set]
      · rw [Qd e2,Qd e1,Qd e2,Qd e1,Qd e2]
  dsimp only at h3
  rw [e] at h3
  exact h3
theorem zaay (b i:Nat) {c:Code} {Q:Exit → St → Prop} {b' sz m cp:Nat} {all cs:List D} (hH:S.H b = some all) (hi:all[i]? = some (.sl b' sz 0 m cp)) (hb:b ≠ b') (hH':S.H b' = some cs) (hsz:0 < sz) (hm:m * sz ≤ cs.length) (hc:cp * sz ≤ cs.length)
    (h:AW P B n c Q ⟨S.T,upd (upd S.H b' none) b (some (all.set i (.fr sz m (cs.take (m * sz)))))⟩):AW P B n c Q S:=fun a w μ fp N hR=>by
  have hil:i < all.length:=by rcases Nat.lt_or_ge i all.length with q | q;exact q;rw [List.getElem?_eq_none q] at hi;cases hi
  obtain ⟨v,fp1,hw,hone,h1⟩:=hR.cellOut hH (.inr ⟨i,_,hi,rfl⟩) hi
  obtain ⟨fp2,h2,_⟩:=h1.unname (by dsimp only;rw [Qd (Ne.symm hb)];exact hH') hsz hm hc
  obtain ⟨fp3,h3⟩:=h2.cellIn (b:=b) (i:=i) (cs:=all.set i .any) (by dsimp only;rw [Qd hb,Qe]) (.inr ⟨i,.any,by rw [List.getElem?_set_self hil],rfl⟩) (by simpa using hil) hone hw
  refine h a w μ fp3 N ?_
  have e:upd (upd (upd S.H b (some (all.set i .any))) b' none) b (some ((all.set i .any).set i (.fr sz m (cs.take (m * sz))))) = upd (upd S.H b' none) b (some (all.set i (.fr sz m (cs.take (m * sz))))):=by
    funext x
    by_cases e2:x = b
    · subst e2;rw [Qe,Qe,List.set_set]
    · rw [Qd e2,Qd e2]
      by_cases e1:x = b'
      · subst e1;rw [Qe,Qe]
      · rw [Qd e1,Qd e1,Qd e2]
  dsimp only at h3
  rw [e] at h3
  exact h3
end
section
variable {P:Program} {Γ:FuncId → Con} {ch cx cy:Any}
def snH:List (Nat × List D) → Hp
  | []=>fun _=>none
  | (b,cs) :: l=>upd (snH l) b (some cs)
def AGL:List (Nat × List D) → Hp → Prop
  | [],_=>True
  | (b,cs) :: l,H=>H b = some cs ∧ AGL l H
theorem AGL_spec:∀ {sn:List (Nat × List D)} {H:Hp},AGL sn H → ∀ b cs,snH sn b = some cs → H b = some cs
  | [],H,h,b,cs,hb=>by cases hb
  | (b',cs') :: l,H,h,b,cs,hb=>by
    simp only [snH] at hb
    by_cases e:b = b'
    · subst e;rw [Qe] at hb;cases hb;exact h.1
    · rw [Qd e] at hb;exact AGL_spec h.2 b cs hb
def isLoad:Op → Bool
  | .load ..=>true
  | _=>false
def isApp:Op → Bool
  | .call { callee:=.builtin .append,.. }=>true
  | _=>false
def kindS (Γ:FuncId → Con) (o:Oper):Nat:=if isLoad o.op then 0 else if isApp o.op then 2 else kindO Γ o
variable (P Γ) in
def stepS (ch:Any) (sn:List (Nat × List D)) (ops:Array Oper) (o:Oper) (S:St):Prop × St :=
  if isLoad o.op then ((stepG P Γ ch true ops o ⟨S.T,snH sn⟩).1,⟨(stepG P Γ ch true ops o ⟨S.T,snH sn⟩).2.T,S.H⟩) else if isApp o.op then stepG P Γ ch false ops o S else stepG P Γ ch true ops o S
theorem Jy (o:Oper):kindS Γ o ≤ 2:=by
  unfold kindS;split;omega;split;omega;exact kind_le o
theorem zafo {o:Oper} (h:isApp o.op = true) (vs:List D) (H:Hp):(opF P Γ ch false o vs H).back = none:=by
  cases ho:o.op with
  | call c =>
    obtain ⟨c1,c2,c3⟩:=c
    rw [ho] at h
    cases c1 with
    | builtin q =>
      cases q <;> simp only [isApp] at h <;> (try cases h)
      unfold opF
      rw [ho]
      dsimp only
      unfold Jc
      split <;> (try rfl)
      · simp only [opLenD];unfold opLenM opLenT opLen;(repeat' split) <;> rfl
      · unfold zacg
        split
        · rfl
        · unfold opAppZ;(repeat' split) <;> rfl
        · unfold zacq;(repeat' split) <;> rfl
      · unfold opCapT opCap;(repeat' split) <;> rfl
      · unfold opMin;(repeat' split) <;> rfl
      · unfold opCopy;(repeat' split) <;> rfl
      · unfold Xa;(repeat' split) <;> rfl
    | _=>simp [isApp] at h
  | _=>rw [ho] at h;simp [isApp] at h
theorem zagi (op:Op) (T:Nat → D):backT op none T = T:=by unfold backT;rfl
theorem stepF_frame {ops:Array Oper} {o:Oper} {S:St} {t:Nat} (ha:isApp o.op = true) (h1:o.dst ≠ some t) (h2:t ∉ Qo o ∨ owns (S.T t) = false):(stepG P Γ ch false ops o S).2.T t = S.T t:=by
  unfold stepG
  split
  · rfl
  · exact Zq h1
  · simp only [step]
    rw [Zq h1,zafo ha,zagi,taken_snd h2]
theorem stepF_local {ops:Array Oper} {o:Oper} {S S':St} (ha:isApp o.op = true) (hT:∀ t ∈ Xl ops o,S.T t = S'.T t) (hH:S.H = S'.H) :
    (stepG P Γ ch false ops o S).1 = (stepG P Γ ch false ops o S').1 ∧ ((stepG P Γ ch false ops o S).1 → (∀ t,t ∈ Qo o ∨ o.dst = some t → (stepG P Γ ch false ops o S).2.T t = (stepG P Γ ch false ops o S').2.T t) ∧ (S.H = S'.H → (stepG P Γ ch false ops o S).2.H = (stepG P Γ ch false ops o S').2.H)):=by
  have hT':∀ t ∈ Qo o,S.T t = S'.T t:=fun t ht=>hT t (by simp [Xl,ht])
  have hg:=zafw hT
  unfold stepG
  rw [← hg]
  cases Zl ops o S.T with
  | none=>exact ⟨rfl,fun h=>h.elim⟩
  | some b =>
    cases b with
    | false =>
      refine ⟨rfl,fun _=>⟨fun t ht=>?_,fun h=>h⟩⟩
      dsimp only
      by_cases hd:o.dst = some t
      · rw [Vc hd,Vc hd]
      · rw [Zq hd,Zq hd]
        exact hT' t (ht.resolve_right hd)
    | true =>
      dsimp only
      obtain ⟨e1,e2⟩:=taken_fst (o:=o) hT'
      simp only [step]
      rw [zafo ha,zafo ha,zagi,zagi,e1,hH]
      refine ⟨rfl,fun _=>⟨fun t ht=>?_,fun _=>rfl⟩⟩
      by_cases hd:o.dst = some t
      · rw [Vc hd,Vc hd]
      · rw [Zq hd,Zq hd]
        exact e2 t (ht.resolve_right hd)
variable {sn:List (Nat × List D)}
theorem Jq {ops:Array Oper} {o:Oper} {S:St} {t:Nat} (h1:o.dst ≠ some t) (h2:t ∉ Qo o ∨ owns (S.T t) = false):(stepS P Γ ch sn ops o S).2.T t = S.T t:=by
  unfold stepS
  split
  · exact Zt (S:=⟨S.T,snH sn⟩) h1 h2
  · split
    · exact stepF_frame (by assumption) h1 h2
    · exact Zt h1 h2
theorem Zk {ops:Array Oper} {o:Oper} {S:St} (hk:kindS Γ o ≤ 1):(stepS P Γ ch sn ops o S).2.H = S.H:=by
  unfold stepS
  unfold kindS at hk
  split
  · rfl
  · rename_i h
    rw [if_neg h] at hk
    split
    · rename_i h2;rw [if_pos h2] at hk;omega
    · rename_i h2;rw [if_neg h2] at hk;exact zafb hk
theorem zahg {ops:Array Oper} {o:Oper} {S S':St} (hT:∀ t ∈ Xl ops o,S.T t = S'.T t) (hH:S.H = S'.H ∨ kindS Γ o = 0) :
    (stepS P Γ ch sn ops o S).1 = (stepS P Γ ch sn ops o S').1 ∧ ((stepS P Γ ch sn ops o S).1 → (∀ t,t ∈ Qo o ∨ o.dst = some t → (stepS P Γ ch sn ops o S).2.T t = (stepS P Γ ch sn ops o S').2.T t) ∧ (S.H = S'.H → (stepS P Γ ch sn ops o S).2.H = (stepS P Γ ch sn ops o S').2.H)):=by
  unfold kindS at hH
  unfold stepS
  split
  · obtain ⟨h1,h2⟩:=zacf (P:=P) (Γ:=Γ) (ops:=ops) (o:=o) (S:=⟨S.T,snH sn⟩) (S':=⟨S'.T,snH sn⟩) hT (.inl rfl)
    exact ⟨h1,fun h=>⟨(h2 h).1,fun e=>e⟩⟩
  · rename_i h
    rw [if_neg h] at hH
    split
    · rename_i h2;rw [if_pos h2] at hH;exact stepF_local h2 hT (hH.resolve_right (by omega))
    · rename_i h2;rw [if_neg h2] at hH;exact zacf hT hH
theorem stepS_real {ops:Array Oper} {o:Oper} {S:St} (ha:AGL sn S.H) (hp:∀ ch,(stepS P Γ ch sn ops o S).1):∃ dr,∀ ch,(stepG P Γ ch dr ops o S).1 ∧ (stepG P Γ ch dr ops o S).2 = (stepS P Γ ch sn ops o S).2:=by
  unfold stepS at hp ⊢
  by_cases hl:isLoad o.op = true
  · refine ⟨true,fun ch=>?_⟩
    replace hp:=hp ch
    rw [if_pos hl]
    rw [if_pos hl] at hp
    have hag:=AGL_spec ha
    revert hp
    unfold stepG
    cases Zl ops o S.T with
    | none=>intro hp;exact hp.elim
    | some b =>
      cases b with
      | false=>intro _;exact ⟨trivial,rfl⟩
      | true =>
        dsimp only
        simp only [step]
        generalize hvs:(taken S.T o.op) = tv
        obtain ⟨vs,T'⟩:=tv
        dsimp only
        have key:∀ t,(Xz P t vs (snH sn)).pre → (Xz P t vs S.H) = ⟨(Xz P t vs S.H).pre,(Xz P t vs (snH sn)).val,S.H,(Xz P t vs (snH sn)).back⟩ ∧ (Xz P t vs S.H).pre:=by
          intro t
          unfold Xz
          split
          · split
            · rename_i b i
              cases hc:snH sn b with
              | none=>intro h;exact h.elim
              | some cs =>
                rw [hag b cs hc]
                dsimp only
                split <;> exact fun h=>⟨rfl,h⟩
            · split <;> exact fun h=>⟨rfl,h⟩
            · intro h;exact h.elim
          · intro h;exact h.elim
        cases ho:o.op with
        | load t x =>
          have e:∀ H,opF P Γ ch true o vs H = Xz P t vs H:=fun H=>by unfold opF;simp only [ho,zahi]
          rw [e,e]
          rintro ⟨h1,h2⟩
          obtain ⟨k1,k2⟩:=key t h1
          rw [k1]
          exact ⟨⟨k2,h2⟩,rfl⟩
        | _=>rw [ho] at hl;simp [isLoad] at hl
  · simp only [if_neg hl] at hp ⊢
    by_cases h2:isApp o.op = true
    · simp only [if_pos h2] at hp ⊢;exact ⟨false,fun ch=>⟨hp ch,rfl⟩⟩
    · simp only [if_neg h2] at hp ⊢;exact ⟨true,fun ch=>⟨hp ch,rfl⟩⟩

def disjS (Γ:FuncId → Con) (ops:Array Oper) (sh:List Nat) (x y:Oper):Bool :=
  (match x.dst with
   | some d=>!(Xl ops y).contains d && !decide (y.dst = some d)
   | none=>true) &&
  (match y.dst with
   | some d=>!(Xl ops x).contains d
   | none=>true) &&
  (Qo x).all (fun t=>!(Qo y).contains t || sh.contains t) &&
  !(kindS Γ x == 2 && kindS Γ y != 0) && !(kindS Γ y == 2 && kindS Γ x != 0) &&
  (Ji ops y).toList.all (fun t=>!(Qo x).contains t || sh.contains t) && (Ji ops x).toList.all (fun t=>!(Qo y).contains t || sh.contains t)
structure ApartS (Γ:FuncId → Con) (ops:Array Oper) (sh:List Nat) (x y:Oper):Prop where
  xy:∀ t,x.dst = some t → t ∉ Xl ops y ∧ y.dst ≠ some t
  yx:∀ t,y.dst = some t → t ∉ Xl ops x
  shr:∀ t,t ∈ Qo x → t ∈ Qo y → t ∈ sh
  k1:kindS Γ x = 2 → kindS Γ y = 0
  k2:kindS Γ y = 2 → kindS Γ x = 0
  gy:∀ t,Ji ops y = some t → t ∈ Qo x → t ∈ sh
  gx:∀ t,Ji ops x = some t → t ∈ Qo y → t ∈ sh
theorem apartS_of {ops:Array Oper} {sh:List Nat} {x y:Oper} (h:disjS Γ ops sh x y = true):ApartS Γ ops sh x y:=by
  unfold disjS at h
  simp only [Bool.and_eq_true] at h
  obtain ⟨⟨⟨⟨⟨⟨h1,h2⟩,h3⟩,h4⟩,h5⟩,h8⟩,h9⟩:=h
  refine ⟨fun t ht=>?_,fun t ht=>?_,fun t h6 h7=>?_,fun h6=>?_,fun h6=>?_,fun t h6 h7=>?_,fun t h6 h7=>?_⟩
  · rw [ht] at h1;simpa using h1
  · rw [ht] at h2;simpa using h2
  · rw [List.all_eq_true] at h3
    have:=h3 t h6
    simpa [h7] using this
  · simpa [h6] using h4
  · simpa [h6] using h5
  · rw [h6] at h8;simpa [h7] using h8
  · rw [h6] at h9;simpa [h7] using h9
theorem ApartS.reads {ops:Array Oper} {sh:List Nat} {x y:Oper} (h:ApartS Γ ops sh x y) {S:St} (hs:NS sh S):∀ t ∈ Xl ops y,(stepS P Γ cx sn ops x S).2.T t = S.T t:=by
  intro t ht
  refine Jq (fun e=>(h.xy t e).1 ht) ?_
  by_cases hx:t ∈ Qo x
  · right
    unfold Xl at ht
    rcases List.mem_append.1 ht with ht | ht
    · exact hs t (h.shr t hx ht)
    · exact hs t (h.gy t (by simpa using ht) hx)
  · exact .inl hx
theorem ApartS.symm {ops:Array Oper} {sh:List Nat} {x y:Oper} (h:ApartS Γ ops sh x y):ApartS Γ ops sh y x :=
  ⟨fun t ht=>⟨h.yx t ht,fun e=>(h.xy t e).2 ht⟩,fun t ht=>(h.xy t ht).1,fun t h1 h2=>h.shr t h2 h1,h.k2,h.k1,h.gx,h.gy⟩
theorem ApartS.swap {ops:Array Oper} {sh:List Nat} {x y:Oper} (h:ApartS Γ ops sh x y) {S:St} (hs:NS sh S)
    (px:(stepS P Γ cx sn ops x S).1) (py:(stepS P Γ cy sn ops y (stepS P Γ cx sn ops x S).2).1) :
    (stepS P Γ cy sn ops y S).1 ∧ (stepS P Γ cx sn ops x (stepS P Γ cy sn ops y S).2).1 ∧ (stepS P Γ cx sn ops x (stepS P Γ cy sn ops y S).2).2 = (stepS P Γ cy sn ops y (stepS P Γ cx sn ops x S).2).2 ∧
      (stepS P Γ cy sn ops y S).2.T = (fun t=>if t ∈ Qo y ∨ y.dst = some t then (stepS P Γ cy sn ops y (stepS P Γ cx sn ops x S).2).2.T t else S.T t) ∧ (kindS Γ y = 2 → (stepS P Γ cy sn ops y (stepS P Γ cx sn ops x S).2).2.H = (stepS P Γ cy sn ops y S).2.H):=by
  have hry:=h.reads (P:=P) (cx:=cx) (sn:=sn) hs
  have hrx:=h.symm.reads (P:=P) (cx:=cy) (sn:=sn) hs
  have kx:=Jy (Γ:=Γ) x
  have ky:=Jy (Γ:=Γ) y
  -- y, before and behind x
  have hHy:(stepS P Γ cx sn ops x S).2.H = S.H ∨ kindS Γ y = 0:=by
    by_cases e:kindS Γ x = 2
    · exact .inr (h.k1 e)
    · exact .inl (Zk (by omega))
  obtain ⟨ly1,ly2⟩:=zahg (P:=P) (ch:=cy) (sn:=sn) (S:=(stepS P Γ cx sn ops x S).2) (S':=S) hry hHy
  have py':(stepS P Γ cy sn ops y S).1:=by rw [← ly1];exact py
  obtain ⟨ly3,ly4⟩:=ly2 py
  have hHx:(stepS P Γ cy sn ops y S).2.H = S.H ∨ kindS Γ x = 0:=by
    by_cases e:kindS Γ y = 2
    · exact .inr (h.k2 e)
    · exact .inl (Zk (by omega))
  obtain ⟨lx1,lx2⟩:=zahg (P:=P) (ch:=cx) (sn:=sn) (S:=(stepS P Γ cy sn ops y S).2) (S':=S) hrx hHx
  have px':(stepS P Γ cx sn ops x (stepS P Γ cy sn ops y S).2).1:=by rw [lx1];exact px
  obtain ⟨lx3,lx4⟩:=lx2 px'
  -- slots
  have fx:∀ (S:St) t,¬ (t ∈ Qo x ∨ x.dst = some t) → (stepS P Γ cx sn ops x S).2.T t = S.T t:=fun S t ht=>Jq (fun e=>ht (.inr e)) (.inl fun e=>ht (.inl e))
  have fy:∀ (S:St) t,¬ (t ∈ Qo y ∨ y.dst = some t) → (stepS P Γ cy sn ops y S).2.T t = S.T t:=fun S t ht=>Jq (fun e=>ht (.inr e)) (.inl fun e=>ht (.inl e))
  have both:∀ t,(t ∈ Qo x ∨ x.dst = some t) → (t ∈ Qo y ∨ y.dst = some t) → t ∈ Qo x ∧ t ∈ Qo y ∧ x.dst ≠ some t ∧ y.dst ≠ some t ∧ owns (S.T t) = false:=by
    intro t h1 h2
    have n1:x.dst ≠ some t:=fun e=>by
      have:=h.xy t e
      rcases h2 with h2 | h2
      · exact this.1 (by simp [Xl,h2])
      · exact this.2 h2
    have h1:=h1.resolve_right n1
    have n2:y.dst ≠ some t:=fun e=>h.yx t e (by simp [Xl,h1])
    have h2:=h2.resolve_right n2
    exact ⟨h1,h2,n1,n2,hs t (h.shr t h1 h2)⟩
  have eqT:∀ t,(stepS P Γ cx sn ops x (stepS P Γ cy sn ops y S).2).2.T t = (stepS P Γ cy sn ops y (stepS P Γ cx sn ops x S).2).2.T t:=by
    intro t
    by_cases h1:t ∈ Qo x ∨ x.dst = some t <;> by_cases h2:t ∈ Qo y ∨ y.dst = some t
    · obtain ⟨a1,a2,a3,a4,a5⟩:=both t h1 h2
      have e1:(stepS P Γ cx sn ops x S).2.T t = S.T t:=Jq a3 (.inr a5)
      have e2:(stepS P Γ cy sn ops y S).2.T t = S.T t:=Jq a4 (.inr a5)
      have e3:=Jq (P:=P) (Γ:=Γ) (ch:=cx) (sn:=sn) (ops:=ops) (S:=(stepS P Γ cy sn ops y S).2) a3 (.inr (by rw [e2];exact a5))
      have e4:=Jq (P:=P) (Γ:=Γ) (ch:=cy) (sn:=sn) (ops:=ops) (S:=(stepS P Γ cx sn ops x S).2) a4 (.inr (by rw [e1];exact a5))
      rw [e3,e4,e1,e2]
    · rw [lx3 t h1,fy _ t h2]
    · rw [fx _ t h1,ly3 t h2]
    · rw [fx _ t h1,fy _ t h2,fy _ t h2,fx _ t h1]
  have eqH:(stepS P Γ cx sn ops x (stepS P Γ cy sn ops y S).2).2.H = (stepS P Γ cy sn ops y (stepS P Γ cx sn ops x S).2).2.H:=by
    by_cases e1:kindS Γ x = 2
    · have k0:=h.k1 e1
      rw [Zk (P:=P) (ch:=cy) (sn:=sn) (o:=y) (S:=(stepS P Γ cx sn ops x S).2) (by omega)]
      exact lx4 (Zk (by omega))
    · rw [Zk (P:=P) (ch:=cx) (sn:=sn) (o:=x) (S:=(stepS P Γ cy sn ops y S).2) (by omega)]
      exact (ly4 (Zk (by omega))).symm
  refine ⟨py',px',?_,?_,fun e=>ly4 (Zk (by have:=h.k2 e;omega))⟩
  · cases hA:(stepS P Γ cx sn ops x (stepS P Γ cy sn ops y S).2).2 with
    | mk T1 H1 =>
      cases hB:(stepS P Γ cy sn ops y (stepS P Γ cx sn ops x S).2).2 with
      | mk T2 H2 =>
        rw [hA,hB] at eqH eqT
        dsimp only at eqH eqT
        rw [eqH,funext eqT]
  · funext t
    split
    · rename_i ht;exact (ly3 t ht).symm
    · rename_i ht;exact fy _ t ht

variable (P Γ) in
def WS (sn:List (Nat × List D)) (sh:List Nat) (ops:Array Oper):List Nat → St → (St → Prop) → Prop
  | [],S,K=>K S
  | i :: L,S,K=>match ops[i]? with
    | none=>WS sn sh ops L S K
    | some o=>∀ ch,(stepS P Γ ch sn ops o S).1 ∧ (∀ t,o.dst = some t → t ∈ sh → i + 1 ≠ ops.size → owns ((stepS P Γ ch sn ops o S).2.T t) = false) ∧ (kindS Γ o = 2 → i + 1 ≠ ops.size → AGL sn (stepS P Γ ch sn ops o S).2.H) ∧ WS sn sh ops L (stepS P Γ ch sn ops o S).2 K
variable (P Γ) in
def VS (sn:List (Nat × List D)) (srcs sh:List Nat) (ops:Array Oper):List Oper → St → (St → Prop) → Prop
  | [],S,K=>K S
  | o :: L,S,K=>∀ ch,(stepS P Γ ch sn ops o S).1 ∧ (L ≠ [] → AGL sn (stepS P Γ ch sn ops o S).2.H) ∧
    match o.dst with
    | some t=>(t ∈ sh → L ≠ [] → owns ((stepS P Γ ch sn ops o S).2.T t) = false) ∧ if t ∈ srcs then (match (stepS P Γ ch sn ops o S).2.T t with
        | .bool b=>splitB b (VS sn srcs sh ops L ⟨upd (stepS P Γ ch sn ops o S).2.T t (.bool true),(stepS P Γ ch sn ops o S).2.H⟩ K) (VS sn srcs sh ops L ⟨upd (stepS P Γ ch sn ops o S).2.T t (.bool false),(stepS P Γ ch sn ops o S).2.H⟩ K)
        | _=>VS sn srcs sh ops L (stepS P Γ ch sn ops o S).2 K) else VS sn srcs sh ops L (stepS P Γ ch sn ops o S).2 K
    | none=>VS sn srcs sh ops L (stepS P Γ ch sn ops o S).2 K
theorem VS_WS {srcs sh:List Nat} {ops:Array Oper} {K:St → Prop}:∀ {k:Nat} {L:List Oper} {S:St},(∀ j,L[j]? = ops[k + j]?) → VS P Γ sn srcs sh ops L S K → WS P Γ sn sh ops (List.range' k L.length) S K
  | k,[],S,hL,h=>h
  | k, o :: L,S,hL,h=>by
    have h0:ops[k]? = some o:=by have:=hL 0;simpa using this.symm
    have hL':∀ j,L[j]? = ops[k + 1 + j]?:=fun j=>by
      have:=hL (j + 1)
      rw [List.getElem?_cons_succ] at this
      rw [this];congr 1;omega
    have hne:k + 1 ≠ ops.size → L ≠ []:=fun hk e=>by
      subst e
      have h2:=hL' 0
      have h3:=(Array.getElem?_eq_some_iff.1 h0).1
      rw [Nat.add_zero] at h2
      have:ops.size ≤ k + 1:=by
        rcases Nat.lt_or_ge (k + 1) ops.size with h4 | h4
        · rw [Array.getElem?_eq_getElem h4] at h2;cases h2
        · exact h4
      omega
    simp only [List.length_cons,List.range'_succ,WS,h0]
    simp only [VS] at h
    intro ch
    obtain ⟨h1,h0',h⟩:=h ch
    refine ⟨h1,?_⟩
    have hag:kindS Γ o = 2 → k + 1 ≠ ops.size → AGL sn (stepS P Γ ch sn ops o S).2.H:=fun _ hk=>h0' (hne hk)
    clear h0'
    revert hag
    generalize (stepS P Γ ch sn ops o S).2 = S' at h ⊢
    intro hag
    split at h
    · rename_i t hd
      obtain ⟨h2,h⟩:=h
      refine ⟨fun t' ht' hm hk=>by rw [hd] at ht';cases ht';exact h2 hm (hne hk),hag,?_⟩
      split at h
      · split at h
        · rename_i b hb
          obtain ⟨h3,h4⟩:=h
          cases b
          · have:=h4 rfl
            rw [Jk hb] at this
            exact VS_WS hL' this
          · have:=h3 rfl
            rw [Jk hb] at this
            exact VS_WS hL' this
        · exact VS_WS hL' h
      · exact VS_WS hL' h
    · rename_i hd
      exact ⟨fun t' ht'=>by rw [hd] at ht';(try cases ht'),hag,VS_WS hL' h⟩
theorem NS.stepS {sh:List Nat} {ops:Array Oper} {o:Oper} {S:St} (hs:NS sh S) (he:∀ t,o.dst = some t → t ∈ sh → owns ((stepS P Γ ch sn ops o S).2.T t) = false):NS sh (stepS P Γ ch sn ops o S).2:=fun t ht=>by
  by_cases hd:o.dst = some t
  · exact he t hd ht
  · rw [Jq hd (.inr (hs t ht))];exact hs t ht
theorem WS_first {sh:List Nat} {ops:Array Oper} {K:St → Prop} {i:Nat} {y:Oper} (hi:ops[i]? = some y) {M2:List Nat}:∀ {M1:List Nat} {S:St},(∀ j ∈ M1,(∃ x,ops[j]? = some x ∧ ApartS Γ ops sh x y) ∧ j + 1 ≠ ops.size) → (M1 ≠ [] → NS sh S ∧ AGL sn S.H) → WS P Γ sn sh ops (M1 ++ i :: M2) S K → WS P Γ sn sh ops (i :: (M1 ++ M2)) S K
  | [],S,hM,hs,h=>h
  | j :: M1,S,hM,hs,h=>by
    obtain ⟨⟨x,hj,hap⟩,hjl⟩:=hM j (by simp)
    obtain ⟨hs,hag⟩:=hs (by simp)
    rw [List.cons_append,WS,hj] at h
    dsimp only at h
    have kx:=Jy (Γ:=Γ) x
    have ky:=Jy (Γ:=Γ) y
    have both:∀ cx cy,(stepS P Γ cx sn ops x S).1 ∧ (∀ t,x.dst = some t → t ∈ sh → j + 1 ≠ ops.size → owns ((stepS P Γ cx sn ops x S).2.T t) = false) ∧ AGL sn (stepS P Γ cx sn ops x S).2.H ∧
        (stepS P Γ cy sn ops y (stepS P Γ cx sn ops x S).2).1 ∧ (∀ t,y.dst = some t → t ∈ sh → i + 1 ≠ ops.size → owns ((stepS P Γ cy sn ops y (stepS P Γ cx sn ops x S).2).2.T t) = false) ∧ (kindS Γ y = 2 → i + 1 ≠ ops.size → AGL sn (stepS P Γ cy sn ops y (stepS P Γ cx sn ops x S).2).2.H) ∧ WS P Γ sn sh ops (M1 ++ M2) (stepS P Γ cy sn ops y (stepS P Γ cx sn ops x S).2).2 K:=by
      intro cx cy
      obtain ⟨p1,e1,a1,h⟩:=h cx
      have hag1:AGL sn (stepS P Γ cx sn ops x S).2.H:=by
        by_cases e:kindS Γ x = 2
        · exact a1 e hjl
        · rw [Zk (by omega)];exact hag
      have ih:=WS_first hi (fun k hk=>hM k (by simp [hk])) (fun _=>⟨hs.stepS fun t ht hm=>e1 t ht hm hjl,hag1⟩) h
      rw [WS,hi] at ih
      dsimp only at ih
      obtain ⟨p2,e2,a2,ih⟩:=ih cy
      exact ⟨p1,e1,hag1,p2,e2,a2,ih⟩
    clear h
    rw [WS,hi]
    dsimp only
    intro cy
    refine ⟨?_,fun t ht hm hl=>?_,fun e hl=>?_,?_⟩
    · obtain ⟨p1,e1,hag1,p2,e2,a2,ih⟩:=both ⟨Unit,()⟩ cy
      exact (hap.swap hs p1 p2).1
    · obtain ⟨p1,e1,hag1,p2,e2,a2,ih⟩:=both ⟨Unit,()⟩ cy
      rw [(hap.swap hs p1 p2).2.2.2.1]
      simp only [ht,or_true,if_true]
      exact e2 t ht hm hl
    · obtain ⟨p1,e1,hag1,p2,e2,a2,ih⟩:=both ⟨Unit,()⟩ cy
      rw [← (hap.swap hs p1 p2).2.2.2.2 e];exact a2 e hl
    · rw [List.cons_append,WS,hj]
      dsimp only
      intro cx
      obtain ⟨p1,e1,hag1,p2,e2,a2,ih⟩:=both cx cy
      obtain ⟨q1,q2,q3,q4,q5⟩:=hap.swap hs p1 p2
      rw [q3]
      refine ⟨q2,fun t ht hm hl=>?_,fun e hl=>?_,ih⟩
      · have:=hap.xy t ht
        rw [Jq this.2 (.inl fun hx=>this.1 (by simp [Xl,hx]))]
        exact e1 t ht hm hl
      · rw [Zk (by have:=hap.k1 e;omega)]
        exact hag1

def Jp (Γ:FuncId → Con) (ops:Array Oper) (sh:List Nat):Bool :=
  let b:=befGo ops.toList []
  (ops.toList.zipIdx.all fun (o,i)=>(o.after.toList.filter (Region.binds .any)).all fun e=>decide (e.on < i)) &&
  (ops.toList.zipIdx.all fun (y,i)=>ops.toList.zipIdx.all fun (x,j)=>!decide (j < i) || (b.getD i 0).testBit j || disjS Γ ops sh x y) &&
  (ops.toList.zipIdx.all fun (y,i)=>!decide (i + 1 = ops.size) || (!(y.dst.any fun t=>sh.contains t) && !(kindS Γ y == 2)) || (List.range i).all fun j=>(b.getD i 0).testBit j)
section
variable {B:Base} {n:Nat}
theorem WS_any (hΓ:∀ f,ConOk P f (Γ f)) {ops:Array Oper} {sh:List Nat} (hd:Zs n ops = true) (hok:Jp Γ ops sh = true) {Q:Exit → St → Prop}:∀ (fuel:Nat) (listed:Array Bool) (S:St) (a:Act) (w:World) (μ:Nat → Nat) (fp:Root → List Nat) (N:Nat),
    ((List.range ops.size).filter fun k=>!listed.getD k true).length ≤ fuel → listed.size = ops.size → (∀ k o,ops[k]? = some o → listed.getD k true = true → ∀ e ∈ o.after.toList,Region.binds .any e = true → listed.getD e.on false = true) → (((List.range ops.size).filter fun k=>!listed.getD k true) ≠ [] → NS sh S ∧ AGL sn S.H) → R B n S [] [] a w μ fp N →
    WS P Γ sn sh ops ((List.range ops.size).filter fun k=>!listed.getD k true) S (Q .normal) → wpAny P .any ops (lift B n Q) fuel listed a w
  | fuel, listed,S,a,w,μ,fp,N,hf,hsz,hcl,hs,hR,hw=>by
    have hback:∀ i y,ops[i]? = some y → ∀ e ∈ y.after.toList,Region.binds .any e = true → e.on < i:=by
      intro i y hi e he hb
      unfold Jp at hok
      simp only [Bool.and_eq_true] at hok
      have h1:=hok.1.1
      rw [List.all_eq_true] at h1
      have h2:=h1 (y,i) (by rw [List.mem_zipIdx_iff_getElem?];simpa using hi)
      rw [List.all_eq_true] at h2
      have:=h2 e (by rw [List.mem_filter];exact ⟨he,hb⟩)
      simpa using this
    -- where all that are left wait, none are left
    have hnone:Region.ready .any ops listed = [] → ((List.range ops.size).filter fun k=>!listed.getD k true) = []:=by
      intro hr
      cases hM:(List.range ops.size).filter fun k=>!listed.getD k true with
      | nil=>rfl
      | cons i M =>
        exfalso
        have hmem:i ∈ (List.range ops.size).filter fun k=>!listed.getD k true:=by rw [hM];simp
        rw [List.mem_filter,List.mem_range] at hmem
        have hsorted:((List.range ops.size).filter fun k=>!listed.getD k true).Pairwise (· < ·):=List.Pairwise.filter _ List.pairwise_lt_range
        have:i ∈ Region.ready .any ops listed:=by
          rw [mem_ready]
          refine ⟨by simpa using hmem.2,ops[i],Array.getElem?_eq_getElem hmem.1,fun e he hb=>?_⟩
          have hlt:=hback i _ (Array.getElem?_eq_getElem hmem.1) e (by simpa using he) hb
          have hlt':e.on < listed.size:=by omega
          cases hle:listed.getD e.on true with
          | true=>rwa [Array.getD_eq_getD_getElem?,Array.getElem?_eq_getElem hlt',Option.getD_some] at hle ⊢
          | false =>
            have hin:e.on ∈ (List.range ops.size).filter fun k=>!listed.getD k true:=by
              rw [List.mem_filter,List.mem_range];exact ⟨by omega,by simp [hle]⟩
            rw [hM] at hin hsorted
            rcases List.mem_cons.1 hin with h | h
            · omega
            · have:=(List.pairwise_cons.1 hsorted).1 _ h;omega
        rw [hr] at this
        cases this
    have hfin:Region.ready .any ops listed = [] → lift B n Q .normal a w:=fun hr=>by
      rw [hnone hr] at hw
      exact ⟨S,μ,fp,N,hR,hw⟩
    cases fuel with
    | zero =>
      have h0:((List.range ops.size).filter fun k=>!listed.getD k true) = []:=List.eq_nil_of_length_eq_zero (by omega)
      have hr:Region.ready .any ops listed = []:=by
        refine List.eq_nil_iff_forall_not_mem.2 fun i hi=>?_
        obtain ⟨h1,o,h2,_⟩:=mem_ready.1 hi
        have:i ∈ (List.range ops.size).filter fun k=>!listed.getD k true:=by
          rw [List.mem_filter,List.mem_range];exact ⟨(Array.getElem?_eq_some_iff.1 h2).1,by simp [h1]⟩
        rw [h0] at this;cases this
      exact ⟨hr,hfin hr⟩
    | succ fuel =>
      refine ⟨hfin,fun i hi=>?_⟩
      obtain ⟨h1,y,h2,h3⟩:=mem_ready.1 hi
      have hlt:=(Array.getElem?_eq_some_iff.1 h2).1
      have hmem:i ∈ (List.range ops.size).filter fun k=>!listed.getD k true:=by
        rw [List.mem_filter,List.mem_range];exact ⟨hlt,by simp [h1]⟩
      have hnodup:((List.range ops.size).filter fun k=>!listed.getD k true).Nodup:=List.Pairwise.filter _ List.nodup_range
      have hsorted:((List.range ops.size).filter fun k=>!listed.getD k true).Pairwise (· < ·):=List.Pairwise.filter _ List.pairwise_lt_range
      obtain ⟨M1,M2,hM⟩:=List.append_of_mem hmem
      have hbit:∀ j,j < ops.size → (!listed.getD j true) = true → ((befGo ops.toList []).getD i 0).testBit j = true → False:=by
        intro j hjs hjl q3
        have:=zaew (ops:=ops) (fun k=>listed.getD k false = true) (fun k o ho hk=>hcl k o ho (by
            have hk':k < listed.size:=by rw [hsz];exact (Array.getElem?_eq_some_iff.1 ho).1
            rw [Array.getD_eq_getD_getElem?,Array.getElem?_eq_getElem hk',Option.getD_some] at hk ⊢
            exact hk)) ops.toList [] (by simp) (by simp) i y h2 (fun e he hb=>h3 e (by simpa using he) hb) j q3
        have hj':j < listed.size:=by omega
        rw [Array.getD_eq_getD_getElem?,Array.getElem?_eq_getElem hj',Option.getD_some] at this
        rw [Array.getD_eq_getD_getElem?,Array.getElem?_eq_getElem hj',Option.getD_some,this] at hjl
        simp at hjl
      have hfirst:WS P Γ sn sh ops (i :: (M1 ++ M2)) S (Q .normal):=by
        refine WS_first h2 (fun j hj=>?_) (fun _=>hs (by rw [hM];simp)) (hM ▸ hw)
        have hjm:j ∈ (List.range ops.size).filter fun k=>!listed.getD k true:=by rw [hM];simp [hj]
        rw [List.mem_filter,List.mem_range] at hjm
        have hji:j < i:=by
          rw [hM] at hsorted
          exact (List.pairwise_append.1 hsorted).2.2 j hj i (by simp)
        refine ⟨⟨ops[j],Array.getElem?_eq_getElem hjm.1,?_⟩,by omega⟩
        have hok':=hok
        unfold Jp at hok'
        simp only [Bool.and_eq_true] at hok'
        have q1:=hok'.1.2
        rw [List.all_eq_true] at q1
        have q2:=q1 (y,i) (by rw [List.mem_zipIdx_iff_getElem?];simpa using h2)
        rw [List.all_eq_true] at q2
        have q3:=q2 (ops[j],j) (by rw [List.mem_zipIdx_iff_getElem?];simp [hjm.1])
        simp only [hji,decide_true,Bool.not_true,Bool.false_or,Bool.or_eq_true] at q3
        rcases q3 with q3 | q3
        · exact (hbit j hjm.1 hjm.2 q3).elim
        · exact apartS_of q3
      rw [WS,h2] at hfirst
      dsimp only at hfirst
      have hM':((List.range ops.size).filter fun k=>!(listed.setIfInBounds i true).getD k true) = M1 ++ M2:=by
        have e2:((List.range ops.size).filter fun k=>!(listed.setIfInBounds i true).getD k true) = ((List.range ops.size).filter fun k=>!listed.getD k true).filter fun k=>decide (k ≠ i):=by
          rw [List.filter_filter]
          apply List.filter_congr
          intro k _
          by_cases e:k = i
          · subst e
            have:(listed.setIfInBounds k true).getD k true = true:=by
              rw [Array.getD_eq_getD_getElem?,Array.getElem?_setIfInBounds]
              simp only [if_true]
              split <;> rfl
            simp [this]
          · rw [getD_set_ne true (fun h=>e h.symm)]
            simp [e]
        rw [e2,hM]
        have hn:=hM ▸ hnodup
        rw [List.nodup_append] at hn
        have hn2:=List.nodup_cons.1 hn.2.1
        rw [List.filter_append,List.filter_cons]
        simp only [ne_eq,not_true_eq_false,decide_false,Bool.false_eq_true,if_false]
        rw [List.filter_eq_self.2,List.filter_eq_self.2]
        · intro k hk;simp;rintro rfl;exact hn2.1 hk
        · intro k hk;simp;rintro rfl;exact hn.2.2 k hk k (by simp) rfl
      have hns:((List.range ops.size).filter fun k=>!(listed.setIfInBounds i true).getD k true) ≠ [] → ∀ cy,NS sh (stepS P Γ cy sn ops y S).2 ∧ AGL sn (stepS P Γ cy sn ops y S).2.H:=by
        intro hrest cy
        have e1:=(hfirst cy).2.1
        have a1:=(hfirst cy).2.2.1
        rw [hM'] at hrest
        obtain ⟨hs,hag⟩:=hs (by rw [hM];simp)
        by_cases hl:i + 1 = ops.size
        · have hM2:M2 = []:=by
            cases M2 with
            | nil=>rfl
            | cons k M2 =>
              exfalso
              have hk:k ∈ (List.range ops.size).filter fun k=>!listed.getD k true:=by rw [hM];simp
              rw [List.mem_filter,List.mem_range] at hk
              rw [hM] at hsorted
              have:=(List.pairwise_cons.1 (List.pairwise_append.1 hsorted).2.1).1 k (by simp)
              omega
          subst hM2
          have hok':=hok
          unfold Jp at hok'
          simp only [Bool.and_eq_true] at hok'
          have q1:=hok'.2
          rw [List.all_eq_true] at q1
          have q2:=q1 (y,i) (by rw [List.mem_zipIdx_iff_getElem?];simpa using h2)
          simp only [hl,decide_true,Bool.not_true,Bool.false_or,Bool.or_eq_true] at q2
          rcases q2 with q2 | q2
          · rw [Bool.and_eq_true] at q2
            refine ⟨hs.stepS fun t ht hm=>?_,?_⟩
            · rw [ht] at q2
              simp at q2
              exact (q2.1 hm).elim
            · have ky:=Jy (Γ:=Γ) y
              have:kindS Γ y ≠ 2:=by simpa using q2.2
              rw [Zk (by omega)];exact hag
          · exfalso
            cases M1 with
            | nil=>exact hrest rfl
            | cons j M1 =>
              have hjm:j ∈ (List.range ops.size).filter fun k=>!listed.getD k true:=by rw [hM];simp
              rw [List.mem_filter,List.mem_range] at hjm
              rw [List.all_eq_true] at q2
              have hji:j < i:=by
                rw [hM] at hsorted
                exact (List.pairwise_append.1 hsorted).2.2 j (by simp) i (by simp)
              exact hbit j hjm.1 hjm.2 (q2 j (by rw [List.mem_range];exact hji))
        · refine ⟨hs.stepS fun t ht hm=>e1 t ht hm hl,?_⟩
          by_cases e:kindS Γ y = 2
          · exact a1 e hl
          · have ky:=Jy (Γ:=Γ) y
            rw [Zk (by omega)];exact hag
      obtain ⟨dr,hreal⟩:=stepS_real (hs (by rw [hM];simp)).2 (fun ch=>(hfirst ch).1)
      refine zaey hΓ h2 hR (hreal ⟨Unit,()⟩).1 (zabn hd) fun ch a' w' μ' fp' N' hR'=>?_
      rw [(hreal ch).2] at hR'
      refine WS_any hΓ hd hok fuel _ _ a' w' μ' fp' N' ?_ (by simp [hsz]) (fun k o ho hk e he hb=>?_) (fun hrest=>hns hrest ch) hR' (by rw [hM'];exact (hfirst ch).2.2.2)
      · rw [hM']
        have:((List.range ops.size).filter fun k=>!listed.getD k true).length = (M1 ++ M2).length + 1:=by rw [hM];simp;omega
        omega
      · by_cases e':k = i
        · subst e'
          rw [h2] at ho
          cases ho
          exact getD_set_true (h3 e (by simpa using he) hb)
        · rw [getD_set_ne true (fun h=>e' h.symm)] at hk
          exact getD_set_true (hcl k o ho hk e he hb)
theorem zadm (hΓ:∀ f,ConOk P f (Γ f)) (hm:P.follows .mixedOrders = true) {id:Nat} {ops:Array Oper} {Q:Exit → St → Prop} {S:St} (sn:List (Nat × List D)) (srcs sh:List Nat) (hd:Zs n ops = true) (hok:Jp Γ ops sh = true) (hs:NS sh S) (hag:AGL sn S.H)
    (h:VS P Γ sn srcs sh ops ops.toList S (Q .normal)):AW P B n (.region id ops true) Q S:=fun a w μ fp N hR=>by
  refine wp_region_any hm ?_
  have hall:((List.range ops.size).filter fun k=>!(Array.replicate ops.size false).getD k true) = List.range ops.size:=by
    rw [List.filter_eq_self]
    intro k hk
    rw [List.mem_range] at hk
    rw [Array.getD_eq_getD_getElem?,Array.getElem?_replicate,if_pos hk]
    rfl
  have hw:WS P Γ sn sh ops (List.range ops.size) S (Q .normal):=by
    have:=VS_WS (k:=0) (by simp) h
    rw [List.range_eq_range']
    simpa using this
  refine WS_any hΓ hd hok _ _ S a _ μ fp N (by rw [hall];simp) (by simp) (fun k o ho hk=>?_) (fun _=>⟨hs,hag⟩) (hR.drewN _) (by rw [hall];exact hw)
  have:=(Array.getElem?_eq_some_iff.1 ho).1
  rw [Array.getD_eq_getD_getElem?,Array.getElem?_replicate,if_pos this] at hk
  cases hk
theorem Xq {c:Code} {Q:Exit → St → Prop} {S:St} (p:Hp → Prop) (h0:p S.H) (h:∀ H1,p H1 → AW P B n c Q ⟨S.T,H1⟩):AW P B n c Q S:=h S.H h0
end
end
section
variable {P:Program}
def one (b:Nat) (cs:List D):Hp:=upd (fun _=>none) b (some cs)
theorem one_eq (b:Nat) (cs:List D):one b cs b = some cs:=Qe ..
theorem one_some {b z:Nat} {cs ds:List D} (h:one b cs z = some ds):z = b ∧ ds = cs:=by
  unfold one at h
  by_cases e:z = b
  · subst e;rw [Qe] at h;cases h;exact ⟨rfl,rfl⟩
  · rw [Qd e] at h;cases h
theorem one_none {b z:Nat} {cs:List D} (h:one b cs z = none):¬ z = b:=by rintro rfl;rw [one_eq] at h;cases h
theorem SpecR.frame {f:FuncId} {args:List D} {b:Nat} {cs:List D} {r:Any → D} {cs':Any → List D} (h:SpecR P f args (one b cs) fun c=>(r c,one b (cs' c))) {H:Hp} (hb:H b = some cs) :
    SpecR P f args H fun c=>(r c,upd H b (some (cs' c))):=by
  intro w J vs μ fp N hR
  let fp1:Root → List Nat:=fun r=>match r with
    | .cell z i=>if z = b then fp (.cell z i) else []
    | .blk z=>if z = b then fp (.blk z) else []
    | r=>fp r
  have hor:∀ r,fp1 r = fp r ∨ fp1 r = []:=fun r=>by
    cases r with
    | cell z i=>simp only [fp1];split;exact .inl rfl;exact .inr rfl
    | blk z=>simp only [fp1];split;exact .inl rfl;exact .inr rfl
    | slot t=>exact .inl rfl
    | bag=>exact .inl rfl
  have hm:Moves fp fp1:=.drop hR.nod hR.dis hor
  have hsub:∀ r x,x ∈ fp1 r → x ∈ fp r:=fun r x hx=>by
    rcases hor r with e | e
    · rwa [e] at hx
    · rw [e] at hx;cases hx
  let J1:Nat → Prop:=fun x=>Im ⟨w,fun x=>∃ r,x ∈ fp r,J,μ,N⟩ w fp x
  have him:∀ x,Im ⟨w,fun x=>∃ r,x ∈ fp r,J,μ,N⟩ w fp x → Im ⟨w,fun x=>∃ r,x ∈ fp1 r,J1,μ,N⟩ w fp1 x:=fun x hx=>⟨hx.1,.inl (.inl hx),fun r hr=>hx.2.2 r (hsub r x hr)⟩
  have hR1:R ⟨w,fun x=>∃ r,x ∈ fp1 r,J1,μ,N⟩ args.length ⟨Qy args,one b cs⟩ [] [] ⟨vs.toArray,[]⟩ w μ fp1 N:=by
    refine ⟨hR.len,hR.dfs,Frm.refl _ _,fun x hx=>⟨hx.1,fun ⟨r,hr⟩=>hx.2.2 r (hsub r x hr)⟩,fun r x hx=>⟨.inl ⟨r,hx⟩,(hR.own r x (hsub r x hx)).2⟩,hm.nod,hm.dis,fun t=>?_,?_,?_,?_,hR.bT,hR.bB,?_,⟨Nat.le_refl _,fun _ _=>rfl⟩⟩
    · exact Rep.mono (fun x hx=>⟨him x hx,rfl⟩) (fun _ _=>rfl) (hR.tm t)
    · exact RepL.mono (fun x hx=>⟨him x hx,rfl⟩) (fun _ _=>rfl) hR.bg
    · intro z ds hz
      obtain ⟨rfl,rfl⟩:=one_some hz
      rcases hR.hp z ds hb with q | ⟨cells,q1,q2,q3,q4,q5⟩ | ⟨q1,es,ck,q2,q3,q4,q5⟩
      rotate_left 2
      · exact .inr (.inr ⟨q1,es,ck,q2,q3,by simp [fp1,q4],fun i=>by simp [fp1,q5 i]⟩)
      · exact .inl ⟨q.1,by simp [fp1,q.2.1],by simp [fp1,q.2.2]⟩
      · refine .inr (.inl ⟨cells,q1,q2,by simp [fp1,q3],fun i d hd=>?_,fun i hi=>by simp [fp1,q5 i hi]⟩)
        obtain ⟨u,hu,hr⟩:=q4 i d hd
        refine ⟨u,hu,?_⟩
        have e:fp1 (.cell z i) = fp (.cell z i):=by simp [fp1]
        rw [e]
        exact Rep.mono (fun x hx=>⟨him x hx,rfl⟩) (fun _ _=>rfl) hr
    · intro z hz
      have:=one_none hz
      simp [fp1,this]
    · intro z ds hz
      obtain ⟨rfl,rfl⟩:=one_some hz
      exact hR.bH z ds hb
  refine (h w J1 vs μ fp1 N hR1).mono fun e w' ⟨c,v,μ',fp',N',he,hR'⟩=>⟨c,v,μ',?_⟩
  let fn:Root → List Nat:=fun r=>match r with
    | .cell z i=>if z = b then fp' (.cell z i) else fp (.cell z i)
    | .blk z=>if z = b then fp' (.blk z) else fp (.blk z)
    | r=>fp' r
  have old:∀ r x,x ∈ fp r → x < w.heap.size:=fun r x hx=>(hR.own r x hx).2
  have away:∀ r x,x ∈ fp r → fp1 r = [] → (¬ ∃ r',x ∈ fp1 r'):=fun r x hx he ⟨r',hr'⟩=>by
    have:=hR.dis r r' x hx (hsub r' x hr')
    subst this;rw [he] at hr';cases hr'
  have same:∀ x,x < w.heap.size → (¬ ∃ r,x ∈ fp1 r) → w'.heap[x]? = w.heap[x]?:=fun x hx hk=>hR'.frm.same x hx hk
  have out:∀ x,x < w.heap.size → (¬ ∃ r,x ∈ fp1 r) → ∀ r,x ∉ fp' r:=fun x hx hk r hr=>by
    rcases (hR'.own r x hr).1 with q | q
    · exact hk q
    · dsimp only at q;omega
  have hsz:=hR'.frm.size
  dsimp only at hsz
  have hfn:∀ r x,x ∈ fn r → (x ∈ fp' r) ∨ (x ∈ fp r ∧ fp1 r = []):=by
    intro r x hx
    cases r with
    | cell z i =>
      simp only [fn] at hx
      split at hx
      · exact .inl hx
      · rename_i hz;exact .inr ⟨hx,by simp [fp1,hz]⟩
    | blk z =>
      simp only [fn] at hx
      split at hx
      · exact .inl hx
      · rename_i hz;exact .inr ⟨hx,by simp [fp1,hz]⟩
    | slot t=>exact .inl hx
    | bag=>exact .inl hx
  have him2:∀ x,Im ⟨w,fun x=>∃ r,x ∈ fp1 r,J1,μ,N⟩ w' fp' x → Im ⟨w,fun x=>∃ r,x ∈ fp r,J,μ,N⟩ w' fn x:=fun x hx=>by
    refine ⟨hx.1,?_,fun r hr=>?_⟩
    · rcases hx.2.1 with (k | ⟨r2,k⟩) | k
      · rcases k.2.1 with (q | q) | q
        · exact .inl (.inl q)
        · exact .inl (.inr q)
        · exact .inr q
      · exact .inl (.inr ⟨r2,hsub r2 x k⟩)
      · exact .inr k
    · rcases hfn r x hr with q | ⟨q1,q2⟩
      · exact hx.2.2 r q
      · rcases hx.2.1 with (k | k) | k
        · exact k.2.2 r q1
        · exact away r x q1 q2 k
        · have:=old r x q1;dsimp only at k;omega
  have him1:∀ x,Im ⟨w,fun x=>∃ r,x ∈ fp r,J,μ,N⟩ w fp x → Im ⟨w,fun x=>∃ r,x ∈ fp r,J,μ,N⟩ w' fn x ∧ w'.heap[x]? = w.heap[x]?:=fun x hx=>by
    have hk:¬ ∃ r,x ∈ fp1 r:=fun ⟨r,hr⟩=>hx.2.2 r (hsub r x hr)
    refine ⟨⟨Nat.lt_of_lt_of_le hx.1 hsz,hx.2.1,fun r hr=>?_⟩,same x hx.1 hk⟩
    rcases hfn r x hr with q | ⟨q1,_⟩
    · exact out x hx.1 hk r q
    · exact hx.2.2 r q1
  refine ⟨fn,N',he,⟨hR'.len,hR'.dfs,⟨hR'.frm.os,hR'.frm.tape,hR'.frm.output,hsz,fun x hx hk=>same x hx fun ⟨r,hr⟩=>hk ⟨r,hsub r x hr⟩⟩,hR.jk,?_,?_,?_,fun t=>?_,?_,?_,?_,hR'.bT,hR'.bB,?_,hR'.rn⟩⟩
  · intro r x hx
    rcases hfn r x hx with q | ⟨q1,_⟩
    · have:=hR'.own r x q
      refine ⟨?_,this.2⟩
      rcases this.1 with ⟨r2,k⟩ | k
      · exact .inl ⟨r2,hsub r2 x k⟩
      · exact .inr k
    · exact ⟨.inl ⟨r,q1⟩,Nat.lt_of_lt_of_le (old r x q1) hsz⟩
  · intro r
    cases r with
    | cell z i=>simp only [fn];split;exact hR'.nod _;exact hR.nod _
    | blk z=>simp only [fn];split;exact hR'.nod _;exact hR.nod _
    | slot t=>exact hR'.nod _
    | bag=>exact hR'.nod _
  · intro r r' x hx hy
    rcases hfn r x hx with q | ⟨q1,q2⟩ <;> rcases hfn r' x hy with k | ⟨k1,k2⟩
    · exact hR'.dis r r' x q k
    · exact (out x (old r' x k1) (away r' x k1 k2) r q).elim
    · exact (out x (old r x q1) (away r x q1 q2) r' k).elim
    · exact hR.dis r r' x q1 k1
  · exact Rep.mono (fun x hx=>⟨him2 x hx,rfl⟩) (fun _ _=>rfl) (hR'.tm t)
  · exact RepL.mono (fun x hx=>⟨him2 x hx,rfl⟩) (fun _ _=>rfl) hR'.bg
  · intro z ds hz
    dsimp only at hz
    by_cases e:z = b
    · subst e
      rw [Qe] at hz
      rcases hR'.hp z ds (by show one z (cs' c) z = some ds;rw [one_eq];exact hz) with q | ⟨cells,q1,q2,q3,q4,q5⟩ | ⟨q1,es,ck,q2,q3,q4,q5⟩
      rotate_left 2
      · exact .inr (.inr ⟨q1,es,ck,q2,q3,by simp [fn,q4],fun i=>by simp [fn,q5 i]⟩)
      · exact .inl ⟨q.1,by simp [fn,q.2.1],by simp [fn,q.2.2]⟩
      · refine .inr (.inl ⟨cells,q1,q2,by simp [fn,q3],fun i d hd=>?_,fun i hi=>by simp [fn,q5 i hi]⟩)
        obtain ⟨u,hu,hr⟩:=q4 i d hd
        have e2:fn (.cell z i) = fp' (.cell z i):=by simp [fn]
        rw [e2]
        exact ⟨u,hu,Rep.mono (fun x hx=>⟨him2 x hx,rfl⟩) (fun _ _=>rfl) hr⟩
    · rw [Qd e] at hz
      have hzN:=hR.bH z ds hz
      have hμ:∀ y,y < N → μ' y = μ y:=hR'.rn.2
      rcases hR.hp z ds hz with q | ⟨cells,q1,q2,q3,q4,q5⟩ | ⟨q1,es,ck,q2,q3,q4,q5⟩
      rotate_left 2
      · have hblk:μ z ∈ fp (.blk z):=by rw [q4];simp
        have hsame:w'.heap[μ z]? = w.heap[μ z]?:=same _ (old _ _ hblk) (away (.blk z) _ hblk (by simp [fp1,e]))
        exact .inr (.inr ⟨q1,es,ck,by rw [hμ z hzN.1];exact hsame.trans q2,q3,by simp [fn,e,q4,hμ z hzN.1],fun i=>by simp [fn,e,q5 i]⟩)
      · exact .inl ⟨q.1,by simp [fn,e,q.2.1],by simp [fn,e,q.2.2]⟩
      · have hblk:μ z ∈ fp (.blk z):=by rw [q3];simp
        have hsame:w'.heap[μ z]? = w.heap[μ z]?:=same _ (old _ _ hblk) (away (.blk z) _ hblk (by simp [fp1,e]))
        refine .inr (.inl ⟨cells,by rw [hμ z hzN.1];exact q1.mono hsame,q2,by simp [fn,e,q3,hμ z hzN.1],fun i d hd=>?_,fun i hi=>by simp [fn,e,q5 i hi]⟩)
        obtain ⟨u,hu,hr⟩:=q4 i d hd
        have e2:fn (.cell z i) = fp (.cell z i):=by simp [fn,e]
        rw [e2]
        refine ⟨u,hu,Rep.ren hμ (Qi.1 hzN.2 d (List.mem_of_getElem? hd)) (Rep.mono (fun x hx=>him1 x hx) (fun x hx=>?_) hr)⟩
        exact same x (old _ x hx) (away (.cell z i) x hx (by simp [fp1,e]))
  · intro z hz
    dsimp only at hz
    by_cases e:z = b
    · subst e;rw [Qe] at hz;cases hz
    · rw [Qd e] at hz
      have:=hR.hn z hz
      simp [fn,e,this]
  · intro z ds hz
    dsimp only at hz
    by_cases e:z = b
    · subst e
      rw [Qe] at hz
      exact hR'.bH z ds (by show one z (cs' c) z = some ds;rw [one_eq];exact hz)
    · rw [Qd e] at hz
      have:=hR.bH z ds hz
      exact ⟨Nat.lt_of_lt_of_le this.1 hR'.rn.1,this.2.mono hR'.rn.1⟩
end
end Go.Proofs.YtiilmjojffjhlaaGreatDoor.Vm

