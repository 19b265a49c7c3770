/-
  The machine, where contracts may ask that the world holds something that nothing turns (what the library's variables hold). No conditions.
-/
import Derived.Test.YtiilmjojffjhlaaGreatDoorKVm15
import Derived.Test.YtiilmjojffjhlaaGreatDoorKSim
namespace Go.Proofs.YtiilmjojffjhlaaGreatDoor.Vm
open Go
set_option linter.unusedVariables false
set_option maxRecDepth 100000

def PureI (P:Program) (I:World → Prop) (f:FuncId) (args:List D) (r:D):Prop :=
  ∀ (μ:Nat → Nat) (w:World) (vs:List Value),I w → (∃ N,bndL N args) → RepL μ (fun x=>x < w.heap.size) w args vs [] → Calls P f vs.toArray w fun e w' =>
    ∃ v fl,e = .returned v ∧ Rep μ (fun _=>False) w' r v fl ∧ fl.Nodup ∧ (∀ x ∈ fl,w.heap.size ≤ x ∧ x < w'.heap.size) ∧ Frm w (fun _=>False) w'
theorem Pure.toI {P:Program} {I:World → Prop} {f:FuncId} {args:List D} {r:D} (h:Pure P f args r):PureI P I f args r:=fun μ w vs _=>h μ w vs
def ConI (P:Program) (I:World → Prop) (f:FuncId):Con → Prop
  | .pure F=>Jz P f ∧ ∀ args,(F args).1 → PureI P I f args (F args).2 ∧ bnd 0 (F args).2
  | c=>ConOk P f c
theorem ConOk.toI {P:Program} {I:World → Prop} {f:FuncId} {c:Con} (h:ConOk P f c):ConI P I f c:=by
  cases c with
  | pure F=>exact ⟨h.1,fun args ha=>⟨(h.2 args ha).1.toI,(h.2 args ha).2⟩⟩
  | none=>exact h
  | gen F=>exact h
  | ext F=>exact h
  | rel F=>exact h
  | prel F=>exact h
theorem ext_okI {P:Program} {I:World → Prop} {Γ:FuncId → Con} {g:FuncId} {c:Con} (hΓ:∀ f,ConI P I f (Γ f)) (h:ConI P I g c):∀ f,ConI P I f (ext Γ g c f):=fun f=>by
  unfold ext
  split
  · rename_i e;first | (subst e;exact h) | (rw [e];exact h)
  · exact hΓ f
def unP (Γ:FuncId → Con):FuncId → Con:=fun f=>match Γ f with
  | .pure _=>.none
  | c=>c
theorem unP_ok {P:Program} {I:World → Prop} {Γ:FuncId → Con} (hΓ:∀ f,ConI P I f (Γ f)):∀ f,ConOk P f (unP Γ f):=fun f=>by
  have h:=hΓ f
  unfold unP
  cases e:Γ f with
  | pure F=>exact trivial
  | none=>exact trivial
  | gen F=>rw [e] at h;exact h
  | ext F=>rw [e] at h;exact h
  | rel F=>rw [e] at h;exact h
  | prel F=>rw [e] at h;exact h
def SoundCI (P:Program) (I:World → Prop) (o:Oper) (vals:List D) (H:Hp) (r:Any → Res):Prop :=
  ∀ (c0:Any) (B:Base) (n:Nat) (T:Nat → D) (a:Act) (w:World) (μ:Nat → Nat) (fp:Root → List Nat) (N:Nat) (avals:List Value),R B n ⟨T,H⟩ vals avals a w μ fp N → o.op.operands.toList.map a.eval = avals → (r c0).pre → I w →
    ∀ (next:Act → World → Prop) (Q:Exit → Act → World → Prop),(∀ c v w' μ' fp' N',R B n ⟨T,(r c).H⟩ ((r c).val :: (r c).back.toList) (v :: (r c).back.toList.map fun _=>avals.headD undef) a w' μ' fp' N' → next (a.put o.dst v) w') → o.wp P a w next Q
theorem SoundC.toI {P:Program} {I:World → Prop} {o:Oper} {vals:List D} {H:Hp} {r:Any → Res} (h:SoundC P o vals H r):SoundCI P I o vals H r:=fun c0 B n T a w μ fp N avals hR ha hp _ next Q hk=>h c0 B n T a w μ fp N avals hR ha hp next Q hk

section
variable {P:Program} {I:World → Prop} {o:Oper} {vals:List D} {H:Hp}
theorem sound_callI {Γ:FuncId → Con} (hΓ:∀ f,ConI P I f (Γ f)) (g:Operand) (xs:Array Operand) (ts:Array TypeId) (ho:o.op = .call { callee:=.value g,args:=xs,argTypes:=ts }):SoundCI P I o vals H (fun ch=>Xa Γ ch vals H):=by
  have hx:o.op.operands.toList = g :: xs.toList:=by rw [ho];simp [Op.operands,Call.operands]
  have cas:(∃ f caps args,vals = .fn f caps :: args) ∨ ∀ ch,Xa Γ ch vals H = bad H:=by
    unfold Xa
    split
    · exact .inl ⟨_,_,_,rfl⟩
    · exact .inr fun _=>rfl
  rcases cas with ⟨f,caps,args,rfl⟩ | cas
  case inr=>rw [show (fun ch=>Xa Γ ch vals H) = fun _=>bad H from funext cas];exact ((Sound.bad P o _ H).c).toI
  have hcall:=hΓ f
  have other:unP Γ f = Γ f → SoundCI P I o (.fn f caps :: args) H (fun ch=>Xa Γ ch (.fn f caps :: args) H):=by
    intro e
    have e2:(fun ch=>Xa Γ ch (.fn f caps :: args) H) = fun ch=>Xa (unP Γ) ch (.fn f caps :: args) H:=funext fun ch=>by unfold Xa;simp only [e]
    rw [e2]
    exact (sound_call (unP_ok hΓ) g xs ts ho).toI
  -- how the call is entered
  have enter:Jz P f → ∀ {μ:Nat → Nat} {I:Nat → Prop} {a:Act} {w:World} {cv:List Value},a.eval g = .func (.func f) #[] cv.toArray → (execOp a.eval o).run P w = .ok (.enter f (xs.toList.map a.eval ++ cv).toArray) w:=by
    intro hc μ I a w cv hg
    obtain ⟨fn,h1,h2,h3⟩:=hc
    have h3':fn.body ≠ none:=by cases hb:fn.body <;> simp [hb] at h3 ⊢
    have e2:Array.map a.eval xs ++ cv.toArray = (xs.toList.map a.eval ++ cv).toArray:=by apply Array.ext';simp
    simp [execOp,ho,resolve,hg,Deferred.ofValue,invoke,callFunc,program,Sem.run,h1,h2,h3',e2]
  cases hF:Γ f with
  | none=>rw [hF] at hcall;exact other (by unfold unP;rw [hF])
  | gen F=>exact other (by unfold unP;rw [hF])
  | ext F=>exact other (by unfold unP;rw [hF])
  | rel F=>exact other (by unfold unP;rw [hF])
  | prel F=>exact other (by unfold unP;rw [hF])
  | pure F =>
    rw [show (fun ch=>Xa Γ ch (.fn f caps :: args) H) = fun _=>⟨(F ((args ++ caps).map (deref 40 H))).1,(F ((args ++ caps).map (deref 40 H))).2,H,none⟩ from funext fun ch=>by unfold Xa;simp only [hF]]
    rw [hF] at hcall
    obtain ⟨hc,hcon⟩:=hcall
    intro c0 B n T a w μ fp N avals hR hav hpre hI next Q hk
    rw [hx,List.map_cons] at hav;subst hav
    dsimp only at hpre
    obtain ⟨hP,hb0⟩:=hcon _ hpre
    have hbg:=hR.bg
    simp only [RepL] at hbg
    obtain ⟨v,vs',f1,f2,he,hf,h1,h2⟩:=hbg
    cases he
    simp only [Rep] at h1
    obtain ⟨cv,hg,h1⟩:=h1
    have h3:=RepL.append h1 h2
    have h4:RepL μ (fun x=>x < w.heap.size) w ((args ++ caps).map (deref 40 H)) (xs.toList.map a.eval ++ cv) [] :=
      RepL.map (fun d hdm v f' hf' hd=>zaer hR 40 d v f' (fun x hx=>(hR.own .bag x (by rw [hf];have:=hf' x hx;simp at this ⊢;exact this.symm)).2) (by have hpar:=hR.bB;simp only [bndL,bnd] at hpar;rcases List.mem_append.1 hdm with hh | hh;exact Qi.1 hpar.2 d hh;exact Qi.1 hpar.1 d hh) hd) h3
    unfold Oper.wp
    rw [enter hc (μ:=μ) (I:=fun _=>True) hg]
    simp only [Oper.upon]
    refine (hP μ w _ hI ⟨N,by have hpar:=hR.bB;simp only [bndL,bnd] at hpar;exact bndL_map (Qi.2 fun d hd=>by rcases List.mem_append.1 hd with hh | hh;exact Qi.1 hpar.2 d hh;exact Qi.1 hpar.1 d hh) fun d _ hd=>zaes (fun b cs hc=>(hR.bH b cs hc).2) 40 d hd⟩ h4).mono fun e w' ⟨u,fl,he,hr,hn,hfl,hw⟩=>?_
    subst he
    obtain ⟨fp',hR'⟩:=hR.resNew (hw.weaken (by simp)) (Rep.mono (fun b hb=>hb.elim) (fun _ _=>rfl) hr) hn (fun x hx=>.inr (hfl x hx)) (bnd.mono (Nat.zero_le _) hb0)
    exact hk c0 u w' μ fp' N hR'
end

section
variable {P:Program} {Γ:FuncId → Con} {I:World → Prop}
theorem sound_opFI (hΓ:∀ f,ConI P I f (Γ f)) (dr:Bool) (o:Oper) (vals:List D) (H:Hp):SoundCI P I o vals H (fun ch=>opF P Γ ch dr o vals H):=by
  cases hv:isVal o.op with
  | false =>
    have e:(fun ch=>opF P Γ ch dr o vals H) = fun _=>opF P Γ ⟨Unit,()⟩ dr o vals H:=funext fun ch=>opF_const ch _ dr o hv vals H
    rw [e]
    exact ((sound_opF0 _ dr o hv vals H).c).toI
  | true =>
    cases ho:o.op with
    | call c =>
      obtain ⟨c1,c2,c3⟩:=c
      cases c1 with
      | value g =>
        have e:(fun ch=>opF P Γ ch dr o vals H) = fun ch=>Xa Γ ch vals H:=funext fun ch=>by unfold opF;rw [ho];unfold Jc;dsimp only
        rw [e]
        exact sound_callI hΓ g c2 c3 ho
      | _=>rw [ho] at hv;simp [isVal] at hv
    | _=>rw [ho] at hv;simp [isVal] at hv

section
variable {B:Base} {n:Nat} {a:Act} {w:World} {μ:Nat → Nat}
theorem step_soundI (hΓ:∀ f,ConI P I f (Γ f)) (hI:I w) {dr:Bool} {o:Oper} {S:St} {fp:Root → List Nat} {N:Nat} (h:R B n S [] [] a w μ fp N) {c0:Any} (hp:(step P Γ c0 dr o S).1) (hd:∀ t,o.dst = some t → t < n) {next:Act → World → Prop} {Q:Exit → Act → World → Prop}
    (hp2:∀ ch,backOk o.op o.dst (opF P Γ ch dr o (taken S.T o.op).1 S.H).back) (hk:∀ ch a' w' μ' fp' N',R B n (step P Γ ch dr o S).2 [] [] a' w' μ' fp' N' → next a' w'):o.wp P a w next Q:=by
  obtain ⟨fp1,h1⟩:=h.taken o.op
  obtain ⟨hp1,_⟩:=hp
  refine sound_opFI hΓ dr o _ _ c0 B n _ a w μ fp1 N _ h1 rfl hp1 hI next Q fun ch v w' μ' fp' N' h2=>?_
  suffices hx:∃ fp'' N'',R B n (step P Γ ch dr o S).2 [] [] (a.put o.dst v) w' μ' fp'' N'' by
    obtain ⟨fp'',N'',hR⟩:=hx
    exact hk ch _ w' μ' fp'' N'' hR
  have hp2:=hp2 ch
  revert h2;revert hp2
  simp only [step]
  generalize opF P Γ ch dr o (Vm.taken S.T o.op).1 S.H = r
  intro hp2 h2
  -- the result is put
  have put:∀ {S':St} {ds:List D} {vs:List Value} {fp:Root → List Nat},R B n S' (r.val :: ds) (v :: vs) a w' μ' fp N' → ∃ fp',R B n ⟨putD o.dst r.val S'.T,S'.H⟩ ds vs (a.put o.dst v) w' μ' fp' N':=by
    intro S' ds vs fp h
    cases hdst:o.dst with
    | none=>obtain ⟨fp',h'⟩:=h.unbag;exact ⟨fp',h'⟩
    | some t=>exact h.put (hd t hdst)
  cases hb:r.back with
  | none =>
    rw [hb] at h2
    obtain ⟨fp',h'⟩:=put h2
    refine ⟨fp',N',?_⟩
    have e:backT o.op none (Vm.taken S.T o.op).2 = (Vm.taken S.T o.op).2:=by unfold backT;rfl
    rw [e]
    exact h'
  | some d =>
    rw [hb] at h2 hp2
    obtain ⟨fp2,h3⟩:=put h2
    simp only [List.map_cons,List.map_nil,Option.toList] at h3
    cases hop:o.op.operands.toList with
    | nil =>
      obtain ⟨fp',h'⟩:=h3.unbag
      refine ⟨fp',N',?_⟩
      have e:backT o.op (some d) (Vm.taken S.T o.op).2 = (Vm.taken S.T o.op).2:=by unfold backT;rw [hop]
      rw [e]
      exact h'
    | cons x xs =>
      cases x with
      | tmp t =>
        have e:backT o.op (some d) (Vm.taken S.T o.op).2 = upd (Vm.taken S.T o.op).2 t d:=by unfold backT;rw [hop]
        have hne:o.dst ≠ some t:=by unfold backOk at hp2;rw [hop] at hp2;exact hp2
        rw [e]
        have hval:(o.op.operands.toList.map a.eval).headD undef = (a.put o.dst v).tmps.getD t undef:=by
          rw [hop]
          simp only [List.map_cons,List.headD_cons,Act.eval]
          cases hdst:o.dst with
          | none=>rfl
          | some t' =>
            simp only [Act.put]
            rw [Array.getD_eq_getD_getElem?,Array.getD_eq_getD_getElem?,Array.getElem?_setIfInBounds,if_neg]
            rintro rfl
            exact hne hdst
        rw [hval] at h3
        obtain ⟨fp',h'⟩:=h3.putback
        refine ⟨fp',N',?_⟩
        have e2:putD o.dst r.val (upd (Vm.taken S.T o.op).2 t d) = upd (putD o.dst r.val (Vm.taken S.T o.op).2) t d:=by
          cases hdst:o.dst with
          | none=>rfl
          | some t' =>
            funext y
            simp only [putD,upd]
            by_cases e1:y = t' <;> by_cases e2:y = t <;> simp [e1,e2]
            · subst e1;subst e2;exact (hne hdst).elim
            · intro e3;subst e3;subst e1;exact (e2 rfl).elim
            · intro e3;subst e3;subst e2;exact (hne hdst).elim
        rw [e2]
        exact h'
      | _ =>
        obtain ⟨fp',h'⟩:=h3.unbag
        refine ⟨fp',N',?_⟩
        have e:backT o.op (some d) (Vm.taken S.T o.op).2 = (Vm.taken S.T o.op).2:=by unfold backT;rw [hop]
        rw [e]
        exact h'

theorem zahf (hΓ:∀ f,ConI P I f (Γ f)) (hB:∀ w,Frm B.w0 B.K w → I w) {dr:Bool} {ops:Array Oper} {i:Nat} {o:Oper} (ho:ops[i]? = some o) {S:St} {fp:Root → List Nat} {N:Nat} (h:R B n S [] [] a w μ fp N) {c0:Any} (hp:(stepG P Γ c0 dr ops o S).1)
    (hd:∀ (j:Nat) oj t,ops[j]? = some oj → oj.dst = some t → t < n) {next:Act → World → Prop} {Q:Exit → Act → World → Prop} (hk:∀ ch a' w' μ' fp' N',R B n (stepG P Γ ch dr ops o S).2 [] [] a' w' μ' fp' N' → next a' w'):wpOp P ops Q i next a w:=by
  unfold wpOp
  rw [ho]
  dsimp only
  unfold stepG at hp hk
  cases hg:Zl ops o S.T with
  | none=>rw [hg] at hp;exact hp.elim
  | some b =>
    rw [hg] at hp hk
    rw [zafv h hg hd]
    cases b with
    | true =>
      rw [if_pos rfl]
      exact .inl (step_soundI hΓ (hB _ h.frm) h hp (fun t ht=>hd i o t ho ht) (fun ch=>by rw [back_const ch c0];exact hp.2) hk)
    | false =>
      rw [if_neg (by simp)]
      have h1:=h.join (d:=Vb) (v:=undef) (by simp only [Vb,Rep];exact ⟨[],rfl,by simp [RepL]⟩) (by simp [Vb,bnd,bndL])
      cases hdst:o.dst with
      | none=>rw [hdst] at hk;exact hk c0 _ w μ fp N h
      | some t =>
        rw [hdst] at hk
        obtain ⟨fp',h2⟩:=R.put (ds:=[]) (vs:=[]) h1 (hd i o t ho hdst)
        exact hk c0 _ w μ fp' N h2
end

section
variable {B:Base} {n:Nat}
theorem W0_wpOpsI (hΓ:∀ f,ConI P I f (Γ f)) (hB:∀ w,Frm B.w0 B.K w → I w) {dr:Bool} {ops:Array Oper} (hd:Zs n ops = true) {Q:Exit → St → Prop}:∀ {L:List Nat} {S:St} {a:Act} {w:World} {μ:Nat → Nat} {fp:Root → List Nat} {N:Nat},R B n S [] [] a w μ fp N →
    W0 P Γ dr ops L S (Q .normal) → wpOps P ops (lift B n Q) L a w
  | [],S,a,w,μ,fp,N,h,hw=>⟨S,μ,fp,N,h,hw⟩
  | i :: L,S,a,w,μ,fp,N,h,hw=>by
    rw [wpOps_cons]
    simp only [W0] at hw
    cases ho:ops[i]? with
    | none =>
      rw [ho] at hw
      unfold wpOp
      rw [ho]
      exact W0_wpOpsI hΓ hB hd h hw
    | some o =>
      rw [ho] at hw
      exact zahf hΓ hB ho h (hw ⟨Unit,()⟩).1 (zabn hd) fun ch a' w' μ' fp' N' h'=>W0_wpOpsI hΓ hB hd h' (hw ch).2
theorem Qt (hΓ:∀ f,ConI P I f (Γ f)) (hB:∀ w,Frm B.w0 B.K w → I w) {id:Nat} {ops:Array Oper} {Q:Exit → St → Prop} {S:St} (srcs:List Nat) (hd:Zs n ops = true) (h:V P Γ srcs false ops ops.toList S (Q .normal)):AW P B n (.region id ops false) Q S :=
  fun a w μ fp N hR=>wp_region (W0_wpOpsI hΓ hB hd hR (V_all h))

variable {ch cx cy:Any} {sn:List (Nat × List D)}
theorem WS_anyI (hΓ:∀ f,ConI P I f (Γ f)) (hB:∀ w,Frm B.w0 B.K w → I w) {ops:Array Oper} {sh:List Nat} (hd:Zs n ops = true) (hok:Jp Γ ops sh = true) {Q:Exit → St → Prop}:∀ (fuel:Nat) (listed:Array Bool) (S:St) (a:Act) (w:World) (μ:Nat → Nat) (fp:Root → List Nat) (N:Nat),
    ((List.range ops.size).filter fun k=>!listed.getD k true).length ≤ fuel → listed.size = ops.size → (∀ k o,ops[k]? = some o → listed.getD k true = true → ∀ e ∈ o.after.toList,Region.binds .any e = true → listed.getD e.on false = true) → (((List.range ops.size).filter fun k=>!listed.getD k true) ≠ [] → NS sh S ∧ AGL sn S.H) → R B n S [] [] a w μ fp N →
    WS P Γ sn sh ops ((List.range ops.size).filter fun k=>!listed.getD k true) S (Q .normal) → wpAny P .any ops (lift B n Q) fuel listed a w
  | fuel, listed,S,a,w,μ,fp,N,hf,hsz,hcl,hs,hR,hw=>by
    have hback:∀ i y,ops[i]? = some y → ∀ e ∈ y.after.toList,Region.binds .any e = true → e.on < i:=by
      intro i y hi e he hb
      unfold Jp at hok
      simp only [Bool.and_eq_true] at hok
      have h1:=hok.1.1
      rw [List.all_eq_true] at h1
      have h2:=h1 (y,i) (by rw [List.mem_zipIdx_iff_getElem?];simpa using hi)
      rw [List.all_eq_true] at h2
      have:=h2 e (by rw [List.mem_filter];exact ⟨he,hb⟩)
      simpa using this
    -- where all that are left wait, none are left
    have hnone:Region.ready .any ops listed = [] → ((List.range ops.size).filter fun k=>!listed.getD k true) = []:=by
      intro hr
      cases hM:(List.range ops.size).filter fun k=>!listed.getD k true with
      | nil=>rfl
      | cons i M =>
        exfalso
        have hmem:i ∈ (List.range ops.size).filter fun k=>!listed.getD k true:=by rw [hM];simp
        rw [List.mem_filter,List.mem_range] at hmem
        have hsorted:((List.range ops.size).filter fun k=>!listed.getD k true).Pairwise (· < ·):=List.Pairwise.filter _ List.pairwise_lt_range
        have:i ∈ Region.ready .any ops listed:=by
          rw [mem_ready]
          refine ⟨by simpa using hmem.2,ops[i],Array.getElem?_eq_getElem hmem.1,fun e he hb=>?_⟩
          have hlt:=hback i _ (Array.getElem?_eq_getElem hmem.1) e (by simpa using he) hb
          have hlt':e.on < listed.size:=by omega
          cases hle:listed.getD e.on true with
          | true=>rwa [Array.getD_eq_getD_getElem?,Array.getElem?_eq_getElem hlt',Option.getD_some] at hle ⊢
          | false =>
            have hin:e.on ∈ (List.range ops.size).filter fun k=>!listed.getD k true:=by
              rw [List.mem_filter,List.mem_range];exact ⟨by omega,by simp [hle]⟩
            rw [hM] at hin hsorted
            rcases List.mem_cons.1 hin with h | h
            · omega
            · have:=(List.pairwise_cons.1 hsorted).1 _ h;omega
        rw [hr] at this
        cases this
    have hfin:Region.ready .any ops listed = [] → lift B n Q .normal a w:=fun hr=>by
      rw [hnone hr] at hw
      exact ⟨S,μ,fp,N,hR,hw⟩
    cases fuel with
    | zero =>
      have h0:((List.range ops.size).filter fun k=>!listed.getD k true) = []:=List.eq_nil_of_length_eq_zero (by omega)
      have hr:Region.ready .any ops listed = []:=by
        refine List.eq_nil_iff_forall_not_mem.2 fun i hi=>?_
        obtain ⟨h1,o,h2,_⟩:=mem_ready.1 hi
        have:i ∈ (List.range ops.size).filter fun k=>!listed.getD k true:=by
          rw [List.mem_filter,List.mem_range];exact ⟨(Array.getElem?_eq_some_iff.1 h2).1,by simp [h1]⟩
        rw [h0] at this;cases this
      exact ⟨hr,hfin hr⟩
    | succ fuel =>
      refine ⟨hfin,fun i hi=>?_⟩
      obtain ⟨h1,y,h2,h3⟩:=mem_ready.1 hi
      have hlt:=(Array.getElem?_eq_some_iff.1 h2).1
      have hmem:i ∈ (List.range ops.size).filter fun k=>!listed.getD k true:=by
        rw [List.mem_filter,List.mem_range];exact ⟨hlt,by simp [h1]⟩
      have hnodup:((List.range ops.size).filter fun k=>!listed.getD k true).Nodup:=List.Pairwise.filter _ List.nodup_range
      have hsorted:((List.range ops.size).filter fun k=>!listed.getD k true).Pairwise (· < ·):=List.Pairwise.filter _ List.pairwise_lt_range
      obtain ⟨M1,M2,hM⟩:=List.append_of_mem hmem
      have hbit:∀ j,j < ops.size → (!listed.getD j true) = true → ((befGo ops.toList []).getD i 0).testBit j = true → False:=by
        intro j hjs hjl q3
        have:=zaew (ops:=ops) (fun k=>listed.getD k false = true) (fun k o ho hk=>hcl k o ho (by
            have hk':k < listed.size:=by rw [hsz];exact (Array.getElem?_eq_some_iff.1 ho).1
            rw [Array.getD_eq_getD_getElem?,Array.getElem?_eq_getElem hk',Option.getD_some] at hk ⊢
            exact hk)) ops.toList [] (by simp) (by simp) i y h2 (fun e he hb=>h3 e (by simpa using he) hb) j q3
        have hj':j < listed.size:=by omega
        rw [Array.getD_eq_getD_getElem?,Array.getElem?_eq_getElem hj',Option.getD_some] at this
        rw [Array.getD_eq_getD_getElem?,Array.getElem?_eq_getElem hj',Option.getD_some,this] at hjl
        simp at hjl
      have hfirst:WS P Γ sn sh ops (i :: (M1 ++ M2)) S (Q .normal):=by
        refine WS_first h2 (fun j hj=>?_) (fun _=>hs (by rw [hM];simp)) (hM ▸ hw)
        have hjm:j ∈ (List.range ops.size).filter fun k=>!listed.getD k true:=by rw [hM];simp [hj]
        rw [List.mem_filter,List.mem_range] at hjm
        have hji:j < i:=by
          rw [hM] at hsorted
          exact (List.pairwise_append.1 hsorted).2.2 j hj i (by simp)
        refine ⟨⟨ops[j],Array.getElem?_eq_getElem hjm.1,?_⟩,by omega⟩
        have hok':=hok
        unfold Jp at hok'
        simp only [Bool.and_eq_true] at hok'
        have q1:=hok'.1.2
        rw [List.all_eq_true] at q1
        have q2:=q1 (y,i) (by rw [List.mem_zipIdx_iff_getElem?];simpa using h2)
        rw [List.all_eq_true] at q2
        have q3:=q2 (ops[j],j) (by rw [List.mem_zipIdx_iff_getElem?];simp [hjm.1])
        simp only [hji,decide_true,Bool.not_true,Bool.false_or,Bool.or_eq_true] at q3
        rcases q3 with q3 | q3
        · exact (hbit j hjm.1 hjm.2 q3).elim
        · exact apartS_of q3
      rw [WS,h2] at hfirst
      dsimp only at hfirst
      have hM':((List.range ops.size).filter fun k=>!(listed.setIfInBounds i true).getD k true) = M1 ++ M2:=by
        have e2:((List.range ops.size).filter fun k=>!(listed.setIfInBounds i true).getD k true) = ((List.range ops.size).filter fun k=>!listed.getD k true).filter fun k=>decide (k ≠ i):=by
          rw [List.filter_filter]
          apply List.filter_congr
          intro k _
          by_cases e:k = i
          · subst e
            have:(listed.setIfInBounds k true).getD k true = true:=by
              rw [Array.getD_eq_getD_getElem?,Array.getElem?_setIfInBounds]
              simp only [if_true]
              split <;> rfl
            simp [this]
          · rw [getD_set_ne true (fun h=>e h.symm)]
            simp [e]
        rw [e2,hM]
        have hn:=hM ▸ hnodup
        rw [List.nodup_append] at hn
        have hn2:=List.nodup_cons.1 hn.2.1
        rw [List.filter_append,List.filter_cons]
        simp only [ne_eq,not_true_eq_false,decide_false,Bool.false_eq_true,if_false]
        rw [List.filter_eq_self.2,List.filter_eq_self.2]
        · intro k hk;simp;rintro rfl;exact hn2.1 hk
        · intro k hk;simp;rintro rfl;exact hn.2.2 k hk k (by simp) rfl
      have hns:((List.range ops.size).filter fun k=>!(listed.setIfInBounds i true).getD k true) ≠ [] → ∀ cy,NS sh (stepS P Γ cy sn ops y S).2 ∧ AGL sn (stepS P Γ cy sn ops y S).2.H:=by
        intro hrest cy
        have e1:=(hfirst cy).2.1
        have a1:=(hfirst cy).2.2.1
        rw [hM'] at hrest
        obtain ⟨hs,hag⟩:=hs (by rw [hM];simp)
        by_cases hl:i + 1 = ops.size
        · have hM2:M2 = []:=by
            cases M2 with
            | nil=>rfl
            | cons k M2 =>
              exfalso
              have hk:k ∈ (List.range ops.size).filter fun k=>!listed.getD k true:=by rw [hM];simp
              rw [List.mem_filter,List.mem_range] at hk
              rw [hM] at hsorted
              have:=(List.pairwise_cons.1 (List.pairwise_append.1 hsorted).2.1).1 k (by simp)
              omega
          subst hM2
          have hok':=hok
          unfold Jp at hok'
          simp only [Bool.and_eq_true] at hok'
          have q1:=hok'.2
          rw [List.all_eq_true] at q1
          have q2:=q1 (y,i) (by rw [List.mem_zipIdx_iff_getElem?];simpa using h2)
          simp only [hl,decide_true,Bool.not_true,Bool.false_or,Bool.or_eq_true] at q2
          rcases q2 with q2 | q2
          · rw [Bool.and_eq_true] at q2
            refine ⟨hs.stepS fun t ht hm=>?_,?_⟩
            · rw [ht] at q2
              simp at q2
              exact (q2.1 hm).elim
            · have ky:=Jy (Γ:=Γ) y
              have:kindS Γ y ≠ 2:=by simpa using q2.2
              rw [Zk (by omega)];exact hag
          · exfalso
            cases M1 with
            | nil=>exact hrest rfl
            | cons j M1 =>
              have hjm:j ∈ (List.range ops.size).filter fun k=>!listed.getD k true:=by rw [hM];simp
              rw [List.mem_filter,List.mem_range] at hjm
              rw [List.all_eq_true] at q2
              have hji:j < i:=by
                rw [hM] at hsorted
                exact (List.pairwise_append.1 hsorted).2.2 j (by simp) i (by simp)
              exact hbit j hjm.1 hjm.2 (q2 j (by rw [List.mem_range];exact hji))
        · refine ⟨hs.stepS fun t ht hm=>e1 t ht hm hl,?_⟩
          by_cases e:kindS Γ y = 2
          · exact a1 e hl
          · have ky:=Jy (Γ:=Γ) y
            rw [Zk (by omega)];exact hag
      obtain ⟨dr,hreal⟩:=stepS_real (hs (by rw [hM];simp)).2 (fun ch=>(hfirst ch).1)
      refine zahf hΓ hB h2 hR (hreal ⟨Unit,()⟩).1 (zabn hd) fun ch a' w' μ' fp' N' hR'=>?_
      rw [(hreal ch).2] at hR'
      refine WS_anyI hΓ hB hd hok fuel _ _ a' w' μ' fp' N' ?_ (by simp [hsz]) (fun k o ho hk e he hb=>?_) (fun hrest=>hns hrest ch) hR' (by rw [hM'];exact (hfirst ch).2.2.2)
      · rw [hM']
        have:((List.range ops.size).filter fun k=>!listed.getD k true).length = (M1 ++ M2).length + 1:=by rw [hM];simp;omega
        omega
      · by_cases e':k = i
        · subst e'
          rw [h2] at ho
          cases ho
          exact getD_set_true (h3 e (by simpa using he) hb)
        · rw [getD_set_ne true (fun h=>e' h.symm)] at hk
          exact getD_set_true (hcl k o ho hk e he hb)
theorem zahb (hΓ:∀ f,ConI P I f (Γ f)) (hB:∀ w,Frm B.w0 B.K w → I w) (hm:P.follows .mixedOrders = true) {id:Nat} {ops:Array Oper} {Q:Exit → St → Prop} {S:St} (sn:List (Nat × List D)) (srcs sh:List Nat) (hd:Zs n ops = true) (hok:Jp Γ ops sh = true) (hs:NS sh S) (hag:AGL sn S.H)
    (h:VS P Γ sn srcs sh ops ops.toList S (Q .normal)):AW P B n (.region id ops true) Q S:=fun a w μ fp N hR=>by
  refine wp_region_any hm ?_
  have hall:((List.range ops.size).filter fun k=>!(Array.replicate ops.size false).getD k true) = List.range ops.size:=by
    rw [List.filter_eq_self]
    intro k hk
    rw [List.mem_range] at hk
    rw [Array.getD_eq_getD_getElem?,Array.getElem?_replicate,if_pos hk]
    rfl
  have hw:WS P Γ sn sh ops (List.range ops.size) S (Q .normal):=by
    have:=VS_WS (k:=0) (by simp) h
    rw [List.range_eq_range']
    simpa using this
  refine WS_anyI hΓ hB hd hok _ _ S a _ μ fp N (by rw [hall];simp) (by simp) (fun k o ho hk=>?_) (fun _=>⟨hs,hag⟩) (hR.drewN _) (by rw [hall];exact hw)
  have:=(Array.getElem?_eq_some_iff.1 ho).1
  rw [Array.getD_eq_getD_getElem?,Array.getElem?_replicate,if_pos this] at hk
  cases hk
theorem PureI.of_walk {f:FuncId} {fn:Func} {c:Code} {args:List D} {r:D} (hf:P.funcs[f]? = some fn) (hb:fn.body = some c) (hn:args.length ≤ fn.ntmps) (hr:closed r = true)
    (stab:∀ w w',Frm w (fun _=>False) w' → I w → I w') (h:∀ B:Base,(∀ x,¬ B.K x) → (∀ w',Frm B.w0 B.K w' → I w') → AW P B fn.ntmps c (retQ P fn r fun _=>none) ⟨Qy args,fun _=>none⟩):PureI P I f args r:=by
  intro μ w vs hI ⟨N,hN⟩ hrep
  have hl:=hrep.length
  refine calls_of_wp hf hb ?_
  have hR:R ⟨w,fun _=>False,fun x=>x < w.heap.size,μ,N⟩ fn.ntmps ⟨Qy args,fun _=>none⟩ [] [] ⟨vs.toArray ++ Array.replicate (fn.ntmps - vs.toArray.size) undef,[]⟩ w μ (fun _=>[]) N:=by
    refine ⟨by simp;omega,rfl,Frm.refl _ _,fun x hx=>⟨hx,by simp⟩,by simp,by simp,by simp,fun t=>?_,by simp [RepL],by simp,by simp,fun t=>zagf hN t,by simp [bndL],by simp,⟨Nat.le_refl _,fun _ _=>rfl⟩⟩
    show Rep _ _ _ _ ((vs.toArray ++ Array.replicate _ undef).getD t undef) _
    rw [zafx]
    obtain ⟨g,g1,g2,_,_⟩:=hrep.slots .nil
    have:=g1 t
    have e:g t = []:=List.eq_nil_iff_forall_not_mem.2 fun x hx=>by have:=g2 t x hx;cases this
    rw [e] at this
    exact Rep.mono (fun x hx=>⟨⟨hx,.inl (.inl hx),by simp⟩,rfl⟩) (by simp) this
  refine wp_mono (h ⟨w,fun _=>False,fun x=>x < w.heap.size,μ,N⟩ (by simp) (fun w' hf=>stab w w' hf hI) _ w μ _ N hR) fun e a' w' he=>?_
  have fin:∀ {S:St} {μ':Nat → Nat} {fp':Root → List Nat} {N':Nat},R ⟨w,fun _=>False,fun x=>x < w.heap.size,μ,N⟩ fn.ntmps S [] [] a' w' μ' fp' N' → (Qv P S fn.results.toList).1 → resD (Qv P S fn.results.toList).2.1 = r →
      a'.defers = [] ∧ ∃ v,(results fn a'.tmps).run P w' = .ok v w' ∧ ∃ v' fl,Ending.returned v = .returned v' ∧ Rep μ (fun _=>False) w' r v' fl ∧ fl.Nodup ∧ (∀ x ∈ fl,w.heap.size ≤ x ∧ x < w'.heap.size) ∧ Frm w (fun _=>False) w':=by
    intro S μ' fp' N' h1 h2 h3
    obtain ⟨v,fp2,h4,h5⟩:=zabj h1 h2
    rw [h3] at h5
    refine ⟨h1.dfs,v,h4,v,fp2 .bag,rfl,Rep.closed hr h5.bg.one,h5.nod _,fun x hx=>?_,h5.frm⟩
    have:=h5.own _ x hx
    exact ⟨this.1.resolve_left (by simp),this.2⟩
  cases e with
  | normal=>obtain ⟨S,μ',fp',N',h1,h2,h3,_⟩:=he;exact fin h1 h2 h3
  | ret=>obtain ⟨S,μ',fp',N',h1,h2,h3,_⟩:=he;exact fin h1 h2 h3
  | exit id=>obtain ⟨S,μ',fp',N',h1,h2⟩:=he;exact h2.elim
  | goto l=>exact he.elim
  | panic c=>exact he.elim
  | outgrown=>exact he.elim
end
end
end Go.Proofs.YtiilmjojffjhlaaGreatDoor.Vm

