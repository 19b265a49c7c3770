import Derived.Test.YtiilmjojffjhlaaGreatDoorKVm6
import Derived.Lib.MinMax
import Derived.Maps.Own
/-
  Contracts of functions over abstract values, and calls. No conditions; nothing of the program is named here.
-/
namespace Go.Proofs.YtiilmjojffjhlaaGreatDoor.Vm
open Go
set_option linter.unusedVariables false
set_option linter.unusedSimpArgs false
set_option linter.unusedSectionVars false

def Pure (P:Program) (f:FuncId) (args:List D) (r:D):Prop :=
  ∀ (μ:Nat → Nat) (w:World) (vs:List Value),(∃ N,bndL N args) → RepL μ (fun x=>x < w.heap.size) w args vs [] → Calls P f vs.toArray w fun e w' =>
    ∃ v fl,e = .returned v ∧ Rep μ (fun _=>False) w' r v fl ∧ fl.Nodup ∧ (∀ x ∈ fl,w.heap.size ≤ x ∧ x < w'.heap.size) ∧ Frm w (fun _=>False) w'
def Qy (ds:List D):Nat → D:=fun t=>ds.getD t .any
def Spec (P:Program) (f:FuncId) (args:List D) (H:Hp) (r:D) (H':Hp):Prop :=
  ∀ (w:World) (J:Nat → Prop) (vs:List Value) (μ:Nat → Nat) (fp:Root → List Nat) (N:Nat),R ⟨w,fun x=>∃ r,x ∈ fp r,J,μ,N⟩ args.length ⟨Qy args,H⟩ [] [] ⟨vs.toArray,[]⟩ w μ fp N → Calls P f vs.toArray w fun e w' =>
    ∃ v μ' fp' N',e = .returned v ∧ R ⟨w,fun x=>∃ r,x ∈ fp r,J,μ,N⟩ 1 ⟨Qy [r],H'⟩ [] [] ⟨#[v],[]⟩ w' μ' fp' N'
def SpecR (P:Program) (f:FuncId) (args:List D) (H:Hp) (G:Any → D × Hp):Prop :=
  ∀ (w:World) (J:Nat → Prop) (vs:List Value) (μ:Nat → Nat) (fp:Root → List Nat) (N:Nat),R ⟨w,fun x=>∃ r,x ∈ fp r,J,μ,N⟩ args.length ⟨Qy args,H⟩ [] [] ⟨vs.toArray,[]⟩ w μ fp N → Calls P f vs.toArray w fun e w' =>
    ∃ c v μ' fp' N',e = .returned v ∧ R ⟨w,fun x=>∃ r,x ∈ fp r,J,μ,N⟩ 1 ⟨Qy [(G c).1],(G c).2⟩ [] [] ⟨#[v],[]⟩ w' μ' fp' N'
def PureR (P:Program) (f:FuncId) (args:List D) (G:Any → D):Prop :=
  ∀ (μ:Nat → Nat) (w:World) (vs:List Value),(∃ N,bndL N args) → RepL μ (fun x=>x < w.heap.size) w args vs [] → Calls P f vs.toArray w fun e w' =>
    ∃ c v fl,e = .returned v ∧ Rep μ (fun _=>False) w' (G c) v fl ∧ fl.Nodup ∧ (∀ x ∈ fl,w.heap.size ≤ x ∧ x < w'.heap.size) ∧ Frm w (fun _=>False) w'
inductive Con where
  | none
  | pure (F:List D → Prop × D)
  | gen (F:List D → Hp → Prop × D × Hp)
  | ext (F:List D → Prop × D)
  | rel (F:List D → Hp → Prop × (Any → D × Hp))
  | prel (F:List D → Prop × (Any → D))
def Ext (P:Program) (f:FuncId) (args:List D) (r:D):Prop :=
  ∀ (μ:Nat → Nat) (I:Nat → Prop) (w:World) (vs:List Value),RepL μ I w args vs [] → ∃ v,(callFunc f vs.toArray).run P w = .ok (.value v) w ∧ ∀ μ' I' w',Rep μ' I' w' r v []
def Jz (P:Program) (f:FuncId):Prop:=∃ fn,P.funcs[f]? = some fn ∧ fn.name ≠ "runtime.NumGoroutine" ∧ fn.body.isSome = true
def ConOk (P:Program) (f:FuncId):Con → Prop
  | .none=>True
  | .pure F=>Jz P f ∧ ∀ args,(F args).1 → Pure P f args (F args).2 ∧ bnd 0 (F args).2
  | .gen F=>Jz P f ∧ ∀ args H,(F args H).1 → Spec P f args H (F args H).2.1 (F args H).2.2
  | .ext F=>∀ args,(F args).1 → Ext P f args (F args).2 ∧ bnd 0 (F args).2
  | .rel F=>Jz P f ∧ ∀ args H,(F args H).1 → SpecR P f args H (F args H).2
  | .prel F=>Jz P f ∧ ∀ args,(F args).1 → PureR P f args (F args).2 ∧ ∀ c,bnd 0 ((F args).2 c)

def deref:Nat → Hp → D → D
  | 0,_,_=>.any
  | k + 1,H,.sl b sz i n _=>.list n (((((H b).getD []).drop i).take (n * sz)).map (deref k H))
  | k + 1,H,.ptr b i=>match H b with
    | some (c :: cs)=>.pd (((c :: cs).drop i).map (deref k H))
    | _=>.any
  | k + 1,H,.st cs=>.st (cs.map (deref k H))
  | k + 1,H,.tup cs=>.tup (cs.map (deref k H))
  | k + 1,H,.fr _ n cs=>.list n (cs.map (deref k H))
  | _ + 1,_,.nil=>.list 0 []
  | k + 1,H,.box cs=>.pd (cs.map (deref k H))
  | k + 1,H,.fn f cs=>.fn f (cs.map (deref k H))
  | _ + 1,_,.om _=>.any
  | _ + 1,_,d=>d
section
variable {P:Program} {o:Oper} {vals:List D} {H:Hp}
theorem RepL.map {μ:Nat → Nat} {I I':Nat → Prop} {w:World} {g:D → D}:∀ {ds:List D} {vs:List Value} {f:List Nat},(∀ d ∈ ds,∀ v f',(∀ x ∈ f',x ∈ f) → Rep μ I w d v f' → Rep μ I' w (g d) v []) → RepL μ I w ds vs f → RepL μ I' w (ds.map g) vs []
  | [],vs,f,hg,h=>by simp only [RepL] at h;simp [RepL,h.1]
  | d :: ds,vs,f,hg,h=>by
    simp only [RepL] at h
    obtain ⟨v,vs',f1,f2,rfl,rfl,h1,h2⟩:=h
    simp only [List.map_cons,RepL]
    exact ⟨v,vs',[],[],rfl,rfl,hg d (by simp) v f1 (fun x hx=>List.mem_append_left _ hx) h1,RepL.map (fun d' hd v f' hf h=>hg d' (by simp [hd]) v f' (fun x hx=>List.mem_append_right _ (hf x hx)) h) h2⟩
theorem zaer {B : Base} {n : Nat} {T : Nat → D} {ds:List D} {vs:List Value} {a:Act} {w:World} {μ:Nat → Nat} {fp:Root → List Nat} {N:Nat} (hR:R B n ⟨T,H⟩ ds vs a w μ fp N) :
    ∀ (k:Nat) (d:D) (v:Value) (f:List Nat),(∀ x ∈ f,x < w.heap.size) → bnd N d → Rep μ (Im B w fp) w d v f → Rep μ (fun x=>x < w.heap.size) w (deref k H d) v []
  | 0,d,v,f,hf,hbd,h=>by simp [deref,Rep]
  | k + 1, d, v,f,hf,hbd,h=>by
    have ih:=zaer hR k
    have him:∀ x,Im B w fp x → x < w.heap.size:=fun x hx=>hx.1
    -- the cells of a named block
    have blk:∀ b cs,b % 2 = 0 → H b = some cs → cs ≠ [] → ∃ cells,Whole w (μ b) cells ∧ RepL μ (fun x=>x < w.heap.size) w (cs.map (deref k H)) cells.toList []:=by
      intro b cs hpb hc hne
      rcases hR.hp b cs hc with ⟨e,_⟩ | ⟨cells,k1,k2,k3,k4,k5⟩ | ⟨kodd,_⟩
      rotate_left 2
      · omega
      · exact (hne e).elim
      · refine ⟨cells,k1,.build (by simpa using k2) fun j e u h1 h2=>?_⟩
        rw [List.getElem?_map] at h1
        cases hj:cs[j]? with
        | none=>rw [hj] at h1;cases h1
        | some e' =>
          rw [hj] at h1;cases h1
          obtain ⟨u',hu,hr⟩:=k4 j e' hj
          have:cells[j]? = some u:=by simpa using h2
          rw [hu] at this;cases this
          exact ih e' _ _ (fun x hx=>(hR.own _ x hx).2) (Qi.1 (hR.bH b cs hc).2 e' (List.mem_of_getElem? hj)) hr
    have sub:∀ {cs:List D} {us:List Value} {g:List Nat},(∀ x ∈ g,x < w.heap.size) → bndL N cs → RepL μ (Im B w fp) w cs us g → RepL μ (fun x=>x < w.heap.size) w (cs.map (deref k H)) us []:=fun hg hbl hr =>
      RepL.map (fun d hdm v f' hf' hd=>ih d v f' (fun x hx=>hg x (hf' x hx)) (Qi.1 hbl d hdm) hd) hr
    cases d with
    | sl b sz i n c =>
      simp only [Rep] at h
      obtain ⟨rfl,hnc,hmax,⟨A,rfl⟩,hv⟩:=h
      simp only [deref,Rep]
      by_cases h0:n * sz = 0
      · rw [h0]
        exact ⟨trivial,hmax,A,c,[],rfl,hnc,.inl (by simp),by simp [RepL]⟩
      · have hv := hv.resolve_left (by rintro rfl;have:n = 0:=by omega
                                       subst this;simp at h0)
        cases hv
        cases hc:H b with
        | none=>simp only [Option.getD_none,List.drop_nil,List.take_nil,List.map_nil];exact ⟨trivial,hmax,_,c,[],rfl,hnc,.inl trivial,by simp [RepL]⟩
        | some cs =>
          simp only [Option.getD_some]
          by_cases he:cs = []
          · subst he;simp only [List.drop_nil,List.take_nil,List.map_nil];exact ⟨trivial,hmax,_,c,[],rfl,hnc,.inl trivial,by simp [RepL]⟩
          · obtain ⟨cells,k1,k2⟩:=blk b cs (by simp only [bnd] at hbd;exact hbd.2) hc he
            refine ⟨trivial,hmax,_,c,(cells.toList.drop i).take (n * sz),rfl,hnc,.inr ⟨μ b,i,rfl,k1.lt,.of_whole k1 fun j u hu=>?_⟩,?_⟩
            · rw [List.getElem?_take] at hu
              split at hu
              · rw [List.getElem?_drop] at hu;simpa using hu
              · cases hu
            · rw [List.map_take,List.map_drop]
              exact (k2.drop _).take _
    | ptr b i =>
      simp only [Rep] at h
      obtain ⟨rfl,rfl⟩:=h
      simp only [deref]
      split
      · rename_i c cs hc
        obtain ⟨cells,k1,k2⟩:=blk b (c :: cs) (by simp only [bnd] at hbd;exact hbd.2) hc (by simp)
        simp only [Rep]
        refine ⟨trivial,μ b,i,cells.toList.drop i,rfl,k1.lt,.of_whole k1 fun j u hu=>?_,?_⟩
        · rw [List.getElem?_drop] at hu;simpa using hu
        · rw [List.map_drop];exact k2.drop _
      · simp [Rep]
    | st cs =>
      simp only [Rep] at h
      obtain ⟨us,rfl,h⟩:=h
      simp only [deref,Rep]
      exact ⟨us,rfl,sub hf (by simpa only [bnd] using hbd) h⟩
    | tup cs =>
      simp only [Rep] at h
      obtain ⟨us,rfl,h⟩:=h
      simp only [deref,Rep]
      exact ⟨us,rfl,sub hf (by simpa only [bnd] using hbd) h⟩
    | fr sz n cs =>
      simp only [Rep] at h
      obtain ⟨h0,h1,h⟩:=h
      simp only [deref,Rep]
      rcases h with ⟨rfl,rfl,A,rfl⟩ | ⟨b,c,cells,us,g,rfl,h3,h4,h5,h6,h7,rfl⟩
      · have:cs = []:=List.eq_nil_of_length_eq_zero (by simpa using h1)
        subst this
        exact ⟨trivial,h0,A,0,[],rfl,by simp,.inl rfl,by simp [RepL]⟩
      · exact ⟨trivial,h0,_,c,us,rfl,h3,.inr ⟨b,0,rfl,hf b (by simp),.of_whole h4 (by simpa using h6)⟩,sub (fun x hx=>hf x (by simp [hx])) (by simpa only [bnd] using hbd) h7⟩
    | nil =>
      simp only [Rep] at h
      obtain ⟨_,A,rfl⟩:=h
      simp [deref,Rep,RepL]
    | box cs =>
      simp only [Rep] at h
      obtain ⟨b,cells,g,rfl,h3,h4,rfl⟩:=h
      simp only [deref,Rep]
      exact ⟨trivial,b,0,cells.toList,rfl,hf b (by simp),.of_whole h3 (by simp),sub (fun x hx=>hf x (by simp [hx])) (by simpa only [bnd] using hbd) h4⟩
    | fn g cs =>
      simp only [Rep] at h
      obtain ⟨us,rfl,h⟩:=h
      simp only [deref,Rep]
      exact ⟨us,rfl,sub hf (by simpa only [bnd] using hbd) h⟩
    | list n cs =>
      have:f = []:=h.free rfl
      subst this
      exact Rep.mono (fun x hx=>⟨him x hx,rfl⟩) (by simp) h
    | pd cs =>
      have:f = []:=h.free rfl
      subst this
      exact Rep.mono (fun x hx=>⟨him x hx,rfl⟩) (by simp) h
    | any=>simp [deref,Rep]
    | nilp=>simp only [Rep] at h;obtain ⟨_,rfl⟩:=h;simp [deref,Rep]
    | ubool=>simp only [Rep] at h;obtain ⟨_,b,rfl⟩:=h;simp [deref,Rep]
    | mr b=>simp only [Rep] at h;obtain ⟨_,rfl⟩:=h;simp [deref,Rep]
    | om cs=>simp [deref,Rep]
    | int _ _=>simp only [Rep] at h;obtain ⟨_,rfl⟩:=h;simp [deref,Rep]
    | bool _=>simp only [Rep] at h;obtain ⟨_,rfl⟩:=h;simp [deref,Rep]
    | str _=>simp only [Rep] at h;obtain ⟨_,rfl⟩:=h;simp [deref,Rep]

theorem bndL_map {N:Nat} {g:D → D} {cs:List D} (h:bndL N cs) (k:∀ d ∈ cs,bnd N d → bnd N (g d)):bndL N (cs.map g):=by
  rw [Qi] at h ⊢
  intro d hd
  obtain ⟨e,he,rfl⟩:=List.mem_map.1 hd
  exact k e he (h e he)
theorem zaes {N:Nat} (hH:∀ b cs,H b = some cs → bndL N cs):∀ (k:Nat) (d:D),bnd N d → bnd N (deref k H d)
  | 0,d,h=>by simp [deref,bnd]
  | k + 1,d,h=>by
    have ih:=zaes hH k
    have sub:∀ {cs:List D},bndL N cs → bndL N (cs.map (deref k H)):=fun hb=>bndL_map hb fun d _ hd=>ih d hd
    cases d with
    | sl b sz i n c =>
      simp only [deref,bnd]
      cases hc:H b with
      | none=>simp [bndL]
      | some cs =>
        rw [Qi]
        intro d hd
        simp only [Option.getD_some] at hd
        obtain ⟨e,he,rfl⟩:=List.mem_map.1 hd
        exact ih e (Qi.1 (hH b cs hc) e (List.mem_of_mem_drop (List.mem_of_mem_take he)))
    | ptr b i =>
      simp only [deref]
      split
      · rename_i c cs hc
        simp only [bnd]
        rw [Qi]
        intro d hd
        obtain ⟨e,he,rfl⟩:=List.mem_map.1 hd
        exact ih e (Qi.1 (hH b _ hc) e (List.mem_of_mem_drop he))
      · simp [bnd]
    | st cs=>simp only [deref,bnd] at h ⊢;exact sub h
    | tup cs=>simp only [deref,bnd] at h ⊢;exact sub h
    | fr sz n cs=>simp only [deref,bnd] at h ⊢;exact sub h
    | box cs=>simp only [deref,bnd] at h ⊢;exact sub h
    | fn g cs=>simp only [deref,bnd] at h ⊢;exact sub h
    | nil=>simp [deref,bnd,bndL]
    | om cs=>simp [deref,bnd]
    | _=>simpa only [deref] using h
def Xa (Γ:FuncId → Con) (ch:Any) (vs:List D) (H:Hp):Res :=
  match vs with
  | .fn f caps :: args =>
    match Γ f with
    | .pure F=>⟨(F ((args ++ caps).map (deref 40 H))).1,(F ((args ++ caps).map (deref 40 H))).2,H,none⟩
    | .gen F=>⟨(F (args ++ caps) H).1,(F (args ++ caps) H).2.1,(F (args ++ caps) H).2.2,none⟩
    | .ext F=>⟨(F (args ++ caps)).1 ∧ ownsL (args ++ caps) = false,(F (args ++ caps)).2,H,none⟩
    | .rel F=>⟨(F (args ++ caps) H).1,((F (args ++ caps) H).2 ch).1,((F (args ++ caps) H).2 ch).2,none⟩
    | .prel F=>⟨(F ((args ++ caps).map (deref 40 H))).1,(F ((args ++ caps).map (deref 40 H))).2 ch,H,none⟩
    | .none=>bad H
  | _=>bad H
theorem RepL.slots {μ:Nat → Nat} {I:Nat → Prop} {w:World}:∀ {ds:List D} {vs:List Value} {f:List Nat},RepL μ I w ds vs f → f.Nodup → ∃ h:Nat → List Nat,(∀ t,Rep μ I w (ds.getD t .any) (vs.getD t undef) (h t)) ∧ (∀ t x,x ∈ h t → x ∈ f) ∧ (∀ t,(h t).Nodup) ∧ ∀ t t' x,x ∈ h t → x ∈ h t' → t = t'
  | [],vs,f,hr,hn=>⟨fun _=>[],by simp [Rep],by simp,by simp,by simp⟩
  | d :: ds,vs,f,hr,hn=>by
    simp only [RepL] at hr
    obtain ⟨v,vs',f1,f2,rfl,rfl,h1,h2⟩:=hr
    have hn':=List.nodup_append.1 hn
    obtain ⟨h,k1,k2,k3,k4⟩:=RepL.slots h2 hn'.2.1
    refine ⟨fun t=>match t with | 0=>f1 | t + 1=>h t,fun t=>?_,fun t x hx=>?_,fun t=>?_,fun t t' x hx hy=>?_⟩
    · cases t with
      | zero=>simpa using h1
      | succ t=>simpa using k1 t
    · cases t with
      | zero=>exact List.mem_append_left _ hx
      | succ t=>exact List.mem_append_right _ (k2 t x hx)
    · cases t with
      | zero=>exact hn'.1
      | succ t=>exact k3 t
    · cases t <;> cases t'
      · rfl
      · exact (hn'.2.2 x hx x (k2 _ x hy) rfl).elim
      · exact (hn'.2.2 x hy x (k2 _ x hx) rfl).elim
      · rw [k4 _ _ x hx hy]
theorem sound_call {Γ:FuncId → Con} (hΓ:∀ f,ConOk P f (Γ f)) (g:Operand) (xs:Array Operand) (ts:Array TypeId) (ho:o.op = .call { callee:=.value g,args:=xs,argTypes:=ts }):SoundC P o vals H (fun ch=>Xa Γ ch vals H):=by
  have hx:o.op.operands.toList = g :: xs.toList:=by rw [ho];simp [Op.operands,Call.operands]
  have cas:(∃ f caps args,vals = .fn f caps :: args) ∨ ∀ ch,Xa Γ ch vals H = bad H:=by
    unfold Xa
    split
    · exact .inl ⟨_,_,_,rfl⟩
    · exact .inr fun _=>rfl
  rcases cas with ⟨f,caps,args,rfl⟩ | cas
  case inr=>rw [show (fun ch=>Xa Γ ch vals H) = fun _=>bad H from funext cas];exact (Sound.bad P o _ H).c
  have hcall:=hΓ f
  -- how the call is entered
  have enter:Jz P f → ∀ {μ:Nat → Nat} {I:Nat → Prop} {a:Act} {w:World} {cv:List Value},a.eval g = .func (.func f) #[] cv.toArray → (execOp a.eval o).run P w = .ok (.enter f (xs.toList.map a.eval ++ cv).toArray) w:=by
    intro hc μ I a w cv hg
    obtain ⟨fn,h1,h2,h3⟩:=hc
    have h3':fn.body ≠ none:=by cases hb:fn.body <;> simp [hb] at h3 ⊢
    have e2:Array.map a.eval xs ++ cv.toArray = (xs.toList.map a.eval ++ cv).toArray:=by apply Array.ext';simp
    simp [execOp,ho,resolve,hg,Deferred.ofValue,invoke,callFunc,program,Sem.run,h1,h2,h3',e2]
  cases hF:Γ f with
  | none =>
    rw [show (fun ch=>Xa Γ ch (.fn f caps :: args) H) = fun _=>bad H from funext fun ch=>by unfold Xa;simp only [hF]]
    exact (Sound.bad P o _ H).c
  | ext F =>
    rw [show (fun ch=>Xa Γ ch (.fn f caps :: args) H) = fun _=>⟨(F (args ++ caps)).1 ∧ ownsL (args ++ caps) = false,(F (args ++ caps)).2,H,none⟩ from funext fun ch=>by unfold Xa;simp only [hF]]
    rw [hF] at hcall
    refine Sound.c (Sound.of rfl rfl fun μ I w a f' N avals hr hav hn hb hp=>?_)
    rw [hx,List.map_cons] at hav;subst hav
    simp only [RepL] at hr
    obtain ⟨v,vs',f1,f2,he,hf,h1,h2⟩:=hr
    cases he
    simp only [Rep] at h1
    obtain ⟨cv,hg,h1⟩:=h1
    have h3:=RepL.append h1 h2
    obtain ⟨hp1,hp2⟩:=hp
    have h4:=h3.free hp2
    rw [h4] at h3
    obtain ⟨hE,hb0⟩:=hcall _ hp1
    obtain ⟨u,hu,hrep⟩:=hE μ I w _ h3
    have e2:Array.map a.eval xs ++ cv.toArray = (xs.toList.map a.eval ++ cv).toArray:=by apply Array.ext';simp
    refine ⟨u,[],?_,hrep μ I w,.nil,by simp,bnd.mono (Nat.zero_le _) hb0⟩
    simp [execOp,ho,resolve,hg,Deferred.ofValue,invoke,e2,hu]
  | pure F =>
    rw [show (fun ch=>Xa Γ ch (.fn f caps :: args) H) = fun _=>⟨(F ((args ++ caps).map (deref 40 H))).1,(F ((args ++ caps).map (deref 40 H))).2,H,none⟩ from funext fun ch=>by unfold Xa;simp only [hF]]
    rw [hF] at hcall
    obtain ⟨hc,hcon⟩:=hcall
    intro c0 B n T a w μ fp N avals hR hav hpre next Q hk
    rw [hx,List.map_cons] at hav;subst hav
    dsimp only at hpre
    obtain ⟨hP,hb0⟩:=hcon _ hpre
    have hbg:=hR.bg
    simp only [RepL] at hbg
    obtain ⟨v,vs',f1,f2,he,hf,h1,h2⟩:=hbg
    cases he
    simp only [Rep] at h1
    obtain ⟨cv,hg,h1⟩:=h1
    have h3:=RepL.append h1 h2
    have h4:RepL μ (fun x=>x < w.heap.size) w ((args ++ caps).map (deref 40 H)) (xs.toList.map a.eval ++ cv) [] :=
      RepL.map (fun d hdm v f' hf' hd=>zaer hR 40 d v f' (fun x hx=>(hR.own .bag x (by rw [hf];have:=hf' x hx;simp at this ⊢;exact this.symm)).2) (by have hpar:=hR.bB;simp only [bndL,bnd] at hpar;rcases List.mem_append.1 hdm with hh | hh;exact Qi.1 hpar.2 d hh;exact Qi.1 hpar.1 d hh) hd) h3
    unfold Oper.wp
    rw [enter hc (μ:=μ) (I:=fun _=>True) hg]
    simp only [Oper.upon]
    refine (hP μ w _ ⟨N,by have hpar:=hR.bB;simp only [bndL,bnd] at hpar;exact bndL_map (Qi.2 fun d hd=>by rcases List.mem_append.1 hd with hh | hh;exact Qi.1 hpar.2 d hh;exact Qi.1 hpar.1 d hh) fun d _ hd=>zaes (fun b cs hc=>(hR.bH b cs hc).2) 40 d hd⟩ h4).mono fun e w' ⟨u,fl,he,hr,hn,hfl,hw⟩=>?_
    subst he
    obtain ⟨fp',hR'⟩:=hR.resNew (hw.weaken (by simp)) (Rep.mono (fun b hb=>hb.elim) (fun _ _=>rfl) hr) hn (fun x hx=>.inr (hfl x hx)) (bnd.mono (Nat.zero_le _) hb0)
    exact hk c0 u w' μ fp' N hR'
  | prel F =>
    rw [show (fun ch=>Xa Γ ch (.fn f caps :: args) H) = fun ch=>⟨(F ((args ++ caps).map (deref 40 H))).1,(F ((args ++ caps).map (deref 40 H))).2 ch,H,none⟩ from funext fun ch=>by unfold Xa;simp only [hF]]
    rw [hF] at hcall
    obtain ⟨hc,hcon⟩:=hcall
    intro c0 B n T a w μ fp N avals hR hav hpre next Q hk
    rw [hx,List.map_cons] at hav;subst hav
    dsimp only at hpre
    obtain ⟨hP,hb0⟩:=hcon _ hpre
    have hbg:=hR.bg
    simp only [RepL] at hbg
    obtain ⟨v,vs',f1,f2,he,hf,h1,h2⟩:=hbg
    cases he
    simp only [Rep] at h1
    obtain ⟨cv,hg,h1⟩:=h1
    have h3:=RepL.append h1 h2
    have h4:RepL μ (fun x=>x < w.heap.size) w ((args ++ caps).map (deref 40 H)) (xs.toList.map a.eval ++ cv) [] :=
      RepL.map (fun d hdm v f' hf' hd=>zaer hR 40 d v f' (fun x hx=>(hR.own .bag x (by rw [hf];have:=hf' x hx;simp at this ⊢;exact this.symm)).2) (by have hpar:=hR.bB;simp only [bndL,bnd] at hpar;rcases List.mem_append.1 hdm with hh | hh;exact Qi.1 hpar.2 d hh;exact Qi.1 hpar.1 d hh) hd) h3
    unfold Oper.wp
    rw [enter hc (μ:=μ) (I:=fun _=>True) hg]
    simp only [Oper.upon]
    refine (hP μ w _ ⟨N,by have hpar:=hR.bB;simp only [bndL,bnd] at hpar;exact bndL_map (Qi.2 fun d hd=>by rcases List.mem_append.1 hd with hh | hh;exact Qi.1 hpar.2 d hh;exact Qi.1 hpar.1 d hh) fun d _ hd=>zaes (fun b cs hc=>(hR.bH b cs hc).2) 40 d hd⟩ h4).mono fun e w' ⟨ch,u,fl,he,hr,hn,hfl,hw⟩=>?_
    subst he
    obtain ⟨fp',hR'⟩:=hR.resNew (hw.weaken (by simp)) (Rep.mono (fun b hb=>hb.elim) (fun _ _=>rfl) hr) hn (fun x hx=>.inr (hfl x hx)) (bnd.mono (Nat.zero_le _) (hb0 ch))
    exact hk ch u w' μ fp' N hR'
  | gen F =>
    rw [show (fun ch=>Xa Γ ch (.fn f caps :: args) H) = fun ch=>⟨(F (args ++ caps) H).1,(F (args ++ caps) H).2.1,(F (args ++ caps) H).2.2,none⟩ from funext fun ch=>by unfold Xa;simp only [hF]]
    rw [hF] at hcall
    obtain ⟨hc,hcon⟩:=hcall
    intro c0 B n T a w μ fp N avals hR hav hpre next Q hk
    rw [hx,List.map_cons] at hav;subst hav
    dsimp only at hpre
    have hS:=hcon _ _ hpre
    have hbg:=hR.bg
    simp only [RepL] at hbg
    obtain ⟨v,vs',f1,f2,he,hf,h1,h2⟩:=hbg
    cases he
    simp only [Rep] at h1
    obtain ⟨cv,hg,h1⟩:=h1
    have h3:=RepL.append h1 h2
    have hnod:(f1 ++ f2).Nodup:=hf ▸ hR.nod .bag
    have hnod2:(f2 ++ f1).Nodup:=(List.perm_append_comm.nodup_iff).1 hnod
    have hmem:∀ x,x ∈ f2 ++ f1 → x ∈ fp .bag:=fun x hx=>by rw [hf];simp at hx ⊢;exact hx.symm
    obtain ⟨h,k1,k2,k3,k4⟩:=h3.slots hnod2
    let fc:Root → List Nat:=fun r=>match r with
      | .slot t=>h t
      | .cell b i=>fp (.cell b i)
      | .blk b=>fp (.blk b)
      | .bag=>[]
    have hfc:∀ r x,x ∈ fc r → ∃ r',x ∈ fp r' ∧ ∀ t,r' ≠ .slot t:=by
      intro r x hx
      cases r with
      | slot t=>exact ⟨.bag,hmem x (k2 t x hx),by simp⟩
      | cell b i=>exact ⟨_,hx,by simp⟩
      | blk b=>exact ⟨_,hx,by simp⟩
      | bag=>cases hx
    have him:∀ x,Im B w fp x → Im ⟨w,fun x=>∃ r,x ∈ fc r,Im B w fp,μ,N⟩ w fc x:=fun x hx=>⟨hx.1,.inl (.inl hx),fun r hr=>by obtain ⟨r',h',_⟩:=hfc r x hr;exact hx.2.2 r' h'⟩
    have hb:=hR.bB
    simp only [bndL,bnd] at hb
    have hRc:R ⟨w,fun x=>∃ r,x ∈ fc r,Im B w fp,μ,N⟩ (args ++ caps).length ⟨Qy (args ++ caps),H⟩ [] [] ⟨(xs.toList.map a.eval ++ cv).toArray,[]⟩ w μ fc N:=by
      refine ⟨by have:=h3.length;simpa using this,rfl,Frm.refl _ _,?_,?_,?_,?_,?_,?_,?_,?_,?_,by simp [bndL],hR.bH,⟨Nat.le_refl _,fun _ _=>rfl⟩⟩
      · intro x hx
        exact ⟨hx.1,fun ⟨r,hr⟩=>by obtain ⟨r',h',_⟩:=hfc r x hr;exact hx.2.2 r' h'⟩
      · intro r x hx
        obtain ⟨r',h',_⟩:=hfc r x hx
        exact ⟨.inl ⟨r,hx⟩,(hR.own r' x h').2⟩
      · intro r
        cases r with
        | slot t=>exact k3 t
        | cell b i=>exact hR.nod _
        | blk b=>exact hR.nod _
        | bag=>exact .nil
      · intro r r' x hx hy
        cases r <;> cases r'
        case slot.slot t t'=>rw [k4 t t' x hx hy]
        case slot.cell t b i=>have:=hR.dis _ _ x (hmem x (k2 t x hx)) hy;cases this
        case slot.blk t b=>have:=hR.dis _ _ x (hmem x (k2 t x hx)) hy;cases this
        case cell.slot b i t=>have:=hR.dis _ _ x (hmem x (k2 t x hy)) hx;cases this
        case blk.slot b t=>have:=hR.dis _ _ x (hmem x (k2 t x hy)) hx;cases this
        case slot.bag=>cases hy
        case cell.bag=>cases hy
        case blk.bag=>cases hy
        case bag.slot=>cases hx
        case bag.cell=>cases hx
        case bag.blk=>cases hx
        case bag.bag=>rfl
        all_goals exact hR.dis _ _ x hx hy
      · intro t
        have:=k1 t
        refine Rep.mono (fun x hx=>⟨him x hx,rfl⟩) (fun _ _=>rfl) ?_
        rw [show (⟨(xs.toList.map a.eval ++ cv).toArray,[]⟩:Act).tmps.getD t undef = (xs.toList.map a.eval ++ cv).getD t undef by simp [List.getD_eq_getElem?_getD]]
        exact this
      · simp [RepL,fc]
      · intro b cs hcs
        rcases hR.hp b cs hcs with q | ⟨cells,q1,q2,q3,q4,q5⟩ | q
        rotate_left 2
        · exact .inr (.inr q)
        · exact .inl q
        · refine .inr (.inl ⟨cells,q1,q2,q3,fun i d hd=>?_,q5⟩)
          obtain ⟨u,hu,hr⟩:=q4 i d hd
          exact ⟨u,hu,Rep.mono (fun x hx=>⟨him x hx,rfl⟩) (fun _ _=>rfl) hr⟩
      · intro b hb';exact hR.hn b hb'
      · intro t
        show bnd N ((args ++ caps).getD t .any)
        rw [List.getD_eq_getElem?_getD]
        cases hd:(args ++ caps)[t]? with
        | none=>simp [bnd]
        | some d =>
          rcases List.mem_append.1 (List.mem_of_getElem? hd) with hm | hm
          · exact Qi.1 hb.2 d hm
          · exact Qi.1 hb.1 d hm
    unfold Oper.wp
    rw [enter hc (μ:=μ) (I:=fun _=>True) hg]
    simp only [Oper.upon]
    refine (hS w _ _ μ fc N hRc).mono fun e w' ⟨u,μ',fp',N',he,hR'⟩=>?_
    subst he
    have hnK:∀ t x,x ∈ fp (.slot t) → ¬ ∃ r,x ∈ fc r:=fun t x hx ⟨r,hr⟩=>by
      obtain ⟨r',h',hn⟩:=hfc r x hr
      exact hn t (hR.dis _ _ x h' hx)
    have hlt:∀ t x,x ∈ fp (.slot t) → x < w.heap.size:=fun t x hx=>(hR.own _ x hx).2
    have hslot:∀ t x,x ∈ fp (.slot t) → w'.heap[x]? = w.heap[x]?:=fun t x hx=>hR'.frm.same x (hlt t x hx) (hnK t x hx)
    have hout:∀ t x r,x ∈ fp (.slot t) → x ∉ fp' r:=fun t x r hx hr=>by
      rcases (hR'.own r x hr).1 with k | k
      · exact hnK t x hx k
      · have h1:=hlt t x hx
        dsimp only at k
        omega
    have hsz:=hR'.frm.size
    dsimp only at hsz
    let fn:Root → List Nat:=fun r=>match r with
      | .slot t=>fp (.slot t)
      | .cell b i=>fp' (.cell b i)
      | .blk b=>fp' (.blk b)
      | .bag=>fp' (.slot 0)
    have hfn:∀ r x,x ∈ fn r → (∃ t,r = .slot t ∧ x ∈ fp (.slot t)) ∨ ∃ r',x ∈ fp' r' ∧ ((r' = r ∧ ∀ t,r ≠ .slot t) ∨ (r = .bag ∧ r' = .slot 0)):=by
      intro r x hx
      cases r with
      | slot t=>exact .inl ⟨t,rfl,hx⟩
      | cell b i=>exact .inr ⟨_,hx,.inl ⟨rfl,by simp⟩⟩
      | blk b=>exact .inr ⟨_,hx,.inl ⟨rfl,by simp⟩⟩
      | bag=>exact .inr ⟨_,hx,.inr ⟨rfl,rfl⟩⟩
    have him1:∀ x,Im B w fp x → Im B w' fn x ∧ w'.heap[x]? = w.heap[x]?:=fun x hx=>by
      have hnk:¬ ∃ r,x ∈ fc r:=fun ⟨r,hr⟩=>by obtain ⟨r',h',_⟩:=hfc r x hr;exact hx.2.2 r' h'
      refine ⟨⟨Nat.lt_of_lt_of_le hx.1 hsz,hx.2.1,fun r hr=>?_⟩,hR'.frm.same x hx.1 hnk⟩
      rcases hfn r x hr with ⟨t,rfl,h'⟩ | ⟨r',h',_⟩
      · exact hx.2.2 _ h'
      · rcases (hR'.own r' x h').1 with k | k
        · exact hnk k
        · have:=hx.1;dsimp only at k;omega
    have hB:=hR.frm.size
    have him2:∀ x,Im ⟨w,fun x=>∃ r,x ∈ fc r,Im B w fp,μ,N⟩ w' fp' x → Im B w' fn x:=fun x hx=>by
      refine ⟨hx.1,?_,fun r hr=>?_⟩
      · rcases hx.2.1 with (k | ⟨r2,k⟩) | k
        · exact k.2.1
        · obtain ⟨r3,h3,_⟩:=hfc r2 x k
          rcases (hR.own r3 x h3).1 with q | q
          · exact .inl (.inr q)
          · exact .inr q
        · exact .inr (Nat.le_trans hB k)
      · rcases hfn r x hr with ⟨t,rfl,h'⟩ | ⟨r',h',_⟩
        · rcases hx.2.1 with (k | k) | k
          · exact k.2.2 _ h'
          · exact hnK t x h' k
          · have:=hlt t x h';dsimp only at k;omega
        · exact hx.2.2 _ h'
    refine hk c0 u w' μ' fn N' ⟨hR.len,hR.dfs,⟨hR'.frm.os.trans hR.frm.os,hR'.frm.tape.trans hR.frm.tape,hR'.frm.output.trans hR.frm.output,Nat.le_trans hB hsz,fun b hb' hk'=>?_⟩,hR.jk,?_,?_,?_,?_,?_,?_,?_,?_,?_,hR'.bH,?_⟩
    · have hnk:¬ ∃ r,b ∈ fc r:=fun ⟨r,hr⟩=>by
        obtain ⟨r',h',_⟩:=hfc r b hr
        rcases (hR.own r' b h').1 with k | k
        · exact hk' k
        · omega
      exact (hR'.frm.same b (by show b < w.heap.size;omega) hnk).trans (hR.frm.same b hb' hk')
    · intro r x hx
      rcases hfn r x hx with ⟨t,rfl,h'⟩ | ⟨r',h',_⟩
      · have:=hR.own _ x h';exact ⟨this.1,Nat.lt_of_lt_of_le this.2 hsz⟩
      · have:=hR'.own r' x h'
        refine ⟨?_,this.2⟩
        rcases this.1 with ⟨r2,k⟩ | k
        · obtain ⟨r3,h3,_⟩:=hfc r2 x k
          exact (hR.own r3 x h3).1
        · exact .inr (Nat.le_trans hB k)
    · intro r
      cases r with
      | slot t=>exact hR.nod _
      | cell b i=>exact hR'.nod _
      | blk b=>exact hR'.nod _
      | bag=>exact hR'.nod _
    · intro r r' x hx hy
      rcases hfn r x hx with ⟨t,rfl,h'⟩ | ⟨r1,h1',e1⟩ <;> rcases hfn r' x hy with ⟨t',rfl,h2'⟩ | ⟨r2,h2',e2⟩
      · exact hR.dis _ _ x h' h2'
      · exact (hout t x r2 h' h2').elim
      · exact (hout t' x r1 h2' h1').elim
      · have e:=hR'.dis r1 r2 x h1' h2'
        rcases e1 with ⟨rfl,n1⟩ | ⟨rfl,rfl⟩ <;> rcases e2 with ⟨rfl,n2⟩ | ⟨rfl,rfl⟩
        · exact e
        · exact (n1 0 e).elim
        · exact (n2 0 e.symm).elim
        · rfl
    · intro t
      refine Rep.ren (N:=N) (fun b hb'=>hR'.rn.2 b hb') (hR.bT t) ?_
      exact Rep.mono him1 (fun x hx=>hslot t x hx) (hR.tm t)
    · simp only [RepL]
      refine ⟨u,[],fp' (.slot 0),[],rfl,by simp [fn],?_,rfl,rfl⟩
      have:=hR'.tm 0
      exact Rep.mono (fun x hx=>⟨him2 x hx,rfl⟩) (fun _ _=>rfl) this
    · intro b cs hcs
      rcases hR'.hp b cs hcs with q | ⟨cells,q1,q2,q3,q4,q5⟩ | q
      rotate_left 2
      · exact .inr (.inr q)
      · exact .inl q
      · refine .inr (.inl ⟨cells,q1,q2,q3,fun i d hd=>?_,q5⟩)
        obtain ⟨y,hy,hr⟩:=q4 i d hd
        exact ⟨y,hy,Rep.mono (fun x hx=>⟨him2 x hx,rfl⟩) (fun _ _=>rfl) hr⟩
    · intro b hb';exact hR'.hn b hb'
    · intro t;exact bnd.mono hR'.rn.1 (hR.bT t)
    · simp only [bndL]
      have:=hR'.bT 0
      exact ⟨this,trivial⟩
    · exact ⟨Nat.le_trans hR.rn.1 hR'.rn.1,fun b hb'=>(hR'.rn.2 b (Nat.lt_of_lt_of_le hb' hR.rn.1)).trans (hR.rn.2 b hb')⟩
  | rel F =>
    rw [show (fun ch=>Xa Γ ch (.fn f caps :: args) H) = fun ch=>⟨(F (args ++ caps) H).1,((F (args ++ caps) H).2 ch).1,((F (args ++ caps) H).2 ch).2,none⟩ from funext fun ch=>by unfold Xa;simp only [hF]]
    rw [hF] at hcall
    obtain ⟨hc,hcon⟩:=hcall
    intro c0 B n T a w μ fp N avals hR hav hpre next Q hk
    rw [hx,List.map_cons] at hav;subst hav
    dsimp only at hpre
    have hS:=hcon _ _ hpre
    have hbg:=hR.bg
    simp only [RepL] at hbg
    obtain ⟨v,vs',f1,f2,he,hf,h1,h2⟩:=hbg
    cases he
    simp only [Rep] at h1
    obtain ⟨cv,hg,h1⟩:=h1
    have h3:=RepL.append h1 h2
    have hnod:(f1 ++ f2).Nodup:=hf ▸ hR.nod .bag
    have hnod2:(f2 ++ f1).Nodup:=(List.perm_append_comm.nodup_iff).1 hnod
    have hmem:∀ x,x ∈ f2 ++ f1 → x ∈ fp .bag:=fun x hx=>by rw [hf];simp at hx ⊢;exact hx.symm
    obtain ⟨h,k1,k2,k3,k4⟩:=h3.slots hnod2
    let fc:Root → List Nat:=fun r=>match r with
      | .slot t=>h t
      | .cell b i=>fp (.cell b i)
      | .blk b=>fp (.blk b)
      | .bag=>[]
    have hfc:∀ r x,x ∈ fc r → ∃ r',x ∈ fp r' ∧ ∀ t,r' ≠ .slot t:=by
      intro r x hx
      cases r with
      | slot t=>exact ⟨.bag,hmem x (k2 t x hx),by simp⟩
      | cell b i=>exact ⟨_,hx,by simp⟩
      | blk b=>exact ⟨_,hx,by simp⟩
      | bag=>cases hx
    have him:∀ x,Im B w fp x → Im ⟨w,fun x=>∃ r,x ∈ fc r,Im B w fp,μ,N⟩ w fc x:=fun x hx=>⟨hx.1,.inl (.inl hx),fun r hr=>by obtain ⟨r',h',_⟩:=hfc r x hr;exact hx.2.2 r' h'⟩
    have hb:=hR.bB
    simp only [bndL,bnd] at hb
    have hRc:R ⟨w,fun x=>∃ r,x ∈ fc r,Im B w fp,μ,N⟩ (args ++ caps).length ⟨Qy (args ++ caps),H⟩ [] [] ⟨(xs.toList.map a.eval ++ cv).toArray,[]⟩ w μ fc N:=by
      refine ⟨by have:=h3.length;simpa using this,rfl,Frm.refl _ _,?_,?_,?_,?_,?_,?_,?_,?_,?_,by simp [bndL],hR.bH,⟨Nat.le_refl _,fun _ _=>rfl⟩⟩
      · intro x hx
        exact ⟨hx.1,fun ⟨r,hr⟩=>by obtain ⟨r',h',_⟩:=hfc r x hr;exact hx.2.2 r' h'⟩
      · intro r x hx
        obtain ⟨r',h',_⟩:=hfc r x hx
        exact ⟨.inl ⟨r,hx⟩,(hR.own r' x h').2⟩
      · intro r
        cases r with
        | slot t=>exact k3 t
        | cell b i=>exact hR.nod _
        | blk b=>exact hR.nod _
        | bag=>exact .nil
      · intro r r' x hx hy
        cases r <;> cases r'
        case slot.slot t t'=>rw [k4 t t' x hx hy]
        case slot.cell t b i=>have:=hR.dis _ _ x (hmem x (k2 t x hx)) hy;cases this
        case slot.blk t b=>have:=hR.dis _ _ x (hmem x (k2 t x hx)) hy;cases this
        case cell.slot b i t=>have:=hR.dis _ _ x (hmem x (k2 t x hy)) hx;cases this
        case blk.slot b t=>have:=hR.dis _ _ x (hmem x (k2 t x hy)) hx;cases this
        case slot.bag=>cases hy
        case cell.bag=>cases hy
        case blk.bag=>cases hy
        case bag.slot=>cases hx
        case bag.cell=>cases hx
        case bag.blk=>cases hx
        case bag.bag=>rfl
        all_goals exact hR.dis _ _ x hx hy
      · intro t
        have:=k1 t
        refine Rep.mono (fun x hx=>⟨him x hx,rfl⟩) (fun _ _=>rfl) ?_
        rw [show (⟨(xs.toList.map a.eval ++ cv).toArray,[]⟩:Act).tmps.getD t undef = (xs.toList.map a.eval ++ cv).getD t undef by simp [List.getD_eq_getElem?_getD]]
        exact this
      · simp [RepL,fc]
      · intro b cs hcs
        rcases hR.hp b cs hcs with q | ⟨cells,q1,q2,q3,q4,q5⟩ | q
        rotate_left 2
        · exact .inr (.inr q)
        · exact .inl q
        · refine .inr (.inl ⟨cells,q1,q2,q3,fun i d hd=>?_,q5⟩)
          obtain ⟨u,hu,hr⟩:=q4 i d hd
          exact ⟨u,hu,Rep.mono (fun x hx=>⟨him x hx,rfl⟩) (fun _ _=>rfl) hr⟩
      · intro b hb';exact hR.hn b hb'
      · intro t
        show bnd N ((args ++ caps).getD t .any)
        rw [List.getD_eq_getElem?_getD]
        cases hd:(args ++ caps)[t]? with
        | none=>simp [bnd]
        | some d =>
          rcases List.mem_append.1 (List.mem_of_getElem? hd) with hm | hm
          · exact Qi.1 hb.2 d hm
          · exact Qi.1 hb.1 d hm
    unfold Oper.wp
    rw [enter hc (μ:=μ) (I:=fun _=>True) hg]
    simp only [Oper.upon]
    refine (hS w _ _ μ fc N hRc).mono fun e w' ⟨ch,u,μ',fp',N',he,hR'⟩=>?_
    subst he
    have hnK:∀ t x,x ∈ fp (.slot t) → ¬ ∃ r,x ∈ fc r:=fun t x hx ⟨r,hr⟩=>by
      obtain ⟨r',h',hn⟩:=hfc r x hr
      exact hn t (hR.dis _ _ x h' hx)
    have hlt:∀ t x,x ∈ fp (.slot t) → x < w.heap.size:=fun t x hx=>(hR.own _ x hx).2
    have hslot:∀ t x,x ∈ fp (.slot t) → w'.heap[x]? = w.heap[x]?:=fun t x hx=>hR'.frm.same x (hlt t x hx) (hnK t x hx)
    have hout:∀ t x r,x ∈ fp (.slot t) → x ∉ fp' r:=fun t x r hx hr=>by
      rcases (hR'.own r x hr).1 with k | k
      · exact hnK t x hx k
      · have h1:=hlt t x hx
        dsimp only at k
        omega
    have hsz:=hR'.frm.size
    dsimp only at hsz
    let fn:Root → List Nat:=fun r=>match r with
      | .slot t=>fp (.slot t)
      | .cell b i=>fp' (.cell b i)
      | .blk b=>fp' (.blk b)
      | .bag=>fp' (.slot 0)
    have hfn:∀ r x,x ∈ fn r → (∃ t,r = .slot t ∧ x ∈ fp (.slot t)) ∨ ∃ r',x ∈ fp' r' ∧ ((r' = r ∧ ∀ t,r ≠ .slot t) ∨ (r = .bag ∧ r' = .slot 0)):=by
      intro r x hx
      cases r with
      | slot t=>exact .inl ⟨t,rfl,hx⟩
      | cell b i=>exact .inr ⟨_,hx,.inl ⟨rfl,by simp⟩⟩
      | blk b=>exact .inr ⟨_,hx,.inl ⟨rfl,by simp⟩⟩
      | bag=>exact .inr ⟨_,hx,.inr ⟨rfl,rfl⟩⟩
    have him1:∀ x,Im B w fp x → Im B w' fn x ∧ w'.heap[x]? = w.heap[x]?:=fun x hx=>by
      have hnk:¬ ∃ r,x ∈ fc r:=fun ⟨r,hr⟩=>by obtain ⟨r',h',_⟩:=hfc r x hr;exact hx.2.2 r' h'
      refine ⟨⟨Nat.lt_of_lt_of_le hx.1 hsz,hx.2.1,fun r hr=>?_⟩,hR'.frm.same x hx.1 hnk⟩
      rcases hfn r x hr with ⟨t,rfl,h'⟩ | ⟨r',h',_⟩
      · exact hx.2.2 _ h'
      · rcases (hR'.own r' x h').1 with k | k
        · exact hnk k
        · have:=hx.1;dsimp only at k;omega
    have hB:=hR.frm.size
    have him2:∀ x,Im ⟨w,fun x=>∃ r,x ∈ fc r,Im B w fp,μ,N⟩ w' fp' x → Im B w' fn x:=fun x hx=>by
      refine ⟨hx.1,?_,fun r hr=>?_⟩
      · rcases hx.2.1 with (k | ⟨r2,k⟩) | k
        · exact k.2.1
        · obtain ⟨r3,h3,_⟩:=hfc r2 x k
          rcases (hR.own r3 x h3).1 with q | q
          · exact .inl (.inr q)
          · exact .inr q
        · exact .inr (Nat.le_trans hB k)
      · rcases hfn r x hr with ⟨t,rfl,h'⟩ | ⟨r',h',_⟩
        · rcases hx.2.1 with (k | k) | k
          · exact k.2.2 _ h'
          · exact hnK t x h' k
          · have:=hlt t x h';dsimp only at k;omega
        · exact hx.2.2 _ h'
    refine hk ch u w' μ' fn N' ⟨hR.len,hR.dfs,⟨hR'.frm.os.trans hR.frm.os,hR'.frm.tape.trans hR.frm.tape,hR'.frm.output.trans hR.frm.output,Nat.le_trans hB hsz,fun b hb' hk'=>?_⟩,hR.jk,?_,?_,?_,?_,?_,?_,?_,?_,?_,hR'.bH,?_⟩
    · have hnk:¬ ∃ r,b ∈ fc r:=fun ⟨r,hr⟩=>by
        obtain ⟨r',h',_⟩:=hfc r b hr
        rcases (hR.own r' b h').1 with k | k
        · exact hk' k
        · omega
      exact (hR'.frm.same b (by show b < w.heap.size;omega) hnk).trans (hR.frm.same b hb' hk')
    · intro r x hx
      rcases hfn r x hx with ⟨t,rfl,h'⟩ | ⟨r',h',_⟩
      · have:=hR.own _ x h';exact ⟨this.1,Nat.lt_of_lt_of_le this.2 hsz⟩
      · have:=hR'.own r' x h'
        refine ⟨?_,this.2⟩
        rcases this.1 with ⟨r2,k⟩ | k
        · obtain ⟨r3,h3,_⟩:=hfc r2 x k
          exact (hR.own r3 x h3).1
        · exact .inr (Nat.le_trans hB k)
    · intro r
      cases r with
      | slot t=>exact hR.nod _
      | cell b i=>exact hR'.nod _
      | blk b=>exact hR'.nod _
      | bag=>exact hR'.nod _
    · intro r r' x hx hy
      rcases hfn r x hx with ⟨t,rfl,h'⟩ | ⟨r1,h1',e1⟩ <;> rcases hfn r' x hy with ⟨t',rfl,h2'⟩ | ⟨r2,h2',e2⟩
      · exact hR.dis _ _ x h' h2'
      · exact (hout t x r2 h' h2').elim
      · exact (hout t' x r1 h2' h1').elim
      · have e:=hR'.dis r1 r2 x h1' h2'
        rcases e1 with ⟨rfl,n1⟩ | ⟨rfl,rfl⟩ <;> rcases e2 with ⟨rfl,n2⟩ | ⟨rfl,rfl⟩
        · exact e
        · exact (n1 0 e).elim
        · exact (n2 0 e.symm).elim
        · rfl
    · intro t
      refine Rep.ren (N:=N) (fun b hb'=>hR'.rn.2 b hb') (hR.bT t) ?_
      exact Rep.mono him1 (fun x hx=>hslot t x hx) (hR.tm t)
    · simp only [RepL]
      refine ⟨u,[],fp' (.slot 0),[],rfl,by simp [fn],?_,rfl,rfl⟩
      have:=hR'.tm 0
      exact Rep.mono (fun x hx=>⟨him2 x hx,rfl⟩) (fun _ _=>rfl) this
    · intro b cs hcs
      rcases hR'.hp b cs hcs with q | ⟨cells,q1,q2,q3,q4,q5⟩ | q
      rotate_left 2
      · exact .inr (.inr q)
      · exact .inl q
      · refine .inr (.inl ⟨cells,q1,q2,q3,fun i d hd=>?_,q5⟩)
        obtain ⟨y,hy,hr⟩:=q4 i d hd
        exact ⟨y,hy,Rep.mono (fun x hx=>⟨him2 x hx,rfl⟩) (fun _ _=>rfl) hr⟩
    · intro b hb';exact hR'.hn b hb'
    · intro t;exact bnd.mono hR'.rn.1 (hR.bT t)
    · simp only [bndL]
      have:=hR'.bT 0
      exact ⟨this,trivial⟩
    · exact ⟨Nat.le_trans hR.rn.1 hR'.rn.1,fun b hb'=>(hR'.rn.2 b (Nat.lt_of_lt_of_le hb' hR.rn.1)).trans (hR.rn.2 b hb')⟩
def opCap (vs:List D) (H:Hp):Res :=
  match vs with
  | [.nil]=>⟨True,.int .i64 0,H,none⟩
  | [.sl _ _ _ _ c]=>⟨True,.int .i64 c,H,none⟩
  | _=>bad H
variable (P) in
def opCapT (t:Nat) (vs:List D) (H:Hp):Res :=
  match P.underlying t with
  | some (.slice _)=>opCap vs H
  | _=>bad H
theorem sound_capT {o:Oper} {vals:List D} {H:Hp} (x:Operand) (t:TypeId) (ho:o.op = .call { callee:=.builtin .cap,args:=#[x],argTypes:=#[t] }):Sound P o vals H (opCapT P t vals H):=by
  have hx:o.op.operands.toList = [x]:=by rw [ho];rfl
  have key:∀ (d':D) (n:Nat) (e:TypeId),P.underlying t = some (.slice e) → (∀ μ I w v f,Rep μ I w d' v f → ∃ A m,v = .slice A m n) → Sound P o [d'] H ⟨True,.int .i64 n,H,none⟩:=by
    intro d' n e hd hv
    refine .of rfl rfl fun μ I w a f N avals hr hav hn hb hp=>?_
    obtain rfl:=Xr hx hav
    obtain ⟨A,c,hv⟩:=hv μ I w _ f hr.one
    refine ⟨.int .i64 n,[],?_,by simp [Rep],.nil,by simp,by simp [bnd]⟩
    simp [execOp,ho,resolve,invoke,builtin,Builtin.cap_,run_underlying hd,hv,goInt]
  unfold opCapT
  split
  · rename_i e hd
    unfold opCap
    split
    · refine key _ 0 e hd fun μ I w v f h=>?_
      simp only [Rep] at h
      obtain ⟨_,A,hv⟩:=h
      exact ⟨A,0,hv⟩
    · refine key _ _ e hd fun μ I w v f h=>?_
      simp only [Rep] at h
      obtain ⟨_,_,_,⟨A,hv⟩,_⟩:=h
      exact ⟨A,_,hv⟩
    · exact .bad P o _ H
  · exact .bad P o _ H
variable (P) in
def opAppZ (t tx:Nat) (n:Int) (H:Hp):Res :=
  match τ P t,P.underlying tx with
  | some ⟨_,_,_,_,.slice e⟩,some (.int _) =>
    match τ P e with
    | some te=>⟨te.zero ≠ [] ∧ te.zero.all leaf = true ∧ te.zero.length = te.size ∧ 0 < te.size ∧ 1 ≤ n ∧ n ≤ 9223372036854775807 ∧ n.toNat * te.bytes ≤ 281474976710656,.fr te.size n.toNat (makeD te.zero (n.toNat * te.size)),H,none⟩
    | none=>bad H
  | _,_=>bad H
theorem zago (size:Nat) (A:Option Addr) (w:World):(Builtin.firstCells size 0 (.slice A 0 0)).run P w = .ok #[] w:=by
  cases A <;> simp [Builtin.firstCells,loadCells,loadCellsFrom]
theorem sound_appZ {o:Oper} {H:Hp} (t tx:TypeId) (x y:Operand) (k:IntKind) (n:Int) (ho:o.op = .call { callee:=.builtin .append,args:=#[x,y],argTypes:=#[t,tx] }):Sound P o [.nil,.int k n] H (opAppZ P t tx n H):=by
  have hx:o.op.operands.toList = [x,y]:=by rw [ho];rfl
  unfold opAppZ
  split
  case h_2=>exact .bad P o _ H
  rename_i e kn ht htx
  split
  case h_2=>exact .bad P o _ H
  rename_i te he
  refine .ofNew rfl rfl fun μ I w a f N avals hr hav hn hb hpre hI hf=>?_
  rw [hx] at hav;subst hav
  obtain ⟨f1,f2,rfl,r1,r2⟩:=RepL.two hr
  simp only [Rep] at r1 r2
  obtain ⟨_,A,hv⟩:=r1
  obtain ⟨hz,hall,hzl,p0,p1,p2,p3⟩:=hpre
  obtain ⟨z,h1,⟨i,hi,hzi,h4,h5⟩,h2⟩:=zace he hz
  obtain ⟨_,_,_,_,hu,_⟩:=τ_spec ht
  obtain ⟨m,rfl⟩:∃ m:Nat,n = m:=⟨n.toNat,by omega⟩
  simp only [Int.toNat_natCast] at p3 ⊢
  have hm0:0 < m:=by omega
  have hzc:z.cells.size = te.size:=by have:=congrArg List.length h2;simp at this;omega
  have hrun:(Builtin.append_ #[t,tx] o.type #[.slice A 0 0,.int k m]).run P w =
      .ok (.slice (some ⟨w.heap.size,0,none⟩) m (grownCap w m 0 e)) (w.drew.alloc (.cells (Builtin.zeroCells z.cells m ++ Builtin.zeroCells z.cells (grownCap w m 0 e - m)) e)):=by
    have hn:m ≠ 0:=by omega
    have hw:IntKind.i64.wrap (m:Int) = m:=by rw [IntKind.wrap_i64];omega
    have h63':¬ (9223372036854775807 < (m:Int)):=by omega
    have h48':¬ (281474976710656 < Builtin.nextslicecap m 0 * i.bytes):=by rw [nextslicecap_zero hm0,h5];omega
    have h48i:¬ (281474976710656 < (m:Int) * (i.bytes:Int)):=by
      rw [← Int.natCast_mul,h5]
      omega
    have hneg:¬ ((m:Int) < 0):=by omega
    have hns:¬ (m * i.size = 0):=Nat.mul_ne_zero hn (by rw [h4];omega)
    simp [Builtin.append_,run_underlying hu,run_underlying htx,sizeOf,typeInfo,zeroValue,hi,hzi,asInt,asIntOf,hw,hn,hneg,hns,h63',h48',h48i,Question.forced,zago,newRow,grownCap]
  have hmc:∀ q,Builtin.zeroCells z.cells q = madeCells z.cells (q * te.size):=fun q=>by unfold Builtin.zeroCells madeCells;rw [hzc]
  have hge:=zahk w m 0 e
  refine ⟨_,_,[w.heap.size],by simp [execOp,ho,resolve,invoke,builtin,hv,r2.2,hrun];exact ⟨rfl,rfl⟩,Frm.trans0 (Frm.drew w) (Frm.alloc _ _),?_,by simp,by simp,?_⟩
  · have hsz:w.drew.heap.size = w.heap.size:=rfl
    have:=fr_new (μ:=μ) (I:=fun x=>I x ∨ (w.heap.size ≤ x ∧ x < (w.drew.alloc (.cells (Builtin.zeroCells z.cells m ++ Builtin.zeroCells z.cells (grownCap w m 0 e - m)) e)).heap.size ∧ x ∉ [w.heap.size])) (w:=w.drew) (sz:=te.size) (n:=m) (c:=grownCap w m 0 e) (ds:=makeD te.zero (m * te.size)) (cells:=Builtin.zeroCells z.cells m ++ Builtin.zeroCells z.cells (grownCap w m 0 e - m)) (f:=[]) e (by unfold maxLen;omega) (Jx _ _) hge (by simp [hmc,size_madeCells];rw [← Nat.add_mul];exact Nat.mul_le_mul_right _ (by omega))
      (by intro v hv;simp only [Array.toList_append,List.mem_append,hmc] at hv;rcases hv with hv | hv <;> exact made_one h2 hz hall _ v hv)
      (by
        rw [Jx,Array.toList_append,List.take_append_of_le_length (by simp [hmc,size_madeCells]),List.take_of_length_le (by simp [hmc,size_madeCells]),hmc]
        exact made_rep h2 hz _)
    rw [hsz] at this
    exact this
  · simp only [bnd];exact zagg (by rw [h2];exact zabo _ _) _
end

section
variable (P:Program) (Γ:FuncId → Con)
def opLenT (t:Nat) (vs:List D) (H:Hp):Res :=
  match P.underlying t with
  | some .string=>match vs with
    | [.str s]=>opLen [.str s] H
    | _=>bad H
  | some (.slice _)=>match vs with
    | [.str _]=>bad H
    | vs=>opLen vs H
  | _=>bad H
def zadq (t:Nat) (vs:List D) (H:Hp):Res :=
  match P.underlying t with
  | some .string=>zafl vs H
  | _=>bad H
def zacg (dr:Bool) (t tx:Nat) (vs:List D) (H:Hp):Res :=
  match dr,vs with
  | true,.sl .. :: _=>bad H
  | false,[.nil,.int _ n]=>opAppZ P t tx n H
  | _,vs=>zacq P t tx vs H
def opCopy (t tx:Nat) (vs:List D) (H:Hp):Res :=
  match τ P t,vs with
  | some ⟨_,_,_,_,.slice e⟩,[.sl b _ o n _,s] =>
    match τ P e,H b,srcD H 1 s with
    | some te,some cs,some (k,ys)=>⟨te.size = 1 ∧ (∃ e',P.underlying tx = some (.slice e')) ∧ owns s = false ∧ isStr s = false ∧ ys.length = k ∧ ownsL ys = false ∧ o + min k n ≤ cs.length,
        .int .i64 (min k n:Nat),upd H b (some (stSeg cs o (ys.take (min k n)))),none⟩
    | _,_,_=>bad H
  | _,_=>bad H
def opMin (vs:List D) (H:Hp):Res :=
  match vs with
  | [.int k x,.int k' y]=>⟨k = k',.int k (min x y),H,none⟩
  | _=>bad H
theorem sound_min {o:Oper} {vals:List D} {H:Hp} (x y:Operand) (t t':TypeId) (ho:o.op = .call { callee:=.builtin .min,args:=#[x,y],argTypes:=#[t,t'] }):Sound P o vals H (opMin vals H):=by
  have hx:o.op.operands.toList = [x,y]:=by rw [ho];rfl
  unfold opMin
  split
  · refine .of rfl rfl fun μ I w a f N avals hr hav hn hb hp=>?_
    rw [hx] at hav;subst hav
    obtain ⟨f1,f2,rfl,h1,h2⟩:=RepL.two hr
    simp only [Rep] at h1 h2
    refine ⟨_,[],?_,by simp only [Rep];exact ⟨trivial,rfl⟩,.nil,by simp,by simp [bnd]⟩
    simp [execOp,ho,resolve,invoke,builtin,h1.2,h2.2,Lib.run_min_ints]
  · exact .bad P o _ H
def toI:D → Int
  | .int _ n=>n
  | _=>0
def deM:D → List Int × Int
  | .tup (.int _ v :: ks)=>(ks.map toI,v)
  | _=>([],0)
def mpE (cs:List D):List (List Int × Int):=cs.tail.map deM
theorem deM_cM (e:List Int × Int):deM (cM e) = e:=by
  simp only [cM,deM,List.map_map]
  have:(toI ∘ D.int IntKind.i64) = id:=funext fun _=>rfl
  rw [this,List.map_id]
theorem mpE_mp (es:List (List Int × Int)):mpE (mp es) = es:=by
  simp only [mpE,mp,List.tail_cons,List.map_map]
  have:(deM ∘ cM) = id:=funext fun e=>deM_cM e
  rw [this,List.map_id]
def IsMp (cs:List D):Prop:=cs = mp (mpE cs)
theorem isMp_mp (es:List (List Int × Int)):IsMp (mp es) = True:=by simp [IsMp,mpE_mp]
def findE (k:Int):List (List Int × Int) → Option Int
  | []=>none
  | e :: es=>if e.1 = [k] then some e.2 else findE k es
def putE (k v:Int):List (List Int × Int) → List (List Int × Int)
  | []=>[([k],v)]
  | e :: es=>if e.1 = [k] then ([k],v) :: es else e :: putE k v es
def mapII (t:TypeId):Prop:=∃ k e i,P.underlying t = some (.map k e) ∧ P.underlying k = some (.int .i64) ∧ P.info? e = some i ∧ i.zero = some (.int .i64 0)
def TriTy (t:TypeId):Prop:=(∃ fs,P.underlying t = some (.struct fs)) ∧ (∀ (em:Bool) (a b c:Int) (w:World),(Instr.checkKey em 10000 t (.agg #[.int .i64 a,.int .i64 b,.int .i64 c])).run P w = .ok () w) ∧ ∀ (a b c a' b' c':Int) (w:World),(Op.equal t (.agg #[.int .i64 a,.int .i64 b,.int .i64 c]) (.agg #[.int .i64 a',.int .i64 b',.int .i64 c'])).run P w = .ok (decide ([a,b,c] = [a',b',c'])) w
def mapTI (t:TypeId):Prop:=∃ k e i,P.underlying t = some (.map k e) ∧ TriTy P k ∧ P.info? e = some i ∧ i.zero = some (.int .i64 0)
def TriKey (es:List (List Int × Int)):Prop:=∀ e ∈ es,e.1.length = 3
def findT (ks:List Int):List (List Int × Int) → Option Int
  | []=>none
  | e :: es=>if e.1 = ks then some e.2 else findT ks es
def putT (ks:List Int) (v:Int):List (List Int × Int) → List (List Int × Int)
  | []=>[(ks,v)]
  | e :: es=>if e.1 = ks then (ks,v) :: es else e :: putT ks v es
theorem rep_st3 {μ:Nat → Nat} {I:Nat → Prop} {w:World} {a b c:Int} {v:Value} {f:List Nat} (h:Rep μ I w (.st [.int .i64 a,.int .i64 b,.int .i64 c]) v f):v = .agg #[.int .i64 a,.int .i64 b,.int .i64 c] ∧ f = []:=by
  simp only [Rep,RepL] at h
  obtain ⟨vs,rfl,v1,_,_,_,rfl,rfl,⟨rfl,rfl⟩,v2,_,_,_,rfl,rfl,⟨rfl,rfl⟩,v3,_,_,_,rfl,rfl,⟨rfl,rfl⟩,rfl,rfl⟩:=h
  exact ⟨rfl,rfl⟩
def OneKey (es:List (List Int × Int)):Prop:=∀ e ∈ es,e.1.length = 1
def opLookup (t:TypeId) (ok:Bool) (vs:List D) (H:Hp):Res :=
  match vs with
  | [.mr b,.int .i64 k]=>match H b with
    | some cs=>⟨IsMp cs ∧ OneKey (mpE cs) ∧ mapII P t,if ok = true then .tup [.int .i64 ((findE k (mpE cs)).getD 0),.bool (findE k (mpE cs)).isSome] else .int .i64 ((findE k (mpE cs)).getD 0),H,none⟩
    | none=>bad H
  | [.mr b,.st [.int .i64 x,.int .i64 y,.int .i64 z]]=>match H b with
    | some cs=>⟨IsMp cs ∧ TriKey (mpE cs) ∧ mapTI P t,if ok = true then .tup [.int .i64 ((findT [x,y,z] (mpE cs)).getD 0),.bool (findT [x,y,z] (mpE cs)).isSome] else .int .i64 ((findT [x,y,z] (mpE cs)).getD 0),H,none⟩
    | none=>bad H
  | _=>bad H
theorem R.mapAt {B:Base} {n:Nat} {S:St} {ds:List D} {vs:List Value} {a:Act} {w:World} {μ:Nat → Nat} {fp:Root → List Nat} {N b:Nat} {cs:List D} (h:R B n S ds vs a w μ fp N) (hc:S.H b = some cs) (hm:IsMp cs) :
    b % 2 = 1 ∧ ∃ entries clock,w.heap[μ b]? = some (.map entries clock) ∧ MapIs entries cs ∧ fp (.blk b) = [μ b] ∧ ∀ i,fp (.cell b i) = []:=by
  rcases h.hp b cs hc with ⟨rfl,_⟩ | ⟨cells,k1,k2,k3,k4,k5⟩ | k
  · simp [IsMp,mp] at hm
  · exfalso
    obtain ⟨v,hv,hr⟩:=k4 0 (.tup []) (by rw [hm];rfl)
    simp only [Rep,RepL] at hr
    obtain ⟨vs,rfl,rfl,_⟩:=hr
    obtain ⟨_,_,hone⟩:=k1
    have:=hone 0 _ hv
    simp [Value.oneCell'] at this
  · exact k
theorem findNow_es {entries:List MapEntry} {es:List (List Int × Int)} (he:entries.map (fun e=>(e.key,e.val)) = es.map fun e=>(keyV e.1,Value.int .i64 e.2)) (hk:OneKey es) (k:Int) :
    ∀ i,∃ j,Instr.findNow (.int .i64) (.int .i64 k) entries i = some ((findE k es).map fun v=>(j,Value.int .i64 v)) ∧ ((findE k es).isSome = true → i ≤ j ∧ j < i + entries.length ∧ (entries[j - i]?).map (·.key) = some (.int .i64 k)):=by
  induction entries generalizing es with
  | nil =>
    intro i
    cases es with
    | nil=>exact ⟨0,by simp [Instr.findNow,findE],by simp [findE]⟩
    | cons e es=>simp at he
  | cons x xs ih =>
    intro i
    cases es with
    | nil=>simp at he
    | cons e es =>
      simp only [List.map_cons,List.cons.injEq,Prod.mk.injEq] at he
      obtain ⟨⟨hx1,hx2⟩,he⟩:=he
      obtain ⟨ks,v⟩:=e
      have hl:=hk (ks,v) (by simp)
      obtain ⟨q,rfl⟩:∃ q,ks = [q]:=by
        cases ks with
        | nil=>simp at hl
        | cons q r=>cases r with
          | nil=>exact ⟨q,rfl⟩
          | cons _ _=>simp at hl
      simp only [keyV] at hx1
      by_cases c:k = q
      · subst c
        refine ⟨i,?_,fun _=>⟨Nat.le_refl _,by simp,by simp [hx1]⟩⟩
        simp [Instr.findNow,Instr.sameNow,hx1,hx2,findE]
      · obtain ⟨j,h1,h2⟩:=ih he (fun e he=>hk e (by simp [he])) (i + 1)
        have hq:¬ ([q]:List Int) = [k]:=by simp;omega
        refine ⟨j,?_,fun h=>?_⟩
        · simp only [Instr.findNow,Instr.sameNow,hx1,if_true,findE,hq,if_false]
          rw [show (k == q) = false by simp [c]]
          exact h1
        · simp only [findE,hq,if_false] at h
          obtain ⟨h3,h4,h5⟩:=h2 h
          refine ⟨by omega,by simp only [List.length_cons];omega,?_⟩
          rw [show j - i = (j - (i + 1)) + 1 by omega,List.getElem?_cons_succ]
          exact h5
theorem keyV3 (x y z:Int):keyV [x,y,z] = .agg #[.int .i64 x,.int .i64 y,.int .i64 z]:=rfl
theorem findAsk_es {k:TypeId} (hT:TriTy P k) {entries:List MapEntry} {es:List (List Int × Int)} (he:entries.map (fun e=>(e.key,e.val)) = es.map fun e=>(keyV e.1,Value.int .i64 e.2)) (hk:TriKey es) (x y z:Int) (w:World) :
    ∀ i,∃ j,(Instr.findAsking k (keyV [x,y,z]) entries i).run P w = .ok ((findT [x,y,z] es).map fun v=>(j,Value.int .i64 v)) w ∧ ((findT [x,y,z] es).isSome = true → i ≤ j ∧ j < i + entries.length ∧ (entries[j - i]?).map (·.key) = some (keyV [x,y,z])):=by
  induction entries generalizing es with
  | nil =>
    intro i
    cases es with
    | nil=>exact ⟨0,by simp [Instr.findAsking,findT],by simp [findT]⟩
    | cons e es=>simp at he
  | cons en xs ih =>
    intro i
    cases es with
    | nil=>simp at he
    | cons e es =>
      simp only [List.map_cons,List.cons.injEq,Prod.mk.injEq] at he
      obtain ⟨⟨hx1,hx2⟩,he⟩:=he
      obtain ⟨ks,v⟩:=e
      have hl:=hk (ks,v) (by simp)
      obtain ⟨p,q,r,rfl⟩:∃ p q r,ks = [p,q,r]:=by
        match ks,hl with
        | [p,q,r],_=>exact ⟨p,q,r,rfl⟩
      dsimp only at hx1 hx2
      have heq:=hT.2.2 x y z p q r w
      by_cases c:[x,y,z] = [p,q,r]
      · refine ⟨i,?_,fun _=>⟨Nat.le_refl _,by simp,by simp [hx1,c]⟩⟩
        rw [Instr.findAsking,Sem.run_bind,hx1,keyV3,keyV3,heq]
        simp [c,findT,hx2]
      · obtain ⟨j,h1,h2⟩:=ih he (fun e he=>hk e (by simp [he])) (i + 1)
        have hq:¬ ([p,q,r]:List Int) = [x,y,z]:=fun e=>c e.symm
        refine ⟨j,?_,fun h=>?_⟩
        · rw [Instr.findAsking,Sem.run_bind,hx1]
          rw [show (Op.equal k (keyV [x,y,z]) (keyV [p,q,r])).run P w = .ok (decide ([x,y,z] = [p,q,r])) w from heq]
          simp only [c,decide_false,Result.andThen_ok,Bool.false_eq_true,if_false]
          rw [h1]
          simp only [findT,hq,if_false]
        · simp only [findT,hq,if_false] at h
          obtain ⟨h3,h4,h5⟩:=h2 h
          refine ⟨by omega,by simp only [List.length_cons];omega,?_⟩
          rw [show j - i = (j - (i + 1)) + 1 by omega,List.getElem?_cons_succ]
          exact h5
theorem findKey_es {k:TypeId} (hT:TriTy P k) {entries:List MapEntry} {es:List (List Int × Int)} (he:entries.map (fun e=>(e.key,e.val)) = es.map fun e=>(keyV e.1,Value.int .i64 e.2)) (hk:TriKey es) (x y z:Int) (w:World) :
    ∃ j,(Instr.findKey k (.agg #[.int .i64 x,.int .i64 y,.int .i64 z]) entries).run P w = .ok ((findT [x,y,z] es).map fun v=>(j,Value.int .i64 v)) w ∧ ((findT [x,y,z] es).isSome = true → j < entries.length ∧ (entries[j]?).map (·.key) = some (.agg #[.int .i64 x,.int .i64 y,.int .i64 z])):=by
  obtain ⟨j,h1,h2⟩:=findAsk_es (P:=P) hT he hk x y z w 0
  refine ⟨j,?_,fun h=>?_⟩
  · obtain ⟨fs,hu⟩:=hT.1
    rw [Instr.findKey,Sem.run_bind,run_underlying hu,Result.andThen_ok]
    cases entries with
    | nil =>
      cases es with
      | nil=>simp [Instr.findNow,findT]
      | cons e es=>simp at he
    | cons en xs =>
      simp only [Instr.findNow,Instr.sameNow]
      exact h1
  · obtain ⟨_,h3,h4⟩:=h2 h
    rw [Nat.sub_zero] at h4
    exact ⟨by omega,h4⟩
theorem sound_lookup {o:Oper} {vals:List D} {H:Hp} (t:TypeId) (x y:Operand) (ok:Bool) (ho:o.op = .lookup t x y ok):Sound P o vals H (opLookup P t ok vals H):=by
  have hx:o.op.operands.toList = [x,y]:=by rw [ho];rfl
  unfold opLookup
  split
  · rename_i b k
    split
    · rename_i cs hc
      intro B n T a w μ fp N avals hR hav hpre next Q hk
      rw [hx] at hav;subst hav
      obtain ⟨p1,p2,kt,et,ti,p3,p4,p5,p6⟩:=hpre
      obtain ⟨f1,f2,hf,h1,h2⟩:=RepL.two hR.bg
      simp only [Rep] at h1 h2
      obtain ⟨_,es,ck,q1,⟨es2,q2,q3⟩,_⟩:=hR.mapAt hc p1
      have q4:mpE cs = es2:=by rw [q2,mpE_mp]
      rw [q4] at p2
      obtain ⟨j,r1,r2⟩:=findNow_es q3 p2 k 0
      have hz:∀ w,(zeroValue et).run P w = .ok (.int .i64 0) w:=fun w=>by simp [zeroValue,typeInfo,p5,p6]
      have hck:∀ emp,(Instr.checkKey emp 10000 kt (.int .i64 k)).run P w = .ok () w:=fun emp=>by
        have key:∀ n,(Instr.checkKey emp (n + 1) kt (.int .i64 k)).run P w = .ok () w:=fun n=>by simp [Instr.checkKey,run_underlying p4]
        exact key 9999
      have hfk:(Instr.findKey kt (.int .i64 k) es.toList).run P w = .ok ((findE k es2).map fun v=>(j,Value.int .i64 v)) w:=by
        simp [Instr.findKey,run_underlying p4,r1]
      have hgo:(getObj (μ b)).run P w = .ok (.map es ck) w:=by simp [getObj,Sem.run,q1]
      have hrun:(execOp a.eval o).run P w = .ok (.value (if ok = true then .tuple #[.int .i64 ((findE k es2).getD 0),.bool (findE k es2).isSome] else .int .i64 ((findE k es2).getD 0))) w:=by
        simp only [execOp,ho,h1.2,h2.2,Instr.lookup,Sem.run_bind,run_underlying p3,Result.andThen_ok,hgo,Sem.run_pure,hck,hfk]
        cases findE k es2 <;> cases ok <;> simp [hz]
      unfold Oper.wp
      rw [hrun]
      have hrep:Rep μ (Im B w fp) w (if ok = true then .tup [.int .i64 ((findE k es2).getD 0),.bool (findE k es2).isSome] else .int .i64 ((findE k es2).getD 0)) (if ok = true then .tuple #[.int .i64 ((findE k es2).getD 0),.bool (findE k es2).isSome] else .int .i64 ((findE k es2).getD 0)) []:=by
        cases ok
        · simp [Rep]
        · simp [Rep,RepL]
          exact ⟨_,_,⟨rfl,rfl⟩,[],[],⟨rfl,rfl⟩,⟨rfl,rfl⟩,_,_,rfl,[],[],rfl,⟨rfl,rfl⟩,rfl,rfl⟩
      obtain ⟨fp2,h4⟩:=hR.res0 hrep (by split <;> simp [bnd,bndL])
      rw [← q4] at h4
      rw [← q4]
      exact hk _ w μ fp2 N h4
    · exact .bad P o _ H
  · rename_i b kx ky kz
    split
    · rename_i cs hc
      intro B n T a w μ fp N avals hR hav hpre next Q hk
      rw [hx] at hav;subst hav
      obtain ⟨p1,p2,kt,et,ti,p3,p4,p5,p6⟩:=hpre
      obtain ⟨f1,f2,hf,h1,h2⟩:=RepL.two hR.bg
      have h2':=(rep_st3 h2).1
      simp only [Rep] at h1
      obtain ⟨_,es,ck,q1,⟨es2,q2,q3⟩,_⟩:=hR.mapAt hc p1
      have q4:mpE cs = es2:=by rw [q2,mpE_mp]
      rw [q4] at p2
      obtain ⟨j,r1,r2⟩:=findKey_es (P:=P) p4 q3 p2 kx ky kz w
      have hz:∀ w,(zeroValue et).run P w = .ok (.int .i64 0) w:=fun w=>by simp [zeroValue,typeInfo,p5,p6]
      have hck:=fun emp=>p4.2.1 emp kx ky kz w
      have hgo:(getObj (μ b)).run P w = .ok (.map es ck) w:=by simp [getObj,Sem.run,q1]
      have hrun:(execOp a.eval o).run P w = .ok (.value (if ok = true then .tuple #[.int .i64 ((findT [kx,ky,kz] es2).getD 0),.bool (findT [kx,ky,kz] es2).isSome] else .int .i64 ((findT [kx,ky,kz] es2).getD 0))) w:=by
        simp only [execOp,ho,h1.2,h2',Instr.lookup,Sem.run_bind,run_underlying p3,Result.andThen_ok,hgo,Sem.run_pure,hck,r1]
        cases findT [kx,ky,kz] es2 <;> cases ok <;> simp [hz]
      unfold Oper.wp
      rw [hrun]
      have hrep:Rep μ (Im B w fp) w (if ok = true then .tup [.int .i64 ((findT [kx,ky,kz] es2).getD 0),.bool (findT [kx,ky,kz] es2).isSome] else .int .i64 ((findT [kx,ky,kz] es2).getD 0)) (if ok = true then .tuple #[.int .i64 ((findT [kx,ky,kz] es2).getD 0),.bool (findT [kx,ky,kz] es2).isSome] else .int .i64 ((findT [kx,ky,kz] es2).getD 0)) []:=by
        cases ok
        · simp [Rep]
        · simp [Rep,RepL]
          exact ⟨_,_,⟨rfl,rfl⟩,[],[],⟨rfl,rfl⟩,⟨rfl,rfl⟩,_,_,rfl,[],[],rfl,⟨rfl,rfl⟩,rfl,rfl⟩
      obtain ⟨fp2,h4⟩:=hR.res0 hrep (by split <;> simp [bnd,bndL])
      rw [← q4] at h4
      rw [← q4]
      exact hk _ w μ fp2 N h4
    · exact .bad P o _ H
  · exact .bad P o _ H
def opUpdate (t:TypeId) (vs:List D) (H:Hp):Res :=
  match vs with
  | [.mr b,.int .i64 k,.int .i64 v]=>match H b with
    | some cs=>⟨IsMp cs ∧ OneKey (mpE cs) ∧ mapII P t,.any,upd H b (some (mp (putE k v (mpE cs)))),none⟩
    | none=>bad H
  | [.mr b,.st [.int .i64 x,.int .i64 y,.int .i64 z],.int .i64 v]=>match H b with
    | some cs=>⟨IsMp cs ∧ TriKey (mpE cs) ∧ mapTI P t,.any,upd H b (some (mp (putT [x,y,z] v (mpE cs)))),none⟩
    | none=>bad H
  | _=>bad H
def zaen (r:Option Operand) (vs:List D) (H:Hp):Res :=
  match r,vs with
  | none,[]=>⟨True,.om (mp []),H,none⟩
  | _,_=>bad H
def opLenM (t:TypeId) (vs:List D) (H:Hp):Res :=
  match vs with
  | [.mr b]=>match H b with
    | some cs=>⟨IsMp cs ∧ ∃ k e,P.underlying t = some (.map k e),.int .i64 (mpE cs).length,H,none⟩
    | none=>bad H
  | _=>opLenT P t vs H
def opLenD (dr:Bool) (t:TypeId) (vs:List D) (H:Hp):Res :=
  match dr with
  | true=>opLenT P t vs H
  | false=>opLenM P t vs H
def opMapD (dr:Bool) (H:Hp) (r:Res):Res :=
  match dr with
  | true=>bad H
  | false=>r
def Jc (ch:Any) (dr:Bool) (c:Call) (vs:List D) (H:Hp):Res :=
  match c.callee,c.args.toList,c.argTypes.toList with
  | .builtin .len,[_],[t]=>opLenD P dr t vs H
  | .builtin .append,[_,_],[t,tx]=>zacg P dr t tx vs H
  | .builtin .cap,[_],[t]=>opCapT P t vs H
  | .builtin .min,[_,_],[_,_]=>opMin vs H
  | .builtin .copy,[_,_],[t,tx]=>opCopy P t tx vs H
  | .value _,_,_=>Xa Γ ch vs H
  | _,_,_=>bad H
def zahi (dr:Bool) (t:Nat) (vs:List D) (H:Hp):Res :=
  match dr with
  | true=>Xz P t vs H
  | false=>opLoadM P t vs H
def opF (ch:Any) (dr:Bool) (o:Oper) (vs:List D) (H:Hp):Res :=
  match o.op with
  | .move _=>match vs with
    | [d]=>⟨True,d,H,none⟩
    | _=>bad H
  | .assign _=>match vs with
    | [d]=>⟨True,d,H,none⟩
    | _=>bad H
  | .pick _ _ _=>match vs with
    | [.bool b,d,e]=>⟨True,pickD b d e,H,none⟩
    | _=>bad H
  | .alloc t=>zafp P t vs H
  | .box _ _=>opBox vs H
  | .build t parts=>zafn P t (parts.toList.map (·.1)) vs H
  | .buildSlice t len parts=>zaaf P t len (parts.toList.map (·.1)) vs H
  | .load t _=>zahi P dr t vs H
  | .store t _ _=>opStore P t vs H
  | .nilCheck _=>opNil vs H
  | .binOp op t _ y _=>opBin P op t y vs H
  | .unOp op _ _=>opUn op vs H
  | .convert s t _=>zabr P s t vs H
  | .makeFunc fn first _=>zaat fn first vs H
  | .makeSlice t _ _=>zaai P t vs H
  | .slice t _ lo hi mx=>zafk P t lo hi mx vs H
  | .fieldAddr s _ f=>zaak P s f vs H
  | .field s _ f=>zafm P s f vs H
  | .indexAddr t _ _=>zaaj P t vs H
  | .index t _ _=>zadq P t vs H
  | .extract _ i=>Jh i vs H
  | .call c=>Jc P Γ ch dr c vs H
  | .lookup t _ _ ok=>opMapD dr H (opLookup P t ok vs H)
  | .mapUpdate t _ _ _=>opMapD dr H (opUpdate P t vs H)
  | .makeMap _ r=>opMapD dr H (zaen r vs H)
  | _=>bad H
variable {P Γ}
theorem arr1 {α:Type} {a:Array α} {x:α} (h:a.toList = [x]):a = #[x]:=by apply Array.ext';simpa using h
theorem arr2 {α:Type} {a:Array α} {x y:α} (h:a.toList = [x,y]):a = #[x,y]:=by apply Array.ext';simpa using h
theorem sound_lenT {o:Oper} {vals:List D} {H:Hp} (x:Operand) (t:TypeId) (ho:o.op = .call { callee:=.builtin .len,args:=#[x],argTypes:=#[t] }):Sound P o vals H (opLenT P t vals H):=by
  unfold opLenT
  split
  · rename_i hu
    split
    · exact sound_len x t _ ho hu (.inl rfl) (fun _=>⟨_,rfl⟩) (fun _=>rfl)
    · exact .bad P o _ H
  · rename_i e hu
    split
    · exact .bad P o _ H
    · rename_i hn
      exact sound_len x t _ ho hu (.inr ⟨e,rfl⟩) (fun h=>by cases h) (fun ⟨s,h⟩=>(hn s h).elim)
  · exact .bad P o _ H
theorem sound_lenM {o:Oper} {vals:List D} {H:Hp} (x:Operand) (t:TypeId) (ho:o.op = .call { callee:=.builtin .len,args:=#[x],argTypes:=#[t] }):Sound P o vals H (opLenM P t vals H):=by
  have hx:o.op.operands.toList = [x]:=by rw [ho];rfl
  unfold opLenM
  split
  · rename_i b
    split
    · rename_i cs hc
      intro B n T a w μ fp N avals hR hav hpre next Q hk
      obtain rfl:=Xr hx hav
      obtain ⟨p1,kt,et,p3⟩:=hpre
      have h1:=hR.bg.one
      simp only [Rep] at h1
      obtain ⟨_,es,ck,q1,⟨es2,q2,q3⟩,_⟩:=hR.mapAt hc p1
      have q4:mpE cs = es2:=by rw [q2,mpE_mp]
      have hgo:(getObj (μ b)).run P w = .ok (.map es ck) w:=by simp [getObj,Sem.run,q1]
      have hsz:es.size = es2.length:=by have:=congrArg List.length q3;simpa using this
      have hrun:(execOp a.eval o).run P w = .ok (.value (.int .i64 (mpE cs).length)) w:=by
        rw [q4]
        simp [execOp,ho,resolve,invoke,builtin,Builtin.len_,run_underlying p3,h1.2,hgo,goInt,hsz]
      unfold Oper.wp
      rw [hrun]
      obtain ⟨fp2,h4⟩:=hR.res0 (d:=.int .i64 (mpE cs).length) (v:=.int .i64 (mpE cs).length) (by simp [Rep]) (by simp [bnd])
      exact hk _ w μ fp2 N h4
    · exact .bad P o _ H
  · exact sound_lenT x t ho
theorem cut_src {H:Hp} {s:D} {k:Nat} {ys:List D} (hs:srcD H 1 s = some (k,ys)) (ho:owns s = false) (hi:isStr s = false) (hl:ys.length = k) {m:Nat} (hm:m ≤ k) :
    ∃ s',srcD H 1 s' = some (m,ys.take m) ∧ owns s' = false ∧ isStr s' = false ∧ (∀ N,bnd N s → bnd N s') ∧ ∀ μ I w u,Rep μ I w s u [] → ∃ A c,u = .slice A k c ∧ Rep μ I w s' (.slice A m c) []:=by
  cases s <;> simp only [srcD] at hs <;> (try (cases hs;done)) <;> (try (simp [owns] at ho;done)) <;> (try (simp [isStr] at hi;done))
  · cases hs
    obtain rfl:m = 0:=by omega
    refine ⟨.nil,by simp [srcD],rfl,rfl,fun _ h=>h,fun μ I w u h=>?_⟩
    simp only [Rep] at h
    obtain ⟨_,A,hv⟩:=h
    exact ⟨A,0,hv,by simp only [Rep];exact ⟨trivial,A,rfl⟩⟩
  · rename_i n cs
    cases hs
    refine ⟨.list m (ys.take m),rfl,rfl,rfl,fun N h=>by simp only [bnd] at h ⊢;exact zabw h _,fun μ I w u h=>?_⟩
    simp only [Rep] at h
    obtain ⟨_,hmax,A,c,vs,hv,hmc,hA,hrep⟩:=h
    refine ⟨A,c,hv,?_⟩
    simp only [Rep]
    refine ⟨trivial,by omega,A,c,vs.take m,rfl,by omega,?_,hrep.take m⟩
    rcases hA with h | ⟨b,i,h1,h2,h3⟩
    · subst h;left;simp
    · exact .inr ⟨b,i,h1,h2,h3.take m⟩
  · rename_i b sz i n c
    split at hs
    · rename_i all hall
      cases hs
      refine ⟨.sl b sz i m c,?_,rfl,rfl,fun N h=>by simp only [bnd] at h ⊢;exact h,fun μ I w u h=>?_⟩
      · simp only [srcD,hall,Nat.mul_one,List.take_take]
        rw [Nat.min_eq_left hm]
      · simp only [Rep] at h
        obtain ⟨_,hmc,hmax,⟨A,hA⟩,hv⟩:=h
        subst hA
        refine ⟨A,c,rfl,?_⟩
        simp only [Rep]
        refine ⟨trivial,by omega,by omega,⟨A,rfl⟩,?_⟩
        rcases hv with h | h
        · exact .inl h
        · right;cases h;rfl
    · cases hs
theorem sound_copy {o:Oper} {vals:List D} {H:Hp} (t tx:TypeId) (x y:Operand) (ho:o.op = .call { callee:=.builtin .copy,args:=#[x,y],argTypes:=#[t,tx] }):Sound P o vals H (opCopy P t tx vals H):=by
  have hx:o.op.operands.toList = [x,y]:=by rw [ho];rfl
  unfold opCopy
  split
  case h_2=>exact .bad P o _ H
  rename_i size bytes agg zero e b sz q n c s ht
  split
  case h_2=>exact .bad P o _ H
  rename_i te cs k ys he hc hs
  intro B nn T a w μ fp N avals hR hav hpre next Q hk
  rw [hx] at hav;subst hav
  obtain ⟨p1,⟨e',p2⟩,p3,p4,p5,p6,p7⟩:=hpre
  obtain ⟨f1,f2,hf,r1,r2⟩:=RepL.two hR.bg
  have:f2 = []:=r2.free p3
  subst this
  have hb:=hR.bB
  simp only [bndL] at hb
  have h1:=r1
  simp only [Rep] at h1
  obtain ⟨rfl,_,_,⟨A,hA⟩,hd⟩:=h1
  obtain ⟨s',s1,s2,s3,s4,s5⟩:=cut_src hs p3 p4 p5 (m:=min k n) (Nat.min_le_left ..)
  obtain ⟨A2,c2,hu,hr2⟩:=s5 _ _ _ _ r2
  have hl2:(ys.take (min k n)).length = min k n:=by rw [List.length_take,p5];omega
  have hown:∀ (n:Nat) (l:List D),ownsL l = false → ownsL (l.take n) = false:=by
    intro n l
    induction l generalizing n with
    | nil=>intro _;simp [ownsL]
    | cons z zs ih =>
      intro h
      cases n with
      | zero=>simp [ownsL]
      | succ n=>simp only [List.take_succ_cons,ownsL,Bool.or_eq_false_iff] at h ⊢;exact ⟨h.1,ih n h.2⟩
  obtain ⟨news,g,q1,q2,q3,q4,q5⟩:=src_spec (P:=P) (size:=1) (by omega) hR hr2 (tx:=tx) (e':=e') (by rw [s3];exact p2) s1 (by rw [hl2,Nat.mul_one]) (fun _=>hown _ _ p6) (s4 N hb.2.1)
  have:g = []:=List.eq_nil_iff_forall_not_mem.2 fun z hz=>by cases q3 z hz
  subst this
  have hR1:R B nn ⟨T,H⟩ (ys.take (min k n)) news a w μ fp N:={ hR with bg:=by rw [hf];simpa using q2,bB:=q5 }
  obtain ⟨_,_,_,_,hut,_⟩:=τ_spec ht
  have hfc:(Builtin.firstCells 1 (Nat.min k n) (.slice A2 k c2)).run P w = .ok news.toArray w:=by
    have:=q1.cells
    cases A2 <;> simpa [Builtin.firstCells] using this
  obtain ⟨fp',w',h2,h3⟩:=R.storeL (P:=P) (i:=q) hR1 (by have hpar:=hR.bB;simp only [bndL,bnd] at hpar;omega) hc (by rw [hl2];exact p7) q1.one 0 q (by omega)
  have hst:∀ A',A = some A' → (storeCells A' news).run P w = .ok () w':=by
    rintro A' rfl
    rcases hd with h | h
    · have:news = []:=List.eq_nil_of_length_eq_zero (by rw [q1.newsLen];omega)
      subst this
      simpa [storeCells] using h3
    · rw [hA] at h;cases h;exact h3
  have hno:A = none → w' = w:=by
    rintro rfl
    rcases hd with h | h
    · have:news = []:=List.eq_nil_of_length_eq_zero (by rw [q1.newsLen];omega)
      subst this
      have:=h3
      simp [storeCells] at this
      exact this.symm
    · rw [hA] at h;cases h
  have hrun:(execOp a.eval o).run P w = .ok (.value (.int .i64 (min k n:Nat))) w':=by
    cases A with
    | none =>
      have e1:=hno rfl
      subst e1
      simp [execOp,ho,resolve,invoke,builtin,Builtin.copy_,run_underlying hut,hA,hu,Builtin.lenOf,Xw he,p1,hfc,goInt]
    | some A' =>
      simp [execOp,ho,resolve,invoke,builtin,Builtin.copy_,run_underlying hut,hA,hu,Builtin.lenOf,Xw he,p1,hfc,goInt,hst A' rfl]
  unfold Oper.wp
  rw [hrun]
  obtain ⟨fp2,h4⟩:=h2.res0 (d:=.int .i64 (min k n:Nat)) (v:=.int .i64 (min k n:Nat)) (by simp [Rep]) (by simp [bnd])
  exact hk _ w' μ fp2 N h4
theorem R.mapSet {B:Base} {n:Nat} {S:St} {ds:List D} {vs:List Value} {a:Act} {w:World} {μ:Nat → Nat} {fp:Root → List Nat} {N b:Nat} {cs cs':List D} (h:R B n S ds vs a w μ fp N) (hc:S.H b = some cs) (hm:IsMp cs)
    {es:Array MapEntry} {ck:Nat} (hi:MapIs es cs') (hbn:bndL N cs'):R B n ⟨S.T,upd S.H b (some cs')⟩ ds vs a { w with heap:=w.heap.setIfInBounds (μ b) (.map es ck) } μ fp N:=by
  obtain ⟨k1,es0,ck0,k2,k3,k4,k5⟩:=h.mapAt hc hm
  have hlt:μ b < w.heap.size:=by
    rcases Nat.lt_or_ge (μ b) w.heap.size with q | q
    · exact q
    · rw [Array.getElem?_eq_none q] at k2;cases k2
  have hsz:(w.heap.setIfInBounds (μ b) (.map es ck)).size = w.heap.size:=by simp
  have hsame:∀ x,x ≠ μ b → (w.heap.setIfInBounds (μ b) (.map es ck))[x]? = w.heap[x]?:=fun x hx=>by rw [Array.getElem?_setIfInBounds,if_neg (fun e=>hx e.symm)]
  have hself:(w.heap.setIfInBounds (μ b) (.map es ck))[μ b]? = some (.map es ck):=by rw [Array.getElem?_setIfInBounds,if_pos rfl,if_pos hlt]
  have hown:=h.own (.blk b) (μ b) (by rw [k4];simp)
  have hnot:∀ r x,r ≠ .blk b → x ∈ fp r → x ≠ μ b:=fun r x hr hx e=>hr (h.dis r (.blk b) x hx (by rw [e,k4];simp))
  have im:∀ x,Im B w fp x → Im B { w with heap:=w.heap.setIfInBounds (μ b) (.map es ck) } fp x ∧ (w.heap.setIfInBounds (μ b) (.map es ck))[x]? = w.heap[x]?:=fun x hx =>
    ⟨⟨by show x < (w.heap.setIfInBounds (μ b) (.map es ck)).size;rw [hsz];exact hx.1,hx.2⟩,hsame x fun e=>hx.2.2 (.blk b) (by rw [e,k4];simp)⟩
  refine ⟨h.len,h.dfs,⟨h.frm.os,h.frm.tape,h.frm.output,by show _ ≤ (w.heap.setIfInBounds (μ b) (.map es ck)).size;rw [hsz];exact h.frm.size,fun x hx hk=>?_⟩,h.jk,fun r x hx=>⟨(h.own r x hx).1,by show x < (w.heap.setIfInBounds (μ b) (.map es ck)).size;rw [hsz];exact (h.own r x hx).2⟩,h.nod,h.dis,?_,?_,?_,?_,h.bT,h.bB,?_,h.rn⟩
  · show (w.heap.setIfInBounds (μ b) (.map es ck))[x]? = _
    rw [hsame x fun e=>?_]
    · exact h.frm.same x hx hk
    · subst e;rcases hown.1 with k | k
      · exact hk k
      · omega
  · intro t
    exact Rep.mono im (fun x hx=>hsame x (hnot (.slot t) x (by simp) hx)) (h.tm t)
  · exact RepL.mono im (fun x hx=>hsame x (hnot .bag x (by simp) hx)) h.bg
  · intro b' cs2 hc'
    by_cases e:b' = b
    · subst e
      dsimp only at hc'
      rw [Qe] at hc'
      cases hc'
      exact .inr (.inr ⟨k1,es,ck,hself,hi,k4,k5⟩)
    · dsimp only at hc'
      rw [Qd e] at hc'
      rcases h.hp b' cs2 hc' with q | ⟨cells2,q1,q2,q3,q4,q5⟩ | ⟨q1,es2,ck2,q2,q3,q4,q5⟩
      · exact .inl q
      · refine .inr (.inl ⟨cells2,q1.mono (hsame _ (hnot (.blk b') _ (by simp [e]) (by rw [q3];simp))),q2,q3,fun j d' hd'=>?_,q5⟩)
        obtain ⟨x,hx,hr⟩:=q4 j d' hd'
        exact ⟨x,hx,Rep.mono im (fun y hy=>hsame y (hnot (.cell b' j) y (by simp) hy)) hr⟩
      · exact .inr (.inr ⟨q1,es2,ck2,(hsame _ (hnot (.blk b') _ (by simp [e]) (by rw [q4];simp))).trans q2,q3,q4,q5⟩)
  · intro b' hb'
    have e:b' ≠ b:=by rintro rfl;dsimp only at hb';rw [Qe] at hb';cases hb'
    dsimp only at hb'
    rw [Qd e] at hb'
    exact h.hn b' hb'
  · intro b' cs2 hc'
    by_cases e:b' = b
    · subst e
      dsimp only at hc'
      rw [Qe] at hc'
      cases hc'
      exact ⟨(h.bH b' cs hc).1,hbn⟩
    · dsimp only at hc'
      rw [Qd e] at hc'
      exact h.bH b' cs2 hc'
theorem bndL_mp (N:Nat) (es:List (List Int × Int)):bndL N (mp es):=by
  rw [Qi]
  intro d hd
  simp only [mp,List.mem_cons,List.mem_map] at hd
  rcases hd with rfl | ⟨e,_,rfl⟩
  · simp [bnd,bndL]
  · simp only [cM,bnd,Qi]
    intro d hd
    simp only [List.mem_cons,List.mem_map] at hd
    rcases hd with rfl | ⟨k,_,rfl⟩ <;> simp [bnd]
theorem sound_makeMap {o:Oper} {vals:List D} {H:Hp} (t:TypeId) (r:Option Operand) (ho:o.op = .makeMap t r):Sound P o vals H (zaen r vals H):=by
  unfold zaen
  split
  · refine .ofNew rfl rfl fun μ I w a f N avals hr hav hn hb hp hI hf=>?_
    refine ⟨.map (some w.heap.size),w.alloc (.map #[] 0),[w.heap.size],?_,Frm.alloc _ _,?_,by simp,by simp,by simp [bnd]⟩
    · simp [execOp,ho,Instr.makeMap]
    · simp only [Rep]
      exact ⟨w.heap.size,#[],0,rfl,(by show (w.heap.push _)[w.heap.size]? = _;simp),⟨[],rfl,rfl⟩,rfl⟩
  · exact .bad P o _ H
theorem upd_es {entries:List MapEntry} {es:List (List Int × Int)} (he:entries.map (fun e=>(e.key,e.val)) = es.map fun e=>(keyV e.1,Value.int .i64 e.2)) (hk:OneKey es) (k v:Int) :
    ∀ i,(∃ j u,Instr.findNow (.int .i64) (.int .i64 k) entries i = some (some (j,u)) ∧ i ≤ j ∧ j < i + entries.length ∧ (entries[j - i]?).map (·.key) = some (.int .i64 k) ∧
        (entries.modify (j - i) fun e=>{ e with key:=.int .i64 k,val:=.int .i64 v }).map (fun e=>(e.key,e.val)) = (putE k v es).map fun e=>(keyV e.1,Value.int .i64 e.2)) ∨
      (Instr.findNow (.int .i64) (.int .i64 k) entries i = some none ∧ putE k v es = es ++ [([k],v)]):=by
  induction entries generalizing es with
  | nil =>
    intro i
    cases es with
    | nil=>exact .inr ⟨rfl,rfl⟩
    | cons e es=>simp at he
  | cons x xs ih =>
    intro i
    cases es with
    | nil=>simp at he
    | cons e es =>
      simp only [List.map_cons,List.cons.injEq,Prod.mk.injEq] at he
      obtain ⟨⟨hx1,hx2⟩,he⟩:=he
      obtain ⟨ks,u⟩:=e
      have hl:=hk (ks,u) (by simp)
      obtain ⟨q,rfl⟩:∃ q,ks = [q]:=by
        cases ks with
        | nil=>simp at hl
        | cons q r=>cases r with
          | nil=>exact ⟨q,rfl⟩
          | cons _ _=>simp at hl
      simp only [keyV] at hx1
      by_cases c:k = q
      · subst c
        refine .inl ⟨i,x.val,by simp [Instr.findNow,Instr.sameNow,hx1],Nat.le_refl _,by simp,by simp [hx1],?_⟩
        simp [putE,keyV,he]
      · have hq:¬ ([q]:List Int) = [k]:=by simp;omega
        have hfn:Instr.findNow (.int .i64) (.int .i64 k) (x :: xs) i = Instr.findNow (.int .i64) (.int .i64 k) xs (i + 1):=by
          simp only [Instr.findNow,Instr.sameNow,hx1,if_true]
          rw [show (k == q) = false by simp [c]]
        rw [hfn]
        rcases ih he (fun e he=>hk e (by simp [he])) (i + 1) with ⟨j,u2,h1,h2,h3,h4,h5⟩ | ⟨h1,h2⟩
        · refine .inl ⟨j,u2,h1,by omega,by simp only [List.length_cons];omega,?_,?_⟩
          · rw [show j - i = (j - (i + 1)) + 1 by omega,List.getElem?_cons_succ];exact h4
          · rw [show j - i = (j - (i + 1)) + 1 by omega,List.modify_succ_cons,List.map_cons,h5,putE,if_neg hq,List.map_cons,hx1,hx2];rfl
        · refine .inr ⟨h1,?_⟩
          rw [putE,if_neg hq,h2];rfl
theorem updAsk_es {k:TypeId} (hT:TriTy P k) {entries:List MapEntry} {es:List (List Int × Int)} (he:entries.map (fun e=>(e.key,e.val)) = es.map fun e=>(keyV e.1,Value.int .i64 e.2)) (hk:TriKey es) (x y z v:Int) (w:World) :
    ∀ i,(∃ j u,(Instr.findAsking k (keyV [x,y,z]) entries i).run P w = .ok (some (j,u)) w ∧ i ≤ j ∧ j < i + entries.length ∧ (entries[j - i]?).map (·.key) = some (keyV [x,y,z]) ∧
        (entries.modify (j - i) fun e=>{ e with key:=keyV [x,y,z],val:=.int .i64 v }).map (fun e=>(e.key,e.val)) = (putT [x,y,z] v es).map fun e=>(keyV e.1,Value.int .i64 e.2)) ∨
      ((Instr.findAsking k (keyV [x,y,z]) entries i).run P w = .ok none w ∧ putT [x,y,z] v es = es ++ [([x,y,z],v)]):=by
  induction entries generalizing es with
  | nil =>
    intro i
    cases es with
    | nil=>exact .inr ⟨by simp [Instr.findAsking],rfl⟩
    | cons e es=>simp at he
  | cons en xs ih =>
    intro i
    cases es with
    | nil=>simp at he
    | cons e es =>
      simp only [List.map_cons,List.cons.injEq,Prod.mk.injEq] at he
      obtain ⟨⟨hx1,hx2⟩,he⟩:=he
      obtain ⟨ks,u⟩:=e
      have hl:=hk (ks,u) (by simp)
      obtain ⟨p,q,r,rfl⟩:∃ p q r,ks = [p,q,r]:=by
        match ks,hl with
        | [p,q,r],_=>exact ⟨p,q,r,rfl⟩
      dsimp only at hx1 hx2
      have heq:(Op.equal k (keyV [x,y,z]) (keyV [p,q,r])).run P w = .ok (decide ([x,y,z] = [p,q,r])) w:=hT.2.2 x y z p q r w
      by_cases c:[x,y,z] = [p,q,r]
      · refine .inl ⟨i,en.val,?_,Nat.le_refl _,by simp,by simp [hx1,c],?_⟩
        · rw [Instr.findAsking,Sem.run_bind,hx1,heq]
          simp [c]
        · rw [← c];simp [putT,he]
      · have hq:¬ ([p,q,r]:List Int) = [x,y,z]:=fun e=>c e.symm
        have hfn:(Instr.findAsking k (keyV [x,y,z]) (en :: xs) i).run P w = (Instr.findAsking k (keyV [x,y,z]) xs (i + 1)).run P w:=by
          rw [Instr.findAsking,Sem.run_bind,hx1,heq]
          simp only [c,decide_false,Result.andThen_ok,Bool.false_eq_true,if_false]
        rw [hfn]
        rcases ih he (fun e he=>hk e (by simp [he])) (i + 1) with ⟨j,u2,h1,h2,h3,h4,h5⟩ | ⟨h1,h2⟩
        · refine .inl ⟨j,u2,h1,by omega,by simp only [List.length_cons];omega,?_,?_⟩
          · rw [show j - i = (j - (i + 1)) + 1 by omega,List.getElem?_cons_succ];exact h4
          · rw [show j - i = (j - (i + 1)) + 1 by omega,List.modify_succ_cons,List.map_cons,h5,putT,if_neg hq,List.map_cons,hx1,hx2]
        · refine .inr ⟨h1,?_⟩
          rw [putT,if_neg hq,h2];rfl
theorem updKey_es {k:TypeId} (hT:TriTy P k) {entries:List MapEntry} {es:List (List Int × Int)} (he:entries.map (fun e=>(e.key,e.val)) = es.map fun e=>(keyV e.1,Value.int .i64 e.2)) (hk:TriKey es) (x y z v:Int) (w:World) :
    (∃ j u,(Instr.findKey k (keyV [x,y,z]) entries).run P w = .ok (some (j,u)) w ∧ (entries[j]?).map (·.key) = some (keyV [x,y,z]) ∧
        (entries.modify j fun e=>{ e with key:=keyV [x,y,z],val:=.int .i64 v }).map (fun e=>(e.key,e.val)) = (putT [x,y,z] v es).map fun e=>(keyV e.1,Value.int .i64 e.2)) ∨
      ((Instr.findKey k (keyV [x,y,z]) entries).run P w = .ok none w ∧ putT [x,y,z] v es = es ++ [([x,y,z],v)]):=by
  obtain ⟨fs,hu⟩:=hT.1
  have hrun:(Instr.findKey k (keyV [x,y,z]) entries).run P w = (Instr.findAsking k (keyV [x,y,z]) entries 0).run P w:=by
    rw [Instr.findKey,Sem.run_bind,run_underlying hu,Result.andThen_ok]
    cases entries with
    | nil=>simp [Instr.findNow,Instr.findAsking]
    | cons en xs=>simp only [Instr.findNow,Instr.sameNow]
  rw [hrun]
  rcases updAsk_es (P:=P) hT he hk x y z v w 0 with ⟨j,u,h1,h2,h3,h4,h5⟩ | h
  · exact .inl ⟨j,u,h1,by simpa using h4,by simpa using h5⟩
  · exact .inr h
theorem sound_update {o:Oper} {vals:List D} {H:Hp} (t:TypeId) (x y z:Operand) (ho:o.op = .mapUpdate t x y z):Sound P o vals H (opUpdate P t vals H):=by
  have hx:o.op.operands.toList = [x,y,z]:=by rw [ho];rfl
  unfold opUpdate
  split
  · rename_i b k v
    split
    · rename_i cs hc
      intro B n T a w μ fp N avals hR hav hpre next Q hk
      rw [hx] at hav;subst hav
      obtain ⟨p1,p2,kt,et,ti,p3,p4,p5,p6⟩:=hpre
      have hbg:=hR.bg
      simp only [List.map_cons,List.map_nil,RepL,Rep] at hbg
      obtain ⟨v1,vs1,g1,g2,e1,e2,⟨rfl,h1⟩,v2,vs2,g3,g4,e3,e4,⟨rfl,h2⟩,v3,vs3,g5,g6,e5,e6,⟨rfl,h3⟩,e7,rfl⟩:=hbg
      cases e1;cases e3;cases e5
      obtain ⟨_,es,ck,q1,⟨es2,q2,q3⟩,_⟩:=hR.mapAt hc p1
      have q4:mpE cs = es2:=by rw [q2,mpE_mp]
      rw [q4] at p2
      have hgo:(getObj (μ b)).run P w = .ok (.map es ck) w:=by simp [getObj,Sem.run,q1]
      have hso:∀ ob,(setObj (μ b) ob).run P w = .ok () { w with heap:=w.heap.setIfInBounds (μ b) ob }:=fun ob=>by simp [setObj,Sem.run,q1]
      have hck:∀ emp,(Instr.checkKey emp 10000 kt (.int .i64 k)).run P w = .ok () w:=fun emp=>by
        have key:∀ n,(Instr.checkKey emp (n + 1) kt (.int .i64 k)).run P w = .ok () w:=fun n=>by simp [Instr.checkKey,run_underlying p4]
        exact key 9999
      have hks:∀ w,(Instr.keyThatStays (.int .i64 k) (.int .i64 k)).run P w = .ok (.int .i64 k) w:=fun w=>by simp [Instr.keyThatStays,Instr.sameBits]
      have hup:∃ es' ck',(execOp a.eval o).run P w = .ok .skip { w with heap:=w.heap.setIfInBounds (μ b) (.map es' ck') } ∧ MapIs es' (mp (putE k v es2)):=by
        rcases upd_es q3 p2 k v 0 with ⟨j,u,r1,r2,r3,r4,r5⟩ | ⟨r1,r2⟩
        · have hfk:(Instr.findKey kt (.int .i64 k) es.toList).run P w = .ok (some (j,u)) w:=by
            simp [Instr.findKey,run_underlying p4,r1]
          have hkey:((es[j]?).map (·.key)).getD (.int .i64 k) = .int .i64 k:=by
            have:(es.toList[j - 0]?).map (·.key) = some (.int .i64 k):=r4
            rw [Nat.sub_zero,Array.getElem?_toList] at this
            rw [this];rfl
          refine ⟨es.modify j fun e=>{ e with key:=.int .i64 k,val:=.int .i64 v },ck,?_,putE k v es2,rfl,?_⟩
          · simp only [execOp,ho,h1,h2,h3,Instr.mapUpdate,Sem.run_bind,run_underlying p3,Result.andThen_ok,hgo,hck,hfk,hkey,hks,hso,Sem.run_pure]
          · rw [← r5,Nat.sub_zero,Array.toList_modify]
        · have hfk:(Instr.findKey kt (.int .i64 k) es.toList).run P w = .ok none w:=by
            simp [Instr.findKey,run_underlying p4,r1]
          refine ⟨es.push { key:=.int .i64 k,val:=.int .i64 v,born:=ck },ck + 1,?_,putE k v es2,rfl,?_⟩
          · simp only [execOp,ho,h1,h2,h3,Instr.mapUpdate,Sem.run_bind,run_underlying p3,Result.andThen_ok,hgo,hck,hfk,hso,Sem.run_pure]
          · rw [r2,List.map_append,← q3];simp [keyV]
      obtain ⟨es',ck',hrun,hmi⟩:=hup
      unfold Oper.wp
      rw [hrun]
      have h9:=hR.mapSet (ck:=ck') hc p1 hmi (bndL_mp N _)
      obtain ⟨fp2,h4⟩:=h9.res0 (d:=.any) (v:=undef) (by simp [Rep]) (by simp [bnd])
      rw [← q4] at h4
      exact hk _ _ μ fp2 N h4
    · exact .bad P o _ H
  · rename_i b kx ky kz v
    split
    · rename_i cs hc
      intro B n T a w μ fp N avals hR hav hpre next Q hk
      rw [hx] at hav;subst hav
      obtain ⟨p1,p2,kt,et,ti,p3,p4,p5,p6⟩:=hpre
      have hbg:=hR.bg
      simp only [List.map_cons,List.map_nil] at hbg
      rw [RepL] at hbg
      obtain ⟨v1,vs1,g1,g2,e1,e2,h1,hbg⟩:=hbg
      rw [RepL] at hbg
      obtain ⟨v2,vs2,g3,g4,e3,e4,h2,hbg⟩:=hbg
      rw [RepL] at hbg
      obtain ⟨v3,vs3,g5,g6,e5,e6,h3,hbg⟩:=hbg
      cases e1;cases e3;cases e5
      simp only [Rep] at h1 h3
      have h2:=(rep_st3 h2).1
      replace h1:=h1.2
      replace h3:=h3.2
      obtain ⟨_,es,ck,q1,⟨es2,q2,q3⟩,_⟩:=hR.mapAt hc p1
      have q4:mpE cs = es2:=by rw [q2,mpE_mp]
      rw [q4] at p2
      have hgo:(getObj (μ b)).run P w = .ok (.map es ck) w:=by simp [getObj,Sem.run,q1]
      have hso:∀ ob,(setObj (μ b) ob).run P w = .ok () { w with heap:=w.heap.setIfInBounds (μ b) ob }:=fun ob=>by simp [setObj,Sem.run,q1]
      have hck:=fun emp=>p4.2.1 emp kx ky kz w
      have hks:∀ w,(Instr.keyThatStays (.agg #[.int .i64 kx,.int .i64 ky,.int .i64 kz]) (.agg #[.int .i64 kx,.int .i64 ky,.int .i64 kz])).run P w = .ok (.agg #[.int .i64 kx,.int .i64 ky,.int .i64 kz]) w:=fun w=>by simp [Instr.keyThatStays,Instr.sameBits]
      have hup:∃ es' ck',(execOp a.eval o).run P w = .ok .skip { w with heap:=w.heap.setIfInBounds (μ b) (.map es' ck') } ∧ MapIs es' (mp (putT [kx,ky,kz] v es2)):=by
        rcases updKey_es (P:=P) p4 q3 p2 kx ky kz v w with ⟨j,u,r1,r4,r5⟩ | ⟨r1,r2⟩
        · rw [keyV3] at r1 r4 r5
          have hkey:((es[j]?).map (·.key)).getD (.agg #[.int .i64 kx,.int .i64 ky,.int .i64 kz]) = .agg #[.int .i64 kx,.int .i64 ky,.int .i64 kz]:=by
            have:(es.toList[j]?).map (·.key) = some (.agg #[.int .i64 kx,.int .i64 ky,.int .i64 kz]):=r4
            rw [Array.getElem?_toList] at this
            rw [this];rfl
          refine ⟨es.modify j fun e=>{ e with key:=.agg #[.int .i64 kx,.int .i64 ky,.int .i64 kz],val:=.int .i64 v },ck,?_,putT [kx,ky,kz] v es2,rfl,?_⟩
          · simp only [execOp,ho,h1,h2,h3,Instr.mapUpdate,Sem.run_bind,run_underlying p3,Result.andThen_ok,hgo,hck,r1,hkey,hks,hso,Sem.run_pure]
          · rw [← r5,Array.toList_modify]
        · rw [keyV3] at r1
          refine ⟨es.push { key:=.agg #[.int .i64 kx,.int .i64 ky,.int .i64 kz],val:=.int .i64 v,born:=ck },ck + 1,?_,putT [kx,ky,kz] v es2,rfl,?_⟩
          · simp only [execOp,ho,h1,h2,h3,Instr.mapUpdate,Sem.run_bind,run_underlying p3,Result.andThen_ok,hgo,hck,r1,hso,Sem.run_pure]
          · rw [r2,List.map_append,← q3];simp [keyV]
      obtain ⟨es',ck',hrun,hmi⟩:=hup
      unfold Oper.wp
      rw [hrun]
      have h9:=hR.mapSet (ck:=ck') hc p1 hmi (bndL_mp N _)
      obtain ⟨fp2,h4⟩:=h9.res0 (d:=.any) (v:=undef) (by simp [Rep]) (by simp [bnd])
      rw [← q4] at h4
      exact hk _ _ μ fp2 N h4
    · exact .bad P o _ H
  · exact .bad P o _ H
def isVal:Op → Bool
  | .call { callee:=.value _,.. }=>true
  | _=>false
theorem sound_opF0 (ch:Any) (dr:Bool) (o:Oper) (hv:isVal o.op = false) (vals:List D) (H:Hp):Sound P o vals H (opF P Γ ch dr o vals H):=by
  unfold opF
  split <;> rename_i ho
  · split
    · exact sound_move _ (.inl ho) _
    · exact .bad P o _ H
  · split
    · exact sound_move _ (.inr ho) _
    · exact .bad P o _ H
  · split
    · exact sound_pick _ _ _ ho _ _ _
    · exact .bad P o _ H
  · exact sound_alloc _ ho
  · exact sound_box _ _ ho
  · exact sound_build _ _ ho
  · exact zafc _ _ _ ho
  · unfold zahi;split
    · exact zadd _ _ ho
    · exact sound_loadM _ _ ho
  · exact sound_store _ _ _ ho
  · exact sound_nil _ ho
  · exact sound_bin _ _ _ _ _ ho
  · exact sound_un _ _ _ ho
  · exact sound_convert _ _ _ ho
  · exact sound_makeFunc _ _ _ ho
  · exact zagl _ _ _ ho
  · exact sound_slice _ _ _ _ _ ho
  · exact zagn _ _ _ ho
  · exact sound_field _ _ _ ho
  · exact zagm _ _ _ ho
  · unfold zadq
    split
    · rename_i hu;exact sound_index _ _ _ ho hu
    · exact .bad P o _ H
  · exact sound_extract _ _ ho
  · rename_i c
    unfold Jc
    split
    · rename_i x t h1 h2 h3
      have hlen:o.op = .call { callee:=.builtin .len,args:=#[x],argTypes:=#[t] }:=by
        obtain ⟨c1,c2,c3⟩:=c
        dsimp only at h1 h2 h3
        rw [ho,h1,arr1 h2,arr1 h3]
      unfold opLenD
      split
      · exact sound_lenT x t hlen
      · exact sound_lenM x t hlen
    · rename_i x y t tx h1 h2 h3
      unfold zacg
      split
      · exact .bad P o _ H
      · refine sound_appZ t tx x y _ _ ?_
        obtain ⟨c1,c2,c3⟩:=c
        dsimp only at h1 h2 h3
        rw [ho,h1,arr2 h2,arr2 h3]
      · refine sound_append t tx x y ?_
        obtain ⟨c1,c2,c3⟩:=c
        dsimp only at h1 h2 h3
        rw [ho,h1,arr2 h2,arr2 h3]
    · rename_i x t h1 h2 h3
      refine sound_capT x t ?_
      obtain ⟨c1,c2,c3⟩:=c
      dsimp only at h1 h2 h3
      rw [ho,h1,arr1 h2,arr1 h3]
    · rename_i x y t tx h1 h2 h3
      refine sound_min P x y t tx ?_
      obtain ⟨c1,c2,c3⟩:=c
      dsimp only at h1 h2 h3
      rw [ho,h1,arr2 h2,arr2 h3]
    · rename_i x y t tx h1 h2 h3
      refine sound_copy t tx x y ?_
      obtain ⟨c1,c2,c3⟩:=c
      dsimp only at h1 h2 h3
      rw [ho,h1,arr2 h2,arr2 h3]
    · rename_i g h1
      obtain ⟨c1,c2,c3⟩:=c
      dsimp only at h1
      subst h1
      rw [ho] at hv
      simp [isVal] at hv
    · exact .bad P o _ H
  · unfold opMapD;split
    · exact .bad P o _ H
    · exact sound_lookup P _ _ _ _ ho
  · unfold opMapD;split
    · exact .bad P o _ H
    · exact sound_update _ _ _ _ ho
  · unfold opMapD;split
    · exact .bad P o _ H
    · exact sound_makeMap _ _ ho
  · exact .bad P o _ H
theorem opF_const (ch ch':Any) (dr:Bool) (o:Oper) (hv:isVal o.op = false) (vals:List D) (H:Hp):opF P Γ ch dr o vals H = opF P Γ ch' dr o vals H:=by
  unfold opF
  cases ho:o.op with
  | call c =>
    rw [ho] at hv
    dsimp only
    unfold Jc
    obtain ⟨c1,c2,c3⟩:=c
    cases c1 with
    | value g=>simp [isVal] at hv
    | builtin b =>
      dsimp only
      generalize c2.toList = l2
      generalize c3.toList = l3
      cases b <;> (first | rfl | (rcases l2 with _ | ⟨_,_ | ⟨_,_ | ⟨_,_⟩⟩⟩ <;> rcases l3 with _ | ⟨_,_ | ⟨_,_ | ⟨_,_⟩⟩⟩ <;> rfl))
    | _=>rfl
  | _=>rfl
theorem sound_opF (hΓ:∀ f,ConOk P f (Γ f)) (dr:Bool) (o:Oper) (vals:List D) (H:Hp):SoundC P o vals H (fun ch=>opF P Γ ch dr o vals H):=by
  cases hv:isVal o.op with
  | false =>
    have e:(fun ch=>opF P Γ ch dr o vals H) = fun _=>opF P Γ ⟨Unit,()⟩ dr o vals H:=funext fun ch=>opF_const ch _ dr o hv vals H
    rw [e]
    exact (sound_opF0 _ dr o hv vals H).c
  | true =>
    cases ho:o.op with
    | call c =>
      obtain ⟨c1,c2,c3⟩:=c
      cases c1 with
      | value g =>
        have e:(fun ch=>opF P Γ ch dr o vals H) = fun ch=>Xa Γ ch vals H:=funext fun ch=>by unfold opF;rw [ho];unfold Jc;dsimp only
        rw [e]
        exact sound_call hΓ g c2 c3 ho
      | _=>rw [ho] at hv;simp [isVal] at hv
    | _=>rw [ho] at hv;simp [isVal] at hv

def look (T:Nat → D):Operand → D
  | .tmp t=>match T t with
    | .fr _ n _=>.list n []
    | d=>if owns d then .any else d
  | .const v=>cst v
  | .func f=>.fn f []
  | .global _=>.any
def grabs (T:Nat → D):List Operand → List D × (Nat → D)
  | []=>([],T)
  | .tmp t :: xs=>(T t :: (grabs (grab T t) xs).1,(grabs (grab T t) xs).2)
  | .const v :: xs=>(cst v :: (grabs T xs).1,(grabs T xs).2)
  | .func f :: xs=>(.fn f [] :: (grabs T xs).1,(grabs T xs).2)
  | .global _ :: xs=>(.any :: (grabs T xs).1,(grabs T xs).2)
def isLen:Op → Bool
  | .call { callee:=.builtin .len,.. }=>true
  | _=>false
def taken (T:Nat → D) (op:Op):List D × (Nat → D):=if isLen op then (op.operands.toList.map (look T),T) else grabs T op.operands.toList
def putD (dst:Option Nat) (d:D) (T:Nat → D):Nat → D :=
  match dst with
  | some t=>upd T t d
  | none=>T
def backT (op:Op) (b:Option D) (T:Nat → D):Nat → D :=
  match b,op.operands.toList with
  | some d,.tmp t :: _=>upd T t d
  | _,_=>T
def backOk (op:Op) (dst:Option Nat) (b:Option D):Prop :=
  match b,op.operands.toList with
  | some _,.tmp t :: _=>dst ≠ some t
  | _,_=>True
variable (P Γ) in
def step (ch:Any) (dr:Bool) (o:Oper) (S:St):Prop × St :=
  let v:=taken S.T o.op
  let r:=opF P Γ ch dr o v.1 S.H
  (r.pre ∧ backOk o.op o.dst r.back,⟨putD o.dst r.val (backT o.op r.back v.2),r.H⟩)
section
variable {B:Base} {n:Nat} {a:Act} {w:World} {μ:Nat → Nat}
theorem R.look {S:St} {ds:List D} {vs:List Value} {fp:Root → List Nat} {N:Nat} (h:R B n S ds vs a w μ fp N) (x:Operand):Rep μ (Im B w fp) w (look S.T x) (a.eval x) [] ∧ bnd N (look S.T x):=by
  cases x with
  | tmp t =>
    have h1:=h.tm t
    have h2:=h.bT t
    simp only [Vm.look,Act.eval]
    split
    · rename_i sz m cs ht
      rw [ht] at h1 h2
      simp only [Rep] at h1 ⊢
      obtain ⟨h3,h4,h5⟩:=h1
      refine ⟨?_,by simp [bnd,bndL]⟩
      rcases h5 with ⟨rfl,_,A,hv⟩ | ⟨b,c,_,_,_,hv,hc,_⟩
      · exact ⟨trivial,h3,A,0,[],hv,by simp,.inl trivial,by simp [RepL]⟩
      · exact ⟨trivial,h3,_,c,[],hv,hc,.inl trivial,by simp [RepL]⟩
    · by_cases ho:owns (S.T t) = true
      · simp [ho,Rep,bnd]
      · have ho:owns (S.T t) = false:=by simpa using ho
        have:=h1.free ho
        rw [this] at h1
        simp only [ho,Bool.false_eq_true,if_false]
        exact ⟨h1,h2⟩
  | const v=>exact ⟨Rep.cst ..,bnd_cst ..⟩
  | func f=>exact ⟨by simp [Vm.look,Act.eval,Rep,RepL],by simp [Vm.look,bnd,bndL]⟩
  | global g=>exact ⟨by simp [Vm.look,Rep],by simp [Vm.look,bnd]⟩
theorem R.looks:∀ {xs:List Operand} {S:St} {ds:List D} {vs:List Value} {fp:Root → List Nat} {N:Nat},R B n S ds vs a w μ fp N → R B n S (ds ++ xs.map (Vm.look S.T)) (vs ++ xs.map a.eval) a w μ fp N
  | [],S,ds,vs,fp,N,h=>by simpa using h
  | x :: xs,S,ds,vs,fp,N,h=>by
    have h1:=h.join (h.look x).1 (h.look x).2
    have:=R.looks (xs:=xs) h1
    simpa using this
theorem R.grabs:∀ {xs:List Operand} {T:Nat → D} {H:Hp} {ds:List D} {vs:List Value} {fp:Root → List Nat} {N:Nat},R B n ⟨T,H⟩ ds vs a w μ fp N → ∃ fp',R B n ⟨(Vm.grabs T xs).2,H⟩ (ds ++ (Vm.grabs T xs).1) (vs ++ xs.map a.eval) a w μ fp' N
  | [],T,H,ds,vs,fp,N,h=>⟨fp,by simpa [Vm.grabs] using h⟩
  | .tmp t :: xs,T,H,ds,vs,fp,N,h=>by
    obtain ⟨fp1,h1⟩:=h.grab t
    obtain ⟨fp2,h2⟩:=R.grabs (xs:=xs) h1
    exact ⟨fp2,by simpa [Vm.grabs,Act.eval] using h2⟩
  | .const v :: xs,T,H,ds,vs,fp,N,h=>by
    obtain ⟨fp2,h2⟩:=R.grabs (xs:=xs) (h.join (Rep.cst _ _ _ v) (bnd_cst _ v))
    exact ⟨fp2,by simpa [Vm.grabs,Act.eval] using h2⟩
  | .func f :: xs,T,H,ds,vs,fp,N,h=>by
    obtain ⟨fp2,h2⟩:=R.grabs (xs:=xs) (h.join (d:=.fn f []) (v:=.func (.func f) #[] #[]) (by simp [Rep,RepL]) (by simp [bnd,bndL]))
    exact ⟨fp2,by simpa [Vm.grabs,Act.eval] using h2⟩
  | .global g :: xs,T,H,ds,vs,fp,N,h=>by
    obtain ⟨fp2,h2⟩:=R.grabs (xs:=xs) (h.join (d:=.any) (v:=.pointer (some ⟨g,0,none⟩)) (by simp [Rep]) (by simp [bnd]))
    exact ⟨fp2,by simpa [Vm.grabs,Act.eval] using h2⟩
theorem R.taken {S:St} {fp:Root → List Nat} {N:Nat} (h:R B n S [] [] a w μ fp N) (op:Op):∃ fp',R B n ⟨(Vm.taken S.T op).2,S.H⟩ (Vm.taken S.T op).1 (op.operands.toList.map a.eval) a w μ fp' N:=by
  unfold Vm.taken
  split
  · exact ⟨fp,by simpa using R.looks (xs:=op.operands.toList) h⟩
  · obtain ⟨fp',h'⟩:=R.grabs (xs:=op.operands.toList) (T:=S.T) (H:=S.H) h
    exact ⟨fp',by simpa using h'⟩
theorem step_sound (hΓ:∀ f,ConOk P f (Γ f)) {dr:Bool} {o:Oper} {S:St} {fp:Root → List Nat} {N:Nat} (h:R B n S [] [] a w μ fp N) {c0:Any} (hp:(step P Γ c0 dr o S).1) (hd:∀ t,o.dst = some t → t < n) {next:Act → World → Prop} {Q:Exit → Act → World → Prop}
    (hp2:∀ ch,backOk o.op o.dst (opF P Γ ch dr o (taken S.T o.op).1 S.H).back) (hk:∀ ch a' w' μ' fp' N',R B n (step P Γ ch dr o S).2 [] [] a' w' μ' fp' N' → next a' w'):o.wp P a w next Q:=by
  obtain ⟨fp1,h1⟩:=h.taken o.op
  obtain ⟨hp1,_⟩:=hp
  refine sound_opF hΓ dr o _ _ c0 B n _ a w μ fp1 N _ h1 rfl hp1 next Q fun ch v w' μ' fp' N' h2=>?_
  suffices hx:∃ fp'' N'',R B n (step P Γ ch dr o S).2 [] [] (a.put o.dst v) w' μ' fp'' N'' by
    obtain ⟨fp'',N'',hR⟩:=hx
    exact hk ch _ w' μ' fp'' N'' hR
  have hp2:=hp2 ch
  revert h2;revert hp2
  simp only [step]
  generalize opF P Γ ch dr o (Vm.taken S.T o.op).1 S.H = r
  intro hp2 h2
  -- the result is put
  have put:∀ {S':St} {ds:List D} {vs:List Value} {fp:Root → List Nat},R B n S' (r.val :: ds) (v :: vs) a w' μ' fp N' → ∃ fp',R B n ⟨putD o.dst r.val S'.T,S'.H⟩ ds vs (a.put o.dst v) w' μ' fp' N':=by
    intro S' ds vs fp h
    cases hdst:o.dst with
    | none=>obtain ⟨fp',h'⟩:=h.unbag;exact ⟨fp',h'⟩
    | some t=>exact h.put (hd t hdst)
  cases hb:r.back with
  | none =>
    rw [hb] at h2
    obtain ⟨fp',h'⟩:=put h2
    refine ⟨fp',N',?_⟩
    have e:backT o.op none (Vm.taken S.T o.op).2 = (Vm.taken S.T o.op).2:=by unfold backT;rfl
    rw [e]
    exact h'
  | some d =>
    rw [hb] at h2 hp2
    obtain ⟨fp2,h3⟩:=put h2
    simp only [List.map_cons,List.map_nil,Option.toList] at h3
    cases hop:o.op.operands.toList with
    | nil =>
      obtain ⟨fp',h'⟩:=h3.unbag
      refine ⟨fp',N',?_⟩
      have e:backT o.op (some d) (Vm.taken S.T o.op).2 = (Vm.taken S.T o.op).2:=by unfold backT;rw [hop]
      rw [e]
      exact h'
    | cons x xs =>
      cases x with
      | tmp t =>
        have e:backT o.op (some d) (Vm.taken S.T o.op).2 = upd (Vm.taken S.T o.op).2 t d:=by unfold backT;rw [hop]
        have hne:o.dst ≠ some t:=by unfold backOk at hp2;rw [hop] at hp2;exact hp2
        rw [e]
        have hval:(o.op.operands.toList.map a.eval).headD undef = (a.put o.dst v).tmps.getD t undef:=by
          rw [hop]
          simp only [List.map_cons,List.headD_cons,Act.eval]
          cases hdst:o.dst with
          | none=>rfl
          | some t' =>
            simp only [Act.put]
            rw [Array.getD_eq_getD_getElem?,Array.getD_eq_getD_getElem?,Array.getElem?_setIfInBounds,if_neg]
            rintro rfl
            exact hne hdst
        rw [hval] at h3
        obtain ⟨fp',h'⟩:=h3.putback
        refine ⟨fp',N',?_⟩
        have e2:putD o.dst r.val (upd (Vm.taken S.T o.op).2 t d) = upd (putD o.dst r.val (Vm.taken S.T o.op).2) t d:=by
          cases hdst:o.dst with
          | none=>rfl
          | some t' =>
            funext y
            simp only [putD,upd]
            by_cases e1:y = t' <;> by_cases e2:y = t <;> simp [e1,e2]
            · subst e1;subst e2;exact (hne hdst).elim
            · intro e3;subst e3;subst e1;exact (e2 rfl).elim
            · intro e3;subst e3;subst e2;exact (hne hdst).elim
        rw [e2]
        exact h'
      | _ =>
        obtain ⟨fp',h'⟩:=h3.unbag
        refine ⟨fp',N',?_⟩
        have e:backT o.op (some d) (Vm.taken S.T o.op).2 = (Vm.taken S.T o.op).2:=by unfold backT;rw [hop]
        rw [e]
        exact h'

def Vb:D:=.tup []
def Zl (ops:Array Oper) (o:Oper) (T:Nat → D):Option Bool :=
  match o.guard with
  | none=>some true
  | some (j,want)=>match ops[j]? with
    | some oj=>match oj.dst with
      | some d=>match T d with
        | .bool b=>some (b == want)
        | .tup []=>some false
        | _=>none
      | none=>none
    | none=>none
variable (P Γ) in
def stepG (ch:Any) (dr:Bool) (ops:Array Oper) (o:Oper) (S:St):Prop × St :=
  match Zl ops o S.T with
  | none=>(False,S)
  | some false=>(True,⟨putD o.dst Vb S.T,S.H⟩)
  | some true=>step P Γ ch dr o S
theorem zafv {ops:Array Oper} {o:Oper} {S:St} {fp:Root → List Nat} {N:Nat} (h:R B n S [] [] a w μ fp N) {b:Bool} (hg:Zl ops o S.T = some b) (hd:∀ (j:Nat) oj t,ops[j]? = some oj → oj.dst = some t → t < n):Region.wanted o (yielded ops a.tmps) = b:=by
  unfold Zl at hg
  unfold Region.wanted
  cases hgd:o.guard with
  | none=>rw [hgd] at hg;cases hg;rfl
  | some jw =>
    obtain ⟨j,want⟩:=jw
    rw [hgd] at hg
    dsimp only at hg ⊢
    cases hj:ops[j]? with
    | none=>rw [hj] at hg;cases hg
    | some oj =>
      rw [hj] at hg
      dsimp only at hg
      cases hdst:oj.dst with
      | none=>rw [hdst] at hg;cases hg
      | some t =>
        rw [hdst] at hg
        dsimp only at hg
        have ht:=hd j oj t hj hdst
        have hv:=h.tm t
        have hy:yielded ops a.tmps j = match a.tmps.getD t undef with
          | .bool b=>some b
          | _=>none:=by
          unfold yielded
          rw [hj]
          simp only [Option.bind_some,hdst]
          rw [Array.getD_eq_getD_getElem?,Array.getElem?_eq_getElem (by rw [h.len];exact ht)]
          simp only [Option.getD_some]
          split <;> simp_all
        rw [hy]
        split at hg
        · rename_i b' hb'
          rw [hb'] at hv
          simp only [Rep] at hv
          rw [hv.2]
          cases hg
          cases b' <;> cases want <;> rfl
        · rename_i hb'
          rw [hb'] at hv
          simp only [Rep] at hv
          obtain ⟨us,hv,hu⟩:=hv
          rw [hv]
          cases hg
          rfl
        · cases hg
theorem back_const (ch ch':Any) (dr:Bool) (o:Oper) (vals:List D) (H:Hp):(opF P Γ ch dr o vals H).back = (opF P Γ ch' dr o vals H).back:=by
  cases hv:isVal o.op with
  | false=>rw [opF_const ch ch' dr o hv]
  | true =>
    cases ho:o.op with
    | call c =>
      obtain ⟨c1,c2,c3⟩:=c
      cases c1 with
      | value g =>
        have e:∀ ch,(opF P Γ ch dr o vals H).back = none:=fun ch=>by
          unfold opF;rw [ho];unfold Jc;dsimp only;unfold Xa
          split
          · split <;> rfl
          · rfl
        rw [e,e]
      | _=>rw [ho] at hv;simp [isVal] at hv
    | _=>rw [ho] at hv;simp [isVal] at hv
theorem zaey (hΓ:∀ f,ConOk P f (Γ f)) {dr:Bool} {ops:Array Oper} {i:Nat} {o:Oper} (ho:ops[i]? = some o) {S:St} {fp:Root → List Nat} {N:Nat} (h:R B n S [] [] a w μ fp N) {c0:Any} (hp:(stepG P Γ c0 dr ops o S).1)
    (hd:∀ (j:Nat) oj t,ops[j]? = some oj → oj.dst = some t → t < n) {next:Act → World → Prop} {Q:Exit → Act → World → Prop} (hk:∀ ch a' w' μ' fp' N',R B n (stepG P Γ ch dr ops o S).2 [] [] a' w' μ' fp' N' → next a' w'):wpOp P ops Q i next a w:=by
  unfold wpOp
  rw [ho]
  dsimp only
  unfold stepG at hp hk
  cases hg:Zl ops o S.T with
  | none=>rw [hg] at hp;exact hp.elim
  | some b =>
    rw [hg] at hp hk
    rw [zafv h hg hd]
    cases b with
    | true =>
      rw [if_pos rfl]
      exact .inl (step_sound hΓ h hp (fun t ht=>hd i o t ho ht) (fun ch=>by rw [back_const ch c0];exact hp.2) hk)
    | false =>
      rw [if_neg (by simp)]
      have h1:=h.join (d:=Vb) (v:=undef) (by simp only [Vb,Rep];exact ⟨[],rfl,by simp [RepL]⟩) (by simp [Vb,bnd,bndL])
      cases hdst:o.dst with
      | none=>rw [hdst] at hk;exact hk c0 _ w μ fp N h
      | some t =>
        rw [hdst] at hk
        obtain ⟨fp',h2⟩:=R.put (ds:=[]) (vs:=[]) h1 (hd i o t ho hdst)
        exact hk c0 _ w μ fp' N h2
end
end
section
variable (P:Program) (Γ:FuncId → Con)
def W0 (dr:Bool) (ops:Array Oper):List Nat → St → (St → Prop) → Prop
  | [],S,K=>K S
  | i :: L,S,K=>match ops[i]? with
    | none=>W0 dr ops L S K
    | some o=>∀ ch,(stepG P Γ ch dr ops o S).1 ∧ W0 dr ops L (stepG P Γ ch dr ops o S).2 K
def splitB (b:Bool) (p q:Prop):Prop:=(b = true → p) ∧ (b = false → q)
theorem Qb (p q:Prop):splitB true p q = p:=by simp [splitB]
theorem Qa (p q:Prop):splitB false p q = q:=by simp [splitB]
def V (srcs:List Nat) (dr:Bool) (ops:Array Oper):List Oper → St → (St → Prop) → Prop
  | [],S,K=>K S
  | o :: L,S,K=>∀ ch,(stepG P Γ ch dr ops o S).1 ∧
    match o.dst with
    | some t=>if t ∈ srcs then (match (stepG P Γ ch dr ops o S).2.T t with
        | .bool b=>splitB b (V srcs dr ops L ⟨upd (stepG P Γ ch dr ops o S).2.T t (.bool true),(stepG P Γ ch dr ops o S).2.H⟩ K) (V srcs dr ops L ⟨upd (stepG P Γ ch dr ops o S).2.T t (.bool false),(stepG P Γ ch dr ops o S).2.H⟩ K)
        | _=>V srcs dr ops L (stepG P Γ ch dr ops o S).2 K) else V srcs dr ops L (stepG P Γ ch dr ops o S).2 K
    | none=>V srcs dr ops L (stepG P Γ ch dr ops o S).2 K
variable {P Γ}
theorem V_W0 {srcs:List Nat} {dr:Bool} {ops:Array Oper} {K:St → Prop}:∀ {k:Nat} {L:List Oper} {S:St},(∀ j,L[j]? = ops[k + j]?) → V P Γ srcs dr ops L S K → W0 P Γ dr ops (List.range' k L.length) S K
  | k,[],S,hL,h=>h
  | k, o :: L,S,hL,h=>by
    have h0:ops[k]? = some o:=by have:=hL 0;simpa using this.symm
    have hL':∀ j,L[j]? = ops[k + 1 + j]?:=fun j=>by
      have:=hL (j + 1)
      rw [List.getElem?_cons_succ] at this
      rw [this];congr 1;omega
    simp only [List.length_cons,List.range'_succ,W0,h0]
    simp only [V] at h
    intro ch
    replace h:=h ch
    refine ⟨h.1,?_⟩
    obtain ⟨_,h⟩:=h
    generalize (stepG P Γ ch dr ops o S).2 = S' at h
    split at h
    · rename_i t _
      split at h
      · split at h
        · rename_i b hb
          obtain ⟨h1,h2⟩:=h
          cases b
          · have:=h2 rfl
            rw [Jk hb] at this
            exact V_W0 hL' this
          · have:=h1 rfl
            rw [Jk hb] at this
            exact V_W0 hL' this
        · exact V_W0 hL' h
      · exact V_W0 hL' h
    · exact V_W0 hL' h
theorem V_all {srcs:List Nat} {dr:Bool} {ops:Array Oper} {S:St} {K:St → Prop} (h:V P Γ srcs dr ops ops.toList S K):W0 P Γ dr ops (List.range ops.size) S K:=by
  have:=V_W0 (k:=0) (by simp) h
  rw [List.range_eq_range']
  simpa using this

section
variable {B:Base} {n:Nat}
def lift (B:Base) (n:Nat) (Q:Exit → St → Prop):Exit → Act → World → Prop
  | .normal,a,w=>∃ S μ fp N,R B n S [] [] a w μ fp N ∧ Q .normal S
  | .exit id,a,w=>∃ S μ fp N,R B n S [] [] a w μ fp N ∧ Q (.exit id) S
  | .ret,a,w=>∃ S μ fp N,R B n S [] [] a w μ fp N ∧ Q .ret S
  | _,_,_=>False
def Zs (n:Nat) (ops:Array Oper):Bool:=ops.toList.all fun o=>match o.dst with
  | some t=>decide (t < n)
  | none=>true
theorem zabn {ops:Array Oper} (h:Zs n ops = true):∀ (j:Nat) oj t,ops[j]? = some oj → oj.dst = some t → t < n:=by
  intro j oj t hj ht
  unfold Zs at h
  rw [List.all_eq_true] at h
  have:=h oj (by rw [← Array.getElem?_toList] at hj;exact List.mem_of_getElem? hj)
  rw [ht] at this
  simpa using this
theorem W0_wpOps (hΓ:∀ f,ConOk P f (Γ f)) {dr:Bool} {ops:Array Oper} (hd:Zs n ops = true) {Q:Exit → St → Prop}:∀ {L:List Nat} {S:St} {a:Act} {w:World} {μ:Nat → Nat} {fp:Root → List Nat} {N:Nat},R B n S [] [] a w μ fp N →
    W0 P Γ dr ops L S (Q .normal) → wpOps P ops (lift B n Q) L a w
  | [],S,a,w,μ,fp,N,h,hw=>⟨S,μ,fp,N,h,hw⟩
  | i :: L,S,a,w,μ,fp,N,h,hw=>by
    rw [wpOps_cons]
    simp only [W0] at hw
    cases ho:ops[i]? with
    | none =>
      rw [ho] at hw
      unfold wpOp
      rw [ho]
      exact W0_wpOps hΓ hd h hw
    | some o =>
      rw [ho] at hw
      exact zaey hΓ ho h (hw ⟨Unit,()⟩).1 (zabn hd) fun ch a' w' μ' fp' N' h'=>W0_wpOps hΓ hd h' (hw ch).2
def AW (P:Program) (B:Base) (n:Nat) (c:Code) (Q:Exit → St → Prop) (S:St):Prop :=
  ∀ (a:Act) (w:World) (μ:Nat → Nat) (fp:Root → List Nat) (N:Nat),R B n S [] [] a w μ fp N → c.wp P (lift B n Q) a w
theorem zA {P:Program} {B:Base} {n:Nat} {c:Code} {Q:Exit → St → Prop} {S:St} (h:AW P B n c Q S):AW P B n c Q S:=h
theorem Qc (hΓ:∀ f,ConOk P f (Γ f)) {id:Nat} {ops:Array Oper} {Q:Exit → St → Prop} {S:St} (srcs:List Nat) (hd:Zs n ops = true) (h:V P Γ srcs false ops ops.toList S (Q .normal)):AW P B n (.region id ops false) Q S :=
  fun a w μ fp N hR=>wp_region (W0_wpOps hΓ hd hR (V_all h))

def isPure:Con → Bool
  | .pure _=>true
  | .ext _=>true
  | .prel _=>true
  | _=>false
def kindO (Γ:FuncId → Con) (o:Oper):Nat :=
  match o.op with
  | .load ..=>1
  | .store ..=>2
  | .call c=>match c.callee with
    | .builtin .len=>0
    | .builtin .min=>0
    | .builtin .append=>1
    | .value (.func f)=>if isPure (Γ f) then 1 else 2
    | _=>2
  | _=>0
end
end
section
variable {P:Program} {Γ:FuncId → Con} {B:Base} {n:Nat} {S:St} {ds:List D} {vs:List Value} {a:Act} {w:World} {μ:Nat → Nat} {fp:Root → List Nat} {N:Nat}

theorem R.hlt (h:R B n S ds vs a w μ fp N) {b:Nat} {cs:List D} (hc:S.H b = some cs):b < N:=(h.bH b cs hc).1
theorem R.hN (h:R B n S ds vs a w μ fp N):S.H N = none:=by
  cases hc:S.H N with
  | none=>rfl
  | some cs=>exact absurd (h.hlt hc) (Nat.lt_irrefl _)
theorem R.rebag (h:R B n S ds vs a w μ fp N) {ds':List D} {vs':List Value} (hr:RepL μ (Im B w fp) w ds' vs' (fp .bag)) (hb:bndL N ds'):R B n S ds' vs' a w μ fp N:={ h with bg:=hr,bB:=hb }

theorem R.name {d:D} {v:Value} (h:R B n S (d :: ds) (v :: vs) a w μ fp N) {x:Nat} {cs:List D} {cells:Array Value} {f f2:List Nat} (hf:fp .bag = (x :: f) ++ f2) (h2:RepL μ (Im B w fp) w ds vs f2) (hw:Whole w x cells) (hr:RepL μ (Im B w fp) w cs (cells.toList.take cs.length) f) (hcs:bndL N cs)
    {d':D} (hd:∀ μ' I,μ' N = x → Rep μ' I w d' v []) (hdb:bnd (N + 1) d') :
    ∃ fp',R B n ⟨S.T,upd S.H N (some (cs ++ List.replicate (cells.size - cs.length) .any))⟩ (d' :: ds) (v :: vs) a w (upd μ N x) fp' (N + 1):=by
  have hnod:((x :: f) ++ f2).Nodup:=hf ▸ h.nod .bag
  have hn':=List.nodup_append.1 hnod
  have hnx:=List.nodup_cons.1 hn'.1
  obtain ⟨g,g1,g2,g3,g4⟩:=hr.slots hnx.2
  have hNn:=h.hN
  have hNf:=h.hn N hNn
  let fp':Root → List Nat:=fun r=>match r with
    | .bag=>f2
    | .blk b=>if b = N then [x] else fp (.blk b)
    | .cell b i=>if b = N then g i else fp (.cell b i)
    | .slot t=>fp (.slot t)
  have hkey:∀ r y,y ∈ fp' r → (y ∈ fp r ∧ r ≠ .bag ∧ r ≠ .blk N ∧ ∀ i,r ≠ .cell N i) ∨ (r = .bag ∧ y ∈ f2) ∨ (r = .blk N ∧ y = x) ∨ ∃ i,r = .cell N i ∧ y ∈ g i:=by
    intro r y hy
    cases r with
    | slot t=>exact .inl ⟨hy,by simp,by simp,by simp⟩
    | bag=>exact .inr (.inl ⟨rfl,hy⟩)
    | blk b =>
      simp only [fp'] at hy
      split at hy
      · rename_i e;subst e;exact .inr (.inr (.inl ⟨rfl,by simpa using hy⟩))
      · rename_i e;exact .inl ⟨hy,by simp,by simp [e],by simp⟩
    | cell b i =>
      simp only [fp'] at hy
      split at hy
      · rename_i e;subst e;exact .inr (.inr (.inr ⟨i,rfl,hy⟩))
      · rename_i e;exact .inl ⟨hy,by simp,by simp,fun j hj=>by simp at hj;exact e hj.1⟩
  have inbag:∀ y,y ∈ f2 ∨ y = x ∨ (∃ i,y ∈ g i) → y ∈ fp .bag:=by
    intro y hy
    rw [hf]
    rcases hy with hy | rfl | ⟨i,hy⟩
    · exact List.mem_append_right _ hy
    · simp
    · have:=g2 i y hy;simp [this]
  have hm:Moves fp fp':=by
    refine ⟨fun r y hy=>?_,fun r=>?_,fun r r' y hy hz=>?_⟩
    · rcases hkey r y hy with ⟨k,_⟩ | ⟨_,k⟩ | ⟨_,k⟩ | ⟨i,_,k⟩
      · exact ⟨r,k⟩
      · exact ⟨_,inbag y (.inl k)⟩
      · exact ⟨_,inbag y (.inr (.inl k))⟩
      · exact ⟨_,inbag y (.inr (.inr ⟨i,k⟩))⟩
    · cases r with
      | slot t=>exact h.nod _
      | bag=>exact hn'.2.1
      | blk b=>simp only [fp'];split;simp;exact h.nod _
      | cell b i=>simp only [fp'];split;exact g3 i;exact h.nod _
    · have no:∀ r,r ≠ .bag → y ∈ fp r → ¬ (y ∈ f2 ∨ y = x ∨ ∃ i,y ∈ g i):=fun r hr hy hx=>hr (h.dis _ _ y hy (inbag y hx))
      rcases hkey r y hy with ⟨k,k2,_⟩ | ⟨e,k⟩ | ⟨e,k⟩ | ⟨i,e,k⟩ <;> rcases hkey r' y hz with ⟨l,l2,_⟩ | ⟨e',l⟩ | ⟨e',l⟩ | ⟨i',e',l⟩
      · exact h.dis _ _ y k l
      · exact (no r k2 k (.inl l)).elim
      · exact (no r k2 k (.inr (.inl l))).elim
      · exact (no r k2 k (.inr (.inr ⟨i',l⟩))).elim
      · exact (no r' l2 l (.inl k)).elim
      · rw [e,e']
      · subst l;exact (hn'.2.2 y (by simp) y k rfl).elim
      · exact (hn'.2.2 y (by simp [g2 i' y l]) y k rfl).elim
      · exact (no r' l2 l (.inr (.inl k))).elim
      · subst k;exact (hn'.2.2 y (by simp) y l rfl).elim
      · rw [e,e']
      · subst k;exact (hnx.1 (g2 i' y l)).elim
      · exact (no r' l2 l (.inr (.inr ⟨i,k⟩))).elim
      · exact (hn'.2.2 y (by simp [g2 i y k]) y l rfl).elim
      · subst l;exact (hnx.1 (g2 i y k)).elim
      · rw [e,e',g4 i i' y k l]
  have hμ:∀ b,b < N → upd μ N x b = μ b:=fun b hb=>Qd (Nat.ne_of_lt hb)
  have hbb:=h.bB
  simp only [bndL] at hbb
  refine ⟨fp',h.len,h.dfs,h.frm,h.jk,h.own' hm,hm.nod,hm.dis,fun t=>Rep.ren hμ (h.bT t) ((h.tm t).sub hm.sub),?_,?_,?_,fun t=>bnd.mono (Nat.le_succ N) (h.bT t),?_,?_,?_⟩
  · simp only [RepL]
    exact ⟨v,vs,[],f2,rfl,rfl,hd _ _ (Qe ..),RepL.ren hμ hbb.2 (h2.sub hm.sub)⟩
  · intro b cs' hc
    by_cases e:b = N
    · subst e
      dsimp only at hc
      rw [Qe] at hc
      cases hc
      have hlen:cs.length ≤ cells.size:=by have:=hr.length;rw [List.length_take] at this;simp at this;omega
      by_cases h0:cells.size = 0
      · refine .inr (.inl ⟨cells,by rw [Qe];exact hw,by simp;omega,by rw [Qe];simp [fp'],fun i d hd=>?_,fun i hi=>?_⟩)
        · have:cs = []:=List.eq_nil_of_length_eq_zero (by omega)
          subst this
          simp [h0] at hd
        · simp only [fp',if_true]
          refine List.eq_nil_iff_forall_not_mem.2 fun y hy=>?_
          have:=hr.length
          rw [List.length_take] at this
          have hc0:cs = []:=List.eq_nil_of_length_eq_zero (by omega)
          subst hc0
          simp only [RepL] at hr
          have:=g2 i y hy
          rw [hr.2] at this
          cases this
      · refine .inr (.inl ⟨cells,by rw [Qe];exact hw,by simp;omega,by rw [Qe];simp [fp'],fun i d hd=>?_,fun i hi=>?_⟩)
        · by_cases hi:i < cs.length
          · rw [List.getElem?_append_left hi] at hd
            have hr1:=g1 i
            have e1:cs.getD i .any = d:=by rw [List.getD_eq_getElem?_getD,hd];rfl
            have e2:(cells.toList.take cs.length).getD i undef = cells[i]'(by omega):=by
              rw [List.getD_eq_getElem?_getD,List.getElem?_take,if_pos hi];simp;rw [Array.getElem?_eq_getElem (by omega)];rfl
            rw [e1,e2] at hr1
            refine ⟨_,Array.getElem?_eq_getElem (by omega),?_⟩
            simp only [fp',if_true]
            exact Rep.ren hμ (Qi.1 hcs d (List.mem_of_getElem? hd)) (hr1.sub hm.sub)
          · rw [List.getElem?_append_right (by omega),List.getElem?_replicate] at hd
            split at hd
            · cases hd
              have gi:g i = []:=by
                have hr1:=g1 i
                have e1:cs.getD i .any = .any:=by rw [List.getD_eq_getElem?_getD,List.getElem?_eq_none (by omega)];rfl
                rw [e1] at hr1
                simpa [Rep] using hr1
              exact ⟨_,Array.getElem?_eq_getElem (by omega),by simp only [fp',if_true,gi,Rep]⟩
            · cases hd
        · simp only [fp',if_true]
          have hr1:=g1 i
          have e1:cs.getD i .any = .any:=by rw [List.getD_eq_getElem?_getD,List.getElem?_eq_none (by simp at hi;omega)];rfl
          rw [e1] at hr1
          simpa [Rep] using hr1
    · dsimp only at hc
      rw [Qd e] at hc
      have hb:=h.bH b cs' hc
      have:=(h.hp b cs' hc).sub hm.sub (by simp [fp',e]) (by simp [fp',e])
      rcases this with q | ⟨cells2,q1,q2,q3,q4,q5⟩ | ⟨q1,es,ck,q2,q3,q4,q5⟩
      · exact .inl q
      · refine .inr (.inl ⟨cells2,by rw [hμ b hb.1];exact q1,q2,by rw [hμ b hb.1];exact q3,fun i d hd=>?_,q5⟩)
        obtain ⟨y,hy,hr⟩:=q4 i d hd
        exact ⟨y,hy,Rep.ren hμ (Qi.1 hb.2 d (List.mem_of_getElem? hd)) hr⟩
      · exact .inr (.inr ⟨q1,es,ck,by rw [hμ b hb.1];exact q2,q3,by rw [hμ b hb.1];exact q4,q5⟩)
  · intro b hb
    have e:b ≠ N:=by rintro rfl;dsimp only at hb;rw [Qe] at hb;cases hb
    dsimp only at hb
    rw [Qd e] at hb
    have:=h.hn b hb
    simp [fp',e,this]
  · simp only [bndL]
    exact ⟨hdb,bndL.mono (Nat.le_succ N) hbb.2⟩
  · intro b cs' hc
    by_cases e:b = N
    · subst e
      dsimp only at hc
      rw [Qe] at hc
      cases hc
      refine ⟨Nat.lt_succ_self _,Qi.2 fun d hd=>?_⟩
      rcases List.mem_append.1 hd with hd | hd
      · exact bnd.mono (Nat.le_succ _) (Qi.1 hcs d hd)
      · rw [(List.mem_replicate.1 hd).2];simp [bnd]
    · dsimp only at hc
      rw [Qd e] at hc
      have hb:=h.bH b cs' hc
      exact ⟨Nat.lt_succ_of_lt hb.1,bndL.mono (Nat.le_succ N) hb.2⟩
  · exact ⟨Nat.le_succ_of_le h.rn.1,fun b hb=>(hμ b (Nat.lt_of_lt_of_le hb h.rn.1)).trans (h.rn.2 b hb)⟩
theorem R.matE {sz m:Nat} {cs:List D} {v:Value} (h:R B n S (.fr sz m cs :: ds) (v :: vs) a w μ fp N) (hev:N % 2 = 0) :
    ∃ c k μ' fp',m ≤ c ∧ c * sz ≤ m * sz + k ∧ (∀ b,b < N → μ' b = μ b) ∧ R B n ⟨S.T,upd S.H N (some (cs ++ List.replicate k .any))⟩ (.sl N sz 0 m c :: ds) (v :: vs) a w μ' fp' (N + 1):=by
  have hbg:=h.bg
  simp only [RepL] at hbg
  obtain ⟨v',vs',f1,f2,he,hf,h1,h2⟩:=hbg
  cases he
  have hb:=h.bB
  simp only [bndL,bnd] at hb
  simp only [Rep] at h1
  obtain ⟨hmax,hlen,h1⟩:=h1
  rcases h1 with ⟨rfl,rfl,A,rfl⟩ | ⟨b,c,cells,us,f,rfl,hmc,hw,hcs,hcell,hrep,rfl⟩
  · have hc0:cs = []:=List.eq_nil_of_length_eq_zero (by simpa using hlen)
    subst hc0
    refine ⟨0,0,μ,fp,Nat.le_refl _,by simp,fun _ _=>rfl,?_⟩
    have hN:=h.hN
    have hNf:=h.hn N hN
    refine ⟨h.len,h.dfs,h.frm,h.jk,h.own,h.nod,h.dis,h.tm,?_,?_,?_,fun t=>bnd.mono (Nat.le_succ N) (h.bT t),?_,?_,⟨Nat.le_succ_of_le h.rn.1,h.rn.2⟩⟩
    · rw [hf]
      simp only [RepL,List.nil_append]
      exact ⟨_,vs,[],f2,rfl,rfl,by simp only [Rep];exact ⟨trivial,Nat.le_refl _,hmax,⟨A,rfl⟩,.inl trivial⟩,h2⟩
    · intro b cs' hc
      by_cases e:b = N
      · subst e
        dsimp only at hc
        rw [Qe] at hc
        cases hc
        exact .inl ⟨by simp,hNf⟩
      · dsimp only at hc
        rw [Qd e] at hc
        exact h.hp b cs' hc
    · intro b hb'
      have e:b ≠ N:=by rintro rfl;dsimp only at hb';rw [Qe] at hb';cases hb'
      dsimp only at hb'
      rw [Qd e] at hb'
      exact h.hn b hb'
    · simp only [bndL,bnd];exact ⟨⟨Nat.lt_succ_self _,hev⟩,bndL.mono (Nat.le_succ N) hb.2⟩
    · intro b cs' hc
      by_cases e:b = N
      · subst e
        dsimp only at hc
        rw [Qe] at hc
        cases hc
        exact ⟨Nat.lt_succ_self _,by simp [bndL]⟩
      · dsimp only at hc
        rw [Qd e] at hc
        have hb:=h.bH b cs' hc
        exact ⟨Nat.lt_succ_of_lt hb.1,bndL.mono (Nat.le_succ N) hb.2⟩
  · have hul:=hrep.length
    have hle:cs.length ≤ cells.size:=by rw [hlen];exact Nat.le_trans (Nat.mul_le_mul_right sz hmc) hcs
    have hus:us = cells.toList.take cs.length:=by
      apply List.ext_getElem?
      intro i
      rw [List.getElem?_take]
      by_cases hi:i < cs.length
      · rw [if_pos hi]
        obtain ⟨u,hu⟩:∃ u,us[i]? = some u:=⟨_,List.getElem?_eq_getElem (by omega)⟩
        rw [hu]
        have:=hcell i u hu
        simpa using this.symm
      · rw [if_neg hi,List.getElem?_eq_none (by omega)]
    rw [hus] at hrep
    obtain ⟨fp',h'⟩:=h.name hf h2 hw hrep hb.1 (d':=.sl N sz 0 m c) (fun μ' I hμ=>by simp only [Rep];exact ⟨trivial,hmc,hmax,⟨_,rfl⟩,.inr (by rw [hμ])⟩) (by simp [bnd,hev])
    exact ⟨c,cells.size - cs.length,_,fp',hmc,by omega,fun b hb=>Qd (Nat.ne_of_lt hb),h'⟩
theorem R.matBoxE {cs:List D} {v:Value} (h:R B n S (.box cs :: ds) (v :: vs) a w μ fp N) (hev:N % 2 = 0) :
    ∃ μ' fp',R B n ⟨S.T,upd S.H N (some cs)⟩ (.ptr N 0 :: ds) (v :: vs) a w μ' fp' (N + 1):=by
  have hbg:=h.bg
  simp only [RepL] at hbg
  obtain ⟨v',vs',f1,f2,he,hf,h1,h2⟩:=hbg
  cases he
  have hb:=h.bB
  simp only [bndL,bnd] at hb
  simp only [Rep] at h1
  obtain ⟨b,cells,f,rfl,hw,hrep,rfl⟩:=h1
  have hul:=hrep.length
  have e:cells.toList.take cs.length = cells.toList:=List.take_of_length_le (by omega)
  rw [← e] at hrep
  obtain ⟨fp',h'⟩:=h.name hf h2 hw hrep hb.1 (d':=.ptr N 0) (fun μ' I hμ=>by simp only [Rep];exact ⟨trivial,by rw [hμ]⟩) (by simp [bnd,hev])
  have e2:cells.size - cs.length = 0:=by simp at hul;omega
  rw [e2] at h'
  simp only [List.replicate_zero,List.append_nil] at h'
  exact ⟨_,fp',h'⟩
theorem R.up (h:R B n S ds vs a w μ fp N) {N':Nat} (hN:N ≤ N'):R B n S ds vs a w μ fp N' :=
  ⟨h.len,h.dfs,h.frm,h.jk,h.own,h.nod,h.dis,h.tm,h.bg,h.hp,h.hn,fun t=>bnd.mono hN (h.bT t),bndL.mono hN h.bB,fun b cs hc=>⟨Nat.lt_of_lt_of_le (h.bH b cs hc).1 hN,bndL.mono hN (h.bH b cs hc).2⟩,⟨Nat.le_trans h.rn.1 hN,h.rn.2⟩⟩
def ev (N:Nat):Nat:=N + N % 2
def od (N:Nat):Nat:=N + (N + 1) % 2
theorem ev_le (N:Nat):N ≤ ev N:=Nat.le_add_right ..
theorem ev_even (N:Nat):ev N % 2 = 0:=by unfold ev;omega
theorem R.hev (h:R B n S ds vs a w μ fp N):S.H (ev N) = none:=(h.up (ev_le N)).hN
theorem R.mat {sz m:Nat} {cs:List D} {v:Value} (h:R B n S (.fr sz m cs :: ds) (v :: vs) a w μ fp N) :
    ∃ c k μ' fp',m ≤ c ∧ c * sz ≤ m * sz + k ∧ (∀ b,b < ev N → μ' b = μ b) ∧ R B n ⟨S.T,upd S.H (ev N) (some (cs ++ List.replicate k .any))⟩ (.sl (ev N) sz 0 m c :: ds) (v :: vs) a w μ' fp' (ev N + 1):=(h.up (ev_le N)).matE (ev_even N)
theorem R.matBox {cs:List D} {v:Value} (h:R B n S (.box cs :: ds) (v :: vs) a w μ fp N) :
    ∃ μ' fp',R B n ⟨S.T,upd S.H (ev N) (some cs)⟩ (.ptr (ev N) 0 :: ds) (v :: vs) a w μ' fp' (ev N + 1):=(h.up (ev_le N)).matBoxE (ev_even N)
end
end Go.Proofs.YtiilmjojffjhlaaGreatDoor.Vm

