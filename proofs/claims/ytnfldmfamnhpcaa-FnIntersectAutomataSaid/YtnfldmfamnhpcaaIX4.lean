/-
  Intersections: the closure that numbers states. No conditions.
-/
import Derived.Test.YtnfldmfamnhpcaaIX3
namespace Go.Proofs.Ytnfldmfamnhpcaa.Vm
open Go
open List renaming getD_eq_getElem?_getD → zg,drop_one → zd
open Ne renaming symm → zS
noncomputable section
set_option linter.unusedVariables false
set_option linter.unusedSimpArgs false
set_option maxRecDepth 200000

attribute [go_sem] VS stepS isLoad isApp snH AGL
section
variable {P:Program} {B:Base} {n:Nat} {S:St}
theorem R.matMapO2 {B:Base} {n:Nat} {S:St} {ds:List D} {cs:List D} {v:Value} {vs:List Value} {a:Act} {w:World} {μ:Nat → Nat} {fp:Root → List Nat} {N:Nat} (h:R B n S (.om cs :: ds) (v :: vs) a w μ fp N) (hod:N % 2 = 1) :
    ∃ μ' fp',(∀ b,b < N → μ' b = μ b) ∧ R B n ⟨S.T,upd S.H N (some cs)⟩ (.mr N :: ds) (v :: vs) a w μ' fp' (N + 1):=by
  have hbg:=h.bg
  simp only [RepL] at hbg
  obtain ⟨v',vs',f1,f2,he,hf,h1,h2⟩:=hbg
  cases he
  have hbb:=h.bB
  simp only [bndL,bnd,true_and] at hbb
  simp only [Rep] at h1
  obtain ⟨x,es,ck,rfl,hw,hmi,rfl⟩:=h1
  have hNn:=h.hN
  have hNf:=h.hn N hNn
  let fp':Root → List Nat:=fun r=>match r with
    | .bag=>f2
    | .blk b=>if b = N then [x] else fp (.blk b)
    | r=>fp r
  have hnod:(x :: f2).Nodup:=by have:=h.nod .bag;rw [hf] at this;simpa using this
  have hm:Moves fp fp':=by
    have:=Moves.two (fp:=fp) (p:=.blk N) (q:=.bag) (l:=[x]) (m:=f2) h.nod h.dis (by simp) (fun y hy=>.inr (by rw [hf];rcases hy with hy | hy <;> simp_all)) (by simp) (List.nodup_cons.1 hnod).2
      (fun y hy hz=>by simp at hy;subst hy;exact (List.nodup_cons.1 hnod).1 hz)
    have e:fset (fset fp (.blk N) [x]) .bag f2 = fp':=by
      funext r
      cases r <;> simp only [fset,fp'] <;> (try simp) 
    rwa [e] at this
  have hμ:∀ b,b < N → upd μ N x b = μ b:=fun b hb=>Qk (Nat.ne_of_lt hb)
  refine ⟨upd μ N x,fp',hμ,h.len,h.dfs,h.frm,h.jk,h.own' hm,hm.nod,hm.dis,fun t=>Rep.ren hμ (h.bT t) ((h.tm t).sub hm.sub),?_,?_,?_,fun t=>bnd.mono (Nat.le_succ N) (h.bT t),?_,?_,⟨Nat.le_succ_of_le h.rn.1,fun b hb=>(hμ b (Nat.lt_of_lt_of_le hb h.rn.1)).trans (h.rn.2 b hb)⟩⟩
  · simp only [RepL]
    exact ⟨_,vs,[],f2,rfl,rfl,by simp only [Rep];exact ⟨trivial,by rw [Qm]⟩,RepL.ren hμ hbb (h2.sub hm.sub)⟩
  · intro b cs' hc
    by_cases e:b = N
    · subst e
      dsimp only at hc
      rw [Qm] at hc
      cases hc
      exact .inr (.inr ⟨hod,es,ck,by rw [Qm];exact hw,hmi,by rw [Qm];simp [fp'],fun i=>hNf.2 i⟩)
    · dsimp only at hc
      rw [Qk e] at hc
      have hb:=h.bH b cs' hc
      have:=(h.hp b cs' hc).sub hm.sub (by simp [fp',e]) (by simp [fp'])
      rcases this with q | ⟨cells2,q1,q2,q3,q4,q5⟩ | ⟨q1,es2,ck2,q2,q3,q4,q5⟩
      · exact .inl q
      · refine .inr (.inl ⟨cells2,by rw [hμ b hb.1];exact q1,q2,by rw [hμ b hb.1];exact q3,fun i d hd=>?_,q5⟩)
        obtain ⟨y,hy,hr⟩:=q4 i d hd
        exact ⟨y,hy,Rep.ren hμ (Xa.1 hb.2 d (List.mem_of_getElem? hd)) hr⟩
      · exact .inr (.inr ⟨q1,es2,ck2,by rw [hμ b hb.1];exact q2,q3,by rw [hμ b hb.1];exact q4,q5⟩)
  · intro b hb
    have e:b ≠ N:=by rintro rfl;dsimp only at hb;rw [Qm] at hb;cases hb
    dsimp only at hb
    rw [Qk e] at hb
    have:=h.hn b hb
    simp [fp',e,this]
  · simp only [bndL,bnd]
    exact ⟨⟨Nat.lt_succ_self _,hod⟩,bndL.mono (Nat.le_succ N) hbb⟩
  · intro b cs' hc
    by_cases e:b = N
    · subst e
      dsimp only at hc
      rw [Qm] at hc
      cases hc
      obtain ⟨es2,rfl,_⟩:=hmi
      exact ⟨Nat.lt_succ_self _,bndL_mp _ es2⟩
    · dsimp only at hc
      rw [Qk e] at hc
      have hb:=h.bH b cs' hc
      exact ⟨Nat.lt_succ_of_lt hb.1,bndL.mono (Nat.le_succ N) hb.2⟩
theorem AW_matMapCell (b i:Nat) {c:Code} {Q:Exit → St → Prop} {all cs:List D} (hH:S.H b = some all) (hi:all[i]? = some (.om cs))
    (h:∀ b',S.H b' = none → AW P B n c Q ⟨S.T,upd (upd S.H b (some (all.set i (.mr b')))) b' (some cs)⟩):AW P B n c Q S:=fun a w μ fp N hR=>by
  have hil:i < all.length:=by rcases Nat.lt_or_ge i all.length with q | q;exact q;rw [List.getElem?_eq_none q] at hi;cases hi
  obtain ⟨v,fp1,hw,hone,h1⟩:=hR.cellOut hH (.inr ⟨i,_,hi,rfl⟩) hi
  obtain ⟨μ',fp2,hμ0,h2⟩:=(h1.up (od_le N)).matMapO2 (od_odd N)
  have hbN:=Nat.lt_of_lt_of_le (hR.bH b all hH).1 (od_le N)
  have hne:od N ≠ b:=Nat.ne_of_gt hbN
  have hμ:μ' b = μ b:=hμ0 b hbN
  rw [← hμ] at hw
  obtain ⟨fp3,h3⟩:=h2.cellIn (b:=b) (i:=i) (cs:=all.set i .any) (by dsimp only;rw [Qk (zS hne),Qm]) (.inr ⟨i,.any,by rw [List.getElem?_set_self hil],rfl⟩) (by simpa using hil) hone hw
  refine h (od N) hR.hod a w μ' fp3 (od N + 1) ?_
  have e:upd (upd (upd S.H b (some (all.set i .any))) (od N) (some cs)) b (some ((all.set i .any).set i (.mr (od N)))) = upd (upd S.H b (some (all.set i (.mr (od N))))) (od N) (some cs):=by
    funext x
    by_cases e1:x = od N
    · subst e1;rw [Qk hne,Qm,Qm]
    · by_cases e2:x = b
      · subst e2;rw [Qm,Qk e1,Qm,List.set_set]
      · rw [Qk e2,Qk e1,Qk e2,Qk e1,Qk e2]
  dsimp only at h3
  rw [e] at h3
  exact h3
end
structure IN where
  v9:Nat
  mb:Nat
  v10:Nat
@[go_sem] def IN.args (m:IN):List D:=[.ptr m.v9 0,.ptr m.v10 0]
def IN.ne (m:IN):Prop:=¬ m.v9 = m.v10 ∧ ¬ m.v9 = m.mb ∧ ¬ m.v10 = m.mb
structure IM (m:IN) (L:List (List Int)) (H:Hp):Prop where
  h9:H m.v9 = some [.mr m.mb]
  hm:H m.mb = some (mp (esT 0 L))
  h10:H m.v10 = some [.fr 3 L.length (cat cK (L.map tr3))]
theorem esT_fst:∀ (n:Nat) (d:List (List Int)),(esT n d).map Prod.fst = d
  | _,[]=>rfl
  | n,x :: d=>by rw [esT,List.map_cons,esT_fst (n + 1) d]
theorem IM.uniq {m:IN} {L L':List (List Int)} {H:Hp} (h:IM m L H) (k:IM m L' H):L = L':=by
  have h1:=h.hm
  rw [k.hm] at h1
  have h2:=congrArg (fun o=>(mpE (o.getD [])).map Prod.fst) h1
  simp only [Option.getD_some,Ju,esT_fst] at h2
  exact h2.symm
def XPre (m:IN) (n n':Nat) (t:List Int) (L:List (List Int)) (H:Hp):Prop:=IM m L H ∧ TriOk n n' L ∧ TriIn n n' t ∧ n ≤ 64 ∧ n' ≤ 64
open Classical in
def fixL (m:IN) (n n':Nat) (t:List Int) (H:Hp):List (List Int):=if h:∃ L,XPre m n n' t L H then h.choose else []
theorem fixL_eq {m:IN} {n n':Nat} {t:List Int} {L:List (List Int)} {H:Hp} (h:XPre m n n' t L H):fixL m n n' t H = L:=by
  have hex:∃ L,XPre m n n' t L H:=⟨L,h⟩
  unfold fixL
  rw [dif_pos hex]
  exact hex.choose_spec.1.uniq h.1
def fixI (m:IN) (n n':Nat) (t:List Int) (H:Hp):Int:=((addT (fixL m n n' t H) t).idxOf t:Int)
open Classical in
def fixH (m:IN) (n n':Nat) (t:List Int) (H:Hp):Hp:=if t ∈ fixL m n n' t H then H else upd (upd H m.mb (some (mp (esT 0 (fixL m n n' t H ++ [t]))))) m.v10 (some [.fr 3 ((fixL m n n' t H).length + 1) (cat cK ((fixL m n n' t H ++ [t]).map tr3))])
theorem fixI_eq {m:IN} {n n':Nat} {t:List Int} {L:List (List Int)} {H:Hp} (h:XPre m n n' t L H):fixI m n n' t H = ((addT L t).idxOf t:Int):=by rw [fixI,fixL_eq h]
theorem fixH_im {m:IN} (hne:m.ne) {n n':Nat} {t:List Int} {L:List (List Int)} {H:Hp} (h:XPre m n n' t L H):IM m (addT L t) (fixH m n n' t H):=by
  obtain ⟨n1,n2,n3⟩:=hne
  rw [fixH,fixL_eq h]
  split
  · rename_i c;rw [addT_old c];exact h.1
  · rename_i c
    rw [addT_new c]
    obtain ⟨⟨h9,hm,h10⟩,_⟩:=h
    exact ⟨by rw [Qk n1,Qk n2];exact h9,by rw [Qk (zS n3),Qm],by rw [Qm,List.length_append];rfl⟩
theorem fixH_ne {m:IN} {n n':Nat} {t:List Int} {H:Hp} {b:Nat} (h1:¬ b = m.mb) (h2:¬ b = m.v10):fixH m n n' t H b = H b:=by
  rw [fixH]
  split
  · rfl
  · rw [Qk h2,Qk h1]
@[go_sem] def fixC (m:IN) (n n':Nat):Con:=.gen fun args H=>match args with
  | .st [.int .i64 p,.int .i64 q,.int .i64 f] :: rest=>(rest = m.args ∧ ∃ L,XPre m n n' [p,q,f] L H,.int .i64 (fixI m n n' [p,q,f] H),fixH m n n' [p,q,f] H)
  | _=>(False,.any,H)
theorem map_TI:mapTI Try.prog 87:=by
  refine ⟨63,3,(Try.prog.info? 3).get (by kernel_rfl),by kernel_rfl,⟨⟨Try.prog.fieldsOf 63,by kernel_rfl⟩,fun em a b c w=>?_,fun a b c a' b' c' w=>?_⟩,(Option.some_get _).symm,by kernel_rfl⟩
  · have hI:=Try.underlying3
    have hS:Try.prog.underlying 63 = some (.struct (Try.prog.fieldsOf 63)):=by kernel_rfl
    have hz:∀ w,(sizeOf 3).run Try.prog w = .ok 1 w:=Zr (P:=Try.prog) (ty3)
    have ha:∀ w,(isAgg 3).run Try.prog w = .ok false w:=zakp (P:=Try.prog) (ty3)
    have hk:∀ n (k:Int) w,(Instr.checkKey em (n + 1) 3 (.int .i64 k)).run Try.prog w = .ok () w:=fun n k w=>by simp [Instr.checkKey,run_underlying hI]
    rw [show (10000:Nat) = 9998 + 1 + 1 from rfl,Instr.checkKey]
    simp only [Sem.run_bind,run_underlying hS,Result.andThen_ok]
    rw [← Array.forIn_toList]
    simp only [Program.fieldsOf,Try.underlying63]
    simp [part,ha,hk,List.forIn_cons]
  · have hI:=Try.underlying3
    have hS:Try.prog.underlying 63 = some (.struct (Try.prog.fieldsOf 63)):=by kernel_rfl
    have hp:Try.prog.stoodInHeld 63 = false:=by kernel_rfl
    rw [Op.equal,show Op.maxDepth = 9999 + 1 from rfl,run_equalIn_agg w 9999 _ _ _ hS hp]
    have hz:∀ w,(sizeOf 3).run Try.prog w = .ok 1 w:=Zr (P:=Try.prog) (ty3)
    have ha:∀ w,(isAgg 3).run Try.prog w = .ok false w:=zakp (P:=Try.prog) (ty3)
    simp only [Program.fieldsOf,Try.underlying63]
    simp [Op.eqFields,part,ha,run_equalIn_int w 9998 _ _ _ _ _ hI]
    by_cases h1:a = a' <;> by_cases h2:b = b' <;> by_cases h3:c = c' <;> simp [h1,h2,h3]
@[go_sem] theorem map_TIt:mapTI Try.prog 87 = True:=eq_true map_TI
@[go_sem] theorem tyMapT:τ Try.prog 87 = some ⟨1,8,false,[.any],.map 63 3⟩:=by kernel_rfl
@[go_sem] theorem unMapT:Try.prog.underlying 87 = some (.map 63 3):=by kernel_rfl
set_option maxHeartbeats 4000000 in
theorem find_old {m:IN} (hne:m.ne) {n n':Nat} {p q f:Int} {L:List (List Int)} {H:Hp} (h:XPre m n n' [p,q,f] L H) (hmem:[p,q,f] ∈ L):Spec Try.prog 54 (.st [.int .i64 p,.int .i64 q,.int .i64 f] :: m.args) H (.int .i64 (L.idxOf [p,q,f]:Int)) H:=by
  obtain ⟨⟨h9,hm,h10⟩,hOk,hIn,hn,hn'⟩:=id h
  obtain ⟨n1,n2,n3⟩:=id hne
  have hlen:=hOk.len hn hn'
  have htk:=esT_tri 0 L hOk.2
  have hfs:=find_some hmem
  refine Spec.of_walk Try.func54 rfl (by simp [Try.f54,IN.args]) fun B=>?_
  (repeat' (first
 | refine Qu ?_
 | refine Qc (id:=0) Jf [] (by kernel_rfl) ?_;simp [-zg,-zd,↓Qb,↓Qa,go_sem];try ((refine Xu 3 rfl fun v3 q3=>?_);(dsimp only at q3);(have w1:¬ v3 = m.v9:=(by rintro rfl;rw [h9] at q3;cases q3));(have w2:¬ v3 = m.mb:=(by rintro rfl;rw [hm] at q3;cases q3));(have w3:¬ v3 = m.v10:=(by rintro rfl;rw [h10] at q3;cases q3)))
 | refine Qc (id:=1) Jf [] (by kernel_rfl) ?_;simp [-zg,-zd,↓Qb,↓Qa,go_sem,h9,hm,h10,n1,n2,n3,zS n1,zS n2,zS n3,w1,w2,w3,zS w1,zS w2,zS w3,hfs,htk,Ju,zalz]
 | refine Qc (id:=2) Jf [] (by kernel_rfl) ?_;simp [-zg,-zd,↓Qb,↓Qa,go_sem]
 | refine Qc (id:=3) Jf [] (by kernel_rfl) ?_;simp [-zg,-zd,↓Qb,↓Qa,go_sem]
 | refine Qc (id:=4) Jf [] (by kernel_rfl) ?_;simp [-zg,-zd,↓Qb,↓Qa,go_sem]
 | refine Qc (id:=5) Jf [] (by kernel_rfl) ?_;simp [-zg,-zd,↓Qb,↓Qa,go_sem]
 | refine Qc (id:=6) Jf [] (by kernel_rfl) ?_;simp [-zg,-zd,↓Qb,↓Qa,go_sem]
 | refine Qd (c:=.tmp 14) ?_;simp [-zg,-zd,↓Qb,↓Qa,go_sem];try first | (refine ⟨?_,?_⟩ <;> refine zA ?_) | (refine ⟨fun c14=>?_,fun c14=>?_⟩ <;> (try simp [B_iff,B_not] at c14))
 | (refine Qe ?_)
 | (refine Qt ?_;simp [-zg,-zd,↓Qb,↓Qa,go_sem])
 | (refine Qs ?_;simp [-zg,-zd,↓Qb,↓Qa,go_sem])
 | (refine Qv ?_;simp [-zg,-zd,↓Qb,↓Qa,go_sem,Try.results54])
 | (intro hx;refine zA ?_)
 | (refine ⟨?_,?_⟩ <;> refine zA ?_)
 | (intro hx;constructor <;> intro hs)
 | (constructor <;> intro hs)
 | (refine ⟨?_,fun hs=>?_⟩;refine zA ?_)
 | (refine ⟨fun hs=>?_,?_⟩;rotate_left;refine zA ?_;rotate_left)))
  all_goals (first
 | (intro b cs hbc;by_cases e1:b = v3;(rw [e1,q3] at hbc;cases hbc);rw [if_neg e1];exact hbc)
 | skip)

set_option maxHeartbeats 4000000 in
theorem find_new {m:IN} (hne:m.ne) {n n':Nat} {p q f:Int} {L:List (List Int)} {H:Hp} (h:XPre m n n' [p,q,f] L H) (hmem:¬ [p,q,f] ∈ L):Spec Try.prog 54 (.st [.int .i64 p,.int .i64 q,.int .i64 f] :: m.args) H (.int .i64 (L.length:Int)) (upd (upd H m.mb (some (mp (esT 0 (L ++ [[p,q,f]]))))) m.v10 (some [.fr 3 (L.length + 1) (cat cK ((L ++ [[p,q,f]]).map tr3))])):=by
  obtain ⟨⟨h9,hm,h10⟩,hOk,hIn,hn,hn'⟩:=id h
  obtain ⟨n1,n2,n3⟩:=id hne
  have hlen:=hOk.len hn hn'
  have htk:=esT_tri 0 L hOk.2
  have hfs:=find_none hmem
  have hput:=put_new hmem
  refine Spec.of_walk Try.func54 rfl (by simp [Try.f54,IN.args]) fun B=>?_
  (repeat' (first
 | refine Qu ?_
 | refine Qc (id:=0) Jf [] (by kernel_rfl) ?_;simp [-zg,-zd,↓Qb,↓Qa,go_sem];try ((refine Xu 3 rfl fun v3 q3=>?_);(dsimp only at q3);(have w1:¬ v3 = m.v9:=(by rintro rfl;rw [h9] at q3;cases q3));(have w2:¬ v3 = m.mb:=(by rintro rfl;rw [hm] at q3;cases q3));(have w3:¬ v3 = m.v10:=(by rintro rfl;rw [h10] at q3;cases q3)))
 | refine Qc (id:=1) Jf [] (by kernel_rfl) ?_;simp [-zg,-zd,↓Qb,↓Qa,go_sem,h9,hm,h10,n1,n2,n3,zS n1,zS n2,zS n3,w1,w2,w3,zS w1,zS w2,zS w3,hfs,htk,Ju,zalz];try ((refine Xs m.v10 0 (all:=[.fr 3 L.length (cat cK (L.map tr3))]) (by simp [upd,h10,w3,zS w3]) rfl fun sb cx jx qs hcx hjx=>?_);(dsimp only at qs);(have u1:¬ sb = v3:=(by rintro rfl;simp [upd] at qs));(have u0:H sb = none:=(by simpa [upd,u1] using qs));(have u2:¬ sb = m.v9:=(by rintro rfl;rw [h9] at u0;cases u0));(have u3:¬ sb = m.mb:=(by rintro rfl;rw [hm] at u0;cases u0));(have u4:¬ sb = m.v10:=(by rintro rfl;rw [h10] at u0;cases u0));(refine Qq (fun H3=>H3 m.v9 = some [.mr m.mb] ∧ H3 m.mb = some (mp (esT 0 L)) ∧ H3 m.v10 = some [.sl sb 3 0 L.length cx] ∧ H3 sb = some (cat cK (L.map tr3) ++ List.replicate jx D.any) ∧ H3 v3 = some [.int .i64 p,.int .i64 q,.int .i64 f] ∧ ∀ b,¬ b = sb → ¬ b = m.v10 → ¬ b = v3 → H3 b = H b) ⟨by simp [upd,h9,n1,u2,zS u2,w1,zS w1],by simp [upd,hm,n3,zS n3,u3,zS u3,w2,zS w2],by simp [upd,u4,zS u4],by simp [upd],by simp [upd,u1,zS u1,w3],fun b e1 e2 e3=>by simp [upd,e1,e2,e3]⟩ fun H3 ⟨z1,z2,z3,z4,z5,z6⟩=>?_))
 | refine Qc (id:=2) Jf [] (by kernel_rfl) ?_;simp [-zg,-zd,↓Qb,↓Qa,go_sem]
 | refine Qc (id:=3) Jf [] (by kernel_rfl) ?_;simp [-zg,-zd,↓Qb,↓Qa,go_sem,z1,z2,z3,z4,z5]
 | refine Qc (id:=4) Jf [] (by kernel_rfl) ?_;simp [-zg,-zd,↓Qb,↓Qa,go_sem,z1,z2,z3,z4,z5,n1,n2,n3,zS n1,zS n2,zS n3,htk,Ju,zalz,hput];try ((refine Zh m.v10 0 (b':=sb) (sz:=3) (m:=L.length) (cp:=cx) (all:=[.sl sb 3 0 L.length cx]) (cs:=cat cK (L.map tr3) ++ List.replicate jx D.any) (by simp [upd,z3,n3,zS n3]) rfl (zS u4) (by simp [upd,z4,u3,zS u3]) (by omega) (by simp [Qx]) (by simp [Qx];omega) ?_);(have htk2:(cat cK (L.map tr3) ++ List.replicate jx D.any).take (L.length * 3) = cat cK (L.map tr3):=(by have:=Zl (f:=cK) (L.map tr3) (List.replicate jx D.any);rwa [List.length_map] at this));(refine Qq (fun H4=>H4 m.v9 = some [.mr m.mb] ∧ H4 m.mb = some (mp (esT 0 (L ++ [[p,q,f]]))) ∧ H4 m.v10 = some [.fr 3 L.length (cat cK (L.map tr3))] ∧ H4 v3 = some [.int .i64 p,.int .i64 q,.int .i64 f] ∧ ∀ b,¬ b = sb → ¬ b = m.v10 → ¬ b = v3 → ¬ b = m.mb → H4 b = H b) ⟨by simp [upd,z1,n1,n2,u2,zS u2],by simp [upd,n3,zS n3,u3,zS u3],by simp [upd,htk2],by simp [upd,z5,w3,w2,u1,zS u1],fun b e1 e2 e3 e4=>by simp [upd,e1,e2,e4,z6 b e1 e2 e3]⟩ fun H4 ⟨y1,y2,y3,y5,y6⟩=>?_))
 | refine Qc (id:=5) Jf [] (by kernel_rfl) ?_;simp [-zg,-zd,↓Qb,↓Qa,go_sem,y1,y2,y3,y5,w1,w2,w3,zS w1,zS w2,zS w3,mk3k,ss3k,snoc_cK,(show L.length ≤ 9223372036854775806 by omega),(show 2 * (L.length + 1) * 24 ≤ 281474976710656 by omega),(show L.length + 1 ≤ 9223372036854775807 by omega)]
 | refine Qc (id:=6) Jf [] (by kernel_rfl) ?_;simp [-zg,-zd,↓Qb,↓Qa,go_sem]
 | refine Qd (c:=.tmp 14) ?_;simp [-zg,-zd,↓Qb,↓Qa,go_sem];try first | (refine ⟨?_,?_⟩ <;> refine zA ?_) | (refine ⟨fun c14=>?_,fun c14=>?_⟩ <;> (try simp [B_iff,B_not] at c14))
 | (refine Qe ?_)
 | (refine Qt ?_;simp [-zg,-zd,↓Qb,↓Qa,go_sem])
 | (refine Qs ?_;simp [-zg,-zd,↓Qb,↓Qa,go_sem])
 | (refine Qv ?_;simp [-zg,-zd,↓Qb,↓Qa,go_sem,Try.results54])
 | (intro hx;refine zA ?_)
 | (refine ⟨?_,?_⟩ <;> refine zA ?_)
 | (intro hx;constructor <;> intro hs)
 | (constructor <;> intro hs)
 | (refine ⟨?_,fun hs=>?_⟩;refine zA ?_)
 | (refine ⟨fun hs=>?_,?_⟩;rotate_left;refine zA ?_;rotate_left)))
  all_goals (first
 | (intro b cs hbc;by_cases e2:b = m.v10;(rw [if_pos e2] at hbc ⊢;exact hbc);rw [if_neg e2] at hbc ⊢;by_cases e4:b = m.mb;(rw [if_pos e4] at hbc;rw [e4,y2];exact hbc);rw [if_neg e4] at hbc;by_cases e1:b = sb;(rw [e1,u0] at hbc;cases hbc);by_cases e3:b = v3;(rw [e3,q3] at hbc;cases hbc);rw [y6 b e1 e2 e3 e4];exact hbc)
 | skip)

theorem find_specI {m:IN} (hne:m.ne) {n n':Nat} {p q f:Int} {L:List (List Int)} {H:Hp} (h:XPre m n n' [p,q,f] L H):Spec Try.prog 54 (.st [.int .i64 p,.int .i64 q,.int .i64 f] :: m.args) H (.int .i64 (fixI m n n' [p,q,f] H)) (fixH m n n' [p,q,f] H):=by
  rw [fixI_eq h,fixH,fixL_eq h]
  by_cases hmem:[p,q,f] ∈ L
  · rw [if_pos hmem,addT_old hmem];exact find_old hne h hmem
  · rw [if_neg hmem,addT_idx hmem];exact find_new hne h hmem
theorem fixC_ok {m:IN} (hne:m.ne) (n n':Nat):ConOk Try.prog 54 (fixC m n n'):=by
  refine ⟨Qp Try.func54 (by decide) rfl,fun args H h=>?_⟩
  revert h
  dsimp only
  split
  · rintro ⟨rfl,L,h⟩
    exact find_specI hne h
  · intro h
    exact h.elim
end
end Go.Proofs.Ytnfldmfamnhpcaa.Vm

