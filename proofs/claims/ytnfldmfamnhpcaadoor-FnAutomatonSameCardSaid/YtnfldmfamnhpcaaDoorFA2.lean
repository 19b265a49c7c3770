/-
  From the machine's contracts to contracts over values; automata read out of memory. No conditions.
-/
import Derived.Test.YtnfldmfamnhpcaaDoorFA0
namespace Go.Proofs.YtnfldmfamnhpcaaDoor.Vm
open Go Go.RowKit Go.Deep
set_option linter.unusedVariables false
set_option linter.unusedSimpArgs false
set_option maxRecDepth 200000

def DV (w:World) (v:Value) (d:D):Prop:=Rep (fun b=>b) (fun x=>x < w.heap.size) w d v []
def DVL (w:World) (vs:List Value) (ds:List D):Prop:=RepL (fun b=>b) (fun x=>x < w.heap.size) w ds vs []
theorem DV.gr {w w':World} {v:Value} {d:D} (h:DV w v d) (g:Gr w w'):DV w' v d:=Rep.mono (fun b hb=>⟨Nat.lt_of_lt_of_le hb g.size,g.block b hb⟩) (by simp) h
theorem DVL.one {w:World} {v:Value} {d:D} (h:DV w v d):DVL w [v] [d]:=by
  unfold DVL;rw [RepL];exact ⟨v,[],[],[],rfl,rfl,h,by simp [RepL]⟩
theorem DVL.two {w:World} {v v':Value} {d d':D} (h:DV w v d) (h':DV w v' d'):DVL w [v,v'] [d,d']:=by
  unfold DVL;rw [RepL];exact ⟨v,[v'],[],[],rfl,rfl,h,DVL.one h'⟩
theorem DV.int (w:World) (n:Int):DV w (.int .i64 n) (.int .i64 n):=by simp [DV,Rep]
theorem DV.str (w:World) (s:List UInt8):DV w (.string (tx s)) (.str s):=by simp [DV,Rep,mkS,tx]
theorem Frm.gr {w w':World} (h:Frm w (fun _=>False) w'):Gr w w':=⟨h.os,h.tape,h.output,h.size,fun k hk=>h.same k hk (fun x=>x)⟩
theorem Pure.up {P:Program} {f:FuncId} {ds:List D} {r:D} (h:Pure P f ds r) (hb:bndL 0 ds) {w:World} {vs:List Value} (hv:DVL w vs ds) :
    Calls P f vs.toArray w fun e w'=>∃ v,e = .returned v ∧ DV w' v (dat r) ∧ Gr w w' :=
  (h _ w vs ⟨0,hb⟩ hv).mono fun e w' ⟨v,fl,he,hr,_,hfl,hf⟩=>⟨v,he,Rep.dat (fun b hb=>hb.elim) (fun b hb=>(hfl b hb).2) hr,Frm.gr hf⟩
theorem Pure.upB {P:Program} {f:FuncId} {ds:List D} {r:Bool} (h:Pure P f ds (.bool r)) (hb:bndL 0 ds) {w:World} {vs:List Value} (hv:DVL w vs ds) :
    Calls P f vs.toArray w fun e w'=>e = .returned (.bool r) ∧ Gr w w' :=
  (h.up hb hv).mono fun e w' ⟨v,he,hr,hg⟩=>⟨by rw [he,show v = .bool r from by simpa [DV,Rep,dat] using hr],hg⟩
theorem DV.slice {w:World} {v:Value} {n:Nat} {cs:List D} (h:DV w v (.list n cs)):∃ A c,v = .slice A n c ∧ n ≤ maxLen ∧ ∀ (k:Nat) d,cs[k]? = some d → ∃ bk o u,A = some ⟨bk,o,none⟩ ∧ w.cell? ⟨bk,o + k,none⟩ = some u ∧ DV w u d:=by
  unfold DV at h
  rw [Rep] at h
  obtain ⟨_,hmax,A,c,us,rfl,hc,hA,hr⟩:=h
  refine ⟨A,c,rfl,hmax,fun k d hk=>?_⟩
  have hne:cs ≠ []:=by rintro rfl;simp at hk
  obtain ⟨b,o,rfl,_,hs⟩:=hA.resolve_left hne
  obtain ⟨u,hu,hrep⟩:=hr.get hk
  exact ⟨b,o,u,rfl,hs.cell hu,hrep⟩
theorem cat_some {α:Type} [Inhabited α] {f:α → List D} {sz:Nat} [Wide f sz] {xs:List α} {k j:Nat} (hk:k < xs.length) (hj:j < sz):∃ d,(cat f xs)[k * sz + j]? = some d ∧ d = (f (nth xs k)).getD j .any:=by
  have hlen:k * sz + j < (cat f xs).length:=by
    rw [Qy]
    have:=Nat.mul_le_mul_right sz (show k + 1 ≤ xs.length from hk)
    rw [Nat.add_mul] at this
    omega
  have h1:=cat_drop_drop (f:=f) xs k j
  rw [cat_get hk hj,List.getD_eq_getElem?_getD,List.getElem?_eq_getElem hlen] at h1
  exact ⟨_,List.getElem?_eq_getElem hlen,h1⟩
theorem DV.ints {w:World} {v:Value} {xs:List Int} (h:DV w v (li cI xs)):∃ A c,v = .slice A xs.length c ∧ IRw w A xs.length c xs:=by
  obtain ⟨A,c,rfl,_,hc⟩:=DV.slice h
  refine ⟨A,c,rfl,rfl,fun k hk=>?_⟩
  obtain ⟨d,hd,e⟩:=cat_some (f:=cI) hk (j:=0) (by decide)
  simp at hd
  obtain ⟨bk,o,u,ha,hu,hr⟩:=hc k d hd
  refine ⟨_,ha,?_⟩
  rw [add0,hu,show u = .int .i64 (nth xs k) from by rw [e] at hr;simpa [DV,Rep,cI] using hr]
  rfl
structure BR (w:World) (A:Option Addr) (N:Nat) (xs:List Bool):Prop where
  len:N = xs.length
  cells:∀ k,k < N → ∃ ad,A = some ad ∧ w.cell? (ad.add k) = some (.bool (nth xs k))
theorem DV.bools {w:World} {v:Value} {xs:List Bool} (h:DV w v (li cB xs)):∃ A c,v = .slice A xs.length c ∧ BR w A xs.length xs:=by
  obtain ⟨A,c,rfl,_,hc⟩:=DV.slice h
  refine ⟨A,c,rfl,rfl,fun k hk=>?_⟩
  obtain ⟨d,hd,e⟩:=cat_some (f:=cB) hk (j:=0) (by decide)
  simp at hd
  obtain ⟨bk,o,u,ha,hu,hr⟩:=hc k d hd
  refine ⟨_,ha,?_⟩
  rw [add0,hu,show u = .bool (nth xs k) from by rw [e] at hr;simpa [DV,Rep,cB] using hr]
structure TR (w:World) (A:Option Addr) (N:Nat) (xs:List Tr4):Prop where
  len:N = xs.length
  cells:∀ k,k < N → ∃ ad,A = some ad ∧ w.cell? (ad.add (k * 4)) = some (.int .i64 (nth xs k).1) ∧ w.cell? ⟨(ad.add (k * 4)).block,(ad.add (k * 4)).off + 1,none⟩ = some (.int .i64 (nth xs k).2.1) ∧
    w.cell? ⟨(ad.add (k * 4)).block,(ad.add (k * 4)).off + 2,none⟩ = some (.int .i64 (nth xs k).2.2.1) ∧ w.cell? ⟨(ad.add (k * 4)).block,(ad.add (k * 4)).off + 3,none⟩ = some (.int .i64 (nth xs k).2.2.2)
theorem DV.edges {w:World} {v:Value} {xs:List Tr4} (h:DV w v (li cT xs)):∃ A c,v = .slice A xs.length c ∧ TR w A xs.length xs:=by
  obtain ⟨A,c,rfl,_,hc⟩:=DV.slice h
  refine ⟨A,c,rfl,rfl,fun k hk=>?_⟩
  have key:∀ j (hj:j < 4) z,(cT (nth xs k)).getD j .any = .int .i64 z → ∃ bk o,A = some ⟨bk,o,none⟩ ∧ w.cell? ⟨bk,o + (k * 4 + j),none⟩ = some (.int .i64 z):=by
    intro j hj z hz
    obtain ⟨d,hd,e⟩:=cat_some (f:=cT) hk hj
    obtain ⟨bk,o,u,ha,hu,hr⟩:=hc _ d hd
    refine ⟨bk,o,ha,?_⟩
    rw [hu,show u = .int .i64 z from by rw [e,hz] at hr;simpa [DV,Rep] using hr]
  obtain ⟨bk,o,ha,h0⟩:=key 0 (by decide) _ rfl
  subst ha
  refine ⟨_,rfl,by rw [add0];exact h0,?_,?_,?_⟩
  · obtain ⟨bk',o',ha,h1⟩:=key 1 (by decide) _ rfl;cases ha;rw [add0];simpa only [Nat.add_assoc] using h1
  · obtain ⟨bk',o',ha,h1⟩:=key 2 (by decide) _ rfl;cases ha;rw [add0];simpa only [Nat.add_assoc] using h1
  · obtain ⟨bk',o',ha,h1⟩:=key 3 (by decide) _ rfl;cases ha;rw [add0];simpa only [Nat.add_assoc] using h1
def AU (w:World) (v:Value) (a:List Int) (b:List Bool) (c:List Tr4):Prop:=DV w v (.st [li cI a,li cB b,li cT c])
theorem AU.gr {w w':World} {v:Value} {a:List Int} {b:List Bool} {c:List Tr4} (h:AU w v a b c) (g:Gr w w'):AU w' v a b c:=DV.gr h g
theorem AU.shape {w:World} {v:Value} {a:List Int} {b:List Bool} {c:List Tr4} (h:AU w v a b c) :
    ∃ A1 c1 A2 c2 A3 c3,v = .agg #[.slice A1 a.length c1,.slice A2 b.length c2,.slice A3 c.length c3] ∧ IRw w A1 a.length c1 a ∧ BR w A2 b.length b ∧ TR w A3 c.length c ∧ DV w (.slice A1 a.length c1) (li cI a) ∧ DV w (.slice A2 b.length c2) (li cB b) ∧ DV w (.slice A3 c.length c3) (li cT c):=by
  unfold AU DV at h
  rw [Rep] at h
  obtain ⟨vs,rfl,h⟩:=h
  rw [RepL] at h
  obtain ⟨v1,vs1,f1,f2,rfl,e1,r1,h⟩:=h
  rw [RepL] at h
  obtain ⟨v2,vs2,f3,f4,rfl,e2,r2,h⟩:=h
  rw [RepL] at h
  obtain ⟨v3,vs3,f5,f6,rfl,e3,r3,h⟩:=h
  rw [RepL] at h
  obtain ⟨rfl,rfl⟩:=h
  obtain ⟨rfl,e1⟩:f1 = [] ∧ f2 = []:=by simpa using e1.symm
  subst e1
  obtain ⟨rfl,e2⟩:f3 = [] ∧ f4 = []:=by simpa using e2.symm
  subst e2
  obtain ⟨rfl,_⟩:f5 = [] ∧ True:=by simpa using e3.symm
  obtain ⟨A1,c1,rfl,i1⟩:=DV.ints r1
  obtain ⟨A2,c2,rfl,i2⟩:=DV.bools r2
  obtain ⟨A3,c3,rfl,i3⟩:=DV.edges r3
  exact ⟨A1,c1,A2,c2,A3,c3,rfl,i1,i2,i3,r1,r2,r3⟩
end Go.Proofs.YtnfldmfamnhpcaaDoor.Vm

