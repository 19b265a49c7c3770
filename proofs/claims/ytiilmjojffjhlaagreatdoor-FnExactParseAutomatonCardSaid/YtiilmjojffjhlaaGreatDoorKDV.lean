/-
  From the machine's contracts to contracts over values; data read out of memory. No conditions.
-/
import Derived.Test.YtiilmjojffjhlaaGreatDoorKCT1
import Derived.Test.YtiilmjojffjhlaaGreatDoorKVm15
import Derived.Test.YtiilmjojffjhlaaGreatDoorKCat
namespace Go.Proofs.YtiilmjojffjhlaaGreatDoor.Vm
open Go Go.RowKit Go.Deep
set_option linter.unusedVariables false
set_option linter.unusedSimpArgs false
set_option maxRecDepth 200000

def DV (w:World) (v:Value) (d:D):Prop:=Rep (fun b=>b) (fun x=>x < w.heap.size) w d v []
def DVL (w:World) (vs:List Value) (ds:List D):Prop:=RepL (fun b=>b) (fun x=>x < w.heap.size) w ds vs []
theorem DV.gr {w w':World} {v:Value} {d:D} (h:DV w v d) (g:Gr w w'):DV w' v d:=Rep.mono (fun b hb=>⟨Nat.lt_of_lt_of_le hb g.size,g.block b hb⟩) (by simp) h
theorem DVL.one {w:World} {v:Value} {d:D} (h:DV w v d):DVL w [v] [d]:=by
  unfold DVL;rw [RepL];exact ⟨v,[],[],[],rfl,rfl,h,by simp [RepL]⟩
theorem DVL.two {w:World} {v v':Value} {d d':D} (h:DV w v d) (h':DV w v' d'):DVL w [v,v'] [d,d']:=by
  unfold DVL;rw [RepL];exact ⟨v,[v'],[],[],rfl,rfl,h,DVL.one h'⟩
theorem DV.int (w:World) (n:Int):DV w (.int .i64 n) (.int .i64 n):=by simp [DV,Rep]
theorem DV.str (w:World) (s:List UInt8):DV w (.string (tx s)) (.str s):=by simp [DV,Rep,mkS,tx]
theorem Frm.gr {w w':World} (h:Frm w (fun _=>False) w'):Gr w w':=⟨h.os,h.tape,h.output,h.size,fun k hk=>h.same k hk (fun x=>x)⟩
theorem Pure.up {P:Program} {f:FuncId} {ds:List D} {r:D} (h:Pure P f ds r) (hb:bndL 0 ds) {w:World} {vs:List Value} (hv:DVL w vs ds) :
    Calls P f vs.toArray w fun e w'=>∃ v,e = .returned v ∧ DV w' v (dat r) ∧ Gr w w' :=
  (h _ w vs ⟨0,hb⟩ hv).mono fun e w' ⟨v,fl,he,hr,_,hfl,hf⟩=>⟨v,he,Rep.dat (fun b hb=>hb.elim) (fun b hb=>(hfl b hb).2) hr,Frm.gr hf⟩
theorem Pure.upB {P:Program} {f:FuncId} {ds:List D} {r:Bool} (h:Pure P f ds (.bool r)) (hb:bndL 0 ds) {w:World} {vs:List Value} (hv:DVL w vs ds) :
    Calls P f vs.toArray w fun e w'=>e = .returned (.bool r) ∧ Gr w w' :=
  (h.up hb hv).mono fun e w' ⟨v,he,hr,hg⟩=>⟨by rw [he,show v = .bool r from by simpa [DV,Rep,dat] using hr],hg⟩
theorem DV.slice {w:World} {v:Value} {n:Nat} {cs:List D} (h:DV w v (.list n cs)):∃ A c,v = .slice A n c ∧ n ≤ maxLen ∧ ∀ (k:Nat) d,cs[k]? = some d → ∃ bk o u,A = some ⟨bk,o,none⟩ ∧ w.cell? ⟨bk,o + k,none⟩ = some u ∧ DV w u d:=by
  unfold DV at h
  rw [Rep] at h
  obtain ⟨_,hmax,A,c,us,rfl,hc,hA,hr⟩:=h
  refine ⟨A,c,rfl,hmax,fun k d hk=>?_⟩
  have hne:cs ≠ []:=by rintro rfl;simp at hk
  obtain ⟨b,o,rfl,_,hs⟩:=hA.resolve_left hne
  obtain ⟨u,hu,hrep⟩:=hr.get hk
  exact ⟨b,o,u,rfl,hs.cell hu,hrep⟩
theorem cat_some {α:Type} [Inhabited α] {f:α → List D} {sz:Nat} [Wide f sz] {xs:List α} {k j:Nat} (hk:k < xs.length) (hj:j < sz):∃ d,(cat f xs)[k * sz + j]? = some d ∧ d = (f (nth xs k)).getD j .any:=by
  have hlen:k * sz + j < (cat f xs).length:=by
    rw [Qz]
    have:=Nat.mul_le_mul_right sz (show k + 1 ≤ xs.length from hk)
    rw [Nat.add_mul] at this
    omega
  have h1:=cat_drop_drop (f:=f) xs k j
  rw [cat_get hk hj,List.getD_eq_getElem?_getD,List.getElem?_eq_getElem hlen] at h1
  exact ⟨_,List.getElem?_eq_getElem hlen,h1⟩
theorem DV.ints {w:World} {v:Value} {xs:List Int} (h:DV w v (li cI xs)):∃ A c,v = .slice A xs.length c ∧ IRw w A xs.length c xs:=by
  obtain ⟨A,c,rfl,_,hc⟩:=DV.slice h
  refine ⟨A,c,rfl,rfl,fun k hk=>?_⟩
  obtain ⟨d,hd,e⟩:=cat_some (f:=cI) hk (j:=0) (by decide)
  simp at hd
  obtain ⟨bk,o,u,ha,hu,hr⟩:=hc k d hd
  refine ⟨_,ha,?_⟩
  rw [add0,hu,show u = .int .i64 (nth xs k) from by rw [e] at hr;simpa [DV,Rep,cI] using hr]
  rfl
end Go.Proofs.YtiilmjojffjhlaaGreatDoor.Vm

