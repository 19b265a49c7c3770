/-
  Contract of strings.Builder's WriteString at this dump, of a builder that the call itself has made. No other conditions.
-/
import Derived.Test.YtiilmjojffjhlaaGreatDoorKBuilder
import Derived.Test.YtiilmjojffjhlaaGreatDoorKShelf
namespace Go.Proofs.YtiilmjojffjhlaaGreatDoor
open Go.RowKit Go.Deep
set_option linter.unusedVariables false

set_option maxRecDepth 100000 in
set_option maxHeartbeats 2000000 in
theorem zagy (w:World) (B b:Nat) (p:Value) (l:List Value) (s:ByteArray) (h:Bld w B b p l) (hp:p = .pointer none ∨ p = self b) (hlen:l.length + s.size ≤ 140737488355328) (hBw:B ≤ w.heap.size) :
    Calls Tryz.prog 43 #[.pointer (some ⟨b,0,none⟩),.string s] w fun e w'=>e = .returned (.tuple #[.int .i64 s.size,.nilIface]) ∧ Bld w' B b (self b) (l ++ Lib.strCells s) ∧ Below B w w':=by
  obtain ⟨ib,hi,hz0,hz1,hz2⟩:=info_parts infoByte
  go_enter Tryz.func43,Tryz.ntmps43
  go_wp2_with fail
  refine (copyCheck_any w B b p l h hp).mono ?_
  rintro e w1 ⟨rfl,⟨hB,v,hb,hown,hne⟩,hk⟩
  have c1:=hb.c 1
  have hbl:=hb.lt
  go_wp2_with (at_builtin;refine Lib.wpList_append_own_string _ rfl _ _ 32 9 rfl B 5 ib Tryz.underlying32 Tryz.underlying9 hi hz0 hz1 hz2 _ _ _ rfl hown s rfl ?c3 ?c4 ?c5 ?_)
  case c3=>unfold maxLen;omega
  case c4=>omega
  case c5=>have:=hk.size;omega
  intro v' w2 hown2 hgrow _
  have hb2:Box w2 b 64 #[self b,v]:=(hgrow.block b hbl (fun e=>hne e.symm)).trans hb
  have d1:=hb2.c 1
  have g1:=hb2.f 1
  obtain ⟨ao,n',cap,rfl⟩:∃ ao n' cap,v' = .slice ao n' cap:=by
    rcases hown2.2 with ⟨hv,_⟩ | ⟨g,cap,cur,hv,_⟩
    · exact ⟨_,_,_,hv⟩
    · exact ⟨_,_,_,hv⟩
  have HR:=Lib.hid (And.intro hown2 (And.intro hgrow (And.intro hk (And.intro hown hb2))))
  clear hown2 hgrow hk hown hb2 hb
  go_wp2_with fail
  go_ret2
  obtain ⟨hown2,hgrow,hk,hown,hb2⟩:=HR.out
  refine ⟨rfl,⟨hB,?_⟩,?_⟩
  · obtain ⟨_,hput⟩:=Lib.BuilderAt.put (T:=64) (e:=5) hB hb2 (bs':=l ++ Lib.strCells s) (by simpa [Lib.strCells_length] using hown2) (by decide)
    exact hput
  · exact (hk.grown hgrow (by have:=hk.size;omega) (fun q hq=>(hown.lt q hq).1)).setCell (p:=⟨b,1,none⟩) hB _

def Wr (w wr:World) (l:List UInt8):Prop:=Gr w wr ∧ ∃ p,(p = .pointer none ∨ p = self w.heap.size) ∧ Bld wr w.heap.size w.heap.size p (Lib.byteCells l)
theorem Wr.fresh (w:World):Wr w (w.alloc (.cells #[.pointer none,.slice none 0 0] 64)) []:=⟨(Gr.refl w).alloc _,_,.inl rfl,Bld.fresh w⟩
theorem Wr.write {w wr:World} {l:List UInt8} (h:Wr w wr l) (s:ByteArray) (hl:l.length + s.size ≤ 140737488355328) :
    Calls Tryz.prog 43 #[.pointer (some ⟨w.heap.size,0,none⟩),.string s] wr fun e w'=>e = .returned (.tuple #[.int .i64 s.size,.nilIface]) ∧ Wr w w' (l ++ s.data.toList):=by
  obtain ⟨hg,p,hp,hb⟩:=h
  refine (zagy wr _ _ p _ s hb hp (by rw [Lib.byteCells_length];exact hl) hg.size).mono ?_
  rintro e w1 ⟨rfl,hb1,hk⟩
  refine ⟨rfl,Below.trans hg hk,_,.inr rfl,?_⟩
  rw [Lib.byteCells_append]
  exact hb1
theorem Wr.write' {w wr:World} {l:List UInt8} (h:Wr w wr l) {b:Nat} (hb:b = w.heap.size) (s:ByteArray) (hl:l.length + s.size ≤ 140737488355328) :
    Calls Tryz.prog 43 #[.pointer (some ⟨b,0,none⟩),.string s] wr fun e w'=>e = .returned (.tuple #[.int .i64 s.size,.nilIface]) ∧ Wr w w' (l ++ s.data.toList):=by
  subst hb;exact h.write s hl
theorem Wr.text {w wr:World} {l:List UInt8} (h:Wr w wr l) :
    Calls Tryz.prog 45 #[.pointer (some ⟨w.heap.size,0,none⟩)] wr fun e w'=>e = .returned (.string ⟨l.toArray⟩) ∧ Gr w w':=by
  obtain ⟨hg,p,hp,hb⟩:=h
  have hbb:Lib.IsBuilder 64 5 w.heap.size w.heap.size (Lib.byteCells l) wr:=by
    rcases hp with rfl | rfl
    · exact .inl hb
    · exact .inr hb
  refine (Tryz.Builder_String_any _ _ _ _ hbb hg.size).mono ?_
  rintro e w1 ⟨rfl,hk⟩
  exact ⟨rfl,Below.trans hg hk⟩
theorem Wr.text' {w wr:World} {l:List UInt8} (h:Wr w wr l) {b:Nat} (hb:b = w.heap.size) :
    Calls Tryz.prog 45 #[.pointer (some ⟨b,0,none⟩)] wr fun e w'=>e = .returned (.string ⟨l.toArray⟩) ∧ Gr w w':=by
  subst hb;exact h.text
theorem Wr.beside {w wr w':World} {l:List UInt8} (h:Wr w wr l) (g:Gr wr w'):Wr w w' l:=by
  obtain ⟨hg,p,hp,hB,v,hb,hown,hne⟩:=h
  refine ⟨hg.trans g,p,hp,hB,v,hb.gr g,?_,hne⟩
  refine ⟨hown.1,hown.2.imp id ?_⟩
  rintro ⟨g',cap,cur,hv,hb',hw,rest⟩
  exact ⟨g',cap,cur,hv,hb',(g.block g' (Box.lt (cs:=cur) hw)).trans hw,rest⟩
end Go.Proofs.YtiilmjojffjhlaaGreatDoor

