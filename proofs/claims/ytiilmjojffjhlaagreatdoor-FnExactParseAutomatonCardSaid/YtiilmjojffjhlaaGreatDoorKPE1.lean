/-
  A line cut at blanks, its numbers read. Conditions: the library's variables hold what the program's text lays, and the text is of at most 2^20 bytes.
-/
import Derived.Test.YtiilmjojffjhlaaGreatDoorKPCc
import Derived.Test.YtiilmjojffjhlaaGreatDoorKCT2
import Derived.Shelf.Vars
import Derived.Lib.LaidTab
namespace Go.Proofs.YtiilmjojffjhlaaGreatDoor
open Go.RowKit Go.Deep
set_option linter.unusedVariables false

structure LibOk (w:World):Prop where
  pow:Pow w
  syn:∃ tp p,w.var? Tryz.prog "strconv.ErrSyntax" = some #[.iface tp p]
  rng:∃ tp p,w.var? Tryz.prog "strconv.ErrRange" = some #[.iface tp p]
  max:∃ m,w.cell? ⟨0,0,none⟩ = some (.int .i64 m)
theorem var_gr {w w':World} {n:String} {c:Array Value} (h:w.var? Tryz.prog n = some c) (g:Gr w w'):w'.var? Tryz.prog n = some c:=by
  unfold World.var? at h ⊢
  cases e:Tryz.prog.globalNamed n with
  | none=>rw [e] at h;cases h
  | some k =>
    rw [e] at h
    simp only [Option.bind_some] at h ⊢
    have hk:k < w.heap.size:=by
      rcases Nat.lt_or_ge k w.heap.size with h1 | h1
      · exact h1
      · rw [Array.getElem?_eq_none h1] at h;cases h
    rw [g.block k hk]
    exact h
theorem LibOk.gr {w w':World} (h:LibOk w) (g:Gr w w'):LibOk w' :=
  ⟨h.pow.gr g,h.syn.imp fun _ k=>k.imp fun _ e=>var_gr e g,h.rng.imp fun _ k=>k.imp fun _ e=>var_gr e g,h.max.imp fun _ e=>g.cell e⟩

theorem splitB_pcs (c:UInt8) (l:List UInt8):Lib.splitB (tx [c]) 0 (Lib.countB (tx l) (tx [c])) (tx l) = (pcs c l []).map tx:=by
  have e:(Lib.splitB (tx [c]) 0 (Lib.countB (tx l) (tx [c])) (tx l)).map (·.data.toList) = pcs c l []:=by rw [Lib.splitB_data];exact split_pcs c _ l (Nat.le_refl _)
  rw [← e,List.map_map]
  conv=>lhs;rw [← List.map_id (Lib.splitB (tx [c]) 0 (Lib.countB (tx l) (tx [c])) (tx l))]
  exact List.map_congr_left fun b _=>rfl
theorem split_any (w:World) (l:List UInt8) (c:UInt8) (hl:l.length ≤ 1048576) (h:LibOk w) :
    Calls Tryz.prog 27 #[.string (tx l),.string (tx [c])] w fun e w'=>e = .returned (.slice (some ⟨w.heap.size,0,none⟩) (pcs c l []).length (pcs c l []).length) ∧ w' = w.alloc (.cells ((pcs c l []).map fun p=>Value.string (tx p)).toArray 9):=by
  obtain ⟨m,hm⟩:=h.max
  refine (Tryz.strings_Split (tx l) (tx [c]) m w (by rw [Zj];omega) hm (by rw [Zj];simp)).mono ?_
  rintro e w' ⟨rfl,rfl⟩
  have hlen:=Lib.splitB_all (tx [c]) (by rw [Zj];simp) 0 _ (tx l) rfl
  rw [← hlen,splitB_pcs,List.length_map,List.map_map]
  exact ⟨rfl,rfl⟩
theorem bytesWorld_gr (w:World) (t:TypeId) (s:ByteArray):Gr w (Lib.bytesWorld w t s):=by
  have h:Gr w (w.drew.alloc (.cells (Lib.bytesCells w t s) t)):=((Gr.refl w).drew).alloc _
  unfold Lib.bytesWorld World.freeze
  rw [if_neg (by decide)]
  refine ⟨h.os,h.tape,h.output,?_,fun k hk=>?_⟩
  · refine Nat.le_trans h.size ?_
    simp
  · rw [← h.block k hk]
    dsimp only
    rw [Array.getElem?_modify,if_neg (by omega)]
theorem atoi_any (w:World) (l:List UInt8) (hl:l.length ≤ 1048576) (h:LibOk w) :
    Calls Tryz.prog 64 #[.string (tx l)] w fun e w'=>∃ v u,e = .returned (.tuple #[.int .i64 v,u]) ∧ (u = .nilIface ∧ wordN l = v ∨ (∃ t p,u = .iface t p) ∧ wordN l = -1) ∧ Gr w w':=by
  cases hr:Lib.atoiAll l with
  | ok v =>
    refine (Tryz.strconv_Atoi_ok (tx l) (by rw [Zj];omega) v hr w).mono ?_
    rintro e w' ⟨rfl,hw⟩
    refine ⟨v,_,rfl,.inl ⟨rfl,by rw [wordN,hr]⟩,?_⟩
    rcases hw with rfl | ⟨t,rfl⟩
    · exact Gr.refl _
    · exact bytesWorld_gr _ _ _
  | range =>
    obtain ⟨tp,p,hv⟩:=h.rng
    refine (Tryz.strconv_Atoi_range_var (tx l) (by rw [Zj];omega) hr tp p w hv).mono ?_
    rintro e w' ⟨N,rfl,_,_,hg⟩
    exact ⟨_,_,rfl,.inr ⟨⟨_,_,rfl⟩,by rw [wordN,hr]⟩,hg⟩
  | _ =>
    obtain ⟨tp,p,hv⟩:=h.syn
    refine (Tryz.strconv_Atoi_syntax_var (tx l) (by rw [Zj];omega) hr tp p w hv).mono ?_
    rintro e w' ⟨N,rfl,_,_,hg⟩
    exact ⟨_,_,rfl,.inr ⟨⟨_,_,rfl⟩,by rw [wordN,hr]⟩,hg⟩

def RdAt (w wr:World) (xs:List Int) (k:Nat):Prop:=Gr w wr ∧ wr.rowIs w.heap.size 3 xs.length (fun i=>if i < k then .int .i64 (nth xs i) else .int .i64 0)
theorem RdAt.zero (w:World) (xs:List Int):RdAt w (w.alloc (.cells (madeCells #[.int .i64 0] xs.length) 3)) xs 0 :=
  ⟨(Gr.refl w).alloc _,(World.rowIs_made _ _ _ _).congr fun i _=>by simp⟩
theorem RdAt.gr {w wr w':World} {xs:List Int} {k:Nat} (h:RdAt w wr xs k) (g:Gr wr w'):RdAt w w' xs k:=⟨h.1.trans g,row_gr h.2 g⟩
theorem RdAt.succ {w wr:World} {xs:List Int} {k:Nat} (h:RdAt w wr xs k) {v:Int} (e:nth xs k = v):RdAt w (wr.setCell ⟨w.heap.size,k,none⟩ (.int .i64 v)) xs (k + 1) :=
  ⟨Below.setCell h.1 (Nat.le_refl _) _,(h.2.set k _).congr fun i _=>by
    by_cases h1:i = k
    · subst h1;simp [e]
    · by_cases h2:i < k
      · rw [if_neg h1,if_pos h2,if_pos (by omega)]
      · rw [if_neg h1,if_neg h2,if_neg (by omega)]⟩
theorem zaet (t:List UInt8):(certR t).length + 1 = (pcs 32 t []).length:=by
  have:=pcs_pos 32 t []
  simp [certR];omega
theorem Jw (c:UInt8):∀ (l acc:List UInt8),(pcs c l acc).length ≤ l.length + 1
  | [],acc=>by simp [pcs]
  | b :: l,acc=>by
    have h1:=Jw c l []
    have h2:=Jw c l (acc ++ [b])
    rw [pcs]
    split <;> simp only [List.length_cons] <;> omega
theorem zadp (c:UInt8):∀ (l acc:List UInt8),∀ p ∈ pcs c l acc,p.length ≤ acc.length + l.length
  | [],acc,p,h=>by simp [pcs] at h;simp [h]
  | b :: l,acc,p,h=>by
    rw [pcs] at h
    split at h
    · rcases List.mem_cons.1 h with rfl | h
      · omega
      · have:=zadp c l [] p h
        simp at this ⊢;omega
    · have:=zadp c l _ p h
      simp at this ⊢;omega
end Go.Proofs.YtiilmjojffjhlaaGreatDoor

