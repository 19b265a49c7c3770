import Derived.Test.YtiilmjojffjhlaaGreatDoorPCc
import Derived.Test.YtiilmjojffjhlaaGreatDoorCT2
import Derived.Shelf.Vars
import Derived.Lib.LaidTab
import Derived.Test.YtiilmjojffjhlaaGreatDoorDV
import Derived.Test.YtiilmjojffjhlaaGreatDoorVm16
import Derived.Test.YtiilmjojffjhlaaGreatDoorQ1
/-
  A line cut at blanks, its numbers read. Conditions: the library's variables hold what the program's text lays, and the text is of at most 2^20 bytes.
-/
namespace Go.Proofs.YtiilmjojffjhlaaGreatDoor
open Go.RowKit Go.Deep
set_option linter.unusedVariables false

structure LibOk (w:World):Prop where
  pow:Pow w
  syn:∃ tp p,w.var? Tryz.prog "strconv.ErrSyntax" = some #[.iface tp p]
  rng:∃ tp p,w.var? Tryz.prog "strconv.ErrRange" = some #[.iface tp p]
  max:∃ m,w.cell? ⟨0,0,none⟩ = some (.int .i64 m)
theorem var_gr {w w':World} {n:String} {c:Array Value} (h:w.var? Tryz.prog n = some c) (g:Gr w w'):w'.var? Tryz.prog n = some c:=by
  unfold World.var? at h ⊢
  cases e:Tryz.prog.globalNamed n with
  | none=>rw [e] at h;cases h
  | some k =>
    rw [e] at h
    simp only [Option.bind_some] at h ⊢
    have hk:k < w.heap.size:=by
      rcases Nat.lt_or_ge k w.heap.size with h1 | h1
      · exact h1
      · rw [Array.getElem?_eq_none h1] at h;cases h
    rw [g.block k hk]
    exact h
theorem LibOk.gr {w w':World} (h:LibOk w) (g:Gr w w'):LibOk w' :=
  ⟨h.pow.gr g,h.syn.imp fun _ k=>k.imp fun _ e=>var_gr e g,h.rng.imp fun _ k=>k.imp fun _ e=>var_gr e g,h.max.imp fun _ e=>g.cell e⟩

theorem splitB_pcs (c:UInt8) (l:List UInt8):Lib.splitB (tx [c]) 0 (Lib.countB (tx l) (tx [c])) (tx l) = (pcs c l []).map tx:=by
  have e:(Lib.splitB (tx [c]) 0 (Lib.countB (tx l) (tx [c])) (tx l)).map (·.data.toList) = pcs c l []:=by rw [Lib.splitB_data];exact split_pcs c _ l (Nat.le_refl _)
  rw [← e,List.map_map]
  conv=>lhs;rw [← List.map_id (Lib.splitB (tx [c]) 0 (Lib.countB (tx l) (tx [c])) (tx l))]
  exact List.map_congr_left fun b _=>rfl
theorem split_any (w:World) (l:List UInt8) (c:UInt8) (hl:l.length ≤ 1048576) (h:LibOk w) :
    Calls Tryz.prog 27 #[.string (tx l),.string (tx [c])] w fun e w'=>e = .returned (.slice (some ⟨w.heap.size,0,none⟩) (pcs c l []).length (pcs c l []).length) ∧ w' = w.alloc (.cells ((pcs c l []).map fun p=>Value.string (tx p)).toArray 9):=by
  obtain ⟨m,hm⟩:=h.max
  refine (Tryz.strings_Split (tx l) (tx [c]) m w (by rw [Zx];omega) hm (by rw [Zx];simp)).mono ?_
  rintro e w' ⟨rfl,rfl⟩
  have hlen:=Lib.splitB_all (tx [c]) (by rw [Zx];simp) 0 _ (tx l) rfl
  rw [← hlen,splitB_pcs,List.length_map,List.map_map]
  exact ⟨rfl,rfl⟩
theorem bytesWorld_gr (w:World) (t:TypeId) (s:ByteArray):Gr w (Lib.bytesWorld w t s):=by
  have h:Gr w (w.drew.alloc (.cells (Lib.bytesCells w t s) t)):=((Gr.refl w).drew).alloc _
  unfold Lib.bytesWorld World.freeze
  rw [if_neg (by decide)]
  refine ⟨h.os,h.tape,h.output,?_,fun k hk=>?_⟩
  · refine Nat.le_trans h.size ?_
    simp
  · rw [← h.block k hk]
    dsimp only
    rw [Array.getElem?_modify,if_neg (by omega)]
theorem atoi_any (w:World) (l:List UInt8) (hl:l.length ≤ 1048576) (h:LibOk w) :
    Calls Tryz.prog 64 #[.string (tx l)] w fun e w'=>∃ v u,e = .returned (.tuple #[.int .i64 v,u]) ∧ (u = .nilIface ∧ wordN l = v ∨ (∃ t p,u = .iface t p) ∧ wordN l = -1) ∧ Gr w w':=by
  cases hr:Lib.atoiAll l with
  | ok v =>
    refine (Tryz.strconv_Atoi_ok (tx l) (by rw [Zx];omega) v hr w).mono ?_
    rintro e w' ⟨rfl,hw⟩
    refine ⟨v,_,rfl,.inl ⟨rfl,by rw [wordN,hr]⟩,?_⟩
    rcases hw with rfl | ⟨t,rfl⟩
    · exact Gr.refl _
    · exact bytesWorld_gr _ _ _
  | range =>
    obtain ⟨tp,p,hv⟩:=h.rng
    refine (Tryz.strconv_Atoi_range_var (tx l) (by rw [Zx];omega) hr tp p w hv).mono ?_
    rintro e w' ⟨N,rfl,_,_,hg⟩
    exact ⟨_,_,rfl,.inr ⟨⟨_,_,rfl⟩,by rw [wordN,hr]⟩,hg⟩
  | _ =>
    obtain ⟨tp,p,hv⟩:=h.syn
    refine (Tryz.strconv_Atoi_syntax_var (tx l) (by rw [Zx];omega) hr tp p w hv).mono ?_
    rintro e w' ⟨N,rfl,_,_,hg⟩
    exact ⟨_,_,rfl,.inr ⟨⟨_,_,rfl⟩,by rw [wordN,hr]⟩,hg⟩

def RdAt (w wr:World) (xs:List Int) (k:Nat):Prop:=Gr w wr ∧ wr.rowIs w.heap.size 3 xs.length (fun i=>if i < k then .int .i64 (nth xs i) else .int .i64 0)
theorem RdAt.zero (w:World) (xs:List Int):RdAt w (w.alloc (.cells (madeCells #[.int .i64 0] xs.length) 3)) xs 0 :=
  ⟨(Gr.refl w).alloc _,(World.rowIs_made _ _ _ _).congr fun i _=>by simp⟩
theorem RdAt.gr {w wr w':World} {xs:List Int} {k:Nat} (h:RdAt w wr xs k) (g:Gr wr w'):RdAt w w' xs k:=⟨h.1.trans g,row_gr h.2 g⟩
theorem RdAt.succ {w wr:World} {xs:List Int} {k:Nat} (h:RdAt w wr xs k) {v:Int} (e:nth xs k = v):RdAt w (wr.setCell ⟨w.heap.size,k,none⟩ (.int .i64 v)) xs (k + 1) :=
  ⟨Below.setCell h.1 (Nat.le_refl _) _,(h.2.set k _).congr fun i _=>by
    by_cases h1:i = k
    · subst h1;simp [e]
    · by_cases h2:i < k
      · rw [if_neg h1,if_pos h2,if_pos (by omega)]
      · rw [if_neg h1,if_neg h2,if_neg (by omega)]⟩
theorem zajv (t:List UInt8):(certR t).length + 1 = (pcs 32 t []).length:=by
  have:=pcs_pos 32 t []
  simp [certR];omega
theorem Ua (c:UInt8):∀ (l acc:List UInt8),(pcs c l acc).length ≤ l.length + 1
  | [],acc=>by simp [pcs]
  | b :: l,acc=>by
    have h1:=Ua c l []
    have h2:=Ua c l (acc ++ [b])
    rw [pcs]
    split <;> simp only [List.length_cons] <;> omega
theorem zaia (c:UInt8):∀ (l acc:List UInt8),∀ p ∈ pcs c l acc,p.length ≤ acc.length + l.length
  | [],acc,p,h=>by simp [pcs] at h;simp [h]
  | b :: l,acc,p,h=>by
    rw [pcs] at h
    split at h
    · rcases List.mem_cons.1 h with rfl | h
      · omega
      · have:=zaia c l [] p h
        simp at this ⊢;omega
    · have:=zaia c l _ p h
      simp at this ⊢;omega
end Go.Proofs.YtiilmjojffjhlaaGreatDoor

/-
  The program's reading of a line: its first word and its numbers. Conditions: the library's variables hold what the program's text lays, and the line is of at most 2^20 bytes.
-/
namespace Go.Proofs.YtiilmjojffjhlaaGreatDoor
open Go.RowKit Go.Deep
set_option linter.unusedVariables false

theorem split_row (w:World) (l:List UInt8) (n:Nat) (hn:(pcs 32 l []).length = n + 1) (hl:l.length ≤ 1048576) (h:LibOk w) :
    Calls Tryz.prog 27 #[.string (tx l),.string ⟨#[32]⟩] w fun e w'=>∃ g,e = .returned (.slice (some ⟨g,0,none⟩) (n + 1) (n + 1)) ∧ Gr w w' ∧ w'.rowIs g 9 (n + 1) (fun i=>.string (tx ((pcs 32 l []).getD i []))):=by
  refine (split_any w l 32 hl h).mono ?_
  rintro e w' ⟨rfl,rfl⟩
  rw [hn]
  refine ⟨_,rfl,(Gr.refl w).alloc _,?_⟩
  have:=World.rowIs_alloc w ((pcs 32 l []).map fun p=>Value.string (tx p)).toArray 9 (fun i=>.string (tx ((pcs 32 l []).getD i []))) (fun i hi=>by
    simp at hi
    simp [List.getElem?_eq_getElem hi])
  simpa [hn] using this
theorem certR_nth (l:List UInt8) {k:Nat} (hk:k < (certR l).length):nth (certR l) k = wordN ((pcs 32 l []).getD (k + 1) []):=by
  have h1:=zajv l
  rw [nth_lt hk]
  simp [certR,List.getElem?_eq_getElem (show k + 1 < (pcs 32 l []).length by omega)]
theorem piece_len (l:List UInt8) (i:Nat):((pcs 32 l []).getD i []).length ≤ l.length:=by
  rw [List.getD_eq_getElem?_getD]
  by_cases h:i < (pcs 32 l []).length
  · rw [List.getElem?_eq_getElem h]
    have:=zaia 32 l [] _ (List.getElem_mem h)
    simpa using this
  · rw [List.getElem?_eq_none (by omega)];exact Nat.zero_le _

set_option maxRecDepth 100000 in
set_option maxHeartbeats 2000000 in
theorem readWords_any (w:World) (l:List UInt8) (hl:l.length ≤ 1048576) (h:LibOk w) :
    Calls Tryz.prog 29 #[.string (tx l)] w fun e w'=>∃ g,e = .returned (.tuple #[.string (tx (headW l)),.slice (some ⟨g,0,none⟩) (certR l).length (certR l).length]) ∧ w.heap.size ≤ g ∧ w'.rowIs g 3 (certR l).length (fun i=>.int .i64 (nth (certR l) i)) ∧ Gr w w':=by
  have hlen:=zajv l
  have hpl:=Ua 32 l []
  have hh:(pcs 32 l []).getD 0 [] = headW l:=by
    unfold headW
    cases pcs 32 l [] <;> rfl
  have hnth:=fun k hk=>certR_nth l (k:=k) hk
  have hpe:=piece_len l
  obtain ⟨xs,hxs⟩:∃ xs,xs = certR l:=⟨_,rfl⟩
  obtain ⟨f,hf⟩:∃ f:Nat → List UInt8,(fun i=>(pcs 32 l []).getD i []) = f:=⟨_,rfl⟩
  have hf':∀ i,(pcs 32 l []).getD i [] = f i:=fun i=>congrFun hf i
  simp only [hf'] at hh hnth hpe
  rw [← hxs] at hlen hnth ⊢
  obtain ⟨n,hn⟩:∃ n,n = xs.length:=⟨_,rfl⟩
  have hn6:n ≤ 1048576:=by omega
  have HS:=Lib.hid (show ∀ w:World,LibOk w → Calls Tryz.prog 27 #[.string (tx l),.string ⟨#[32]⟩] w fun e w'=>∃ g,e = .returned (.slice (some ⟨g,0,none⟩) (n + 1) (n + 1)) ∧ Gr w w' ∧ w'.rowIs g 9 (n + 1) (fun i=>.string (tx (f i))) from fun w hw=>by
    have:=split_row w l n (by omega) hl hw
    simpa only [hf'] using this)
  have HN:=Lib.hid hnth
  have HP:=Lib.hid hpe
  have HH:=Lib.hid hh
  have HE:=Lib.hid hn
  have HL:=Lib.hid h
  have HB:=Lib.hid hl
  clear hlen hpl hxs hf hf' hnth hpe hh hn h hl
  have hmk:=run_make_row' (P:=Tryz.prog) 22 3 (.int .i64 0) 8 Tryz.underlying22 infoInt rfl .i64 .i64 n (by omega) (by omega)
  go_enter Tryz.func29,Tryz.ntmps29
  go_wp2_with fail
  refine (HS.out _ HL.out).mono ?_
  rintro e w1 ⟨g,rfl,hg,hrow⟩
  have HG:=Lib.hid hg
  have HR:=Lib.hid hrow
  clear hg hrow
  by_cases hz:n = 0
  · have HZ:=Lib.hid hz
    subst hz
    rw [show ((0:Nat):Int) = 0 from rfl] at hmk
    go_wp2_with fail
    go_loopw [6,7,8,9,19] (fun _ _ _ _ i wr=>i = .int .i64 0 ∧ RdAt w1 wr xs 0) (fun _ _ _ _ i _=>0)
    case atStart=>exact ⟨rfl,by have:=RdAt.zero w1 xs;rw [← HE.out] at this;exact this⟩
    case round =>
      obtain ⟨rfl,hx⟩:=hrel
      have HX:=Lib.hid hx
      clear hx
      have hc1:wr.cell? ⟨g,0,none⟩ = some (.string (tx (f 0))):=HX.out.1.cell (HR.out.cell (by omega))
      go_wp2_with fail
      go_ret2
      have hb:=HX.out.2
      refine ⟨w1.heap.size,?_,HG.out.size,?_,HG.out.trans HX.out.1⟩
      · rw [HH.out,← HE.out];rfl
      · exact hb.congr fun i hi=>by rw [← HE.out] at hi;omega
  · have hz1:¬ n + 1 = 1:=by omega
    go_wp2_with fail
    go_loopw [6,7,8,9,19] (fun _ _ _ _ i wr=>∃ k:Nat,k ≤ n ∧ i = .int .i64 k ∧ RdAt w1 wr xs k) (fun _ _ _ _ i _=>n - (intOf i).toNat)
    case atStart=>exact ⟨0,Nat.zero_le _,rfl,by have:=RdAt.zero w1 xs;rw [← HE.out] at this;exact this⟩
    case round =>
      obtain ⟨k,hk,rfl,hx⟩:=hrel
      have HX:=Lib.hid hx
      clear hx
      by_cases hlt:k < n
      · have hc1:wr.cell? ⟨g,1 + k,none⟩ = some (.string (tx (f (k + 1)))):=by
          rw [Nat.add_comm]
          exact HX.out.1.cell (HR.out.cell (by omega))
        go_wp2_with fail
        refine (atoi_any _ (f (k + 1)) (Nat.le_trans (HP.out _) HB.out) ((HL.out.gr HG.out).gr HX.out.1)).mono ?_
        rintro e w2 ⟨v,u,rfl,hu,hg2⟩
        have HY:=Lib.hid (HX.out.gr hg2)
        have hN:=HN.out k (by rw [← HE.out];exact hlt)
        clear hg2 hc1
        have hc2:=HY.out.2.cell (i:=k) (by rw [← HE.out];exact hlt)
        have hf2:=HY.out.2.frozen k
        rcases hu with ⟨rfl,hv⟩ | ⟨⟨t,p,rfl⟩,hv⟩
        · have HZ:=Lib.hid (HY.out.succ (v:=v) (by rw [hN,hv]))
          clear hN hv
          go_wp2_with fail
          exact ⟨⟨k + 1,by omega,by go_num,HZ.out⟩,by simp [intOf];omega⟩
        · have HZ:=Lib.hid (HY.out.succ (v:=-1) (by rw [hN,hv]))
          clear hN hv
          go_wp2_with fail
          exact ⟨⟨k + 1,by omega,by go_num,HZ.out⟩,by simp [intOf];omega⟩
      · obtain rfl:k = n:=by omega
        have hc1:wr.cell? ⟨g,0,none⟩ = some (.string (tx (f 0))):=HX.out.1.cell (HR.out.cell (by omega))
        go_wp2_with fail
        go_ret2
        have hb:=HX.out.2
        refine ⟨w1.heap.size,?_,HG.out.size,?_,HG.out.trans HX.out.1⟩
        · rw [HH.out,← HE.out];rfl
        · exact hb.congr fun i hi=>by rw [if_pos (by rw [HE.out];exact hi)]
end Go.Proofs.YtiilmjojffjhlaaGreatDoor

/-
  Certificates' texts for the machine: contracts of the texts written. Conditions: the library's variables hold what the program's text lays.
-/
namespace Go.Proofs.YtiilmjojffjhlaaGreatDoor.Vm
open Go
open List renaming getD_eq_getElem?_getD → zg,drop_one → zd
set_option linter.unusedVariables false
set_option linter.unusedSimpArgs false
set_option maxRecDepth 200000

theorem LibOk.frm (w w':World) (f:Frm w (fun _=>False) w') (h:LibOk w):LibOk w':=h.gr (Frm.gr f)
theorem frB {μ:Nat → Nat} {I:Nat → Prop} {w:World} {g n:Nat} {t:TypeId} {xs:List Int} (hn:n = xs.length) (hm:n ≤ maxLen) (h:w.rowIs g t n (fun i=>.int .i64 (xs.getD i 0))):Rep μ I w (fr 1 cI xs) (.slice (some ⟨g,0,none⟩) n n) [g]:=by
  subst hn
  obtain ⟨c,hb,hs,hc⟩:=h
  have hce:c = (xs.map fun x=>Value.int .i64 x).toArray:=by
    apply Array.ext
    · simp [hs]
    · intro i h1 h2
      have:=hc i (by omega)
      rw [Array.getElem?_eq_getElem h1] at this
      simp only [Option.some.injEq] at this
      rw [this]
      simp [List.getElem?_eq_getElem (show i < xs.length by omega)]
  subst hce
  unfold fr
  rw [Rep]
  refine ⟨hm,by simp [Qv],.inr ⟨g,xs.length,_,xs.map fun x=>Value.int .i64 x,[],rfl,Nat.le_refl _,⟨t,hb,?_⟩,by simp,?_,?_,rfl⟩⟩
  · intro i v hv
    simp at hv
    obtain ⟨x,_,rfl⟩:=hv
    rfl
  · intro i v hv;simpa using hv
  · clear hb hs hc hm
    induction xs with
    | nil=>simp [cat,RepL]
    | cons x xs ih=>simp only [cat,List.flatMap_cons,cI,List.cons_append,List.nil_append,List.map_cons,RepL];exact ⟨_,_,[],[],rfl,rfl,by simp [Rep],ih⟩
theorem readWords_pure (s:List UInt8) (hl:s.length ≤ 1048576):PureI Tryz.prog LibOk 29 [.str s] (.tup [.str (headW s),fr 1 cI (certR s)]):=fun μ w vs hI _ hr=>by
  obtain ⟨v,rfl⟩:∃ v,vs = [v]:=by
    have:=hr.length
    match vs,this with
    | [v],_=>exact ⟨v,rfl⟩
  obtain rfl:v = .string (tx s):=by have:=hr.one;simpa [Rep,mkS,tx] using this
  refine (readWords_any w s hl hI).mono ?_
  rintro e w' ⟨g,rfl,hg0,hrow,hg⟩
  refine ⟨_,[g],rfl,?_,by simp,by intro x hx;simp at hx;subst hx;exact ⟨hg0,hrow.lt⟩,⟨hg.os,hg.tape,hg.output,hg.size,fun b hb _=>hg.block b hb⟩⟩
  have hm:(certR s).length ≤ maxLen:=by have h1:=zajv s;have h2:=Ua 32 s [];unfold maxLen;omega
  rw [Rep]
  refine ⟨[_,_],rfl,?_⟩
  rw [RepL]
  refine ⟨_,_,[],[g],rfl,rfl,by simp [Rep,mkS,tx,headW],?_⟩
  rw [RepL]
  exact ⟨_,[],[g],[],rfl,rfl,frB rfl hm hrow,by simp [RepL]⟩

section
variable {P:Program} {B:Base} {n:Nat} {c:Code} {Q:Exit → St → Prop} {S:St}
end

@[go_sem] theorem mk11c (x:D):makeD [x] 1 = [x]:=by rw [Jb];rfl

noncomputable def Γpc0:FuncId → Con:=Γg8
attribute [go_sem] Γpc0
theorem Jf:∀ g,ConOk Tryz.prog g (Γpc0 g):=Γg8_ok

theorem pcs_step {c:UInt8} {s:List UInt8} {i:Nat} (h:i < s.length) (acc:List UInt8):pcs c (s.drop i) acc = if s.getD i 0 = c then acc :: pcs c (s.drop (i + 1)) [] else pcs c (s.drop (i + 1)) (acc ++ [s.getD i 0]):=by
  rw [List.drop_eq_getElem_cons h,pcs,List.getD_eq_getElem?_getD,List.getElem?_eq_getElem h];rfl
theorem acc_step {s:List UInt8} {f i:Nat} (h:i < s.length) (hf:f ≤ i):(s.drop f).take (i - f) ++ [s.getD i 0] = (s.drop f).take (i + 1 - f):=by
  rw [show i + 1 - f = (i - f) + 1 by omega,List.take_succ_eq_append_getElem (by simp;omega),List.getD_eq_getElem?_getD,List.getElem?_eq_getElem h]
  simp [show f + (i - f) = i by omega]
def CutAt (s:List UInt8) (c:UInt8) (q:Nat × Nat × List (List UInt8)):Prop :=
  (q.1 ≤ s.length ∧ q.2.1 ≤ q.1 ∧ q.2.2.length ≤ q.1 ∧ q.2.2 ++ pcs c (s.drop q.1) ((s.drop q.2.1).take (q.1 - q.2.1)) = pcs c s []) ∨ (q.1 = s.length + 1 ∧ q.2.2 = pcs c s [])
theorem cutAt_zero (s:List UInt8) (c:UInt8):CutAt s c (0,0,[]):=.inl ⟨Nat.zero_le _,Nat.le_refl _,Nat.le_refl _,by simp⟩
theorem cutAt_end {s:List UInt8} {c:UInt8} {i f:Nat} {o:List (List UInt8)} (hf:f ≤ i) (hi:i = s.length) (h:o ++ pcs c (s.drop i) ((s.drop f).take (i - f)) = pcs c s []):CutAt s c (i + 1,i + 1,o ++ [(s.drop f).take (i - f)]):=by
  subst hi
  right
  refine ⟨rfl,?_⟩
  rw [← h,List.drop_length,pcs]
theorem cutAt_yes {s:List UInt8} {c:UInt8} {i f:Nat} {o:List (List UInt8)} (hi:i < s.length) (hl:o.length ≤ i) (hc:s.getD i 0 = c) (h:o ++ pcs c (s.drop i) ((s.drop f).take (i - f)) = pcs c s []):CutAt s c (i + 1,i + 1,o ++ [(s.drop f).take (i - f)]):=by
  left
  refine ⟨hi,Nat.le_refl _,by simp;omega,?_⟩
  dsimp only
  rw [← h,pcs_step hi,if_pos hc,Nat.sub_self,List.take_zero,List.append_assoc];rfl
theorem cutAt_no {s:List UInt8} {c:UInt8} {i f:Nat} {o:List (List UInt8)} (hi:i < s.length) (hf:f ≤ i) (hl:o.length ≤ i) (hc:¬ s.getD i 0 = c) (h:o ++ pcs c (s.drop i) ((s.drop f).take (i - f)) = pcs c s []):CutAt s c (i + 1,f,o):=by
  left
  refine ⟨hi,by dsimp only;omega,by dsimp only;omega,?_⟩
  dsimp only
  rw [← h,pcs_step hi,if_neg hc,acc_step hi hf]
theorem cutAt_end2 {s:List UInt8} {c:UInt8} {i f:Nat} {o:List (List UInt8)} (hf:f ≤ i) (hi:i = s.length) (h:o ++ pcs c (s.drop i) ((s.drop f).take (i - f)) = pcs c s []):CutAt s c (s.length + 1,s.length + 1,o ++ [(s.drop f).take (s.length - f)]):=by
  have:=cutAt_end hf hi h;rwa [hi] at this
theorem cutAt_yes2 {s:List UInt8} {c:UInt8} {i f:Nat} {o:List (List UInt8)} (hi:i < s.length) (hl:o.length ≤ i) (hc:s[i]?.getD 0 = c) (h:o ++ pcs c (s.drop i) ((s.drop f).take (i - f)) = pcs c s []):CutAt s c (i + 1,i + 1,o ++ [(s.drop f).take (i - f)]) :=
  cutAt_yes hi hl (by rw [List.getD_eq_getElem?_getD];exact hc) h
theorem cutAt_no2 {s:List UInt8} {c:UInt8} {i f:Nat} {o:List (List UInt8)} (hi:i < s.length) (hf:f ≤ i) (hl:o.length ≤ i) (hc:¬ s[i]?.getD 0 = c) (h:o ++ pcs c (s.drop i) ((s.drop f).take (i - f)) = pcs c s []):CutAt s c (i + 1,f,o) :=
  cutAt_no hi hf hl (by rw [List.getD_eq_getElem?_getD];exact hc) h
theorem u8_eq {a b:UInt8}:((a.toNat:Int) = (b.toNat:Int)) = (a = b):=by
  rw [eq_iff_iff]
  exact ⟨fun h=>UInt8.toNat.inj (by omega),fun h=>by rw [h]⟩

set_option maxHeartbeats 1000000 in

theorem l16Cut_pure (s:List UInt8) (e:Int) (hl:s.length ≤ 1048576) (he0:0 ≤ e) (he1:e < 256):Pure Tryz.prog 25 [.str s,.int .u8 e] (fr 1 cStr (pcs (UInt8.ofNat e.toNat) s [])):=by
  refine Pure.of_walk Tryz.func25 rfl (by simp [Tryz.f25]) (by simp [-zd,go_sem]) fun B hK=>?_
  obtain ⟨c,rfl⟩:∃ c:UInt8,e = (c.toNat:Int):=⟨UInt8.ofNat e.toNat,by rw [UInt8.toNat_ofNat'];omega⟩;(have hec:UInt8.ofNat (c.toNat:Int).toNat = c:=(by simp));(rw [hec])
  all_goals (repeat' (first
 | refine Qs ?_
 | refine Qc (id:=0) Jf [] (by kernel_rfl) ?_;simp [-zg,-zd,↓Qb,↓Qa,go_sem]
 | refine Qc (id:=1) Jf [] (by kernel_rfl) ?_;simp [-zg,-zd,↓Qb,↓Qa,go_sem]
 | refine Qc (id:=2) Jf [] (by kernel_rfl) ?_;simp [-zg,-zd,↓Qb,↓Qa,go_sem]
 | refine Qc (id:=3) Jf [] (by kernel_rfl) ?_;simp [-zg,-zd,↓Qb,↓Qa,go_sem]
 | refine Qc (id:=4) Jf [] (by kernel_rfl) ?_;simp [-zg,-zd,↓Qb,↓Qa,go_sem]
 | refine Qc (id:=6) Jf [19] (by kernel_rfl) ?_;simp [-zg,-zd,↓Qb,↓Qa,go_sem,h1,(show ¬ (q.1:Int) = s.length by omega),(show ¬ q.1 = s.length by omega),u8_eq];try (refine ⟨fun s6a=>?_,fun s6a=>?_⟩ <;> (try simp [B_iff,B_not] at s6a) <;> try (refine ⟨fun s6b=>?_,fun s6b=>?_⟩ <;> (try simp [B_iff,B_not] at s6b)))
 | refine Qc (id:=6) Jf [19] (by kernel_rfl) ?_;simp [-zg,-zd,↓Qb,↓Qa,go_sem,h1];try (refine ⟨fun s6a=>?_,fun s6a=>?_⟩ <;> (try simp [B_iff,B_not] at s6a) <;> try (refine ⟨fun s6b=>?_,fun s6b=>?_⟩ <;> (try simp [B_iff,B_not] at s6b)))
 | (have hpiece:cat cStr q.2.2 ++ [D.str ((s.drop q.2.1).take (q.1 - q.2.1))] = cat cStr (q.2.2 ++ [(s.drop q.2.1).take (q.1 - q.2.1)]):=(by rw [Xu _ [(s.drop q.2.1).take (q.1 - q.2.1)]];rfl);have hpiece2:cat cStr q.2.2 ++ [D.str ((s.drop q.2.1).take (s.length - q.2.1))] = cat cStr (q.2.2 ++ [(s.drop q.2.1).take (s.length - q.2.1)]):=(by rw [Xu _ [(s.drop q.2.1).take (s.length - q.2.1)]];rfl));refine Qc (id:=7) Jf [] (by kernel_rfl) ?_;simp [-zg,-zd,↓Qb,↓Qa,go_sem,g2,g1,hpiece,hpiece2,(show q.2.1 ≤ s.length by omega),(show (q.2.1:Int) ≤ q.1 by omega),(show (q.1:Int) ≤ s.length by omega),(show (q.2.1:Int) ≤ s.length by omega),(show ((q.1:Int) - (q.2.1:Int)).toNat = q.1 - q.2.1 by omega),(show ((s.length:Int) - (q.2.1:Int)).toNat = s.length - q.2.1 by omega),(show q.2.2.length ≤ 9223372036854775806 by omega),(show 2 * (q.2.2.length + 1) * 16 ≤ 281474976710656 by omega)]
 | refine Qc (id:=8) Jf [] (by kernel_rfl) ?_;simp [-zg,-zd,↓Qb,↓Qa,go_sem,wrapS (k:=q.1) (by omega),wrapS (k:=s.length) (by omega)]
 | (first | (have hpx:=cutAt_yes2 h1 g3 c25 g4;obtain ⟨nx,hnx⟩:∃ nx:Nat × Nat × List (List UInt8),nx = (q.1 + 1,q.1 + 1,q.2.2 ++ [(s.drop q.2.1).take (q.1 - q.2.1)]):=⟨_,rfl⟩;rw [← hnx] at hpx;have hn1:nx.1 = q.1 + 1:=(by rw [hnx])) | (have hpx:=cutAt_no2 h1 g2 g3 c25 g4;obtain ⟨nx,hnx⟩:∃ nx:Nat × Nat × List (List UInt8),nx = (q.1 + 1,q.2.1,q.2.2):=⟨_,rfl⟩;rw [← hnx] at hpx;have hn1:nx.1 = q.1 + 1:=(by rw [hnx])) | (have hpx:=cutAt_end2 g2 h1 g4;obtain ⟨nx,hnx⟩:∃ nx:Nat × Nat × List (List UInt8),nx = (s.length + 1,s.length + 1,q.2.2 ++ [(s.drop q.2.1).take (s.length - q.2.1)]):=⟨_,rfl⟩;rw [← hnx] at hpx;have hn1:nx.1 = q.1 + 1:=(by rw [hnx];dsimp only;omega)));refine Qc (id:=5) Jf [] (by kernel_rfl) ?_;simp [-zg,-zd,↓Qb,↓Qa,go_sem,wrapS (k:=q.1) (by omega),wrapS (k:=s.length) (by omega)]
 | refine Qc (id:=9) Jf [] (by kernel_rfl) ?_;simp [-zg,-zd,↓Qb,↓Qa,go_sem]
 | refine Qe (c:=.tmp 12) ?_;simp [-zg,-zd,↓Qb,↓Qa,go_sem];try first | (refine ⟨?_,?_⟩ <;> refine zA ?_) | (refine ⟨fun c12=>?_,fun c12=>?_⟩ <;> (try simp [B_iff,B_not] at c12);(try (exfalso;omega)))
 | refine Qe (c:=.tmp 25) ?_;simp [-zg,-zd,↓Qb,↓Qa,go_sem];try first | (refine ⟨?_,?_⟩ <;> refine zA ?_) | (refine ⟨fun c25=>?_,fun c25=>?_⟩ <;> (try simp [B_iff,B_not] at c25))
 | (refine Qf (id:=0) (Qz (ι:=Nat × Nat × List (List UInt8)) (fun q:Nat × Nat × List (List UInt8)=>⟨(upd (upd (upd (upd (upd (fun _=>.any) 0 (.str s)) 1 (.int .u8 (c.toNat:Int))) 5 (.fr 1 q.2.2.length (cat cStr q.2.2))) 6 (.int .i64 q.2.1)) 7 (.int .i64 q.1)),fun _=>none⟩) (fun q=>CutAt s c q) (fun q=>s.length + 1 - q.1) ((0,0,[])) ?_ ?_ ?_);exact cutAt_zero s c;((repeat' (first | exact Qk (by assumption) | exact Qm | refine Qj ?_ ?_ | refine Ql ?_)) <;> simp [-zg,-zd,↓Qb,↓Qa,go_sem]);rintro q (⟨g1,g2,g3,g4⟩ | ⟨g1,g2⟩) <;> (try (rcases Nat.lt_or_eq_of_le g1 with h1 | h1)))
 | (refine ⟨nx,hpx,by first | omega | (simp;done) | (simp;omega),?_⟩;((repeat' (first | exact Qk (by assumption) | exact Qm | refine Qj ?_ ?_ | refine Ql ?_)) <;> simp [-zg,-zd,↓Qb,↓Qa,go_sem,hnx]))
 | (refine Qf ?_)
 | (refine Qr ?_;simp [-zg,-zd,↓Qb,↓Qa,go_sem])
 | (refine Qq ?_;simp [-zg,-zd,↓Qb,↓Qa,go_sem])
 | (refine Qt ?_;simp [-zg,-zd,↓Qb,↓Qa,go_sem,Tryz.results25])
 | (intro hx;refine zA ?_)
 | (refine ⟨?_,?_⟩ <;> refine zA ?_)
 | (intro hx;constructor <;> intro hs)
 | (constructor <;> intro hs)
 | (refine ⟨?_,fun hs=>?_⟩;refine zA ?_)
 | (refine ⟨fun hs=>?_,?_⟩;rotate_left;refine zA ?_;rotate_left)))
  all_goals (first
 | (exfalso;omega)
 | (simp [g2];done)
 | skip)
noncomputable def zaed:Con:=.pure fun
  | [.str s,.int .u8 e]=>((s.length ≤ 1048576) ∧ (0 ≤ e) ∧ (e < 256),fr 1 cStr (pcs (UInt8.ofNat e.toNat) s []))
  | _=>(False,.any)
attribute [go_sem] zaed
theorem zagc:ConOk Tryz.prog 25 zaed:=by
  refine ⟨Qo Tryz.func25 (by decide) rfl,fun args h=>?_⟩
  revert h
  dsimp only
  split
  · intro h
    obtain ⟨hl,he0,he1⟩:=h
    skip
    exact ⟨l16Cut_pure _ _ hl he0 he1,by simp [go_sem]⟩
  · intro h
    exact h.elim
noncomputable def Γpc4:FuncId → Con:=ext Γpc0 25 zaed
attribute [go_sem] Γpc4
theorem Zb:∀ g,ConOk Tryz.prog g (Γpc4 g):=Qn Jf zagc


def NumIs (s t:List UInt8) (neg:Bool):Prop:=numT s = t ∧ numNeg s = neg
theorem num_cases (s:List UInt8):(∃ t neg,0 < s.length ∧ ((s.getD 0 0).toNat:Int) = 45 ∧ s.drop 1 = t ∧ neg = true ∧ NumIs s t neg) ∨ (∃ t neg,t = s ∧ 0 < t.length ∧ ¬ ((t.getD 0 0).toNat:Int) = 45 ∧ True ∧ neg = false ∧ NumIs t t neg) ∨ (∃ t neg,t = s ∧ ¬ 0 < t.length ∧ True ∧ True ∧ neg = false ∧ NumIs t t neg):=by
  by_cases h0:0 < s.length
  · by_cases h1:(s.getD 0 0).toNat = 45
    · have hn:numNeg s = true:=decide_eq_true ⟨h0,h1⟩
      exact .inl ⟨_,_,h0,by omega,rfl,rfl,by unfold numT;rw [if_pos hn],hn⟩
    · have hn:numNeg s = false:=decide_eq_false fun h=>h1 h.2
      exact .inr (.inl ⟨s,_,rfl,h0,by omega,trivial,rfl,by unfold numT;rw [if_neg (by rw [hn];simp)],hn⟩)
  · have hn:numNeg s = false:=decide_eq_false fun h=>h0 h.1
    exact .inr (.inr ⟨s,_,rfl,h0,trivial,trivial,rfl,by unfold numT;rw [if_neg (by rw [hn];simp)],hn⟩)
theorem len_cases (t:List UInt8):(t = [] ∧ True ∧ True ∧ True) ∨ (0 < t.length ∧ 17 < (t.length:Int) ∧ True ∧ True) ∨ (0 < t.length ∧ ¬ 17 < (t.length:Int) ∧ ((t.getD 0 0).toNat:Int) = 48 ∧ 1 < (t.length:Int)) ∨
    (0 < t.length ∧ ¬ 17 < (t.length:Int) ∧ ((t.getD 0 0).toNat:Int) = 48 ∧ ¬ 1 < (t.length:Int)) ∨ (0 < t.length ∧ ¬ 17 < (t.length:Int) ∧ ¬ ((t.getD 0 0).toNat:Int) = 48 ∧ True):=by
  by_cases h0:t = []
  · exact .inl ⟨h0,trivial,trivial,trivial⟩
  · have:0 < t.length:=List.length_pos_iff.2 h0
    by_cases h1:17 < (t.length:Int)
    · exact .inr (.inl ⟨this,h1,trivial,trivial⟩)
    · by_cases h2:((t.getD 0 0).toNat:Int) = 48
      · by_cases h3:1 < (t.length:Int)
        · exact .inr (.inr (.inl ⟨this,h1,h2,h3⟩))
        · exact .inr (.inr (.inr (.inl ⟨this,h1,h2,h3⟩)))
      · exact .inr (.inr (.inr (.inr ⟨this,h1,h2,trivial⟩)))
def BadN (t:List UInt8) (neg:Bool):Prop:=t.length = 0 ∨ 17 < t.length ∨ ((t.getD 0 0).toNat = 48 ∧ (1 < t.length ∨ neg = true))
theorem bad_iff {t:List UInt8} {neg:Bool}:numBad t neg = true ↔ BadN t neg:=by
  simp [numBad,BadN,or_assoc,-zg]
theorem num_bad {s t:List UInt8} {neg:Bool} (hi:NumIs s t neg) (h:BadN t neg):numV s = 0 ∧ numOk s = false:=by
  obtain ⟨h1,h2⟩:=hi
  have hb:numB t neg = false:=by rw [numB,bad_iff.2 h];rfl
  exact ⟨by rw [numV,h1,h2,numR,if_neg (by rw [hb];simp)],by rw [numOk,h1,h2,hb]⟩
theorem num_bad_at {s t:List UInt8} {neg:Bool} (hi:NumIs s t neg) {k:Nat} (hk:k < t.length) (h:noDg t k = true):numV s = 0 ∧ numOk s = false:=by
  obtain ⟨h1,h2⟩:=hi
  have ha:(List.range t.length).any (noDg t) = true:=List.any_eq_true.2 ⟨k,List.mem_range.2 hk,h⟩
  have hb:numB t neg = false:=by rw [numB,ha];simp
  exact ⟨by rw [numV,h1,h2,numR,if_neg (by rw [hb];simp)],by rw [numOk,h1,h2,hb]⟩
theorem num_end {s t:List UInt8} {neg:Bool} (hi:NumIs s t neg) (h:¬ BadN t neg) {k:Nat} (hk:t.length ≤ k) (ht:NoneTill (noDg t) k):numV s = (if neg = true then -nmD t t.length else nmD t t.length) ∧ numOk s = true:=by
  obtain ⟨h1,h2⟩:=hi
  have ha:(List.range t.length).any (noDg t) = false:=by
    rw [List.any_eq_false]
    intro i hi
    rw [List.mem_range] at hi
    rw [ht i (by omega)];simp
  have hb:numB t neg = true:=by
    rw [numB,ha]
    cases e:numBad t neg
    · rfl
    · exact absurd (bad_iff.1 e) h
  exact ⟨by rw [numV,h1,h2,numR,if_pos hb],by rw [numOk,h1,h2,hb]⟩
theorem dg_succ {t:List UInt8} {k:Nat} (ht:NoneTill (noDg t) k) (h1:¬ ((t.getD k 0).toNat:Int) < 48) (h2:¬ 57 < ((t.getD k 0).toNat:Int)):NoneTill (noDg t) (k + 1) :=
  ht.succ (by rw [noDg,decide_eq_true (by omega)];rfl)

set_option maxHeartbeats 2000000 in

theorem l16Num_pure (s:List UInt8) (hl:s.length ≤ 1048576):Pure Tryz.prog 51 [.str s] (.tup [.int .i64 (numV s),.bool (numOk s)]):=by
  refine Pure.of_walk Tryz.func51 rfl (by simp [Tryz.f51]) (by simp [-zd,go_sem]) fun B hK=>?_
  rcases num_cases s with ⟨t,neg,h0,h45,hd,hneg,hi⟩ | ⟨t,neg,rfl,h0,h45,hd,hneg,hi⟩ | ⟨t,neg,rfl,h0,h45,hd,hneg,hi⟩ <;> rcases len_cases t with ⟨g1,g2,g3,g4⟩ | ⟨g1,g2,g3,g4⟩ | ⟨g1,g2,g3,g4⟩ | ⟨g1,g2,g3,g4⟩ | ⟨g1,g2,g3,g4⟩ <;> try (exfalso;omega)
  all_goals (repeat' (first
 | refine Qs ?_
 | refine Qc (id:=0) Zb [] (by kernel_rfl) ?_;simp [-zg,-zd,↓Qb,↓Qa,go_sem]
 | refine Qc (id:=1) Zb [10] (by kernel_rfl) ?_;simp [-zg,-zd,↓Qb,↓Qa,go_sem,h0,h45];try (refine ⟨fun s1a=>?_,fun s1a=>?_⟩ <;> (try simp [B_iff,B_not] at s1a) <;> try (refine ⟨fun s1b=>?_,fun s1b=>?_⟩ <;> (try simp [B_iff,B_not] at s1b)))
 | refine Qc (id:=2) Zb [] (by kernel_rfl) ?_;simp [-zg,-zd,↓Qb,↓Qa,go_sem]
 | refine Qc (id:=3) Zb [] (by kernel_rfl) ?_;simp [-zg,-zd,↓Qb,↓Qa,go_sem,(show s.length - 1 = t.length by rw [← hd];simp),hd,(show (1:Int) ≤ s.length by omega),List.take_length]
 | refine Qc (id:=4) Zb [21,26,30,34] (by kernel_rfl) ?_;simp [-zg,-zd,↓Qb,↓Qa,go_sem,g1,Qi g1,Nat.sub_pos_of_lt g1,g2,g3,g4];try (refine ⟨fun s4a=>?_,fun s4a=>?_⟩ <;> (try simp [B_iff,B_not] at s4a) <;> try (refine ⟨fun s4b=>?_,fun s4b=>?_⟩ <;> (try simp [B_iff,B_not] at s4b) <;> try (refine ⟨fun s4c=>?_,fun s4c=>?_⟩ <;> (try simp [B_iff,B_not] at s4c) <;> try (refine ⟨fun s4d=>?_,fun s4d=>?_⟩ <;> (try simp [B_iff,B_not] at s4d) <;> try (refine ⟨fun s4e=>?_,fun s4e=>?_⟩ <;> (try simp [B_iff,B_not] at s4e))))))
 | refine Qc (id:=4) Zb [21,26,30,34] (by kernel_rfl) ?_;simp [-zg,-zd,↓Qb,↓Qa,go_sem,g1];try (refine ⟨fun s4a=>?_,fun s4a=>?_⟩ <;> (try simp [B_iff,B_not] at s4a) <;> try (refine ⟨fun s4b=>?_,fun s4b=>?_⟩ <;> (try simp [B_iff,B_not] at s4b) <;> try (refine ⟨fun s4c=>?_,fun s4c=>?_⟩ <;> (try simp [B_iff,B_not] at s4c) <;> try (refine ⟨fun s4d=>?_,fun s4d=>?_⟩ <;> (try simp [B_iff,B_not] at s4d) <;> try (refine ⟨fun s4e=>?_,fun s4e=>?_⟩ <;> (try simp [B_iff,B_not] at s4e))))))
 | refine Qc (id:=5) Zb [] (by kernel_rfl) ?_;simp [-zg,-zd,↓Qb,↓Qa,go_sem]
 | refine Qc (id:=6) Zb [] (by kernel_rfl) ?_;simp [-zg,-zd,↓Qb,↓Qa,go_sem]
 | refine Qc (id:=7) Zb [] (by kernel_rfl) ?_;simp [-zg,-zd,↓Qb,↓Qa,go_sem]
 | refine Qc (id:=8) Zb [] (by kernel_rfl) ?_;simp [-zg,-zd,↓Qb,↓Qa,go_sem]
 | refine Qc (id:=10) Zb [49] (by kernel_rfl) ?_;simp [-zg,-zd,↓Qb,↓Qa,go_sem,c42,Qi c42,Nat.sub_pos_of_lt c42];try (refine ⟨fun s10a=>?_,fun s10a=>?_⟩ <;> (try simp [B_iff,B_not] at s10a) <;> try (refine ⟨fun s10b=>?_,fun s10b=>?_⟩ <;> (try simp [B_iff,B_not] at s10b)))
 | refine Qc (id:=11) Zb [] (by kernel_rfl) ?_;simp [-zg,-zd,↓Qb,↓Qa,go_sem]
 | (have hv:=nmD_s ht (by omega);have hgd:(t.getD k 0).toNat = (t[k]?.getD 0).toNat:=(by rw [List.getD_eq_getElem?_getD]));refine Qc (id:=12) Zb [] (by kernel_rfl) ?_;simp [-zg,-zd,↓Qb,↓Qa,go_sem,c42,Qi c42,Nat.sub_pos_of_lt c42,(show IntKind.u8.wrap (((t.getD k 0).toNat:Int) - 48) = ((t.getD k 0).toNat:Int) - 48 by rw [IntKind.wrap_u8];omega),wrap_in (x:=((t.getD k 0).toNat:Int) - 48) (by omega) (by omega),wrap_in (x:=nmD t k * 10) (by omega) (by omega),wrap_in (x:=nmD t k * 10 + (((t.getD k 0).toNat:Int) - 48)) (by omega) (by omega)]
 | (have htn:=dg_succ ht (by omega) (by omega));refine Qc (id:=9) Zb [] (by kernel_rfl) ?_;simp [-zg,-zd,↓Qb,↓Qa,go_sem,wrapS (k:=k) (by omega)]
 | refine Qc (id:=13) Zb [] (by kernel_rfl) ?_;simp [-zg,-zd,↓Qb,↓Qa,go_sem]
 | ((obtain rfl:k = t.length:=(by omega));have hv:=nmD_s ht (by omega));refine Qc (id:=14) Zb [] (by kernel_rfl) ?_;simp [-zg,-zd,↓Qb,↓Qa,go_sem,wrap_in (x:=-nmD t t.length) (by omega) (by omega)]
 | refine Qc (id:=15) Zb [] (by kernel_rfl) ?_;simp [-zg,-zd,↓Qb,↓Qa,go_sem]
 | refine Qe (c:=.tmp 15) ?_;simp [-zg,-zd,↓Qb,↓Qa,go_sem];try first | (refine ⟨?_,?_⟩ <;> refine zA ?_) | (refine ⟨fun c15=>?_,fun c15=>?_⟩ <;> (try simp [B_iff,B_not] at c15))
 | refine Qe (c:=.tmp 38) ?_;simp [-zg,-zd,↓Qb,↓Qa,go_sem];try first | (refine ⟨?_,?_⟩ <;> refine zA ?_) | (refine ⟨fun c38=>?_,fun c38=>?_⟩ <;> (try simp [B_iff,B_not] at c38))
 | refine Qe (c:=.tmp 42) ?_;simp [-zg,-zd,↓Qb,↓Qa,go_sem];try first | (refine ⟨?_,?_⟩ <;> refine zA ?_) | (refine ⟨fun c42=>?_,fun c42=>?_⟩ <;> (try simp [B_iff,B_not] at c42))
 | refine Qe (c:=.tmp 54) ?_;simp [-zg,-zd,↓Qb,↓Qa,go_sem];try first | (refine ⟨?_,?_⟩ <;> refine zA ?_) | (refine ⟨fun c54=>?_,fun c54=>?_⟩ <;> (try simp [B_iff,B_not] at c54))
 | refine Qe (c:=.tmp 63) ?_;simp [-zg,-zd,↓Qb,↓Qa,go_sem];try first | (refine ⟨?_,?_⟩ <;> refine zA ?_) | (refine ⟨fun c63=>?_,fun c63=>?_⟩ <;> (try simp [B_iff,B_not] at c63))
 | (refine Qf (id:=0) (Qz (ι:=Nat) (fun k:Nat=>⟨(upd (upd (upd (upd (fun _=>.any) 0 (.str t)) 4 (.bool neg)) 5 (.int .i64 (nmD t k))) 6 (.int .i64 k)),fun _=>none⟩) (fun k=>k ≤ t.length ∧ NoneTill (noDg t) k) (fun k=>t.length - k) (0) ?_ ?_ ?_);exact ⟨Nat.zero_le _,.zero _⟩;((repeat' (first | exact Qk (by assumption) | exact Qm | refine Qj ?_ ?_ | refine Ql ?_)) <;> simp [-zg,-zd,↓Qb,↓Qa,go_sem,hneg,nmD]);rintro k ⟨hk,ht⟩)
 | (refine ⟨k + 1,⟨by omega,htn⟩,by first | omega | (simp;done) | (simp;omega),?_⟩;((repeat' (first | exact Qk (by assumption) | exact Qm | refine Qj ?_ ?_ | refine Ql ?_)) <;> simp [-zg,-zd,↓Qb,↓Qa,go_sem,hneg,nmD]))
 | (refine Qf ?_)
 | (refine Qr ?_;simp [-zg,-zd,↓Qb,↓Qa,go_sem])
 | (refine Qq ?_;simp [-zg,-zd,↓Qb,↓Qa,go_sem])
 | (refine Qt ?_;simp [-zg,-zd,↓Qb,↓Qa,go_sem,Tryz.results51])
 | (intro hx;refine zA ?_)
 | (refine ⟨?_,?_⟩ <;> refine zA ?_)
 | (intro hx;constructor <;> intro hs)
 | (constructor <;> intro hs)
 | (refine ⟨?_,fun hs=>?_⟩;refine zA ?_)
 | (refine ⟨fun hs=>?_,?_⟩;rotate_left;refine zA ?_;rotate_left)))
  all_goals (first
 | (have hb:=num_bad hi (by first | (simp [BadN,hneg,g1,g2,g3,g4,-zg];done) | (simp [BadN,hneg,-zg];omega));exact ⟨hb.1.symm,hb.2⟩)
 | (exfalso;rw [hneg] at c63;cases c63;done)
 | (exact ⟨by decide,by decide⟩)
 | (have hgd:(t.getD k 0).toNat = (t[k]?.getD 0).toNat:=(by rw [List.getD_eq_getElem?_getD]);have hb:=num_bad_at hi c42 (by rw [noDg,decide_eq_false (by omega)];rfl);exact ⟨hb.1.symm,hb.2⟩)
 | (have he:=num_end hi (fun hb=>by rcases hb with h | h | ⟨h,h2 | h2⟩ <;> first | omega | (rw [hneg] at h2;cases h2)) (Nat.le_refl _) ht;exact ⟨by rw [he.1,if_pos c63],he.2⟩)
 | (obtain rfl:k = t.length:=(by omega);have he:=num_end hi (fun hb=>by rcases hb with h | h | ⟨h,h2 | h2⟩ <;> first | omega | (rw [hneg] at h2;cases h2)) (Nat.le_refl _) ht;exact ⟨by rw [he.1,if_neg (by rw [hneg];simp)],he.2⟩)
 | skip)
noncomputable def zagn:Con:=.pure fun
  | [.str s]=>((s.length ≤ 1048576),.tup [.int .i64 (numV s),.bool (numOk s)])
  | _=>(False,.any)
attribute [go_sem] zagn
theorem zams:ConOk Tryz.prog 51 zagn:=by
  refine ⟨Qo Tryz.func51 (by decide) rfl,fun args h=>?_⟩
  revert h
  dsimp only
  split
  · intro h
    have hl:=h
    skip
    exact ⟨l16Num_pure _ hl,by simp [go_sem]⟩
  · intro h
    exact h.elim
end Go.Proofs.YtiilmjojffjhlaaGreatDoor.Vm

