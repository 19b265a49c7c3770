import Derived.Test.YtiilmjojffjhlaaGreatDoorPCc
import Derived.Test.YtiilmjojffjhlaaGreatDoorCT2
import Derived.Shelf.Vars
import Derived.Lib.LaidTab
import Derived.Test.YtiilmjojffjhlaaGreatDoorDV
import Derived.Test.YtiilmjojffjhlaaGreatDoorVm16
import Derived.Test.YtiilmjojffjhlaaGreatDoorQ1
/-
  A line cut at blanks, its numbers read. Conditions: the library's variables hold what the program's text lays, and the text is of at most 2^20 bytes.
-/
namespace Go.Proofs.YtiilmjojffjhlaaGreatDoor
open Go.RowKit Go.Deep
set_option linter.unusedVariables false

structure LibOk (w:World):Prop where
  pow:Pow w
  syn:∃ tp p,w.var? Tryz.prog "strconv.ErrSyntax" = some #[.iface tp p]
  rng:∃ tp p,w.var? Tryz.prog "strconv.ErrRange" = some #[.iface tp p]
  max:∃ m,w.cell? ⟨0,0,none⟩ = some (.int .i64 m)
theorem var_gr {w w':World} {n:String} {c:Array Value} (h:w.var? Tryz.prog n = some c) (g:Gr w w'):w'.var? Tryz.prog n = some c:=by
  unfold World.var? at h ⊢
  cases e:Tryz.prog.globalNamed n with
  | none=>rw [e] at h;cases h
  | some k =>
    rw [e] at h
    simp only [Option.bind_some] at h ⊢
    have hk:k < w.heap.size:=by
      rcases Nat.lt_or_ge k w.heap.size with h1 | h1
      · exact h1
      · rw [Array.getElem?_eq_none h1] at h;cases h
    rw [g.block k hk]
    exact h
theorem LibOk.gr {w w':World} (h:LibOk w) (g:Gr w w'):LibOk w' :=
  ⟨h.pow.gr g,h.syn.imp fun _ k=>k.imp fun _ e=>var_gr e g,h.rng.imp fun _ k=>k.imp fun _ e=>var_gr e g,h.max.imp fun _ e=>g.cell e⟩

theorem splitB_pcs (c:UInt8) (l:List UInt8):Lib.splitB (tx [c]) 0 (Lib.countB (tx l) (tx [c])) (tx l) = (pcs c l []).map tx:=by
  have e:(Lib.splitB (tx [c]) 0 (Lib.countB (tx l) (tx [c])) (tx l)).map (·.data.toList) = pcs c l []:=by rw [Lib.splitB_data];exact split_pcs c _ l (Nat.le_refl _)
  rw [← e,List.map_map]
  conv=>lhs;rw [← List.map_id (Lib.splitB (tx [c]) 0 (Lib.countB (tx l) (tx [c])) (tx l))]
  exact List.map_congr_left fun b _=>rfl
theorem split_any (w:World) (l:List UInt8) (c:UInt8) (hl:l.length ≤ 1048576) (h:LibOk w) :
    Calls Tryz.prog 27 #[.string (tx l),.string (tx [c])] w fun e w'=>e = .returned (.slice (some ⟨w.heap.size,0,none⟩) (pcs c l []).length (pcs c l []).length) ∧ w' = w.alloc (.cells ((pcs c l []).map fun p=>Value.string (tx p)).toArray 9):=by
  obtain ⟨m,hm⟩:=h.max
  refine (Tryz.strings_Split (tx l) (tx [c]) m w (by rw [Ja];omega) hm (by rw [Ja];simp)).mono ?_
  rintro e w' ⟨rfl,rfl⟩
  have hlen:=Lib.splitB_all (tx [c]) (by rw [Ja];simp) 0 _ (tx l) rfl
  rw [← hlen,splitB_pcs,List.length_map,List.map_map]
  exact ⟨rfl,rfl⟩
theorem bytesWorld_gr (w:World) (t:TypeId) (s:ByteArray):Gr w (Lib.bytesWorld w t s):=by
  have h:Gr w (w.drew.alloc (.cells (Lib.bytesCells w t s) t)):=((Gr.refl w).drew).alloc _
  unfold Lib.bytesWorld World.freeze
  rw [if_neg (by decide)]
  refine ⟨h.os,h.tape,h.output,?_,fun k hk=>?_⟩
  · refine Nat.le_trans h.size ?_
    simp
  · rw [← h.block k hk]
    dsimp only
    rw [Array.getElem?_modify,if_neg (by omega)]
theorem atoi_any (w:World) (l:List UInt8) (hl:l.length ≤ 1048576) (h:LibOk w) :
    Calls Tryz.prog 64 #[.string (tx l)] w fun e w'=>∃ v u,e = .returned (.tuple #[.int .i64 v,u]) ∧ (u = .nilIface ∧ wordN l = v ∨ (∃ t p,u = .iface t p) ∧ wordN l = -1) ∧ Gr w w':=by
  cases hr:Lib.atoiAll l with
  | ok v =>
    refine (Tryz.strconv_Atoi_ok (tx l) (by rw [Ja];omega) v hr w).mono ?_
    rintro e w' ⟨rfl,hw⟩
    refine ⟨v,_,rfl,.inl ⟨rfl,by rw [wordN,hr]⟩,?_⟩
    rcases hw with rfl | ⟨t,rfl⟩
    · exact Gr.refl _
    · exact bytesWorld_gr _ _ _
  | range =>
    obtain ⟨tp,p,hv⟩:=h.rng
    refine (Tryz.strconv_Atoi_range_var (tx l) (by rw [Ja];omega) hr tp p w hv).mono ?_
    rintro e w' ⟨N,rfl,_,_,hg⟩
    exact ⟨_,_,rfl,.inr ⟨⟨_,_,rfl⟩,by rw [wordN,hr]⟩,hg⟩
  | _ =>
    obtain ⟨tp,p,hv⟩:=h.syn
    refine (Tryz.strconv_Atoi_syntax_var (tx l) (by rw [Ja];omega) hr tp p w hv).mono ?_
    rintro e w' ⟨N,rfl,_,_,hg⟩
    exact ⟨_,_,rfl,.inr ⟨⟨_,_,rfl⟩,by rw [wordN,hr]⟩,hg⟩

def RdAt (w wr:World) (xs:List Int) (k:Nat):Prop:=Gr w wr ∧ wr.rowIs w.heap.size 3 xs.length (fun i=>if i < k then .int .i64 (nth xs i) else .int .i64 0)
theorem RdAt.zero (w:World) (xs:List Int):RdAt w (w.alloc (.cells (madeCells #[.int .i64 0] xs.length) 3)) xs 0 :=
  ⟨(Gr.refl w).alloc _,(World.rowIs_made _ _ _ _).congr fun i _=>by simp⟩
theorem RdAt.gr {w wr w':World} {xs:List Int} {k:Nat} (h:RdAt w wr xs k) (g:Gr wr w'):RdAt w w' xs k:=⟨h.1.trans g,row_gr h.2 g⟩
theorem RdAt.succ {w wr:World} {xs:List Int} {k:Nat} (h:RdAt w wr xs k) {v:Int} (e:nth xs k = v):RdAt w (wr.setCell ⟨w.heap.size,k,none⟩ (.int .i64 v)) xs (k + 1) :=
  ⟨Below.setCell h.1 (Nat.le_refl _) _,(h.2.set k _).congr fun i _=>by
    by_cases h1:i = k
    · subst h1;simp [e]
    · by_cases h2:i < k
      · rw [if_neg h1,if_pos h2,if_pos (by omega)]
      · rw [if_neg h1,if_neg h2,if_neg (by omega)]⟩
theorem zaoz (t:List UInt8):(certR t).length + 1 = (pcs 32 t []).length:=by
  have:=pcs_pos 32 t []
  simp [certR];omega
theorem zatz (c:UInt8):∀ (l acc:List UInt8),(pcs c l acc).length ≤ l.length + 1
  | [],acc=>by simp [pcs]
  | b :: l,acc=>by
    have h1:=zatz c l []
    have h2:=zatz c l (acc ++ [b])
    rw [pcs]
    split <;> simp only [List.length_cons] <;> omega
theorem pcs_each (c:UInt8):∀ (l acc:List UInt8),∀ p ∈ pcs c l acc,p.length ≤ acc.length + l.length
  | [],acc,p,h=>by simp [pcs] at h;simp [h]
  | b :: l,acc,p,h=>by
    rw [pcs] at h
    split at h
    · rcases List.mem_cons.1 h with rfl | h
      · omega
      · have:=pcs_each c l [] p h
        simp at this ⊢;omega
    · have:=pcs_each c l _ p h
      simp at this ⊢;omega
end Go.Proofs.YtiilmjojffjhlaaGreatDoor

/-
  The program's reading of a line: its first word and its numbers. Conditions: the library's variables hold what the program's text lays, and the line is of at most 2^20 bytes.
-/
namespace Go.Proofs.YtiilmjojffjhlaaGreatDoor
open Go.RowKit Go.Deep
set_option linter.unusedVariables false

theorem split_row (w:World) (l:List UInt8) (n:Nat) (hn:(pcs 32 l []).length = n + 1) (hl:l.length ≤ 1048576) (h:LibOk w) :
    Calls Tryz.prog 27 #[.string (tx l),.string ⟨#[32]⟩] w fun e w'=>∃ g,e = .returned (.slice (some ⟨g,0,none⟩) (n + 1) (n + 1)) ∧ Gr w w' ∧ w'.rowIs g 9 (n + 1) (fun i=>.string (tx ((pcs 32 l []).getD i []))):=by
  refine (split_any w l 32 hl h).mono ?_
  rintro e w' ⟨rfl,rfl⟩
  rw [hn]
  refine ⟨_,rfl,(Gr.refl w).alloc _,?_⟩
  have:=World.rowIs_alloc w ((pcs 32 l []).map fun p=>Value.string (tx p)).toArray 9 (fun i=>.string (tx ((pcs 32 l []).getD i []))) (fun i hi=>by
    simp at hi
    simp [List.getElem?_eq_getElem hi])
  simpa [hn] using this
theorem certR_nth (l:List UInt8) {k:Nat} (hk:k < (certR l).length):nth (certR l) k = wordN ((pcs 32 l []).getD (k + 1) []):=by
  have h1:=zaoz l
  rw [Xc hk]
  simp [certR,List.getElem?_eq_getElem (show k + 1 < (pcs 32 l []).length by omega)]
theorem piece_len (l:List UInt8) (i:Nat):((pcs 32 l []).getD i []).length ≤ l.length:=by
  rw [List.getD_eq_getElem?_getD]
  by_cases h:i < (pcs 32 l []).length
  · rw [List.getElem?_eq_getElem h]
    have:=pcs_each 32 l [] _ (List.getElem_mem h)
    simpa using this
  · rw [List.getElem?_eq_none (by omega)];exact Nat.zero_le _

set_option maxRecDepth 100000 in
set_option maxHeartbeats 2000000 in
theorem readWords_any (w:World) (l:List UInt8) (hl:l.length ≤ 1048576) (h:LibOk w) :
    Calls Tryz.prog 29 #[.string (tx l)] w fun e w'=>∃ g,e = .returned (.tuple #[.string (tx (headW l)),.slice (some ⟨g,0,none⟩) (certR l).length (certR l).length]) ∧ w.heap.size ≤ g ∧ w'.rowIs g 3 (certR l).length (fun i=>.int .i64 (nth (certR l) i)) ∧ Gr w w':=by
  have hlen:=zaoz l
  have hpl:=zatz 32 l []
  have hh:(pcs 32 l []).getD 0 [] = headW l:=by
    unfold headW
    cases pcs 32 l [] <;> rfl
  have hnth:=fun k hk=>certR_nth l (k:=k) hk
  have hpe:=piece_len l
  obtain ⟨xs,hxs⟩:∃ xs,xs = certR l:=⟨_,rfl⟩
  obtain ⟨f,hf⟩:∃ f:Nat → List UInt8,(fun i=>(pcs 32 l []).getD i []) = f:=⟨_,rfl⟩
  have hf':∀ i,(pcs 32 l []).getD i [] = f i:=fun i=>congrFun hf i
  simp only [hf'] at hh hnth hpe
  rw [← hxs] at hlen hnth ⊢
  obtain ⟨n,hn⟩:∃ n,n = xs.length:=⟨_,rfl⟩
  have hn6:n ≤ 1048576:=by omega
  have HS:=Lib.hid (show ∀ w:World,LibOk w → Calls Tryz.prog 27 #[.string (tx l),.string ⟨#[32]⟩] w fun e w'=>∃ g,e = .returned (.slice (some ⟨g,0,none⟩) (n + 1) (n + 1)) ∧ Gr w w' ∧ w'.rowIs g 9 (n + 1) (fun i=>.string (tx (f i))) from fun w hw=>by
    have:=split_row w l n (by omega) hl hw
    simpa only [hf'] using this)
  have HN:=Lib.hid hnth
  have HP:=Lib.hid hpe
  have HH:=Lib.hid hh
  have HE:=Lib.hid hn
  have HL:=Lib.hid h
  have HB:=Lib.hid hl
  clear hlen hpl hxs hf hf' hnth hpe hh hn h hl
  have hmk:=run_make_row' (P:=Tryz.prog) 22 3 (.int .i64 0) 8 Tryz.underlying22 infoInt rfl .i64 .i64 n (by omega) (by omega)
  go_enter Tryz.func29,Tryz.ntmps29
  go_wp2_with fail
  refine (HS.out _ HL.out).mono ?_
  rintro e w1 ⟨g,rfl,hg,hrow⟩
  have HG:=Lib.hid hg
  have HR:=Lib.hid hrow
  clear hg hrow
  by_cases hz:n = 0
  · have HZ:=Lib.hid hz
    subst hz
    rw [show ((0:Nat):Int) = 0 from rfl] at hmk
    go_wp2_with fail
    go_loopw [6,7,8,9,19] (fun _ _ _ _ i wr=>i = .int .i64 0 ∧ RdAt w1 wr xs 0) (fun _ _ _ _ i _=>0)
    case atStart=>exact ⟨rfl,by have:=RdAt.zero w1 xs;rw [← HE.out] at this;exact this⟩
    case round =>
      obtain ⟨rfl,hx⟩:=hrel
      have HX:=Lib.hid hx
      clear hx
      have hc1:wr.cell? ⟨g,0,none⟩ = some (.string (tx (f 0))):=HX.out.1.cell (HR.out.cell (by omega))
      go_wp2_with fail
      go_ret2
      have hb:=HX.out.2
      refine ⟨w1.heap.size,?_,HG.out.size,?_,HG.out.trans HX.out.1⟩
      · rw [HH.out,← HE.out];rfl
      · exact hb.congr fun i hi=>by rw [← HE.out] at hi;omega
  · have hz1:¬ n + 1 = 1:=by omega
    go_wp2_with fail
    go_loopw [6,7,8,9,19] (fun _ _ _ _ i wr=>∃ k:Nat,k ≤ n ∧ i = .int .i64 k ∧ RdAt w1 wr xs k) (fun _ _ _ _ i _=>n - (intOf i).toNat)
    case atStart=>exact ⟨0,Nat.zero_le _,rfl,by have:=RdAt.zero w1 xs;rw [← HE.out] at this;exact this⟩
    case round =>
      obtain ⟨k,hk,rfl,hx⟩:=hrel
      have HX:=Lib.hid hx
      clear hx
      by_cases hlt:k < n
      · have hc1:wr.cell? ⟨g,1 + k,none⟩ = some (.string (tx (f (k + 1)))):=by
          rw [Nat.add_comm]
          exact HX.out.1.cell (HR.out.cell (by omega))
        go_wp2_with fail
        refine (atoi_any _ (f (k + 1)) (Nat.le_trans (HP.out _) HB.out) ((HL.out.gr HG.out).gr HX.out.1)).mono ?_
        rintro e w2 ⟨v,u,rfl,hu,hg2⟩
        have HY:=Lib.hid (HX.out.gr hg2)
        have hN:=HN.out k (by rw [← HE.out];exact hlt)
        clear hg2 hc1
        have hc2:=HY.out.2.cell (i:=k) (by rw [← HE.out];exact hlt)
        have hf2:=HY.out.2.frozen k
        rcases hu with ⟨rfl,hv⟩ | ⟨⟨t,p,rfl⟩,hv⟩
        · have HZ:=Lib.hid (HY.out.succ (v:=v) (by rw [hN,hv]))
          clear hN hv
          go_wp2_with fail
          exact ⟨⟨k + 1,by omega,by go_num,HZ.out⟩,by simp [intOf];omega⟩
        · have HZ:=Lib.hid (HY.out.succ (v:=-1) (by rw [hN,hv]))
          clear hN hv
          go_wp2_with fail
          exact ⟨⟨k + 1,by omega,by go_num,HZ.out⟩,by simp [intOf];omega⟩
      · obtain rfl:k = n:=by omega
        have hc1:wr.cell? ⟨g,0,none⟩ = some (.string (tx (f 0))):=HX.out.1.cell (HR.out.cell (by omega))
        go_wp2_with fail
        go_ret2
        have hb:=HX.out.2
        refine ⟨w1.heap.size,?_,HG.out.size,?_,HG.out.trans HX.out.1⟩
        · rw [HH.out,← HE.out];rfl
        · exact hb.congr fun i hi=>by rw [if_pos (by rw [HE.out];exact hi)]
end Go.Proofs.YtiilmjojffjhlaaGreatDoor

/-
  Certificates' texts for the machine: contracts of the texts written. Conditions: the library's variables hold what the program's text lays.
-/
namespace Go.Proofs.YtiilmjojffjhlaaGreatDoor.Vm
open Go
open Nat renaming sub_pos_of_lt → zsP
open List renaming getD_eq_getElem?_getD → zg,drop_one → zd,replicate → zrP
open Ne renaming symm → zS
set_option linter.unusedVariables false
set_option linter.unusedSimpArgs false
set_option maxRecDepth 200000

theorem LibOk.frm (w w':World) (f:Frm w (fun _=>False) w') (h:LibOk w):LibOk w':=h.gr (Frm.gr f)
theorem DV.cert {w:World} {v:Value} {a:List Int} (h:DV w v (.st [li cI a])):OW w v a ∧ a.length ≤ maxLen:=by
  unfold DV at h
  rw [Rep] at h
  obtain ⟨vs,rfl,h⟩:=h
  rw [RepL] at h
  obtain ⟨v1,vs1,f1,f2,rfl,e1,r1,h⟩:=h
  rw [RepL] at h
  obtain ⟨rfl,rfl⟩:=h
  obtain ⟨rfl,_⟩:f1 = [] ∧ True:=by simpa using e1.symm
  obtain ⟨_,_,_,hm,_⟩:=DV.slice r1
  obtain ⟨A,c,rfl,i1⟩:=DV.ints r1
  exact ⟨⟨_,rfl,_,_,_,rfl,i1⟩,hm⟩
theorem Rep.cert {μ:Nat → Nat} {w:World} {vs:List Value} {a:List Int} (hr:RepL μ (fun x=>x < w.heap.size) w [.st [li cI a]] vs []):∃ v,vs = [v] ∧ OW w v a ∧ a.length ≤ maxLen:=by
  obtain ⟨v,rfl⟩:∃ v,vs = [v]:=by
    have:=hr.length
    match vs,this with
    | [v],_=>exact ⟨v,rfl⟩
  have h1:Rep (fun b=>b) (fun x=>x < w.heap.size) w (.st [li cI a]) v []:=Rep.ren (N:=0) (fun b hb=>absurd hb (by omega)) (by simp [bnd,bndL,cat_bnd,li]) hr.one
  exact ⟨v,rfl,DV.cert h1⟩
theorem str_ret {P:Program} {f:FuncId} {μ:Nat → Nat} {w:World} {vs:List Value} {t:List UInt8} (h:Calls P f vs.toArray w fun e w'=>e = .returned (.string (tx t)) ∧ Gr w w') :
    Calls P f vs.toArray w fun e w'=>∃ v fl,e = .returned v ∧ Rep μ (fun _=>False) w' (.str t) v fl ∧ fl.Nodup ∧ (∀ x ∈ fl,w.heap.size ≤ x ∧ x < w'.heap.size) ∧ Frm w (fun _=>False) w' :=
  h.mono fun e w' ⟨he,hg⟩=>⟨_,[],he,by simp [Rep,mkS,tx],.nil,by simp,⟨hg.os,hg.tape,hg.output,hg.size,fun b hb _=>hg.block b hb⟩⟩
theorem zafr (a:List Int):Pure Tryz.prog 14 [.st [li cI a]] (.str (certT a)):=fun μ w vs _ hr=>by
  obtain ⟨v,rfl,ho,hm⟩:=Rep.cert hr
  exact str_ret (zafz w v a ho hm)
theorem zafu (a:List Int):PureI Tryz.prog LibOk 12 [.st [li cI a]] (.str (certT a)):=fun μ w vs hI _ hr=>by
  obtain ⟨v,rfl,ho,hm⟩:=Rep.cert hr
  exact str_ret (zagp w v a ho hm hI.pow)
theorem frB {μ:Nat → Nat} {I:Nat → Prop} {w:World} {g n:Nat} {t:TypeId} {xs:List Int} (hn:n = xs.length) (hm:n ≤ maxLen) (h:w.rowIs g t n (fun i=>.int .i64 (xs.getD i 0))):Rep μ I w (fr 1 cI xs) (.slice (some ⟨g,0,none⟩) n n) [g]:=by
  subst hn
  obtain ⟨c,hb,hs,hc⟩:=h
  have hce:c = (xs.map fun x=>Value.int .i64 x).toArray:=by
    apply Array.ext
    · simp [hs]
    · intro i h1 h2
      have:=hc i (by omega)
      rw [Array.getElem?_eq_getElem h1] at this
      simp only [Option.some.injEq] at this
      rw [this]
      simp [List.getElem?_eq_getElem (show i < xs.length by omega)]
  subst hce
  unfold fr
  rw [Rep]
  refine ⟨hm,by simp [Qv],.inr ⟨g,xs.length,_,xs.map fun x=>Value.int .i64 x,[],rfl,Nat.le_refl _,⟨t,hb,?_⟩,by simp,?_,?_,rfl⟩⟩
  · intro i v hv
    simp at hv
    obtain ⟨x,_,rfl⟩:=hv
    rfl
  · intro i v hv;simpa using hv
  · clear hb hs hc hm
    induction xs with
    | nil=>simp [cat,RepL]
    | cons x xs ih=>simp only [cat,List.flatMap_cons,cI,List.cons_append,List.nil_append,List.map_cons,RepL];exact ⟨_,_,[],[],rfl,rfl,by simp [Rep],ih⟩
theorem readWords_pure (s:List UInt8) (hl:s.length ≤ 1048576):PureI Tryz.prog LibOk 29 [.str s] (.tup [.str (headW s),fr 1 cI (certR s)]):=fun μ w vs hI _ hr=>by
  obtain ⟨v,rfl⟩:∃ v,vs = [v]:=by
    have:=hr.length
    match vs,this with
    | [v],_=>exact ⟨v,rfl⟩
  obtain rfl:v = .string (tx s):=by have:=hr.one;simpa [Rep,mkS,tx] using this
  refine (readWords_any w s hl hI).mono ?_
  rintro e w' ⟨g,rfl,hg0,hrow,hg⟩
  refine ⟨_,[g],rfl,?_,by simp,by intro x hx;simp at hx;subst hx;exact ⟨hg0,hrow.lt⟩,⟨hg.os,hg.tape,hg.output,hg.size,fun b hb _=>hg.block b hb⟩⟩
  have hm:(certR s).length ≤ maxLen:=by have h1:=zaoz s;have h2:=zatz 32 s [];unfold maxLen;omega
  rw [Rep]
  refine ⟨[_,_],rfl,?_⟩
  rw [RepL]
  refine ⟨_,_,[],[g],rfl,rfl,by simp [Rep,mkS,tx,headW],?_⟩
  rw [RepL]
  exact ⟨_,[],[g],[],rfl,rfl,frB rfl hm hrow,by simp [RepL]⟩

section
variable {P:Program} {B:Base} {n:Nat} {c:Code} {Q:Exit → St → Prop} {S:St}
theorem AW_boxNil (t:Nat) (hT:S.T t = .box [.nil]) (h:AW P B n c Q ⟨upd S.T t (.box [.fr 1 0 []]),S.H⟩):AW P B n c Q S :=
  Yn t hT (fun μ I w vs f hr=>by
    simp only [RepL] at hr ⊢
    obtain ⟨v,vs',f1,f2,e1,e2,r1,r2⟩:=hr
    exact ⟨v,vs',f1,f2,e1,e2,zaol r1,r2⟩) (fun N hb=>by simp only [bndL,bnd] at hb ⊢;exact ⟨trivial,hb.2⟩) h
theorem AW_box1 (t:Nat) {m1:Nat} {c1:List D} (hT:S.T t = .box [.fr 1 m1 c1])
    (h:∀ p x k1 cp1,S.H p = none → S.H x = none → ¬ p = x → m1 ≤ cp1 → cp1 * 1 ≤ m1 * 1 + k1 →
      AW P B n c Q ⟨upd S.T t (.ptr p 0),upd (upd S.H p (some [.sl x 1 0 m1 cp1])) x (some (c1 ++ zrP k1 .any))⟩):AW P B n c Q S:=by
  refine Xs t hT fun p hp=>?_
  refine Xw p 0 (all:=[.fr 1 m1 c1]) (Qu ..) rfl fun x cp1 k1 hx hc1 hd1=>?_
  have hxp:¬ p = x:=by
    intro e;subst e;dsimp only at hx;rw [Qu] at hx;cases hx
  have hx0:S.H x = none:=by dsimp only at hx;rw [Ql (fun e=>hxp e.symm)] at hx;exact hx
  have:=h p x k1 cp1 hp hx0 hxp hc1 hd1
  have e:upd (upd (upd S.H p (some [.fr 1 m1 c1])) p (some ([D.fr 1 m1 c1].set 0 (.sl x 1 0 m1 cp1)))) x (some (c1 ++ zrP k1 .any))
      = upd (upd S.H p (some [.sl x 1 0 m1 cp1])) x (some (c1 ++ zrP k1 .any)):=by
    funext z
    by_cases e1:z = x
    · subst e1;rw [Qu,Qu]
    · by_cases e2:z = p
      · subst e2;rw [Ql e1,Qu,Ql e1,Qu];rfl
      · rw [Ql e1,Ql e2,Ql e2,Ql e1,Ql e2]
  dsimp only at this ⊢
  rw [e]
  exact this
theorem AW_own1 (t:Nat) {x m1 cp:Nat} {X:List D} (hT:S.T t = .box [.sl x 1 0 m1 cp]) (hx:S.H x = some X) (h1:m1 ≤ X.length) (h2:cp ≤ X.length)
    (h:∀ r,S.H r = none → AW P B n c Q ⟨upd S.T t (.ptr r 0),upd (upd S.H x none) r (some [.fr 1 m1 (X.take m1)])⟩):AW P B n c Q S:=by
  refine Xs t hT fun r hr=>?_
  have rx:¬ r = x:=by rintro rfl;rw [hx] at hr;cases hr
  refine Xu r 0 (b':=x) (sz:=1) (m:=m1) (cp:=cp) (all:=[.sl x 1 0 m1 cp]) (cs:=X) (Qu ..) rfl rx (by dsimp only;rw [Ql (zS rx),hx]) (by omega) (by omega) (by omega) ?_
  have:=h r hr
  have e:upd (upd (upd S.H r (some [.sl x 1 0 m1 cp])) x none) r (some ([D.sl x 1 0 m1 cp].set 0 (.fr 1 m1 (X.take (m1 * 1))))) = upd (upd S.H x none) r (some [.fr 1 m1 (X.take m1)]):=by
    funext z
    by_cases e0:z = r
    · subst e0;rw [Qu,Qu,Nat.mul_one];rfl
    · by_cases e2:z = x
      · subst e2;rw [Ql e0,Qu,Ql e0,Qu]
      · rw [Ql e0,Ql e2,Ql e0,Ql e0,Ql e2]
  dsimp only at this ⊢
  rw [e]
  exact this
end

@[go_sem] theorem mk11c (x:D):makeD [x] 1 = [x]:=by rw [Zs];rfl

noncomputable def Γpc0:FuncId → Con:=Γg8
attribute [go_sem] Γpc0
theorem zajs:∀ g,ConOk Tryz.prog g (Γpc0 g):=Γg8_ok

theorem pcs_step {c:UInt8} {s:List UInt8} {i:Nat} (h:i < s.length) (acc:List UInt8):pcs c (s.drop i) acc = if s.getD i 0 = c then acc :: pcs c (s.drop (i + 1)) [] else pcs c (s.drop (i + 1)) (acc ++ [s.getD i 0]):=by
  rw [List.drop_eq_getElem_cons h,pcs,List.getD_eq_getElem?_getD,List.getElem?_eq_getElem h];rfl
theorem acc_step {s:List UInt8} {f i:Nat} (h:i < s.length) (hf:f ≤ i):(s.drop f).take (i - f) ++ [s.getD i 0] = (s.drop f).take (i + 1 - f):=by
  rw [show i + 1 - f = (i - f) + 1 by omega,List.take_succ_eq_append_getElem (by simp;omega),List.getD_eq_getElem?_getD,List.getElem?_eq_getElem h]
  simp [show f + (i - f) = i by omega]
def CutAt (s:List UInt8) (c:UInt8) (q:Nat × Nat × List (List UInt8)):Prop :=
  (q.1 ≤ s.length ∧ q.2.1 ≤ q.1 ∧ q.2.2.length ≤ q.1 ∧ q.2.2 ++ pcs c (s.drop q.1) ((s.drop q.2.1).take (q.1 - q.2.1)) = pcs c s []) ∨ (q.1 = s.length + 1 ∧ q.2.2 = pcs c s [])
theorem cutAt_zero (s:List UInt8) (c:UInt8):CutAt s c (0,0,[]):=.inl ⟨Nat.zero_le _,Nat.le_refl _,Nat.le_refl _,by simp⟩
theorem cutAt_end {s:List UInt8} {c:UInt8} {i f:Nat} {o:List (List UInt8)} (hf:f ≤ i) (hi:i = s.length) (h:o ++ pcs c (s.drop i) ((s.drop f).take (i - f)) = pcs c s []):CutAt s c (i + 1,i + 1,o ++ [(s.drop f).take (i - f)]):=by
  subst hi
  right
  refine ⟨rfl,?_⟩
  rw [← h,List.drop_length,pcs]
theorem cutAt_yes {s:List UInt8} {c:UInt8} {i f:Nat} {o:List (List UInt8)} (hi:i < s.length) (hl:o.length ≤ i) (hc:s.getD i 0 = c) (h:o ++ pcs c (s.drop i) ((s.drop f).take (i - f)) = pcs c s []):CutAt s c (i + 1,i + 1,o ++ [(s.drop f).take (i - f)]):=by
  left
  refine ⟨hi,Nat.le_refl _,by simp;omega,?_⟩
  dsimp only
  rw [← h,pcs_step hi,if_pos hc,Nat.sub_self,List.take_zero,List.append_assoc];rfl
theorem cutAt_no {s:List UInt8} {c:UInt8} {i f:Nat} {o:List (List UInt8)} (hi:i < s.length) (hf:f ≤ i) (hl:o.length ≤ i) (hc:¬ s.getD i 0 = c) (h:o ++ pcs c (s.drop i) ((s.drop f).take (i - f)) = pcs c s []):CutAt s c (i + 1,f,o):=by
  left
  refine ⟨hi,by dsimp only;omega,by dsimp only;omega,?_⟩
  dsimp only
  rw [← h,pcs_step hi,if_neg hc,acc_step hi hf]
theorem cutAt_end2 {s:List UInt8} {c:UInt8} {i f:Nat} {o:List (List UInt8)} (hf:f ≤ i) (hi:i = s.length) (h:o ++ pcs c (s.drop i) ((s.drop f).take (i - f)) = pcs c s []):CutAt s c (s.length + 1,s.length + 1,o ++ [(s.drop f).take (s.length - f)]):=by
  have:=cutAt_end hf hi h;rwa [hi] at this
theorem cutAt_yes2 {s:List UInt8} {c:UInt8} {i f:Nat} {o:List (List UInt8)} (hi:i < s.length) (hl:o.length ≤ i) (hc:s[i]?.getD 0 = c) (h:o ++ pcs c (s.drop i) ((s.drop f).take (i - f)) = pcs c s []):CutAt s c (i + 1,i + 1,o ++ [(s.drop f).take (i - f)]) :=
  cutAt_yes hi hl (by rw [List.getD_eq_getElem?_getD];exact hc) h
theorem cutAt_no2 {s:List UInt8} {c:UInt8} {i f:Nat} {o:List (List UInt8)} (hi:i < s.length) (hf:f ≤ i) (hl:o.length ≤ i) (hc:¬ s[i]?.getD 0 = c) (h:o ++ pcs c (s.drop i) ((s.drop f).take (i - f)) = pcs c s []):CutAt s c (i + 1,f,o) :=
  cutAt_no hi hf hl (by rw [List.getD_eq_getElem?_getD];exact hc) h
theorem u8_eq {a b:UInt8}:((a.toNat:Int) = (b.toNat:Int)) = (a = b):=by
  rw [eq_iff_iff]
  exact ⟨fun h=>UInt8.toNat.inj (by omega),fun h=>by rw [h]⟩

set_option maxHeartbeats 1000000 in

theorem l16Cut_pure (s:List UInt8) (e:Int) (hl:s.length ≤ 1048576) (he0:0 ≤ e) (he1:e < 256):Pure Tryz.prog 25 [.str s,.int .u8 e] (fr 1 cStr (pcs (UInt8.ofNat e.toNat) s [])):=by
  refine Pure.of_walk Tryz.func25 rfl (by simp [Tryz.f25]) (by simp [-zd,go_sem]) fun B hK=>?_
  obtain ⟨c,rfl⟩:∃ c:UInt8,e = (c.toNat:Int):=⟨UInt8.ofNat e.toNat,by rw [UInt8.toNat_ofNat'];omega⟩;(have hec:UInt8.ofNat (c.toNat:Int).toNat = c:=(by simp));(rw [hec])
  all_goals (repeat' (first
 | refine Qt ?_
 | refine Qc (id:=6) zajs [19] (by kernel_rfl) ?_;simp [-zg,-zd,↓Qb,↓Qa,go_sem,h1,(show ¬ (q.1:Int) = s.length by omega),(show ¬ q.1 = s.length by omega),u8_eq];try (refine ⟨fun s6a=>?_,fun s6a=>?_⟩ <;> (try simp [B_iff,B_not] at s6a) <;> try (refine ⟨fun s6b=>?_,fun s6b=>?_⟩ <;> (try simp [B_iff,B_not] at s6b)))
 | refine Qc (id:=6) zajs [19] (by kernel_rfl) ?_;simp [-zg,-zd,↓Qb,↓Qa,go_sem,h1];try (refine ⟨fun s6a=>?_,fun s6a=>?_⟩ <;> (try simp [B_iff,B_not] at s6a) <;> try (refine ⟨fun s6b=>?_,fun s6b=>?_⟩ <;> (try simp [B_iff,B_not] at s6b)))
 | (have hpiece:cat cStr q.2.2 ++ [D.str ((s.drop q.2.1).take (q.1 - q.2.1))] = cat cStr (q.2.2 ++ [(s.drop q.2.1).take (q.1 - q.2.1)]):=(by rw [Xk _ [(s.drop q.2.1).take (q.1 - q.2.1)]];rfl);have hpiece2:cat cStr q.2.2 ++ [D.str ((s.drop q.2.1).take (s.length - q.2.1))] = cat cStr (q.2.2 ++ [(s.drop q.2.1).take (s.length - q.2.1)]):=(by rw [Xk _ [(s.drop q.2.1).take (s.length - q.2.1)]];rfl));refine Qc (id:=7) zajs [] (by kernel_rfl) ?_;simp [-zg,-zd,↓Qb,↓Qa,go_sem,g2,g1,hpiece,hpiece2,(show q.2.1 ≤ s.length by omega),(show (q.2.1:Int) ≤ q.1 by omega),(show (q.1:Int) ≤ s.length by omega),(show (q.2.1:Int) ≤ s.length by omega),(show ((q.1:Int) - (q.2.1:Int)).toNat = q.1 - q.2.1 by omega),(show ((s.length:Int) - (q.2.1:Int)).toNat = s.length - q.2.1 by omega),(show q.2.2.length ≤ 9223372036854775806 by omega),(show 2 * (q.2.2.length + 1) * 16 ≤ 281474976710656 by omega)]
 | refine Qc (id:=8) zajs [] (by kernel_rfl) ?_;simp [-zg,-zd,↓Qb,↓Qa,go_sem,wrapS (k:=q.1) (by omega),wrapS (k:=s.length) (by omega)]
 | (first | (have hpx:=cutAt_yes2 h1 g3 c25 g4;obtain ⟨nx,hnx⟩:∃ nx:Nat × Nat × List (List UInt8),nx = (q.1 + 1,q.1 + 1,q.2.2 ++ [(s.drop q.2.1).take (q.1 - q.2.1)]):=⟨_,rfl⟩;rw [← hnx] at hpx;have hn1:nx.1 = q.1 + 1:=(by rw [hnx])) | (have hpx:=cutAt_no2 h1 g2 g3 c25 g4;obtain ⟨nx,hnx⟩:∃ nx:Nat × Nat × List (List UInt8),nx = (q.1 + 1,q.2.1,q.2.2):=⟨_,rfl⟩;rw [← hnx] at hpx;have hn1:nx.1 = q.1 + 1:=(by rw [hnx])) | (have hpx:=cutAt_end2 g2 h1 g4;obtain ⟨nx,hnx⟩:∃ nx:Nat × Nat × List (List UInt8),nx = (s.length + 1,s.length + 1,q.2.2 ++ [(s.drop q.2.1).take (s.length - q.2.1)]):=⟨_,rfl⟩;rw [← hnx] at hpx;have hn1:nx.1 = q.1 + 1:=(by rw [hnx];dsimp only;omega)));refine Qc (id:=5) zajs [] (by kernel_rfl) ?_;simp [-zg,-zd,↓Qb,↓Qa,go_sem,wrapS (k:=q.1) (by omega),wrapS (k:=s.length) (by omega)]
 | refine Qj (c:=.tmp 12) ?_;simp [-zg,-zd,↓Qb,↓Qa,go_sem];try first | (refine ⟨?_,?_⟩ <;> refine zA ?_) | (refine ⟨fun c12=>?_,fun c12=>?_⟩ <;> (try simp [B_iff,B_not] at c12);(try (exfalso;omega)))
 | refine Qj (c:=.tmp 25) ?_;simp [-zg,-zd,↓Qb,↓Qa,go_sem];try first | (refine ⟨?_,?_⟩ <;> refine zA ?_) | (refine ⟨fun c25=>?_,fun c25=>?_⟩ <;> (try simp [B_iff,B_not] at c25))
 | (refine Qe (id:=0) (Qw (ι:=Nat × Nat × List (List UInt8)) (fun q:Nat × Nat × List (List UInt8)=>⟨(upd (upd (upd (upd (upd (fun _=>.any) 0 (.str s)) 1 (.int .u8 (c.toNat:Int))) 5 (.fr 1 q.2.2.length (cat cStr q.2.2))) 6 (.int .i64 q.2.1)) 7 (.int .i64 q.1)),fun _=>none⟩) (fun q=>CutAt s c q) (fun q=>s.length + 1 - q.1) ((0,0,[])) ?_ ?_ ?_);exact cutAt_zero s c;((repeat' (first | exact Qg (by assumption) | exact Qi | refine Qf ?_ ?_ | refine Qh ?_)) <;> simp [-zg,-zd,↓Qb,↓Qa,go_sem]);rintro q (⟨g1,g2,g3,g4⟩ | ⟨g1,g2⟩) <;> (try (rcases Nat.lt_or_eq_of_le g1 with h1 | h1)))
 | (refine ⟨nx,hpx,by first | omega | (simp;done) | (simp;omega),?_⟩;((repeat' (first | exact Qg (by assumption) | exact Qi | refine Qf ?_ ?_ | refine Qh ?_)) <;> simp [-zg,-zd,↓Qb,↓Qa,go_sem,hnx]))
 | (refine Qe ?_)
 | (refine Qs ?_;simp [-zg,-zd,↓Qb,↓Qa,go_sem])
 | (refine Qr ?_;simp [-zg,-zd,↓Qb,↓Qa,go_sem])
 | (refine Qq ?_;simp [-zg,-zd,↓Qb,↓Qa,go_sem,Tryz.results25])
 | (intro hx;refine zA ?_)
 | (refine ⟨?_,?_⟩ <;> refine zA ?_)
 | (intro hx;constructor <;> intro hs)
 | (constructor <;> intro hs)
 | (refine ⟨?_,fun hs=>?_⟩;refine zA ?_)
 | (refine ⟨fun hs=>?_,?_⟩;rotate_left;refine zA ?_;rotate_left)
 | (refine Qc zajs [] (by kernel_rfl) ?_;simp [-zg,-zd,↓Qb,↓Qa,go_sem])
 | fail))
  all_goals (first
 | (exfalso;omega)
 | (simp [g2];done)
 | skip)
noncomputable def zako:Con:=.pure fun
  | [.str s,.int .u8 e]=>((s.length ≤ 1048576) ∧ (0 ≤ e) ∧ (e < 256),fr 1 cStr (pcs (UInt8.ofNat e.toNat) s []))
  | _=>(False,.any)
attribute [go_sem] zako
theorem zatj:ConOk Tryz.prog 25 zako:=by
  refine ⟨Qo Tryz.func25 (by decide) rfl,fun args h=>?_⟩
  revert h
  dsimp only
  split
  · intro h
    obtain ⟨hl,he0,he1⟩:=h
    skip
    exact ⟨l16Cut_pure _ _ hl he0 he1,by simp [go_sem]⟩
  · intro h
    exact h.elim
noncomputable def Γpc4:FuncId → Con:=ext Γpc0 25 zako
attribute [go_sem] Γpc4
theorem Vt:∀ g,ConOk Tryz.prog g (Γpc4 g):=Qn zajs zatj


def NumIs (s t:List UInt8) (neg:Bool):Prop:=numT s = t ∧ numNeg s = neg
theorem num_cases (s:List UInt8):(∃ t neg,0 < s.length ∧ ((s.getD 0 0).toNat:Int) = 45 ∧ s.drop 1 = t ∧ neg = true ∧ NumIs s t neg) ∨ (∃ t neg,t = s ∧ 0 < t.length ∧ ¬ ((t.getD 0 0).toNat:Int) = 45 ∧ True ∧ neg = false ∧ NumIs t t neg) ∨ (∃ t neg,t = s ∧ ¬ 0 < t.length ∧ True ∧ True ∧ neg = false ∧ NumIs t t neg):=by
  by_cases h0:0 < s.length
  · by_cases h1:(s.getD 0 0).toNat = 45
    · have hn:numNeg s = true:=decide_eq_true ⟨h0,h1⟩
      exact .inl ⟨_,_,h0,by omega,rfl,rfl,by unfold numT;rw [if_pos hn],hn⟩
    · have hn:numNeg s = false:=decide_eq_false fun h=>h1 h.2
      exact .inr (.inl ⟨s,_,rfl,h0,by omega,trivial,rfl,by unfold numT;rw [if_neg (by rw [hn];simp)],hn⟩)
  · have hn:numNeg s = false:=decide_eq_false fun h=>h0 h.1
    exact .inr (.inr ⟨s,_,rfl,h0,trivial,trivial,rfl,by unfold numT;rw [if_neg (by rw [hn];simp)],hn⟩)
theorem len_cases (t:List UInt8):(t = [] ∧ True ∧ True ∧ True) ∨ (0 < t.length ∧ 17 < (t.length:Int) ∧ True ∧ True) ∨ (0 < t.length ∧ ¬ 17 < (t.length:Int) ∧ ((t.getD 0 0).toNat:Int) = 48 ∧ 1 < (t.length:Int)) ∨
    (0 < t.length ∧ ¬ 17 < (t.length:Int) ∧ ((t.getD 0 0).toNat:Int) = 48 ∧ ¬ 1 < (t.length:Int)) ∨ (0 < t.length ∧ ¬ 17 < (t.length:Int) ∧ ¬ ((t.getD 0 0).toNat:Int) = 48 ∧ True):=by
  by_cases h0:t = []
  · exact .inl ⟨h0,trivial,trivial,trivial⟩
  · have:0 < t.length:=List.length_pos_iff.2 h0
    by_cases h1:17 < (t.length:Int)
    · exact .inr (.inl ⟨this,h1,trivial,trivial⟩)
    · by_cases h2:((t.getD 0 0).toNat:Int) = 48
      · by_cases h3:1 < (t.length:Int)
        · exact .inr (.inr (.inl ⟨this,h1,h2,h3⟩))
        · exact .inr (.inr (.inr (.inl ⟨this,h1,h2,h3⟩)))
      · exact .inr (.inr (.inr (.inr ⟨this,h1,h2,trivial⟩)))
def BadN (t:List UInt8) (neg:Bool):Prop:=t.length = 0 ∨ 17 < t.length ∨ ((t.getD 0 0).toNat = 48 ∧ (1 < t.length ∨ neg = true))
theorem bad_iff {t:List UInt8} {neg:Bool}:numBad t neg = true ↔ BadN t neg:=by
  simp [numBad,BadN,or_assoc,-zg]
theorem num_bad {s t:List UInt8} {neg:Bool} (hi:NumIs s t neg) (h:BadN t neg):numV s = 0 ∧ numOk s = false:=by
  obtain ⟨h1,h2⟩:=hi
  have hb:numB t neg = false:=by rw [numB,bad_iff.2 h];rfl
  exact ⟨by rw [numV,h1,h2,numR,if_neg (by rw [hb];simp)],by rw [numOk,h1,h2,hb]⟩
theorem num_bad_at {s t:List UInt8} {neg:Bool} (hi:NumIs s t neg) {k:Nat} (hk:k < t.length) (h:noDg t k = true):numV s = 0 ∧ numOk s = false:=by
  obtain ⟨h1,h2⟩:=hi
  have ha:(List.range t.length).any (noDg t) = true:=List.any_eq_true.2 ⟨k,List.mem_range.2 hk,h⟩
  have hb:numB t neg = false:=by rw [numB,ha];simp
  exact ⟨by rw [numV,h1,h2,numR,if_neg (by rw [hb];simp)],by rw [numOk,h1,h2,hb]⟩
theorem num_end {s t:List UInt8} {neg:Bool} (hi:NumIs s t neg) (h:¬ BadN t neg) {k:Nat} (hk:t.length ≤ k) (ht:NoneTill (noDg t) k):numV s = (if neg = true then -nmD t t.length else nmD t t.length) ∧ numOk s = true:=by
  obtain ⟨h1,h2⟩:=hi
  have ha:(List.range t.length).any (noDg t) = false:=by
    rw [List.any_eq_false]
    intro i hi
    rw [List.mem_range] at hi
    rw [ht i (by omega)];simp
  have hb:numB t neg = true:=by
    rw [numB,ha]
    cases e:numBad t neg
    · rfl
    · exact absurd (bad_iff.1 e) h
  exact ⟨by rw [numV,h1,h2,numR,if_pos hb],by rw [numOk,h1,h2,hb]⟩
theorem dg_succ {t:List UInt8} {k:Nat} (ht:NoneTill (noDg t) k) (h1:¬ ((t.getD k 0).toNat:Int) < 48) (h2:¬ 57 < ((t.getD k 0).toNat:Int)):NoneTill (noDg t) (k + 1) :=
  ht.succ (by rw [noDg,decide_eq_true (by omega)];rfl)

set_option maxHeartbeats 2000000 in

theorem l16Num_pure (s:List UInt8) (hl:s.length ≤ 1048576):Pure Tryz.prog 51 [.str s] (.tup [.int .i64 (numV s),.bool (numOk s)]):=by
  refine Pure.of_walk Tryz.func51 rfl (by simp [Tryz.f51]) (by simp [-zd,go_sem]) fun B hK=>?_
  rcases num_cases s with ⟨t,neg,h0,h45,hd,hneg,hi⟩ | ⟨t,neg,rfl,h0,h45,hd,hneg,hi⟩ | ⟨t,neg,rfl,h0,h45,hd,hneg,hi⟩ <;> rcases len_cases t with ⟨g1,g2,g3,g4⟩ | ⟨g1,g2,g3,g4⟩ | ⟨g1,g2,g3,g4⟩ | ⟨g1,g2,g3,g4⟩ | ⟨g1,g2,g3,g4⟩ <;> try (exfalso;omega)
  all_goals (repeat' (first
 | refine Qt ?_
 | refine Qc (id:=1) Vt [10] (by kernel_rfl) ?_;simp [-zg,-zd,↓Qb,↓Qa,go_sem,h0,h45];try (refine ⟨fun s1a=>?_,fun s1a=>?_⟩ <;> (try simp [B_iff,B_not] at s1a) <;> try (refine ⟨fun s1b=>?_,fun s1b=>?_⟩ <;> (try simp [B_iff,B_not] at s1b)))
 | refine Qc (id:=3) Vt [] (by kernel_rfl) ?_;simp [-zg,-zd,↓Qb,↓Qa,go_sem,(show s.length - 1 = t.length by rw [← hd];simp),hd,(show (1:Int) ≤ s.length by omega),List.take_length]
 | refine Qc (id:=4) Vt [21,26,30,34] (by kernel_rfl) ?_;simp [-zg,-zd,↓Qb,↓Qa,go_sem,g1,Qk g1,zsP g1,g2,g3,g4];try (refine ⟨fun s4a=>?_,fun s4a=>?_⟩ <;> (try simp [B_iff,B_not] at s4a) <;> try (refine ⟨fun s4b=>?_,fun s4b=>?_⟩ <;> (try simp [B_iff,B_not] at s4b) <;> try (refine ⟨fun s4c=>?_,fun s4c=>?_⟩ <;> (try simp [B_iff,B_not] at s4c) <;> try (refine ⟨fun s4d=>?_,fun s4d=>?_⟩ <;> (try simp [B_iff,B_not] at s4d) <;> try (refine ⟨fun s4e=>?_,fun s4e=>?_⟩ <;> (try simp [B_iff,B_not] at s4e))))))
 | refine Qc (id:=4) Vt [21,26,30,34] (by kernel_rfl) ?_;simp [-zg,-zd,↓Qb,↓Qa,go_sem,g1];try (refine ⟨fun s4a=>?_,fun s4a=>?_⟩ <;> (try simp [B_iff,B_not] at s4a) <;> try (refine ⟨fun s4b=>?_,fun s4b=>?_⟩ <;> (try simp [B_iff,B_not] at s4b) <;> try (refine ⟨fun s4c=>?_,fun s4c=>?_⟩ <;> (try simp [B_iff,B_not] at s4c) <;> try (refine ⟨fun s4d=>?_,fun s4d=>?_⟩ <;> (try simp [B_iff,B_not] at s4d) <;> try (refine ⟨fun s4e=>?_,fun s4e=>?_⟩ <;> (try simp [B_iff,B_not] at s4e))))))
 | refine Qc (id:=10) Vt [49] (by kernel_rfl) ?_;simp [-zg,-zd,↓Qb,↓Qa,go_sem,c42,Qk c42,zsP c42];try (refine ⟨fun s10a=>?_,fun s10a=>?_⟩ <;> (try simp [B_iff,B_not] at s10a) <;> try (refine ⟨fun s10b=>?_,fun s10b=>?_⟩ <;> (try simp [B_iff,B_not] at s10b)))
 | (have hv:=nmD_s ht (by omega);have hgd:(t.getD k 0).toNat = (t[k]?.getD 0).toNat:=(by rw [List.getD_eq_getElem?_getD]));refine Qc (id:=12) Vt [] (by kernel_rfl) ?_;simp [-zg,-zd,↓Qb,↓Qa,go_sem,c42,Qk c42,zsP c42,(show IntKind.u8.wrap (((t.getD k 0).toNat:Int) - 48) = ((t.getD k 0).toNat:Int) - 48 by rw [IntKind.wrap_u8];omega),Xa (x:=((t.getD k 0).toNat:Int) - 48) (by omega) (by omega),Xa (x:=nmD t k * 10) (by omega) (by omega),Xa (x:=nmD t k * 10 + (((t.getD k 0).toNat:Int) - 48)) (by omega) (by omega)]
 | (have htn:=dg_succ ht (by omega) (by omega));refine Qc (id:=9) Vt [] (by kernel_rfl) ?_;simp [-zg,-zd,↓Qb,↓Qa,go_sem,wrapS (k:=k) (by omega)]
 | ((obtain rfl:k = t.length:=(by omega));have hv:=nmD_s ht (by omega));refine Qc (id:=14) Vt [] (by kernel_rfl) ?_;simp [-zg,-zd,↓Qb,↓Qa,go_sem,Xa (x:=-nmD t t.length) (by omega) (by omega)]
 | refine Qj (c:=.tmp 42) ?_;simp [-zg,-zd,↓Qb,↓Qa,go_sem];try first | (refine ⟨?_,?_⟩ <;> refine zA ?_) | (refine ⟨fun c42=>?_,fun c42=>?_⟩ <;> (try simp [B_iff,B_not] at c42))
 | refine Qj (c:=.tmp 63) ?_;simp [-zg,-zd,↓Qb,↓Qa,go_sem];try first | (refine ⟨?_,?_⟩ <;> refine zA ?_) | (refine ⟨fun c63=>?_,fun c63=>?_⟩ <;> (try simp [B_iff,B_not] at c63))
 | (refine Qe (id:=0) (Qw (ι:=Nat) (fun k:Nat=>⟨(upd (upd (upd (upd (fun _=>.any) 0 (.str t)) 4 (.bool neg)) 5 (.int .i64 (nmD t k))) 6 (.int .i64 k)),fun _=>none⟩) (fun k=>k ≤ t.length ∧ NoneTill (noDg t) k) (fun k=>t.length - k) (0) ?_ ?_ ?_);exact ⟨Nat.zero_le _,.zero _⟩;((repeat' (first | exact Qg (by assumption) | exact Qi | refine Qf ?_ ?_ | refine Qh ?_)) <;> simp [-zg,-zd,↓Qb,↓Qa,go_sem,hneg,nmD]);rintro k ⟨hk,ht⟩)
 | (refine ⟨k + 1,⟨by omega,htn⟩,by first | omega | (simp;done) | (simp;omega),?_⟩;((repeat' (first | exact Qg (by assumption) | exact Qi | refine Qf ?_ ?_ | refine Qh ?_)) <;> simp [-zg,-zd,↓Qb,↓Qa,go_sem,hneg,nmD]))
 | (refine Qe ?_)
 | (refine Qs ?_;simp [-zg,-zd,↓Qb,↓Qa,go_sem])
 | (refine Qr ?_;simp [-zg,-zd,↓Qb,↓Qa,go_sem])
 | (refine Qq ?_;simp [-zg,-zd,↓Qb,↓Qa,go_sem,Tryz.results51])
 | (intro hx;refine zA ?_)
 | (refine ⟨?_,?_⟩ <;> refine zA ?_)
 | (intro hx;constructor <;> intro hs)
 | (constructor <;> intro hs)
 | (refine ⟨?_,fun hs=>?_⟩;refine zA ?_)
 | (refine ⟨fun hs=>?_,?_⟩;rotate_left;refine zA ?_;rotate_left)
 | (refine Qj ?_;simp [-zg,-zd,↓Qb,↓Qa,go_sem];try first | (refine ⟨?_,?_⟩ <;> refine zA ?_) | (refine ⟨fun cz=>?_,fun cz=>?_⟩ <;> (try simp [B_iff,B_not] at cz)))
 | (refine Qc Vt [] (by kernel_rfl) ?_;simp [-zg,-zd,↓Qb,↓Qa,go_sem])
 | fail))
  all_goals (first
 | (have hb:=num_bad hi (by first | (simp [BadN,hneg,g1,g2,g3,g4,-zg];done) | (simp [BadN,hneg,-zg];omega));exact ⟨hb.1.symm,hb.2⟩)
 | (exfalso;rw [hneg] at c63;cases c63;done)
 | (exact ⟨by decide,by decide⟩)
 | (have hgd:(t.getD k 0).toNat = (t[k]?.getD 0).toNat:=(by rw [List.getD_eq_getElem?_getD]);have hb:=num_bad_at hi c42 (by rw [noDg,decide_eq_false (by omega)];rfl);exact ⟨hb.1.symm,hb.2⟩)
 | (have he:=num_end hi (fun hb=>by rcases hb with h | h | ⟨h,h2 | h2⟩ <;> first | omega | (rw [hneg] at h2;cases h2)) (Nat.le_refl _) ht;exact ⟨by rw [he.1,if_pos c63],he.2⟩)
 | (obtain rfl:k = t.length:=(by omega);have he:=num_end hi (fun hb=>by rcases hb with h | h | ⟨h,h2 | h2⟩ <;> first | omega | (rw [hneg] at h2;cases h2)) (Nat.le_refl _) ht;exact ⟨by rw [he.1,if_neg (by rw [hneg];simp)],he.2⟩)
 | skip)
noncomputable def zakn:Con:=.pure fun
  | [.str s]=>((s.length ≤ 1048576),.tup [.int .i64 (numV s),.bool (numOk s)])
  | _=>(False,.any)
attribute [go_sem] zakn
theorem zati:ConOk Tryz.prog 51 zakn:=by
  refine ⟨Qo Tryz.func51 (by decide) rfl,fun args h=>?_⟩
  revert h
  dsimp only
  split
  · intro h
    have hl:=h
    skip
    exact ⟨l16Num_pure _ hl,by simp [go_sem]⟩
  · intro h
    exact h.elim
noncomputable def Γpc5:FuncId → Con:=ext Γpc4 51 zakn
attribute [go_sem] Γpc5
theorem Γpc5_ok:∀ g,ConOk Tryz.prog g (Γpc5 g):=Qn Vt zati


section
variable {P:Program} {B:Base} {n:Nat} {c:Code} {Q:Exit → St → Prop} {S:St}
theorem AW_matOne (b:Nat) {f:Hp} {m:Nat} {cs:List D} (hH:S.H = upd f b (some [.fr 1 m cs]))
    (h:∀ x cp j,S.H x = none → ¬ b = x → m ≤ cp → cp * 1 ≤ m * 1 + j → AW P B n c Q ⟨S.T,upd (upd f b (some [.sl x 1 0 m cp])) x (some (cs ++ zrP j .any))⟩):AW P B n c Q S:=by
  refine Xw b 0 (all:=[.fr 1 m cs]) (by rw [hH,Qu]) rfl fun x cp j hx hc hd=>?_
  have hbx:¬ b = x:=by rintro rfl;rw [hH,Qu] at hx;cases hx
  have:=h x cp j hx hbx hc hd
  have e:upd (upd S.H b (some ([D.fr 1 m cs].set 0 (.sl x 1 0 m cp)))) x (some (cs ++ zrP j .any)) = upd (upd f b (some [.sl x 1 0 m cp])) x (some (cs ++ zrP j .any)):=by
    rw [hH]
    funext z
    by_cases e1:z = x
    · subst e1;rw [Qu,Qu]
    · by_cases e2:z = b
      · subst e2;rw [Ql e1,Qu,Ql e1,Qu];rfl
      · rw [Ql e1,Ql e2,Ql e2,Ql e1,Ql e2]
  rw [e]
  exact this
end

noncomputable def zaag:Con:=.pure fun
  | [.st [.list n_a c_a]]=>((Is cI n_a c_a),.str (certT (de cI c_a)))
  | _=>(False,.any)
attribute [go_sem] zaag
theorem zabe:ConOk Tryz.prog 14 zaag:=by
  refine ⟨Qo Tryz.func14 (by decide) rfl,fun args h=>?_⟩
  revert h
  dsimp only
  split
  · intro h
    obtain ⟨a,rfl,rfl⟩:=h
    try simp only [Qm] at *
    exact ⟨zafr a,by simp [go_sem]⟩
  · intro h
    exact h.elim
noncomputable def Γpc6:FuncId → Con:=ext Γpc5 14 zaag
attribute [go_sem] Γpc6
theorem Ji:∀ g,ConOk Tryz.prog g (Γpc6 g):=Qn Γpc5_ok zabe

def okC (R:List Int) (t:List UInt8):Bool:=decide (¬ t = [] ∧ certT R = t)
theorem okC_cases (R:List Int) (t:List UInt8):(t = [] ∧ True ∧ okC R t = false) ∨ (¬ t = [] ∧ ¬ certT R = t ∧ okC R t = false) ∨ (¬ t = [] ∧ certT R = t ∧ okC R t = true):=by
  by_cases h:t = []
  · exact .inl ⟨h,trivial,decide_eq_false fun k=>k.1 h⟩
  · by_cases h1:certT R = t
    · exact .inr (.inr ⟨h,h1,decide_eq_true ⟨h,h1⟩⟩)
    · exact .inr (.inl ⟨h,h1,decide_eq_false fun k=>h1 k.2⟩)
def sT (s:List UInt8) (k:Nat):List Int:=(((pcs 32 s []).drop 1).map specN).take k
theorem sT_len {s:List UInt8} {k:Nat} (h:k + 1 ≤ (pcs 32 s []).length):(sT s k).length = k:=by simp [sT];omega
theorem sT_zero (s:List UInt8):sT s 0 = []:=by simp [sT]
theorem sT_succ {s:List UInt8} {k:Nat} (h:k + 1 < (pcs 32 s []).length):sT s (k + 1) = sT s k ++ [specN (nth (pcs 32 s []) (k + 1))]:=by
  have hk:k < (((pcs 32 s []).drop 1).map specN).length:=by simp;omega
  rw [sT,List.take_succ_eq_append_getElem hk,Xc h]
  simp [sT,Nat.add_comm]
theorem sT_end {s:List UInt8} {k:Nat} (hk:k ≤ 4000) (h:¬ (k + 1 < (pcs 32 s []).length ∧ k + 1 ≤ 4000)):sT s k = specR s:=by
  rw [specR,List.map_take,sT]
  by_cases e:k = 4000
  · rw [e]
  · rw [List.take_of_length_le (by simp;omega),List.take_of_length_le (by simp;omega)]
theorem nth_pc_len (s:List UInt8) (i:Nat) (hl:s.length ≤ 1048576):(nth (pcs 32 s []) i).length ≤ 1048576:=Nat.le_trans (piece_len s i) hl
theorem snoc_c (xs:List Int) (x:Int):cat cI xs ++ [.int .i64 x] = cat cI (xs ++ [x]):=by rw [Xk,Xg];rfl

set_option maxHeartbeats 2000000 in

theorem specParse_pure (s:List UInt8) (hl:s.length ≤ 1048576):Pure Tryz.prog 17 [.str s] (if okC (specR s) s = true then .tup [.st [fr 1 cI (specR s)],.bool true] else .tup [.st [.nil],.bool false]):=by
  refine Pure.of_walk Tryz.func17 rfl (by simp [Tryz.f17]) (by simp [-zd,go_sem]) fun B hK=>?_
  have hpp:=pcs_pos 32 s [];have hpl:=zatz 32 s [];rcases okC_cases (specR s) s with ⟨he,hf,ho⟩ | ⟨he,hf,ho⟩ | ⟨he,hf,ho⟩ <;> rw [ho] <;> simp only [if_true,Bool.false_eq_true,if_false]
  all_goals (repeat' (first
 | refine Qt ?_
 | refine Qc (id:=1) Ji [] (by kernel_rfl) ?_;simp [-zg,-zd,↓Qb,↓Qa,go_sem,hl,(show UInt8.ofNat (Int.toNat 32) = 32 from rfl)];try (refine Xh hK 4 ?_;simp [go_sem])
 | refine Qc (id:=2) Ji [] (by kernel_rfl) ?_;simp [-zg,-zd,↓Qb,↓Qa,go_sem];try ((refine AW_boxNil 5 rfl ?_);(refine Xs 5 rfl fun b hb=>?_))
 | refine Qc (id:=4) Ji [16] (by kernel_rfl) ?_;simp [-zg,-zd,↓Qb,↓Qa,go_sem];try (refine ⟨fun s4a=>?_,fun s4a=>?_⟩ <;> (try simp [B_iff,B_not] at s4a) <;> try (refine ⟨fun s4b=>?_,fun s4b=>?_⟩ <;> (try simp [B_iff,B_not] at s4b)))
 | (have i1:k + 1 < (pcs 32 s []).length:=(by omega));refine Qc (id:=6) Ji [] (by kernel_rfl) ?_;simp [-zg,-zd,↓Qb,↓Qa,go_sem,i1,Qk i1,zsP i1,(show (0:Int) ≤ (k:Int) + 1 by omega),(show (k:Int) + 1 < ((pcs 32 s []).length:Int) by omega)]
 | (have hsn:sT s (k + 1) = sT s k ++ [-1]:=(by rw [sT_succ i1,specN,if_pos c26]);have hsl:=sT_len (s:=s) (k:=k) hk);refine Qc (id:=7) Ji [] (by kernel_rfl) ?_;simp [-zg,-zd,↓Qb,↓Qa,go_sem,snoc_c,(show (sT s k).length ≤ 9223372036854775806 by omega),(show 2 * ((sT s k).length + 1) * 8 ≤ 281474976710656 by omega),(show (sT s k).length + 1 ≤ 9223372036854775807 by omega)]
 | refine Qc (id:=8) Ji [] (by kernel_rfl) ?_;simp [-zg,-zd,↓Qb,↓Qa,go_sem,i1,Qk i1,zsP i1,(show (0:Int) ≤ (k:Int) + 1 by omega),(show (k:Int) + 1 < ((pcs 32 s []).length:Int) by omega),nth_pc_len s (k + 1) hl]
 | (have hsn:sT s (k + 1) = sT s k ++ [numV (nth (pcs 32 s []) (k + 1))]:=(by rw [sT_succ i1,specN,if_neg c26]);have hsl:=sT_len (s:=s) (k:=k) hk);refine Qc (id:=9) Ji [] (by kernel_rfl) ?_;simp [-zg,-zd,↓Qb,↓Qa,go_sem,snoc_c,(show (sT s k).length ≤ 9223372036854775806 by omega),(show 2 * ((sT s k).length + 1) * 8 ≤ 281474976710656 by omega),(show (sT s k).length + 1 ≤ 9223372036854775807 by omega)]
 | refine Qc (id:=5) Ji [] (by kernel_rfl) ?_;simp [-zg,-zd,↓Qb,↓Qa,go_sem,Xa (x:=(k:Int) + 1 + 1) (by omega) (by omega)]
 | (have hse:sT s k = specR s:=sT_end hk4 (by omega);(rw [hse]);(refine AW_matOne b rfl fun x cp j hx hbx hcp hj=>?_);clear hx);refine Qc (id:=10) Ji [48] (by kernel_rfl) ?_;simp [-zg,-zd,↓Qb,↓Qa,go_sem,hbx,zS hbx,eq_true he,hf];try (refine ⟨fun s10a=>?_,fun s10a=>?_⟩ <;> (try simp [B_iff,B_not] at s10a) <;> try (refine ⟨fun s10b=>?_,fun s10b=>?_⟩ <;> (try simp [B_iff,B_not] at s10b)))
 | refine Qc (id:=10) Ji [48] (by kernel_rfl) ?_;simp [-zg,-zd,↓Qb,↓Qa,go_sem,hbx,zS hbx,he,hf];try (refine ⟨fun s10a=>?_,fun s10a=>?_⟩ <;> (try simp [B_iff,B_not] at s10a) <;> try (refine ⟨fun s10b=>?_,fun s10b=>?_⟩ <;> (try simp [B_iff,B_not] at s10b)))
 | refine Qc (id:=12) Ji [] (by kernel_rfl) ?_;simp [-zg,-zd,↓Qb,↓Qa,go_sem,hbx,zS hbx];try ((refine AW_own1 2 (X:=cat cI (specR s) ++ zrP j D.any) rfl (by simp [upd,hbx,zS hbx]) (by simp [Qv]) (by simp [Qv];omega) fun r hr=>?_))
 | refine Qj (c:=.tmp 26) ?_;simp [-zg,-zd,↓Qb,↓Qa,go_sem];try first | (refine ⟨?_,?_⟩ <;> refine zA ?_) | (refine ⟨fun c26=>?_,fun c26=>?_⟩ <;> (try simp [B_iff,B_not] at c26))
 | (refine Qe (id:=0) (Qw (ι:=Nat) (fun k:Nat=>⟨(upd (upd (upd (upd (upd (fun _=>.any) 0 (.str s)) 2 (.box [.nil])) 4 (li cStr (pcs 32 s []))) 5 (.ptr b 0)) 6 (.int .i64 ((k:Int) + 1))),upd (fun _=>none) b (some [fr 1 cI (sT s k)])⟩) (fun k=>k + 1 ≤ (pcs 32 s []).length ∧ k ≤ 4000) (fun k=>(pcs 32 s []).length - k) (0) ?_ ?_ ?_);exact ⟨hpp,by omega⟩;((repeat' (first | exact Qg (by assumption) | exact Qi | refine Qf ?_ ?_ | refine Qh ?_)) <;> simp [-zg,-zd,↓Qb,↓Qa,go_sem,sT_zero,cat]);rintro k ⟨hk,hk4⟩)
 | (refine ⟨k + 1,⟨by omega,by omega⟩,by first | omega | (simp;done) | (simp;omega),?_⟩;((repeat' (first | exact Qg (by assumption) | exact Qi | refine Qf ?_ ?_ | refine Qh ?_)) <;> simp [-zg,-zd,↓Qb,↓Qa,go_sem,hsn,(show (((k + 1:Nat):Int) + 1) = (k:Int) + 1 + 1 by omega)]))
 | (refine Qe ?_)
 | (refine Qs ?_;simp [-zg,-zd,↓Qb,↓Qa,go_sem])
 | (refine Qr ?_;simp [-zg,-zd,↓Qb,↓Qa,go_sem])
 | (refine Qq ?_;simp [-zg,-zd,↓Qb,↓Qa,go_sem,Tryz.results17])
 | (intro hx;refine zA ?_)
 | (refine ⟨?_,?_⟩ <;> refine zA ?_)
 | (intro hx;constructor <;> intro hs)
 | (constructor <;> intro hs)
 | (refine ⟨?_,fun hs=>?_⟩;refine zA ?_)
 | (refine ⟨fun hs=>?_,?_⟩;rotate_left;refine zA ?_;rotate_left)
 | (refine Qj ?_;simp [-zg,-zd,↓Qb,↓Qa,go_sem];try first | (refine ⟨?_,?_⟩ <;> refine zA ?_) | (refine ⟨fun cz=>?_,fun cz=>?_⟩ <;> (try simp [B_iff,B_not] at cz)))
 | (refine Qc Ji [] (by kernel_rfl) ?_;simp [-zg,-zd,↓Qb,↓Qa,go_sem])
 | fail))
  all_goals (first
 | (exact absurd (show s = [] by assumption) he)
 | skip)
noncomputable def zafq:Con:=.pure fun
  | [.str s]=>((s.length ≤ 1048576),if okC (specR s) s = true then .tup [.st [fr 1 cI (specR s)],.bool true] else .tup [.st [.nil],.bool false])
  | _=>(False,.any)
attribute [go_sem] zafq
theorem zamj:ConOk Tryz.prog 17 zafq:=by
  refine ⟨Qo Tryz.func17 (by decide) rfl,fun args h=>?_⟩
  revert h
  dsimp only
  split
  · intro h
    have hl:=h
    skip
    exact ⟨specParse_pure _ hl,by simp [go_sem]⟩
  · intro h
    exact h.elim
noncomputable def Γpc7:FuncId → Con:=ext Γpc6 17 zafq
attribute [go_sem] Γpc7
theorem zama:∀ g,ConOk Tryz.prog g (Γpc7 g):=Qn Ji zamj


noncomputable def Γpc8:FuncId → Con:=Γpc7
attribute [go_sem] Γpc8
theorem Γpc8_ok:∀ g,ConI Tryz.prog LibOk g (Γpc8 g):=fun g=>(zama g).toI

noncomputable def zaah:Con:=.pure fun
  | [.st [.list n_a c_a]]=>((Is cI n_a c_a),.str (certT (de cI c_a)))
  | _=>(False,.any)
attribute [go_sem] zaah
theorem zabf:ConI Tryz.prog LibOk 12 zaah:=by
  refine ⟨Qo Tryz.func12 (by decide) rfl,fun args h=>?_⟩
  revert h
  dsimp only
  split
  · intro h
    obtain ⟨a,rfl,rfl⟩:=h
    try simp only [Qm] at *
    exact ⟨zafu a,by simp [go_sem]⟩
  · intro h
    exact h.elim
noncomputable def Γpc9:FuncId → Con:=ext Γpc8 12 zaah
attribute [go_sem] Γpc9
theorem Γpc9_ok:∀ g,ConI Tryz.prog LibOk g (Γpc9 g):=ext_okI Γpc8_ok zabf

noncomputable def zafs:Con:=.pure fun
  | [.str s]=>((s.length ≤ 1048576),.tup [.str (headW s),fr 1 cI (certR s)])
  | _=>(False,.any)
attribute [go_sem] zafs
theorem zamk:ConI Tryz.prog LibOk 29 zafs:=by
  refine ⟨Qo Tryz.func29 (by decide) rfl,fun args h=>?_⟩
  revert h
  dsimp only
  split
  · intro h
    have hl:=h
    skip
    exact ⟨readWords_pure _ hl,by simp [go_sem]⟩
  · intro h
    exact h.elim
noncomputable def Γpc10:FuncId → Con:=ext Γpc9 29 zafs
attribute [go_sem] Γpc10
theorem zaix:∀ g,ConI Tryz.prog LibOk g (Γpc10 g):=ext_okI Γpc9_ok zamk

set_option maxHeartbeats 2000000 in

theorem implParse_pure (s:List UInt8) (hl:s.length ≤ 1048576):PureI Tryz.prog LibOk 13 [.str s] (if okC (certR s) s = true then .tup [.st [fr 1 cI (certR s)],.bool true] else .tup [.st [.nil],.bool false]):=by
  refine PureI.of_walk Tryz.func13 rfl (by simp [Tryz.f13]) (by simp [-zd,go_sem]) LibOk.frm fun B hK hB=>?_
  have hrl:=zaoz s;have hpl:=zatz 32 s [];rcases okC_cases (certR s) s with ⟨he,hf,ho⟩ | ⟨he,hf,ho⟩ | ⟨he,hf,ho⟩ <;> rw [ho] <;> simp only [if_true,Bool.false_eq_true,if_false]
  all_goals (repeat' (first
 | refine Qt ?_
 | refine Zu (id:=1) zaix hB [] (by kernel_rfl) ?_;simp [-zg,-zd,↓Qb,↓Qa,go_sem,hl];try (refine Xh hK 5 ?_;simp [go_sem])
 | refine Zu (id:=2) zaix hB [] (by kernel_rfl) ?_;simp [-zg,-zd,↓Qb,↓Qa,go_sem,(show (certR s).length ≤ 1048576 by omega)];try ((refine AW_box1 6 rfl fun p x j cp hp hx hpx hcp hj=>?_);(clear hp hx))
 | refine Zu (id:=3) zaix hB [17] (by kernel_rfl) ?_;simp [-zg,-zd,↓Qb,↓Qa,go_sem,hpx,zS hpx,eq_true he,hf];try (refine ⟨fun s3a=>?_,fun s3a=>?_⟩ <;> (try simp [B_iff,B_not] at s3a) <;> try (refine ⟨fun s3b=>?_,fun s3b=>?_⟩ <;> (try simp [B_iff,B_not] at s3b)))
 | refine Zu (id:=3) zaix hB [17] (by kernel_rfl) ?_;simp [-zg,-zd,↓Qb,↓Qa,go_sem,hpx,zS hpx,he,hf];try (refine ⟨fun s3a=>?_,fun s3a=>?_⟩ <;> (try simp [B_iff,B_not] at s3a) <;> try (refine ⟨fun s3b=>?_,fun s3b=>?_⟩ <;> (try simp [B_iff,B_not] at s3b)))
 | refine Zu (id:=5) zaix hB [] (by kernel_rfl) ?_;simp [-zg,-zd,↓Qb,↓Qa,go_sem,hpx,zS hpx];try ((refine AW_own1 2 (X:=cat cI (certR s) ++ zrP j D.any) rfl (by simp [upd,hpx,zS hpx]) (by simp [Qv]) (by simp [Qv];omega) fun r hr=>?_))
 | (refine Qe ?_)
 | (refine Qs ?_;simp [-zg,-zd,↓Qb,↓Qa,go_sem])
 | (refine Qr ?_;simp [-zg,-zd,↓Qb,↓Qa,go_sem])
 | (refine Qq ?_;simp [-zg,-zd,↓Qb,↓Qa,go_sem,Tryz.results13])
 | (intro hx;refine zA ?_)
 | (refine ⟨?_,?_⟩ <;> refine zA ?_)
 | (intro hx;constructor <;> intro hs)
 | (constructor <;> intro hs)
 | (refine ⟨?_,fun hs=>?_⟩;refine zA ?_)
 | (refine ⟨fun hs=>?_,?_⟩;rotate_left;refine zA ?_;rotate_left)
 | (refine Qj ?_;simp [-zg,-zd,↓Qb,↓Qa,go_sem];try first | (refine ⟨?_,?_⟩ <;> refine zA ?_) | (refine ⟨fun cz=>?_,fun cz=>?_⟩ <;> (try simp [B_iff,B_not] at cz)))
 | (refine Zu zaix hB [] (by kernel_rfl) ?_;simp [-zg,-zd,↓Qb,↓Qa,go_sem])
 | fail))
  all_goals (first
 | (exact absurd (show s = [] by assumption) he)
 | skip)
noncomputable def zaft:Con:=.pure fun
  | [.str s]=>((s.length ≤ 1048576),if okC (certR s) s = true then .tup [.st [fr 1 cI (certR s)],.bool true] else .tup [.st [.nil],.bool false])
  | _=>(False,.any)
attribute [go_sem] zaft
theorem zane:ConI Tryz.prog LibOk 13 zaft:=by
  refine ⟨Qo Tryz.func13 (by decide) rfl,fun args h=>?_⟩
  revert h
  dsimp only
  split
  · intro h
    have hl:=h
    skip
    exact ⟨implParse_pure _ hl,by simp [go_sem]⟩
  · intro h
    exact h.elim
theorem okC_read (R:List Int) (t:List UInt8):okC R t = (readC R t).2 ∧ (okC R t = true → (readC R t).1 = R):=by
  unfold okC readC
  by_cases h:t = [] ∨ ¬ certT R = t
  · rw [if_pos h]
    have:¬ (¬ t = [] ∧ certT R = t):=fun k=>h.elim k.1 fun q=>q k.2
    exact ⟨decide_eq_false this,fun k=>absurd (of_decide_eq_true k) this⟩
  · rw [if_neg h]
    exact ⟨decide_eq_true ⟨fun k=>h (.inl k),Classical.byContradiction fun k=>h (.inr k)⟩,fun _=>rfl⟩
theorem okC_same (t:List UInt8):okC (specR t) t = okC (certR t) t:=by rw [(okC_read _ t).1,(okC_read (certR t) t).1,read_same]
theorem specR_eq {t:List UInt8} (h:okC (certR t) t = true):specR t = certR t:=by
  rw [← (okC_read _ t).2 h,← read_same,(okC_read _ t).2 (by rw [okC_same,h])]

end Go.Proofs.YtiilmjojffjhlaaGreatDoor.Vm

