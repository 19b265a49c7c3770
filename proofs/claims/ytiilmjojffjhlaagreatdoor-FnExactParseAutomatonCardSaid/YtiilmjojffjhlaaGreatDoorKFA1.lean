/-
  Contracts of row and words: a word and numbers in decimal digits. Conditions: the slices can be read, and the numbers are of one or two digits.
-/
import Derived.Test.YtiilmjojffjhlaaGreatDoorKCT2
import Derived.Laws.OwnMore
namespace Go.Proofs.YtiilmjojffjhlaaGreatDoor
open Go.RowKit Go.Deep
set_option linter.unusedVariables false

theorem zafa (w:World) (n:Nat) (h:n < 100) :
    Calls Tryz.prog 44 #[.int .i64 n] w fun e w'=>e = .returned (.string (tx (decN n))) ∧ Gr w w':=by
  refine (Tryz.strconv_Itoa_small n h w).mono ?_
  rintro e w1 ⟨rfl,rfl⟩
  exact ⟨by rw [decDigits_decN];rfl,Gr.refl _⟩
theorem infoStr:(Tryz.prog.info? 9).map (fun i=>(i.zero,i.size,i.bytes)) = some (some (.string ⟨#[]⟩),1,16):=by kernel_rfl
theorem one_str (w:World) (c:ByteArray):∀ j u,([Value.string c]:List Value)[j]? = some u → (w.alloc (.cells #[.string c] 9)).cell? ((⟨w.heap.size,0,none⟩:Addr).add j) = some u:=by
  intro j u hj
  have hb:=(Box.new (w:=w) (t:=9) (cs:=#[.string c]) rfl).c
  match j,hj with
  | 0,hj=>rw [add0,hb];simpa using hj

set_option maxRecDepth 100000 in
set_option maxHeartbeats 1000000 in
theorem row_any (w:World) (bk c:Nat) (xs:List ByteArray) (hcells:∀ (j:Nat) x,xs[j]? = some x → w.cell? ⟨bk,0 + j,none⟩ = some (.string x)) (hbk:bk < w.heap.size) (hN:xs.length ≤ 5000) (hcap:xs.length ≤ c)
    (hlen:(Lib.join (xs.map (·.data.toList)) [32]).length ≤ 1000000) :
    Calls Tryz.prog 78 #[.slice (some ⟨bk,0,none⟩) xs.length c] w fun e w'=>e = .returned (.string (tx (Lib.join (xs.map (·.data.toList)) [32] ++ [10]))) ∧ Gr w w':=by
  have HC:=Lib.hid hcells
  clear hcells
  go_enter Tryz.func78,Tryz.ntmps78
  go_wp2_with fail
  refine (Tryz.strings_Join bk 0 c xs ⟨#[32]⟩ w HC.out hbk (by omega) hcap (by show (Lib.join _ [32]).length ≤ _;omega)).mono ?_
  rintro e w1 ⟨rfl,hg⟩
  have HG:=Lib.hid (show Gr w w1 from hg)
  clear hg
  have hsz:(⟨(Lib.join (xs.map (·.data.toList)) ((⟨#[32]⟩:ByteArray)).data.toList).toArray⟩:ByteArray).size ≤ 1000000:=by
    show (tx (Lib.join (xs.map (·.data.toList)) [32])).size ≤ _
    rw [Zj];exact hlen
  go_wp2_with fail
  go_ret
  refine ⟨?_,HG.out⟩
  rw [← tx_add];rfl

def SOw (w wr:World) (v:Value) (ss:List ByteArray):Prop:=Gr w wr ∧ wr.ownsRow w.heap.size 9 1 v ss.length (ss.map Value.string)
theorem SOw.beside {w wr w':World} {v:Value} {ss:List ByteArray} (h:SOw w wr v ss) (g:Gr wr w'):SOw w w' v ss:=by
  obtain ⟨hg,hown⟩:=h
  refine ⟨hg.trans g,hown.1,hown.2.imp id ?_⟩
  rintro ⟨g',cap,cur,hv,hb',hw,rest⟩
  exact ⟨g',cap,cur,hv,hb',(g.block g' (Box.lt (cs:=cur) hw)).trans hw,rest⟩
theorem SOw.one (w:World) (s:ByteArray):SOw w (w.alloc (.cells #[.string s] 9)) (.slice (some ⟨w.heap.size,0,none⟩) 1 1) [s] :=
  ⟨(Gr.refl w).alloc _,World.ownsRow_lit w #[.string s] 1 (Nat.le_refl _) (by decide) rfl⟩
theorem SOw.shape {w wr:World} {v:Value} {ss:List ByteArray} (h:SOw w wr v ss) (hn:0 < ss.length) :
    ∃ g cap,v = .slice (some ⟨g,0,none⟩) ss.length cap ∧ g < wr.heap.size ∧ ss.length ≤ cap ∧ ∀ (j:Nat) x,ss[j]? = some x → wr.cell? ⟨g,0 + j,none⟩ = some (.string x):=by
  obtain ⟨hg,hown⟩:=h
  have hc:=hown
  obtain ⟨_,h0 | ⟨g,cap,cur,hv,hB,hw,hcap,_⟩⟩:=hown
  · omega
  · refine ⟨g,cap,hv,Box.lt (cs:=cur) hw,hcap,fun j x hj=>?_⟩
    have:=World.ownsRow.cells hc (g:=g) (by rw [hv];rfl) j (.string x) (by simp [hj])
    rwa [add0] at this

def strs (wd:List UInt8) (l:List Int) (k:Nat):List ByteArray:=tx wd :: (l.take k).map fun n=>tx (decN n.toNat)
def Qx (wd:List UInt8) (l:List Int):List UInt8:=wd ++ (l.flatMap fun n=>32 :: decN n.toNat) ++ [10]
theorem strs_len {wd:List UInt8} {l:List Int} {k:Nat} (h:k ≤ l.length):(strs wd l k).length = k + 1:=by simp [strs];omega
theorem strs_succ {wd:List UInt8} {l:List Int} {k:Nat} (h:k < l.length):strs wd l (k + 1) = strs wd l k ++ [tx (decN (nth l k).toNat)]:=by
  rw [strs,List.take_succ_eq_append_getElem h,nth_lt h,List.map_append];rfl
theorem tx_data (l:List UInt8):(tx l).data.toList = l:=rfl
theorem strs_join (wd:List UInt8) (l:List Int):Lib.join ((strs wd l l.length).map (·.data.toList)) [32] ++ [10] = Qx wd l:=by
  rw [strs,List.map_cons,Lib.join_cons,tx_data,Qx,List.take_length,Lib.joinTail,List.map_map,List.map_map,List.flatMap_def]
  rfl
def NumOk (l:List Int):Prop:=∀ i,i < l.length → 0 ≤ nth l i ∧ nth l i ≤ 99
theorem decN10 {n:Int} (h:0 ≤ n) (h2:n ≤ 99):(decN n.toNat).length ≤ 10:=zadz 9 _ (by omega)
theorem flat_len:∀ (l:List Int),NumOk l → (l.flatMap fun n=>32 :: decN n.toNat).length ≤ 11 * l.length
  | [],_=>by simp
  | n :: l,h=>by
    have h0:=h 0 (by simp)
    have:=decN10 (n:=n) h0.1 h0.2
    have ih:=flat_len l fun i hi=>h (i + 1) (by simpa using hi)
    simp only [List.flatMap_cons,List.length_append,List.length_cons]
    omega
theorem Zu {wd:List UInt8} {l:List Int} (h:NumOk l):(Qx wd l).length ≤ wd.length + 11 * l.length + 1:=by
  have:=flat_len l h
  simp only [Qx,List.length_append,List.length_cons,List.length_nil];omega

set_option maxRecDepth 100000 in
set_option maxHeartbeats 2000000 in
theorem zael (w:World) (wd:List UInt8) (v:Value) (l:List Int) (h:IW w v l) (hl:l.length ≤ 4096) (hw:wd.length ≤ 100) (hn:NumOk l) :
    Calls Tryz.prog 53 #[.string (tx wd),v] w fun e w'=>e = .returned (.string (tx (Qx wd l))) ∧ Gr w w':=by
  obtain ⟨A,N,c,rfl,h1⟩:=h
  obtain rfl:N = l.length:=h1.1
  obtain ⟨ib,hi,hz0,hz1,hz2⟩:=info_parts infoStr
  have HN:=Lib.hid hn
  clear hn
  go_enter Tryz.func53,Tryz.ntmps53
  go_wp2_with fail
  go_loopw [5,7,12] (fun s _ i wr=>∃ k:Nat,k ≤ l.length ∧ i = .int .i64 k ∧ SOw w wr s (strs wd l k)) (fun _ _ i _=>l.length - (intOf i).toNat)
  case atStart=>exact ⟨0,Nat.zero_le _,rfl,SOw.one w (tx wd)⟩
  case round =>
    obtain ⟨k,hk,rfl,hx⟩:=hrel
    have HX:=Lib.hid hx
    clear hx
    by_cases hlt:k < l.length
    · obtain ⟨ad,rfl,hc⟩:=h1.2 k hlt
      have hc1:=HX.out.1.cell hc
      clear hc
      obtain ⟨x,hxx⟩:=Int.eq_ofNat_of_zero_le (HN.out k hlt).1
      have hx9:x < 100:=by have:=(HN.out k hlt).2;omega
      have HS:=Lib.hid (strs_succ (wd:=wd) hlt)
      rw [hxx] at hc1
      rw [hxx] at HS
      clear hxx
      go_wp2_with fail
      refine (zafa _ x hx9).mono ?_
      rintro e w2 ⟨rfl,hg2⟩
      have HX2:=Lib.hid (HX.out.beside hg2)
      clear hg2 hc1
      go_wp2_with (at_builtin;refine wpList_append_own _ rfl _ _ 45 rfl w.heap.size 9 ib (.string ⟨#[]⟩) 1 16 Tryz.underlying45 hi hz0 hz1 hz2 rfl (by decide) _ _ _ rfl (HX2.out.2.alloc _) ⟨w2.heap.size,0,none⟩ 1 1 [.string (tx (decN x))] rfl rfl (one_str w2 (tx (decN x))) ?q1 ?q2 ?q3 ?q4 ?_)
      case q1=>intro u hu;rw [List.mem_singleton.1 hu];rfl
      case q2=>rw [strs_len hk];unfold maxLen;omega
      case q3=>rw [strs_len hk];omega
      case q4=>have:=HX2.out.1.size;rw [World.size_alloc];omega
      intro v' w3 hown3 hgrow _
      have HY:=Lib.hid (show SOw w w3 v' (strs wd l (k + 1)) from ⟨(Below.alloc HX2.out.1 HX2.out.1.size _).grown hgrow (by have:=HX2.out.1.size;rw [World.size_alloc];omega) (fun q hq=>(HX2.out.2.lt q hq).1),by rw [HS.out];simpa using hown3⟩)
      clear hown3 hgrow
      go_wp2_with fail
      exact ⟨⟨k + 1,by omega,by go_num,HY.out⟩,by simp [intOf];omega⟩
    · obtain rfl:k = l.length:=by omega
      obtain ⟨g,cap,rfl,hg,hcap,hcells⟩:=HX.out.shape (by rw [strs_len hk];omega)
      have HC:=Lib.hid hcells
      have HJ:=Lib.hid (strs_join wd l)
      have HW:=Lib.hid (Zu (wd:=wd) HN.out)
      clear hcells
      go_wp2_with fail
      refine (row_any _ g cap (strs wd l l.length) HC.out hg (by rw [strs_len hk];omega) hcap (by have:=HW.out;rw [← HJ.out,List.length_append] at this;simp at this;omega)).mono ?_
      rintro e w2 ⟨rfl,hg2⟩
      have HG:=Lib.hid (HX.out.1.trans hg2)
      clear hg2
      rw [HJ.out]
      go_wp2_with fail
      go_ret
      exact ⟨rfl,HG.out⟩
end Go.Proofs.YtiilmjojffjhlaaGreatDoor

