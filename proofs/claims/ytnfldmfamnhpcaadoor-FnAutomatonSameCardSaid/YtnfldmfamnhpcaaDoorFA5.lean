/-
  The program's text of an automaton. Its condition: the edges' values are of 64 bits.
-/
import Derived.Test.YtnfldmfamnhpcaaDoorFA4
import Derived.Deep.RegionHeld3
import Derived.Deep.DeepCutAuto
namespace Go.Proofs.YtnfldmfamnhpcaaDoor
open Go.RowKit Go.Deep
open Vm (Tr4 AutOk Zc AU accT)
set_option linter.unusedVariables false

theorem Wr.cast {w wr:World} {l l':List UInt8} (h:Wr w wr l) (e:l = l'):Wr w wr l':=e ▸ h
theorem tx3 (x y z:List UInt8):([]:List UInt8) ++ (tx x ++ tx y ++ tx z).data.toList = x ++ y ++ z:=by rw [tx_add,tx_add];rfl
theorem IW.new (w:World) (x:Int):IW (w.alloc (.cells #[.int .i64 x] 3)) (.slice (some ⟨w.heap.size,0,none⟩) 1 1) [x]:=by
  refine ⟨_,_,_,rfl,rfl,fun k hk=>⟨_,rfl,?_⟩⟩
  obtain rfl:k = 0:=by omega
  rw [add0,(Box.new (w:=w) (t:=3) (cs:=#[.int .i64 x]) rfl).c]
  rfl
theorem IW.new4 (w:World) (x y z u:Int):IW (w.alloc (.cells #[.int .i64 x,.int .i64 y,.int .i64 z,.int .i64 u] 3)) (.slice (some ⟨w.heap.size,0,none⟩) 4 4) [x,y,z,u]:=by
  refine ⟨_,_,_,rfl,rfl,fun k hk=>⟨_,rfl,?_⟩⟩
  rw [add0,(Box.new (w:=w) (t:=3) (cs:=#[.int .i64 x,.int .i64 y,.int .i64 z,.int .i64 u]) rfl).c]
  match k,hk with
  | 0,_=>rfl
  | 1,_=>rfl
  | 2,_=>rfl
  | 3,_=>rfl
theorem IW.new' (w:World) (x:Int) {bk:Nat} (hb:bk = w.heap.size):IW (w.alloc (.cells #[.int .i64 x] 3)) (.slice (some ⟨bk,0,none⟩) 1 1) [x]:=by subst hb;exact IW.new w x
theorem IW.new4' (w:World) (x y z u:Int) {bk:Nat} (hb:bk = w.heap.size):IW (w.alloc (.cells #[.int .i64 x,.int .i64 y,.int .i64 z,.int .i64 u] 3)) (.slice (some ⟨bk,0,none⟩) 4 4) [x,y,z,u]:=by subst hb;exact IW.new4 w x y z u
theorem IW.of_dv {w:World} {v:Value} {xs:List Int} (h:Vm.DV w v (Vm.li Vm.cI xs)):IW w v xs:=by
  obtain ⟨A,c,rfl,h2⟩:=Vm.DV.ints h
  exact ⟨_,_,_,rfl,h2⟩
theorem accepting_any (w:World) (v:Value) (a:List Int) (b:List Bool) (c:List Tr4) (h:AU w v a b c) (hb:b.length ≤ 64) :
    Calls Tryd.prog 35 #[v] w fun e w'=>∃ A n k,e = .returned (.slice A n k) ∧ IW w' (.slice A n k) (accT b b.length) ∧ Gr w w':=by
  refine (Vm.Pure.up (vs:=[v]) (Vm.accepting_pure a b c (by omega)) (by simp [Vm.bndL,Vm.bnd,Vm.cat_bnd,Vm.li]) (Vm.DVL.one h)).mono ?_
  rintro e w' ⟨u,rfl,hu,hg⟩
  have hu2:Vm.DV w' u (Vm.li Vm.cI (accT b b.length)):=by simpa [Vm.fr,Vm.dat,Vm.li,Vm.datL_map,Vm.cat_dat] using hu
  obtain ⟨A,c,rfl,h⟩:=Vm.DV.ints hu2
  exact ⟨A,_,c,rfl,⟨_,_,_,rfl,h⟩,hg⟩

theorem wAut_any (w:World) (v:Value) (l:List Int) (h:IW w v l) (hl:l.length ≤ 4096) (hn:NumOk l) :
    Calls Tryd.prog 34 #[.string ⟨#[97,117,116,111,109,97,116,111,110]⟩,v] w fun e w'=>e = .returned (.string (tx (Xa wAut l))) ∧ Gr w w':=zahh w wAut v l h hl (by decide) hn
theorem wIni_any (w:World) (v:Value) (l:List Int) (h:IW w v l) (hl:l.length ≤ 4096) (hn:NumOk l) :
    Calls Tryd.prog 34 #[.string ⟨#[105,110,105,116,105,97,108]⟩,v] w fun e w'=>e = .returned (.string (tx (Xa wIni l))) ∧ Gr w w':=zahh w wIni v l h hl (by decide) hn
theorem wAcc_any (w:World) (v:Value) (l:List Int) (h:IW w v l) (hl:l.length ≤ 4096) (hn:NumOk l) :
    Calls Tryd.prog 34 #[.string ⟨#[97,99,99,101,112,116,105,110,103]⟩,v] w fun e w'=>e = .returned (.string (tx (Xa wAcc l))) ∧ Gr w w':=zahh w wAcc v l h hl (by decide) hn
theorem wEdge_any (w:World) (v:Value) (l:List Int) (h:IW w v l) (hl:l.length ≤ 4096) (hn:NumOk l) :
    Calls Tryd.prog 34 #[.string ⟨#[101,100,103,101]⟩,v] w fun e w'=>e = .returned (.string (tx (Xa wEdge l))) ∧ Gr w w':=zahh w wEdge v l h hl (by decide) hn

set_option maxRecDepth 100000 in
set_option maxHeartbeats 4000000 in
theorem zadr (w:World) (v:Value) (a:List Int) (b:List Bool) (c:List Tr4) (h:AU w v a b c) (hS:Zc c) :
    Calls Tryd.prog 14 #[v] w fun e w'=>e = .returned (.string (tx (autT a b c))) ∧ Gr w w':=by
  obtain ⟨A1,c1,A2,c2,A3,c3,rfl,i1,i2,i3,r1,r2,r3⟩:=h.shape
  have h00:=h
  go_enter Tryd.func14,Tryd.ntmps14
  go_wp2_with fail
  refine (Vm.Pure.upB (vs:=[_]) (Vm.implAutomatonValid_pure a b c hS) (by simp [Vm.bndL,Vm.bnd,Vm.cat_bnd,Vm.li]) (Vm.DVL.one (h.gr ((Gr.refl w).alloc _)))).mono ?_
  rintro e w1 ⟨rfl,hg⟩
  have b0:=(Box.new (w:=w) (k:=w.heap.size) (t:=39) (cs:=#[.slice A1 a.length c1,.slice A2 b.length c2,.slice A3 c.length c3]) rfl).gr hg
  have G:=Lib.hid (((Gr.refl w).alloc _).trans hg)
  clear hg h
  have c0:=b0.c
  cases hv:Vm.B (AutOk a b.length c)
  · have HV:=Lib.hid (autT_no hv)
    clear hv
    go_wp2_with fail
    go_ret
    exact ⟨by rw [HV.out];rfl,G.out⟩
  · have HV:=Lib.hid (autT_yes hv)
    have hA:AutOk a b.length c:=by rw [Vm.B_iff] at hv;exact hv
    have HN:=Lib.hid (autN hA)
    have hla:=HN.out.la
    have hlb:=HN.out.lb
    have hlc:=HN.out.lc
    clear hv hA
    have HA:=Lib.hid h00
    have HI:=Lib.hid r1
    clear h00 r1 r2 r3
    have HK:=Lib.hid (fun w' (h:Gr w1 w')=>And.intro h (b0.gr h).c)
    have HT1:=Lib.hid (num_one hlb)
    have HT2:=Lib.hid (num_acc hlb (Nat.le_refl _))
    have hz1:(tx (Xa wAut [(b.length:Int)])).size ≤ 30:=by rw [zahv];have:=Vj (wd:=wAut) HT1.out;have e1:wAut.length = 9:=rfl;simp only [List.length_cons,List.length_nil] at this;omega
    have hz2:(tx (Xa wIni a)).size ≤ 800:=by rw [zahv];have:=Vj (wd:=wIni) HN.out.na;have e1:wIni.length = 7:=rfl;omega
    have hz3:(tx (Xa wAcc (accT b b.length))).size ≤ 800:=by rw [zahv];have:=Vj (wd:=wAcc) HT2.out;have e1:wAcc.length = 9:=rfl;have:=Vm.accT_len b b.length;omega
    have hA1:∀ w:World,(Op.stringOp .add (tx (Xa wAut [(b.length:Int)])) (tx (Xa wIni a))).run Tryd.prog w = .ok (.string (tx (Xa wAut [(b.length:Int)]) ++ tx (Xa wIni a))) w:=fun w=>run_string_add_sum w _ _ (by omega)
    have hA2:∀ w:World,(Op.stringOp .add (tx (Xa wAut [(b.length:Int)]) ++ tx (Xa wIni a)) (tx (Xa wAcc (accT b b.length)))).run Tryd.prog w = .ok (.string (tx (Xa wAut [(b.length:Int)]) ++ tx (Xa wIni a) ++ tx (Xa wAcc (accT b b.length)))) w:=fun w=>run_string_add_sum w _ _ (by rw [ByteArray.size_append];omega)
    go_wp2_with fail
    clear c0
    go_cut [22] (fun u wx=>Wr w1 wx (headT a b))
    case first =>
      go_region_held3 (fun w'=>Gr w1 w' ∧ ∀ i,w'.cell? ⟨w.heap.size,i,none⟩ = (#[.slice A1 a.length c1,.slice A2 b.length c2,.slice A3 c.length c3]:Array Value)[i]?)
        (first | assumption | exact HK.out _ hwx.1 | exact HK.out _ (((Gr.refl _).alloc _).drew) | exact HK.out _ (Gr.alloc (And.left ‹_›) _) | exact HK.out _ (Gr.trans (And.left ‹_›) hgx))
        (first
          | (go_at_call_of 34 (Value.slice A1 a.length c1);refine (wIni_any _ _ a ((IW.of_dv HI.out).gr (G.out.trans (And.left ‹Gr w1 _ ∧ _›))) (by omega) HN.out.na).mono ?_;rintro e w' ⟨rfl,hgx⟩)
          | (go_at_call_of 34 (Value.slice AA AN AC);refine (wAcc_any _ _ (accT b b.length) hia (by have:=Vm.accT_len b b.length;omega) HT2.out).mono ?_;rintro e w' ⟨rfl,hgx⟩)
          | (go_at_call 35;refine (accepting_any _ _ a b c (HA.out.gr (G.out.trans (And.left ‹Gr w1 _ ∧ _›))) hlb).mono ?_;rintro e w' ⟨AA,AN,AC,rfl,hia,hgx⟩)
          | (go_at_call 34;refine Calls.mono (wAut_any _ _ [(b.length:Int)] ((IW.new' _ _ (by simp)).gr (Gr.refl _).drew) (by simp) HT1.out) ?_;rintro e w' ⟨rfl,hgx⟩)
          | (go_at_call 23;refine Calls.mono (Wr.write' (w:=w1) (l:=[]) (by (repeat' (first | exact (Wr.fresh w1).beside (((Gr.refl _).alloc _).drew) | refine Wr.beside ?_ (by assumption)))) rfl _ (by simp only [ByteArray.size_append,List.length_nil];omega)) ?_;rintro e w' ⟨rfl,hwx⟩))
      all_goals (go_wp2_with fail;go_meet;exact Wr.cast ‹Wr w1 _ _› (tx3 _ _ _))
    case rest =>
      have HW:=Lib.hid hcut
      have c0:=(b0.gr hcut.1).c
      clear hcut HK hz1 hz2 hz3 hA1 hA2
      go_wp2_with fail
      go_loopw [5,26] (fun _ i wr=>∃ (k:Nat) (W:World),W = wr ∧ k ≤ c.length ∧ i = .int .i64 k ∧ Wr w1 W (Ja a b c k)) (fun _ i _=>c.length - (intOf i).toNat)
      case atStart=>exact ⟨0,_,rfl,Nat.zero_le _,rfl,Wr.cast HW.out (by simp [Ja])⟩
      case round =>
        obtain ⟨k,W,hW,hk,rfl,hx⟩:=hrel
        subst hW
        clear c0 HW
        have hlen:=zakq HN.out k hk
        have HX:=Lib.hid hx
        by_cases hlt:k < c.length
        · obtain ⟨ad,rfl,hc0,hc1,hc2,hc3⟩:=i3.2 k hlt
          have hgw:=G.out.trans hx.1
          have d0:=hgw.cell hc0
          have d1:=hgw.cell hc1
          have d2:=hgw.cell hc2
          have d3:=hgw.cell hc3
          clear hc0 hc1 hc2 hc3 hx hgw
          have HE:=Lib.hid (HN.out.ne k hlt)
          have hel:=edgeT_len HE.out
          have HD:=Lib.hid (zajp (a:=a) (b:=b) hlt)
          go_wp2_with fail
          clear d0 d1 d2 d3
          refine Calls.mono (wEdge_any _ _ (edgeL (Vm.nth c k)) (IW.new4' _ _ _ _ _ (by simp)) (by simp [edgeL]) HE.out) ?_
          rintro e w3 ⟨rfl,hg3⟩
          have HX3:=Lib.hid ((HX.out.beside (((Gr.refl _).alloc _).alloc _)).beside hg3)
          clear hg3
          have hsz:(tx (Xa wEdge (edgeL (Vm.nth c k)))).size ≤ 49:=by rw [zahv];exact hel
          go_wp2_with fail
          refine Calls.mono (Wr.write' HX3.out rfl _ (by omega)) ?_
          rintro e w4 ⟨rfl,hw4⟩
          have HY:=Lib.hid (Wr.cast hw4 (show _ = Ja a b c (k + 1) by rw [HD.out];rfl))
          clear hw4
          go_wp2_with fail
          exact ⟨⟨k + 1,_,rfl,by omega,by go_num,HY.out⟩,by simp [intOf];omega⟩
        · obtain rfl:k = c.length:=by omega
          clear hx
          go_wp2_with fail
          refine Calls.mono (Wr.text' HX.out rfl) ?_
          rintro e w4 ⟨rfl,hg4⟩
          have HG:=Lib.hid (G.out.trans hg4)
          clear hg4
          go_wp2_with fail
          go_ret
          exact ⟨by rw [HV.out];rfl,HG.out⟩
end Go.Proofs.YtnfldmfamnhpcaaDoor

