/-
  slices.Sort and slices.Compact at numbers: the library's contracts as contracts over abstract values. No conditions.
-/
import Derived.Test.YtmiimodggpjkmaaGreatRI
import Derived.Test.YtmiimodggpjkmaaGreatRD
import Derived.Test.YtmiimodggpjkmaaGreatShelf
import Derived.Shelf.Slices.In.SortNone
namespace Go.Proofs.YtmiimodggpjkmaaGreat.Vm
open Go
set_option linter.unusedVariables false
set_option linter.unusedSimpArgs false
set_option maxRecDepth 200000

theorem cI_map (xs:List Int):cat cI xs = xs.map (D.int .i64):=by
  induction xs with
  | nil=>rfl
  | cons x xs ih=>rw [Xg,ih];rfl
theorem R.oneSlot {B:Base} {n:Nat} {S:St} {r:D} {v:Value} {a:Act} {w:World} {μ:Nat → Nat} {fp:Root → List Nat} {N:Nat} (h:R B n S [r] [v] a w μ fp N):∃ fp',R B 1 ⟨Xd [r],S.H⟩ [] [] ⟨#[v],[]⟩ w μ fp' N:=by
  obtain ⟨fp3,h7⟩:=h.less (S':=⟨fun _=>.any,S.H⟩) ⟨fun _=>.inl rfl,fun _ _ h=>h⟩
  have h8:R B 1 ⟨fun _=>.any,S.H⟩ [r] [v] ⟨#[undef],[]⟩ w μ (fun rt=>match rt with | .slot _=>[] | rt=>fp3 rt) N:=by
    have hm:Moves fp3 (fun rt=>match rt with | .slot _=>[] | rt=>fp3 rt):=.drop h7.nod h7.dis fun rt=>by cases rt <;> simp
    refine ⟨rfl,rfl,h7.frm,h7.jk,h7.own' hm,hm.nod,hm.dis,fun t=>by simp [Rep],h7.bg.sub hm.sub,fun b cs hc=>(h7.hp b cs hc).sub hm.sub rfl (fun _=>rfl),fun b hb=>h7.hn b hb,fun t=>by simp [bnd],h7.bB,h7.bH,h7.rn⟩
  obtain ⟨fp4,h9⟩:=h8.put (t:=0) (by omega)
  have e:upd (fun _:Nat=>D.any) 0 r = Xd [r]:=by
    funext t
    cases t with
    | zero=>rfl
    | succ t=>simp [upd,Xd]
  dsimp only at h9
  rw [e] at h9
  exact ⟨fp4,h9⟩
theorem mix_set {xs ys:List Int} (h:ys.length = xs.length) {i:Nat} (hi:i < xs.length):(ys.take i ++ xs.drop i).set i (nth ys i) = ys.take (i + 1) ++ xs.drop (i + 1):=by
  have hi2:i < ys.length:=by omega
  have e:(ys.take i).length = i:=by simp;omega
  rw [List.set_append_right _ _ (by omega),e,Nat.sub_self,List.drop_eq_getElem_cons hi,List.set_cons_zero,List.take_succ_eq_append_getElem hi2,List.append_assoc,Xa hi2]
  rfl
theorem mix_len {xs ys:List Int} (h:ys.length = xs.length) {i:Nat} (hi:i ≤ xs.length):(ys.take i ++ xs.drop i).length = xs.length:=by simp;omega
theorem R.rowIn {B:Base} {n:Nat} {T:Nat → D} {H:Hp} {a:Act} {w:World} {μ:Nat → Nat} {fp:Root → List Nat} {N b:Nat} {xs ys:List Int} {rest:List D} (h:R B n ⟨T,H⟩ [] [] a w μ fp N) (hH:H b = some (cat cI xs ++ rest)) (hpb:b % 2 = 0) (hl:ys.length = xs.length) (hold:Go.Sort.Holds (Value.int .i64) w (μ b) 0 xs.toArray) :
    ∀ i,i ≤ xs.length → ∃ fp',R B n ⟨T,upd H b (some (cat cI (ys.take i ++ xs.drop i) ++ rest))⟩ [] [] a (Go.Sort.putRow (Value.int .i64) w (μ b) 0 (ys.take i ++ xs.drop i).toArray) μ fp' N
  | 0,_=>by
    have e:upd H b (some (cat cI (ys.take 0 ++ xs.drop 0) ++ rest)) = H:=by
      funext x
      by_cases ex:x = b
      · subst ex;rw [Qp,hH];simp
      · rw [Ql ex]
    rw [e]
    have e2:(ys.take 0 ++ xs.drop 0).toArray = xs.toArray:=by simp
    rw [e2,Go.Sort.putRow_self _ _ _ _ _ hold]
    exact ⟨fp,h⟩
  | i + 1,hi=>by
    obtain ⟨fp1,h1⟩:=R.rowIn h hH hpb hl hold i (by omega)
    have h2:=h1.join (d:=.int .i64 (nth ys i)) (v:=.int .i64 (nth ys i)) (by simp [Rep]) (by simp [bnd])
    have hml:=mix_len hl (show i ≤ xs.length by omega)
    obtain ⟨fp3,h3,_⟩:=R.store1 (P:=Tryz.prog) (i:=i) h2 (b:=b) (cs:=cat cI (ys.take i ++ xs.drop i) ++ rest) (Qp ..) (.inl hpb) (by rw [List.length_append,Qu,hml];omega) rfl
    refine ⟨fp3,?_⟩
    have e1:(Go.Sort.putRow (Value.int .i64) w (μ b) 0 (ys.take i ++ xs.drop i).toArray).setCell ⟨μ b,i,none⟩ (Value.int .i64 (nth ys i)) = Go.Sort.putRow (Value.int .i64) w (μ b) 0 (ys.take (i + 1) ++ xs.drop (i + 1)).toArray:=by
      have:=Go.Sort.putRow_set (Value.int .i64) w (μ b) 0 (ys.take i ++ xs.drop i).toArray i (nth ys i) (by rw [List.size_toArray,hml];omega)
      rw [Nat.zero_add] at this
      rw [this,← mix_set hl (by omega)]
      simp
    have e2:upd (upd H b (some (cat cI (ys.take i ++ xs.drop i) ++ rest))) b (some ((cat cI (ys.take i ++ xs.drop i) ++ rest).set i (.int .i64 (nth ys i)))) = upd H b (some (cat cI (ys.take (i + 1) ++ xs.drop (i + 1)) ++ rest)):=by
      funext x
      by_cases ex:x = b
      · subst ex
        rw [Qp,Qp,List.set_append_left _ _ (by rw [Qu,hml];omega),cI_map,cI_map,← mix_set hl (show i < xs.length by omega),List.map_set]
      · rw [Ql ex,Ql ex,Ql ex]
    rw [e1] at h3
    dsimp only at h3
    rw [e2] at h3
    exact h3
theorem grow_frm (w:World) (os:Array Obj) (K:Nat → Prop):Frm w K (Go.Sort.grow w os):=⟨rfl,rfl,rfl,by rw [Go.Sort.size_grow];omega,fun b hb _=>Go.Sort.heap_grow_old w os hb⟩
theorem put_size (w:World) (b:Nat) (d:Array Int) (n:Nat):(Go.Sort.putRow (Value.int .i64) (Go.Sort.ahead w n) b 0 d).heap.size = w.heap.size:=by rw [Go.Sort.size_putRow];rfl
theorem sort_none (A:Option Addr) (c:Nat) (w:World):Calls Tryz.prog 22 #[.slice A 0 c] w fun e w'=>e = .returned (.tuple #[]) ∧ w' = w:=Any.slices_Sort_int_none Tryz.lays189 A c w
theorem sort_spec (b c:Nat) (xs:List Int) (rest:List D) {H:Hp} (hH:H b = some (cat cI xs ++ rest)) (hl:xs.length ≤ 1048576):Spec Tryz.prog 22 [.sl b 1 0 xs.length c] H (.tup []) (upd H b (some (cat cI (srtL xs) ++ rest))):=by
  intro w J vs μ fp N hR
  have hlv:vs.length = 1:=by have:=hR.len;simpa using this
  obtain ⟨v,rfl⟩:∃ v,vs = [v]:=by
    match vs,hlv with
    | [v],_=>exact ⟨v,rfl⟩
  have ht:Rep μ (Im ⟨w,fun x=>∃ r,x ∈ fp r,J,μ,N⟩ w fp) w (.sl b 1 0 xs.length c) v (fp (.slot 0)):=hR.tm 0
  simp only [Rep] at ht
  obtain ⟨h0,hnc,hmax,⟨A,hA⟩,hd⟩:=ht
  have hpar:b % 2 = 0:=by
    have:bnd N (.sl b 1 0 xs.length c):=hR.bT 0
    simp only [bnd] at this;exact this.2
  have fin:∀ {w':World} {fp1:Root → List Nat} {H':Hp} {n:Nat} {T:Nat → D} {a:Act},R ⟨w,fun x=>∃ r,x ∈ fp r,J,μ,N⟩ n ⟨T,H'⟩ [] [] a w' μ fp1 N → ∃ fp2,R ⟨w,fun x=>∃ r,x ∈ fp r,J,μ,N⟩ 1 ⟨Xd [.tup []],H'⟩ [] [] ⟨#[.tuple #[]],[]⟩ w' μ fp2 N:=by
    intro w' fp1 H' n T a h1
    obtain ⟨fp3,h3⟩:=h1.res0 (d:=.tup []) (v:=.tuple #[]) (by simp [Rep,RepL]) (by simp [bnd,bndL])
    exact h3.oneSlot
  by_cases hx:xs = []
  · subst hx
    have e:upd H b (some (cat cI (srtL []) ++ rest)) = H:=by
      funext x
      by_cases ex:x = b
      · subst ex;rw [Qp,hH,show srtL ([]:List Int) = [] by simp [srtL]]
      · rw [Ql ex]
    rw [e,hA]
    refine (sort_none A c w).mono ?_
    rintro e w' ⟨rfl,rfl⟩
    obtain ⟨fp2,h2⟩:=fin hR
    exact ⟨_,μ,fp2,N,rfl,h2⟩
  · have hpos:0 < xs.length:=List.length_pos_iff.2 hx
    have hv:=hd.resolve_left (by omega)
    subst hv
    obtain ⟨cells,⟨ty,hheap,hone⟩,k2,k3,k4,k5⟩:=((hR.hp b _ hH).resolve_left (fun q=>by
      have q1:=congrArg List.length q.1
      rw [List.length_append,Qu] at q1
      simp only [List.length_nil] at q1;omega)).resolve_right (fun q=>by have:=q.1;omega)
    have hcell:∀ j,j < xs.length → cells[j]? = some (.int .i64 (nth xs j)):=fun j hj=>by
      obtain ⟨u,hu,hr⟩:=k4 j (.int .i64 (nth xs j)) (by
        rw [List.getElem?_append_left (by rw [Qu];omega),cI_map,List.getElem?_map,List.getElem?_eq_getElem hj,Xa hj];rfl)
      simp only [Rep] at hr
      rw [hu,hr.2]
    have hHolds:Go.Sort.Holds (Value.int .i64) w (μ b) 0 xs.toArray:=fun j hj=>by
      have hj':j < xs.length:=by simpa using hj
      refine ⟨?_,by simp [World.frozen?,hheap]⟩
      have e1:xs.toArray[j]! = nth xs j:=by rw [getElem!_pos xs.toArray j hj,Xa hj'];simp
      rw [e1,Nat.zero_add]
      simp only [World.cell?,hheap]
      exact hcell j hj'
    have hlt:μ b < w.heap.size:=by
      rcases Nat.lt_or_ge (μ b) w.heap.size with h | h
      · exact h
      · rw [Array.getElem?_eq_none h] at hheap;cases hheap
    refine (Tryz.slices_Sort_int (μ b) 0 c xs w hHolds hlt (by omega)).mono ?_
    rintro e w' ⟨rfl,n,os,rfl⟩
    obtain ⟨fp1,h1⟩:=R.rowIn (ys:=srtL xs) hR hH hpar (srtL_len xs) hHolds xs.length (Nat.le_refl _)
    have e1:(srtL xs).take xs.length ++ xs.drop xs.length = srtL xs:=by rw [← srtL_len xs,List.take_length,srtL_len xs,List.drop_length,List.append_nil]
    rw [e1] at h1
    have h2:=h1.drewN (w.drawn + n)
    obtain ⟨fp3,h3⟩:=h2.resNew (w':=Go.Sort.grow (Go.Sort.putRow (Value.int .i64) (Go.Sort.ahead w n) (μ b) 0 (srtL xs).toArray) os) (d:=.tup []) (v:=.tuple #[]) (f:=[]) (grow_frm _ _ _) (by simp [Rep,RepL]) .nil (by simp) (by simp [bnd,bndL])
    obtain ⟨fp4,h4⟩:=h3.oneSlot
    exact ⟨_,μ,fp4,N,rfl,h4⟩
theorem repL_ints {μ:Nat → Nat} {I:Nat → Prop} {w:World}:∀ {xs:List Int} {us:List Value} {f:List Nat},RepL μ I w (xs.map (D.int .i64)) us f → us = xs.map (Value.int .i64) ∧ f = []
  | [],us,f,h=>by simp only [List.map_nil,RepL] at h;exact ⟨h.1,h.2⟩
  | x :: xs,us,f,h=>by
    simp only [List.map_cons,RepL,Rep] at h
    obtain ⟨u,us',f1,f2,rfl,rfl,⟨rfl,rfl⟩,h⟩:=h
    obtain ⟨rfl,rfl⟩:=repL_ints h
    exact ⟨rfl,rfl⟩
theorem compact_spec (xs:List Int) {H:Hp} (hl:xs.length ≤ 1048576):Spec Tryz.prog 23 [fr 1 cI xs] H (fr 1 cI (Lib.compact xs)) H:=by
  intro w J vs μ fp N hR
  have hlv:vs.length = 1:=by have:=hR.len;simpa using this
  obtain ⟨v,rfl⟩:∃ v,vs = [v]:=by
    match vs,hlv with
    | [v],_=>exact ⟨v,rfl⟩
  have hcl:(Lib.compact xs).length ≤ xs.length:=by
    unfold Lib.compact Lib.compactUpTo
    rw [List.length_map]
    exact Nat.le_trans (List.length_filter_le ..) (by simp)
  obtain ⟨fp1,h1⟩:=hR.grab 0
  have h1:R ⟨w,fun x=>∃ r,x ∈ fp r,J,μ,N⟩ 1 ⟨grab (Xd [fr 1 cI xs]) 0,H⟩ [fr 1 cI xs] [v] ⟨#[v],[]⟩ w μ fp1 N:=h1
  have ht:=h1.bg.one
  simp only [fr,Rep] at ht
  obtain ⟨hmax,_,ht⟩:=ht
  rcases ht with ⟨hn0,hf,A,rfl⟩ | ⟨blk,c,cells,us,f,rfl,hnc,hW,hcs,hus,hrl,hf⟩
  · have hx:xs = []:=List.eq_nil_of_length_eq_zero hn0
    subst hx
    refine (Tryz.slices_Compact_int_empty A 0 w).mono ?_
    rintro e w' ⟨rfl,rfl⟩
    have hr:Rep μ (Im ⟨w',fun x=>∃ r,x ∈ fp r,J,μ,N⟩ w' fp1) w' (fr 1 cI (Lib.compact ([]:List Int))) (.slice A 0 0) []:=by
      simp only [fr,Rep]
      exact ⟨Nat.zero_le _,by rfl,.inl ⟨rfl,trivial,A,rfl⟩⟩
    obtain ⟨fp2,h2⟩:=h1.res0 hr (by simp [bnd,fr,Lib.compact,Lib.compactUpTo,cat,bndL])
    obtain ⟨fp3,h3⟩:=h2.oneSlot
    exact ⟨_,μ,fp3,N,rfl,h3⟩
  · obtain ⟨ty,hheap,hone⟩:=hW
    have hints:=repL_ints (by rw [← cI_map];exact hrl)
    obtain ⟨rfl,rfl⟩:=hints
    have hcell:∀ j,j < xs.length → cells[j]? = some (.int .i64 (nth xs j)):=fun j hj=>hus j _ (by rw [List.getElem?_map,List.getElem?_eq_getElem hj,Xa hj];rfl)
    have hHolds:Go.Sort.Holds (Value.int .i64) w blk 0 xs.toArray:=fun j hj=>by
      have hj':j < xs.length:=by simpa using hj
      refine ⟨?_,by simp [World.frozen?,hheap]⟩
      have e1:xs.toArray[j]! = nth xs j:=by rw [getElem!_pos xs.toArray j hj,Xa hj'];simp
      rw [e1,Nat.zero_add]
      simp only [World.cell?,hheap]
      exact hcell j hj'
    refine (Tryz.slices_Compact_int blk 0 c xs w hHolds (by omega) hnc).mono ?_
    rintro e w' ⟨rfl,q,rfl⟩
    obtain ⟨ys,hys⟩:∃ ys,Lib.compact xs = ys:=⟨_,rfl⟩
    rw [hys] at hcl ⊢
    obtain ⟨d,hd⟩:∃ d,(ys ++ List.replicate (xs.length - ys.length) 0).toArray = d:=⟨_,rfl⟩
    rw [hd]
    have hds:d.size = xs.length:=by rw [← hd];simp;omega
    have hh:(Go.Sort.putRow (Value.int .i64) (Go.Sort.ahead w q) blk 0 d).heap = w.heap.modify blk (Go.Sort.onCells (Go.Sort.putCells (Value.int .i64) 0 d)):=rfl
    have hblt:blk < w.heap.size:=by
      rcases Nat.lt_or_ge blk w.heap.size with h | h
      · exact h
      · rw [Array.getElem?_eq_none h] at hheap;cases hheap
    have hb2:(Go.Sort.putRow (Value.int .i64) (Go.Sort.ahead w q) blk 0 d).heap[blk]? = some (.cells (Go.Sort.putCells (Value.int .i64) 0 d cells) ty (0,0)):=by
      rw [hh,Array.getElem?_modify,if_pos rfl,hheap];rfl
    have hput:∀ (i:Nat) (u:Value),(Go.Sort.putCells (Value.int .i64) 0 d cells)[i]? = some u → u.oneCell' = true:=fun i u hu=>by
      simp only [Go.Sort.putCells,Array.getElem?_mapIdx] at hu
      cases hc:cells[i]? with
      | none=>rw [hc] at hu;cases hu
      | some x =>
        rw [hc] at hu
        simp only [Option.map_some,Option.some.injEq] at hu
        split at hu
        · rw [← hu];rfl
        · rw [← hu];exact hone i x hc
    have hW2:Whole (Go.Sort.putRow (Value.int .i64) (Go.Sort.ahead w q) blk 0 d) blk (Go.Sort.putCells (Value.int .i64) 0 d cells):=⟨ty,hb2,hput⟩
    have hfrm:Frm w (fun x=>x ∈ fp1 .bag) (Go.Sort.putRow (Value.int .i64) (Go.Sort.ahead w q) blk 0 d):=by
      refine ⟨rfl,rfl,rfl,by rw [put_size];exact Nat.le_refl _,fun x hx hnb=>?_⟩
      rw [hh,Array.getElem?_modify,if_neg]
      rintro rfl
      exact hnb (by rw [hf];simp)
    obtain ⟨fp2,h2⟩:=h1.resNew hfrm (d:=fr 1 cI ys) (v:=.slice (some ⟨blk,0,none⟩) ys.length c) (f:=[blk]) (by
      simp only [fr,Rep]
      refine ⟨by omega,by rw [Qu],.inr ⟨blk,c,_,ys.map (Value.int .i64),[],rfl,by omega,hW2,?_,?_,?_,rfl⟩⟩
      · simp only [Go.Sort.putCells,Array.size_mapIdx];exact hcs
      · intro i u hu
        rw [List.getElem?_map] at hu
        have hi:i < ys.length:=by
          rcases Nat.lt_or_ge i ys.length with h | h
          · exact h
          · rw [List.getElem?_eq_none h] at hu;cases hu
        rw [List.getElem?_eq_getElem hi] at hu
        simp only [Option.map_some,Option.some.injEq] at hu
        have hi2:i < cells.size:=by
          have:=hcell i (by omega)
          rcases Nat.lt_or_ge i cells.size with h | h
          · exact h
          · rw [Array.getElem?_eq_none h] at this;cases this
        simp only [Go.Sort.putCells,Array.getElem?_mapIdx]
        rw [Array.getElem?_eq_getElem hi2,Option.map_some,if_pos ⟨by omega,by omega⟩,← hu,Nat.sub_zero,← hd,getElem!_pos _ _ (by simp;omega)]
        simp [List.getElem_append_left hi]
      · rw [cI_map]
        clear hd hys hcl
        induction ys with
        | nil=>simp [RepL]
        | cons y ys ih =>
          simp only [List.map_cons,RepL,Rep]
          exact ⟨_,_,[],[],rfl,rfl,⟨rfl,rfl⟩,ih⟩) (by simp) (fun x hx=>.inl (by rw [hf];exact hx)) (by simp [fr,bnd,cat_bnd])
    obtain ⟨fp3,h3⟩:=h2.oneSlot
    exact ⟨_,μ,fp3,N,rfl,h3⟩
end Go.Proofs.YtmiimodggpjkmaaGreat.Vm

