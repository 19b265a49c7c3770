/-
  Graphs copied. No conditions.
-/
import Derived.Test.YtmiimodggpjkmaaGreatE16
namespace Go.Proofs.YtmiimodggpjkmaaGreat.Vm
open Go
open Nat renaming sub_pos_of_lt → zsP
open List renaming getD_eq_getElem?_getD → zg,drop_one → zd
noncomputable section
set_option linter.unusedVariables false
set_option linter.unusedSimpArgs false
set_option maxRecDepth 200000

theorem oL_dat:∀ xs:List (List Int),(cat oL xs).map dat = cat cL xs
  | []=>rfl
  | x :: xs=>by rw [Xg,Xg,List.map_append,oL_dat xs];simp [oL,cL,fr,dat,Xh,Zr,li]
def upto (n:Nat):List Int:=(List.range n).map Int.ofNat
theorem Jj (n:Nat):(upto n).length = n:=by simp [upto]
theorem upto_succ (n:Nat):upto (n + 1) = upto n ++ [(n:Int)]:=by simp [upto,List.range_succ]
theorem zafp (n:Nat):Places n (upto n):=fun i hi=>by
  rw [Jj] at hi
  rw [Xa (by rw [Jj];exact hi)]
  simp [upto];omega
theorem upto_cat (n:Nat):cat cI (upto n) ++ [D.int .i64 (n:Int)] = cat cI (upto (n + 1)):=by rw [upto_succ,Xk,Xi];rfl

theorem l4Count_pure (n:Int) (h0:0 ≤ n) (h1:n ≤ 1000000):Pure Tryz.prog 44 [.int .i64 n] (fr 1 cI (upto n.toNat)):=by
  refine Pure.of_walk Tryz.func44 rfl (by simp [Tryz.f44]) (by simp [-zd,go_sem]) fun B hK=>?_
  (repeat' (first
 | refine Qt ?_
 | refine Qc (id:=0) Wm [] (by kernel_rfl) ?_;simp [-zg,-zd,↓Qb,↓Qa,go_sem]
 | refine Qc (id:=1) Wm [] (by kernel_rfl) ?_;simp [-zg,-zd,↓Qb,↓Qa,go_sem]
 | refine Qc (id:=2) Wm [] (by kernel_rfl) ?_;simp [-zg,-zd,↓Qb,↓Qa,go_sem]
 | refine Qc (id:=3) Wm [] (by kernel_rfl) ?_;simp [-zg,-zd,↓Qb,↓Qa,go_sem]
 | refine Qc (id:=5) Wm [] (by kernel_rfl) ?_;simp [-zg,-zd,↓Qb,↓Qa,go_sem,(show i ≤ 9223372036854775806 by omega),(show 2 * (i + 1) * 8 ≤ 281474976710656 by omega),(show i + 1 ≤ 9223372036854775807 by omega),upto_cat,Jj]
 | refine Qc (id:=4) Wm [] (by kernel_rfl) ?_;simp [-zg,-zd,↓Qb,↓Qa,go_sem,wrapS (k:=i) (by omega)]
 | ((obtain rfl:i = n.toNat:=by omega));refine Qc (id:=6) Wm [] (by kernel_rfl) ?_;simp [-zg,-zd,↓Qb,↓Qa,go_sem,Jj]
 | refine Qd (c:=.tmp 8) ?_;simp [-zg,-zd,↓Qb,↓Qa,go_sem];try first | (refine ⟨?_,?_⟩ <;> refine zA ?_) | (refine ⟨fun c8=>?_,fun c8=>?_⟩ <;> (try simp [B_iff,B_not] at c8))
 | (refine Qg (id:=0) (Qx (ι:=Nat) (fun i:Nat=>⟨(upd (upd (upd (fun _=>.any) 0 (.int .i64 n)) 3 (.fr 1 i (cat cI (upto i)))) 4 (.int .i64 i)),fun _=>none⟩) (fun i=>(i:Int) ≤ n) (fun i=>n.toNat - i) (0) ?_ ?_ ?_);exact (by omega);((repeat' (first | exact Qh (by assumption) | exact Qj | refine Qk ?_ ?_ | refine Qi ?_)) <;> simp [-zg,-zd,↓Qb,↓Qa,go_sem,upto]);rintro i hi)
 | (refine ⟨i + 1,(by omega),by first | omega | (simp;done) | (simp;omega),?_⟩;((repeat' (first | exact Qh (by assumption) | exact Qj | refine Qk ?_ ?_ | refine Qi ?_)) <;> simp [-zg,-zd,↓Qb,↓Qa,go_sem,upto_cat]))
 | (refine Qg ?_)
 | (refine Qs ?_;simp [-zg,-zd,↓Qb,↓Qa,go_sem])
 | (refine Qr ?_;simp [-zg,-zd,↓Qb,↓Qa,go_sem])
 | (refine Qq ?_;simp [-zg,-zd,↓Qb,↓Qa,go_sem,Tryz.results44])
 | (intro hx;refine zA ?_)
 | (refine ⟨?_,?_⟩ <;> refine zA ?_)
 | (intro hx;constructor <;> intro hs)
 | (constructor <;> intro hs)
 | (refine ⟨?_,fun hs=>?_⟩;refine zA ?_)
 | (refine ⟨fun hs=>?_,?_⟩;rotate_left;refine zA ?_;rotate_left)))
@[go_sem] def zaew:Con:=.pure fun
  | [.int .i64 n]=>((0 ≤ n) ∧ (n ≤ 1000000),fr 1 cI (upto n.toNat))
  | _=>(False,.any)
theorem zalk:ConOk Tryz.prog 44 zaew:=by
  refine ⟨Qo Tryz.func44 (by decide) rfl,fun args h=>?_⟩
  revert h
  dsimp only
  split
  · intro h
    obtain ⟨h0,h1⟩:=h
    skip
    exact ⟨l4Count_pure _ h0 h1,by simp [go_sem]⟩
  · intro h
    exact h.elim
@[go_sem] def Γe31:FuncId → Con:=ext Γe30 44 zaew
theorem Uo:∀ g,ConOk Tryz.prog g (Γe31 g):=Qn Wm zalk

def SubL {α:Type} (a xs:List α):Prop:=∀ s ∈ xs,s ∈ a
theorem SubL.snoc {α:Type} {a xs:List α} {s:α} (h:SubL a xs) (hs:s ∈ a):SubL a (xs ++ [s]):=fun x hx=>by
  rcases List.mem_append.1 hx with h1 | h1
  · exact h x h1
  · simp at h1;subst h1;exact hs
def SubL.pick (a:List Ints2) (ys:List Int):List Ints2:=ys.map fun y=>nth a y.toNat
theorem SubL.map {a:List Ints2} {ys:List Int} (hp:Places a.length ys):SubL a (SubL.pick a ys):=fun s h=>by
  obtain ⟨y,hy,rfl⟩:=List.mem_map.1 h
  obtain ⟨i,hi,e⟩:=List.getElem_of_mem hy
  have:=(hp.at hi).2.2
  rw [Xa hi,e] at this
  exact Zk this
def LenS (N:Nat) (a:List Ints2):Prop:=∀ s ∈ a,s.1.length ≤ N ∧ s.2.length ≤ N
def LenL (N:Nat) (b:List (List Int)):Prop:=∀ l ∈ b,l.length ≤ N
def Vu (a:List Ints2) (b:List (List Int)):Prop:=a.length ≤ 1000 ∧ b.length ≤ 1000 ∧ LenS 100000 a ∧ LenL 100000 b

@[go_sem] def zacc:List Ints2 → D:=fun x=>fr 2 oP x
def zacl (a:List Ints2) (bb:List (List Int)) (ys:List Int):List Ints2 → Prop:=fun x=>x.length = ys.length ∧ SubL a x
def zada (a:List Ints2) (bb:List (List Int)) (ys:List Int) (c:Any):List Ints2:=sel (zacl a bb ys) (SubL.pick a ys) c
theorem l4States_ok (a:List Ints2) (bb:List (List Int)) (ys:List Int) (hn:ys.length ≤ 1000) (hp:Places a.length ys) (hs:LenS 100000 a) (c:Any):zacl a bb ys (zada a bb ys c):=Xz (p:=zacl a bb ys) (x0:=SubL.pick a ys) (⟨by simp [SubL.pick],SubL.map hp⟩) c
theorem l4States_ret (a:List Ints2) (bb:List (List Int)) (ys:List Int) {e_:Exit} {S_:St} (x:List Ints2) (he_:e_ = .ret ∨ e_ = .normal)
    (h1:(Qf Tryz.prog S_ Tryz.f58.results.toList).1 ∧ resD (Qf Tryz.prog S_ Tryz.f58.results.toList).2.1 = zacc x) (hg:zacl a bb ys x) :
    retR Tryz.prog Tryz.f58 (fun c=>(zacc (zada a bb ys c),fun _=>none)) e_ S_:=Xy (enc:=zacc) x he_ h1 hg
set_option maxHeartbeats 4000000 in
theorem l4States_pure (a:List Ints2) (bb:List (List Int)) (ys:List Int) (hn:ys.length ≤ 1000) (hp:Places a.length ys) (hs:LenS 100000 a):PureR Tryz.prog 58 [.st [li cP a,li cL bb],li cI ys] (fun c=>zacc (zada a bb ys c)):=by
  refine PureR.of_walk Tryz.func58 rfl (by simp [Tryz.f58]) (fun c=>by simp [-zd,go_sem]) fun B hK=>?_
  (repeat' (first
 | refine Qt ?_
 | refine Qc (id:=0) Uo [] (by kernel_rfl) ?_;simp [-zg,-zd,↓Qb,↓Qa,go_sem];try (refine Xe 2 ?_;simp [go_sem])
 | refine Qc (id:=1) Uo [] (by kernel_rfl) ?_;simp [-zg,-zd,↓Qb,↓Qa,go_sem]
 | refine Qc (id:=2) Uo [] (by kernel_rfl) ?_;simp [-zg,-zd,↓Qb,↓Qa,go_sem]
 | refine Qc (id:=3) Uo [] (by kernel_rfl) ?_;simp [-zg,-zd,↓Qb,↓Qa,go_sem]
 | ((obtain ⟨p1,p2,p3⟩:=hp.at c12);(have hsi:=hs _ (Zk p3)));refine Xm (id:=5) Uo mixed [] [] (by kernel_rfl) (by kernel_rfl) (by simp [-zg,-zd,↓Qb,↓Qa,go_sem,c12,Qe c12,zsP c12,p1,p2,p3,Qe p3,zsP p3]) ?_;simp [-zg,-zd,↓Qb,↓Qa,go_sem,c12,Qe c12,zsP c12,p1,p2,p3,Qe p3,zsP p3];try (refine Xe 7 ?_;simp [go_sem])
 | refine Xm (id:=6) Uo mixed [] [7] (by kernel_rfl) (by kernel_rfl) (by simp [-zg,-zd,↓Qb,↓Qa,go_sem,(show (nth a (nth ys q.2).toNat).1.length ≤ 9223372036854775807 by omega),(show 2 * (nth a (nth ys q.2).toNat).1.length * 8 ≤ 281474976710656 by omega),(show (nth a (nth ys q.2).toNat).2.length ≤ 9223372036854775807 by omega),(show 2 * (nth a (nth ys q.2).toNat).2.length * 8 ≤ 281474976710656 by omega),(show q.1.length ≤ 9223372036854775806 by omega),(show 2 * (q.1.length + 1) * 48 ≤ 281474976710656 by omega),(show q.1.length + 1 ≤ 9223372036854775807 by omega)]) ?_;simp [-zg,-zd,↓Qb,↓Qa,go_sem,(show (nth a (nth ys q.2).toNat).1.length ≤ 9223372036854775807 by omega),(show 2 * (nth a (nth ys q.2).toNat).1.length * 8 ≤ 281474976710656 by omega),(show (nth a (nth ys q.2).toNat).2.length ≤ 9223372036854775807 by omega),(show 2 * (nth a (nth ys q.2).toNat).2.length * 8 ≤ 281474976710656 by omega),(show q.1.length ≤ 9223372036854775806 by omega),(show 2 * (q.1.length + 1) * 48 ≤ 281474976710656 by omega),(show q.1.length + 1 ≤ 9223372036854775807 by omega)]
 | refine Qc (id:=4) Uo [] (by kernel_rfl) ?_;simp [-zg,-zd,↓Qb,↓Qa,go_sem,wrapS (k:=q.2) (by omega)]
 | refine Qc (id:=7) Uo [] (by kernel_rfl) ?_;simp [-zg,-zd,↓Qb,↓Qa,go_sem]
 | refine Qd (c:=.tmp 12) ?_;simp [-zg,-zd,↓Qb,↓Qa,go_sem];try first | (refine ⟨?_,?_⟩ <;> refine zA ?_) | (refine ⟨fun c12=>?_,fun c12=>?_⟩ <;> (try simp [B_iff,B_not] at c12))
 | (refine Qg (id:=0) (Qx (ι:=List Ints2 × Nat) (fun q:List Ints2 × Nat=>⟨(upd (upd (upd (upd (fun _=>.any) 1 (li cI ys)) 2 (.pd [li cP a,li cL bb])) 5 (.fr 2 q.1.length (cat oP q.1))) 6 (.int .i64 q.2)),fun _=>none⟩) (fun q=>q.2 ≤ ys.length ∧ q.1.length = q.2 ∧ SubL a q.1) (fun q=>ys.length - q.2) (([],0)) ?_ ?_ ?_);exact ⟨Nat.zero_le _,rfl,fun _ h=>by cases h⟩;((repeat' (first | exact Qh (by assumption) | exact Qj | refine Qk ?_ ?_ | refine Qi ?_)) <;> simp [-zg,-zd,↓Qb,↓Qa,go_sem,cat]);rintro q ⟨g1,g2,g3⟩)
 | (refine ⟨(q.1 ++ [nth a (nth ys q.2).toNat],q.2 + 1),⟨by dsimp only;omega,by simp;omega,g3.snoc (Zk p3)⟩,by first | omega | (simp;done) | (simp;omega),?_⟩;((repeat' (first | exact Qh (by assumption) | exact Qj | refine Qk ?_ ?_ | refine Qi ?_)) <;> simp [-zg,-zd,↓Qb,↓Qa,go_sem,Xk,Xi,oP,fr]))
 | (refine Qg ?_)
 | (refine Qs ?_;simp [-zg,-zd,↓Qb,↓Qa,go_sem])
 | (refine Qr ?_;simp [-zg,-zd,↓Qb,↓Qa,go_sem])
 | (refine Qq ?_;try simp [-zg,-zd,↓Qb,↓Qa,go_sem,Tryz.results58])
 | (intro hx;refine zA ?_)
 | (intro hx;change retR _ _ _ _ _)
 | (refine ⟨?_,?_⟩ <;> refine zA ?_)
 | (intro hx;constructor <;> intro hs)
 | (constructor <;> intro hs)
 | (refine ⟨?_,fun hs=>?_⟩;refine zA ?_)
 | (refine ⟨fun hs=>?_,?_⟩;rotate_left;refine zA ?_;rotate_left)))
  all_goals (first
 | (refine l4States_ret _ _ _ ((q.1)) ?_ ?_ ?_;(first | exact Or.inl rfl | exact Or.inr rfl);(focus (simp [-zg,-zd,↓Qb,↓Qa,go_sem,Tryz.results58,fr];done));(focus ((exact ⟨by omega,g3⟩);done)))
 | skip)
@[go_sem] def l4StatesC:Con:=.prel fun
  | [.st [.list n_a c_a,.list n_bb c_bb],.list n_ys c_ys]=>((Is cP n_a c_a) ∧ (Is cL n_bb c_bb) ∧ (Is cI n_ys c_ys) ∧ ((de cI c_ys).length ≤ 1000) ∧ (Places (de cP c_a).length (de cI c_ys)) ∧ (LenS 100000 (de cP c_a)),fun c=>zacc (zada (de cP c_a) (de cL c_bb) (de cI c_ys) c))
  | _=>(False,fun _=>.any)
theorem l4StatesC_ok:ConOk Tryz.prog 58 l4StatesC:=by
  refine ⟨Qo Tryz.func58 (by decide) rfl,fun args h=>?_⟩
  revert h
  dsimp only
  split
  · intro h
    obtain ⟨⟨a,rfl,rfl⟩,⟨bb,rfl,rfl⟩,⟨ys,rfl,rfl⟩,hn,hp,hs⟩:=h
    try simp only [Qm] at *
    exact ⟨l4States_pure a bb ys hn hp hs,fun c=>by simp [go_sem]⟩
  · intro h
    exact h.elim
@[go_sem] def Γe32:FuncId → Con:=ext Γe31 58 l4StatesC
theorem Wl:∀ g,ConOk Tryz.prog g (Γe32 g):=Qn Uo l4StatesC_ok

structure CG where
  nx:List (List Int)
  i:Nat
  nb:Nat
  cp:Nat
  j:Nat
  H:Hp
def CGi (gb:Nat) (xs:List Ints2) (bb:List (List Int)) (q:CG):Prop:=q.i ≤ bb.length ∧ q.nx.length = q.i ∧ SubL bb q.nx ∧ ¬ gb = q.nb ∧ q.cp ≤ q.nx.length + q.j ∧ q.H gb = some [.fr 2 xs.length (cat oP xs),.sl q.nb 1 0 q.nx.length q.cp] ∧ q.H q.nb = some (cat oL q.nx ++ List.replicate q.j .any)

@[go_sem] def zadu:List Ints2 × List (List Int) → D:=fun x=>.st [fr 2 oP x.1,fr 1 oL x.2]
def zadt (a:List Ints2) (bb:List (List Int)):List Ints2 × List (List Int) → Prop:=fun x=>x.1.length = a.length ∧ x.2.length = bb.length ∧ SubL a x.1 ∧ SubL bb x.2
def zaex (a:List Ints2) (bb:List (List Int)) (c:Any):List Ints2 × List (List Int):=sel (zadt a bb) ((a,bb)) c
theorem l4Copy_ok (a:List Ints2) (bb:List (List Int)) (hg:Vu a bb) (c:Any):zadt a bb (zaex a bb c):=Xz (p:=zadt a bb) (x0:=(a,bb)) (⟨rfl,rfl,fun _ h=>h,fun _ h=>h⟩) c
theorem l4Copy_ret (a:List Ints2) (bb:List (List Int)) {e_:Exit} {S_:St} (x:List Ints2 × List (List Int)) (he_:e_ = .ret ∨ e_ = .normal)
    (h1:(Qf Tryz.prog S_ Tryz.f39.results.toList).1 ∧ resD (Qf Tryz.prog S_ Tryz.f39.results.toList).2.1 = zadu x) (hg:zadt a bb x) :
    retR Tryz.prog Tryz.f39 (fun c=>(zadu (zaex a bb c),fun _=>none)) e_ S_:=Xy (enc:=zadu) x he_ h1 hg
set_option maxHeartbeats 4000000 in
theorem l4Copy_pure (a:List Ints2) (bb:List (List Int)) (hg:Vu a bb):PureR Tryz.prog 39 [.st [li cP a,li cL bb]] (fun c=>zadu (zaex a bb c)):=by
  refine PureR.of_walk Tryz.func39 rfl (by simp [Tryz.f39]) (fun c=>by simp [-zd,go_sem]) fun B hK=>?_
  obtain ⟨hg1,hg2,hg3,hg4⟩:=hg
  all_goals (repeat' (first
 | refine Qt ?_
 | refine Qc (id:=0) Wl [] (by kernel_rfl) ?_;simp [-zg,-zd,↓Qb,↓Qa,go_sem];try (refine Xe 1 ?_;simp [go_sem])
 | refine Zu (id:=1) Wl mixed [] [] [1] (by kernel_rfl) (by kernel_rfl) (by simp [-zg,-zd,↓Qb,↓Qa,go_sem,Jj,zafp,(show (a.length:Int) ≤ 1000000 by omega),(show a.length ≤ 1000 by omega),hg3]) (by simp [-zg,-zd,↓Qb,↓Qa,go_sem,Jj,zafp,(show (a.length:Int) ≤ 1000000 by omega),(show a.length ≤ 1000 by omega),hg3]) ?_;simp [-zg,-zd,↓Qb,↓Qa,go_sem,Jj,zafp,(show (a.length:Int) ≤ 1000000 by omega),(show a.length ≤ 1000 by omega),hg3];try ((intro c1);(have y0:=l4States_ok a bb (upto a.length) (by rw [Jj];omega) (zafp _) hg3 c1);(generalize zada a bb (upto a.length) c1 = xs at *);(simp only [zacl,Jj] at y0);(obtain ⟨y1,y2⟩:=y0);(refine zaeb 3 1 rfl ?_);(refine Zn 3 rfl fun gb hgb=>?_);(clear hgb);(refine Zx gb 1 (all:=[.fr 2 xs.length (cat oP xs),.fr 1 0 []]) (by simp [upd,fr]) rfl fun nb cp jx hx hcx hdx=>?_);(have n1:¬ gb = nb:=(by rintro rfl;simp [upd] at hx));(clear hx);(refine Qw (fun H1=>H1 gb = some [.fr 2 xs.length (cat oP xs),.sl nb 1 0 0 cp] ∧ H1 nb = some (cat oL ([]:List (List Int)) ++ List.replicate jx .any)) ⟨by simp [upd,n1,fr],by simp [upd,Xl]⟩ fun H1 ⟨w1,w2⟩=>?_))
 | refine Qc (id:=2) Wl [] (by kernel_rfl) ?_;simp [-zg,-zd,↓Qb,↓Qa,go_sem]
 | refine Qc (id:=3) Wl [] (by kernel_rfl) ?_;simp [-zg,-zd,↓Qb,↓Qa,go_sem]
 | ((have hbl:=hg4 _ (Zk c16)));refine Zu (id:=5) Wl mixed [(gb,[.fr 2 xs.length (cat oP xs),.sl q.nb 1 0 q.nx.length q.cp])] [] [] (by kernel_rfl) (by kernel_rfl) (by simp [-zg,-zd,↓Qb,↓Qa,go_sem,c16,Qe c16,zsP c16,g6,g7,g4,Ne.symm g4,g5,(show (nth bb q.i).length ≤ 9223372036854775807 by omega),(show 2 * (nth bb q.i).length * 8 ≤ 281474976710656 by omega),(show q.nx.length ≤ 9223372036854775806 by omega),(show 2 * (q.nx.length + 1) * 24 ≤ 281474976710656 by omega)]) (by simp [-zg,-zd,↓Qb,↓Qa,go_sem,c16,Qe c16,zsP c16,g6,g7,g4,Ne.symm g4,g5,(show (nth bb q.i).length ≤ 9223372036854775807 by omega),(show 2 * (nth bb q.i).length * 8 ≤ 281474976710656 by omega),(show q.nx.length ≤ 9223372036854775806 by omega),(show 2 * (q.nx.length + 1) * 24 ≤ 281474976710656 by omega)]) ?_;simp [-zg,-zd,↓Qb,↓Qa,go_sem,c16,Qe c16,zsP c16,g6,g7,g4,Ne.symm g4,g5,(show (nth bb q.i).length ≤ 9223372036854775807 by omega),(show 2 * (nth bb q.i).length * 8 ≤ 281474976710656 by omega),(show q.nx.length ≤ 9223372036854775806 by omega),(show 2 * (q.nx.length + 1) * 24 ≤ 281474976710656 by omega)];try ((refine Zx gb 1 (all:=[.fr 2 xs.length (cat oP xs),.fr 1 (q.nx.length + 1) (cat oL q.nx ++ [.fr 1 (nth bb q.i).length (cat cI (nth bb q.i))])]) (by simp [upd,g4,Ne.symm g4]) rfl fun nb2 cp2 jx2 hx2 hcx2 hdx2=>?_);(have m1:¬ gb = nb2:=(by intro e;rw [← e] at hx2;simp [upd] at hx2));(clear hx2);(refine Qw (fun H2=>H2 gb = some [.fr 2 xs.length (cat oP xs),.sl nb2 1 0 (q.nx ++ [nth bb q.i]).length cp2] ∧ H2 nb2 = some (cat oL (q.nx ++ [nth bb q.i]) ++ List.replicate jx2 .any)) ⟨by simp [upd,m1],by simp [upd,Xk,Xi,oL,fr]⟩ fun H2 ⟨s1,s2⟩=>?_);(have v2:CGi gb xs bb ⟨q.nx ++ [nth bb q.i],q.i + 1,nb2,cp2,jx2,H2⟩:=⟨by dsimp only;omega,by simp;omega,g3.snoc (Zk c16),m1,by simp;omega,s1,s2⟩))
 | refine Qc (id:=4) Wl [] (by kernel_rfl) ?_;simp [-zg,-zd,↓Qb,↓Qa,go_sem,wrapS (k:=q.i) (by omega)]
 | ((refine Zf gb 1 (b':=q.nb) (sz:=1) (m:=q.nx.length) (cp:=q.cp) (all:=[.fr 2 xs.length (cat oP xs),.sl q.nb 1 0 q.nx.length q.cp]) (cs:=cat oL q.nx ++ List.replicate q.j .any) g6 rfl g4 g7 (by omega) (by simp [Qu]) (by simp [Qu];omega) ?_));refine Qc (id:=6) Wl [] (by kernel_rfl) ?_;simp [-zg,-zd,↓Qb,↓Qa,go_sem,g4,Ne.symm g4]
 | refine Qd (c:=.tmp 16) ?_;simp [-zg,-zd,↓Qb,↓Qa,go_sem];try first | (refine ⟨?_,?_⟩ <;> refine zA ?_) | (refine ⟨fun c16=>?_,fun c16=>?_⟩ <;> (try simp [B_iff,B_not] at c16))
 | (refine Qg (id:=0) (Qx (ι:=CG) (fun q:CG=>⟨(upd (upd (upd (upd (fun _=>.any) 1 (.pd [li cP a,li cL bb])) 2 (.box [.nil,.nil])) 3 (.ptr gb 0)) 4 (.int .i64 q.i)),q.H⟩) (fun q=>CGi gb xs bb q) (fun q=>bb.length - q.i) (⟨[],0,nb,cp,jx,H1⟩) ?_ ?_ ?_);exact ⟨Nat.zero_le _,rfl,(fun _ h=>by cases h),n1,by simpa using hdx,by simpa using w1,w2⟩;((repeat' (first | exact Qh (by assumption) | exact Qj | refine Qk ?_ ?_ | refine Qi ?_)) <;> simp [-zg,-zd,↓Qb,↓Qa,go_sem]);rintro q ⟨g1,g2,g3,g4,g5,g6,g7⟩)
 | (refine ⟨⟨q.nx ++ [nth bb q.i],q.i + 1,nb2,cp2,jx2,H2⟩,v2,by first | omega | (simp;done) | (simp;omega),?_⟩;((repeat' (first | exact Qh (by assumption) | exact Qj | refine Qk ?_ ?_ | refine Qi ?_)) <;> simp [-zg,-zd,↓Qb,↓Qa,go_sem,]))
 | (refine Qg ?_)
 | (refine Qs ?_;simp [-zg,-zd,↓Qb,↓Qa,go_sem])
 | (refine Qr ?_;simp [-zg,-zd,↓Qb,↓Qa,go_sem])
 | (refine Qq ?_;try simp [-zg,-zd,↓Qb,↓Qa,go_sem,Tryz.results39])
 | (intro hx;refine zA ?_)
 | (intro hx;change retR _ _ _ _ _)
 | (refine ⟨?_,?_⟩ <;> refine zA ?_)
 | (intro hx;constructor <;> intro hs)
 | (constructor <;> intro hs)
 | (refine ⟨?_,fun hs=>?_⟩;refine zA ?_)
 | (refine ⟨fun hs=>?_,?_⟩;rotate_left;refine zA ?_;rotate_left)))
  all_goals (first
 | (refine l4Copy_ret _ _ ((xs,q.nx)) ?_ ?_ ?_;(first | exact Or.inl rfl | exact Or.inr rfl);(focus (simp [-zg,-zd,↓Qb,↓Qa,go_sem,Tryz.results39,fr,g4,Ne.symm g4];done));(focus ((exact ⟨y1,by dsimp only;omega,y2,g3⟩);done)))
 | skip)
@[go_sem] def l4CopyC:Con:=.prel fun
  | [.st [.list n_a c_a,.list n_bb c_bb]]=>((Is cP n_a c_a) ∧ (Is cL n_bb c_bb) ∧ (Vu (de cP c_a) (de cL c_bb)),fun c=>zadu (zaex (de cP c_a) (de cL c_bb) c))
  | _=>(False,fun _=>.any)
theorem l4CopyC_ok:ConOk Tryz.prog 39 l4CopyC:=by
  refine ⟨Qo Tryz.func39 (by decide) rfl,fun args h=>?_⟩
  revert h
  dsimp only
  split
  · intro h
    obtain ⟨⟨a,rfl,rfl⟩,⟨bb,rfl,rfl⟩,hg⟩:=h
    try simp only [Qm] at *
    exact ⟨l4Copy_pure a bb hg,fun c=>by simp [go_sem]⟩
  · intro h
    exact h.elim
@[go_sem] def Γe33:FuncId → Con:=ext Γe32 39 l4CopyC
theorem Zg:∀ g,ConOk Tryz.prog g (Γe33 g):=Qn Wl l4CopyC_ok

end
end Go.Proofs.YtmiimodggpjkmaaGreat.Vm

