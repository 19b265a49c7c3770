/-
  The ground of the draws of automata: numbers drawn, trees as cells, boxes. No conditions.
-/
import Derived.Test.YtnfldmfamnhpcaaRow
import Derived.Test.YtnfldmfamnhpcaaTr
import Derived.Test.YtnfldmfamnhpcaaVm15
namespace Go.Proofs.Ytnfldmfamnhpcaa.Vm
open Go
set_option linter.unusedVariables false
set_option linter.unusedSimpArgs false
set_option maxRecDepth 200000

attribute [go_sem] VS stepS isLoad isApp snH AGL
def cY (x:UInt8):List D:=[.int .u8 x.toNat]
instance:Wide cY 1:=⟨fun _=>rfl,by omega,fun _=>rfl⟩
instance:Plain cY:=⟨fun _=>rfl,fun _ _ _=>rfl,fun _ _=>⟨trivial,trivial⟩,fun a b h=>by simp only [cY,List.cons.injEq,D.int.injEq,true_and,and_true] at h;exact UInt8.toNat.inj (by omega)⟩
attribute [go_sem] cY
@[go_sem] theorem makeD_3 (x:D):makeD [x] 3 = [x,x,x]:=by rw [Ji];rfl
@[go_sem] theorem makeD_4 (x:D):makeD [x] 4 = [x,x,x,x]:=by rw [Ji];rfl
@[go_sem] theorem makeD_5 (x:D):makeD [x] 5 = [x,x,x,x,x]:=by rw [Ji];rfl
@[go_sem] theorem makeD_9 (x:D):makeD [x] 9 = [x,x,x,x,x,x,x,x,x]:=by rw [Ji];rfl
attribute [go_sem] one
@[go_sem] theorem mk22 (a b:D):makeD [a,b] 2 = [a,b]:=rfl
@[go_sem] theorem mk33 (a b c:D):makeD [a,b,c] 3 = [a,b,c]:=rfl
@[go_sem] theorem mk36 (a b c:D):makeD [a,b,c] 6 = [a,b,c,a,b,c]:=by simp [makeD,List.range_succ]
@[go_sem] theorem mk44 (a b c d:D):makeD [a,b,c,d] 4 = [a,b,c,d]:=rfl
@[go_sem] theorem mkEE (a b c d e f g h i j:D):makeD [a,b,c,d,e,f,g,h,i,j] 10 = [a,b,c,d,e,f,g,h,i,j]:=rfl
@[go_sem] theorem ss9 (x0 x1 x2 x3 x4 x5 x6 x7 x8 x9 y:D) (l:List D):stSeg (x0 :: x1 :: x2 :: x3 :: x4 :: x5 :: x6 :: x7 :: x8 :: x9 :: l) 9 [y] = x0 :: x1 :: x2 :: x3 :: x4 :: x5 :: x6 :: x7 :: x8 :: y :: l:=rfl
@[go_sem] theorem ssE6 (x0 x1 x2 x3 x4 x5 x6 x7 x8 y z u:D) (l:List D):stSeg (x0 :: x1 :: x2 :: x3 :: x4 :: x5 :: x6 :: x7 :: x8 :: l) 6 [y,z,u] = x0 :: x1 :: x2 :: x3 :: x4 :: x5 :: y :: z :: u :: l:=rfl
@[go_sem] theorem ssE0 (x0 x1 x2 x3 x4 x5 x6 x7 x8 x9 y0 y1 y2 y3 y4 y5 y6 y7 y8 y9:D) (l:List D):stSeg (x0 :: x1 :: x2 :: x3 :: x4 :: x5 :: x6 :: x7 :: x8 :: x9 :: l) 0 [y0,y1,y2,y3,y4,y5,y6,y7,y8,y9] = y0 :: y1 :: y2 :: y3 :: y4 :: y5 :: y6 :: y7 :: y8 :: y9 :: l:=rfl
inductive Tree where
  | mk (k v:Int) (ks:List Tree)
def Tree.k:Tree → Int | .mk k _ _=>k
def Tree.v:Tree → Int | .mk _ v _=>v
def Tree.ks:Tree → List Tree | .mk _ _ ks=>ks
instance:Inhabited Tree:=⟨.mk 0 0 []⟩
@[go_sem] theorem Tree.k_mk (k v:Int) (ks:List Tree):(Tree.mk k v ks).k = k:=rfl
@[go_sem] theorem Tree.v_mk (k v:Int) (ks:List Tree):(Tree.mk k v ks).v = v:=rfl
@[go_sem] theorem Tree.ks_mk (k v:Int) (ks:List Tree):(Tree.mk k v ks).ks = ks:=rfl
mutual
def cX:Tree → List D
  | .mk k v ks=>[.int .i64 k,.int .i64 v,.list ks.length (cXs ks)]
def cXs:List Tree → List D
  | []=>[]
  | t :: ts=>cX t ++ cXs ts
end
theorem cXs_eq:∀ ts,cXs ts = cat cX ts
  | []=>rfl
  | t :: ts=>by rw [cXs,cXs_eq ts,Xt]
theorem cX_mk (k v:Int) (ks:List Tree):cX (.mk k v ks) = [.int .i64 k,.int .i64 v,li cX ks]:=by rw [cX,cXs_eq];rfl
theorem cX_eq (t:Tree):cX t = [.int .i64 t.k,.int .i64 t.v,li cX t.ks]:=by cases t;exact cX_mk ..
instance:Wide cX 3:=⟨fun a=>by rw [cX_eq];rfl,by omega,fun a=>by rw [cX_eq];rfl⟩
theorem cX_deref (a:Tree) (H:Hp) (j:Nat):(cX a).map (deref (j + 1) H) = cX a:=by rw [cX_eq];simp [deref,li]
mutual
theorem cX_bnd:∀ (a:Tree) (N:Nat),bndL N (cX a)
  | .mk k v ks,N=>by rw [cX];exact ⟨trivial,trivial,by simp only [bnd];exact cXs_bnd ks N,trivial⟩
theorem cXs_bnd:∀ (ts:List Tree) (N:Nat),bndL N (cXs ts)
  | [],N=>by simp [cXs,bndL]
  | t :: ts,N=>by
    rw [cXs,Qm]
    intro d hd
    rcases List.mem_append.1 hd with h | h
    · exact Qm.1 (cX_bnd t N) d h
    · exact Qm.1 (cXs_bnd ts N) d h
end
mutual
theorem cX_inj:∀ (a b:Tree),cX a = cX b → a = b
  | .mk k v ks,.mk k' v' ks',h=>by
    rw [cX,cX] at h
    simp only [List.cons.injEq,D.int.injEq,true_and,D.list.injEq,and_true] at h
    obtain ⟨rfl,rfl,_,h⟩:=h
    rw [cXs_inj ks ks' h]
theorem cXs_inj:∀ (a b:List Tree),cXs a = cXs b → a = b
  | [],[],h=>rfl
  | [],t :: ts,h=>by
    have:=congrArg List.length h
    rw [cXs,cXs,List.length_append,Wide.len (f:=cX)] at this;simp at this;omega
  | t :: ts,[],h=>by
    have:=congrArg List.length h
    rw [cXs,cXs,List.length_append,Wide.len (f:=cX)] at this;simp at this
  | t :: ts,u :: us,h=>by
    rw [cXs,cXs] at h
    obtain ⟨h1,h2⟩:=List.append_inj h (by rw [Wide.len (f:=cX),Wide.len (f:=cX)])
    rw [cX_inj t u h1,cXs_inj ts us h2]
end
instance:Plain cX:=⟨fun a=>by rw [cX_eq];rfl,cX_deref,cX_bnd,cX_inj⟩
attribute [go_sem] cX_eq
class Flat {α:Type} (f:α → List D):Prop where
  dat:∀ a,(f a).map dat = f a
section
variable {α:Type} {f:α → List D}
@[go_sem] theorem cat_flat [Flat f] (xs:List α):datL (cat f xs) = cat f xs:=by
  rw [datL_map,map_cat];congr 1;funext a;exact Flat.dat a
@[go_sem] theorem cat_flat2 [Flat f] (xs:List α):(cat f xs).map dat = cat f xs:=by
  rw [map_cat];congr 1;funext a;exact Flat.dat a
end
instance:Flat cX:=⟨fun a=>by rw [cX_eq];rfl⟩
instance:Flat cI:=⟨fun _=>rfl⟩
instance:Flat cP:=⟨fun _=>rfl⟩
instance:Flat cL:=⟨fun _=>rfl⟩
instance:Flat cB:=⟨fun _=>rfl⟩
instance:Flat cT:=⟨fun _=>rfl⟩
theorem SpecR.enc {P:Program} {f:FuncId} {args:List D} {H:Hp} {G G':Any → D × Hp} (h:SpecR P f args H G) (e:∀ c,G' c = G c):SpecR P f args H G':=by
  have:G' = G:=funext e
  rw [this];exact h
@[go_sem] theorem is_lit1 (x0:Int):Is cI 1 [D.int .i64 x0] = True:=eq_true ⟨[x0],rfl,rfl⟩
@[go_sem] theorem de_lit1 (x0:Int):de cI [D.int .i64 x0] = [x0]:=Qv (f:=cI) [x0]
@[go_sem] theorem is_lit3 (x0 x1 x2:Int):Is cI 3 [D.int .i64 x0,D.int .i64 x1,D.int .i64 x2] = True:=eq_true ⟨[x0,x1,x2],rfl,rfl⟩
@[go_sem] theorem de_lit3 (x0 x1 x2:Int):de cI [D.int .i64 x0,D.int .i64 x1,D.int .i64 x2] = [x0,x1,x2]:=Qv (f:=cI) [x0,x1,x2]
@[go_sem] theorem is_lit4 (x0 x1 x2 x3:Int):Is cI 4 [D.int .i64 x0,D.int .i64 x1,D.int .i64 x2,D.int .i64 x3] = True:=eq_true ⟨[x0,x1,x2,x3],rfl,rfl⟩
@[go_sem] theorem de_lit4 (x0 x1 x2 x3:Int):de cI [D.int .i64 x0,D.int .i64 x1,D.int .i64 x2,D.int .i64 x3] = [x0,x1,x2,x3]:=Qv (f:=cI) [x0,x1,x2,x3]
@[go_sem] theorem is_lit5 (x0 x1 x2 x3 x4:Int):Is cI 5 [D.int .i64 x0,D.int .i64 x1,D.int .i64 x2,D.int .i64 x3,D.int .i64 x4] = True:=eq_true ⟨[x0,x1,x2,x3,x4],rfl,rfl⟩
@[go_sem] theorem de_lit5 (x0 x1 x2 x3 x4:Int):de cI [D.int .i64 x0,D.int .i64 x1,D.int .i64 x2,D.int .i64 x3,D.int .i64 x4] = [x0,x1,x2,x3,x4]:=Qv (f:=cI) [x0,x1,x2,x3,x4]
@[go_sem] theorem is_lit6 (x0 x1 x2 x3 x4 x5:Int):Is cI 6 [D.int .i64 x0,D.int .i64 x1,D.int .i64 x2,D.int .i64 x3,D.int .i64 x4,D.int .i64 x5] = True:=eq_true ⟨[x0,x1,x2,x3,x4,x5],rfl,rfl⟩
@[go_sem] theorem de_lit6 (x0 x1 x2 x3 x4 x5:Int):de cI [D.int .i64 x0,D.int .i64 x1,D.int .i64 x2,D.int .i64 x3,D.int .i64 x4,D.int .i64 x5] = [x0,x1,x2,x3,x4,x5]:=Qv (f:=cI) [x0,x1,x2,x3,x4,x5]
@[go_sem] theorem is_lit7 (x0 x1 x2 x3 x4 x5 x6:Int):Is cI 7 [D.int .i64 x0,D.int .i64 x1,D.int .i64 x2,D.int .i64 x3,D.int .i64 x4,D.int .i64 x5,D.int .i64 x6] = True:=eq_true ⟨[x0,x1,x2,x3,x4,x5,x6],rfl,rfl⟩
@[go_sem] theorem de_lit7 (x0 x1 x2 x3 x4 x5 x6:Int):de cI [D.int .i64 x0,D.int .i64 x1,D.int .i64 x2,D.int .i64 x3,D.int .i64 x4,D.int .i64 x5,D.int .i64 x6] = [x0,x1,x2,x3,x4,x5,x6]:=Qv (f:=cI) [x0,x1,x2,x3,x4,x5,x6]

@[go_sem] theorem makeD_6 (x:D):makeD [x] 6 = [x,x,x,x,x,x]:=by rw [Ji];rfl
@[go_sem] theorem makeD_7 (x:D):makeD [x] 7 = [x,x,x,x,x,x,x]:=by rw [Ji];rfl

section
variable {P:Program} {B:Base} {n:Nat} {S:St} {a:Act} {w:World} {μ:Nat → Nat} {fp:Root → List Nat} {N:Nat}
theorem R.shutBag {d:D} {v:Value} (hR:R B n S [d] [v] a w μ fp N):R B n S [dat d] [v] a w μ (fset fp .bag []) N:=by
  have hm:Moves fp (fset fp .bag []):=.drop hR.nod hR.dis fun r=>by
    by_cases e:r = .bag
    · subst e;exact .inr (Xi ..)
    · exact .inl (Xc e)
  refine ⟨hR.len,hR.dfs,hR.frm,hR.jk,hR.own' hm,hm.nod,hm.dis,fun t'=>?_,?_,?_,?_,hR.bT,?_,hR.bH,hR.rn⟩
  · rw [Xc (by simp)]
    exact (hR.tm t').sub hm.sub
  · rw [Xi]
    have hb1:=hR.bg
    simp only [RepL] at hb1 ⊢
    obtain ⟨v',vs',f1,f2,e1,e2,r1,r2⟩:=hb1
    obtain ⟨rfl,rfl⟩:v' = v ∧ vs' = []:=by simpa using e1.symm
    have e3:fp .bag = f1:=by rw [e2,r2.2,List.append_nil]
    refine ⟨v',[],[],[],rfl,rfl,Rep.dat (I:=Im B w fp) (fun b hb=>hb.sub hm.sub) (fun b hb=>?_) r1,rfl,rfl⟩
    rw [← e3] at hb
    have ho:=hR.own _ b hb
    refine ⟨ho.2,?_,fun r hr=>?_⟩
    · rcases ho.1 with q | q
      · exact .inl (.inr q)
      · exact .inr q
    · by_cases e:r = .bag
      · subst e;rw [Xi] at hr;cases hr
      · rw [Xc e] at hr;exact e (hR.dis _ _ b hr hb)
  · intro b cs hc;exact (hR.hp b cs hc).sub hm.sub (by simp [fset]) (by simp [fset])
  · intro b hb;have:=hR.hn b hb;simp [fset,this]
  · have:=hR.bB
    simp only [bndL] at this ⊢
    exact ⟨bnd_dat this.1,trivial⟩
theorem AW_shutCell (b i:Nat) {c:Code} {Q:Exit → St → Prop} {all:List D} {d:D} (hH:S.H b = some all) (hi:all[i]? = some d) (hnt:isTup d = false)
    (h:AW P B n c Q ⟨S.T,upd S.H b (some (all.set i (dat d)))⟩):AW P B n c Q S:=fun a w μ fp N hR=>by
  have hil:i < all.length:=by rcases Nat.lt_or_ge i all.length with q | q;exact q;rw [List.getElem?_eq_none q] at hi;cases hi
  obtain ⟨v,fp1,hw,hone,h1⟩:=hR.cellOut hH (.inr ⟨i,_,hi,hnt⟩) hi
  obtain ⟨fp3,h3⟩:=h1.shutBag.cellIn (b:=b) (i:=i) (cs:=all.set i .any) (by dsimp only;rw [Qh]) (.inr ⟨i,.any,by rw [List.getElem?_set_self hil],rfl⟩) (by simpa using hil) hone hw
  refine h a w μ fp3 N ?_
  have e:upd (upd S.H b (some (all.set i .any))) b (some ((all.set i .any).set i (dat d))) = upd S.H b (some (all.set i (dat d))):=by
    funext x
    by_cases e2:x = b
    · subst e2;rw [Qh,Qh,List.set_set]
    · rw [Qe e2,Qe e2,Qe e2]
  dsimp only at h3
  rw [e] at h3
  exact h3
end
def IsK (E:D):Prop:=E = .nil ∨ ∃ ks,E = li cX ks
@[go_sem] theorem isK_nil:IsK .nil = True:=eq_true (.inl rfl)
@[go_sem] theorem isK_list (ks:List Tree):IsK (.list ks.length (cat cX ks)) = True:=eq_true (.inr ⟨ks,rfl⟩)
@[go_sem] theorem isK_li (ks:List Tree):IsK (li cX ks) = True:=eq_true (.inr ⟨ks,rfl⟩)
@[go_sem] theorem is_lit8 (x0 x1 x2 x3 x4 x5 x6 x7:Int):Is cI 8 [D.int .i64 x0,D.int .i64 x1,D.int .i64 x2,D.int .i64 x3,D.int .i64 x4,D.int .i64 x5,D.int .i64 x6,D.int .i64 x7] = True:=eq_true ⟨[x0,x1,x2,x3,x4,x5,x6,x7],rfl,rfl⟩
@[go_sem] theorem de_lit8 (x0 x1 x2 x3 x4 x5 x6 x7:Int):de cI [D.int .i64 x0,D.int .i64 x1,D.int .i64 x2,D.int .i64 x3,D.int .i64 x4,D.int .i64 x5,D.int .i64 x6,D.int .i64 x7] = [x0,x1,x2,x3,x4,x5,x6,x7]:=Qv (f:=cI) [x0,x1,x2,x3,x4,x5,x6,x7]
@[go_sem] theorem is_lit9 (x0 x1 x2 x3 x4 x5 x6 x7 x8:Int):Is cI 9 [D.int .i64 x0,D.int .i64 x1,D.int .i64 x2,D.int .i64 x3,D.int .i64 x4,D.int .i64 x5,D.int .i64 x6,D.int .i64 x7,D.int .i64 x8] = True:=eq_true ⟨[x0,x1,x2,x3,x4,x5,x6,x7,x8],rfl,rfl⟩
@[go_sem] theorem de_lit9 (x0 x1 x2 x3 x4 x5 x6 x7 x8:Int):de cI [D.int .i64 x0,D.int .i64 x1,D.int .i64 x2,D.int .i64 x3,D.int .i64 x4,D.int .i64 x5,D.int .i64 x6,D.int .i64 x7,D.int .i64 x8] = [x0,x1,x2,x3,x4,x5,x6,x7,x8]:=Qv (f:=cI) [x0,x1,x2,x3,x4,x5,x6,x7,x8]
@[go_sem] theorem makeD_8 (x:D):makeD [x] 8 = [x,x,x,x,x,x,x,x]:=by rw [Ji];rfl
@[go_sem] theorem makeD_1z (x:D):makeD [x] 1 = [x]:=by rw [Ji];rfl
@[go_sem] theorem take_cX (xs:List Tree) (ys:List D):(cat cX xs ++ ys).take (xs.length * 3) = cat cX xs:=Za xs ys
end Go.Proofs.Ytnfldmfamnhpcaa.Vm

