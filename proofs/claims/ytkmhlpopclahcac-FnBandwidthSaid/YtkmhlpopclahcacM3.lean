/- Plain mathematics: what the functions answer (part 3). Conditions: stated in each theorem. -/
import Derived.Test.YtkmhlpopclahcacM2
import Derived.Test.YtkmhlpopclahcacM1
set_option linter.unusedVariables false
set_option linter.unusedSimpArgs false
namespace Go.Zq
end Go.Zq
namespace Go.Zq
end Go.Zq
namespace Go.Zq
end Go.Zq
namespace Go.Zq
theorem zbf {F x:Nat} {g:Gr} (hg:yA g=true) (hF:20≤F) (hG:g.2.length < F) (hs:Sm g.2.length):vM F g (x:Int)=some (zD (adj g x) g.1.toNat):=by
 have h8:=zC hg
 unfold vM
 refine wh (L:=fun k i s=>xh F (x:Int) g k s i) (n:=g.1.toNat) (fun i s=>s=zD (adj g x) i) ?_ ?_ F _ (by omega) rfl
 · intro k i s hi hI
   subst hI
   refine ⟨_,rfl,?_⟩
   have hc:=vr (p:=adj g x) (n:=i)
   simp only [xh,ug]
   rw [decide_eq_true (show (i:Int) < g.1 by omega),cond_true,Kb hG hs,Option.bind_some,zN hi (by unfold Sm;omega),xm]
   cases adj g x i with
   | true=>rw [cond_true,wN (by rw [xb];omega),Option.bind_some];rfl
   | false=>rw [cond_false];simp
 · intro k s hI
   subst hI
   simp only [xh]
   rw [decide_eq_false (show ¬ (g.1.toNat:Int) < g.1 by omega),cond_false]
end Go.Zq
namespace Go.Zq
end Go.Zq
namespace Go.Zq
theorem Jc {n:Int} {l:List Int} (ho:yV n l=true) (h0:0≤n) {i x:Nat} (hi:i < l.length) (hx:l.getD i 0=(x:Int)):xr l i x=false:=by
 have hl:=wC ho
 unfold xr
 refine decide_eq_false fun hm=>?_
 have hc:=(WA n.toNat (l.take i++l.drop (i + 1)) (fun j hj=>by
  have:=Yf ho (x:=(j:Int)) (by omega) (by omega)
  rw [← List.take_append_drop i l,List.mem_append] at this
  rcases this with h | h
  · exact List.mem_append_left _ h
  · rw [List.drop_eq_getElem_cons hi,List.mem_cons] at h
    rcases h with h | h
    · rw [List.getD_eq_getElem?_getD,List.getElem?_eq_getElem hi,Option.getD_some] at hx
      rw [h,hx]
      exact List.mem_append_left _ hm
    · exact List.mem_append_right _ h)).1
 rw [List.length_append,List.length_take,List.length_drop] at hc
 omega
end Go.Zq
namespace Go.Zq
theorem zcP {xs:List Int} (h:xs.length≤1000000000000):∃ o,cloneO xs=some o∧o.list=xs:=by
 unfold cloneO
 rw [if_pos h]
 refine ⟨_,rfl,?_⟩
 cases xs with
 | nil=>rfl
 | cons x xs=>rfl
end Go.Zq
namespace Go.Zq
end Go.Zq
namespace Go.Zq
end Go.Zq
namespace Go.Zq
theorem K1 {α:Type} {xs ys:List α} (h:xs.length + ys.length≤1099511627776):wJ xs ys=some (xs++ys):=by
 unfold wJ
 rw [if_pos (by simpa using h)]
end Go.Zq
namespace Go.Zq
def X7 {α:Type} (p:α→Bool):List α→Nat
 | []=>0
 | x :: xs=>if p x then X7 p xs + 1 else 0
theorem QU {α:Type} {p:α→Bool}:∀ {xs:List α},X7 p xs≤xs.length
 | []=>Nat.le_refl _
 | x :: xs=>by
   have:=QU (p:=p) (xs:=xs)
   simp only [X7,List.length_cons]
   split <;> omega
theorem ze6 {α:Type} {p:α→Bool}:∀ {xs:List α} {i:Nat} (h:i < X7 p xs) (h2:i < xs.length),p xs[i]=true
 | [],i,h,_=>by simp [X7] at h
 | x :: xs,i,h,h2=>by
   simp only [X7] at h
   split at h
   · rename_i hx
     cases i with
     | zero=>exact hx
     | succ i=>exact ze6 (xs:=xs) (by omega) (by simpa using h2)
   · omega
theorem zd7 {α:Type} {p:α→Bool}:∀ {xs:List α} (h:X7 p xs < xs.length),p xs[X7 p xs]=false
 | [],h=>by simp [X7] at h
 | x :: xs,h=>by
   by_cases hx:p x=true
   · have e:X7 p (x :: xs)=X7 p xs + 1:=by simp [X7,hx]
     have h':X7 p xs < xs.length:=by rw [e] at h;simpa using h
     have:=zd7 (p:=p) (xs:=xs) h'
     simp only [e,List.getElem_cons_succ]
     exact this
   · have e:X7 p (x :: xs)=0:=by simp [X7,hx]
     simp only [e,List.getElem_cons_zero]
     simpa using hx
def zji (xs:List (Int×Int)) (e:Int×Int):List (Int×Int):=xs.take (X7 (fun z=>bef z e) xs)++e :: xs.drop (X7 (fun z=>bef z e) xs)
theorem Ms {xs:List (Int×Int)} {e:Int×Int}:(zji xs e).length=xs.length + 1:=by
 unfold zji
 have:=QU (p:=fun z=>bef z e) (xs:=xs)
 simp;omega
theorem Mm {F:Nat} {xs:List (Int×Int)} {e:Int×Int} (hF:xs.length < F) (hl:xs.length≤1000000):Zo F xs e=some (.of (zji xs e)):=by
 have hle:=QU (p:=fun z=>bef z e) (xs:=xs)
 unfold Zo
 refine LS (L:=fun k i=>wj F xs e k i) (n:=X7 (fun z=>bef z e) xs) ?_ ?_ F (by omega)
 · intro k i hi
   have h1:=ze6 (p:=fun z=>bef z e) (xs:=xs) hi (by omega)
   simp only [wj,uG]
   rw [decide_eq_true (show (i:Int) < (xs.length:Int) by omega),cond_true,Jd (by omega),Option.bind_some,UO,Option.bind_some]
   rw [h1,cond_true,zN (n:=xs.length) (by omega) (by unfold Sm;omega)]
 · intro k
   have hfin:uG F xs e ((X7 (fun z=>bef z e) xs:Nat):Int) (wj F xs e k) false=some (.of (zji xs e)):=by
    simp only [uG]
    rw [cond_false,NE hle,Option.bind_some,K1 (by simp;omega),Option.bind_some,K1 (by simp;omega),Option.bind_some,zcp hle,Option.bind_some,K1 (by simp;omega),Option.bind_some]
    unfold zji
    simp
   simp only [wj]
   by_cases h:X7 (fun z=>bef z e) xs < xs.length
   · have h1:=zd7 (p:=fun z=>bef z e) (xs:=xs) h
     rw [decide_eq_true (show ((X7 (fun z=>bef z e) xs:Nat):Int) < (xs.length:Int) by omega),cond_true,Jd h,Option.bind_some,UO,Option.bind_some]
     rw [h1]
     exact hfin
   · rw [decide_eq_false (show ¬ ((X7 (fun z=>bef z e) xs:Nat):Int) < (xs.length:Int) by omega),cond_false]
     exact hfin
end Go.Zq
namespace Go.Zq
end Go.Zq
namespace Go.Zq
end Go.Zq
namespace Go.Zq
theorem L9 {F:Nat} {a b:Int}:Z8 F a b=some (min a b):=by
 unfold Z8
 by_cases h:a < b
 · simp [h];omega
 · simp [h];omega
end Go.Zq
namespace Go.Zq
theorem zk3 {l:List Int} {t i x:Nat} (ht:t < i) (hl:t < l.length) (hx:l.getD t 0=(x:Int)):xr l i x=true:=by
 unfold xr
 refine decide_eq_true ?_
 rw [List.mem_take_iff_getElem]
 refine ⟨t,by omega,?_⟩
 rw [← hx,List.getD_eq_getElem?_getD,List.getElem?_eq_getElem hl];rfl
end Go.Zq
namespace Go.Zq
def pcN (n a:Nat):Nat:=yy a.testBit n
end Go.Zq
namespace Go.Zq
def nxS (g:Gr) (s:Nat×Nat) (step:Int):Nat×Nat:=(mkm (Uy s.1.testBit step) g.1.toNat,mkm (spr g (fun j=>!Uy s.1.testBit step j) s.2.testBit) g.1.toNat)
def cnS (g:Gr) (k:Int) (s:Nat×Nat) (step:Int):Bool:=zma g.1.toNat s.1.testBit step && !(decide (step≥0) && ((pcN g.1.toNat s.1:Int) == k))
inductive Rch (g:Gr) (k:Int):Nat×Nat→Prop
 | init:Rch g k (0,2 ^ g.1.toNat - 1)
 | step {s:Nat×Nat} {step:Int}:Rch g k s→cnS g k s step=true→Rch g k (nxS g s step)
structure Gst (g:Gr) (k:Int) (s:Nat×Nat):Prop where
 lt1:s.1 < 2 ^ g.1.toNat
 lt2:s.2 < 2 ^ g.1.toNat
 dis:∀ j,s.1.testBit j=true→s.2.testBit j=false
 cl:∀ a b,adj g a b=true→s.2.testBit a=true→s.1.testBit b=false→s.2.testBit b=true
 sz:(pcN g.1.toNat s.1:Int)≤k
theorem MB {p:Nat→Bool} {x:Nat} (hx:p x=false):∀ {n:Nat},x < n→yy (fun j=>p j || j == x) n=yy p n + 1
 | 0,h=>by omega
 | n + 1,h=>by
   unfold yy
   rw [List.range_succ,List.countP_append,List.countP_append]
   by_cases e:x=n
   · subst e
     have:(List.range x).countP (fun j=>p j || j == x)=(List.range x).countP p:=by
      apply List.countP_congr
      intro j hj
      rw [List.mem_range] at hj
      have:(j == x)=false:=by simp;omega
      rw [this,Bool.or_false]
     rw [this]
     simp [hx]
   · have:=MB hx (n:=n) (by omega)
     unfold yy at this
     rw [this]
     have e2:(n == x)=false:=by simp;omega
     simp [e2]
     omega
theorem zdL {p:Nat→Bool} {step:Int} (h:0≤step) (j:Nat):Uy p step j=(p j || j == step.toNat):=by
 unfold Uy KF
 rw [if_neg (by omega),if_neg (by omega)]
theorem ziJ {p:Nat→Bool} {step:Int} (h:step < 0) {j:Nat} (hj:Uy p step j=true):p j=true:=by
 unfold Uy at hj
 rw [if_pos h,Bool.and_eq_true] at hj
 exact hj.1
theorem zdq {n:Nat} {p:Nat→Bool} {step:Int} (h:0≤step) (hc:zma n p step=true):step.toNat < n∧p step.toNat=false:=by
 unfold zma KF at hc
 rw [if_neg (by omega),Bool.and_eq_true,decide_eq_true_eq,decide_eq_false (by omega),beq_iff_eq] at hc
 exact ⟨by omega,hc.2⟩
theorem ziQ {g:Gr} (hg:yA g=true) {k:Int} (hk:0≤k):Gst g k (0,2 ^ g.1.toNat - 1):=by
 have:=Nat.two_pow_pos g.1.toNat
 refine ⟨by omega,by show 2 ^ g.1.toNat - 1 < _;omega,fun j hj=>?_,fun a b h _ _=>?_,?_⟩
 · rw [Nat.zero_testBit] at hj;cases hj
 · show (2 ^ g.1.toNat - 1).testBit b=true
   rw [Nat.testBit_two_pow_sub_one]
   have:=L1 hg h
   exact decide_eq_true (by omega)
 · show ((yy (Nat.testBit 0) g.1.toNat:Nat):Int)≤k
   have:yy (Nat.testBit 0) g.1.toNat=0:=by
    unfold yy
    rw [List.countP_eq_zero]
    intro j _
    rw [Nat.zero_testBit];simp
   rw [this];exact hk
theorem zhs {g:Gr} (hg:yA g=true) {k:Int} {s:Nat×Nat} {step:Int} (hs:Gst g k s) (hc:cnS g k s step=true):Gst g k (nxS g s step):=by
 unfold cnS at hc
 rw [Bool.and_eq_true] at hc
 obtain ⟨hc,hk⟩:=hc
 refine ⟨KO,KO,fun j hj=>?_,fun a b hab ha hb=>?_,?_⟩
 · show (mkm (spr g (fun j=>!Uy s.1.testBit step j) s.2.testBit) g.1.toNat).testBit j=false
   have h1:(mkm (Uy s.1.testBit step) g.1.toNat).testBit j=true:=hj
   rw [yN,Bool.and_eq_true] at h1
   rw [yN]
   cases e:spr g (fun j=>!Uy s.1.testBit step j) s.2.testBit j with
   | false=>rw [Bool.and_false]
   | true=>
     unfold spr at e
     obtain ⟨y,hy,h⟩:=wP.1 e
     simp only [Bool.and_eq_true] at h
     have:=zkk (p:=fun j=>!Uy s.1.testBit step j) h.1.2 h.2
     simp only [h1.2] at this
     cases this
 · show (mkm (spr g (fun j=>!Uy s.1.testBit step j) s.2.testBit) g.1.toNat).testBit b=true
   have h1:(mkm (spr g (fun j=>!Uy s.1.testBit step j) s.2.testBit) g.1.toNat).testBit a=true:=ha
   have h2:(mkm (Uy s.1.testBit step) g.1.toNat).testBit b=false:=hb
   have hl:=L1 hg hab
   have hbn:b < g.1.toNat:=by omega
   rw [yN,decide_eq_true hbn,Bool.true_and] at h2 ⊢
   rw [yN,Bool.and_eq_true] at h1
   obtain ⟨_,e⟩:=h1
   unfold spr at e ⊢
   obtain ⟨y,hy,h⟩:=wP.1 e
   refine wP.2 ⟨y,hy,?_⟩
   simp only [Bool.and_eq_true] at h ⊢
   refine ⟨h.1,zbI hg hy h.1.2 h.2 ?_ hab⟩
   simp only [h2];rfl
 · show ((yy (mkm (Uy s.1.testBit step) g.1.toNat).testBit g.1.toNat:Nat):Int)≤k
   have e1:yy (mkm (Uy s.1.testBit step) g.1.toNat).testBit g.1.toNat=yy (Uy s.1.testBit step) g.1.toNat:=Z1 fun j hj=>by rw [yN,decide_eq_true hj,Bool.true_and]
   rw [e1]
   have hsz:=hs.sz
   unfold pcN at hsz hk
   by_cases h:step < 0
   · have:=Mi (p:=Uy s.1.testBit step) (q:=s.1.testBit) (n:=g.1.toNat) fun j _ hj=>ziJ h hj
     omega
   · obtain ⟨h1,h2⟩:=zdq (by omega) hc
     have e2:yy (Uy s.1.testBit step) g.1.toNat=yy s.1.testBit g.1.toNat + 1:=by
      rw [← MB h2 h1]
      exact Z1 fun j _=>zdL (by omega) j
     rw [decide_eq_true (show step≥0 by omega),Bool.true_and,Bool.not_eq_true',beq_eq_false_iff_ne] at hk
     omega
theorem zkV {g:Gr} (hg:yA g=true) {k:Int} (hk:0≤k) {s:Nat×Nat} (h:Rch g k s):Gst g k s:=by
 induction h with
 | init=>exact ziQ hg hk
 | step _ hc ih=>exact zhs hg ih hc
end Go.Zq
namespace Go.Zq
end Go.Zq
