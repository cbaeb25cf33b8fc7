/- Plain mathematics: what the functions answer (part 3). Conditions: stated in each theorem. -/
import Derived.Test.YtkmhlpopclahcabM2
import Derived.Test.YtkmhlpopclahcabM1
set_option linter.unusedVariables false
set_option linter.unusedSimpArgs false
namespace Go.Zq
def QV:List Int→List Int→Bool
 | [],[]=>false
 | [],_ :: _=>true
 | _ :: _,[]=>false
 | x :: xs,y :: ys=>if x=y then QV xs ys else decide (x < y)
theorem NN {l:List Int} {i:Nat} (h:l.length≤i):l.drop i=[]:=List.drop_eq_nil_of_le h
theorem Xy {l:List Int} {i:Nat} (h:i < l.length):l.drop i=l.getD i 0 :: l.drop (i + 1):=by
 rw [List.drop_eq_getElem_cons h]
 simp [h]
theorem zij {F:Nat} {a b:List Int} (hF:a.length < F) (ha:Sm a.length):XS F a b=some (QV a b):=by
 unfold XS
 have key:∀ d k i,i + d=a.length→d < k→wU F a b k (i:Int)=some (QV (a.drop i) (b.drop i)):=by
  intro d
  induction d with
  | zero=>
    intro k i hi hk
    obtain ⟨k,rfl⟩:∃ k',k=k' + 1:=⟨k - 1,by omega⟩
    simp only [wU,ZP]
    rw [decide_eq_false (show ¬ (i:Int) < a.length by omega),cond_false,cond_false,List.drop_eq_nil_of_le (by omega)]
    by_cases hb:i < b.length
    · rw [Xy hb,decide_eq_true (by omega)];rfl
    · rw [List.drop_eq_nil_of_le (by omega),decide_eq_false (by omega)];rfl
  | succ d ih=>
    intro k i hi hk
    obtain ⟨k,rfl⟩:∃ k',k=k' + 1:=⟨k - 1,by omega⟩
    have hia:i < a.length:=by omega
    simp only [wU,ZP]
    rw [decide_eq_true (show (i:Int) < a.length by omega),cond_true,Xy hia]
    by_cases hb:i < b.length
    · rw [decide_eq_true (show (i:Int) < b.length by omega),cond_true,zL (d:=0) hia,Option.bind_some,zL (d:=0) hb,Option.bind_some,Option.bind_some,Option.bind_some,z5 hia ha,Xy hb]
      simp only [QV]
      by_cases e:a.getD i 0=b.getD i 0
      · rw [if_pos e,e,bne_self_eq_false,cond_false];exact ih k (i + 1) (by omega) (by omega)
      · have:(a.getD i 0 != b.getD i 0)=true:=by simpa using e
        rw [if_neg e,this,cond_true]
    · rw [decide_eq_false (show ¬ (i:Int) < b.length by omega),cond_false,NN (l:=b) (by omega),decide_eq_false (by omega)];rfl
 have:=key a.length F 0 (by omega) (by omega)
 simpa using this
theorem zkg {F:Nat} {x y:Int}:x7 F x y=some (if x < y then -1 else if x > y then 1 else 0):=by
 unfold x7 wY
 simp only [Option.bind_some,bne_self_eq_false,cond_false]
 by_cases h:x < y
 · rw [decide_eq_true h,cond_true,if_pos h]
 · rw [decide_eq_false h,cond_false,if_neg h]
   by_cases h2:x > y
   · rw [decide_eq_true h2,cond_true,if_pos h2]
   · rw [decide_eq_false h2,cond_false,if_neg h2]
theorem zcX {F:Nat} {a b:List Int} (hF:a.length < F) (ha:Sm a.length):∃ r,xX F a b=some r∧decide (r < 0)=QV a b:=by
 unfold xX
 have key:∀ d k i,i + d=a.length→d < k→∃ r,xM F a b k (i:Int)=some r∧(i≤b.length→decide (r < 0)=QV (a.drop i) (b.drop i)):=by
  intro d
  induction d with
  | zero=>
    intro k i hi hk
    obtain ⟨k,rfl⟩:∃ k',k=k' + 1:=⟨k - 1,by omega⟩
    simp only [xM]
    rw [decide_eq_false (show ¬ (i:Int) < a.length by omega),cond_false,List.drop_eq_nil_of_le (by omega)]
    by_cases hb:i < b.length
    · rw [Xy hb,decide_eq_true (show (a.length:Int) < b.length by omega),cond_true]
      exact ⟨_,rfl,fun _=>rfl⟩
    · rw [List.drop_eq_nil_of_le (by omega),decide_eq_false (show ¬ (a.length:Int) < b.length by omega),cond_false]
      exact ⟨_,rfl,fun _=>rfl⟩
  | succ d ih=>
    intro k i hi hk
    obtain ⟨k,rfl⟩:∃ k',k=k' + 1:=⟨k - 1,by omega⟩
    have hia:i < a.length:=by omega
    simp only [xM]
    rw [decide_eq_true (show (i:Int) < a.length by omega),cond_true,zL (d:=0) hia,Option.bind_some,Xy hia]
    by_cases hb:i < b.length
    · rw [decide_eq_false (show ¬ (i:Int)≥b.length by omega),cond_false,zL (d:=0) hb,Option.bind_some,zkg,Option.bind_some,z5 hia ha,Xy hb]
      simp only [QV]
      obtain ⟨r,h1,h2⟩:=ih k (i + 1) (by omega) (by omega)
      by_cases e:a.getD i 0=b.getD i 0
      · rw [if_pos e,e,if_neg (by omega),if_neg (by omega),bne_self_eq_false,cond_false]
        exact ⟨r,h1,fun _=>h2 (by omega)⟩
      · rw [if_neg e]
        by_cases e2:a.getD i 0 < b.getD i 0
        · rw [if_pos e2,decide_eq_true e2];exact ⟨-1,rfl,fun _=>rfl⟩
        · rw [if_neg e2,if_pos (by omega),decide_eq_false e2];exact ⟨1,rfl,fun _=>rfl⟩
    · rw [decide_eq_true (show (i:Int)≥b.length by omega),cond_true]
      refine ⟨1,rfl,fun h=>?_⟩
      rw [NN (l:=b) (by omega)];rfl
 obtain ⟨r,h1,h2⟩:=key a.length F 0 (by omega) (by omega)
 exact ⟨r,h1,by simpa using h2 (Nat.zero_le _)⟩
def zdt (best l:List Int):Bool:=decide (best.length < l.length) || (best.length == l.length && QV l best)
theorem zgi {F:Nat} {b l:List Int} (hF:l.length < F) (hl:Sm l.length):w7 F b l=some (zdt b l):=by
 unfold w7 zdt
 by_cases h:b.length < l.length
 · rw [decide_eq_true (show (l.length:Int) > b.length by omega),cond_true,decide_eq_true h];rfl
 · rw [decide_eq_false (show ¬ (l.length:Int) > b.length by omega),cond_false,decide_eq_false h]
   by_cases e:b.length=l.length
   · obtain ⟨r,h1,h2⟩:=zcX (b:=b) hF hl
     have e1:((l.length:Int) == (b.length:Int))=true:=by simp;omega
     have e2:(b.length == l.length)=true:=by simpa using e
     rw [e1,cond_true,h1,Option.bind_some,h2,e2];simp
   · have e1:((l.length:Int) == (b.length:Int))=false:=by simp;omega
     have e2:(b.length == l.length)=false:=by simpa using e
     rw [e1,cond_false,e2];rfl
def bcl (g:Gr):Nat→List Int
 | 0=>[]
 | m + 1=>if (clq g m.testBit && zdt (bcl g m) (zo m.testBit g.1.toNat))=true then zo m.testBit g.1.toNat else bcl g m
theorem zdz {g:Gr}:∀ m,(bcl g m).length≤g.1.toNat
 | 0=>by simp [bcl]
 | m + 1=>by
   simp only [bcl]
   split
   · exact Zr
   · exact zdz m
theorem zkw {g:Gr}:bcl g 1=[]:=by
 have:zo (Nat.testBit 0) g.1.toNat=[]:=by
  have:∀ n,zo (Nat.testBit 0) n=[]:=by
   intro n
   induction n with
   | zero=>rfl
   | succ n ih=>rw [ze9,Nat.zero_testBit];simpa using ih
  exact this _
 simp [bcl,this]
theorem zfu {F:Nat} {g:Gr} (h9:300≤F) (hG:g.2.length < F) (hs:Sm g.2.length) :
    ∃ R b o,uQ F g=some (R,b)∧Xg F g=some (o,b)∧o.list=R∧R.length≤8∧(xa g=true→R=bcl g (2 ^ g.1.toNat)):=by
 unfold uQ Xg
 rw [ZW hG hs,ug hG (by omega) hs,Option.bind_some,Option.bind_some]
 cases h:xa g with
 | false=>exact ⟨[],false,.nil,rfl,rfl,rfl,by simp,fun h=>by cases h⟩
 | true=>
   have h8:=zY h
   obtain ⟨n,hn⟩:∃ n:Nat,g.1.toNat=n:=⟨_,rfl⟩
   have hgn:g.1=(n:Int):=by omega
   have hpow:=Nat.two_pow_pos n
   have h256:2 ^ n≤256:=by
    have:=Nat.pow_le_pow_right (n:=2) (by decide) (show n≤8 by omega)
    simpa using this
   simp only [Bool.not_true,cond_false]
   rw [XP h hG hs,Option.bind_some,zaZ h,Option.bind_some,JB,hn]
   have hbl:=zdz (g:=g)
   rw [hn] at hbl
   have hS:yW F g F [] 1=some (bcl g (2 ^ n),true):=by
    have:=we (L:=fun k i s=>yW F g k s (i + 1)) (n:=2 ^ n - 1) (r:=some (bcl g (2 ^ n),true)) (fun i s=>s=bcl g (i + 1)) (by
     rintro k i s hi rfl
     refine ⟨_,rfl,?_⟩
     have e:(i:Int) + 1=((i + 1:Nat):Int):=by omega
     simp only [yW,vO,Zn]
     rw [hgn,yP (by omega),Option.bind_some,e,decide_eq_true (show ((i + 1:Nat):Int) < ((2 ^ n:Nat):Int) by omega),cond_true,Lz (by omega) (by omega) (by omega),Option.bind_some]
     have hc:=zcL (p:=(i + 1).testBit) h (F:=F) (by omega) hG hs
     rw [hn] at hc
     rw [hc,Option.bind_some,xp (by omega) (by omega),show ((i + 1:Nat):Int) + 1=((i + 1 + 1:Nat):Int) by omega]
     have hb1:=hbl (i + 1)
     have hl1:=Zr (p:=(i + 1).testBit) (n:=n)
     rw [show bcl g (i + 1 + 1)=if (clq g (i + 1).testBit && zdt (bcl g (i + 1)) (zo (i + 1).testBit g.1.toNat))=true then zo (i + 1).testBit g.1.toNat else bcl g (i + 1) from rfl,hn]
     cases hcl:clq g (i + 1).testBit with
     | false=>rw [cond_false];rfl
     | true=>
       rw [cond_true,Bool.true_and]
       unfold zdt
       by_cases h1:(bcl g (i + 1)).length < (zo (i + 1).testBit n).length
       · rw [decide_eq_true (show ((zo (i + 1).testBit n).length:Int) > ((bcl g (i + 1)).length:Int) by omega),cond_true,cond_true,decide_eq_true h1];rfl
       · rw [decide_eq_false (show ¬ ((zo (i + 1).testBit n).length:Int) > ((bcl g (i + 1)).length:Int) by omega),cond_false,decide_eq_false h1,Bool.false_or]
         by_cases h2:(bcl g (i + 1)).length=(zo (i + 1).testBit n).length
         · have e1:(((zo (i + 1).testBit n).length:Int) == ((bcl g (i + 1)).length:Int))=true:=by simp;omega
           have e2:((bcl g (i + 1)).length == (zo (i + 1).testBit n).length)=true:=by simpa using h2
           rw [e1,cond_true,zij (by omega) (by unfold Sm;omega),Option.bind_some,e2,Bool.true_and]
           cases QV (zo (i + 1).testBit n) (bcl g (i + 1)) <;> rfl
         · have e1:(((zo (i + 1).testBit n).length:Int) == ((bcl g (i + 1)).length:Int))=false:=by simp;omega
           have e2:((bcl g (i + 1)).length == (zo (i + 1).testBit n).length)=false:=by simpa using h2
           rw [e1,cond_false,e2];rfl) (by
     rintro k s rfl
     simp only [yW]
     rw [hgn,yP (by omega),Option.bind_some,decide_eq_false (show ¬ ((2 ^ n - 1:Nat):Int) + 1 < ((2 ^ n:Nat):Int) by omega),cond_false,show 2 ^ n - 1 + 1=2 ^ n by omega]) F [] (by omega) zkw.symm
    simpa using this
   obtain ⟨o,hol,hI⟩:=YJ (L:=fun k i s=>wu F ⟨yh g⟩ ((2 ^ n - 1:Nat):Int) k s i) (n:=2 ^ n) (fin:=fun s=>some (s,true)) (fun i (s:NL Int)=>s.list=bcl g i) (by
    intro k i s hi hI
    have hb1:=hbl i
    have hl1:=Zr (p:=i.testBit) (n:=n)
    obtain ⟨o,h1,h2⟩:=zdf (F:=F) (n:=n) (p:=i.testBit) (by omega) (by omega)
    rw [WC hi] at h1
    have hc:=zdy (p:=i.testBit) h (F:=F) (by omega)
    rw [hn,WC hi] at hc
    simp only [wu,ZD,ZB]
    have hw:w64 (((2 ^ n - 1:Nat):Int) + 1)=((2 ^ n:Nat):Int):=by rw [xp (by omega) (by omega)];omega
    rw [hw,decide_eq_true (show (i:Int) < ((2 ^ n:Nat):Int) by omega),cond_true,h1,Option.bind_some,hc,Option.bind_some,z5 hi (by unfold Sm;omega),zgi (by rw [h2];omega) (by rw [h2];unfold Sm;omega),Option.bind_some,hI,h2]
    rw [show bcl g (i + 1)=if (clq g i.testBit && zdt (bcl g i) (zo i.testBit g.1.toNat))=true then zo i.testBit g.1.toNat else bcl g i from rfl,hn]
    cases clq g i.testBit with
    | false=>exact ⟨s,hI,by simp⟩
    | true=>
      rw [cond_true,Bool.true_and]
      cases zdt (bcl g i) (zo i.testBit n) with
      | true=>exact ⟨o,h2,by simp⟩
      | false=>exact ⟨s,hI,by simp⟩) (by
    intro k s hI
    simp only [wu]
    have hw:w64 (((2 ^ n - 1:Nat):Int) + 1)=((2 ^ n:Nat):Int):=by rw [xp (by omega) (by omega)];omega
    rw [hw,decide_eq_false (show ¬ ((2 ^ n:Nat):Int) < ((2 ^ n:Nat):Int) by omega),cond_false]) F .nil (by omega) rfl
   exact ⟨bcl g (2 ^ n),true,o,hS,hI,hol,by have:=hbl (2 ^ n);omega,fun _=>rfl⟩
end Go.Zq
namespace Go.Zq
theorem zbS {β σ:Type} {L:Nat→Int→σ→Option β} {a n:Nat} (I:Nat→σ→Prop) {fin:σ→Option β} (hs:∀ k i s,a≤i→i < n→I i s→∃ s',I (i + 1) s'∧L (k + 1) (i:Int) s=L k ((i + 1:Nat):Int) s') (he:∀ k s,I n s→L (k + 1) (n:Int) s=fin s) :
    ∀ d i k s,i + d=n→a≤i→d < k→I i s→∃ s',I n s'∧L k (i:Int) s=fin s':=by
 intro d
 induction d with
 | zero=>
   intro i k s hi ha hk hI
   obtain ⟨k,rfl⟩:∃ k',k=k' + 1:=⟨k - 1,by omega⟩
   obtain rfl:i=n:=by omega
   exact ⟨s,hI,he k s hI⟩
 | succ d ih=>
   intro i k s hd ha hk hI
   obtain ⟨k,rfl⟩:∃ k',k=k' + 1:=⟨k - 1,by omega⟩
   obtain ⟨s',h1,h2⟩:=hs k i s ha (by omega) hI
   rw [h2]
   exact ih (i + 1) k s' (by omega) (by omega) (by omega) h1
theorem zjX {g:Gr} {a b:Nat}:adj g a b=true↔((a:Int),(b:Int))∈g.2∨((b:Int),(a:Int))∈g.2:=by
 unfold adj
 rw [xd]
 constructor
 · rintro ⟨i,hi,h⟩
   have hm:=ww (d:=(0,0)) hi
   unfold vY at h
   simp only [Bool.or_eq_true,Bool.and_eq_true,beq_iff_eq] at h
   rcases h with ⟨h1,h2⟩ | ⟨h1,h2⟩
   · left
     have:g.2.getD i (0,0)=((a:Int),(b:Int)):=Prod.ext h1 h2
     rw [this] at hm;exact hm
   · right
     have:g.2.getD i (0,0)=((b:Int),(a:Int)):=Prod.ext h1 h2
     rw [this] at hm;exact hm
 · rintro (h | h)
   · obtain ⟨i,hi,e⟩:=List.getElem_of_mem h
     refine ⟨i,hi,?_⟩
     unfold vY
     rw [List.getD_eq_getElem?_getD,List.getElem?_eq_getElem hi,Option.getD_some,e];simp
   · obtain ⟨i,hi,e⟩:=List.getElem_of_mem h
     refine ⟨i,hi,?_⟩
     unfold vY
     rw [List.getD_eq_getElem?_getD,List.getElem?_eq_getElem hi,Option.getD_some,e];simp
def zsT (g:Gr) (X:List Int) (i k:Nat) (es:List (Int×Int)):Prop:=
 es.length≤8 * i + k∧∀ a b:Nat,(((a:Int),(b:Int))∈es↔a < b∧b < X.length∧adj g (X.getD a 0).toNat (X.getD b 0).toNat=true∧(a < i∨a=i∧b < k))
theorem zds {F:Nat} {g:Gr} {X:List Int} (hX:X.length≤8) (h0:∀ y∈X,0≤y) (hF:20≤F) (hG:g.2.length < F) (hs:Sm g.2.length) :
    ∃ es,uC F g X=some ((X.length:Int),es)∧es.length≤80∧∀ a b:Nat,(((a:Int),(b:Int))∈es↔a < b∧b < X.length∧adj g (X.getD a 0).toNat (X.getD b 0).toNat=true):=by
 unfold uC
 obtain ⟨es,⟨h1,h2⟩,h3⟩:=YJ (L:=fun k i s=>xW F X g k s i) (n:=X.length) (fin:=fun s=>some ((X.length:Int),s)) (fun i s=>zsT g X i 0 s) (by
  intro k i s hi hI
  have hw:w64 ((i:Int) + 1)=((i + 1:Nat):Int):=z5 hi (by unfold Sm;omega)
  have hxi:=h0 _ (ww (d:=0) hi)
  obtain ⟨es,hes,h4⟩:=zbS (L:=fun k2 t s=>xR F X g (i:Int) (xW F X g k) k2 s t) (a:=i + 1) (n:=X.length) (fin:=fun s=>xW F X g k s ((i + 1:Nat):Int)) (fun t s=>zsT g X i t s) (by
   rintro k2 t s hit ht ⟨hI1,hI2⟩
   have hxt:=h0 _ (ww (d:=0) ht)
   have e1:X.getD i 0=(((X.getD i 0).toNat:Nat):Int):=by omega
   have e2:X.getD t 0=(((X.getD t 0).toNat:Nat):Int):=by omega
   simp only [xR,uL]
   rw [decide_eq_true (show (t:Int) < X.length by omega),cond_true,zL (d:=0) hi,Option.bind_some,zL (d:=0) ht,Option.bind_some,e1,e2,WL hG hs,Option.bind_some,z5 ht (by unfold Sm;omega)]
   cases hA:adj g (X.getD i 0).toNat (X.getD t 0).toNat with
   | true=>
     rw [cond_true,vF (by omega),Option.bind_some]
     refine ⟨_,⟨by simp;omega,?_⟩,rfl⟩
     intro a b
     rw [List.mem_append,hI2,List.mem_singleton,Prod.mk.injEq]
     constructor
     · rintro (⟨h5,h6,h7,h8⟩ | ⟨h5,h6⟩)
       · exact ⟨h5,h6,h7,by omega⟩
       · have ea:a=i:=by omega
         have eb:b=t:=by omega
         subst ea;subst eb
         exact ⟨by omega,ht,hA,by omega⟩
     · rintro ⟨h5,h6,h7,h8⟩
       by_cases e:a=i∧b=t
       · right;omega
       · left;exact ⟨h5,h6,h7,by omega⟩
   | false=>
     rw [cond_false]
     refine ⟨s,⟨by omega,?_⟩,rfl⟩
     intro a b
     rw [hI2]
     constructor
     · rintro ⟨h5,h6,h7,h8⟩;exact ⟨h5,h6,h7,by omega⟩
     · rintro ⟨h5,h6,h7,h8⟩
       refine ⟨h5,h6,h7,?_⟩
       rcases h8 with h8 | ⟨h8,h9⟩
       · exact .inl h8
       · by_cases e:b=t
         · subst e;subst h8;rw [hA] at h7;cases h7
         · right;omega) (by
   intro k2 s hI
   simp only [xR]
   rw [decide_eq_false (show ¬ (X.length:Int) < X.length by omega),cond_false,hw]) (X.length - (i + 1)) (i + 1) F s (by omega) (Nat.le_refl _) (by omega) (by
   obtain ⟨hI1,hI2⟩:=hI
   refine ⟨by omega,fun a b=>?_⟩
   rw [hI2]
   constructor
   · rintro ⟨h5,h6,h7,h8⟩;exact ⟨h5,h6,h7,by omega⟩
   · rintro ⟨h5,h6,h7,h8⟩;exact ⟨h5,h6,h7,by omega⟩)
  refine ⟨es,?_,?_⟩
  · obtain ⟨hes1,hes2⟩:=hes
    refine ⟨by omega,fun a b=>?_⟩
    rw [hes2]
    constructor
    · rintro ⟨h5,h6,h7,h8⟩;exact ⟨h5,h6,h7,by omega⟩
    · rintro ⟨h5,h6,h7,h8⟩;exact ⟨h5,h6,h7,by omega⟩
  · simp only [xW]
    rw [decide_eq_true (show (i:Int) < X.length by omega),cond_true,hw]
    exact h4) (by
  intro k s hI
  simp only [xW]
  rw [decide_eq_false (show ¬ (X.length:Int) < X.length by omega),cond_false]) F [] (by omega) ⟨by simp,fun a b=>by simp⟩
 refine ⟨es,h3,by omega,fun a b=>?_⟩
 rw [h2]
 constructor
 · rintro ⟨h5,h6,h7,h8⟩;exact ⟨h5,h6,h7⟩
 · rintro ⟨h5,h6,h7⟩;exact ⟨h5,h6,h7,by omega⟩
theorem zhD {F x n:Nat} {g:Gr} (h1:g.1=(n:Int)) (h8:n≤8) (hF:20≤F) (hG:g.2.length < F) (hs:Sm g.2.length):xU F g (x:Int)=some (zo (adj g x) n):=by
 unfold xU
 refine we (L:=fun k t s=>yN F (x:Int) g k s t) (n:=n) (fun t s=>s=zo (adj g x) t) ?_ ?_ F [] (by omega) rfl
 · rintro k t s ht rfl
   refine ⟨_,rfl,?_⟩
   have hle:=Zr (p:=adj g x) (n:=t)
   simp only [yN,vd]
   rw [decide_eq_true (show (t:Int) < g.1 by omega),cond_true,WL hG hs,Option.bind_some,z5 ht (by unfold Sm;omega),ze9]
   cases adj g x t with
   | true=>rw [cond_true,vF (by omega),Option.bind_some];rfl
   | false=>rfl
 · rintro k s rfl
   simp only [yN]
   rw [decide_eq_false (show ¬ (n:Int) < g.1 by omega),cond_false]
theorem zfS {F:Nat} {l:List Int} (hF:l.length < F) (hl:l.length≤8):wm F [] l F [] 0=some l:=by
 refine we (L:=fun k t s=>wm F [] l k s t) (n:=l.length) (fun t s=>s=l.take t) ?_ ?_ F [] (by omega) (by simp)
 · rintro k t s ht rfl
   refine ⟨_,rfl,?_⟩
   have hl3:(l.take t).length≤8:=by simp;omega
   simp only [wm,Yc]
   have hn:wC F [] (l.getD t 0)=some false:=by rw [YW (by simp;omega) (by simp [Sm])];simp
   rw [decide_eq_true (show (t:Int) < l.length by omega),cond_true,zL (d:=0) ht,Option.bind_some,hn,Option.bind_some,Bool.not_false,cond_true,Option.bind_some,vF (by omega),Option.bind_some,z5 ht (by unfold Sm;omega)]
   congr 1
   rw [List.take_add_one,List.getD_eq_getElem?_getD,List.getElem?_eq_getElem ht];rfl
 · rintro k s rfl
   simp only [wm]
   rw [decide_eq_false (show ¬ (l.length:Int) < l.length by omega),cond_false,List.take_length]
theorem zdi {q:Int→Bool} {X:List Int}:∀ m,m≤X.length→yO (fun k=>q (X.getD k 0)) m=((X.take m).filter q).length:=by
 intro m
 induction m with
 | zero=>intro _;rw [u9];rfl
 | succ m ih=>
   intro hm
   have hlt:m < X.length:=by omega
   rw [u9]
   simp only [L7]
   rw [← u9,ih (by omega),List.take_add_one,List.getElem?_eq_getElem hlt,List.filter_append,List.length_append,List.getD_eq_getElem?_getD,List.getElem?_eq_getElem hlt,Option.getD_some]
   simp only [Option.toList_some,List.filter_cons,List.filter_nil]
   cases q X[m] <;> simp
def Jv (g:Gr) (p:Nat→Bool) (x:Nat):Nat:=yO (fun y=>p y && adj g x y) g.1.toNat
theorem zjy {g:Gr} {p:Nat→Bool} {x:Nat}:Jv g p x≤g.1.toNat:=vK
theorem Qw {g:Gr} (hg:xa g=true) {x:Nat}:adj g x x=false:=by
 cases h:adj g x x with
 | false=>rfl
 | true=>
   unfold adj at h
   obtain ⟨i,hi,h⟩:=xd.1 h
   obtain ⟨e1,e2,e3⟩:=U6 hg hi
   unfold vY at h
   simp only [Bool.or_eq_true,Bool.and_eq_true,beq_iff_eq] at h
   omega
theorem zmQ {F i:Nat} {g:Gr} {p:Nat→Bool} {es:List (Int×Int)} (hg:xa g=true) (hF:300≤F) (hi:i < (zo p g.1.toNat).length) (hl:es.length≤80)
    (hes:∀ a b:Nat,(((a:Int),(b:Int))∈es↔a < b∧b < (zo p g.1.toNat).length∧adj g ((zo p g.1.toNat).getD a 0).toNat ((zo p g.1.toNat).getD b 0).toNat=true)) :
    ∃ l,Yr F (((zo p g.1.toNat).length:Int),es) [] (i:Int)=some l∧l.length=Jv g p ((zo p g.1.toNat).getD i 0).toNat:=by
 have h8:=zY hg
 obtain ⟨n,hn⟩:∃ n:Nat,g.1.toNat=n:=⟨_,rfl⟩
 have hle:=Zr (p:=p) (n:=g.1.toNat)
 obtain ⟨X,hX⟩:∃ X,zo p g.1.toNat=X:=⟨_,rfl⟩
 rw [hX] at hi hes hle ⊢
 unfold Yr
 rw [zhD (n:=X.length) rfl (by omega) (by omega) (by show es.length < F;omega) (by show Sm es.length;unfold Sm;omega),Option.bind_some]
 have hll:=Zr (p:=adj ((X.length:Int),es) i) (n:=X.length)
 refine ⟨_,zfS (by omega) (by omega),?_⟩
 rw [yJ]
 have e1:yO (adj ((X.length:Int),es) i) X.length=yO (fun k=>adj g (X.getD i 0).toNat (X.getD k 0).toNat) X.length:=by
  refine ZU fun k hk=>?_
  rw [Bool.eq_iff_iff,zjX]
  show (_∈es∨_∈es)↔_
  rw [hes,hes]
  constructor
  · rintro (⟨h1,h2,h3⟩ | ⟨h1,h2,h3⟩)
    · exact h3
    · rw [YP];exact h3
  · intro h
    rcases Nat.lt_trichotomy i k with h1 | h1 | h1
    · exact .inl ⟨h1,hk,h⟩
    · subst h1;rw [Qw hg] at h;cases h
    · exact .inr ⟨h1,hi,by rw [YP];exact h⟩
 rw [e1,zdi (q:=fun y=>adj g (X.getD i 0).toNat y.toNat) (X:=X) X.length (Nat.le_refl _),List.take_length,← hX,JE (A:=p) (B:=adj g ((zo p g.1.toNat).getD i 0).toNat),yJ]
 rfl
end Go.Zq
namespace Go.Zq
theorem JP {F:Nat} {a b:Int}:uT F a b=some (min a b):=by
 unfold uT
 by_cases h:a < b
 · simp [h];omega
 · simp [h];omega
def mnD (g:Gr) (p:Nat→Bool) (s:Int) (X:List Int):Int:=X.foldl (fun s y=>min s (Jv g p y.toNat:Int)) s
theorem zco {g:Gr} {p:Nat→Bool} {s y:Int} {X:List Int}:mnD g p s (X++[y])=min (mnD g p s X) (Jv g p y.toNat:Int):=by simp [mnD,List.foldl_append]
theorem zgb {g:Gr} {p:Nat→Bool} {X:List Int} (hg:xa g=true) (hX:X≠[]):mnD g p 8 X=mnD g p g.1 X:=by
 have h8:=zY hg
 cases X with
 | nil=>exact absurd rfl hX
 | cons y ys=>
   unfold mnD
   simp only [List.foldl_cons]
   have:=zjy (g:=g) (p:=p) (x:=y.toNat)
   congr 1
   omega
def dgn (g:Gr):Nat→Int
 | 0=>-1
 | m + 1=>max (dgn g m) (mnD g (m + 1).testBit g.1 (zo (m + 1).testBit g.1.toNat))
theorem zgG {m n:Nat} (h0:0 < m) (hm:m < 2 ^ n):zo m.testBit n≠[]:=by
 obtain ⟨i,hi⟩:=Nat.exists_testBit_of_ne_zero (show m≠0 by omega)
 have hlt:i < n:=by
  rcases Nat.lt_or_ge i n with h | h
  · exact h
  · rw [Nat.testBit_lt_two_pow (Nat.lt_of_lt_of_le hm (Nat.pow_le_pow_right (by decide) h))] at hi;cases hi
 have:(i:Int)∈zo m.testBit n:=y5.2 ⟨i,rfl,hlt,hi⟩
 intro e;rw [e] at this;cases this
theorem znK {F m:Nat} {g:Gr} {most:Int} {c1:Int→Int→Option (Int×Bool)} (hg:xa g=true) (hF:300≤F) (hG:g.2.length < F) (hs:Sm g.2.length) (hm:m < 100000) :
    xO F g most (m:Int) (zo m.testBit g.1.toNat) c1 F g.1 0=c1 (max most (mnD g m.testBit g.1 (zo m.testBit g.1.toNat))) ((m + 1:Nat):Int):=by
 have h8:=zY hg
 obtain ⟨X,hX⟩:∃ X,zo m.testBit g.1.toNat=X:=⟨_,rfl⟩
 have hle:=Zr (p:=m.testBit) (n:=g.1.toNat)
 have h0:∀ y∈zo m.testBit g.1.toNat,0≤y:=by
  intro y hy
  obtain ⟨j,rfl,_⟩:=y5.1 hy
  omega
 obtain ⟨es,hes1,hes2,hes3⟩:=zds (F:=F) (g:=g) (X:=zo m.testBit g.1.toNat) (by omega) h0 (by omega) hG hs
 have hdeg:=fun i hi=>zmQ (F:=F) (i:=i) (p:=m.testBit) hg hF hi hes2 hes3
 rw [hX] at hle hes1 hdeg ⊢
 refine we (L:=fun k t s=>xO F g most (m:Int) X c1 k s t) (n:=X.length) (fun t s=>s=mnD g m.testBit g.1 (X.take t)) ?_ ?_ F g.1 (by omega) (by simp [mnD])
 · rintro k t s ht rfl
   refine ⟨_,rfl,?_⟩
   obtain ⟨l,hl1,hl2⟩:=hdeg t ht
   simp only [xO]
   rw [decide_eq_true (show (t:Int) < X.length by omega),cond_true,hes1,Option.bind_some,hl1,Option.bind_some,JP,Option.bind_some,z5 ht (by unfold Sm;omega),hl2]
   congr 1
   rw [List.take_add_one,List.getElem?_eq_getElem ht,Option.toList_some,zco,List.getD_eq_getElem?_getD,List.getElem?_eq_getElem ht,Option.getD_some]
 · rintro k s rfl
   simp only [xO]
   rw [decide_eq_false (show ¬ (X.length:Int) < X.length by omega),cond_false,Ly,Option.bind_some,List.take_length,xp (by omega) (by omega)]
   rfl
theorem zmD {F m:Nat} {g:Gr} {most:Int} {c1:Int→Int→Option (Int×Bool)} (hg:xa g=true) (hF:300≤F) (hm:m < 2 ^ g.1.toNat) (h0:0 < m) :
    xP F ⟨yh g⟩ most (m:Int) (zo m.testBit g.1.toNat) c1 F 8 0=c1 (max most (mnD g m.testBit g.1 (zo m.testBit g.1.toNat))) ((m + 1:Nat):Int):=by
 have h8:=zY hg
 have h256:=Jj (by omega) hm
 have hle:=Zr (p:=m.testBit) (n:=g.1.toNat)
 rw [← zgb hg (zgG h0 hm)]
 refine we (L:=fun k t s=>xP F ⟨yh g⟩ most (m:Int) (zo m.testBit g.1.toNat) c1 k s t) (n:=(zo m.testBit g.1.toNat).length) (fun t s=>s=mnD g m.testBit 8 ((zo m.testBit g.1.toNat).take t)) ?_ ?_ F 8 (by omega) (by simp [mnD])
 · rintro k t s ht rfl
   obtain ⟨a,ha,han,hap⟩:=u7 ht
   refine ⟨_,rfl,?_⟩
   have hand:=LE (A:=adj g a) (B:=m.testBit) (n:=g.1.toNat) (by omega)
   rw [WC hm] at hand
   simp only [xP]
   rw [decide_eq_true (show (t:Int) < ((zo m.testBit g.1.toNat).length:Int) by omega),cond_true,zL (d:=0) ht,Option.bind_some,ha,zL (d:=0) (by rw [wi];exact han),Option.bind_some,Xv han,hand,Kc (JS (by omega)),Option.bind_some,Uq (by omega),z5 ht (by unfold Sm;omega),zrx ht ha,zco,Int.toNat_natCast]
   have e:yO (fun j=>adj g a j && m.testBit j) g.1.toNat=Jv g m.testBit a:=by
    unfold Jv
    exact ZU fun j _=>Bool.and_comm _ _
   rw [e]
   congr 1
   split <;> omega
 · rintro k s rfl
   simp only [xP]
   rw [decide_eq_false (show ¬ ((zo m.testBit g.1.toNat).length:Int) < ((zo m.testBit g.1.toNat).length:Int) by omega),cond_false,List.take_length,xp (by omega) (by omega)]
   congr 1
   split <;> omega
theorem znU {F:Nat} {g:Gr} (hG:g.2.length < F) (h9:300≤F) (hs:Sm g.2.length):vq F g=some (bif xa g then (dgn g (2 ^ g.1.toNat - 1),true) else (0,false)):=by
 unfold vq
 rw [ZW hG hs,Option.bind_some]
 cases h:xa g with
 | false=>rfl
 | true=>
   have h8:=zY h
   obtain ⟨n,hn⟩:∃ n:Nat,g.1.toNat=n:=⟨_,rfl⟩
   have hgn:g.1=(n:Int):=by omega
   have hpow:=Nat.two_pow_pos n
   have h256:2 ^ n≤256:=by
    have:=Nat.pow_le_pow_right (n:=2) (by decide) (show n≤8 by omega)
    simpa using this
   simp only [Bool.not_true,cond_false,cond_true]
   rw [hn]
   refine we (L:=fun k i s=>xx F g k s (i + 1)) (n:=2 ^ n - 1) (fun i s=>s=dgn g i) ?_ ?_ F (-1) (by omega) rfl
   · rintro k i s hi rfl
     refine ⟨_,rfl,?_⟩
     have e:(i:Int) + 1=((i + 1:Nat):Int):=by omega
     have hin:=znK (m:=i + 1) (most:=dgn g i) (c1:=xx F g k) h h9 hG hs (by omega)
     rw [hn] at hin
     simp only [xx]
     rw [hgn,yP (by omega),Option.bind_some,e,decide_eq_true (show ((i + 1:Nat):Int) < ((2 ^ n:Nat):Int) by omega),cond_true,Lz (by omega) (by omega) (by omega),Option.bind_some,← hgn,hin]
     rw [show dgn g (i + 1)=max (dgn g i) (mnD g (i + 1).testBit g.1 (zo (i + 1).testBit g.1.toNat)) from rfl,hn]
     congr 1
   · rintro k s rfl
     simp only [xx]
     rw [hgn,yP (by omega),Option.bind_some,decide_eq_false (show ¬ ((2 ^ n - 1:Nat):Int) + 1 < ((2 ^ n:Nat):Int) by omega),cond_false]
theorem zl8 {F:Nat} {g:Gr} (hG:g.2.length < F) (h9:300≤F) (hs:Sm g.2.length):vj F g=some (bif xa g then (dgn g (2 ^ g.1.toNat - 1),true) else (0,false)):=by
 unfold vj
 rw [ug hG (by omega) hs,Option.bind_some]
 cases h:xa g with
 | false=>rfl
 | true=>
   have h8:=zY h
   obtain ⟨n,hn⟩:∃ n:Nat,g.1.toNat=n:=⟨_,rfl⟩
   have hgn:g.1=(n:Int):=by omega
   have hpow:=Nat.two_pow_pos n
   have h256:2 ^ n≤256:=by
    have:=Nat.pow_le_pow_right (n:=2) (by decide) (show n≤8 by omega)
    simpa using this
   simp only [Bool.not_true,cond_false,cond_true]
   rw [XP h hG hs,Option.bind_some,hn]
   refine we (L:=fun k i s=>xw F ⟨yh g⟩ k s (i + 1)) (n:=2 ^ n - 1) (fun i s=>s=dgn g i) ?_ ?_ F (-1) (by omega) rfl
   · rintro k i s hi rfl
     refine ⟨_,rfl,?_⟩
     have e:(i:Int) + 1=((i + 1:Nat):Int):=by omega
     have hin:=zmD (m:=i + 1) (most:=dgn g i) (c1:=xw F ⟨yh g⟩ k) h h9 (by rw [hn];omega) (by omega)
     rw [hn] at hin
     have hset:=Z4 (F:=F) (n:=n) (p:=(i + 1).testBit) (by omega) (by omega)
     rw [WC (by omega)] at hset
     simp only [xw]
     rw [zaZ h,Option.bind_some,JB,hn,e,decide_eq_true (show ((i + 1:Nat):Int)≤((2 ^ n - 1:Nat):Int) by omega),cond_true,hset,Option.bind_some,hin]
     rw [show dgn g (i + 1)=max (dgn g i) (mnD g (i + 1).testBit g.1 (zo (i + 1).testBit g.1.toNat)) from rfl,hn]
     congr 1
   · rintro k s rfl
     simp only [xw]
     rw [zaZ h,Option.bind_some,JB,hn,decide_eq_false (show ¬ ((2 ^ n - 1:Nat):Int) + 1≤((2 ^ n - 1:Nat):Int) by omega),cond_false]
end Go.Zq
namespace Go.Zq
theorem zfV {g:Gr} {a b i:Nat}:vY g a b i=true↔((g.2.getD i (0,0)).1=a∧(g.2.getD i (0,0)).2=b)∨((g.2.getD i (0,0)).1=b∧(g.2.getD i (0,0)).2=a):=by
 unfold vY
 simp only [Bool.or_eq_true,Bool.and_eq_true,beq_iff_eq]
structure zqA (T:Gr) (p:Nat→Bool) (x:Nat) (seen:List Int):Prop where
 nd:seen.Nodup
 inn:∀ y∈seen,∃ j:Nat,y=j∧j < T.1.toNat∧Zl T p x j=true
 root:(x:Int)∈seen
theorem LN {T:Gr} {p:Nat→Bool} {x:Nat} {seen:List Int} (hT:xa T=true) (h:zqA T p x seen):seen.length≤8:=by
 have h8:=zY hT
 have:=Nc T.1.toNat seen h.nd (fun y hy=>by obtain ⟨j,rfl,h1,_⟩:=h.inn y hy;omega)
 omega
end Go.Zq
namespace Go.Zq
def wth (m x:Nat) (j:Nat):Bool:=m.testBit j || j == x
def vr (g:Gr) (m x:Nat) (j:Nat):Bool:=(!m.testBit j && !(j == x)) && xF (fun y=>Zl g (wth m x) x y && adj g y j) g.1.toNat
def elC (g:Gr) (m x:Nat):Int:=(yO (vr g m x) g.1.toNat:Int)
theorem QG {F x:Nat} {g:Gr} (hg:xa g=true) (hF:20≤F) (hG:g.2.length < F) (hs:Sm g.2.length):xU F g (x:Int)=some (zo (adj g x) g.1.toNat):=by
 have h8:=zY hg
 unfold xU
 refine we (L:=fun k i s=>yN F (x:Int) g k s i) (n:=g.1.toNat) (fun i s=>s=zo (adj g x) i) ?_ ?_ F _ (by omega) rfl
 · intro k i s hi hI
   subst hI
   refine ⟨_,rfl,?_⟩
   have hc:=vK (p:=adj g x) (n:=i)
   simp only [yN,vd]
   rw [decide_eq_true (show (i:Int) < g.1 by omega),cond_true,WL hG hs,Option.bind_some,z5 hi (by unfold Sm;omega),vi]
   cases adj g x i with
   | true=>rw [cond_true,vF (by rw [yJ];omega),Option.bind_some];rfl
   | false=>rw [cond_false];simp
 · intro k s hI
   subst hI
   simp only [yN]
   rw [decide_eq_false (show ¬ (g.1.toNat:Int) < g.1 by omega),cond_false]
structure Lat (g:Gr) (m x:Nat) (q:Nat→Bool) (seen:List Int):Prop where
 sn:zqA g (wth m x) x seen
 qin:∀ j,q j=true→vr g m x j=true
def Fnd (m x:Nat) (q:Nat→Bool) (seen:List Int) (ns:List Int):Prop:=∀ z:Nat,(z:Int)∈ns→(wth m x z=true→(z:Int)∈seen)∧(wth m x z=false→q z=true)
theorem zi7 {F:Nat} {g:Gr} {m x k:Nat} {q:Nat→Bool} {seen:List Int} {c:List Int→List Int→Int→Option (List Int)} (hg:xa g=true) (hF:20≤F) (hm:m < 2 ^ g.1.toNat) (hx:x < g.1.toNat) (hk:k < seen.length) (hS:Lat g m x q seen) {y:Nat} (hy:seen.getD k 0=(y:Int)) :
    ∃ q' ext,Lat g m x q' (seen++ext)∧Fnd m x q' (seen++ext) (zo (adj g y) g.1.toNat)∧(∀ j,q j=true→q' j=true) ∧
     xg F (zo m.testBit g.1.toNat) g (k:Int) (zo (adj g y) g.1.toNat) c F (zo q g.1.toNat) seen 0=c (zo q' g.1.toNat) (seen++ext) ((k + 1:Nat):Int):=by
 have h8:=zY hg
 have hn8:(zo (adj g y) g.1.toNat).length≤8:=by rw [yJ];exact Nat.le_trans vK (by omega)
 obtain ⟨y',hy',hyn,hyc⟩:=hS.sn.inn _ (ww (d:=0) hk)
 rw [hy] at hy'
 obtain rfl:y=y':=by omega
 obtain ⟨s,⟨q',ext,hs,h1,h2,h3⟩,h4⟩:=YJ (L:=fun k2 i (s:List Int×List Int)=>xg F (zo m.testBit g.1.toNat) g (k:Int) (zo (adj g y) g.1.toNat) c k2 s.1 s.2 i) (n:=(zo (adj g y) g.1.toNat).length)
  (fun i s=>∃ q' ext,s=(zo q' g.1.toNat,seen++ext)∧Lat g m x q' (seen++ext)∧Fnd m x q' (seen++ext) ((zo (adj g y) g.1.toNat).take i)∧(∀ j,q j=true→q' j=true)) (fin:=fun s=>c s.1 s.2 ((k + 1:Nat):Int)) (by
    rintro k2 i s hi ⟨q',ext,rfl,hL,hFn,hq⟩
    have hlen:=LN hg hL.sn
    obtain ⟨z,hz,hzn,hza⟩:=u7 hi
    have htake:(zo (adj g y) g.1.toNat).take (i + 1)=(zo (adj g y) g.1.toNat).take i++[(z:Int)]:=by
     rw [List.take_add_one,List.getElem?_eq_getElem hi]
     rw [List.getD_eq_getElem?_getD,List.getElem?_eq_getElem hi,Option.getD_some] at hz
     rw [hz];rfl
    have hstep:∀ (q2:Nat→Bool) (s2:List Int),(∀ j,q' j=true→q2 j=true)→(∀ w,w∈seen++ext→w∈s2)→(wth m x z=true→(z:Int)∈s2)→(wth m x z=false→q2 z=true)→Fnd m x q2 s2 ((zo (adj g y) g.1.toNat).take (i + 1)):=by
     intro q2 s2 a1 a2 a3 a4 w hw
     rw [htake,List.mem_append] at hw
     rcases hw with hw | hw
     · exact ⟨fun h=>a2 _ ((hFn w hw).1 h),fun h=>a1 _ ((hFn w hw).2 h)⟩
     · simp only [List.mem_singleton] at hw
       obtain rfl:w=z:=by omega
       exact ⟨a3,a4⟩
    simp only [xg,Z9]
    rw [decide_eq_true (show (i:Int) < ((zo (adj g y) g.1.toNat).length:Int) by omega),cond_true,zL (d:=0) hi,hz]
    simp only [Option.bind_some]
    rw [YW (by omega) (by unfold Sm;omega),Ke (by omega) hzn (by omega),zdm (by omega) hzn (by omega),z5 hi (by unfold Sm;omega)]
    simp only [Option.bind_some]
    by_cases hm1:(z:Int)∈seen++ext
    · refine ⟨_,⟨q',ext,rfl,hL,hstep q' _ (fun _ h=>h) (fun _ h=>h) (fun _=>hm1) (fun h=>?_),hq⟩,by rw [decide_eq_true hm1,cond_true]⟩
      obtain ⟨z',e,_,hc⟩:=hL.sn.inn _ hm1
      obtain rfl:z=z':=by omega
      have:=Lw (p:=wth m x) (show wth m x x=true by unfold wth;simp) hc
      rw [this] at h;cases h
    · rw [decide_eq_false hm1,cond_false]
      have hzx:z≠x:=fun e=>hm1 (by rw [e,List.mem_append];exact .inl hS.sn.root)
      cases hb:m.testBit z with
      | true=>
        have hw:wth m x z=true:=by unfold wth;rw [hb];rfl
        refine ⟨(zo q' g.1.toNat,seen++ext++[(z:Int)]),⟨q',ext++[(z:Int)],by rw [List.append_assoc],⟨⟨?_,?_,?_⟩,hL.qin⟩,?_,hq⟩,?_⟩
        · rw [← List.append_assoc,List.nodup_append]
          refine ⟨hL.sn.nd,by simp,?_⟩
          intro a ha b hb e
          simp only [List.mem_singleton] at hb
          subst hb;subst e;exact hm1 ha
        · intro a ha
          rw [← List.append_assoc,List.mem_append] at ha
          rcases ha with ha | ha
          · exact hL.sn.inn a ha
          · simp only [List.mem_singleton] at ha
            exact ⟨z,ha,hzn,wK hg hx (by unfold wth;simp) hyc hw hza⟩
        · rw [List.mem_append];exact .inl hS.sn.root
        · rw [← List.append_assoc]
          exact hstep q' _ (fun _ h=>h) (fun w h=>by rw [List.mem_append];exact .inl h) (fun _=>by simp) (fun h=>by rw [hw] at h;cases h)
        · rw [cond_true,vF (by omega),Option.bind_some]
      | false=>
        have hw:wth m x z=false:=by
         unfold wth
         rw [hb]
         simpa using hzx
        refine ⟨(zo (fun j=>q' j || j == z) g.1.toNat,seen++ext),⟨fun j=>q' j || j == z,ext,rfl,⟨hL.sn,?_⟩,?_,fun j h=>by simp [hq j h]⟩,?_⟩
        · intro j hj
          rw [Bool.or_eq_true,beq_iff_eq] at hj
          rcases hj with hj | hj
          · exact hL.qin j hj
          · subst hj
            unfold vr
            rw [hb]
            have:(j == x)=false:=by simpa using hzx
            rw [this]
            simp only [Bool.not_false,Bool.and_self,Bool.true_and]
            exact xd.2 ⟨y,hyn,by rw [hyc,hza];rfl⟩
        · exact hstep _ _ (fun j h=>by simp [h]) (fun _ h=>h) (fun h=>by rw [hw] at h;cases h) (fun _=>by simp)
        · rw [cond_false]) (by
    rintro k2 s ⟨q',ext,rfl,hL,hFn,hq⟩
    have hlen:=LN hg hL.sn
    rw [List.length_append] at hlen
    simp only [xg]
    rw [decide_eq_false (show ¬ ((zo (adj g y) g.1.toNat).length:Int) < ((zo (adj g y) g.1.toNat).length:Int) by omega),cond_false,z5 hk (by unfold Sm;omega)]) F (zo q g.1.toNat,seen) (by omega) ⟨q,[],by simp,by simpa using hS,fun z hz=>by simp at hz,fun _ h=>h⟩
 subst hs
 rw [List.take_length] at h2
 exact ⟨q',ext,h1,h2,h3,h4⟩
theorem zgg {F:Nat} {g:Gr} {m x:Nat} (hg:xa g=true) (hF:20≤F) (hG:g.2.length < F) (hs:Sm g.2.length) (hm:m < 2 ^ g.1.toNat) (hx:x < g.1.toNat) :
    ∀ (d fu k:Nat) (q:Nat→Bool) (seen:List Int),k + d=9→d < fu→k≤seen.length→Lat g m x q seen→(∀ t,t < k→∀ y:Nat,seen.getD t 0=(y:Int)→Fnd m x q seen (zo (adj g y) g.1.toNat)) →
     x8 F (zo m.testBit g.1.toNat) g fu (zo q g.1.toNat) seen (k:Int)=some (zo (vr g m x) g.1.toNat):=by
 intro d
 induction d with
 | zero=>
   intro fu k q seen hk hd hl hS hC
   have:=LN hg hS.sn
   omega
 | succ d ih=>
   intro fu k q seen hk hd hl hS hC
   obtain ⟨fu,rfl⟩:∃ f,fu=f + 1:=⟨fu - 1,by omega⟩
   simp only [x8]
   by_cases hlt:k < seen.length
   · obtain ⟨y,hy,hyn,hyc⟩:=hS.sn.inn _ (ww (d:=0) hlt)
     obtain ⟨q',ext,h1,h2,h3,h4⟩:=zi7 (c:=x8 F (zo m.testBit g.1.toNat) g fu) hg hF hm hx hlt hS hy
     rw [decide_eq_true (show (k:Int) < (seen.length:Int) by omega),cond_true,zL (d:=0) hlt,Option.bind_some,hy,QG hg hF hG hs,Option.bind_some,h4]
     refine ih fu (k + 1) q' (seen++ext) (by omega) (by omega) (by rw [List.length_append];omega) h1 ?_
     intro t ht w hw
     have hget:(seen++ext).getD t 0=seen.getD t 0:=by
      rw [List.getD_eq_getElem?_getD,List.getElem?_append_left (by omega),← List.getD_eq_getElem?_getD]
     rw [hget] at hw
     by_cases e:t=k
     · subst e
       rw [hy] at hw
       obtain rfl:y=w:=by omega
       exact h2
     · intro z hz
       have:=hC t (by omega) w hw z hz
       exact ⟨fun h=>by rw [List.mem_append];exact .inl (this.1 h),fun h=>h3 _ (this.2 h)⟩
   · obtain rfl:k=seen.length:=by omega
     rw [decide_eq_false (show ¬ (seen.length:Int) < (seen.length:Int) by omega),cond_false]
     congr 1
     apply wg
     intro j hj
     have hxp:wth m x x=true:=by unfold wth;simp
     have hsub:∀ b,Zl g (wth m x) x b=true→(b:Int)∈seen:=by
      intro b hb
      refine of_decide_eq_true (YR (C:=fun j=>decide ((j:Int)∈seen)) (decide_eq_true hS.sn.root) ?_ hb)
      intro y b hy hb ha
      have hy':=of_decide_eq_true hy
      obtain ⟨t,ht,e⟩:=List.mem_iff_getElem.1 hy'
      have hget:seen.getD t 0=(y:Int):=by rw [List.getD_eq_getElem?_getD,List.getElem?_eq_getElem ht,Option.getD_some,e]
      have hbn:=(LV hg ha).2.1
      exact decide_eq_true ((hC t ht y hget b (y5.2 ⟨b,rfl,by omega,ha⟩)).1 hb)
     cases hq:q j with
     | true=>exact (hS.qin j hq).symm
     | false=>
       cases hl:vr g m x j with
       | false=>rfl
       | true=>
         exfalso
         unfold vr at hl
         simp only [Bool.and_eq_true,Bool.not_eq_true'] at hl
         obtain ⟨⟨l1,l2⟩,l3⟩:=hl
         obtain ⟨y,hyn,hy⟩:=xd.1 l3
         simp only [Bool.and_eq_true] at hy
         obtain ⟨t,ht,e⟩:=List.mem_iff_getElem.1 (hsub y hy.1)
         have hget:seen.getD t 0=(y:Int):=by rw [List.getD_eq_getElem?_getD,List.getElem?_eq_getElem ht,Option.getD_some,e]
         have:=(hC t ht y hget j (y5.2 ⟨j,rfl,hj,hy.2⟩)).2 (by unfold wth;rw [l1,l2];rfl)
         rw [this] at hq;cases hq
theorem zbe {F:Nat} {g:Gr} {m x:Nat} (hg:xa g=true) (hF:20≤F) (hG:g.2.length < F) (hs:Sm g.2.length) (hm:m < 2 ^ g.1.toNat) (hx:x < g.1.toNat) :
    Yz F g (zo m.testBit g.1.toNat) (x:Int)=some (zo (vr g m x) g.1.toNat):=by
 unfold Yz
 have hnil:([]:List Int)=zo (fun _=>false) g.1.toNat:=by simp [zo]
 have:=zgg (F:=F) hg hF hG hs hm hx 9 F 0 (fun _=>false) [(x:Int)] (by omega) (by omega) (by omega) ⟨⟨by simp,fun y hy=>by
  simp only [List.mem_singleton] at hy
  exact ⟨x,hy,hx,ve⟩,by simp⟩,fun j h=>by cases h⟩ (fun t ht=>absurd ht (by omega))
 rw [← hnil] at this
 exact this
def rdP (g:Gr) (m x:Nat):Nat→Nat→Bool
 | 0=>fun j=>j == x
 | t + 1=>Kp g (rch g (wth m x) x t)
theorem za0 {g:Gr} {m x:Nat}:∀ t j,(rdP g m x t j && wth m x j)=rch g (wth m x) x t j
 | 0,j=>by
   show ((j == x) && wth m x j)=(j == x)
   unfold wth
   cases (j == x) <;> simp
 | t + 1,j=>by
   show (Kp g (rch g (wth m x) x t) j && wth m x j)=stp g (wth m x) (rch g (wth m x) x t) j
   unfold Kp stp
   have hin:=fun h=>zae (g:=g) (p:=wth m x) (x:=x) (show wth m x x=true by unfold wth;simp) t j h
   cases h1:rch g (wth m x) x t j with
   | true=>rw [hin h1];rfl
   | false=>rw [Bool.false_or,Bool.false_or,Bool.and_comm]
theorem zdO {F:Nat} {g:Gr} {m x:Nat} (hg:xa g=true) (hF:20≤F) (hm:m < 2 ^ g.1.toNat) (hx:x < g.1.toNat):xl F ⟨yh g⟩ (m:Int) (x:Int)=some (elC g m x):=by
 have h8:=zY hg
 have h256:=Jj (by omega) hm
 have hxp:wth m x x=true:=by unfold wth;simp
 obtain ⟨T,hT,hst⟩:=Mb hg hx hxp
 have hcn:=vK (p:=wth m x) (n:=g.1.toNat)
 have hmx:(ior .i64 (m:Int) ((2 ^ x:Nat):Int))=((mkm (wth m x) g.1.toNat:Nat):Int):=by
  rw [Za (by omega) (uc (by omega))]
  congr 1
  refine vw fun j=>?_
  rw [Nat.testBit_or,Nat.testBit_two_pow]
  unfold wth
  by_cases hj:j < g.1.toNat
  · rw [decide_eq_true hj,Bool.true_and]
    congr 1
    rw [Bool.eq_iff_iff,decide_eq_true_eq,beq_iff_eq];omega
  · rw [decide_eq_false hj,Bool.false_and,decide_eq_false (show ¬ x=j by omega),Bool.or_false]
    exact Nat.testBit_lt_two_pow (Nat.lt_of_lt_of_le hm (Nat.pow_le_pow_right (by decide) (by omega)))
 unfold xl
 rw [yP (by omega),Option.bind_some]
 have hstart:((2 ^ x:Nat):Int)=((mkm (rdP g m x 0) g.1.toNat:Nat):Int):=by
  congr 1
  refine vw fun j=>?_
  rw [Nat.testBit_two_pow]
  show decide (x=j)=(decide (j < g.1.toNat) && (j == x))
  by_cases e:j=x
  · subst e;simp [hx]
  · have e1:(j == x)=false:=by simpa using e
    rw [e1,Bool.and_false,decide_eq_false (by omega)]
 have hend:∀ t,(∀ j,j < g.1.toNat→rdP g m x (t + 1) j=rdP g m x t j)→∀ j,j < g.1.toNat→(rdP g m x t j && !m.testBit j && !(j == x))=vr g m x j:=by
  intro t he j hj
  have hstab:∀ j,rch g (wth m x) x (t + 1) j=true→rch g (wth m x) x t j=true:=by
   intro j hj
   have hjn:=zbd hg hx _ _ hj
   rw [← za0,he j hjn,za0] at hj;exact hj
  have hcomp:∀ j,rch g (wth m x) x t j=Zl g (wth m x) x j:=by
   intro j
   rw [Bool.eq_iff_iff]
   constructor
   · intro h
     by_cases hle:t≤g.1.toNat
     · exact WD h _ hle
     · have:rch g (wth m x) x (g.1.toNat + (t - g.1.toNat)) j=true:=by
        rw [show g.1.toNat + (t - g.1.toNat)=t by omega];exact h
       have h2:=zb8 hg hx hxp (s:=t) (by omega) j
       rw [← h2];exact h
   · intro h
     have h3:rch g (wth m x) x (t + g.1.toNat) j=true:=WD h _ (by omega)
     exact JA hstab _ j h3
  rw [← he j hj]
  show (Kp g (rch g (wth m x) x t) j && !m.testBit j && !(j == x))=vr g m x j
  unfold Kp vr
  have hany:xF (fun y=>rch g (wth m x) x t y && adj g y j) g.1.toNat=xF (fun y=>Zl g (wth m x) x y && adj g y j) g.1.toNat:=Ju fun y _=>by rw [hcomp y]
  rw [hany,hcomp j]
  cases hb:m.testBit j with
  | true=>simp
  | false=>
    cases hjx:(j == x) with
    | true=>simp
    | false=>
      have:Zl g (wth m x) x j=false:=by
       rw [Bool.eq_false_iff];intro h
       have:=Lw hxp h
       unfold wth at this
       rw [hb,hjx] at this;cases this
      rw [this];simp
 have key:∀ d t k,t + d=T + 1→d < k→xJ F (m:Int) (x:Int) ⟨yh g⟩ k ((mkm (rdP g m x t) g.1.toNat:Nat):Int)=some (elC g m x):=by
  intro d
  induction d with
  | zero=>
    intro t k ht hk
    obtain ⟨k,rfl⟩:∃ k',k=k' + 1:=⟨k - 1,by omega⟩
    obtain rfl:t=T + 1:=by omega
    have hsame:∀ j,j < g.1.toNat→rdP g m x (T + 1 + 1) j=rdP g m x (T + 1) j:=by
     intro j _
     have hrr:∀ j,rch g (wth m x) x (T + 1) j=rch g (wth m x) x T j:=fun j=>by
      rw [Bool.eq_iff_iff];exact ⟨hst j,fun h=>WD h _ (by omega)⟩
     show Kp g (rch g (wth m x) x (T + 1)) j=Kp g (rch g (wth m x) x T) j
     unfold Kp
     rw [hrr j]
     congr 1
     exact Ju fun y _=>by rw [hrr y]
    simp only [xJ]
    rw [yP (by omega),Option.bind_some,hmx,J6 (wc (by omega)) (wc (by omega))]
    have hnext:(mkm (rdP g m x (T + 1)) g.1.toNat &&& mkm (wth m x) g.1.toNat)=mkm (rch g (wth m x) x (T + 1)) g.1.toNat:=by
     refine vw fun j=>?_
     rw [Nat.testBit_and,ym,ym,← za0]
     cases decide (j < g.1.toNat) <;> simp
    rw [hnext,M4 hg (by omega),Option.bind_some]
    have heq:((mkm (Kp g (rch g (wth m x) x (T + 1))) g.1.toNat:Nat):Int)=((mkm (rdP g m x (T + 1)) g.1.toNat:Nat):Int):=by
     congr 1
     exact uq fun j hj=>hsame j hj
    rw [heq,beq_self_eq_true,cond_true,Option.bind_some]
    obtain ⟨c1,e1,l1,b1⟩:=w8 (wc (p:=rdP g m x (T + 1)) (n:=g.1.toNat) (by omega)) (show m < 9223372036854775808 by omega)
    have hml:=JS (p:=rdP g m x (T + 1)) (n:=g.1.toNat) (by omega)
    obtain ⟨c2,e2,l2,b2⟩:=w8 (a:=c1) (show c1 < 9223372036854775808 by omega) (uc (j:=x) (by omega))
    rw [e1,e2,Kc (by omega),Option.bind_some]
    congr 2
    have hc2:c2=mkm (vr g m x) g.1.toNat:=by
     refine vw fun j=>?_
     rw [b2,b1,ym,Nat.testBit_two_pow]
     by_cases hj:j < g.1.toNat
     · rw [decide_eq_true hj,Bool.true_and,Bool.true_and,← hend (T + 1) hsame j hj]
       congr 2
       rw [Bool.eq_iff_iff,decide_eq_true_eq,beq_iff_eq];omega
     · rw [decide_eq_false hj];rfl
    rw [hc2,Uq (by omega)]
  | succ d ih=>
    intro t k ht hk
    obtain ⟨k,rfl⟩:∃ k',k=k' + 1:=⟨k - 1,by omega⟩
    simp only [xJ]
    rw [yP (by omega),Option.bind_some,hmx,J6 (wc (by omega)) (wc (by omega))]
    have hnext:(mkm (rdP g m x t) g.1.toNat &&& mkm (wth m x) g.1.toNat)=mkm (rch g (wth m x) x t) g.1.toNat:=by
     refine vw fun j=>?_
     rw [Nat.testBit_and,ym,ym,← za0]
     cases decide (j < g.1.toNat) <;> simp
    rw [hnext,M4 hg (by omega),Option.bind_some]
    by_cases hE:mkm (Kp g (rch g (wth m x) x t)) g.1.toNat=mkm (rdP g m x t) g.1.toNat
    · have hsame:∀ j,j < g.1.toNat→rdP g m x (t + 1) j=rdP g m x t j:=fun j hj=>zkF hE j hj
      rw [hE,beq_self_eq_true,cond_true,Option.bind_some]
      obtain ⟨c1,e1,l1,b1⟩:=w8 (wc (p:=rdP g m x t) (n:=g.1.toNat) (by omega)) (show m < 9223372036854775808 by omega)
      have hml:=JS (p:=rdP g m x t) (n:=g.1.toNat) (by omega)
      obtain ⟨c2,e2,l2,b2⟩:=w8 (a:=c1) (show c1 < 9223372036854775808 by omega) (uc (j:=x) (by omega))
      rw [e1,e2,Kc (by omega),Option.bind_some]
      congr 2
      have hc2:c2=mkm (vr g m x) g.1.toNat:=by
       refine vw fun j=>?_
       rw [b2,b1,ym,Nat.testBit_two_pow]
       by_cases hj:j < g.1.toNat
       · rw [decide_eq_true hj,Bool.true_and,Bool.true_and,← hend t hsame j hj]
         congr 2
         rw [Bool.eq_iff_iff,decide_eq_true_eq,beq_iff_eq];omega
       · rw [decide_eq_false hj];rfl
      rw [hc2,Uq (by omega)]
    · have hb:(((mkm (Kp g (rch g (wth m x) x t)) g.1.toNat:Nat):Int) == ((mkm (rdP g m x t) g.1.toNat:Nat):Int))=false:=by
       rw [beq_eq_false_iff_ne];omega
      rw [hb,cond_false]
      exact ih (t + 1) k (by omega) (by omega)
 have:=key (T + 1) 0 F (by omega) (by omega)
 rw [hstart]
 exact this
end Go.Zq
namespace Go.Zq
def zci (n m:Nat) (P:Nat→Nat→Bool) (hv:List Int):Prop:=hv.length=n∧∀ x,x < n→hv.getD x 0=((mkm (P x) m:Nat):Int)
end Go.Zq
namespace Go.Zq
theorem UO {n:Int} {l:List Int} (ho:w3 n l=true) (h0:0≤n) {i x:Nat} (hi:i < l.length) (hx:l.getD i 0=(x:Int)):xi l i x=false:=by
 have hl:=ZS ho
 unfold xi
 refine decide_eq_false fun hm=>?_
 have hc:=(U7 n.toNat (l.take i++l.drop (i + 1)) (fun j hj=>by
  have:=Kr ho (x:=(j:Int)) (by omega) (by omega)
  rw [← List.take_append_drop i l,List.mem_append] at this
  rcases this with h | h
  · exact List.mem_append_left _ h
  · rw [List.drop_eq_getElem_cons hi,List.mem_cons] at h
    rcases h with h | h
    · rw [List.getD_eq_getElem?_getD,List.getElem?_eq_getElem hi,Option.getD_some] at hx
      rw [h,hx]
      exact List.mem_append_left _ hm
    · exact List.mem_append_right _ h)).1
 rw [List.length_append,List.length_take,List.length_drop] at hc
 omega
def LM (g:Gr) (m a b:Nat):Bool:=xF (fun y=>Zl g (wth m a) a y && adj g y b) g.1.toNat
theorem UA {g:Gr} {m a b:Nat} (hb:m.testBit b=false) (hab:b≠a):vr g m a b=LM g m a b:=by
 unfold vr LM
 have:(b == a)=false:=by simpa using hab
 rw [hb,this];rfl
theorem Zz {g:Gr} {m a b:Nat} (hg:xa g=true) (ha:a < g.1.toNat):LM g m a b=true↔∃ y,Zl g (wth m a) a y=true∧adj g y b=true:=by
 unfold LM
 rw [xd]
 constructor
 · rintro ⟨y,_,h⟩
   rw [Bool.and_eq_true] at h
   exact ⟨y,h⟩
 · rintro ⟨y,h1,h2⟩
   exact ⟨y,zdT hg ha h1,by rw [h1,h2];rfl⟩
theorem YT {m x:Nat}:wth m x x=true:=by simp [wth]
theorem Jo {m x j:Nat} (h:m.testBit j=true):wth m x j=true:=by simp [wth,h]
theorem Xr {m x j:Nat} (h:wth m x j=true):m.testBit j=true∨j=x:=by simpa [wth] using h
theorem zb4 {g:Gr} {m a b:Nat} (hg:xa g=true) (ha:a < g.1.toNat) (hb:b < g.1.toNat) (hM:m < 2 ^ g.1.toNat) (h:LM g m a b=true):LM g m b a=true:=by
 obtain ⟨y,h1,h2⟩:=(Zz hg ha).1 h
 have key:=YR (g:=g) (p:=wth m a) (x:=a) (j:=y)
  (C:=fun j=>j == a || (m.testBit j && xF (fun z=>Zl g m.testBit j z && adj g z a) g.1.toNat)) (by simp) (by
  intro u j hu hj huj
  simp only [Bool.or_eq_true,beq_iff_eq,Bool.and_eq_true] at hu ⊢
  rcases Xr hj with hmj | rfl
  · right
    refine ⟨hmj,?_⟩
    have hjn:j < g.1.toNat:=by
     by_cases h:j < g.1.toNat
     · exact h
     · have:=Nat.testBit_lt_two_pow (Nat.lt_of_lt_of_le hM (Nat.pow_le_pow_right (by decide) (show g.1.toNat≤j by omega)))
       rw [this] at hmj;cases hmj
    rw [xd]
    rcases hu with rfl | ⟨hmu,hz⟩
    · refine ⟨j,hjn,?_⟩
      rw [ve,YP,huj];rfl
    · rw [xd] at hz
      obtain ⟨z,hzn,hz⟩:=hz
      rw [Bool.and_eq_true] at hz
      refine ⟨z,hzn,?_⟩
      have h1:Zl g m.testBit j u=true:=wK hg hjn hmj ve hmu (by rw [YP];exact huj)
      rw [zcI hg hjn hmj h1 hz.1,hz.2];rfl
  · left;rfl) h1
 simp only [Bool.or_eq_true,beq_iff_eq,Bool.and_eq_true] at key
 rw [Zz hg hb]
 rcases key with rfl | ⟨hmy,hz⟩
 · exact ⟨b,ve,by rw [YP];exact h2⟩
 · rw [xd] at hz
   obtain ⟨z,_,hz⟩:=hz
   rw [Bool.and_eq_true] at hz
   refine ⟨z,?_,hz.2⟩
   have h0:Zl g (wth m b) b y=true:=wK hg hb YT ve (Jo hmy) (by rw [YP];exact h2)
   exact YR (C:=Zl g (wth m b) b) h0 (fun u j hu hj huj=>wK hg hb YT hu (Jo hj) huj) hz.1
theorem zhv {g:Gr} {m x a b:Nat} (hg:xa g=true) (hx:x < g.1.toNat) (ha:a < g.1.toNat) (hb:b < g.1.toNat) (hM:m < 2 ^ g.1.toNat) :
    LM g (m ||| 2 ^ x) a b=(LM g m a b || (LM g m x a && LM g m x b)):=by
 have hw:∀ j,(m ||| 2 ^ x).testBit j=true↔m.testBit j=true∨j=x:=by
  intro j
  rw [Nat.testBit_or,Nat.testBit_two_pow,Bool.or_eq_true,decide_eq_true_eq]
  exact ⟨fun h=>h.imp id Eq.symm,fun h=>h.imp id Eq.symm⟩
 rw [Bool.eq_iff_iff,Bool.or_eq_true,Bool.and_eq_true]
 constructor
 · intro h
   obtain ⟨y,h1,h2⟩:=(Zz hg ha).1 h
   have key:=YR (g:=g) (p:=wth (m ||| 2 ^ x) a) (x:=a) (j:=y) (C:=fun j=>Zl g (wth m a) a j || (LM g m x a && Zl g (wth m x) x j)) (by rw [ve];rfl) (by
    intro u j hu hj huj
    simp only [Bool.or_eq_true,Bool.and_eq_true] at hu ⊢
    rcases hu with hu | ⟨hv,hu⟩
    · rcases Xr hj with hj | rfl
      · rcases (hw j).1 hj with hj | rfl
        · left;exact wK hg ha YT hu (Jo hj) huj
        · right
          exact ⟨zb4 hg ha hx hM ((Zz hg ha).2 ⟨u,hu,huj⟩),ve⟩
      · left;exact ve
    · rcases Xr hj with hj | rfl
      · right
        refine ⟨hv,?_⟩
        rcases (hw j).1 hj with hj | rfl
        · exact wK hg hx YT hu (Jo hj) huj
        · exact ve
      · left;exact ve) h1
   simp only [Bool.or_eq_true,Bool.and_eq_true] at key
   rcases key with h | ⟨h3,h4⟩
   · left;exact (Zz hg ha).2 ⟨y,h,h2⟩
   · right;exact ⟨h3,(Zz hg hx).2 ⟨y,h4,h2⟩⟩
 · have hup:∀ y,Zl g (wth m a) a y=true→Zl g (wth (m ||| 2 ^ x) a) a y=true:=fun y h=>
    YR (C:=Zl g (wth (m ||| 2 ^ x) a) a) ve (fun u j hu hj huj=>wK hg ha YT hu (by
     rcases Xr hj with hj | rfl
     · exact Jo ((hw j).2 (.inl hj))
     · exact YT) huj) h
   rintro (h | ⟨h1,h2⟩)
   · obtain ⟨y,h1,h2⟩:=(Zz hg ha).1 h
     exact (Zz hg ha).2 ⟨y,hup y h1,h2⟩
   · obtain ⟨y,y1,y2⟩:=(Zz hg ha).1 (zb4 hg hx ha hM h1)
     obtain ⟨z,z1,z2⟩:=(Zz hg hx).1 h2
     have hax:Zl g (wth (m ||| 2 ^ x) a) a x=true:=wK hg ha YT (hup y y1) (Jo ((hw x).2 (.inr rfl))) y2
     exact (Zz hg ha).2 ⟨z,YR (C:=Zl g (wth (m ||| 2 ^ x) a) a) hax (fun u j hu hj huj=>wK hg ha YT hu (Jo ((hw j).2 (Xr hj))) huj) z1,z2⟩
theorem zgM {g:Gr} {m x a b:Nat} (hg:xa g=true) (hx:x < g.1.toNat) (ha:a < g.1.toNat) (hb:b < g.1.toNat) (hM:m < 2 ^ g.1.toNat) (h1:(m ||| 2 ^ x).testBit a=false) (h2:(m ||| 2 ^ x).testBit b=false) :
    vr g (m ||| 2 ^ x) a b=(vr g m a b || (vr g m x a && vr g m x b && !(b == a))):=by
 have h1':m.testBit a=false∧a≠x:=by
  rw [Nat.testBit_or,Nat.testBit_two_pow,Bool.or_eq_false_iff,decide_eq_false_iff_not] at h1
  exact ⟨h1.1,fun e=>h1.2 e.symm⟩
 have h2':m.testBit b=false∧b≠x:=by
  rw [Nat.testBit_or,Nat.testBit_two_pow,Bool.or_eq_false_iff,decide_eq_false_iff_not] at h2
  exact ⟨h2.1,fun e=>h2.2 e.symm⟩
 by_cases hab:b=a
 · subst hab
   simp [vr]
 · have:(b == a)=false:=by simpa using hab
   rw [UA h2 hab,UA h2'.1 hab,UA h1'.1 h1'.2,UA h2'.1 h2'.2,zhv hg hx ha hb hM,this]
   simp
def vp (l:List Int) (n i:Nat):Nat:=mkm (xi l i) n
theorem YB {l:List Int} {n i j:Nat} (hj:j < n):(vp l n i).testBit j=xi l i j:=by
 unfold vp
 rw [ym,decide_eq_true hj];rfl
theorem W2 {l:List Int} {n i x:Nat} (hi:i < l.length) (hx:l.getD i 0=(x:Int)) (hn:x < n):vp l n (i + 1)=vp l n i ||| 2 ^ x:=by
 unfold vp
 symm
 refine vw fun j=>?_
 rw [Nat.testBit_or,ym,Nat.testBit_two_pow,Ya hi hx]
 by_cases e:x=j
 · subst e;simp [hn]
 · have h1:decide (x=j)=false:=by simpa using e
   have h2:(j == x)=false:=by simp;omega
   rw [h1,h2];simp
structure zgI (g:Gr) (l:List Int) (i:Nat) (P:Nat→Nat→Bool):Prop where
 cur:∀ a b,a < g.1.toNat→b < g.1.toNat→xi l i a=false→xi l i b=false→P a b=vr g (vp l g.1.toNat i) a b
 old:∀ t x:Nat,t < i→t < l.length→l.getD t 0=(x:Int)→∀ b,b < g.1.toNat→xi l (t + 1) b=false→P x b=vr g (vp l g.1.toNat t) x b
theorem Mq {l:List Int} {s t j:Nat} (h:s≤t) (hs:xi l t j=false):xi l s j=false:=by
 unfold xi at *
 refine decide_eq_false fun hm=>?_
 have:=of_decide_eq_false hs
 exact this (List.take_subset_take_left l h hm)
theorem zi2 {g:Gr} {l:List Int} {i x:Nat} {P:Nat→Nat→Bool} (hg:xa g=true) (ho:w3 g.1 l=true) (hi:i < l.length) (hx:l.getD i 0=(x:Int)) (h:zgI g l i P) :
    zgI g l (i + 1) (fun a b=>P a b || ((P x a && !xi l (i + 1) a) && (P x b && !xi l (i + 1) b) && !(b == a))):=by
 have h8:=zY hg
 have hxr:=Uz ho h8.1 _ (ww (d:=0) hi)
 have hxn:x < g.1.toNat:=by rw [hx] at hxr;omega
 have hfr:=UO ho h8.1 hi hx
 have hxi:xi l (i + 1) x=true:=by rw [Ya hi hx];simp
 refine ⟨?_,?_⟩
 · intro a b ha hb hpa hpb
   have hpa':=Mq (Nat.le_succ i) hpa
   have hpb':=Mq (Nat.le_succ i) hpb
   have hlt:vp l g.1.toNat i < 2 ^ g.1.toNat:=WN
   show (P a b || _)=_
   rw [h.cur a b ha hb hpa' hpb',h.cur x a hxn ha hfr hpa',h.cur x b hxn hb hfr hpb',hpa,hpb,W2 hi hx hxn]
   rw [zgM hg hxn ha hb hlt (by rw [← W2 hi hx hxn,YB ha];exact hpa) (by rw [← W2 hi hx hxn,YB hb];exact hpb)]
   simp
 · intro t y ht htl hy b hb hpb
   show (P y b || _)=_
   by_cases e:t=i
   · subst e
     have:y=x:=by rw [hx] at hy;omega
     subst this
     rw [hxi,h.cur y b hxn hb hfr (Mq (Nat.le_succ t) hpb)]
     simp
   · have hyi:xi l (i + 1) y=true:=by
      unfold xi
      refine decide_eq_true ?_
      have hm:l.getD t 0∈l.take (t + 1):=by
       rw [List.getD_eq_getElem?_getD,List.getElem?_eq_getElem htl,Option.getD_some]
       rw [List.mem_take_iff_getElem]
       exact ⟨t,by omega,rfl⟩
      rw [hy] at hm
      exact List.take_subset_take_left l (show t + 1≤i + 1 by omega) hm
     rw [hyi,h.old t y (by omega) htl hy b hb hpb]
     simp
theorem zhA {g:Gr} {l:List Int} (hg:xa g=true):zgI g l 0 (adj g):=by
 refine ⟨fun a b ha hb _ _=>?_,fun t _ ht=>absurd ht (by omega)⟩
 have h0:vp l g.1.toNat 0=0:=by
  unfold vp
  apply Nat.eq_of_testBit_eq;intro j
  rw [ym];simp [xi]
 rw [h0]
 by_cases hab:b=a
 · subst hab
   have:vr g 0 b b=false:=by simp [vr]
   rw [this]
   cases hadj:adj g b b with
   | false=>rfl
   | true=>
     unfold adj at hadj
     rw [xd] at hadj
     obtain ⟨i,hi,hj⟩:=hadj
     obtain ⟨e1,e2,e3⟩:=U6 hg hi
     rcases zfV.1 hj with ⟨h1,h2⟩ | ⟨h1,h2⟩ <;> omega
 · rw [UA (by simp) hab,Bool.eq_iff_iff,Zz hg ha]
   constructor
   · intro h;exact ⟨a,ve,h⟩
   · rintro ⟨y,h1,h2⟩
     have:=YR (C:=fun j=>j == a) (by simp) (fun u j _ hj _=>by
      rcases Xr hj with h | rfl
      · simp at h
      · simp) h1
     simp only [beq_iff_eq] at this
     subst this
     exact h2
end Go.Zq
namespace Go.Zq
theorem zbE {xs:List Int} (h:xs.length≤1000000000000):∃ o,cloneO xs=some o∧o.list=xs:=by
 unfold cloneO
 rw [if_pos h]
 refine ⟨_,rfl,?_⟩
 cases xs with
 | nil=>rfl
 | cons x xs=>rfl
theorem zjj {o:NL Int} {i:Nat} {v:Int}:(NL.set o i v).list=o.list.set i v:=by cases o <;> simp [NL.set,NL.list]
theorem zcp {F:Nat} {g:Gr} {a b:List Int} (h:∀ e,wC F a e=wC F b e) {x:Int}:Yz F g a x=Yz F g b x:=by
 have h1:∀ (kk:Int) (r:List Int) (c:List Int→List Int→Int→Option (List Int)) (k:Nat) (o s:List Int) (i:Int),xg F a g kk r c k o s i=xg F b g kk r c k o s i:=by
  intro kk r c k
  induction k with
  | zero=>intro o s i;rfl
  | succ k ih=>
    intro o s i
    have ih':xg F a g kk r c k=xg F b g kk r c k:=by funext o s i;exact ih o s i
    simp only [xg,h,ih',Z9]
 have h2:∀ (k:Nat) (o s:List Int) (i:Int),x8 F a g k o s i=x8 F b g k o s i:=by
  intro k
  induction k with
  | zero=>intro o s i;rfl
  | succ k ih=>
    intro o s i
    have ih':x8 F a g k=x8 F b g k:=by funext o s i;exact ih o s i
    simp only [x8,ih',h1]
 unfold Yz
 exact h2 _ _ _ _
def elV (g:Gr) (l:List Int) (i:Nat):Int:=(yO (vr g (vp l g.1.toNat i) (l.getD i 0).toNat) g.1.toNat:Int)
def elW (g:Gr) (l:List Int) (k:Nat):Int:=(List.range k).foldl (fun s i=>max s (elV g l i)) (-1)
theorem zcf {g:Gr} {l:List Int} {k:Nat}:elW g l (k + 1)=max (elW g l k) (elV g l k):=by simp [elW,List.range_succ]
theorem zks {F:Nat} {g:Gr} {l:List Int} {i x:Nat} {P:Nat→Nat→Bool} {o:NL Int} {q left:Int} {c:NL Int→Int→Int→Option (S1 (List Int))} (hg:xa g=true) (hF:20≤F) (hx:x < g.1.toNat) (hH:zci g.1.toNat g.1.toNat P o.list) (hfx:xi l (i + 1) x=true)
    (hleft:zK .i64 left q=((mkm (fun j=>!xi l (i + 1) j) g.1.toNat:Nat):Int)) :
    ∃ o',zci g.1.toNat g.1.toNat (fun a b=>P a b || ((P x a && !xi l (i + 1) a) && (P x b && !xi l (i + 1) b) && !(b == a))) o'.list ∧
     wh F left q ((mkm (P x) g.1.toNat:Nat):Int) l (i:Int) (zo (fun j=>P x j && !xi l (i + 1) j) g.1.toNat) c F o 0=c o' (zK .i64 left q) (w64 ((i:Int) + 1)):=by
 have h8:=zY hg
 obtain ⟨n,hn⟩:∃ n:Nat,g.1.toNat=n:=⟨_,rfl⟩
 have hn8:n≤8:=by omega
 rw [hn] at hx hH hleft ⊢
 obtain ⟨B,hB⟩:∃ B:Nat→Bool,(fun j=>P x j && !xi l (i + 1) j)=B:=⟨_,rfl⟩
 have hBj:∀ j,(P x j && !xi l (i + 1) j)=B j:=fun j=>congrFun hB j
 rw [hB]
 simp only [hBj]
 have hl8:(zo B n).length≤8:=by rw [yJ];exact Nat.le_trans vK hn8
 obtain ⟨s,hs,he⟩:=YJ (L:=fun k2 t (s:NL Int)=>wh F left q ((mkm (P x) n:Nat):Int) l (i:Int) (zo B n) c k2 s t) (n:=(zo B n).length)
  (fun t s=>zci n n (fun a b=>P a b || (decide ((a:Int)∈(zo B n).take t) && B b && !(b == a))) s.list) (fin:=fun s=>c s (zK .i64 left q) (w64 ((i:Int) + 1))) (by
    intro k2 t s ht hI
    obtain ⟨y,hy,hyn,hyB⟩:=u7 ht
    have htake:(zo B n).take (t + 1)=(zo B n).take t++[(y:Int)]:=by
     rw [List.take_add_one,List.getElem?_eq_getElem ht]
     rw [List.getD_eq_getElem?_getD,List.getElem?_eq_getElem ht,Option.getD_some] at hy
     rw [hy];rfl
    have hget:=hI.2 y hyn
    have hbm:yf .i64 ((mkm (P x) n:Nat):Int) ((mkm (fun j=>!xi l (i + 1) j) n:Nat):Int)=((mkm B n:Nat):Int):=by
     rw [LE hn8,hB]
    have hpow:((2 ^ y:Nat):Int)=((mkm (fun j=>j == y) n:Nat):Int):=by
     congr 1
     refine vw fun j=>?_
     rw [Nat.testBit_two_pow]
     by_cases e:y=j
     · subst e;simp [hyn]
     · have h1:decide (y=j)=false:=by simpa using e
       have h2:(j == y)=false:=by simp;omega
       rw [h1,h2];simp
    refine ⟨NL.set s y (ior .i64 (s.list.getD y 0) (zK .i64 ((mkm B n:Nat):Int) ((2 ^ y:Nat):Int))),?_,?_⟩
    · rw [zjj]
      refine ⟨by rw [List.length_set];exact hI.1,fun a ha=>?_⟩
      by_cases e:a=y
      · subst e
        rw [List.getD_eq_getElem?_getD,List.getElem?_set_self (by rw [hI.1];exact ha),Option.getD_some,hget,hpow,WZ hn8,Za (wc (by omega)) (wc (by omega))]
        congr 1
        refine vw fun j=>?_
        rw [Nat.testBit_or,ym,ym,htake]
        have hmem:decide ((a:Int)∈(zo B n).take t++[(a:Int)])=true:=by simp
        dsimp only
        rw [hmem]
        cases decide (j < n) <;> cases P a j <;> cases B j <;> cases (j == a) <;> cases decide ((a:Int)∈(zo B n).take t) <;> rfl
      · rw [List.getD_eq_getElem?_getD,List.getElem?_set_ne (by omega),← List.getD_eq_getElem?_getD,hI.2 a ha]
        congr 1
        refine uq fun j _=>?_
        have hmem:decide ((a:Int)∈(zo B n).take (t + 1))=decide ((a:Int)∈(zo B n).take t):=by
         rw [htake,Bool.eq_iff_iff,decide_eq_true_eq,decide_eq_true_eq,List.mem_append,List.mem_singleton]
         constructor
         · rintro (h | h)
           · exact h
           · omega
         · exact .inl
        dsimp only
        rw [hmem]
    · simp only [wh]
      rw [decide_eq_true (show (t:Int) < ((zo B n).length:Int) by omega),cond_true,zL (d:=0) ht,Option.bind_some,hy,zL (d:=0) (by rw [hI.1];exact hyn),Option.bind_some,yP (by omega),Option.bind_some,Option.bind_some,hleft,hbm,Int.toNat_natCast,z5 ht (by unfold Sm;omega)]) (by
    intro k2 s hI
    simp only [wh]
    rw [decide_eq_false (show ¬ ((zo B n).length:Int) < ((zo B n).length:Int) by omega),cond_false]) F o (by omega) (by
    have:(fun a b=>P a b || (decide ((a:Int)∈(zo B n).take 0) && B b && !(b == a)))=P:=by
     funext a b;simp
    rw [this];exact hH)
 refine ⟨s,?_,he⟩
 rw [List.take_length] at hs
 have hP:∀ a,a < n→∀ b,(P a b || (decide ((a:Int)∈zo B n) && B b && !(b == a)))=(P a b || ((B a) && (B b) && !(b == a))):=by
  intro a ha b
  have:decide ((a:Int)∈zo B n)=B a:=by
   rw [Bool.eq_iff_iff,decide_eq_true_eq,y5]
   constructor
   · rintro ⟨j,h1,_,h3⟩
     have:a=j:=by omega
     rw [this];exact h3
   · intro h;exact ⟨a,rfl,ha,h⟩
  rw [this]
 exact ⟨hs.1,fun a ha=>by rw [hs.2 a ha];congr 1;exact uq fun j _=>hP a ha j⟩
theorem zjM {F:Nat} {g:Gr} {l:List Int} (hg:xa g=true) (ho:w3 g.1 l=true) (hF:20≤F):∃ L P,vL F ⟨yh g⟩ l=some ⟨L⟩∧zci g.1.toNat g.1.toNat P L∧zgI g l l.length P:=by
 have h8:=zY hg
 have hlen:=ZS ho
 unfold vL uv vT
 obtain ⟨o0,h0,h0l⟩:=zbE (xs:=yh g) (by rw [wi];omega)
 rw [h0,Option.bind_some,Option.bind_some]
 have hall:yg F ⟨yh g⟩=some ((mkm (fun j=>!xi l 0 j) g.1.toNat:Nat):Int):=by
  have hp:=Nat.two_pow_pos g.1.toNat
  have:=Y0 (n:=g.1.toNat) (by omega)
  unfold yg
  rw [wi,yP (by omega),Option.bind_some,xp (by omega) (by omega)]
  have e:mkm (fun j=>!xi l 0 j) g.1.toNat=2 ^ g.1.toNat - 1:=by
   symm
   refine vw fun j=>?_
   rw [Nat.testBit_two_pow_sub_one]
   simp [xi]
  rw [e]
  congr 1;omega
 rw [hall,Option.bind_some]
 obtain ⟨⟨s,lf⟩,⟨⟨P,h1,h2⟩,_⟩,he⟩:=YJ (L:=fun k t (s:NL Int×Int)=>xH F l k s.1 s.2 t) (n:=l.length)
  (fun t s=>(∃ P,zci g.1.toNat g.1.toNat P s.1.list∧zgI g l t P)∧s.2=((mkm (fun j=>!xi l t j) g.1.toNat:Nat):Int)) (fin:=fun s=>some ⟨s.1.list⟩) (by
    rintro k t ⟨s,lf⟩ ht ⟨⟨P,h1,h2⟩,h3⟩
    simp only at h1 h3
    subst h3
    have hr:=Uz ho h8.1 _ (ww (d:=0) ht)
    obtain ⟨x,hx⟩:∃ x:Nat,l.getD t 0=x:=⟨(l.getD t 0).toNat,by omega⟩
    have hxn:x < g.1.toNat:=by omega
    have hxi:xi l (t + 1) x=true:=by rw [Ya ht hx];simp
    have hpow:((2 ^ x:Nat):Int)=((mkm (fun j=>j == x) g.1.toNat:Nat):Int):=by
     congr 1
     refine vw fun j=>?_
     rw [Nat.testBit_two_pow]
     by_cases e:x=j
     · subst e;simp [hxn]
     · have h1:decide (x=j)=false:=by simpa using e
       have h2:(j == x)=false:=by simp;omega
       rw [h1,h2];simp
    have hleft:zK .i64 ((mkm (fun j=>!xi l t j) g.1.toNat:Nat):Int) ((2 ^ x:Nat):Int)=((mkm (fun j=>!xi l (t + 1) j) g.1.toNat:Nat):Int):=by
     rw [hpow,WZ (by omega)]
     congr 1
     refine uq fun j _=>?_
     show (!xi l t j && !(j == x))=!xi l (t + 1) j
     rw [Ya ht hx]
     cases xi l t j <;> cases (j == x) <;> rfl
    obtain ⟨o',p1,p2⟩:=zks (F:=F) (i:=t) (c:=xH F l k) hg hF hxn h1 hxi hleft
    refine ⟨(o',((mkm (fun j=>!xi l (t + 1) j) g.1.toNat:Nat):Int)),⟨⟨_,p1,zi2 hg ho ht hx h2⟩,rfl⟩,?_⟩
    simp only [xH]
    rw [decide_eq_true (show (t:Int) < (l.length:Int) by omega),cond_true,zL (d:=0) ht,Option.bind_some,hx,yP (by omega),Option.bind_some,zL (d:=0) (by rw [h1.1];exact hxn),Option.bind_some,h1.2 x hxn]
    have hset:vG F (yf .i64 ((mkm (P x) g.1.toNat:Nat):Int) (zK .i64 ((mkm (fun j=>!xi l t j) g.1.toNat:Nat):Int) ((2 ^ x:Nat):Int)))=some (zo (fun j=>P x j && !xi l (t + 1) j) g.1.toNat):=by
     rw [hleft,LE (by omega)]
     exact Z4 (by omega) hF
    rw [hset,Option.bind_some,p2,z5 ht (by unfold Sm;omega),hleft]) (by
    rintro k ⟨s,lf⟩ _
    simp only [xH]
    rw [decide_eq_false (show ¬ (l.length:Int) < (l.length:Int) by omega),cond_false]) F (o0,_) (by omega) ⟨⟨adj g,⟨by rw [h0l,wi],fun x hx=>by rw [h0l];exact Xv hx⟩,zhA hg⟩,rfl⟩
 exact ⟨s.list,P,he,h1,h2⟩
def nbL (g:Gr) (l:List Int) (n:Nat):List Int:=(List.range n).map fun i=>((mkm (vr g (vp l g.1.toNat i) (l.getD i 0).toNat) g.1.toNat:Nat):Int)
theorem zig {g:Gr} {l:List Int} {n:Nat}:nbL g l (n + 1)=nbL g l n++[((mkm (vr g (vp l g.1.toNat n) (l.getD n 0).toNat) g.1.toNat:Nat):Int)]:=by simp [nbL,List.range_succ]
theorem Ls {g:Gr} {l:List Int} {n:Nat}:(nbL g l n).length=n:=by simp [nbL]
theorem zfW {F:Nat} {g:Gr} {l:List Int} (hg:xa g=true) (ho:w3 g.1 l=true) (hF:20≤F):xq F ⟨yh g⟩ l=some (nbL g l l.length):=by
 have h8:=zY hg
 have hlen:=ZS ho
 obtain ⟨L,P,f1,f2,f3⟩:=zjM hg ho hF
 unfold xq
 have hall:yg F ⟨yh g⟩=some ((mkm (fun j=>!xi l 0 j) g.1.toNat:Nat):Int):=by
  have hp:=Nat.two_pow_pos g.1.toNat
  have:=Y0 (n:=g.1.toNat) (by omega)
  unfold yg
  rw [wi,yP (by omega),Option.bind_some,xp (by omega) (by omega)]
  have e:mkm (fun j=>!xi l 0 j) g.1.toNat=2 ^ g.1.toNat - 1:=by
   symm
   refine vw fun j=>?_
   rw [Nat.testBit_two_pow_sub_one]
   simp [xi]
  rw [e]
  congr 1;omega
 rw [f1,Option.bind_some,hall,Option.bind_some]
 obtain ⟨⟨lf,s⟩,⟨_,h2⟩,he⟩:=YJ (L:=fun k t (s:Int×NL Int)=>yL F ⟨L⟩ l k s.1 s.2 t) (n:=l.length)
  (fun t s=>s.1=((mkm (fun j=>!xi l t j) g.1.toNat:Nat):Int)∧s.2.list=nbL g l t) (fin:=fun s=>some s.2.list) (by
    rintro k t ⟨lf,s⟩ ht ⟨h1,h2⟩
    simp only at h1 h2
    subst h1
    have hr:=Uz ho h8.1 _ (ww (d:=0) ht)
    obtain ⟨x,hx⟩:∃ x:Nat,l.getD t 0=x:=⟨(l.getD t 0).toNat,by omega⟩
    have hxn:x < g.1.toNat:=by omega
    have hpow:((2 ^ x:Nat):Int)=((mkm (fun j=>j == x) g.1.toNat:Nat):Int):=by
     congr 1
     refine vw fun j=>?_
     rw [Nat.testBit_two_pow]
     by_cases e:x=j
     · subst e;simp [hxn]
     · have h1:decide (x=j)=false:=by simpa using e
       have h2:(j == x)=false:=by simp;omega
       rw [h1,h2];simp
    have hleft:zK .i64 ((mkm (fun j=>!xi l t j) g.1.toNat:Nat):Int) ((2 ^ x:Nat):Int)=((mkm (fun j=>!xi l (t + 1) j) g.1.toNat:Nat):Int):=by
     rw [hpow,WZ (by omega)]
     congr 1
     refine uq fun j _=>?_
     show (!xi l t j && !(j == x))=!xi l (t + 1) j
     rw [Ya ht hx]
     cases xi l t j <;> cases (j == x) <;> rfl
    have hrow:yf .i64 ((mkm (P x) g.1.toNat:Nat):Int) ((mkm (fun j=>!xi l (t + 1) j) g.1.toNat:Nat):Int)=((mkm (vr g (vp l g.1.toNat t) x) g.1.toNat:Nat):Int):=by
     rw [LE (by omega)]
     congr 1
     refine uq fun j hj=>?_
     show (P x j && !xi l (t + 1) j)=_
     cases hpj:xi l (t + 1) j with
     | false=>rw [f3.old t x ht ht hx j hj hpj];simp
     | true=>
       rw [Bool.not_true,Bool.and_false]
       rw [Ya ht hx,Bool.or_eq_true] at hpj
       unfold vr
       rw [YB hj]
       rcases hpj with h | h
       · rw [h];rfl
       · rw [h];simp
    refine ⟨(((mkm (fun j=>!xi l (t + 1) j) g.1.toNat:Nat):Int),.of (s.list++[((mkm (vr g (vp l g.1.toNat t) x) g.1.toNat:Nat):Int)])),⟨rfl,?_⟩,?_⟩
    · show s.list++_=_
      rw [h2,zig,hx,Int.toNat_natCast]
    · simp only [yL]
      rw [decide_eq_true (show (t:Int) < (l.length:Int) by omega),cond_true,zL (d:=0) ht,Option.bind_some,hx,yP (by omega),Option.bind_some,zL (d:=0) (by rw [f2.1];exact hxn),Option.bind_some,f2.2 x hxn,hleft,hrow,vF (by rw [h2,Ls];omega),Option.bind_some,z5 ht (by unfold Sm;omega)]) (by
    rintro k ⟨lf,s⟩ _
    simp only [yL]
    rw [decide_eq_false (show ¬ (l.length:Int) < (l.length:Int) by omega),cond_false]) F (_,.nil) (by omega) ⟨rfl,rfl⟩
 have he':yL F ⟨L⟩ l F ((mkm (fun j=>!xi l 0 j) g.1.toNat:Nat):Int) .nil 0=some s.list:=he
 rw [he',h2]
theorem zeU {F:Nat} {g:Gr} {l:List Int} (hF:l.length < F) (hG:g.2.length < F) (h9:20≤F) (hl:Sm l.length) (hs:Sm g.2.length) :
    yX F g l=some (bif xa g && w3 g.1 l then (elW g l l.length,true) else (0,false)):=by
 unfold yX
 rw [ug hG (by omega) hs,Option.bind_some]
 cases hg:xa g with
 | false=>rfl
 | true=>
   have h8:=zY hg
   rw [Bool.not_true,cond_false,zdo h8.1 h8.2 hF hl,Option.bind_some,Bool.true_and]
   cases ho:w3 g.1 l with
   | false=>rfl
   | true=>
     have hlen:=ZS ho
     unfold wv
     rw [Bool.not_true,cond_false,XP hg hG hs,Option.bind_some,zfW hg ho h9,Option.bind_some,cond_true]
     refine we (L:=fun k i s=>xr F (nbL g l l.length) k s i) (n:=l.length) (fun i s=>s=elW g l i) ?_ ?_ F (-1) (by omega) rfl
     · intro k i s hi hI
       subst hI
       refine ⟨_,rfl,?_⟩
       have hget:(nbL g l l.length).getD i 0=((mkm (vr g (vp l g.1.toNat i) (l.getD i 0).toNat) g.1.toNat:Nat):Int):=by
        simp [nbL,List.getD_eq_getElem?_getD,hi]
       simp only [xr]
       rw [decide_eq_true (show (i:Int) < ((nbL g l l.length).length:Int) by rw [Ls];omega),cond_true,zL (d:=0) (by rw [Ls];exact hi),Option.bind_some,hget,Kc (JS (by omega)),Option.bind_some,Uq (by omega),z5 hi (by unfold Sm;omega),zcf]
       have:(if ((yO (vr g (vp l g.1.toNat i) (l.getD i 0).toNat) g.1.toNat:Nat):Int) > elW g l i then ((yO (vr g (vp l g.1.toNat i) (l.getD i 0).toNat) g.1.toNat:Nat):Int) else elW g l i)=max (elW g l i) (elV g l i):=by
        unfold elV
        by_cases h:((yO (vr g (vp l g.1.toNat i) (l.getD i 0).toNat) g.1.toNat:Nat):Int) > elW g l i
        · rw [if_pos h,Int.max_eq_right (by omega)]
        · rw [if_neg h,Int.max_eq_left (by omega)]
       rw [this]
     · intro k s hI
       subst hI
       simp only [xr]
       rw [decide_eq_false (show ¬ (l.length:Int) < ((nbL g l l.length).length:Int) by rw [Ls];omega),cond_false]
end Go.Zq
namespace Go.Zq
theorem U8 {α β γ:Type} {x:Option α} {f:α→Option β} {f':α→Option γ} {h:β→γ} (H:∀ a,f' a=(f a).map h):x.bind f'=(x.bind f).map h:=by
 cases x with
 | none=>rfl
 | some a=>exact H a
theorem zbj {β γ:Type} {t:Bool} {a b:Option β} {a' b':Option γ} {h:β→γ} (H1:a'=a.map h) (H2:b'=b.map h):(bif t then a' else b')=(bif t then a else b).map h:=by
 cases t with
 | true=>exact H1
 | false=>exact H2
theorem zqY {F:Nat} {l:List Int} {n:Int}:Xp F ⟨.of l⟩ n=(WR F l n).map NL.of:=by
 have hj:∀ (k:Int) (t:Bool),Zg F ⟨.of l⟩ n k t=(Yv F l n k t).map NL.of:=by
  intro k t
  simp only [Zg,Yv,zf9,Option.bind_some]
  exact zbj rfl (U8 fun _=>U8 fun _=>U8 fun _=>U8 fun _=>U8 fun _=>rfl)
 have key:∀ (k:Nat) (i:Int),wB F ⟨.of l⟩ n k i=(ui F l n k i).map NL.of:=by
  intro k
  induction k with
  | zero=>intro i;rfl
  | succ k ih=>
    intro i
    have hj2:∀ t,uW F ⟨.of l⟩ n i (wB F ⟨.of l⟩ n k) t=(YA F l n i (ui F l n k) t).map NL.of:=by
     intro t
     simp only [uW,YA]
     exact zbj (ih _) (zbj (U8 fun _=>hj i _) (hj i _))
    simp only [wB,ui]
    exact zbj (U8 fun _=>hj2 _) (hj2 _)
 exact key F 0
theorem zdV {F:Nat} {g:Gr} {a:List Int} {x:Int}:vC F g a x=(Yz F g a x).map NL.of:=by
 have h1:∀ (kk:Int) (r:List Int) (c:List Int→List Int→Int→Option (List Int)) (c':NL Int→List Int→Int→Option (NL Int)),(∀ o s i,c' (.of o) s i=(c o s i).map NL.of) →
     ∀ (k:Nat) (o s:List Int) (i:Int),xV F a g kk r c' k (.of o) s i=(xg F a g kk r c k o s i).map NL.of:=by
  intro kk r c c' hc k
  induction k with
  | zero=>intro o s i;rfl
  | succ k ih=>
    intro o s i
    simp only [xV,xg,uS,Z9,zqY]
    refine zbj (U8 fun e=>U8 fun t=>zbj (ih _ _ _) (U8 fun e2=>U8 fun t2=>zbj (U8 fun e3=>U8 fun s2=>ih _ _ _) (U8 fun e4=>?_))) (hc _ _ _)
    cases WR F o e4 with
    | none=>rfl
    | some o2=>exact ih _ _ _
 have h2:∀ (k:Nat) (o s:List Int) (i:Int),vk F a g k (.of o) s i=(x8 F a g k o s i).map NL.of:=by
  intro k
  induction k with
  | zero=>intro o s i;rfl
  | succ k ih=>
    intro o s i
    simp only [vk,x8]
    exact zbj (U8 fun e=>U8 fun r=>h1 _ _ _ _ ih _ _ _ _) rfl
 exact h2 _ _ _ _
end Go.Zq
namespace Go.Zq
end Go.Zq
namespace Go.Zq
theorem Kq {α:Type} {xs ys:List α} (h:xs.length + ys.length≤1099511627776):wS xs ys=some (xs++ys):=by
 unfold wS
 rw [if_pos (by simpa using h)]
end Go.Zq
namespace Go.Zq
def XV {α:Type} (p:α→Bool):List α→Nat
 | []=>0
 | x :: xs=>if p x then XV p xs + 1 else 0
theorem Qt {α:Type} {p:α→Bool}:∀ {xs:List α},XV p xs≤xs.length
 | []=>Nat.le_refl _
 | x :: xs=>by
   have:=Qt (p:=p) (xs:=xs)
   simp only [XV,List.length_cons]
   split <;> omega
theorem zeS {α:Type} {p:α→Bool}:∀ {xs:List α} {i:Nat} (h:i < XV p xs) (h2:i < xs.length),p xs[i]=true
 | [],i,h,_=>by simp [XV] at h
 | x :: xs,i,h,h2=>by
   simp only [XV] at h
   split at h
   · rename_i hx
     cases i with
     | zero=>exact hx
     | succ i=>exact zeS (xs:=xs) (by omega) (by simpa using h2)
   · omega
theorem zeR {α:Type} {p:α→Bool}:∀ {xs:List α} (h:XV p xs < xs.length),p xs[XV p xs]=false
 | [],h=>by simp [XV] at h
 | x :: xs,h=>by
   by_cases hx:p x=true
   · have e:XV p (x :: xs)=XV p xs + 1:=by simp [XV,hx]
     have h':XV p xs < xs.length:=by rw [e] at h;simpa using h
     have:=zeR (p:=p) (xs:=xs) h'
     simp only [e,List.getElem_cons_succ]
     exact this
   · have e:XV p (x :: xs)=0:=by simp [XV,hx]
     simp only [e,List.getElem_cons_zero]
     simpa using hx
def ziO (xs:List (Int×Int)) (e:Int×Int):List (Int×Int):=xs.take (XV (fun z=>bef z e) xs)++e :: xs.drop (XV (fun z=>bef z e) xs)
theorem Mn {xs:List (Int×Int)} {e:Int×Int}:(ziO xs e).length=xs.length + 1:=by
 unfold ziO
 have:=Qt (p:=fun z=>bef z e) (xs:=xs)
 simp;omega
theorem L2 {F:Nat} {xs:List (Int×Int)} {e:Int×Int} (hF:xs.length < F) (hl:xs.length≤1000000):uV F xs e=some (.of (ziO xs e)):=by
 have hle:=Qt (p:=fun z=>bef z e) (xs:=xs)
 unfold uV
 refine zdH (L:=fun k i=>wn F xs e k i) (n:=XV (fun z=>bef z e) xs) ?_ ?_ F (by omega)
 · intro k i hi
   have h1:=zeS (p:=fun z=>bef z e) (xs:=xs) hi (by omega)
   simp only [wn,ud]
   rw [decide_eq_true (show (i:Int) < (xs.length:Int) by omega),cond_true,UZ (by omega),Option.bind_some,UJ,Option.bind_some]
   rw [h1,cond_true,z5 (n:=xs.length) (by omega) (by unfold Sm;omega)]
 · intro k
   have hfin:ud F xs e ((XV (fun z=>bef z e) xs:Nat):Int) (wn F xs e k) false=some (.of (ziO xs e)):=by
    simp only [ud]
    rw [cond_false,NR hle,Option.bind_some,Kq (by simp;omega),Option.bind_some,Kq (by simp;omega),Option.bind_some,zbG hle,Option.bind_some,Kq (by simp;omega),Option.bind_some]
    unfold ziO
    simp
   simp only [wn]
   by_cases h:XV (fun z=>bef z e) xs < xs.length
   · have h1:=zeR (p:=fun z=>bef z e) (xs:=xs) h
     rw [decide_eq_true (show ((XV (fun z=>bef z e) xs:Nat):Int) < (xs.length:Int) by omega),cond_true,UZ h,Option.bind_some,UJ,Option.bind_some]
     rw [h1]
     exact hfin
   · rw [decide_eq_false (show ¬ ((XV (fun z=>bef z e) xs:Nat):Int) < (xs.length:Int) by omega),cond_false]
     exact hfin
end Go.Zq
namespace Go.Zq
def Ck (a:LB) (b:Int) (m:Nat):Prop:=(∀ y∈a,0≤y.v∧y.v≤255)∧0≤b∧b≤m
theorem Ck.le {a:LB} {b:Int} {m m':Nat} (h:Ck a b m) (hm:m≤m'):Ck a b m':=⟨h.1,h.2.1,by have:=h.2.2;omega⟩
theorem ziz {q:Int}:0≤yf .u64 q 255∧yf .u64 q 255≤255:=by
 unfold yf
 have h:(BitVec.ofInt IntKind.u64.bits q &&& BitVec.ofInt IntKind.u64.bits 255).toNat≤255:=by
  rw [BitVec.toNat_and]
  exact Nat.le_trans Nat.and_le_right (by decide)
 generalize (BitVec.ofInt IntKind.u64.bits q &&& BitVec.ofInt IntKind.u64.bits 255).toNat=n at h
 have e:IntKind.wrap .u64 (n:Int)=n:=by
  simp only [IntKind.wrap,IntKind.bits,IntKind.signed,Bool.false_and]
  have e1:((2:Int) ^ 64)=18446744073709551616:=by decide
  simp only [e1]
  split
  · rename_i hh;cases hh
  · omega
 rw [e];omega
theorem zsM (q:Int):0≤w64 (yf .u64 q 255)∧w64 (yf .u64 q 255)≤255:=by
 have:=ziz (q:=q)
 rw [xp (by omega) (by omega)];exact this
section
variable {F:Nat} {c:CC} {m:Nat}
theorem zcy {x:Int} (h:Ck c.v.a c.v.b m) (hm:m < 1000000) (h0:0≤x) (hx:x≤255):∃ r c',vz F c x=some (r,c')∧0≤r∧r≤255∧Ck c'.a c'.b (m + 1):=by
 have hb:=h.2
 have hw:w64 (c.v.b + 1)=c.v.b + 1:=xp (by omega) (by omega)
 unfold vz
 rw [hw]
 have hk:Ck c.v.a (c.v.b + 1) (m + 1):=⟨h.1,by omega,by omega⟩
 cases decide ((c.v.b + 1)≤(c.v.a.length:Int)) with
 | true=>exact ⟨x,_,rfl,h0,hx,hk⟩
 | false=>
   exact ⟨_,_,rfl,(zsM _).1,(zsM _).2,hk⟩
theorem zec (h:Ck c.v.a c.v.b m) (hm:m < 1000000):∃ r c',wQ F c=some (r,c')∧0≤r∧r≤255∧Ck c'.a c'.b (m + 1):=by
 unfold wQ
 by_cases hd:c.v.b < (c.v.a.length:Int)
 · rw [decide_eq_true hd,cond_true]
   have hb:=h.2
   obtain ⟨i,hi⟩:∃ i:Nat,c.v.b=i:=⟨c.v.b.toNat,by omega⟩
   rw [hi,UZ (by omega),Option.bind_some]
   have hy:=h.1 _ (List.getElem_mem (show i < c.v.a.length by omega))
   rw [xp (by omega) (by omega)]
   exact zcy h hm hy.1 hy.2
 · rw [decide_eq_false hd,cond_false]
   exact zcy h hm (by omega) (by omega)
theorem Yh {n:Int} (h:Ck c.v.a c.v.b m) (hm:m < 900000):∃ r c',yA F c n=some (r,c')∧0≤r∧(1≤n→r < n)∧(n≤1→r=0)∧Ck c'.a c'.b (m + 2):=by
 unfold yA
 have rem:∀ (v:Int) (c':CU),0≤v→1 < n→Ck c'.a c'.b (m + 2)→∃ r c'',vx F n c'.a c'.b c'.c.v v=some (r,c'')∧0≤r∧(1≤n→r < n)∧(n≤1→r=0)∧Ck c''.a c''.b (m + 2):=by
  intro v c' hv hn hk
  have e:zgp .i64 v n=some (v.tmod n):=by unfold zgp;rw [if_neg (by omega)]
  unfold vx
  rw [e]
  exact ⟨_,_,rfl,Int.tmod_nonneg _ hv,fun _=>Int.tmod_lt_of_pos _ (by omega),fun h=>by omega,hk⟩
 by_cases hn:n≤1
 · rw [decide_eq_true hn,cond_true]
   exact ⟨0,_,rfl,by omega,fun h=>by omega,fun _=>rfl,h.le (by omega)⟩
 · rw [decide_eq_false hn,cond_false]
   obtain ⟨r,c1,e1,h1,h2,k1⟩:=zec (F:=F) (c:=Cu.mk c.v) h (by omega)
   rw [e1,Option.bind_some]
   by_cases h200:n > 200
   · rw [decide_eq_true h200,cond_true]
     obtain ⟨r',c2,e2,h3,h4,k2⟩:=zec (F:=F) (c:=Cu.mk c1) k1 (by omega)
     have e2':wQ F (Cu.mk (r,c1).2)=some (r',c2):=e2
     rw [e2',Option.bind_some]
     refine rem _ c2 ?_ (by omega) k2
     show 0≤w64 ((w64 (r * 256)) + r')
     rw [xp (x:=r * 256) (by omega) (by omega),xp (by omega) (by omega)];omega
   · rw [decide_eq_false h200,cond_false]
     exact rem r c1 h1 (by omega) (k1.le (by omega))
theorem J1 {xs:List Int} (h:Ck c.v.a c.v.b m) (hm:m < 900000) (hx:0 < xs.length):∃ r c',xm F c xs=some (r,c')∧r∈xs∧Ck c'.a c'.b (m + 2):=by
 unfold xm
 obtain ⟨r,c1,e1,h1,h2,_,k1⟩:=Yh (F:=F) (c:=Cu.mk c.v) (n:=(xs.length:Int)) h hm
 rw [e1,Option.bind_some]
 have:=h2 (by omega)
 obtain ⟨i,hi⟩:∃ i:Nat,r=i:=⟨r.toNat,by omega⟩
 subst hi
 have e:idx xs ((i:Int),c1).1=some xs[i]:=UZ (by omega)
 rw [e]
 exact ⟨_,_,rfl,List.getElem_mem _,k1⟩
theorem zcH {n:Int} (h:Ck c.v.a c.v.b m) (hm:m < 900000):∃ r c',wJ F c n=some (r,c')∧Ck c'.a c'.b (m + 2):=by
 unfold wJ
 obtain ⟨r,c1,e1,_,_,_,k1⟩:=Yh (F:=F) (c:=Cu.mk c.v) (n:=n) h hm
 rw [e1]
 exact ⟨_,_,rfl,k1⟩
def GOk (x:Option (GR×CU)):Prop:=∃ g c',x=some (g,c')∧g.2.length≤400∧Ck c'.a c'.b 5000
theorem KH {α:Type} {xs ys:List α} (h:xs.length + ys.length≤1000):wS xs ys=some (xs++ys):=by
 unfold wS
 rw [if_pos (Nat.le_trans h (by decide))]
theorem zgd {o:Oh (Int×Int)} (h:Ck c.v.a c.v.b m) (hm:m≤4000) (ho:o.v.length≤300):GOk (vo F c o):=by
 unfold vo
 obtain ⟨r,c1,e1,h1,h2,_,k1⟩:=Yh (F:=F) (c:=Cu.mk c.v) (n:=50) h (by omega)
 rw [e1,Option.bind_some]
 have fin:GOk (some ((o.a,o.v),c1)):=⟨_,_,rfl,by show o.v.length≤400;omega,k1.le (by omega)⟩
 cases (r,c1).1 == 0 with
 | true=>
   rw [cond_true]
   obtain ⟨r,c2,e2,_,k2⟩:=J1 (F:=F) (c:=Cu.mk c1) (xs:=[(-1),8,9,0,4611686018427387904]) k1 (by omega) (by decide)
   have e2':xm F (Cu.mk (r,c1).2) [(-1),8,9,0,4611686018427387904]=some (r,c2):=e2
   rw [e2',Option.bind_some]
   exact ⟨_,_,rfl,by show o.v.length≤400;omega,k2.le (by omega)⟩
 | false=>
   rw [cond_false]
   cases (r,c1).1 == 1 with
   | true=>
     rw [cond_true]
     obtain ⟨r2,c2,e2,_,_,_,k2⟩:=Yh (F:=F) (c:=Cu.mk c1) (n:=4) k1 (by omega)
     have e2':yA F (Cu.mk (r,c1).2) 4=some (r2,c2):=e2
     rw [e2',Option.bind_some]
     obtain ⟨r3,c3,e3,_,_,_,k3⟩:=Yh (F:=F) (c:=Cu.mk c2) (n:=9) k2 (by omega)
     have e3':yA F (Cu.mk (r2,c2).2) 9=some (r3,c3):=e3
     rw [e3',Option.bind_some,KH (by simp;omega),Option.bind_some]
     exact ⟨_,_,rfl,by simp;omega,k3.le (by omega)⟩
   | false=>
     rw [cond_false]
     cases (r,c1).1 == 2 with
     | true=>
       rw [cond_true]
       by_cases hl:(o.v.length:Int) > 0
       · rw [decide_eq_true hl,cond_true]
         obtain ⟨r2,c2,e2,h3,h4,_,k2⟩:=Yh (F:=F) (c:=Cu.mk c1) (n:=(o.v.length:Int)) k1 (by omega)
         have e2':yA F (Cu.mk (r,c1).2) (o.v.length:Int)=some (r2,c2):=e2
         rw [e2',Option.bind_some]
         have:=h4 (by omega)
         obtain ⟨i,hi⟩:∃ i:Nat,r2=i:=⟨r2.toNat,by omega⟩
         subst hi
         have e:idx o.v ((i:Int),c2).1=some o.v[i]:=UZ (by omega)
         rw [e,Option.bind_some,KH (by simp;omega),Option.bind_some]
         exact ⟨_,_,rfl,by simp;omega,k2.le (by omega)⟩
       · rw [decide_eq_false hl,cond_false]
         exact fin
     | false=>exact fin
theorem Mi {a:LB} {b v n:Int} {xs:List (Int×Int)} (h:Ck a b m) (hm:m≤4000) (ho:xs.length≤300):GOk (yS F a b v n (.of xs)):=by
 unfold yS
 obtain ⟨g,c',e,h1,h2⟩:=zgd (F:=F) (c:=cu a b v) (o:=Oh.mk n xs) h hm ho
 show GOk (Option.bind (some xs) _)
 rw [Option.bind_some,e,Option.bind_some]
 exact ⟨g,c',rfl,h1,h2⟩
end
theorem zd0 (K:Nat):∀ n:Nat,n≤8→∃ l,ZN (K + 20) (n:Int)=some ((n:Int),.of l)∧l.length≤10
 | 0,_=>⟨_,rfl,by decide⟩
 | 1,_=>⟨_,rfl,by decide⟩
 | 2,_=>⟨_,rfl,by decide⟩
 | 3,_=>⟨_,rfl,by decide⟩
 | 4,_=>⟨_,rfl,by decide⟩
 | 5,_=>⟨_,rfl,by decide⟩
 | 6,_=>⟨_,rfl,by decide⟩
 | 7,_=>⟨_,rfl,by decide⟩
 | 8,_=>⟨_,rfl,by decide⟩
 | n + 9,h=>absurd h (by omega)
theorem zb6 (K:Nat):∀ n:Nat,n≤8→∃ l,vZ (K + 20) (n:Int)=some ((n:Int),.of l)∧l.length≤300
 | 0,_=>⟨_,rfl,by decide⟩
 | 1,_=>⟨_,rfl,by decide⟩
 | 2,_=>⟨_,rfl,by decide⟩
 | 3,_=>⟨_,rfl,by decide⟩
 | 4,_=>⟨_,rfl,by decide⟩
 | 5,_=>⟨_,rfl,by decide⟩
 | 6,_=>⟨_,rfl,by decide⟩
 | 7,_=>⟨_,rfl,by decide⟩
 | 8,_=>⟨_,rfl,by decide⟩
 | n + 9,h=>absurd h (by omega)
theorem zic {F n:Nat} (hF:300≤F) (h:n≤8):∃ l,uR F (n:Int)=some ((n:Int),.of l)∧l.length≤20:=by
 obtain ⟨K,rfl⟩:∃ K,F=K + 20:=⟨F - 20,by omega⟩
 obtain ⟨l,e,hl⟩:=zd0 K n h
 unfold uR
 rw [e,Option.bind_some]
 have:(((n:Int),NL.of l).2).list=l:=rfl
 rw [this,L2 (by omega) (by omega),Option.bind_some]
 exact ⟨_,rfl,by rw [Mn];omega⟩
end Go.Zq
namespace Go.Zq
theorem zl7 {F n i:Nat} {q:Int×CU} {t:Bool×CU} {c5:LB→Int→Int→NL (Int×Int)→Int→Option (GR×CU)} (hn:n≤8) (hF:500≤F) (hi:i < n)
    (H:∀ (c':CU) (ys:List (Int×Int)),Ck c'.a c'.b (50 + 40 * (i + 1))→ys.length≤10 * (i + 1)→GOk (c5 c'.a c'.b c'.c.v (.of ys) ((i + 1:Nat):Int))) :
    ∀ (d j k:Nat) (a:LB) (b v:Int) (xs:List (Int×Int)),j + d=n→d < k→Ck a b (50 + 40 * i + 2 * j)→xs.length≤10 * i + j→GOk (yq F (n:Int) q t (i:Int) c5 k a b v (.of xs) (j:Int)):=by
 have hw:w64 ((i:Int) + 1)=((i + 1:Nat):Int):=z5 (n:=n) (by omega) (by unfold Sm;omega)
 intro d
 induction d with
 | zero=>
   intro j k a b v xs hj hk hc hx
   obtain ⟨k,rfl⟩:∃ k',k=k' + 1:=⟨k - 1,by omega⟩
   simp only [yq]
   rw [decide_eq_false (by omega),cond_false,Ly,Option.bind_some]
   obtain ⟨r,c1,e1,h1,_,_,k1⟩:=Yh (F:=F) (c:=cu a b v) (n:=max (i:Int) 1) hc (by omega)
   rw [e1,Option.bind_some]
   have hk1:Ck c1.a c1.b (50 + 40 * (i + 1)):=k1.le (by omega)
   have h4f:GOk (xc F (r,c1) (n:Int) (.of xs) q t (i:Int) c5 false):=by
    show GOk (c5 c1.a c1.b c1.c.v (.of xs) (w64 ((i:Int) + 1)))
    rw [hw];exact H c1 xs hk1 (by omega)
   have h4t:GOk (xc F (r,c1) (n:Int) (.of xs) q t (i:Int) c5 true):=by
    unfold xc
    rw [cond_true,show (NL.of xs).list=xs from rfl,L2 (by omega) (by omega),Option.bind_some]
    show GOk (c5 c1.a c1.b c1.c.v (.of _) (w64 ((i:Int) + 1)))
    rw [hw];exact H c1 _ hk1 (by rw [Mn];omega)
   by_cases h0:(i:Int) > 0
   · rw [decide_eq_true h0,cond_true]
     cases !t.1 with
     | false=>exact h4f
     | true=>
       rw [cond_true]
       obtain ⟨y,hy⟩:∃ y:Nat,r=y:=⟨r.toNat,by omega⟩
       subst hy
       have e:uo F ((n:Int),(NL.of xs).list) (i:Int) ((y:Int),c1).1=_:=WL (g:=((n:Int),xs)) (F:=F) (a:=i) (b:=y) (by show xs.length < F;omega) (by show Sm xs.length;unfold Sm;omega)
       rw [e,Option.bind_some]
       cases !adj ((n:Int),xs) i y with
       | false=>exact h4f
       | true=>exact h4t
   · rw [decide_eq_false h0];exact h4f
 | succ d ih=>
   intro j k a b v xs hj hk hc hx
   obtain ⟨k,rfl⟩:∃ k',k=k' + 1:=⟨k - 1,by omega⟩
   simp only [yq]
   rw [decide_eq_true (by omega),cond_true]
   obtain ⟨r,c1,e1,h1,_,_,k1⟩:=Yh (F:=F) (c:=cu a b v) (n:=q.1) hc (by omega)
   rw [e1,Option.bind_some]
   have hwj:w64 ((j:Int) + 1)=((j + 1:Nat):Int):=z5 (n:=n) (by omega) (by unfold Sm;omega)
   cases (r,c1).1 == 0 with
   | true=>
     rw [cond_true,show (NL.of xs).list=xs from rfl,L2 (by omega) (by omega),Option.bind_some]
     show GOk (yq F (n:Int) q t (i:Int) c5 k c1.a c1.b c1.c.v (.of _) (w64 ((j:Int) + 1)))
     rw [hwj]
     exact ih (j + 1) k _ _ _ _ (by omega) (by omega) (k1.le (by omega)) (by rw [Mn];omega)
   | false=>
     show GOk (yq F (n:Int) q t (i:Int) c5 k c1.a c1.b c1.c.v (.of xs) (w64 ((j:Int) + 1)))
     rw [hwj]
     exact ih (j + 1) k _ _ _ _ (by omega) (by omega) (k1.le (by omega)) (by omega)
theorem zmz {F n:Nat} {q:Int×CU} {t:Bool×CU} (hn:n≤8) (hF:500≤F) :
    ∀ (d i k:Nat) (a:LB) (b v:Int) (xs:List (Int×Int)),i + d=n→d < k→Ck a b (50 + 40 * i)→xs.length≤10 * i→GOk (xb F (n:Int) q t k a b v (.of xs) (i:Int)):=by
 intro d
 induction d with
 | zero=>
   intro i k a b v xs hj hk hc hx
   obtain ⟨k,rfl⟩:∃ k',k=k' + 1:=⟨k - 1,by omega⟩
   simp only [xb]
   rw [decide_eq_false (by omega),cond_false]
   exact Mi hc (by omega) (by omega)
 | succ d ih=>
   intro i k a b v xs hj hk hc hx
   obtain ⟨k,rfl⟩:∃ k',k=k' + 1:=⟨k - 1,by omega⟩
   simp only [xb]
   rw [decide_eq_true (by omega),cond_true,z5 (n:=n) (by omega) (by unfold Sm;omega)]
   exact zl7 hn hF (by omega) (fun c' ys hc' hy=>ih (i + 1) k _ _ _ _ (by omega) (by omega) hc' hy) (n - (i + 1)) (i + 1) F a b v xs (by omega) (by omega) (hc.le (by omega)) (by omega)
theorem QB {F:Nat} {c:CC} {z:Int} (h:Ck c.v.a c.v.b 0) (hF:500≤F) (h0:0≤z) (h8:z≤8):GOk (wl F c z):=by
 obtain ⟨K,hK⟩:∃ K,F=K + 20:=⟨F - 20,by omega⟩
 have j5:∀ (c1:CU) (x:Int),Ck c1.a c1.b 10→0≤x→GOk (wb F z c1.a c1.b c1.c.v x):=by
  intro c1 x k1 hx
  unfold wb
  rw [JP,Option.bind_some]
  obtain ⟨n,hn⟩:∃ n:Nat,min x z=n:=⟨(min x z).toNat,by omega⟩
  have hn8:n≤8:=by omega
  rw [hn]
  obtain ⟨r,c2,e2,h1,_,_,k2⟩:=Yh (F:=F) (c:=cu c1.a c1.b c1.c.v) (n:=8) k1 (by omega)
  rw [e2,Option.bind_some]
  have k2':Ck c2.a c2.b 20:=k2.le (by omega)
  cases (r,c2).1 == 0 with
  | true=>
    rw [cond_true]
    obtain ⟨l,e,hl⟩:=zd0 K n hn8
    rw [← hK] at e
    rw [e,Option.bind_some]
    exact Mi k2' (by omega) (by omega)
  | false=>
    rw [cond_false]
    cases (r,c2).1 == 1 with
    | true=>
      rw [cond_true]
      by_cases h2:(n:Int) > 2
      · rw [decide_eq_true h2,cond_true]
        obtain ⟨l,e,hl⟩:=zic (F:=F) (by omega) hn8
        rw [e,Option.bind_some]
        exact Mi k2' (by omega) (by omega)
      · rw [decide_eq_false h2,cond_false]
        exact Mi k2' (by omega) (by simp)
    | false=>
      rw [cond_false]
      cases (r,c2).1 == 2 with
      | true=>
        rw [cond_true]
        obtain ⟨l,e,hl⟩:=zb6 K n hn8
        rw [← hK] at e
        rw [e,Option.bind_some]
        exact Mi k2' (by omega) (by omega)
      | false=>
        rw [cond_false]
        obtain ⟨r3,c3,e3,_,k3⟩:=J1 (F:=F) (c:=Cu.mk c2) (xs:=[3,4,6]) k2' (by omega) (by decide)
        have e3':xm F (Cu.mk (r,c2).2) [3,4,6]=some (r3,c3):=e3
        rw [e3',Option.bind_some]
        obtain ⟨r4,c4,e4,k4⟩:=zcH (F:=F) (c:=Cu.mk c3) (n:=6) k3 (by omega)
        have e4':wJ F (Cu.mk (r3,c3).2) 6=some (r4,c4):=e4
        rw [e4',Option.bind_some]
        exact zmz hn8 hF n 0 F c4.a c4.b c4.c.v [] (by omega) (by omega) (k4.le (by omega)) (by simp)
 unfold wl
 obtain ⟨r,c1,e1,hr,k1⟩:=J1 (F:=F) (c:=Cu.mk c.v) (xs:=[4,5,3,6,2,1,0]) h (by omega) (by decide)
 rw [e1,Option.bind_some]
 have hr0:0≤r:=by
  have:∀ y∈([4,5,3,6,2,1,0]:List Int),0≤y:=by decide
  exact this r hr
 by_cases h6:z > 6
 · rw [decide_eq_true h6,cond_true]
   obtain ⟨r2,c2,e2,k2⟩:=zcH (F:=F) (c:=Cu.mk c1) (n:=4) k1 (by omega)
   have e2':wJ F (Cu.mk (r,c1).2) 4=some (r2,c2):=e2
   rw [e2',Option.bind_some]
   unfold wI
   cases (r2,c2).1 with
   | true=>
     rw [cond_true]
     obtain ⟨r3,c3,e3,h3,h4,_,k3⟩:=Yh (F:=F) (c:=cu c2.a c2.b c2.c.v) (n:=2) k2 (by omega)
     have e3':yA F (cu (r2,c2).2.a (r2,c2).2.b (r2,c2).2.c.v) 2=some (r3,c3):=e3
     rw [e3',Option.bind_some]
     have:=h4 (by omega)
     exact j5 c3 _ (k3.le (by omega)) (by show 0≤w64 (7 + r3);rw [xp (by omega) (by omega)];omega)
   | false=>exact j5 c2 r (k2.le (by omega)) hr0
 · rw [decide_eq_false h6,cond_false]
   exact j5 c1 r (k1.le (by omega)) hr0
theorem zhN {α:Type} {xs:List α} {a b:Nat} (h:a≤b) (hb:b≤xs.length):∃ ys,sub xs (a:Int) (b:Int)=some ys∧ys.length=b - a:=by
 unfold sub
 rw [if_pos ⟨by omega,by omega,by omega⟩]
 exact ⟨_,rfl,by simp;omega⟩
theorem zfI {F:Nat} {g:GR} (hF:500≤F):∀ (d i k:Nat) (a:LB) (b v:Int) (xs:List Int),i + d=(min g.1 8).toNat→d < k→Ck a b (5000 + 2 * i)→xs.length=i →
    ∃ l c',xL F g k a b v xs (i:Int)=some (l,c')∧l.length≤20∧Ck c'.a c'.b 6000:=by
 intro d
 have fin:∀ (i k:Nat) (a:LB) (b v:Int) (xs:List Int),¬ (i:Int) < min g.1 8→Ck a b (5000 + 2 * i)→xs.length=i→i≤8→∃ l c',xL F g (k + 1) a b v xs (i:Int)=some (l,c')∧l.length≤20∧Ck c'.a c'.b 6000:=by
  intro i k a b v xs hi hc hx h8
  simp only [xL]
  rw [JP,Option.bind_some,decide_eq_false hi,cond_false]
  obtain ⟨r,c1,e1,k1⟩:=zcH (F:=F) (c:=cu a b v) (n:=24) hc (by omega)
  rw [e1,Option.bind_some]
  cases (r,c1).1 with
  | true=>
    rw [cond_true]
    obtain ⟨r2,c2,e2,_,k2⟩:=J1 (F:=F) (c:=Cu.mk c1) (xs:=[0,(-1),8]) k1 (by omega) (by decide)
    have e2':xm F (Cu.mk (r,c1).2) [0,(-1),8]=some (r2,c2):=e2
    rw [e2',Option.bind_some,KH (by simp;omega),Option.bind_some]
    exact ⟨_,_,rfl,by simp;omega,k2.le (by omega)⟩
  | false=>exact ⟨_,_,rfl,by omega,k1.le (by omega)⟩
 induction d with
 | zero=>
   intro i k a b v xs hj hk hc hx
   obtain ⟨k,rfl⟩:∃ k',k=k' + 1:=⟨k - 1,by omega⟩
   exact fin i k a b v xs (by omega) hc hx (by omega)
 | succ d ih=>
   intro i k a b v xs hj hk hc hx
   obtain ⟨k,rfl⟩:∃ k',k=k' + 1:=⟨k - 1,by omega⟩
   simp only [xL]
   rw [JP,Option.bind_some,decide_eq_true (by omega),cond_true,hx,z5 (n:=i + 1) (by omega) (by unfold Sm;omega)]
   obtain ⟨r,c1,e1,h1,h2,_,k1⟩:=Yh (F:=F) (c:=cu a b v) (n:=((i + 1:Nat):Int)) hc (by omega)
   rw [e1,Option.bind_some]
   have:=h2 (by omega)
   obtain ⟨p,hp⟩:∃ p:Nat,r=p:=⟨r.toNat,by omega⟩
   subst hp
   obtain ⟨ys,s1,s2⟩:=zhN (xs:=xs) (a:=0) (b:=p) (by omega) (by omega)
   obtain ⟨zs,s3,s4⟩:=zhN (xs:=xs) (a:=p) (b:=i) (by omega) (by omega)
   have s1':sub xs 0 ((p:Int),c1).1=some ys:=s1
   have s3':sub xs ((p:Int),c1).1 (i:Int)=some zs:=s3
   rw [s1',Option.bind_some,KH (by simp;omega),Option.bind_some,KH (by simp;omega),Option.bind_some,s3',Option.bind_some,KH (by simp;omega),Option.bind_some]
   exact ih (i + 1) k c1.a c1.b c1.c.v _ (by omega) (by omega) (k1.le (by omega)) (by simp;omega)
end Go.Zq
namespace Go.Zq
theorem zht {m x:Nat}:(fun j=>m.testBit j || j == x)=(m ||| 2 ^ x).testBit:=by
 funext j
 rw [Nat.testBit_or,Nat.testBit_two_pow]
 by_cases e:x=j
 · subst e;simp
 · have h1:decide (x=j)=false:=by simpa using e
   have h2:(j == x)=false:=by simp;omega
   rw [h1,h2]
theorem JG {β:Type} {L:Nat→Int→Option β} {n x:Nat} {p:Nat→Bool} {r:Option β} (hf:Yq p n=some x) (hs:∀ k i,i < n→p i=false→L (k + 1) (i:Int)=L k ((i + 1:Nat):Int)) (hx:∀ k,L (k + 1) (x:Int)=r):∀ k,n < k→L k 0=r:=by
 obtain ⟨h1,_,h3⟩:=wH hf
 have key:∀ d i k,i + d=x→d < k→L k (i:Int)=r:=by
  intro d
  induction d with
  | zero=>
    intro i k hi hk
    obtain ⟨k,rfl⟩:∃ k',k=k' + 1:=⟨k - 1,by omega⟩
    obtain rfl:i=x:=by omega
    exact hx k
  | succ d ih=>
    intro i k hi hk
    obtain ⟨k,rfl⟩:∃ k',k=k' + 1:=⟨k - 1,by omega⟩
    rw [hs k i (by omega) (h3 i (by omega))]
    exact ih (i + 1) k (by omega) (by omega)
 intro k hk
 exact key x 0 k (by omega) (by omega)
inductive Grd (n:Nat) (p:Nat→Nat→Bool):Nat→Nat→List Int→Prop
 | done:Grd n p 0 (2 ^ n - 1) []
 | step {d m x:Nat} {l:List Int}:m < 2 ^ n→Yq (fun y=>!m.testBit y && p m y) n=some x→Grd n p d (m ||| 2 ^ x) l→Grd n p (d + 1) m ((x:Int) :: l)
theorem zeI {n:Nat} {p:Nat→Nat→Bool} {d m:Nat} {l:List Int} (h:Grd n p d m l):l.length=d:=by
 induction h with
 | done=>rfl
 | step _ _ _ ih=>rw [List.length_cons,ih]
theorem zbr {n m x:Nat} (hx:x < n) (hb:m.testBit x=false):yO (fun j=>!(m ||| 2 ^ x).testBit j) n + 1=yO (fun j=>!m.testBit j) n:=by
 have h1:=zfX (p:=fun j=>!m.testBit j) (q:=fun j=>j == x) n
 have h2:yO (fun j=>!m.testBit j && !(j == x)) n=yO (fun j=>!(m ||| 2 ^ x).testBit j) n:=by
  refine ZU fun j _=>?_
  rw [← zht]
  show (!m.testBit j && !(j == x))=!(m.testBit j || j == x)
  cases m.testBit j <;> cases (j == x) <;> rfl
 have h3:yO (fun j=>(j == x) && !m.testBit j) n=1:=by
  have key:∀ k,yO (fun j=>(j == x) && !m.testBit j) k=if x < k then 1 else 0:=by
   intro k
   induction k with
   | zero=>rfl
   | succ k ih=>
     have hs:yO (fun j=>(j == x) && !m.testBit j) (k + 1)=yO (fun j=>(j == x) && !m.testBit j) k + if ((k == x) && !m.testBit k) then 1 else 0:=by
      rw [u9,u9];rfl
     rw [hs,ih]
     by_cases e:k=x
     · have h1:¬ x < k:=by omega
       have h2:x < k + 1:=by omega
       simp [e,h1,h2,hb]
     · have h1:(k == x)=false:=by simpa using e
       by_cases h:x < k
       · have h2:x < k + 1:=by omega
         simp [h1,h,h2]
       · have h2:¬ x < k + 1:=by omega
         simp [h1,h,h2]
  rw [key,if_pos hx]
 omega
theorem zmR {n:Nat} {c:Nat→Nat→Int} {nn:Int} {T:Nat→Int} (hn:n≤8) (hT:Yl n c nn T) {t:Int}:∀ m,m < 2 ^ n→T m≤t→∃ l,Grd n (fun m x=>decide (max (c m x) (T (m ||| 2 ^ x))≤t)) (yO (fun j=>!m.testBit j) n) m l:=by
 have key:∀ d m,m + d=2 ^ n→m < 2 ^ n→T m≤t→∃ l,Grd n (fun m x=>decide (max (c m x) (T (m ||| 2 ^ x))≤t)) (yO (fun j=>!m.testBit j) n) m l:=by
  intro d
  induction d using Nat.strongRecOn with
  | ind d ih=>
    intro m hd hm ht
    by_cases hf:m=2 ^ n - 1
    · have:yO (fun j=>!m.testBit j) n=0:=by
       rw [MI,vu]
       intro j hj
       rw [hf,Nat.testBit_two_pow_sub_one,decide_eq_true hj];rfl
      rw [this,hf]
      exact ⟨[],.done⟩
    · have hne:y6 n m≠[]:=fun e=>hf ((Wt hm).1 e)
      rw [hT m hm,Nj hne] at ht
      obtain ⟨y,hy,h⟩:=ht
      obtain ⟨z,rfl,hz,hzb⟩:=wO.1 hy
      rw [Int.toNat_natCast] at h
      cases hfs:Yq (fun y=>!m.testBit y && decide (max (c m y) (T (m ||| 2 ^ y))≤t)) n with
      | none=>
        have:=vu.1 hfs z hz
        rw [hzb,decide_eq_true h] at this;cases this
      | some x=>
        obtain ⟨hx,hp,_⟩:=wH hfs
        simp only [Bool.and_eq_true,Bool.not_eq_true',decide_eq_true_eq] at hp
        have h1:=ZC m (Jj hn hm) x (by omega) hp.1
        have h2:=Ww hm hx
        have h3:=Nat.two_pow_pos x
        obtain ⟨l,hl⟩:=ih (2 ^ n - (m ||| 2 ^ x)) (by omega) (m ||| 2 ^ x) (by omega) h2 (by omega)
        refine ⟨(x:Int) :: l,?_⟩
        rw [← zbr hx hp.1]
        exact .step hm hfs hl
 intro m hm
 exact key (2 ^ n - m) m (by omega) hm
end Go.Zq
namespace Go.Zq
theorem Lq {F:Nat} {g:Gr} {best:List Int} (hg:xa g=true) (hF:300≤F) (hb:best.length=2 ^ g.1.toNat) :
    ∀ {d m:Nat} {l:List Int},Grd g.1.toNat (fun m x=>decide (max (frP g m x) (best.getD (m ||| 2 ^ x) 0)≤best.getD 0 0)) d m l →
    ∀ (o:NL Int) (k:Nat),d < k→o.list.length + d≤100→∃ o',zP F best ⟨(⟨yh g⟩,()),()⟩ ⟨yh g⟩ k o (m:Int)=some o'∧o'.list=o.list++l:=by
 have h8:=zY hg
 obtain ⟨n,hn⟩:∃ n:Nat,g.1.toNat=n:=⟨_,rfl⟩
 have hn8:n≤8:=by omega
 have hpow:=Nat.two_pow_pos n
 have hp256:=Y0 hn8
 have hall:yg F ⟨yh g⟩=some ((2 ^ n - 1:Nat):Int):=by
  unfold yg
  rw [wi,hn,yP (by omega),Option.bind_some,xp (by omega) (by omega)]
  congr 1;omega
 rw [hn] at hb ⊢
 intro d m l h
 induction h with
 | done=>
   intro o k hk _
   obtain ⟨k,rfl⟩:∃ k',k=k' + 1:=⟨k - 1,by omega⟩
   refine ⟨o,?_,by simp⟩
   simp only [zP]
   rw [hall,Option.bind_some,bne_self_eq_false,cond_false]
 | step hm hf hgrd ih=>
   rename_i d m x l
   intro o k hk ho
   obtain ⟨k,rfl⟩:∃ k',k=k' + 1:=⟨k - 1,by omega⟩
   obtain ⟨hx,hp,_⟩:=wH hf
   simp only [Bool.and_eq_true,Bool.not_eq_true',decide_eq_true_eq] at hp
   obtain ⟨hxb,hle⟩:=hp
   have hmf:m≠2 ^ n - 1:=by
    rintro rfl
    rw [Nat.testBit_two_pow_sub_one,decide_eq_true hx] at hxb;cases hxb
   have hmk:zK .i64 ((2 ^ n - 1:Nat):Int) (m:Int)=((mkm (fun x=>!m.testBit x) n:Nat):Int):=by
    obtain ⟨c,hc,_,hb⟩:=w8 (a:=2 ^ n - 1) (b:=m) (by omega) (by omega)
    rw [hc]
    congr 1
    refine vw fun j=>?_
    rw [hb,Nat.testBit_two_pow_sub_one]
   have hl8:(y6 n m).length≤8:=by unfold y6;rw [yJ];exact Nat.le_trans vK hn8
   obtain ⟨o',ho1,ho2⟩:=ih (.of (o.list++[(x:Int)])) k (by omega) (by show (o.list++[(x:Int)]).length + d≤100;rw [List.length_append,List.length_singleton];omega)
   refine ⟨o',?_,by rw [ho2];simp [NL.list]⟩
   have hne:(((m:Int)) != ((2 ^ n - 1:Nat):Int))=true:=by rw [bne_iff_ne];omega
   simp only [zP]
   rw [hall,Option.bind_some,hne,cond_true,Option.bind_some,hmk,Z4 hn8 (by omega),Option.bind_some]
   rw [Le,Option.map_eq_some_iff] at hf
   obtain ⟨i,hi,hix⟩:=hf
   have hil:=(wH hi).1
   have hstep:∀ (i:Nat) (hi:i < (y6 n m).length),∃ y:Nat,(y6 n m).getD i 0=y∧y < n∧xj F ⟨yh g⟩ (m:Int) (y:Int)=some (frP g m y)∧vR .i64 1 (y:Int)=some ((2 ^ y:Nat):Int)∧ior .i64 (m:Int) ((2 ^ y:Nat):Int)=((m ||| 2 ^ y:Nat):Int)∧idx best (((m ||| 2 ^ y:Nat)):Int)=some (best.getD (m ||| 2 ^ y) 0):=by
    intro i hi
    obtain ⟨y,hy,hyn,hyb⟩:=wO.1 (ww (d:=0) hi)
    have:=Ww hm hyn
    exact ⟨y,hy,hyn,My hg (by omega) (by rw [hn];exact hm) (by rw [hn];exact hyn),yP (by omega),Za (by omega) (uc (by omega)),zL (by omega)⟩
   have hz:idx best 0=some (best.getD 0 0):=zL (xs:=best) (i:=0) (d:=0) (by omega)
   have hmax:∀ a b:Int,(if b > a then b else a)=max a b:=by
    intro a b
    by_cases h:b > a
    · rw [if_pos h,Int.max_eq_right (by omega)]
    · rw [if_neg h,Int.max_eq_left (by omega)]
   refine JG (L:=fun k2 i=>z6 F best ⟨(⟨yh g⟩,()),()⟩ ⟨yh g⟩ o (m:Int) (y6 n m) (zP F best ⟨(⟨yh g⟩,()),()⟩ ⟨yh g⟩ k) k2 i) hi ?_ ?_ F (by show (y6 n m).length < F;omega)
   · intro k2 i hi hpi
     obtain ⟨y,hy,hyn,y1,y2,y3,y4⟩:=hstep i hi
     have hpi:decide (max (frP g m ((y6 n m).getD i 0).toNat) (best.getD (m ||| 2 ^ ((y6 n m).getD i 0).toNat) 0)≤best.getD 0 0)=false:=hpi
     rw [hy,Int.toNat_natCast] at hpi
     simp only [z6]
     rw [decide_eq_true (show (i:Int) < ((y6 n m).length:Int) from by have:i < (y6 n m).length:=hi;omega),cond_true,zL (xs:=y6 n m) (d:=0) hi,Option.bind_some,hy,y1,Option.bind_some,y2,Option.bind_some,y3,y4,Option.bind_some,hz,Option.bind_some,hmax,hpi,cond_false,z5 (n:=(y6 n m).length) hi (by have:(zo (fun x=>!m.testBit x) n).length≤8:=hl8;unfold Sm;omega)]
   · intro k2
     obtain ⟨y,hy,hyn,y1,y2,y3,y4⟩:=hstep i hil
     have hyx:y=x:=by
      have e:((y6 n m).getD i 0).toNat=x:=hix
      rw [hy] at e;omega
     subst hyx
     have hle':decide (max (frP g m y) (best.getD (m ||| 2 ^ y) 0)≤best.getD 0 0)=true:=decide_eq_true hle
     simp only [z6]
     rw [decide_eq_true (show (i:Int) < ((y6 n m).length:Int) from by have:i < (y6 n m).length:=hil;omega),cond_true,zL (xs:=y6 n m) (d:=0) hil,Option.bind_some,hy,y1,Option.bind_some,y2,Option.bind_some,y3,y4,Option.bind_some,hz,Option.bind_some,hmax,hle',cond_true,vF (by omega),Option.bind_some,Option.bind_some]
     rw [y3]
     exact ho1
end Go.Zq
namespace Go.Zq
theorem zlh {F:Nat} {l:List Int} (hl:l.length≤1000):Kz F l=some (.of l):=by
 unfold Kz wS
 rw [if_pos (by
  have:(2:Nat) ^ 40=1099511627776:=by decide
  simp only [List.length_nil]
  omega)]
 rfl
theorem Qc {g:Gr} {p:Nat→Bool} (h:∀ j,p j=false):zo (frt g p) g.1.toNat=[]:=by
 rw [List.eq_nil_iff_forall_not_mem]
 intro y hy
 obtain ⟨x,_,_,hb⟩:=y5.1 hy
 unfold frt at hb
 rw [h x] at hb;cases hb
theorem zfD {F:Nat} {g:Gr} {T:Nat→Int} {t:Int} (hg:xa g=true) (hF:300≤F) (hG:g.2.length < F) (hs:Sm g.2.length) (hT:Yl g.1.toNat (frP g) 0 T) (ht:0≤t) :
    ∀ d (m:Nat) (begun:List Int) (k:Nat),m < 2 ^ g.1.toNat→bq begun=m.testBit→(∀ y∈begun,0≤y∧y < g.1)→begun.length + d=g.1.toNat→yO (fun j=>!m.testBit j) g.1.toNat=d→d < k →
     (frC g m≤t→T m≤t→∃ l,Grd g.1.toNat (fun m x=>decide (max (frP g m x) (T (m ||| 2 ^ x))≤t)) d m l∧xt F k g begun t=some (begun++l,true)) ∧
     (¬ (frC g m≤t∧T m≤t)→xt F k g begun t=some ([],false)):=by
 have h8:=zY hg
 obtain ⟨n,hn⟩:∃ n:Nat,g.1.toNat=n:=⟨_,rfl⟩
 have hn8:n≤8:=by omega
 have hgn:g.1=(n:Int):=by omega
 have hpow:=Nat.two_pow_pos n
 have hp256:=Y0 hn8
 rw [hn] at hT ⊢
 intro d
 induction d with
 | zero=>
   intro m begun k hm hbm hr hlen hc hk
   obtain ⟨k,rfl⟩:∃ k',k=k' + 1:=⟨k - 1,by omega⟩
   have hfull:m=2 ^ n - 1:=Qv hm fun x hx=>by
    rw [MI,vu] at hc
    have:=hc x hx
    simpa using this
   have hTm:T m≤t:=by
    rw [hT m hm,(Wt hm).2 hfull,MR];exact ht
   have hfr:uX F g begun=some (zo (frt g m.testBit) n):=by
    have:=Mk (F:=F) (l:=begun) hg hr (by omega) (by omega) hG hs
    rw [hbm,hn] at this;exact this
   have hfc:((zo (frt g m.testBit) n).length:Int)=frC g m:=by unfold frC;rw [yJ,hn]
   show (_→_→∃ l,_∧ub F (xt F k) g begun t=_)∧(_→ub F (xt F k) g begun t=_)
   unfold ub
   rw [hfr,Option.bind_some,hfc]
   constructor
   · intro h1 _
     refine ⟨[],by rw [hfull];exact .done,?_⟩
     have:((begun.length:Int) == g.1)=true:=by rw [beq_iff_eq];omega
     rw [decide_eq_false (by omega),cond_false,this,cond_true,List.append_nil]
   · intro h
     have h1:frC g m > t:=by
      by_cases h2:frC g m≤t
      · exact absurd ⟨h2,hTm⟩ h
      · omega
     rw [decide_eq_true h1,cond_true]
 | succ d ih=>
   intro m begun k hm hbm hr hlen hc hk
   obtain ⟨k,rfl⟩:∃ k',k=k' + 1:=⟨k - 1,by omega⟩
   have hfr:uX F g begun=some (zo (frt g m.testBit) n):=by
    have:=Mk (F:=F) (l:=begun) hg hr (by omega) (by omega) hG hs
    rw [hbm,hn] at this;exact this
   have hfc:((zo (frt g m.testBit) n).length:Int)=frC g m:=by unfold frC;rw [yJ,hn]
   have hfull:m≠2 ^ n - 1:=by
    intro e
    have:yO (fun j=>!m.testBit j) n=0:=by
     rw [MI,vu]
     intro j hj
     rw [e,Nat.testBit_two_pow_sub_one,decide_eq_true hj];rfl
    omega
   have hne:y6 n m≠[]:=fun e=>hfull ((Wt hm).1 e)
   have hnx:∀ x:Nat,x < n→m.testBit x=false →
       (frC g (m ||| 2 ^ x)≤t→T (m ||| 2 ^ x)≤t→∃ l,Grd n (fun m x=>decide (max (frP g m x) (T (m ||| 2 ^ x))≤t)) d (m ||| 2 ^ x) l∧xt F k g (begun++[(x:Int)]) t=some ((begun++[(x:Int)])++l,true)) ∧
       (¬ (frC g (m ||| 2 ^ x)≤t∧T (m ||| 2 ^ x)≤t)→xt F k g (begun++[(x:Int)]) t=some ([],false)):=by
    intro x hx hb
    refine ih (m ||| 2 ^ x) (begun++[(x:Int)]) k (Ww hm hx) ?_ ?_ (by rw [List.length_append,List.length_singleton];omega) (by have:=zbr hx hb;omega) (by omega)
    · rw [← zht,← hbm]
      funext j
      unfold bq
      simp only [List.mem_append,List.mem_singleton,Bool.decide_or]
      congr 1
      by_cases e:j=x
      · subst e;simp
      · have h1:¬ ((j:Int)=(x:Int)):=by omega
        have h2:(j == x)=false:=by simpa using e
        rw [decide_eq_false h1,h2]
    · intro y hy
      rcases List.mem_append.1 hy with h | h
      · exact hr y h
      · obtain rfl:y=(x:Int):=by simpa using h
        omega
   have hTm:T m≤t↔∃ x,Yq (fun y=>!m.testBit y && decide (max (frP g m y) (T (m ||| 2 ^ y))≤t)) n=some x:=by
    rw [hT m hm,Nj hne]
    constructor
    · rintro ⟨y,hy,h⟩
      obtain ⟨z,rfl,hz,hzb⟩:=wO.1 hy
      rw [Int.toNat_natCast] at h
      cases hfs:Yq (fun y=>!m.testBit y && decide (max (frP g m y) (T (m ||| 2 ^ y))≤t)) n with
      | none=>
        have:=vu.1 hfs z hz
        rw [hzb,decide_eq_true h] at this;cases this
      | some x=>exact ⟨x,rfl⟩
    · rintro ⟨x,hx⟩
      obtain ⟨h1,h2,_⟩:=wH hx
      simp only [Bool.and_eq_true,Bool.not_eq_true',decide_eq_true_eq] at h2
      exact ⟨(x:Int),wO.2 ⟨x,rfl,h1,h2.1⟩,by rw [Int.toNat_natCast];exact h2.2⟩
   have hin:∀ x:Nat,wC F begun (x:Int)=some (m.testBit x):=by
    intro x
    rw [YW (by omega) (by unfold Sm;omega),← hbm];rfl
   have hskip:∀ k2 x,x < n→(!m.testBit x && decide (max (frP g m x) (T (m ||| 2 ^ x))≤t))=false→wk F (xt F k) begun t g (k2 + 1) (x:Int)=wk F (xt F k) begun t g k2 ((x + 1:Nat):Int):=by
    intro k2 x hx hp
    simp only [wk]
    rw [hgn,decide_eq_true (show (x:Int) < (n:Int) by omega),cond_true,hin,Option.bind_some,z5 hx (by unfold Sm;omega)]
    cases hb:m.testBit x with
    | true=>rfl
    | false=>
      rw [hb,Bool.not_false,Bool.true_and,decide_eq_false_iff_not,Int.max_le] at hp
      rw [cond_false,zlh (by omega),Option.bind_some]
      show ((wS begun [(x:Int)]).bind _)=_
      rw [vF (by omega),Option.bind_some,(hnx x hx hb).2 hp,Option.bind_some]
      rfl
   show (_→_→∃ l,_∧ub F (xt F k) g begun t=_)∧(_→ub F (xt F k) g begun t=_)
   unfold ub
   rw [hfr,Option.bind_some,hfc]
   have hb0:((begun.length:Int) == g.1)=false:=by rw [beq_eq_false_iff_ne];omega
   constructor
   · intro h1 h2
     obtain ⟨x,hx⟩:=hTm.1 h2
     obtain ⟨x1,x2,_⟩:=wH hx
     simp only [Bool.and_eq_true,Bool.not_eq_true',decide_eq_true_eq] at x2
     have x3:frP g m x≤t∧T (m ||| 2 ^ x)≤t:=Int.max_le.1 x2.2
     obtain ⟨l,l1,l2⟩:=(hnx x x1 x2.1).1 x3.1 x3.2
     refine ⟨(x:Int) :: l,.step hm hx l1,?_⟩
     rw [decide_eq_false (by omega),cond_false,hb0,cond_false]
     refine JG (L:=fun k2 x=>wk F (xt F k) begun t g k2 x) hx hskip ?_ F (by omega)
     intro k2
     simp only [wk]
     rw [hgn,decide_eq_true (show (x:Int) < (n:Int) by omega),cond_true,hin,Option.bind_some,x2.1,cond_false,zlh (by omega),Option.bind_some]
     show ((wS begun [(x:Int)]).bind _)=_
     rw [vF (by omega),Option.bind_some,l2,Option.bind_some]
     simp
   · intro h
     by_cases h1:frC g m > t
     · rw [decide_eq_true h1,cond_true]
     · rw [decide_eq_false h1,cond_false,hb0,cond_false]
       have hno:Yq (fun y=>!m.testBit y && decide (max (frP g m y) (T (m ||| 2 ^ y))≤t)) n=none:=by
        cases hfs:Yq (fun y=>!m.testBit y && decide (max (frP g m y) (T (m ||| 2 ^ y))≤t)) n with
        | none=>rfl
        | some x=>exact absurd ⟨by omega,hTm.2 ⟨x,hfs⟩⟩ h
       refine we (L:=fun k2 x (_:Unit)=>wk F (xt F k) begun t g k2 x) (n:=n) (fun _ _=>True) ?_ ?_ F () (by omega) trivial
       · intro k2 x _ hx _
         exact ⟨(),trivial,hskip k2 x hx (vu.1 hno x hx)⟩
       · intro k2 _ _
         simp only [wk]
         rw [hgn,decide_eq_false (show ¬ (n:Int) < (n:Int) by omega),cond_false]
theorem zha {F:Nat} {g:Gr} {best:List Int} (hg:xa g=true) (hF:300≤F) (hG:g.2.length < F) (hs:Sm g.2.length) (hb:best.length=2 ^ g.1.toNat) (hT:Yl g.1.toNat (frP g) 0 (fun m=>best.getD m 0)):ut F g=some (best.getD 0 0):=by
 have h8:=zY hg
 have hp256:=Y0 (n:=g.1.toNat) (by omega)
 have hpow:=Nat.two_pow_pos g.1.toNat
 obtain ⟨out,o1,o2,o3⟩:=NF hg hF hG hs
 have heq:=zcA (n:=g.1.toNat) (c:=frC g) (by omega) (fun m=>Js) o3 hT
 unfold ut
 have hgn:g.1=((g.1.toNat:Nat):Int):=by omega
 have hsh:=yP (j:=g.1.toNat) (by omega)
 rw [← hgn] at hsh
 rw [o1,Option.bind_some,hsh,Option.bind_some]
 have hw:w64 (((2 ^ g.1.toNat:Nat):Int) - 1)=((2 ^ g.1.toNat - 1:Nat):Int):=by rw [xp (by omega) (by omega)];omega
 rw [hw,zL (d:=0) (by omega),Option.bind_some,heq]
end Go.Zq
namespace Go.Zq
end Go.Zq
namespace Go.Zq
theorem LG {l:List Int} {t i x:Nat} (ht:t < i) (hl:t < l.length) (hx:l.getD t 0=(x:Int)):xi l i x=true:=by
 unfold xi
 refine decide_eq_true ?_
 rw [List.mem_take_iff_getElem]
 refine ⟨t,by omega,?_⟩
 rw [← hx,List.getD_eq_getElem?_getD,List.getElem?_eq_getElem hl];rfl
theorem zkA {g:Gr} {m x b:Nat} (h:vr g m x b=true):m.testBit b=false∧b≠x:=by
 unfold vr at h
 simp only [Bool.and_eq_true,Bool.not_eq_true',beq_eq_false_iff_ne] at h
 exact h.1
end Go.Zq
