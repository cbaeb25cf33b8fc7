/- Plain mathematics: what the functions answer (part 2). Conditions: stated in each theorem. -/
import Derived.Test.YtelahampjnaimadM1
set_option linter.unusedVariables false
set_option linter.unusedSimpArgs false
namespace Go.Zq
theorem Ug {L:Nat→Int→Option Int} {n:Nat} {p:Nat→Bool} (hs:∀ k i,i < n→L (k + 1) (i:Int)=bif p i then some (i:Int) else L k ((i + 1:Nat):Int)) (he:∀ k,L (k + 1) (n:Int)=some (-1)) :
    ∀ k,n < k→∃ r,L k 0=some r∧decide (r≥0)=wi p n∧∀ i,KQ p n=some i→r=i:=by
 have key:∀ d k i,i + d=n→d < k→(∀ j,j < i→p j=false)→∃ r,L k (i:Int)=some r∧decide (r≥0)=wi p n∧∀ i,KQ p n=some i→r=i:=by
  intro d
  induction d with
  | zero=>
    intro k i hi hk hp
    obtain ⟨k,rfl⟩:∃ k',k=k' + 1:=⟨k - 1,by omega⟩
    obtain rfl:i=n:=by omega
    refine ⟨-1,he k,?_,?_⟩
    · have:wi p i=false:=by
       rw [Bool.eq_false_iff];intro h
       obtain ⟨j,hj,h⟩:=wq.1 h
       rw [hp j hj] at h;cases h
      rw [this];decide
    · intro j hj
      have:=LZ hj
      rw [hp j this.1] at this;cases this.2.1
  | succ d ih=>
    intro k i hi hk hp
    obtain ⟨k,rfl⟩:∃ k',k=k' + 1:=⟨k - 1,by omega⟩
    rw [hs k i (by omega)]
    cases hpi:p i with
    | true=>
      refine ⟨i,by rw [zn],?_,?_⟩
      · rw [wq.2 ⟨i,by omega,hpi⟩];simp
      · intro j hj
        obtain ⟨h1,h2,h3⟩:=LZ hj
        have a1:¬ i < j:=fun h=>by rw [h3 i h] at hpi;cases hpi
        have a2:¬ j < i:=fun h=>by rw [hp j h] at h2;cases h2
        omega
    | false=>
      rw [zj]
      refine ih k (i + 1) (by omega) (by omega) ?_
      intro j hj
      by_cases e:j=i
      · subst e;exact hpi
      · exact hp j (by omega)
 intro k hk
 exact key n k 0 (by omega) hk (fun j hj=>absurd hj (by omega))
theorem zbR {α:Type} {xs:List α} {i:Nat} (h:i≤xs.length):sub xs 0 (i:Int)=some (xs.take i):=by
 unfold sub
 rw [if_pos ⟨by omega,by omega,by omega⟩]
 simp
theorem zki {l:List Int} {x:Int}:wi (fun i=>x == l.getD i 0) l.length=decide (x∈l):=by
 rw [xe,wq,z9]
 constructor
 · rintro ⟨i,hi,h⟩
   have e:x=l.getD i 0:=by simpa using h
   rw [e];exact xr hi
 · intro h
   obtain ⟨i,hi,e⟩:=uP.1 h
   refine ⟨i,hi,?_⟩
   rw [zW,yD hi,yI,e]
   exact Xj x
theorem Lh {F:Nat} {l:List Int} {x:Int} (hF:l.length < F) (hl:Sm l.length):y3 F l x=some (decide (x∈l)):=by
 unfold y3 Zc
 obtain ⟨r,h1,h2,_⟩:=Ug (L:=fun k i=>wL F l x k i) (n:=l.length) (p:=fun i=>x == l.getD i 0) (by
  intro k i hi
  simp only [wL]
  rw [zt (show (i:Int) < (l.length:Int) by omega),zn,z8 (d:=0) hi,zc,yh hi hl]) (by
  intro k
  simp only [wL]
  rw [zD (show ¬ (l.length:Int) < (l.length:Int) by omega),zj]) F hF
 rw [h1,zc,h2,zki]
def zc2 (xs:List (List Int)):Nat→Nat
 | 0=>0
 | i + 1=>zc2 xs i + (xs.getD i []).length
theorem Nc {xs:List (List Int)}:∀ {i j:Nat},i≤j→zc2 xs i≤zc2 xs j
 | i,0,h=>by obtain rfl:i=0:=by omega
             exact yM _
 | i,j + 1,h=>by
   by_cases e:i=j + 1
   · subst e;exact yM _
   · have:=Nc (xs:=xs) (i:=i) (j:=j) (by omega)
     simp only [zc2];omega
theorem zjl {xs:List (List Int)} {i:Nat} (h:i < xs.length):(xs.getD i []).length≤zc2 xs xs.length:=by
 have:=Nc (xs:=xs) (i:=i + 1) (j:=xs.length) (by omega)
 simp only [zc2] at this;omega
def W3 (n:Int) (l:List Int):Bool:=wX (fun i=>(decide (0≤l.getD i 0) && decide (l.getD i 0 < n)) && (i == 0 || decide (l.getD (i - 1) 0 < l.getD i 0))) l.length
theorem ziz {F:Nat} {g:Gr} {l:List Int} (hg:xl g=true) (hF:l.length < F) (hl:Sm l.length):Uc F g l=some (W3 g.1 l):=by
 have h8:=yx hg
 unfold Uc Yt
 have hw:w64 (g.1 - 1)=g.1 - 1:=wr (by omega) (by omega)
 rw [hw,wR (L:=fun k i=>xt F l 0 (g.1 - 1) k i) (n:=l.length) (p:=fun i=>(decide (0≤l.getD i 0) && decide (l.getD i 0 < g.1)) && (i == 0 || decide (l.getD (i - 1) 0 < l.getD i 0))) (bad:=some false) (fin:=some true) ?_ ?_ F hF]
 · unfold W3
   cases wX (fun i=>(decide (0≤l.getD i 0) && decide (l.getD i 0 < g.1)) && (i == 0 || decide (l.getD (i - 1) 0 < l.getD i 0))) l.length <;> rfl
 · intro k i hi
   simp only [xt,uv]
   rw [zt (show (i:Int) < (l.length:Int) by omega),zn,z8 (d:=0) hi,zc,QP,zc,yh hi hl]
   have e:decide (l.getD i 0≤g.1 - 1)=decide (l.getD i 0 < g.1):=by
    rw [decide_eq_decide];omega
   rw [e]
   cases hb:(decide (0≤l.getD i 0) && decide (l.getD i 0 < g.1)) with
   | false=>rfl
   | true=>
     rw [yQ,zj,yg]
     by_cases h0:i=0
     · subst h0;rfl
     · rw [zt (show (i:Int) > 0 by omega),zn,JR (by omega) hi hl,z8 (d:=0) (by omega),zc,zc]
       have h0':(i == 0)=false:=by simpa using h0
       rw [h0',Bool.false_or]
       by_cases h:l.getD (i - 1) 0 < l.getD i 0
       · rw [zt h,zD (by omega)];rfl
       · rw [zD h,zt (by omega)];rfl
 · intro k
   simp only [xt]
   rw [zD (show ¬ (l.length:Int) < (l.length:Int) by omega),zj]
theorem zhm {F:Nat} {g:Gr} {l:List Int} (hg:xl g=true) (hF:l.length < F) (hl:Sm l.length) (hG:g.2.length < F) (hs:Sm g.2.length) (h3:3≤F):W8 F g l=some (W3 g.1 l):=by
 have h8:=yx hg
 unfold W8 Yz vp Zv
 have hw:w64 (g.1 - 1)=g.1 - 1:=wr (by omega) (by omega)
 rw [Yy hG h3 hs,zc,hg,zn,hw]
 rw [wR (L:=fun k i=>xH F 0 (g.1 - 1) l k i) (n:=l.length) (p:=fun i=>decide (0≤l.getD i 0) && decide (l.getD i 0 < g.1)) (bad:=some false) (fin:=some true) ?_ ?_ F hF]
 · have hinc:xw F l F 1=some (wX (fun i=>i == 0 || decide (l.getD (i - 1) 0 < l.getD i 0)) l.length):=by
    show xw F l F ((0:Int) + 1)=_
    by_cases hl0:l.length=0
    · obtain ⟨k,rfl⟩:∃ k,F=k + 1:=⟨F - 1,by omega⟩
      simp only [xw]
      rw [hl0,zD (by omega),zj];rfl
    · rw [wR (L:=fun k i=>xw F l k (i + 1)) (n:=l.length - 1) (p:=fun i=>decide (l.getD i 0 < l.getD (i + 1) 0)) (bad:=some false) (fin:=some true) ?_ ?_ F (by omega)]
      · have:wX (fun i=>decide (l.getD i 0 < l.getD (i + 1) 0)) (l.length - 1)=wX (fun i=>i == 0 || decide (l.getD (i - 1) 0 < l.getD i 0)) l.length:=by
         rw [xe,yK,yK]
         constructor
         · intro h i hi
           cases i with
           | zero=>rfl
           | succ i=>simpa using h i (by omega)
         · intro h i hi
           simpa using h (i + 1) (by omega)
        rw [this]
        cases wX (fun i=>i == 0 || decide (l.getD (i - 1) 0 < l.getD i 0)) l.length <;> rfl
      · intro k i hi
        have e1:((i:Int) + 1)=((i + 1:Nat):Int):=by omega
        simp only [xw]
        rw [e1,zt (show ((i + 1:Nat):Int) < (l.length:Int) by omega),zn,JR (n:=l.length) (by omega) (by omega) hl,Nat.add_sub_cancel,z8 (d:=0) (by omega),zc,z8 (d:=0) (by omega),zc,yh (n:=l.length) (by omega) hl]
        by_cases h:l.getD i 0 < l.getD (i + 1) 0
        · rw [zt h,zD (by omega)];rfl
        · rw [zD h,zt (by omega)];rfl
      · intro k
        simp only [xw]
        rw [zD (by omega),zj]
   have hsplit:W3 g.1 l=(wX (fun i=>decide (0≤l.getD i 0) && decide (l.getD i 0 < g.1)) l.length && wX (fun i=>i == 0 || decide (l.getD (i - 1) 0 < l.getD i 0)) l.length):=by
    unfold W3
    rw [xe,zq,yK,yK,yK]
    constructor
    · intro h
      constructor
      · intro i hi;have:=h i hi;rw [zq] at this;exact this.1
      · intro i hi;have:=h i hi;rw [zq] at this;exact this.2
    · rintro ⟨h1,h2⟩ i hi;rw [zq];exact ⟨h1 i hi,h2 i hi⟩
   rw [hinc,hsplit]
   cases wX (fun i=>decide (0≤l.getD i 0) && decide (l.getD i 0 < g.1)) l.length <;> rfl
 · intro k i hi
   simp only [xH]
   rw [zt (show (i:Int) < (l.length:Int) by omega),zn,z8 (d:=0) hi,zc,K2,zc,yh hi hl]
   have e:decide (l.getD i 0≤g.1 - 1)=decide (l.getD i 0 < g.1):=by
    rw [decide_eq_decide];omega
   rw [e]
   cases (decide (0≤l.getD i 0) && decide (l.getD i 0 < g.1)) <;> rfl
 · intro k
   simp only [xH]
   rw [zD (show ¬ (l.length:Int) < (l.length:Int) by omega),zj]
def JL (v:Int→Int) (s:Option Int) (y:Int):Option Int:=match s with
 | none=>some (v y)
 | some b=>if v y < b then some (v y) else some b
def mnO (v:Int→Int) (l:List Int):Option Int:=l.foldl (JL v) none
def mn (v:Int→Int) (l:List Int) (nn:Int):Int:=(mnO v l).getD nn
theorem zbF {v:Int→Int} {l:List Int} {y:Int}:mnO v (l++[y])=JL v (mnO v l) y:=by simp [mnO,List.foldl_append]
theorem zca {v:Int→Int}:∀ {l:List Int},mnO v l=none↔l=[]:=by
 intro l
 constructor
 · intro h
   cases hl:l.reverse with
   | nil=>simpa using hl
   | cons y ys=>
     have:l=ys.reverse++[y]:=by rw [← List.reverse_reverse l,hl];simp
     rw [this,zbF] at h
     unfold JL at h
     split at h
     · cases h
     · split at h <;> cases h
 · rintro rfl;rfl
theorem zm5 {v:Int→Int} {nn:Int}:mn v [] nn=nn:=rfl
theorem zdj {v:Int→Int} {l:List Int} {y nn:Int}:mn v (l++[y]) nn=if l=[]∨v y < mn v l nn then v y else mn v l nn:=by
 unfold mn
 rw [zbF]
 cases h:mnO v l with
 | none=>
   have:=zca.1 h
   rw [if_pos (.inl this)];rfl
 | some b=>
   have hne:l≠[]:=fun e=>by rw [zca.2 e] at h;cases h
   simp only [JL,yI,hne,false_or]
   split <;> rfl
theorem zhI {v w:Int→Int} {nn:Int} {l:List Int} (h:∀ y∈l,v y=w y):mn v l nn=mn w l nn:=by
 have key:∀ (l:List Int) (s:Option Int),(∀ y∈l,v y=w y)→l.foldl (JL v) s=l.foldl (JL w) s:=by
  intro l
  induction l with
  | nil=>intro s _;rfl
  | cons y l ih=>
    intro s h
    simp only [List.foldl_cons]
    have:JL v s y=JL w s y:=by
     unfold JL
     rw [h y (by simp)]
    rw [this]
    exact ih _ fun z hz=>h z (by simp [hz])
 unfold mn mnO
 rw [key l none h]
theorem zkP {v:Int→Int} {nn t:Int} {l:List Int} (hl:l≠[]):mn v l nn≤t↔∃ y∈l,v y≤t:=by
 have key:∀ (r:List Int),r≠[]→(mn v r.reverse nn≤t↔∃ y∈r,v y≤t):=by
  intro r
  induction r with
  | nil=>intro h;exact absurd rfl h
  | cons y r ih=>
    intro _
    rw [List.reverse_cons,zdj]
    by_cases hr:r=[]
    · subst hr
      simp
    · have hr':r.reverse≠[]:=by simpa using hr
      have:=ih hr
      simp only [hr',false_or,z4,exists_eq_or_imp]
      split
      · rename_i h
        constructor
        · intro h1;exact .inl h1
        · rintro (h1 | h1)
          · exact h1
          · have:=this.2 h1;omega
      · rename_i h
        constructor
        · intro h1;exact .inr (this.1 h1)
        · rintro (h1 | h1)
          · omega
          · exact this.2 h1
 have:=key l.reverse (by simpa using hl)
 simpa using this
theorem zfq {v:Int→Int} {nn:Int} {l:List Int} (hl:l≠[]) (h:∀ y∈l,0≤v y):0≤mn v l nn:=by
 by_cases h0:mn v l nn≤-1
 · obtain ⟨y,hy,h1⟩:=(zkP hl).1 h0
   have:=h y hy;omega
 · omega
def Y0 (n m:Nat):List Int:=y5 (fun x=>!m.testBit x) n
theorem WF {n m:Nat} {y:Int}:y∈Y0 n m↔∃ x:Nat,y=x∧x < n∧m.testBit x=false:=by
 unfold Y0
 rw [Xn]
 simp
theorem LG:∀ c:Nat,c < 256→∀ y:Nat,y < 8→c.testBit y=false→c ||| 2 ^ y=c + 2 ^ y:=by decide +kernel
theorem zgH {n m:Nat} (hn:n≤8) (h:m < 2 ^ n):m < 256:=uY h (by
 have:=Zy (n:=2) (by decide) hn
 simpa using this)
theorem zeP {n m x:Nat} (h:m < 2 ^ n) (hx:x < n):m ||| 2 ^ x < 2 ^ n:=Nat.or_lt_two_pow h (Nat.pow_lt_pow_right (by decide) hx)
theorem zeo {n m:Nat} (h:m < 2 ^ n) (hb:∀ x,x < n→m.testBit x=true):m=2 ^ n - 1:=by
 apply ZF
 intro j
 rw [Nat.testBit_two_pow_sub_one]
 by_cases hj:j < n
 · rw [hb j hj,zt hj]
 · rw [zD hj]
   exact Nat.testBit_lt_two_pow (uY h (Zy (by decide) (by omega)))
theorem zcm {n m:Nat} (h:m < 2 ^ n):Y0 n m=[]↔m=2 ^ n - 1:=by
 constructor
 · intro h0
   refine zeo h fun x hx=>?_
   cases hb:m.testBit x with
   | true=>rfl
   | false=>
     have:(x:Int)∈Y0 n m:=WF.2 ⟨x,rfl,hx,hb⟩
     rw [h0] at this;cases this
 · rintro rfl
   rw [List.eq_nil_iff_forall_not_mem]
   intro y hy
   obtain ⟨x,_,hx,hb⟩:=WF.1 hy
   rw [Nat.testBit_two_pow_sub_one,zt hx] at hb;cases hb
def zcp (n:Nat) (c:Nat→Nat→Int) (nn:Int) (T:Nat→Int):Prop:=∀ m,m < 2 ^ n→T m=mn (fun x=>max (c m x.toNat) (T (m ||| 2 ^ x.toNat))) (Y0 n m) nn
inductive Ch (n:Nat) (c:Nat→Int) (t:Int):Nat→Nat→Prop
 | refl (m:Nat):Ch n c t m m
 | step {m x m':Nat}:x < n→m.testBit x=false→c (m ||| 2 ^ x)≤t→Ch n c t (m ||| 2 ^ x) m'→Ch n c t m m'
theorem ziZ {n:Nat} {c:Nat→Int} {t:Int} {a m x:Nat} (h:Ch n c t a m) (hx:x < n) (hb:m.testBit x=false) (hc:c (m ||| 2 ^ x)≤t):Ch n c t a (m ||| 2 ^ x):=by
 induction h with
 | refl m=>exact .step hx hb hc (.refl _)
 | step h1 h2 h3 _ ih=>exact .step h1 h2 h3 (ih hb hc)
theorem zi6 {n:Nat} {c:Nat→Int} {t:Int} {T:Nat→Int} (hn:n≤8) (hT:zcp n (fun m x=>c (m ||| 2 ^ x)) 0 T) (ht:0≤t):∀ m,m < 2 ^ n→(T m≤t↔Ch n c t m (2 ^ n - 1)):=by
 have key:∀ d m,m + d=2 ^ n→m < 2 ^ n→(T m≤t↔Ch n c t m (2 ^ n - 1)):=by
  intro d
  induction d using Nat.strongRecOn with
  | ind d ih=>
    intro m hd hm
    rw [hT m hm]
    by_cases hf:m=2 ^ n - 1
    · rw [(zcm hm).2 hf,zm5]
      subst hf
      exact ⟨fun _=>.refl _,fun _=>ht⟩
    · have hne:Y0 n m≠[]:=fun e=>hf ((zcm hm).1 e)
      rw [zkP hne]
      constructor
      · rintro ⟨y,hy,h⟩
        obtain ⟨x,rfl,hx,hb⟩:=WF.1 hy
        rw [xD] at h
        have h:max (c (m ||| 2 ^ x)) (T (m ||| 2 ^ x))≤t:=h
        have h1:=LG m (zgH hn hm) x (by omega) hb
        have h2:=zeP hm hx
        have h3:=Zt x
        exact .step hx hb (by omega) ((ih (2 ^ n - (m ||| 2 ^ x)) (by omega) (m ||| 2 ^ x) (by omega) h2).1 (by omega))
      · intro h
        cases h with
        | refl=>exact absurd rfl hf
        | step hx hb hc h=>
          rename_i x
          have h1:=LG m (zgH hn hm) x (by omega) hb
          have h2:=zeP hm hx
          have h3:=Zt x
          refine ⟨(x:Int),WF.2 ⟨x,rfl,hx,hb⟩,?_⟩
          rw [xD]
          have:=(ih (2 ^ n - (m ||| 2 ^ x)) (by omega) (m ||| 2 ^ x) (by omega) h2).2 h
          exact Int.max_le.2 ⟨hc,this⟩
 intro m hm
 exact key (2 ^ n - m) m (by omega) hm
def frt (g:Gr) (p:Nat→Bool) (j:Nat):Bool:=p j && wi (fun y=>adj g j y && !p y) g.1.toNat
theorem Nr {F:Nat} {g:Gr} {p:Nat→Bool} (hg:xl g=true) (hF:20≤F):vZ F ⟨vc g⟩ ((mkm p g.1.toNat:Nat):Int)=some ((mkm (frt g p) g.1.toNat:Nat):Int):=by
 have h8:=yx hg
 have hp8:(y5 p g.1.toNat).length≤8:=by rw [uu];exact vR Uv (by omega)
 unfold vZ
 rw [Mr (by omega) hF,zc]
 refine wQ (L:=fun k i s=>xF F ((mkm p g.1.toNat:Nat):Int) ⟨vc g⟩ (y5 p g.1.toNat) k s i) (n:=(y5 p g.1.toNat).length) (fun i s=>s=((mkm (fun j=>decide ((j:Int)∈(y5 p g.1.toNat).take i) && wi (fun y=>adj g j y && !p y) g.1.toNat) g.1.toNat:Nat):Int)) ?_ ?_ F _ (by omega) ?_
 · intro k i s hi hI
   subst hI
   refine ⟨_,rfl,?_⟩
   obtain ⟨a,ha,han,hap⟩:=NP hi
   simp only [xF,uD]
   rw [zt (show (i:Int) < ((y5 p g.1.toNat).length:Int) by omega),zn,z8 (d:=0) hi,zc,ha,z8 (d:=0) (by rw [UW];exact han),zc,NS han,YA (by omega),zc,yh hi (by unfold Sm;omega)]
   obtain ⟨c,hc,_,hb⟩:=Lc (XP (p:=adj g a) (n:=g.1.toNat) (by omega)) (XP (p:=p) (n:=g.1.toNat) (by omega))
   rw [hc]
   have hiff:c=0↔wi (fun y=>adj g a y && !p y) g.1.toNat=false:=by
    rw [U5,Bool.not_eq_false',yK]
    constructor
    · intro h0 y hy
      have:=hb y
      rw [h0,Yo,xA,xA,zt hy,yg,yg] at this
      rw [← this];rfl
    · intro h
      apply ZF
      intro y
      rw [hb,xA,xA,Yo]
      by_cases hy:y < g.1.toNat
      · have:=h y hy
        rw [zt hy,yg,yg]
        cases h6:(adj g a y && !p y) with
        | false=>rfl
        | true=>rw [h6] at this;cases this
      · rw [zD hy];rfl
   have hset:∀ b:Bool,wi (fun y=>adj g a y && !p y) g.1.toNat=b→∀ j:Nat,(decide ((j:Int)∈(y5 p g.1.toNat).take (i + 1)) && wi (fun y=>adj g j y && !p y) g.1.toNat)=((decide ((j:Int)∈(y5 p g.1.toNat).take i) && wi (fun y=>adj g j y && !p y) g.1.toNat) || (b && j == a)):=by
    intro b hbb j
    have hp2:=XS (x:=a) hi ha j
    unfold xz at hp2
    rw [hp2]
    by_cases e:j=a
    · subst e
      rw [hbb,Xj,Bool.or_true,yg,Bool.and_true]
      cases b <;> simp
    · have:(j == a)=false:=by simpa using e
      rw [this,Bool.and_false,wt,wt]
   cases hany:wi (fun y=>adj g a y && !p y) g.1.toNat with
   | false=>
     rw [hiff.2 hany]
     have:mkm (fun j=>decide ((j:Int)∈(y5 p g.1.toNat).take (i + 1)) && wi (fun y=>adj g j y && !p y) g.1.toNat) g.1.toNat=mkm (fun j=>decide ((j:Int)∈(y5 p g.1.toNat).take i) && wi (fun y=>adj g j y && !p y) g.1.toNat) g.1.toNat:=by
      apply Wq
      intro j _
      rw [hset false hany j];simp
     rw [this];rfl
   | true=>
     have hne:c≠0:=fun e=>by rw [hiff.1 e] at hany;cases hany
     have hne2:((c:Int) != 0)=true:=by simpa using hne
     rw [hne2,zn,Xb (XP (by omega)) (ZO (by omega))]
     congr 2
     refine KR fun j=>?_
     rw [ZX,xA,YR,hset true hany j,yg]
     by_cases e:j=a
     · subst e
       rw [zt han];simp
     · have e1:(j == a)=false:=by simpa using e
       rw [e1,zD (show ¬ a=j by omega),wt,wt]
 · intro k s hI
   subst hI
   simp only [xF]
   rw [zD (show ¬ ((y5 p g.1.toNat).length:Int) < ((y5 p g.1.toNat).length:Int) by omega),zj]
   congr 2
   apply Wq
   intro j hj
   rw [List.take_length]
   unfold frt
   congr 1
   rw [xe,z9,Xn]
   constructor
   · rintro ⟨j',e,_,h⟩
     obtain rfl:j=j':=by omega
     exact h
   · exact fun h=>⟨j,rfl,hj,h⟩
 · have:mkm (fun j=>decide ((j:Int)∈(y5 p g.1.toNat).take 0) && wi (fun y=>adj g j y && !p y) g.1.toNat) g.1.toNat=0:=by
    rw [zhq,J8]
    intro j _
    simp
   rw [this];rfl
def frC (g:Gr) (m:Nat):Int:=(xI (frt g m.testBit) g.1.toNat:Int)
theorem zcZ {g:Gr} {m:Nat}:0≤frC g m:=by unfold frC;omega
theorem zgb {n m:Nat} (h:m < 2 ^ n):mkm m.testBit n=m:=by
 symm
 refine KR fun j=>?_
 by_cases hj:j < n
 · rw [zt hj,yg]
 · rw [zD hj,wv]
   exact Nat.testBit_lt_two_pow (uY h (Zy (by decide) (by omega)))
theorem JJ {F:Nat} {g:Gr} {m x:Nat} (hg:xl g=true) (hF:20≤F) (hm:m < 2 ^ g.1.toNat) (hx:x < g.1.toNat):xx F ⟨vc g⟩ (m:Int) (x:Int)=some (frC g (m ||| 2 ^ x)):=by
 have h8:=yx hg
 have h256:=zgH (by omega) hm
 unfold xx
 rw [YA (by omega),zc,Xb (by omega) (ZO (by omega))]
 have hf:=Nr (F:=F) (p:=(m ||| 2 ^ x).testBit) hg hF
 rw [zgb (zeP hm hx)] at hf
 rw [hf,zc,zi4 (zjc (by omega)),zc,zf5 (by omega)]
 rfl
def frP (g:Gr) (m x:Nat):Int:=frC g (m ||| 2 ^ x)
theorem zcB {F:Nat} {g:Gr} {m x:Nat} (hg:xl g=true) (hF:20≤F) (hm:m < 2 ^ g.1.toNat) (hx:x < g.1.toNat):xx F ⟨vc g⟩ (m:Int) (x:Int)=some (frP g m x):=JJ hg hF hm hx
theorem zbB {p:Nat→Bool} {n:Nat}:wi (fun i=>!p i) n=!wX p n:=by
 rw [U5];simp
def inB (bags:List (List Int)) (x:Int) (i:Nat):Bool:=decide (x∈bags.getD i [])
def xU (b:Nat→Bool):Nat→Int×Bool
 | 0=>(0,false)
 | i + 1=>(if b i && !(xU b i).2 then (xU b i).1 + 1 else (xU b i).1,b i)
def uW (b:Nat→Bool):Nat→Int×Int×Int
 | 0=>(-1,-1,0)
 | i + 1=>if b i then (if (uW b i).2.2=0 then (i:Int) else (uW b i).1,(i:Int),(uW b i).2.2 + 1) else uW b i
theorem UY (b:Nat→Bool):∀ i:Nat,
    (0≤(uW b i).2.2∧(uW b i).2.2≤i∧0≤(xU b i).1∧(xU b i).1≤i) ∧
    ((uW b i).2.2=0→(xU b i).1=0∧(xU b i).2=false∧(uW b i).1=-1∧(uW b i).2.1=-1) ∧
    ((uW b i).2.2≠0→1≤(xU b i).1∧0≤(uW b i).1∧(uW b i).1≤(uW b i).2.1∧(uW b i).2.1 < i∧(uW b i).2.2≤(uW b i).2.1 - (uW b i).1 + 1 ∧
      ((xU b i).1=1↔(uW b i).2.2=(uW b i).2.1 - (uW b i).1 + 1)∧((xU b i).2=true↔(uW b i).2.1=(i:Int) - 1))
 | 0=>by simp [xU,uW]
 | i + 1=>by
   obtain ⟨h0,h1,h2⟩:=UY b i
   obtain ⟨fi,la,co,hI⟩:∃ fi la co,uW b i=(fi,la,co):=⟨_,_,_,rfl⟩
   obtain ⟨ru,ins,hS⟩:∃ ru ins,xU b i=(ru,ins):=⟨_,_,rfl⟩
   rw [hI,hS] at h0 h1 h2
   simp only at h0 h1 h2
   cases hb:b i with
   | false=>
     have e1:uW b (i + 1)=(fi,la,co):=by simp [uW,hb,hI]
     have e2:xU b (i + 1)=(ru,false):=by simp [xU,hb,hS]
     rw [e1,e2]
     simp only
     refine ⟨by omega,fun h=>⟨(h1 h).1,trivial,(h1 h).2.2⟩,fun h=>?_⟩
     obtain ⟨a1,a2,a3,a4,a5,a6,a7⟩:=h2 h
     refine ⟨a1,a2,a3,by omega,a5,a6,?_⟩
     constructor
     · intro h;cases h
     · intro h;omega
   | true=>
     by_cases hc:co=0
     · obtain ⟨b1,b2,b3,b4⟩:=h1 hc
       have e1:uW b (i + 1)=((i:Int),(i:Int),co + 1):=by simp [uW,hb,hI,hc]
       have e2:xU b (i + 1)=(ru + 1,true):=by simp [xU,hb,hS,b2]
       rw [e1,e2]
       simp only
       refine ⟨by omega,fun h=>by omega,fun h=>⟨by omega,by omega,by omega,by omega,by omega,?_,?_⟩⟩
       · constructor <;> intro _ <;> omega
       · constructor
         · intro _;omega
         · intro _;trivial
     · obtain ⟨a1,a2,a3,a4,a5,a6,a7⟩:=h2 hc
       have e1:uW b (i + 1)=(fi,(i:Int),co + 1):=by simp [uW,hb,hI,hc]
       cases hin:ins with
       | true=>
         have e2:xU b (i + 1)=(ru,true):=by simp [xU,hb,hS,hin]
         have hl:=a7.1 hin
         rw [e1,e2]
         simp only
         refine ⟨by omega,fun h=>by omega,fun h=>⟨by omega,by omega,by omega,by omega,by omega,?_,?_⟩⟩
         · rw [a6];constructor <;> intro _ <;> omega
         · constructor
           · intro _;omega
           · intro _;trivial
       | false=>
         have e2:xU b (i + 1)=(ru + 1,true):=by simp [xU,hb,hS,hin]
         have hl:la≠(i:Int) - 1:=fun h=>by rw [a7.2 h] at hin;cases hin
         rw [e1,e2]
         simp only
         refine ⟨by omega,fun h=>by omega,fun h=>⟨by omega,by omega,by omega,by omega,by omega,?_,?_⟩⟩
         · constructor <;> intro _ <;> omega
         · constructor
           · intro _;omega
           · intro _;trivial
def KJ (bags:List (List Int)) (x:Int):Bool:=(xU (inB bags x) bags.length).1 == 1
theorem zgk {bags:List (List Int)} {x:Int} {fi la co:Int} (h:uW (inB bags x) bags.length=(fi,la,co)):(co == 0 || la - fi + 1 != co)=!KJ bags x:=by
 obtain ⟨h0,h1,h2⟩:=UY (inB bags x) bags.length
 rw [h] at h0 h1 h2
 simp only at h0 h1 h2
 unfold KJ
 by_cases hc:co=0
 · have:=(h1 hc).1
   rw [this,hc];rfl
 · obtain ⟨a1,a2,a3,a4,a5,a6,a7⟩:=h2 hc
   have hc':(co == 0)=false:=by simpa using hc
   rw [hc',Bool.false_or]
   by_cases hr:(xU (inB bags x) bags.length).1=1
   · have:=a6.1 hr
     rw [hr,← this];simp
   · have:la - fi + 1≠co:=fun e=>hr (a6.2 e.symm)
     have h3:((xU (inB bags x) bags.length).1 == 1)=false:=by simpa using hr
     rw [h3];simpa using this
def LW (bags:List (List Int)) (x y:Int):Bool:=wi (fun i=>inB bags x i && inB bags y i) bags.length
def pdB (g:Gr) (bags:List (List Int)):Bool:=
 (decide (bags.length≤16) && wX (fun i=>W3 g.1 (bags.getD i [])) bags.length) && wX (fun x=>KJ bags (x:Int)) g.1.toNat && wX (fun i=>LW bags (g.2.getD i (0,0)).1 (g.2.getD i (0,0)).2) g.2.length
structure Bg (F:Nat) (bags:List (List Int)):Prop where
 len:bags.length≤1048576
 each:∀ x∈bags,x.length≤1048576
 fuel:1048577≤F
theorem Bg.at {F:Nat} {bags:List (List Int)} (h:Bg F bags) {i:Nat} (hi:i < bags.length):(bags.getD i []).length≤1048576:=h.each _ (xr hi)
theorem Bg.of {F:Nat} {bags:List (List Int)} (h:bags.length + zc2 bags bags.length≤1048576) (hF:1048577≤F):Bg F bags:=by
 refine ⟨by omega,fun x hx=>?_,hF⟩
 obtain ⟨i,hi,e⟩:=uP.1 hx
 have:=zjl hi
 rw [zW,yD hi,yI,e] at this
 omega
theorem Kw {F:Nat} {bags:List (List Int)} (h:Bg F bags) {i:Nat} (hi:i < bags.length) (x:Int):uB F (bags.getD i []) x=some (inB bags x i):=by
 have h1:=h.at hi
 have h2:=h.fuel
 exact Kf (by omega) (by unfold Sm;omega)
theorem zct {F:Nat} {bags:List (List Int)} (h:Bg F bags) {i:Nat} (hi:i < bags.length) (x:Int):y3 F (bags.getD i []) x=some (inB bags x i):=by
 have h1:=h.at hi
 have h2:=h.fuel
 exact Lh (by omega) (by unfold Sm;omega)
theorem zjX {F:Nat} {bags:List (List Int)} (hb:Bg F bags) (h16:bags.length≤16) {x:Int}:WY F bags x=some (KJ bags x):=by
 have hf:=hb.fuel
 unfold WY
 refine wQ (L:=fun k i (s:Int×Bool)=>vM F bags x k s.1 s.2 i) (n:=bags.length) (fun i s=>s=xU (inB bags x) i) ?_ ?_ F (0,false) (by omega) rfl
 · intro k i s hi hI
   subst hI
   refine ⟨_,rfl,?_⟩
   have hinv:=(UY (inB bags x) i).1
   simp only [vM,XT,XH]
   rw [zt (show (i:Int) < (bags.length:Int) by omega),zn,z8 (d:=[]) hi,zc,Kw hb hi,zc,zc,Kw hb hi,zc,yh hi (by unfold Sm;omega),wr (by omega) (by omega)]
   simp only [xU]
   cases hin:inB bags x i with
   | false=>simp [-List.getD_eq_getElem?_getD,Kw hb hi,hin]
   | true=>cases (xU (inB bags x) i).2 <;> simp [-List.getD_eq_getElem?_getD,Kw hb hi,hin]
 · intro k s hI
   subst hI
   simp only [vM]
   rw [zD (show ¬ (bags.length:Int) < (bags.length:Int) by omega),zj];rfl
theorem zjH {F:Nat} {bags:List (List Int)} (hb:Bg F bags) {x y:Int}:ue F bags x y=some (LW bags x y):=by
 have hf:=hb.fuel
 have hl:=hb.len
 unfold ue LW
 rw [wR (L:=fun k i=>xv F bags x y k i) (n:=bags.length) (p:=fun i=>!(inB bags x i && inB bags y i)) (bad:=some true) (fin:=some false) ?_ ?_ F (by omega)]
 · rw [U5]
   cases wX (fun i=>!(inB bags x i && inB bags y i)) bags.length <;> rfl
 · intro k i hi
   simp only [xv,ul]
   rw [zt (show (i:Int) < (bags.length:Int) by omega),zn,z8 (d:=[]) hi,zc,Kw hb hi,zc,zc,Kw hb hi,zc,yh hi (by unfold Sm;omega)]
   cases inB bags x i <;> cases inB bags y i <;> rfl
 · intro k
   simp only [xv]
   rw [zD (show ¬ (bags.length:Int) < (bags.length:Int) by omega),zj]
theorem zh0 {F:Nat} {g:Gr} {bags:List (List Int)} (hg:xl g=true) (hb:Bg F bags) (hG:g.2.length < F) (hs:Sm g.2.length):wG F g bags=some (pdB g bags):=by
 have hf:=hb.fuel
 have hl:=hb.len
 have h8:=yx hg
 unfold wG Wn
 rw [wR (L:=fun k i=>uQ F bags g k i) (n:=bags.length) (p:=fun i=>W3 g.1 (bags.getD i [])) (bad:=some false) (fin:=some (decide (bags.length≤16))) ?_ ?_ F (by omega)]
 · have e0:(bif wX (fun i=>W3 g.1 (bags.getD i [])) bags.length then some (decide (bags.length≤16)) else some false)=some (decide (bags.length≤16) && wX (fun i=>W3 g.1 (bags.getD i [])) bags.length):=by
    cases wX (fun i=>W3 g.1 (bags.getD i [])) bags.length <;> simp
   rw [e0,zc]
   unfold pdB
   cases hc:(decide (bags.length≤16) && wX (fun i=>W3 g.1 (bags.getD i [])) bags.length) with
   | false=>rfl
   | true=>
     have h16:bags.length≤16:=by
      simp only [zq,z9] at hc;exact hc.1
     rw [yQ,zj,yg]
     rw [wR (L:=fun k i=>xX F bags g k i) (n:=g.1.toNat) (p:=fun x=>KJ bags (x:Int)) (bad:=some false) (fin:=xC F bags g F 0) ?_ ?_ F (by omega)]
     · cases wX (fun x=>KJ bags (x:Int)) g.1.toNat with
       | false=>rfl
       | true=>
         rw [zn,yg]
         rw [wR (L:=fun k i=>xC F bags g k i) (n:=g.2.length) (p:=fun i=>LW bags (g.2.getD i (0,0)).1 (g.2.getD i (0,0)).2) (bad:=some false) (fin:=some true) ?_ ?_ F hG]
         · cases wX (fun i=>LW bags (g.2.getD i (0,0)).1 (g.2.getD i (0,0)).2) g.2.length <;> rfl
         · intro k i hi
           simp only [xC]
           rw [zt (show (i:Int) < (g.2.length:Int) by omega),zn,z8 (d:=(0,0)) hi,zc,zc,zjH hb,zc,yh hi hs]
           cases LW bags (g.2.getD i (0,0)).1 (g.2.getD i (0,0)).2 <;> rfl
         · intro k
           simp only [xC]
           rw [zD (show ¬ (g.2.length:Int) < (g.2.length:Int) by omega),zj]
     · intro k i hi
       simp only [xX]
       rw [zt (show (i:Int) < g.1 by omega),zn,zjX hb h16,zc,yh hi (by unfold Sm;omega)]
       cases KJ bags (i:Int) <;> rfl
     · intro k
       simp only [xX]
       rw [zD (show ¬ (g.1.toNat:Int) < g.1 by omega),zj]
 · intro k i hi
   have h1:=hb.at hi
   simp only [uQ]
   rw [zt (show (i:Int) < (bags.length:Int) by omega),zn,z8 (d:=[]) hi,zc,ziz hg (by omega) (by unfold Sm;omega),zc,yh hi (by unfold Sm;omega)]
   cases W3 g.1 (bags.getD i []) <;> rfl
 · intro k
   simp only [uQ]
   rw [zD (show ¬ (bags.length:Int) < (bags.length:Int) by omega),zj]
   congr 1
   rw [decide_eq_decide];omega
theorem zhV {F:Nat} {g:Gr} {bags:List (List Int)} (hg:xl g=true) (hb:Bg F bags) (hG:g.2.length < F) (hs:Sm g.2.length):y0 F g bags=some (pdB g bags):=by
 have hf:=hb.fuel
 have hl:=hb.len
 have h8:=yx hg
 unfold y0 xG pdB
 by_cases h16:bags.length≤16
 · rw [zD (show ¬ (bags.length:Int) > 16 by omega),zj,zt h16,yg]
   unfold zY z5
   obtain ⟨r,h1,h2,_⟩:=Ug (L:=fun k i=>zQ F bags ⟨(),(⟨g⟩,())⟩ k i) (n:=bags.length) (p:=fun i=>!W3 g.1 (bags.getD i [])) (by
    intro k i hi
    have h1:=hb.at hi
    simp only [zQ,xo]
    rw [zt (show (i:Int) < (bags.length:Int) by omega),zn,z8 (d:=[]) hi,zc,zhm hg (by omega) (by unfold Sm;omega) hG hs (by omega),zc,zc,yh hi (by unfold Sm;omega)]) (by
    intro k
    simp only [zQ]
    rw [zD (show ¬ (bags.length:Int) < (bags.length:Int) by omega),zj]) F (by omega)
   rw [h1,zc,zc,h2,zbB]
   cases wX (fun i=>W3 g.1 (bags.getD i [])) bags.length with
   | false=>rfl
   | true=>
     rw [yQ,zj,yg]
     rw [wR (L:=fun k i=>yz F g bags k i) (n:=g.1.toNat) (p:=fun x=>KJ bags (x:Int)) (bad:=some false) (fin:=some (wX (fun i=>LW bags (g.2.getD i (0,0)).1 (g.2.getD i (0,0)).2) g.2.length)) ?_ ?_ F (by omega)]
     · cases wX (fun x=>KJ bags (x:Int)) g.1.toNat <;> rfl
     · intro k x hx
       simp only [yz]
       rw [zt (show (x:Int) < g.1 by omega),zn]
       refine wQ (L:=fun k2 i (s:Int×Int×Int)=>yi F g bags (x:Int) (yz F g bags k) k2 s.1 s.2.1 s.2.2 i) (n:=bags.length) (fun i s=>s=uW (inB bags (x:Int)) i) ?_ ?_ F (-1,-1,0) (by omega) rfl
       · intro k2 i s hi hI
         subst hI
         refine ⟨_,rfl,?_⟩
         have hinv:=(UY (inB bags (x:Int)) i).1
         simp only [yi,xE,xJ]
         rw [zt (show (i:Int) < (bags.length:Int) by omega),zn,z8 (d:=[]) hi,zc,zct hb hi,zc,yh hi (by unfold Sm;omega),wr (by omega) (by omega)]
         simp only [uW]
         cases inB bags (x:Int) i with
         | false=>simp
         | true=>
           by_cases hc:(uW (inB bags (x:Int)) i).2.2=0
           · simp [hc]
           · have hc':((uW (inB bags (x:Int)) i).2.2 == 0)=false:=by simpa using hc
             simp [hc,hc']
       · intro k2 s hI
         obtain ⟨fi,la,co,hI2⟩:∃ fi la co,uW (inB bags (x:Int)) bags.length=(fi,la,co):=⟨_,_,_,rfl⟩
         rw [hI2] at hI
         subst hI
         have hr:=zgk hI2
         obtain ⟨h0,h1,h2⟩:=UY (inB bags (x:Int)) bags.length
         rw [hI2] at h0 h1 h2
         simp only at h0 h1 h2
         simp only [yi,xL]
         rw [zD (show ¬ (bags.length:Int) < (bags.length:Int) by omega),zj,yh (i:=x) (n:=g.1.toNat) hx (by unfold Sm;omega)]
         by_cases hc:co=0
         · subst hc
           have hr':KJ bags (x:Int)=false:=by simpa using hr.symm
           rw [hr'];rfl
         · have hc':(co == 0)=false:=by simpa using hc
           obtain ⟨a1,a2,a3,a4,a5,a6,a7⟩:=h2 hc
           rw [hc',Bool.false_or] at hr
           have e1:w64 (la - fi)=la - fi:=wr (by omega) (by omega)
           have e2:w64 (la - fi + 1)=la - fi + 1:=wr (by omega) (by omega)
           rw [hc',zj,e1,e2,hr]
           cases KJ bags (x:Int) <;> rfl
     · intro k
       simp only [yz]
       rw [zD (show ¬ (g.1.toNat:Int) < g.1 by omega),zj]
       unfold zS zX
       obtain ⟨r2,h3,h4,_⟩:=Ug (L:=fun k i=>zM F g.2 ⟨(),(⟨bags⟩,())⟩ k i) (n:=g.2.length) (p:=fun i=>!LW bags (g.2.getD i (0,0)).1 (g.2.getD i (0,0)).2) (by
        intro k i hi
        simp only [zM,xp]
        rw [zt (show (i:Int) < (g.2.length:Int) by omega),zn,z8 (d:=(0,0)) hi,zc]
        unfold zU zZ
        obtain ⟨r3,h5,h6,_⟩:=Ug (L:=fun k j=>zP F bags ⟨(),(⟨g.2.getD i (0,0)⟩,())⟩ k j) (n:=bags.length) (p:=fun j=>inB bags (g.2.getD i (0,0)).1 j && inB bags (g.2.getD i (0,0)).2 j) (by
         intro k j hj
         simp only [zP,xb]
         rw [zt (show (j:Int) < (bags.length:Int) by omega),zn,z8 (d:=[]) hj,zc,zct hb hj,zc,zct hb hj,zc,yh hj (by unfold Sm;omega)]
         cases inB bags (g.2.getD i (0,0)).1 j <;> cases inB bags (g.2.getD i (0,0)).2 j <;> rfl) (by
         intro k
         simp only [zP]
         rw [zD (show ¬ (bags.length:Int) < (bags.length:Int) by omega),zj]) F (by omega)
        rw [h5,zc,zc,zc,h6,yh hi hs]
        rfl) (by
        intro k
        simp only [zM]
        rw [zD (show ¬ (g.2.length:Int) < (g.2.length:Int) by omega),zj]) F hG
       rw [h3,zc,zc,h4,zbB,Bool.not_not]
 · rw [zt (show (bags.length:Int) > 16 by omega),zn,zD h16]
   rfl
theorem zio {F:Nat} {g:Gr} {b:List (List Int)} (hb:Bg F b) (hG:g.2.length < F) (hs:Sm g.2.length):yZ F g b=some (xl g && pdB g b,xl g):=by
 unfold yZ
 rw [WG hG hs,zc]
 cases hg:xl g with
 | false=>rfl
 | true=>rw [yQ,zj,zh0 hg hb hG hs,zc,yg]
theorem zcc {F:Nat} {g:Gr} {b:List (List Int)} (hb:Bg F b) (hG:g.2.length < F) (hs:Sm g.2.length):yE F g b=some (xl g && pdB g b,xl g):=by
 have hf:=hb.fuel
 unfold yE
 rw [Yy hG (by omega) hs,zc]
 cases hg:xl g with
 | false=>rfl
 | true=>rw [yQ,zj,zhV hg hb hG hs,zc,yg]
def bq (l:List Int) (j:Nat):Bool:=decide ((j:Int)∈l)
theorem MG {n:Int} {l:List Int} (h:W3 n l=true):∀ x∈l,0≤x∧x < n:=by
 intro x hx
 obtain ⟨i,hi,e⟩:=uP.1 hx
 have:=yK.1 h i hi
 rw [zW,yD hi,yI,e] at this
 simp only [zq,z9] at this
 exact this.1
theorem zgY {n:Int} {l:List Int} (h:W3 n l=true):Srt l:=by
 have step:∀ i,i + 1 < l.length→l.getD i 0 < l.getD (i + 1) 0:=by
  intro i hi
  have:=yK.1 h (i + 1) hi
  simp only [zq,xm,z9,Nat.add_sub_cancel] at this
  rcases this.2 with h | h
  · simp at h
  · exact h
 have all:∀ d i,i + d + 1 < l.length→l.getD i 0 < l.getD (i + d + 1) 0:=by
  intro d
  induction d with
  | zero=>intro i hi;exact step i hi
  | succ d ih=>
    intro i hi
    have h1:=ih i (by omega)
    have h2:=step (i + d + 1) (by omega)
    have:i + (d + 1) + 1=i + d + 1 + 1:=by omega
    rw [this];omega
 unfold Srt
 rw [List.pairwise_iff_getElem]
 intro i j hi hj hij
 have:=all (j - i - 1) i (by omega)
 have e:i + (j - i - 1) + 1=j:=by omega
 rw [e,zW,zW,yD hi,yD hj] at this
 exact this
theorem MO {g:Gr} {l:List Int} (h:W3 g.1 l=true):l=y5 (bq l) g.1.toNat:=by
 refine NZ (zgY h) fun y=>?_
 constructor
 · intro hy
   have:=MG h y hy
   refine ⟨y.toNat,by omega,by omega,?_⟩
   unfold bq
   rw [z9,Int.toNat_of_nonneg this.1];exact hy
 · rintro ⟨j,rfl,_,h⟩
   exact of_decide_eq_true h
theorem XC {α β:Type} {f:α→β} {t:Bool} {a b:Option α}:(bif t then a else b).map f=bif t then a.map f else b.map f:=by cases t <;> rfl
theorem zaZ {p:Nat→Bool} {n:Nat}:(y5 p n).length≤n:=by rw [uu];exact Uv
def WP (g:Gr) (l:List Int) (n:Nat):List Int:=(List.range n).map fun (i:Nat)=>((xI (frt g (xz l (i + 1))) g.1.toNat:Nat):Int)
theorem Nv {g:Gr} {l:List Int} {n:Nat}:WP g l (n + 1)=WP g l n++[((xI (frt g (xz l (n + 1))) g.1.toNat:Nat):Int)]:=by simp [WP,List.range_succ]
theorem XM {g:Gr} {l:List Int} {n:Nat}:(WP g l n).length=n:=by simp [WP]
theorem Yh {n:Int} {l:List Int} (h:wl n l=true) (h0:0≤n):∀ y∈l,0≤y∧y < n:=by
 have hl:=vf h
 have:=(WA n.toNat l (fun j hj=>WD h (by omega) (by omega))).2 (by omega)
 intro y hy
 have:=this y hy
 omega
theorem zco {F:Nat} {g:Gr} {l:List Int} (hg:xl g=true) (hr:∀ y∈l,0≤y∧y < g.1) (hlen:l.length≤8) (hF:20≤F) (hG:g.2.length < F) (hs:Sm g.2.length):KB F g l=some (y5 (frt g (bq l)) g.1.toNat):=by
 have h8:=yx hg
 let Q:Nat→Nat→Bool:=fun i j=>decide ((j:Int)∈l.take i) && wi (fun y=>adj g j y && !bq l y) g.1.toNat
 unfold KB
 refine wQ (L:=fun k i s=>Zj F l g k s i) (n:=l.length) (fun i s=>s=y5 (Q i) g.1.toNat) ?_ ?_ F _ (by omega) ?_
 · intro k i s hi hI
   subst hI
   refine ⟨_,rfl,?_⟩
   obtain ⟨a,ha,han⟩:∃ a:Nat,l.getD i 0=a∧a < g.1.toNat:=by
    have:=hr _ (xr (d:=0) hi)
    exact ⟨(l.getD i 0).toNat,by omega,by omega⟩
   simp only [Zj]
   rw [zt (show (i:Int) < (l.length:Int) by omega),zn]
   refine wQ (L:=fun k2 y s=>u9 F l g (i:Int) (Zj F l g k) k2 s y) (n:=g.1.toNat) (fun y s=>s=y5 (fun j=>Q i j || (j == a && wi (fun y=>adj g a y && !bq l y) y)) g.1.toNat) ?_ ?_ F _ (by omega) ?_
   · intro k2 y s hy hI
     subst hI
     refine ⟨_,rfl,?_⟩
     simp only [u9,WS,Ua]
     rw [zt (show (y:Int) < g.1 by omega),zn,z8 (d:=0) hi,zc,zc,ha,QL hG hs,zc,Kf (by omega) (by unfold Sm;omega),show decide ((y:Int)∈l)=bq l y from rfl,zc,zcx (by omega) han (by omega),zc,yh hy (by unfold Sm;omega)]
     have hsame:(adj g a y && !bq l y)=false→y5 (fun j=>Q i j || (j == a && wi (fun y=>adj g a y && !bq l y) (y + 1))) g.1.toNat=y5 (fun j=>Q i j || (j == a && wi (fun y=>adj g a y && !bq l y) y)) g.1.toNat:=by
      intro h
      apply xQ
      intro j _
      simp only [wi]
      rw [h,wt]
     cases h1:adj g a y with
     | false=>rw [hsame (by rw [h1];rfl)];rfl
     | true=>
       rw [zn]
       cases h2:bq l y with
       | true=>rw [hsame (by rw [h1,h2];rfl)];rfl
       | false=>
         rw [Zm,zn]
         congr 1
         apply xQ
         intro j _
         simp only [wi]
         rw [h1,h2]
         by_cases e:j=a
         · subst e;simp
         · have:(j == a)=false:=by simpa using e
           rw [this];simp
   · intro k2 s hI
     subst hI
     simp only [u9]
     rw [zD (show ¬ (g.1.toNat:Int) < g.1 by omega),zj,yh hi (by unfold Sm;omega)]
     congr 1
     apply xQ
     intro j _
     have hp2:=XS (x:=a) hi ha j
     unfold xz at hp2
     show (Q i j || _)=Q (i + 1) j
     show (Q i j || _)=(decide ((j:Int)∈l.take (i + 1)) && wi (fun y=>adj g j y && !bq l y) g.1.toNat)
     rw [hp2]
     by_cases e:j=a
     · subst e
       rw [Xj,yg,Bool.or_true,yg]
       show ((_ && wi (fun y=>adj g j y && !bq l y) g.1.toNat) || _)=_
       cases wi (fun y=>adj g j y && !bq l y) g.1.toNat <;> simp
     · have:(j == a)=false:=by simpa using e
       rw [this,wv,wt,wt]
   · apply xQ
     intro j _
     simp [wi]
 · intro k s hI
   subst hI
   simp only [Zj]
   rw [zD (show ¬ (l.length:Int) < (l.length:Int) by omega),zj]
   congr 1
   apply xQ
   intro j hj
   show (decide ((j:Int)∈l.take l.length) && _)=_
   rw [List.take_length]
   rfl
 · have:y5 (Q 0) g.1.toNat=y5 (fun _=>false) g.1.toNat:=by
    apply xQ
    intro j _
    show (decide ((j:Int)∈l.take 0) && _)=false
    simp
   rw [this];simp [y5]
theorem zjt {l:List Int} {i:Nat}:bq (l.take i)=xz l i:=rfl
theorem zjC {F:Nat} {g:Gr} {l:List Int} (hg:xl g=true) (ho:wl g.1 l=true) (hF:20≤F) (hG:g.2.length < F) (hs:Sm g.2.length):vh F l g F [] 1=some (WP g l l.length,true):=by
 have h8:=yx hg
 have hlen:=vf ho
 have hr:=Yh ho h8.1
 have:=wQ (L:=fun k i s=>vh F l g k s (i + 1)) (n:=l.length) (r:=some (WP g l l.length,true)) (fun i s=>s=WP g l i) (by
  rintro k i s hi rfl
  refine ⟨_,rfl,?_⟩
  simp only [vh]
  have e:(i:Int) + 1=((i + 1:Nat):Int):=by omega
  rw [zt (show (i:Int) + 1≤(l.length:Int) by omega),zn,e,zbR (by omega),zc,zco hg (fun y hy=>hr y (List.mem_of_mem_take hy)) (by simp;omega) hF hG hs,zc,zbw (by rw [XM];omega),zc,Nv,zjt,uu,wr (by omega) (by omega)]) (by
  rintro k s rfl
  simp only [vh]
  rw [zD (show ¬ (l.length:Int) + 1≤(l.length:Int) by omega),zj]) F [] (by omega) rfl
 simpa using this
theorem zjj {F:Nat} {g:Gr} {l:List Int} (hg:xl g=true) (ho:wl g.1 l=true) (hF:20≤F):∀ ys:List Int,ys.length=l.length→xB F ⟨vc g⟩ l F ys 0 0=some (.of (WP g l l.length),true):=by
 intro ys hys
 have h8:=yx hg
 have hlen:=vf ho
 have hr:=Yh ho h8.1
 refine wQ (L:=fun k t (s:List Int×Int)=>xB F ⟨vc g⟩ l k s.1 s.2 t) (n:=l.length) (fun t s=>s.1.length=l.length∧s.1.take t=WP g l t∧s.2=((mkm (xz l t) g.1.toNat:Nat):Int)) ?_ ?_ F (ys,0) (by omega) ⟨hys,by simp [WP],?_⟩
 · rintro k t ⟨zs,m⟩ ht ⟨h1,h2,h3⟩
   simp only at h1 h2 h3
   subst h3
   have hy:=hr _ (xr (d:=0) ht)
   obtain ⟨x,hx⟩:∃ x:Nat,l.getD t 0=x:=⟨(l.getD t 0).toNat,by omega⟩
   simp only [xB]
   have hor:mkm (xz l t) g.1.toNat ||| 2 ^ x=mkm (xz l (t + 1)) g.1.toNat:=by
    refine KR fun j=>?_
    rw [ZX,xA,YR,XS ht hx]
    by_cases e:x=j
    · subst e
      have:decide (x < g.1.toNat)=true:=zt (by omega)
      rw [this];simp
    · have h1:decide (x=j)=false:=by simpa using e
      have h2:(j == x)=false:=by simp;omega
      rw [h1,h2];simp
   rw [zt (show (t:Int) < l.length by omega),zn,z8 (d:=0) ht,zc,hx,JJ hg hF Jq (by omega),zc,W7 (by omega),zc,YA (by omega),zc,yh ht (by unfold Sm;omega),Xb (XP (by omega)) (ZO (by omega)),hor]
   refine ⟨(_,_),⟨by simp [h1],?_,rfl⟩,rfl⟩
   show (List.set zs _ _).take (t + 1)=_
   rw [xD,List.take_add_one,List.take_set_of_le (yM _),h2,Nv]
   congr 1
   simp only [List.getElem?_set_self (show t < zs.length by omega),Option.toList_some]
   unfold frC
   refine congrArg (fun z:Nat=>[((z:Nat):Int)]) (ZZ fun j hj=>?_)
   unfold frt
   have hb:∀ y,y < g.1.toNat→(mkm (xz l (t + 1)) g.1.toNat).testBit y=xz l (t + 1) y:=by
    intro y hy;rw [xA,zt hy,yg]
   rw [hb j hj]
   congr 1
   refine L1 fun y hy=>?_
   rw [hb y hy]
 · rintro k ⟨zs,m⟩ ⟨h1,h2,h3⟩
   simp only [xB]
   rw [zD (show ¬ (l.length:Int) < l.length by omega),zj]
   simp only at h1 h2
   rw [List.take_of_length_le (by omega)] at h2
   rw [h2]
 · show (0:Int)=_
   have:mkm (xz l 0) g.1.toNat=0:=by
    rw [Wq (q:=fun _=>false) (fun j _=>by simp [xz])]
    apply ZF;intro j;rw [xA];simp
   rw [this];rfl
def ztb (l:List Int) (r:Int) (j:Nat):Bool:=decide (l.getD j 0≤r)
def zuQ (g:Gr) (l:List Int) (x:Nat):Bool:=wi (fun y=>zbc g (ztb l (l.getD x 0)) x y && ((y != x) && (l.getD y 0 == l.getD x 0))) g.1.toNat
theorem LX {F:Nat} {g:Gr} {nn:Int} (hg:xl g=true) (hF:300≤F) :
    ∃ best:List Int,yl F ⟨vc g⟩ nn ⟨(⟨vc g⟩,()),()⟩=some best∧best.length=2 ^ g.1.toNat∧zcp g.1.toNat (frP g) nn (fun m=>best.getD m 0):=by
 have h8:=yx hg
 obtain ⟨n,hn⟩:∃ n:Nat,g.1.toNat=n:=⟨_,rfl⟩
 have hn8:n≤8:=by omega
 have hpow:=Zt n
 have hp256:2 ^ n≤256:=by
  have:=Zy (n:=2) (by decide) hn8
  simpa using this
 have hall:Zu F ⟨vc g⟩=some ((2 ^ n - 1:Nat):Int):=by
  unfold Zu
  rw [UW,hn,YA (by omega),zc,wr (by omega) (by omega)]
  congr 1;omega
 have hw:w64 (((2 ^ n - 1:Nat):Int) + 1)=((2 ^ n:Nat):Int):=by rw [wr (by omega) (by omega)];omega
 unfold yl
 rw [hall,zc,hw,Qo (by omega),zc,zc,hn]
 have key:∀ d k (best:List Int),d≤2 ^ n→d < k→best.length=2 ^ n →
     (∀ j,d≤j→j < 2 ^ n→best.getD j 0=mn (fun x=>max (frP g j x.toNat) (best.getD (j ||| 2 ^ x.toNat) 0)) (Y0 n j) nn) →
     ∃ b,zJ F nn ⟨(⟨vc g⟩,()),()⟩ ⟨vc g⟩ k best ((d:Int) - 1)=some b∧b.length=2 ^ n∧zcp n (frP g) nn (fun m=>b.getD m 0):=by
  intro d
  induction d with
  | zero=>
    intro k best _ hk hlen hrec
    obtain ⟨k,rfl⟩:∃ k',k=k' + 1:=⟨k - 1,by omega⟩
    refine ⟨best,?_,hlen,fun m hm=>hrec m (by omega) hm⟩
    simp only [zJ]
    rw [zD (by omega),zj]
  | succ d ih=>
    intro k best hd hk hlen hrec
    obtain ⟨k,rfl⟩:∃ k',k=k' + 1:=⟨k - 1,by omega⟩
    have hdn:d < 2 ^ n:=by omega
    have e0:((d + 1:Nat):Int) - 1=(d:Int):=by omega
    have hmk:Xa .i64 ((2 ^ n - 1:Nat):Int) (d:Int)=((mkm (fun x=>!d.testBit x) n:Nat):Int):=by
     obtain ⟨c,hc,_,hb⟩:=Lc (a:=2 ^ n - 1) (b:=d) (by omega) (by omega)
     rw [hc]
     congr 1
     refine KR fun j=>?_
     rw [hb,Nat.testBit_two_pow_sub_one]
    have hl8:(Y0 n d).length≤8:=by unfold Y0;rw [uu];exact vR Uv hn8
    simp only [zJ]
    rw [e0,zt (by omega),zn,z8 (d:=0) (by omega),zc,hall,zc,hmk,Mr hn8 (by omega),zc,xD]
    obtain ⟨s,hs,he⟩:=Lr (L:=fun k2 t s=>zN F nn ⟨(⟨vc g⟩,()),()⟩ ⟨vc g⟩ (d:Int) (Y0 n d) (zJ F nn ⟨(⟨vc g⟩,()),()⟩ ⟨vc g⟩ k) k2 s t) (n:=(Y0 n d).length)
     (fun t s=>s=best.set d (mn (fun x=>max (frP g d x.toNat) (best.getD (d ||| 2 ^ x.toNat) 0)) ((Y0 n d).take t) nn)) (fin:=fun s=>zJ F nn ⟨(⟨vc g⟩,()),()⟩ ⟨vc g⟩ k s ((d:Int) - 1)) (by
       intro k2 t s ht hI
       subst hI
       refine ⟨_,rfl,?_⟩
       obtain ⟨x,hx,hxn,hxb⟩:=WF.1 (xr (d:=0) ht)
       have hgt:=LG d (by omega) x (by omega) hxb
       have hxp:=Zt x
       have hor:=zeP hdn hxn
       have hcost:=zcB (F:=F) (m:=d) (x:=x) hg (by omega) (by rw [hn];exact hdn) (by rw [hn];exact hxn)
       have htake:(Y0 n d).take (t + 1)=(Y0 n d).take t++[(x:Int)]:=by
        rw [List.take_add_one,yD ht]
        rw [zW,yD ht,yI] at hx
        rw [hx];rfl
       have hget:∀ a:Int,(best.set d a).getD (d ||| 2 ^ x) 0=best.getD (d ||| 2 ^ x) 0:=by
        intro a
        rw [zW,List.getElem?_set_ne (by omega),← zW]
       have hgetd:∀ a:Int,(best.set d a).getD d 0=a:=by
        intro a
        rw [zW,List.getElem?_set_self (by omega),yI]
       simp only [zN,yB,yC]
       rw [zt (show (t:Int) < ((Y0 n d).length:Int) by omega),zn,z8 (d:=0) ht,zc,hx]
       rw [hcost,zc,YA (by omega),zc,Xb (by omega) (ZO (by omega)),z8 (d:=0) (by rw [List.length_set];omega),zc,hget,z8 (d:=0) (by rw [List.length_set];omega),zc,zc,hgetd,xD,List.set_set,yh ht (by unfold Sm;omega),htake,zdj]
       have hmax:(if best.getD (d ||| 2 ^ x) 0 > frP g d x then best.getD (d ||| 2 ^ x) 0 else frP g d x)=max (frP g d x) (best.getD (d ||| 2 ^ x) 0):=by
        by_cases h:best.getD (d ||| 2 ^ x) 0 > frP g d x
        · rw [if_pos h,Int.max_eq_right (by omega)]
        · rw [if_neg h,Int.max_eq_left (by omega)]
       rw [hmax,xD]
       by_cases ht0:t=0
       · subst ht0
         rw [if_pos (.inl (by simp))]
         rfl
       · have hne:(Y0 n d).take t≠[]:=by
          intro e
          have:=congrArg List.length e
          rw [Xl] at this
          simp only [List.length_nil] at this
          omega
         have hb:((t:Int) == 0)=false:=by rw [beq_eq_false_iff_ne];omega
         rw [hb,zj]
         by_cases hlt:max (frP g d x) (best.getD (d ||| 2 ^ x) 0) < mn (fun x=>max (frP g d x.toNat) (best.getD (d ||| 2 ^ x.toNat) 0)) ((Y0 n d).take t) nn
         · rw [zt hlt,zn,if_pos (.inr hlt)]
         · rw [zD hlt,zj,if_neg (fun h=>h.elim hne hlt)]) (by
       intro k2 s hI
       simp only [zN]
       rw [zD (show ¬ ((Y0 n d).length:Int) < ((Y0 n d).length:Int) by omega),zj,wr (by omega) (by omega)]) F (best.set d nn) (by omega) rfl
    have he':zN F nn ⟨(⟨vc g⟩,()),()⟩ ⟨vc g⟩ (d:Int) (Y0 n d) (zJ F nn ⟨(⟨vc g⟩,()),()⟩ ⟨vc g⟩ k) F (best.set d nn) 0=zJ F nn ⟨(⟨vc g⟩,()),()⟩ ⟨vc g⟩ k s ((d:Int) - 1):=he
    rw [List.take_length] at hs
    rw [show y5 (fun x=>!d.testBit x) n=Y0 n d from rfl,he']
    refine ih k s (by omega) (by omega) (by rw [hs,List.length_set];exact hlen) ?_
    have hsd:s.getD d 0=mn (fun x=>max (frP g d x.toNat) (best.getD (d ||| 2 ^ x.toNat) 0)) (Y0 n d) nn:=by
     rw [hs,zW,List.getElem?_set_self (by omega),yI]
    have hsne:∀ j,j≠d→s.getD j 0=best.getD j 0:=by
     intro j hj
     rw [hs,zW,List.getElem?_set_ne (by omega),← zW]
    intro j h1 h2
    have hcg:mn (fun x=>max (frP g j x.toNat) (best.getD (j ||| 2 ^ x.toNat) 0)) (Y0 n j) nn=mn (fun x=>max (frP g j x.toNat) (s.getD (j ||| 2 ^ x.toNat) 0)) (Y0 n j) nn:=by
     refine zhI fun y hy=>?_
     obtain ⟨x,rfl,hxn,hxb⟩:=WF.1 hy
     have hgt:=LG j (by omega) x (by omega) hxb
     have hxp:=Zt x
     rw [xD,hsne _ (by omega)]
    by_cases e:j=d
    · subst e;rw [hsd,hcg]
    · rw [hsne j e,hrec j (by omega) h2,hcg]
 have e1:((2 ^ n - 1:Nat):Int)=((2 ^ n:Nat):Int) - 1:=by omega
 rw [e1]
 exact key (2 ^ n) F _ (by omega) (by omega) (by simp) (fun j h1 h2=>absurd h2 (by omega))
end Go.Zq
