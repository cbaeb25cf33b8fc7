/- Plain mathematics: what the functions answer (part 2). Conditions: stated in each theorem. -/
import Derived.Test.YtkmhlpopclahcabM1
set_option linter.unusedVariables false
set_option linter.unusedSimpArgs false
namespace Go.Zq
theorem MI {p:Nat→Bool} {n:Nat}:yO p n=0↔Yq p n=none:=by
 rw [vu]
 constructor
 · intro h j hj
   cases hp:p j with
   | false=>rfl
   | true=>
     have:=Qs (p:=fun _=>false) (q:=p) (n:=n) (by simp) ⟨j,hj,rfl,hp⟩
     omega
 · intro h
   rw [ZU (q:=fun _=>false) h]
   unfold yO
   rw [List.countP_eq_zero];simp
end Go.Zq
namespace Go.Zq
end Go.Zq
namespace Go.Zq
theorem zcI {g:Gr} (hg:xa g=true) {p:Nat→Bool} {x y z:Nat} (hx:x < g.1.toNat) (hp:p x=true) (h1:Zl g p x y=true) (h2:Zl g p y z=true):Zl g p x z=true:=
 YR (C:=Zl g p x) h1 (fun _ _ h3 h4 h5=>wK hg hx hp h3 h4 h5) h2
end Go.Zq
namespace Go.Zq
theorem zdj {L:Nat→Int→Option Int} {n:Nat} {p:Nat→Bool} (hs:∀ k i,i < n→L (k + 1) (i:Int)=bif p i then some (i:Int) else L k ((i + 1:Nat):Int)) (he:∀ k,L (k + 1) (n:Int)=some (-1)) :
    ∀ k,n < k→∃ r,L k 0=some r∧decide (r≥0)=xF p n∧∀ i,Yq p n=some i→r=i:=by
 have key:∀ d k i,i + d=n→d < k→(∀ j,j < i→p j=false)→∃ r,L k (i:Int)=some r∧decide (r≥0)=xF p n∧∀ i,Yq p n=some i→r=i:=by
  intro d
  induction d with
  | zero=>
    intro k i hi hk hp
    obtain ⟨k,rfl⟩:∃ k',k=k' + 1:=⟨k - 1,by omega⟩
    obtain rfl:i=n:=by omega
    refine ⟨-1,he k,?_,?_⟩
    · have:xF p i=false:=by
       rw [Bool.eq_false_iff];intro h
       obtain ⟨j,hj,h⟩:=xd.1 h
       rw [hp j hj] at h;cases h
      rw [this];decide
    · intro j hj
      have:=wH hj
      rw [hp j this.1] at this;cases this.2.1
  | succ d ih=>
    intro k i hi hk hp
    obtain ⟨k,rfl⟩:∃ k',k=k' + 1:=⟨k - 1,by omega⟩
    rw [hs k i (by omega)]
    cases hpi:p i with
    | true=>
      refine ⟨i,by rw [cond_true],?_,?_⟩
      · rw [xd.2 ⟨i,by omega,hpi⟩];simp
      · intro j hj
        obtain ⟨h1,h2,h3⟩:=wH hj
        have a1:¬ i < j:=fun h=>by rw [h3 i h] at hpi;cases hpi
        have a2:¬ j < i:=fun h=>by rw [hp j h] at h2;cases h2
        omega
    | false=>
      rw [cond_false]
      refine ih k (i + 1) (by omega) (by omega) ?_
      intro j hj
      by_cases e:j=i
      · subst e;exact hpi
      · exact hp j (by omega)
 intro k hk
 exact key n k 0 (by omega) hk (fun j hj=>absurd hj (by omega))
def zc7 (xs:List (List Int)):Nat→Nat
 | 0=>0
 | i + 1=>zc7 xs i + (xs.getD i []).length
theorem Nx {xs:List (List Int)}:∀ {i j:Nat},i≤j→zc7 xs i≤zc7 xs j
 | i,0,h=>by obtain rfl:i=0:=by omega
             exact Nat.le_refl _
 | i,j + 1,h=>by
   by_cases e:i=j + 1
   · subst e;exact Nat.le_refl _
   · have:=Nx (xs:=xs) (i:=i) (j:=j) (by omega)
     simp only [zc7];omega
theorem zkh {xs:List (List Int)} {i:Nat} (h:i < xs.length):(xs.getD i []).length≤zc7 xs xs.length:=by
 have:=Nx (xs:=xs) (i:=i + 1) (j:=xs.length) (by omega)
 simp only [zc7] at this;omega
end Go.Zq
namespace Go.Zq
def JH (v:Int→Int) (s:Option Int) (y:Int):Option Int:=match s with
 | none=>some (v y)
 | some b=>if v y < b then some (v y) else some b
def mnO (v:Int→Int) (l:List Int):Option Int:=l.foldl (JH v) none
def mn (v:Int→Int) (l:List Int) (nn:Int):Int:=(mnO v l).getD nn
theorem zb0 {v:Int→Int} {l:List Int} {y:Int}:mnO v (l++[y])=JH v (mnO v l) y:=by simp [mnO,List.foldl_append]
theorem zbH {v:Int→Int}:∀ {l:List Int},mnO v l=none↔l=[]:=by
 intro l
 constructor
 · intro h
   cases hl:l.reverse with
   | nil=>simpa using hl
   | cons y ys=>
     have:l=ys.reverse++[y]:=by rw [← List.reverse_reverse l,hl];simp
     rw [this,zb0] at h
     unfold JH at h
     split at h
     · cases h
     · split at h <;> cases h
 · rintro rfl;rfl
theorem MR {v:Int→Int} {nn:Int}:mn v [] nn=nn:=rfl
theorem JF {v:Int→Int} {l:List Int} {y nn:Int}:mn v (l++[y]) nn=if l=[]∨v y < mn v l nn then v y else mn v l nn:=by
 unfold mn
 rw [zb0]
 cases h:mnO v l with
 | none=>
   have:=zbH.1 h
   rw [if_pos (.inl this)];rfl
 | some b=>
   have hne:l≠[]:=fun e=>by rw [zbH.2 e] at h;cases h
   simp only [JH,Option.getD_some,hne,false_or]
   split <;> rfl
theorem Ut {v w:Int→Int} {nn:Int} {l:List Int} (h:∀ y∈l,v y=w y):mn v l nn=mn w l nn:=by
 have key:∀ (l:List Int) (s:Option Int),(∀ y∈l,v y=w y)→l.foldl (JH v) s=l.foldl (JH w) s:=by
  intro l
  induction l with
  | nil=>intro s _;rfl
  | cons y l ih=>
    intro s h
    simp only [List.foldl_cons]
    have:JH v s y=JH w s y:=by
     unfold JH
     rw [h y (by simp)]
    rw [this]
    exact ih _ fun z hz=>h z (by simp [hz])
 unfold mn mnO
 rw [key l none h]
theorem Nj {v:Int→Int} {nn t:Int} {l:List Int} (hl:l≠[]):mn v l nn≤t↔∃ y∈l,v y≤t:=by
 have key:∀ (r:List Int),r≠[]→(mn v r.reverse nn≤t↔∃ y∈r,v y≤t):=by
  intro r
  induction r with
  | nil=>intro h;exact absurd rfl h
  | cons y r ih=>
    intro _
    rw [List.reverse_cons,JF]
    by_cases hr:r=[]
    · subst hr
      simp
    · have hr':r.reverse≠[]:=by simpa using hr
      have:=ih hr
      simp only [hr',false_or,List.mem_cons,exists_eq_or_imp]
      split
      · rename_i h
        constructor
        · intro h1;exact .inl h1
        · rintro (h1 | h1)
          · exact h1
          · have:=this.2 h1;omega
      · rename_i h
        constructor
        · intro h1;exact .inr (this.1 h1)
        · rintro (h1 | h1)
          · omega
          · exact this.2 h1
 have:=key l.reverse (by simpa using hl)
 simpa using this
theorem Xk {v:Int→Int} {nn:Int} {l:List Int} (hl:l≠[]) (h:∀ y∈l,0≤v y):0≤mn v l nn:=by
 by_cases h0:mn v l nn≤-1
 · obtain ⟨y,hy,h1⟩:=(Nj hl).1 h0
   have:=h y hy;omega
 · omega
def y6 (n m:Nat):List Int:=zo (fun x=>!m.testBit x) n
def Ko (n m:Nat):List Int:=zo m.testBit n
theorem wO {n m:Nat} {y:Int}:y∈y6 n m↔∃ x:Nat,y=x∧x < n∧m.testBit x=false:=by
 unfold y6
 rw [y5]
 simp
theorem XE {n m:Nat} {y:Int}:y∈Ko n m↔∃ x:Nat,y=x∧x < n∧m.testBit x=true:=y5
theorem ZC:∀ c:Nat,c < 256→∀ y:Nat,y < 8→c.testBit y=false→c ||| 2 ^ y=c + 2 ^ y:=by decide +kernel
theorem Qk:∀ c:Nat,c < 256→∀ y:Nat,y < 8→c.testBit y=true→2 ^ y≤c∧(c - 2 ^ y).testBit y=false∧(c - 2 ^ y) ||| 2 ^ y=c:=by decide +kernel
theorem Jj {n m:Nat} (hn:n≤8) (h:m < 2 ^ n):m < 256:=Nat.lt_of_lt_of_le h (by
 have:=Nat.pow_le_pow_right (n:=2) (by decide) hn
 simpa using this)
theorem Ww {n m x:Nat} (h:m < 2 ^ n) (hx:x < n):m ||| 2 ^ x < 2 ^ n:=Nat.or_lt_two_pow h (Nat.pow_lt_pow_right (by decide) hx)
theorem Qv {n m:Nat} (h:m < 2 ^ n) (hb:∀ x,x < n→m.testBit x=true):m=2 ^ n - 1:=by
 apply Nat.eq_of_testBit_eq
 intro j
 rw [Nat.testBit_two_pow_sub_one]
 by_cases hj:j < n
 · rw [hb j hj,decide_eq_true hj]
 · rw [decide_eq_false hj]
   exact Nat.testBit_lt_two_pow (Nat.lt_of_lt_of_le h (Nat.pow_le_pow_right (by decide) (by omega)))
theorem Wt {n m:Nat} (h:m < 2 ^ n):y6 n m=[]↔m=2 ^ n - 1:=by
 constructor
 · intro h0
   refine Qv h fun x hx=>?_
   cases hb:m.testBit x with
   | true=>rfl
   | false=>
     have:(x:Int)∈y6 n m:=wO.2 ⟨x,rfl,hx,hb⟩
     rw [h0] at this;cases this
 · rintro rfl
   rw [List.eq_nil_iff_forall_not_mem]
   intro y hy
   obtain ⟨x,_,hx,hb⟩:=wO.1 hy
   rw [Nat.testBit_two_pow_sub_one,decide_eq_true hx] at hb;cases hb
theorem zbB {n m:Nat} (h:m < 2 ^ n):Ko n m=[]↔m=0:=by
 constructor
 · intro h0
   apply Nat.eq_of_testBit_eq
   intro j
   rw [Nat.zero_testBit]
   by_cases hj:j < n
   · cases hb:m.testBit j with
     | false=>rfl
     | true=>
       have:(j:Int)∈Ko n m:=XE.2 ⟨j,rfl,hj,hb⟩
       rw [h0] at this;cases this
   · exact Nat.testBit_lt_two_pow (Nat.lt_of_lt_of_le h (Nat.pow_le_pow_right (by decide) (by omega)))
 · rintro rfl
   rw [List.eq_nil_iff_forall_not_mem]
   intro y hy
   obtain ⟨x,_,hx,hb⟩:=XE.1 hy
   simp at hb
def Yl (n:Nat) (c:Nat→Nat→Int) (nn:Int) (T:Nat→Int):Prop:=∀ m,m < 2 ^ n→T m=mn (fun x=>max (c m x.toNat) (T (m ||| 2 ^ x.toNat))) (y6 n m) nn
def zgu (n:Nat) (c:Nat→Int) (W:Nat→Int):Prop:=W 0=0∧∀ m,0 < m→m < 2 ^ n→W m=max (mn (fun x=>W (m - 2 ^ x.toNat)) (Ko n m) (-1)) (c m)
theorem zfQ {n:Nat} {c:Nat→Nat→Int} {nn:Int} {T U:Nat→Int} (hn:n≤8) (hT:Yl n c nn T) (hU:Yl n c nn U):∀ m,m < 2 ^ n→T m=U m:=by
 have key:∀ d m,m + d=2 ^ n→m < 2 ^ n→T m=U m:=by
  intro d
  induction d using Nat.strongRecOn with
  | ind d ih=>
    intro m hd hm
    rw [hT m hm,hU m hm]
    refine Ut fun y hy=>?_
    obtain ⟨x,rfl,hx,hb⟩:=wO.1 hy
    have h1:=ZC m (Jj hn hm) x (by omega) hb
    have h2:=Ww hm hx
    have h3:=Nat.two_pow_pos x
    rw [Int.toNat_natCast,ih (2 ^ n - (m ||| 2 ^ x)) (by omega) (m ||| 2 ^ x) (by omega) h2]
 intro m hm
 exact key (2 ^ n - m) m (by omega) hm
inductive Ch (n:Nat) (c:Nat→Int) (t:Int):Nat→Nat→Prop
 | refl (m:Nat):Ch n c t m m
 | step {m x m':Nat}:x < n→m.testBit x=false→c (m ||| 2 ^ x)≤t→Ch n c t (m ||| 2 ^ x) m'→Ch n c t m m'
theorem zke {n:Nat} {c:Nat→Int} {t:Int} {a m x:Nat} (h:Ch n c t a m) (hx:x < n) (hb:m.testBit x=false) (hc:c (m ||| 2 ^ x)≤t):Ch n c t a (m ||| 2 ^ x):=by
 induction h with
 | refl m=>exact .step hx hb hc (.refl _)
 | step h1 h2 h3 _ ih=>exact .step h1 h2 h3 (ih hb hc)
theorem zkq {n:Nat} {c:Nat→Int} {t:Int} (hn:n≤8) {a b:Nat} (h:Ch n c t a b) (ha:a < 2 ^ n):a=b∨∃ x,x < n∧b.testBit x=true∧c b≤t∧Ch n c t a (b - 2 ^ x):=by
 induction h with
 | refl m=>exact .inl rfl
 | step h1 h2 h3 h4 ih=>
   rename_i m x m'
   right
   rcases ih (Ww ha h1) with rfl | ⟨y,y1,y2,y3,y4⟩
   · refine ⟨x,h1,by rw [Nat.testBit_or,Nat.testBit_two_pow];simp,h3,?_⟩
     rw [ZC m (Jj hn ha) x (by omega) h2,Nat.add_sub_cancel]
     exact .refl _
   · exact ⟨y,y1,y2,y3,.step h1 h2 h3 y4⟩
theorem zav {n:Nat} {c:Nat→Int} {t:Int} {T:Nat→Int} (hn:n≤8) (hT:Yl n (fun m x=>c (m ||| 2 ^ x)) 0 T) (ht:0≤t):∀ m,m < 2 ^ n→(T m≤t↔Ch n c t m (2 ^ n - 1)):=by
 have key:∀ d m,m + d=2 ^ n→m < 2 ^ n→(T m≤t↔Ch n c t m (2 ^ n - 1)):=by
  intro d
  induction d using Nat.strongRecOn with
  | ind d ih=>
    intro m hd hm
    rw [hT m hm]
    by_cases hf:m=2 ^ n - 1
    · rw [(Wt hm).2 hf,MR]
      subst hf
      exact ⟨fun _=>.refl _,fun _=>ht⟩
    · have hne:y6 n m≠[]:=fun e=>hf ((Wt hm).1 e)
      rw [Nj hne]
      constructor
      · rintro ⟨y,hy,h⟩
        obtain ⟨x,rfl,hx,hb⟩:=wO.1 hy
        rw [Int.toNat_natCast] at h
        have h:max (c (m ||| 2 ^ x)) (T (m ||| 2 ^ x))≤t:=h
        have h1:=ZC m (Jj hn hm) x (by omega) hb
        have h2:=Ww hm hx
        have h3:=Nat.two_pow_pos x
        exact .step hx hb (by omega) ((ih (2 ^ n - (m ||| 2 ^ x)) (by omega) (m ||| 2 ^ x) (by omega) h2).1 (by omega))
      · intro h
        cases h with
        | refl=>exact absurd rfl hf
        | step hx hb hc h=>
          rename_i x
          have h1:=ZC m (Jj hn hm) x (by omega) hb
          have h2:=Ww hm hx
          have h3:=Nat.two_pow_pos x
          refine ⟨(x:Int),wO.2 ⟨x,rfl,hx,hb⟩,?_⟩
          rw [Int.toNat_natCast]
          have:=(ih (2 ^ n - (m ||| 2 ^ x)) (by omega) (m ||| 2 ^ x) (by omega) h2).2 h
          exact Int.max_le.2 ⟨hc,this⟩
 intro m hm
 exact key (2 ^ n - m) m (by omega) hm
theorem ziQ {n:Nat} {c:Nat→Int} {t:Int} {W:Nat→Int} (hn:n≤8) (hW:zgu n c W) (ht:0≤t):∀ m,m < 2 ^ n→(W m≤t↔Ch n c t 0 m):=by
 intro m
 induction m using Nat.strongRecOn with
 | ind m ih=>
   intro hm
   by_cases h0:m=0
   · subst h0
     rw [hW.1]
     exact ⟨fun _=>.refl _,fun _=>ht⟩
   · rw [hW.2 m (by omega) hm]
     have hne:Ko n m≠[]:=fun e=>h0 ((zbB hm).1 e)
     rw [Int.max_le,Nj hne]
     constructor
     · rintro ⟨⟨y,hy,h⟩,hc⟩
       obtain ⟨x,rfl,hx,hb⟩:=XE.1 hy
       rw [Int.toNat_natCast] at h
       obtain ⟨s1,s2,s3⟩:=Qk m (Jj hn hm) x (by omega) hb
       have h3:=Nat.two_pow_pos x
       have:=zke ((ih (m - 2 ^ x) (by omega) (by omega)).1 h) hx s2 (by rw [s3];exact hc)
       rwa [s3] at this
     · intro h
       rcases zkq hn h (Nat.two_pow_pos n) with h | ⟨x,hx,hb,hc,h⟩
       · omega
       · obtain ⟨s1,s2,s3⟩:=Qk m (Jj hn hm) x (by omega) hb
         have h3:=Nat.two_pow_pos x
         refine ⟨⟨(x:Int),XE.2 ⟨x,rfl,hx,hb⟩,?_⟩,hc⟩
         rw [Int.toNat_natCast]
         exact (ih (m - 2 ^ x) (by omega) (by omega)).2 h
theorem zcA {n:Nat} {c:Nat→Int} {W T:Nat→Int} (hn:n≤8) (hc:∀ m,0≤c m) (hW:zgu n c W) (hT:Yl n (fun m x=>c (m ||| 2 ^ x)) 0 T):W (2 ^ n - 1)=T 0:=by
 have hp:=Nat.two_pow_pos n
 have hT0:0≤T 0:=by
  rw [hT 0 hp]
  by_cases h:y6 n 0=[]
  · rw [h];exact Int.le_refl _
  · refine Xk h fun y _=>?_
    have:=hc (0 ||| 2 ^ y.toNat)
    show 0≤max (c (0 ||| 2 ^ y.toNat)) (T (0 ||| 2 ^ y.toNat))
    omega
 have hW0:0≤W (2 ^ n - 1):=by
  by_cases h:2 ^ n - 1=0
  · rw [h,hW.1];exact Int.le_refl _
  · rw [hW.2 _ (by omega) (by omega)]
    have:=hc (2 ^ n - 1)
    omega
 apply Int.le_antisymm
 · exact (ziQ hn hW hT0 _ (by omega)).2 ((zav hn hT hT0 0 hp).1 (Int.le_refl _))
 · exact (zav hn hT hW0 0 hp).2 ((ziQ hn hW hW0 _ (by omega)).1 (Int.le_refl _))
end Go.Zq
namespace Go.Zq
def frt (g:Gr) (p:Nat→Bool) (j:Nat):Bool:=p j && xF (fun y=>adj g j y && !p y) g.1.toNat
theorem zfY {F:Nat} {g:Gr} {p:Nat→Bool} (hg:xa g=true) (hF:20≤F) (hG:g.2.length < F) (hs:Sm g.2.length):uX F g (zo p g.1.toNat)=some (zo (frt g p) g.1.toNat):=by
 have h8:=zY hg
 have hp8:(zo p g.1.toNat).length≤8:=by rw [yJ];exact Nat.le_trans vK (by omega)
 let Q:Nat→Nat→Bool:=fun i j=>decide ((j:Int)∈(zo p g.1.toNat).take i) && xF (fun y=>adj g j y && !p y) g.1.toNat
 unfold uX
 refine we (L:=fun k i s=>wA F (zo p g.1.toNat) g k s i) (n:=(zo p g.1.toNat).length) (fun i s=>s=zo (Q i) g.1.toNat) ?_ ?_ F _ (by omega) ?_
 · intro k i s hi hI
   subst hI
   refine ⟨_,rfl,?_⟩
   obtain ⟨a,ha,han,hap⟩:=u7 hi
   simp only [wA]
   rw [decide_eq_true (show (i:Int) < ((zo p g.1.toNat).length:Int) by omega),cond_true]
   refine we (L:=fun k2 y s=>wT F (zo p g.1.toNat) g (i:Int) (wA F (zo p g.1.toNat) g k) k2 s y) (n:=g.1.toNat) (fun y s=>s=zo (fun j=>Q i j || (j == a && xF (fun y=>adj g a y && !p y) y)) g.1.toNat) ?_ ?_ F _ (by omega) ?_
   · intro k2 y s hy hI
     subst hI
     refine ⟨_,rfl,?_⟩
     simp only [wT,Xj,Xf]
     rw [decide_eq_true (show (y:Int) < g.1 by omega),cond_true,zL (d:=0) hi,Option.bind_some,Option.bind_some,ha,WL hG hs,Option.bind_some,Ke (by omega) hy (by omega),Option.bind_some,zdm (by omega) han (by omega),Option.bind_some,z5 hy (by unfold Sm;omega)]
     have hsame:(adj g a y && !p y)=false→zo (fun j=>Q i j || (j == a && xF (fun y=>adj g a y && !p y) (y + 1))) g.1.toNat=zo (fun j=>Q i j || (j == a && xF (fun y=>adj g a y && !p y) y)) g.1.toNat:=by
      intro h
      apply wg
      intro j _
      simp only [xF]
      rw [h,Bool.or_false]
     cases h1:adj g a y with
     | false=>rw [hsame (by rw [h1];rfl)];rfl
     | true=>
       rw [cond_true]
       cases h2:p y with
       | true=>rw [hsame (by rw [h1,h2];rfl)];rfl
       | false=>
         rw [Bool.not_false,cond_true]
         congr 1
         apply wg
         intro j _
         simp only [xF]
         rw [h1,h2]
         by_cases e:j=a
         · subst e;simp
         · have:(j == a)=false:=by simpa using e
           rw [this];simp
   · intro k2 s hI
     subst hI
     simp only [wT]
     rw [decide_eq_false (show ¬ (g.1.toNat:Int) < g.1 by omega),cond_false,z5 hi (by unfold Sm;omega)]
     congr 1
     apply wg
     intro j _
     have hp2:=Ya (x:=a) hi ha j
     unfold xi at hp2
     show (Q i j || _)=Q (i + 1) j
     show (Q i j || _)=(decide ((j:Int)∈(zo p g.1.toNat).take (i + 1)) && xF (fun y=>adj g j y && !p y) g.1.toNat)
     rw [hp2]
     by_cases e:j=a
     · subst e
       rw [beq_self_eq_true,Bool.true_and,Bool.or_true,Bool.true_and]
       show ((_ && xF (fun y=>adj g j y && !p y) g.1.toNat) || _)=_
       cases xF (fun y=>adj g j y && !p y) g.1.toNat <;> simp
     · have:(j == a)=false:=by simpa using e
       rw [this,Bool.false_and,Bool.or_false,Bool.or_false]
   · apply wg
     intro j _
     simp [xF]
 · intro k s hI
   subst hI
   simp only [wA]
   rw [decide_eq_false (show ¬ ((zo p g.1.toNat).length:Int) < ((zo p g.1.toNat).length:Int) by omega),cond_false]
   congr 1
   apply wg
   intro j hj
   show (decide ((j:Int)∈(zo p g.1.toNat).take (zo p g.1.toNat).length) && _)=_
   rw [List.take_length]
   unfold frt
   congr 1
   rw [Bool.eq_iff_iff,decide_eq_true_eq,y5]
   constructor
   · rintro ⟨j',e,_,h⟩
     obtain rfl:j=j':=by omega
     exact h
   · exact fun h=>⟨j,rfl,hj,h⟩
 · have:zo (Q 0) g.1.toNat=zo (fun _=>false) g.1.toNat:=by
    apply wg
    intro j _
    show (decide ((j:Int)∈(zo p g.1.toNat).take 0) && _)=false
    simp
   rw [this];simp [zo]
theorem zf7 {F:Nat} {g:Gr} {p:Nat→Bool} (hg:xa g=true) (hF:20≤F):uM F ⟨yh g⟩ ((mkm p g.1.toNat:Nat):Int)=some ((mkm (frt g p) g.1.toNat:Nat):Int):=by
 have h8:=zY hg
 have hp8:(zo p g.1.toNat).length≤8:=by rw [yJ];exact Nat.le_trans vK (by omega)
 unfold uM
 rw [Z4 (by omega) hF,Option.bind_some]
 refine we (L:=fun k i s=>xQ F ((mkm p g.1.toNat:Nat):Int) ⟨yh g⟩ (zo p g.1.toNat) k s i) (n:=(zo p g.1.toNat).length) (fun i s=>s=((mkm (fun j=>decide ((j:Int)∈(zo p g.1.toNat).take i) && xF (fun y=>adj g j y && !p y) g.1.toNat) g.1.toNat:Nat):Int)) ?_ ?_ F _ (by omega) ?_
 · intro k i s hi hI
   subst hI
   refine ⟨_,rfl,?_⟩
   obtain ⟨a,ha,han,hap⟩:=u7 hi
   simp only [xQ,uI]
   rw [decide_eq_true (show (i:Int) < ((zo p g.1.toNat).length:Int) by omega),cond_true,zL (d:=0) hi,Option.bind_some,ha,zL (d:=0) (by rw [wi];exact han),Option.bind_some,Xv han,yP (by omega),Option.bind_some,z5 hi (by unfold Sm;omega)]
   obtain ⟨c,hc,_,hb⟩:=w8 (wc (p:=adj g a) (n:=g.1.toNat) (by omega)) (wc (p:=p) (n:=g.1.toNat) (by omega))
   rw [hc]
   have hiff:c=0↔xF (fun y=>adj g a y && !p y) g.1.toNat=false:=by
    rw [LF,Bool.not_eq_false',xI]
    constructor
    · intro h0 y hy
      have:=hb y
      rw [h0,Nat.zero_testBit,ym,ym,decide_eq_true hy,Bool.true_and,Bool.true_and] at this
      rw [← this];rfl
    · intro h
      apply Nat.eq_of_testBit_eq
      intro y
      rw [hb,ym,ym,Nat.zero_testBit]
      by_cases hy:y < g.1.toNat
      · have:=h y hy
        rw [decide_eq_true hy,Bool.true_and,Bool.true_and]
        cases h6:(adj g a y && !p y) with
        | false=>rfl
        | true=>rw [h6] at this;cases this
      · rw [decide_eq_false hy];rfl
   have hset:∀ b:Bool,xF (fun y=>adj g a y && !p y) g.1.toNat=b→∀ j:Nat,(decide ((j:Int)∈(zo p g.1.toNat).take (i + 1)) && xF (fun y=>adj g j y && !p y) g.1.toNat)=((decide ((j:Int)∈(zo p g.1.toNat).take i) && xF (fun y=>adj g j y && !p y) g.1.toNat) || (b && j == a)):=by
    intro b hbb j
    have hp2:=Ya (x:=a) hi ha j
    unfold xi at hp2
    rw [hp2]
    by_cases e:j=a
    · subst e
      rw [hbb,beq_self_eq_true,Bool.or_true,Bool.true_and,Bool.and_true]
      cases b <;> simp
    · have:(j == a)=false:=by simpa using e
      rw [this,Bool.and_false,Bool.or_false,Bool.or_false]
   cases hany:xF (fun y=>adj g a y && !p y) g.1.toNat with
   | false=>
     rw [hiff.2 hany]
     have:mkm (fun j=>decide ((j:Int)∈(zo p g.1.toNat).take (i + 1)) && xF (fun y=>adj g j y && !p y) g.1.toNat) g.1.toNat=mkm (fun j=>decide ((j:Int)∈(zo p g.1.toNat).take i) && xF (fun y=>adj g j y && !p y) g.1.toNat) g.1.toNat:=by
      apply uq
      intro j _
      rw [hset false hany j];simp
     rw [this];rfl
   | true=>
     have hne:c≠0:=fun e=>by rw [hiff.1 e] at hany;cases hany
     have hne2:((c:Int) != 0)=true:=by simpa using hne
     rw [hne2,cond_true,Za (wc (by omega)) (uc (by omega))]
     congr 2
     refine vw fun j=>?_
     rw [Nat.testBit_or,ym,Nat.testBit_two_pow,hset true hany j,Bool.true_and]
     by_cases e:j=a
     · subst e
       rw [decide_eq_true han];simp
     · have e1:(j == a)=false:=by simpa using e
       rw [e1,decide_eq_false (show ¬ a=j by omega),Bool.or_false,Bool.or_false]
 · intro k s hI
   subst hI
   simp only [xQ]
   rw [decide_eq_false (show ¬ ((zo p g.1.toNat).length:Int) < ((zo p g.1.toNat).length:Int) by omega),cond_false]
   congr 2
   apply uq
   intro j hj
   rw [List.take_length]
   unfold frt
   congr 1
   rw [Bool.eq_iff_iff,decide_eq_true_eq,y5]
   constructor
   · rintro ⟨j',e,_,h⟩
     obtain rfl:j=j':=by omega
     exact h
   · exact fun h=>⟨j,rfl,hj,h⟩
 · have:mkm (fun j=>decide ((j:Int)∈(zo p g.1.toNat).take 0) && xF (fun y=>adj g j y && !p y) g.1.toNat) g.1.toNat=0:=by
    rw [zgL,vu]
    intro j _
    simp
   rw [this];rfl
def frC (g:Gr) (m:Nat):Int:=(yO (frt g m.testBit) g.1.toNat:Int)
theorem Js {g:Gr} {m:Nat}:0≤frC g m:=by unfold frC;omega
theorem WC {n m:Nat} (h:m < 2 ^ n):mkm m.testBit n=m:=by
 symm
 refine vw fun j=>?_
 by_cases hj:j < n
 · rw [decide_eq_true hj,Bool.true_and]
 · rw [decide_eq_false hj,Bool.false_and]
   exact Nat.testBit_lt_two_pow (Nat.lt_of_lt_of_le h (Nat.pow_le_pow_right (by decide) (by omega)))
theorem QA {F:Nat} {g:Gr} {m x:Nat} (hg:xa g=true) (hF:20≤F) (hm:m < 2 ^ g.1.toNat) (hx:x < g.1.toNat):xj F ⟨yh g⟩ (m:Int) (x:Int)=some (frC g (m ||| 2 ^ x)):=by
 have h8:=zY hg
 have h256:=Jj (by omega) hm
 unfold xj
 rw [yP (by omega),Option.bind_some,Za (by omega) (uc (by omega))]
 have hf:=zf7 (F:=F) (p:=(m ||| 2 ^ x).testBit) hg hF
 rw [WC (Ww hm hx)] at hf
 rw [hf,Option.bind_some,Kc (JS (by omega)),Option.bind_some,Uq (by omega)]
 rfl
def frP (g:Gr) (m x:Nat):Int:=frC g (m ||| 2 ^ x)
theorem My {F:Nat} {g:Gr} {m x:Nat} (hg:xa g=true) (hF:20≤F) (hm:m < 2 ^ g.1.toNat) (hx:x < g.1.toNat):xj F ⟨yh g⟩ (m:Int) (x:Int)=some (frP g m x):=QA hg hF hm hx
end Go.Zq
namespace Go.Zq
structure Bg (F:Nat) (bags:List (List Int)):Prop where
 len:bags.length≤1048576
 each:∀ x∈bags,x.length≤1048576
 fuel:1048577≤F
theorem Bg.at {F:Nat} {bags:List (List Int)} (h:Bg F bags) {i:Nat} (hi:i < bags.length):(bags.getD i []).length≤1048576:=h.each _ (ww hi)
theorem Bg.of {F:Nat} {bags:List (List Int)} (h:bags.length + zc7 bags bags.length≤1048576) (hF:1048577≤F):Bg F bags:=by
 refine ⟨by omega,fun x hx=>?_,hF⟩
 obtain ⟨i,hi,e⟩:=List.mem_iff_getElem.1 hx
 have:=zkh hi
 rw [List.getD_eq_getElem?_getD,List.getElem?_eq_getElem hi,Option.getD_some,e] at this
 omega
end Go.Zq
namespace Go.Zq
def bq (l:List Int) (j:Nat):Bool:=decide ((j:Int)∈l)
end Go.Zq
namespace Go.Zq
end Go.Zq
namespace Go.Zq
theorem zgl {α β:Type} {f:α→β} {a:Option β} {b:Option α} {r:β} (h:a=b.map f) (hr:a=some r):∃ o,b=some o∧f o=r:=by
 rw [hr] at h
 cases b with
 | none=>cases h
 | some o=>simp at h;exact ⟨o,rfl,h.symm⟩
theorem Z5 {α β:Type} {f:α→β} {t:Bool} {a b:Option α}:(bif t then a else b).map f=bif t then a.map f else b.map f:=by cases t <;> rfl
theorem Jy {F:Nat} {s:Int}:∀ (k:Nat) (l:NL Int) (i:Int),wM F s k l i=(wR F s k l i).map NL.list
 | 0,l,i=>rfl
 | k + 1,l,i=>by
   simp only [wM,wR,Yp,Yk,Option.map_bind,Z5,Jy k,Function.comp_def,Option.map_some]
theorem zdf {F n:Nat} {p:Nat→Bool} (hn:n≤8) (hF:20≤F):∃ o,Ys F ((mkm p n:Nat):Int)=some o∧o.list=zo p n:=
 zgl (Jy F .nil 0) (Z4 hn hF)
theorem Zr {p:Nat→Bool} {n:Nat}:(zo p n).length≤n:=by rw [yJ];exact vK
end Go.Zq
namespace Go.Zq
theorem Uz {n:Int} {l:List Int} (h:w3 n l=true) (h0:0≤n):∀ y∈l,0≤y∧y < n:=by
 have hl:=ZS h
 have:=(U7 n.toNat l (fun j hj=>Kr h (by omega) (by omega))).2 (by omega)
 intro y hy
 have:=this y hy
 omega
end Go.Zq
namespace Go.Zq
theorem Mk {F:Nat} {g:Gr} {l:List Int} (hg:xa g=true) (hr:∀ y∈l,0≤y∧y < g.1) (hlen:l.length≤8) (hF:20≤F) (hG:g.2.length < F) (hs:Sm g.2.length):uX F g l=some (zo (frt g (bq l)) g.1.toNat):=by
 have h8:=zY hg
 let Q:Nat→Nat→Bool:=fun i j=>decide ((j:Int)∈l.take i) && xF (fun y=>adj g j y && !bq l y) g.1.toNat
 unfold uX
 refine we (L:=fun k i s=>wA F l g k s i) (n:=l.length) (fun i s=>s=zo (Q i) g.1.toNat) ?_ ?_ F _ (by omega) ?_
 · intro k i s hi hI
   subst hI
   refine ⟨_,rfl,?_⟩
   obtain ⟨a,ha,han⟩:∃ a:Nat,l.getD i 0=a∧a < g.1.toNat:=by
    have:=hr _ (ww (d:=0) hi)
    exact ⟨(l.getD i 0).toNat,by omega,by omega⟩
   simp only [wA]
   rw [decide_eq_true (show (i:Int) < (l.length:Int) by omega),cond_true]
   refine we (L:=fun k2 y s=>wT F l g (i:Int) (wA F l g k) k2 s y) (n:=g.1.toNat) (fun y s=>s=zo (fun j=>Q i j || (j == a && xF (fun y=>adj g a y && !bq l y) y)) g.1.toNat) ?_ ?_ F _ (by omega) ?_
   · intro k2 y s hy hI
     subst hI
     refine ⟨_,rfl,?_⟩
     simp only [wT,Xj,Xf]
     rw [decide_eq_true (show (y:Int) < g.1 by omega),cond_true,zL (d:=0) hi,Option.bind_some,Option.bind_some,ha,WL hG hs,Option.bind_some,YW (by omega) (by unfold Sm;omega),show decide ((y:Int)∈l)=bq l y from rfl,Option.bind_some,zdm (by omega) han (by omega),Option.bind_some,z5 hy (by unfold Sm;omega)]
     have hsame:(adj g a y && !bq l y)=false→zo (fun j=>Q i j || (j == a && xF (fun y=>adj g a y && !bq l y) (y + 1))) g.1.toNat=zo (fun j=>Q i j || (j == a && xF (fun y=>adj g a y && !bq l y) y)) g.1.toNat:=by
      intro h
      apply wg
      intro j _
      simp only [xF]
      rw [h,Bool.or_false]
     cases h1:adj g a y with
     | false=>rw [hsame (by rw [h1];rfl)];rfl
     | true=>
       rw [cond_true]
       cases h2:bq l y with
       | true=>rw [hsame (by rw [h1,h2];rfl)];rfl
       | false=>
         rw [Bool.not_false,cond_true]
         congr 1
         apply wg
         intro j _
         simp only [xF]
         rw [h1,h2]
         by_cases e:j=a
         · subst e;simp
         · have:(j == a)=false:=by simpa using e
           rw [this];simp
   · intro k2 s hI
     subst hI
     simp only [wT]
     rw [decide_eq_false (show ¬ (g.1.toNat:Int) < g.1 by omega),cond_false,z5 hi (by unfold Sm;omega)]
     congr 1
     apply wg
     intro j _
     have hp2:=Ya (x:=a) hi ha j
     unfold xi at hp2
     show (Q i j || _)=Q (i + 1) j
     show (Q i j || _)=(decide ((j:Int)∈l.take (i + 1)) && xF (fun y=>adj g j y && !bq l y) g.1.toNat)
     rw [hp2]
     by_cases e:j=a
     · subst e
       rw [beq_self_eq_true,Bool.true_and,Bool.or_true,Bool.true_and]
       show ((_ && xF (fun y=>adj g j y && !bq l y) g.1.toNat) || _)=_
       cases xF (fun y=>adj g j y && !bq l y) g.1.toNat <;> simp
     · have:(j == a)=false:=by simpa using e
       rw [this,Bool.false_and,Bool.or_false,Bool.or_false]
   · apply wg
     intro j _
     simp [xF]
 · intro k s hI
   subst hI
   simp only [wA]
   rw [decide_eq_false (show ¬ (l.length:Int) < (l.length:Int) by omega),cond_false]
   congr 1
   apply wg
   intro j hj
   show (decide ((j:Int)∈l.take l.length) && _)=_
   rw [List.take_length]
   rfl
 · have:zo (Q 0) g.1.toNat=zo (fun _=>false) g.1.toNat:=by
    apply wg
    intro j _
    show (decide ((j:Int)∈l.take 0) && _)=false
    simp
   rw [this];simp [zo]
end Go.Zq
namespace Go.Zq
theorem JE {A B:Nat→Bool}:∀ n,(zo A n).filter (fun y=>B y.toNat)=zo (fun j=>A j && B j) n
 | 0=>rfl
 | n + 1=>by
   rw [vi,vi,List.filter_append,JE n]
   congr 1
   cases h:A n
   · rfl
   · simp only [Bool.true_and,if_true,List.filter_cons,List.filter_nil,Int.toNat_natCast]
theorem zrx {l:List Int} {k a:Nat} (hk:k < l.length) (ha:l.getD k 0=(a:Int)):l.take (k + 1)=l.take k++[(a:Int)]:=by
 rw [List.take_add_one]
 rw [List.getD_eq_getElem?_getD,List.getElem?_eq_getElem hk] at ha
 simp only [Option.getD_some] at ha
 rw [List.getElem?_eq_getElem hk,ha];rfl
end Go.Zq
namespace Go.Zq
theorem ze9 {p:Nat→Bool} {n:Nat}:zo p (n + 1)=if p n then zo p n++[(n:Int)] else zo p n:=by
 rw [vi];cases p n <;> simp
end Go.Zq
namespace Go.Zq
theorem zfX {p q:Nat→Bool}:∀ n,yO p n=yO (fun j=>q j && p j) n + yO (fun j=>p j && !q j) n:=by
 intro n
 rw [u9,u9,u9,← ze7]
 refine NB fun i _=>?_
 cases p i <;> cases q i <;> rfl
theorem zmA {p:Nat→Bool} {n:Nat}:(((mkm p n:Nat):Int) != 0)=xF p n:=by
 rw [Bool.eq_iff_iff,bne_iff_ne,xd]
 constructor
 · intro h
   have hne:mkm p n≠0:=by exact_mod_cast h
   obtain ⟨i,hi⟩:=Nat.exists_testBit_of_ne_zero hne
   rw [ym] at hi
   simp only [Bool.and_eq_true,decide_eq_true_eq] at hi
   exact ⟨i,hi.1,hi.2⟩
 · rintro ⟨i,h1,h2⟩ h
   have:(mkm p n).testBit i=true:=by rw [ym,decide_eq_true h1,h2];rfl
   have h0:mkm p n=0:=by exact_mod_cast h
   rw [h0] at this;simp at this
end Go.Zq
namespace Go.Zq
def zt6 (l:List Int) (r:Int) (j:Nat):Bool:=decide (l.getD j 0≤r)
def zu4 (g:Gr) (l:List Int) (x:Nat):Bool:=xF (fun y=>Zl g (zt6 l (l.getD x 0)) x y && ((y != x) && (l.getD y 0 == l.getD x 0))) g.1.toNat
theorem zcY {p q:Nat→Bool} {n:Nat}:xF (fun i=>q ((zo p n).getD i 0).toNat) (zo p n).length=xF (fun j=>p j && q j) n:=by
 rw [Bool.eq_iff_iff,xd,xd]
 constructor
 · rintro ⟨i,hi,h⟩
   obtain ⟨a,ha,han,hap⟩:=u7 hi
   rw [ha,Int.toNat_natCast] at h
   exact ⟨a,han,by rw [hap,h];rfl⟩
 · rintro ⟨j,hj,h⟩
   simp only [Bool.and_eq_true] at h
   have hm:(j:Int)∈zo p n:=y5.2 ⟨j,rfl,hj,h.1⟩
   obtain ⟨i,hi,e⟩:=List.getElem_of_mem hm
   refine ⟨i,hi,?_⟩
   rw [List.getD_eq_getElem?_getD,List.getElem?_eq_getElem hi,Option.getD_some,e,Int.toNat_natCast]
   exact h.2
end Go.Zq
namespace Go.Zq
theorem znS {P:Nat→Bool} {n a:Nat} (ha:a < n) (h:P a=true) (hm:∀ j,j < a→P j=false):Yq P n=some a:=by
 cases hf:Yq P n with
 | none=>rw [vu.1 hf a ha] at h;cases h
 | some b=>
   obtain ⟨hb,hPb,hmb⟩:=wH hf
   congr 1
   rcases Nat.lt_trichotomy a b with h1 | h1 | h1
   · rw [hmb a h1] at h;cases h
   · exact h1.symm
   · rw [hm b h1] at hPb;cases hPb
theorem Le {p q:Nat→Bool} {n:Nat}:Yq (fun j=>p j && q j) n=(Yq (fun i=>q ((zo p n).getD i 0).toNat) (zo p n).length).map fun i=>((zo p n).getD i 0).toNat:=by
 cases hf:Yq (fun i=>q ((zo p n).getD i 0).toNat) (zo p n).length with
 | none=>
   rw [Option.map_none,vu]
   intro j hj
   cases hp:p j with
   | false=>rfl
   | true=>
     have hm:(j:Int)∈zo p n:=y5.2 ⟨j,rfl,hj,hp⟩
     obtain ⟨i,hi,e⟩:=List.getElem_of_mem hm
     have:=vu.1 hf i hi
     rw [List.getD_eq_getElem?_getD,List.getElem?_eq_getElem hi,Option.getD_some,e,Int.toNat_natCast] at this
     rw [this];rfl
 | some i=>
   obtain ⟨hi,hq,hm⟩:=wH hf
   obtain ⟨a,ha,han,hap⟩:=u7 hi
   rw [Option.map_some,ha,Int.toNat_natCast]
   rw [ha,Int.toNat_natCast] at hq
   refine znS han (by rw [hap,hq];rfl) ?_
   intro j hj
   cases hp:p j with
   | false=>rfl
   | true=>
     have hm2:(j:Int)∈zo p n:=y5.2 ⟨j,rfl,by omega,hp⟩
     obtain ⟨t,ht,e⟩:=List.getElem_of_mem hm2
     have e2:(zo p n).getD t 0=(j:Int):=by rw [List.getD_eq_getElem?_getD,List.getElem?_eq_getElem ht,Option.getD_some,e]
     have hlt:t < i:=by
      rcases Nat.lt_trichotomy t i with h1 | h1 | h1
      · exact h1
      · subst h1;rw [ha] at e2;omega
      · have:=zao UU h1 ht
        rw [ha,e2] at this;omega
     have:=hm t hlt
     rw [e2,Int.toNat_natCast] at this
     rw [this];rfl
def clq (g:Gr) (p:Nat→Bool):Bool:=!xF (fun x=>p x && xF (fun y=>p y && !(adj g x y || y == x)) g.1.toNat) g.1.toNat
theorem zfb {g:Gr} {p:Nat→Bool}:clq g p=true↔∀ x y,x < g.1.toNat→y < g.1.toNat→p x=true→p y=true→x≠y→adj g x y=true:=by
 unfold clq
 rw [Bool.not_eq_true',Bool.eq_false_iff,ne_eq,xd]
 constructor
 · intro h x y hx hy h1 h2 hne
   cases ha:adj g x y with
   | true=>rfl
   | false=>
     refine absurd ⟨x,hx,?_⟩ h
     rw [h1,Bool.true_and,xd]
     exact ⟨y,hy,by simp [h2,ha,Ne.symm hne]⟩
 · rintro h ⟨x,hx,h1⟩
   simp only [Bool.and_eq_true] at h1
   obtain ⟨y,hy,h2⟩:=xd.1 h1.2
   simp only [Bool.and_eq_true,Bool.not_eq_true',Bool.or_eq_false_iff,beq_eq_false_iff_ne] at h2
   have:=h x y hx hy h1.1 h2.1 (fun e=>h2.2.2 e.symm)
   rw [h2.2.1] at this;cases this
theorem znB {A:Nat→Bool} {n x:Nat} (hn:n≤8) (hx:x < n):ior .i64 ((mkm A n:Nat):Int) ((2 ^ x:Nat):Int)=((mkm (fun j=>A j || j == x) n:Nat):Int):=by
 rw [Za (wc (by omega)) (uc (by omega))]
 congr 1
 refine vw fun j=>?_
 rw [Nat.testBit_or,ym,Nat.testBit_two_pow]
 by_cases e:x=j
 · subst e
   have:decide (x < n)=true:=decide_eq_true (by omega)
   rw [this];simp
 · have h1:decide (x=j)=false:=by simpa using e
   have h2:(j == x)=false:=by simp;omega
   rw [h1,h2];simp
theorem LE {A B:Nat→Bool} {n:Nat} (hn:n≤8):yf .i64 ((mkm A n:Nat):Int) ((mkm B n:Nat):Int)=((mkm (fun j=>A j && B j) n:Nat):Int):=by
 rw [J6 (wc (by omega)) (wc (by omega))]
 congr 1
 apply Nat.eq_of_testBit_eq
 intro j
 rw [Nat.testBit_and,ym,ym,ym]
 cases decide (j < n) <;> simp
theorem WZ {A B:Nat→Bool} {n:Nat} (hn:n≤8):zK .i64 ((mkm A n:Nat):Int) ((mkm B n:Nat):Int)=((mkm (fun j=>A j && !B j) n:Nat):Int):=by
 obtain ⟨c,hc,_,hb⟩:=w8 (wc (p:=A) (n:=n) (by omega)) (wc (p:=B) (n:=n) (by omega))
 rw [hc]
 congr 1
 apply Nat.eq_of_testBit_eq
 intro j
 rw [hb,ym,ym,ym]
 cases decide (j < n) <;> simp
theorem zdy {F:Nat} {g:Gr} {p:Nat→Bool} (hg:xa g=true) (hF:20≤F):wG F ⟨yh g⟩ ((mkm p g.1.toNat:Nat):Int)=some (clq g p):=by
 have h8:=zY hg
 have hle:=Zr (p:=p) (n:=g.1.toNat)
 unfold wG yi yp
 rw [Z4 (by omega) hF,Option.bind_some]
 obtain ⟨q,h5,h6,_⟩:=zdj (L:=fun k i=>z7 F (zo p g.1.toNat) ⟨(),⟨((mkm p g.1.toNat:Nat):Int)⟩,⟨⟨yh g⟩⟩,()⟩ k i) (n:=(zo p g.1.toNat).length) (p:=fun i=>xF (fun y=>p y && !(adj g ((zo p g.1.toNat).getD i 0).toNat y || y == ((zo p g.1.toNat).getD i 0).toNat)) g.1.toNat) (by
  intro k i hi
  obtain ⟨a,ha,han,hap⟩:=u7 hi
  simp only [z7,vc,Zh]
  rw [decide_eq_true (show (i:Int) < ((zo p g.1.toNat).length:Int) by omega),cond_true,zL (d:=0) hi,Option.bind_some,ha,zL (d:=0) (by rw [wi];omega),Option.bind_some,Xv han,yP (by omega),Option.bind_some,znB (by omega) han,Option.bind_some,WZ (by omega),zmA,Option.bind_some,z5 hi (by unfold Sm;omega),Int.toNat_natCast]) (by
  intro k
  simp only [z7]
  rw [decide_eq_false (show ¬ ((zo p g.1.toNat).length:Int) < ((zo p g.1.toNat).length:Int) by omega),cond_false]) F (by omega)
 rw [h5,Option.bind_some,Option.bind_some,h6]
 have:=zcY (p:=p) (q:=fun x=>xF (fun y=>p y && !(adj g x y || y == x)) g.1.toNat) (n:=g.1.toNat)
 rw [this];rfl
theorem zcL {F:Nat} {g:Gr} {p:Nat→Bool} (hg:xa g=true) (hF:20≤F) (hG:g.2.length < F) (hs:Sm g.2.length):ZF F g (zo p g.1.toNat)=some (clq g p):=by
 have h8:=zY hg
 obtain ⟨X,hX⟩:∃ X,zo p g.1.toNat=X:=⟨_,rfl⟩
 have hle:=Zr (p:=p) (n:=g.1.toNat)
 have hget:∀ i,i < X.length→∃ a:Nat,X.getD i 0=a∧a < g.1.toNat∧p a=true:=by rw [← hX];exact fun i hi=>u7 hi
 have hsrt:Srt X:=by rw [← hX];exact UU
 rw [hX] at hle ⊢
 unfold ZF
 have hin:∀ k i,i < X.length→wX F X g (i:Int) (xE F X g k) F (w64 ((i:Int) + 1))=bif Yb (fun t=>(decide (t≤i)) || adj g (X.getD i 0).toNat (X.getD t 0).toNat) X.length then xE F X g k ((i + 1:Nat):Int) else some false:=by
  intro k i hi
  obtain ⟨a,ha,han,_⟩:=hget i hi
  have key:∀ d k2 t,t + d=X.length→d < k2→i < t→(∀ j,j < t→(decide (j≤i) || adj g (X.getD i 0).toNat (X.getD j 0).toNat)=true)→wX F X g (i:Int) (xE F X g k) k2 (t:Int)=bif Yb (fun t=>(decide (t≤i)) || adj g (X.getD i 0).toNat (X.getD t 0).toNat) X.length then xE F X g k ((i + 1:Nat):Int) else some false:=by
   intro d
   induction d with
   | zero=>
     intro k2 t ht hk hit hall
     obtain ⟨k2,rfl⟩:∃ k',k2=k' + 1:=⟨k2 - 1,by omega⟩
     obtain rfl:t=X.length:=by omega
     simp only [wX]
     rw [decide_eq_false (show ¬ (X.length:Int) < X.length by omega),cond_false,xI.2 hall,cond_true,z5 hi (by unfold Sm;omega)]
   | succ d ih=>
     intro k2 t ht hk hit hall
     obtain ⟨k2,rfl⟩:∃ k',k2=k' + 1:=⟨k2 - 1,by omega⟩
     have htl:t < X.length:=by omega
     obtain ⟨b,hb,hbn,_⟩:=hget t htl
     simp only [wX]
     rw [decide_eq_true (show (t:Int) < X.length by omega),cond_true,zL (d:=0) hi,Option.bind_some,zL (d:=0) htl,Option.bind_some,ha,hb,WL hG hs,Option.bind_some,z5 htl (by unfold Sm;omega)]
     cases hab:adj g a b with
     | true=>
       rw [Bool.not_true,cond_false]
       have:=ih k2 (t + 1) (by omega) (by omega) (by omega) (by
        intro j hj
        by_cases e:j=t
        · subst e;rw [ha,hb,Int.toNat_natCast,Int.toNat_natCast,hab];simp
        · exact hall j (by omega))
       rw [this,ha]
     | false=>
       rw [Bool.not_false,cond_true]
       have:Yb (fun t=>(decide (t≤i)) || adj g ((a:Int)).toNat (X.getD t 0).toNat) X.length=false:=by
        rw [Bool.eq_false_iff]
        intro h
        have:=xI.1 h t htl
        rw [hb,Int.toNat_natCast,Int.toNat_natCast,hab,decide_eq_false (show ¬ t≤i by omega)] at this
        cases this
       rw [this];rfl
  rw [z5 hi (by unfold Sm;omega)]
  by_cases h1:i + 1 < X.length
  · exact key (X.length - (i + 1)) F (i + 1) (by omega) (by omega) (by omega) (by intro j hj;simp [show j≤i by omega])
  · exact key 0 F (i + 1) (by omega) (by omega) (by omega) (by intro j hj;simp [show j≤i by omega])
 rw [XT (L:=fun k i=>xE F X g k i) (n:=X.length) (p:=fun i=>Yb (fun t=>(decide (t≤i)) || adj g (X.getD i 0).toNat (X.getD t 0).toNat) X.length) (bad:=some false) (fin:=some true) ?_ ?_ F (by omega)]
 · have:Yb (fun i=>Yb (fun t=>(decide (t≤i)) || adj g (X.getD i 0).toNat (X.getD t 0).toNat) X.length) X.length=clq g p:=by
    rw [Bool.eq_iff_iff,xI,zfb]
    constructor
    · intro h
      have key:∀ x y,x < g.1.toNat→y < g.1.toNat→p x=true→p y=true→x < y→adj g x y=true:=by
       intro x y hx hy h1 h2 hlt
       have hm1:(x:Int)∈X:=by rw [← hX];exact y5.2 ⟨x,rfl,hx,h1⟩
       have hm2:(y:Int)∈X:=by rw [← hX];exact y5.2 ⟨y,rfl,hy,h2⟩
       obtain ⟨i,hi,e1⟩:=List.getElem_of_mem hm1
       obtain ⟨t,ht,e2⟩:=List.getElem_of_mem hm2
       have e3:X.getD i 0=(x:Int):=by rw [List.getD_eq_getElem?_getD,List.getElem?_eq_getElem hi,Option.getD_some,e1]
       have e4:X.getD t 0=(y:Int):=by rw [List.getD_eq_getElem?_getD,List.getElem?_eq_getElem ht,Option.getD_some,e2]
       have hit:i < t:=by
        rcases Nat.lt_trichotomy i t with h3 | h3 | h3
        · exact h3
        · subst h3;rw [e3] at e4;omega
        · have:=zao hsrt h3 hi
          rw [e3,e4] at this;omega
       have:=xI.1 (h i hi) t ht
       rw [e3,e4,Int.toNat_natCast,Int.toNat_natCast,decide_eq_false (show ¬ t≤i by omega),Bool.false_or] at this
       exact this
      intro x y hx hy h1 h2 hne
      rcases Nat.lt_trichotomy x y with h3 | h3 | h3
      · exact key x y hx hy h1 h2 h3
      · exact absurd h3 hne
      · rw [YP];exact key y x hy hx h2 h1 h3
    · intro h i hi
      rw [xI]
      intro t ht
      by_cases hle2:t≤i
      · simp [hle2]
      · obtain ⟨a,ha,han,hap⟩:=hget i hi
        obtain ⟨b,hb,hbn,hbp⟩:=hget t ht
        have hlt:=zao hsrt (show i < t by omega) ht
        rw [ha,hb] at hlt
        rw [ha,hb,Int.toNat_natCast,Int.toNat_natCast,h a b han hbn hap hbp (by omega)];simp
   rw [this]
   cases clq g p <;> rfl
 · intro k i hi
   simp only [xE]
   rw [decide_eq_true (show (i:Int) < X.length by omega),cond_true]
   exact hin k i hi
 · intro k
   simp only [xE]
   rw [decide_eq_false (show ¬ (X.length:Int) < X.length by omega),cond_false]
end Go.Zq
namespace Go.Zq
theorem JB {n:Nat}:mkm (fun _=>true) n=2 ^ n - 1:=by
 induction n with
 | zero=>rfl
 | succ n ih=>
   have:=zjS (p:=fun _=>true) (n:=n)
   rw [this,ih]
   have:=Nat.two_pow_pos n
   simp only [if_true,Nat.pow_succ];omega
theorem zaZ {F:Nat} {g:Gr} (hg:xa g=true):yg F ⟨yh g⟩=some ((mkm (fun _=>true) g.1.toNat:Nat):Int):=by
 have h8:=zY hg
 have hpow:=Nat.two_pow_pos g.1.toNat
 have h256:2 ^ g.1.toNat≤256:=by
  have:=Nat.pow_le_pow_right (n:=2) (by decide) (show g.1.toNat≤8 by omega)
  simpa using this
 unfold yg
 rw [wi,yP (by omega),Option.bind_some,xp (by omega) (by omega),JB]
 congr 1;omega
end Go.Zq
namespace Go.Zq
theorem Up {F:Nat} {g:Gr} {nn:Int} (hg:xa g=true) (hF:300≤F) :
    ∃ best:List Int,zX F ⟨yh g⟩ nn ⟨(⟨yh g⟩,()),()⟩=some best∧best.length=2 ^ g.1.toNat∧Yl g.1.toNat (frP g) nn (fun m=>best.getD m 0):=by
 have h8:=zY hg
 obtain ⟨n,hn⟩:∃ n:Nat,g.1.toNat=n:=⟨_,rfl⟩
 have hn8:n≤8:=by omega
 have hpow:=Nat.two_pow_pos n
 have hp256:2 ^ n≤256:=by
  have:=Nat.pow_le_pow_right (n:=2) (by decide) hn8
  simpa using this
 have hall:yg F ⟨yh g⟩=some ((2 ^ n - 1:Nat):Int):=by
  unfold yg
  rw [wi,hn,yP (by omega),Option.bind_some,xp (by omega) (by omega)]
  congr 1;omega
 have hw:w64 (((2 ^ n - 1:Nat):Int) + 1)=((2 ^ n:Nat):Int):=by rw [xp (by omega) (by omega)];omega
 unfold zX
 rw [hall,Option.bind_some,hw,Lr (by omega),Option.bind_some,Option.bind_some,hn]
 have key:∀ d k (best:List Int),d≤2 ^ n→d < k→best.length=2 ^ n →
     (∀ j,d≤j→j < 2 ^ n→best.getD j 0=mn (fun x=>max (frP g j x.toNat) (best.getD (j ||| 2 ^ x.toNat) 0)) (y6 n j) nn) →
     ∃ b,zD F nn ⟨(⟨yh g⟩,()),()⟩ ⟨yh g⟩ k best ((d:Int) - 1)=some b∧b.length=2 ^ n∧Yl n (frP g) nn (fun m=>b.getD m 0):=by
  intro d
  induction d with
  | zero=>
    intro k best _ hk hlen hrec
    obtain ⟨k,rfl⟩:∃ k',k=k' + 1:=⟨k - 1,by omega⟩
    refine ⟨best,?_,hlen,fun m hm=>hrec m (by omega) hm⟩
    simp only [zD]
    rw [decide_eq_false (by omega),cond_false]
  | succ d ih=>
    intro k best hd hk hlen hrec
    obtain ⟨k,rfl⟩:∃ k',k=k' + 1:=⟨k - 1,by omega⟩
    have hdn:d < 2 ^ n:=by omega
    have e0:((d + 1:Nat):Int) - 1=(d:Int):=by omega
    have hmk:zK .i64 ((2 ^ n - 1:Nat):Int) (d:Int)=((mkm (fun x=>!d.testBit x) n:Nat):Int):=by
     obtain ⟨c,hc,_,hb⟩:=w8 (a:=2 ^ n - 1) (b:=d) (by omega) (by omega)
     rw [hc]
     congr 1
     refine vw fun j=>?_
     rw [hb,Nat.testBit_two_pow_sub_one]
    have hl8:(y6 n d).length≤8:=by unfold y6;rw [yJ];exact Nat.le_trans vK hn8
    simp only [zD]
    rw [e0,decide_eq_true (by omega),cond_true,zL (d:=0) (by omega),Option.bind_some,hall,Option.bind_some,hmk,Z4 hn8 (by omega),Option.bind_some,Int.toNat_natCast]
    obtain ⟨s,hs,he⟩:=YJ (L:=fun k2 t s=>zI F nn ⟨(⟨yh g⟩,()),()⟩ ⟨yh g⟩ (d:Int) (y6 n d) (zD F nn ⟨(⟨yh g⟩,()),()⟩ ⟨yh g⟩ k) k2 s t) (n:=(y6 n d).length)
     (fun t s=>s=best.set d (mn (fun x=>max (frP g d x.toNat) (best.getD (d ||| 2 ^ x.toNat) 0)) ((y6 n d).take t) nn)) (fin:=fun s=>zD F nn ⟨(⟨yh g⟩,()),()⟩ ⟨yh g⟩ k s ((d:Int) - 1)) (by
       intro k2 t s ht hI
       subst hI
       refine ⟨_,rfl,?_⟩
       obtain ⟨x,hx,hxn,hxb⟩:=wO.1 (ww (d:=0) ht)
       have hgt:=ZC d (by omega) x (by omega) hxb
       have hxp:=Nat.two_pow_pos x
       have hor:=Ww hdn hxn
       have hcost:=My (F:=F) (m:=d) (x:=x) hg (by omega) (by rw [hn];exact hdn) (by rw [hn];exact hxn)
       have htake:(y6 n d).take (t + 1)=(y6 n d).take t++[(x:Int)]:=by
        rw [List.take_add_one,List.getElem?_eq_getElem ht]
        rw [List.getD_eq_getElem?_getD,List.getElem?_eq_getElem ht,Option.getD_some] at hx
        rw [hx];rfl
       have hget:∀ a:Int,(best.set d a).getD (d ||| 2 ^ x) 0=best.getD (d ||| 2 ^ x) 0:=by
        intro a
        rw [List.getD_eq_getElem?_getD,List.getElem?_set_ne (by omega),← List.getD_eq_getElem?_getD]
       have hgetd:∀ a:Int,(best.set d a).getD d 0=a:=by
        intro a
        rw [List.getD_eq_getElem?_getD,List.getElem?_set_self (by omega),Option.getD_some]
       simp only [zI,yB,yE]
       rw [decide_eq_true (show (t:Int) < ((y6 n d).length:Int) by omega),cond_true,zL (d:=0) ht,Option.bind_some,hx]
       rw [hcost,Option.bind_some,yP (by omega),Option.bind_some,Za (by omega) (uc (by omega)),zL (d:=0) (by rw [List.length_set];omega),Option.bind_some,hget,zL (d:=0) (by rw [List.length_set];omega),Option.bind_some,Option.bind_some,hgetd,Int.toNat_natCast,List.set_set,z5 ht (by unfold Sm;omega),htake,JF]
       have hmax:(if best.getD (d ||| 2 ^ x) 0 > frP g d x then best.getD (d ||| 2 ^ x) 0 else frP g d x)=max (frP g d x) (best.getD (d ||| 2 ^ x) 0):=by
        by_cases h:best.getD (d ||| 2 ^ x) 0 > frP g d x
        · rw [if_pos h,Int.max_eq_right (by omega)]
        · rw [if_neg h,Int.max_eq_left (by omega)]
       rw [hmax,Int.toNat_natCast]
       by_cases ht0:t=0
       · subst ht0
         rw [if_pos (.inl (by simp))]
         rfl
       · have hne:(y6 n d).take t≠[]:=by
          intro e
          have:=congrArg List.length e
          rw [List.length_take] at this
          simp only [List.length_nil] at this
          omega
         have hb:((t:Int) == 0)=false:=by rw [beq_eq_false_iff_ne];omega
         rw [hb,cond_false]
         by_cases hlt:max (frP g d x) (best.getD (d ||| 2 ^ x) 0) < mn (fun x=>max (frP g d x.toNat) (best.getD (d ||| 2 ^ x.toNat) 0)) ((y6 n d).take t) nn
         · rw [decide_eq_true hlt,cond_true,if_pos (.inr hlt)]
         · rw [decide_eq_false hlt,cond_false,if_neg (fun h=>h.elim hne hlt)]) (by
       intro k2 s hI
       simp only [zI]
       rw [decide_eq_false (show ¬ ((y6 n d).length:Int) < ((y6 n d).length:Int) by omega),cond_false,xp (by omega) (by omega)]) F (best.set d nn) (by omega) rfl
    have he':zI F nn ⟨(⟨yh g⟩,()),()⟩ ⟨yh g⟩ (d:Int) (y6 n d) (zD F nn ⟨(⟨yh g⟩,()),()⟩ ⟨yh g⟩ k) F (best.set d nn) 0=zD F nn ⟨(⟨yh g⟩,()),()⟩ ⟨yh g⟩ k s ((d:Int) - 1):=he
    rw [List.take_length] at hs
    rw [show zo (fun x=>!d.testBit x) n=y6 n d from rfl,he']
    refine ih k s (by omega) (by omega) (by rw [hs,List.length_set];exact hlen) ?_
    have hsd:s.getD d 0=mn (fun x=>max (frP g d x.toNat) (best.getD (d ||| 2 ^ x.toNat) 0)) (y6 n d) nn:=by
     rw [hs,List.getD_eq_getElem?_getD,List.getElem?_set_self (by omega),Option.getD_some]
    have hsne:∀ j,j≠d→s.getD j 0=best.getD j 0:=by
     intro j hj
     rw [hs,List.getD_eq_getElem?_getD,List.getElem?_set_ne (by omega),← List.getD_eq_getElem?_getD]
    intro j h1 h2
    have hcg:mn (fun x=>max (frP g j x.toNat) (best.getD (j ||| 2 ^ x.toNat) 0)) (y6 n j) nn=mn (fun x=>max (frP g j x.toNat) (s.getD (j ||| 2 ^ x.toNat) 0)) (y6 n j) nn:=by
     refine Ut fun y hy=>?_
     obtain ⟨x,rfl,hxn,hxb⟩:=wO.1 hy
     have hgt:=ZC j (by omega) x (by omega) hxb
     have hxp:=Nat.two_pow_pos x
     rw [Int.toNat_natCast,hsne _ (by omega)]
    by_cases e:j=d
    · subst e;rw [hsd,hcg]
    · rw [hsne j e,hrec j (by omega) h2,hcg]
 have e1:((2 ^ n - 1:Nat):Int)=((2 ^ n:Nat):Int) - 1:=by omega
 rw [e1]
 exact key (2 ^ n) F _ (by omega) (by omega) (by simp) (fun j h1 h2=>absurd h2 (by omega))
end Go.Zq
namespace Go.Zq
theorem Y0 {n:Nat} (hn:n≤8):2 ^ n≤256:=by
 have:=Nat.pow_le_pow_right (n:=2) (by decide) hn
 simpa using this
theorem NF {F:Nat} {g:Gr} (hg:xa g=true) (hF:300≤F) (hG:g.2.length < F) (hs:Sm g.2.length) :
    ∃ out:List Int,Jr F g=some out∧out.length=2 ^ g.1.toNat∧zgu g.1.toNat (frC g) (fun m=>out.getD m 0):=by
 have h8:=zY hg
 obtain ⟨n,hn⟩:∃ n:Nat,g.1.toNat=n:=⟨_,rfl⟩
 have hn8:n≤8:=by omega
 have hgn:g.1=(n:Int):=by omega
 have hpow:=Nat.two_pow_pos n
 have hp256:=Y0 hn8
 rw [hn]
 unfold Jr
 obtain ⟨s,⟨i1,i2,i3⟩,he⟩:=YJ (L:=fun k i s=>vP F g k s (i + 1)) (n:=2 ^ n - 1)
  (fun i s=>s.length=i + 1∧(∀ j,j < i + 1→0≤s.getD j 0)∧(s.getD 0 0=0∧∀ j,0 < j→j < i + 1→s.getD j 0=max (mn (fun x=>s.getD (j - 2 ^ x.toNat) 0) (Ko n j) (-1)) (frC g j))) (fin:=fun s=>some s) (by
    rintro k i s hi ⟨i1,i2,i3,i4⟩
    have hc2:i + 1 < 2 ^ n:=by omega
    have e1:((i:Int) + 1)=((i + 1:Nat):Int):=by omega
    obtain ⟨code,hcode⟩:∃ code,i + 1=code:=⟨_,rfl⟩
    have hc0:0 < code:=by omega
    have hfr:uX F g (zo code.testBit n)=some (zo (frt g code.testBit) n):=by
     have:=zfY (F:=F) (p:=code.testBit) hg (by omega) hG hs
     rwa [hn] at this
    have hne:Ko n code≠[]:=fun e=>by have:=(zbB (by omega)).1 e;omega
    have hv:∀ y∈Ko n code,0≤s.getD (code - 2 ^ y.toNat) 0:=by
     intro y hy
     obtain ⟨x,rfl,hx,hb⟩:=XE.1 hy
     have:=Nat.two_pow_pos x
     rw [Int.toNat_natCast]
     exact i2 _ (by omega)
    have hmn0:=Xk (nn:=-1) hne hv
    refine ⟨s++[max (mn (fun x=>s.getD (code - 2 ^ x.toNat) 0) (Ko n code) (-1)) (frC g code)],⟨by rw [List.length_append];simp;omega,?_,?_,?_⟩,?_⟩
    · intro j hj
      by_cases e:j < code
      · rw [List.getD_eq_getElem?_getD,List.getElem?_append_left (by omega),← List.getD_eq_getElem?_getD];exact i2 j (by omega)
      · obtain rfl:j=s.length:=by omega
        rw [List.getD_eq_getElem?_getD,List.getElem?_append_right (by omega)]
        simp only [Nat.sub_self,List.getElem?_cons_zero,Option.getD_some]
        omega
    · rw [List.getD_eq_getElem?_getD,List.getElem?_append_left (by omega),← List.getD_eq_getElem?_getD];exact i3
    · intro j h0 hj
      have hold:∀ k,k < code→(s++[max (mn (fun x=>s.getD (code - 2 ^ x.toNat) 0) (Ko n code) (-1)) (frC g code)]).getD k 0=s.getD k 0:=by
       intro k hk
       rw [List.getD_eq_getElem?_getD,List.getElem?_append_left (by omega),← List.getD_eq_getElem?_getD]
      have hcg:mn (fun x=>(s++[max (mn (fun x=>s.getD (code - 2 ^ x.toNat) 0) (Ko n code) (-1)) (frC g code)]).getD (j - 2 ^ x.toNat) 0) (Ko n j) (-1)=mn (fun x=>s.getD (j - 2 ^ x.toNat) 0) (Ko n j) (-1):=by
       refine Ut fun y hy=>?_
       obtain ⟨x,rfl,hx,hb⟩:=XE.1 hy
       have:=Nat.two_pow_pos x
       rw [Int.toNat_natCast,hold _ (by omega)]
      rw [hcg]
      by_cases e:j < code
      · rw [hold j e];exact i4 j h0 (by omega)
      · obtain rfl:j=code:=by omega
        rw [List.getD_eq_getElem?_getD,List.getElem?_append_right (by omega)]
        have:j - s.length=0:=by omega
        rw [this];rfl
    · simp only [vP]
      rw [hgn,yP (by omega),Option.bind_some,e1,hcode,decide_eq_true (show (code:Int) < ((2 ^ n:Nat):Int) by omega),cond_true]
      refine we (L:=fun k2 x b=>vJ F g s (code:Int) (vP F g k) k2 b x) (n:=n) (fun x b=>b=mn (fun y=>s.getD (code - 2 ^ y.toNat) 0) (zo code.testBit x) (-1)) ?_ ?_ F _ (by omega) rfl
      · intro k2 x b hx hI
        subst hI
        refine ⟨_,rfl,?_⟩
        obtain ⟨q,q1,q2,_⟩:=zaJ (m:=code) (j:=x) (by omega) (by omega)
        simp only [vJ,X5,YN]
        rw [hgn,decide_eq_true (show (x:Int) < (n:Int) by omega),cond_true,q1,Option.bind_some,q2,z5 hx (by unfold Sm;omega)]
        cases hb:code.testBit x with
        | false=>
          rw [cond_false,vi,hb];simp
        | true=>
          obtain ⟨s1,_,_⟩:=Qk code (by omega) x (by omega) hb
          have hxp:=Nat.two_pow_pos x
          have hw:w64 ((code:Int) - ((2 ^ x:Nat):Int))=((code - 2 ^ x:Nat):Int):=by rw [xp (by omega) (by omega)];omega
          rw [cond_true,yP (by omega),Option.bind_some,Option.bind_some,hw,zL (d:=0) (by omega),Option.bind_some,Option.bind_some,vi,hb,if_pos rfl,JF,Int.toNat_natCast]
          by_cases hl:zo code.testBit x=[]
          · rw [hl,MR,if_pos (.inl rfl),decide_eq_true (by omega)];rfl
          · have h0:=Xk (nn:=-1) (v:=fun y=>s.getD (code - 2 ^ y.toNat) 0) hl (fun y hy=>by
             obtain ⟨z,rfl,hz,hzb⟩:=y5.1 hy
             exact hv _ (XE.2 ⟨z,rfl,by omega,hzb⟩))
            rw [decide_eq_false (by omega),cond_false]
            by_cases hlt:s.getD (code - 2 ^ x) 0 < mn (fun y=>s.getD (code - 2 ^ y.toNat) 0) (zo code.testBit x) (-1)
            · rw [decide_eq_true hlt,cond_true,if_pos (.inr hlt)]
            · rw [decide_eq_false hlt,cond_false,if_neg (fun h=>h.elim hl hlt)]
      · intro k2 b hI
        subst hI
        simp only [vJ]
        rw [hgn,decide_eq_false (show ¬ (n:Int) < (n:Int) by omega),cond_false,Lz hn8 (by omega) (by omega),Option.bind_some,hfr,Option.bind_some,Ly,Option.bind_some,vF (by omega),Option.bind_some,yJ,xp (by omega) (by omega)]
        have:frC g code=((yO (frt g code.testBit) n:Nat):Int):=by unfold frC;rw [hn]
        rw [this];rfl) (by
    rintro k s ⟨i1,i2,i3⟩
    simp only [vP]
    rw [hgn,yP (by omega),Option.bind_some,decide_eq_false (by omega),cond_false]) F [0] (by omega) ⟨rfl,fun j hj=>by
     obtain rfl:j=0:=by omega
     exact Int.le_refl _,rfl,fun j h1 h2=>absurd h2 (by omega)⟩
 have he':vP F g F [0] ((0:Int) + 1)=some s:=he
 refine ⟨s,he',by omega,i3.1,fun m h0 hm=>i3.2 m h0 (by omega)⟩
theorem zmr {F:Nat} {g:Gr} (hg:xa g=true) (hF:300≤F) (hG:g.2.length < F) (hs:Sm g.2.length):ut F g=xY F ⟨yh g⟩∧∃ w,xY F ⟨yh g⟩=some w:=by
 have h8:=zY hg
 have hp256:=Y0 (n:=g.1.toNat) (by omega)
 have hpow:=Nat.two_pow_pos g.1.toNat
 obtain ⟨out,o1,o2,o3⟩:=NF hg hF hG hs
 obtain ⟨best,b1,b2,b3⟩:=Up (F:=F) (nn:=0) hg hF
 have heq:=zcA (n:=g.1.toNat) (c:=frC g) (by omega) (fun m=>Js) o3 b3
 have hi:xY F ⟨yh g⟩=some (best.getD 0 0):=by
  unfold xY
  rw [b1,Option.bind_some]
  have:=zL (xs:=best) (i:=0) (d:=0) (by omega)
  rw [show ((0:Nat):Int)=0 from rfl] at this
  rw [this,Option.bind_some]
 refine ⟨?_,_,hi⟩
 unfold ut
 have hgn:g.1=((g.1.toNat:Nat):Int):=by omega
 have hsh:=yP (j:=g.1.toNat) (by omega)
 rw [← hgn] at hsh
 rw [o1,Option.bind_some,hsh,Option.bind_some]
 have hw:w64 (((2 ^ g.1.toNat:Nat):Int) - 1)=((2 ^ g.1.toNat - 1:Nat):Int):=by rw [xp (by omega) (by omega)];omega
 rw [hw,zL (d:=0) (by omega),Option.bind_some,hi]
 congr 1
end Go.Zq
