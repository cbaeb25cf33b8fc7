/- Plain mathematics: what the functions answer (part 3). Conditions: stated in each theorem. -/
import Derived.Test.YtelahampjnaimabM2
import Derived.Test.YtelahampjnaimabM1
set_option linter.unusedVariables false
set_option linter.unusedSimpArgs false
namespace Go.Zq
theorem zhi {P:Nat→Bool} {n a:Nat} (ha:a < n) (h:P a=true) (hm:∀ j,j < a→P j=false):Z8 P n=some a:=by
 cases hf:Z8 P n with
 | none=>rw [uM.1 hf a ha] at h;cases h
 | some b=>
   obtain ⟨hb,hPb,hmb⟩:=Z2 hf
   congr 1
   rcases Nat.lt_trichotomy a b with h1 | h1 | h1
   · rw [hmb a h1] at h;cases h
   · exact h1.symm
   · rw [hm b h1] at hPb;cases hPb
theorem zcx {p q:Nat→Bool} {n:Nat}:Z8 (fun j=>p j && q j) n=(Z8 (fun i=>q ((zP p n).getD i 0).toNat) (zP p n).length).map fun i=>((zP p n).getD i 0).toNat:=by
 cases hf:Z8 (fun i=>q ((zP p n).getD i 0).toNat) (zP p n).length with
 | none=>
   rw [Option.map_none,uM]
   intro j hj
   cases hp:p j with
   | false=>rfl
   | true=>
     have hm:(j:Int)∈zP p n:=wJ.2 ⟨j,rfl,hj,hp⟩
     obtain ⟨i,hi,e⟩:=List.getElem_of_mem hm
     have:=uM.1 hf i hi
     rw [zM,z9 hi,yd,e,yh] at this
     rw [this];rfl
 | some i=>
   obtain ⟨hi,hq,hm⟩:=Z2 hf
   obtain ⟨a,ha,han,hap⟩:=uV hi
   rw [ym,ha,yh]
   rw [ha,yh] at hq
   refine zhi han (by rw [hap,hq];rfl) ?_
   intro j hj
   cases hp:p j with
   | false=>rfl
   | true=>
     have hm2:(j:Int)∈zP p n:=wJ.2 ⟨j,rfl,by omega,hp⟩
     obtain ⟨t,ht,e⟩:=List.getElem_of_mem hm2
     have e2:(zP p n).getD t 0=(j:Int):=by rw [zM,z9 ht,yd,e]
     have hlt:t < i:=by
      rcases Nat.lt_trichotomy t i with h1 | h1 | h1
      · exact h1
      · subst h1;rw [ha] at e2;omega
      · have:=zaW W7 h1 ht
        rw [ha,e2] at this;omega
     have:=hm t hlt
     rw [e2,yh] at this
     rw [this];rfl
def clq (g:Gr) (p:Nat→Bool):Bool:=!ui (fun x=>p x && ui (fun y=>p y && !(adj g x y || y == x)) g.1.toNat) g.1.toNat
theorem JE {g:Gr} {p:Nat→Bool}:clq g p=true↔∀ x y,x < g.1.toNat→y < g.1.toNat→p x=true→p y=true→x≠y→adj g x y=true:=by
 unfold clq
 rw [xk,Bool.eq_false_iff,ne_eq,xu]
 constructor
 · intro h x y hx hy h1 h2 hne
   cases ha:adj g x y with
   | true=>rfl
   | false=>
     refine absurd ⟨x,hx,?_⟩ h
     rw [h1,yk,xu]
     exact ⟨y,hy,by simp [h2,ha,Ne.symm hne]⟩
 · rintro h ⟨x,hx,h1⟩
   simp only [zl] at h1
   obtain ⟨y,hy,h2⟩:=xu.1 h1.2
   simp only [zl,xk,Bool.or_eq_false_iff,beq_eq_false_iff_ne] at h2
   have:=h x y hx hy h1.1 h2.1 (fun e=>h2.2.2 e.symm)
   rw [h2.2.1] at this;cases this
theorem zmg {A:Nat→Bool} {n x:Nat} (hn:n≤8) (hx:x < n):ior .i64 ((mkm A n:Nat):Int) ((2 ^ x:Nat):Int)=((mkm (fun j=>A j || j == x) n:Nat):Int):=by
 rw [WH (wC (by omega)) (Ya (by omega))]
 congr 1
 refine uu fun j=>?_
 rw [vC,yy,xW]
 by_cases e:x=j
 · subst e
   have:decide (x < n)=true:=zw (by omega)
   rw [this];simp
 · have h1:decide (x=j)=false:=by simpa using e
   have h2:(j == x)=false:=by simp;omega
   rw [h1,h2];simp
theorem Kj {A B:Nat→Bool} {n:Nat} (hn:n≤8):yu .i64 ((mkm A n:Nat):Int) ((mkm B n:Nat):Int)=((mkm (fun j=>A j && B j) n:Nat):Int):=by
 rw [Kp (wC (by omega)) (wC (by omega))]
 congr 1
 apply ZW
 intro j
 rw [Nat.testBit_and,yy,yy,yy]
 cases decide (j < n) <;> simp
theorem WD {A B:Nat→Bool} {n:Nat} (hn:n≤8):zY .i64 ((mkm A n:Nat):Int) ((mkm B n:Nat):Int)=((mkm (fun j=>A j && !B j) n:Nat):Int):=by
 obtain ⟨c,hc,_,hb⟩:=Zg (wC (p:=A) (n:=n) (by omega)) (wC (p:=B) (n:=n) (by omega))
 rw [hc]
 congr 1
 apply ZW
 intro j
 rw [hb,yy,yy,yy]
 cases decide (j < n) <;> simp
theorem M2 {F:Nat} {g:Gr} {p:Nat→Bool} (hg:yT g=true) (hF:20≤F):ve F ⟨xP g⟩ ((mkm p g.1.toNat:Nat):Int)=some (clq g p):=by
 have h8:=zT hg
 have hle:=Ww (p:=p) (n:=g.1.toNat)
 unfold ve yq yA
 rw [WV (by omega) hF,zb]
 obtain ⟨q,h5,h6,_⟩:=Mb (L:=fun k i=>yg F (zP p g.1.toNat) ⟨(),⟨((mkm p g.1.toNat:Nat):Int)⟩,⟨⟨xP g⟩⟩,()⟩ k i) (n:=(zP p g.1.toNat).length) (p:=fun i=>ui (fun y=>p y && !(adj g ((zP p g.1.toNat).getD i 0).toNat y || y == ((zP p g.1.toNat).getD i 0).toNat)) g.1.toNat) (by
  intro k i hi
  obtain ⟨a,ha,han,hap⟩:=uV hi
  simp only [yg,vD,Zz]
  rw [zw (show (i:Int) < ((zP p g.1.toNat).length:Int) by omega),zj,yf (d:=0) hi,zb,ha,yf (d:=0) (by rw [wH];omega),zb,Wd han,vq (by omega),zb,zmg (by omega) han,zb,WD (by omega),zhE,zb,yl hi (by unfold Sm;omega),yh]) (by
  intro k
  simp only [yg]
  rw [zJ (show ¬ ((zP p g.1.toNat).length:Int) < ((zP p g.1.toNat).length:Int) by omega),zk]) F (by omega)
 rw [h5,zb,zb,h6]
 have:=zc8 (p:=p) (q:=fun x=>ui (fun y=>p y && !(adj g x y || y == x)) g.1.toNat) (n:=g.1.toNat)
 rw [this];rfl
theorem zdh {F:Nat} {g:Gr} {p:Nat→Bool} (hg:yT g=true) (hF:20≤F) (hG:g.2.length < F) (hs:Sm g.2.length):Ye F g (zP p g.1.toNat)=some (clq g p):=by
 have h8:=zT hg
 obtain ⟨X,hX⟩:∃ X,zP p g.1.toNat=X:=⟨_,rfl⟩
 have hle:=Ww (p:=p) (n:=g.1.toNat)
 have hget:∀ i,i < X.length→∃ a:Nat,X.getD i 0=a∧a < g.1.toNat∧p a=true:=by rw [← hX];exact fun i hi=>uV hi
 have hsrt:Srt X:=by rw [← hX];exact W7
 rw [hX] at hle ⊢
 unfold Ye
 have hin:∀ k i,i < X.length→vw F X g (i:Int) (xT F X g k) F (w64 ((i:Int) + 1))=bif ZH (fun t=>(decide (t≤i)) || adj g (X.getD i 0).toNat (X.getD t 0).toNat) X.length then xT F X g k ((i + 1:Nat):Int) else some false:=by
  intro k i hi
  obtain ⟨a,ha,han,_⟩:=hget i hi
  have key:∀ d k2 t,t + d=X.length→d < k2→i < t→(∀ j,j < t→(decide (j≤i) || adj g (X.getD i 0).toNat (X.getD j 0).toNat)=true)→vw F X g (i:Int) (xT F X g k) k2 (t:Int)=bif ZH (fun t=>(decide (t≤i)) || adj g (X.getD i 0).toNat (X.getD t 0).toNat) X.length then xT F X g k ((i + 1:Nat):Int) else some false:=by
   intro d
   induction d with
   | zero=>
     intro k2 t ht hk hit hall
     obtain ⟨k2,rfl⟩:∃ k',k2=k' + 1:=⟨k2 - 1,by omega⟩
     obtain rfl:t=X.length:=by omega
     simp only [vw]
     rw [zJ (show ¬ (X.length:Int) < X.length by omega),zk,xJ.2 hall,zj,yl hi (by unfold Sm;omega)]
   | succ d ih=>
     intro k2 t ht hk hit hall
     obtain ⟨k2,rfl⟩:∃ k',k2=k' + 1:=⟨k2 - 1,by omega⟩
     have htl:t < X.length:=by omega
     obtain ⟨b,hb,hbn,_⟩:=hget t htl
     simp only [vw]
     rw [zw (show (t:Int) < X.length by omega),zj,yf (d:=0) hi,zb,yf (d:=0) htl,zb,ha,hb,LZ hG hs,zb,yl htl (by unfold Sm;omega)]
     cases hab:adj g a b with
     | true=>
       rw [y8,zk]
       have:=ih k2 (t + 1) (by omega) (by omega) (by omega) (by
        intro j hj
        by_cases e:j=t
        · subst e;rw [ha,hb,yh,yh,hab];simp
        · exact hall j (by omega))
       rw [this,ha]
     | false=>
       rw [vg,zj]
       have:ZH (fun t=>(decide (t≤i)) || adj g ((a:Int)).toNat (X.getD t 0).toNat) X.length=false:=by
        rw [Bool.eq_false_iff]
        intro h
        have:=xJ.1 h t htl
        rw [hb,yh,yh,hab,zJ (show ¬ t≤i by omega)] at this
        cases this
       rw [this];rfl
  rw [yl hi (by unfold Sm;omega)]
  by_cases h1:i + 1 < X.length
  · exact key (X.length - (i + 1)) F (i + 1) (by omega) (by omega) (by omega) (by intro j hj;simp [show j≤i by omega])
  · exact key 0 F (i + 1) (by omega) (by omega) (by omega) (by intro j hj;simp [show j≤i by omega])
 rw [u9 (L:=fun k i=>xT F X g k i) (n:=X.length) (p:=fun i=>ZH (fun t=>(decide (t≤i)) || adj g (X.getD i 0).toNat (X.getD t 0).toNat) X.length) (bad:=some false) (fin:=some true) ?_ ?_ F (by omega)]
 · have:ZH (fun i=>ZH (fun t=>(decide (t≤i)) || adj g (X.getD i 0).toNat (X.getD t 0).toNat) X.length) X.length=clq g p:=by
    rw [yQ,xJ,JE]
    constructor
    · intro h
      have key:∀ x y,x < g.1.toNat→y < g.1.toNat→p x=true→p y=true→x < y→adj g x y=true:=by
       intro x y hx hy h1 h2 hlt
       have hm1:(x:Int)∈X:=by rw [← hX];exact wJ.2 ⟨x,rfl,hx,h1⟩
       have hm2:(y:Int)∈X:=by rw [← hX];exact wJ.2 ⟨y,rfl,hy,h2⟩
       obtain ⟨i,hi,e1⟩:=List.getElem_of_mem hm1
       obtain ⟨t,ht,e2⟩:=List.getElem_of_mem hm2
       have e3:X.getD i 0=(x:Int):=by rw [zM,z9 hi,yd,e1]
       have e4:X.getD t 0=(y:Int):=by rw [zM,z9 ht,yd,e2]
       have hit:i < t:=by
        rcases Nat.lt_trichotomy i t with h3 | h3 | h3
        · exact h3
        · subst h3;rw [e3] at e4;omega
        · have:=zaW hsrt h3 hi
          rw [e3,e4] at this;omega
       have:=xJ.1 (h i hi) t ht
       rw [e3,e4,yh,yh,zJ (show ¬ t≤i by omega),ZG] at this
       exact this
      intro x y hx hy h1 h2 hne
      rcases Nat.lt_trichotomy x y with h3 | h3 | h3
      · exact key x y hx hy h1 h2 h3
      · exact absurd h3 hne
      · rw [uP];exact key y x hy hx h2 h1 h3
    · intro h i hi
      rw [xJ]
      intro t ht
      by_cases hle2:t≤i
      · simp [hle2]
      · obtain ⟨a,ha,han,hap⟩:=hget i hi
        obtain ⟨b,hb,hbn,hbp⟩:=hget t ht
        have hlt:=zaW hsrt (show i < t by omega) ht
        rw [ha,hb] at hlt
        rw [ha,hb,yh,yh,h a b han hbn hap hbp (by omega)];simp
   rw [this]
   cases clq g p <;> rfl
 · intro k i hi
   simp only [xT]
   rw [zw (show (i:Int) < X.length by omega),zj]
   exact hin k i hi
 · intro k
   simp only [xT]
   rw [zJ (show ¬ (X.length:Int) < X.length by omega),zk]
def Ke (n m:Nat) (P:Nat→Nat→Bool) (hv:List Int):Prop:=hv.length=n∧∀ x,x < n→hv.getD x 0=((mkm (P x) m:Nat):Int)
theorem xN {n:Int} {l:List Int} (ho:xb n l=true) (h0:0≤n) {i x:Nat} (hi:i < l.length) (hx:l.getD i 0=(x:Int)):yS l i x=false:=by
 have hl:=vS ho
 unfold yS
 refine zJ fun hm=>?_
 have hc:=(JT n.toNat (l.take i++l.drop (i + 1)) (fun j hj=>by
  have:=Uk ho (x:=(j:Int)) (by omega) (by omega)
  rw [← Ze i l,zG] at this
  rcases this with h | h
  · exact List.mem_append_left _ h
  · rw [List.drop_eq_getElem_cons hi,zW] at h
    rcases h with h | h
    · rw [zM,z9 hi,yd] at hx
      rw [h,hx]
      exact List.mem_append_left _ hm
    · exact List.mem_append_right _ h)).1
 rw [uU,List.length_take,List.length_drop] at hc
 omega
def Ms (g:Gr) (m a b:Nat):Bool:=ui (fun y=>ZU g (wth m a) a y && adj g y b) g.1.toNat
theorem YE {g:Gr} {m a b:Nat} (hb:m.testBit b=false) (hab:b≠a):wz g m a b=Ms g m a b:=by
 unfold wz Ms
 have:(b == a)=false:=by simpa using hab
 rw [hb,this];rfl
theorem uX {g:Gr} {m a b:Nat} (hg:yT g=true) (ha:a < g.1.toNat):Ms g m a b=true↔∃ y,ZU g (wth m a) a y=true∧adj g y b=true:=by
 unfold Ms
 rw [xu]
 constructor
 · rintro ⟨y,_,h⟩
   rw [zl] at h
   exact ⟨y,h⟩
 · rintro ⟨y,h1,h2⟩
   exact ⟨y,zew hg ha h1,by rw [h1,h2];rfl⟩
theorem Xx {m x:Nat}:wth m x x=true:=by simp [wth]
theorem J2 {m x j:Nat} (h:m.testBit j=true):wth m x j=true:=by simp [wth,h]
theorem Wg {m x j:Nat} (h:wth m x j=true):m.testBit j=true∨j=x:=by simpa [wth] using h
theorem Mv {g:Gr} {m a b:Nat} (hg:yT g=true) (ha:a < g.1.toNat) (hb:b < g.1.toNat) (hM:m < 2 ^ g.1.toNat) (h:Ms g m a b=true):Ms g m b a=true:=by
 obtain ⟨y,h1,h2⟩:=(uX hg ha).1 h
 have key:=XF (g:=g) (p:=wth m a) (x:=a) (j:=y)
  (C:=fun j=>j == a || (m.testBit j && ui (fun z=>ZU g m.testBit j z && adj g z a) g.1.toNat)) (by simp) (by
  intro u j hu hj huj
  simp only [yB,yC,zl] at hu ⊢
  rcases Wg hj with hmj | rfl
  · right
    refine ⟨hmj,?_⟩
    have hjn:j < g.1.toNat:=by
     by_cases h:j < g.1.toNat
     · exact h
     · have:=Nat.testBit_lt_two_pow (uy hM (vE (by decide) (show g.1.toNat≤j by omega)))
       rw [this] at hmj;cases hmj
    rw [xu]
    rcases hu with rfl | ⟨hmu,hz⟩
    · refine ⟨j,hjn,?_⟩
      rw [vh,uP,huj];rfl
    · rw [xu] at hz
      obtain ⟨z,hzn,hz⟩:=hz
      rw [zl] at hz
      refine ⟨z,hzn,?_⟩
      have h1:ZU g m.testBit j u=true:=w8 hg hjn hmj vh hmu (by rw [uP];exact huj)
      rw [zdR hg hjn hmj h1 hz.1,hz.2];rfl
  · left;rfl) h1
 simp only [yB,yC,zl] at key
 rw [uX hg hb]
 rcases key with rfl | ⟨hmy,hz⟩
 · exact ⟨b,vh,by rw [uP];exact h2⟩
 · rw [xu] at hz
   obtain ⟨z,_,hz⟩:=hz
   rw [zl] at hz
   refine ⟨z,?_,hz.2⟩
   have h0:ZU g (wth m b) b y=true:=w8 hg hb Xx vh (J2 hmy) (by rw [uP];exact h2)
   exact XF (C:=ZU g (wth m b) b) h0 (fun u j hu hj huj=>w8 hg hb Xx hu (J2 hj) huj) hz.1
theorem zgW {g:Gr} {m x a b:Nat} (hg:yT g=true) (hx:x < g.1.toNat) (ha:a < g.1.toNat) (hb:b < g.1.toNat) (hM:m < 2 ^ g.1.toNat) :
    Ms g (m ||| 2 ^ x) a b=(Ms g m a b || (Ms g m x a && Ms g m x b)):=by
 have hw:∀ j,(m ||| 2 ^ x).testBit j=true↔m.testBit j=true∨j=x:=by
  intro j
  rw [vC,xW,yB,ye]
  exact ⟨fun h=>h.imp id Eq.symm,fun h=>h.imp id Eq.symm⟩
 rw [yQ,yB,zl]
 constructor
 · intro h
   obtain ⟨y,h1,h2⟩:=(uX hg ha).1 h
   have key:=XF (g:=g) (p:=wth (m ||| 2 ^ x) a) (x:=a) (j:=y) (C:=fun j=>ZU g (wth m a) a j || (Ms g m x a && ZU g (wth m x) x j)) (by rw [vh];rfl) (by
    intro u j hu hj huj
    simp only [yB,zl] at hu ⊢
    rcases hu with hu | ⟨hv,hu⟩
    · rcases Wg hj with hj | rfl
      · rcases (hw j).1 hj with hj | rfl
        · left;exact w8 hg ha Xx hu (J2 hj) huj
        · right
          exact ⟨Mv hg ha hx hM ((uX hg ha).2 ⟨u,hu,huj⟩),vh⟩
      · left;exact vh
    · rcases Wg hj with hj | rfl
      · right
        refine ⟨hv,?_⟩
        rcases (hw j).1 hj with hj | rfl
        · exact w8 hg hx Xx hu (J2 hj) huj
        · exact vh
      · left;exact vh) h1
   simp only [yB,zl] at key
   rcases key with h | ⟨h3,h4⟩
   · left;exact (uX hg ha).2 ⟨y,h,h2⟩
   · right;exact ⟨h3,(uX hg hx).2 ⟨y,h4,h2⟩⟩
 · have hup:∀ y,ZU g (wth m a) a y=true→ZU g (wth (m ||| 2 ^ x) a) a y=true:=fun y h=>
    XF (C:=ZU g (wth (m ||| 2 ^ x) a) a) vh (fun u j hu hj huj=>w8 hg ha Xx hu (by
     rcases Wg hj with hj | rfl
     · exact J2 ((hw j).2 (.inl hj))
     · exact Xx) huj) h
   rintro (h | ⟨h1,h2⟩)
   · obtain ⟨y,h1,h2⟩:=(uX hg ha).1 h
     exact (uX hg ha).2 ⟨y,hup y h1,h2⟩
   · obtain ⟨y,y1,y2⟩:=(uX hg ha).1 (Mv hg hx ha hM h1)
     obtain ⟨z,z1,z2⟩:=(uX hg hx).1 h2
     have hax:ZU g (wth (m ||| 2 ^ x) a) a x=true:=w8 hg ha Xx (hup y y1) (J2 ((hw x).2 (.inr rfl))) y2
     exact (uX hg ha).2 ⟨z,XF (C:=ZU g (wth (m ||| 2 ^ x) a) a) hax (fun u j hu hj huj=>w8 hg ha Xx hu (J2 ((hw j).2 (Wg hj))) huj) z1,z2⟩
theorem KQ {g:Gr} {m x a b:Nat} (hg:yT g=true) (hx:x < g.1.toNat) (ha:a < g.1.toNat) (hb:b < g.1.toNat) (hM:m < 2 ^ g.1.toNat) (h1:(m ||| 2 ^ x).testBit a=false) (h2:(m ||| 2 ^ x).testBit b=false) :
    wz g (m ||| 2 ^ x) a b=(wz g m a b || (wz g m x a && wz g m x b && !(b == a))):=by
 have h1':m.testBit a=false∧a≠x:=by
  rw [vC,xW,Bool.or_eq_false_iff,decide_eq_false_iff_not] at h1
  exact ⟨h1.1,fun e=>h1.2 e.symm⟩
 have h2':m.testBit b=false∧b≠x:=by
  rw [vC,xW,Bool.or_eq_false_iff,decide_eq_false_iff_not] at h2
  exact ⟨h2.1,fun e=>h2.2 e.symm⟩
 by_cases hab:b=a
 · subst hab
   simp [wz]
 · have:(b == a)=false:=by simpa using hab
   rw [YE h2 hab,YE h2'.1 hab,YE h1'.1 h1'.2,YE h2'.1 h2'.2,zgW hg hx ha hb hM,this]
   simp
def xl (l:List Int) (n i:Nat):Nat:=mkm (yS l i) n
theorem xA {l:List Int} {n i j:Nat} (hj:j < n):(xl l n i).testBit j=yS l i j:=by
 unfold xl
 rw [yy,zw hj];rfl
theorem wV {l:List Int} {n i x:Nat} (hi:i < l.length) (hx:l.getD i 0=(x:Int)) (hn:x < n):xl l n (i + 1)=xl l n i ||| 2 ^ x:=by
 unfold xl
 symm
 refine uu fun j=>?_
 rw [vC,yy,xW,vV hi hx]
 by_cases e:x=j
 · subst e;simp [hn]
 · have h1:decide (x=j)=false:=by simpa using e
   have h2:(j == x)=false:=by simp;omega
   rw [h1,h2];simp
structure zcm (g:Gr) (l:List Int) (i:Nat) (P:Nat→Nat→Bool):Prop where
 cur:∀ a b,a < g.1.toNat→b < g.1.toNat→yS l i a=false→yS l i b=false→P a b=wz g (xl l g.1.toNat i) a b
 old:∀ t x:Nat,t < i→t < l.length→l.getD t 0=(x:Int)→∀ b,b < g.1.toNat→yS l (t + 1) b=false→P x b=wz g (xl l g.1.toNat t) x b
theorem wQ {l:List Int} {s t j:Nat} (h:s≤t) (hs:yS l t j=false):yS l s j=false:=by
 unfold yS at *
 refine zJ fun hm=>?_
 have:=of_decide_eq_false hs
 exact this (List.take_subset_take_left l h hm)
theorem zcz {g:Gr} {l:List Int} {i x:Nat} {P:Nat→Nat→Bool} (hg:yT g=true) (ho:xb g.1 l=true) (hi:i < l.length) (hx:l.getD i 0=(x:Int)) (h:zcm g l i P) :
    zcm g l (i + 1) (fun a b=>P a b || ((P x a && !yS l (i + 1) a) && (P x b && !yS l (i + 1) b) && !(b == a))):=by
 have h8:=zT hg
 have hxr:=Zo ho h8.1 _ (wN (d:=0) hi)
 have hxn:x < g.1.toNat:=by rw [hx] at hxr;omega
 have hfr:=xN ho h8.1 hi hx
 have hxi:yS l (i + 1) x=true:=by rw [vV hi hx];simp
 refine ⟨?_,?_⟩
 · intro a b ha hb hpa hpb
   have hpa':=wQ (Nat.le_succ i) hpa
   have hpb':=wQ (Nat.le_succ i) hpb
   have hlt:xl l g.1.toNat i < 2 ^ g.1.toNat:=Yd
   show (P a b || _)=_
   rw [h.cur a b ha hb hpa' hpb',h.cur x a hxn ha hfr hpa',h.cur x b hxn hb hfr hpb',hpa,hpb,wV hi hx hxn]
   rw [KQ hg hxn ha hb hlt (by rw [← wV hi hx hxn,xA ha];exact hpa) (by rw [← wV hi hx hxn,xA hb];exact hpb)]
   simp
 · intro t y ht htl hy b hb hpb
   show (P y b || _)=_
   by_cases e:t=i
   · subst e
     have:y=x:=by rw [hx] at hy;omega
     subst this
     rw [hxi,h.cur y b hxn hb hfr (wQ (Nat.le_succ t) hpb)]
     simp
   · have hyi:yS l (i + 1) y=true:=by
      unfold yS
      refine zw ?_
      have hm:l.getD t 0∈l.take (t + 1):=by
       rw [zM,z9 htl,yd]
       rw [List.mem_take_iff_getElem]
       exact ⟨t,by omega,rfl⟩
      rw [hy] at hm
      exact List.take_subset_take_left l (show t + 1≤i + 1 by omega) hm
     rw [hyi,h.old t y (by omega) htl hy b hb hpb]
     simp
theorem M0 {g:Gr} {l:List Int} (hg:yT g=true):zcm g l 0 (adj g):=by
 refine ⟨fun a b ha hb _ _=>?_,fun t _ ht=>absurd ht (by omega)⟩
 have h0:xl l g.1.toNat 0=0:=by
  unfold xl
  apply ZW;intro j
  rw [yy];simp [yS]
 rw [h0]
 by_cases hab:b=a
 · subst hab
   have:wz g 0 b b=false:=by simp [wz]
   rw [this]
   cases hadj:adj g b b with
   | false=>rfl
   | true=>
     unfold adj at hadj
     rw [xu] at hadj
     obtain ⟨i,hi,hj⟩:=hadj
     obtain ⟨e1,e2,e3⟩:=Xd hg hi
     rcases W0.1 hj with ⟨h1,h2⟩ | ⟨h1,h2⟩ <;> omega
 · rw [YE (by simp) hab,yQ,uX hg ha]
   constructor
   · intro h;exact ⟨a,vh,h⟩
   · rintro ⟨y,h1,h2⟩
     have:=XF (C:=fun j=>j == a) (by simp) (fun u j _ hj _=>by
      rcases Wg hj with h | rfl
      · simp at h
      · simp) h1
     simp only [yC] at this
     subst this
     exact h2
theorem JV {α β γ:Type} {x:Option α} {f:α→Option β} {f':α→Option γ} {h:β→γ} (H:∀ a,f' a=(f a).map h):x.bind f'=(x.bind f).map h:=by
 cases x with
 | none=>rfl
 | some a=>exact H a
theorem zbQ {β γ:Type} {t:Bool} {a b:Option β} {a' b':Option γ} {h:β→γ} (H1:a'=a.map h) (H2:b'=b.map h):(bif t then a' else b')=(bif t then a else b).map h:=by
 cases t with
 | true=>exact H1
 | false=>exact H2
theorem zqX {F:Nat} {l:List Int} {n:Int}:We F ⟨.of l⟩ n=(JC F l n).map NL.of:=by
 have hj:∀ (k:Int) (t:Bool),Zv F ⟨.of l⟩ n k t=(Y6 F l n k t).map NL.of:=by
  intro k t
  simp only [Zv,Y6,zfL,zb]
  exact zbQ rfl (JV fun _=>JV fun _=>JV fun _=>JV fun _=>JV fun _=>rfl)
 have key:∀ (k:Nat) (i:Int),wZ F ⟨.of l⟩ n k i=(uK F l n k i).map NL.of:=by
  intro k
  induction k with
  | zero=>intro i;rfl
  | succ k ih=>
    intro i
    have hj2:∀ t,ZQ F ⟨.of l⟩ n i (wZ F ⟨.of l⟩ n k) t=(Y5 F l n i (uK F l n k) t).map NL.of:=by
     intro t
     simp only [ZQ,Y5]
     exact zbQ (ih _) (zbQ (JV fun _=>hj i _) (hj i _))
    simp only [wZ,uK]
    exact zbQ (JV fun _=>hj2 _) (hj2 _)
 exact key F 0
theorem zfe {F:Nat} {g:Gr} {a:List Int} {x:Int}:Zl F g a x=(Y9 F g a x).map NL.of:=by
 have h1:∀ (kk:Int) (r:List Int) (c:List Int→List Int→Int→Option (List Int)) (c':NL Int→List Int→Int→Option (NL Int)),(∀ o s i,c' (.of o) s i=(c o s i).map NL.of) →
     ∀ (k:Nat) (o s:List Int) (i:Int),wk F a g kk r c' k (.of o) s i=(xw F a g kk r c k o s i).map NL.of:=by
  intro kk r c c' hc k
  induction k with
  | zero=>intro o s i;rfl
  | succ k ih=>
    intro o s i
    simp only [wk,xw,Zj,YD,zqX]
    refine zbQ (JV fun e=>JV fun t=>zbQ (ih _ _ _) (JV fun e2=>JV fun t2=>zbQ (JV fun e3=>JV fun s2=>ih _ _ _) (JV fun e4=>?_))) (hc _ _ _)
    cases JC F o e4 with
    | none=>rfl
    | some o2=>exact ih _ _ _
 have h2:∀ (k:Nat) (o s:List Int) (i:Int),vH F a g k (.of o) s i=(wn F a g k o s i).map NL.of:=by
  intro k
  induction k with
  | zero=>intro o s i;rfl
  | succ k ih=>
    intro o s i
    simp only [vH,wn]
    exact zbQ (JV fun e=>JV fun r=>h1 _ _ _ _ ih _ _ _ _) rfl
 exact h2 _ _ _ _
theorem LL {xs:List Int} (h:xs.length≤1000000000000):∃ o,cloneO xs=some o∧o.list=xs:=by
 unfold cloneO
 rw [if_pos h]
 refine ⟨_,rfl,?_⟩
 cases xs with
 | nil=>rfl
 | cons x xs=>rfl
theorem zhy {o:NL Int} {i:Nat} {v:Int}:(NL.set o i v).list=o.list.set i v:=by cases o <;> simp [NL.set,NL.list]
theorem zcO {F:Nat} {g:Gr} {a b:List Int} (h:∀ e,ul F a e=ul F b e) {x:Int}:Y9 F g a x=Y9 F g b x:=by
 have h1:∀ (kk:Int) (r:List Int) (c:List Int→List Int→Int→Option (List Int)) (k:Nat) (o s:List Int) (i:Int),xw F a g kk r c k o s i=xw F b g kk r c k o s i:=by
  intro kk r c k
  induction k with
  | zero=>intro o s i;rfl
  | succ k ih=>
    intro o s i
    have ih':xw F a g kk r c k=xw F b g kk r c k:=by funext o s i;exact ih o s i
    simp only [xw,h,ih',YD]
 have h2:∀ (k:Nat) (o s:List Int) (i:Int),wn F a g k o s i=wn F b g k o s i:=by
  intro k
  induction k with
  | zero=>intro o s i;rfl
  | succ k ih=>
    intro o s i
    have ih':wn F a g k=wn F b g k:=by funext o s i;exact ih o s i
    simp only [wn,ih',h1]
 unfold Y9
 exact h2 _ _ _ _
theorem Mg {F:Nat} {g:Gr} {l:List Int} {i x:Nat} (hg:yT g=true) (ho:xb g.1 l=true) (hF:20≤F) (hG:g.2.length < F) (hs:Sm g.2.length) (hi:i≤l.length) (hx:x < g.1.toNat) :
    Y9 F g (l.take i) (x:Int)=some (zP (wz g (xl l g.1.toNat i) x) g.1.toNat):=by
 have h8:=zT hg
 have hlen:=vS ho
 have hlt:xl l g.1.toNat i < 2 ^ g.1.toNat:=Yd
 have hc:=YP (p:=(xl l g.1.toNat i).testBit) (n:=g.1.toNat)
 rw [← zi3 (F:=F) hg hF hG hs hlt hx]
 refine zcO fun e=>?_
 rw [Wn (by simp;omega) (by unfold Sm;simp;omega),Wn (by rw [wt];omega) (by unfold Sm;rw [wt];omega)]
 congr 1
 rw [yQ,ye,ye,wJ]
 constructor
 · intro h
   have hr:=Zo ho h8.1 e (List.mem_of_mem_take h)
   refine ⟨e.toNat,by omega,by omega,?_⟩
   rw [xA (by omega)]
   unfold yS
   rw [WX hr.1]
   exact zw h
 · rintro ⟨j,rfl,hj,hb⟩
   rw [xA hj] at hb
   exact of_decide_eq_true hb
def elV (g:Gr) (l:List Int) (i:Nat):Int:=(xc (wz g (xl l g.1.toNat i) (l.getD i 0).toNat) g.1.toNat:Int)
def elW (g:Gr) (l:List Int) (k:Nat):Int:=(List.range k).foldl (fun s i=>max s (elV g l i)) (-1)
theorem U4 {g:Gr} {l:List Int} {k:Nat}:elW g l (k + 1)=max (elW g l k) (elV g l k):=by simp [elW,List.range_succ]
theorem zki {F:Nat} {g:Gr} {l:List Int} (hg:yT g=true) (ho:xb g.1 l=true) (hF:20≤F) (hG:g.2.length < F) (hs:Sm g.2.length):Xf F g l=some (elW g l l.length):=by
 have h8:=zT hg
 have hlen:=vS ho
 unfold Xf
 refine XB (L:=fun k i s=>uL F l g k s i) (n:=l.length) (fun i s=>s=elW g l i) ?_ ?_ F (-1) (by omega) rfl
 · intro k i s hi hI
   subst hI
   refine ⟨_,rfl,?_⟩
   have hr:=Zo ho h8.1 _ (wN (d:=0) hi)
   obtain ⟨x,hx⟩:∃ x:Nat,l.getD i 0=x:=⟨(l.getD i 0).toNat,by omega⟩
   simp only [uL]
   rw [zw (show (i:Int) < (l.length:Int) by omega),zj,zhj (by omega),zb,yf (d:=0) hi,zb,hx,zfe,Mg hg ho hF hG hs (by omega) (by omega),ym,zb,show (NL.of (zP (wz g (xl l g.1.toNat i) x) g.1.toNat)).list=zP (wz g (xl l g.1.toNat i) x) g.1.toNat from rfl,zbt,zb,wt,yl hi (by unfold Sm;omega),U4]
   unfold elV
   rw [hx,yh]
 · intro k s hI
   subst hI
   simp only [uL]
   rw [zJ (show ¬ (l.length:Int) < (l.length:Int) by omega),zk]
theorem zen {F:Nat} {g:Gr} {l:List Int} {i x:Nat} {P:Nat→Nat→Bool} {o:NL Int} {q left:Int} {c:NL Int→Int→Int→Option (S1 (List Int))} (hg:yT g=true) (hF:20≤F) (hx:x < g.1.toNat) (hH:Ke g.1.toNat g.1.toNat P o.list) (hfx:yS l (i + 1) x=true)
    (hleft:zY .i64 left q=((mkm (fun j=>!yS l (i + 1) j) g.1.toNat:Nat):Int)) :
    ∃ o',Ke g.1.toNat g.1.toNat (fun a b=>P a b || ((P x a && !yS l (i + 1) a) && (P x b && !yS l (i + 1) b) && !(b == a))) o'.list ∧
     wv F left q ((mkm (P x) g.1.toNat:Nat):Int) l (i:Int) (zP (fun j=>P x j && !yS l (i + 1) j) g.1.toNat) c F o 0=c o' (zY .i64 left q) (w64 ((i:Int) + 1)):=by
 have h8:=zT hg
 obtain ⟨n,hn⟩:∃ n:Nat,g.1.toNat=n:=⟨_,rfl⟩
 have hn8:n≤8:=by omega
 rw [hn] at hx hH hleft ⊢
 obtain ⟨B,hB⟩:∃ B:Nat→Bool,(fun j=>P x j && !yS l (i + 1) j)=B:=⟨_,rfl⟩
 have hBj:∀ j,(P x j && !yS l (i + 1) j)=B j:=fun j=>congrFun hB j
 rw [hB]
 simp only [hBj]
 have hl8:(zP B n).length≤8:=by rw [wt];exact wT YP hn8
 obtain ⟨s,hs,he⟩:=YJ (L:=fun k2 t (s:NL Int)=>wv F left q ((mkm (P x) n:Nat):Int) l (i:Int) (zP B n) c k2 s t) (n:=(zP B n).length)
  (fun t s=>Ke n n (fun a b=>P a b || (decide ((a:Int)∈(zP B n).take t) && B b && !(b == a))) s.list) (fin:=fun s=>c s (zY .i64 left q) (w64 ((i:Int) + 1))) (by
    intro k2 t s ht hI
    obtain ⟨y,hy,hyn,hyB⟩:=uV ht
    have htake:(zP B n).take (t + 1)=(zP B n).take t++[(y:Int)]:=by
     rw [List.take_add_one,z9 ht]
     rw [zM,z9 ht,yd] at hy
     rw [hy];rfl
    have hget:=hI.2 y hyn
    have hbm:yu .i64 ((mkm (P x) n:Nat):Int) ((mkm (fun j=>!yS l (i + 1) j) n:Nat):Int)=((mkm B n:Nat):Int):=by
     rw [Kj hn8,hB]
    have hpow:((2 ^ y:Nat):Int)=((mkm (fun j=>j == y) n:Nat):Int):=by
     congr 1
     refine uu fun j=>?_
     rw [xW]
     by_cases e:y=j
     · subst e;simp [hyn]
     · have h1:decide (y=j)=false:=by simpa using e
       have h2:(j == y)=false:=by simp;omega
       rw [h1,h2];simp
    refine ⟨NL.set s y (ior .i64 (s.list.getD y 0) (zY .i64 ((mkm B n:Nat):Int) ((2 ^ y:Nat):Int))),?_,?_⟩
    · rw [zhy]
      refine ⟨by rw [List.length_set];exact hI.1,fun a ha=>?_⟩
      by_cases e:a=y
      · subst e
        rw [zM,List.getElem?_set_self (by rw [hI.1];exact ha),yd,hget,hpow,WD hn8,WH (wC (by omega)) (wC (by omega))]
        congr 1
        refine uu fun j=>?_
        rw [vC,yy,yy,htake]
        have hmem:decide ((a:Int)∈(zP B n).take t++[(a:Int)])=true:=by simp
        dsimp only
        rw [hmem]
        cases decide (j < n) <;> cases P a j <;> cases B j <;> cases (j == a) <;> cases decide ((a:Int)∈(zP B n).take t) <;> rfl
      · rw [zM,List.getElem?_set_ne (by omega),← zM,hI.2 a ha]
        congr 1
        refine Zx fun j _=>?_
        have hmem:decide ((a:Int)∈(zP B n).take (t + 1))=decide ((a:Int)∈(zP B n).take t):=by
         rw [htake,yQ,ye,ye,zG,xX]
         constructor
         · rintro (h | h)
           · exact h
           · omega
         · exact .inl
        dsimp only
        rw [hmem]
    · simp only [wv]
      rw [zw (show (t:Int) < ((zP B n).length:Int) by omega),zj,yf (d:=0) ht,zb,hy,yf (d:=0) (by rw [hI.1];exact hyn),zb,vq (by omega),zb,zb,hleft,hbm,yh,yl ht (by unfold Sm;omega)]) (by
    intro k2 s hI
    simp only [wv]
    rw [zJ (show ¬ ((zP B n).length:Int) < ((zP B n).length:Int) by omega),zk]) F o (by omega) (by
    have:(fun a b=>P a b || (decide ((a:Int)∈(zP B n).take 0) && B b && !(b == a)))=P:=by
     funext a b;simp
    rw [this];exact hH)
 refine ⟨s,?_,he⟩
 rw [List.take_length] at hs
 have hP:∀ a,a < n→∀ b,(P a b || (decide ((a:Int)∈zP B n) && B b && !(b == a)))=(P a b || ((B a) && (B b) && !(b == a))):=by
  intro a ha b
  have:decide ((a:Int)∈zP B n)=B a:=by
   rw [yQ,ye,wJ]
   constructor
   · rintro ⟨j,h1,_,h3⟩
     have:a=j:=by omega
     rw [this];exact h3
   · intro h;exact ⟨a,rfl,ha,h⟩
  rw [this]
 exact ⟨hs.1,fun a ha=>by rw [hs.2 a ha];congr 1;exact Zx fun j _=>hP a ha j⟩
theorem zjp {F:Nat} {g:Gr} {l:List Int} (hg:yT g=true) (ho:xb g.1 l=true) (hF:20≤F):∃ L P,wj F ⟨xP g⟩ l=some ⟨L⟩∧Ke g.1.toNat g.1.toNat P L∧zcm g l l.length P:=by
 have h8:=zT hg
 have hlen:=vS ho
 unfold wj ud vG
 obtain ⟨o0,h0,h0l⟩:=LL (xs:=xP g) (by rw [wH];omega)
 rw [h0,zb,zb]
 have hall:xr F ⟨xP g⟩=some ((mkm (fun j=>!yS l 0 j) g.1.toNat:Nat):Int):=by
  have hp:=wW g.1.toNat
  have:=zdO (n:=g.1.toNat) (by omega)
  unfold xr
  rw [wH,vq (by omega),zb,ue (by omega) (by omega)]
  have e:mkm (fun j=>!yS l 0 j) g.1.toNat=2 ^ g.1.toNat - 1:=by
   symm
   refine uu fun j=>?_
   rw [Nat.testBit_two_pow_sub_one]
   simp [yS]
  rw [e]
  congr 1;omega
 rw [hall,zb]
 obtain ⟨⟨s,lf⟩,⟨⟨P,h1,h2⟩,_⟩,he⟩:=YJ (L:=fun k t (s:NL Int×Int)=>y4 F l k s.1 s.2 t) (n:=l.length)
  (fun t s=>(∃ P,Ke g.1.toNat g.1.toNat P s.1.list∧zcm g l t P)∧s.2=((mkm (fun j=>!yS l t j) g.1.toNat:Nat):Int)) (fin:=fun s=>some ⟨s.1.list⟩) (by
    rintro k t ⟨s,lf⟩ ht ⟨⟨P,h1,h2⟩,h3⟩
    simp only at h1 h3
    subst h3
    have hr:=Zo ho h8.1 _ (wN (d:=0) ht)
    obtain ⟨x,hx⟩:∃ x:Nat,l.getD t 0=x:=⟨(l.getD t 0).toNat,by omega⟩
    have hxn:x < g.1.toNat:=by omega
    have hxi:yS l (t + 1) x=true:=by rw [vV ht hx];simp
    have hpow:((2 ^ x:Nat):Int)=((mkm (fun j=>j == x) g.1.toNat:Nat):Int):=by
     congr 1
     refine uu fun j=>?_
     rw [xW]
     by_cases e:x=j
     · subst e;simp [hxn]
     · have h1:decide (x=j)=false:=by simpa using e
       have h2:(j == x)=false:=by simp;omega
       rw [h1,h2];simp
    have hleft:zY .i64 ((mkm (fun j=>!yS l t j) g.1.toNat:Nat):Int) ((2 ^ x:Nat):Int)=((mkm (fun j=>!yS l (t + 1) j) g.1.toNat:Nat):Int):=by
     rw [hpow,WD (by omega)]
     congr 1
     refine Zx fun j _=>?_
     show (!yS l t j && !(j == x))=!yS l (t + 1) j
     rw [vV ht hx]
     cases yS l t j <;> cases (j == x) <;> rfl
    obtain ⟨o',p1,p2⟩:=zen (F:=F) (i:=t) (c:=y4 F l k) hg hF hxn h1 hxi hleft
    refine ⟨(o',((mkm (fun j=>!yS l (t + 1) j) g.1.toNat:Nat):Int)),⟨⟨_,p1,zcz hg ho ht hx h2⟩,rfl⟩,?_⟩
    simp only [y4]
    rw [zw (show (t:Int) < (l.length:Int) by omega),zj,yf (d:=0) ht,zb,hx,vq (by omega),zb,yf (d:=0) (by rw [h1.1];exact hxn),zb,h1.2 x hxn]
    have hset:uH F (yu .i64 ((mkm (P x) g.1.toNat:Nat):Int) (zY .i64 ((mkm (fun j=>!yS l t j) g.1.toNat:Nat):Int) ((2 ^ x:Nat):Int)))=some (zP (fun j=>P x j && !yS l (t + 1) j) g.1.toNat):=by
     rw [hleft,Kj (by omega)]
     exact WV (by omega) hF
    rw [hset,zb,p2,yl ht (by unfold Sm;omega),hleft]) (by
    rintro k ⟨s,lf⟩ _
    simp only [y4]
    rw [zJ (show ¬ (l.length:Int) < (l.length:Int) by omega),zk]) F (o0,_) (by omega) ⟨⟨adj g,⟨by rw [h0l,wH],fun x hx=>by rw [h0l];exact Wd hx⟩,M0 hg⟩,rfl⟩
 exact ⟨s.list,P,he,h1,h2⟩
def nbL (g:Gr) (l:List Int) (n:Nat):List Int:=(List.range n).map fun i=>((mkm (wz g (xl l g.1.toNat i) (l.getD i 0).toNat) g.1.toNat:Nat):Int)
theorem zhV {g:Gr} {l:List Int} {n:Nat}:nbL g l (n + 1)=nbL g l n++[((mkm (wz g (xl l g.1.toNat n) (l.getD n 0).toNat) g.1.toNat:Nat):Int)]:=by simp [nbL,List.range_succ]
theorem L6 {g:Gr} {l:List Int} {n:Nat}:(nbL g l n).length=n:=by simp [nbL]
theorem zfI {F:Nat} {g:Gr} {l:List Int} (hg:yT g=true) (ho:xb g.1 l=true) (hF:20≤F):xG F ⟨xP g⟩ l=some (nbL g l l.length):=by
 have h8:=zT hg
 have hlen:=vS ho
 obtain ⟨L,P,f1,f2,f3⟩:=zjp hg ho hF
 unfold xG
 have hall:xr F ⟨xP g⟩=some ((mkm (fun j=>!yS l 0 j) g.1.toNat:Nat):Int):=by
  have hp:=wW g.1.toNat
  have:=zdO (n:=g.1.toNat) (by omega)
  unfold xr
  rw [wH,vq (by omega),zb,ue (by omega) (by omega)]
  have e:mkm (fun j=>!yS l 0 j) g.1.toNat=2 ^ g.1.toNat - 1:=by
   symm
   refine uu fun j=>?_
   rw [Nat.testBit_two_pow_sub_one]
   simp [yS]
  rw [e]
  congr 1;omega
 rw [f1,zb,hall,zb]
 obtain ⟨⟨lf,s⟩,⟨_,h2⟩,he⟩:=YJ (L:=fun k t (s:Int×NL Int)=>yX F ⟨L⟩ l k s.1 s.2 t) (n:=l.length)
  (fun t s=>s.1=((mkm (fun j=>!yS l t j) g.1.toNat:Nat):Int)∧s.2.list=nbL g l t) (fin:=fun s=>some s.2.list) (by
    rintro k t ⟨lf,s⟩ ht ⟨h1,h2⟩
    simp only at h1 h2
    subst h1
    have hr:=Zo ho h8.1 _ (wN (d:=0) ht)
    obtain ⟨x,hx⟩:∃ x:Nat,l.getD t 0=x:=⟨(l.getD t 0).toNat,by omega⟩
    have hxn:x < g.1.toNat:=by omega
    have hpow:((2 ^ x:Nat):Int)=((mkm (fun j=>j == x) g.1.toNat:Nat):Int):=by
     congr 1
     refine uu fun j=>?_
     rw [xW]
     by_cases e:x=j
     · subst e;simp [hxn]
     · have h1:decide (x=j)=false:=by simpa using e
       have h2:(j == x)=false:=by simp;omega
       rw [h1,h2];simp
    have hleft:zY .i64 ((mkm (fun j=>!yS l t j) g.1.toNat:Nat):Int) ((2 ^ x:Nat):Int)=((mkm (fun j=>!yS l (t + 1) j) g.1.toNat:Nat):Int):=by
     rw [hpow,WD (by omega)]
     congr 1
     refine Zx fun j _=>?_
     show (!yS l t j && !(j == x))=!yS l (t + 1) j
     rw [vV ht hx]
     cases yS l t j <;> cases (j == x) <;> rfl
    have hrow:yu .i64 ((mkm (P x) g.1.toNat:Nat):Int) ((mkm (fun j=>!yS l (t + 1) j) g.1.toNat:Nat):Int)=((mkm (wz g (xl l g.1.toNat t) x) g.1.toNat:Nat):Int):=by
     rw [Kj (by omega)]
     congr 1
     refine Zx fun j hj=>?_
     show (P x j && !yS l (t + 1) j)=_
     cases hpj:yS l (t + 1) j with
     | false=>rw [f3.old t x ht ht hx j hj hpj];simp
     | true=>
       rw [y8,Bool.and_false]
       rw [vV ht hx,yB] at hpj
       unfold wz
       rw [xA hj]
       rcases hpj with h | h
       · rw [h];rfl
       · rw [h];simp
    refine ⟨(((mkm (fun j=>!yS l (t + 1) j) g.1.toNat:Nat):Int),.of (s.list++[((mkm (wz g (xl l g.1.toNat t) x) g.1.toNat:Nat):Int)])),⟨rfl,?_⟩,?_⟩
    · show s.list++_=_
      rw [h2,zhV,hx,yh]
    · simp only [yX]
      rw [zw (show (t:Int) < (l.length:Int) by omega),zj,yf (d:=0) ht,zb,hx,vq (by omega),zb,yf (d:=0) (by rw [f2.1];exact hxn),zb,f2.2 x hxn,hleft,hrow,XC (by rw [h2,L6];omega),zb,yl ht (by unfold Sm;omega)]) (by
    rintro k ⟨lf,s⟩ _
    simp only [yX]
    rw [zJ (show ¬ (l.length:Int) < (l.length:Int) by omega),zk]) F (_,.nil) (by omega) ⟨rfl,rfl⟩
 have he':yX F ⟨L⟩ l F ((mkm (fun j=>!yS l 0 j) g.1.toNat:Nat):Int) .nil 0=some s.list:=he
 rw [he',h2]
theorem zjt {F:Nat} {g:Gr} {l:List Int} (hF:l.length < F) (hG:g.2.length < F) (h9:20≤F) (hl:Sm l.length) (hs:Sm g.2.length) :
    wo F g l=some (bif yT g && xb g.1 l then (elW g l l.length,true) else (0,false)):=by
 unfold wo vR
 rw [Xb hG hs,zb]
 cases hg:yT g with
 | false=>rfl
 | true=>
   have h8:=zT hg
   rw [zj,JA h8.1 h8.2 hF (by omega) hl,zb,zb,yk]
   cases ho:xb g.1 l with
   | false=>rfl
   | true=>rw [y8,zk,zki hg ho h9 hG hs,zb,zj]
theorem QY {F:Nat} {g:Gr} {l:List Int} (hF:l.length < F) (hG:g.2.length < F) (h9:20≤F) (hl:Sm l.length) (hs:Sm g.2.length) :
    y6 F g l=some (bif yT g && xb g.1 l then (elW g l l.length,true) else (0,false)):=by
 unfold y6
 rw [Ws hG (by omega) hs,zb]
 cases hg:yT g with
 | false=>rfl
 | true=>
   have h8:=zT hg
   rw [y8,zk,Nf h8.1 h8.2 hF hl,zb,yk]
   cases ho:xb g.1 l with
   | false=>rfl
   | true=>
     have hlen:=vS ho
     unfold wM
     rw [y8,zk,U6 hg hG hs,zb,zfI hg ho h9,zb,zj]
     refine XB (L:=fun k i s=>xH F (nbL g l l.length) k s i) (n:=l.length) (fun i s=>s=elW g l i) ?_ ?_ F (-1) (by omega) rfl
     · intro k i s hi hI
       subst hI
       refine ⟨_,rfl,?_⟩
       have hget:(nbL g l l.length).getD i 0=((mkm (wz g (xl l g.1.toNat i) (l.getD i 0).toNat) g.1.toNat:Nat):Int):=by
        simp [nbL,zM,hi]
       simp only [xH]
       rw [zw (show (i:Int) < ((nbL g l l.length).length:Int) by rw [L6];omega),zj,yf (d:=0) (by rw [L6];exact hi),zb,hget,zak (QA (by omega)),zb,ML (by omega),yl hi (by unfold Sm;omega),U4]
       have:(if ((xc (wz g (xl l g.1.toNat i) (l.getD i 0).toNat) g.1.toNat:Nat):Int) > elW g l i then ((xc (wz g (xl l g.1.toNat i) (l.getD i 0).toNat) g.1.toNat:Nat):Int) else elW g l i)=max (elW g l i) (elV g l i):=by
        unfold elV
        by_cases h:((xc (wz g (xl l g.1.toNat i) (l.getD i 0).toNat) g.1.toNat:Nat):Int) > elW g l i
        · rw [if_pos h,Int.max_eq_right (by omega)]
        · rw [if_neg h,Int.max_eq_left (by omega)]
       rw [this]
     · intro k s hI
       subst hI
       simp only [xH]
       rw [zJ (show ¬ (l.length:Int) < ((nbL g l l.length).length:Int) by rw [L6];omega),zk]
theorem Wc {α:Type} {xs ys:List α} (h:xs.length + ys.length≤1099511627776):vL xs ys=some (xs++ys):=by
 unfold vL
 rw [if_pos (by simpa using h)]
theorem Kn {a b:Int×Int}:bef a b=true↔a.1 < b.1∨(a.1=b.1∧a.2 < b.2):=by
 unfold bef
 simp
theorem KV {a b c:Int×Int} (h:bef a b=true) (h2:bef b c=true):bef a c=true:=by
 rw [Kn] at *
 omega
theorem zbl {a:Int×Int}:bef a a=false:=by
 cases h:bef a a with
 | false=>rfl
 | true=>rw [Kn] at h;omega
theorem zj0 {a b:Int×Int} (h:a≠b) (h2:bef a b=false):bef b a=true:=by
 rw [Kn]
 have h3:¬ (a.1 < b.1∨(a.1=b.1∧a.2 < b.2)):=fun e=>by rw [Kn.2 e] at h2;cases h2
 have h4:¬ (a.1=b.1∧a.2=b.2):=fun e=>h (Prod.ext e.1 e.2)
 omega
def Wl (l:List (Int×Int)):Prop:=l.Pairwise fun a b=>bef a b=true
theorem Ky:∀ (xs ys:List (Int×Int)),Wl xs→Wl ys→(∀ z,z∈xs↔z∈ys)→xs=ys
 | [],[],_,_,_=>rfl
 | [],y :: ys,_,_,h=>by have:=(h y).2 (by simp);simp at this
 | x :: xs,[],_,_,h=>by have:=(h x).1 (by simp);simp at this
 | x :: xs,y :: ys,hx,hy,h=>by
   unfold Wl at hx hy
   rw [List.pairwise_cons] at hx hy
   have e:x=y:=by
    by_cases e:x=y
    · exact e
    have h1:=(h x).1 (by simp)
    have h2:=(h y).2 (by simp)
    rw [zW] at h1 h2
    have h3:=hy.1 x (h1.resolve_left e)
    have h4:=hx.1 y (h2.resolve_left (Ne.symm e))
    have h5:=KV h3 h4
    rw [zbl] at h5;cases h5
   subst e
   congr 1
   refine Ky xs ys hx.2 hy.2 fun z=>?_
   have h1:=h z
   rw [zW,zW] at h1
   constructor
   · intro hz
     rcases h1.1 (.inr hz) with rfl | h2
     · have:=hx.1 _ hz;rw [zbl] at this;cases this
     · exact h2
   · intro hz
     rcases h1.2 (.inr hz) with rfl | h2
     · have:=hy.1 _ hz;rw [zbl] at this;cases this
     · exact h2
def YA {α:Type} (p:α→Bool):List α→Nat
 | []=>0
 | x :: xs=>if p x then YA p xs + 1 else 0
theorem za3 {α:Type} {p:α→Bool}:∀ {xs:List α},YA p xs≤xs.length
 | []=>xi _
 | x :: xs=>by
   have:=za3 (p:=p) (xs:=xs)
   simp only [YA,Yx]
   split <;> omega
theorem zaZ {α:Type} {p:α→Bool}:∀ {xs:List α} {i:Nat} (h:i < YA p xs) (h2:i < xs.length),p xs[i]=true
 | [],i,h,_=>by simp [YA] at h
 | x :: xs,i,h,h2=>by
   simp only [YA] at h
   split at h
   · rename_i hx
     cases i with
     | zero=>exact hx
     | succ i=>exact zaZ (xs:=xs) (by omega) (by simpa using h2)
   · omega
theorem zbi {α:Type} {p:α→Bool}:∀ {xs:List α} (h:YA p xs < xs.length),p xs[YA p xs]=false
 | [],h=>by simp [YA] at h
 | x :: xs,h=>by
   by_cases hx:p x=true
   · have e:YA p (x :: xs)=YA p xs + 1:=by simp [YA,hx]
     have h':YA p xs < xs.length:=by rw [e] at h;simpa using h
     have:=zbi (p:=p) (xs:=xs) h'
     simp only [e,List.getElem_cons_succ]
     exact this
   · have e:YA p (x :: xs)=0:=by simp [YA,hx]
     simp only [e,List.getElem_cons_zero]
     simpa using hx
def KC (xs:List (Int×Int)) (e:Int×Int):List (Int×Int):=xs.take (YA (fun z=>bef z e) xs)++e :: xs.drop (YA (fun z=>bef z e) xs)
theorem zjl {xs:List (Int×Int)} {e z:Int×Int}:z∈KC xs e↔z=e∨z∈xs:=by
 unfold KC
 have:z∈xs↔z∈xs.take (YA (fun z=>bef z e) xs)∨z∈xs.drop (YA (fun z=>bef z e) xs):=by
  rw [← zG,Ze]
 rw [this,zG,zW]
 constructor
 · rintro (h | h | h)
   · exact .inr (.inl h)
   · exact .inl h
   · exact .inr (.inr h)
 · rintro (h | h | h)
   · exact .inr (.inl h)
   · exact .inl h
   · exact .inr (.inr h)
theorem KD {xs:List (Int×Int)} {e:Int×Int}:(KC xs e).length=xs.length + 1:=by
 unfold KC
 have:=za3 (p:=fun z=>bef z e) (xs:=xs)
 simp;omega
theorem zhW {xs:List (Int×Int)} {e:Int×Int} (h:Wl xs) (he:e∉xs):Wl (KC xs e):=by
 unfold Wl at h
 have h0:(xs.take (YA (fun z=>bef z e) xs)++xs.drop (YA (fun z=>bef z e) xs)).Pairwise (fun a b=>bef a b=true):=by rw [Ze];exact h
 rw [List.pairwise_append] at h0
 unfold Wl KC
 have hd:∀ z∈xs.drop (YA (fun z=>bef z e) xs),bef e z=true:=by
  intro z hz
  obtain ⟨i,hi,rfl⟩:=w4.1 hz
  have hi':YA (fun z=>bef z e) xs + i < xs.length:=by simp at hi;omega
  have h1:=zbi (p:=fun z=>bef z e) (xs:=xs) (by omega)
  have h2:bef e (xs[YA (fun z=>bef z e) xs]'(by omega))=true:=zj0 (fun e2=>he (e2 ▸ Yu _)) h1
  rw [List.getElem_drop]
  by_cases e0:i=0
  · subst e0;exact h2
  · exact KV h2 (List.pairwise_iff_getElem.1 h _ _ (by omega) hi' (by omega))
 rw [List.pairwise_append,List.pairwise_cons]
 refine ⟨h0.1,⟨hd,h0.2.1⟩,?_⟩
 intro a ha b hb
 rw [zW] at hb
 rcases hb with rfl | hb
 · obtain ⟨i,hi,rfl⟩:=w4.1 ha
   rw [List.getElem_take]
   have hi2:i < YA (fun z=>bef z b) xs∧i < xs.length:=by simp at hi;omega
   exact zaZ hi2.1 hi2.2
 · exact h0.2.2 a ha b hb
theorem KI {F:Nat} {xs:List (Int×Int)} {e:Int×Int} (hF:xs.length < F) (hl:xs.length≤1000000):uR F xs e=some (.of (KC xs e)):=by
 have hle:=za3 (p:=fun z=>bef z e) (xs:=xs)
 unfold uR
 refine zeL (L:=fun k i=>wE F xs e k i) (n:=YA (fun z=>bef z e) xs) ?_ ?_ F (by omega)
 · intro k i hi
   have h1:=zaZ (p:=fun z=>bef z e) (xs:=xs) hi (by omega)
   simp only [wE,uG]
   rw [zw (show (i:Int) < (xs.length:Int) by omega),zj,Jz (by omega),zb,Jo,zb]
   rw [h1,zj,yl (n:=xs.length) (by omega) (by unfold Sm;omega)]
 · intro k
   have hfin:uG F xs e ((YA (fun z=>bef z e) xs:Nat):Int) (wE F xs e k) false=some (.of (KC xs e)):=by
    simp only [uG]
    rw [zk,Ll hle,zb,Wc (by simp;omega),zb,Wc (by simp;omega),zb,zb8 hle,zb,Wc (by simp;omega),zb]
    unfold KC
    simp
   simp only [wE]
   by_cases h:YA (fun z=>bef z e) xs < xs.length
   · have h1:=zbi (p:=fun z=>bef z e) (xs:=xs) h
     rw [zw (show ((YA (fun z=>bef z e) xs:Nat):Int) < (xs.length:Int) by omega),zj,Jz h,zb,Jo,zb]
     rw [h1]
     exact hfin
   · rw [zJ (show ¬ ((YA (fun z=>bef z e) xs:Nat):Int) < (xs.length:Int) by omega),zk]
     exact hfin
def smp (g:Gr) (R:Nat→Bool) (x:Nat):Bool:=clq g (fun y=>adj g x y && R y)
def pfe (g:Gr):Nat→(Nat→Bool)→List Int→Option (List Int)
 | 0,_,out=>some out
 | d + 1,R,out=>match Z8 (fun x=>R x && smp g R x) g.1.toNat with
   | none=>none
   | some x=>pfe g d (fun j=>R j && !(j == x)) (out++[(x:Int)])
theorem zgA {g:Gr} {x:Nat} {out:List Int} {F:Nat} (hg:yT g=true) (hF:20≤F) (hG:g.2.length < F) (hs:Sm g.2.length) (ho:out.length≤8):Y1 F g out (x:Int)=some (zP (fun y=>adj g x y && !bq out y) g.1.toNat):=by
 have h8:=zT hg
 have hle:=Ww (p:=adj g x) (n:=g.1.toNat)
 unfold Y1
 rw [zjq hg hF hG hs,zb]
 refine XB (L:=fun k t s=>wX F out (zP (adj g x) g.1.toNat) k s t) (n:=(zP (adj g x) g.1.toNat).length) (fun t s=>s=((zP (adj g x) g.1.toNat).take t).filter (fun y=>!bq out y.toNat)) ?_ ?_ F [] (by omega) (by simp)
 · rintro k t s ht rfl
   obtain ⟨a,ha,han,hap⟩:=uV ht
   refine ⟨_,rfl,?_⟩
   have hl1:=List.length_filter_le (fun y:Int=>!bq out y.toNat) ((zP (adj g x) g.1.toNat).take t)
   have hl3:((zP (adj g x) g.1.toNat).take t).length≤8:=by simp;omega
   simp only [wX,YM]
   rw [zw (show (t:Int) < ((zP (adj g x) g.1.toNat).length:Int) by omega),zj,yf (d:=0) ht,zb,ha,Wn (by omega) (by unfold Sm;omega),zb,zb,yl ht (by unfold Sm;omega),zqU ht ha,List.filter_append]
   show (bif !bq out a then _ else _)=_
   cases hB:bq out a with
   | true=>simp [List.filter_cons,hB]
   | false=>
     rw [vg,zj,XC (by omega),zb]
     simp [List.filter_cons,hB]
 · rintro k s rfl
   simp only [wX]
   rw [zJ (show ¬ ((zP (adj g x) g.1.toNat).length:Int) < ((zP (adj g x) g.1.toNat).length:Int) by omega),zk,List.take_length]
   exact congrArg some (KF (A:=adj g x) (B:=fun j=>!bq out j) g.1.toNat)
theorem zpX {F:Nat} {g:Gr} {out:List Int} {c1:List Int→Option (List Int×Bool)} (hg:yT g=true) (hF:20≤F) (hG:g.2.length < F) (hs:Sm g.2.length) (ho:out.length≤8) :
    yc F g out c1 F (-1) 0=match Z8 (fun x=>!bq out x && smp g (fun j=>!bq out j) x) g.1.toNat with
     | none=>some ([],false)
     | some x=>c1 (out++[(x:Int)]):=by
 have h8:=zT hg
 have key:∀ d k x,x + d=g.1.toNat→d + 1 < k→(∀ j,j < x→(!bq out j && smp g (fun j=>!bq out j) j)=false)→yc F g out c1 k (-1) (x:Int)=match Z8 (fun x=>!bq out x && smp g (fun j=>!bq out j) x) g.1.toNat with
     | none=>some ([],false)
     | some x=>c1 (out++[(x:Int)]):=by
  intro d
  induction d with
  | zero=>
    intro k x hx hk hall
    obtain ⟨k,rfl⟩:∃ k',k=k' + 1:=⟨k - 1,by omega⟩
    obtain rfl:x=g.1.toNat:=by omega
    have:Z8 (fun x=>!bq out x && smp g (fun j=>!bq out j) x) g.1.toNat=none:=uM.2 hall
    simp only [yc,xp]
    rw [zJ (show ¬ (g.1.toNat:Int) < g.1 by omega),this]
    rfl
  | succ d ih=>
    intro k x hx hk hall
    obtain ⟨k,rfl⟩:∃ k',k=k' + 2:=⟨k - 2,by omega⟩
    have hw:w64 ((x:Int) + 1)=((x + 1:Nat):Int):=yl (n:=g.1.toNat) (by omega) (by unfold Sm;omega)
    rw [yc]
    rw [zw (show (x:Int) < g.1 by omega),zj,show decide ((-1:Int) < 0)=true from rfl]
    simp only [xp,zj]
    rw [Wn (by omega) (by unfold Sm;omega),zb,zgA hg hF hG hs ho,zb,zdh hg hF hG hs,zb]
    have e1:decide ((x:Int)∈out)=bq out x:=rfl
    rw [e1]
    have e2:clq g (fun y=>adj g x y && !bq out y)=smp g (fun j=>!bq out j) x:=rfl
    rw [e2]
    cases hQ:(!bq out x && smp g (fun j=>!bq out j) x) with
    | false=>
      have hih:=ih (k + 1) (x + 1) (by omega) (by omega) (by
       intro j hj
       by_cases e:j=x
       · subst e;exact hQ
       · exact hall j (by omega))
      have:∀ b:Bool,b=false→xq F g out (-1) (x:Int) c1 (yc F g out c1 (k + 1)) b=yc F g out c1 (k + 1) (-1) ((x + 1:Nat):Int):=by
       rintro b rfl
       simp only [xq,xM,zk,hw]
      cases hb:bq out x with
      | true=>rw [y8,zk,this _ rfl,hih]
      | false=>
        rw [hb,vg,yk] at hQ
        rw [vg,zj,this _ hQ,hih]
    | true=>
      have hf:Z8 (fun x=>!bq out x && smp g (fun j=>!bq out j) x) g.1.toNat=some x:=zhi (by omega) hQ hall
      rw [hf]
      simp only [zl,xk] at hQ
      rw [hQ.1,vg,zj,hQ.2]
      simp only [xq,xM,zj,hw]
      rw [yc]
      rw [zJ (show ¬ (x:Int) < 0 by omega)]
      simp only [xp,zk]
      rw [zJ (show ¬ (x:Int) < 0 by omega),zk,XC (by omega),zb]
      cases decide (((x + 1:Nat):Int) < g.1) <;> rfl
 exact key g.1.toNat F 0 (by omega) (by omega) (by intro j hj;omega)
theorem Jx {out:List Int} {x j:Nat}:bq (out++[(x:Int)]) j=(bq out j || j == x):=by
 unfold bq
 rw [yQ]
 simp only [ye,zG,xX,yB,yC]
 constructor
 · rintro (h | h)
   · exact .inl h
   · exact .inr (by omega)
 · rintro (h | h)
   · exact .inl h
   · exact .inr (by omega)
theorem NY {g:Gr}:∀ (d:Nat) {R Q:Nat→Bool} {out:List Int},(∀ j,R j=Q j)→pfe g d R out=pfe g d Q out
 | 0,_,_,_,_=>rfl
 | d + 1,R,Q,out,h=>by have:R=Q:=funext h;rw [this]
theorem zcZ {F:Nat} {g:Gr} (hg:yT g=true) (hF:20≤F) (hG:g.2.length < F) (hs:Sm g.2.length):∀ (d k:Nat) (out:List Int),out.length + d=g.1.toNat→d < k →
    y7 F g k out=match pfe g d (fun j=>!bq out j) out with
     | none=>some ([],false)
     | some r=>some (r,true)
 | 0,k,out,hd,hk=>by
   have h8:=zT hg
   obtain ⟨k,rfl⟩:∃ k',k=k' + 1:=⟨k - 1,by omega⟩
   simp only [y7,pfe]
   rw [zJ (show ¬ (out.length:Int) < g.1 by omega),zk]
 | d + 1,k,out,hd,hk=>by
   have h8:=zT hg
   obtain ⟨k,rfl⟩:∃ k',k=k' + 1:=⟨k - 1,by omega⟩
   simp only [y7,pfe]
   rw [zw (show (out.length:Int) < g.1 by omega),zj,zpX hg hF hG hs (by omega)]
   cases hf:Z8 (fun x=>!bq out x && smp g (fun j=>!bq out j) x) g.1.toNat with
   | none=>rfl
   | some x=>
     simp only
     rw [zcZ hg hF hG hs d k (out++[(x:Int)]) (by simp;omega) (by omega)]
     rw [NY d (Q:=fun j=>!bq out j && !(j == x)) (fun j=>by rw [Jx];simp)]
theorem zkC {p:Nat→Bool} {n i:Nat} (h:Z8 p n=some i):i < n:=(Z2 h).1
theorem zh5 {F:Nat} {g:Gr} (hg:yT g=true) (hF:20≤F):∀ (d k:Nat) (R:Nat→Bool) (o:NL Int),xc R g.1.toNat=d→d < k→o.list.length + d≤8 →
    ∃ o',xa F ⟨xP g⟩ k o ((mkm R g.1.toNat:Nat):Int)=(match pfe g d R o.list with
     | none=>some (.nil,false)
     | some r=>some (o',true))∧∀ r,pfe g d R o.list=some r→o'.list=r
 | 0,k,R,o,hd,hk,ho=>by
   obtain ⟨k,rfl⟩:∃ k',k=k' + 1:=⟨k - 1,by omega⟩
   have h0:=Mc.1 hd
   refine ⟨o,?_,?_⟩
   · simp only [xa,pfe]
     rw [ziD.2 h0];rfl
   · intro r hr;simpa [pfe] using hr
 | d + 1,k,R,o,hd,hk,ho=>by
   have h8:=zT hg
   obtain ⟨k,rfl⟩:∃ k',k=k' + 1:=⟨k - 1,by omega⟩
   have hle:=Ww (p:=R) (n:=g.1.toNat)
   have hnz:ui R g.1.toNat=true:=by
    cases h:ui R g.1.toNat with
    | true=>rfl
    | false=>
      have:Z8 R g.1.toNat=none:=uM.2 fun j hj=>by
       cases hR:R j with
       | false=>rfl
       | true=>rw [xu.2 ⟨j,hj,hR⟩] at h;cases h
      have:=Mc.2 this
      omega
   obtain ⟨q,h5,h6,h7⟩:=Mb (L:=fun k i=>z6 F (zP R g.1.toNat) ⟨(),⟨⟨xP g⟩⟩,⟨((mkm R g.1.toNat:Nat):Int)⟩,()⟩ k i) (n:=(zP R g.1.toNat).length) (p:=fun i=>smp g R ((zP R g.1.toNat).getD i 0).toNat) (by
    intro k i hi
    obtain ⟨a,ha,han,hap⟩:=uV hi
    simp only [z6,xV]
    rw [zw (show (i:Int) < ((zP R g.1.toNat).length:Int) by omega),zj,yf (d:=0) hi,zb,ha,yf (d:=0) (by rw [wH];omega),zb,Wd han,Kj (by omega),M2 hg hF,zb,zb,yl hi (by unfold Sm;omega),yh]
    rfl) (by
    intro k
    simp only [z6]
    rw [zJ (show ¬ ((zP R g.1.toNat).length:Int) < ((zP R g.1.toNat).length:Int) by omega),zk]) F (by omega)
   have hfl:=zcx (p:=R) (q:=smp g R) (n:=g.1.toNat)
   simp only [xa]
   rw [zhE,hnz,zj,WV (by omega) hF,zb]
   unfold yb
   rw [h5,zb]
   cases hf:Z8 (fun i=>smp g R ((zP R g.1.toNat).getD i 0).toNat) (zP R g.1.toNat).length with
   | none=>
     rw [hf,Option.map_none] at hfl
     have:ui (fun i=>smp g R ((zP R g.1.toNat).getD i 0).toNat) (zP R g.1.toNat).length=false:=by
      rw [Bool.eq_false_iff];intro h
      obtain ⟨i,hi,h1⟩:=xu.1 h
      rw [uM.1 hf i hi] at h1;cases h1
     rw [this] at h6
     have hq:q < 0:=by
      have:=of_decide_eq_false h6
      omega
     rw [zw hq,zj]
     refine ⟨.nil,?_,?_⟩
     · simp only [pfe,hfl]
     · intro r hr;simp only [pfe,hfl] at hr;cases hr
   | some i=>
     rw [hf,ym] at hfl
     have hq:=h7 i hf
     have hi:=zkC hf
     obtain ⟨a,ha,han,hap⟩:=uV hi
     rw [ha,yh] at hfl
     subst hq
     rw [zJ (show ¬ (i:Int) < 0 by omega),zk,zb,yf (d:=0) hi,zb,ha,XC (by omega),zb,vq (by omega),zb,zh2 (by omega) han]
     have hc:xc (fun j=>R j && !(j == a)) g.1.toNat=d:=by
      have hsp:=zf5 (p:=R) (q:=fun j=>j == a) g.1.toNat
      have h1:xc (fun j=>(j == a) && R j) g.1.toNat=1:=by
       rw [Xm]
       have e:Jf (fun j=>if ((j == a) && R j)=true then 1 else 0) g.1.toNat=Jf (fun y=>if y=a then (1:Nat) else 0) g.1.toNat:=by
        apply JL;intro y _
        by_cases hy:y=a
        · subst hy;simp [hap]
        · simp [hy]
       rw [e,Qj (f:=fun _=>1) han]
      omega
     obtain ⟨o',h8',h9⟩:=zh5 hg hF d k (fun j=>R j && !(j == a)) (.of (o.list++[(a:Int)])) hc (by omega) (by show (o.list++[(a:Int)]).length + d≤8;rw [uU,List.length_singleton];omega)
     have e0:(NL.of (o.list++[(a:Int)])).list=o.list++[(a:Int)]:=rfl
     rw [e0] at h8' h9
     refine ⟨o',?_,?_⟩
     · rw [h8'];simp only [pfe,hfl]
     · intro r hr;simp only [pfe,hfl] at hr;exact h9 r hr
theorem ze7 {g:Gr}:∀ (d:Nat) (R:Nat→Bool) (out r:List Int),pfe g d R out=some r→r.length=out.length + d
 | 0,R,out,r,h=>by simp [pfe] at h;subst h;rfl
 | d + 1,R,out,r,h=>by
   simp only [pfe] at h
   split at h
   · cases h
   · have:=ze7 d _ _ r h
     simp at this;omega
theorem zu1 {n:Nat}:xc (fun _=>true) n=n:=by
 rw [Xm]
 induction n with
 | zero=>rfl
 | succ n ih=>simp only [Jf,if_true] at ih ⊢;omega
theorem zcU {n:Nat}:mkm (fun _=>true) n=2 ^ n - 1:=by
 induction n with
 | zero=>rfl
 | succ n ih=>
   have:=zko (p:=fun _=>true) (n:=n)
   rw [this,ih]
   have:=wW n
   simp only [if_true,Nat.pow_succ];omega
theorem zec {F:Nat} {g:Gr} (hg:yT g=true):xr F ⟨xP g⟩=some ((mkm (fun _=>true) g.1.toNat:Nat):Int):=by
 have h8:=zT hg
 have hpow:=wW g.1.toNat
 have h256:2 ^ g.1.toNat≤256:=by
  have:=vE (n:=2) (by decide) (show g.1.toNat≤8 by omega)
  simpa using this
 unfold xr
 rw [wH,vq (by omega),zb,ue (by omega) (by omega),zcU]
 congr 1;omega
theorem Jc {F:Nat} {g:Gr} (h9:20≤F) (hG:g.2.length < F) (hs:Sm g.2.length) :
    ∃ R b o,yW F g=some (R,b)∧vr F g=some (o,b)∧o.list=R∧R.length≤8:=by
 unfold yW vr
 rw [Xb hG hs,Ws hG (by omega) hs,zb,zb]
 cases h:yT g with
 | false=>exact ⟨[],false,.nil,rfl,rfl,rfl,by simp⟩
 | true=>
   have h8:=zT h
   have hS:=zcZ h h9 hG hs g.1.toNat F [] (by simp) (by omega)
   have hct:xc (fun _=>true) g.1.toNat=g.1.toNat:=zu1
   obtain ⟨o',hI,hI2⟩:=zh5 h h9 g.1.toNat F (fun _=>true) .nil hct (by omega) (by show 0 + g.1.toNat≤8;omega)
   have e0:pfe g g.1.toNat (fun j=>!bq [] j) []=pfe g g.1.toNat (fun _=>true) (NL.nil:NL Int).list:=NY _ fun j=>by simp [bq]
   rw [e0] at hS
   have hall:xr F ⟨xP g⟩=some ((mkm (fun _=>true) g.1.toNat:Nat):Int):=zec h
   simp only [y8,zk]
   rw [U6 h hG hs,zb,hall,zb]
   cases hp:pfe g g.1.toNat (fun _=>true) (NL.nil:NL Int).list with
   | none=>
     rw [hp] at hS hI
     exact ⟨[],false,.nil,hS,hI,rfl,by simp⟩
   | some r=>
     rw [hp] at hS hI
     have:=ze7 _ _ _ _ hp
     exact ⟨r,true,o',hS,hI,hI2 r hp,by rw [this];show 0 + g.1.toNat≤8;omega⟩
def zhx:List Int→List Int→Bool
 | [],[]=>false
 | [],_ :: _=>true
 | _ :: _,[]=>false
 | x :: xs,y :: ys=>if x=y then zhx xs ys else decide (x < y)
theorem zf8 {l:List Int} {i:Nat} (h:l.length≤i):l.drop i=[]:=List.drop_eq_nil_of_le h
theorem K3 {l:List Int} {i:Nat} (h:i < l.length):l.drop i=l.getD i 0 :: l.drop (i + 1):=by
 rw [List.drop_eq_getElem_cons h]
 simp [h]
theorem zkF {F:Nat} {x y:Int}:wl F x y=some (if x < y then -1 else if x > y then 1 else 0):=by
 unfold wl vv
 simp only [zb,Yj,zk]
 by_cases h:x < y
 · rw [zw h,zj,if_pos h]
 · rw [zJ h,zk,if_neg h]
   by_cases h2:x > y
   · rw [zw h2,zj,if_pos h2]
   · rw [zJ h2,zk,if_neg h2]
theorem zc4 {F:Nat} {a b:List Int} (hF:a.length < F) (ha:Sm a.length):∃ r,wg F a b=some r∧decide (r < 0)=zhx a b:=by
 unfold wg
 have key:∀ d k i,i + d=a.length→d < k→∃ r,we F a b k (i:Int)=some r∧(i≤b.length→decide (r < 0)=zhx (a.drop i) (b.drop i)):=by
  intro d
  induction d with
  | zero=>
    intro k i hi hk
    obtain ⟨k,rfl⟩:∃ k',k=k' + 1:=⟨k - 1,by omega⟩
    simp only [we]
    rw [zJ (show ¬ (i:Int) < a.length by omega),zk,List.drop_eq_nil_of_le (by omega)]
    by_cases hb:i < b.length
    · rw [K3 hb,zw (show (a.length:Int) < b.length by omega),zj]
      exact ⟨_,rfl,fun _=>rfl⟩
    · rw [List.drop_eq_nil_of_le (by omega),zJ (show ¬ (a.length:Int) < b.length by omega),zk]
      exact ⟨_,rfl,fun _=>rfl⟩
  | succ d ih=>
    intro k i hi hk
    obtain ⟨k,rfl⟩:∃ k',k=k' + 1:=⟨k - 1,by omega⟩
    have hia:i < a.length:=by omega
    simp only [we]
    rw [zw (show (i:Int) < a.length by omega),zj,yf (d:=0) hia,zb,K3 hia]
    by_cases hb:i < b.length
    · rw [zJ (show ¬ (i:Int)≥b.length by omega),zk,yf (d:=0) hb,zb,zkF,zb,yl hia ha,K3 hb]
      simp only [zhx]
      obtain ⟨r,h1,h2⟩:=ih k (i + 1) (by omega) (by omega)
      by_cases e:a.getD i 0=b.getD i 0
      · rw [if_pos e,e,if_neg (by omega),if_neg (by omega),Yj,zk]
        exact ⟨r,h1,fun _=>h2 (by omega)⟩
      · rw [if_neg e]
        by_cases e2:a.getD i 0 < b.getD i 0
        · rw [if_pos e2,zw e2];exact ⟨-1,rfl,fun _=>rfl⟩
        · rw [if_neg e2,if_pos (by omega),zJ e2];exact ⟨1,rfl,fun _=>rfl⟩
    · rw [zw (show (i:Int)≥b.length by omega),zj]
      refine ⟨1,rfl,fun h=>?_⟩
      rw [zf8 (l:=b) (by omega)];rfl
 obtain ⟨r,h1,h2⟩:=key a.length F 0 (by omega) (by omega)
 exact ⟨r,h1,by simpa using h2 (Nat.zero_le _)⟩
def zdI (best l:List Int):Bool:=decide (best.length < l.length) || (best.length == l.length && zhx l best)
theorem zgs {F:Nat} {b l:List Int} (hF:l.length < F) (hl:Sm l.length):uj F b l=some (zdI b l):=by
 unfold uj zdI
 by_cases h:b.length < l.length
 · rw [zw (show (l.length:Int) > b.length by omega),zj,zw h];rfl
 · rw [zJ (show ¬ (l.length:Int) > b.length by omega),zk,zJ h]
   by_cases e:b.length=l.length
   · obtain ⟨r,h1,h2⟩:=zc4 (b:=b) hF hl
     have e1:((l.length:Int) == (b.length:Int))=true:=by simp;omega
     have e2:(b.length == l.length)=true:=by simpa using e
     rw [e1,zj,h1,zb,h2,e2];simp
   · have e1:((l.length:Int) == (b.length:Int))=false:=by simp;omega
     have e2:(b.length == l.length)=false:=by simpa using e
     rw [e1,zk,e2];rfl
def bcl (g:Gr):Nat→List Int
 | 0=>[]
 | m + 1=>if (clq g m.testBit && zdI (bcl g m) (zP m.testBit g.1.toNat))=true then zP m.testBit g.1.toNat else bcl g m
theorem zbr {g:Gr}:∀ m,(bcl g m).length≤g.1.toNat
 | 0=>by simp [bcl]
 | m + 1=>by
   simp only [bcl]
   split
   · exact Ww
   · exact zbr m
theorem J9 {F:Nat} {a b:Int}:ZJ F a b=some (min a b):=by
 unfold ZJ
 by_cases h:a < b
 · simp [h];omega
 · simp [h];omega
def ziI (P:Nat→Nat→Bool):Prop:=∀ a b,P a b=P b a
theorem zfW {P:Nat→Nat→Bool} {q:Nat→Bool} {x:Nat} (h:ziI P):ziI fun a b=>P a b || ((P x a && !q a) && (P x b && !q b) && !(b == a)):=by
 intro a b
 show (P a b || _)=(P b a || _)
 rw [h a b,Bool.and_comm (P x a && !q a)]
 congr 3
 by_cases e:a=b
 · subst e;rfl
 · have h1:(a == b)=false:=by simpa using e
   have h2:(b == a)=false:=by simp;omega
   rw [h1,h2]
theorem zhp {F:Nat} {g:Gr} {l:List Int} (hg:yT g=true) (ho:xb g.1 l=true) (hF:20≤F):∃ L P,wj F ⟨xP g⟩ l=some ⟨L⟩∧Ke g.1.toNat g.1.toNat P L∧zcm g l l.length P∧ziI P:=by
 have h8:=zT hg
 have hlen:=vS ho
 unfold wj ud vG
 obtain ⟨o0,h0,h0l⟩:=LL (xs:=xP g) (by rw [wH];omega)
 rw [h0,zb,zb]
 have hall:xr F ⟨xP g⟩=some ((mkm (fun j=>!yS l 0 j) g.1.toNat:Nat):Int):=by
  have hp:=wW g.1.toNat
  have:=zdO (n:=g.1.toNat) (by omega)
  unfold xr
  rw [wH,vq (by omega),zb,ue (by omega) (by omega)]
  have e:mkm (fun j=>!yS l 0 j) g.1.toNat=2 ^ g.1.toNat - 1:=by
   symm
   refine uu fun j=>?_
   rw [Nat.testBit_two_pow_sub_one]
   simp [yS]
  rw [e]
  congr 1;omega
 rw [hall,zb]
 obtain ⟨⟨s,lf⟩,⟨⟨P,h1,h2,hy⟩,_⟩,he⟩:=YJ (L:=fun k t (s:NL Int×Int)=>y4 F l k s.1 s.2 t) (n:=l.length)
  (fun t s=>(∃ P,Ke g.1.toNat g.1.toNat P s.1.list∧zcm g l t P∧ziI P)∧s.2=((mkm (fun j=>!yS l t j) g.1.toNat:Nat):Int)) (fin:=fun s=>some ⟨s.1.list⟩) (by
    rintro k t ⟨s,lf⟩ ht ⟨⟨P,h1,h2,hy⟩,h3⟩
    simp only at h1 h3
    subst h3
    have hr:=Zo ho h8.1 _ (wN (d:=0) ht)
    obtain ⟨x,hx⟩:∃ x:Nat,l.getD t 0=x:=⟨(l.getD t 0).toNat,by omega⟩
    have hxn:x < g.1.toNat:=by omega
    have hxi:yS l (t + 1) x=true:=by rw [vV ht hx];simp
    have hpow:((2 ^ x:Nat):Int)=((mkm (fun j=>j == x) g.1.toNat:Nat):Int):=by
     congr 1
     refine uu fun j=>?_
     rw [xW]
     by_cases e:x=j
     · subst e;simp [hxn]
     · have h1:decide (x=j)=false:=by simpa using e
       have h2:(j == x)=false:=by simp;omega
       rw [h1,h2];simp
    have hleft:zY .i64 ((mkm (fun j=>!yS l t j) g.1.toNat:Nat):Int) ((2 ^ x:Nat):Int)=((mkm (fun j=>!yS l (t + 1) j) g.1.toNat:Nat):Int):=by
     rw [hpow,WD (by omega)]
     congr 1
     refine Zx fun j _=>?_
     show (!yS l t j && !(j == x))=!yS l (t + 1) j
     rw [vV ht hx]
     cases yS l t j <;> cases (j == x) <;> rfl
    obtain ⟨o',p1,p2⟩:=zen (F:=F) (i:=t) (c:=y4 F l k) hg hF hxn h1 hxi hleft
    refine ⟨(o',((mkm (fun j=>!yS l (t + 1) j) g.1.toNat:Nat):Int)),⟨⟨_,p1,zcz hg ho ht hx h2,zfW hy⟩,rfl⟩,?_⟩
    simp only [y4]
    rw [zw (show (t:Int) < (l.length:Int) by omega),zj,yf (d:=0) ht,zb,hx,vq (by omega),zb,yf (d:=0) (by rw [h1.1];exact hxn),zb,h1.2 x hxn]
    have hset:uH F (yu .i64 ((mkm (P x) g.1.toNat:Nat):Int) (zY .i64 ((mkm (fun j=>!yS l t j) g.1.toNat:Nat):Int) ((2 ^ x:Nat):Int)))=some (zP (fun j=>P x j && !yS l (t + 1) j) g.1.toNat):=by
     rw [hleft,Kj (by omega)]
     exact WV (by omega) hF
    rw [hset,zb,p2,yl ht (by unfold Sm;omega),hleft]) (by
    rintro k ⟨s,lf⟩ _
    simp only [y4]
    rw [zJ (show ¬ (l.length:Int) < (l.length:Int) by omega),zk]) F (o0,_) (by omega) ⟨⟨adj g,⟨by rw [h0l,wH],fun x hx=>by rw [h0l];exact Wd hx⟩,M0 hg,fun a b=>uP⟩,rfl⟩
 exact ⟨s.list,P,he,h1,h2,hy⟩
def zbS (g:Gr) (l:List Int) (i:Nat) (z:Int×Int):Prop:=∃ t x b:Nat,t < i∧l.getD t 0=(x:Int)∧b < g.1.toNat∧wz g (xl l g.1.toNat t) x b=true∧z=(min (x:Int) b,max (x:Int) b)
def prM (n:Nat) (P:Nat→Nat→Bool) (z:Int×Int):Prop:=∃ a b:Nat,a < b∧b < n∧P a b=true∧z=((a:Int),(b:Int))
theorem XY {l:List Int} {t i x:Nat} (ht:t < i) (hl:t < l.length) (hx:l.getD t 0=(x:Int)):yS l i x=true:=by
 unfold yS
 refine zw ?_
 rw [List.mem_take_iff_getElem]
 refine ⟨t,by omega,?_⟩
 rw [← hx,zM,z9 hl];rfl
theorem Ut {g:Gr} {m x b:Nat} (h:wz g m x b=true):m.testBit b=false∧b≠x:=by
 unfold wz at h
 simp only [zl,xk,beq_eq_false_iff_ne] at h
 exact h.1
theorem zcP {q:Nat→Bool} {n j a:Nat} (hj:j < (zP q n).length) (ha:(zP q n).getD j 0=(a:Int)):yS (zP q n) j a=false:=by
 unfold yS
 refine zJ fun hm=>?_
 rw [List.mem_take_iff_getElem] at hm
 obtain ⟨i,hi,he⟩:=hm
 have hs:=W7 (p:=q) (n:=n)
 unfold Srt at hs
 have:=List.pairwise_iff_getElem.1 hs i j (by omega) hj (by omega)
 rw [zM,z9 hj,yd] at ha
 omega
theorem zns {F i x:Nat} {g:Gr} {l:List Int} {o:NL (Int×Int)} {c:NL (Int×Int)→Int→Option Gr} (hg:yT g=true) (ho:xb g.1 l=true) (hF:300≤F) (hi:i < l.length) (hx:l.getD i 0=(x:Int)) (hxn:x < g.1.toNat)
    (h1:Wl o.list) (h2:o.list.length≤8 * i) (h3:∀ z,z∈o.list↔zbS g l i z) :
    ∃ o',w6 F l g (i:Int) (.of (zP (wz g (xl l g.1.toNat i) x) g.1.toNat)) c F o 0=c o' (w64 ((i:Int) + 1))∧Wl o'.list∧o'.list.length≤8 * (i + 1)∧∀ z,z∈o'.list↔zbS g l (i + 1) z:=by
 have h8:=zT hg
 have hlen:=vS ho
 have hfr:=xN ho h8.1 hi hx
 obtain ⟨n,hn⟩:∃ n:Nat,g.1.toNat=n:=⟨_,rfl⟩
 obtain ⟨q,hq⟩:∃ q,wz g (xl l n i) x=q:=⟨_,rfl⟩
 have hc:=wt (p:=q) (n:=n)
 have hc2:=YP (p:=q) (n:=n)
 rw [hn,hq]
 rw [hn] at hxn
 obtain ⟨o',⟨h4,h5,h6⟩,h7⟩:=YJ (L:=fun k j (s:NL (Int×Int))=>w6 F l g (i:Int) (.of (zP q n)) c k s j) (n:=(zP q n).length) (fin:=fun s=>c s (w64 ((i:Int) + 1)))
  (fun j s=>Wl s.list∧s.list.length≤8 * i + j∧∀ z,z∈s.list↔zbS g l i z∨∃ b:Nat,yS (zP q n) j b=true∧z=(min (x:Int) b,max (x:Int) b)) (by
    rintro k j s hj ⟨p1,p2,p3⟩
    obtain ⟨a,ha,han,haq⟩:=uV hj
    have hnew:=zcP hj ha
    simp only [w6]
    rw [show (NL.of (zP q n)).list=zP q n from rfl,zw (show (j:Int) < ((zP q n).length:Int) by omega),zj,yf (d:=0) hi,zb,hx,yf (d:=0) hj,zb,ha,J9,zb,zb,zb,zbt,zb]
    rw [KI (by omega) (by omega),zb,yl hj (by unfold Sm;omega)]
    refine ⟨.of (KC s.list (min (x:Int) a,max (x:Int) a)),⟨(zhW p1 ?_:Wl (KC s.list (min (x:Int) a,max (x:Int) a))),?_,?_⟩,rfl⟩
    · intro hm
      rw [p3] at hm
      rcases hm with ⟨t,x',b',ht,hx',hb',hl',he⟩ | ⟨b,hb,he⟩
      · have hpx:=XY ht (show t < l.length by omega) hx'
        simp only [Prod.mk.injEq] at he
        have:x'=x∨(x'=a∧b'=x):=by omega
        rcases this with rfl | ⟨rfl,rfl⟩
        · rw [hfr] at hpx;cases hpx
        · rw [← hq] at haq
          have:=(Ut haq).1
          rw [xA han,hpx] at this;cases this
      · simp only [Prod.mk.injEq] at he
        have:b=a:=by omega
        subst this
        rw [hnew] at hb;cases hb
    · rw [show NL.list (NL.of (KC s.list (min (x:Int) a,max (x:Int) a)))=KC s.list (min (x:Int) a,max (x:Int) a) from rfl,KD];omega
    · intro z
      show z∈KC s.list _↔_
      rw [zjl,p3]
      constructor
      · rintro (rfl | h | ⟨b,hb,he⟩)
        · exact .inr ⟨a,by rw [vV hj ha];simp,rfl⟩
        · exact .inl h
        · exact .inr ⟨b,by rw [vV hj ha,hb];rfl,he⟩
      · rintro (h | ⟨b,hb,he⟩)
        · exact .inr (.inl h)
        · rw [vV hj ha,yB,yC] at hb
          rcases hb with hb | rfl
          · exact .inr (.inr ⟨b,hb,he⟩)
          · exact .inl he) (by
    rintro k s _
    simp only [w6]
    rw [show (NL.of (zP q n)).list=zP q n from rfl,zJ (show ¬ ((zP q n).length:Int) < ((zP q n).length:Int) by omega),zk]) F o (by omega) ⟨h1,by omega,fun z=>by
     rw [h3]
     constructor
     · exact .inl
     · rintro (h | ⟨b,hb,_⟩)
       · exact h
       · simp [yS] at hb⟩
 refine ⟨o',h7,h4,by omega,fun z=>?_⟩
 rw [h6]
 constructor
 · rintro (⟨t,x',b',ht,h⟩ | ⟨b,hb,he⟩)
   · exact ⟨t,x',b',by omega,h⟩
   · unfold yS at hb
     rw [List.take_length,ye,wJ] at hb
     obtain ⟨b',hb1,hb2,hb3⟩:=hb
     obtain rfl:b=b':=by omega
     exact ⟨i,x,b,by omega,hx,by rw [hn];exact hb2,by rw [hn,hq];exact hb3,he⟩
 · rintro ⟨t,x',b',ht,hx',hb',hl',he⟩
   by_cases e:t=i
   · subst e
     obtain rfl:x=x':=by omega
     refine .inr ⟨b',?_,he⟩
     unfold yS
     rw [List.take_length,ye,wJ]
     rw [hn] at hb' hl'
     exact ⟨b',rfl,hb',by rw [← hq];exact hl'⟩
   · exact .inl ⟨t,x',b',by omega,hx',hb',hl',he⟩
theorem QO {F:Nat} {g:Gr} {l:List Int} (hg:yT g=true) (ho:xb g.1 l=true) (hF:300≤F) (hG:g.2.length < F) (hs:Sm g.2.length) :
    ∃ E,ub F g l=some (g.1,E)∧Wl E∧E.length≤64∧∀ z,z∈E↔zbS g l l.length z:=by
 have h8:=zT hg
 have hlen:=vS ho
 unfold ub
 obtain ⟨o,⟨h1,h2,h3⟩,h4⟩:=YJ (L:=fun k i (s:NL (Int×Int))=>wB F l g k s i) (n:=l.length) (fin:=fun s=>some (g.1,s.list))
  (fun i s=>Wl s.list∧s.list.length≤8 * i∧∀ z,z∈s.list↔zbS g l i z) (by
    rintro k i s hi ⟨p1,p2,p3⟩
    have hr:=Zo ho h8.1 _ (wN (d:=0) hi)
    obtain ⟨x,hx⟩:∃ x:Nat,l.getD i 0=x:=⟨(l.getD i 0).toNat,by omega⟩
    obtain ⟨o',q1,q2,q3,q4⟩:=zns (F:=F) (o:=s) (c:=wB F l g k) hg ho hF hi hx (by omega) p1 p2 p3
    refine ⟨o',⟨q2,q3,q4⟩,?_⟩
    simp only [wB]
    rw [zw (show (i:Int) < (l.length:Int) by omega),zj,Ll (by omega),zb,yf (d:=0) hi,zb,hx,zfe,Mg hg ho (by omega) hG hs (by omega) (by omega),ym,zb,q1,yl hi (by unfold Sm;omega)]) (by
    rintro k s _
    simp only [wB]
    rw [zJ (show ¬ (l.length:Int) < (l.length:Int) by omega),zk]) F (.of []) (by omega) ⟨List.Pairwise.nil,by simp [NL.list],fun z=>⟨fun h=>by simp [NL.list] at h,fun ⟨t,_,_,ht,_⟩=>absurd ht (by omega)⟩⟩
 exact ⟨o.list,h4,h1,by omega,h3⟩
theorem zkM {g:Gr} {l:List Int} {P:Nat→Nat→Bool} (hg:yT g=true) (ho:xb g.1 l=true) (hP:zcm g l l.length P) (hy:ziI P) (z:Int×Int):zbS g l l.length z↔prM g.1.toNat P z:=by
 have h8:=zT hg
 have hlen:=vS ho
 have hat:∀ a:Nat,a < g.1.toNat→∃ t,t < l.length∧l.getD t 0=(a:Int):=by
  intro a ha
  have:=Uk ho (x:=(a:Int)) (by omega) (by omega)
  obtain ⟨t,ht,he⟩:=w4.1 this
  exact ⟨t,ht,by rw [zM,z9 ht];exact he⟩
 constructor
 · rintro ⟨t,x,b,ht,hx,hb,hl,rfl⟩
   have hr:=Zo ho h8.1 _ (wN (d:=0) ht)
   have hxn:x < g.1.toNat:=by omega
   obtain ⟨h1,h2⟩:=Ut hl
   rw [xA hb] at h1
   have hp:yS l (t + 1) b=false:=by
    rw [vV ht hx,h1];simpa using h2
   have h3:P x b=true:=by rw [hP.old t x ht ht hx b hb hp];exact hl
   by_cases e:x < b
   · exact ⟨x,b,e,hb,h3,by rw [Int.min_eq_left (by omega),Int.max_eq_right (by omega)]⟩
   · exact ⟨b,x,by omega,hxn,by rw [hy];exact h3,by rw [Int.min_eq_right (by omega),Int.max_eq_left (by omega)]⟩
 · rintro ⟨a,b,hab,hb,hp,rfl⟩
   obtain ⟨s,hs,hsa⟩:=hat a (by omega)
   obtain ⟨t,ht,htb⟩:=hat b hb
   have hne:s≠t:=fun e=>by subst e;omega
   by_cases hlt:s < t
   · have h1:=wQ (show s + 1≤t by omega) (xN ho h8.1 ht htb)
     have h2:=hP.old s a hs hs hsa b hb h1
     exact ⟨s,a,b,hs,hsa,hb,by rw [← h2];exact hp,by rw [Int.min_eq_left (by omega),Int.max_eq_right (by omega)]⟩
   · have h1:=wQ (show t + 1≤s by omega) (xN ho h8.1 hs hsa)
     have h2:=hP.old t b ht ht htb a (by omega) h1
     exact ⟨t,b,a,ht,htb,by omega,by rw [← h2,hy];exact hp,by rw [Int.min_eq_right (by omega),Int.max_eq_left (by omega)]⟩
theorem zjx {F n a b:Nat} {P:Nat→Nat→Bool} {L:List Int} (h:Ke n n P L) (hn:n≤8) (ha:a < n) (hb:b < n):Yo F ⟨L⟩ (a:Int) (b:Int)=some (P a b):=by
 unfold Yo
 obtain ⟨q,h1,h2,_⟩:=zdE (m:=mkm (P a) n) (j:=b) (wC (by omega)) (by omega)
 rw [yf (d:=0) (by rw [h.1];exact ha),zb,h.2 a ha,h1,zb,h2,yy,zw hb,yk]
theorem zc7 {F n:Nat} {P:Nat→Nat→Bool} {L:List Int} (h:Ke n n P L) (hn:n≤8) (hF:300≤F) :
    ∃ o,Xj F ⟨L⟩=some ((n:Int),o)∧Wl o.list∧o.list.length≤64∧∀ z,z∈o.list↔prM n P z:=by
 unfold Xj Z6 uc
 rw [zb,h.1]
 obtain ⟨o,⟨h1,h2,h3⟩,h4⟩:=YJ (L:=fun k i (s:NL (Int×Int))=>yw F (n:Int) ⟨(⟨L⟩,()),()⟩ k s i) (n:=n) (fin:=fun s=>some ((n:Int),s))
  (fun i s=>Wl s.list∧s.list.length≤8 * i∧∀ z,z∈s.list↔∃ a b:Nat,a < i∧a < b∧b < n∧P a b=true∧z=((a:Int),(b:Int))) (by
    rintro k a s ha ⟨p1,p2,p3⟩
    obtain ⟨o',⟨q1,q2,q3⟩,q4⟩:=YJ (L:=fun k' j (s:NL (Int×Int))=>yJ F (n:Int) ⟨(⟨L⟩,()),()⟩ (a:Int) (yw F (n:Int) ⟨(⟨L⟩,()),()⟩ k) k' s (((a + 1:Nat):Int) + j)) (n:=n - (a + 1)) (fin:=fun s=>yw F (n:Int) ⟨(⟨L⟩,()),()⟩ k s ((a + 1:Nat):Int))
     (fun j s=>Wl s.list∧s.list.length≤8 * a + j∧∀ z,z∈s.list↔(∃ a' b:Nat,a' < a∧a' < b∧b < n∧P a' b=true∧z=((a':Int),(b:Int)))∨∃ b:Nat,a < b∧b < a + 1 + j∧P a b=true∧z=((a:Int),(b:Int))) (by
       rintro k' j s hj ⟨r1,r2,r3⟩
       have hb:a + 1 + j < n:=by omega
       simp only [yJ,wy]
       rw [show ((a + 1:Nat):Int) + (j:Int)=((a + 1 + j:Nat):Int) by omega,show ((a + 1:Nat):Int) + ((j + 1:Nat):Int)=((a + 1 + j + 1:Nat):Int) by omega,zw (show ((a + 1 + j:Nat):Int) < (n:Int) by omega),zj,zjx h hn ha hb,zb,yl hb (by unfold Sm;omega)]
       cases hp:P a (a + 1 + j) with
       | false=>
         refine ⟨s,⟨r1,by omega,fun z=>?_⟩,rfl⟩
         rw [r3]
         constructor
         · rintro (h | ⟨b,u1,u2,u3⟩)
           · exact .inl h
           · exact .inr ⟨b,u1,by omega,u3⟩
         · rintro (h | ⟨b,u1,u2,u3,u4⟩)
           · exact .inl h
           · by_cases e:b=a + 1 + j
             · subst e;rw [hp] at u3;cases u3
             · exact .inr ⟨b,u1,by omega,u3,u4⟩
       | true=>
         rw [zj,Wc (by simp;omega),zb]
         refine ⟨_,⟨?_,?_,fun z=>?_⟩,rfl⟩
         · show Wl (s.list++[((a:Int),((a + 1 + j:Nat):Int))])
           unfold Wl at r1 ⊢
           rw [List.pairwise_append]
           refine ⟨r1,by simp,fun u hu v hv=>?_⟩
           rw [xX] at hv
           subst hv
           rw [r3] at hu
           rw [Kn]
           rcases hu with ⟨a',b,u1,_,_,_,rfl⟩ | ⟨b,_,u2,_,rfl⟩
           · exact .inl (by show (a':Int) < a;omega)
           · exact .inr ⟨rfl,by show (b:Int) < ((a + 1 + j:Nat):Int);omega⟩
         · show (s.list++[((a:Int),((a + 1 + j:Nat):Int))]).length≤_
           rw [uU,List.length_singleton];omega
         · show z∈s.list++[((a:Int),((a + 1 + j:Nat):Int))]↔_
           rw [zG,xX,r3]
           constructor
           · rintro ((h | ⟨b,u1,u2,u3⟩) | rfl)
             · exact .inl h
             · exact .inr ⟨b,u1,by omega,u3⟩
             · exact .inr ⟨a + 1 + j,by omega,by omega,hp,rfl⟩
           · rintro (h | ⟨b,u1,u2,u3,u4⟩)
             · exact .inl (.inl h)
             · by_cases e:b=a + 1 + j
               · subst e;exact .inr u4
               · exact .inl (.inr ⟨b,u1,by omega,u3,u4⟩)) (by
       rintro k' s _
       simp only [yJ]
       rw [show ((a + 1:Nat):Int) + ((n - (a + 1):Nat):Int)=(n:Int) by omega,zJ (show ¬ (n:Int) < (n:Int) by omega),zk,yl ha (by unfold Sm;omega)]) F s (by omega) ⟨p1,by omega,fun z=>by
        rw [p3]
        constructor
        · exact .inl
        · rintro (h | ⟨b,u1,u2,_⟩)
          · exact h
          · omega⟩
    refine ⟨o',⟨q1,by omega,fun z=>?_⟩,?_⟩
    · rw [q3]
      constructor
      · rintro (⟨a',b,u1,u⟩ | ⟨b,u1,u2,u3,u4⟩)
        · exact ⟨a',b,by omega,u⟩
        · exact ⟨a,b,by omega,u1,by omega,u3,u4⟩
      · rintro ⟨a',b,u1,u2,u3,u4,u5⟩
        by_cases e:a'=a
        · subst e;exact .inr ⟨b,u2,by omega,u4,u5⟩
        · exact .inl ⟨a',b,by omega,u2,u3,u4,u5⟩
    · simp only [yw]
      rw [zw (show (a:Int) < (n:Int) by omega),zj,yl ha (by unfold Sm;omega),← q4,Int.add_zero]) (by
    rintro k s _
    simp only [yw]
    rw [zJ (show ¬ (n:Int) < (n:Int) by omega),zk]) F .nil (by omega) ⟨List.Pairwise.nil,by simp [NL.list],fun z=>⟨fun h=>by simp [NL.list] at h,fun ⟨_,_,h,_⟩=>absurd h (by omega)⟩⟩
 refine ⟨o,?_,h1,by omega,fun z=>?_⟩
 · rw [h4,zb]
 · rw [h3]
   exact ⟨fun ⟨a,b,_,u⟩=>⟨a,b,u⟩,fun ⟨a,b,u1,u⟩=>⟨a,b,by omega,u1,u⟩⟩
theorem zck {F:Nat} {g:Gr} {l:List Int} (hF:l.length < F) (hG:g.2.length < F) (h9:300≤F) (hl:Sm l.length) (hs:Sm g.2.length) :
    ∃ a R c o,vx F g l=some ((a,R),c)∧Xp F g l=some ((a,o),c)∧o.list=R∧R.length≤1000:=by
 unfold vx vR Xp
 rw [Xb hG hs,Ws hG (by omega) hs,zb,zb]
 cases hg:yT g with
 | false=>exact ⟨0,[],false,.nil,rfl,rfl,rfl,by simp⟩
 | true=>
   have h8:=zT hg
   rw [zj,y8,zk,JA h8.1 h8.2 hF (by omega) hl,Nf h8.1 h8.2 hF hl,zb,zb,zb]
   cases ho:xb g.1 l with
   | false=>exact ⟨0,[],false,.nil,rfl,rfl,rfl,by simp⟩
   | true=>
     obtain ⟨E,e1,e2,e3,e4⟩:=QO hg ho h9 hG hs
     obtain ⟨L,P,f1,f2,f3,f4⟩:=zhp (F:=F) hg ho (by omega)
     obtain ⟨o,g1,g2,g3,g4⟩:=zc7 (F:=F) f2 (by omega) h9
     refine ⟨g.1,E,true,o,?_,?_,?_,by omega⟩
     · rw [y8,zk,e1,zb]
     · simp only [ZE]
       rw [y8,zk,U6 hg hG hs,zb,f1,zb,g1,zb,show ((g.1.toNat:Nat):Int)=g.1 by omega]
     · exact Ky _ _ g2 e2 fun z=>by rw [g4,e4];exact (zkM hg ho f3 f4 z).symm
def pcN (n a:Nat):Nat:=xc a.testBit n
def nxS (g:Gr) (s:Nat×Nat) (step:Int):Nat×Nat:=(mkm (UT s.1.testBit step) g.1.toNat,mkm (spr g (fun j=>!UT s.1.testBit step j) s.2.testBit) g.1.toNat)
def cnS (g:Gr) (k:Int) (s:Nat×Nat) (step:Int):Bool:=zno g.1.toNat s.1.testBit step && !(decide (step≥0) && ((pcN g.1.toNat s.1:Int) == k))
inductive Rch (g:Gr) (k:Int):Nat×Nat→Prop
 | init:Rch g k (0,2 ^ g.1.toNat - 1)
 | step {s:Nat×Nat} {step:Int}:Rch g k s→cnS g k s step=true→Rch g k (nxS g s step)
structure Gst (g:Gr) (k:Int) (s:Nat×Nat):Prop where
 lt1:s.1 < 2 ^ g.1.toNat
 lt2:s.2 < 2 ^ g.1.toNat
 dis:∀ j,s.1.testBit j=true→s.2.testBit j=false
 cl:∀ a b,adj g a b=true→s.2.testBit a=true→s.1.testBit b=false→s.2.testBit b=true
 sz:(pcN g.1.toNat s.1:Int)≤k
theorem Ja {p:Nat→Bool} {x:Nat} (hx:p x=false):∀ {n:Nat},x < n→xc (fun j=>p j || j == x) n=xc p n + 1
 | 0,h=>by omega
 | n + 1,h=>by
   unfold xc
   rw [List.range_succ,List.countP_append,List.countP_append]
   by_cases e:x=n
   · subst e
     have:(List.range x).countP (fun j=>p j || j == x)=(List.range x).countP p:=by
      apply List.countP_congr
      intro j hj
      rw [List.mem_range] at hj
      have:(j == x)=false:=by simp;omega
      rw [this,Bool.or_false]
     rw [this]
     simp [hx]
   · have:=Ja hx (n:=n) (by omega)
     unfold xc at this
     rw [this]
     have e2:(n == x)=false:=by simp;omega
     simp [e2]
     omega
theorem zda {p:Nat→Bool} {step:Int} (h:0≤step) (j:Nat):UT p step j=(p j || j == step.toNat):=by
 unfold UT KR
 rw [if_neg (by omega),if_neg (by omega)]
theorem zji {p:Nat→Bool} {step:Int} (h:step < 0) {j:Nat} (hj:UT p step j=true):p j=true:=by
 unfold UT at hj
 rw [if_pos h,zl] at hj
 exact hj.1
theorem zdq {n:Nat} {p:Nat→Bool} {step:Int} (h:0≤step) (hc:zno n p step=true):step.toNat < n∧p step.toNat=false:=by
 unfold zno KR at hc
 rw [if_neg (by omega),zl,ye,zJ (by omega),yC] at hc
 exact ⟨by omega,hc.2⟩
theorem zg6 {g:Gr} (hg:yT g=true) {k:Int} (hk:0≤k):Gst g k (0,2 ^ g.1.toNat - 1):=by
 have:=wW g.1.toNat
 refine ⟨by omega,by show 2 ^ g.1.toNat - 1 < _;omega,fun j hj=>?_,fun a b h _ _=>?_,?_⟩
 · rw [X6] at hj;cases hj
 · show (2 ^ g.1.toNat - 1).testBit b=true
   rw [Nat.testBit_two_pow_sub_one]
   have:=Uv hg h
   exact zw (by omega)
 · show ((xc (Nat.testBit 0) g.1.toNat:Nat):Int)≤k
   have:xc (Nat.testBit 0) g.1.toNat=0:=by
    unfold xc
    rw [List.countP_eq_zero]
    intro j _
    rw [X6];simp
   rw [this];exact hk
theorem zg8 {g:Gr} (hg:yT g=true) {k:Int} {s:Nat×Nat} {step:Int} (hs:Gst g k s) (hc:cnS g k s step=true):Gst g k (nxS g s step):=by
 unfold cnS at hc
 rw [zl] at hc
 obtain ⟨hc,hk⟩:=hc
 refine ⟨Yd,Yd,fun j hj=>?_,fun a b hab ha hb=>?_,?_⟩
 · show (mkm (spr g (fun j=>!UT s.1.testBit step j) s.2.testBit) g.1.toNat).testBit j=false
   have h1:(mkm (UT s.1.testBit step) g.1.toNat).testBit j=true:=hj
   rw [yy,zl] at h1
   rw [yy]
   cases e:spr g (fun j=>!UT s.1.testBit step j) s.2.testBit j with
   | false=>rw [Bool.and_false]
   | true=>
     unfold spr at e
     obtain ⟨y,hy,h⟩:=xu.1 e
     simp only [zl] at h
     have:=Qy (p:=fun j=>!UT s.1.testBit step j) h.1.2 h.2
     simp only [h1.2] at this
     cases this
 · show (mkm (spr g (fun j=>!UT s.1.testBit step j) s.2.testBit) g.1.toNat).testBit b=true
   have h1:(mkm (spr g (fun j=>!UT s.1.testBit step j) s.2.testBit) g.1.toNat).testBit a=true:=ha
   have h2:(mkm (UT s.1.testBit step) g.1.toNat).testBit b=false:=hb
   have hl:=Uv hg hab
   have hbn:b < g.1.toNat:=by omega
   rw [yy,zw hbn,yk] at h2 ⊢
   rw [yy,zl] at h1
   obtain ⟨_,e⟩:=h1
   unfold spr at e ⊢
   obtain ⟨y,hy,h⟩:=xu.1 e
   refine xu.2 ⟨y,hy,?_⟩
   simp only [zl] at h ⊢
   refine ⟨h.1,w8 hg hy h.1.2 h.2 ?_ hab⟩
   simp only [h2];rfl
 · show ((xc (mkm (UT s.1.testBit step) g.1.toNat).testBit g.1.toNat:Nat):Int)≤k
   have e1:xc (mkm (UT s.1.testBit step) g.1.toNat).testBit g.1.toNat=xc (UT s.1.testBit step) g.1.toNat:=vT fun j hj=>by rw [yy,zw hj,yk]
   rw [e1]
   have hsz:=hs.sz
   unfold pcN at hsz hk
   by_cases h:step < 0
   · have:=MS (p:=UT s.1.testBit step) (q:=s.1.testBit) (n:=g.1.toNat) fun j _ hj=>zji h hj
     omega
   · obtain ⟨h1,h2⟩:=zdq (by omega) hc
     have e2:xc (UT s.1.testBit step) g.1.toNat=xc s.1.testBit g.1.toNat + 1:=by
      rw [← Ja h2 h1]
      exact vT fun j _=>zda (by omega) j
     rw [zw (show step≥0 by omega),yk,xk,beq_eq_false_iff_ne] at hk
     omega
theorem zjC {g:Gr} (hg:yT g=true) {k:Int} (hk:0≤k) {s:Nat×Nat} (h:Rch g k s):Gst g k s:=by
 induction h with
 | init=>exact zg6 hg hk
 | step _ hc ih=>exact zg8 hg ih hc
end Go.Zq
