/- Plain mathematics (part 2). Conditions: stated in each theorem. -/
import Derived.Test.YtelahampjnaimaeM1
set_option linter.unusedVariables false
set_option linter.unusedSimpArgs false
namespace Go.Zq
def spr (g:Gr) (f u:Nat→Bool) (j:Nat):Bool:=ZU (fun y=>u y && f y && xw g f y j) g.1.toNat
def L1 (step:Int):Int:=if step < 0 then -1 - step else step
def zo9 (n:Nat) (p:Nat→Bool) (step:Int):Bool:=decide (L1 step < n) && (p (L1 step).toNat == decide (step < 0))
def JF (p:Nat→Bool) (step:Int) (j:Nat):Bool:=if step < 0 then p j && !(j == (L1 step).toNat) else p j || j == (L1 step).toNat
theorem ziQ {p:Nat→Bool} {n:Nat}:xC p n=0↔ZZ p n=none:=by
 rw [vv]
 constructor
 · intro h j hj
   cases hp:p j with
   | false=>rfl
   | true=>
     have:=Wk (p:=fun _=>false) (q:=p) (n:=n) (by simp) ⟨j,hj,rfl,hp⟩
     omega
 · intro h
   rw [Yf (q:=fun _=>false) h]
   unfold xC
   rw [List.countP_eq_zero];simp
theorem zlQ {g:Gr} {d:Nat} {p:Nat→Bool} (h:∀ j,j < g.1.toNat→p j=false):prt g d p=[]:=by
 cases d with
 | zero=>rfl
 | succ d=>rw [prt,vv.2 h]
theorem YV {g:Gr} (hg:y0 g=true) {p:Nat→Bool} {x y z:Nat} (hx:x < g.1.toNat) (hp:p x=true) (h1:xw g p x y=true) (h2:xw g p y z=true):xw g p x z=true:=
 vx (C:=xw g p x) h1 (fun _ _ h3 h4 h5=>xj hg hx hp h3 h4 h5) h2
theorem Qv {g:Gr} (hg:y0 g=true) {p:Nat→Bool} {x y:Nat} (hx:x < g.1.toNat) (hp:p x=true) (h:xw g p x y=true):xw g p y x=true:=by
 have:=vx (C:=fun j=>decide (j < g.1.toNat) && (p j && xw g p j x)) (p:=p) (x:=x) (j:=y) (by simp [hx,hp,xh]) (by
  intro a b h1 h2 h3
  simp only [zp,ya] at h1 ⊢
  have hb:b < g.1.toNat:=by
   have:=MT hg h1.1 (xj hg h1.1 h1.2.1 xh h2 h3)
   exact this
  refine ⟨hb,h2,?_⟩
  exact YV hg hb h2 (xj hg hb h2 xh h1.2.1 (by rw [Xm];exact h3)) h1.2.2) h
 simp only [zp] at this
 exact this.2.2
theorem zgU {g:Gr} (hg:y0 g=true) {p:Nat→Bool} {x y:Nat} (hx:x < g.1.toNat) (hp:p x=true) (h:xw g p x y=true) (j:Nat):xw g p x j=xw g p y j:=by
 have hy:=MT hg hx h
 have hpy:=Jh hp h
 rw [yJ]
 exact ⟨fun h2=>YV hg hy hpy (Qv hg hx hp h) h2,fun h2=>YV hg hx hp h h2⟩
theorem MU {g:Gr} (hg:y0 g=true):∀ (d:Nat) (p:Nat→Bool) (m:Nat),xC p g.1.toNat≤d→(m∈prt g d p↔∃ x,x < g.1.toNat∧p x=true∧mkm (xw g p x) g.1.toNat=m)
 | 0,p,m,hd=>by
   have h0:ZZ p g.1.toNat=none:=ziQ.1 (by omega)
   constructor
   · intro h;simp [prt] at h
   · rintro ⟨x,hx,hp,_⟩
     rw [vv.1 h0 x hx] at hp;cases hp
 | d + 1,p,m,hd=>by
   simp only [prt]
   cases hf:ZZ p g.1.toNat with
   | none=>
     constructor
     · intro h;simp at h
     · rintro ⟨x,hx,hp,_⟩
       rw [vv.1 hf x hx] at hp;cases hp
   | some x0=>
     obtain ⟨h0,hp0,_⟩:=Z9 hf
     have ih:=MU hg d (fun j=>p j && !xw g p x0 j) m (zcW h0 hp0 hd)
     have hsub:∀ x,x < g.1.toNat→(p x && !xw g p x0 x)=true→∀ j,xw g p x j=xw g (fun j=>p j && !xw g p x0 j) x j:=by
      intro x hx hq
      refine zhk hg hx hq (fun j h=>by simp only [zp] at h;exact h.1) ?_
      intro y j h1 h2 h3
      simp only [zp,yT] at h1 ⊢
      refine ⟨h2,?_⟩
      cases h4:xw g p x0 j with
      | false=>rfl
      | true=>
        have:=xj hg h0 hp0 h4 h1.1 (by rw [Xm];exact h3)
        rw [this] at h1;exact absurd h1.2 (by simp)
     rw [yf,ih]
     constructor
     · rintro (rfl | ⟨x,hx,hq,rfl⟩)
       · exact ⟨x0,h0,hp0,rfl⟩
       · have hq2:=hq
         simp only [zp] at hq2
         exact ⟨x,hx,hq2.1,wI fun j _=>hsub x hx hq j⟩
     · rintro ⟨x,hx,hp,rfl⟩
       cases hc:xw g p x0 x with
       | true=>exact .inl (wI fun j _=>(zgU hg h0 hp0 hc j).symm)
       | false=>exact .inr ⟨x,hx,by simp [hp,hc],wI fun j _=>(hsub x hx (by simp [hp,hc]) j).symm⟩
theorem zds {p:Nat→Bool} {n:Nat}:ZU (fun i=>!p i) n=!wG p n:=by
 rw [Jw];simp
def inB (bags:List (List Int)) (x:Int) (i:Nat):Bool:=decide (x∈bags.getD i [])
structure Bg (F:Nat) (bags:List (List Int)):Prop where
 len:bags.length≤1048576
 each:∀ x∈bags,x.length≤1048576
 fuel:1048577≤F
theorem Bg.at {F:Nat} {bags:List (List Int)} (h:Bg F bags) {i:Nat} (hi:i < bags.length):(bags.getD i []).length≤1048576:=h.each _ (vS hi)
theorem Bg.of {F:Nat} {bags:List (List Int)} (h:bags.length + zdw bags bags.length≤1048576) (hF:1048577≤F):Bg F bags:=by
 refine ⟨by omega,fun x hx=>?_,hF⟩
 obtain ⟨i,hi,e⟩:=Zk.1 hx
 have:=zlF hi
 rw [zU,yW hi,y3,e] at this
 omega
theorem znF {F:Nat} {bags:List (List Int)} (h:Bg F bags) {i:Nat} (hi:i < bags.length) (x:Int):vF F (bags.getD i []) x=some (inB bags x i):=by
 have h1:=h.at hi
 have h2:=h.fuel
 exact W8 (by omega) (by unfold Sm;omega)
def bq (l:List Int) (j:Nat):Bool:=decide ((j:Int)∈l)
theorem Jj {n:Int} {l:List Int} (h:Uq n l=true):∀ x∈l,0≤x∧x < n:=by
 intro x hx
 obtain ⟨i,hi,e⟩:=Zk.1 hx
 have:=yV.1 h i hi
 rw [zU,yW hi,y3,e] at this
 simp only [zp,ya] at this
 exact this.1
theorem zhx {n:Int} {l:List Int} (h:Uq n l=true):Srt l:=by
 have step:∀ i,i + 1 < l.length→l.getD i 0 < l.getD (i + 1) 0:=by
  intro i hi
  have:=yV.1 h (i + 1) hi
  simp only [zp,y8,ya,Nat.add_sub_cancel] at this
  rcases this.2 with h | h
  · simp at h
  · exact h
 have all:∀ d i,i + d + 1 < l.length→l.getD i 0 < l.getD (i + d + 1) 0:=by
  intro d
  induction d with
  | zero=>intro i hi;exact step i hi
  | succ d ih=>
    intro i hi
    have h1:=ih i (by omega)
    have h2:=step (i + d + 1) (by omega)
    have:i + (d + 1) + 1=i + d + 1 + 1:=by omega
    rw [this];omega
 unfold Srt
 rw [Lc]
 intro i j hi hj hij
 have:=all (j - i - 1) i (by omega)
 have e:i + (j - i - 1) + 1=j:=by omega
 rw [e,zU,zU,yW hi,yW hj] at this
 exact this
theorem zd9 {g:Gr} {l:List Int} (h:Uq g.1 l=true):l=yn (bq l) g.1.toNat:=by
 refine Qc (zhx h) fun y=>?_
 constructor
 · intro hy
   have:=Jj h y hy
   refine ⟨y.toNat,by omega,by omega,?_⟩
   unfold bq
   rw [ya,Int.toNat_of_nonneg this.1];exact hy
 · rintro ⟨j,rfl,_,h⟩
   exact of_decide_eq_true h
theorem zeJ {n:Nat}:((n:Int) != 1)=!(n == 1):=by
 by_cases h:n=1
 · subst h;rfl
 · have h1:(n == 1)=false:=by simpa using h
   rw [h1]
   have:(n:Int)≠1:=by omega
   simpa using this
theorem zgQ {α β:Type} {f:α→β} {a:Option β} {b:Option α} {r:β} (h:a=b.map f) (hr:a=some r):∃ o,b=some o∧f o=r:=by
 rw [hr] at h
 cases b with
 | none=>cases h
 | some o=>simp at h;exact ⟨o,rfl,h.symm⟩
theorem UL {α β:Type} {f:α→β} {t:Bool} {a b:Option α}:(bif t then a else b).map f=bif t then a.map f else b.map f:=by cases t <;> rfl
theorem Jy {F:Nat} {s:Int}:∀ (k:Nat) (l:NL Int) (i:Int),vO F s k l i=(Xh F s k l i).map NL.list
 | 0,l,i=>rfl
 | k + 1,l,i=>by
   simp only [vO,Xh,XM,Ju,Option.map_bind,UL,Jy k,Function.comp_def,yU]
theorem zdQ {F n:Nat} {p:Nat→Bool} (hn:n≤8) (hF:20≤F):∃ o,KA F ((mkm p n:Nat):Int)=some o∧o.list=yn p n:=
 zgQ (Jy F .nil 0) (NH hn hF)
theorem K5 {p:Nat→Bool} {n:Nat}:(yn p n).length≤n:=by rw [xL];exact ur
theorem JP {n:Int} {l:List Int} (h:wV n l=true) (h0:0≤n):∀ y∈l,0≤y∧y < n:=by
 have hl:=ve h
 have:=(UY n.toNat l (fun j hj=>LX h (by omega) (by omega))).2 (by omega)
 intro y hy
 have:=this y hy
 omega
def zwl (l:List Int) (r:Int) (j:Nat):Bool:=decide (l.getD j 0≤r)
def zxV (g:Gr) (l:List Int) (x:Nat):Bool:=ZU (fun y=>xw g (zwl l (l.getD x 0)) x y && ((y != x) && (l.getD y 0 == l.getD x 0))) g.1.toNat
theorem zaY {A B:Nat→Bool} {n:Nat} (hn:n≤8):yI .i64 ((mkm A n:Nat):Int) ((mkm B n:Nat):Int)=((mkm (fun j=>A j && B j) n:Nat):Int):=by
 rw [Ub (xB (by omega)) (xB (by omega))]
 congr 1
 apply ZN
 intro j
 rw [Nat.testBit_and,yA,yA,yA]
 cases decide (j < n) <;> simp
theorem KS {A B:Nat→Bool} {n:Nat} (hn:n≤8):yx .i64 ((mkm A n:Nat):Int) ((mkm B n:Nat):Int)=((mkm (fun j=>A j && !B j) n:Nat):Int):=by
 obtain ⟨c,hc,_,hb⟩:=Zn (xB (p:=A) (n:=n) (by omega)) (xB (p:=B) (n:=n) (by omega))
 rw [hc]
 congr 1
 apply ZN
 intro j
 rw [hb,yA,yA,yA]
 cases decide (j < n) <;> simp
inductive Grd (n:Nat) (p:Nat→Nat→Bool):Nat→Nat→List Int→Prop
 | done:Grd n p 0 (2 ^ n - 1) []
 | step {d m x:Nat} {l:List Int}:m < 2 ^ n→ZZ (fun y=>!m.testBit y && p m y) n=some x→Grd n p d (m ||| 2 ^ x) l→Grd n p (d + 1) m ((x:Int) :: l)
end Go.Zq
