/- Plain mathematics: what the functions answer (part 3). Conditions: stated in each theorem. -/
import Derived.Test.YtelahampjnaimaaM2
import Derived.Test.YtelahampjnaimaaM1
set_option linter.unusedVariables false
set_option linter.unusedSimpArgs false
namespace Go.Zq
theorem NC {F:Nat} {a b:Int}:uO F a b=some (min a b):=by
 unfold uO
 by_cases h:a < b
 · simp [h];omega
 · simp [h];omega
theorem zaE {g:Gr} {a b i:Nat}:ZU g a b i=true↔((g.2.getD i (0,0)).1=a∧(g.2.getD i (0,0)).2=b)∨((g.2.getD i (0,0)).1=b∧(g.2.getD i (0,0)).2=a):=by
 unfold ZU
 simp only [yH,zk,yO]
def wth (m x:Nat) (j:Nat):Bool:=m.testBit j || j == x
def Qg (g:Gr) (m x:Nat) (j:Nat):Bool:=(!m.testBit j && !(j == x)) && uC (fun y=>yY g (wth m x) x y && adj g y j) g.1.toNat
def elC (g:Gr) (m x:Nat):Int:=(y8 (Qg g m x) g.1.toNat:Int)
def rdP (g:Gr) (m x:Nat):Nat→Nat→Bool
 | 0=>fun j=>j == x
 | t + 1=>J5 g (rch g (wth m x) x t)
theorem zcf {g:Gr} {m x:Nat}:∀ t j,(rdP g m x t j && wth m x j)=rch g (wth m x) x t j
 | 0,j=>by
   show ((j == x) && wth m x j)=(j == x)
   unfold wth
   cases (j == x) <;> simp
 | t + 1,j=>by
   show (J5 g (rch g (wth m x) x t) j && wth m x j)=stp g (wth m x) (rch g (wth m x) x t) j
   unfold J5 stp
   have hin:=fun h=>Mj (g:=g) (p:=wth m x) (x:=x) (show wth m x x=true by unfold wth;simp) t j h
   cases h1:rch g (wth m x) x t j with
   | true=>rw [hin h1];rfl
   | false=>rw [YO,YO,Bool.and_comm]
theorem zmr {F:Nat} {g:Gr} {m x:Nat} (hg:yz g=true) (hF:20≤F) (hm:m < 2 ^ g.1.toNat) (hx:x < g.1.toNat):wE F ⟨yF g⟩ (m:Int) (x:Int)=some (elC g m x):=by
 have h8:=zT hg
 have h256:=zgY (by omega) hm
 have hxp:wth m x x=true:=by unfold wth;simp
 obtain ⟨T,hT,hst⟩:=Qa hg hx hxp
 have hcn:=wt (p:=wth m x) (n:=g.1.toNat)
 have hmx:(ior .i64 (m:Int) ((2 ^ x:Nat):Int))=((mkm (wth m x) g.1.toNat:Nat):Int):=by
  rw [Wf (by omega) (YB (by omega))]
  congr 1
  refine uK fun j=>?_
  rw [ZC,uF]
  unfold wth
  by_cases hj:j < g.1.toNat
  · rw [zt hj,z7]
    congr 1
    rw [yo,z8,yO];omega
  · rw [zL hj,vf,zL (show ¬ x=j by omega),uT]
    exact Nat.testBit_lt_two_pow (xy hm (xw (by decide) (by omega)))
 unfold wE
 rw [xB (by omega),zc]
 have hstart:((2 ^ x:Nat):Int)=((mkm (rdP g m x 0) g.1.toNat:Nat):Int):=by
  congr 1
  refine uK fun j=>?_
  rw [uF]
  show decide (x=j)=(decide (j < g.1.toNat) && (j == x))
  by_cases e:j=x
  · subst e;simp [hx]
  · have e1:(j == x)=false:=by simpa using e
    rw [e1,Bool.and_false,zL (by omega)]
 have hend:∀ t,(∀ j,j < g.1.toNat→rdP g m x (t + 1) j=rdP g m x t j)→∀ j,j < g.1.toNat→(rdP g m x t j && !m.testBit j && !(j == x))=Qg g m x j:=by
  intro t he j hj
  have hstab:∀ j,rch g (wth m x) x (t + 1) j=true→rch g (wth m x) x t j=true:=by
   intro j hj
   have hjn:=LS hg hx _ _ hj
   rw [← zcf,he j hjn,zcf] at hj;exact hj
  have hcomp:∀ j,rch g (wth m x) x t j=yY g (wth m x) x j:=by
   intro j
   rw [yo]
   constructor
   · intro h
     by_cases hle:t≤g.1.toNat
     · exact X1 h _ hle
     · have:rch g (wth m x) x (g.1.toNat + (t - g.1.toNat)) j=true:=by
        rw [show g.1.toNat + (t - g.1.toNat)=t by omega];exact h
       have h2:=UJ hg hx hxp (s:=t) (by omega) j
       rw [← h2];exact h
   · intro h
     have h3:rch g (wth m x) x (t + g.1.toNat) j=true:=X1 h _ (by omega)
     exact JR hstab _ j h3
  rw [← he j hj]
  show (J5 g (rch g (wth m x) x t) j && !m.testBit j && !(j == x))=Qg g m x j
  unfold J5 Qg
  have hany:uC (fun y=>rch g (wth m x) x t y && adj g y j) g.1.toNat=uC (fun y=>yY g (wth m x) x y && adj g y j) g.1.toNat:=KR fun y _=>by rw [hcomp y]
  rw [hany,hcomp j]
  cases hb:m.testBit j with
  | true=>simp
  | false=>
    cases hjx:(j == x) with
    | true=>simp
    | false=>
      have:yY g (wth m x) x j=false:=by
       rw [Bool.eq_false_iff];intro h
       have:=Xd hxp h
       unfold wth at this
       rw [hb,hjx] at this;cases this
      rw [this];simp
 have key:∀ d t k,t + d=T + 1→d < k→xL F (m:Int) (x:Int) ⟨yF g⟩ k ((mkm (rdP g m x t) g.1.toNat:Nat):Int)=some (elC g m x):=by
  intro d
  induction d with
  | zero=>
    intro t k ht hk
    obtain ⟨k,rfl⟩:∃ k',k=k' + 1:=⟨k - 1,by omega⟩
    obtain rfl:t=T + 1:=by omega
    have hsame:∀ j,j < g.1.toNat→rdP g m x (T + 1 + 1) j=rdP g m x (T + 1) j:=by
     intro j _
     have hrr:∀ j,rch g (wth m x) x (T + 1) j=rch g (wth m x) x T j:=fun j=>by
      rw [yo];exact ⟨hst j,fun h=>X1 h _ (by omega)⟩
     show J5 g (rch g (wth m x) x (T + 1)) j=J5 g (rch g (wth m x) x T) j
     unfold J5
     rw [hrr j]
     congr 1
     exact KR fun y _=>by rw [hrr y]
    simp only [xL]
    rw [xB (by omega),zc,hmx,JO (xU (by omega)) (xU (by omega))]
    have hnext:(mkm (rdP g m x (T + 1)) g.1.toNat &&& mkm (wth m x) g.1.toNat)=mkm (rch g (wth m x) x (T + 1)) g.1.toNat:=by
     refine uK fun j=>?_
     rw [Nat.testBit_and,yj,yj,← zcf]
     cases decide (j < g.1.toNat) <;> simp
    rw [hnext,Kr hg (by omega),zc]
    have heq:((mkm (J5 g (rch g (wth m x) x (T + 1))) g.1.toNat:Nat):Int)=((mkm (rdP g m x (T + 1)) g.1.toNat:Nat):Int):=by
     congr 1
     exact Zy fun j hj=>hsame j hj
    rw [heq,Y6,zl,zc]
    obtain ⟨c1,e1,l1,b1⟩:=ud (xU (p:=rdP g m x (T + 1)) (n:=g.1.toNat) (by omega)) (show m < 9223372036854775808 by omega)
    have hml:=Lp (p:=rdP g m x (T + 1)) (n:=g.1.toNat) (by omega)
    obtain ⟨c2,e2,l2,b2⟩:=ud (a:=c1) (show c1 < 9223372036854775808 by omega) (YB (j:=x) (by omega))
    rw [e1,e2,MW (by omega),zc]
    congr 2
    have hc2:c2=mkm (Qg g m x) g.1.toNat:=by
     refine uK fun j=>?_
     rw [b2,b1,yj,uF]
     by_cases hj:j < g.1.toNat
     · rw [zt hj,z7,z7,← hend (T + 1) hsame j hj]
       congr 2
       rw [yo,z8,yO];omega
     · rw [zL hj];rfl
    rw [hc2,JB (by omega)]
  | succ d ih=>
    intro t k ht hk
    obtain ⟨k,rfl⟩:∃ k',k=k' + 1:=⟨k - 1,by omega⟩
    simp only [xL]
    rw [xB (by omega),zc,hmx,JO (xU (by omega)) (xU (by omega))]
    have hnext:(mkm (rdP g m x t) g.1.toNat &&& mkm (wth m x) g.1.toNat)=mkm (rch g (wth m x) x t) g.1.toNat:=by
     refine uK fun j=>?_
     rw [Nat.testBit_and,yj,yj,← zcf]
     cases decide (j < g.1.toNat) <;> simp
    rw [hnext,Kr hg (by omega),zc]
    by_cases hE:mkm (J5 g (rch g (wth m x) x t)) g.1.toNat=mkm (rdP g m x t) g.1.toNat
    · have hsame:∀ j,j < g.1.toNat→rdP g m x (t + 1) j=rdP g m x t j:=fun j hj=>zfW hE j hj
      rw [hE,Y6,zl,zc]
      obtain ⟨c1,e1,l1,b1⟩:=ud (xU (p:=rdP g m x t) (n:=g.1.toNat) (by omega)) (show m < 9223372036854775808 by omega)
      have hml:=Lp (p:=rdP g m x t) (n:=g.1.toNat) (by omega)
      obtain ⟨c2,e2,l2,b2⟩:=ud (a:=c1) (show c1 < 9223372036854775808 by omega) (YB (j:=x) (by omega))
      rw [e1,e2,MW (by omega),zc]
      congr 2
      have hc2:c2=mkm (Qg g m x) g.1.toNat:=by
       refine uK fun j=>?_
       rw [b2,b1,yj,uF]
       by_cases hj:j < g.1.toNat
       · rw [zt hj,z7,z7,← hend t hsame j hj]
         congr 2
         rw [yo,z8,yO];omega
       · rw [zL hj];rfl
      rw [hc2,JB (by omega)]
    · have hb:(((mkm (J5 g (rch g (wth m x) x t)) g.1.toNat:Nat):Int) == ((mkm (rdP g m x t) g.1.toNat:Nat):Int))=false:=by
       rw [beq_eq_false_iff_ne];omega
      rw [hb,zi]
      exact ih (t + 1) k (by omega) (by omega)
 have:=key (T + 1) 0 F (by omega) (by omega)
 rw [hstart]
 exact this
theorem Mh {n:Int} {l:List Int} (ho:Yl n l=true) (h0:0≤n) {i x:Nat} (hi:i < l.length) (hx:l.getD i 0=(x:Int)):Yo l i x=false:=by
 have hl:=Kn ho
 unfold Yo
 refine zL fun hm=>?_
 have hc:=(Md n.toNat (l.take i++l.drop (i + 1)) (fun j hj=>by
  have:=LL ho (x:=(j:Int)) (by omega) (by omega)
  rw [← Xp i l,zN] at this
  rcases this with h | h
  · exact List.mem_append_left _ h
  · rw [List.drop_eq_getElem_cons hi,z2] at h
    rcases h with h | h
    · rw [zC,zX hi,yV] at hx
      rw [h,hx]
      exact List.mem_append_left _ hm
    · exact List.mem_append_right _ h)).1
 rw [Y5,Yh,List.length_drop] at hc
 omega
def We (l:List Int) (n i:Nat):Nat:=mkm (Yo l i) n
theorem LJ {l:List Int} {n i j:Nat} (hj:j < n):(We l n i).testBit j=Yo l i j:=by
 unfold We
 rw [yj,zt hj];rfl
theorem zer {l:List Int} {n i x:Nat} (hi:i < l.length) (hx:l.getD i 0=(x:Int)) (hn:x < n):We l n (i + 1)=We l n i ||| 2 ^ x:=by
 unfold We
 symm
 refine uK fun j=>?_
 rw [ZC,yj,uF,NQ hi hx]
 by_cases e:x=j
 · subst e;simp [hn]
 · have h1:decide (x=j)=false:=by simpa using e
   have h2:(j == x)=false:=by simp;omega
   rw [h1,h2];simp
def elV (g:Gr) (l:List Int) (i:Nat):Int:=(y8 (Qg g (We l g.1.toNat i) (l.getD i 0).toNat) g.1.toNat:Int)
def elW (g:Gr) (l:List Int) (k:Nat):Int:=(List.range k).foldl (fun s i=>max s (elV g l i)) (-1)
theorem ziE {g:Gr} {l:List Int} {k:Nat}:elW g l (k + 1)=max (elW g l k) (elV g l k):=by simp [elW,Xw]
theorem Uz {α:Type} {xs ys:List α} (h:xs.length + ys.length≤1099511627776):uQ xs ys=some (xs++ys):=by
 unfold uQ
 rw [if_pos (by simpa using h)]
def W9 {α:Type} (p:α→Bool):List α→Nat
 | []=>0
 | x :: xs=>if p x then W9 p xs + 1 else 0
theorem zcw {α:Type} {p:α→Bool}:∀ {xs:List α},W9 p xs≤xs.length
 | []=>yP _
 | x :: xs=>by
   have:=zcw (p:=p) (xs:=xs)
   simp only [W9,Yk]
   split <;> omega
theorem zfK {α:Type} {p:α→Bool}:∀ {xs:List α} {i:Nat} (h:i < W9 p xs) (h2:i < xs.length),p xs[i]=true
 | [],i,h,_=>by simp [W9] at h
 | x :: xs,i,h,h2=>by
   simp only [W9] at h
   split at h
   · rename_i hx
     cases i with
     | zero=>exact hx
     | succ i=>exact zfK (xs:=xs) (by omega) (by simpa using h2)
   · omega
theorem zf2 {α:Type} {p:α→Bool}:∀ {xs:List α} (h:W9 p xs < xs.length),p xs[W9 p xs]=false
 | [],h=>by simp [W9] at h
 | x :: xs,h=>by
   by_cases hx:p x=true
   · have e:W9 p (x :: xs)=W9 p xs + 1:=by simp [W9,hx]
     have h':W9 p xs < xs.length:=by rw [e] at h;simpa using h
     have:=zf2 (p:=p) (xs:=xs) h'
     simp only [e,List.getElem_cons_succ]
     exact this
   · have e:W9 p (x :: xs)=0:=by simp [W9,hx]
     simp only [e,List.getElem_cons_zero]
     simpa using hx
def zii (xs:List (Int×Int)) (e:Int×Int):List (Int×Int):=xs.take (W9 (fun z=>bef z e) xs)++e :: xs.drop (W9 (fun z=>bef z e) xs)
theorem NY {xs:List (Int×Int)} {e:Int×Int}:(zii xs e).length=xs.length + 1:=by
 unfold zii
 have:=zcw (p:=fun z=>bef z e) (xs:=xs)
 simp;omega
theorem Qy {F:Nat} {xs:List (Int×Int)} {e:Int×Int} (hF:xs.length < F) (hl:xs.length≤1000000):Yd F xs e=some (.of (zii xs e)):=by
 have hle:=zcw (p:=fun z=>bef z e) (xs:=xs)
 unfold Yd
 refine zgd (L:=fun k i=>wq F xs e k i) (n:=W9 (fun z=>bef z e) xs) ?_ ?_ F (by omega)
 · intro k i hi
   have h1:=zfK (p:=fun z=>bef z e) (xs:=xs) hi (by omega)
   simp only [wq,Zp]
   rw [zt (show (i:Int) < (xs.length:Int) by omega),zl,Uj (by omega),zc,JY,zc]
   rw [h1,zl,yk (n:=xs.length) (by omega) (by unfold Sm;omega)]
 · intro k
   have hfin:Zp F xs e ((W9 (fun z=>bef z e) xs:Nat):Int) (wq F xs e k) false=some (.of (zii xs e)):=by
    simp only [Zp]
    rw [zi,QN hle,zc,Uz (by simp;omega),zc,Uz (by simp;omega),zc,zel hle,zc,Uz (by simp;omega),zc]
    unfold zii
    simp
   simp only [wq]
   by_cases h:W9 (fun z=>bef z e) xs < xs.length
   · have h1:=zf2 (p:=fun z=>bef z e) (xs:=xs) h
     rw [zt (show ((W9 (fun z=>bef z e) xs:Nat):Int) < (xs.length:Int) by omega),zl,Uj h,zc,JY,zc]
     rw [h1]
     exact hfin
   · rw [zL (show ¬ ((W9 (fun z=>bef z e) xs:Nat):Int) < (xs.length:Int) by omega),zi]
     exact hfin
def Ck (a:LB) (b:Int) (m:Nat):Prop:=(∀ y∈a,0≤y.v∧y.v≤255)∧0≤b∧b≤m
theorem Ck.le {a:LB} {b:Int} {m m':Nat} (h:Ck a b m) (hm:m≤m'):Ck a b m':=⟨h.1,h.2.1,by have:=h.2.2;omega⟩
theorem zjo {q:Int}:0≤yx .u64 q 255∧yx .u64 q 255≤255:=by
 unfold yx
 have h:(BitVec.ofInt IntKind.u64.bits q &&& BitVec.ofInt IntKind.u64.bits 255).toNat≤255:=by
  rw [BitVec.toNat_and]
  exact xz Nat.and_le_right (by decide)
 generalize (BitVec.ofInt IntKind.u64.bits q &&& BitVec.ofInt IntKind.u64.bits 255).toNat=n at h
 have e:IntKind.wrap .u64 (n:Int)=n:=by
  simp only [IntKind.wrap,IntKind.bits,IntKind.signed,vf]
  have e1:((2:Int) ^ 64)=18446744073709551616:=by decide
  simp only [e1]
  split
  · rename_i hh;cases hh
  · omega
 rw [e];omega
theorem zsJ (q:Int):0≤w64 (yx .u64 q 255)∧w64 (yx .u64 q 255)≤255:=by
 have:=zjo (q:=q)
 rw [xp (by omega) (by omega)];exact this
section
variable {F:Nat} {c:CC} {m:Nat}
theorem zdp {x:Int} (h:Ck c.v.a c.v.b m) (hm:m < 1000000) (h0:0≤x) (hx:x≤255):∃ r c',vU F c x=some (r,c')∧0≤r∧r≤255∧Ck c'.a c'.b (m + 1):=by
 have hb:=h.2
 have hw:w64 (c.v.b + 1)=c.v.b + 1:=xp (by omega) (by omega)
 unfold vU
 rw [hw]
 have hk:Ck c.v.a (c.v.b + 1) (m + 1):=⟨h.1,by omega,by omega⟩
 cases decide ((c.v.b + 1)≤(c.v.a.length:Int)) with
 | true=>exact ⟨x,_,rfl,h0,hx,hk⟩
 | false=>
   exact ⟨_,_,rfl,(zsJ _).1,(zsJ _).2,hk⟩
theorem zgv (h:Ck c.v.a c.v.b m) (hm:m < 1000000):∃ r c',vp F c=some (r,c')∧0≤r∧r≤255∧Ck c'.a c'.b (m + 1):=by
 unfold vp
 by_cases hd:c.v.b < (c.v.a.length:Int)
 · rw [zt hd,zl]
   have hb:=h.2
   obtain ⟨i,hi⟩:∃ i:Nat,c.v.b=i:=⟨c.v.b.toNat,by omega⟩
   rw [hi,Uj (by omega),zc]
   have hy:=h.1 _ (WD (show i < c.v.a.length by omega))
   rw [xp (by omega) (by omega)]
   exact zdp h hm hy.1 hy.2
 · rw [zL hd,zi]
   exact zdp h hm (by omega) (by omega)
theorem Zd {n:Int} (h:Ck c.v.a c.v.b m) (hm:m < 900000):∃ r c',yc F c n=some (r,c')∧0≤r∧(1≤n→r < n)∧(n≤1→r=0)∧Ck c'.a c'.b (m + 2):=by
 unfold yc
 have rem:∀ (v:Int) (c':CU),0≤v→1 < n→Ck c'.a c'.b (m + 2)→∃ r c'',vT F n c'.a c'.b c'.c.v v=some (r,c'')∧0≤r∧(1≤n→r < n)∧(n≤1→r=0)∧Ck c''.a c''.b (m + 2):=by
  intro v c' hv hn hk
  have e:zjh .i64 v n=some (v.tmod n):=by unfold zjh;rw [if_neg (by omega)]
  unfold vT
  rw [e]
  exact ⟨_,_,rfl,Int.tmod_nonneg _ hv,fun _=>Int.tmod_lt_of_pos _ (by omega),fun h=>by omega,hk⟩
 by_cases hn:n≤1
 · rw [zt hn,zl]
   exact ⟨0,_,rfl,by omega,fun h=>by omega,fun _=>rfl,h.le (by omega)⟩
 · rw [zL hn,zi]
   obtain ⟨r,c1,e1,h1,h2,k1⟩:=zgv (F:=F) (c:=Cu.mk c.v) h (by omega)
   rw [e1,zc]
   by_cases h200:n > 200
   · rw [zt h200,zl]
     obtain ⟨r',c2,e2,h3,h4,k2⟩:=zgv (F:=F) (c:=Cu.mk c1) k1 (by omega)
     have e2':vp F (Cu.mk (r,c1).2)=some (r',c2):=e2
     rw [e2',zc]
     refine rem _ c2 ?_ (by omega) k2
     show 0≤w64 ((w64 (r * 256)) + r')
     rw [xp (x:=r * 256) (by omega) (by omega),xp (by omega) (by omega)];omega
   · rw [zL h200,zi]
     exact rem r c1 h1 (by omega) (k1.le (by omega))
theorem JP {xs:List Int} (h:Ck c.v.a c.v.b m) (hm:m < 900000) (hx:0 < xs.length):∃ r c',y7 F c xs=some (r,c')∧r∈xs∧Ck c'.a c'.b (m + 2):=by
 unfold y7
 obtain ⟨r,c1,e1,h1,h2,_,k1⟩:=Zd (F:=F) (c:=Cu.mk c.v) (n:=(xs.length:Int)) h hm
 rw [e1,zc]
 have:=h2 (by omega)
 obtain ⟨i,hi⟩:∃ i:Nat,r=i:=⟨r.toNat,by omega⟩
 subst hi
 have e:idx xs ((i:Int),c1).1=some xs[i]:=Uj (by omega)
 rw [e]
 exact ⟨_,_,rfl,WD _,k1⟩
theorem zb5 {n:Int} (h:Ck c.v.a c.v.b m) (hm:m < 900000):∃ r c',xO F c n=some (r,c')∧Ck c'.a c'.b (m + 2):=by
 unfold xO
 obtain ⟨r,c1,e1,_,_,_,k1⟩:=Zd (F:=F) (c:=Cu.mk c.v) (n:=n) h hm
 rw [e1]
 exact ⟨_,_,rfl,k1⟩
def GOk (x:Option (GR×CU)):Prop:=∃ g c',x=some (g,c')∧g.2.length≤400∧Ck c'.a c'.b 5000
theorem Ju {α:Type} {xs ys:List α} (h:xs.length + ys.length≤1000):uQ xs ys=some (xs++ys):=by
 unfold uQ
 rw [if_pos (xz h (by decide))]
theorem zh5 {o:Oh (Int×Int)} (h:Ck c.v.a c.v.b m) (hm:m≤4000) (ho:o.v.length≤300):GOk (vC F c o):=by
 unfold vC
 obtain ⟨r,c1,e1,h1,h2,_,k1⟩:=Zd (F:=F) (c:=Cu.mk c.v) (n:=50) h (by omega)
 rw [e1,zc]
 have fin:GOk (some ((o.a,o.v),c1)):=⟨_,_,rfl,by show o.v.length≤400;omega,k1.le (by omega)⟩
 cases (r,c1).1 == 0 with
 | true=>
   rw [zl]
   obtain ⟨r,c2,e2,_,k2⟩:=JP (F:=F) (c:=Cu.mk c1) (xs:=[(-1),8,9,0,4611686018427387904]) k1 (by omega) (by decide)
   have e2':y7 F (Cu.mk (r,c1).2) [(-1),8,9,0,4611686018427387904]=some (r,c2):=e2
   rw [e2',zc]
   exact ⟨_,_,rfl,by show o.v.length≤400;omega,k2.le (by omega)⟩
 | false=>
   rw [zi]
   cases (r,c1).1 == 1 with
   | true=>
     rw [zl]
     obtain ⟨r2,c2,e2,_,_,_,k2⟩:=Zd (F:=F) (c:=Cu.mk c1) (n:=4) k1 (by omega)
     have e2':yc F (Cu.mk (r,c1).2) 4=some (r2,c2):=e2
     rw [e2',zc]
     obtain ⟨r3,c3,e3,_,_,_,k3⟩:=Zd (F:=F) (c:=Cu.mk c2) (n:=9) k2 (by omega)
     have e3':yc F (Cu.mk (r2,c2).2) 9=some (r3,c3):=e3
     rw [e3',zc,Ju (by simp;omega),zc]
     exact ⟨_,_,rfl,by simp;omega,k3.le (by omega)⟩
   | false=>
     rw [zi]
     cases (r,c1).1 == 2 with
     | true=>
       rw [zl]
       by_cases hl:(o.v.length:Int) > 0
       · rw [zt hl,zl]
         obtain ⟨r2,c2,e2,h3,h4,_,k2⟩:=Zd (F:=F) (c:=Cu.mk c1) (n:=(o.v.length:Int)) k1 (by omega)
         have e2':yc F (Cu.mk (r,c1).2) (o.v.length:Int)=some (r2,c2):=e2
         rw [e2',zc]
         have:=h4 (by omega)
         obtain ⟨i,hi⟩:∃ i:Nat,r2=i:=⟨r2.toNat,by omega⟩
         subst hi
         have e:idx o.v ((i:Int),c2).1=some o.v[i]:=Uj (by omega)
         rw [e,zc,Ju (by simp;omega),zc]
         exact ⟨_,_,rfl,by simp;omega,k2.le (by omega)⟩
       · rw [zL hl,zi]
         exact fin
     | false=>exact fin
theorem Nh {a:LB} {b v n:Int} {xs:List (Int×Int)} (h:Ck a b m) (hm:m≤4000) (ho:xs.length≤300):GOk (y6 F a b v n (.of xs)):=by
 unfold y6
 obtain ⟨g,c',e,h1,h2⟩:=zh5 (F:=F) (c:=cu a b v) (o:=Oh.mk n xs) h hm ho
 show GOk (Option.bind (some xs) _)
 rw [zc,e,zc]
 exact ⟨g,c',rfl,h1,h2⟩
end
theorem zgl (K:Nat):∀ n:Nat,n≤8→∃ l,YD (K + 20) (n:Int)=some ((n:Int),.of l)∧l.length≤10
 | 0,_=>⟨_,rfl,by decide⟩
 | 1,_=>⟨_,rfl,by decide⟩
 | 2,_=>⟨_,rfl,by decide⟩
 | 3,_=>⟨_,rfl,by decide⟩
 | 4,_=>⟨_,rfl,by decide⟩
 | 5,_=>⟨_,rfl,by decide⟩
 | 6,_=>⟨_,rfl,by decide⟩
 | 7,_=>⟨_,rfl,by decide⟩
 | 8,_=>⟨_,rfl,by decide⟩
 | n + 9,h=>absurd h (by omega)
theorem zd3 (K:Nat):∀ n:Nat,n≤8→∃ l,uR (K + 20) (n:Int)=some ((n:Int),.of l)∧l.length≤300
 | 0,_=>⟨_,rfl,by decide⟩
 | 1,_=>⟨_,rfl,by decide⟩
 | 2,_=>⟨_,rfl,by decide⟩
 | 3,_=>⟨_,rfl,by decide⟩
 | 4,_=>⟨_,rfl,by decide⟩
 | 5,_=>⟨_,rfl,by decide⟩
 | 6,_=>⟨_,rfl,by decide⟩
 | 7,_=>⟨_,rfl,by decide⟩
 | 8,_=>⟨_,rfl,by decide⟩
 | n + 9,h=>absurd h (by omega)
theorem zla {F n:Nat} (hF:300≤F) (h:n≤8):∃ l,ZQ F (n:Int)=some ((n:Int),.of l)∧l.length≤20:=by
 obtain ⟨K,rfl⟩:∃ K,F=K + 20:=⟨F - 20,by omega⟩
 obtain ⟨l,e,hl⟩:=zgl K n h
 unfold ZQ
 rw [e,zc]
 have:(((n:Int),NL.of l).2).list=l:=rfl
 rw [this,Qy (by omega) (by omega),zc]
 exact ⟨_,rfl,by rw [NY];omega⟩
theorem zpn {F n i:Nat} {q:Int×CU} {t:Bool×CU} {c5:LB→Int→Int→NL (Int×Int)→Int→Option (GR×CU)} (hn:n≤8) (hF:500≤F) (hi:i < n)
    (H:∀ (c':CU) (ys:List (Int×Int)),Ck c'.a c'.b (50 + 40 * (i + 1))→ys.length≤10 * (i + 1)→GOk (c5 c'.a c'.b c'.c.v (.of ys) ((i + 1:Nat):Int))) :
    ∀ (d j k:Nat) (a:LB) (b v:Int) (xs:List (Int×Int)),j + d=n→d < k→Ck a b (50 + 40 * i + 2 * j)→xs.length≤10 * i + j→GOk (yC F (n:Int) q t (i:Int) c5 k a b v (.of xs) (j:Int)):=by
 have hw:w64 ((i:Int) + 1)=((i + 1:Nat):Int):=yk (n:=n) (by omega) (by unfold Sm;omega)
 intro d
 induction d with
 | zero=>
   intro j k a b v xs hj hk hc hx
   obtain ⟨k,rfl⟩:∃ k',k=k' + 1:=⟨k - 1,by omega⟩
   simp only [yC]
   rw [zL (by omega),zi,zbq,zc]
   obtain ⟨r,c1,e1,h1,_,_,k1⟩:=Zd (F:=F) (c:=cu a b v) (n:=max (i:Int) 1) hc (by omega)
   rw [e1,zc]
   have hk1:Ck c1.a c1.b (50 + 40 * (i + 1)):=k1.le (by omega)
   have h4f:GOk (xi F (r,c1) (n:Int) (.of xs) q t (i:Int) c5 false):=by
    show GOk (c5 c1.a c1.b c1.c.v (.of xs) (w64 ((i:Int) + 1)))
    rw [hw];exact H c1 xs hk1 (by omega)
   have h4t:GOk (xi F (r,c1) (n:Int) (.of xs) q t (i:Int) c5 true):=by
    unfold xi
    rw [zl,show (NL.of xs).list=xs from rfl,Qy (by omega) (by omega),zc]
    show GOk (c5 c1.a c1.b c1.c.v (.of _) (w64 ((i:Int) + 1)))
    rw [hw];exact H c1 _ hk1 (by rw [NY];omega)
   by_cases h0:(i:Int) > 0
   · rw [zt h0,zl]
     cases !t.1 with
     | false=>exact h4f
     | true=>
       rw [zl]
       obtain ⟨y,hy⟩:∃ y:Nat,r=y:=⟨r.toNat,by omega⟩
       subst hy
       have e:Xj F ((n:Int),(NL.of xs).list) (i:Int) ((y:Int),c1).1=_:=zbd (g:=((n:Int),xs)) (F:=F) (a:=i) (b:=y) (by show xs.length < F;omega) (by show Sm xs.length;unfold Sm;omega)
       rw [e,zc]
       cases !adj ((n:Int),xs) i y with
       | false=>exact h4f
       | true=>exact h4t
   · rw [zL h0];exact h4f
 | succ d ih=>
   intro j k a b v xs hj hk hc hx
   obtain ⟨k,rfl⟩:∃ k',k=k' + 1:=⟨k - 1,by omega⟩
   simp only [yC]
   rw [zt (by omega),zl]
   obtain ⟨r,c1,e1,h1,_,_,k1⟩:=Zd (F:=F) (c:=cu a b v) (n:=q.1) hc (by omega)
   rw [e1,zc]
   have hwj:w64 ((j:Int) + 1)=((j + 1:Nat):Int):=yk (n:=n) (by omega) (by unfold Sm;omega)
   cases (r,c1).1 == 0 with
   | true=>
     rw [zl,show (NL.of xs).list=xs from rfl,Qy (by omega) (by omega),zc]
     show GOk (yC F (n:Int) q t (i:Int) c5 k c1.a c1.b c1.c.v (.of _) (w64 ((j:Int) + 1)))
     rw [hwj]
     exact ih (j + 1) k _ _ _ _ (by omega) (by omega) (k1.le (by omega)) (by rw [NY];omega)
   | false=>
     show GOk (yC F (n:Int) q t (i:Int) c5 k c1.a c1.b c1.c.v (.of xs) (w64 ((j:Int) + 1)))
     rw [hwj]
     exact ih (j + 1) k _ _ _ _ (by omega) (by omega) (k1.le (by omega)) (by omega)
theorem znq {F n:Nat} {q:Int×CU} {t:Bool×CU} (hn:n≤8) (hF:500≤F) :
    ∀ (d i k:Nat) (a:LB) (b v:Int) (xs:List (Int×Int)),i + d=n→d < k→Ck a b (50 + 40 * i)→xs.length≤10 * i→GOk (xk F (n:Int) q t k a b v (.of xs) (i:Int)):=by
 intro d
 induction d with
 | zero=>
   intro i k a b v xs hj hk hc hx
   obtain ⟨k,rfl⟩:∃ k',k=k' + 1:=⟨k - 1,by omega⟩
   simp only [xk]
   rw [zL (by omega),zi]
   exact Nh hc (by omega) (by omega)
 | succ d ih=>
   intro i k a b v xs hj hk hc hx
   obtain ⟨k,rfl⟩:∃ k',k=k' + 1:=⟨k - 1,by omega⟩
   simp only [xk]
   rw [zt (by omega),zl,yk (n:=n) (by omega) (by unfold Sm;omega)]
   exact zpn hn hF (by omega) (fun c' ys hc' hy=>ih (i + 1) k _ _ _ _ (by omega) (by omega) hc' hy) (n - (i + 1)) (i + 1) F a b v xs (by omega) (by omega) (hc.le (by omega)) (by omega)
theorem zbw {F:Nat} {c:CC} {z:Int} (h:Ck c.v.a c.v.b 0) (hF:500≤F) (h0:0≤z) (h8:z≤8):GOk (wr F c z):=by
 obtain ⟨K,hK⟩:∃ K,F=K + 20:=⟨F - 20,by omega⟩
 have j5:∀ (c1:CU) (x:Int),Ck c1.a c1.b 10→0≤x→GOk (wc F z c1.a c1.b c1.c.v x):=by
  intro c1 x k1 hx
  unfold wc
  rw [NC,zc]
  obtain ⟨n,hn⟩:∃ n:Nat,min x z=n:=⟨(min x z).toNat,by omega⟩
  have hn8:n≤8:=by omega
  rw [hn]
  obtain ⟨r,c2,e2,h1,_,_,k2⟩:=Zd (F:=F) (c:=cu c1.a c1.b c1.c.v) (n:=8) k1 (by omega)
  rw [e2,zc]
  have k2':Ck c2.a c2.b 20:=k2.le (by omega)
  cases (r,c2).1 == 0 with
  | true=>
    rw [zl]
    obtain ⟨l,e,hl⟩:=zgl K n hn8
    rw [← hK] at e
    rw [e,zc]
    exact Nh k2' (by omega) (by omega)
  | false=>
    rw [zi]
    cases (r,c2).1 == 1 with
    | true=>
      rw [zl]
      by_cases h2:(n:Int) > 2
      · rw [zt h2,zl]
        obtain ⟨l,e,hl⟩:=zla (F:=F) (by omega) hn8
        rw [e,zc]
        exact Nh k2' (by omega) (by omega)
      · rw [zL h2,zi]
        exact Nh k2' (by omega) (by simp)
    | false=>
      rw [zi]
      cases (r,c2).1 == 2 with
      | true=>
        rw [zl]
        obtain ⟨l,e,hl⟩:=zd3 K n hn8
        rw [← hK] at e
        rw [e,zc]
        exact Nh k2' (by omega) (by omega)
      | false=>
        rw [zi]
        obtain ⟨r3,c3,e3,_,k3⟩:=JP (F:=F) (c:=Cu.mk c2) (xs:=[3,4,6]) k2' (by omega) (by decide)
        have e3':y7 F (Cu.mk (r,c2).2) [3,4,6]=some (r3,c3):=e3
        rw [e3',zc]
        obtain ⟨r4,c4,e4,k4⟩:=zb5 (F:=F) (c:=Cu.mk c3) (n:=6) k3 (by omega)
        have e4':xO F (Cu.mk (r3,c3).2) 6=some (r4,c4):=e4
        rw [e4',zc]
        exact znq hn8 hF n 0 F c4.a c4.b c4.c.v [] (by omega) (by omega) (k4.le (by omega)) (by simp)
 unfold wr
 obtain ⟨r,c1,e1,hr,k1⟩:=JP (F:=F) (c:=Cu.mk c.v) (xs:=[4,5,3,6,2,1,0]) h (by omega) (by decide)
 rw [e1,zc]
 have hr0:0≤r:=by
  have:∀ y∈([4,5,3,6,2,1,0]:List Int),0≤y:=by decide
  exact this r hr
 by_cases h6:z > 6
 · rw [zt h6,zl]
   obtain ⟨r2,c2,e2,k2⟩:=zb5 (F:=F) (c:=Cu.mk c1) (n:=4) k1 (by omega)
   have e2':xO F (Cu.mk (r,c1).2) 4=some (r2,c2):=e2
   rw [e2',zc]
   unfold wV
   cases (r2,c2).1 with
   | true=>
     rw [zl]
     obtain ⟨r3,c3,e3,h3,h4,_,k3⟩:=Zd (F:=F) (c:=cu c2.a c2.b c2.c.v) (n:=2) k2 (by omega)
     have e3':yc F (cu (r2,c2).2.a (r2,c2).2.b (r2,c2).2.c.v) 2=some (r3,c3):=e3
     rw [e3',zc]
     have:=h4 (by omega)
     exact j5 c3 _ (k3.le (by omega)) (by show 0≤w64 (7 + r3);rw [xp (by omega) (by omega)];omega)
   | false=>exact j5 c2 r (k2.le (by omega)) hr0
 · rw [zL h6,zi]
   exact j5 c1 r (k1.le (by omega)) hr0
theorem zaw {F:Nat} {code:LB} (hF:500≤F) (hc:∀ y∈code,0≤y.v∧y.v≤255):∃ g c,vu F (cu code 0 0)=some (g,c)∧g.2.length≤400∧Ck c.a c.b 5000:=by
 unfold vu
 obtain ⟨g,c',e,h1,h2⟩:=zbw (F:=F) (c:=Cu.mk (cu code 0 0).v) (z:=6) ⟨hc,ZB _,ZB _⟩ hF (by omega) (by omega)
 rw [e];exact ⟨g,c',rfl,h1,h2⟩
theorem zeS {α:Type} {xs:List α} {a b:Nat} (h:a≤b) (hb:b≤xs.length):∃ ys,sub xs (a:Int) (b:Int)=some ys∧ys.length=b - a:=by
 unfold sub
 rw [if_pos ⟨by omega,by omega,by omega⟩]
 exact ⟨_,rfl,by simp;omega⟩
theorem zeQ {F m:Nat} {g:GR} (hF:500≤F) (hm:m≤100000):∀ (d i k:Nat) (a:LB) (b v:Int) (xs:List Int),i + d=(min g.1 8).toNat→d < k→Ck a b (m + 2 * i)→xs.length=i →
    ∃ l c',xR F g k a b v xs (i:Int)=some (l,c')∧l.length≤20∧Ck c'.a c'.b (m + 1000):=by
 intro d
 have fin:∀ (i k:Nat) (a:LB) (b v:Int) (xs:List Int),¬ (i:Int) < min g.1 8→Ck a b (m + 2 * i)→xs.length=i→i≤8→∃ l c',xR F g (k + 1) a b v xs (i:Int)=some (l,c')∧l.length≤20∧Ck c'.a c'.b (m + 1000):=by
  intro i k a b v xs hi hc hx h8
  simp only [xR]
  rw [NC,zc,zL hi,zi]
  obtain ⟨r,c1,e1,k1⟩:=zb5 (F:=F) (c:=cu a b v) (n:=24) hc (by omega)
  rw [e1,zc]
  cases (r,c1).1 with
  | true=>
    rw [zl]
    obtain ⟨r2,c2,e2,_,k2⟩:=JP (F:=F) (c:=Cu.mk c1) (xs:=[0,(-1),8]) k1 (by omega) (by decide)
    have e2':y7 F (Cu.mk (r,c1).2) [0,(-1),8]=some (r2,c2):=e2
    rw [e2',zc,Ju (by simp;omega),zc]
    exact ⟨_,_,rfl,by simp;omega,k2.le (by omega)⟩
  | false=>exact ⟨_,_,rfl,by omega,k1.le (by omega)⟩
 induction d with
 | zero=>
   intro i k a b v xs hj hk hc hx
   obtain ⟨k,rfl⟩:∃ k',k=k' + 1:=⟨k - 1,by omega⟩
   exact fin i k a b v xs (by omega) hc hx (by omega)
 | succ d ih=>
   intro i k a b v xs hj hk hc hx
   obtain ⟨k,rfl⟩:∃ k',k=k' + 1:=⟨k - 1,by omega⟩
   simp only [xR]
   rw [NC,zc,zt (by omega),zl,hx,yk (n:=i + 1) (by omega) (by unfold Sm;omega)]
   obtain ⟨r,c1,e1,h1,h2,_,k1⟩:=Zd (F:=F) (c:=cu a b v) (n:=((i + 1:Nat):Int)) hc (by omega)
   rw [e1,zc]
   have:=h2 (by omega)
   obtain ⟨p,hp⟩:∃ p:Nat,r=p:=⟨r.toNat,by omega⟩
   subst hp
   obtain ⟨ys,s1,s2⟩:=zeS (xs:=xs) (a:=0) (b:=p) (by omega) (by omega)
   obtain ⟨zs,s3,s4⟩:=zeS (xs:=xs) (a:=p) (b:=i) (by omega) (by omega)
   have s1':sub xs 0 ((p:Int),c1).1=some ys:=s1
   have s3':sub xs ((p:Int),c1).1 (i:Int)=some zs:=s3
   rw [s1',zc,Ju (by simp;omega),zc,Ju (by simp;omega),zc,s3',zc,Ju (by simp;omega),zc]
   exact ih (i + 1) k c1.a c1.b c1.c.v _ (by omega) (by omega) (k1.le (by omega)) (by simp;omega)
inductive Grd (n:Nat) (p:Nat→Nat→Bool):Nat→Nat→List Int→Prop
 | done:Grd n p 0 (2 ^ n - 1) []
 | step {d m x:Nat} {l:List Int}:m < 2 ^ n→ZH (fun y=>!m.testBit y && p m y) n=some x→Grd n p d (m ||| 2 ^ x) l→Grd n p (d + 1) m ((x:Int) :: l)
theorem zmE {F:Nat} {l:List Int} (hl:l.length≤1000):YZ F l=some (.of l):=by
 unfold YZ uQ
 rw [if_pos (by
  have:(2:Nat) ^ 40=1099511627776:=by decide
  simp only [List.length_nil]
  omega)]
 rfl
def fm (h:Int→Int→Int):List Int→Int
 | []=>-1
 | x :: r=>r.foldl h x
theorem zct {h:Int→Int→Int} {l:List Int} (hl:l≠[]) (y:Int):fm h (l++[y])=h (fm h l) y:=by
 cases l with
 | nil=>exact absurd rfl hl
 | cons x r=>simp [fm,List.foldl_append]
theorem zfi {h:Int→Int→Int} (hh:∀ b y,h b y=b∨h b y=y) {l:List Int} (hl:l≠[]):fm h l∈l:=by
 cases l with
 | nil=>exact absurd rfl hl
 | cons x r=>
   have:∀ (r:List Int) (b:Int),r.foldl h b=b∨r.foldl h b∈r:=by
    intro r
    induction r with
    | nil=>intro b;exact .inl rfl
    | cons y r ih=>
      intro b
      simp only [List.foldl_cons]
      rcases ih (h b y) with e | e
      · rcases hh b y with e2 | e2
        · exact .inl (by rw [e,e2])
        · exact .inr (by rw [e,e2];simp)
      · exact .inr (by simp [e])
   rcases this r x with e | e
   · simp [fm,e]
   · simp [fm,e]
def Ym (D:List Int) (c:Nat) (b y:Int):Int:=if D.getD (c - 2 ^ y.toNat) 0 < D.getD (c - 2 ^ b.toNat) 0 then y else b
def vX (D:List Int) (n c:Nat):Int:=fm (Ym D c) (zp c.testBit n)
theorem M9 {D:List Int} {c:Nat} (b y:Int):Ym D c b y=b∨Ym D c b y=y:=by
 unfold Ym;split
 · exact .inr rfl
 · exact .inl rfl
theorem Kc {n c:Nat} (hc:c < 2 ^ n) (h0:c≠0):zp c.testBit n≠[]:=by
 intro h
 have hz:mkm c.testBit n=0:=by
  rw [Xa,vm]
  intro j hj
  cases hb:c.testBit j with
  | false=>rfl
  | true=>
    have:(j:Int)∈zp c.testBit n:=xr.2 ⟨j,rfl,hj,hb⟩
    rw [h] at this;cases this
 rw [vQ hc] at hz
 exact h0 hz
theorem zk9 {D:List Int} {n c:Nat} (hc:c < 2 ^ n) (h0:c≠0):∃ b:Nat,vX D n c=b∧b < n∧c.testBit b=true:=
 xr.1 (zfi M9 (Kc hc h0))
theorem zeB {D:List Int} {c:Nat} {x:Int}:Ym D c x x=x:=by simp [Ym]
theorem WG {α:Type} {l:List α} {i:Nat} {d:α} (hi:i < l.length):l.take (i + 1)=l.take i++[l.getD i d]:=by
 rw [List.take_add_one,zX hi,zC,zX hi];rfl
theorem zbj {D:List Int} {n c y:Nat} (hn:n≤8) (hc:c < 2 ^ n) (hD:D.length=2 ^ n) (hy:y < n) (hb:c.testBit y=true) :
    idx D (yW .i64 (c:Int) ((2 ^ y:Nat):Int))=some (D.getD (c - 2 ^ (y:Int).toNat) 0)∧idx D (w64 ((c:Int) - ((2 ^ y:Nat):Int)))=some (D.getD (c - 2 ^ (y:Int).toNat) 0):=by
 have h256:=Zi hn
 obtain ⟨d1,d2,d3⟩:=Xb c (by omega) y (by omega) hb
 have hp:=yi y
 have hw:w64 ((c:Int) - ((2 ^ y:Nat):Int))=((c - 2 ^ y:Nat):Int):=by rw [xp (by omega) (by omega)];omega
 rw [d1,hw,z5]
 have:=zY (xs:=D) (i:=c - 2 ^ y) (d:=0) (by omega)
 exact ⟨this,this⟩
theorem zjF {F n c:Nat} {D:List Int} (hn:n≤8) (hF:60≤F) (hc:c < 2 ^ n) (h0:c≠0) (hD:D.length=2 ^ n):Xl F D (zp c.testBit n)=some (vX D n c):=by
 have hne:=Kc hc h0
 have hl8:(zp c.testBit n).length≤8:=by rw [y9];exact xz wt hn
 have hl0:0 < (zp c.testBit n).length:=List.length_pos_iff.2 hne
 have hcode:=zgg (F:=F) (n:=n) (p:=c.testBit) hn (by omega)
 rw [vQ hc] at hcode
 unfold Xl
 have hi0:idx (zp c.testBit n) 0=some ((zp c.testBit n).getD 0 0):=zY (i:=0) hl0
 rw [hi0,zc,hcode,zc]
 unfold vX
 generalize hL:zp c.testBit n=L at *
 have hget:∀ i,i < L.length→∃ j:Nat,L.getD i 0=j∧j < n∧c.testBit j=true:=by
  intro i hi
  rw [← hL];exact w7 (by rw [hL];exact hi)
 refine wU (L:=fun k i s=>vw F D L (c:Int) k s i) (n:=L.length) (fun i s=>(i=0→s=L.getD 0 0)∧(0 < i→s=fm (Ym D c) (L.take i))) ?_ ?_ F _ (by omega) ⟨fun _=>rfl,fun h=>by omega⟩
 · intro k i s hi hI
   obtain ⟨y,hy,hyn,hyb⟩:=hget i hi
   have hsin:∃ b:Nat,s=b∧b < n∧c.testBit b=true:=by
    by_cases hi0:i=0
    · rw [hI.1 hi0];exact hget 0 hl0
    · rw [hI.2 (by omega)]
      have:fm (Ym D c) (L.take i)∈L.take i:=zfi M9 (by
       intro e
       have:=congrArg List.length e
       rw [Yh,List.length_nil] at this
       omega)
      have hmem:=List.mem_of_mem_take this
      exact xr.1 (by rw [hL];exact hmem)
   obtain ⟨b,hb1,hb2,hb3⟩:=hsin
   have hnext:Ym D c s (L.getD i 0)=fm (Ym D c) (L.take (i + 1)):=by
    rw [WG (d:=0) hi]
    by_cases hi0:i=0
    · subst hi0
      rw [hI.1 rfl]
      simp [fm,zeB]
    · rw [zct (by
       intro e
       have:=congrArg List.length e
       rw [Yh,List.length_nil] at this
       omega),← hI.2 (by omega)]
   refine ⟨Ym D c s (L.getD i 0),⟨fun h=>by omega,fun _=>hnext⟩,?_⟩
   simp only [vw,XY]
   have hw:w64 ((i:Int) + 1)=((i + 1:Nat):Int):=yk hi (by unfold Sm;omega)
   rw [zt (show (i:Int) < (L.length:Int) by omega),zl,zY (d:=0) hi,zc,hy,xB (by omega),zc,(zbj hn hc hD hyn hyb).2,zc,hb1,xB (by omega),zc,(zbj hn hc hD hb2 hb3).2,zc,zc,hw]
   unfold Ym
   by_cases hlt:D.getD (c - 2 ^ (y:Int).toNat) 0 < D.getD (c - 2 ^ (b:Int).toNat) 0
   · rw [zt hlt,zl,if_pos hlt]
   · rw [zL hlt,zi,if_neg hlt]
 · intro k s hI
   simp only [vw]
   rw [zL (show ¬ (L.length:Int) < (L.length:Int) by omega),zi,hI.2 hl0,List.take_length]
theorem zi8 {F n c:Nat} {D:List Int} {w:S1 (List Int)} (hn:n≤8) (hF:60≤F) (hc:c < 2 ^ n) (h0:c≠0) (hD:D.length=2 ^ n):xV F w D (c:Int)=some (vX D n c):=by
 have hne:=Kc hc h0
 have hl8:(zp c.testBit n).length≤8:=by rw [y9];exact xz wt hn
 have hl0:0 < (zp c.testBit n).length:=List.length_pos_iff.2 hne
 have hso:=JH (F:=F) (n:=n) (p:=c.testBit) hn (by omega)
 rw [vQ hc] at hso
 unfold xV
 rw [hso,zc]
 unfold vX
 generalize hL:zp c.testBit n=L at *
 have hget:∀ i,i < L.length→∃ j:Nat,L.getD i 0=j∧j < n∧c.testBit j=true:=by
  intro i hi
  rw [← hL];exact w7 (by rw [hL];exact hi)
 refine wU (L:=fun k i s=>yT F D (c:Int) L k s i) (n:=L.length) (fun i s=>s=fm (Ym D c) (L.take i)) ?_ ?_ F _ (by omega) rfl
 · intro k i s hi hI
   obtain ⟨y,hy,hyn,hyb⟩:=hget i hi
   have hw:w64 ((i:Int) + 1)=((i + 1:Nat):Int):=yk hi (by unfold Sm;omega)
   simp only [yT,w8,vg]
   rw [zt (show (i:Int) < (L.length:Int) by omega),zl,zY (d:=0) hi,zc,hw]
   by_cases hi0:i=0
   · subst hi0
     have hs:s=-1:=by rw [hI];simp [fm]
     refine ⟨L.getD 0 0,?_,?_⟩
     · rw [WG (d:=0) hi];simp [fm]
     · rw [hs];rfl
   · have hne2:L.take i≠[]:=by
      intro e
      have:=congrArg List.length e
      rw [Yh,List.length_nil] at this
      omega
     have hsin:∃ b:Nat,s=b∧b < n∧c.testBit b=true:=by
      rw [hI]
      have hmem:=List.mem_of_mem_take (zfi (h:=Ym D c) M9 hne2)
      exact xr.1 (by rw [hL];exact hmem)
     obtain ⟨b,hb1,hb2,hb3⟩:=hsin
     refine ⟨Ym D c s (L.getD i 0),by rw [WG (d:=0) hi,zct hne2,hI],?_⟩
     rw [hb1,hy,zL (show ¬ (b:Int) < 0 by omega),zi,xB (by omega),zc,(zbj hn hc hD hyn hyb).1,zc,xB (by omega),zc,(zbj hn hc hD hb2 hb3).1,zc]
     unfold Ym
     by_cases hlt:D.getD (c - 2 ^ (y:Int).toNat) 0 < D.getD (c - 2 ^ (b:Int).toNat) 0
     · rw [zt hlt,zl,if_pos hlt]
     · rw [zL hlt,zi,if_neg hlt]
 · intro k s hI
   simp only [yT]
   rw [zL (show ¬ (L.length:Int) < (L.length:Int) by omega),zi,hI,List.take_length]
def bfG (g:Gr) (D:List Int):Nat→Nat→Int→List Int→List Int
 | 0,_,_,ps=>ps
 | k + 1,c,par,ps=>(prt g g.1.toNat c.testBit).foldl (fun ps m=>bfG g D k (m - 2 ^ (vX D g.1.toNat m).toNat) (vX D g.1.toNat m) (ps.set (vX D g.1.toNat m).toNat par)) ps
theorem U9 {α β:Type} {f:β→α→β} {P:β→Prop}:∀ (l:List α) (b:β),P b→(∀ b x,x∈l→P b→P (f b x))→P (l.foldl f b)
 | [],b,h,_=>h
 | x :: l,b,h,hf=>U9 l (f b x) (hf b x (by simp) h) fun b y hy=>hf b y (by simp [hy])
theorem zd6 {α β:Type} {f f':β→α→β}:∀ (l:List α) (b:β),(∀ b x,x∈l→f b x=f' b x)→l.foldl f b=l.foldl f' b
 | [],b,_=>rfl
 | x :: l,b,h=>by
   simp only [List.foldl_cons]
   rw [h b x (by simp)]
   exact zd6 l _ fun b y hy=>h b y (by simp [hy])
theorem K5 {g:Gr} {D:List Int}:∀ (k c:Nat) (par:Int) (ps:List Int),(bfG g D k c par ps).length=ps.length
 | 0,_,_,_=>rfl
 | k + 1,c,par,ps=>by
   rw [bfG]
   refine U9 (P:=fun (b:List Int)=>b.length=ps.length) _ _ rfl fun b m _ hb=>?_
   rw [K5 k];simpa using hb
theorem MR {g:Gr} (hg:yz g=true):∀ (d:Nat) (p:Nat→Bool) (m:Nat),m∈prt g d p→m≠0
 | 0,p,m,h=>by simp [prt] at h
 | d + 1,p,m,h=>by
   rw [prt] at h
   cases hf:ZH p g.1.toNat with
   | none=>rw [hf] at h;simp at h
   | some x=>
     rw [hf] at h
     obtain ⟨h1,h2,h3⟩:=ub hf
     rcases z2.1 h with rfl | h
     · intro e
       have hb:(mkm (yY g p x) g.1.toNat).testBit x=true:=by
        rw [yj,vB,Bool.and_true];simpa using h1
       rw [e] at hb;simp at hb
     · exact MR hg d _ m h
theorem WJ {g:Gr} {D:List Int} {c m:Nat} (hg:yz g=true) (hm:m∈prt g g.1.toNat c.testBit) :
    ∃ b:Nat,vX D g.1.toNat m=b∧b < g.1.toNat∧m.testBit b=true∧m < 2 ^ g.1.toNat∧m≠0∧m - 2 ^ b < 2 ^ g.1.toNat∧UW (m - 2 ^ b) + 1≤UW c∧yW .i64 (m:Int) ((2 ^ b:Nat):Int)=((m - 2 ^ b:Nat):Int):=by
 have h8:=zT hg
 have h256:=Zi (n:=g.1.toNat) (by omega)
 obtain ⟨h1,h2⟩:=XL hg _ _ m hm
 have h0:=MR hg _ _ m hm
 obtain ⟨b,b1,b2,b3⟩:=zk9 (D:=D) h1 h0
 obtain ⟨d1,d2,d3⟩:=Xb m (by omega) b (by omega) b3
 have:=Q4 h2
 have hp:=yi b
 exact ⟨b,b1,b2,b3,h1,h0,by omega,by omega,d1⟩
theorem K1 {g:Gr} {D:List Int} (hg:yz g=true):∀ (k k' c:Nat) (par:Int) (ps:List Int),UW c < k→UW c < k'→bfG g D k c par ps=bfG g D k' c par ps
 | 0,_,_,_,_,h,_=>by omega
 | _ + 1,0,_,_,_,_,h=>by omega
 | k + 1,k' + 1,c,par,ps,h,h'=>by
   rw [bfG,bfG]
   refine zd6 _ _ fun b m hm=>?_
   obtain ⟨x,x1,_,_,_,_,_,x5,_⟩:=WJ (D:=D) hg hm
   rw [x1,z5]
   exact K1 hg k k' _ _ _ (by omega) (by omega)
theorem zeq:∀ c:Nat,c < 256→∀ y:Nat,y < 8→c.testBit y=true→∀ j:Nat,j < 8→(c - 2 ^ y).testBit j=(c.testBit j && !(j == y)):=by decide +kernel
theorem zdd {F n m b:Nat} (hn:n≤8) (hF:20≤F) (hm:m < 2 ^ n) (hb:b < n) (hmb:m.testBit b=true):wX F (zp m.testBit n) (b:Int)=some (zp (m - 2 ^ b).testBit n):=by
 have h256:=Zi hn
 rw [Qb hn hF]
 congr 1
 refine wS fun j hj=>?_
 rw [zeq m (by omega) b (by omega) hmb j (by omega)]
 by_cases e:j=b
 · subst e;simp
 · have h1:((j:Int) == (b:Int))=false:=by
    have:¬ (j:Int)=(b:Int):=by omega
    simpa using this
   have h2:(j == b)=false:=by simpa using e
   rw [h1,h2]
theorem zm1 {F:Nat} {g:Gr} {D:List Int} {par:Int} {β:Type} {L:Nat→NL Int→Int→Option β} {fin:NL Int→Option β} {c K:Nat} (hg:yz g=true) (hF:60≤F) (hD:D.length=2 ^ g.1.toNat) (hF2:g.1.toNat < F)
    (hstep:∀ k s i,i < (prt g g.1.toNat c.testBit).length→L (k + 1) s (i:Int)=(Xl F D (zp ((prt g g.1.toNat c.testBit).getD i 0).testBit g.1.toNat)).bind fun r=>(idx s.list r).bind fun _=>(wX F (zp ((prt g g.1.toNat c.testBit).getD i 0).testBit g.1.toNat) r).bind fun r26=>
      (wN F K g D ((NL.set s r.toNat par).list) r26 r).bind fun r27=>L k r27 (w64 ((i:Int) + 1)))
    (hend:∀ k s,L (k + 1) s ((prt g g.1.toNat c.testBit).length:Int)=fin s)
    (ih:∀ m∈prt g g.1.toNat c.testBit,∀ (par:Int) (ps:List Int),ps.length=g.1.toNat→wN F K g D ps (zp (m - 2 ^ (vX D g.1.toNat m).toNat).testBit g.1.toNat) par=some (.of (bfG g D K (m - 2 ^ (vX D g.1.toNat m).toNat) par ps)))
    (ps:List Int) (hps:ps.length=g.1.toNat) (hP:(prt g g.1.toNat c.testBit).length < F):L F (.of ps) 0=fin (.of (bfG g D (K + 1) c par ps)):=by
 have h8:=zT hg
 rw [bfG]
 refine wU (L:=fun k i s=>L k s i) (n:=(prt g g.1.toNat c.testBit).length)
  (fun i s=>s = .of (((prt g g.1.toNat c.testBit).take i).foldl (fun ps m=>bfG g D K (m - 2 ^ (vX D g.1.toNat m).toNat) (vX D g.1.toNat m) (ps.set (vX D g.1.toNat m).toNat par)) ps)) ?_ ?_ F _ hP rfl
 · intro k i s hi hI
   have hm:(prt g g.1.toNat c.testBit).getD i 0∈prt g g.1.toNat c.testBit:=vo hi
   obtain ⟨b,b1,b2,b3,b4,b5,b6,b7,b8⟩:=WJ (D:=D) hg hm
   have hlen:(((prt g g.1.toNat c.testBit).take i).foldl (fun ps m=>bfG g D K (m - 2 ^ (vX D g.1.toNat m).toNat) (vX D g.1.toNat m) (ps.set (vX D g.1.toNat m).toNat par)) ps).length=g.1.toNat:=
    U9 (P:=fun (b:List Int)=>b.length=g.1.toNat) _ _ hps fun b m _ hb=>by rw [K5];simpa using hb
   have hi8:(prt g g.1.toNat c.testBit).length≤256:=by
    have:∀ d p,(prt g d p).length≤d:=by
     intro d
     induction d with
     | zero=>intro p;simp [prt]
     | succ d ih=>
       intro p;rw [prt]
       cases ZH p g.1.toNat with
       | none=>simp
       | some x=>simp;exact ih _
    have:=this g.1.toNat c.testBit
    omega
   refine ⟨_,rfl,?_⟩
   rw [hstep k s i hi,zjF (by omega) hF b4 b5 hD,zc,b1]
   have e1:idx s.list (b:Int)=some (s.list.getD b 0):=zY (by rw [hI];simp only [NL.list];omega)
   rw [e1,zc,zdd (by omega) (by omega) b4 b2 b3,zc]
   have e2:(NL.set s b par).list=(((prt g g.1.toNat c.testBit).take i).foldl (fun ps m=>bfG g D K (m - 2 ^ (vX D g.1.toNat m).toNat) (vX D g.1.toNat m) (ps.set (vX D g.1.toNat m).toNat par)) ps).set b par:=by
    rw [hI];simp [NL.set,NL.list]
   have e3:=ih _ hm (b:Int) ((NL.set s b par).list) (by rw [e2,List.length_set,hlen])
   rw [b1,z5] at e3
   rw [z5,e3,zc,yk hi (by unfold Sm;omega),WG (d:=0) hi,List.foldl_append,List.foldl_cons,List.foldl_nil,b1,z5,← e2]
 · intro k s hI
   rw [hend k s,hI,List.take_length]
theorem zeI {g:Gr}:∀ d p,(prt g d p).length≤d:=by
 intro d
 induction d with
 | zero=>intro p;simp [prt]
 | succ d ih=>
   intro p;rw [prt]
   cases ZH p g.1.toNat with
   | none=>simp
   | some x=>simp;exact ih _
theorem QU {g:Gr} {c i:Nat} (hi:i < (prt g g.1.toNat c.testBit).length):idx ((prt g g.1.toNat c.testBit).map fun (m:Nat)=>zp m.testBit g.1.toNat) (i:Int)=some (zp ((prt g g.1.toNat c.testBit).getD i 0).testBit g.1.toNat):=by
 rw [zY (d:=[]) (by simpa using hi),zC,Y0,zX hi,zC,zX hi];rfl
theorem Nj {F:Nat} {g:Gr} {D:List Int} (hg:yz g=true) (hF:60≤F) (hG:g.2.length < F) (hs:Sm g.2.length) (hD:D.length=2 ^ g.1.toNat):∀ (k c:Nat) (par:Int) (ps:List Int),c < 2 ^ g.1.toNat→UW c < k→ps.length=g.1.toNat →
    wN F k g D ps (zp c.testBit g.1.toNat) par=some (.of (bfG g D k c par ps))
 | 0,c,_,_,_,h,_=>by omega
 | k + 1,c,par,ps,hc,hk,hps=>by
   have h8:=zT hg
   have hP:=zeI (g:=g) g.1.toNat c.testBit
   rw [wN]
   unfold Wj
   rw [zmE (by omega),zc,UU hg hF hG hs,zc]
   refine zm1 (L:=fun k2 s i=>ur F (wN F k) D par g ((prt g g.1.toNat c.testBit).map fun (m:Nat)=>zp m.testBit g.1.toNat) k2 s i) (fin:=fun s=>some s) (K:=k) hg hF hD (by omega) ?_ ?_ ?_ ps hps (by omega)
   · intro k2 s i hi
     simp only [ur]
     rw [wB,zt (show (i:Int) < ((prt g g.1.toNat c.testBit).length:Int) by omega),zl,QU hi,zc]
     rfl
   · intro k2 s
     simp only [ur]
     rw [wB,zL (by omega),zi]
   · intro m hm par ps hps
     obtain ⟨b,b1,b2,b3,b4,b5,b6,b7,b8⟩:=WJ (D:=D) hg hm
     rw [b1,z5]
     exact Nj hg hF hG hs hD k _ _ _ b6 (by omega) hps
theorem zdl {F:Nat} {g:Gr} {D:List Int} (hg:yz g=true) (hF:60≤F) (hD:D.length=2 ^ g.1.toNat):∀ (k c:Nat) (par:Int) (ps:List Int),c < 2 ^ g.1.toNat→UW c < k→ps.length=g.1.toNat →
    wR F ⟨yF g⟩ D k (c:Int) par ps=some (bfG g D k c par ps)
 | 0,c,_,_,_,h,_=>by omega
 | k + 1,c,par,ps,hc,hk,hps=>by
   have h8:=zT hg
   have hP:=zeI (g:=g) g.1.toNat c.testBit
   rw [wR]
   unfold Wh
   have hpe:=zdn (F:=F) (p:=c.testBit) hg (by omega)
   rw [vQ hc] at hpe
   rw [hpe,zc,bfG]
   refine wU (L:=fun k2 i s=>uy F ⟨yF g⟩ D (wR F ⟨yF g⟩ D k) par ((prt g g.1.toNat c.testBit).map fun (m:Nat)=>(m:Int)) k2 s i) (n:=(prt g g.1.toNat c.testBit).length)
    (fun i s=>s=((prt g g.1.toNat c.testBit).take i).foldl (fun ps m=>bfG g D k (m - 2 ^ (vX D g.1.toNat m).toNat) (vX D g.1.toNat m) (ps.set (vX D g.1.toNat m).toNat par)) ps) ?_ ?_ F _ (by omega) rfl
   · intro k2 i s hi hI
     have hm:(prt g g.1.toNat c.testBit).getD i 0∈prt g g.1.toNat c.testBit:=vo hi
     obtain ⟨b,b1,b2,b3,b4,b5,b6,b7,b8⟩:=WJ (D:=D) hg hm
     have hlen:s.length=g.1.toNat:=by
      rw [hI]
      exact U9 (P:=fun (b:List Int)=>b.length=g.1.toNat) _ _ hps fun b m _ hb=>by rw [K5];simpa using hb
     have hget:idx ((prt g g.1.toNat c.testBit).map fun (m:Nat)=>(m:Int)) (i:Int)=some (((prt g g.1.toNat c.testBit).getD i 0:Nat):Int):=by
      rw [zY (d:=0) (by simpa using hi),zC,Y0,zX hi,zC,zX hi];rfl
     have ih:=zdl hg hF hD k ((prt g g.1.toNat c.testBit).getD i 0 - 2 ^ b) (b:Int) (s.set b par) b6 (by omega) (by rw [List.length_set,hlen])
     refine ⟨_,rfl,?_⟩
     simp only [uy]
     rw [wB,zt (show (i:Int) < ((prt g g.1.toNat c.testBit).length:Int) by omega),zl,hget,zc,zi8 (by omega) hF b4 b5 hD,zc,b1,zY (d:=0) (by omega),zc,xB (by omega),zc,b8,z5,ih,zc,yk hi (by unfold Sm;omega),WG (d:=0) hi,List.foldl_append,List.foldl_cons,List.foldl_nil,b1,z5,← hI]
   · intro k2 s hI
     simp only [uy]
     rw [wB,zL (show ¬ ((prt g g.1.toNat c.testBit).length:Int) < ((prt g g.1.toNat c.testBit).length:Int) by omega),zi,hI,List.take_length]
theorem znY {g:Gr} {ds:List Int} (h:TdI g (2 ^ g.1.toNat - 1) ds):ds=tdT g (2 ^ g.1.toNat - 1):=by
 have hpow:=yi g.1.toNat
 apply List.ext_getElem?
 intro j
 by_cases hj:j < 2 ^ g.1.toNat
 · have:=h.2.1 j (by omega)
   rw [zC,zC,zX (by rw [h.1];exact hj),zX (by rw [Zl];omega)] at this
   rw [zX (by rw [h.1];exact hj),zX (by rw [Zl];omega)]
   simpa using this
 · rw [uh (by rw [h.1];omega),uh (by rw [Zl];omega)]
def Yu (g:Gr):List Int:=bfG g (tdT g (2 ^ g.1.toNat - 1)) 300 (mkm (fun _=>true) g.1.toNat) (-1) (List.replicate g.1.toNat 0)
theorem LM {g:Gr}:(Yu g).length=g.1.toNat:=by unfold Yu;rw [K5];simp
theorem zkQ {F:Nat} {g:Gr} (hg:yz g=true) (hF:300≤F) (hG:g.2.length < F) (hs:Sm g.2.length):WO F g=some (Yu g):=by
 have h8:=zT hg
 have hpow:=yi g.1.toNat
 have hgn:(g.1.toNat:Int)=g.1:=by omega
 have hc:mkm (fun _=>true) g.1.toNat < 2 ^ g.1.toNat:=Xx
 have hpc:=Wp (n:=g.1.toNat) (m:=mkm (fun _=>true) g.1.toNat) (by omega) hc
 have hD:(tdT g (2 ^ g.1.toNat - 1)).length=2 ^ g.1.toNat:=by rw [Zl];omega
 unfold WO
 have hmk:mkN g.1 (0:Int)=some (List.replicate g.1.toNat 0):=by rw [← hgn];exact Uh (by omega)
 have hall:zp (fun j=>decide (j < g.1.toNat)) g.1.toNat=zp (mkm (fun _=>true) g.1.toNat).testBit g.1.toNat:=by
  refine wS fun j hj=>?_
  rw [yj];simp
 rw [KK hg hF hG hs,zc,hmk,zc,ze3 hg (by omega),zc,hall]
 have hP:=zeI (g:=g) g.1.toNat (mkm (fun _=>true) g.1.toNat).testBit
 have key:Lw F g (tdT g (2 ^ g.1.toNat - 1)) (List.replicate g.1.toNat 0) (zp (mkm (fun _=>true) g.1.toNat).testBit g.1.toNat) (-1)=some (bfG g (tdT g (2 ^ g.1.toNat - 1)) (F + 1) (mkm (fun _=>true) g.1.toNat) (-1) (List.replicate g.1.toNat 0)):=by
  unfold Lw
  obtain ⟨F',hF'⟩:∃ F',F=F' + 1:=⟨F - 1,by omega⟩
  have hr:Zk F F=Zk F (F' + 1):=by rw [← hF']
  rw [hr,Zk]
  unfold U8
  rw [zmE (by simp;omega),zc,UU hg (by omega) hG hs,zc]
  refine zm1 (L:=fun k2 s i=>ZW F (Zk F F') (tdT g (2 ^ g.1.toNat - 1)) (-1) g ((prt g g.1.toNat (mkm (fun _=>true) g.1.toNat).testBit).map fun (m:Nat)=>zp m.testBit g.1.toNat) k2 s i) (fin:=fun s=>some s.list) (K:=F) hg (by omega) hD (by omega) ?_ ?_ ?_ _ (by simp) (by omega)
  · intro k2 s i hi
    simp only [ZW,XD]
    rw [wB,zt (show (i:Int) < ((prt g g.1.toNat (mkm (fun _=>true) g.1.toNat).testBit).length:Int) by omega),zl,QU hi,zc]
    rfl
  · intro k2 s
    simp only [ZW]
    rw [wB,zL (by omega),zi]
  · intro m hm par ps hps
    obtain ⟨b,b1,b2,b3,b4,b5,b6,b7,b8⟩:=WJ (D:=tdT g (2 ^ g.1.toNat - 1)) hg hm
    rw [b1,z5]
    exact Nj hg (by omega) hG hs hD F _ _ _ b6 (by omega) hps
 rw [key,zc,K1 hg (F + 1) 300 _ _ _ (by omega) (by omega)]
 rfl
theorem zko {F:Nat} {g:Gr} (hg:yz g=true) (hF:300≤F):∃ ds,xt F ⟨yF g⟩=some ds∧YH F ⟨yF g⟩=some (g.1.toNat:Int)∧mkN (g.1.toNat:Int) (0:Int)=some (List.replicate g.1.toNat 0) ∧
    xa F ⟨yF g⟩=some ((mkm (fun _=>true) g.1.toNat:Nat):Int)∧U5 F ⟨yF g⟩ ds ((mkm (fun _=>true) g.1.toNat:Nat):Int) (-1) (List.replicate g.1.toNat 0)=some (Yu g):=by
 have h8:=zT hg
 have hpow:=yi g.1.toNat
 have hc:mkm (fun _=>true) g.1.toNat < 2 ^ g.1.toNat:=Xx
 have hpc:=Wp (n:=g.1.toNat) (m:=mkm (fun _=>true) g.1.toNat) (by omega) hc
 have hD:(tdT g (2 ^ g.1.toNat - 1)).length=2 ^ g.1.toNat:=by rw [Zl];omega
 obtain ⟨ds,h1,h2⟩:=KI (F:=F) hg hF
 have e:=znY h2
 refine ⟨ds,h1,?_,Uh (by omega),zly hg,?_⟩
 · unfold YH;rw [vz]
 · unfold U5
   rw [e,zdl hg (by omega) hD F _ _ _ hc (by omega) (by simp),K1 hg F 300 _ _ _ (by omega) (by omega)]
   rfl
theorem zhC {F:Nat} {xs:List Int} (hF:xs.length < F) (hs:Sm xs.length):Wl F xs xs=some true:=by
 unfold Wl
 rw [bne_self_eq_false,zi]
 rw [Zv (L:=fun k i=>YI F xs xs k i) (n:=xs.length) (p:=fun _=>true) (bad:=some false) (fin:=some true) ?_ ?_ F hF]
 · have:vn (fun _=>true) xs.length=true:=xj.2 fun _ _=>rfl
   rw [this];rfl
 · intro k i hi
   simp only [YI]
   rw [zt (by omega),zl,zY (d:=0) hi,zc,zc,bne_self_eq_false,zi,zl,yk hi hs]
 · intro k
   simp only [YI]
   rw [zL (by omega),zi]
theorem zmd {F n:Nat} {code:LB} (hl:(code.length:Int)≤65536) (hc:∀ y∈code,0≤y.v∧y.v≤255):∃ c2,J0 F code (n:Int)=some c2∧∀ y∈c2,0≤y.v∧y.v≤255:=by
 have key:∀ a:Nat,a≤code.length→∃ c2,Wy F code (a:Int)=some c2∧∀ y∈c2,0≤y.v∧y.v≤255:=by
  intro a ha
  unfold Wy
  have e:sub code (a:Int) (code.length:Int)=some (code.drop a):=by
   unfold sub
   rw [if_pos ⟨by omega,by omega,by omega⟩]
   have:List.take (code.length - a) (code.drop a)=code.drop a:=List.take_of_length_le (by rw [List.length_drop];omega)
   simpa using this
  have hL:(code.drop a).length≤65536:=by simp;omega
  have e1:uQ ([]:LB) (code.drop a)=some ([]++code.drop a):=Uz (by simp;omega)
  have e2:uQ ([]++code.drop a) [(Kd.mk (IntKind.u8.wrap (a:Int)):Kd .u8)]=some (([]++code.drop a)++[(Kd.mk (IntKind.u8.wrap (a:Int)):Kd .u8)]):=Uz (by simp;omega)
  rw [e,zc,e1,zc,e2,zc]
  refine ⟨_,rfl,fun y hy=>?_⟩
  rw [ZD,zN] at hy
  rcases hy with hy | hy
  · exact hc y (List.mem_of_mem_drop hy)
  · rw [wC] at hy
    subst hy
    show 0≤IntKind.u8.wrap (a:Int)∧IntKind.u8.wrap (a:Int)≤255
    simp only [IntKind.wrap,IntKind.bits,IntKind.signed,vf]
    have e1:((2:Int) ^ 8)=256:=by decide
    simp only [e1]
    split
    · rename_i hh;cases hh
    · omega
 unfold J0
 by_cases h:(n:Int) > (code.length:Int)
 · rw [zt h,zl];exact key _ (yP _)
 · rw [zL h,zi];exact key n (by omega)
theorem zlV {F:Nat} {g:Gr} (hg:yz g=true) (hF:300≤F) (hG:g.2.length < F) (hs:Sm g.2.length):YC F g=some (.of (Yu g)):=by
 have h8:=zT hg
 have hpow:=yi g.1.toNat
 have hgn:(g.1.toNat:Int)=g.1:=by omega
 have hc:mkm (fun _=>true) g.1.toNat < 2 ^ g.1.toNat:=Xx
 have hpc:=Wp (n:=g.1.toNat) (m:=mkm (fun _=>true) g.1.toNat) (by omega) hc
 have hD:(tdT g (2 ^ g.1.toNat - 1)).length=2 ^ g.1.toNat:=by rw [Zl];omega
 unfold YC
 have hmk:mkN g.1 (0:Int)=some (List.replicate g.1.toNat 0):=by rw [← hgn];exact Uh (by omega)
 have hall:zp (fun j=>decide (j < g.1.toNat)) g.1.toNat=zp (mkm (fun _=>true) g.1.toNat).testBit g.1.toNat:=by
  refine wS fun j hj=>?_
  rw [yj];simp
 rw [KK hg hF hG hs,zc,hmk,zc,ze3 hg (by omega),zc,hall]
 unfold XD
 rw [Nj hg (by omega) hG hs hD F _ _ _ hc (by omega) (by simp),K1 hg F 300 _ _ _ (by omega) (by omega)]
 rfl
theorem zf8 {o:NL Int} {i:Nat} {v:Int}:(NL.set o i v).list.length=o.list.length:=by cases o <;> simp [NL.set,NL.list]
theorem zlj {F:Nat} {n:Int} (h0:0≤n) (h8:n≤8) (hF:20≤F):uY F n=some ((List.range n.toNat).map fun (j:Nat)=>(j:Int)):=by
 unfold uY
 refine wU (L:=fun k i s=>vG F n k s i) (n:=n.toNat) (fun i s=>s=(List.range i).map fun (j:Nat)=>(j:Int)) ?_ ?_ F [] (by omega) rfl
 · rintro k i s hi rfl
   refine ⟨_,rfl,?_⟩
   simp only [vG]
   rw [zt (by omega),zl,Ju (by simp;omega),zc,yk (n:=n.toNat) hi (by unfold Sm;omega),Xw,List.map_append]
   rfl
 · rintro k s rfl
   simp only [vG]
   rw [zL (by omega),zi]
theorem QH {F:Nat} {code:LB} (hF:500≤F) (hc:∀ y∈code,0≤y.v∧y.v≤255):∃ g l,vE F code=some (g,l)∧g.2.length≤400∧l.length≤20:=by
 obtain ⟨g,c,e,hg,hck⟩:=zaw (F:=F) hF hc
 have hs:Sm g.2.length:=by unfold Sm;omega
 have hG:g.2.length < F:=by omega
 unfold vE
 rw [e,zc]
 have jt:∀ (r3:NL Int×Bool) (c':CU) (m:Nat),Ck c'.a c'.b m→m≤9000→∃ g' l,yZ F (g,c) r3 c'.a c'.b c'.c.v true=some (g',l)∧g'.2.length≤400∧l.length≤20:=by
  intro r3 c' m hk hm
  obtain ⟨l,c2,e2,h3,_⟩:=zeQ (F:=F) (m:=m) (g:=g) hF (by omega) (min g.1 8).toNat 0 F c'.a c'.b c'.c.v [] (by omega) (by omega) hk rfl
  unfold yZ
  rw [zl]
  have e2':uH F (Cu.mk (S3.mk c'.a c'.b (Kd.mk c'.c.v:Kd .u64)):Cu (S3 (List (Kd .u8)) Int (Kd .u64))) (g,c).1=some (l,c2):=e2
  rw [e2',zc]
  exact ⟨g,l,rfl,hg,h3⟩
 have fin:∀ (r3:NL Int×Bool),r3.1.list.length≤8→(r3.2=true→r3.1.list.length=g.1.toNat∧0≤g.1∧g.1≤8)→∃ g' l,(bif (!r3.2) then yZ F (g,c) r3 (g,c).2.a (g,c).2.b (g,c).2.c.v true else
     bif ((r3.1.list.length:Int) == 0) then yZ F (g,c) r3 (g,c).2.a (g,c).2.b (g,c).2.c.v true
     else (xO F (Cu.mk (S3.mk (g,c).2.a (g,c).2.b (Kd.mk (g,c).2.c.v:Kd .u64)):Cu (S3 (List (Kd .u8)) Int (Kd .u64))) 8).bind fun r_33=>
      yZ F (g,c) r3 r_33.2.a r_33.2.b r_33.2.c.v r_33.1)=some (g',l)∧g'.2.length≤400∧l.length≤20:=by
  intro r3 h8 hr
  cases hb:r3.2 with
  | false=>exact jt r3 c 5000 hck (by omega)
  | true=>
    rw [y0,zi]
    obtain ⟨hlen,hg0,hg8⟩:=hr hb
    by_cases h0:((r3.1.list.length:Int) == 0)=true
    · rw [h0];exact jt r3 c 5000 hck (by omega)
    · have h0':((r3.1.list.length:Int) == 0)=false:=by simpa using h0
      rw [h0',zi]
      have hpos:0 < r3.1.list.length:=by
       rcases Nat.eq_zero_or_pos r3.1.list.length with h | h
       · rw [h] at h0';simp at h0'
       · exact h
      obtain ⟨r,c1,e1,k1⟩:=zb5 (F:=F) (c:=cu c.a c.b c.c.v) (n:=8) hck (by omega)
      have e1':xO F (Cu.mk (S3.mk (g,c).2.a (g,c).2.b (Kd.mk (g,c).2.c.v:Kd .u64)):Cu (S3 (List (Kd .u8)) Int (Kd .u64))) 8=some (r,c1):=e1
      rw [e1',zc]
      cases r with
      | true=>exact jt r3 c1 _ k1 (by omega)
      | false=>
        have j1:∀ o:NL Int,o.list.length≤20→∃ g' l,xP F (g,c) o=some (g',l)∧g'.2.length≤400∧l.length≤20:=fun o ho=>⟨g,o.list,rfl,hg,ho⟩
        show ∃ g' l,yZ F (g,c) r3 c1.a c1.b c1.c.v false=some (g',l)∧_
        unfold yZ
        rw [zi]
        obtain ⟨p,c2,e2,p0,p1,_,k2⟩:=Zd (F:=F) (c:=cu c1.a c1.b c1.c.v) (n:=5) k1 (by omega)
        have e2':yc F (Cu.mk (S3.mk c1.a c1.b (Kd.mk c1.c.v:Kd .u64)):Cu (S3 (List (Kd .u8)) Int (Kd .u64))) 5=some (p,c2):=e2
        rw [e2',zc]
        cases (p,c2).1 == 0 with
        | true=>
          rw [zl]
          obtain ⟨q,c3,e3,q0,q1,_,k3⟩:=Zd (F:=F) (c:=cu c2.a c2.b c2.c.v) (n:=(r3.1.list.length:Int)) k2 (by omega)
          have e3':yc F (Cu.mk (S3.mk (p,c2).2.a (p,c2).2.b (Kd.mk (p,c2).2.c.v:Kd .u64)):Cu (S3 (List (Kd .u8)) Int (Kd .u64))) (r3.1.list.length:Int)=some (q,c3):=e3
          rw [e3',zc]
          obtain ⟨z,c4,e4,_,_,_,k4⟩:=Zd (F:=F) (c:=cu c3.a c3.b c3.c.v) (n:=w64 (g.1 + 1)) k3 (by omega)
          have e4':yc F (Cu.mk (S3.mk (q,c3).2.a (q,c3).2.b (Kd.mk (q,c3).2.c.v:Kd .u64)):Cu (S3 (List (Kd .u8)) Int (Kd .u64))) (w64 ((g,c).1.1 + 1))=some (z,c4):=e4
          rw [e4',zc]
          have hq:=q1 (by omega)
          obtain ⟨i,hi⟩:∃ i:Nat,q=i:=⟨q.toNat,by omega⟩
          subst hi
          have e5:idx r3.1.list ((i:Int),c3).1=some (r3.1.list[i]'(by omega)):=Uj (by omega)
          rw [e5,zc]
          exact j1 _ (by rw [zf8];omega)
        | false=>
          rw [zi]
          cases (p,c2).1 == 1 with
          | true=>
            rw [zl]
            have hn:uY F (g,c).1.1=some ((List.range g.1.toNat).map fun (j:Nat)=>(j:Int)):=zlj hg0 hg8 (by omega)
            rw [hn,zc]
            obtain ⟨s',h5,e5⟩:=U2 (L:=fun k i (s:NL Int)=>wl F (g,c) ((List.range g.1.toNat).map fun (j:Nat)=>(j:Int)) k s i) (n:=g.1.toNat) (fin:=fun s=>xP F (g,c) s)
             (fun i s=>s.list.length=g.1.toNat) (by
               intro k i s hi hI
               simp only [wl]
               rw [wB,List.length_range,zt (by omega),zl]
               have e6:idx s.list (i:Int)=some (s.list[i]'(by omega)):=Uj (by omega)
               rw [e6,zc,yk (n:=g.1.toNat) hi (by unfold Sm;omega)]
               exact ⟨_,by rw [zf8];exact hI,rfl⟩) (by
               intro k s _
               simp only [wl]
               rw [wB,List.length_range,zL (by omega),zi]) F r3.1 (by omega) hlen
            rw [e5];exact j1 s' (by omega)
          | false=>
            rw [zi]
            cases (p,c2).1 == 2 with
            | true=>
              rw [zl,Ju (by simp;omega),zc]
              exact j1 (.of _) (by show (r3.1.list++[(-1:Int)]).length≤20;simp;omega)
            | false=>exact j1 r3.1 (by omega)
 cases hgd:yz g with
 | false=>
   have e3:wu F (g,c).1=some (.of [],false):=by
    unfold wu
    rw [XG hG hs,zc,hgd];rfl
   rw [e3,zc]
   exact fin (.of [],false) (by simp [NL.list]) (fun h=>by cases h)
 | true=>
   have h8:=zT hgd
   have e3:wu F (g,c).1=some (.of (Yu g),true):=by
    unfold wu
    rw [XG hG hs,zc,hgd,y0,zi,zlV hgd (by omega) hG hs];rfl
   rw [e3,zc]
   have hbl:(NL.of (Yu g)).list.length=g.1.toNat:=LM
   exact fin (.of (Yu g),true) (by rw [hbl];omega) (fun _=>⟨hbl,h8.1,h8.2⟩)
theorem Qv {F:Nat} {code:LB} (hF:500≤F) (hc:∀ y∈code,0≤y.v∧y.v≤255):∃ g k,wG F code=some (g,k)∧g.2.length≤400∧-1≤k∧k≤9:=by
 obtain ⟨g,c,e,hg,hck⟩:=zaw (F:=F) hF hc
 unfold wG
 rw [e,zc]
 obtain ⟨p,c2,e2,p0,p1,_,k2⟩:=Zd (F:=F) (c:=cu c.a c.b c.c.v) (n:=24) hck (by omega)
 have e2':yc F (Cu.mk (S3.mk (g,c).2.a (g,c).2.b (Kd.mk (g,c).2.c.v:Kd .u64)):Cu (S3 (List (Kd .u8)) Int (Kd .u64))) 24=some (p,c2):=e2
 rw [e2',zc]
 have hp:=p1 (by omega)
 have hdiv:0≤p.tdiv 11∧p.tdiv 11≤2:=by
  rw [Int.tdiv_eq_ediv_of_nonneg p0];omega
 obtain ⟨m,hm⟩:∃ m:Nat,6 + p.tdiv 11=m:=⟨(6 + p.tdiv 11).toNat,by omega⟩
 have ew:w64 (6 + w64 ((p,c2).1.tdiv 11))=(m:Int):=by
  show w64 (6 + w64 (p.tdiv 11))=_
  rw [xp (x:=p.tdiv 11) (by omega) (by omega),xp (by omega) (by omega),hm]
 obtain ⟨ys,s1,s2⟩:=zeS (xs:=([0,1,2,3,4,8,9,(-1)]:List Int)) (a:=0) (b:=m) (by omega) (by simp;omega)
 have hys:∀ y∈ys,y∈([0,1,2,3,4,8,9,(-1)]:List Int):=by
  intro y hy
  unfold sub at s1
  split at s1
  · have:=Option.some.inj s1
    rw [← this] at hy
    exact List.mem_of_mem_drop (List.mem_of_mem_take hy)
  · cases s1
 have s1':sub ([0,1,2,3,4,8,9,(-1)]:List Int) 0 (m:Int)=some ys:=s1
 rw [ew,s1',zc]
 obtain ⟨k,c3,e3,hk,_⟩:=JP (F:=F) (c:=cu c2.a c2.b c2.c.v) (xs:=ys) k2 (by omega) (by omega)
 have e3':y7 F (Cu.mk (S3.mk (p,c2).2.a (p,c2).2.b (Kd.mk (p,c2).2.c.v:Kd .u64)):Cu (S3 (List (Kd .u8)) Int (Kd .u64))) ys=some (k,c3):=e3
 rw [e3',zc]
 refine ⟨g,k,rfl,hg,?_⟩
 have:=hys k hk
 simp at this
 omega
end Go.Zq
