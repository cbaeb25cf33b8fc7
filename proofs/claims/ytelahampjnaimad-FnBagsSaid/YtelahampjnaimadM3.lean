/- Plain mathematics: what the functions answer (part 3). Conditions: stated in each theorem. -/
import Derived.Test.YtelahampjnaimadM2
import Derived.Test.YtelahampjnaimadM1
set_option linter.unusedVariables false
set_option linter.unusedSimpArgs false
namespace Go.Zq
theorem MJ {F:Nat} {a b:Int}:ZU F a b=some (min a b):=by
 unfold ZU
 by_cases h:a < b
 · simp [h];omega
 · simp [h];omega
theorem NN {g:Gr} {a b i:Nat}:uT g a b i=true↔((g.2.getD i (0,0)).1=a∧(g.2.getD i (0,0)).2=b)∨((g.2.getD i (0,0)).1=b∧(g.2.getD i (0,0)).2=a):=by
 unfold uT
 simp only [xm,zq,yH]
theorem Zb {n:Int} {l:List Int} (ho:wl n l=true) (h0:0≤n) {i x:Nat} (hi:i < l.length) (hx:l.getD i 0=(x:Int)):xz l i x=false:=by
 have hl:=vf ho
 unfold xz
 refine zD fun hm=>?_
 have hc:=(WA n.toNat (l.take i++l.drop (i + 1)) (fun j hj=>by
  have:=WD ho (x:=(j:Int)) (by omega) (by omega)
  rw [← Zz i l,zK] at this
  rcases this with h | h
  · exact List.mem_append_left _ h
  · rw [List.drop_eq_getElem_cons hi,z4] at h
    rcases h with h | h
    · rw [zW,yD hi,yI] at hx
      rw [h,hx]
      exact List.mem_append_left _ hm
    · exact List.mem_append_right _ h)).1
 rw [Yl,Xl,List.length_drop] at hc
 omega
theorem ziO {l:List Int} {s t j:Nat} (h:s≤t) (hs:xz l t j=false):xz l s j=false:=by
 unfold xz at *
 refine zD fun hm=>?_
 have:=of_decide_eq_false hs
 exact this (List.take_subset_take_left l h hm)
def zai (g:Gr) (l:List Int) (i:Nat):List Int:=y5 (fun j=>frt g (xz l i) j || decide ((j:Int)=l.getD i 0)) g.1.toNat
def wy (g:Gr) (l:List Int) (m:Nat):List (List Int):=(List.range m).map (zai g l)
theorem LY {g:Gr} {l:List Int} {m:Nat}:wy g l (m + 1)=wy g l m++[zai g l m]:=by simp [wy,List.range_succ]
theorem Zi {g:Gr} {l:List Int} {m:Nat}:(wy g l m).length=m:=by simp [wy]
theorem vU {α:Type} {xs ys:List α} (h:xs.length + ys.length≤1099511627776):vW xs ys=some (xs++ys):=by
 unfold vW
 rw [if_pos (by simpa using h)]
theorem KP {l:List Int} {i j a:Nat} (h:i≤j) (hp:xz l j a=false):xz l i a=false:=by
 simp only [xz,decide_eq_false_iff_not] at hp ⊢
 exact fun hm=>hp (List.take_subset_take_left l h hm)
theorem zh8 {g:Gr} {l:List Int} {i a:Nat} (hg:xl g=true) (ho:wl g.1 l=true) (hi:i≤l.length) :
    wi (fun y=>adj g a y && !xz l i y) g.1.toNat=wi (fun j=>decide (i≤j) && adj g a (l.getD j 0).toNat) l.length:=by
 have h8:=yx hg
 have hr:=Yh ho h8.1
 rw [xe,wq,wq]
 constructor
 · rintro ⟨y,hy,h⟩
   simp only [zq,xn] at h
   have hm:=WD ho (x:=(y:Int)) (by omega) (by omega)
   obtain ⟨j,hj,e⟩:=uP.1 hm
   refine ⟨j,hj,?_⟩
   have hij:i≤j:=by
    rcases uZ j i with hlt | hge
    · exfalso
      have:xz l i y=true:=by
       simp only [xz,z9]
       rw [← e,List.mem_take_iff_getElem]
       exact ⟨j,by omega,rfl⟩
      rw [this] at h;cases h.2
    · exact hge
   simp only [zW,hj,yD,yI,e,xD,h.1,Bool.and_true,z9]
   exact hij
 · rintro ⟨j,hj,h⟩
   simp only [zq,z9] at h
   have hy:=hr _ (xr (d:=0) hj)
   refine ⟨(l.getD j 0).toNat,by omega,?_⟩
   have hf:=Zb ho h8.1 (x:=(l.getD j 0).toNat) hj (by omega)
   rw [h.2,KP h.1 hf]
   rfl
theorem zbC {F:Nat} {g:Gr} {l:List Int} (hg:xl g=true) (ho:wl g.1 l=true) (hF:20≤F) (hG:g.2.length < F) (hs:Sm g.2.length):ZK F g l=some (wy g l l.length):=by
 have h8:=yx hg
 have hlen:=vf ho
 have hr:=Yh ho h8.1
 have hnat:∀ i,i < l.length→∃ a:Nat,l.getD i 0=a∧a < g.1.toNat:=by
  intro i hi
  have:=hr _ (xr (d:=0) hi)
  exact ⟨(l.getD i 0).toNat,by omega,by omega⟩
 unfold ZK
 refine wQ (L:=fun k i s=>yV F l g k s i) (n:=l.length) (fun i s=>s=wy g l i) ?_ ?_ F _ (by omega) (by simp [wy])
 · rintro k i s hi rfl
   refine ⟨_,rfl,?_⟩
   obtain ⟨x,hx,hxn⟩:=hnat i hi
   let Q:Nat→Nat→Bool:=fun m a=>(xz l m a && wi (fun j=>decide (i≤j) && adj g a (l.getD j 0).toNat) l.length) || a == x
   simp only [yV]
   rw [zt (show (i:Int) < (l.length:Int) by omega),zn,z8 (d:=0) hi,zc,hx]
   have h0:[(x:Int)]=y5 (Q 0) g.1.toNat:=by
    have h1:=zcx (F:=F) (n:=g.1.toNat) (x:=x) (p:=fun _=>false) (by omega) hxn hF
    have hz:y5 (fun _=>false) g.1.toNat=[]:=List.eq_nil_of_length_eq_zero (by rw [uu];simp [xI])
    rw [hz,Qu (by simp;omega) (by simp)] at h1
    have h2:Mg [] (x:Int)=[(x:Int)]:=by simp [Mg]
    rw [h2] at h1
    simp only [zf] at h1
    rw [h1]
    refine xQ fun a _=>?_
    show (false || a == x)=((xz l 0 a && _) || a == x)
    have:xz l 0 a=false:=by simp [xz]
    rw [this];rfl
   rw [h0]
   refine wQ (L:=fun k2 m s=>xy F l g (wy g l i) (i:Int) (yV F l g k) k2 s m) (n:=i) (fun m s=>s=y5 (Q m) g.1.toNat) ?_ ?_ F _ (by omega) rfl
   · rintro k2 m s hm rfl
     refine ⟨_,rfl,?_⟩
     obtain ⟨a,ha,han⟩:=hnat m (by omega)
     simp only [xy]
     rw [zt (show (m:Int) < (i:Int) by omega),zn]
     let P:Nat→Nat→Bool:=fun j b=>Q m b || (b == a && wi (fun t=>decide (i≤t) && adj g a (l.getD t 0).toNat) j)
     have inner:=wQ (L:=fun k3 j s=>xu F l g (wy g l i) (i:Int) (m:Int) (yV F l g k) (xy F l g (wy g l i) (i:Int) (yV F l g k) k2) k3 s ((i:Int) + j)) (n:=l.length - i)
      (r:=xy F l g (wy g l i) (i:Int) (yV F l g k) k2 (y5 (Q (m + 1)) g.1.toNat) ((m + 1:Nat):Int)) (fun j s=>s=y5 (P (i + j)) g.1.toNat) (by
        rintro k3 j s hj rfl
        refine ⟨_,rfl,?_⟩
        have hij:i + j < l.length:=by omega
        obtain ⟨b,hb,hbn⟩:=hnat (i + j) hij
        simp only [xu,ur]
        have hcast:(i:Int) + (j:Int)=((i + j:Nat):Int):=by omega
        rw [hcast,zt (show ((i + j:Nat):Int) < (l.length:Int) by omega),zn,z8 (d:=0) (show m < l.length by omega),zc,z8 (d:=0) hij,zc,ha,hb,QL hG hs,zc,zc,zcx (by omega) han hF,zc,yh hij (by unfold Sm;omega)]
        have hnext:∀ c,P (i + (j + 1)) c=(P (i + j) c || (c == a && adj g a b)):=by
         intro c
         show (Q m c || (c == a && wi _ (i + j + 1)))=((Q m c || (c == a && wi _ (i + j))) || (c == a && adj g a b))
         have hstep:wi (fun t=>decide (i≤t) && adj g a (l.getD t 0).toNat) (i + j + 1)=(wi (fun t=>decide (i≤t) && adj g a (l.getD t 0).toNat) (i + j) || adj g a b):=by
          simp only [wi]
          rw [hb,xD,zt (show i≤i + j by omega),yg]
         rw [hstep]
         cases c == a <;> simp [Bool.or_assoc]
        rw [show ((i:Int) + ((j + 1:Nat):Int))=((i + j + 1:Nat):Int) by omega]
        cases h1:adj g a b with
        | true=>
          rw [zn]
          congr 1
          refine xQ fun c _=>?_
          rw [hnext,h1,Bool.and_true]
        | false=>
          rw [zj]
          congr 1
          refine xQ fun c _=>?_
          rw [hnext,h1,Bool.and_false,wt])
      (by
        rintro k3 s rfl
        simp only [xu]
        rw [zD (show ¬ (i:Int) + ((l.length - i:Nat):Int) < (l.length:Int) by omega),zj,yh (show m < l.length by omega) (by unfold Sm;omega)]
        congr 1
        refine xQ fun c _=>?_
        show (Q m c || (c == a && wi _ (i + (l.length - i))))=((xz l (m + 1) c && _) || c == x)
        rw [show i + (l.length - i)=l.length by omega,XS (x:=a) (by omega) ha]
        show (((xz l m c && _) || c == x) || (c == a && _))=_
        by_cases e:c=a
        · subst e
          simp only [Xj,Bool.or_true,yg]
          cases xz l m c <;> cases wi (fun j=>decide (i≤j) && adj g c (l.getD j 0).toNat) l.length <;> cases c == x <;> rfl
        · have:(c == a)=false:=by simpa using e
          rw [this,wv,wt,wt])
      F (y5 (Q m) g.1.toNat) (by omega) (by
       refine xQ fun c _=>?_
       show Q m c=(Q m c || (c == a && wi _ i))
       have:wi (fun t=>decide (i≤t) && adj g a (l.getD t 0).toNat) i=false:=by
        rw [Bool.eq_false_iff,ne_eq,wq]
        rintro ⟨t,ht,h⟩
        simp only [zq,z9] at h
        omega
       rw [this,Bool.and_false,wt])
     simpa using inner
   · rintro k2 s rfl
     simp only [xy]
     rw [zD (show ¬ (i:Int) < (i:Int) by omega),zj,vU (by simp [Zi];omega),zc,yh hi (by unfold Sm;omega),LY]
     congr 3
     refine xQ fun c hc=>?_
     show ((xz l i c && _) || c == x)=(frt g (xz l i) c || decide ((c:Int)=l.getD i 0))
     unfold frt
     rw [zh8 hg ho (by omega),hx]
     congr 1
     by_cases e:c=x
     · subst e;simp
     · have h1:(c == x)=false:=by simpa using e
       rw [h1,eq_comm,decide_eq_false_iff_not];omega
 · rintro k s rfl
   simp only [yV]
   rw [zD (show ¬ (l.length:Int) < (l.length:Int) by omega),zj]
theorem zeV {g:Gr} {l:List Int} {i:Nat}:(zai g l i).length≤g.1.toNat:=zaZ
def X2 {α:Type} (p:α→Bool):List α→Nat
 | []=>0
 | x :: xs=>if p x then X2 p xs + 1 else 0
theorem Q9 {α:Type} {p:α→Bool}:∀ {xs:List α},X2 p xs≤xs.length
 | []=>yM _
 | x :: xs=>by
   have:=Q9 (p:=p) (xs:=xs)
   simp only [X2,Xr]
   split <;> omega
theorem zdp {α:Type} {p:α→Bool}:∀ {xs:List α} {i:Nat} (h:i < X2 p xs) (h2:i < xs.length),p xs[i]=true
 | [],i,h,_=>by simp [X2] at h
 | x :: xs,i,h,h2=>by
   simp only [X2] at h
   split at h
   · rename_i hx
     cases i with
     | zero=>exact hx
     | succ i=>exact zdp (xs:=xs) (by omega) (by simpa using h2)
   · omega
theorem zeX {α:Type} {p:α→Bool}:∀ {xs:List α} (h:X2 p xs < xs.length),p xs[X2 p xs]=false
 | [],h=>by simp [X2] at h
 | x :: xs,h=>by
   by_cases hx:p x=true
   · have e:X2 p (x :: xs)=X2 p xs + 1:=by simp [X2,hx]
     have h':X2 p xs < xs.length:=by rw [e] at h;simpa using h
     have:=zeX (p:=p) (xs:=xs) h'
     simp only [e,List.getElem_cons_succ]
     exact this
   · have e:X2 p (x :: xs)=0:=by simp [X2,hx]
     simp only [e,List.getElem_cons_zero]
     simpa using hx
def zij (xs:List (Int×Int)) (e:Int×Int):List (Int×Int):=xs.take (X2 (fun z=>bef z e) xs)++e :: xs.drop (X2 (fun z=>bef z e) xs)
theorem ME {xs:List (Int×Int)} {e:Int×Int}:(zij xs e).length=xs.length + 1:=by
 unfold zij
 have:=Q9 (p:=fun z=>bef z e) (xs:=xs)
 simp;omega
theorem LT {F:Nat} {xs:List (Int×Int)} {e:Int×Int} (hF:xs.length < F) (hl:xs.length≤1000000):Zk F xs e=some (.of (zij xs e)):=by
 have hle:=Q9 (p:=fun z=>bef z e) (xs:=xs)
 unfold Zk
 refine zeL (L:=fun k i=>wh F xs e k i) (n:=X2 (fun z=>bef z e) xs) ?_ ?_ F (by omega)
 · intro k i hi
   have h1:=zdp (p:=fun z=>bef z e) (xs:=xs) hi (by omega)
   simp only [wh,ud]
   rw [zt (show (i:Int) < (xs.length:Int) by omega),zn,W7 (by omega),zc,Uw,zc]
   rw [h1,zn,yh (n:=xs.length) (by omega) (by unfold Sm;omega)]
 · intro k
   have hfin:ud F xs e ((X2 (fun z=>bef z e) xs:Nat):Int) (wh F xs e k) false=some (.of (zij xs e)):=by
    simp only [ud]
    rw [zj,N4 hle,zc,vU (by simp;omega),zc,vU (by simp;omega),zc,J2 hle,zc,vU (by simp;omega),zc]
    unfold zij
    simp
   simp only [wh]
   by_cases h:X2 (fun z=>bef z e) xs < xs.length
   · have h1:=zeX (p:=fun z=>bef z e) (xs:=xs) h
     rw [zt (show ((X2 (fun z=>bef z e) xs:Nat):Int) < (xs.length:Int) by omega),zn,W7 h,zc,Uw,zc]
     rw [h1]
     exact hfin
   · rw [zD (show ¬ ((X2 (fun z=>bef z e) xs:Nat):Int) < (xs.length:Int) by omega),zj]
     exact hfin
def Ck (a:LB) (b:Int) (m:Nat):Prop:=(∀ y∈a,0≤y.v∧y.v≤255)∧0≤b∧b≤m
theorem Ck.le {a:LB} {b:Int} {m m':Nat} (h:Ck a b m) (hm:m≤m'):Ck a b m':=⟨h.1,h.2.1,by have:=h.2.2;omega⟩
theorem zgs {q:Int}:0≤yU .u64 q 255∧yU .u64 q 255≤255:=by
 unfold yU
 have h:(BitVec.ofInt IntKind.u64.bits q &&& BitVec.ofInt IntKind.u64.bits 255).toNat≤255:=by
  rw [BitVec.toNat_and]
  exact vR Nat.and_le_right (by decide)
 generalize (BitVec.ofInt IntKind.u64.bits q &&& BitVec.ofInt IntKind.u64.bits 255).toNat=n at h
 have e:IntKind.wrap .u64 (n:Int)=n:=by
  simp only [IntKind.wrap,IntKind.bits,IntKind.signed,wv]
  have e1:((2:Int) ^ 64)=18446744073709551616:=by decide
  simp only [e1]
  split
  · rename_i hh;cases hh
  · omega
 rw [e];omega
theorem zp9 (q:Int):0≤w64 (yU .u64 q 255)∧w64 (yU .u64 q 255)≤255:=by
 have:=zgs (q:=q)
 rw [wr (by omega) (by omega)];exact this
section
variable {F:Nat} {c:CC} {m:Nat}
theorem zch {x:Int} (h:Ck c.v.a c.v.b m) (hm:m < 1000000) (h0:0≤x) (hx:x≤255):∃ r c',vk F c x=some (r,c')∧0≤r∧r≤255∧Ck c'.a c'.b (m + 1):=by
 have hb:=h.2
 have hw:w64 (c.v.b + 1)=c.v.b + 1:=wr (by omega) (by omega)
 unfold vk
 rw [hw]
 have hk:Ck c.v.a (c.v.b + 1) (m + 1):=⟨h.1,by omega,by omega⟩
 cases decide ((c.v.b + 1)≤(c.v.a.length:Int)) with
 | true=>exact ⟨x,_,rfl,h0,hx,hk⟩
 | false=>
   exact ⟨_,_,rfl,(zp9 _).1,(zp9 _).2,hk⟩
theorem zdJ (h:Ck c.v.a c.v.b m) (hm:m < 1000000):∃ r c',wT F c=some (r,c')∧0≤r∧r≤255∧Ck c'.a c'.b (m + 1):=by
 unfold wT
 by_cases hd:c.v.b < (c.v.a.length:Int)
 · rw [zt hd,zn]
   have hb:=h.2
   obtain ⟨i,hi⟩:∃ i:Nat,c.v.b=i:=⟨c.v.b.toNat,by omega⟩
   rw [hi,W7 (by omega),zc]
   have hy:=h.1 _ (Yp (show i < c.v.a.length by omega))
   rw [wr (by omega) (by omega)]
   exact zch h hm hy.1 hy.2
 · rw [zD hd,zj]
   exact zch h hm (by omega) (by omega)
theorem uh {n:Int} (h:Ck c.v.a c.v.b m) (hm:m < 900000):∃ r c',yf F c n=some (r,c')∧0≤r∧(1≤n→r < n)∧(n≤1→r=0)∧Ck c'.a c'.b (m + 2):=by
 unfold yf
 have rem:∀ (v:Int) (c':CU),0≤v→1 < n→Ck c'.a c'.b (m + 2)→∃ r c'',vj F n c'.a c'.b c'.c.v v=some (r,c'')∧0≤r∧(1≤n→r < n)∧(n≤1→r=0)∧Ck c''.a c''.b (m + 2):=by
  intro v c' hv hn hk
  have e:zg5 .i64 v n=some (v.tmod n):=by unfold zg5;rw [if_neg (by omega)]
  unfold vj
  rw [e]
  exact ⟨_,_,rfl,Int.tmod_nonneg _ hv,fun _=>Int.tmod_lt_of_pos _ (by omega),fun h=>by omega,hk⟩
 by_cases hn:n≤1
 · rw [zt hn,zn]
   exact ⟨0,_,rfl,by omega,fun h=>by omega,fun _=>rfl,h.le (by omega)⟩
 · rw [zD hn,zj]
   obtain ⟨r,c1,e1,h1,h2,k1⟩:=zdJ (F:=F) (c:=Cu.mk c.v) h (by omega)
   rw [e1,zc]
   by_cases h200:n > 200
   · rw [zt h200,zn]
     obtain ⟨r',c2,e2,h3,h4,k2⟩:=zdJ (F:=F) (c:=Cu.mk c1) k1 (by omega)
     have e2':wT F (Cu.mk (r,c1).2)=some (r',c2):=e2
     rw [e2',zc]
     refine rem _ c2 ?_ (by omega) k2
     show 0≤w64 ((w64 (r * 256)) + r')
     rw [wr (x:=r * 256) (by omega) (by omega),wr (by omega) (by omega)];omega
   · rw [zD h200,zj]
     exact rem r c1 h1 (by omega) (k1.le (by omega))
theorem UH {xs:List Int} (h:Ck c.v.a c.v.b m) (hm:m < 900000) (hx:0 < xs.length):∃ r c',yW F c xs=some (r,c')∧r∈xs∧Ck c'.a c'.b (m + 2):=by
 unfold yW
 obtain ⟨r,c1,e1,h1,h2,_,k1⟩:=uh (F:=F) (c:=Cu.mk c.v) (n:=(xs.length:Int)) h hm
 rw [e1,zc]
 have:=h2 (by omega)
 obtain ⟨i,hi⟩:∃ i:Nat,r=i:=⟨r.toNat,by omega⟩
 subst hi
 have e:idx xs ((i:Int),c1).1=some xs[i]:=W7 (by omega)
 rw [e]
 exact ⟨_,_,rfl,Yp _,k1⟩
theorem QH {n:Int} (h:Ck c.v.a c.v.b m) (hm:m < 900000):∃ r c',xR F c n=some (r,c')∧Ck c'.a c'.b (m + 2):=by
 unfold xR
 obtain ⟨r,c1,e1,_,_,_,k1⟩:=uh (F:=F) (c:=Cu.mk c.v) (n:=n) h hm
 rw [e1]
 exact ⟨_,_,rfl,k1⟩
def GOk (x:Option (GR×CU)):Prop:=∃ g c',x=some (g,c')∧g.2.length≤400∧Ck c'.a c'.b 5000
theorem Kn {α:Type} {xs ys:List α} (h:xs.length + ys.length≤1000):vW xs ys=some (xs++ys):=by
 unfold vW
 rw [if_pos (vR h (by decide))]
theorem zfD {o:Oh (Int×Int)} (h:Ck c.v.a c.v.b m) (hm:m≤4000) (ho:o.v.length≤300):GOk (w5 F c o):=by
 unfold w5
 obtain ⟨r,c1,e1,h1,h2,_,k1⟩:=uh (F:=F) (c:=Cu.mk c.v) (n:=50) h (by omega)
 rw [e1,zc]
 have fin:GOk (some ((o.a,o.v),c1)):=⟨_,_,rfl,by show o.v.length≤400;omega,k1.le (by omega)⟩
 cases (r,c1).1 == 0 with
 | true=>
   rw [zn]
   obtain ⟨r,c2,e2,_,k2⟩:=UH (F:=F) (c:=Cu.mk c1) (xs:=[(-1),8,9,0,4611686018427387904]) k1 (by omega) (by decide)
   have e2':yW F (Cu.mk (r,c1).2) [(-1),8,9,0,4611686018427387904]=some (r,c2):=e2
   rw [e2',zc]
   exact ⟨_,_,rfl,by show o.v.length≤400;omega,k2.le (by omega)⟩
 | false=>
   rw [zj]
   cases (r,c1).1 == 1 with
   | true=>
     rw [zn]
     obtain ⟨r2,c2,e2,_,_,_,k2⟩:=uh (F:=F) (c:=Cu.mk c1) (n:=4) k1 (by omega)
     have e2':yf F (Cu.mk (r,c1).2) 4=some (r2,c2):=e2
     rw [e2',zc]
     obtain ⟨r3,c3,e3,_,_,_,k3⟩:=uh (F:=F) (c:=Cu.mk c2) (n:=9) k2 (by omega)
     have e3':yf F (Cu.mk (r2,c2).2) 9=some (r3,c3):=e3
     rw [e3',zc,Kn (by simp;omega),zc]
     exact ⟨_,_,rfl,by simp;omega,k3.le (by omega)⟩
   | false=>
     rw [zj]
     cases (r,c1).1 == 2 with
     | true=>
       rw [zn]
       by_cases hl:(o.v.length:Int) > 0
       · rw [zt hl,zn]
         obtain ⟨r2,c2,e2,h3,h4,_,k2⟩:=uh (F:=F) (c:=Cu.mk c1) (n:=(o.v.length:Int)) k1 (by omega)
         have e2':yf F (Cu.mk (r,c1).2) (o.v.length:Int)=some (r2,c2):=e2
         rw [e2',zc]
         have:=h4 (by omega)
         obtain ⟨i,hi⟩:∃ i:Nat,r2=i:=⟨r2.toNat,by omega⟩
         subst hi
         have e:idx o.v ((i:Int),c2).1=some o.v[i]:=W7 (by omega)
         rw [e,zc,Kn (by simp;omega),zc]
         exact ⟨_,_,rfl,by simp;omega,k2.le (by omega)⟩
       · rw [zD hl,zj]
         exact fin
     | false=>exact fin
theorem MK {a:LB} {b v n:Int} {xs:List (Int×Int)} (h:Ck a b m) (hm:m≤4000) (ho:xs.length≤300):GOk (yR F a b v n (.of xs)):=by
 unfold yR
 obtain ⟨g,c',e,h1,h2⟩:=zfD (F:=F) (c:=cu a b v) (o:=Oh.mk n xs) h hm ho
 show GOk (Option.bind (some xs) _)
 rw [zc,e,zc]
 exact ⟨g,c',rfl,h1,h2⟩
end
theorem zds (K:Nat):∀ n:Nat,n≤8→∃ l,ZL (K + 20) (n:Int)=some ((n:Int),.of l)∧l.length≤10
 | 0,_=>⟨_,rfl,by decide⟩
 | 1,_=>⟨_,rfl,by decide⟩
 | 2,_=>⟨_,rfl,by decide⟩
 | 3,_=>⟨_,rfl,by decide⟩
 | 4,_=>⟨_,rfl,by decide⟩
 | 5,_=>⟨_,rfl,by decide⟩
 | 6,_=>⟨_,rfl,by decide⟩
 | 7,_=>⟨_,rfl,by decide⟩
 | 8,_=>⟨_,rfl,by decide⟩
 | n + 9,h=>absurd h (by omega)
theorem zbM (K:Nat):∀ n:Nat,n≤8→∃ l,vS (K + 20) (n:Int)=some ((n:Int),.of l)∧l.length≤300
 | 0,_=>⟨_,rfl,by decide⟩
 | 1,_=>⟨_,rfl,by decide⟩
 | 2,_=>⟨_,rfl,by decide⟩
 | 3,_=>⟨_,rfl,by decide⟩
 | 4,_=>⟨_,rfl,by decide⟩
 | 5,_=>⟨_,rfl,by decide⟩
 | 6,_=>⟨_,rfl,by decide⟩
 | 7,_=>⟨_,rfl,by decide⟩
 | 8,_=>⟨_,rfl,by decide⟩
 | n + 9,h=>absurd h (by omega)
theorem zha {F n:Nat} (hF:300≤F) (h:n≤8):∃ l,uO F (n:Int)=some ((n:Int),.of l)∧l.length≤20:=by
 obtain ⟨K,rfl⟩:∃ K,F=K + 20:=⟨F - 20,by omega⟩
 obtain ⟨l,e,hl⟩:=zds K n h
 unfold uO
 rw [e,zc]
 have:(((n:Int),NL.of l).2).list=l:=rfl
 rw [this,LT (by omega) (by omega),zc]
 exact ⟨_,rfl,by rw [ME];omega⟩
theorem zmV {F n i:Nat} {q:Int×CU} {t:Bool×CU} {c5:LB→Int→Int→NL (Int×Int)→Int→Option (GR×CU)} (hn:n≤8) (hF:500≤F) (hi:i < n)
    (H:∀ (c':CU) (ys:List (Int×Int)),Ck c'.a c'.b (50 + 40 * (i + 1))→ys.length≤10 * (i + 1)→GOk (c5 c'.a c'.b c'.c.v (.of ys) ((i + 1:Nat):Int))) :
    ∀ (d j k:Nat) (a:LB) (b v:Int) (xs:List (Int×Int)),j + d=n→d < k→Ck a b (50 + 40 * i + 2 * j)→xs.length≤10 * i + j→GOk (yq F (n:Int) q t (i:Int) c5 k a b v (.of xs) (j:Int)):=by
 have hw:w64 ((i:Int) + 1)=((i + 1:Nat):Int):=yh (n:=n) (by omega) (by unfold Sm;omega)
 intro d
 induction d with
 | zero=>
   intro j k a b v xs hj hk hc hx
   obtain ⟨k,rfl⟩:∃ k',k=k' + 1:=⟨k - 1,by omega⟩
   simp only [yq]
   rw [zD (by omega),zj,zkc,zc]
   obtain ⟨r,c1,e1,h1,_,_,k1⟩:=uh (F:=F) (c:=cu a b v) (n:=max (i:Int) 1) hc (by omega)
   rw [e1,zc]
   have hk1:Ck c1.a c1.b (50 + 40 * (i + 1)):=k1.le (by omega)
   have h4f:GOk (y9 F (r,c1) (n:Int) (.of xs) q t (i:Int) c5 false):=by
    show GOk (c5 c1.a c1.b c1.c.v (.of xs) (w64 ((i:Int) + 1)))
    rw [hw];exact H c1 xs hk1 (by omega)
   have h4t:GOk (y9 F (r,c1) (n:Int) (.of xs) q t (i:Int) c5 true):=by
    unfold y9
    rw [zn,show (NL.of xs).list=xs from rfl,LT (by omega) (by omega),zc]
    show GOk (c5 c1.a c1.b c1.c.v (.of _) (w64 ((i:Int) + 1)))
    rw [hw];exact H c1 _ hk1 (by rw [ME];omega)
   by_cases h0:(i:Int) > 0
   · rw [zt h0,zn]
     cases !t.1 with
     | false=>exact h4f
     | true=>
       rw [zn]
       obtain ⟨y,hy⟩:∃ y:Nat,r=y:=⟨r.toNat,by omega⟩
       subst hy
       have e:uV F ((n:Int),(NL.of xs).list) (i:Int) ((y:Int),c1).1=_:=QL (g:=((n:Int),xs)) (F:=F) (a:=i) (b:=y) (by show xs.length < F;omega) (by show Sm xs.length;unfold Sm;omega)
       rw [e,zc]
       cases !adj ((n:Int),xs) i y with
       | false=>exact h4f
       | true=>exact h4t
   · rw [zD h0];exact h4f
 | succ d ih=>
   intro j k a b v xs hj hk hc hx
   obtain ⟨k,rfl⟩:∃ k',k=k' + 1:=⟨k - 1,by omega⟩
   simp only [yq]
   rw [zt (by omega),zn]
   obtain ⟨r,c1,e1,h1,_,_,k1⟩:=uh (F:=F) (c:=cu a b v) (n:=q.1) hc (by omega)
   rw [e1,zc]
   have hwj:w64 ((j:Int) + 1)=((j + 1:Nat):Int):=yh (n:=n) (by omega) (by unfold Sm;omega)
   cases (r,c1).1 == 0 with
   | true=>
     rw [zn,show (NL.of xs).list=xs from rfl,LT (by omega) (by omega),zc]
     show GOk (yq F (n:Int) q t (i:Int) c5 k c1.a c1.b c1.c.v (.of _) (w64 ((j:Int) + 1)))
     rw [hwj]
     exact ih (j + 1) k _ _ _ _ (by omega) (by omega) (k1.le (by omega)) (by rw [ME];omega)
   | false=>
     show GOk (yq F (n:Int) q t (i:Int) c5 k c1.a c1.b c1.c.v (.of xs) (w64 ((j:Int) + 1)))
     rw [hwj]
     exact ih (j + 1) k _ _ _ _ (by omega) (by omega) (k1.le (by omega)) (by omega)
theorem zlv {F n:Nat} {q:Int×CU} {t:Bool×CU} (hn:n≤8) (hF:500≤F) :
    ∀ (d i k:Nat) (a:LB) (b v:Int) (xs:List (Int×Int)),i + d=n→d < k→Ck a b (50 + 40 * i)→xs.length≤10 * i→GOk (xa F (n:Int) q t k a b v (.of xs) (i:Int)):=by
 intro d
 induction d with
 | zero=>
   intro i k a b v xs hj hk hc hx
   obtain ⟨k,rfl⟩:∃ k',k=k' + 1:=⟨k - 1,by omega⟩
   simp only [xa]
   rw [zD (by omega),zj]
   exact MK hc (by omega) (by omega)
 | succ d ih=>
   intro i k a b v xs hj hk hc hx
   obtain ⟨k,rfl⟩:∃ k',k=k' + 1:=⟨k - 1,by omega⟩
   simp only [xa]
   rw [zt (by omega),zn,yh (n:=n) (by omega) (by unfold Sm;omega)]
   exact zmV hn hF (by omega) (fun c' ys hc' hy=>ih (i + 1) k _ _ _ _ (by omega) (by omega) hc' hy) (n - (i + 1)) (i + 1) F a b v xs (by omega) (by omega) (hc.le (by omega)) (by omega)
theorem zae {F:Nat} {c:CC} {z:Int} (h:Ck c.v.a c.v.b 0) (hF:500≤F) (h0:0≤z) (h8:z≤8):GOk (wd F c z):=by
 obtain ⟨K,hK⟩:∃ K,F=K + 20:=⟨F - 20,by omega⟩
 have j5:∀ (c1:CU) (x:Int),Ck c1.a c1.b 10→0≤x→GOk (xT F z c1.a c1.b c1.c.v x):=by
  intro c1 x k1 hx
  unfold xT
  rw [MJ,zc]
  obtain ⟨n,hn⟩:∃ n:Nat,min x z=n:=⟨(min x z).toNat,by omega⟩
  have hn8:n≤8:=by omega
  rw [hn]
  obtain ⟨r,c2,e2,h1,_,_,k2⟩:=uh (F:=F) (c:=cu c1.a c1.b c1.c.v) (n:=8) k1 (by omega)
  rw [e2,zc]
  have k2':Ck c2.a c2.b 20:=k2.le (by omega)
  cases (r,c2).1 == 0 with
  | true=>
    rw [zn]
    obtain ⟨l,e,hl⟩:=zds K n hn8
    rw [← hK] at e
    rw [e,zc]
    exact MK k2' (by omega) (by omega)
  | false=>
    rw [zj]
    cases (r,c2).1 == 1 with
    | true=>
      rw [zn]
      by_cases h2:(n:Int) > 2
      · rw [zt h2,zn]
        obtain ⟨l,e,hl⟩:=zha (F:=F) (by omega) hn8
        rw [e,zc]
        exact MK k2' (by omega) (by omega)
      · rw [zD h2,zj]
        exact MK k2' (by omega) (by simp)
    | false=>
      rw [zj]
      cases (r,c2).1 == 2 with
      | true=>
        rw [zn]
        obtain ⟨l,e,hl⟩:=zbM K n hn8
        rw [← hK] at e
        rw [e,zc]
        exact MK k2' (by omega) (by omega)
      | false=>
        rw [zj]
        obtain ⟨r3,c3,e3,_,k3⟩:=UH (F:=F) (c:=Cu.mk c2) (xs:=[3,4,6]) k2' (by omega) (by decide)
        have e3':yW F (Cu.mk (r,c2).2) [3,4,6]=some (r3,c3):=e3
        rw [e3',zc]
        obtain ⟨r4,c4,e4,k4⟩:=QH (F:=F) (c:=Cu.mk c3) (n:=6) k3 (by omega)
        have e4':xR F (Cu.mk (r3,c3).2) 6=some (r4,c4):=e4
        rw [e4',zc]
        exact zlv hn8 hF n 0 F c4.a c4.b c4.c.v [] (by omega) (by omega) (k4.le (by omega)) (by simp)
 unfold wd
 obtain ⟨r,c1,e1,hr,k1⟩:=UH (F:=F) (c:=Cu.mk c.v) (xs:=[4,5,3,6,2,1,0]) h (by omega) (by decide)
 rw [e1,zc]
 have hr0:0≤r:=by
  have:∀ y∈([4,5,3,6,2,1,0]:List Int),0≤y:=by decide
  exact this r hr
 by_cases h6:z > 6
 · rw [zt h6,zn]
   obtain ⟨r2,c2,e2,k2⟩:=QH (F:=F) (c:=Cu.mk c1) (n:=4) k1 (by omega)
   have e2':xR F (Cu.mk (r,c1).2) 4=some (r2,c2):=e2
   rw [e2',zc]
   unfold wE
   cases (r2,c2).1 with
   | true=>
     rw [zn]
     obtain ⟨r3,c3,e3,h3,h4,_,k3⟩:=uh (F:=F) (c:=cu c2.a c2.b c2.c.v) (n:=2) k2 (by omega)
     have e3':yf F (cu (r2,c2).2.a (r2,c2).2.b (r2,c2).2.c.v) 2=some (r3,c3):=e3
     rw [e3',zc]
     have:=h4 (by omega)
     exact j5 c3 _ (k3.le (by omega)) (by show 0≤w64 (7 + r3);rw [wr (by omega) (by omega)];omega)
   | false=>exact j5 c2 r (k2.le (by omega)) hr0
 · rw [zD h6,zj]
   exact j5 c1 r (k1.le (by omega)) hr0
theorem K6 {F:Nat} {c:CC} (h:Ck c.v.a c.v.b 0) (hF:500≤F):GOk (xS F c):=by
 unfold xS
 obtain ⟨g,c',e,h1,h2⟩:=zae (F:=F) (c:=Cu.mk c.v) (z:=8) h hF (by omega) (by omega)
 rw [e];exact ⟨g,c',rfl,h1,h2⟩
theorem zgl {α:Type} {xs:List α} {a b:Nat} (h:a≤b) (hb:b≤xs.length):∃ ys,sub xs (a:Int) (b:Int)=some ys∧ys.length=b - a:=by
 unfold sub
 rw [if_pos ⟨by omega,by omega,by omega⟩]
 exact ⟨_,rfl,by simp;omega⟩
theorem MY {F m:Nat} {g:GR} (hF:500≤F) (hm:m≤100000):∀ (d i k:Nat) (a:LB) (b v:Int) (xs:List Int),i + d=(min g.1 8).toNat→d < k→Ck a b (m + 2 * i)→xs.length=i →
    ∃ l c',xj F g k a b v xs (i:Int)=some (l,c')∧l.length≤20∧Ck c'.a c'.b (m + 1000):=by
 intro d
 have fin:∀ (i k:Nat) (a:LB) (b v:Int) (xs:List Int),¬ (i:Int) < min g.1 8→Ck a b (m + 2 * i)→xs.length=i→i≤8→∃ l c',xj F g (k + 1) a b v xs (i:Int)=some (l,c')∧l.length≤20∧Ck c'.a c'.b (m + 1000):=by
  intro i k a b v xs hi hc hx h8
  simp only [xj]
  rw [MJ,zc,zD hi,zj]
  obtain ⟨r,c1,e1,k1⟩:=QH (F:=F) (c:=cu a b v) (n:=24) hc (by omega)
  rw [e1,zc]
  cases (r,c1).1 with
  | true=>
    rw [zn]
    obtain ⟨r2,c2,e2,_,k2⟩:=UH (F:=F) (c:=Cu.mk c1) (xs:=[0,(-1),8]) k1 (by omega) (by decide)
    have e2':yW F (Cu.mk (r,c1).2) [0,(-1),8]=some (r2,c2):=e2
    rw [e2',zc,Kn (by simp;omega),zc]
    exact ⟨_,_,rfl,by simp;omega,k2.le (by omega)⟩
  | false=>exact ⟨_,_,rfl,by omega,k1.le (by omega)⟩
 induction d with
 | zero=>
   intro i k a b v xs hj hk hc hx
   obtain ⟨k,rfl⟩:∃ k',k=k' + 1:=⟨k - 1,by omega⟩
   exact fin i k a b v xs (by omega) hc hx (by omega)
 | succ d ih=>
   intro i k a b v xs hj hk hc hx
   obtain ⟨k,rfl⟩:∃ k',k=k' + 1:=⟨k - 1,by omega⟩
   simp only [xj]
   rw [MJ,zc,zt (by omega),zn,hx,yh (n:=i + 1) (by omega) (by unfold Sm;omega)]
   obtain ⟨r,c1,e1,h1,h2,_,k1⟩:=uh (F:=F) (c:=cu a b v) (n:=((i + 1:Nat):Int)) hc (by omega)
   rw [e1,zc]
   have:=h2 (by omega)
   obtain ⟨p,hp⟩:∃ p:Nat,r=p:=⟨r.toNat,by omega⟩
   subst hp
   obtain ⟨ys,s1,s2⟩:=zgl (xs:=xs) (a:=0) (b:=p) (by omega) (by omega)
   obtain ⟨zs,s3,s4⟩:=zgl (xs:=xs) (a:=p) (b:=i) (by omega) (by omega)
   have s1':sub xs 0 ((p:Int),c1).1=some ys:=s1
   have s3':sub xs ((p:Int),c1).1 (i:Int)=some zs:=s3
   rw [s1',zc,Kn (by simp;omega),zc,Kn (by simp;omega),zc,s3',zc,Kn (by simp;omega),zc]
   exact ih (i + 1) k c1.a c1.b c1.c.v _ (by omega) (by omega) (k1.le (by omega)) (by simp;omega)
theorem zfK {F:Nat} {g:GR} (hF:500≤F):∀ (d i k:Nat) (a:LB) (b v:Int) (xs:List Int),i + d=(min g.1 8).toNat→d < k→Ck a b (5000 + 2 * i)→xs.length=i →
    ∃ l c',xj F g k a b v xs (i:Int)=some (l,c')∧l.length≤20∧Ck c'.a c'.b 6000:=MY hF (by omega)
theorem M9 {F:Nat} {code:LB} (hF:500≤F) (hc:∀ y∈code,0≤y.v∧y.v≤255):∃ g l,w6 F code=some (g,l)∧g.2.length≤400∧l.length≤20:=by
 unfold w6
 obtain ⟨g,c,e,h1,h2⟩:=K6 (F:=F) (c:=cu code 0 0) ⟨hc,Int.le_refl _,Int.le_refl _⟩ hF
 rw [e,zc]
 obtain ⟨l,c',e2,h3,_⟩:=zfK (F:=F) (g:=g) hF (min g.1 8).toNat 0 F c.a c.b c.c.v [] (by omega) (by omega) (h2.le (by omega)) rfl
 have e2':wF F (Cu.mk (g,c).2) (g,c).1=some (l,c'):=e2
 rw [e2',zc]
 exact ⟨g,l,rfl,h1,h3⟩
def pcN (n a:Nat):Nat:=xI a.testBit n
def nxS (g:Gr) (s:Nat×Nat) (step:Int):Nat×Nat:=(mkm (Up s.1.testBit step) g.1.toNat,mkm (spr g (fun j=>!Up s.1.testBit step j) s.2.testBit) g.1.toNat)
def cnS (g:Gr) (k:Int) (s:Nat×Nat) (step:Int):Bool:=zl6 g.1.toNat s.1.testBit step && !(decide (step≥0) && ((pcN g.1.toNat s.1:Int) == k))
inductive Rch (g:Gr) (k:Int):Nat×Nat→Prop
 | init:Rch g k (0,2 ^ g.1.toNat - 1)
 | step {s:Nat×Nat} {step:Int}:Rch g k s→cnS g k s step=true→Rch g k (nxS g s step)
structure Gst (g:Gr) (k:Int) (s:Nat×Nat):Prop where
 lt1:s.1 < 2 ^ g.1.toNat
 lt2:s.2 < 2 ^ g.1.toNat
 dis:∀ j,s.1.testBit j=true→s.2.testBit j=false
 cl:∀ a b,adj g a b=true→s.2.testBit a=true→s.1.testBit b=false→s.2.testBit b=true
 sz:(pcN g.1.toNat s.1:Int)≤k
theorem MB {p:Nat→Bool} {x:Nat} (hx:p x=false):∀ {n:Nat},x < n→xI (fun j=>p j || j == x) n=xI p n + 1
 | 0,h=>by omega
 | n + 1,h=>by
   unfold xI
   rw [List.range_succ,List.countP_append,List.countP_append]
   by_cases e:x=n
   · subst e
     have:(List.range x).countP (fun j=>p j || j == x)=(List.range x).countP p:=by
      apply List.countP_congr
      intro j hj
      rw [List.mem_range] at hj
      have:(j == x)=false:=by simp;omega
      rw [this,wt]
     rw [this]
     simp [hx]
   · have:=MB hx (n:=n) (by omega)
     unfold xI at this
     rw [this]
     have e2:(n == x)=false:=by simp;omega
     simp [e2]
     omega
theorem zcy {p:Nat→Bool} {step:Int} (h:0≤step) (j:Nat):Up p step j=(p j || j == step.toNat):=by
 unfold Up Ki
 rw [if_neg (by omega),if_neg (by omega)]
theorem zgK {p:Nat→Bool} {step:Int} (h:step < 0) {j:Nat} (hj:Up p step j=true):p j=true:=by
 unfold Up at hj
 rw [if_pos h,zq] at hj
 exact hj.1
theorem zcT {n:Nat} {p:Nat→Bool} {step:Int} (h:0≤step) (hc:zl6 n p step=true):step.toNat < n∧p step.toNat=false:=by
 unfold zl6 Ki at hc
 rw [if_neg (by omega),zq,z9,zD (by omega),yH] at hc
 exact ⟨by omega,hc.2⟩
theorem zit {g:Gr} (hg:xl g=true) {k:Int} (hk:0≤k):Gst g k (0,2 ^ g.1.toNat - 1):=by
 have:=Zt g.1.toNat
 refine ⟨by omega,by show 2 ^ g.1.toNat - 1 < _;omega,fun j hj=>?_,fun a b h _ _=>?_,?_⟩
 · rw [Yo] at hj;cases hj
 · show (2 ^ g.1.toNat - 1).testBit b=true
   rw [Nat.testBit_two_pow_sub_one]
   have:=JC hg h
   exact zt (by omega)
 · show ((xI (Nat.testBit 0) g.1.toNat:Nat):Int)≤k
   have:xI (Nat.testBit 0) g.1.toNat=0:=by
    unfold xI
    rw [List.countP_eq_zero]
    intro j _
    rw [Yo];simp
   rw [this];exact hk
theorem zh5 {g:Gr} (hg:xl g=true) {k:Int} {s:Nat×Nat} {step:Int} (hs:Gst g k s) (hc:cnS g k s step=true):Gst g k (nxS g s step):=by
 unfold cnS at hc
 rw [zq] at hc
 obtain ⟨hc,hk⟩:=hc
 refine ⟨Jq,Jq,fun j hj=>?_,fun a b hab ha hb=>?_,?_⟩
 · show (mkm (spr g (fun j=>!Up s.1.testBit step j) s.2.testBit) g.1.toNat).testBit j=false
   have h1:(mkm (Up s.1.testBit step) g.1.toNat).testBit j=true:=hj
   rw [xA,zq] at h1
   rw [xA]
   cases e:spr g (fun j=>!Up s.1.testBit step j) s.2.testBit j with
   | false=>rw [Bool.and_false]
   | true=>
     unfold spr at e
     obtain ⟨y,hy,h⟩:=wq.1 e
     simp only [zq] at h
     have:=zjJ (p:=fun j=>!Up s.1.testBit step j) h.1.2 h.2
     simp only [h1.2] at this
     cases this
 · show (mkm (spr g (fun j=>!Up s.1.testBit step j) s.2.testBit) g.1.toNat).testBit b=true
   have h1:(mkm (spr g (fun j=>!Up s.1.testBit step j) s.2.testBit) g.1.toNat).testBit a=true:=ha
   have h2:(mkm (Up s.1.testBit step) g.1.toNat).testBit b=false:=hb
   have hl:=JC hg hab
   have hbn:b < g.1.toNat:=by omega
   rw [xA,zt hbn,yg] at h2 ⊢
   rw [xA,zq] at h1
   obtain ⟨_,e⟩:=h1
   unfold spr at e ⊢
   obtain ⟨y,hy,h⟩:=wq.1 e
   refine wq.2 ⟨y,hy,?_⟩
   simp only [zq] at h ⊢
   refine ⟨h.1,zbn hg hy h.1.2 h.2 ?_ hab⟩
   simp only [h2];rfl
 · show ((xI (mkm (Up s.1.testBit step) g.1.toNat).testBit g.1.toNat:Nat):Int)≤k
   have e1:xI (mkm (Up s.1.testBit step) g.1.toNat).testBit g.1.toNat=xI (Up s.1.testBit step) g.1.toNat:=ZZ fun j hj=>by rw [xA,zt hj,yg]
   rw [e1]
   have hsz:=hs.sz
   unfold pcN at hsz hk
   by_cases h:step < 0
   · have:=zbl (p:=Up s.1.testBit step) (q:=s.1.testBit) (n:=g.1.toNat) fun j _ hj=>zgK h hj
     omega
   · obtain ⟨h1,h2⟩:=zcT (by omega) hc
     have e2:xI (Up s.1.testBit step) g.1.toNat=xI s.1.testBit g.1.toNat + 1:=by
      rw [← MB h2 h1]
      exact ZZ fun j _=>zcy (by omega) j
     rw [zt (show step≥0 by omega),yg,xn,beq_eq_false_iff_ne] at hk
     omega
theorem zkd {g:Gr} (hg:xl g=true) {k:Int} (hk:0≤k) {s:Nat×Nat} (h:Rch g k s):Gst g k s:=by
 induction h with
 | init=>exact zit hg hk
 | step _ hc ih=>exact zh5 hg ih hc
theorem U1 {g:Gr} (hg:xl g=true) {p:Nat→Bool} {j:Nat}:frt g p j=true↔p j=true∧∃ y,adj g j y=true∧p y=false:=by
 unfold frt
 rw [zq,wq]
 constructor
 · rintro ⟨h1,y,hy,h2⟩
   rw [zq,xn] at h2
   exact ⟨h1,y,h2⟩
 · rintro ⟨h1,y,h2,h3⟩
   have:=JC hg h2
   exact ⟨h1,y,by omega,by rw [h2,h3];rfl⟩
inductive Grd (n:Nat) (p:Nat→Nat→Bool):Nat→Nat→List Int→Prop
 | done:Grd n p 0 (2 ^ n - 1) []
 | step {d m x:Nat} {l:List Int}:m < 2 ^ n→KQ (fun y=>!m.testBit y && p m y) n=some x→Grd n p d (m ||| 2 ^ x) l→Grd n p (d + 1) m ((x:Int) :: l)
end Go.Zq
