/- Plain mathematics: what the functions answer (part 3). Conditions: stated in each theorem. -/
import Derived.Test.YtelahampjnaimacM2
import Derived.Test.YtelahampjnaimacM1
set_option linter.unusedVariables false
set_option linter.unusedSimpArgs false
namespace Go.Zq
theorem MV {F:Nat} {a b:Int}:YK F a b=some (min a b):=by
 unfold YK
 by_cases h:a < b
 · simp [h];omega
 · simp [h];omega
theorem zgH {n:Int} {l:List Int} (ho:uM n l=true) (h0:0≤n) {i x:Nat} (hi:i < l.length) (hx:l.getD i 0=(x:Int)):xj l i x=false:=by
 have hl:=Yv ho
 unfold xj
 refine zA fun hm=>?_
 have hc:=(JB n.toNat (l.take i++l.drop (i + 1)) (fun j hj=>by
  have:=K1 ho (x:=(j:Int)) (by omega) (by omega)
  rw [← Y6 i l,zQ] at this
  rcases this with h | h
  · exact List.mem_append_left _ h
  · rw [List.drop_eq_getElem_cons hi,z4] at h
    rcases h with h | h
    · rw [zZ,yL hi,xa] at hx
      rw [h,hx]
      exact List.mem_append_left _ hm
    · exact List.mem_append_right _ h)).1
 rw [uA,List.length_take,List.length_drop] at hc
 omega
theorem YB {α:Type} {xs ys:List α} (h:xs.length + ys.length≤1099511627776):vz xs ys=some (xs++ys):=by
 unfold vz
 rw [if_pos (by simpa using h)]
def WH {α:Type} (p:α→Bool):List α→Nat
 | []=>0
 | x :: xs=>if p x then WH p xs + 1 else 0
theorem zaV {α:Type} {p:α→Bool}:∀ {xs:List α},WH p xs≤xs.length
 | []=>yF _
 | x :: xs=>by
   have:=zaV (p:=p) (xs:=xs)
   simp only [WH,X7]
   split <;> omega
theorem zeG {α:Type} {p:α→Bool}:∀ {xs:List α} {i:Nat} (h:i < WH p xs) (h2:i < xs.length),p xs[i]=true
 | [],i,h,_=>by simp [WH] at h
 | x :: xs,i,h,h2=>by
   simp only [WH] at h
   split at h
   · rename_i hx
     cases i with
     | zero=>exact hx
     | succ i=>exact zeG (xs:=xs) (by omega) (by simpa using h2)
   · omega
theorem zeq {α:Type} {p:α→Bool}:∀ {xs:List α} (h:WH p xs < xs.length),p xs[WH p xs]=false
 | [],h=>by simp [WH] at h
 | x :: xs,h=>by
   by_cases hx:p x=true
   · have e:WH p (x :: xs)=WH p xs + 1:=by simp [WH,hx]
     have h':WH p xs < xs.length:=by rw [e] at h;simpa using h
     have:=zeq (p:=p) (xs:=xs) h'
     simp only [e,List.getElem_cons_succ]
     exact this
   · have e:WH p (x :: xs)=0:=by simp [WH,hx]
     simp only [e,List.getElem_cons_zero]
     simpa using hx
def ziK (xs:List (Int×Int)) (e:Int×Int):List (Int×Int):=xs.take (WH (fun z=>bef z e) xs)++e :: xs.drop (WH (fun z=>bef z e) xs)
theorem Mq {xs:List (Int×Int)} {e:Int×Int}:(ziK xs e).length=xs.length + 1:=by
 unfold ziK
 have:=zaV (p:=fun z=>bef z e) (xs:=xs)
 simp;omega
theorem M6 {F:Nat} {xs:List (Int×Int)} {e:Int×Int} (hF:xs.length < F) (hl:xs.length≤1000000):ZS F xs e=some (.of (ziK xs e)):=by
 have hle:=zaV (p:=fun z=>bef z e) (xs:=xs)
 unfold ZS
 refine zfl (L:=fun k i=>wl F xs e k i) (n:=WH (fun z=>bef z e) xs) ?_ ?_ F (by omega)
 · intro k i hi
   have h1:=zeG (p:=fun z=>bef z e) (xs:=xs) hi (by omega)
   simp only [wl,uZ]
   rw [zo (show (i:Int) < (xs.length:Int) by omega),zk,UN (by omega),zb,Ja,zb]
   rw [h1,zk,yd (n:=xs.length) (by omega) (by unfold Sm;omega)]
 · intro k
   have hfin:uZ F xs e ((WH (fun z=>bef z e) xs:Nat):Int) (wl F xs e k) false=some (.of (ziK xs e)):=by
    simp only [uZ]
    rw [zh,Qv hle,zb,YB (by simp;omega),zb,YB (by simp;omega),zb,MD hle,zb,YB (by simp;omega),zb]
    unfold ziK
    simp
   simp only [wl]
   by_cases h:WH (fun z=>bef z e) xs < xs.length
   · have h1:=zeq (p:=fun z=>bef z e) (xs:=xs) h
     rw [zo (show ((WH (fun z=>bef z e) xs:Nat):Int) < (xs.length:Int) by omega),zk,UN h,zb,Ja,zb]
     rw [h1]
     exact hfin
   · rw [zA (show ¬ ((WH (fun z=>bef z e) xs:Nat):Int) < (xs.length:Int) by omega),zh]
     exact hfin
def Ck (a:LB) (b:Int) (m:Nat):Prop:=(∀ y∈a,0≤y.v∧y.v≤255)∧0≤b∧b≤m
theorem Ck.le {a:LB} {b:Int} {m m':Nat} (h:Ck a b m) (hm:m≤m'):Ck a b m':=⟨h.1,h.2.1,by have:=h.2.2;omega⟩
theorem zhs {q:Int}:0≤yO .u64 q 255∧yO .u64 q 255≤255:=by
 unfold yO
 have h:(BitVec.ofInt IntKind.u64.bits q &&& BitVec.ofInt IntKind.u64.bits 255).toNat≤255:=by
  rw [BitVec.toNat_and]
  exact xI Nat.and_le_right (by decide)
 generalize (BitVec.ofInt IntKind.u64.bits q &&& BitVec.ofInt IntKind.u64.bits 255).toNat=n at h
 have e:IntKind.wrap .u64 (n:Int)=n:=by
  simp only [IntKind.wrap,IntKind.bits,IntKind.signed,wZ]
  have e1:((2:Int) ^ 64)=18446744073709551616:=by decide
  simp only [e1]
  split
  · rename_i hh;cases hh
  · omega
 rw [e];omega
theorem ztA (q:Int):0≤w64 (yO .u64 q 255)∧w64 (yO .u64 q 255)≤255:=by
 have:=zhs (q:=q)
 rw [xw (by omega) (by omega)];exact this
section
variable {F:Nat} {c:CC} {m:Nat}
theorem zbU {x:Int} (h:Ck c.v.a c.v.b m) (hm:m < 1000000) (h0:0≤x) (hx:x≤255):∃ r c',vR F c x=some (r,c')∧0≤r∧r≤255∧Ck c'.a c'.b (m + 1):=by
 have hb:=h.2
 have hw:w64 (c.v.b + 1)=c.v.b + 1:=xw (by omega) (by omega)
 unfold vR
 rw [hw]
 have hk:Ck c.v.a (c.v.b + 1) (m + 1):=⟨h.1,by omega,by omega⟩
 cases decide ((c.v.b + 1)≤(c.v.a.length:Int)) with
 | true=>exact ⟨x,_,rfl,h0,hx,hk⟩
 | false=>
   exact ⟨_,_,rfl,(ztA _).1,(ztA _).2,hk⟩
theorem zfm (h:Ck c.v.a c.v.b m) (hm:m < 1000000):∃ r c',vk F c=some (r,c')∧0≤r∧r≤255∧Ck c'.a c'.b (m + 1):=by
 unfold vk
 by_cases hd:c.v.b < (c.v.a.length:Int)
 · rw [zo hd,zk]
   have hb:=h.2
   obtain ⟨i,hi⟩:∃ i:Nat,c.v.b=i:=⟨c.v.b.toNat,by omega⟩
   rw [hi,UN (by omega),zb]
   have hy:=h.1 _ (Xc (show i < c.v.a.length by omega))
   rw [xw (by omega) (by omega)]
   exact zbU h hm hy.1 hy.2
 · rw [zA hd,zh]
   exact zbU h hm (by omega) (by omega)
theorem uy {n:Int} (h:Ck c.v.a c.v.b m) (hm:m < 900000):∃ r c',yj F c n=some (r,c')∧0≤r∧(1≤n→r < n)∧(n≤1→r=0)∧Ck c'.a c'.b (m + 2):=by
 unfold yj
 have rem:∀ (v:Int) (c':CU),0≤v→1 < n→Ck c'.a c'.b (m + 2)→∃ r c'',vX F n c'.a c'.b c'.c.v v=some (r,c'')∧0≤r∧(1≤n→r < n)∧(n≤1→r=0)∧Ck c''.a c''.b (m + 2):=by
  intro v c' hv hn hk
  have e:zhL .i64 v n=some (v.tmod n):=by unfold zhL;rw [if_neg (by omega)]
  unfold vX
  rw [e]
  exact ⟨_,_,rfl,Int.tmod_nonneg _ hv,fun _=>Int.tmod_lt_of_pos _ (by omega),fun h=>by omega,hk⟩
 by_cases hn:n≤1
 · rw [zo hn,zk]
   exact ⟨0,_,rfl,by omega,fun h=>by omega,fun _=>rfl,h.le (by omega)⟩
 · rw [zA hn,zh]
   obtain ⟨r,c1,e1,h1,h2,k1⟩:=zfm (F:=F) (c:=Cu.mk c.v) h (by omega)
   rw [e1,zb]
   by_cases h200:n > 200
   · rw [zo h200,zk]
     obtain ⟨r',c2,e2,h3,h4,k2⟩:=zfm (F:=F) (c:=Cu.mk c1) k1 (by omega)
     have e2':vk F (Cu.mk (r,c1).2)=some (r',c2):=e2
     rw [e2',zb]
     refine rem _ c2 ?_ (by omega) k2
     show 0≤w64 ((w64 (r * 256)) + r')
     rw [xw (x:=r * 256) (by omega) (by omega),xw (by omega) (by omega)];omega
   · rw [zA h200,zh]
     exact rem r c1 h1 (by omega) (k1.le (by omega))
theorem Us {xs:List Int} (h:Ck c.v.a c.v.b m) (hm:m < 900000) (hx:0 < xs.length):∃ r c',yR F c xs=some (r,c')∧r∈xs∧Ck c'.a c'.b (m + 2):=by
 unfold yR
 obtain ⟨r,c1,e1,h1,h2,_,k1⟩:=uy (F:=F) (c:=Cu.mk c.v) (n:=(xs.length:Int)) h hm
 rw [e1,zb]
 have:=h2 (by omega)
 obtain ⟨i,hi⟩:∃ i:Nat,r=i:=⟨r.toNat,by omega⟩
 subst hi
 have e:idx xs ((i:Int),c1).1=some xs[i]:=UN (by omega)
 rw [e]
 exact ⟨_,_,rfl,Xc _,k1⟩
theorem QM {n:Int} (h:Ck c.v.a c.v.b m) (hm:m < 900000):∃ r c',xY F c n=some (r,c')∧Ck c'.a c'.b (m + 2):=by
 unfold xY
 obtain ⟨r,c1,e1,_,_,_,k1⟩:=uy (F:=F) (c:=Cu.mk c.v) (n:=n) h hm
 rw [e1]
 exact ⟨_,_,rfl,k1⟩
def GOk (x:Option (GR×CU)):Prop:=∃ g c',x=some (g,c')∧g.2.length≤400∧Ck c'.a c'.b 5000
theorem KY {α:Type} {xs ys:List α} (h:xs.length + ys.length≤1000):vz xs ys=some (xs++ys):=by
 unfold vz
 rw [if_pos (xI h (by decide))]
theorem zgz {o:Oh (Int×Int)} (h:Ck c.v.a c.v.b m) (hm:m≤4000) (ho:o.v.length≤300):GOk (vF F c o):=by
 unfold vF
 obtain ⟨r,c1,e1,h1,h2,_,k1⟩:=uy (F:=F) (c:=Cu.mk c.v) (n:=50) h (by omega)
 rw [e1,zb]
 have fin:GOk (some ((o.a,o.v),c1)):=⟨_,_,rfl,by show o.v.length≤400;omega,k1.le (by omega)⟩
 cases (r,c1).1 == 0 with
 | true=>
   rw [zk]
   obtain ⟨r,c2,e2,_,k2⟩:=Us (F:=F) (c:=Cu.mk c1) (xs:=[(-1),8,9,0,4611686018427387904]) k1 (by omega) (by decide)
   have e2':yR F (Cu.mk (r,c1).2) [(-1),8,9,0,4611686018427387904]=some (r,c2):=e2
   rw [e2',zb]
   exact ⟨_,_,rfl,by show o.v.length≤400;omega,k2.le (by omega)⟩
 | false=>
   rw [zh]
   cases (r,c1).1 == 1 with
   | true=>
     rw [zk]
     obtain ⟨r2,c2,e2,_,_,_,k2⟩:=uy (F:=F) (c:=Cu.mk c1) (n:=4) k1 (by omega)
     have e2':yj F (Cu.mk (r,c1).2) 4=some (r2,c2):=e2
     rw [e2',zb]
     obtain ⟨r3,c3,e3,_,_,_,k3⟩:=uy (F:=F) (c:=Cu.mk c2) (n:=9) k2 (by omega)
     have e3':yj F (Cu.mk (r2,c2).2) 9=some (r3,c3):=e3
     rw [e3',zb,KY (by simp;omega),zb]
     exact ⟨_,_,rfl,by simp;omega,k3.le (by omega)⟩
   | false=>
     rw [zh]
     cases (r,c1).1 == 2 with
     | true=>
       rw [zk]
       by_cases hl:(o.v.length:Int) > 0
       · rw [zo hl,zk]
         obtain ⟨r2,c2,e2,h3,h4,_,k2⟩:=uy (F:=F) (c:=Cu.mk c1) (n:=(o.v.length:Int)) k1 (by omega)
         have e2':yj F (Cu.mk (r,c1).2) (o.v.length:Int)=some (r2,c2):=e2
         rw [e2',zb]
         have:=h4 (by omega)
         obtain ⟨i,hi⟩:∃ i:Nat,r2=i:=⟨r2.toNat,by omega⟩
         subst hi
         have e:idx o.v ((i:Int),c2).1=some o.v[i]:=UN (by omega)
         rw [e,zb,KY (by simp;omega),zb]
         exact ⟨_,_,rfl,by simp;omega,k2.le (by omega)⟩
       · rw [zA hl,zh]
         exact fin
     | false=>exact fin
theorem Ni {a:LB} {b v n:Int} {xs:List (Int×Int)} (h:Ck a b m) (hm:m≤4000) (ho:xs.length≤300):GOk (yW F a b v n (.of xs)):=by
 unfold yW
 obtain ⟨g,c',e,h1,h2⟩:=zgz (F:=F) (c:=cu a b v) (o:=Oh.mk n xs) h hm ho
 show GOk (Option.bind (some xs) _)
 rw [zb,e,zb]
 exact ⟨g,c',rfl,h1,h2⟩
end
theorem zfB (K:Nat):∀ n:Nat,n≤8→∃ l,Yq (K + 20) (n:Int)=some ((n:Int),.of l)∧l.length≤10
 | 0,_=>⟨_,rfl,by decide⟩
 | 1,_=>⟨_,rfl,by decide⟩
 | 2,_=>⟨_,rfl,by decide⟩
 | 3,_=>⟨_,rfl,by decide⟩
 | 4,_=>⟨_,rfl,by decide⟩
 | 5,_=>⟨_,rfl,by decide⟩
 | 6,_=>⟨_,rfl,by decide⟩
 | 7,_=>⟨_,rfl,by decide⟩
 | 8,_=>⟨_,rfl,by decide⟩
 | n + 9,h=>absurd h (by omega)
theorem zcO (K:Nat):∀ n:Nat,n≤8→∃ l,uD (K + 20) (n:Int)=some ((n:Int),.of l)∧l.length≤300
 | 0,_=>⟨_,rfl,by decide⟩
 | 1,_=>⟨_,rfl,by decide⟩
 | 2,_=>⟨_,rfl,by decide⟩
 | 3,_=>⟨_,rfl,by decide⟩
 | 4,_=>⟨_,rfl,by decide⟩
 | 5,_=>⟨_,rfl,by decide⟩
 | 6,_=>⟨_,rfl,by decide⟩
 | 7,_=>⟨_,rfl,by decide⟩
 | 8,_=>⟨_,rfl,by decide⟩
 | n + 9,h=>absurd h (by omega)
theorem ziO {F n:Nat} (hF:300≤F) (h:n≤8):∃ l,ZL F (n:Int)=some ((n:Int),.of l)∧l.length≤20:=by
 obtain ⟨K,rfl⟩:∃ K,F=K + 20:=⟨F - 20,by omega⟩
 obtain ⟨l,e,hl⟩:=zfB K n h
 unfold ZL
 rw [e,zb]
 have:(((n:Int),NL.of l).2).list=l:=rfl
 rw [this,M6 (by omega) (by omega),zb]
 exact ⟨_,rfl,by rw [Mq];omega⟩
theorem zmF {F n i:Nat} {q:Int×CU} {t:Bool×CU} {c5:LB→Int→Int→NL (Int×Int)→Int→Option (GR×CU)} (hn:n≤8) (hF:500≤F) (hi:i < n)
    (H:∀ (c':CU) (ys:List (Int×Int)),Ck c'.a c'.b (50 + 40 * (i + 1))→ys.length≤10 * (i + 1)→GOk (c5 c'.a c'.b c'.c.v (.of ys) ((i + 1:Nat):Int))) :
    ∀ (d j k:Nat) (a:LB) (b v:Int) (xs:List (Int×Int)),j + d=n→d < k→Ck a b (50 + 40 * i + 2 * j)→xs.length≤10 * i + j→GOk (yr F (n:Int) q t (i:Int) c5 k a b v (.of xs) (j:Int)):=by
 have hw:w64 ((i:Int) + 1)=((i + 1:Nat):Int):=yd (n:=n) (by omega) (by unfold Sm;omega)
 intro d
 induction d with
 | zero=>
   intro j k a b v xs hj hk hc hx
   obtain ⟨k,rfl⟩:∃ k',k=k' + 1:=⟨k - 1,by omega⟩
   simp only [yr]
   rw [zA (by omega),zh,zkK,zb]
   obtain ⟨r,c1,e1,h1,_,_,k1⟩:=uy (F:=F) (c:=cu a b v) (n:=max (i:Int) 1) hc (by omega)
   rw [e1,zb]
   have hk1:Ck c1.a c1.b (50 + 40 * (i + 1)):=k1.le (by omega)
   have h4f:GOk (xk F (r,c1) (n:Int) (.of xs) q t (i:Int) c5 false):=by
    show GOk (c5 c1.a c1.b c1.c.v (.of xs) (w64 ((i:Int) + 1)))
    rw [hw];exact H c1 xs hk1 (by omega)
   have h4t:GOk (xk F (r,c1) (n:Int) (.of xs) q t (i:Int) c5 true):=by
    unfold xk
    rw [zk,show (NL.of xs).list=xs from rfl,M6 (by omega) (by omega),zb]
    show GOk (c5 c1.a c1.b c1.c.v (.of _) (w64 ((i:Int) + 1)))
    rw [hw];exact H c1 _ hk1 (by rw [Mq];omega)
   by_cases h0:(i:Int) > 0
   · rw [zo h0,zk]
     cases !t.1 with
     | false=>exact h4f
     | true=>
       rw [zk]
       obtain ⟨y,hy⟩:∃ y:Nat,r=y:=⟨r.toNat,by omega⟩
       subst hy
       have e:Z4 F ((n:Int),(NL.of xs).list) (i:Int) ((y:Int),c1).1=_:=Ma (g:=((n:Int),xs)) (F:=F) (a:=i) (b:=y) (by show xs.length < F;omega) (by show Sm xs.length;unfold Sm;omega)
       rw [e,zb]
       cases !adj ((n:Int),xs) i y with
       | false=>exact h4f
       | true=>exact h4t
   · rw [zA h0];exact h4f
 | succ d ih=>
   intro j k a b v xs hj hk hc hx
   obtain ⟨k,rfl⟩:∃ k',k=k' + 1:=⟨k - 1,by omega⟩
   simp only [yr]
   rw [zo (by omega),zk]
   obtain ⟨r,c1,e1,h1,_,_,k1⟩:=uy (F:=F) (c:=cu a b v) (n:=q.1) hc (by omega)
   rw [e1,zb]
   have hwj:w64 ((j:Int) + 1)=((j + 1:Nat):Int):=yd (n:=n) (by omega) (by unfold Sm;omega)
   cases (r,c1).1 == 0 with
   | true=>
     rw [zk,show (NL.of xs).list=xs from rfl,M6 (by omega) (by omega),zb]
     show GOk (yr F (n:Int) q t (i:Int) c5 k c1.a c1.b c1.c.v (.of _) (w64 ((j:Int) + 1)))
     rw [hwj]
     exact ih (j + 1) k _ _ _ _ (by omega) (by omega) (k1.le (by omega)) (by rw [Mq];omega)
   | false=>
     show GOk (yr F (n:Int) q t (i:Int) c5 k c1.a c1.b c1.c.v (.of xs) (w64 ((j:Int) + 1)))
     rw [hwj]
     exact ih (j + 1) k _ _ _ _ (by omega) (by omega) (k1.le (by omega)) (by omega)
theorem zmd {F n:Nat} {q:Int×CU} {t:Bool×CU} (hn:n≤8) (hF:500≤F) :
    ∀ (d i k:Nat) (a:LB) (b v:Int) (xs:List (Int×Int)),i + d=n→d < k→Ck a b (50 + 40 * i)→xs.length≤10 * i→GOk (xl F (n:Int) q t k a b v (.of xs) (i:Int)):=by
 intro d
 induction d with
 | zero=>
   intro i k a b v xs hj hk hc hx
   obtain ⟨k,rfl⟩:∃ k',k=k' + 1:=⟨k - 1,by omega⟩
   simp only [xl]
   rw [zA (by omega),zh]
   exact Ni hc (by omega) (by omega)
 | succ d ih=>
   intro i k a b v xs hj hk hc hx
   obtain ⟨k,rfl⟩:∃ k',k=k' + 1:=⟨k - 1,by omega⟩
   simp only [xl]
   rw [zo (by omega),zk,yd (n:=n) (by omega) (by unfold Sm;omega)]
   exact zmF hn hF (by omega) (fun c' ys hc' hy=>ih (i + 1) k _ _ _ _ (by omega) (by omega) hc' hy) (n - (i + 1)) (i + 1) F a b v xs (by omega) (by omega) (hc.le (by omega)) (by omega)
theorem QS {F:Nat} {c:CC} {z:Int} (h:Ck c.v.a c.v.b 0) (hF:500≤F) (h0:0≤z) (h8:z≤8):GOk (wn F c z):=by
 obtain ⟨K,hK⟩:∃ K,F=K + 20:=⟨F - 20,by omega⟩
 have j5:∀ (c1:CU) (x:Int),Ck c1.a c1.b 10→0≤x→GOk (wa F z c1.a c1.b c1.c.v x):=by
  intro c1 x k1 hx
  unfold wa
  rw [MV,zb]
  obtain ⟨n,hn⟩:∃ n:Nat,min x z=n:=⟨(min x z).toNat,by omega⟩
  have hn8:n≤8:=by omega
  rw [hn]
  obtain ⟨r,c2,e2,h1,_,_,k2⟩:=uy (F:=F) (c:=cu c1.a c1.b c1.c.v) (n:=8) k1 (by omega)
  rw [e2,zb]
  have k2':Ck c2.a c2.b 20:=k2.le (by omega)
  cases (r,c2).1 == 0 with
  | true=>
    rw [zk]
    obtain ⟨l,e,hl⟩:=zfB K n hn8
    rw [← hK] at e
    rw [e,zb]
    exact Ni k2' (by omega) (by omega)
  | false=>
    rw [zh]
    cases (r,c2).1 == 1 with
    | true=>
      rw [zk]
      by_cases h2:(n:Int) > 2
      · rw [zo h2,zk]
        obtain ⟨l,e,hl⟩:=ziO (F:=F) (by omega) hn8
        rw [e,zb]
        exact Ni k2' (by omega) (by omega)
      · rw [zA h2,zh]
        exact Ni k2' (by omega) (by simp)
    | false=>
      rw [zh]
      cases (r,c2).1 == 2 with
      | true=>
        rw [zk]
        obtain ⟨l,e,hl⟩:=zcO K n hn8
        rw [← hK] at e
        rw [e,zb]
        exact Ni k2' (by omega) (by omega)
      | false=>
        rw [zh]
        obtain ⟨r3,c3,e3,_,k3⟩:=Us (F:=F) (c:=Cu.mk c2) (xs:=[3,4,6]) k2' (by omega) (by decide)
        have e3':yR F (Cu.mk (r,c2).2) [3,4,6]=some (r3,c3):=e3
        rw [e3',zb]
        obtain ⟨r4,c4,e4,k4⟩:=QM (F:=F) (c:=Cu.mk c3) (n:=6) k3 (by omega)
        have e4':xY F (Cu.mk (r3,c3).2) 6=some (r4,c4):=e4
        rw [e4',zb]
        exact zmd hn8 hF n 0 F c4.a c4.b c4.c.v [] (by omega) (by omega) (k4.le (by omega)) (by simp)
 unfold wn
 obtain ⟨r,c1,e1,hr,k1⟩:=Us (F:=F) (c:=Cu.mk c.v) (xs:=[4,5,3,6,2,1,0]) h (by omega) (by decide)
 rw [e1,zb]
 have hr0:0≤r:=by
  have:∀ y∈([4,5,3,6,2,1,0]:List Int),0≤y:=by decide
  exact this r hr
 by_cases h6:z > 6
 · rw [zo h6,zk]
   obtain ⟨r2,c2,e2,k2⟩:=QM (F:=F) (c:=Cu.mk c1) (n:=4) k1 (by omega)
   have e2':xY F (Cu.mk (r,c1).2) 4=some (r2,c2):=e2
   rw [e2',zb]
   unfold wU
   cases (r2,c2).1 with
   | true=>
     rw [zk]
     obtain ⟨r3,c3,e3,h3,h4,_,k3⟩:=uy (F:=F) (c:=cu c2.a c2.b c2.c.v) (n:=2) k2 (by omega)
     have e3':yj F (cu (r2,c2).2.a (r2,c2).2.b (r2,c2).2.c.v) 2=some (r3,c3):=e3
     rw [e3',zb]
     have:=h4 (by omega)
     exact j5 c3 _ (k3.le (by omega)) (by show 0≤w64 (7 + r3);rw [xw (by omega) (by omega)];omega)
   | false=>exact j5 c2 r (k2.le (by omega)) hr0
 · rw [zA h6,zh]
   exact j5 c1 r (k1.le (by omega)) hr0
theorem LU {F:Nat} {c:CC} (h:Ck c.v.a c.v.b 0) (hF:500≤F):GOk (wc F c):=by
 unfold wc
 obtain ⟨g,c',e,h1,h2⟩:=QS (F:=F) (c:=Cu.mk c.v) (z:=8) h hF (by omega) (by omega)
 rw [e];exact ⟨g,c',rfl,h1,h2⟩
theorem zhZ {α:Type} {xs:List α} {a b:Nat} (h:a≤b) (hb:b≤xs.length):∃ ys,sub xs (a:Int) (b:Int)=some ys∧ys.length=b - a:=by
 unfold sub
 rw [if_pos ⟨by omega,by omega,by omega⟩]
 exact ⟨_,rfl,by simp;omega⟩
theorem M8 {F m:Nat} {g:GR} (hF:500≤F) (hm:m≤100000):∀ (d i k:Nat) (a:LB) (b v:Int) (xs:List Int),i + d=(min g.1 8).toNat→d < k→Ck a b (m + 2 * i)→xs.length=i →
    ∃ l c',xz F g k a b v xs (i:Int)=some (l,c')∧l.length≤20∧Ck c'.a c'.b (m + 1000):=by
 intro d
 have fin:∀ (i k:Nat) (a:LB) (b v:Int) (xs:List Int),¬ (i:Int) < min g.1 8→Ck a b (m + 2 * i)→xs.length=i→i≤8→∃ l c',xz F g (k + 1) a b v xs (i:Int)=some (l,c')∧l.length≤20∧Ck c'.a c'.b (m + 1000):=by
  intro i k a b v xs hi hc hx h8
  simp only [xz]
  rw [MV,zb,zA hi,zh]
  obtain ⟨r,c1,e1,k1⟩:=QM (F:=F) (c:=cu a b v) (n:=24) hc (by omega)
  rw [e1,zb]
  cases (r,c1).1 with
  | true=>
    rw [zk]
    obtain ⟨r2,c2,e2,_,k2⟩:=Us (F:=F) (c:=Cu.mk c1) (xs:=[0,(-1),8]) k1 (by omega) (by decide)
    have e2':yR F (Cu.mk (r,c1).2) [0,(-1),8]=some (r2,c2):=e2
    rw [e2',zb,KY (by simp;omega),zb]
    exact ⟨_,_,rfl,by simp;omega,k2.le (by omega)⟩
  | false=>exact ⟨_,_,rfl,by omega,k1.le (by omega)⟩
 induction d with
 | zero=>
   intro i k a b v xs hj hk hc hx
   obtain ⟨k,rfl⟩:∃ k',k=k' + 1:=⟨k - 1,by omega⟩
   exact fin i k a b v xs (by omega) hc hx (by omega)
 | succ d ih=>
   intro i k a b v xs hj hk hc hx
   obtain ⟨k,rfl⟩:∃ k',k=k' + 1:=⟨k - 1,by omega⟩
   simp only [xz]
   rw [MV,zb,zo (by omega),zk,hx,yd (n:=i + 1) (by omega) (by unfold Sm;omega)]
   obtain ⟨r,c1,e1,h1,h2,_,k1⟩:=uy (F:=F) (c:=cu a b v) (n:=((i + 1:Nat):Int)) hc (by omega)
   rw [e1,zb]
   have:=h2 (by omega)
   obtain ⟨p,hp⟩:∃ p:Nat,r=p:=⟨r.toNat,by omega⟩
   subst hp
   obtain ⟨ys,s1,s2⟩:=zhZ (xs:=xs) (a:=0) (b:=p) (by omega) (by omega)
   obtain ⟨zs,s3,s4⟩:=zhZ (xs:=xs) (a:=p) (b:=i) (by omega) (by omega)
   have s1':sub xs 0 ((p:Int),c1).1=some ys:=s1
   have s3':sub xs ((p:Int),c1).1 (i:Int)=some zs:=s3
   rw [s1',zb,KY (by simp;omega),zb,KY (by simp;omega),zb,s3',zb,KY (by simp;omega),zb]
   exact ih (i + 1) k c1.a c1.b c1.c.v _ (by omega) (by omega) (k1.le (by omega)) (by simp;omega)
theorem zf6 {F:Nat} {g:GR} (hF:500≤F):∀ (d i k:Nat) (a:LB) (b v:Int) (xs:List Int),i + d=(min g.1 8).toNat→d < k→Ck a b (5000 + 2 * i)→xs.length=i →
    ∃ l c',xz F g k a b v xs (i:Int)=some (l,c')∧l.length≤20∧Ck c'.a c'.b 6000:=M8 hF (by omega)
theorem ND {F:Nat} {code:LB} (hF:500≤F) (hc:∀ y∈code,0≤y.v∧y.v≤255):∃ g l,vH F code=some (g,l)∧g.2.length≤400∧l.length≤20:=by
 unfold vH
 obtain ⟨g,c,e,h1,h2⟩:=LU (F:=F) (c:=cu code 0 0) ⟨hc,Int.le_refl _,Int.le_refl _⟩ hF
 rw [e,zb]
 obtain ⟨l,c',e2,h3,_⟩:=zf6 (F:=F) (g:=g) hF (min g.1 8).toNat 0 F c.a c.b c.c.v [] (by omega) (by omega) (h2.le (by omega)) rfl
 have e2':wN F (Cu.mk (g,c).2) (g,c).1=some (l,c'):=e2
 rw [e2',zb]
 exact ⟨g,l,rfl,h1,h3⟩
theorem Qo {p q:Nat→Bool} {n:Nat}:w7 (fun k=>q ((zt p n).getD k 0).toNat) (zt p n).length=w7 (fun j=>!p j || q j) n:=by
 rw [yM,y6,y6]
 constructor
 · intro h j hj
   cases hp:p j with
   | false=>rfl
   | true=>
     have hm:(j:Int)∈zt p n:=wA.2 ⟨j,rfl,hj,hp⟩
     obtain ⟨t,ht,e⟩:=Yb.1 hm
     have:=h t ht
     rw [zZ,yL ht,xa,e,yi] at this
     rw [this];rfl
 · intro h k hk
   obtain ⟨y,hy,hyn,hyp⟩:=vU hk
   have:=h y hyn
   rw [hyp] at this
   simp only [hy,yi]
   simpa using this
def UD (g:Gr) (l:List Int) (i:Nat):Bool:=w7 (fun j=>!(stt g l (i + 1)).2 j || (stt g l i).2 j) g.1.toNat
def Nq (g:Gr) (l:List Int):Bool:=w7 (UD g l) l.length
theorem zke {F:Nat} {g:Gr} {l:List Int} (hw:∀ x∈l,(Lit.int .i64 x).wf=true) (hl:l.length < F) (hG:g.2.length < F) (hF:60≤F) (hsl:Sm l.length) (hs:Sm g.2.length):ZA F g l=some (bif yD g && xv g l then (Nq g l,true) else (false,false)):=by
 unfold ZA
 rw [YF hG hs,zb]
 cases hg:yD g with
 | false=>rfl
 | true=>
   have h8:=yl hg
   rw [ye,zh,Jz hg hw hF hG hl hs hsl,zb,zL]
   unfold Z8
   cases hp:xv g l with
   | false=>rfl
   | true=>
     have h40:=YM hp
     rw [ye,zh,zk,UG hg hw hp hF hG hs,zb]
     show xP F (stS g l (l.length + 1)) F ((0:Int) + 1)=_
     rw [uJ (L:=fun k i=>xP F (stS g l (l.length + 1)) k (i + 1)) (n:=l.length) (p:=UD g l) (bad:=some (false,true)) (fin:=some (true,true)) ?_ ?_ F (by omega)]
     · unfold Nq;cases w7 (UD g l) l.length <;> rfl
     · intro k i hi
       have e1:((i:Int) + 1)=((i + 1:Nat):Int):=by omega
       have hlen:(zt (stt g l (i + 1)).2 g.1.toNat).length≤8:=by rw [xg];exact xI uX (by omega)
       simp only [xP]
       rw [Zt,zo (show (i:Int) + 1 < ((l.length + 1:Nat):Int) by omega),zk,e1]
       rw [uJ (L:=fun k2 t=>uq F (stS g l (l.length + 1)) ((i + 1:Nat):Int) (xP F (stS g l (l.length + 1)) k) k2 t) (n:=(zt (stt g l (i + 1)).2 g.1.toNat).length)
        (p:=fun k=>(stt g l i).2 ((zt (stt g l (i + 1)).2 g.1.toNat).getD k 0).toNat) (bad:=some (false,true)) (fin:=xP F (stS g l (l.length + 1)) k (((i + 1:Nat):Int) + 1)) ?_ ?_ F (by omega)]
       · rw [Qo];rfl
       · intro k2 t ht
         obtain ⟨y,hy,hyn,hyp⟩:=vU ht
         simp only [uq]
         have e2:w64 (((i + 1:Nat):Int) - 1)=(i:Int):=by rw [xw (by omega) (by omega)];omega
         rw [zT (d:=([],[])) (by rw [Zt];omega),zb,UR (by omega)]
         simp only
         rw [zo (show (t:Int) < ((zt (stt g l (i + 1)).2 g.1.toNat).length:Int) by omega),zk,e2,zT (d:=([],[])) (by rw [Zt];omega),zb,UR (by omega),zb,zT (d:=0) ht,zb,hy]
         simp only
         rw [YG (by omega) hyn (by omega),zb,yi,yd ht (by unfold Sm;omega)]
         cases (stt g l i).2 y <;> rfl
       · intro k2
         simp only [uq]
         rw [zT (d:=([],[])) (by rw [Zt];omega),zb,UR (by omega)]
         simp only
         rw [zA (show ¬ ((zt (stt g l (i + 1)).2 g.1.toNat).length:Int) < ((zt (stt g l (i + 1)).2 g.1.toNat).length:Int) by omega),zh,xw (by omega) (by omega)]
     · intro k
       simp only [xP]
       rw [Zt,zA (show ¬ (l.length:Int) + 1 < ((l.length + 1:Nat):Int) by omega),zh]
theorem M3 {F:Nat} {g:Gr} {l:List Int} (hw:∀ x∈l,(Lit.int .i64 x).wf=true) (hG:g.2.length < F) (hF:60≤F) (hsl:Sm l.length) (hs:Sm g.2.length):wo F g l=some (bif yD g && xv g l then (stI g l (l.length + 1),true) else ([],false)):=by
 unfold wo
 rw [Yj hG (by omega) hs,zb]
 cases hg:yD g with
 | false=>rfl
 | true=>
   rw [ye,zh,WD hg hG hs,zb,L4 hg hw hF hsl,zb,zL]
theorem zem {F:Nat} {g:Gr} {l:List Int} (hw:∀ x∈l,(Lit.int .i64 x).wf=true) (hl:l.length < F) (hG:g.2.length < F) (hF:60≤F) (hsl:Sm l.length) (hs:Sm g.2.length):uv F g l=some (bif yD g && xv g l then (Nq g l,true) else (false,false)):=by
 unfold uv
 rw [M3 hw hG hF hsl hs,zb]
 cases hgp:(yD g && xv g l) with
 | false=>rfl
 | true=>
   simp only [zq] at hgp
   have h8:=yl hgp.1
   have h40:=YM hgp.2
   simp only [zk,ye,zh]
   show vp F (stI g l (l.length + 1),true) F ((0:Int) + 1)=_
   rw [uJ (L:=fun k i=>vp F (stI g l (l.length + 1),true) k (i + 1)) (n:=l.length) (p:=UD g l) (bad:=some (false,true)) (fin:=some (true,true)) ?_ ?_ F (by omega)]
   · unfold Nq;cases w7 (UD g l) l.length <;> rfl
   · intro k i hi
     have e1:((i:Int) + 1)=((i + 1:Nat):Int):=by omega
     have e2:w64 (((i + 1:Nat):Int) - 1)=(i:Int):=by rw [xw (by omega) (by omega)];omega
     simp only [vp]
     rw [Zm,zo (show (i:Int) + 1 < ((l.length + 1:Nat):Int) by omega),zk,e1,zT (d:=(0,0)) (by rw [Zm];omega),zb,UE (by omega),e2,zT (d:=(0,0)) (by rw [Zm];omega),zb,UE (by omega)]
     simp only
     obtain ⟨c,hc,_,hb⟩:=YO (ww (p:=(stt g l (i + 1)).2) (n:=g.1.toNat) (by omega)) (ww (p:=(stt g l i).2) (n:=g.1.toNat) (by omega))
     have hiff:((yS .i64 ((mkm (stt g l (i + 1)).2 g.1.toNat:Nat):Int) ((mkm (stt g l i).2 g.1.toNat:Nat):Int)) != 0)=!UD g l i:=by
      rw [hc]
      have:c=0↔UD g l i=true:=by
       unfold UD
       rw [y6]
       constructor
       · intro h j hj
         have:=hb j
         rw [h,xH,yh,yh,zo hj,zL,zL] at this
         cases h1:(stt g l (i + 1)).2 j with
         | false=>rfl
         | true=>rw [h1] at this;simpa using this
       · intro h
         apply wQ
         intro j
         rw [hb,xH,yh,yh]
         by_cases hj:j < g.1.toNat
         · have:=h j hj
           rw [zo hj,zL,zL]
           cases h1:(stt g l (i + 1)).2 j <;> cases h2:(stt g l i).2 j <;> simp_all
         · rw [zA hj];rfl
      cases hs:UD g l i with
      | true=>simp [this.2 hs]
      | false=>
        have:c≠0:=fun h=>by rw [this.1 h] at hs;cases hs
        simp [this]
     rw [hiff,xw (by omega) (by omega)]
     cases UD g l i <;> rfl
   · intro k
     simp only [vp]
     rw [Zm,zA (show ¬ (l.length:Int) + 1 < ((l.length + 1:Nat):Int) by omega),zh]
def u6 (g:Gr) (l:List Int) (k:Nat):Int:=(List.range k).foldl (fun s i=>max s (yu (stt g l i).1 g.1.toNat:Int)) 0
theorem Wv {g:Gr} {l:List Int} {k:Nat}:u6 g l (k + 1)=max (u6 g l k) (yu (stt g l k).1 g.1.toNat:Int):=by simp [u6,uB]
theorem ziz {F:Nat} {g:Gr} {l:List Int} (hw:∀ x∈l,(Lit.int .i64 x).wf=true) (hl:l.length < F) (hG:g.2.length < F) (hF:60≤F) (hsl:Sm l.length) (hs:Sm g.2.length):wt F g l=some (bif yD g && xv g l then (u6 g l (l.length + 1),true) else (0,false)):=by
 unfold wt
 rw [YF hG hs,zb]
 cases hg:yD g with
 | false=>rfl
 | true=>
   have h8:=yl hg
   rw [ye,zh,Jz hg hw hF hG hl hs hsl,zb,zL]
   unfold vE
   cases hp:xv g l with
   | false=>rfl
   | true=>
     have h40:=YM hp
     rw [ye,zh,zk,UG hg hw hp hF hG hs,zb]
     refine xA (L:=fun k i s=>xR F (stS g l (l.length + 1)) k s i) (n:=l.length + 1) (fun i s=>s=u6 g l i) ?_ ?_ F _ (by omega) rfl
     · intro k i s hi hI
       subst hI
       refine ⟨_,rfl,?_⟩
       simp only [xR]
       rw [Zt,zo (show (i:Int) < ((l.length + 1:Nat):Int) by omega),zk,zT (d:=([],[])) (by rw [Zt];omega),zb,UR (by omega),Wv,yd hi (by unfold Sm;omega)]
       simp only [xg]
       unfold YX
       by_cases h:u6 g l i > (yu (stt g l i).1 g.1.toNat:Int)
       · rw [zo h,zk,zb,Int.max_eq_left (by omega)]
       · rw [zA h,zh,zb,Int.max_eq_right (by omega)]
     · intro k s hI
       subst hI
       simp only [xR]
       rw [Zt,zA (show ¬ ((l.length + 1:Nat):Int) < ((l.length + 1:Nat):Int) by omega),zh]
theorem zbR {F:Nat} {g:Gr} {l:List Int} (hw:∀ x∈l,(Lit.int .i64 x).wf=true) (hl:l.length < F) (hG:g.2.length < F) (hF:60≤F) (hsl:Sm l.length) (hs:Sm g.2.length):xF F g l=some (bif yD g && xv g l then (u6 g l (l.length + 1),true) else (0,false)):=by
 unfold xF
 rw [M3 hw hG hF hsl hs,zb]
 cases hgp:(yD g && xv g l) with
 | false=>rfl
 | true=>
   simp only [zq] at hgp
   have h8:=yl hgp.1
   have h40:=YM hgp.2
   simp only [zk,ye,zh]
   refine xA (L:=fun k i s=>xS F (stI g l (l.length + 1),true) k s i) (n:=l.length + 1) (fun i s=>s=u6 g l i) ?_ ?_ F _ (by omega) rfl
   · intro k i s hi hI
     subst hI
     refine ⟨_,rfl,?_⟩
     simp only [xS]
     rw [Zm,zo (show (i:Int) < ((l.length + 1:Nat):Int) by omega),zk,zT (d:=(0,0)) (by rw [Zm];omega),zb,UE (by omega),Wv,yd hi (by unfold Sm;omega)]
     simp only
     rw [zfU (zfq (by omega)),zb,zcQ (by omega)]
     by_cases h:(yu (stt g l i).1 g.1.toNat:Int) > u6 g l i
     · rw [if_pos h,Int.max_eq_right (by omega)]
     · rw [if_neg h,Int.max_eq_left (by omega)]
   · intro k s hI
     subst hI
     simp only [xS]
     rw [Zm,zA (show ¬ ((l.length + 1:Nat):Int) < ((l.length + 1:Nat):Int) by omega),zh]
def Sb1 (a b:Nat):Prop:=∃ x,∀ j,b.testBit j=true→a.testBit j=true∨j=x
def Sbs (a b:Nat):Prop:=∀ j,a.testBit j=true→b.testBit j=true
theorem Wy {a b j:Nat}:(a &&& b).testBit j=(a.testBit j && b.testBit j):=Nat.testBit_and a b j
theorem JI {a b j:Nat}:(a ||| b).testBit j=(a.testBit j || b.testBit j):=ZN a b j
structure znL (n:Nat) (f:Nat→Nat) (w m:Nat) (c:Nat→Nat):Prop where
 zero:c 0=0
 last:c m=2 ^ n - 1
 lt:∀ i,i≤m→c i < 2 ^ n
 stp:∀ i,i < m→Sb1 (c i) (c (i + 1))
 wid:∀ i,i≤m→f (c i)≤w
def pcN (n a:Nat):Nat:=yu a.testBit n
def wgt (n:Nat) (f:Nat→Nat) (c:Nat→Nat) (m:Nat):Nat:=Xk (fun i=>16 * f (c i) + 16 + pcN n (c i)) (m + 1)
theorem zaJ {f f':Nat→Nat} {t:Nat}:∀ {n:Nat},t < n→(∀ i,i≠t→f' i=f i)→Xk f' n + f t=Xk f n + f' t
 | 0,h,_=>by omega
 | n + 1,h,hf=>by
   simp only [Xk]
   by_cases e:t=n
   · subst e
     have:=JP (f:=f') (g:=f) (n:=t) fun i hi=>hf i (by omega)
     omega
   · have:=zaJ (n:=n) (by omega) hf
     have:=hf n (by omega)
     omega
theorem zfj {f f':Nat→Nat} {t:Nat}:∀ {n:Nat},t≤n→(∀ i,f' i=if i < t then f i else f (i + 1))→Xk f' n + f t=Xk f (n + 1)
 | 0,h,hf=>by
   obtain rfl:t=0:=by omega
   simp [Xk]
 | n + 1,h,hf=>by
   by_cases e:t=n + 1
   · subst e
     have:=JP (f:=f') (g:=f) (n:=n + 1) fun i hi=>by rw [hf,if_pos hi]
     rw [this];simp only [Xk]
   · have h1:=zfj (n:=n) (by omega) hf
     have h2:f' n=f (n + 1):=by rw [hf,if_neg (by omega)]
     rw [show Xk f' (n + 1)=Xk f' n + f' n from rfl,show Xk f (n + 1 + 1)=Xk f (n + 1) + f (n + 1) from rfl,h2]
     omega
theorem zmU {n a b:Nat} (h:Sbs a b) (hb:b < 2 ^ n):a < 2 ^ n:=by
 apply Nat.lt_pow_two_of_testBit
 intro i hi
 cases e:a.testBit i with
 | false=>rfl
 | true=>
   have:=h i e
   rw [Nat.testBit_lt_two_pow (vq hb (vx (by decide) hi))] at this
   cases this
theorem zrK {n a b x:Nat} (h:Sbs a b) (hx:x < n) (h1:a.testBit x=false) (h2:b.testBit x=true):pcN n a < pcN n b:=by
 unfold pcN
 have e:yu a.testBit n + 1≤yu b.testBit n:=by
  have h3:yu (fun j=>a.testBit j || j == x) n≤yu b.testBit n:=Ui fun j _ hj=>by
   rw [yU,yA] at hj
   rcases hj with hj | rfl
   · exact h j hj
   · exact h2
  have h4:yu (fun j=>a.testBit j || j == x) n=yu a.testBit n + 1:=by
   clear h h3
   unfold yu
   induction n with
   | zero=>omega
   | succ n ih=>
     rw [uB,List.countP_append,List.countP_append]
     by_cases e:x=n
     · subst e
       have:(List.range x).countP (fun j=>a.testBit j || j == x)=(List.range x).countP a.testBit:=by
        apply List.countP_congr
        intro j hj
        rw [ZT] at hj
        have:(j == x)=false:=by simp;omega
        rw [this,wy]
       rw [this]
       simp [h1]
     · have:=ih (by omega)
       rw [this]
       have e2:(n == x)=false:=by simp;omega
       simp [e2]
       omega
  omega
 omega
theorem zdL {n w:Nat} {f:Nat→Nat} (hn:n≤8) (hsub:∀ a b,a < 2 ^ n→b < 2 ^ n→f (a &&& b) + f (a ||| b)≤f a + f b) :
    ∀ M m c,znL n f w m c→wgt n f c m≤M→∃ m c,znL n f w m c∧∀ i,i < m→∃ x,x < n∧(c i).testBit x=false∧c (i + 1)=c i ||| 2 ^ x:=by
 intro M
 induction M with
 | zero=>
   intro m c _ h
   unfold wgt at h
   rw [show Xk (fun i=>16 * f (c i) + 16 + pcN n (c i)) (m + 1)=Xk (fun i=>16 * f (c i) + 16 + pcN n (c i)) m + (16 * f (c m) + 16 + pcN n (c m)) from rfl] at h
   omega
 | succ M ih=>
   intro m c hc hM
   have hpc:∀ a,pcN n a≤8:=fun a=>xI uX hn
   by_cases h1:∃ i,i < m∧Sbs (c (i + 1)) (c i)
   · -- one that grows by nothing is left out
     obtain ⟨i,hi,hs⟩:=h1
     refine ih (m - 1) (fun j=>if j < i then c j else c (j + 1)) ⟨?_,?_,?_,?_,?_⟩ ?_
     · show (if 0 < i then c 0 else c (0 + 1))=0
       by_cases e:0 < i
       · rw [if_pos e];exact hc.zero
       · rw [if_neg e]
         obtain rfl:i=0:=by omega
         apply wQ
         intro j
         rw [xH]
         cases e2:(c (0 + 1)).testBit j with
         | false=>rfl
         | true=>have:=hs j e2;rw [hc.zero,xH] at this;cases this
     · show (if m - 1 < i then c (m - 1) else c (m - 1 + 1))=_
       rw [if_neg (by omega),show m - 1 + 1=m by omega];exact hc.last
     · intro j hj
       show (if j < i then c j else c (j + 1)) < _
       split
       · exact hc.lt _ (by omega)
       · exact hc.lt _ (by omega)
     · intro j hj
       show Sb1 (if j < i then c j else c (j + 1)) (if j + 1 < i then c (j + 1) else c (j + 1 + 1))
       by_cases e:j + 1 < i
       · rw [if_pos (by omega),if_pos e];exact hc.stp _ (by omega)
       · rw [if_neg e]
         by_cases e2:j < i
         · rw [if_pos e2]
           obtain rfl:i=j + 1:=by omega
           obtain ⟨x,hx⟩:=hc.stp j (by omega)
           exact ⟨x,fun k hk=>hx k (hs k hk)⟩
         · rw [if_neg e2];exact hc.stp _ (by omega)
     · intro j hj
       show f (if j < i then c j else c (j + 1))≤w
       split
       · exact hc.wid _ (by omega)
       · exact hc.wid _ (by omega)
     · have:=zfj (f:=fun i=>16 * f (c i) + 16 + pcN n (c i)) (f':=fun j=>16 * f (if j < i then c j else c (j + 1)) + 16 + pcN n (if j < i then c j else c (j + 1))) (t:=i) (n:=m) (by omega) (fun j=>by split <;> rfl)
       unfold wgt at hM
       show Xk (fun j=>16 * f (if j < i then c j else c (j + 1)) + 16 + pcN n (if j < i then c j else c (j + 1))) (m - 1 + 1)≤M
       rw [show m - 1 + 1=m by omega]
       omega
   · have h1':∀ i,i < m→∃ x,(c (i + 1)).testBit x=true∧(c i).testBit x=false:=by
      intro i hi
      refine Classical.byContradiction fun hne=>h1 ⟨i,hi,fun j hj=>?_⟩
      cases e:(c i).testBit j with
      | true=>rfl
      | false=>exact absurd ⟨j,hj,e⟩ hne
     by_cases h2:∃ i,i < m∧f (c i ||| c (i + 1)) < f (c (i + 1))
     · -- a set becomes greater
       obtain ⟨i,hi,hf⟩:=h2
       have hl1:=hc.lt i (by omega)
       have hl2:=hc.lt (i + 1) (by omega)
       have hor:=Nat.or_lt_two_pow hl1 hl2
       have him:i + 1 < m:=by
        refine Classical.byContradiction fun hne=>?_
        obtain rfl:m=i + 1:=by omega
        have:c i ||| c (i + 1)=c (i + 1):=by
         apply wQ
         intro j
         rw [JI]
         cases e:(c i).testBit j with
         | false=>rfl
         | true=>
           rw [hc.last,Nat.testBit_two_pow_sub_one]
           have:j < n:=by
            refine Classical.byContradiction fun hj=>?_
            rw [Nat.testBit_lt_two_pow (vq hl1 (vx (by decide) (by omega)))] at e
            cases e
           rw [zo this];rfl
        rw [this] at hf;omega
       refine ih m (fun j=>if j=i + 1 then c i ||| c (i + 1) else c j) ⟨?_,?_,?_,?_,?_⟩ ?_
       · show (if 0=i + 1 then _ else c 0)=0
         rw [if_neg (by omega)];exact hc.zero
       · show (if m=i + 1 then _ else c m)=_
         rw [if_neg (by omega)];exact hc.last
       · intro j hj
         show (if j=i + 1 then _ else c j) < _
         split
         · exact hor
         · exact hc.lt _ hj
       · intro j hj
         show Sb1 (if j=i + 1 then _ else c j) (if j + 1=i + 1 then _ else c (j + 1))
         by_cases e:j=i
         · subst e
           rw [if_neg (by omega),if_pos rfl]
           obtain ⟨x,hx⟩:=hc.stp j hj
           refine ⟨x,fun k hk=>?_⟩
           rw [JI,yU] at hk
           rcases hk with hk | hk
           · exact .inl hk
           · exact hx k hk
         · rw [if_neg (show ¬ j + 1=i + 1 by omega)]
           by_cases e2:j=i + 1
           · subst e2
             rw [if_pos rfl]
             obtain ⟨x,hx⟩:=hc.stp (i + 1) hj
             refine ⟨x,fun k hk=>?_⟩
             rcases hx k hk with h | h
             · exact .inl (by rw [JI,h,Bool.or_true])
             · exact .inr h
           · rw [if_neg e2];exact hc.stp _ hj
       · intro j hj
         show f (if j=i + 1 then _ else c j)≤w
         split
         · have:=hc.wid (i + 1) (by omega);omega
         · exact hc.wid _ hj
       · have:=zaJ (f:=fun i=>16 * f (c i) + 16 + pcN n (c i)) (f':=fun j=>16 * f (if j=i + 1 then c i ||| c (i + 1) else c j) + 16 + pcN n (if j=i + 1 then c i ||| c (i + 1) else c j)) (t:=i + 1) (n:=m + 1) (by omega) (fun j hj=>by simp only [if_neg hj])
         unfold wgt at hM
         show Xk (fun j=>16 * f (if j=i + 1 then c i ||| c (i + 1) else c j) + 16 + pcN n (if j=i + 1 then c i ||| c (i + 1) else c j)) (m + 1)≤M
         simp only [if_true] at this
         have h3:=hpc (c i ||| c (i + 1))
         omega
     · by_cases h3:∃ i x,i < m∧(c i).testBit x=true∧(c (i + 1)).testBit x=false
       · -- a set becomes less
         obtain ⟨i,x,hi,hx1,hx2⟩:=h3
         have hl1:=hc.lt i (by omega)
         have hl2:=hc.lt (i + 1) (by omega)
         have hs:=hsub _ _ hl1 hl2
         have hf:f (c i &&& c (i + 1))≤f (c i):=by
          have:¬ f (c i ||| c (i + 1)) < f (c (i + 1)):=fun h=>h2 ⟨i,hi,h⟩
          omega
         have hxn:x < n:=by
          refine Classical.byContradiction fun hj=>?_
          rw [Nat.testBit_lt_two_pow (vq hl1 (vx (by decide) (by omega)))] at hx1
          cases hx1
         have hi0:0 < i:=by
          refine Classical.byContradiction fun hne=>?_
          obtain rfl:i=0:=by omega
          rw [hc.zero,xH] at hx1;cases hx1
         have hpl:pcN n (c i &&& c (i + 1)) < pcN n (c i):=zrK (x:=x) (fun j hj=>by rw [Wy,zq] at hj;exact hj.1) hxn (by rw [Wy,hx2,YC]) hx1
         refine ih m (fun j=>if j=i then c i &&& c (i + 1) else c j) ⟨?_,?_,?_,?_,?_⟩ ?_
         · show (if 0=i then _ else c 0)=0
           rw [if_neg (by omega)];exact hc.zero
         · show (if m=i then _ else c m)=_
           rw [if_neg (by omega)];exact hc.last
         · intro j hj
           show (if j=i then _ else c j) < _
           split
           · exact zmU (fun k hk=>by rw [Wy,zq] at hk;exact hk.1) hl1
           · exact hc.lt _ hj
         · intro j hj
           show Sb1 (if j=i then _ else c j) (if j + 1=i then _ else c (j + 1))
           by_cases e:j=i
           · subst e
             rw [if_pos rfl,if_neg (by omega)]
             obtain ⟨y,hy⟩:=hc.stp j hj
             refine ⟨y,fun k hk=>?_⟩
             rcases hy k hk with h | h
             · exact .inl (by rw [Wy,h,hk];rfl)
             · exact .inr h
           · rw [if_neg e]
             by_cases e2:j + 1=i
             · subst e2
               rw [if_pos rfl]
               obtain ⟨y,hy⟩:=hc.stp j hj
               exact ⟨y,fun k hk=>hy k (by rw [Wy,zq] at hk;exact hk.1)⟩
             · rw [if_neg e2];exact hc.stp _ hj
         · intro j hj
           show f (if j=i then _ else c j)≤w
           split
           · have:=hc.wid i (by omega);omega
           · exact hc.wid _ hj
         · have:=zaJ (f:=fun i=>16 * f (c i) + 16 + pcN n (c i)) (f':=fun j=>16 * f (if j=i then c i &&& c (i + 1) else c j) + 16 + pcN n (if j=i then c i &&& c (i + 1) else c j)) (t:=i) (n:=m + 1) (by omega) (fun j hj=>by simp only [if_neg hj])
           unfold wgt at hM
           show Xk (fun j=>16 * f (if j=i then c i &&& c (i + 1) else c j) + 16 + pcN n (if j=i then c i &&& c (i + 1) else c j)) (m + 1)≤M
           simp only [if_true] at this
           omega
       · refine ⟨m,c,hc,fun i hi=>?_⟩
         obtain ⟨x,hx1,hx2⟩:=h1' i hi
         obtain ⟨y,hy⟩:=hc.stp i hi
         have hxy:x=y:=by
          rcases hy x hx1 with h | h
          · rw [hx2] at h;cases h
          · exact h
         subst hxy
         have hl2:=hc.lt (i + 1) (by omega)
         have hxn:x < n:=by
          refine Classical.byContradiction fun hj=>?_
          rw [Nat.testBit_lt_two_pow (vq hl2 (vx (by decide) (by omega)))] at hx1
          cases hx1
         refine ⟨x,hxn,hx2,?_⟩
         apply wQ
         intro j
         rw [JI,Z2,yM,yU,yn]
         constructor
         · intro hj
           rcases hy j hj with h | h
           · exact .inl h
           · exact .inr h.symm
         · rintro (h | rfl)
           · cases e:(c (i + 1)).testBit j with
             | true=>rfl
             | false=>exact absurd ⟨i,j,hi,h,e⟩ h3
           · exact hx1
theorem zkL {n w:Nat} {f:Nat→Nat} (hn:n≤8) (hsub:∀ a b,a < 2 ^ n→b < 2 ^ n→f (a &&& b) + f (a ||| b)≤f a + f b) {m:Nat} {c:Nat→Nat} (hc:znL n f w m c):Ch n (fun a=>(f a:Int)) (w:Int) 0 (2 ^ n - 1):=by
 obtain ⟨m',c',h1,h2⟩:=zdL hn hsub _ m c hc (yF _)
 have key:∀ i,i≤m'→Ch n (fun a=>(f a:Int)) (w:Int) 0 (c' i):=by
  intro i
  induction i with
  | zero=>intro _;rw [h1.zero];exact .refl 0
  | succ i ih=>
    intro hi
    obtain ⟨x,hx,hb,e⟩:=h2 i (by omega)
    rw [e]
    refine zka (ih (by omega)) hx hb ?_
    have:=h1.wid (i + 1) hi
    rw [e] at this
    show ((f (c' i ||| 2 ^ x):Nat):Int)≤w
    omega
 have:=key m' (yF _)
 rwa [h1.last] at this
def nxS (g:Gr) (s:Nat×Nat) (step:Int):Nat×Nat:=(mkm (xi s.1.testBit step) g.1.toNat,mkm (spr g (fun j=>!xi s.1.testBit step j) s.2.testBit) g.1.toNat)
def cnS (g:Gr) (k:Int) (s:Nat×Nat) (step:Int):Bool:=Xu g.1.toNat s.1.testBit step && !(decide (step≥0) && ((pcN g.1.toNat s.1:Int) == k))
inductive Rch (g:Gr) (k:Int):Nat×Nat→Prop
 | init:Rch g k (0,2 ^ g.1.toNat - 1)
 | step {s:Nat×Nat} {step:Int}:Rch g k s→cnS g k s step=true→Rch g k (nxS g s step)
structure Gst (g:Gr) (k:Int) (s:Nat×Nat):Prop where
 lt1:s.1 < 2 ^ g.1.toNat
 lt2:s.2 < 2 ^ g.1.toNat
 dis:∀ j,s.1.testBit j=true→s.2.testBit j=false
 cl:∀ a b,adj g a b=true→s.2.testBit a=true→s.1.testBit b=false→s.2.testBit b=true
 sz:(pcN g.1.toNat s.1:Int)≤k
theorem KA {p:Nat→Bool} {x:Nat} (hx:p x=false):∀ {n:Nat},x < n→yu (fun j=>p j || j == x) n=yu p n + 1
 | 0,h=>by omega
 | n + 1,h=>by
   unfold yu
   rw [uB,List.countP_append,List.countP_append]
   by_cases e:x=n
   · subst e
     have:(List.range x).countP (fun j=>p j || j == x)=(List.range x).countP p:=by
      apply List.countP_congr
      intro j hj
      rw [ZT] at hj
      have:(j == x)=false:=by simp;omega
      rw [this,wy]
     rw [this]
     simp [hx]
   · have:=KA hx (n:=n) (by omega)
     unfold yu at this
     rw [this]
     have e2:(n == x)=false:=by simp;omega
     simp [e2]
     omega
theorem UM {p:Nat→Bool} {step:Int} (h:0≤step) (j:Nat):xi p step j=(p j || j == step.toNat):=by
 unfold xi xx
 rw [if_neg (by omega),if_neg (by omega)]
theorem zcq {p:Nat→Bool} {step:Int} (h:step < 0) {j:Nat} (hj:xi p step j=true):p j=true:=by
 unfold xi at hj
 rw [if_pos h,zq] at hj
 exact hj.1
theorem MO {n:Nat} {p:Nat→Bool} {step:Int} (h:0≤step) (hc:Xu n p step=true):step.toNat < n∧p step.toNat=false:=by
 unfold Xu xx at hc
 rw [if_neg (by omega),zq,yn,zA (by omega),yA] at hc
 exact ⟨by omega,hc.2⟩
theorem ziM {g:Gr} (hg:yD g=true) {k:Int} (hk:0≤k):Gst g k (0,2 ^ g.1.toNat - 1):=by
 have:=w4 g.1.toNat
 refine ⟨by omega,by show 2 ^ g.1.toNat - 1 < _;omega,fun j hj=>?_,fun a b h _ _=>?_,?_⟩
 · rw [xH] at hj;cases hj
 · show (2 ^ g.1.toNat - 1).testBit b=true
   rw [Nat.testBit_two_pow_sub_one]
   have:=Jp hg h
   exact zo (by omega)
 · show ((yu (Nat.testBit 0) g.1.toNat:Nat):Int)≤k
   have:yu (Nat.testBit 0) g.1.toNat=0:=by
    unfold yu
    rw [List.countP_eq_zero]
    intro j _
    rw [xH];simp
   rw [this];exact hk
theorem zjf {g:Gr} (hg:yD g=true) {k:Int} {s:Nat×Nat} {step:Int} (hs:Gst g k s) (hc:cnS g k s step=true):Gst g k (nxS g s step):=by
 unfold cnS at hc
 rw [zq] at hc
 obtain ⟨hc,hk⟩:=hc
 refine ⟨Kf,Kf,fun j hj=>?_,fun a b hab ha hb=>?_,?_⟩
 · show (mkm (spr g (fun j=>!xi s.1.testBit step j) s.2.testBit) g.1.toNat).testBit j=false
   have h1:(mkm (xi s.1.testBit step) g.1.toNat).testBit j=true:=hj
   rw [yh,zq] at h1
   rw [yh]
   cases e:spr g (fun j=>!xi s.1.testBit step j) s.2.testBit j with
   | false=>rw [YC]
   | true=>
     unfold spr at e
     obtain ⟨y,hy,h⟩:=uj.1 e
     simp only [zq] at h
     have:=zjT (p:=fun j=>!xi s.1.testBit step j) h.1.2 h.2
     simp only [h1.2] at this
     cases this
 · show (mkm (spr g (fun j=>!xi s.1.testBit step j) s.2.testBit) g.1.toNat).testBit b=true
   have h1:(mkm (spr g (fun j=>!xi s.1.testBit step j) s.2.testBit) g.1.toNat).testBit a=true:=ha
   have h2:(mkm (xi s.1.testBit step) g.1.toNat).testBit b=false:=hb
   have hl:=Jp hg hab
   have hbn:b < g.1.toNat:=by omega
   rw [yh,zo hbn,zL] at h2 ⊢
   rw [yh,zq] at h1
   obtain ⟨_,e⟩:=h1
   unfold spr at e ⊢
   obtain ⟨y,hy,h⟩:=uj.1 e
   refine uj.2 ⟨y,hy,?_⟩
   simp only [zq] at h ⊢
   refine ⟨h.1,LH hg hy h.1.2 h.2 ?_ hab⟩
   simp only [h2];rfl
 · show ((yu (mkm (xi s.1.testBit step) g.1.toNat).testBit g.1.toNat:Nat):Int)≤k
   have e1:yu (mkm (xi s.1.testBit step) g.1.toNat).testBit g.1.toNat=yu (xi s.1.testBit step) g.1.toNat:=ZW fun j hj=>by rw [yh,zo hj,zL]
   rw [e1]
   have hsz:=hs.sz
   unfold pcN at hsz hk
   by_cases h:step < 0
   · have:=Ui (p:=xi s.1.testBit step) (q:=s.1.testBit) (n:=g.1.toNat) fun j _ hj=>zcq h hj
     omega
   · obtain ⟨h1,h2⟩:=MO (by omega) hc
     have e2:yu (xi s.1.testBit step) g.1.toNat=yu s.1.testBit g.1.toNat + 1:=by
      rw [← KA h2 h1]
      exact ZW fun j _=>UM (by omega) j
     rw [zo (show step≥0 by omega),zL,yE,beq_eq_false_iff_ne] at hk
     omega
theorem zfd {g:Gr} (hg:yD g=true) {k:Int} (hk:0≤k) {s:Nat×Nat} (h:Rch g k s):Gst g k s:=by
 induction h with
 | init=>exact ziM hg hk
 | step _ hc ih=>exact zjf hg ih hc
def frN (g:Gr) (a:Nat):Nat:=yu (frt g a.testBit) g.1.toNat
def cmM (n a:Nat):Nat:=mkm (fun j=>!a.testBit j) n
theorem Kl {n a j:Nat} (hj:j < n):(cmM n a).testBit j=!a.testBit j:=by unfold cmM;rw [yh,zo hj,zL]
theorem zi8 {n a j:Nat} (h:(cmM n a).testBit j=true):j < n:=by
 unfold cmM at h;rw [yh,zq,yn] at h;exact h.1
theorem YW {g:Gr} (hg:yD g=true) {p:Nat→Bool} {j:Nat}:frt g p j=true↔p j=true∧∃ y,adj g j y=true∧p y=false:=by
 unfold frt
 rw [zq,uj]
 constructor
 · rintro ⟨h1,y,hy,h2⟩
   rw [zq,yE] at h2
   exact ⟨h1,y,h2⟩
 · rintro ⟨h1,y,h2,h3⟩
   have:=Jp hg h2
   exact ⟨h1,y,by omega,by rw [h2,h3];rfl⟩
def b2n (b:Bool):Nat:=if b then 1 else 0
theorem ze2 {p q u v:Nat→Bool}:∀ {n:Nat},(∀ j,j < n→b2n (p j) + b2n (q j)≤b2n (u j) + b2n (v j))→yu p n + yu q n≤yu u n + yu v n
 | 0,_=>by simp [yu]
 | n + 1,h=>by
   have ih:=ze2 (n:=n) fun j hj=>h j (by omega)
   have e:∀ r:Nat→Bool,yu r (n + 1)=yu r n + b2n (r n):=by
    intro r
    unfold yu b2n
    rw [uB,List.countP_append]
    simp [List.countP_cons]
   have:=h n (by omega)
   rw [e,e,e,e]
   omega
theorem zkM {g:Gr} (hg:yD g=true) (a b:Nat):frN g (a &&& b) + frN g (a ||| b)≤frN g a + frN g b:=by
 unfold frN
 refine ze2 fun j _=>?_
 have e1:∀ r:Nat,frt g r.testBit j=true↔r.testBit j=true∧∃ y,adj g j y=true∧r.testBit y=false:=fun r=>YW hg
 have h1:∀ x:Bool,b2n x≤1:=by intro x;cases x <;> decide
 have hand:frt g (a &&& b).testBit j=true→a.testBit j=true∧b.testBit j=true∧(frt g a.testBit j=true∨frt g b.testBit j=true):=by
  intro h
  obtain ⟨h2,y,h3,h4⟩:=(e1 _).1 h
  rw [Wy,zq] at h2
  rw [Wy] at h4
  refine ⟨h2.1,h2.2,?_⟩
  cases e:a.testBit y with
  | false=>exact .inl ((e1 a).2 ⟨h2.1,y,h3,e⟩)
  | true=>
    rw [e,zL] at h4
    exact .inr ((e1 b).2 ⟨h2.2,y,h3,h4⟩)
 have hor:frt g (a ||| b).testBit j=true→(a.testBit j=true→frt g a.testBit j=true)∧(b.testBit j=true→frt g b.testBit j=true)∧(a.testBit j=true∨b.testBit j=true):=by
  intro h
  obtain ⟨h2,y,h3,h4⟩:=(e1 _).1 h
  rw [JI,yU] at h2
  rw [JI,Bool.or_eq_false_iff] at h4
  exact ⟨fun h5=>(e1 a).2 ⟨h5,y,h3,h4.1⟩,fun h5=>(e1 b).2 ⟨h5,y,h3,h4.2⟩,h2⟩
 cases h2:frt g (a &&& b).testBit j with
 | true=>
   obtain ⟨h3,h4,h5⟩:=hand h2
   cases h6:frt g (a ||| b).testBit j with
   | true=>
     obtain ⟨h7,h8,_⟩:=hor h6
     rw [h7 h3,h8 h4];decide
   | false=>
     rcases h5 with h | h
     · rw [h];show 1 + 0≤1 + _;omega
     · rw [h];show 1 + 0≤_ + 1;omega
 | false=>
   cases h6:frt g (a ||| b).testBit j with
   | true=>
     obtain ⟨h7,h8,h9⟩:=hor h6
     rcases h9 with h | h
     · rw [h7 h];show 0 + 1≤1 + _;omega
     · rw [h8 h];show 0 + 1≤_ + 1;omega
   | false=>show 0 + 0≤_;omega
theorem zgW {g:Gr} (hg:yD g=true) {k:Int} {s:Nat×Nat} (hs:Gst g k s):frN g (cmM g.1.toNat s.2)≤pcN g.1.toNat s.1:=by
 unfold frN pcN
 refine Ui fun j hj h=>?_
 obtain ⟨h1,y,h2,h3⟩:=(YW hg).1 h
 have hl:=Jp hg h2
 rw [Kl hj,yE] at h1
 rw [Kl (by omega),Bool.not_eq_false'] at h3
 cases e:s.1.testBit j with
 | true=>rfl
 | false=>
   have:=hs.cl y j (by rw [zct];exact h2) h3 e
   rw [h1] at this;cases this
theorem ziG {g:Gr} (hg:yD g=true) {w:Nat} {s:Nat×Nat} (h:Rch g ((w:Int) + 1) s) :
    ∃ (m:Nat) (c:Nat→Nat),c 0=0∧(∀ i,i≤m→c i < 2 ^ g.1.toNat)∧(∀ i,i < m→Sb1 (c i) (c (i + 1)))∧(∀ i,i≤m→frN g (c i)≤w)∧Sb1 (c m) (cmM g.1.toNat s.2):=by
 induction h with
 | init=>
   refine ⟨0,fun _=>0,rfl,fun _ _=>w4 _,fun _ h=>absurd h (by omega),fun i _=>?_,⟨0,fun j hj=>?_⟩⟩
   · unfold frN
     have:yu (frt g (Nat.testBit 0)) g.1.toNat=0:=by
      unfold yu
      rw [List.countP_eq_zero]
      intro j _ h
      have:=((YW hg).1 h).1
      rw [xH] at this;cases this
     rw [this];omega
   · have hl:=zi8 hj
     rw [Kl hl] at hj
     simp only [Nat.testBit_two_pow_sub_one,zo hl] at hj
     cases hj
 | step hr hc ih=>
   rename_i s step
   have hs:=zfd hg (by omega) hr
   obtain ⟨m,c,h0,h1,h2,h3,⟨x,hx⟩⟩:=ih
   have hback:∀ j,(cmM g.1.toNat (nxS g s step).2).testBit j=true→(cmM g.1.toNat s.2).testBit j=true∨(0≤step∧j=step.toNat):=by
    intro j hj
    have hl:=zi8 hj
    rw [Kl hl] at hj ⊢
    cases e:s.2.testBit j with
    | false=>exact .inl rfl
    | true=>
      right
      have hd:s.1.testBit j=false:=by
       cases e2:s.1.testBit j with
       | false=>rfl
       | true=>have:=hs.dis j e2;rw [e] at this;cases this
      have hn:xi s.1.testBit step j=true:=by
       cases e3:xi s.1.testBit step j with
       | true=>rfl
       | false=>
         exfalso
         have:(nxS g s step).2.testBit j=true:=by
          show (mkm (spr g (fun j=>!xi s.1.testBit step j) s.2.testBit) g.1.toNat).testBit j=true
          rw [yh,zo hl,zL]
          unfold spr
          refine uj.2 ⟨j,hl,?_⟩
          simp only [e,e3,Lc];rfl
         rw [this] at hj;cases hj
      by_cases hst:step < 0
      · have:=zcq hst hn;rw [hd] at this;cases this
      · rw [UM (by omega),hd,Bool.false_or,yA] at hn
        exact ⟨by omega,hn⟩
   by_cases hst:step < 0
   · refine ⟨m,c,h0,h1,h2,h3,⟨x,fun j hj=>?_⟩⟩
     rcases hback j hj with h | ⟨h,_⟩
     · exact hx j h
     · omega
   · have hfr:=zgW hg hs
     have hpc:pcN g.1.toNat s.1≤w:=by
      have h4:=hs.sz
      unfold cnS at hc
      rw [zq,zo (show step≥0 by omega),zL,yE,beq_eq_false_iff_ne] at hc
      have:=hc.2
      omega
     refine ⟨m + 1,fun i=>if i≤m then c i else cmM g.1.toNat s.2,?_,fun i hi=>?_,fun i hi=>?_,fun i hi=>?_,⟨step.toNat,fun j hj=>?_⟩⟩
     · show (if 0≤m then c 0 else _)=0
       rw [if_pos (by omega)];exact h0
     · show (if i≤m then c i else _) < _
       split
       · exact h1 i (by omega)
       · exact Kf
     · show Sb1 (if i≤m then c i else _) (if i + 1≤m then c (i + 1) else _)
       rw [if_pos (by omega)]
       by_cases e:i + 1≤m
       · rw [if_pos e];exact h2 i (by omega)
       · rw [if_neg e]
         obtain rfl:i=m:=by omega
         exact ⟨x,hx⟩
     · show frN g (if i≤m then c i else _)≤w
       split
       · exact h3 i (by omega)
       · omega
     · show (if m + 1≤m then c (m + 1) else cmM g.1.toNat s.2).testBit j=true∨_
       rw [if_neg (by omega)]
       rcases hback j hj with h | ⟨_,h⟩
       · exact .inl h
       · exact .inr h
theorem zg2 {g:Gr} (hg:yD g=true) {w:Nat} {s:Nat×Nat} (h:Rch g ((w:Int) + 1) s) (h0:s.2=0):Ch g.1.toNat (frC g) (w:Int) 0 (2 ^ g.1.toNat - 1):=by
 have h8:=yl hg
 obtain ⟨m,c,c0,c1,c2,c3,⟨x,hx⟩⟩:=ziG hg h
 have hfull:cmM g.1.toNat s.2=2 ^ g.1.toNat - 1:=by
  apply wQ
  intro j
  unfold cmM
  rw [yh,Nat.testBit_two_pow_sub_one,h0,xH];simp
 have hpos:=w4 g.1.toNat
 refine zkL (f:=frN g) (w:=w) (m:=m + 1) (c:=fun i=>if i≤m then c i else 2 ^ g.1.toNat - 1) (by omega) (fun a b _ _=>zkM hg a b) ⟨?_,?_,fun i hi=>?_,fun i hi=>?_,fun i hi=>?_⟩
 · show (if 0≤m then c 0 else _)=0
   rw [if_pos (by omega)];exact c0
 · show (if m + 1≤m then c (m + 1) else _)=_
   rw [if_neg (by omega)]
 · show (if i≤m then c i else _) < _
   split
   · exact c1 i (by omega)
   · omega
 · show Sb1 (if i≤m then c i else _) (if i + 1≤m then c (i + 1) else _)
   rw [if_pos (by omega)]
   by_cases e:i + 1≤m
   · rw [if_pos e];exact c2 i (by omega)
   · rw [if_neg e,← hfull]
     obtain rfl:i=m:=by omega
     exact ⟨x,hx⟩
 · show frN g (if i≤m then c i else _)≤w
   split
   · exact c3 i (by omega)
   · have:frN g (2 ^ g.1.toNat - 1)=0:=by
      unfold frN yu
      rw [List.countP_eq_zero]
      intro j _ h
      obtain ⟨_,y,h2,h3⟩:=(YW hg).1 h
      have hl:=Jp hg h2
      rw [Nat.testBit_two_pow_sub_one,decide_eq_false_iff_not] at h3
      omega
     omega
theorem znY {g:Gr} (hg:yD g=true) {p:Nat→Bool} {j:Nat} (h:frt g p j=true):j < g.1.toNat:=by
 obtain ⟨_,y,h2,_⟩:=(YW hg).1 h
 have:=Jp hg h2
 omega
theorem zmk {g:Gr} (hg:yD g=true) {S:Nat} {f u:Nat→Bool} (h1:∀ j,j < g.1.toNat→u j=true→f j=true→S.testBit j=false) (h2:∀ j,j < g.1.toNat→S.testBit j=false→u j=true∧f j=true) (h3:∀ j,frt g S.testBit j=true→f j=false) :
    mkm (spr g f u) g.1.toNat=cmM g.1.toNat S:=by
 unfold cmM
 refine wD fun j hj=>?_
 rw [yM]
 constructor
 · intro h
   unfold spr at h
   obtain ⟨y,hy,h⟩:=uj.1 h
   simp only [zq] at h
   refine zid (C:=fun j=>!S.testBit j) ?_ ?_ h.2
   · show (!S.testBit y)=true
     rw [h1 y hy h.1.1 h.1.2];rfl
   · intro a b ha hb hab
     have ha':S.testBit a=false:=by simpa using ha
     show (!S.testBit b)=true
     cases e:S.testBit b with
     | false=>rfl
     | true=>
       have:=h3 b ((YW hg).2 ⟨e,a,by rw [zct];exact hab,ha'⟩)
       rw [hb] at this;cases this
 · intro h
   rw [yE] at h
   obtain ⟨h4,h5⟩:=h2 j hj h
   unfold spr
   refine uj.2 ⟨j,hj,?_⟩
   rw [h4,h5,Lc];rfl
theorem zhC {g:Gr} {s:Nat×Nat} (h:Rch g 0 s):s=(0,2 ^ g.1.toNat - 1):=by
 induction h with
 | init=>rfl
 | step hr hc ih=>
   rename_i s step
   exfalso
   subst ih
   unfold cnS Xu at hc
   have h1:pcN g.1.toNat 0=0:=by
    unfold pcN yu
    rw [List.countP_eq_zero]
    intro j _ e
    rw [xH] at e;cases e
   by_cases h:step < 0
   · rw [zo h,xH] at hc
     simp at hc
   · rw [zo (show step≥0 by omega),h1] at hc
     simp at hc
inductive Grd (n:Nat) (p:Nat→Nat→Bool):Nat→Nat→List Int→Prop
 | done:Grd n p 0 (2 ^ n - 1) []
 | step {d m x:Nat} {l:List Int}:m < 2 ^ n→Q8 (fun y=>!m.testBit y && p m y) n=some x→Grd n p d (m ||| 2 ^ x) l→Grd n p (d + 1) m ((x:Int) :: l)
end Go.Zq
