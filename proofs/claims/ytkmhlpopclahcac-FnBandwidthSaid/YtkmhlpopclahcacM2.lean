/- Plain mathematics: what the functions answer (part 2). Conditions: stated in each theorem. -/
import Derived.Test.YtkmhlpopclahcacM1
set_option linter.unusedVariables false
set_option linter.unusedSimpArgs false
namespace Go.Zq
end Go.Zq
namespace Go.Zq
def spr (g:Gr) (f u:Nat→Bool) (j:Nat):Bool:=wd (fun y=>u y && f y && zcy g f y j) g.1.toNat
def KF (step:Int):Int:=if step < 0 then -1 - step else step
def zma (n:Nat) (p:Nat→Bool) (step:Int):Bool:=decide (KF step < n) && (p (KF step).toNat == decide (step < 0))
def Uy (p:Nat→Bool) (step:Int) (j:Nat):Bool:=if step < 0 then p j && !(j == (KF step).toNat) else p j || j == (KF step).toNat
end Go.Zq
namespace Go.Zq
theorem MY {p:Nat→Bool} {n:Nat}:yy p n=0↔Y1 p n=none:=by
 rw [vn]
 constructor
 · intro h j hj
   cases hp:p j with
   | false=>rfl
   | true=>
     have:=zaW (p:=fun _=>false) (q:=p) (n:=n) (by simp) ⟨j,hj,rfl,hp⟩
     omega
 · intro h
   rw [Z1 (q:=fun _=>false) h]
   unfold yy
   rw [List.countP_eq_zero];simp
end Go.Zq
namespace Go.Zq
end Go.Zq
namespace Go.Zq
end Go.Zq
namespace Go.Zq
structure Bg (F:Nat) (bags:List (List Int)):Prop where
 len:bags.length≤1048576
 each:∀ x∈bags,x.length≤1048576
 fuel:1048577≤F
theorem Bg.at {F:Nat} {bags:List (List Int)} (h:Bg F bags) {i:Nat} (hi:i < bags.length):(bags.getD i []).length≤1048576:=h.each _ (wg hi)
theorem Bg.of {F:Nat} {bags:List (List Int)} (h:bags.length + zdd bags bags.length≤1048576) (hF:1048577≤F):Bg F bags:=by
 refine ⟨by omega,fun x hx=>?_,hF⟩
 obtain ⟨i,hi,e⟩:=List.mem_iff_getElem.1 hx
 have:=zkx hi
 rw [List.getD_eq_getElem?_getD,List.getElem?_eq_getElem hi,Option.getD_some,e] at this
 omega
end Go.Zq
namespace Go.Zq
def bq (l:List Int) (j:Nat):Bool:=decide ((j:Int)∈l)
end Go.Zq
namespace Go.Zq
end Go.Zq
namespace Go.Zq
theorem vx {α β:Type} {f:α→β} {t:Bool} {a b:Option α}:(bif t then a else b).map f=bif t then a.map f else b.map f:=by cases t <;> rfl
end Go.Zq
namespace Go.Zq
theorem ze4 {F:Nat} {g:Gr} {l:List Int} {i:Nat} (hg:yA g=true) (hF:l.length < F) (hG:g.2.length < F) (hl:Sm l.length) (hs:Sm g.2.length) (hi:i≤l.length):ZM F g (l.take i)=some ((Wl g (xr l i):Nat):Int):=by
 unfold ZM
 have hlen:(l.take i).length=i:=by simp;omega
 unfold Sm at hs
 refine wh (L:=fun k t s=>vP F (l.take i) g k s t) (n:=g.2.length) (fun t s=>s=((yy (fun t=>xr l i (g.2.getD t (0,0)).1.toNat != xr l i (g.2.getD t (0,0)).2.toNat) t:Nat):Int)) ?_ ?_ F _ hG rfl
 · intro k t s ht hI
   subst hI
   refine ⟨_,rfl,?_⟩
   obtain ⟨e1,e2,e3⟩:=Zm hg ht
   simp only [vP,XX]
   have hlt:decide ((t:Int) < g.2.length)=true:=decide_eq_true (by omega)
   rw [hlt,cond_true,zI (d:=(0,0)) ht,zN ht hs,Option.bind_some,YV (by omega) (by unfold Sm at *;omega),Option.bind_some,Option.bind_some,YV (by omega) (by unfold Sm at *;omega),Option.bind_some]
   have hp:∀ x:Int,0≤x→decide (x∈l.take i)=xr l i x.toNat:=by
    intro x hx;unfold xr;rw [Int.toNat_of_nonneg hx]
   rw [hp _ e1,hp _ (by omega)]
   have hc:yy (fun t=>xr l i (g.2.getD t (0,0)).1.toNat != xr l i (g.2.getD t (0,0)).2.toNat) (t + 1)=yy (fun t=>xr l i (g.2.getD t (0,0)).1.toNat != xr l i (g.2.getD t (0,0)).2.toNat) t + (if (xr l i (g.2.getD t (0,0)).1.toNat != xr l i (g.2.getD t (0,0)).2.toNat)=true then 1 else 0):=by
    rw [uF,uF];rfl
   rw [hc]
   have hle:=vr (p:=fun t=>xr l i (g.2.getD t (0,0)).1.toNat != xr l i (g.2.getD t (0,0)).2.toNat) (n:=t)
   cases (xr l i (g.2.getD t (0,0)).1.toNat != xr l i (g.2.getD t (0,0)).2.toNat) with
   | true=>
     rw [cond_true,yF (by omega) (by omega)]
     rfl
   | false=>rw [cond_false];rfl
 · intro k s hI
   subst hI
   simp only [vP]
   have hlt:decide ((g.2.length:Int) < g.2.length)=false:=decide_eq_false (by omega)
   rw [hlt,cond_false];rfl
def vV (g:Gr) (l:List Int) (n:Nat):List Int:=(List.range n).map fun i=>((Wl g (xr l (i + 1)):Nat):Int)
theorem JT {g:Gr} {l:List Int} {n:Nat}:vV g l (n + 1)=vV g l n++[((Wl g (xr l (n + 1)):Nat):Int)]:=by simp [vV,List.range_succ]
theorem ue {g:Gr} {l:List Int} {n:Nat}:(vV g l n).length=n:=by simp [vV]
theorem Mz {F:Nat} {g:Gr} {l:List Int} (hg:yA g=true) (hF:l.length < F) (hG:g.2.length < F) (hl:l.length≤8) (hs:Sm g.2.length):Y4 F g l=some (vV g l l.length):=by
 unfold Y4
 refine wh (L:=fun k t s=>Zf F l g k s t) (n:=l.length) (fun t s=>s=vV g l t) ?_ ?_ F _ hF rfl
 · intro k t s ht hI
   subst hI
   refine ⟨_,rfl,?_⟩
   simp only [Zf]
   have hlt:decide ((t:Int) < l.length)=true:=decide_eq_true (by omega)
   rw [hlt,cond_true,zN ht (by unfold Sm;omega),zgX (by omega),Option.bind_some,ze4 hg hF hG (by unfold Sm;omega) hs (by omega),Option.bind_some,wN (by rw [ue];omega),Option.bind_some,JT]
 · intro k s hI
   subst hI
   simp only [Zf]
   have hlt:decide ((l.length:Int) < l.length)=false:=decide_eq_false (by omega)
   rw [hlt,cond_false]
theorem UK {n:Int} {l:List Int} (h:yV n l=true) (h0:0≤n):∀ y∈l,0≤y∧y < n:=by
 have hl:=wC h
 have:=(WA n.toNat l (fun j hj=>Yf h (by omega) (by omega))).2 (by omega)
 intro y hy
 have:=this y hy
 omega
theorem zij {F:Nat} {g:Gr} {l:List Int} (hg:yA g=true) (ho:yV g.1 l=true) (hF:l.length < F) (h20:20≤F):wT F ⟨zW g⟩ l=some (vV g l l.length):=by
 have h8:=zC hg
 have hlen:=wC ho
 obtain ⟨n,hn⟩:∃ n:Nat,g.1.toNat=n:=⟨_,rfl⟩
 unfold wT
 refine wh (L:=fun k t (s:NL Int×Int)=>xJ F ⟨zW g⟩ l k s.1 s.2 t) (n:=l.length) (fun t s=>s.1.list=vV g l t∧s.2=((mkm (xr l t) g.1.toNat:Nat):Int)) ?_ ?_ F (.nil,0) hF ⟨rfl,?_⟩
 · rintro k t ⟨cs,m⟩ ht ⟨h1,h2⟩
   simp only at h1 h2
   subst h2
   have hy:=UK ho h8.1 _ (wg (d:=0) ht)
   obtain ⟨x,hx⟩:∃ x:Nat,l.getD t 0=x:=⟨(l.getD t 0).toNat,by omega⟩
   simp only [xJ]
   have hlt:decide ((t:Int) < l.length)=true:=decide_eq_true (by omega)
   rw [hlt,cond_true,zI (d:=0) ht,Option.bind_some,hx,zdf hg (by omega) h20,Option.bind_some,wN (by rw [h1,ue];omega),Option.bind_some,xC (by omega),Option.bind_some,zN ht (by unfold Sm;omega)]
   have hS:(fun j=>xr l t j || j == x)=xr l (t + 1):=by funext j;rw [Yk ht hx]
   rw [hS]
   refine ⟨(_,_),⟨?_,?_⟩,rfl⟩
   · show cs.list++_=_
     rw [h1,JT,Ja hg]
   · show ior .i64 _ _=_
     rw [Zt (uh (by omega)) (uR (by omega))]
     congr 1
     refine YE fun j=>?_
     rw [Nat.testBit_or,yN,Nat.testBit_two_pow,Yk ht hx]
     by_cases e:x=j
     · subst e
       have:decide (x < g.1.toNat)=true:=decide_eq_true (by omega)
       rw [this];simp
     · have h1:decide (x=j)=false:=by simpa using e
       have h2:(j == x)=false:=by simp;omega
       rw [h1,h2];simp
 · rintro k ⟨cs,m⟩ ⟨h1,h2⟩
   simp only [xJ]
   have hlt:decide ((l.length:Int) < l.length)=false:=decide_eq_false (by omega)
   rw [hlt,cond_false]
   exact congrArg some h1
 · show (0:Int)=_
   have:mkm (xr l 0) g.1.toNat=0:=by
    rw [YN (q:=fun _=>false) (fun j _=>by simp [xr])]
    apply Nat.eq_of_testBit_eq;intro j;rw [yN];simp
   rw [this];rfl
def Ux (l:List Int):Int:=l.foldl max 0
theorem zgo {F:Nat} {l:List Int} (hF:l.length < F) (hl:Sm l.length):uz F l=some (Ux l):=by
 unfold uz
 obtain ⟨s,_,h2,h3⟩:∃ s:Int,True∧wr F l F 0 0=some s∧s=(List.range l.length).foldl (fun s i=>max s (l.getD i 0)) 0:=by
  refine uO (L:=fun k t s=>wr F l k s t) (n:=l.length) (fun _ _=>True) (fin:=fun s=>some s) (fun i s=>max s (l.getD i 0)) ?_ (fun _ _ _ _=>trivial) ?_ F 0 hF trivial
  · intro k t s ht _
    simp only [wr]
    have hlt:decide ((t:Int) < l.length)=true:=decide_eq_true (by omega)
    rw [hlt,cond_true,zI (d:=0) ht,Option.bind_some,Ji,Option.bind_some,zN ht hl]
  · intro k s _
    simp only [wr]
    have hlt:decide ((l.length:Int) < l.length)=false:=decide_eq_false (by omega)
    rw [hlt,cond_false]
 have h5:=WN (h:=fun (s:Int) (y:Int)=>max s y) (d:=0) l 0
 rw [h2,h3,h5];rfl
theorem zf9 {F:Nat} {l:List Int} (hF:l.length < F) (hl:Sm l.length):xL F l F 0 0=some (Ux l,true):=by
 obtain ⟨s,_,h2,h3⟩:∃ s:Int,True∧xL F l F 0 0=some (s,true)∧s=(List.range l.length).foldl (fun s i=>max s (l.getD i 0)) 0:=by
  refine uO (L:=fun k t s=>xL F l k s t) (n:=l.length) (fun _ _=>True) (fin:=fun s=>some (s,true)) (fun i s=>max s (l.getD i 0)) ?_ (fun _ _ _ _=>trivial) ?_ F 0 hF trivial
  · intro k t s ht _
    simp only [xL]
    have hlt:decide ((t:Int) < l.length)=true:=decide_eq_true (by omega)
    rw [hlt,cond_true,zI (d:=0) ht,Option.bind_some,zN ht hl]
    congr 1
    split <;> omega
  · intro k s _
    simp only [xL]
    have hlt:decide ((l.length:Int) < l.length)=false:=decide_eq_false (by omega)
    rw [hlt,cond_false]
 have h5:=WN (h:=fun (s:Int) (y:Int)=>max s y) (d:=0) l 0
 rw [h2,h3,h5];rfl
theorem zjq {F:Nat} {g:Gr} {l:List Int} (hF:l.length < F) (hG:g.2.length < F) (h9:20≤F) (hl:Sm l.length) (hs:Sm g.2.length) :
    uC F g l=some (bif yA g && yV g.1 l then (Ux (vV g l l.length),true) else (0,false)):=by
 unfold uC vT
 rw [v7 hG hs,Option.bind_some]
 cases h:yA g with
 | false=>rfl
 | true=>
   have h8:=zC h
   rw [Jh h8.1 h8.2 hF (by omega) hl]
   cases ho:yV g.1 l with
   | false=>rfl
   | true=>
     have hlen:=wC ho
     simp only [cond_true,Option.bind_some,Bool.not_true,cond_false,Bool.and_self]
     rw [Mz h hF hG (by omega) hs,Option.bind_some,zgo (by rw [ue];omega) (by rw [ue];exact hl),Option.bind_some]
theorem zbU {F:Nat} {g:Gr} {l:List Int} (hF:l.length < F) (hG:g.2.length < F) (h9:20≤F) (hl:Sm l.length) (hs:Sm g.2.length) :
    wV F g l=some (bif yA g && yV g.1 l then (Ux (vV g l l.length),true) else (0,false)):=by
 unfold wV
 rw [uH hG (by omega) hs,Option.bind_some]
 cases h:yA g with
 | false=>rfl
 | true=>
   have h8:=zC h
   rw [JL h8.1 h8.2 hF hl]
   cases ho:yV g.1 l with
   | false=>rfl
   | true=>
     have hlen:=wC ho
     simp only [Bool.not_true,cond_false,Option.bind_some,uL,Bool.and_self,cond_true]
     rw [XD h hG hs,Option.bind_some,zij h ho hF h9,Option.bind_some,zf9 (by rw [ue];omega) (by rw [ue];exact hl)]
end Go.Zq
namespace Go.Zq
theorem Mg {F:Nat} {g:Gr} {l:List Int} (hg:yA g=true) (hr:∀ y∈l,0≤y∧y < g.1) (hlen:l.length≤8) (hF:20≤F) (hG:g.2.length < F) (hs:Sm g.2.length):Zp F g l=some (zD (frt g (bq l)) g.1.toNat):=by
 have h8:=zC hg
 let Q:Nat→Nat→Bool:=fun i j=>decide ((j:Int)∈l.take i) && wd (fun y=>adj g j y && !bq l y) g.1.toNat
 unfold Zp
 refine wh (L:=fun k i s=>wI F l g k s i) (n:=l.length) (fun i s=>s=zD (Q i) g.1.toNat) ?_ ?_ F _ (by omega) ?_
 · intro k i s hi hI
   subst hI
   refine ⟨_,rfl,?_⟩
   obtain ⟨a,ha,han⟩:∃ a:Nat,l.getD i 0=a∧a < g.1.toNat:=by
    have:=hr _ (wg (d:=0) hi)
    exact ⟨(l.getD i 0).toNat,by omega,by omega⟩
   simp only [wI]
   rw [decide_eq_true (show (i:Int) < (l.length:Int) by omega),cond_true]
   refine wh (L:=fun k2 y s=>wW F l g (i:Int) (wI F l g k) k2 s y) (n:=g.1.toNat) (fun y s=>s=zD (fun j=>Q i j || (j == a && wd (fun y=>adj g a y && !bq l y) y)) g.1.toNat) ?_ ?_ F _ (by omega) ?_
   · intro k2 y s hy hI
     subst hI
     refine ⟨_,rfl,?_⟩
     simp only [wW,Xj,Xl]
     rw [decide_eq_true (show (y:Int) < g.1 by omega),cond_true,zI (d:=0) hi,Option.bind_some,Option.bind_some,ha,Kb hG hs,Option.bind_some,YV (by omega) (by unfold Sm;omega),show decide ((y:Int)∈l)=bq l y from rfl,Option.bind_some,zjQ (by omega) han (by omega),Option.bind_some,zN hy (by unfold Sm;omega)]
     have hsame:(adj g a y && !bq l y)=false→zD (fun j=>Q i j || (j == a && wd (fun y=>adj g a y && !bq l y) (y + 1))) g.1.toNat=zD (fun j=>Q i j || (j == a && wd (fun y=>adj g a y && !bq l y) y)) g.1.toNat:=by
      intro h
      apply wt
      intro j _
      simp only [wd]
      rw [h,Bool.or_false]
     cases h1:adj g a y with
     | false=>rw [hsame (by rw [h1];rfl)];rfl
     | true=>
       rw [cond_true]
       cases h2:bq l y with
       | true=>rw [hsame (by rw [h1,h2];rfl)];rfl
       | false=>
         rw [Bool.not_false,cond_true]
         congr 1
         apply wt
         intro j _
         simp only [wd]
         rw [h1,h2]
         by_cases e:j=a
         · subst e;simp
         · have:(j == a)=false:=by simpa using e
           rw [this];simp
   · intro k2 s hI
     subst hI
     simp only [wW]
     rw [decide_eq_false (show ¬ (g.1.toNat:Int) < g.1 by omega),cond_false,zN hi (by unfold Sm;omega)]
     congr 1
     apply wt
     intro j _
     have hp2:=Yk (x:=a) hi ha j
     unfold xr at hp2
     show (Q i j || _)=Q (i + 1) j
     show (Q i j || _)=(decide ((j:Int)∈l.take (i + 1)) && wd (fun y=>adj g j y && !bq l y) g.1.toNat)
     rw [hp2]
     by_cases e:j=a
     · subst e
       rw [beq_self_eq_true,Bool.true_and,Bool.or_true,Bool.true_and]
       show ((_ && wd (fun y=>adj g j y && !bq l y) g.1.toNat) || _)=_
       cases wd (fun y=>adj g j y && !bq l y) g.1.toNat <;> simp
     · have:(j == a)=false:=by simpa using e
       rw [this,Bool.false_and,Bool.or_false,Bool.or_false]
   · apply wt
     intro j _
     simp [wd]
 · intro k s hI
   subst hI
   simp only [wI]
   rw [decide_eq_false (show ¬ (l.length:Int) < (l.length:Int) by omega),cond_false]
   congr 1
   apply wt
   intro j hj
   show (decide ((j:Int)∈l.take l.length) && _)=_
   rw [List.take_length]
   rfl
 · have:zD (Q 0) g.1.toNat=zD (fun _=>false) g.1.toNat:=by
    apply wt
    intro j _
    show (decide ((j:Int)∈l.take 0) && _)=false
    simp
   rw [this];simp [zD]
end Go.Zq
namespace Go.Zq
end Go.Zq
namespace Go.Zq
end Go.Zq
namespace Go.Zq
theorem zgg {p q:Nat→Bool}:∀ n,yy p n=yy (fun j=>q j && p j) n + yy (fun j=>p j && !q j) n:=by
 intro n
 rw [uF,uF,uF,← JV]
 refine wQ fun i _=>?_
 cases p i <;> cases q i <;> rfl
end Go.Zq
namespace Go.Zq
def zv9 (l:List Int) (r:Int) (j:Nat):Bool:=decide (l.getD j 0≤r)
def zwt (g:Gr) (l:List Int) (x:Nat):Bool:=wd (fun y=>zcy g (zv9 l (l.getD x 0)) x y && ((y != x) && (l.getD y 0 == l.getD x 0))) g.1.toNat
end Go.Zq
namespace Go.Zq
theorem znc {P:Nat→Bool} {n a:Nat} (ha:a < n) (h:P a=true) (hm:∀ j,j < a→P j=false):Y1 P n=some a:=by
 cases hf:Y1 P n with
 | none=>rw [vn.1 hf a ha] at h;cases h
 | some b=>
   obtain ⟨hb,hPb,hmb⟩:=wL hf
   congr 1
   rcases Nat.lt_trichotomy a b with h1 | h1 | h1
   · rw [hmb a h1] at h;cases h
   · exact h1.symm
   · rw [hm b h1] at hPb;cases hPb
theorem Lp {p q:Nat→Bool} {n:Nat}:Y1 (fun j=>p j && q j) n=(Y1 (fun i=>q ((zD p n).getD i 0).toNat) (zD p n).length).map fun i=>((zD p n).getD i 0).toNat:=by
 cases hf:Y1 (fun i=>q ((zD p n).getD i 0).toNat) (zD p n).length with
 | none=>
   rw [Option.map_none,vn]
   intro j hj
   cases hp:p j with
   | false=>rfl
   | true=>
     have hm:(j:Int)∈zD p n:=xf.2 ⟨j,rfl,hj,hp⟩
     obtain ⟨i,hi,e⟩:=List.getElem_of_mem hm
     have:=vn.1 hf i hi
     rw [List.getD_eq_getElem?_getD,List.getElem?_eq_getElem hi,Option.getD_some,e,Int.toNat_natCast] at this
     rw [this];rfl
 | some i=>
   obtain ⟨hi,hq,hm⟩:=wL hf
   obtain ⟨a,ha,han,hap⟩:=WV hi
   rw [Option.map_some,ha,Int.toNat_natCast]
   rw [ha,Int.toNat_natCast] at hq
   refine znc han (by rw [hap,hq];rfl) ?_
   intro j hj
   cases hp:p j with
   | false=>rfl
   | true=>
     have hm2:(j:Int)∈zD p n:=xf.2 ⟨j,rfl,by omega,hp⟩
     obtain ⟨t,ht,e⟩:=List.getElem_of_mem hm2
     have e2:(zD p n).getD t 0=(j:Int):=by rw [List.getD_eq_getElem?_getD,List.getElem?_eq_getElem ht,Option.getD_some,e]
     have hlt:t < i:=by
      rcases Nat.lt_trichotomy t i with h1 | h1 | h1
      · exact h1
      · subst h1;rw [ha] at e2;omega
      · have:=zh2 KT h1 ht
        rw [ha,e2] at this;omega
     have:=hm t hlt
     rw [e2,Int.toNat_natCast] at this
     rw [this];rfl
end Go.Zq
namespace Go.Zq
def zai (g:Gr) (m:Nat):Int:=((Wl g m.testBit:Nat):Int)
def vk (g:Gr) (m x:Nat):Int:=zai g (m ||| 2 ^ x)
theorem Lh {g:Gr} {m:Nat}:0≤zai g m:=by unfold zai;omega
theorem ziP {m x:Nat}:(fun j=>m.testBit j || j == x)=(m ||| 2 ^ x).testBit:=by
 funext j
 rw [Nat.testBit_or,Nat.testBit_two_pow]
 by_cases e:x=j
 · subst e;simp
 · have h1:decide (x=j)=false:=by simpa using e
   have h2:(j == x)=false:=by simp;omega
   rw [h1,h2]
theorem zfA {F:Nat} {g:Gr} {m x:Nat} (hg:yA g=true) (hF:20≤F) (hm:m < 2 ^ g.1.toNat) (hx:x < g.1.toNat):ve F ⟨zW g⟩ (m:Int) (x:Int)=some (vk g m x):=by
 have h:=zdf (F:=F) (S:=m.testBit) hg hx hF
 rw [zb9 hm,Ja hg,ziP] at h
 exact h
theorem zjU {n m j:Nat} (hm:m < 2 ^ n):decide ((j:Int)∈zD m.testBit n)=m.testBit j:=by
 by_cases hj:j < n
 · cases hb:m.testBit j with
   | true=>exact decide_eq_true (xf.2 ⟨j,rfl,hj,hb⟩)
   | false=>
     refine decide_eq_false fun h=>?_
     obtain ⟨i,h1,_,h3⟩:=xf.1 h
     have:j=i:=by omega
     subst this;rw [hb] at h3;cases h3
 · have hb:m.testBit j=false:=Nat.testBit_lt_two_pow (Nat.lt_of_lt_of_le hm (Nat.pow_le_pow_right (by decide) (by omega)))
   rw [hb]
   refine decide_eq_false fun h=>?_
   obtain ⟨i,h1,h2,_⟩:=xf.1 h
   omega
theorem zlp {F:Nat} {g:Gr} {m:Nat} (hg:yA g=true) (h9:20≤F) (hG:g.2.length < F) (hs:Sm g.2.length) (hm:m < 2 ^ g.1.toNat):ZM F g (zD m.testBit g.1.toNat)=some (zai g m):=by
 have h8:=zC hg
 have hl:(zD m.testBit g.1.toNat).length≤8:=by rw [xb];exact Nat.le_trans vr (by omega)
 have h:=ze4 (F:=F) (l:=zD m.testBit g.1.toNat) (i:=(zD m.testBit g.1.toNat).length) hg (by omega) hG (by unfold Sm;omega) hs (Nat.le_refl _)
 have e:xr (zD m.testBit g.1.toNat) (zD m.testBit g.1.toNat).length=m.testBit:=by
  funext j
  unfold xr
  rw [List.take_length,zjU hm]
 rw [e,List.take_length] at h
 exact h
theorem WO {β:Type} {L:Nat→Int→Option β} {n x:Nat} {p:Nat→Bool} {r:Option β} (hf:Y1 p n=some x) (hs:∀ k i,i < n→p i=false→L (k + 1) (i:Int)=L k ((i + 1:Nat):Int)) (hx:∀ k,L (k + 1) (x:Int)=r):∀ k,n < k→L k 0=r:=by
 obtain ⟨h1,_,h3⟩:=wL hf
 have key:∀ d i k,i + d=x→d < k→L k (i:Int)=r:=by
  intro d
  induction d with
  | zero=>
    intro i k hi hk
    obtain ⟨k,rfl⟩:∃ k',k=k' + 1:=⟨k - 1,by omega⟩
    obtain rfl:i=x:=by omega
    exact hx k
  | succ d ih=>
    intro i k hi hk
    obtain ⟨k,rfl⟩:∃ k',k=k' + 1:=⟨k - 1,by omega⟩
    rw [hs k i (by omega) (h3 i (by omega))]
    exact ih (i + 1) k (by omega) (by omega)
 intro k hk
 exact key x 0 k (by omega) (by omega)
inductive Grd (n:Nat) (p:Nat→Nat→Bool):Nat→Nat→List Int→Prop
 | done:Grd n p 0 (2 ^ n - 1) []
 | step {d m x:Nat} {l:List Int}:m < 2 ^ n→Y1 (fun y=>!m.testBit y && p m y) n=some x→Grd n p d (m ||| 2 ^ x) l→Grd n p (d + 1) m ((x:Int) :: l)
theorem zfv {n:Nat} {p:Nat→Nat→Bool} {d m:Nat} {l:List Int} (h:Grd n p d m l):l.length=d:=by
 induction h with
 | done=>rfl
 | step _ _ _ ih=>rw [List.length_cons,ih]
theorem zbN {n m x:Nat} (hx:x < n) (hb:m.testBit x=false):yy (fun j=>!(m ||| 2 ^ x).testBit j) n + 1=yy (fun j=>!m.testBit j) n:=by
 have h1:=zgg (p:=fun j=>!m.testBit j) (q:=fun j=>j == x) n
 have h2:yy (fun j=>!m.testBit j && !(j == x)) n=yy (fun j=>!(m ||| 2 ^ x).testBit j) n:=by
  refine Z1 fun j _=>?_
  rw [← ziP]
  show (!m.testBit j && !(j == x))=!(m.testBit j || j == x)
  cases m.testBit j <;> cases (j == x) <;> rfl
 have h3:yy (fun j=>(j == x) && !m.testBit j) n=1:=by
  have key:∀ k,yy (fun j=>(j == x) && !m.testBit j) k=if x < k then 1 else 0:=by
   intro k
   induction k with
   | zero=>rfl
   | succ k ih=>
     have hs:yy (fun j=>(j == x) && !m.testBit j) (k + 1)=yy (fun j=>(j == x) && !m.testBit j) k + if ((k == x) && !m.testBit k) then 1 else 0:=by
      rw [uF,uF];rfl
     rw [hs,ih]
     by_cases e:k=x
     · have h1:¬ x < k:=by omega
       have h2:x < k + 1:=by omega
       simp [e,h1,h2,hb]
     · have h1:(k == x)=false:=by simpa using e
       by_cases h:x < k
       · have h2:x < k + 1:=by omega
         simp [h1,h,h2]
       · have h2:¬ x < k + 1:=by omega
         simp [h1,h,h2]
  rw [key,if_pos hx]
 omega
theorem znR {n:Nat} {c:Nat→Nat→Int} {nn:Int} {T:Nat→Int} (hn:n≤8) (hT:YG n c nn T) {t:Int}:∀ m,m < 2 ^ n→T m≤t→∃ l,Grd n (fun m x=>decide (max (c m x) (T (m ||| 2 ^ x))≤t)) (yy (fun j=>!m.testBit j) n) m l:=by
 have key:∀ d m,m + d=2 ^ n→m < 2 ^ n→T m≤t→∃ l,Grd n (fun m x=>decide (max (c m x) (T (m ||| 2 ^ x))≤t)) (yy (fun j=>!m.testBit j) n) m l:=by
  intro d
  induction d using Nat.strongRecOn with
  | ind d ih=>
    intro m hd hm ht
    by_cases hf:m=2 ^ n - 1
    · have:yy (fun j=>!m.testBit j) n=0:=by
       rw [MY,vn]
       intro j hj
       rw [hf,Nat.testBit_two_pow_sub_one,decide_eq_true hj];rfl
      rw [this,hf]
      exact ⟨[],.done⟩
    · have hne:yT n m≠[]:=fun e=>hf ((XL hm).1 e)
      rw [hT m hm,zcW hne] at ht
      obtain ⟨y,hy,h⟩:=ht
      obtain ⟨z,rfl,hz,hzb⟩:=vh.1 hy
      rw [Int.toNat_natCast] at h
      cases hfs:Y1 (fun y=>!m.testBit y && decide (max (c m y) (T (m ||| 2 ^ y))≤t)) n with
      | none=>
        have:=vn.1 hfs z hz
        rw [hzb,decide_eq_true h] at this;cases this
      | some x=>
        obtain ⟨hx,hp,_⟩:=wL hfs
        simp only [Bool.and_eq_true,Bool.not_eq_true',decide_eq_true_eq] at hp
        have h1:=ZN m (Lb hn hm) x (by omega) hp.1
        have h2:=WU hm hx
        have h3:=Nat.two_pow_pos x
        obtain ⟨l,hl⟩:=ih (2 ^ n - (m ||| 2 ^ x)) (by omega) (m ||| 2 ^ x) (by omega) h2 (by omega)
        refine ⟨(x:Int) :: l,?_⟩
        rw [← zbN hx hp.1]
        exact .step hm hfs hl
 intro m hm
 exact key (2 ^ n - m) m (by omega) hm
end Go.Zq
namespace Go.Zq
theorem Ly {F:Nat} {g:Gr} {best:List Int} (hg:yA g=true) (hF:300≤F) (hb:best.length=2 ^ g.1.toNat) :
    ∀ {d m:Nat} {l:List Int},Grd g.1.toNat (fun m x=>decide (max (frP g m x) (best.getD (m ||| 2 ^ x) 0)≤best.getD 0 0)) d m l →
    ∀ (o:NL Int) (k:Nat),d < k→o.list.length + d≤100→∃ o',zO F best ⟨(⟨zW g⟩,()),()⟩ ⟨zW g⟩ k o (m:Int)=some o'∧o'.list=o.list++l:=by
 have h8:=zC hg
 obtain ⟨n,hn⟩:∃ n:Nat,g.1.toNat=n:=⟨_,rfl⟩
 have hn8:n≤8:=by omega
 have hpow:=Nat.two_pow_pos n
 have hp256:=Wq hn8
 have hall:yI F ⟨zW g⟩=some ((2 ^ n - 1:Nat):Int):=by
  unfold yI
  rw [wo,hn,xC (by omega),Option.bind_some,yF (by omega) (by omega)]
  congr 1;omega
 rw [hn] at hb ⊢
 intro d m l h
 induction h with
 | done=>
   intro o k hk _
   obtain ⟨k,rfl⟩:∃ k',k=k' + 1:=⟨k - 1,by omega⟩
   refine ⟨o,?_,by simp⟩
   simp only [zO]
   rw [hall,Option.bind_some,bne_self_eq_false,cond_false]
 | step hm hf hgrd ih=>
   rename_i d m x l
   intro o k hk ho
   obtain ⟨k,rfl⟩:∃ k',k=k' + 1:=⟨k - 1,by omega⟩
   obtain ⟨hx,hp,_⟩:=wL hf
   simp only [Bool.and_eq_true,Bool.not_eq_true',decide_eq_true_eq] at hp
   obtain ⟨hxb,hle⟩:=hp
   have hmf:m≠2 ^ n - 1:=by
    rintro rfl
    rw [Nat.testBit_two_pow_sub_one,decide_eq_true hx] at hxb;cases hxb
   have hmk:xp .i64 ((2 ^ n - 1:Nat):Int) (m:Int)=((mkm (fun x=>!m.testBit x) n:Nat):Int):=by
    obtain ⟨c,hc,_,hb⟩:=Ye (a:=2 ^ n - 1) (b:=m) (by omega) (by omega)
    rw [hc]
    congr 1
    refine YE fun j=>?_
    rw [hb,Nat.testBit_two_pow_sub_one]
   have hl8:(yT n m).length≤8:=by unfold yT;rw [xb];exact Nat.le_trans vr hn8
   obtain ⟨o',ho1,ho2⟩:=ih (.of (o.list++[(x:Int)])) k (by omega) (by show (o.list++[(x:Int)]).length + d≤100;rw [List.length_append,List.length_singleton];omega)
   refine ⟨o',?_,by rw [ho2];simp [NL.list]⟩
   have hne:(((m:Int)) != ((2 ^ n - 1:Nat):Int))=true:=by rw [bne_iff_ne];omega
   simp only [zO]
   rw [hall,Option.bind_some,hne,cond_true,Option.bind_some,hmk,WH hn8 (by omega),Option.bind_some]
   rw [Lp,Option.map_eq_some_iff] at hf
   obtain ⟨i,hi,hix⟩:=hf
   have hil:=(wL hi).1
   have hstep:∀ (i:Nat) (hi:i < (yT n m).length),∃ y:Nat,(yT n m).getD i 0=y∧y < n∧xe F ⟨zW g⟩ (m:Int) (y:Int)=some (frP g m y)∧uB .i64 1 (y:Int)=some ((2 ^ y:Nat):Int)∧ior .i64 (m:Int) ((2 ^ y:Nat):Int)=((m ||| 2 ^ y:Nat):Int)∧idx best (((m ||| 2 ^ y:Nat)):Int)=some (best.getD (m ||| 2 ^ y) 0):=by
    intro i hi
    obtain ⟨y,hy,hyn,hyb⟩:=vh.1 (wg (d:=0) hi)
    have:=WU hm hyn
    exact ⟨y,hy,hyn,Nf hg (by omega) (by rw [hn];exact hm) (by rw [hn];exact hyn),xC (by omega),Zt (by omega) (uR (by omega)),zI (by omega)⟩
   have hz:idx best 0=some (best.getD 0 0):=zI (xs:=best) (i:=0) (d:=0) (by omega)
   have hmax:∀ a b:Int,(if b > a then b else a)=max a b:=by
    intro a b
    by_cases h:b > a
    · rw [if_pos h,Int.max_eq_right (by omega)]
    · rw [if_neg h,Int.max_eq_left (by omega)]
   refine WO (L:=fun k2 i=>z7 F best ⟨(⟨zW g⟩,()),()⟩ ⟨zW g⟩ o (m:Int) (yT n m) (zO F best ⟨(⟨zW g⟩,()),()⟩ ⟨zW g⟩ k) k2 i) hi ?_ ?_ F (by show (yT n m).length < F;omega)
   · intro k2 i hi hpi
     obtain ⟨y,hy,hyn,y1,y2,y3,y4⟩:=hstep i hi
     have hpi:decide (max (frP g m ((yT n m).getD i 0).toNat) (best.getD (m ||| 2 ^ ((yT n m).getD i 0).toNat) 0)≤best.getD 0 0)=false:=hpi
     rw [hy,Int.toNat_natCast] at hpi
     simp only [z7]
     rw [decide_eq_true (show (i:Int) < ((yT n m).length:Int) from by have:i < (yT n m).length:=hi;omega),cond_true,zI (xs:=yT n m) (d:=0) hi,Option.bind_some,hy,y1,Option.bind_some,y2,Option.bind_some,y3,y4,Option.bind_some,hz,Option.bind_some,hmax,hpi,cond_false,zN (n:=(yT n m).length) hi (by have:(zD (fun x=>!m.testBit x) n).length≤8:=hl8;unfold Sm;omega)]
   · intro k2
     obtain ⟨y,hy,hyn,y1,y2,y3,y4⟩:=hstep i hil
     have hyx:y=x:=by
      have e:((yT n m).getD i 0).toNat=x:=hix
      rw [hy] at e;omega
     subst hyx
     have hle':decide (max (frP g m y) (best.getD (m ||| 2 ^ y) 0)≤best.getD 0 0)=true:=decide_eq_true hle
     simp only [z7]
     rw [decide_eq_true (show (i:Int) < ((yT n m).length:Int) from by have:i < (yT n m).length:=hil;omega),cond_true,zI (xs:=yT n m) (d:=0) hil,Option.bind_some,hy,y1,Option.bind_some,y2,Option.bind_some,y3,y4,Option.bind_some,hz,Option.bind_some,hmax,hle',cond_true,wN (by omega),Option.bind_some,Option.bind_some]
     rw [y3]
     exact ho1
end Go.Zq
namespace Go.Zq
theorem zhd {F:Nat} {l:List Int} (hl:l.length≤1000):Z3 F l=some (.of l):=by
 unfold Z3 wJ
 rw [if_pos (by
  have:(2:Nat) ^ 40=1099511627776:=by decide
  simp only [List.length_nil]
  omega)]
 rfl
theorem zf2 {g:Gr} {p:Nat→Bool} (h:∀ j,p j=false):zD (frt g p) g.1.toNat=[]:=by
 rw [List.eq_nil_iff_forall_not_mem]
 intro y hy
 obtain ⟨x,_,_,hb⟩:=xf.1 hy
 unfold frt at hb
 rw [h x] at hb;cases hb
theorem zgj {F:Nat} {g:Gr} {T:Nat→Int} {t:Int} (hg:yA g=true) (hF:300≤F) (hG:g.2.length < F) (hs:Sm g.2.length) (hT:YG g.1.toNat (frP g) 0 T) (ht:0≤t) :
    ∀ d (m:Nat) (begun:List Int) (k:Nat),m < 2 ^ g.1.toNat→bq begun=m.testBit→(∀ y∈begun,0≤y∧y < g.1)→begun.length + d=g.1.toNat→yy (fun j=>!m.testBit j) g.1.toNat=d→d < k →
     (frC g m≤t→T m≤t→∃ l,Grd g.1.toNat (fun m x=>decide (max (frP g m x) (T (m ||| 2 ^ x))≤t)) d m l∧xn F k g begun t=some (begun++l,true)) ∧
     (¬ (frC g m≤t∧T m≤t)→xn F k g begun t=some ([],false)):=by
 have h8:=zC hg
 obtain ⟨n,hn⟩:∃ n:Nat,g.1.toNat=n:=⟨_,rfl⟩
 have hn8:n≤8:=by omega
 have hgn:g.1=(n:Int):=by omega
 have hpow:=Nat.two_pow_pos n
 have hp256:=Wq hn8
 rw [hn] at hT ⊢
 intro d
 induction d with
 | zero=>
   intro m begun k hm hbm hr hlen hc hk
   obtain ⟨k,rfl⟩:∃ k',k=k' + 1:=⟨k - 1,by omega⟩
   have hfull:m=2 ^ n - 1:=Q5 hm fun x hx=>by
    rw [MY,vn] at hc
    have:=hc x hx
    simpa using this
   have hTm:T m≤t:=by
    rw [hT m hm,(XL hm).2 hfull,L5];exact ht
   have hfr:Zp F g begun=some (zD (frt g m.testBit) n):=by
    have:=Mg (F:=F) (l:=begun) hg hr (by omega) (by omega) hG hs
    rw [hbm,hn] at this;exact this
   have hfc:((zD (frt g m.testBit) n).length:Int)=frC g m:=by unfold frC;rw [xb,hn]
   show (_→_→∃ l,_∧uA F (xn F k) g begun t=_)∧(_→uA F (xn F k) g begun t=_)
   unfold uA
   rw [hfr,Option.bind_some,hfc]
   constructor
   · intro h1 _
     refine ⟨[],by rw [hfull];exact .done,?_⟩
     have:((begun.length:Int) == g.1)=true:=by rw [beq_iff_eq];omega
     rw [decide_eq_false (by omega),cond_false,this,cond_true,List.append_nil]
   · intro h
     have h1:frC g m > t:=by
      by_cases h2:frC g m≤t
      · exact absurd ⟨h2,hTm⟩ h
      · omega
     rw [decide_eq_true h1,cond_true]
 | succ d ih=>
   intro m begun k hm hbm hr hlen hc hk
   obtain ⟨k,rfl⟩:∃ k',k=k' + 1:=⟨k - 1,by omega⟩
   have hfr:Zp F g begun=some (zD (frt g m.testBit) n):=by
    have:=Mg (F:=F) (l:=begun) hg hr (by omega) (by omega) hG hs
    rw [hbm,hn] at this;exact this
   have hfc:((zD (frt g m.testBit) n).length:Int)=frC g m:=by unfold frC;rw [xb,hn]
   have hfull:m≠2 ^ n - 1:=by
    intro e
    have:yy (fun j=>!m.testBit j) n=0:=by
     rw [MY,vn]
     intro j hj
     rw [e,Nat.testBit_two_pow_sub_one,decide_eq_true hj];rfl
    omega
   have hne:yT n m≠[]:=fun e=>hfull ((XL hm).1 e)
   have hnx:∀ x:Nat,x < n→m.testBit x=false →
       (frC g (m ||| 2 ^ x)≤t→T (m ||| 2 ^ x)≤t→∃ l,Grd n (fun m x=>decide (max (frP g m x) (T (m ||| 2 ^ x))≤t)) d (m ||| 2 ^ x) l∧xn F k g (begun++[(x:Int)]) t=some ((begun++[(x:Int)])++l,true)) ∧
       (¬ (frC g (m ||| 2 ^ x)≤t∧T (m ||| 2 ^ x)≤t)→xn F k g (begun++[(x:Int)]) t=some ([],false)):=by
    intro x hx hb
    refine ih (m ||| 2 ^ x) (begun++[(x:Int)]) k (WU hm hx) ?_ ?_ (by rw [List.length_append,List.length_singleton];omega) (by have:=zbN hx hb;omega) (by omega)
    · rw [← ziP,← hbm]
      funext j
      unfold bq
      simp only [List.mem_append,List.mem_singleton,Bool.decide_or]
      congr 1
      by_cases e:j=x
      · subst e;simp
      · have h1:¬ ((j:Int)=(x:Int)):=by omega
        have h2:(j == x)=false:=by simpa using e
        rw [decide_eq_false h1,h2]
    · intro y hy
      rcases List.mem_append.1 hy with h | h
      · exact hr y h
      · obtain rfl:y=(x:Int):=by simpa using h
        omega
   have hTm:T m≤t↔∃ x,Y1 (fun y=>!m.testBit y && decide (max (frP g m y) (T (m ||| 2 ^ y))≤t)) n=some x:=by
    rw [hT m hm,zcW hne]
    constructor
    · rintro ⟨y,hy,h⟩
      obtain ⟨z,rfl,hz,hzb⟩:=vh.1 hy
      rw [Int.toNat_natCast] at h
      cases hfs:Y1 (fun y=>!m.testBit y && decide (max (frP g m y) (T (m ||| 2 ^ y))≤t)) n with
      | none=>
        have:=vn.1 hfs z hz
        rw [hzb,decide_eq_true h] at this;cases this
      | some x=>exact ⟨x,rfl⟩
    · rintro ⟨x,hx⟩
      obtain ⟨h1,h2,_⟩:=wL hx
      simp only [Bool.and_eq_true,Bool.not_eq_true',decide_eq_true_eq] at h2
      exact ⟨(x:Int),vh.2 ⟨x,rfl,h1,h2.1⟩,by rw [Int.toNat_natCast];exact h2.2⟩
   have hin:∀ x:Nat,vz F begun (x:Int)=some (m.testBit x):=by
    intro x
    rw [YV (by omega) (by unfold Sm;omega),← hbm];rfl
   have hskip:∀ k2 x,x < n→(!m.testBit x && decide (max (frP g m x) (T (m ||| 2 ^ x))≤t))=false→xY F (xn F k) begun t g (k2 + 1) (x:Int)=xY F (xn F k) begun t g k2 ((x + 1:Nat):Int):=by
    intro k2 x hx hp
    simp only [xY]
    rw [hgn,decide_eq_true (show (x:Int) < (n:Int) by omega),cond_true,hin,Option.bind_some,zN hx (by unfold Sm;omega)]
    cases hb:m.testBit x with
    | true=>rfl
    | false=>
      rw [hb,Bool.not_false,Bool.true_and,decide_eq_false_iff_not,Int.max_le] at hp
      rw [cond_false,zhd (by omega),Option.bind_some]
      show ((wJ begun [(x:Int)]).bind _)=_
      rw [wN (by omega),Option.bind_some,(hnx x hx hb).2 hp,Option.bind_some]
      rfl
   show (_→_→∃ l,_∧uA F (xn F k) g begun t=_)∧(_→uA F (xn F k) g begun t=_)
   unfold uA
   rw [hfr,Option.bind_some,hfc]
   have hb0:((begun.length:Int) == g.1)=false:=by rw [beq_eq_false_iff_ne];omega
   constructor
   · intro h1 h2
     obtain ⟨x,hx⟩:=hTm.1 h2
     obtain ⟨x1,x2,_⟩:=wL hx
     simp only [Bool.and_eq_true,Bool.not_eq_true',decide_eq_true_eq] at x2
     have x3:frP g m x≤t∧T (m ||| 2 ^ x)≤t:=Int.max_le.1 x2.2
     obtain ⟨l,l1,l2⟩:=(hnx x x1 x2.1).1 x3.1 x3.2
     refine ⟨(x:Int) :: l,.step hm hx l1,?_⟩
     rw [decide_eq_false (by omega),cond_false,hb0,cond_false]
     refine WO (L:=fun k2 x=>xY F (xn F k) begun t g k2 x) hx hskip ?_ F (by omega)
     intro k2
     simp only [xY]
     rw [hgn,decide_eq_true (show (x:Int) < (n:Int) by omega),cond_true,hin,Option.bind_some,x2.1,cond_false,zhd (by omega),Option.bind_some]
     show ((wJ begun [(x:Int)]).bind _)=_
     rw [wN (by omega),Option.bind_some,l2,Option.bind_some]
     simp
   · intro h
     by_cases h1:frC g m > t
     · rw [decide_eq_true h1,cond_true]
     · rw [decide_eq_false h1,cond_false,hb0,cond_false]
       have hno:Y1 (fun y=>!m.testBit y && decide (max (frP g m y) (T (m ||| 2 ^ y))≤t)) n=none:=by
        cases hfs:Y1 (fun y=>!m.testBit y && decide (max (frP g m y) (T (m ||| 2 ^ y))≤t)) n with
        | none=>rfl
        | some x=>exact absurd ⟨by omega,hTm.2 ⟨x,hfs⟩⟩ h
       refine wh (L:=fun k2 x (_:Unit)=>xY F (xn F k) begun t g k2 x) (n:=n) (fun _ _=>True) ?_ ?_ F () (by omega) trivial
       · intro k2 x _ hx _
         exact ⟨(),trivial,hskip k2 x hx (vn.1 hno x hx)⟩
       · intro k2 _ _
         simp only [xY]
         rw [hgn,decide_eq_false (show ¬ (n:Int) < (n:Int) by omega),cond_false]
theorem zic {F:Nat} {g:Gr} {best:List Int} (hg:yA g=true) (hF:300≤F) (hG:g.2.length < F) (hs:Sm g.2.length) (hb:best.length=2 ^ g.1.toNat) (hT:YG g.1.toNat (frP g) 0 (fun m=>best.getD m 0)):uP F g=some (best.getD 0 0):=by
 have h8:=zC hg
 have hp256:=Wq (n:=g.1.toNat) (by omega)
 have hpow:=Nat.two_pow_pos g.1.toNat
 obtain ⟨out,o1,o2,o3⟩:=Qc hg hF hG hs
 have heq:=zbQ (n:=g.1.toNat) (c:=frC g) (by omega) (fun m=>JH) o3 hT
 unfold uP
 have hgn:g.1=((g.1.toNat:Nat):Int):=by omega
 have hsh:=xC (j:=g.1.toNat) (by omega)
 rw [← hgn] at hsh
 rw [o1,Option.bind_some,hsh,Option.bind_some]
 have hw:w64 (((2 ^ g.1.toNat:Nat):Int) - 1)=((2 ^ g.1.toNat - 1:Nat):Int):=by rw [yF (by omega) (by omega)];omega
 rw [hw,zI (d:=0) (by omega),Option.bind_some,heq]
end Go.Zq
