/- Plain mathematics: what the functions answer (part 4). Conditions: stated in each theorem. -/
import Derived.Test.YtelahampjnaimacM3
import Derived.Test.YtelahampjnaimacM2
import Derived.Test.YtelahampjnaimacM1
set_option linter.unusedVariables false
set_option linter.unusedSimpArgs false
namespace Go.Zq
def XG (g:Gr) (l:List Int) (k:Nat):List (List Int):=(List.range k).map fun t=>zt (stt g l (t + 1)).2 g.1.toNat
theorem Xt {g:Gr} {l:List Int} {k:Nat}:(XG g l k).length=k:=by simp [XG]
theorem NS {g:Gr} {l:List Int} {k:Nat}:XG g l (k + 1)=XG g l k++[zt (stt g l (k + 1)).2 g.1.toNat]:=by simp [XG,uB]
theorem zna {F:Nat} {l:List Int} (hl:l.length≤1000):UQ F l=some l:=by
 unfold UQ
 unfold vz
 rw [if_pos (by simp;omega)]
 simp
theorem zkn {F:Nat} {g:Gr} {l:List Int} (h8:0≤g.1∧g.1≤8) (hp:xv g l=true) (hF:60≤F):wr F (stS g l (l.length + 1)) F [] 1=some (XG g l l.length,true):=by
 have h40:=YM hp
 have:=xA (L:=fun k i s=>wr F (stS g l (l.length + 1)) k s (i + 1)) (n:=l.length) (r:=some (XG g l l.length,true)) (fun i s=>s=XG g l i) (by
  rintro k i s hi rfl
  refine ⟨_,rfl,?_⟩
  have hcast:(i:Int) + 1=((i + 1:Nat):Int):=by omega
  have hle:=Y7 (p:=(stt g l (i + 1)).2) (n:=g.1.toNat)
  simp only [wr,Zt]
  rw [hcast,zo (show ((i + 1:Nat):Int) < ((l.length + 1:Nat):Int) by omega),zk,zT (d:=([],[])) (by rw [Zt];omega),zb,UR (by omega)]
  simp only
  rw [zna (by omega),zb,YB (by simp [Xt];omega),zb,NS,yd (show i + 1 < l.length + 1 by omega) (by unfold Sm;omega)]
  congr 1) (by
  rintro k s rfl
  simp only [wr,Zt]
  rw [zA (show ¬ (l.length:Int) + 1 < ((l.length + 1:Nat):Int) by omega),zh]) F [] (by omega) (by simp [XG])
 simpa using this
def cod (s:Nat×Nat):Nat:=s.1 + 256 * s.2
theorem zdS {l:List Nat} {N:Nat} (hn:l.Nodup) (h:∀ x∈l,x < N):l.length≤N:=by
 have:=NQ N (l.map fun x:Nat=>(x:Int)) (by
  rw [List.nodup_iff_pairwise_ne] at hn ⊢
  rw [List.pairwise_map]
  exact hn.imp fun h=>by omega) (by
  intro x hx
  obtain ⟨y,hy,rfl⟩:=xp.1 hx
  have:=h y hy
  omega)
 have h2:=uX (p:=fun j=>decide ((j:Int)∈l.map fun x:Nat=>(x:Int))) (n:=N)
 rw [this,Zk] at h2
 exact h2
structure Bfs (g:Gr) (k:Int) (T:List (Nat×Nat)) (P:List (NL Int)) (sn:List Bool):Prop where
 fst:T[0]?=some (0,2 ^ g.1.toNat - 1)
 rch:∀ s∈T,Rch g k s
 pln:P.length=T.length
 prg:∀ i,i < P.length→(P.getD i .nil).list.length≤i
 sln:sn.length=65536
 see:∀ c,c < 65536→(sn.getD c false=true↔∃ s∈T.tail,cod s=c)
 nod:(T.tail.map cod).Nodup
theorem Bfs.len {g:Gr} {k:Int} {T:List (Nat×Nat)} {P:List (NL Int)} {sn:List Bool} (hg:yD g=true) (h6:g.1≤6) (hk:0≤k) (h:Bfs g k T P sn):T.length≤16385:=by
 have:=zdS (N:=16384) h.nod (by
  intro c hc
  obtain ⟨s,hs,rfl⟩:=xp.1 hc
  have hst:=zfd hg hk (h.rch s (List.mem_of_mem_tail hs))
  have hp:=vx (n:=2) (by decide) (show g.1.toNat≤6 by omega)
  have h1:=hst.lt1
  have h2:=hst.lt2
  unfold cod
  omega)
 rw [Zk,List.length_tail] at this
 omega
section
variable {g:Gr} {l:List Int}
end
def frS (g:Gr) (l:List Int) (i:Nat):Int:=((yu (frt g (xj l i)) g.1.toNat:Nat):Int)
theorem zbK {g:Gr} {l:List Int} {n i:Nat} (h:i < n):(WY g l n).getD i 0=frS g l (i + 1):=by
 simp [WY,frS,zZ,h]
theorem zhD {F:Nat} {w:S1 (List Int)} {l:List Int}:∀ (k:Nat) (zs:List Int) (s t:Int),vQ F w l k zs s t=(xL F w l k zs s t).map fun r=>(r.1.list,r.2)
 | 0,_,_,_=>rfl
 | k + 1,zs,s,t=>by
   simp only [vQ,xL,Option.map_bind,Je,zhD k,Function.comp_def,yx,NL.list]
theorem LZ {F:Nat} {g:Gr} {l:List Int}:vj F g l=(Wx F g l).map fun r=>(r.1.list,r.2):=by
 simp only [vj,Wx,Zb,Zo,Option.map_bind,Je,zhD,Function.comp_def,yx,NL.list]
section
variable {g:Gr} {l:List Int}
theorem ziN (hg:yD g=true) (ho:uM g.1 l=true) {i:Nat}:(mkm (xj l i) g.1.toNat).testBit=xj l i:=by
 have h8:=yl hg
 have hr:=Ug ho h8.1
 funext j
 rw [yh]
 by_cases hj:j < g.1.toNat
 · simp [hj]
 · rw [zA hj,wZ]
   symm
   unfold xj
   rw [decide_eq_false_iff_not]
   intro h
   have:=hr _ (List.mem_of_mem_take h)
   omega
end
theorem zcK {F:Nat} {xs:List Int} (hF:xs.length < F) (hs:Sm xs.length):WL F xs xs=some true:=by
 unfold WL
 rw [wE,zh]
 rw [uJ (L:=fun k i=>Yh F xs xs k i) (n:=xs.length) (p:=fun _=>true) (bad:=some false) (fin:=some true) ?_ ?_ F hF]
 · have:w7 (fun _=>true) xs.length=true:=y6.2 fun _ _=>rfl
   rw [this];rfl
 · intro k i hi
   simp only [Yh]
   rw [zo (by omega),zk,zT (d:=0) hi,zb,zb,wE,zh,zk,yd hi hs]
 · intro k
   simp only [Yh]
   rw [zA (by omega),zh]
theorem zks {F:Nat} {xs:List Int} {x:Int} (hF:xs.length < F) (hs:Sm xs.length):J8 F xs x=some (decide (x∈xs)):=by
 unfold J8
 rw [uJ (L:=fun k i=>Xm F xs x k i) (n:=xs.length) (p:=fun i=>!(xs.getD i 0 == x)) (bad:=some true) (fin:=some false) ?_ ?_ F hF]
 · cases h:w7 (fun i=>!(xs.getD i 0 == x)) xs.length with
   | true=>
     rw [zk]
     have h:=y6.1 h
     rw [zA]
     intro hm
     obtain ⟨i,hi,he⟩:=Yb.1 hm
     have:=h i hi
     rw [zZ,yL hi] at this
     simp [he] at this
   | false=>
     rw [zh]
     rw [zo]
     apply Classical.byContradiction
     intro hm
     have:w7 (fun i=>!(xs.getD i 0 == x)) xs.length=true:=y6.2 fun i hi=>by
      rw [yE,beq_eq_false_iff_ne]
      intro e
      exact hm (e ▸ vg hi)
     rw [h] at this;cases this
 · intro k i hi
   simp only [Xm]
   rw [zo (by omega),zk,zT (d:=0) hi,zb,yd hi hs]
   cases xs.getD i 0 == x <;> rfl
 · intro k
   simp only [Xm]
   rw [zA (by omega),zh]
def mxL (xs:List Int):Nat→Int
 | 0=>0
 | i + 1=>if xs.getD i 0 > mxL xs i then xs.getD i 0 else mxL xs i
theorem Mo {xs:List Int}:∀ n,0≤mxL xs n
 | 0=>Int.le_refl _
 | n + 1=>by
   have:=Mo (xs:=xs) n
   simp only [mxL];split <;> omega
theorem ziu {xs:List Int}:∀ n i,i < n→xs.getD i 0≤mxL xs n
 | 0,i,h=>by omega
 | n + 1,i,h=>by
   have h2:=ziu (xs:=xs) n
   simp only [mxL]
   by_cases e:i=n
   · subst e;split <;> omega
   · have:=h2 i (by omega);split <;> omega
theorem zi6 {xs:List Int} {t:Int} (h0:0≤t):∀ n,(∀ i,i < n→xs.getD i 0≤t)→mxL xs n≤t
 | 0,_=>h0
 | n + 1,h=>by
   have:=zi6 h0 n fun i hi=>h i (by omega)
   have:=h n (by omega)
   simp only [mxL];split <;> omega
def fsF (g:Gr) (l:List Int):List Int×Bool:=bif yD g && uM g.1 l then (WY g l l.length,true) else ([],false)
section
variable {F:Nat} {g:Gr} {l:List Int}
theorem L3 (hF:l.length < F) (hG:g.2.length < F) (h9:20≤F) (hl:Sm l.length) (hs:Sm g.2.length):Kn F g l=some (fsF g l)∧vj F g l=some (fsF g l):=by
 unfold fsF
 rw [LZ]
 unfold Kn Wx ZD
 rw [YF hG hs,Yj hG (by omega) hs,zb,zb]
 cases h:yD g with
 | false=>exact ⟨rfl,rfl⟩
 | true=>
   have h8:=yl h
   simp only [ye,zh]
   rw [Qp h8.1 h8.2 hF (by omega) hl,Nc h8.1 h8.2 hF hl]
   cases ho:uM g.1 l with
   | false=>exact ⟨rfl,rfl⟩
   | true=>
     have hlen:=Yv ho
     constructor
     · simp only [zb,ye,XF,zh]
       exact zkk h ho h9 hG hs
     · simp only [zb,ye,Zo,zh]
       obtain ⟨n,hn⟩:∃ n:Nat,g.1=n:=⟨g.1.toNat,by omega⟩
       rw [WD h hG hs,zb,hn,za7 (by omega),zb]
       rw [zj8 h ho h9 _ (by simp;omega)]
       rfl
end
section
variable {g:Gr}
def st1 (g:Gr) (s:(Nat→Bool)×(Nat→Bool)) (step:Int):(Nat→Bool)×(Nat→Bool):=(xi s.1 step,spr g (fun j=>!xi s.1 step j) s.2)
def okR (g:Gr) (K:Nat):(Nat→Bool)×(Nat→Bool)→List Int→Prop
 | _,[]=>True
 | s,x :: l=>Xu g.1.toNat s.1 x=true∧(∀ j,(st1 g s x).2 j=true→s.2 j=true)∧yu (st1 g s x).1 g.1.toNat≤K∧okR g K (st1 g s x) l
theorem zeT {K:Nat}:∀ (a b:List Int) (s),okR g K s a→okR g K (a.foldl (st1 g) s) b→okR g K s (a++b)
 | [],b,s,_,h=>h
 | x :: a,b,s,⟨h1,h2,h3,h4⟩,h=>⟨h1,h2,h3,zeT a b _ h4 h⟩
theorem zhd {K:Nat}:∀ (l:List Int) (s),okR g K s l→∀ i,i < l.length→Xu g.1.toNat ((l.take i).foldl (st1 g) s).1 (l.getD i 0)=true∧(∀ j,((l.take (i + 1)).foldl (st1 g) s).2 j=true→((l.take i).foldl (st1 g) s).2 j=true)∧yu ((l.take (i + 1)).foldl (st1 g) s).1 g.1.toNat≤K
 | [],_,_,i,hi=>by simp at hi
 | x :: l,s,⟨h1,h2,h3,h4⟩,0,_=>⟨h1,h2,h3⟩
 | x :: l,s,⟨h1,h2,h3,h4⟩,i + 1,hi=>zhd l _ h4 i (by simpa using hi)
theorem zdx {α:Type} {l:List α} {i:Nat} {d:α} (hi:i < l.length):l.take (i + 1)=l.take i++[l.getD i d]:=by
 rw [List.take_add_one,yL hi,zZ,yL hi];rfl
theorem JH {l:List Int}:∀ i,i≤l.length→stt g l i=(l.take i).foldl (st1 g) (fun _=>false,fun j=>decide (j < g.1.toNat))
 | 0,_=>rfl
 | i + 1,hi=>by
   rw [zdx (d:=0) (show i < l.length by omega),List.foldl_append,← JH i (by omega)]
   rfl
theorem zgq {l:List Int} {K:Nat} (hl:l.length≤40) (h:okR g K (fun _=>false,fun j=>decide (j < g.1.toNat)) l):xv g l=true∧Nq g l=true∧u6 g l (l.length + 1)≤K:=by
 have ha:=zhd l _ h
 refine ⟨?_,?_,?_⟩
 · unfold xv
   rw [zo hl,zL]
   refine y6.2 fun i hi=>?_
   unfold zaS
   rw [JH i (by omega)]
   exact (ha i hi).1
 · refine y6.2 fun i hi=>y6.2 fun j _=>?_
   rw [JH i (by omega),JH (i + 1) (by omega)]
   have:=(ha i hi).2.1 j
   cases e:((l.take (i + 1)).foldl (st1 g) (fun _=>false,fun j=>decide (j < g.1.toNat))).2 j with
   | false=>rfl
   | true=>rw [this e];rfl
 · have:∀ k,k≤l.length + 1→u6 g l k≤K:=by
    intro k
    induction k with
    | zero=>intro _;show (0:Int)≤K;omega
    | succ k ih=>
      intro hk
      rw [Wv]
      have:=ih (by omega)
      have h2:yu (stt g l k).1 g.1.toNat≤K:=by
       cases k with
       | zero=>have:yu (fun _=>false) g.1.toNat=0:=by simp [yu]
               show yu (fun _=>false) g.1.toNat≤K
               omega
       | succ k=>rw [JH (k + 1) (by omega)];exact (ha k (by omega)).2.2
      omega
   exact this _ (yF _)
theorem zhE {A:Nat→Bool} {y:Nat}:xi A (-1 - (y:Int))=fun j=>A j && !(j == y):=by
 funext j
 have hst:xx (-1 - (y:Int))=y:=by unfold xx;rw [if_pos (by omega)];omega
 unfold xi
 rw [if_pos (by omega),hst,yi]
theorem zj5 {A:Nat→Bool} {y:Nat}:xi A (y:Int)=fun j=>A j || j == y:=by
 funext j
 rw [UM (by omega),yi]
theorem zfQ (hg:yD g=true) {S:Nat} {f u:Nat→Bool} (h1:∀ j,j < g.1.toNat→u j=true→f j=true→S.testBit j=false) (h2:∀ j,j < g.1.toNat→S.testBit j=false→u j=true∧f j=true) (h3:∀ j,frt g S.testBit j=true→f j=false) :
    spr g f u=fun j=>decide (j < g.1.toNat) && !S.testBit j:=by
 have:=zmk hg h1 h2 h3
 funext j
 by_cases hj:j < g.1.toNat
 · have h:(mkm (spr g f u) g.1.toNat).testBit j=(cmM g.1.toNat S).testBit j:=by rw [this]
   rw [yh,Kl hj,zo hj,zL] at h
   rw [h,zo hj,zL]
 · rw [zA hj,wZ]
   cases e:spr g f u j with
   | false=>rfl
   | true=>exact absurd (Q6 hg e) hj
theorem zfW (hg:yD g=true) {S K:Nat}:∀ (ys:List Nat) (A:Nat→Bool),ys.Nodup→(∀ y∈ys,A y=true∧y < g.1.toNat∧frt g S.testBit y=false)→(∀ j,frt g S.testBit j=true→A j=true)→(∀ j,A j=true→S.testBit j=true)→yu A g.1.toNat≤K →
    okR g K (A,fun j=>decide (j < g.1.toNat) && !S.testBit j) (ys.map fun (y:Nat)=>-1 - (y:Int))∧(ys.map fun (y:Nat)=>-1 - (y:Int)).foldl (st1 g) (A,fun j=>decide (j < g.1.toNat) && !S.testBit j)=(fun j=>A j && !decide (j∈ys),fun j=>decide (j < g.1.toNat) && !S.testBit j)
 | [],A,_,_,_,_,_=>⟨trivial,by simp⟩
 | y :: ys,A,hn,hy,hB,hS,hK=>by
   obtain ⟨y1,y2,y3⟩:=hy y (by simp)
   obtain ⟨n1,n2⟩:=List.nodup_cons.1 hn
   have hst:xx (-1 - (y:Int))=y:=by unfold xx;rw [if_pos (by omega)];omega
   have e1:st1 g (A,fun j=>decide (j < g.1.toNat) && !S.testBit j) (-1 - (y:Int))=(fun j=>A j && !(j == y),fun j=>decide (j < g.1.toNat) && !S.testBit j):=by
    unfold st1
    simp only [zhE]
    rw [zfQ hg (S:=S)]
    · intro j hj h _
      simp only [zq,yE] at h
      exact h.2
    · intro j hj h
      refine ⟨by rw [zo hj,h];rfl,?_⟩
      cases e:A j with
      | false=>rfl
      | true=>rw [hS j e] at h;cases h
    · intro j hj
      rw [hB j hj]
      have:j≠y:=fun e=>by subst e;rw [y3] at hj;cases hj
      simp [this]
   obtain ⟨a1,a2⟩:=zfW hg (S:=S) (K:=K) ys (fun j=>A j && !(j == y)) n2 (fun z hz=>by
    obtain ⟨z1,z2,z3⟩:=hy z (by simp [hz])
    have:z≠y:=fun e=>n1 (e ▸ hz)
    exact ⟨by simp [z1,this],z2,z3⟩) (fun j hj=>by
    have:j≠y:=fun e=>by subst e;rw [y3] at hj;cases hj
    simp [hB j hj,this]) (fun j hj=>by rw [zq] at hj;exact hS j hj.1) (xI (Ui fun j _ hj=>by rw [zq] at hj;exact hj.1) hK)
   rw [List.map_cons]
   refine ⟨⟨?_,?_,?_,?_⟩,?_⟩
   · unfold Xu
     rw [hst,zo (show (y:Int) < (g.1.toNat:Int) by omega),zo (show -1 - (y:Int) < 0 by omega),yi,zL]
     show (A y == true)=true
     rw [y1];rfl
   · rw [e1];exact fun j hj=>hj
   · rw [e1];exact xI (Ui fun j _ hj=>by rw [zq] at hj;exact hj.1) hK
   · rw [e1];exact a1
   · rw [List.foldl_cons,e1,a2]
     congr 1
     funext j
     by_cases e:j=y
     · subst e;simp
     · have e2:(j == y)=false:=by simpa using e
       simp [e,e2]
theorem zfK {l:List Int} {K:Nat} (hg:yD g=true) (ho:uM g.1 l=true) (hK:∀ i,i≤l.length→frS g l i + 1≤K):∀ i,i≤l.length →
    okR g K (fun _=>false,fun j=>decide (j < g.1.toNat)) (YQ g l i)∧(YQ g l i).foldl (st1 g) (fun _=>false,fun j=>decide (j < g.1.toNat))=(frt g (xj l i),fun j=>decide (j < g.1.toNat) && !xj l i j)∧(Jy g l i=frt g (xj l i))∧(YQ g l i).length + yu (Jy g l i) g.1.toNat=2 * i
 | 0,_=>by
   have e:frt g (xj l 0)=fun _=>false:=by funext j;simp [frt,xj]
   refine ⟨trivial,?_,?_,?_⟩
   · rw [e];show (_,_)=_;congr 1;funext j;simp [xj]
   · rw [e];rfl
   · show 0 + yu (fun _=>false) g.1.toNat=0;simp [yu]
 | i + 1,hi=>by
   have h8:=yl hg
   obtain ⟨a1,a2,a3,a4⟩:=zfK hg ho hK i (by omega)
   have hr:=Ug ho h8.1 _ (vg (d:=0) (show i < l.length by omega))
   obtain ⟨x,hx⟩:∃ x:Nat,l.getD i 0=x:=⟨(l.getD i 0).toNat,by omega⟩
   have hxn:x < g.1.toNat:=by omega
   have hfr:=zgH ho h8.1 (show i < l.length by omega) hx
   have hps:=Wz (show i < l.length by omega) hx
   have hSb:=ziN hg ho (i:=i + 1)
   have hup:∀ j,frt g (xj l (i + 1)) j=true→(frt g (xj l i) j || j == x)=true:=by
    intro j hj
    obtain ⟨h1,y,h2,h3⟩:=(YW hg).1 hj
    rw [hps,yU] at h1
    rcases h1 with h1 | h1
    · rw [yU];left
      refine (YW hg).2 ⟨h1,y,h2,?_⟩
      rw [hps,Bool.or_eq_false_iff] at h3
      exact h3.1
    · rw [h1,Bool.or_true]
   have hT:Jy g l (i + 1)=frt g (xj l (i + 1)):=by
    funext j
    show ((Jy g l i j || j == (l.getD i 0).toNat) && frt g (xj l (i + 1)) j)=_
    rw [a3,hx,yi]
    cases e:frt g (xj l (i + 1)) j with
    | false=>rw [YC]
    | true=>rw [hup j e];rfl
   have hfx:frt g (xj l i) x=false:=by
    cases e:frt g (xj l i) x with
    | false=>rfl
    | true=>have:=((YW hg).1 e).1;rw [hfr] at this;cases this
   have hc1:=KA hfx hxn
   have hKi:=hK i (by omega)
   unfold frS at hKi
   have e1:st1 g (frt g (xj l i),fun j=>decide (j < g.1.toNat) && !xj l i j) (x:Int)=(fun j=>frt g (xj l i) j || j == x,fun j=>decide (j < g.1.toNat) && !(mkm (xj l (i + 1)) g.1.toNat).testBit j):=by
    unfold st1
    simp only [zj5]
    rw [zfQ hg (S:=mkm (xj l (i + 1)) g.1.toNat)]
    · intro j hj h1 h2
      rw [hSb,hps]
      simp only [zq,yE,Bool.or_eq_false_iff] at h1 h2
      rw [h1.2,h2.2];rfl
    · intro j hj h
      rw [hSb,hps,Bool.or_eq_false_iff] at h
      refine ⟨by rw [zo hj,h.1];rfl,?_⟩
      rw [h.2,wy,yE]
      cases e:frt g (xj l i) j with
      | false=>rfl
      | true=>have:=((YW hg).1 e).1;rw [h.1] at this;cases this
    · intro j hj
      rw [hSb] at hj
      rw [hup j hj];rfl
   have e1':(fun j=>decide (j < g.1.toNat) && !(mkm (xj l (i + 1)) g.1.toNat).testBit j)=fun j=>decide (j < g.1.toNat) && !xj l (i + 1) j:=by rw [hSb]
   have hro:=zfW hg (S:=mkm (xj l (i + 1)) g.1.toNat) (K:=K) ((List.range g.1.toNat).filter fun j=>(frt g (xj l i) j || j == x) && !frt g (xj l (i + 1)) j) (fun j=>frt g (xj l i) j || j == x)
    (List.nodup_range.filter _) (fun y hy=>by
      rw [Zh,ZT,zq,yE] at hy
      exact ⟨hy.2.1,hy.1,by rw [hSb];exact hy.2.2⟩) (fun j hj=>by rw [hSb] at hj;exact hup j hj) (fun j hj=>by
      rw [hSb,hps]
      rw [yU] at hj
      rcases hj with hj | hj
      · rw [((YW hg).1 hj).1];rfl
      · rw [hj,Bool.or_true]) (by omega)
   have hout:zaQ (fun j=>Jy g l i j || j == (l.getD i 0).toNat) (frt g (xj l (i + 1))) g.1.toNat=((List.range g.1.toNat).filter fun j=>(frt g (xj l i) j || j == x) && !frt g (xj l (i + 1)) j).map fun (y:Nat)=>-1 - (y:Int):=by
    unfold zaQ zt
    rw [List.map_map,a3,hx,yi]
    rfl
   have hpo:YQ g l (i + 1)=YQ g l i++((x:Int) :: ((List.range g.1.toNat).filter fun j=>(frt g (xj l i) j || j == x) && !frt g (xj l (i + 1)) j).map fun (y:Nat)=>-1 - (y:Int)):=by
    show YQ g l i++[l.getD i 0]++zaQ _ _ _=_
    rw [hout,hx,List.append_assoc];rfl
   refine ⟨?_,?_,hT,?_⟩
   · rw [hpo]
     refine zeT _ _ _ a1 ?_
     rw [a2]
     refine ⟨?_,?_,?_,?_⟩
     · have hst:xx (x:Int)=x:=by unfold xx;rw [if_neg (by omega)]
       unfold Xu
       rw [hst,zo (show (x:Int) < (g.1.toNat:Int) by omega),zA (show ¬ (x:Int) < 0 by omega),yi,zL]
       show (frt g (xj l i) x == false)=true
       rw [hfx];rfl
     · rw [e1]
       intro j hj
       simp only [zq,yE] at hj ⊢
       rw [hSb,hps,Bool.or_eq_false_iff] at hj
       exact ⟨hj.1,hj.2.1⟩
     · rw [e1];show yu (fun j=>frt g (xj l i) j || j == x) g.1.toNat≤K;omega
     · rw [e1];exact hro.1
   · rw [hpo,List.foldl_append,a2,List.foldl_cons,e1,hro.2,e1']
     congr 1
     funext j
     cases e:frt g (xj l (i + 1)) j with
     | false=>
       cases e2:(frt g (xj l i) j || j == x) with
       | false=>rfl
       | true=>
         have hj:j < g.1.toNat:=by
          rw [yU] at e2
          rcases e2 with h | h
          · exact znY hg h
          · have:j=x:=by simpa using h
            omega
         rw [zo (Zh.2 ⟨ZT.2 hj,by rw [e2,e];rfl⟩)];rfl
     | true=>
       rw [hup j e,zA];rfl
       intro hm
       rw [Zh,e] at hm
       simp at hm
   · rw [hpo,uA,X7,Zk,hT]
     have e3:((List.range g.1.toNat).filter fun j=>(frt g (xj l i) j || j == x) && !frt g (xj l (i + 1)) j).length=yu (fun j=>(frt g (xj l i) j || j == x) && !frt g (xj l (i + 1)) j) g.1.toNat:=by
      unfold yu;rw [List.countP_eq_length_filter]
     have e4:=zgO (p:=fun j=>frt g (xj l i) j || j == x) (q:=frt g (xj l (i + 1))) g.1.toNat
     have e5:yu (fun j=>frt g (xj l (i + 1)) j && (frt g (xj l i) j || j == x)) g.1.toNat=yu (frt g (xj l (i + 1))) g.1.toNat:=ZW fun j _=>by
      cases e:frt g (xj l (i + 1)) j with
      | false=>rfl
      | true=>rw [hup j e];rfl
     rw [a3] at a4
     omega
theorem zgM {l:List Int} {K:Nat} (hg:yD g=true) (ho:uM g.1 l=true) (hK:∀ i,i≤l.length→frS g l i + 1≤K) :
    xv g (YQ g l l.length)=true∧Nq g (YQ g l l.length)=true∧u6 g (YQ g l l.length) ((YQ g l l.length).length + 1)≤K∧Js g (YQ g l l.length)=true:=by
 have h8:=yl hg
 have hlen:=Yv ho
 obtain ⟨a1,a2,a3,a4⟩:=zfK hg ho hK l.length (yF _)
 obtain ⟨b1,b2,b3⟩:=zgq (by omega) a1
 refine ⟨b1,b2,b3,?_⟩
 unfold Js
 rw [JH _ (yF _),List.take_length,a2]
 rw [yA]
 refine Ue.2 fun j hj=>?_
 have:=K1 ho (x:=(j:Int)) (by omega) (by omega)
 have e:xj l l.length j=true:=by unfold xj;rw [List.take_length];exact zo this
 show (decide (j < g.1.toNat) && !xj l l.length j)=false
 rw [e,ye,YC]
theorem zhV {l:List Int} {w:Int} (hg:yD g=true) (hp:xv g l=true) (hc:Js g l=true) (h0:g.1≠0) (hw:∀ t:Int,0≤t→Ch g.1.toNat (frC g) t 0 (2 ^ g.1.toNat - 1)→w≤t):w + 1≤u6 g l (l.length + 1):=by
 have h8:=yl hg
 have hpow:=w4 g.1.toNat
 unfold xv at hp
 rw [zq] at hp
 have hcan:=y6.1 hp.2
 have hle:∀ k i,i < k→(yu (stt g l i).1 g.1.toNat:Int)≤u6 g l k:=by
  intro k
  induction k with
  | zero=>intro i hi;omega
  | succ k ih=>
    intro i hi
    rw [Wv]
    by_cases e:i=k
    · subst e;omega
    · have:=ih i (by omega);omega
 have hnn:(0:Int)≤u6 g l (l.length + 1):=by have:=hle (l.length + 1) 0 (by omega);omega
 obtain ⟨U,hU⟩:∃ U:Nat,u6 g l (l.length + 1)=U:=⟨(u6 g l (l.length + 1)).toNat,by omega⟩
 have hlt1:∀ i,i≤l.length→∀ j,(stt g l i).1 j=true→j < g.1.toNat:=by
  intro i
  induction i with
  | zero=>intro _ j hj;cases hj
  | succ i ih=>
    intro hi j hj
    have hj:xi (stt g l i).1 (l.getD i 0) j=true:=hj
    have hcn:=hcan i (by omega)
    unfold zaS Xu at hcn
    rw [zq,yn] at hcn
    have hs0:=KZ (step:=l.getD i 0)
    unfold xi at hj
    split at hj
    · rw [zq] at hj;exact ih (by omega) j hj.1
    · rw [yU] at hj
      rcases hj with h | h
      · exact ih (by omega) j h
      · have:j=(xx (l.getD i 0)).toNat:=by simpa using h
        omega
 have key:∀ i,i≤l.length→Rch g U (mkm (stt g l i).1 g.1.toNat,mkm (stt g l i).2 g.1.toNat):=by
  intro i
  induction i with
  | zero=>
    intro _
    have e1:mkm (stt g l 0).1 g.1.toNat=0:=wQ fun j=>by rw [yh,xH];show (_ && false)=false;rw [YC]
    have e2:mkm (stt g l 0).2 g.1.toNat=2 ^ g.1.toNat - 1:=wQ fun j=>by rw [yh,Nat.testBit_two_pow_sub_one];show (_ && decide _)=_;rw [w5]
    rw [e1,e2];exact .init
  | succ i ih=>
    intro hi
    have hb1:(mkm (stt g l i).1 g.1.toNat).testBit=(stt g l i).1:=funext fun j=>by
     rw [yh]
     cases e:(stt g l i).1 j with
     | false=>rw [YC]
     | true=>rw [zo (hlt1 i (by omega) j e)];rfl
    have hb2:(mkm (stt g l i).2 g.1.toNat).testBit=(stt g l i).2:=funext fun j=>by
     rw [yh]
     cases e:(stt g l i).2 j with
     | false=>rw [YC]
     | true=>rw [zo (zdu hg i j e)];rfl
    have hst:=Rch.step (step:=l.getD i 0) (ih (by omega)) (by
     unfold cnS
     rw [hb1]
     have:=hcan i (by omega)
     unfold zaS at this
     rw [this,zL,yE]
     by_cases hs:l.getD i 0≥0
     · rw [zo hs,zL,beq_eq_false_iff_ne]
       intro e
       obtain ⟨c1,c2⟩:=MO hs this
       have h1:=hle (l.length + 1) (i + 1) (by omega)
       have h2:yu (stt g l (i + 1)).1 g.1.toNat=yu (stt g l i).1 g.1.toNat + 1:=by
        have:(stt g l (i + 1)).1=fun j=>(stt g l i).1 j || j == (l.getD i 0).toNat:=funext fun j=>UM hs j
        rw [this]
        exact KA c2 c1
       unfold pcN at e
       rw [hb1] at e
       omega
     · rw [zA hs,wZ])
    unfold nxS at hst
    simp only [hb1,hb2] at hst
    exact hst
 have hlast:=key l.length (yF _)
 have hz:mkm (stt g l l.length).2 g.1.toNat=0:=by
  unfold Js at hc
  exact Kr.2 (by simpa using hc)
 cases U with
 | zero=>
   have:=zhC hlast
   have h2:=(Prod.mk.inj this).2
   rw [hz] at h2
   have:2≤2 ^ g.1.toNat:=vx (n:=2) (i:=1) (by decide) (by omega)
   omega
 | succ U=>
   have h1:Rch g ((U:Int) + 1) (mkm (stt g l l.length).1 g.1.toNat,mkm (stt g l l.length).2 g.1.toNat):=hlast
   have:=hw U (by omega) (zg2 hg h1 hz)
   omega
end
section
variable {g:Gr} {l:List Int}
end
theorem zm5 {F:Nat} {g:Gr} (hg:yD g=true) (h9:300≤F) (hG:g.2.length < F) (hs:Sm g.2.length):∃ w,0≤w∧vn F g=some (w,true)∧∀ t,0≤t→(w≤t↔Ch g.1.toNat (frC g) t 0 (2 ^ g.1.toNat - 1)):=by
 have h8:=yl hg
 have hpow:=w4 g.1.toNat
 obtain ⟨best,b1,b2,b3⟩:=MR (F:=F) (nn:=0) hg h9
 have hT0:0≤best.getD 0 0:=by
  have h:=b3 0 hpow
  have h:best.getD 0 0=_:=h
  rw [h]
  by_cases he:XJ g.1.toNat 0=[]
  · rw [he];exact Int.le_refl _
  · refine zf7 he fun y _=>?_
    have:=zdh (g:=g) (m:=0 ||| 2 ^ y.toNat)
    have:0≤frP g 0 y.toNat:=this
    show 0≤max (frP g 0 y.toNat) _
    omega
 refine ⟨_,hT0,?_,fun t ht=>zjR (c:=frC g) (by omega) b3 ht 0 hpow⟩
 unfold vn vW
 have:=zT (xs:=best) (i:=0) (d:=0) (by omega)
 rw [show ((0:Nat):Int)=0 from rfl] at this
 rw [Yj hG (by omega) hs,zb,hg,ye,zh,WD hg hG hs,zb,b1,zb,this,zb,zb]
section
variable {F:Nat} {g:Gr} {l:List Int}
theorem zif (hw:∀ x∈l,(Lit.int .i64 x).wf=true) (hl:l.length < F) (hG:g.2.length < F) (hF:60≤F) (hsl:Sm l.length) (hs:Sm g.2.length) :
    uk F g l=some (bif yD g && xv g l then (XG g l l.length,true) else ([],false))∧uh F g l=some (bif yD g && xv g l then (XG g l l.length,true) else ([],false)):=by
 unfold uk uh wo
 rw [YF hG hs,Yj hG (by omega) hs,zb,zb]
 cases hg:yD g with
 | false=>exact ⟨rfl,rfl⟩
 | true=>
   have h8:=yl hg
   rw [ye,zh,zh,Jz hg hw hF hG hl hs hsl,zb,WD hg hG hs,zb,L4 hg hw hF hsl,zb,zb,zL]
   cases hp:xv g l with
   | false=>exact ⟨rfl,rfl⟩
   | true=>
     have h40:=YM hp
     constructor
     · unfold Zd
       rw [ye,zh,UG hg hw hp hF hG hs,zb]
       exact zkn h8 hp hF
     · simp only [zk,ye,zh]
       have hsub:sub (stI g l (l.length + 1)) 1 ((stI g l (l.length + 1)).length:Int)=some ((stI g l (l.length + 1)).drop 1):=MD (i:=1) (by rw [Zm];omega)
       rw [hsub,zb]
       have hdl:((stI g l (l.length + 1)).drop 1).length=l.length:=by simp [Zm]
       obtain ⟨s,h1,h2⟩:=Mh (L:=fun k t (s:NL (List Int))=>w8 F ((stI g l (l.length + 1)).drop 1) k s t) (n:=l.length) (fin:=fun s=>some (s.list,true)) (fun t s=>s.list=XG g l t) (by
        rintro k t zs ht h1
        have hzl:zs.list.length=t:=by rw [h1,Xt]
        refine ⟨.of (zs.list++[zt (stt g l (t + 1)).2 g.1.toNat]),?_,?_⟩
        · show zs.list++[_]=_
          rw [h1,NS]
        · simp only [w8,hdl]
          have hget:((stI g l (l.length + 1)).drop 1).getD t (0,0)=(stI g l (l.length + 1)).getD (t + 1) (0,0):=by
           rw [zZ,zZ,List.getElem?_drop,Nat.add_comm 1 t]
          rw [zo (show (t:Int) < (l.length:Int) by omega),zk,zT (d:=(0,0)) (by rw [hdl];exact ht),zb,hget,UE (by omega)]
          simp only
          rw [KD (by omega) (by omega),zb,YB (by simp;omega),zb,yd ht (by unfold Sm;omega)])
        (by
          rintro k zs h1
          simp only [w8,hdl]
          rw [zA (show ¬ (l.length:Int) < (l.length:Int) by omega),zh]) F .nil (by omega) (by simp [NL.list,XG])
       rw [h2,h1]
theorem zgG {xs:List (List Int)} (hF:xs.length < F) (hs:Sm xs.length) (hx:∀ x∈xs,x.length < F∧Sm x.length):Xv F xs xs=some true:=by
 unfold Xv
 rw [wE,zh]
 rw [uJ (L:=fun k i=>ZE F xs xs k i) (n:=xs.length) (p:=fun _=>true) (bad:=some false) (fin:=some true) ?_ ?_ F hF]
 · have:w7 (fun _=>true) xs.length=true:=y6.2 fun _ _=>rfl
   rw [this];rfl
 · intro k i hi
   have h:=hx _ (vg (d:=[]) hi)
   simp only [ZE]
   rw [zo (by omega),zk,zT (d:=[]) hi,zb,zb,zcK h.1 h.2,zb,ye,zh,zk,yd hi hs]
 · intro k
   simp only [ZE]
   rw [zA (by omega),zh]
theorem zgP {p q:Nat→Bool} {n:Nat} (hn:n≤8) (hF:20≤F):UX F (zt p n) (zt q n)=some (w7 (fun j=>!p j || q j) n):=by
 unfold UX
 have hlp:=Y7 (p:=p) (n:=n)
 have hlq:=Y7 (p:=q) (n:=n)
 rw [uJ (L:=fun k i=>Yp F (zt p n) (zt q n) k i) (n:=(zt p n).length) (p:=fun k=>q ((zt p n).getD k 0).toNat) (bad:=some false) (fin:=some true) ?_ ?_ F (by omega)]
 · rw [Qo]
   cases w7 (fun j=>!p j || q j) n <;> rfl
 · intro k i hi
   obtain ⟨x,hx,hxn,_⟩:=vU hi
   simp only [Yp]
   have hm:decide ((x:Int)∈zt q n)=q x:=by
    rw [yM,yn,wA]
    constructor
    · rintro ⟨y,e,_,h⟩
      have:x=y:=by omega
      rw [this];exact h
    · exact fun h=>⟨x,rfl,hxn,h⟩
   rw [zo (by omega),zk,zT (d:=0) hi,zb,zks (by omega) (by unfold Sm;omega),zb,hx,yi,hm,yd hi (by unfold Sm;omega)]
   cases q x <;> rfl
 · intro k
   simp only [Yp]
   rw [zA (by omega),zh]
theorem zhm {xs:List Int} (hF:xs.length < F) (hs:Sm xs.length):WT F xs=some (mxL xs xs.length):=by
 unfold WT
 refine xA (L:=fun k t (s:Int)=>uo F xs k s t) (n:=xs.length) (fun t s=>s=mxL xs t) ?_ ?_ F 0 hF rfl
 · rintro k t s ht rfl
   simp only [uo]
   rw [zo (by omega),zk,zT (d:=0) ht,zb]
   refine ⟨mxL xs (t + 1),rfl,?_⟩
   unfold Ws
   rw [yd ht hs]
   by_cases hm:xs.getD t 0 > mxL xs t
   · rw [zo hm,zk,zb]
     simp only [mxL,if_pos hm]
   · rw [zA hm,zh]
     simp only [mxL,if_neg hm]
 · rintro k s rfl
   simp only [uo]
   rw [zA (by omega),zh]
def OkP (l:List Int) (m:Nat):Prop:=l.length≤m∧∀ x∈l,(Lit.int .i64 x).wf=true
theorem zaB {m:Nat} {x:Int} (h:OkP l m) (hx:(Lit.int .i64 x).wf=true):OkP (l++[x]) (m + 1):=by
 refine ⟨by have:=h.1;simp;omega,fun y hy=>?_⟩
 rcases zQ.1 hy with hy | hy
 · exact h.2 y hy
 · rw [vv] at hy;subst hy;exact hx
theorem Uj {x:Int} (h1:-100≤x) (h2:x≤100):(Lit.int .i64 x).wf=true:=L9.2 (by constructor <;> omega)
theorem zce (hg:yD g=true) (h0:g.1≠0) (hF:500≤F) (hG:g.2.length < F) (hs:Sm g.2.length):∀ (d k:Nat) (a:LB) (b v:Int) (xs:List Int) (p u:Nat→Bool) (i:Int) (m:Nat),xs.length + d=42→d < k→Ck a b m→m + 4 * d≤20000→OkP xs 42→(∀ j,u j=true→j < g.1.toNat) →
    ∃ l c,yT F g k a b v xs (zt p g.1.toNat) (zt u g.1.toNat) i=some (l,c)∧OkP l 42
 | 0,k,a,b,v,xs,p,u,i,m,hd,hk,hc,hm,hx,hu=>by
   obtain ⟨k,rfl⟩:∃ k',k=k' + 1:=⟨k - 1,by omega⟩
   simp only [yT]
   obtain ⟨r,c1,e1,r0,r1,_,k1⟩:=uy (F:=F) (c:=cu a b v) (n:=2) hc (by omega)
   have:=r1 (by omega)
   rw [e1,zb,show w64 (40 + (r,c1).1)=40 + r from xw (by omega) (by omega),zA (by omega),zh]
   exact ⟨xs,_,rfl,hx⟩
 | d + 1,k,a,b,v,xs,p,u,i,m,hd,hk,hc,hm,hx,hu=>by
   have h8:=yl hg
   obtain ⟨k,rfl⟩:∃ k',k=k' + 1:=⟨k - 1,by omega⟩
   simp only [yT]
   obtain ⟨r,c1,e1,r0,r1,_,k1⟩:=uy (F:=F) (c:=cu a b v) (n:=2) hc (by omega)
   have:=r1 (by omega)
   rw [e1,zb,show w64 (40 + (r,c1).1)=40 + r from xw (by omega) (by omega)]
   by_cases hlt:(xs.length:Int) < 40 + r
   · rw [zo hlt,zk]
     obtain ⟨y,c2,e2,y0,y1,_,k2⟩:=uy (F:=F) (c:=cu c1.a c1.b c1.c.v) (n:=g.1) k1 (by omega)
     have e2':yj F (Cu.mk (S3.mk (r,c1).2.a (r,c1).2.b (Kd.mk (r,c1).2.c.v:Kd .u64)):Cu (S3 (List (Kd .u8)) Int (Kd .u64))) g.1=some (y,c2):=e2
     have hy:=y1 (by omega)
     rw [e2',zb]
     have hhas:wI F (zt p g.1.toNat) (y,c2).1=some (p y.toNat):=Mg (by omega) (by omega) y0 (by omega)
     rw [hhas,zb]
     have fin:∀ st:Int,xx st=y→p y.toNat=decide (st < 0)→(Lit.int .i64 st).wf=true→∃ l c,wF F (y,c2) g xs (zt p g.1.toNat) (zt u g.1.toNat) i (yT F g k) st=some (l,c)∧OkP l 42:=by
      intro st hst hpd hwf
      have hcan:Xu g.1.toNat p st=true:=by
       unfold Xu
       rw [hst,zo (by omega),zL,hpd,beq_self_eq_true]
      unfold wF
      rw [KQ hg hwf hcan (by omega) hG hs,zb,YB (by have:=hx.1;simp;omega),zb]
      refine zce hg h0 hF hG hs d k c2.a c2.b c2.c.v (xs++[st]) _ _ _ (m + 2 + 2) (by simp;omega) (by omega) k2 (by omega) ?_ (fun j hj=>Q6 hg hj)
      have:=zaB (m:=xs.length) ⟨yF _,hx.2⟩ hwf
      exact ⟨by rw [uA];simp;omega,this.2⟩
     cases hpy:p y.toNat with
     | true=>
       have e3:w64 (-1 - (y,c2).1)=-1 - y:=xw (by show _≤-1 - y;omega) (by show -1 - y < _;omega)
       rw [zk,e3]
       exact fin (-1 - y) (by unfold xx;rw [if_pos (by omega)];omega) (by rw [hpy,zo (by omega)]) (Uj (by omega) (by omega))
     | false=>
       rw [zh]
       exact fin y (by unfold xx;rw [if_neg (by omega)]) (by rw [hpy,zA (by omega)]) (Uj (by omega) (by omega))
   · rw [zA hlt,zh]
     exact ⟨xs,_,rfl,hx⟩
theorem zbT (hg:yD g=true) (h0:g.1≠0) (hF:500≤F) (hG:g.2.length < F) (hs:Sm g.2.length):∀ (d k:Nat) (a:LB) (b v:Int) (xs:List Int) (p u:Nat→Bool) (m:Nat),d≤14→d < k→Ck a b m→m + 4 * d≤19000→xs.length + d≤14→OkP xs 14→(∀ j,u j=true→j < g.1.toNat) →
    ∃ l c,yz F g k a b v xs (zt p g.1.toNat) (zt u g.1.toNat) (d:Int)=some (l,c)∧OkP l 42
 | 0,k,a,b,v,xs,p,u,m,hd,hk,hc,hm,hl,hx,hu=>by
   obtain ⟨k,rfl⟩:∃ k',k=k' + 1:=⟨k - 1,by omega⟩
   simp only [yz]
   rw [zA (by omega),zh]
   obtain ⟨r,c1,e1,r0,r1,_,k1⟩:=uy (F:=F) (c:=cu a b v) (n:=24) hc (by omega)
   rw [e1,zb]
   have hx42:OkP xs 42:=⟨by have:=hx.1;omega,hx.2⟩
   cases (r,c1).1 == 0 with
   | true=>
     rw [zk]
     obtain ⟨y,c2,e2,hy,_⟩:=Us (F:=F) (c:=cu c1.a c1.b c1.c.v) (xs:=[(-9),8,0,(-1),4611686018427387904,(-9223372036854775808)]) k1 (by omega) (by decide)
     have e2':yR F (Cu.mk (S3.mk (r,c1).2.a (r,c1).2.b (Kd.mk (r,c1).2.c.v:Kd .u64)):Cu (S3 (List (Kd .u8)) Int (Kd .u64))) [(-9),8,0,(-1),4611686018427387904,(-9223372036854775808)]=some (y,c2):=e2
     rw [e2',zb,YB (by have:=hx.1;simp;omega),zb]
     refine ⟨_,_,rfl,?_⟩
     have hwf:(Lit.int .i64 y).wf=true:=by
      simp only [z4,List.not_mem_nil,or_false] at hy
      rcases hy with rfl | rfl | rfl | rfl | rfl | rfl <;> decide
     have:=zaB hx hwf
     show OkP (xs++[y]) 42
     exact ⟨by have:=this.1;omega,this.2⟩
   | false=>
     rw [zh]
     cases (r,c1).1 == 1 with
     | true=>
       rw [zk]
       exact zce hg h0 hF hG hs (42 - xs.length) F c1.a c1.b c1.c.v xs p u 0 (m + 2) (by have:=hx.1;omega) (by omega) k1 (by omega) hx42 hu
     | false=>exact ⟨xs,_,rfl,hx42⟩
 | d + 1,k,a,b,v,xs,p,u,m,hd,hk,hc,hm,hl,hx,hu=>by
   have h8:=yl hg
   obtain ⟨k,rfl⟩:∃ k',k=k' + 1:=⟨k - 1,by omega⟩
   simp only [yz]
   rw [zo (by omega),zk]
   obtain ⟨y,c2,e2,y0,y1,_,k2⟩:=uy (F:=F) (c:=cu a b v) (n:=g.1) hc (by omega)
   have hy:=y1 (by omega)
   rw [e2,zb]
   have hhas:wI F (zt p g.1.toNat) (y,c2).1=some (p y.toNat):=Mg (by omega) (by omega) y0 (by omega)
   rw [hhas,zb]
   have hdw:w64 (((d + 1:Nat):Int) - 1)=(d:Int):=by rw [xw (by omega) (by omega)];omega
   have fin1:∀ (st:Int) (p' u':Nat→Bool),(∀ j,u' j=true→j < g.1.toNat)→(Lit.int .i64 st).wf=true→∃ l c,wz F (y,c2) g xs ((d + 1:Nat):Int) st (yz F g k) (zt p' g.1.toNat) (zt u' g.1.toNat)=some (l,c)∧OkP l 42:=by
    intro st p' u' hu' hwf
    unfold wz
    rw [YB (by have:=hx.1;simp;omega),zb,hdw]
    have:=zaB (m:=xs.length) ⟨yF _,hx.2⟩ hwf
    exact zbT hg h0 hF hG hs d k c2.a c2.b c2.c.v (xs++[st]) p' u' (m + 2) (by omega) (by omega) k2 (by omega) (by simp;omega) ⟨by simp;omega,this.2⟩ hu'
   have fin2:∀ st:Int,(Lit.int .i64 st).wf=true→∃ l c,wx F (y,c2) g xs (zt p g.1.toNat) (zt u g.1.toNat) ((d + 1:Nat):Int) (yz F g k) st=some (l,c)∧OkP l 42:=by
    intro st hwf
    unfold wx
    rw [zbA hg hwf (by omega),zb]
    cases hcan:Xu g.1.toNat p st with
    | false=>exact fin1 st p u hu hwf
    | true=>
      rw [zk,KQ hg hwf hcan (by omega) hG hs,zb]
      exact fin1 st _ _ (fun j hj=>Q6 hg hj) hwf
   cases hpy:p y.toNat with
   | true=>
     have e3:w64 (-1 - (y,c2).1)=-1 - y:=xw (by show _≤-1 - y;omega) (by show -1 - y < _;omega)
     rw [zk,e3]
     exact fin2 _ (Uj (by omega) (by omega))
   | false=>
     rw [zh]
     exact fin2 _ (Uj (show -100≤y by omega) (show y≤100 by omega))
theorem zdK {c:CC} {m:Nat} (hg:g.2.length≤400) (hF:500≤F) (hc:Ck c.v.a c.v.b m) (hm:m≤8000):∃ l c',wq F c g=some (l,c')∧OkP l 42:=by
 have hs:Sm g.2.length:=by unfold Sm;omega
 have hG:g.2.length < F:=by omega
 have nil:OkP [] 42:=⟨by simp,fun x hx=>by cases hx⟩
 unfold wq
 rw [YF hG hs,zb]
 cases hgd:yD g with
 | false=>exact ⟨[],_,rfl,nil⟩
 | true=>
   have h8:=yl hgd
   rw [ye,zh]
   by_cases h0:g.1=0
   · have:(g.1 == 0)=true:=by simp [h0]
     rw [this];exact ⟨[],_,rfl,nil⟩
   · have:(g.1 == 0)=false:=by simpa using h0
     rw [this]
     unfold vA
     rw [zh]
     unfold Zg
     rw [zdj hgd (by omega),zb,zb]
     obtain ⟨y,c2,e2,hy,k2⟩:=Us (F:=F) (c:=Cu.mk c.v) (xs:=[3,6,9,14,0]) hc (by omega) (by decide)
     have e2':yR F (Cu.mk (S3.mk c.v.a c.v.b (Kd.mk c.v.c.v:Kd .u64)):Cu (S3 (List (Kd .u8)) Int (Kd .u64))) [3,6,9,14,0]=some (y,c2):=e2
     rw [e2',zb]
     obtain ⟨d,hd,hd14⟩:∃ d:Nat,y=d∧d≤14:=by
      simp only [z4,List.not_mem_nil,or_false] at hy
      rcases hy with rfl | rfl | rfl | rfl | rfl
      · exact ⟨3,rfl,by decide⟩
      · exact ⟨6,rfl,by decide⟩
      · exact ⟨9,rfl,by decide⟩
      · exact ⟨14,rfl,by decide⟩
      · exact ⟨0,rfl,by decide⟩
     subst hd
     have he:([]:List Int)=zt (fun _=>false) g.1.toNat:=by simp [zt]
     show ∃ l c',yz F g F c2.a c2.b c2.c.v [] [] (zt (fun j=>decide (j < g.1.toNat)) g.1.toNat) (d:Int)=some (l,c')∧_
     have:=zbT hgd h0 hF hG hs d F c2.a c2.b c2.c.v [] (fun _=>false) (fun j=>decide (j < g.1.toNat)) (m + 2) hd14 (by omega) k2 (by omega) (by simp;omega) ⟨by simp,fun x hx=>by cases hx⟩ (fun j hj=>of_decide_eq_true hj)
     rw [← he] at this
     exact this
theorem zfe {l:List Int} (hr:∀ y∈l,0≤y∧y≤8) (hn:g.1.toNat≤8):∀ i,i≤l.length→∀ x∈YQ g l i,(Lit.int .i64 x).wf=true
 | 0,_,x,hx=>by cases hx
 | i + 1,hi,x,hx=>by
   simp only [YQ,zQ,vv] at hx
   rcases hx with (hx | hx) | hx
   · exact zfe hr hn i (by omega) x hx
   · have:=hr _ (vg (d:=0) (show i < l.length by omega))
     rw [hx];exact Uj (by omega) (by omega)
   · unfold zaQ at hx
     obtain ⟨y,hy,rfl⟩:=xp.1 hx
     obtain ⟨j,rfl,hj,_⟩:=wA.1 hy
     exact Uj (by omega) (by omega)
end
section
variable {F:Nat} {g:Gr} {l:List Int}
theorem zeH {w:S1 (List Int)} {h q x:Int} {ly r:List Int} {c:NL Int→Int→Int→Int→Option (List Int×Bool)} {c':NL Int→Int→Int→Int→Option (NL Int×Bool)} (hc:∀ o a b d,c o a b d=(c' o a b d).map fun r=>(r.1.list,r.2)) :
    ∀ (k:Nat) (o:List Int) (a i:Int),yX F w h q ly x r c k o a i=(yP F w h q ly x r c' k o a i).map fun r=>(r.1.list,r.2)
 | 0,_,_,_=>rfl
 | k + 1,o,a,i=>by
   simp only [yX,yP,wP,vl,Option.map_bind,Je,zeH hc k,hc,Function.comp_def]
theorem ze7 {w:S1 (List Int)} {ly:List Int}:∀ (k:Nat) (o:NL Int) (a b i:Int),xC F w ly k o a b i=(y4 F w ly k o a b i).map fun r=>(r.1.list,r.2)
 | 0,_,_,_,_=>rfl
 | k + 1,o,a,b,i=>by
   simp only [xC,y4,Je,Option.map_bind,zeH (ze7 k),yx,Function.comp_def]
theorem zhK:xB F g l=(uz F g l).map fun r=>(r.1.list,r.2):=by
 simp only [xB,uz,wO,vi,ze7,Option.map_bind,Je,Function.comp_def,yx,NL.list]
theorem zc8 (hF:l.length < F) (hG:g.2.length < F) (h9:20≤F) (hl:Sm l.length) (hs:Sm g.2.length) :
    ∃ R,yY F g l=some (R,yD g && uM g.1 l)∧xB F g l=some (R,yD g && uM g.1 l)∧R.length≤80∧(yD g=true→uM g.1 l=true→R=YQ g l l.length):=by
 obtain ⟨R,b,o,h1,h2,h3,h4,h5,h6⟩:=Ki hF hG h9 hl hs
 subst h5
 refine ⟨R,h1,?_,h4,fun a b=>h6 (by rw [a,b];rfl)⟩
 rw [zhK,h2]
 show some (o.list,_)=_
 rw [h3]
theorem zcj (hg:yD g=true) (ho:uM g.1 l=true):∀ x∈YQ g l l.length,(Lit.int .i64 x).wf=true:=by
 have h8:=yl hg
 exact zfe (fun y hy=>by have:=Ug ho h8.1 y hy;omega) (by omega) _ (yF _)
theorem zdb {code:LB} (hF:500≤F) (hc:∀ y∈code,0≤y.v∧y.v≤255):∃ g l,wG F code=some (g,l)∧g.2.length≤400∧OkP l 80:=by
 unfold wG vP
 obtain ⟨g,c,e,hg,hck⟩:=LU (F:=F) (c:=cu code 0 0) ⟨hc,Int.le_refl _,Int.le_refl _⟩ hF
 have hs:Sm g.2.length:=by unfold Sm;omega
 have hG:g.2.length < F:=by omega
 rw [e,zb]
 obtain ⟨l,c2,e2,h3,k2⟩:=M8 (F:=F) (m:=5000) (g:=g) hF (by omega) (min g.1 8).toNat 0 F c.a c.b c.c.v [] (by omega) (by omega) hck rfl
 have e2':wN F (Cu.mk (S3.mk (g,c).2.a (g,c).2.b (Kd.mk (g,c).2.c.v:Kd .u64)):Cu (S3 (List (Kd .u8)) Int (Kd .u64))) (g,c).1=some (l,c2):=e2
 rw [e2',zb]
 obtain ⟨r,c3,e3,k3⟩:=QM (F:=F) (c:=cu c2.a c2.b c2.c.v) (n:=3) k2 (by omega)
 have e3':xY F (Cu.mk (S3.mk (l,c2).2.a (l,c2).2.b (Kd.mk (l,c2).2.c.v:Kd .u64)):Cu (S3 (List (Kd .u8)) Int (Kd .u64))) 3=some (r,c3):=e3
 rw [e3',zb]
 have jf:∃ g' l',((wB F (r,c3) (g,c)).bind fun r=>some (r.1,r.2))=some (g',l')∧g'.2.length≤400∧OkP l' 80:=by
  unfold wB
  obtain ⟨p,c4,e4,hp⟩:=zdK (F:=F) (g:=g) (c:=cu c3.a c3.b c3.c.v) hg hF k3 (by omega)
  have e4':wq F (Cu.mk (S3.mk (r,c3).2.a (r,c3).2.b (Kd.mk (r,c3).2.c.v:Kd .u64)):Cu (S3 (List (Kd .u8)) Int (Kd .u64))) (g,c).1=some (p,c4):=e4
  rw [e4']
  exact ⟨g,p,rfl,hg,by have:=hp.1;omega,hp.2⟩
 cases r with
 | false=>exact jf
 | true=>
   obtain ⟨R,h1,_,h2,h4⟩:=zc8 (F:=F) (g:=g) (l:=l) (by omega) hG (by omega) (by unfold Sm;omega) hs
   have h1':yY F (g,c).1 (l,c2).1=some (R,yD g && uM g.1 l):=h1
   rw [zk,h1',zb]
   cases hb:(yD g && uM g.1 l) with
   | false=>exact jf
   | true=>
     rw [zq] at hb
     exact ⟨g,R,rfl,hg,h2,by rw [h4 hb.1 hb.2];exact zcj hb.1 hb.2⟩
end
theorem NB {F:Nat} {code:LB} (hF:2097152≤F) (hc:∀ y∈code,0≤y.v∧y.v≤255):ue F code=some true:=by
 unfold ue Lu
 rw [zb]
 cases hbig:decide ((code.length:Int) > 65536) with
 | true=>rfl
 | false=>
   have hlen:=of_decide_eq_false hbig
   rw [zh]
   obtain ⟨g,l,e,hg,hl,hw⟩:=zdb (F:=F) (by omega) hc
   have hs:Sm g.2.length:=by unfold Sm;omega
   have hG:g.2.length < F:=by omega
   have hls:Sm l.length:=by unfold Sm;omega
   have hlF:l.length < F:=by omega
   have J2:vO F code=some true:=by
    obtain ⟨h,y,e2,hh,hy⟩:=ND (F:=F) (by omega) hc
    have hs2:Sm h.2.length:=by unfold Sm;omega
    have hG2:h.2.length < F:=by omega
    obtain ⟨R,p1,p2,p3,p4⟩:=zc8 (F:=F) (g:=h) (l:=y) (by omega) hG2 (by omega) (by unfold Sm;omega) hs2
    unfold vO xM
    rw [e2,zb,zb]
    show (xB F h y).bind _=_
    rw [p2,zb]
    show (yY F h y).bind _=_
    rw [p1,zb,wE,zh,zcK (show R.length < F by omega) (show Sm R.length by unfold Sm;omega),zb,ye]
    unfold Zc
    rw [zh]
    cases hb:(yD h && uM h.1 y) with
    | false=>rfl
    | true=>
      rw [ye,zh]
      have hgo:=hb
      rw [zq] at hgo
      obtain ⟨hg1,ho⟩:=hgo
      have h8:=yl hg1
      have hyl:=Yv ho
      have hR:=p4 hg1 ho
      have hwR:∀ x∈R,(Lit.int .i64 x).wf=true:=by rw [hR];exact zcj hg1 ho
      have hRF:R.length < F:=by omega
      have hRs:Sm R.length:=by unfold Sm;omega
      have hm0:=Mo (xs:=WY h y y.length) y.length
      obtain ⟨K,hK⟩:∃ K:Nat,mxL (WY h y y.length) y.length=K:=⟨(mxL (WY h y y.length) y.length).toNat,by omega⟩
      have hm8:mxL (WY h y y.length) y.length≤8:=zi6 (by omega) _ fun i hi=>by
       rw [zbK hi]
       have:yu (frt h (xj y (i + 1))) h.1.toNat≤h.1.toNat:=by rw [← xg];exact Y7
       unfold frS;omega
      obtain ⟨f1,f2,f3,f4⟩:=zgM (K:=K + 1) hg1 ho (fun i hi=>by
       cases i with
       | zero=>
         have:yu (frt h (xj y 0)) h.1.toNat=yu (fun _=>false) h.1.toNat:=ZW fun j _=>by simp [frt,xj]
         have h0:yu (fun _=>false) h.1.toNat=0:=by simp [yu]
         unfold frS;omega
       | succ i=>
         have:=ziu (xs:=WY h y y.length) y.length i (by omega)
         rw [zbK (by omega)] at this
         omega)
      rw [← hR] at f1 f2 f3 f4
      have c1:=zfi (F:=F) (g:=h) (l:=R) hwR hRF hG2 (by omega) hRs hs2
      have c2:=zem (F:=F) (g:=h) (l:=R) hwR hRF hG2 (by omega) hRs hs2
      have c3:=zbR (F:=F) (g:=h) (l:=R) hwR hRF hG2 (by omega) hRs hs2
      have c4:=(L3 (F:=F) (g:=h) (l:=y) (by omega) hG2 (by omega) (by unfold Sm;omega) hs2).2
      rw [hg1,f1,w5,zk] at c1 c2 c3
      unfold fsF at c4
      rw [hb,zk] at c4
      show (wK F h R).bind _=_
      rw [c1,zb]
      show (uv F h R).bind _=_
      rw [c2,zb]
      show (xF F h R).bind _=_
      rw [c3,zb]
      show (vj F h y).bind _=_
      rw [c4,zb,zk,zk,zk,zk]
      show (bif Js h R then _ else _)=_
      rw [f4,zk]
      show (bif Nq h R then _ else _)=_
      rw [f2,zk]
      show (WT F (WY h y y.length)).bind _=_
      rw [zhm (by rw [Kw];omega) (by rw [Kw];unfold Sm;omega),zb,Kw]
      show some (decide (u6 h R (R.length + 1)≤w64 (mxL (WY h y y.length) y.length + 1)))=_
      rw [xw (by omega) (by omega),zo (by omega)]
   obtain ⟨r1,r2⟩:=zif (F:=F) (g:=g) (l:=l) hw hlF hG (by omega) hls hs
   have a1:=zdC (F:=F) (g:=g) (l:=l) hw hlF hG (by omega) hls hs
   have a2:=zdA (F:=F) (g:=g) (l:=l) hw hlF hG (by omega) hls hs
   have b1:=zfi (F:=F) (g:=g) (l:=l) hw hlF hG (by omega) hls hs
   have b2:=zkt (F:=F) (g:=g) (l:=l) hw hlF hG (by omega) hls hs
   have d1:=zem (F:=F) (g:=g) (l:=l) hw hlF hG (by omega) hls hs
   have d2:=zke (F:=F) (g:=g) (l:=l) hw hlF hG (by omega) hls hs
   have u1:=zbR (F:=F) (g:=g) (l:=l) hw hlF hG (by omega) hls hs
   have u2:=ziz (F:=F) (g:=g) (l:=l) hw hlF hG (by omega) hls hs
   have ht:∀ R:List (List Int)×Bool,R=(bif yD g && xv g l then (XG g l l.length,true) else ([],false))→Xv F R.1 R.1=some true:=by
    intro R hR
    have hR1:R.1.length≤80∧∀ x∈R.1,x.length≤8:=by
     rw [hR]
     cases hb:(yD g && xv g l) with
     | false=>exact ⟨by simp,fun x hx=>by cases hx⟩
     | true=>
       rw [zq] at hb
       have h8:=yl hb.1
       refine ⟨by show (XG g l l.length).length≤80;rw [Xt];exact hl,fun x hx=>?_⟩
       obtain ⟨t,_,rfl⟩:=xp.1 (show x∈XG g l l.length from hx)
       have:=Y7 (p:=(stt g l (t + 1)).2) (n:=g.1.toNat)
       omega
    exact zgG (by omega) (by unfold Sm;omega) fun x hx=>⟨by have:=hR1.2 x hx;omega,by have:=hR1.2 x hx;unfold Sm;omega⟩
   rw [e,zb]
   show (uh F g l).bind _=_
   rw [r2,zb]
   show (uk F g l).bind _=_
   rw [r1,zb,wE,zh,ht _ rfl,zb,ye]
   unfold uF
   rw [zh]
   show (uT F g l).bind _=_
   rw [a1,zb]
   show (uP F g l).bind _=_
   rw [a2,zb,wE,zh,wE,zh]
   have k9:∀ x,x=false→wu F code (g,l) (bif yD g && xv g l then (XG g l l.length,true) else ([],false)) x=some true:=by
    rintro x rfl
    unfold wu
    rw [zh]
    show (wK F g l).bind _=_
    rw [b1,zb]
    show (uc F g l).bind _=_
    rw [b2,zb,wE,zh,wE,zh]
    unfold vT
    have e1:((bif yD g && xv g l then (Js g l,true) else (false,false)).2 != (bif yD g && xv g l then (XG g l l.length,true) else ([],false)).2)=false:=by cases (yD g && xv g l) <;> rfl
    rw [e1,zh]
    show (uv F g l).bind _=_
    rw [d1,zb]
    show (ZA F g l).bind _=_
    rw [d2,zb,wE,zh,wE,zh]
    unfold vV
    have e2:((bif yD g && xv g l then (Nq g l,true) else (false,false)).2 != (bif yD g && xv g l then (XG g l l.length,true) else ([],false)).2)=false:=by cases (yD g && xv g l) <;> rfl
    rw [e2,zh]
    show (xF F g l).bind _=_
    rw [u1,zb]
    show (wt F g l).bind _=_
    rw [u2,zb,wE,zh,wE,zh]
    unfold vL
    have e3:((bif yD g && xv g l then (u6 g l (l.length + 1),true) else (0,false)).2 != (bif yD g && xv g l then (XG g l l.length,true) else ([],false)).2)=false:=by cases (yD g && xv g l) <;> rfl
    rw [e3,zh]
    cases hb:(yD g && xv g l) with
    | false=>exact J2
    | true=>
      rw [zk,zk,zk,zk,zk]
      have hgp:=hb
      rw [zq] at hgp
      obtain ⟨hgd,hp⟩:=hgp
      have h8:=yl hgd
      have J5:vY F code (g,l) (Js g l,true) (u6 g l (l.length + 1),true) false=some true:=by
       unfold vY
       rw [zh]
       obtain ⟨w,hw0,hpw,hiff⟩:=zm5 (F:=F) hgd (by omega) hG hs
       show (vn F g).bind _=_
       rw [hpw,zb,ye,zh]
       have J4:vc F code false=some true:=J2
       cases hcl:Js g l with
       | false=>exact J4
       | true=>
         rw [zk]
         by_cases hz:g.1 > 0
         · have:=zhV hgd hp hcl (by omega) (fun t h0 hch=>(hiff t h0).2 hch)
           have hu:∀ k,u6 g l k≤8:=by
            intro k
            induction k with
            | zero=>show (0:Int)≤8;omega
            | succ k ih=>
              rw [Wv]
              have:yu (stt g l k).1 g.1.toNat≤g.1.toNat:=by rw [← xg];exact Y7
              omega
           have:=hu (l.length + 1)
           have e4:decide ((u6 g l (l.length + 1),true).1 < w64 ((w,true).1 + 1))=false:=by
            show decide (u6 g l (l.length + 1) < w64 (w + 1))=false
            rw [xw (by omega) (by omega)]
            exact zA (by omega)
           rw [e4]
           cases decide (((g,l).1).1 > 0) <;> exact J4
         · rw [zA (show ¬ ((g,l).1).1 > 0 from hz),zh];exact J4
      refine xA (L:=fun k t (s:Int×Bool)=>xe F code (g,l) (XG g l l.length,true) (Js g l,true) (Nq g l,true) (u6 g l (l.length + 1),true) k s.1 s.2 t) (n:=l.length) (fun t s=>s=(((if t=0 then g.1 else (yu (stt g l t).2 g.1.toNat:Int)):Int),w7 (UD g l) t)) ?_ ?_ F (g.1,true) hlF rfl
      · rintro k t s ht rfl
        refine ⟨_,rfl,?_⟩
        have hget:∀ i,i < l.length→(XG g l l.length).getD i []=zt (stt g l (i + 1)).2 g.1.toNat:=by
         intro i hi
         unfold XG
         rw [zZ,List.getElem?_map,List.getElem?_range hi];rfl
        have J3:∀ x a b,x=w7 (UD g l) (t + 1)→w9 F code (g,l) (XG g l l.length,true) (Js g l,true) (Nq g l,true) (u6 g l (l.length + 1),true) a (t:Int) b x=b (yu (stt g l (t + 1)).2 g.1.toNat:Int) (w7 (UD g l) (t + 1)) ((t + 1:Nat):Int):=by
         rintro x a b rfl
         unfold w9
         rw [zT (d:=[]) (by rw [Xt];exact ht),zb,hget t ht,xg,yd ht hls]
        simp only [xe,Xt]
        rw [zo (show (t:Int) < (l.length:Int) by omega),zk]
        have ha:w7 (UD g l) (t + 1)=(w7 (UD g l) t && UD g l t):=by simp [w7]
        cases t with
        | zero=>
          rw [zA (show ¬ ((0:Nat):Int) > 0 by omega),zh]
          refine J3 _ _ _ ?_
          rw [ha]
          have:UD g l 0=true:=y6.2 fun j hj=>by
           have:(stt g l 0).2 j=true:=zo hj
           rw [this,Bool.or_true]
          rw [this];rfl
        | succ t=>
          rw [zo (show ((t + 1:Nat):Int) > 0 by omega),zk]
          cases hA:w7 (UD g l) (t + 1) with
          | false=>
            rw [zh]
            exact J3 _ _ _ (by rw [ha,hA];rfl)
          | true=>
            rw [zk,zT (d:=[]) (by rw [Xt];exact ht),zb,xw (x:=((t + 1:Nat):Int) - 1) (by omega) (by omega),show ((t + 1:Nat):Int) - 1=(t:Int) by omega,zT (d:=[]) (by rw [Xt];omega),zb,hget _ ht,hget t (by omega),zgP (by omega) (by omega),zb]
            exact J3 _ _ _ (by rw [ha,hA];rfl)
      · rintro k s rfl
        simp only [xe,Xt]
        rw [zA (show ¬ (l.length:Int) < (l.length:Int) by omega),zh]
        have e5:(Js g l != ((if l.length=0 then g.1 else (yu (stt g l l.length).2 g.1.toNat:Int)) == 0))=false:=by
         have e6:Js g l=((if l.length=0 then g.1 else (yu (stt g l l.length).2 g.1.toNat:Int)) == 0):=by
          unfold Js
          rw [yM,yA,yA,← zcM]
          split
          · rename_i h0
            rw [h0]
            have:yu (stt g l 0).2 g.1.toNat=yu (fun _=>true) g.1.toNat:=ZW fun j hj=>zo hj
            have h1:yu (fun _=>true) g.1.toNat=g.1.toNat:=by simp [yu]
            omega
          · omega
         rw [← e6];exact wE _
        rw [e5,zh]
        have e7:(Nq g l != w7 (UD g l) l.length)=false:=wE _
        rw [e7]
        exact J5
   have e0:∀ b:Bool,((bif yD g && xv g l then (XG g l l.length,true) else ([],false)).2 != b)=((yD g && xv g l) != b):=by intro b;cases (yD g && xv g l) <;> rfl
   cases hgd:yD g with
   | false=>
     rw [hgd] at k9
     exact k9 _ rfl
   | true=>
     rw [hgd] at k9
     rw [zk]
     refine k9 _ ?_
     cases xv g l <;> rfl
end Go.Zq
