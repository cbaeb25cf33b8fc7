/- Plain mathematics: what the functions answer (part 4). Conditions: stated in each theorem. -/
import Derived.Test.YtelahampjnaimabM3
import Derived.Test.YtelahampjnaimabM2
import Derived.Test.YtelahampjnaimabM1
set_option linter.unusedVariables false
set_option linter.unusedSimpArgs false
namespace Go.Zq
def cod (s:Nat×Nat):Nat:=s.1 + 256 * s.2
theorem zdA {l:List Nat} {N:Nat} (hn:l.Nodup) (h:∀ x∈l,x < N):l.length≤N:=by
 have:=N2 N (l.map fun x:Nat=>(x:Int)) (by
  rw [List.nodup_iff_pairwise_ne] at hn ⊢
  rw [List.pairwise_map]
  exact hn.imp fun h=>by omega) (by
  intro x hx
  obtain ⟨y,hy,rfl⟩:=xY.1 hx
  have:=h y hy
  omega)
 have h2:=YP (p:=fun j=>decide ((j:Int)∈l.map fun x:Nat=>(x:Int))) (n:=N)
 rw [this,List.length_map] at h2
 exact h2
structure Bfs (g:Gr) (k:Int) (T:List (Nat×Nat)) (P:List (NL Int)) (sn:List Bool):Prop where
 fst:T[0]?=some (0,2 ^ g.1.toNat - 1)
 rch:∀ s∈T,Rch g k s
 pln:P.length=T.length
 prg:∀ i,i < P.length→(P.getD i .nil).list.length≤i
 sln:sn.length=65536
 see:∀ c,c < 65536→(sn.getD c false=true↔∃ s∈T.tail,cod s=c)
 nod:(T.tail.map cod).Nodup
theorem Bfs.len {g:Gr} {k:Int} {T:List (Nat×Nat)} {P:List (NL Int)} {sn:List Bool} (hg:yT g=true) (h6:g.1≤6) (hk:0≤k) (h:Bfs g k T P sn):T.length≤16385:=by
 have:=zdA (N:=16384) h.nod (by
  intro c hc
  obtain ⟨s,hs,rfl⟩:=xY.1 hc
  have hst:=zjC hg hk (h.rch s (List.mem_of_mem_tail hs))
  have hp:=vE (n:=2) (by decide) (show g.1.toNat≤6 by omega)
  have h1:=hst.lt1
  have h2:=hst.lt2
  unfold cod
  omega)
 rw [List.length_map,List.length_tail] at this
 omega
section
variable {g:Gr} {l:List Int}
theorem zm3 (hg:yT g=true) (ho:xb g.1 l=true) {i:Nat} (hi:i < l.length):∃ x:Nat,l.getD i 0=(x:Int)∧x < g.1.toNat:=by
 have h8:=zT hg
 have hr:=Zo ho h8.1 _ (wN (d:=0) hi)
 exact ⟨(l.getD i 0).toNat,by omega,by omega⟩
theorem zjJ (hg:yT g=true) (ho:xb g.1 l=true) {b:Nat} (hb:b < g.1.toNat):∃ t,t < l.length∧l.getD t 0=(b:Int):=by
 have:=Uk ho (x:=(b:Int)) (by omega) (by omega)
 obtain ⟨t,ht,he⟩:=w4.1 this
 exact ⟨t,ht,by rw [zM,z9 ht];exact he⟩
end
section
variable {g:Gr} {l:List Int}
theorem zgS (hg:yT g=true) (ho:xb g.1 l=true) {i:Nat}:(mkm (yS l i) g.1.toNat).testBit=yS l i:=by
 have h8:=zT hg
 have hr:=Zo ho h8.1
 funext j
 rw [yy]
 by_cases hj:j < g.1.toNat
 · simp [hj]
 · rw [zJ hj,um]
   symm
   unfold yS
   rw [decide_eq_false_iff_not]
   intro h
   have:=hr _ (List.mem_of_mem_take h)
   omega
theorem zgk:mkm (yS l 0) g.1.toNat=0:=by
 apply ZW;intro j;rw [yy];simp [yS]
theorem zgl (hg:yT g=true) (ho:xb g.1 l=true):mkm (yS l l.length) g.1.toNat=2 ^ g.1.toNat - 1:=by
 refine zeZ Yd fun x hx=>?_
 rw [zgS hg ho]
 obtain ⟨t,ht,he⟩:=zjJ hg ho hx
 unfold yS
 rw [decide_eq_true_iff,List.take_length]
 have:l.getD t 0∈l:=wN ht
 rw [he] at this;exact this
end
theorem LR {F:Nat} {g:Gr} {nn:Int} (hg:yT g=true) (hF:300≤F) :
    ∃ best:List Int,yn F ⟨xP g⟩ nn ⟨(⟨xP g⟩,()),()⟩=some best∧best.length=2 ^ g.1.toNat∧QZ g.1.toNat (elC g) nn (fun m=>best.getD m 0):=by
 have h8:=zT hg
 obtain ⟨n,hn⟩:∃ n:Nat,g.1.toNat=n:=⟨_,rfl⟩
 have hn8:n≤8:=by omega
 have hpow:=wW n
 have hp256:2 ^ n≤256:=by
  have:=vE (n:=2) (by decide) hn8
  simpa using this
 have hall:xr F ⟨xP g⟩=some ((2 ^ n - 1:Nat):Int):=by
  unfold xr
  rw [wH,hn,vq (by omega),zb,ue (by omega) (by omega)]
  congr 1;omega
 have hw:w64 (((2 ^ n - 1:Nat):Int) + 1)=((2 ^ n:Nat):Int):=by rw [ue (by omega) (by omega)];omega
 unfold yn
 rw [hall,zb,hw,zdW (by omega),zb,zb,hn]
 have key:∀ d k (best:List Int),d≤2 ^ n→d < k→best.length=2 ^ n →
     (∀ j,d≤j→j < 2 ^ n→best.getD j 0=mn (fun x=>max (elC g j x.toNat) (best.getD (j ||| 2 ^ x.toNat) 0)) (XD n j) nn) →
     ∃ b,zK F nn ⟨(⟨xP g⟩,()),()⟩ ⟨xP g⟩ k best ((d:Int) - 1)=some b∧b.length=2 ^ n∧QZ n (elC g) nn (fun m=>b.getD m 0):=by
  intro d
  induction d with
  | zero=>
    intro k best _ hk hlen hrec
    obtain ⟨k,rfl⟩:∃ k',k=k' + 1:=⟨k - 1,by omega⟩
    refine ⟨best,?_,hlen,fun m hm=>hrec m (by omega) hm⟩
    simp only [zK]
    rw [zJ (by omega),zk]
  | succ d ih=>
    intro k best hd hk hlen hrec
    obtain ⟨k,rfl⟩:∃ k',k=k' + 1:=⟨k - 1,by omega⟩
    have hdn:d < 2 ^ n:=by omega
    have e0:((d + 1:Nat):Int) - 1=(d:Int):=by omega
    have hmk:zY .i64 ((2 ^ n - 1:Nat):Int) (d:Int)=((mkm (fun x=>!d.testBit x) n:Nat):Int):=by
     obtain ⟨c,hc,_,hb⟩:=Zg (a:=2 ^ n - 1) (b:=d) (by omega) (by omega)
     rw [hc]
     congr 1
     refine uu fun j=>?_
     rw [hb,Nat.testBit_two_pow_sub_one]
    have hl8:(XD n d).length≤8:=by unfold XD;rw [wt];exact wT YP hn8
    simp only [zK]
    rw [e0,zw (by omega),zj,yf (d:=0) (by omega),zb,hall,zb,hmk,WV hn8 (by omega),zb,yh]
    obtain ⟨s,hs,he⟩:=YJ (L:=fun k2 t s=>zO F nn ⟨(⟨xP g⟩,()),()⟩ ⟨xP g⟩ (d:Int) (XD n d) (zK F nn ⟨(⟨xP g⟩,()),()⟩ ⟨xP g⟩ k) k2 s t) (n:=(XD n d).length)
     (fun t s=>s=best.set d (mn (fun x=>max (elC g d x.toNat) (best.getD (d ||| 2 ^ x.toNat) 0)) ((XD n d).take t) nn)) (fin:=fun s=>zK F nn ⟨(⟨xP g⟩,()),()⟩ ⟨xP g⟩ k s ((d:Int) - 1)) (by
       intro k2 t s ht hI
       subst hI
       refine ⟨_,rfl,?_⟩
       obtain ⟨x,hx,hxn,hxb⟩:=Ui.1 (wN (d:=0) ht)
       have hgt:=zaF d (by omega) x (by omega) hxb
       have hxp:=wW x
       have hor:=zli hdn hxn
       have hcost:=zjA (F:=F) (m:=d) (x:=x) hg (by omega) (by rw [hn];exact hdn) (by rw [hn];exact hxn)
       have htake:(XD n d).take (t + 1)=(XD n d).take t++[(x:Int)]:=by
        rw [List.take_add_one,z9 ht]
        rw [zM,z9 ht,yd] at hx
        rw [hx];rfl
       have hget:∀ a:Int,(best.set d a).getD (d ||| 2 ^ x) 0=best.getD (d ||| 2 ^ x) 0:=by
        intro a
        rw [zM,List.getElem?_set_ne (by omega),← zM]
       have hgetd:∀ a:Int,(best.set d a).getD d 0=a:=by
        intro a
        rw [zM,List.getElem?_set_self (by omega),yd]
       simp only [zO,yM,yN]
       rw [zw (show (t:Int) < ((XD n d).length:Int) by omega),zj,yf (d:=0) ht,zb,hx]
       rw [hcost,zb,vq (by omega),zb,WH (by omega) (Ya (by omega)),yf (d:=0) (by rw [List.length_set];omega),zb,hget,yf (d:=0) (by rw [List.length_set];omega),zb,zb,hgetd,yh,List.set_set,yl ht (by unfold Sm;omega),htake,zeN]
       have hmax:(if best.getD (d ||| 2 ^ x) 0 > elC g d x then best.getD (d ||| 2 ^ x) 0 else elC g d x)=max (elC g d x) (best.getD (d ||| 2 ^ x) 0):=by
        by_cases h:best.getD (d ||| 2 ^ x) 0 > elC g d x
        · rw [if_pos h,Int.max_eq_right (by omega)]
        · rw [if_neg h,Int.max_eq_left (by omega)]
       rw [hmax,yh]
       by_cases ht0:t=0
       · subst ht0
         rw [if_pos (.inl (by simp))]
         rfl
       · have hne:(XD n d).take t≠[]:=by
          intro e
          have:=congrArg List.length e
          rw [List.length_take] at this
          simp only [List.length_nil] at this
          omega
         have hb:((t:Int) == 0)=false:=by rw [beq_eq_false_iff_ne];omega
         rw [hb,zk]
         by_cases hlt:max (elC g d x) (best.getD (d ||| 2 ^ x) 0) < mn (fun x=>max (elC g d x.toNat) (best.getD (d ||| 2 ^ x.toNat) 0)) ((XD n d).take t) nn
         · rw [zw hlt,zj,if_pos (.inr hlt)]
         · rw [zJ hlt,zk,if_neg (fun h=>h.elim hne hlt)]) (by
       intro k2 s hI
       simp only [zO]
       rw [zJ (show ¬ ((XD n d).length:Int) < ((XD n d).length:Int) by omega),zk,ue (by omega) (by omega)]) F (best.set d nn) (by omega) rfl
    have he':zO F nn ⟨(⟨xP g⟩,()),()⟩ ⟨xP g⟩ (d:Int) (XD n d) (zK F nn ⟨(⟨xP g⟩,()),()⟩ ⟨xP g⟩ k) F (best.set d nn) 0=zK F nn ⟨(⟨xP g⟩,()),()⟩ ⟨xP g⟩ k s ((d:Int) - 1):=he
    rw [List.take_length] at hs
    rw [show zP (fun x=>!d.testBit x) n=XD n d from rfl,he']
    refine ih k s (by omega) (by omega) (by rw [hs,List.length_set];exact hlen) ?_
    have hsd:s.getD d 0=mn (fun x=>max (elC g d x.toNat) (best.getD (d ||| 2 ^ x.toNat) 0)) (XD n d) nn:=by
     rw [hs,zM,List.getElem?_set_self (by omega),yd]
    have hsne:∀ j,j≠d→s.getD j 0=best.getD j 0:=by
     intro j hj
     rw [hs,zM,List.getElem?_set_ne (by omega),← zM]
    intro j h1 h2
    have hcg:mn (fun x=>max (elC g j x.toNat) (best.getD (j ||| 2 ^ x.toNat) 0)) (XD n j) nn=mn (fun x=>max (elC g j x.toNat) (s.getD (j ||| 2 ^ x.toNat) 0)) (XD n j) nn:=by
     refine zgJ fun y hy=>?_
     obtain ⟨x,rfl,hxn,hxb⟩:=Ui.1 hy
     have hgt:=zaF j (by omega) x (by omega) hxb
     have hxp:=wW x
     rw [yh,hsne _ (by omega)]
    by_cases e:j=d
    · subst e;rw [hsd,hcg]
    · rw [hsne j e,hrec j (by omega) h2,hcg]
 have e1:((2 ^ n - 1:Nat):Int)=((2 ^ n:Nat):Int) - 1:=by omega
 rw [e1]
 exact key (2 ^ n) F _ (by omega) (by omega) (by simp) (fun j h1 h2=>absurd h2 (by omega))
section
variable {g:Gr} {l:List Int}
theorem zde {t:Int}:∀ k,elW g l k≤t↔-1≤t∧∀ i,i < k→elV g l i≤t
 | 0=>by
   show (-1:Int)≤t↔_
   exact ⟨fun h=>⟨h,fun i hi=>by omega⟩,fun h=>h.1⟩
 | k + 1=>by
   rw [U4]
   have ih:=zde (t:=t) k
   constructor
   · intro h
     have h1:=ih.1 (by omega)
     refine ⟨h1.1,fun i hi=>?_⟩
     by_cases e:i=k
     · subst e;omega
     · exact h1.2 i (by omega)
   · rintro ⟨h1,h2⟩
     have h3:=ih.2 ⟨h1,fun i hi=>h2 i (by omega)⟩
     have h4:=h2 k (by omega)
     omega
theorem zh3 {T:Nat→Int} {t:Int} (hg:yT g=true) (ho:xb g.1 l=true) (hT:QZ g.1.toNat (elC g) (-1) T) (ht:-1≤t) (h:∀ i,i < l.length→elV g l i≤t):T 0≤t:=by
 have h8:=zT hg
 have hlen:=vS ho
 have key:∀ d i,i + d=l.length→T (xl l g.1.toNat i)≤t:=by
  intro d
  induction d with
  | zero=>
    intro i hi
    obtain rfl:i=l.length:=by omega
    have e:xl l g.1.toNat l.length=2 ^ g.1.toNat - 1:=zgl hg ho
    have hpow:=wW g.1.toNat
    rw [e,hT _ (by omega),(MH (by omega)).2 rfl,zia]
    exact ht
  | succ d ih=>
    intro i hi
    obtain ⟨x,hx,hxn⟩:=zm3 hg ho (show i < l.length by omega)
    have hlt:xl l g.1.toNat i < 2 ^ g.1.toNat:=Yd
    have hb:(xl l g.1.toNat i).testBit x=false:=by
     rw [xA hxn];exact xN ho h8.1 (by omega) hx
    have hm:(x:Int)∈XD g.1.toNat (xl l g.1.toNat i):=Ui.2 ⟨x,rfl,hxn,hb⟩
    rw [hT _ hlt]
    refine (zkT (fun e=>by rw [e] at hm;cases hm)).2 ⟨_,hm,?_⟩
    show max (elC g (xl l g.1.toNat i) ((x:Int)).toNat) (T (xl l g.1.toNat i ||| 2 ^ ((x:Int)).toNat))≤t
    rw [yh,← wV (by omega) hx hxn]
    have h1:=ih (i + 1) (by omega)
    have h2:=h i (by omega)
    unfold elV at h2
    rw [hx,yh] at h2
    unfold elC
    omega
 have:=key l.length 0 (by omega)
 have e:xl l g.1.toNat 0=0:=zgk
 rwa [e] at this
theorem ziR:∀ M:Nat,bcl g M=[]∨∃ m,m < M∧clq g m.testBit=true∧bcl g M=zP m.testBit g.1.toNat
 | 0=>.inl rfl
 | M + 1=>by
   simp only [bcl]
   split
   · rename_i h
     rw [zl] at h
     exact .inr ⟨M,by omega,h.1,rfl⟩
   · rcases ziR M with h | ⟨m,h1,h2,h3⟩
     · exact .inl h
     · exact .inr ⟨m,by omega,h2,h3⟩
end
section
variable {g h:Gr} {l:List Int}
def zcR (h:Gr) (l:List Int):Prop:=∀ t x:Nat,t < l.length→l.getD t 0=(x:Int)→∀ a b:Nat,a < h.1.toNat→b < h.1.toNat→yS l (t + 1) a=false→yS l (t + 1) b=false→a≠b→adj h x a=true→adj h x b=true→adj h a b=true
theorem YV (hg:yT g=true) (ho:xb g.1 l=true) {t:Nat} (ht:t < l.length):∃ x:Nat,l.getD t 0=(x:Int)∧x < g.1.toNat:=by
 have h8:=zT hg
 have hr:=Zo ho h8.1 _ (wN (d:=0) ht)
 exact ⟨(l.getD t 0).toNat,by omega,by omega⟩
theorem Yz (hg:yT g=true) (ho:xb g.1 l=true) {a:Nat} (ha:a < g.1.toNat):∃ t,t < l.length∧l.getD t 0=(a:Int):=by
 have h8:=zT hg
 obtain ⟨t,ht,he⟩:=w4.1 (Uk ho (x:=(a:Int)) (by omega) (by omega))
 exact ⟨t,ht,by rw [zM,z9 ht];exact he⟩
theorem Ud (hg:yT h=true) (ho:xb h.1 l=true) (hS:zcR h l):∀ t,t≤l.length→∀ a b:Nat,a < h.1.toNat→b < h.1.toNat→yS l t a=false→yS l t b=false→wz h (xl l h.1.toNat t) a b=adj h a b
 | 0,_,a,b,ha,hb,pa,pb=>((M0 (l:=l) hg).cur a b ha hb pa pb).symm
 | t + 1,ht,a,b,ha,hb,pa,pb=>by
   obtain ⟨x,hx,hxn⟩:=YV hg ho (show t < l.length by omega)
   have ih:=Ud hg ho hS t (by omega)
   have pa':=wQ (Nat.le_succ t) pa
   have pb':=wQ (Nat.le_succ t) pb
   have px:=xN ho (zT hg).1 (show t < l.length by omega) hx
   have hlt:xl l h.1.toNat t < 2 ^ h.1.toNat:=Yd
   rw [wV (by omega) hx hxn,KQ hg hxn ha hb hlt (by rw [← wV (by omega) hx hxn,xA ha];exact pa) (by rw [← wV (by omega) hx hxn,xA hb];exact pb)]
   rw [ih a b ha hb pa' pb',ih x a hxn ha px pa',ih x b hxn hb px pb']
   cases hab:adj h a b with
   | true=>rfl
   | false=>
     rw [ZG]
     cases h1:adj h x a with
     | false=>rfl
     | true=>
       cases h2:adj h x b with
       | false=>rfl
       | true=>
         by_cases e:b=a
         · subst e;simp
         · have:=hS t x (by omega) hx a b ha hb pa pb (fun e'=>e e'.symm) h1 h2
           rw [hab] at this;cases this
theorem zb9 (hg:yT h=true):Wl h.2:=by
 unfold yT at hg
 simp only [zl] at hg
 have key:∀ j i,i < j→j < h.2.length→bef (h.2.getD i (0,0)) (h.2.getD j (0,0))=true:=by
  intro j
  induction j with
  | zero=>intro i hi;omega
  | succ j ih=>
    intro i hi hj
    have:=xJ.1 hg.2 (j + 1) hj
    unfold okE at this
    simp only [zl,yB] at this
    have h1:bef (h.2.getD j (0,0)) (h.2.getD (j + 1) (0,0))=true:=by
     rcases this.2 with h | h
     · simp at h
     · exact h
    by_cases e:i=j
    · subst e;exact h1
    · exact KV (ih i (by omega) (by omega)) h1
 unfold Wl
 rw [List.pairwise_iff_getElem]
 intro i j hi hj hij
 have:=key j i hij hj
 rwa [zM,z9 hi,yd,zM,z9 hj,yd] at this
theorem zhe {n:Int} {R:List (Int×Int)} (h0:0≤n) (h8:n≤8) (hS:Wl R) (hR:∀ z∈R,0≤z.1∧z.1 < z.2∧z.2 < n):yT (n,R)=true:=by
 unfold yT
 simp only [zl]
 refine ⟨⟨zw h0,zw h8⟩,xJ.2 fun i hi=>?_⟩
 have hi':i < R.length:=hi
 have hz:=hR _ (wN (d:=(0,0)) hi')
 unfold okE
 simp only [zl,yB]
 refine ⟨⟨⟨zw hz.1,zw hz.2.1⟩,zw hz.2.2⟩,?_⟩
 cases i with
 | zero=>exact .inl rfl
 | succ i=>
   right
   unfold Wl at hS
   rw [List.pairwise_iff_getElem] at hS
   have:=hS i (i + 1) (by omega) hi' (by omega)
   show bef (R.getD i (0,0)) (R.getD (i + 1) (0,0))=true
   rw [zM,z9 (show i < R.length by omega),yd,zM,z9 hi',yd]
   exact this
theorem M7 {a b:Nat}:adj h a b=true↔((a:Int),(b:Int))∈h.2∨((b:Int),(a:Int))∈h.2:=by
 unfold adj
 rw [xu]
 constructor
 · rintro ⟨i,hi,hj⟩
   have hm:=wN (d:=((0:Int),(0:Int))) hi
   rcases W0.1 hj with ⟨h1,h2⟩ | ⟨h1,h2⟩
   · left;rw [← h1,← h2];exact hm
   · right;rw [← h1,← h2];exact hm
 · rintro (hm | hm)
   · obtain ⟨i,hi,e⟩:=w4.1 hm
     exact ⟨i,hi,W0.2 (.inl (by rw [zM,z9 hi,yd,e];exact ⟨rfl,rfl⟩))⟩
   · obtain ⟨i,hi,e⟩:=w4.1 hm
     exact ⟨i,hi,W0.2 (.inr (by rw [zM,z9 hi,yd,e];exact ⟨rfl,rfl⟩))⟩
theorem zjr (hg:yT h=true) (z:Int×Int):z∈h.2↔prM h.1.toNat (adj h) z:=by
 have h8:=zT hg
 constructor
 · intro hz
   obtain ⟨i,hi,e⟩:=w4.1 hz
   obtain ⟨e1,e2,e3⟩:=Xd hg hi
   rw [zM,z9 hi,yd,e] at e1 e2 e3
   refine ⟨z.1.toNat,z.2.toNat,by omega,by omega,M7.2 (.inl ?_),?_⟩
   · rw [WX (by omega),WX (by omega)];exact hz
   · rw [WX (by omega),WX (by omega)]
 · rintro ⟨a,b,hab,hb,ha,rfl⟩
   rcases M7.1 ha with h | h
   · exact h
   · obtain ⟨i,hi,e⟩:=w4.1 h
     obtain ⟨_,e2,_⟩:=Xd hg hi
     rw [zM,z9 hi,yd,e] at e2
     have e2:(b:Int) < a:=e2
     omega
theorem MI (hg:yT h=true) {z:Int×Int} (hz:z∈h.2):z.1 < z.2:=by
 obtain ⟨i,hi,e⟩:=w4.1 hz
 obtain ⟨_,e2,_⟩:=Xd hg hi
 rwa [zM,z9 hi,yd,e] at e2
theorem zcH (hg:yT h=true) (ho:xb h.1 l=true) (hS:zcR h l) (z:Int×Int):zbS h l l.length z↔z∈h.2:=by
 have h8:=zT hg
 rw [zjr hg]
 constructor
 · rintro ⟨t,x,b,ht,hx,hb,hl,rfl⟩
   obtain ⟨x',hx',hxn⟩:=YV hg ho ht
   have:x'=x:=by omega
   subst this
   obtain ⟨h1,h2⟩:=Ut hl
   rw [xA hb] at h1
   rw [Ud hg ho hS t (by omega) x' b hxn hb (xN ho h8.1 ht hx) h1] at hl
   by_cases e:x' < b
   · exact ⟨x',b,e,hb,hl,by rw [Int.min_eq_left (by omega),Int.max_eq_right (by omega)]⟩
   · exact ⟨b,x',by omega,hxn,by rw [uP];exact hl,by rw [Int.min_eq_right (by omega),Int.max_eq_left (by omega)]⟩
 · rintro ⟨a,b,hab,hb,hp,rfl⟩
   obtain ⟨s,hs,hsa⟩:=Yz hg ho (show a < h.1.toNat by omega)
   obtain ⟨t,ht,htb⟩:=Yz hg ho hb
   have hne:s≠t:=fun e=>by subst e;omega
   by_cases hlt:s < t
   · have h1:=wQ (show s≤t by omega) (xN ho h8.1 ht htb)
     exact ⟨s,a,b,hs,hsa,hb,by rw [Ud hg ho hS s (by omega) a b (by omega) hb (xN ho h8.1 hs hsa) h1];exact hp,by rw [Int.min_eq_left (by omega),Int.max_eq_right (by omega)]⟩
   · have h1:=wQ (show t≤s by omega) (xN ho h8.1 hs hsa)
     exact ⟨t,b,a,ht,htb,by omega,by rw [Ud hg ho hS t (by omega) b a hb (by omega) (xN ho h8.1 ht htb) h1,uP];exact hp,by rw [Int.min_eq_right (by omega),Int.max_eq_left (by omega)]⟩
theorem zm5 {M m:Nat} (hm:m < M) (hc:clq h m.testBit=true):xc m.testBit h.1.toNat≤(bcl h M).length:=by
 induction M with
 | zero=>omega
 | succ M ih=>
   simp only [bcl]
   by_cases e:m=M
   · subst e
     split
     · rw [wt];exact xi _
     · rename_i hb
       rw [hc,yk] at hb
       unfold zdI at hb
       simp only [yB,ye,not_or] at hb
       rw [wt] at hb
       omega
   · have:=ih (by omega)
     split
     · rename_i hb
       rw [zl] at hb
       have:=hb.2
       unfold zdI at this
       simp only [yB,ye,zl,yC] at this
       omega
     · exact this
theorem zdd (hg:yT h=true) (ho:xb h.1 l=true) (hS:zcR h l):elW h l l.length≤((bcl h (2 ^ h.1.toNat)).length:Int) - 1:=by
 have h8:=zT hg
 refine (zde _).2 ⟨by omega,fun t ht=>?_⟩
 obtain ⟨x,hx,hxn⟩:=YV hg ho ht
 have px:=xN ho h8.1 ht hx
 unfold elV
 rw [hx,yh]
 have hq:∀ j,j < h.1.toNat→wz h (xl l h.1.toNat t) x j=true→yS l (t + 1) j=false∧adj h x j=true∧j≠x:=by
  intro j hj hl
  obtain ⟨h1,h2⟩:=Ut hl
  rw [xA hj] at h1
  refine ⟨by rw [vV ht hx,h1];simpa using h2,?_,h2⟩
  rwa [Ud hg ho hS t (by omega) x j hxn hj px h1] at hl
 have hxx:wz h (xl l h.1.toNat t) x x=false:=by simp [wz]
 have e:=Ja hxx hxn
 have hc:clq h (mkm (fun j=>wz h (xl l h.1.toNat t) x j || j == x) h.1.toNat).testBit=true:=by
  refine JE.2 fun a b ha hb pa pb hab=>?_
  rw [yy,zw ha,yk,yB] at pa
  rw [yy,zw hb,yk,yB] at pb
  rcases pa with pa | pa <;> rcases pb with pb | pb
  · obtain ⟨a1,a2,_⟩:=hq a ha pa
    obtain ⟨b1,b2,_⟩:=hq b hb pb
    exact hS t x ht hx a b ha hb a1 b1 hab a2 b2
  · have:b=x:=by simpa using pb
    subst this
    rw [uP];exact (hq a ha pa).2.1
  · have:a=x:=by simpa using pa
    subst this
    exact (hq b hb pb).2.1
  · have:a=x:=by simpa using pa
    have:b=x:=by simpa using pb
    omega
 have hb:=zm5 (h:=h) (M:=2 ^ h.1.toNat) Yd hc
 have e2:xc (mkm (fun j=>wz h (xl l h.1.toNat t) x j || j == x) h.1.toNat).testBit h.1.toNat=xc (fun j=>wz h (xl l h.1.toNat t) x j || j == x) h.1.toNat:=vT fun j hj=>by rw [yy,zw hj,yk]
 omega
def Ng (g:Gr) (l:List Int) (h:Gr):Prop:=h.1=g.1∧Wl h.2∧∀ z,z∈h.2↔zbS g l l.length z
theorem Kq (hg:yT g=true) (ho:xb g.1 l=true) (hf:Ng g l h):yT h=true:=by
 have h8:=zT hg
 refine zhe (n:=h.1) (R:=h.2) (by rw [hf.1];exact h8.1) (by rw [hf.1];exact h8.2) hf.2.1 fun z hz=>?_
 obtain ⟨t,x,b,ht,hx,hb,hl,rfl⟩:=(hf.2.2 z).1 hz
 obtain ⟨x',hx',hxn⟩:=YV hg ho ht
 obtain ⟨_,h2⟩:=Ut hl
 rw [hf.1]
 refine ⟨?_,?_,?_⟩
 · show 0≤min (x:Int) (b:Int);omega
 · show min (x:Int) (b:Int) < max (x:Int) (b:Int);omega
 · show max (x:Int) (b:Int) < g.1;omega
theorem Kt (hg:yT g=true) (ho:xb g.1 l=true) (hf:Ng g l h) {t x b:Nat} (ht:t < l.length) (hx:l.getD t 0=(x:Int)) (hb:b < g.1.toNat) (pb:yS l (t + 1) b=false):adj h x b=wz g (xl l g.1.toNat t) x b:=by
 have h8:=zT hg
 obtain ⟨s,hs,hsb⟩:=Yz hg ho hb
 have hts:t < s:=by
  rcases Ys t s with h | h
  · exact h
  · have:=XY (i:=t + 1) (show s < t + 1 by omega) hs hsb
    rw [pb] at this;cases this
 obtain ⟨x',hx',hxn⟩:=YV hg ho ht
 have hxe:x'=x:=by omega
 subst hxe
 have hne:b≠x':=fun e=>by
  have:=XY (i:=t + 1) (show t < t + 1 by omega) ht hx
  rw [← e,pb] at this;cases this
 have key:∀ z:Int×Int,z=(min (x':Int) b,max (x':Int) b)→(z∈h.2↔wz g (xl l g.1.toNat t) x' b=true):=by
  intro z hz
  rw [hf.2.2]
  constructor
  · rintro ⟨t',y,c,ht',hy,hc,hl,e⟩
    rw [hz] at e
    have e1:=(Prod.mk.inj e).1
    have e2:=(Prod.mk.inj e).2
    have:(y=x'∧c=b)∨(y=b∧c=x'):=by omega
    rcases this with ⟨rfl,rfl⟩ | ⟨rfl,rfl⟩
    · have:t'=t:=by
       rcases Nat.lt_trichotomy t' t with h | h | h
       · have:=XY (i:=t) h ht' hy;rw [xN ho h8.1 ht hx] at this;cases this
       · exact h
       · have:=XY (i:=t') h ht hx;rw [xN ho h8.1 ht' hy] at this;cases this
      subst this;exact hl
    · exfalso
      have hts':t'=s:=by
       rcases Nat.lt_trichotomy t' s with h | h | h
       · have:=XY (i:=s) h ht' hy;rw [xN ho h8.1 hs hsb] at this;cases this
       · exact h
       · have:=XY (i:=t') h hs hsb;rw [xN ho h8.1 ht' hy] at this;cases this
      subst hts'
      obtain ⟨h1,_⟩:=Ut hl
      rw [xA hc] at h1
      have:=XY (i:=t') hts ht hx
      rw [h1] at this;cases this
  · intro hl
    exact ⟨t,x',b,ht,hx,hb,hl,hz⟩
 rw [yQ,M7,← key _ rfl]
 by_cases e:x' < b
 · rw [Int.min_eq_left (by omega),Int.max_eq_right (by omega)]
   refine ⟨fun hh=>hh.elim id fun hh=>?_,.inl⟩
   have:=MI (Kq hg ho hf) hh
   have:(b:Int) < x':=this
   omega
 · rw [Int.min_eq_right (by omega),Int.max_eq_left (by omega)]
   refine ⟨fun hh=>hh.elim (fun hh=>?_) id,.inr⟩
   have:=MI (Kq hg ho hf) hh
   have:(x':Int) < b:=this
   omega
theorem zjb (hg:yT g=true) (ho:xb g.1 l=true) {a b:Nat} (ha:a < g.1.toNat) (hb:b < g.1.toNat) {t:Nat} (hl:wz g (xl l g.1.toNat t) a b=true):∀ d,t + d≤l.length→yS l (t + d) a=false→yS l (t + d) b=false→wz g (xl l g.1.toNat (t + d)) a b=true
 | 0,_,_,_=>hl
 | d + 1,hd,pa,pb=>by
   obtain ⟨x,hx,hxn⟩:=YV hg ho (show t + d < l.length by omega)
   have ih:=zjb hg ho ha hb hl d (by omega) (wQ (Nat.le_succ _) pa) (wQ (Nat.le_succ _) pb)
   have hlt:xl l g.1.toNat (t + d) < 2 ^ g.1.toNat:=Yd
   show wz g (xl l g.1.toNat (t + d + 1)) a b=true
   rw [wV (by omega) hx hxn,KQ hg hxn ha hb hlt (by rw [← wV (by omega) hx hxn,xA ha];exact pa) (by rw [← wV (by omega) hx hxn,xA hb];exact pb),ih]
   rfl
theorem zca (hg:yT g=true) (ho:xb g.1 l=true) (hf:Ng g l h):zcR h l:=by
 intro t x ht hx a b ha hb pa pb hab h1 h2
 have h8:=zT hg
 have hn:h.1.toNat=g.1.toNat:=by rw [hf.1]
 rw [hn] at ha hb
 obtain ⟨x',hx',hxn⟩:=YV hg ho ht
 have hxe:x'=x:=by omega
 subst hxe
 rw [Kt hg ho hf ht hx ha pa] at h1
 rw [Kt hg ho hf ht hx hb pb] at h2
 have hlt:xl l g.1.toNat t < 2 ^ g.1.toNat:=Yd
 have hl:wz g (xl l g.1.toNat (t + 1)) a b=true:=by
  rw [wV ht hx hxn,KQ hg hxn ha hb hlt (by rw [← wV ht hx hxn,xA ha];exact pa) (by rw [← wV ht hx hxn,xA hb];exact pb),h1,h2]
  have:(b == a)=false:=by simpa using fun e=>hab e.symm
  rw [this];simp
 have aux:∀ a b:Nat,a < g.1.toNat→b < g.1.toNat→yS l (t + 1) a=false→yS l (t + 1) b=false→wz g (xl l g.1.toNat (t + 1)) a b=true→∀ i j,i < j→i < l.length→j < l.length→l.getD i 0=(a:Int)→l.getD j 0=(b:Int)→adj h a b=true:=by
  intro a b ha hb pa pb hl i j hij hi hj ea eb
  have hti:t + 1≤i:=by
   rcases Ys t i with h | h
   · exact h
   · have:=XY (i:=t + 1) (show i < t + 1 by omega) hi ea
     rw [pa] at this;cases this
  have fb:=xN ho h8.1 hj eb
  rw [Kt hg ho hf hi ea hb (wQ (show i + 1≤j by omega) fb)]
  have:=zjb hg ho ha hb hl (i - (t + 1)) (by omega) (by rw [show t + 1 + (i - (t + 1))=i by omega];exact xN ho h8.1 hi ea) (by rw [show t + 1 + (i - (t + 1))=i by omega];exact wQ (show i≤j by omega) fb)
  rwa [show t + 1 + (i - (t + 1))=i by omega] at this
 obtain ⟨i,hi,ea⟩:=Yz hg ho ha
 obtain ⟨j,hj,eb⟩:=Yz hg ho hb
 rcases Nat.lt_trichotomy i j with hij | hij | hij
 · exact aux a b ha hb pa pb hl i j hij hi hj ea eb
 · subst hij;omega
 · rw [uP]
   have hl':wz g (xl l g.1.toNat (t + 1)) b a=true:=by
    have pa':(xl l g.1.toNat (t + 1)).testBit a=false:=by rw [xA ha];exact pa
    have pb':(xl l g.1.toNat (t + 1)).testBit b=false:=by rw [xA hb];exact pb
    rw [YE pb' (fun e=>hab e.symm)] at hl
    rw [YE pa' hab]
    exact Mv hg ha hb Yd hl
   exact aux b a hb ha pb pa hl' j i hij hj hi eb ea
theorem zgd (hg:yT g=true) (ho:xb g.1 l=true) (hf:Ng g l h):elW h l l.length=elW g l l.length:=by
 have h8:=zT hg
 have hh:=Kq hg ho hf
 have hoh:xb h.1 l=true:=by rw [hf.1];exact ho
 have hS:=zca hg ho hf
 have hn:h.1.toNat=g.1.toNat:=by rw [hf.1]
 have key:∀ t,t < l.length→elV h l t=elV g l t:=by
  intro t ht
  obtain ⟨x,hx,hxn⟩:=YV hg ho ht
  unfold elV
  rw [hx,yh,hn]
  congr 1
  refine vT fun j hj=>?_
  cases hp:yS l (t + 1) j with
  | true=>
    have no:∀ u:Gr,wz u (xl l g.1.toNat t) x j=false:=by
     intro u
     cases hl:wz u (xl l g.1.toNat t) x j with
     | false=>rfl
     | true=>
       obtain ⟨h1,h2⟩:=Ut hl
       rw [xA hj] at h1
       rw [vV ht hx,h1,ZG] at hp
       exact absurd (by simpa using hp) h2
    rw [no,no]
  | false=>
    have:=Ud hh hoh hS t (by omega) x j (by omega) (by omega) (xN ho h8.1 ht hx) (wQ (Nat.le_succ t) hp)
    rw [hn] at this
    rw [this,Kt hg ho hf ht hx hj hp]
 have:∀ k,k≤l.length→elW h l k=elW g l k:=by
  intro k
  induction k with
  | zero=>intro _;rfl
  | succ k ih=>intro hk;rw [U4,U4,ih (by omega),key k (by omega)]
 exact this _ (xi _)
theorem zjP (hg:yT g=true) (ho:xb g.1 l=true) (hf:Ng g l h) {a b:Nat} (hab:adj g a b=true):adj h a b=true:=by
 have h8:=zT hg
 have hlt:=Uv hg hab
 have aux:∀ a b:Nat,adj g a b=true→∀ i j,i < j→i < l.length→j < l.length→l.getD i 0=(a:Int)→l.getD j 0=(b:Int)→adj h a b=true:=by
  intro a b hab i j hij hi hj ea eb
  have hlt:=Uv hg hab
  have fb:=xN ho h8.1 hj eb
  rw [Kt hg ho hf hi ea (by omega) (wQ (show i + 1≤j by omega) fb)]
  have pb:=wQ (show i≤j by omega) fb
  rw [YE (by rw [xA (by omega)];exact pb) (fun e=>hlt.2.2 e.symm)]
  exact (uX hg (by omega)).2 ⟨a,vh,hab⟩
 obtain ⟨i,hi,ea⟩:=Yz hg ho (show a < g.1.toNat by omega)
 obtain ⟨j,hj,eb⟩:=Yz hg ho (show b < g.1.toNat by omega)
 rcases Nat.lt_trichotomy i j with hij | hij | hij
 · exact aux a b hab i j hij hi hj ea eb
 · subst hij;omega
 · rw [uP];exact aux b a (by rw [uP];exact hab) j i hij hj hi eb ea
theorem zcN:∀ (d:Nat) (R:Nat→Bool) (out r:List Int),pfe h d R out=some r→(∀ j,R j=!bq out j)→∃ s,r=out++s∧s.length=d∧(∀ v∈s,∃ x:Nat,v=x∧x < h.1.toNat∧bq out x=false)∧s.Nodup ∧
    ∀ t x:Nat,out.length≤t→t < r.length→r.getD t 0=(x:Int)→clq h (fun y=>adj h x y && !yS r t y)=true
 | 0,R,out,r,hp,hR=>by
   rw [pfe] at hp
   obtain rfl:=Option.some.inj hp
   exact ⟨[],by simp,rfl,by simp,List.nodup_nil,fun t x h1 h2=>by omega⟩
 | d + 1,R,out,r,hp,hR=>by
   rw [pfe] at hp
   cases hx:Z8 (fun x=>R x && smp h R x) h.1.toNat with
   | none=>rw [hx] at hp;cases hp
   | some x=>
     rw [hx] at hp
     obtain ⟨x1,x2,_⟩:=Z2 hx
     rw [zl] at x2
     obtain ⟨s,e,hl,hm,hnd,hs⟩:=zcN d _ _ _ hp (fun j=>by rw [hR,Jx];cases bq out j <;> simp)
     have hbx:bq out x=false:=by have:=x2.1;rw [hR] at this;simpa using this
     refine ⟨(x:Int) :: s,by rw [e];simp,by simp [hl],fun v hv=>?_,?_,fun t y h1 h2 hy=>?_⟩
     · rcases zW.1 hv with rfl | hv
       · exact ⟨x,rfl,x1,hbx⟩
       · obtain ⟨z,z1,z2,z3⟩:=hm v hv
         rw [Jx,Bool.or_eq_false_iff] at z3
         exact ⟨z,z1,z2,z3.1⟩
     · refine List.nodup_cons.2 ⟨fun hv=>?_,hnd⟩
       obtain ⟨z,z1,z2,z3⟩:=hm _ hv
       rw [Jx,Bool.or_eq_false_iff] at z3
       have:z=x:=by omega
       simp [this] at z3
     · by_cases ht:t=out.length
       · subst ht
         rw [e,X2] at hy ⊢
         have hy':(x:Int)=y:=by simpa using hy
         have:x=y:=by omega
         subst this
         have e3:(fun y=>adj h x y && !yS (out++([(x:Int)]++s)) out.length y)=fun y=>adj h x y && R y:=by
          funext j
          rw [hR]
          have:yS (out++([(x:Int)]++s)) out.length j=bq out j:=by unfold yS bq;simp
          rw [this]
         rw [e3]
         exact x2.2
       · exact hs t y (by simp;omega) h2 hy
theorem zb1 (hg:yT h=true) (ho:xb h.1 l=true) (hS:zcR h l):∀ (d:Nat) (R:Nat→Bool) (out:List Int),xc R h.1.toNat=d→pfe h d R out≠none
 | 0,R,out,_=>by rw [pfe];exact fun e=>by cases e
 | d + 1,R,out,hc=>by
   have h8:=zT hg
   rw [pfe]
   have hex:∃ t,t < l.length∧R (l.getD t 0).toNat=true:=by
    cases hf:Z8 R h.1.toNat with
    | none=>have:=Mc.2 hf;omega
    | some x=>
      obtain ⟨x1,x2,_⟩:=Z2 hf
      obtain ⟨t,ht,e⟩:=Yz hg ho x1
      exact ⟨t,ht,by rw [e];exact x2⟩
   obtain ⟨t,ht,hmin⟩:∃ t,(t < l.length∧R (l.getD t 0).toNat=true)∧∀ s,s < t→R (l.getD s 0).toNat=false:=by
    obtain ⟨t0,h1,h2⟩:=hex
    cases hf:Z8 (fun t=>R (l.getD t 0).toNat) l.length with
    | none=>have:=uM.1 hf t0 h1;rw [h2] at this;cases this
    | some t=>obtain ⟨a,b,c⟩:=Z2 hf;exact ⟨t,⟨a,b⟩,c⟩
   obtain ⟨x,hx,hxn⟩:=YV hg ho ht.1
   have hlater:∀ j:Nat,j < h.1.toNat→R j=true→j≠x→yS l (t + 1) j=false:=by
    intro j hj hR hne
    cases hp:yS l (t + 1) j with
    | false=>rfl
    | true=>
      exfalso
      unfold yS at hp
      have hp:=of_decide_eq_true hp
      obtain ⟨s,hs,e⟩:=List.mem_take_iff_getElem.1 hp
      have e':l.getD s 0=(j:Int):=by rw [zM,z9 (by omega)];exact e
      by_cases hst:s=t
      · subst hst;omega
      · have:=hmin s (by omega)
        rw [e',yh,hR] at this;cases this
   have hsmp:smp h R x=true:=by
    unfold smp
    refine JE.2 fun a b ha hb pa pb hab=>?_
    rw [zl] at pa pb
    have hax:=(Uv hg pa.1).2.2
    have hbx:=(Uv hg pb.1).2.2
    exact hS t x ht.1 hx a b ha hb (hlater a ha pa.2 (fun e=>hax e.symm)) (hlater b hb pb.2 (fun e=>hbx e.symm)) hab pa.1 pb.1
   cases hf:Z8 (fun x=>R x && smp h R x) h.1.toNat with
   | none=>
     have:=uM.1 hf x hxn
     have hRx:=ht.2
     rw [hx,yh] at hRx
     rw [hRx,hsmp] at this;cases this
   | some y=>
     obtain ⟨y1,y2,_⟩:=Z2 hf
     rw [zl] at y2
     refine zb1 hg ho hS d _ _ ?_
     have:=Ja (p:=fun j=>R j && !(j == y)) (x:=y) (by simp) y1
     have e2:xc (fun j=>(R j && !(j == y)) || j == y) h.1.toNat=xc R h.1.toNat:=vT fun j _=>by
      cases e:(j == y) with
      | false=>simp
      | true=>have:j=y:=by simpa using e
              rw [this,y2.1];rfl
     omega
end
def Ck (a:LB) (b:Int) (m:Nat):Prop:=(∀ y∈a,0≤y.v∧y.v≤255)∧0≤b∧b≤m
theorem Ck.le {a:LB} {b:Int} {m m':Nat} (h:Ck a b m) (hm:m≤m'):Ck a b m':=⟨h.1,h.2.1,by have:=h.2.2;omega⟩
theorem zif {q:Int}:0≤yu .u64 q 255∧yu .u64 q 255≤255:=by
 unfold yu
 have h:(BitVec.ofInt IntKind.u64.bits q &&& BitVec.ofInt IntKind.u64.bits 255).toNat≤255:=by
  rw [BitVec.toNat_and]
  exact wT Nat.and_le_right (by decide)
 generalize (BitVec.ofInt IntKind.u64.bits q &&& BitVec.ofInt IntKind.u64.bits 255).toNat=n at h
 have e:IntKind.wrap .u64 (n:Int)=n:=by
  simp only [IntKind.wrap,IntKind.bits,IntKind.signed,um]
  have e1:((2:Int) ^ 64)=18446744073709551616:=by decide
  simp only [e1]
  split
  · rename_i hh;cases hh
  · omega
 rw [e];omega
theorem zoS (q:Int):0≤w64 (yu .u64 q 255)∧w64 (yu .u64 q 255)≤255:=by
 have:=zif (q:=q)
 rw [ue (by omega) (by omega)];exact this
section
variable {F:Nat} {c:CC} {m:Nat}
theorem zbK {x:Int} (h:Ck c.v.a c.v.b m) (hm:m < 1000000) (h0:0≤x) (hx:x≤255):∃ r c',vP F c x=some (r,c')∧0≤r∧r≤255∧Ck c'.a c'.b (m + 1):=by
 have hb:=h.2
 have hw:w64 (c.v.b + 1)=c.v.b + 1:=ue (by omega) (by omega)
 unfold vP
 rw [hw]
 have hk:Ck c.v.a (c.v.b + 1) (m + 1):=⟨h.1,by omega,by omega⟩
 cases decide ((c.v.b + 1)≤(c.v.a.length:Int)) with
 | true=>exact ⟨x,_,rfl,h0,hx,hk⟩
 | false=>
   exact ⟨_,_,rfl,(zoS _).1,(zoS _).2,hk⟩
theorem zej (h:Ck c.v.a c.v.b m) (hm:m < 1000000):∃ r c',vt F c=some (r,c')∧0≤r∧r≤255∧Ck c'.a c'.b (m + 1):=by
 unfold vt
 by_cases hd:c.v.b < (c.v.a.length:Int)
 · rw [zw hd,zj]
   have hb:=h.2
   obtain ⟨i,hi⟩:∃ i:Nat,c.v.b=i:=⟨c.v.b.toNat,by omega⟩
   rw [hi,Jz (by omega),zb]
   have hy:=h.1 _ (Yu (show i < c.v.a.length by omega))
   rw [ue (by omega) (by omega)]
   exact zbK h hm hy.1 hy.2
 · rw [zJ hd,zk]
   exact zbK h hm (by omega) (by omega)
theorem YO {n:Int} (h:Ck c.v.a c.v.b m) (hm:m < 900000):∃ r c',yO F c n=some (r,c')∧0≤r∧(1≤n→r < n)∧(n≤1→r=0)∧Ck c'.a c'.b (m + 2):=by
 unfold yO
 have rem:∀ (v:Int) (c':CU),0≤v→1 < n→Ck c'.a c'.b (m + 2)→∃ r c'',vO F n c'.a c'.b c'.c.v v=some (r,c'')∧0≤r∧(1≤n→r < n)∧(n≤1→r=0)∧Ck c''.a c''.b (m + 2):=by
  intro v c' hv hn hk
  have e:zhY .i64 v n=some (v.tmod n):=by unfold zhY;rw [if_neg (by omega)]
  unfold vO
  rw [e]
  exact ⟨_,_,rfl,Int.tmod_nonneg _ hv,fun _=>Int.tmod_lt_of_pos _ (by omega),fun h=>by omega,hk⟩
 by_cases hn:n≤1
 · rw [zw hn,zj]
   exact ⟨0,_,rfl,by omega,fun h=>by omega,fun _=>rfl,h.le (by omega)⟩
 · rw [zJ hn,zk]
   obtain ⟨r,c1,e1,h1,h2,k1⟩:=zej (F:=F) (c:=Cu.mk c.v) h (by omega)
   rw [e1,zb]
   by_cases h200:n > 200
   · rw [zw h200,zj]
     obtain ⟨r',c2,e2,h3,h4,k2⟩:=zej (F:=F) (c:=Cu.mk c1) k1 (by omega)
     have e2':vt F (Cu.mk (r,c1).2)=some (r',c2):=e2
     rw [e2',zb]
     refine rem _ c2 ?_ (by omega) k2
     show 0≤w64 ((w64 (r * 256)) + r')
     rw [ue (x:=r * 256) (by omega) (by omega),ue (by omega) (by omega)];omega
   · rw [zJ h200,zk]
     exact rem r c1 h1 (by omega) (k1.le (by omega))
theorem J8 {xs:List Int} (h:Ck c.v.a c.v.b m) (hm:m < 900000) (hx:0 < xs.length):∃ r c',xB F c xs=some (r,c')∧r∈xs∧Ck c'.a c'.b (m + 2):=by
 unfold xB
 obtain ⟨r,c1,e1,h1,h2,_,k1⟩:=YO (F:=F) (c:=Cu.mk c.v) (n:=(xs.length:Int)) h hm
 rw [e1,zb]
 have:=h2 (by omega)
 obtain ⟨i,hi⟩:∃ i:Nat,r=i:=⟨r.toNat,by omega⟩
 subst hi
 have e:idx xs ((i:Int),c1).1=some xs[i]:=Jz (by omega)
 rw [e]
 exact ⟨_,_,rfl,Yu _,k1⟩
theorem zaD {n:Int} (h:Ck c.v.a c.v.b m) (hm:m < 900000):∃ r c',wq F c n=some (r,c')∧Ck c'.a c'.b (m + 2):=by
 unfold wq
 obtain ⟨r,c1,e1,_,_,_,k1⟩:=YO (F:=F) (c:=Cu.mk c.v) (n:=n) h hm
 rw [e1]
 exact ⟨_,_,rfl,k1⟩
def GOk (x:Option (GR×CU)):Prop:=∃ g c',x=some (g,c')∧g.2.length≤400∧Ck c'.a c'.b 5000
theorem K9 {α:Type} {xs ys:List α} (h:xs.length + ys.length≤1000):vL xs ys=some (xs++ys):=by
 unfold vL
 rw [if_pos (wT h (by decide))]
theorem zgh {o:Oh (Int×Int)} (h:Ck c.v.a c.v.b m) (hm:m≤4000) (ho:o.v.length≤300):GOk (vI F c o):=by
 unfold vI
 obtain ⟨r,c1,e1,h1,h2,_,k1⟩:=YO (F:=F) (c:=Cu.mk c.v) (n:=50) h (by omega)
 rw [e1,zb]
 have fin:GOk (some ((o.a,o.v),c1)):=⟨_,_,rfl,by show o.v.length≤400;omega,k1.le (by omega)⟩
 cases (r,c1).1 == 0 with
 | true=>
   rw [zj]
   obtain ⟨r,c2,e2,_,k2⟩:=J8 (F:=F) (c:=Cu.mk c1) (xs:=[(-1),8,9,0,4611686018427387904]) k1 (by omega) (by decide)
   have e2':xB F (Cu.mk (r,c1).2) [(-1),8,9,0,4611686018427387904]=some (r,c2):=e2
   rw [e2',zb]
   exact ⟨_,_,rfl,by show o.v.length≤400;omega,k2.le (by omega)⟩
 | false=>
   rw [zk]
   cases (r,c1).1 == 1 with
   | true=>
     rw [zj]
     obtain ⟨r2,c2,e2,_,_,_,k2⟩:=YO (F:=F) (c:=Cu.mk c1) (n:=4) k1 (by omega)
     have e2':yO F (Cu.mk (r,c1).2) 4=some (r2,c2):=e2
     rw [e2',zb]
     obtain ⟨r3,c3,e3,_,_,_,k3⟩:=YO (F:=F) (c:=Cu.mk c2) (n:=9) k2 (by omega)
     have e3':yO F (Cu.mk (r2,c2).2) 9=some (r3,c3):=e3
     rw [e3',zb,K9 (by simp;omega),zb]
     exact ⟨_,_,rfl,by simp;omega,k3.le (by omega)⟩
   | false=>
     rw [zk]
     cases (r,c1).1 == 2 with
     | true=>
       rw [zj]
       by_cases hl:(o.v.length:Int) > 0
       · rw [zw hl,zj]
         obtain ⟨r2,c2,e2,h3,h4,_,k2⟩:=YO (F:=F) (c:=Cu.mk c1) (n:=(o.v.length:Int)) k1 (by omega)
         have e2':yO F (Cu.mk (r,c1).2) (o.v.length:Int)=some (r2,c2):=e2
         rw [e2',zb]
         have:=h4 (by omega)
         obtain ⟨i,hi⟩:∃ i:Nat,r2=i:=⟨r2.toNat,by omega⟩
         subst hi
         have e:idx o.v ((i:Int),c2).1=some o.v[i]:=Jz (by omega)
         rw [e,zb,K9 (by simp;omega),zb]
         exact ⟨_,_,rfl,by simp;omega,k2.le (by omega)⟩
       · rw [zJ hl,zk]
         exact fin
     | false=>exact fin
theorem Mt {a:LB} {b v n:Int} {xs:List (Int×Int)} (h:Ck a b m) (hm:m≤4000) (ho:xs.length≤300):GOk (xf F a b v n (.of xs)):=by
 unfold xf
 obtain ⟨g,c',e,h1,h2⟩:=zgh (F:=F) (c:=cu a b v) (o:=Oh.mk n xs) h hm ho
 show GOk (Option.bind (some xs) _)
 rw [zb,e,zb]
 exact ⟨g,c',rfl,h1,h2⟩
end
theorem zed (K:Nat):∀ n:Nat,n≤8→∃ l,Yb (K + 20) (n:Int)=some ((n:Int),.of l)∧l.length≤10
 | 0,_=>⟨_,rfl,by decide⟩
 | 1,_=>⟨_,rfl,by decide⟩
 | 2,_=>⟨_,rfl,by decide⟩
 | 3,_=>⟨_,rfl,by decide⟩
 | 4,_=>⟨_,rfl,by decide⟩
 | 5,_=>⟨_,rfl,by decide⟩
 | 6,_=>⟨_,rfl,by decide⟩
 | 7,_=>⟨_,rfl,by decide⟩
 | 8,_=>⟨_,rfl,by decide⟩
 | n + 9,h=>absurd h (by omega)
theorem zbB (K:Nat):∀ n:Nat,n≤8→∃ l,uq (K + 20) (n:Int)=some ((n:Int),.of l)∧l.length≤300
 | 0,_=>⟨_,rfl,by decide⟩
 | 1,_=>⟨_,rfl,by decide⟩
 | 2,_=>⟨_,rfl,by decide⟩
 | 3,_=>⟨_,rfl,by decide⟩
 | 4,_=>⟨_,rfl,by decide⟩
 | 5,_=>⟨_,rfl,by decide⟩
 | 6,_=>⟨_,rfl,by decide⟩
 | 7,_=>⟨_,rfl,by decide⟩
 | 8,_=>⟨_,rfl,by decide⟩
 | n + 9,h=>absurd h (by omega)
theorem zhB {F n:Nat} (hF:300≤F) (h:n≤8):∃ l,Zn F (n:Int)=some ((n:Int),.of l)∧l.length≤20:=by
 obtain ⟨K,rfl⟩:∃ K,F=K + 20:=⟨F - 20,by omega⟩
 obtain ⟨l,e,hl⟩:=zed K n h
 unfold Zn
 rw [e,zb]
 have:(((n:Int),NL.of l).2).list=l:=rfl
 rw [this,KI (by omega) (by omega),zb]
 exact ⟨_,rfl,by rw [KD];omega⟩
theorem znm {F n i:Nat} {q:Int×CU} {t:Bool×CU} {c5:LB→Int→Int→NL (Int×Int)→Int→Option (GR×CU)} (hn:n≤8) (hF:500≤F) (hi:i < n)
    (H:∀ (c':CU) (ys:List (Int×Int)),Ck c'.a c'.b (50 + 40 * (i + 1))→ys.length≤10 * (i + 1)→GOk (c5 c'.a c'.b c'.c.v (.of ys) ((i + 1:Nat):Int))) :
    ∀ (d j k:Nat) (a:LB) (b v:Int) (xs:List (Int×Int)),j + d=n→d < k→Ck a b (50 + 40 * i + 2 * j)→xs.length≤10 * i + j→GOk (yD F (n:Int) q t (i:Int) c5 k a b v (.of xs) (j:Int)):=by
 have hw:w64 ((i:Int) + 1)=((i + 1:Nat):Int):=yl (n:=n) (by omega) (by unfold Sm;omega)
 intro d
 induction d with
 | zero=>
   intro j k a b v xs hj hk hc hx
   obtain ⟨k,rfl⟩:∃ k',k=k' + 1:=⟨k - 1,by omega⟩
   simp only [yD]
   rw [zJ (by omega),zk,zbt,zb]
   obtain ⟨r,c1,e1,h1,_,_,k1⟩:=YO (F:=F) (c:=cu a b v) (n:=max (i:Int) 1) hc (by omega)
   rw [e1,zb]
   have hk1:Ck c1.a c1.b (50 + 40 * (i + 1)):=k1.le (by omega)
   have h4f:GOk (xt F (r,c1) (n:Int) (.of xs) q t (i:Int) c5 false):=by
    show GOk (c5 c1.a c1.b c1.c.v (.of xs) (w64 ((i:Int) + 1)))
    rw [hw];exact H c1 xs hk1 (by omega)
   have h4t:GOk (xt F (r,c1) (n:Int) (.of xs) q t (i:Int) c5 true):=by
    unfold xt
    rw [zj,show (NL.of xs).list=xs from rfl,KI (by omega) (by omega),zb]
    show GOk (c5 c1.a c1.b c1.c.v (.of _) (w64 ((i:Int) + 1)))
    rw [hw];exact H c1 _ hk1 (by rw [KD];omega)
   by_cases h0:(i:Int) > 0
   · rw [zw h0,zj]
     cases !t.1 with
     | false=>exact h4f
     | true=>
       rw [zj]
       obtain ⟨y,hy⟩:∃ y:Nat,r=y:=⟨r.toNat,by omega⟩
       subst hy
       have e:ZY F ((n:Int),(NL.of xs).list) (i:Int) ((y:Int),c1).1=_:=LZ (g:=((n:Int),xs)) (F:=F) (a:=i) (b:=y) (by show xs.length < F;omega) (by show Sm xs.length;unfold Sm;omega)
       rw [e,zb]
       cases !adj ((n:Int),xs) i y with
       | false=>exact h4f
       | true=>exact h4t
   · rw [zJ h0];exact h4f
 | succ d ih=>
   intro j k a b v xs hj hk hc hx
   obtain ⟨k,rfl⟩:∃ k',k=k' + 1:=⟨k - 1,by omega⟩
   simp only [yD]
   rw [zw (by omega),zj]
   obtain ⟨r,c1,e1,h1,_,_,k1⟩:=YO (F:=F) (c:=cu a b v) (n:=q.1) hc (by omega)
   rw [e1,zb]
   have hwj:w64 ((j:Int) + 1)=((j + 1:Nat):Int):=yl (n:=n) (by omega) (by unfold Sm;omega)
   cases (r,c1).1 == 0 with
   | true=>
     rw [zj,show (NL.of xs).list=xs from rfl,KI (by omega) (by omega),zb]
     show GOk (yD F (n:Int) q t (i:Int) c5 k c1.a c1.b c1.c.v (.of _) (w64 ((j:Int) + 1)))
     rw [hwj]
     exact ih (j + 1) k _ _ _ _ (by omega) (by omega) (k1.le (by omega)) (by rw [KD];omega)
   | false=>
     show GOk (yD F (n:Int) q t (i:Int) c5 k c1.a c1.b c1.c.v (.of xs) (w64 ((j:Int) + 1)))
     rw [hwj]
     exact ih (j + 1) k _ _ _ _ (by omega) (by omega) (k1.le (by omega)) (by omega)
theorem zl7 {F n:Nat} {q:Int×CU} {t:Bool×CU} (hn:n≤8) (hF:500≤F) :
    ∀ (d i k:Nat) (a:LB) (b v:Int) (xs:List (Int×Int)),i + d=n→d < k→Ck a b (50 + 40 * i)→xs.length≤10 * i→GOk (xv F (n:Int) q t k a b v (.of xs) (i:Int)):=by
 intro d
 induction d with
 | zero=>
   intro i k a b v xs hj hk hc hx
   obtain ⟨k,rfl⟩:∃ k',k=k' + 1:=⟨k - 1,by omega⟩
   simp only [xv]
   rw [zJ (by omega),zk]
   exact Mt hc (by omega) (by omega)
 | succ d ih=>
   intro i k a b v xs hj hk hc hx
   obtain ⟨k,rfl⟩:∃ k',k=k' + 1:=⟨k - 1,by omega⟩
   simp only [xv]
   rw [zw (by omega),zj,yl (n:=n) (by omega) (by unfold Sm;omega)]
   exact znm hn hF (by omega) (fun c' ys hc' hy=>ih (i + 1) k _ _ _ _ (by omega) (by omega) hc' hy) (n - (i + 1)) (i + 1) F a b v xs (by omega) (by omega) (hc.le (by omega)) (by omega)
theorem zay {F:Nat} {c:CC} {z:Int} (h:Ck c.v.a c.v.b 0) (hF:500≤F) (h0:0≤z) (h8:z≤8):GOk (wF F c z):=by
 obtain ⟨K,hK⟩:∃ K,F=K + 20:=⟨F - 20,by omega⟩
 have j5:∀ (c1:CU) (x:Int),Ck c1.a c1.b 10→0≤x→GOk (ww F z c1.a c1.b c1.c.v x):=by
  intro c1 x k1 hx
  unfold ww
  rw [J9,zb]
  obtain ⟨n,hn⟩:∃ n:Nat,min x z=n:=⟨(min x z).toNat,by omega⟩
  have hn8:n≤8:=by omega
  rw [hn]
  obtain ⟨r,c2,e2,h1,_,_,k2⟩:=YO (F:=F) (c:=cu c1.a c1.b c1.c.v) (n:=8) k1 (by omega)
  rw [e2,zb]
  have k2':Ck c2.a c2.b 20:=k2.le (by omega)
  cases (r,c2).1 == 0 with
  | true=>
    rw [zj]
    obtain ⟨l,e,hl⟩:=zed K n hn8
    rw [← hK] at e
    rw [e,zb]
    exact Mt k2' (by omega) (by omega)
  | false=>
    rw [zk]
    cases (r,c2).1 == 1 with
    | true=>
      rw [zj]
      by_cases h2:(n:Int) > 2
      · rw [zw h2,zj]
        obtain ⟨l,e,hl⟩:=zhB (F:=F) (by omega) hn8
        rw [e,zb]
        exact Mt k2' (by omega) (by omega)
      · rw [zJ h2,zk]
        exact Mt k2' (by omega) (by simp)
    | false=>
      rw [zk]
      cases (r,c2).1 == 2 with
      | true=>
        rw [zj]
        obtain ⟨l,e,hl⟩:=zbB K n hn8
        rw [← hK] at e
        rw [e,zb]
        exact Mt k2' (by omega) (by omega)
      | false=>
        rw [zk]
        obtain ⟨r3,c3,e3,_,k3⟩:=J8 (F:=F) (c:=Cu.mk c2) (xs:=[3,4,6]) k2' (by omega) (by decide)
        have e3':xB F (Cu.mk (r,c2).2) [3,4,6]=some (r3,c3):=e3
        rw [e3',zb]
        obtain ⟨r4,c4,e4,k4⟩:=zaD (F:=F) (c:=Cu.mk c3) (n:=6) k3 (by omega)
        have e4':wq F (Cu.mk (r3,c3).2) 6=some (r4,c4):=e4
        rw [e4',zb]
        exact zl7 hn8 hF n 0 F c4.a c4.b c4.c.v [] (by omega) (by omega) (k4.le (by omega)) (by simp)
 unfold wF
 obtain ⟨r,c1,e1,hr,k1⟩:=J8 (F:=F) (c:=Cu.mk c.v) (xs:=[4,5,3,6,2,1,0]) h (by omega) (by decide)
 rw [e1,zb]
 have hr0:0≤r:=by
  have:∀ y∈([4,5,3,6,2,1,0]:List Int),0≤y:=by decide
  exact this r hr
 by_cases h6:z > 6
 · rw [zw h6,zj]
   obtain ⟨r2,c2,e2,k2⟩:=zaD (F:=F) (c:=Cu.mk c1) (n:=4) k1 (by omega)
   have e2':wq F (Cu.mk (r,c1).2) 4=some (r2,c2):=e2
   rw [e2',zb]
   unfold w5
   cases (r2,c2).1 with
   | true=>
     rw [zj]
     obtain ⟨r3,c3,e3,h3,h4,_,k3⟩:=YO (F:=F) (c:=cu c2.a c2.b c2.c.v) (n:=2) k2 (by omega)
     have e3':yO F (cu (r2,c2).2.a (r2,c2).2.b (r2,c2).2.c.v) 2=some (r3,c3):=e3
     rw [e3',zb]
     have:=h4 (by omega)
     exact j5 c3 _ (k3.le (by omega)) (by show 0≤w64 (7 + r3);rw [ue (by omega) (by omega)];omega)
   | false=>exact j5 c2 r (k2.le (by omega)) hr0
 · rw [zJ h6,zk]
   exact j5 c1 r (k1.le (by omega)) hr0
theorem Qs {F:Nat} {code:LB} (hF:500≤F) (hc:∀ y∈code,0≤y.v∧y.v≤255):∃ g c,vu F (cu code 0 0)=some (g,c)∧g.2.length≤400∧Ck c.a c.b 5000:=by
 unfold vu
 obtain ⟨g,c',e,h1,h2⟩:=zay (F:=F) (c:=Cu.mk (cu code 0 0).v) (z:=6) ⟨hc,Int.le_refl _,Int.le_refl _⟩ hF (by omega) (by omega)
 rw [e];exact ⟨g,c',rfl,h1,h2⟩
theorem zhv {α:Type} {xs:List α} {a b:Nat} (h:a≤b) (hb:b≤xs.length):∃ ys,sub xs (a:Int) (b:Int)=some ys∧ys.length=b - a:=by
 unfold sub
 rw [if_pos ⟨by omega,by omega,by omega⟩]
 exact ⟨_,rfl,by simp;omega⟩
theorem Mj {F m:Nat} {g:GR} (hF:500≤F) (hm:m≤100000):∀ (d i k:Nat) (a:LB) (b v:Int) (xs:List Int),i + d=(min g.1 8).toNat→d < k→Ck a b (m + 2 * i)→xs.length=i →
    ∃ l c',wd F g k a b v xs (i:Int)=some (l,c')∧l.length≤20∧Ck c'.a c'.b (m + 1000):=by
 intro d
 have fin:∀ (i k:Nat) (a:LB) (b v:Int) (xs:List Int),¬ (i:Int) < min g.1 8→Ck a b (m + 2 * i)→xs.length=i→i≤8→∃ l c',wd F g (k + 1) a b v xs (i:Int)=some (l,c')∧l.length≤20∧Ck c'.a c'.b (m + 1000):=by
  intro i k a b v xs hi hc hx h8
  simp only [wd]
  rw [J9,zb,zJ hi,zk]
  obtain ⟨r,c1,e1,k1⟩:=zaD (F:=F) (c:=cu a b v) (n:=24) hc (by omega)
  rw [e1,zb]
  cases (r,c1).1 with
  | true=>
    rw [zj]
    obtain ⟨r2,c2,e2,_,k2⟩:=J8 (F:=F) (c:=Cu.mk c1) (xs:=[0,(-1),8]) k1 (by omega) (by decide)
    have e2':xB F (Cu.mk (r,c1).2) [0,(-1),8]=some (r2,c2):=e2
    rw [e2',zb,K9 (by simp;omega),zb]
    exact ⟨_,_,rfl,by simp;omega,k2.le (by omega)⟩
  | false=>exact ⟨_,_,rfl,by omega,k1.le (by omega)⟩
 induction d with
 | zero=>
   intro i k a b v xs hj hk hc hx
   obtain ⟨k,rfl⟩:∃ k',k=k' + 1:=⟨k - 1,by omega⟩
   exact fin i k a b v xs (by omega) hc hx (by omega)
 | succ d ih=>
   intro i k a b v xs hj hk hc hx
   obtain ⟨k,rfl⟩:∃ k',k=k' + 1:=⟨k - 1,by omega⟩
   simp only [wd]
   rw [J9,zb,zw (by omega),zj,hx,yl (n:=i + 1) (by omega) (by unfold Sm;omega)]
   obtain ⟨r,c1,e1,h1,h2,_,k1⟩:=YO (F:=F) (c:=cu a b v) (n:=((i + 1:Nat):Int)) hc (by omega)
   rw [e1,zb]
   have:=h2 (by omega)
   obtain ⟨p,hp⟩:∃ p:Nat,r=p:=⟨r.toNat,by omega⟩
   subst hp
   obtain ⟨ys,s1,s2⟩:=zhv (xs:=xs) (a:=0) (b:=p) (by omega) (by omega)
   obtain ⟨zs,s3,s4⟩:=zhv (xs:=xs) (a:=p) (b:=i) (by omega) (by omega)
   have s1':sub xs 0 ((p:Int),c1).1=some ys:=s1
   have s3':sub xs ((p:Int),c1).1 (i:Int)=some zs:=s3
   rw [s1',zb,K9 (by simp;omega),zb,K9 (by simp;omega),zb,s3',zb,K9 (by simp;omega),zb]
   exact ih (i + 1) k c1.a c1.b c1.c.v _ (by omega) (by omega) (k1.le (by omega)) (by simp;omega)
theorem zfZ {F:Nat} {xs:List Int} (hF:xs.length < F) (hs:Sm xs.length):UK F xs xs=some true:=by
 unfold UK
 rw [Yj,zk]
 rw [u9 (L:=fun k i=>Yf F xs xs k i) (n:=xs.length) (p:=fun _=>true) (bad:=some false) (fin:=some true) ?_ ?_ F hF]
 · have:ZH (fun _=>true) xs.length=true:=xJ.2 fun _ _=>rfl
   rw [this];rfl
 · intro k i hi
   simp only [Yf]
   rw [zw (by omega),zj,yf (d:=0) hi,zb,zb,Yj,zk,zj,yl hi hs]
 · intro k
   simp only [Yf]
   rw [zJ (by omega),zk]
theorem zjF {F n:Nat} {code:LB} (hl:(code.length:Int)≤65536) (hc:∀ y∈code,0≤y.v∧y.v≤255):∃ c2,Jr F code (n:Int)=some c2∧∀ y∈c2,0≤y.v∧y.v≤255:=by
 have key:∀ a:Nat,a≤code.length→∃ c2,X9 F code (a:Int)=some c2∧∀ y∈c2,0≤y.v∧y.v≤255:=by
  intro a ha
  unfold X9
  have e:sub code (a:Int) (code.length:Int)=some (code.drop a):=by
   unfold sub
   rw [if_pos ⟨by omega,by omega,by omega⟩]
   have:List.take (code.length - a) (code.drop a)=code.drop a:=List.take_of_length_le (by rw [List.length_drop];omega)
   simpa using this
  have hL:(code.drop a).length≤65536:=by simp;omega
  have e1:vL ([]:LB) (code.drop a)=some ([]++code.drop a):=Wc (by simp;omega)
  have e2:vL ([]++code.drop a) [(Kd.mk (IntKind.u8.wrap (a:Int)):Kd .u8)]=some (([]++code.drop a)++[(Kd.mk (IntKind.u8.wrap (a:Int)):Kd .u8)]):=Wc (by simp;omega)
  rw [e,zb,e1,zb,e2,zb]
  refine ⟨_,rfl,fun y hy=>?_⟩
  rw [Yl,zG] at hy
  rcases hy with hy | hy
  · exact hc y (List.mem_of_mem_drop hy)
  · rw [xX] at hy
    subst hy
    show 0≤IntKind.u8.wrap (a:Int)∧IntKind.u8.wrap (a:Int)≤255
    simp only [IntKind.wrap,IntKind.bits,IntKind.signed,um]
    have e1:((2:Int) ^ 8)=256:=by decide
    simp only [e1]
    split
    · rename_i hh;cases hh
    · omega
 unfold Jr
 by_cases h:(n:Int) > (code.length:Int)
 · rw [zw h,zj];exact key _ (xi _)
 · rw [zJ h,zk];exact key n (by omega)
theorem zd8 {F:Nat} {n:Int} {cl} {a:Int} {c:NL (Int×Int)→Int→Option Gr} {c':NL (Int×Int)→Int→Option (Int×NL (Int×Int))} (hc:∀ o i,c o i=(c' o i).map fun r=>(r.1,r.2.list)) :
    ∀ (k:Nat) (o:NL (Int×Int)) (i:Int),yF F n cl a c k o i=(yJ F n cl a c' k o i).map fun r=>(r.1,r.2.list)
 | 0,_,_=>rfl
 | k + 1,o,i=>by
   simp only [yF,yJ,wb,wy,Option.map_bind,W8,zd8 hc k,hc,Function.comp_def]
theorem zeC {F:Nat} {n:Int} {cl}:∀ (k:Nat) (o:NL (Int×Int)) (i:Int),y9 F n cl k o i=(yw F n cl k o i).map fun r=>(r.1,r.2.list)
 | 0,_,_=>rfl
 | k + 1,o,i=>by
   simp only [y9,yw,W8,zd8 (zeC k),ym]
theorem Mi {F:Nat} {g:Gr} {l:List Int}:wr F g l=(Xp F g l).map fun r=>((r.1.1,r.1.2.list),r.2):=by
 simp only [wr,Xp,Zk,ZE,Yk,Xj,wa,uc,zeC,Option.map_bind,W8,Function.comp_def,ym,NL.list,Option.bind_map,Option.bind_assoc,zb]
theorem zhQ {F:Nat} {w:S1 (List Int)}:∀ (k:Nat) (o:NL Int) (i:Int),xL F w k o i=(xa F w k o i).map fun r=>(r.1.list,r.2)
 | 0,_,_=>rfl
 | k + 1,o,i=>by
   simp only [xL,xa,Option.map_bind,W8,zhQ k,Function.comp_def,ym,NL.list]
theorem zgp {F:Nat} {g:Gr}:yZ F g=(vr F g).map fun r=>(r.1.list,r.2):=by
 simp only [yZ,vr,Option.map_bind,W8,zhQ,Function.comp_def,ym,NL.list]
theorem zf3 {n:Int} {l:List Int} (hl:(l.length:Int)=n) (hn:l.Nodup) (hr:∀ v∈l,0≤v∧v < n):xb n l=true:=by
 unfold xb
 rw [zw hl,yk]
 refine xJ.2 fun j hj=>zw ?_
 by_cases h:(j:Int)∈l
 · exact h
 · have:=Lm n.toNat ((j:Int) :: l) (List.nodup_cons.2 ⟨h,hn⟩) (fun x hx=>by
    rcases zW.1 hx with rfl | hx
    · exact ⟨by omega,by omega⟩
    · have:=hr x hx;exact ⟨this.1,by omega⟩)
   simp at this
   omega
section
variable {F:Nat} {g:Gr} {l:List Int}
theorem MJ (hF:l.length < F) (hG:g.2.length < F) (h9:300≤F) (hl:Sm l.length) (hs:Sm g.2.length) :
    ∃ R,vx F g l=some (R,yT g && xb g.1 l)∧wr F g l=some (R,yT g && xb g.1 l)∧R.2.length≤64∧(yT g=true→xb g.1 l=true→Ng g l R):=by
 obtain ⟨a,R,c,o,h1,h2,h3,_⟩:=zck hF hG h9 hl hs
 have hi:wr F g l=some ((a,R),c):=by rw [Mi,h2];show some ((a,o.list),c)=_;rw [h3]
 have hk:∃ E,vx F g l=some (E,yT g && xb g.1 l)∧E.2.length≤64∧(yT g=true→xb g.1 l=true→Ng g l E):=by
  unfold vx vR
  rw [Xb hG hs,zb]
  cases hg:yT g with
  | false=>exact ⟨(0,[]),rfl,by simp,fun h=>by cases h⟩
  | true=>
    have h8:=zT hg
    rw [zj,JA h8.1 h8.2 hF (by omega) hl,zb,zb]
    cases ho:xb g.1 l with
    | false=>exact ⟨(0,[]),rfl,by simp,fun _ h=>by cases h⟩
    | true=>
      obtain ⟨E,e1,e2,e3,e4⟩:=QO hg ho h9 hG hs
      refine ⟨(g.1,E),?_,e3,fun _ _=>⟨rfl,e2,e4⟩⟩
      rw [y8,zk,e1];rfl
 obtain ⟨E,k1,k2,k3⟩:=hk
 rw [h1] at k1
 have:=Option.some.inj k1
 refine ⟨E,?_,?_,k2,k3⟩
 · rw [h1,this]
 · rw [hi,this]
theorem NX (h9:20≤F) (hG:g.2.length < F) (hs:Sm g.2.length) :
    ∃ R b,yW F g=some (R,b)∧yZ F g=some (R,b)∧R.length≤8∧(b=true→yT g=true∧xb g.1 R=true∧zcR g R)∧(yT g=true→∀ l,xb g.1 l=true→zcR g l→b=true):=by
 obtain ⟨R,b,o,h1,h2,h3,h4⟩:=Jc (F:=F) (g:=g) h9 hG hs
 refine ⟨R,b,h1,by rw [zgp,h2];show some (o.list,b)=_;rw [h3],h4,?_⟩
 have hE:b=true→yT g=true:=by
  intro hb
  cases hg:yT g with
  | true=>rfl
  | false=>
    unfold yW at h1
    rw [Xb hG hs,zb,hg] at h1
    have:=(Prod.mk.inj (Option.some.inj h1)).2
    rw [← this] at hb;cases hb
 have hS:yT g=true→(match pfe g g.1.toNat (fun j=>!bq [] j) [] with | none=>some ([],false) | some r=>some (r,true))=some (R,b):=by
  intro hg
  have h8:=zT hg
  unfold yW at h1
  rw [Xb hG hs,zb,hg,y8,zk,zcZ hg h9 hG hs g.1.toNat F [] (by simp) (by omega)] at h1
  exact h1
 refine ⟨fun hb=>?_,fun hg l ho hSi=>?_⟩
 · have hg:=hE hb
   have h8:=zT hg
   have h:=hS hg
   cases hp:pfe g g.1.toNat (fun j=>!bq [] j) [] with
   | none=>rw [hp] at h;have:=(Prod.mk.inj (Option.some.inj h)).2;rw [← this] at hb;cases hb
   | some r=>
     rw [hp] at h
     have hr:=(Prod.mk.inj (Option.some.inj h)).1
     subst hr
     obtain ⟨s,e,hlen,hm,hnd,hsm⟩:=zcN _ _ _ _ hp (fun j=>rfl)
     rw [Yl] at e
     subst e
     have hin:∀ v∈r,0≤v∧v < g.1:=fun v hv=>by obtain ⟨x,rfl,hx,_⟩:=hm v hv;omega
     have ho:xb g.1 r=true:=zf3 (by omega) hnd hin
     refine ⟨hg,ho,fun t x ht hx a b ha hb' pa pb hab h1 h2=>?_⟩
     have hc:=hsm t x (by simp) ht hx
     have pa':=wQ (Nat.le_succ t) pa
     have pb':=wQ (Nat.le_succ t) pb
     exact JE.1 hc a b ha hb' (by rw [h1,pa'];rfl) (by rw [h2,pb'];rfl) hab
 · have h:=hS hg
   have hno:=zb1 hg ho hSi g.1.toNat (fun j=>!bq [] j) [] (by
    have:xc (fun j=>!bq [] j) g.1.toNat=xc (fun _=>true) g.1.toNat:=vT fun j _=>by simp [bq]
    rw [this];simp [xc])
   cases hp:pfe g g.1.toNat (fun j=>!bq [] j) [] with
   | none=>exact absurd hp hno
   | some r=>rw [hp] at h;exact (Prod.mk.inj (Option.some.inj h)).2.symm
theorem zfQ {xs:List (Int×Int)} (hF:xs.length < F) (hs:Sm xs.length):Wj F xs xs=some true:=by
 unfold Wj
 rw [Yj,zk]
 rw [u9 (L:=fun k i=>Zh F xs xs k i) (n:=xs.length) (p:=fun _=>true) (bad:=some false) (fin:=some true) ?_ ?_ F hF]
 · have:ZH (fun _=>true) xs.length=true:=xJ.2 fun _ _=>rfl
   rw [this];rfl
 · intro k i hi
   simp only [Zh]
   rw [zw (by omega),zj,yf (d:=(0,0)) hi,zb,zb,Yw,Yw,wK,y8,zk,zj,yl hi hs]
 · intro k
   simp only [Zh]
   rw [zJ (by omega),zk]
theorem KW (hG:g.2.length < F) (hs:Sm g.2.length):Zd F g g=some true:=by
 unfold Zd
 rw [Yw,zj,zfQ hG hs];rfl
theorem zgX {a b:Nat} (hG:g.2.length < F) (hs:Sm g.2.length) (h:adj g a b=true):WL F g (a:Int) (b:Int)=some true:=by
 unfold WL
 cases ((a:Int) == (b:Int)) with
 | true=>rfl
 | false=>
   rw [zk]
   rw [u9 (L:=fun k i=>ug F (a:Int) (b:Int) g k i) (n:=g.2.length) (p:=fun i=>!ur g a b i) (bad:=some true) (fin:=some false) ?_ ?_ F hG]
   · have:ZH (fun i=>!ur g a b i) g.2.length=false:=by
      unfold adj at h
      obtain ⟨i,hi,hj⟩:=xu.1 h
      cases e:ZH (fun i=>!ur g a b i) g.2.length with
      | false=>rfl
      | true=>have:=xJ.1 e i hi;rw [hj] at this;cases this
     rw [this];rfl
   · intro k i hi
     simp only [ug,Wz]
     rw [zw (by omega),zj,yf (d:=(0,0)) hi,zb,zb,yl hi hs]
     unfold ur
     cases ((g.2.getD i (0,0)).1 == (a:Int) && (g.2.getD i (0,0)).2 == (b:Int)) with
     | true=>rfl
     | false=>
       rw [zk,ZG]
       cases ((g.2.getD i (0,0)).1 == (b:Int) && (g.2.getD i (0,0)).2 == (a:Int)) <;> rfl
   · intro k
     simp only [ug]
     rw [zJ (by omega),zk]
end
theorem Nl {F:Nat} {code:LB} (hF:500≤F) (hc:∀ y∈code,0≤y.v∧y.v≤255):∃ g l,vo F code=some (g,l)∧g.2.length≤400∧l.length≤20:=by
 obtain ⟨g,c,e,hg,hck⟩:=Qs (F:=F) hF hc
 unfold vo
 rw [e,zb]
 obtain ⟨l,c2,e2,h3,_⟩:=Mj (F:=F) (m:=5000) (g:=g) hF (by omega) (min g.1 8).toNat 0 F c.a c.b c.c.v [] (by omega) (by omega) hck rfl
 have e2':vd F (Cu.mk (S3.mk (g,c).2.a (g,c).2.b (Kd.mk (g,c).2.c.v:Kd .u64)):Cu (S3 (List (Kd .u8)) Int (Kd .u64))) (g,c).1=some (l,c2):=e2
 rw [e2',zb]
 exact ⟨g,l,rfl,hg,h3⟩
theorem zbH {F:Nat} {code:LB} (hF:500≤F) (hc:∀ y∈code,0≤y.v∧y.v≤255):∃ g,xh F code=some g∧g.2.length≤400:=by
 obtain ⟨g,c,e,hg,hck⟩:=Qs (F:=F) hF hc
 have hs:Sm g.2.length:=by unfold Sm;omega
 have hG:g.2.length < F:=by omega
 unfold xh
 rw [e,zb]
 obtain ⟨l,c2,e2,h3,k2⟩:=Mj (F:=F) (m:=5000) (g:=g) hF (by omega) (min g.1 8).toNat 0 F c.a c.b c.c.v [] (by omega) (by omega) hck rfl
 have e2':vd F (Cu.mk (S3.mk (g,c).2.a (g,c).2.b (Kd.mk (g,c).2.c.v:Kd .u64)):Cu (S3 (List (Kd .u8)) Int (Kd .u64))) (g,c).1=some (l,c2):=e2
 rw [e2',zb]
 have ho:vR F (g,c).1 (l,c2).1=some (yT g && xb g.1 l):=by
  unfold vR
  show (YC F g).bind _=_
  rw [Xb hG hs,zb]
  cases hgd:yT g with
  | false=>rfl
  | true=>
    have h8:=zT hgd
    rw [zj]
    show (Xz F g l).bind _=_
    rw [JA h8.1 h8.2 (by omega) (by omega) (by unfold Sm;omega),zb];rfl
 rw [ho,zb]
 have jf:∃ g',yU F (g,c) (l,c2) false=some g'∧g'.2.length≤400:=⟨g,rfl,hg⟩
 cases hb:(yT g && xb g.1 l) with
 | false=>exact jf
 | true=>
   rw [zl] at hb
   rw [zj]
   obtain ⟨r,c3,e3,_⟩:=zaD (F:=F) (c:=cu c2.a c2.b c2.c.v) (n:=2) k2 (by omega)
   have e3':wq F (Cu.mk (S3.mk (l,c2).2.a (l,c2).2.b (Kd.mk (l,c2).2.c.v:Kd .u64)):Cu (S3 (List (Kd .u8)) Int (Kd .u64))) 2=some (r,c3):=e3
   rw [e3',zb]
   cases r with
   | false=>exact jf
   | true=>
     show ∃ g',yU F (g,c) (l,c2) true=some g'∧_
     unfold yU
     rw [zj]
     obtain ⟨E,e4,_,h4,_⟩:=QO (F:=F) hb.1 hb.2 (by omega) hG hs
     have e4':ub F (g,c).1 (l,c2).1=some (g.1,E):=e4
     rw [e4']
     exact ⟨_,rfl,by show E.length≤400;omega⟩
theorem zcQ {F:Nat} {g:Gr} (h:yT g=true) (h9:300≤F) (hG:g.2.length < F) (hs:Sm g.2.length):Yc F g=some (bcl g (2 ^ g.1.toNat),true):=by
 unfold Yc
 rw [Ws hG (by omega) hs,zb,h,y8,zk,U6 h hG hs,zb,zec h,zb,zcU]
 have h8:=zT h
 obtain ⟨n,hn⟩:∃ n:Nat,g.1.toNat=n:=⟨_,rfl⟩
 have hgn:g.1=(n:Int):=by omega
 have hpow:=wW n
 have h256:2 ^ n≤256:=by
  have:=vE (n:=2) (by decide) (show n≤8 by omega)
  simpa using this
 have hbl:=zbr (g:=g)
 rw [hn] at hbl ⊢
 have hw:w64 (((2 ^ n - 1:Nat):Int) + 1)=((2 ^ n:Nat):Int):=by rw [ue (by omega) (by omega)];omega
 obtain ⟨o,hol,hI⟩:=YJ (L:=fun k i s=>wh F ⟨xP g⟩ ((2 ^ n - 1:Nat):Int) k s i) (n:=2 ^ n) (fin:=fun s=>some (s.list,true)) (fun i (s:NL Int)=>s.list=bcl g i) (by
  intro k i s hi hI
  have hb1:=hbl i
  have hl1:=Ww (p:=i.testBit) (n:=n)
  obtain ⟨o,h1,h2⟩:=zdo (F:=F) (n:=n) (p:=i.testBit) (by omega) (by omega)
  rw [zcf hi] at h1
  have hc:=M2 (p:=i.testBit) h (F:=F) (by omega)
  rw [hn,zcf hi] at hc
  simp only [wh,ZZ,Z1]
  rw [hw,zw (show (i:Int) < ((2 ^ n:Nat):Int) by omega),zj,h1,zb,hc,zb,yl hi (by unfold Sm;omega),zgs (by rw [h2];omega) (by rw [h2];unfold Sm;omega),zb,hI,h2]
  rw [show bcl g (i + 1)=if (clq g i.testBit && zdI (bcl g i) (zP i.testBit g.1.toNat))=true then zP i.testBit g.1.toNat else bcl g i from rfl,hn]
  cases clq g i.testBit with
  | false=>exact ⟨s,hI,by simp⟩
  | true=>
    rw [zj,yk]
    cases zdI (bcl g i) (zP i.testBit n) with
    | true=>exact ⟨o,h2,by simp⟩
    | false=>exact ⟨s,hI,by simp⟩) (by
  intro k s hI
  simp only [wh]
  rw [hw,zJ (show ¬ ((2 ^ n:Nat):Int) < ((2 ^ n:Nat):Int) by omega),zk]) F .nil (by omega) rfl
 have hI':wh F ⟨xP g⟩ ((2 ^ n - 1:Nat):Int) F .nil 0=some (o.list,true):=hI
 rw [hI',hol]
theorem zbD {g:Gr} {p:Nat→Bool} {T:Nat→Int} (hg:yT g=true) (hT:QZ g.1.toNat (elC g) (-1) T) (hp:clq g p=true):∀ d m:Nat,m + d=2 ^ g.1.toNat→m < 2 ^ g.1.toNat→(xc (fun j=>p j && !m.testBit j) g.1.toNat:Int) - 1≤T m:=by
 have h8:=zT hg
 intro d
 induction d using Nat.strongRecOn with
 | ind d ih=>
   intro m hd hm
   rw [hT m hm]
   by_cases hf:m=2 ^ g.1.toNat - 1
   · rw [(MH hm).2 hf,zia]
     have:xc (fun j=>p j && !m.testBit j) g.1.toNat=xc (fun _=>false) g.1.toNat:=vT fun j hj=>by
      rw [hf,Nat.testBit_two_pow_sub_one,zw hj,y8,Bool.and_false]
     have h0:xc (fun _=>false) g.1.toNat=0:=by simp [xc]
     omega
   · have hne:XD g.1.toNat m≠[]:=fun e=>hf ((MH hm).1 e)
     rcases Int.lt_or_le (mn (fun x=>max (elC g m x.toNat) (T (m ||| 2 ^ x.toNat))) (XD g.1.toNat m) (-1)) ((xc (fun j=>p j && !m.testBit j) g.1.toNat:Int) - 1) with hlt | hle
     · exfalso
       obtain ⟨y,hy,h⟩:=(zkT (v:=fun x=>max (elC g m x.toNat) (T (m ||| 2 ^ x.toNat))) (nn:=-1) hne (t:=(xc (fun j=>p j && !m.testBit j) g.1.toNat:Int) - 2)).1 (by omega)
       obtain ⟨x,rfl,hx,hb⟩:=Ui.1 hy
       rw [yh] at h
       have h1:=zaF m (zlu (by omega) hm) x (by omega) hb
       have h2:=zli hm hx
       have h3:=wW x
       cases hpx:p x with
       | true=>
         have hle:xc (fun j=>p j && !m.testBit j) g.1.toNat≤xc (wz g m x) g.1.toNat + 1:=by
          have hxx:wz g m x x=false:=by simp [wz]
          rw [← Ja hxx hx]
          refine MS fun j hj hq=>?_
          rw [zl,xk] at hq
          by_cases e:j=x
          · simp [e]
          · rw [YE hq.2 e,yB]
            exact .inl ((uX hg hx).2 ⟨x,vh,JE.1 hp x j hx hj hpx hq.1 (fun h=>e h.symm)⟩)
         have:elC g m x≤(xc (fun j=>p j && !m.testBit j) g.1.toNat:Int) - 2:=by omega
         unfold elC at this
         omega
       | false=>
         have:=ih (2 ^ g.1.toNat - (m ||| 2 ^ x)) (by omega) (m ||| 2 ^ x) (by omega) h2
         have e:xc (fun j=>p j && !(m ||| 2 ^ x).testBit j) g.1.toNat=xc (fun j=>p j && !m.testBit j) g.1.toNat:=vT fun j _=>by
          rw [vC,xW]
          by_cases e:x=j
          · subst e;rw [hpx];rfl
          · rw [zJ e,Bool.or_false]
         rw [e] at this
         omega
     · exact hle
theorem zc5 {F:Nat} {g:Gr} {l:List Int} (hg:yT g=true) (h9:300≤F) (ho:xb g.1 l=true) (hS:zcR g l):wL F ⟨xP g⟩=some (((bcl g (2 ^ g.1.toNat)).length:Int) - 1)∧elW g l l.length=((bcl g (2 ^ g.1.toNat)).length:Int) - 1:=by
 have h8:=zT hg
 have hpow:=wW g.1.toNat
 obtain ⟨best,b1,b2,b3⟩:=LR (F:=F) (nn:=-1) hg h9
 have hi:wL F ⟨xP g⟩=some (best.getD 0 0):=by
  unfold wL vj
  rw [b1,zb]
  have:=yf (xs:=best) (i:=0) (d:=0) (by omega)
  rw [show ((0:Nat):Int)=0 from rfl] at this
  rw [zb,this,zb]
 have h:=(zde (g:=g) (l:=l) (t:=elW g l l.length) l.length).1 (Int.le_refl _)
 have hup:=zh3 (T:=fun m=>best.getD m 0) hg ho b3 h.1 h.2
 have hw:=zdd hg ho hS
 have hlo:((bcl g (2 ^ g.1.toNat)).length:Int) - 1≤best.getD 0 0:=by
  rcases ziR (g:=g) (2 ^ g.1.toNat) with he | ⟨m,hm,hc,he⟩
  · have:=zbD (T:=fun m=>best.getD m 0) (p:=fun _=>false) hg b3 (JE.2 fun x y _ _ h=>by cases h) _ 0 (ZM _) hpow
    rw [he]
    show (0:Int) - 1≤_
    have h0:xc (fun j=>false && !(0:Nat).testBit j) g.1.toNat=0:=by simp [xc]
    rw [h0] at this
    exact this
  · have:=zbD (T:=fun m=>best.getD m 0) hg b3 hc _ 0 (ZM _) hpow
    have e:xc (fun j=>m.testBit j && !(0:Nat).testBit j) g.1.toNat=xc m.testBit g.1.toNat:=vT fun j _=>by rw [X6];simp
    rw [e] at this
    rw [he,wt]
    exact this
 have e1:best.getD 0 0=((bcl g (2 ^ g.1.toNat)).length:Int) - 1:=by omega
 exact ⟨by rw [hi,e1],by omega⟩
theorem Nw {F:Nat} {code:LB} (hF:2097152≤F) (hc:∀ y∈code,0≤y.v∧y.v≤255):v7 F code=some true:=by
 unfold v7 KX
 rw [zb]
 cases hbig:decide ((code.length:Int) > 65536) with
 | true=>rfl
 | false=>
   have hlen:=of_decide_eq_false hbig
   rw [zk]
   obtain ⟨g,l,e,hg,hl⟩:=Nl (F:=F) (by omega) hc
   have hs:Sm g.2.length:=by unfold Sm;omega
   have hG:g.2.length < F:=by omega
   have hls:Sm l.length:=by unfold Sm;omega
   have hlF:l.length < F:=by omega
   obtain ⟨c2,e2,hc2⟩:=zjF (F:=F) (n:=1) (code:=code) (by omega) hc
   have e2':Jr F code 1=some c2:=e2
   obtain ⟨h,e3,hh⟩:=zbH (F:=F) (by omega) hc2
   have hs2:Sm h.2.length:=by unfold Sm;omega
   have hG2:h.2.length < F:=by omega
   obtain ⟨E,f1,f2,f3,f4⟩:=MJ (F:=F) (g:=g) (l:=l) hlF hG (by omega) hls hs
   have w1:=QY (F:=F) (g:=g) (l:=l) hlF hG (by omega) hls hs
   have w2:=zjt (F:=F) (g:=g) (l:=l) hlF hG (by omega) hls hs
   obtain ⟨R,b,p1,p2,p3,p4,_⟩:=NX (F:=F) (g:=h) (by omega) hG2 hs2
   rw [e,zb,f2,zb,f1,zb,w1,zb,w2,zb,e2',zb,e3,zb,p2,zb,p1,zb]
   simp only [Yj,zk]
   rw [KW (by omega) (by unfold Sm;omega),zb,y8,zk,zfZ (by omega) (by unfold Sm;omega),zb,y8]
   have fin:vQ F (g,l) (E,yT g && xb g.1 l) (bif yT g && xb g.1 l then (elW g l l.length,true) else (0,false))=some true:=by
    unfold vQ
    cases hb:(yT g && xb g.1 l) with
    | false=>rfl
    | true=>
      rw [zl] at hb
      obtain ⟨hgd,ho⟩:=hb
      have hF2:=f4 hgd ho
      have hEg:=Kq hgd ho hF2
      have hEo:xb E.1 l=true:=by rw [hF2.1];exact ho
      have hES:=zca hgd ho hF2
      have hsE:Sm E.2.length:=by unfold Sm;omega
      have hGE:E.2.length < F:=by omega
      obtain ⟨E2,g1,g2,g3,g4⟩:=MJ (F:=F) (g:=E) (l:=l) hlF hGE (by omega) hls hsE
      have hE2:E2=E:=by
       have:=g4 hEg hEo
       have e2:E2.2=E.2:=Ky _ _ this.2.1 (zb9 hEg) fun z=>by rw [this.2.2,zcH hEg hEo hES]
       exact Prod.ext this.1 e2
      have w3:=QY (F:=F) (g:=E) (l:=l) hlF hGE (by omega) hls hsE
      obtain ⟨R2,b2,q1,q2,q3,_,q5⟩:=NX (F:=F) (g:=E) (by omega) hGE hsE
      have hb2:=q5 hEg l hEo hES
      rw [hEg,hEo,wK] at g2 w3
      rw [zj] at w3
      rw [y8,zk,zj]
      rw [u9 (L:=fun k i=>vn F (g,l) (E,true) (elW g l l.length,true) k i) (n:=g.2.length) (p:=fun _=>true) (bad:=some false) (fin:=some true) ?_ ?_ F hG]
      · have:ZH (fun _=>true) g.2.length=true:=xJ.2 fun _ _=>rfl
        rw [this];rfl
      · intro k i hi
        obtain ⟨e1,e2,e3⟩:=Xd hgd hi
        obtain ⟨a,ha⟩:∃ a:Nat,(g.2.getD i (0,0)).1=a:=⟨(g.2.getD i (0,0)).1.toNat,by omega⟩
        obtain ⟨c,hcc⟩:∃ c:Nat,(g.2.getD i (0,0)).2=c:=⟨(g.2.getD i (0,0)).2.toNat,by omega⟩
        have hab:adj g a c=true:=by
         unfold adj
         exact xu.2 ⟨i,hi,W0.2 (.inl ⟨ha,hcc⟩)⟩
        simp only [vn]
        rw [zw (show (i:Int) < ((g,l).1.2.length:Int) by show (i:Int) < (g.2.length:Int);omega),zj]
        show (idx g.2 (i:Int)).bind _=_
        rw [yf (d:=(0,0)) hi,zb,zb,ha,hcc]
        show (WL F E (a:Int) (c:Int)).bind _=_
        rw [zgX hGE hsE (zjP hgd ho hF2 hab),zb,y8,zk,zj,yl hi hs]
      · intro k
        simp only [vn]
        rw [zJ (show ¬ ((g.2.length:Nat):Int) < ((g,l).1.2.length:Int) by show ¬ (g.2.length:Int) < (g.2.length:Int);omega),zk]
        show (wr F E l).bind _=_
        rw [g2,zb]
        show (y6 F E l).bind _=_
        rw [w3,zb]
        show (yZ F E).bind _=_
        rw [q2,zb,hE2]
        show (Zd F E E).bind _=_
        rw [KW hGE hsE,zb,zj,zgd hgd ho hF2,Yw,zj,hb2]
   unfold wm
   rw [zk]
   cases b with
   | false=>exact fin
   | true=>
     obtain ⟨hgh,hoh,hSh⟩:=p4 rfl
     obtain ⟨t1,t2⟩:=zc5 (F:=F) hgh (by omega) hoh hSh
     obtain ⟨E2,g1,g2,g3,g4⟩:=MJ (F:=F) (g:=h) (l:=R) (by omega) hG2 (by omega) (by unfold Sm;omega) hs2
     have hE2:E2=h:=by
      have:=g4 hgh hoh
      have e2:E2.2=h.2:=Ky _ _ this.2.1 (zb9 hgh) fun z=>by rw [this.2.2,zcH hgh hoh hSh]
      exact Prod.ext this.1 e2
     have w3:=QY (F:=F) (g:=h) (l:=R) (by omega) hG2 (by omega) (by unfold Sm;omega) hs2
     rw [hgh,hoh,wK] at g2 w3
     rw [zj] at w3
     have htw:uf F h=some (((bcl h (2 ^ h.1.toNat)).length:Int) - 1,true):=by
      unfold uf
      rw [Ws hG2 (by omega) hs2,zb,hgh,y8,zk,U6 hgh hG2 hs2,zb,t1,zb]
     have hbl:=zbr (g:=h) (2 ^ h.1.toNat)
     have h8:=zT hgh
     have hw:w64 (((bcl h (2 ^ h.1.toNat)).length:Int) - 1)=((bcl h (2 ^ h.1.toNat)).length:Int) - 1:=ue (by omega) (by omega)
     rw [zj]
     show (wr F h R).bind _=_
     rw [g2,zb,zcQ hgh (by omega) hG2 hs2,zb,htw,zb]
     show (y6 F h R).bind _=_
     rw [w3,zb,y8,zk,hE2]
     show (Zd F h h).bind _=_
     rw [KW hG2 hs2,zb,y8,zk,hw,Yj,zk,t2,Yj]
     exact fin
end Go.Zq
