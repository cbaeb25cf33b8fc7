/- Plain mathematics: what the functions answer (part 2). Conditions: stated in each theorem. -/
import Derived.Test.YtelahampjnaimaaM1
set_option linter.unusedVariables false
set_option linter.unusedSimpArgs false
namespace Go.Zq
theorem Qb {F n:Nat} {p:Nat→Bool} {x:Int} (hn:n≤8) (hF:20≤F):wX F (zp p n) x=some (zp (fun j=>p j && !((j:Int) == x)) n):=by
 have hc:=wt (p:=p) (n:=n)
 have hl8:(zp p n).length≤8:=by rw [y9];omega
 have hfin:(zp p n).filter (fun y=>y != x)=zp (fun j=>p j && !((j:Int) == x)) n:=by
  refine Lz (List.Pairwise.filter _ Kl) fun y=>?_
  rw [XA,xr]
  constructor
  · rintro ⟨⟨j,rfl,h1,h2⟩,h3⟩;exact ⟨j,rfl,h1,by rw [h2];simpa using h3⟩
  · rintro ⟨j,rfl,h1,h2⟩
    simp only [zk] at h2
    exact ⟨⟨j,rfl,h1,h2.1⟩,by simpa using h2.2⟩
 unfold wX
 refine wU (L:=fun k i s=>xX F (zp p n) x k s i) (n:=(zp p n).length) (fun i s=>s=((zp p n).take i).filter fun y=>y != x) ?_ ?_ F _ (by omega) rfl
 · intro k i s hi hI
   subst hI
   refine ⟨_,rfl,?_⟩
   have hfl:(((zp p n).take i).filter fun y=>y != x).length≤8:=xz (List.length_filter_le _ _) (by simp;omega)
   simp only [xX,Z1]
   rw [zt (show (i:Int) < ((zp p n).length:Int) by omega),zl,zY (d:=0) hi,zc,yk hi (by unfold Sm;omega)]
   have htk:((zp p n).take (i + 1)).filter (fun y=>y != x)=((zp p n).take i).filter (fun y=>y != x)++(if ((zp p n).getD i 0 != x)=true then [(zp p n).getD i 0] else []):=by
    rw [List.take_add_one,zX hi,List.filter_append]
    have e:(zp p n).getD i 0=(zp p n)[i]:=by rw [zC,zX hi];rfl
    rw [e]
    cases h:((zp p n)[i] != x) <;> simp [h]
   rw [htk]
   cases h:((zp p n).getD i 0 != x) with
   | true=>rw [zl,zc,XS (by omega),zc];rfl
   | false=>rw [zi];simp
 · intro k s hI
   subst hI
   simp only [xX]
   rw [zL (show ¬ ((zp p n).length:Int) < ((zp p n).length:Int) by omega),zi,List.take_length,hfin]
theorem ze3 {F:Nat} {g:Gr} (hg:yz g=true) (hF:20≤F):Wg F g=some (zp (fun j=>decide (j < g.1.toNat)) g.1.toNat):=by
 have h8:=zT hg
 have hgn:(g.1.toNat:Int)=g.1:=by omega
 have hpow:=yi g.1.toNat
 have hpl:=YB (j:=g.1.toNat) (by omega)
 unfold Wg
 have hsh:=xB (j:=g.1.toNat) (by omega)
 rw [hgn] at hsh
 rw [hsh,zc]
 have hw:w64 (((2 ^ g.1.toNat:Nat):Int) - 1)=((2 ^ g.1.toNat - 1:Nat):Int):=by rw [xp (by omega) (by omega)];omega
 have hb:=zhm (F:=F) (n:=g.1.toNat) (code:=2 ^ g.1.toNat - 1) (by omega) (by omega) (by omega)
 rw [hgn] at hb
 rw [hw,hb,zc]
 congr 1
 apply wS
 intro j _
 rw [Nat.testBit_two_pow_sub_one]
theorem zlf {p:Nat→Bool} {n:Nat}:y8 p n=0↔ZH p n=none:=by
 rw [vm]
 constructor
 · intro h j hj
   cases hp:p j with
   | false=>rfl
   | true=>
     have:=Uq (p:=fun _=>false) (q:=p) (n:=n) (by simp) ⟨j,hj,rfl,hp⟩
     omega
 · intro h
   rw [XF (q:=fun _=>false) h]
   unfold y8
   rw [List.countP_eq_zero];simp
def td (g:Gr) (m:Nat):Int:=(tdT g m).getD m 0
theorem L4 {g:Gr}:∀ (c m:Nat),m≤c→(tdT g c).getD m 0=td g m
 | 0,m,h=>by obtain rfl:m=0:=by omega
             rfl
 | c + 1,m,h=>by
   by_cases e:m=c + 1
   · subst e;rfl
   · rw [zcG (by omega)];exact L4 c m (by omega)
theorem Ud {α:Type} {f:α→Int} {B:Int}:∀ (l:List α) (s:Int),l.foldl (fun s x=>max s (f x)) s≤B↔s≤B∧∀ x∈l,f x≤B
 | [],s=>by simp
 | x :: l,s=>by
   rw [List.foldl_cons,Ud l]
   simp only [z2,forall_eq_or_imp]
   constructor
   · rintro ⟨h1,h2⟩;exact ⟨by omega,by omega,h2⟩
   · rintro ⟨h1,h2,h3⟩;exact ⟨by omega,h3⟩
theorem Mp {α:Type} {f:α→Int} {B:Int}:∀ (l:List α) (s:Int),l.foldl (fun s x=>min s (f x)) s≤B↔s≤B∨∃ x∈l,f x≤B
 | [],s=>by simp
 | x :: l,s=>by
   rw [List.foldl_cons,Mp l]
   simp only [z2,exists_eq_or_imp]
   constructor
   · rintro (h | h)
     · by_cases hs:s≤B
       · exact .inl hs
       · exact .inr (.inl (by omega))
     · exact .inr (.inr h)
   · rintro (h | h | h)
     · exact .inl (by omega)
     · exact .inl (by omega)
     · exact .inr h
theorem zcX {g:Gr} (hg:yz g=true) {m:Nat} (hm:m < 2 ^ g.1.toNat):0≤td g m∧td g m≤UW m:=NZ hg m hm m (yP _)
theorem zaJ {g:Gr} (hg:yz g=true) {q:Nat→Bool} {x:Nat} (hx:x < g.1.toNat) (hq:q x=true) (j:Nat):yY g (yY g q x) x j=yY g q x j:=by
 rw [yo]
 constructor
 · intro h;exact Xd (p:=yY g q x) vB h
 · intro h
   have:(yY g q x j && yY g (yY g q x) x j)=true:=M6 (C:=fun j=>yY g q x j && yY g (yY g q x) x j) (p:=q) (by simp [vB]) (fun y j hy hj ha=>by
    simp only [zk] at hy ⊢
    have h1:=u7 hg hx hq hy.1 hj ha
    exact ⟨h1,u7 hg hx vB hy.2 h1 ha⟩) h
   simp only [zk] at this
   exact this.2
theorem MJ {g:Gr} {d:Nat} {p:Nat→Bool} (h:∀ j,j < g.1.toNat→p j=false):prt g d p=[]:=by
 cases d with
 | zero=>rfl
 | succ d=>rw [prt,vm.2 h]
theorem Ut {g:Gr} (hg:yz g=true):∀ (d:Nat) (p:Nat→Bool) (m:Nat),m∈prt g d p→prt g g.1.toNat m.testBit=[m]
 | 0,p,m,h=>by simp [prt] at h
 | d + 1,p,m,h=>by
   rw [prt] at h
   cases hf:ZH p g.1.toNat with
   | none=>rw [hf] at h;simp at h
   | some x=>
     rw [hf] at h
     obtain ⟨h1,h2,h3⟩:=ub hf
     rcases z2.1 h with rfl | h
     · obtain ⟨n,hn⟩:∃ n,g.1.toNat=n + 1:=⟨g.1.toNat - 1,by omega⟩
       have hb:∀ j,(mkm (yY g p x) g.1.toNat).testBit j=yY g p x j:=by
        intro j
        rw [yj]
        cases hc:yY g p x j with
        | false=>simp
        | true=>rw [zt (M0 hg h1 hc)];rfl
       have hb':(mkm (yY g p x) g.1.toNat).testBit=yY g p x:=funext hb
       rw [hb']
       have hpr:prt g g.1.toNat (yY g p x)=prt g (n + 1) (yY g p x):=by rw [hn]
       rw [hpr,prt]
       have hfx:ZH (yY g p x) g.1.toNat=some x:=by
        cases hf2:ZH (yY g p x) g.1.toNat with
        | none=>have:=vm.1 hf2 x h1;rw [vB] at this;cases this
        | some y=>
          obtain ⟨y1,y2,y3⟩:=ub hf2
          have:y=x:=by
           rcases Nat.lt_trichotomy y x with hl | hl | hl
           · have:=h3 y hl;rw [Xd h2 y2] at this;cases this
           · exact hl
           · have:=y3 x hl;rw [vB] at this;cases this
          rw [this]
       rw [hfx]
       simp only
       rw [Zy (q:=yY g p x) (fun j _=>zaJ hg h1 h2 j),MJ (fun j _=>by rw [zaJ hg h1 h2 j];cases yY g p x j <;> rfl)]
     · exact Ut hg d _ m h
theorem zmj {g:Gr} (hg:yz g=true) {c:Nat} (hc:c < 2 ^ g.1.toNat) (hl:(prt g g.1.toNat c.testBit).length=1):prt g g.1.toNat c.testBit=[c]:=by
 obtain ⟨n,hn⟩:∃ n,g.1.toNat=n + 1:=by
  cases h:g.1.toNat with
  | zero=>rw [h] at hl;simp [prt] at hl
  | succ n=>exact ⟨n,rfl⟩
 have hpr:prt g g.1.toNat c.testBit=prt g (n + 1) c.testBit:=by rw [hn]
 rw [hpr] at hl ⊢
 rw [prt] at hl ⊢
 cases hf:ZH c.testBit g.1.toNat with
 | none=>rw [hf] at hl;simp at hl
 | some x=>
   rw [hf] at hl
   obtain ⟨h1,h2,h3⟩:=ub hf
   simp only [Yk] at hl
   have hz:prt g n (fun j=>c.testBit j && !yY g c.testBit x j)=[]:=List.length_eq_zero_iff.1 (by omega)
   simp only
   rw [hz]
   congr 1
   have hnone:∀ j,j < g.1.toNat→(c.testBit j && !yY g c.testBit x j)=false:=by
    cases n with
    | zero=>
      intro j hj
      have:j=x:=by omega
      subst this;rw [vB];simp
    | succ n=>
      rw [prt] at hz
      cases hf2:ZH (fun j=>c.testBit j && !yY g c.testBit x j) g.1.toNat with
      | none=>exact vm.1 hf2
      | some y=>rw [hf2] at hz;simp at hz
   have he:mkm (yY g c.testBit x) g.1.toNat=mkm c.testBit g.1.toNat:=by
    apply Zy
    intro j hj
    have:=hnone j hj
    cases hcb:c.testBit j with
    | true=>rw [hcb] at this;simpa using this
    | false=>
      cases hcc:yY g c.testBit x j with
      | false=>rfl
      | true=>have:=Xd h2 hcc;rw [hcb] at this;cases this
   rw [he,vQ hc]
theorem JE {g:Gr} (hg:yz g=true) {c:Nat} (hc:c < 2 ^ g.1.toNat) {k:Int} (hk:0≤k):(∀ m∈prt g g.1.toNat c.testBit,td g m≤k)↔td g c≤k:=by
 cases c with
 | zero=>
   rw [MJ (fun j _=>wF j)]
   have:td g 0=0:=rfl
   rw [this];simp [hk]
 | succ c=>
   have hpos:=zgF (g:=g) hc (by omega)
   by_cases hl:1 < (prt g g.1.toNat (c + 1).testBit).length
   · have e:td g (c + 1)=(prt g g.1.toNat (c + 1).testBit).foldl (fun s m=>max s ((tdT g c).getD m 0)) 0:=by
      show (tdT g (c + 1)).getD (c + 1) 0=_
      rw [MQ];unfold tdV;rw [if_pos hl]
     rw [e,Ud]
     constructor
     · intro h
       refine ⟨hk,fun m hm=>?_⟩
       have:=N6 hg hc hl m hm
       rw [L4 c m (by omega)];exact h m hm
     · rintro ⟨_,h⟩ m hm
       have:=N6 hg hc hl m hm
       rw [← L4 c m (by omega)];exact h m hm
   · rw [zmj hg hc (by omega)];simp
theorem MV {g:Gr} (hg:yz g=true) {c:Nat} (hc:c < 2 ^ g.1.toNat) (h0:c≠0) (hl:(prt g g.1.toNat c.testBit).length=1) {k:Int}:td g c≤k↔∃ y,y < g.1.toNat∧c.testBit y=true∧1 + td g (c - 2 ^ y)≤k:=by
 have h8:=zT hg
 have h256:=Zi (n:=g.1.toNat) (by omega)
 obtain ⟨c,rfl⟩:∃ c',c=c' + 1:=⟨c - 1,by omega⟩
 have e:td g (c + 1)=(zp (c + 1).testBit g.1.toNat).foldl (fun s y=>min s (1 + (tdT g c).getD (c + 1 - 2 ^ y.toNat) 0)) (g.1.toNat:Int):=by
  show (tdT g (c + 1)).getD (c + 1) 0=_
  rw [MQ];unfold tdV;rw [if_neg (by omega)]
 rw [e,Mp]
 have hval:∀ y:Nat,y < g.1.toNat→(c + 1).testBit y=true→(tdT g c).getD (c + 1 - 2 ^ y) 0=td g (c + 1 - 2 ^ y):=by
  intro y _ _
  have:=yi y
  exact L4 c _ (by omega)
 constructor
 · rintro (h | ⟨y,hy,h⟩)
   · have hpp:=Wp (n:=g.1.toNat) (m:=c + 1) (by omega) hc
     have:∃ y,y < g.1.toNat∧(c + 1).testBit y=true:=by
      cases hf:ZH (c + 1).testBit g.1.toNat with
      | none=>have:=Xa.2 hf;rw [vQ hc] at this;omega
      | some y=>obtain ⟨a,b,_⟩:=ub hf;exact ⟨y,a,b⟩
     obtain ⟨y,y1,y2⟩:=this
     obtain ⟨_,d2,d3⟩:=Xb (c + 1) (by omega) y (by omega) y2
     have hp:=yi y
     have:=(zcX hg (m:=c + 1 - 2 ^ y) (by omega)).2
     exact ⟨y,y1,y2,by omega⟩
   · obtain ⟨j,rfl,j1,j2⟩:=xr.1 hy
     rw [z5,hval j j1 j2] at h
     exact ⟨j,j1,j2,h⟩
 · rintro ⟨y,y1,y2,h⟩
   refine .inr ⟨(y:Int),xr.2 ⟨y,rfl,y1,y2⟩,?_⟩
   rw [z5,hval y y1 y2];exact h
theorem Ul:∀ c:Nat,c < 256→∀ y:Nat,y < 8→c.testBit y=true→∀ j:Nat,j < 8→(c - 2 ^ y).testBit j=(c.testBit j && !(j == y)):=by decide +kernel
theorem zhv {c y:Nat} (hc:c < 256) (hy8:y < 8) (hy:c.testBit y=true):(fun j:Nat=>c.testBit j && !((j:Int) == (y:Int)))=(c - 2 ^ y).testBit:=by
 funext j
 have e2:((j:Int) == (y:Int))=(j == y):=by rw [yo];simp;omega
 rw [e2]
 by_cases hj:j < 8
 · exact (Ul c hc y hy8 hy j hj).symm
 · have h1:∀ m,m < 256→m.testBit j=false:=fun m hm=>Nat.testBit_lt_two_pow (xy hm (by
    have:=xw (n:=2) (by decide) (show 8≤j by omega)
    omega))
   rw [h1 c hc,h1 (c - 2 ^ y) (Nat.lt_of_le_of_lt (Nat.sub_le _ _) hc)];rfl
theorem zhs {F:Nat} {g:Gr} (hg:yz g=true) (hF:300≤F) (hG:g.2.length < F) (hs:Sm g.2.length):∀ (k d:Nat) (m:Nat),m < 2 ^ g.1.toNat→m≠0→(prt g g.1.toNat m.testBit).length=1→k < d→k≤8 →
    xJ F d g (zp m.testBit g.1.toNat) (k:Int)=some (decide (td g m≤(k:Int))):=by
 have h8:=zT hg
 have h256:=Zi (n:=g.1.toNat) (by omega)
 intro k
 induction k with
 | zero=>
   intro d m hm h0 hl hd _
   obtain ⟨d,rfl⟩:∃ d',d=d' + 1:=⟨d - 1,by omega⟩
   rw [xJ,Xg]
   have:¬ td g m≤((0:Nat):Int):=by
    rw [MV hg hm h0 hl]
    rintro ⟨y,y1,y2,h⟩
    have h3:=(Xb m (by omega) y (by omega) y2).2.2
    have hp:=yi y
    have:=(zcX hg (m:=m - 2 ^ y) (by omega)).1
    omega
   rw [zL this];rfl
 | succ k ih=>
   intro d m hm h0 hl hd hk8
   obtain ⟨d,rfl⟩:∃ d',d=d' + 1:=⟨d - 1,by omega⟩
   rw [xJ,Xg]
   have hne:(((k + 1:Nat):Int) == 0)=false:=by simp;omega
   rw [hne,zi]
   have hl8:(zp m.testBit g.1.toNat).length≤8:=by rw [y9];exact xz wt (by omega)
   have hw:w64 (((k + 1:Nat):Int) - 1)=(k:Int):=by rw [xp (by omega) (by omega)];omega
   let good1:Nat→Bool:=fun i=>decide (td g (m - 2 ^ ((zp m.testBit g.1.toNat).getD i 0).toNat)≤(k:Int))
   rw [Zv (L:=fun k2 i=>wi F (xJ F d) (zp m.testBit g.1.toNat) ((k + 1:Nat):Int) g k2 i) (n:=(zp m.testBit g.1.toNat).length) (p:=fun i=>!good1 i) (bad:=some true) (fin:=some false) ?_ ?_ F (by omega)]
   · have hx:vn (fun i=>!good1 i) (zp m.testBit g.1.toNat).length=!decide (td g m≤((k + 1:Nat):Int)):=by
      rw [yo,xj]
      simp only [yN,decide_eq_false_iff_not]
      rw [MV hg hm h0 hl]
      constructor
      · rintro h ⟨y,y1,y2,hy⟩
        have hmem:(y:Int)∈zp m.testBit g.1.toNat:=xr.2 ⟨y,rfl,y1,y2⟩
        obtain ⟨t,ht,e⟩:=wT.1 hmem
        have:=h t ht
        simp only [good1,decide_eq_false_iff_not] at this
        rw [zC,zX ht,yV,e,z5] at this
        omega
      · intro h i hi
        simp only [good1,decide_eq_false_iff_not]
        obtain ⟨y,hy,y1,y2⟩:=w7 hi
        rw [hy,z5]
        intro hle
        exact h ⟨y,y1,y2,by omega⟩
     rw [hx]
     cases decide (td g m≤((k + 1:Nat):Int)) <;> rfl
   · intro k2 i hi
     obtain ⟨y,hy,y1,y2⟩:=w7 hi
     have h3:=(Xb m (by omega) y (by omega) y2).2.2
     have hp:=yi y
     have hm':m - 2 ^ y < 2 ^ g.1.toNat:=by omega
     simp only [wi]
     rw [zt (show (i:Int) < ((zp m.testBit g.1.toNat).length:Int) by omega),zl,zY (d:=0) hi,zc,hy,Qb (by omega) (by omega),zc,zhv (by omega) (by omega) y2,UU hg (by omega) hG hs,zc]
     have hg1:good1 i=decide (td g (m - 2 ^ y)≤(k:Int)):=by
      simp only [good1];rw [hy,z5]
     rw [hg1]
     have hPl:(prt g g.1.toNat (m - 2 ^ y).testBit).length≤8:=by
      have:∀ d p,(prt g d p).length≤d:=by
       intro d
       induction d with
       | zero=>intro p;simp [prt]
       | succ d ih=>
         intro p;rw [prt]
         cases ZH p g.1.toNat with
         | none=>simp
         | some x=>simp;exact ih _
      have:=this g.1.toNat (m - 2 ^ y).testBit
      omega
     have htd:=JE hg hm' (k:=(k:Int)) (by omega)
     have hpart:∀ m2∈prt g g.1.toNat (m - 2 ^ y).testBit,xJ F d g (zp m2.testBit g.1.toNat) (k:Int)=some (decide (td g m2≤(k:Int))):=by
      intro m2 hm2
      obtain ⟨a,_⟩:=XL hg _ _ _ hm2
      have hc:=Ut hg _ _ _ hm2
      have hm20:m2≠0:=by
       intro e;subst e
       rw [MJ (fun j _=>wF j)] at hc;simp at hc
      exact ih d m2 a hm20 (by rw [hc];rfl) (by omega) (by omega)
     generalize hP:prt g g.1.toNat (m - 2 ^ y).testBit=P at hPl htd hpart
     have hget:∀ t,t < P.length→idx (P.map fun (m:Nat)=>zp m.testBit g.1.toNat) (t:Int)=some (zp (P.getD t 0).testBit g.1.toNat):=by
      intro t ht
      rw [zY (d:=[]) (by simp;exact ht),zC,Y0,zX ht,zC,zX ht];rfl
     have hlenP:(P.map fun (m:Nat)=>zp m.testBit g.1.toNat).length=P.length:=by simp
     refine (wU (L:=fun k3 t s=>wj F (xJ F d) (zp m.testBit g.1.toNat) ((k + 1:Nat):Int) g (i:Int) (P.map fun (m:Nat)=>zp m.testBit g.1.toNat) (wi F (xJ F d) (zp m.testBit g.1.toNat) ((k + 1:Nat):Int) g k2) k3 s t) (n:=P.length)
      (r:=bif decide (td g (m - 2 ^ y)≤(k:Int)) then some true else wi F (xJ F d) (zp m.testBit g.1.toNat) ((k + 1:Nat):Int) g k2 ((i + 1:Nat):Int))
      (fun t s=>s=vn (fun t=>decide (td g (P.getD t 0)≤(k:Int))) t) ?_ ?_ F true (by omega) rfl).trans ?_
     · intro k3 t s ht hI
       subst hI
       refine ⟨_,rfl,?_⟩
       simp only [wj,Yt]
       rw [hlenP,zt (show (t:Int) < (P.length:Int) by omega),zl,yk ht (by unfold Sm;omega)]
       have hs1:vn (fun t=>decide (td g (P.getD t 0)≤(k:Int))) (t + 1)=(vn (fun t=>decide (td g (P.getD t 0)≤(k:Int))) t && decide (td g (P.getD t 0)≤(k:Int))):=rfl
       rw [hs1]
       cases vn (fun t=>decide (td g (P.getD t 0)≤(k:Int))) t with
       | false=>rw [zi,vf]
       | true=>rw [zl,hget t ht,zc,hw,hpart _ (vo ht),zc,z7]
     · intro k3 s hI
       subst hI
       simp only [wj]
       rw [hlenP,zL (show ¬ (P.length:Int) < (P.length:Int) by omega),zi,yk hi (by unfold Sm;omega)]
       have hx:vn (fun t=>decide (td g (P.getD t 0)≤(k:Int))) P.length=decide (td g (m - 2 ^ y)≤(k:Int)):=by
        rw [yo,xj,z8,← htd]
        constructor
        · intro h m2 hm2
          obtain ⟨t,ht,rfl⟩:=wT.1 hm2
          have:=h t ht
          rw [zC,zX ht] at this
          simpa using this
        · intro h t ht
          exact zt (h _ (vo ht))
       rw [hx]
     · cases decide (td g (m - 2 ^ y)≤(k:Int)) <;> rfl
   · intro k2
     simp only [wi]
     rw [zL (show ¬ ((zp m.testBit g.1.toNat).length:Int) < ((zp m.testBit g.1.toNat).length:Int) by omega),zi]
theorem zkM {F:Nat} {g:Gr} {k:Int} (hG:g.2.length < F) (hF:300≤F) (hs:Sm g.2.length):Ze F g k=some (bif yz g && (decide (0≤k) && decide (k≤8)) then (decide (td g (2 ^ g.1.toNat - 1)≤k),true) else (false,false)):=by
 unfold Ze
 rw [XG hG hs,zc]
 cases hg:yz g with
 | false=>rfl
 | true=>
   have h8:=zT hg
   have hpow:=yi g.1.toNat
   rw [y0,zi,MO,zc,z7]
   by_cases hk:0≤k∧k≤8
   · rw [zt hk.1,zt hk.2]
     obtain ⟨k,rfl⟩:∃ k':Nat,k=k':=⟨k.toNat,by omega⟩
     unfold Zt
     simp only [ww,y0,zi,zl]
     have hall:zp (fun j=>decide (j < g.1.toNat)) g.1.toNat=zp (2 ^ g.1.toNat - 1).testBit g.1.toNat:=by
      apply wS;intro j _;rw [Nat.testBit_two_pow_sub_one]
     rw [ze3 hg (by omega),zc,hall,UU hg (by omega) hG hs,zc]
     have htd:=JE hg (c:=2 ^ g.1.toNat - 1) (by omega) (k:=(k:Int)) (by omega)
     have hPl:(prt g g.1.toNat (2 ^ g.1.toNat - 1).testBit).length≤8:=by
      have:∀ d p,(prt g d p).length≤d:=by
       intro d
       induction d with
       | zero=>intro p;simp [prt]
       | succ d ih=>
         intro p;rw [prt]
         cases ZH p g.1.toNat with
         | none=>simp
         | some x=>simp;exact ih _
      have:=this g.1.toNat (2 ^ g.1.toNat - 1).testBit
      omega
     have hpart:∀ m2∈prt g g.1.toNat (2 ^ g.1.toNat - 1).testBit,KL F g (zp m2.testBit g.1.toNat) (k:Int)=some (decide (td g m2≤(k:Int))):=by
      intro m2 hm2
      obtain ⟨a,_⟩:=XL hg _ _ _ hm2
      have hc:=Ut hg _ _ _ hm2
      have hm20:m2≠0:=by
       intro e;subst e
       rw [MJ (fun j _=>wF j)] at hc;simp at hc
      exact zhs hg hF hG hs k F m2 a hm20 (by rw [hc];rfl) (by omega) (by omega)
     generalize hP:prt g g.1.toNat (2 ^ g.1.toNat - 1).testBit=P at hPl htd hpart
     have hget:∀ t,t < P.length→idx (P.map fun (m:Nat)=>zp m.testBit g.1.toNat) (t:Int)=some (zp (P.getD t 0).testBit g.1.toNat):=by
      intro t ht
      rw [zY (d:=[]) (by simp;exact ht),zC,Y0,zX ht,zC,zX ht];rfl
     have hlenP:(P.map fun (m:Nat)=>zp m.testBit g.1.toNat).length=P.length:=by simp
     rw [Zv (L:=fun k2 i=>vk F (k:Int) g (P.map fun (m:Nat)=>zp m.testBit g.1.toNat) k2 i) (n:=P.length) (p:=fun t=>decide (td g (P.getD t 0)≤(k:Int))) (bad:=some (false,true)) (fin:=some (true,true)) ?_ ?_ F (by omega)]
     · have hx:vn (fun t=>decide (td g (P.getD t 0)≤(k:Int))) P.length=decide (td g (2 ^ g.1.toNat - 1)≤(k:Int)):=by
        rw [yo,xj,z8,← htd]
        constructor
        · intro h m2 hm2
          obtain ⟨t,ht,rfl⟩:=wT.1 hm2
          have:=h t ht
          rw [zC,zX ht] at this
          simpa using this
        · intro h t ht
          exact zt (h _ (vo ht))
       rw [hx]
       cases decide (td g (2 ^ g.1.toNat - 1)≤(k:Int)) <;> rfl
     · intro k2 t ht
       simp only [vk]
       rw [hlenP,zt (show (t:Int) < (P.length:Int) by omega),zl,hget t ht,zc,hpart _ (vo ht),zc,yk ht (by unfold Sm;omega)]
       cases decide (td g (P.getD t 0)≤(k:Int)) <;> rfl
     · intro k2
       simp only [vk]
       rw [hlenP,zL (show ¬ (P.length:Int) < (P.length:Int) by omega),zi]
   · have:(decide (0≤k) && decide (k≤8))=false:=by
      rw [Bool.eq_false_iff];intro h;apply hk;simpa using h
     rw [this];rfl
theorem zjb {F:Nat} {g:Gr} {k:Int} (hG:g.2.length < F) (hF:300≤F) (hs:Sm g.2.length):Zg F g k=some (bif yz g && (decide (0≤k) && decide (k≤8)) then (decide (td g (2 ^ g.1.toNat - 1)≤k),true) else (false,false)):=by
 unfold Zg
 rw [YG hG (by omega) hs,zc]
 cases hg:yz g with
 | false=>rfl
 | true=>
   have h8:=zT hg
   have h256:=Zi (n:=g.1.toNat) (by omega)
   have hpow:=yi g.1.toNat
   rw [y0,zi,Kk,zc,z7]
   cases (decide (0≤k) && decide (k≤8)) with
   | false=>rfl
   | true=>
     unfold Zs
     simp only [y0,zi,zl]
     obtain ⟨ds,h1,h2⟩:=KI hg hF
     rw [Jz hg hG hs,zc,h1,zc]
     unfold xa
     rw [vz,xB (by omega),zc,zc]
     have hw:w64 (((2 ^ g.1.toNat:Nat):Int) - 1)=((2 ^ g.1.toNat - 1:Nat):Int):=by rw [xp (by omega) (by omega)];omega
     rw [hw,zY (d:=0) (by rw [h2.1];omega),zc,h2.2.1 _ (yP _)]
     rfl
def zff (xs:List (List Int)):Nat→Nat
 | 0=>0
 | i + 1=>zff xs i + (xs.getD i []).length
theorem QL {xs:List (List Int)}:∀ {i j:Nat},i≤j→zff xs i≤zff xs j
 | i,0,h=>by obtain rfl:i=0:=by omega
             exact yP _
 | i,j + 1,h=>by
   by_cases e:i=j + 1
   · subst e;exact yP _
   · have:=QL (xs:=xs) (i:=i) (j:=j) (by omega)
     simp only [zff];omega
theorem zmn {xs:List (List Int)} {i:Nat} (h:i < xs.length):(xs.getD i []).length≤zff xs xs.length:=by
 have:=QL (xs:=xs) (i:=i + 1) (j:=xs.length) (by omega)
 simp only [zff] at this;omega
def K4 (v:Int→Int) (s:Option Int) (y:Int):Option Int:=match s with
 | none=>some (v y)
 | some b=>if v y < b then some (v y) else some b
def mnO (v:Int→Int) (l:List Int):Option Int:=l.foldl (K4 v) none
def mn (v:Int→Int) (l:List Int) (nn:Int):Int:=(mnO v l).getD nn
theorem zcU {v:Int→Int} {l:List Int} {y:Int}:mnO v (l++[y])=K4 v (mnO v l) y:=by simp [mnO,List.foldl_append]
theorem zdr {v:Int→Int}:∀ {l:List Int},mnO v l=none↔l=[]:=by
 intro l
 constructor
 · intro h
   cases hl:l.reverse with
   | nil=>simpa using hl
   | cons y ys=>
     have:l=ys.reverse++[y]:=by rw [← List.reverse_reverse l,hl];simp
     rw [this,zcU] at h
     unfold K4 at h
     split at h
     · cases h
     · split at h <;> cases h
 · rintro rfl;rfl
theorem ziu {v:Int→Int} {nn:Int}:mn v [] nn=nn:=rfl
theorem zcH {v:Int→Int} {l:List Int} {y nn:Int}:mn v (l++[y]) nn=if l=[]∨v y < mn v l nn then v y else mn v l nn:=by
 unfold mn
 rw [zcU]
 cases h:mnO v l with
 | none=>
   have:=zdr.1 h
   rw [if_pos (.inl this)];rfl
 | some b=>
   have hne:l≠[]:=fun e=>by rw [zdr.2 e] at h;cases h
   simp only [K4,yV,hne,false_or]
   split <;> rfl
theorem zdv {v w:Int→Int} {nn:Int} {l:List Int} (h:∀ y∈l,v y=w y):mn v l nn=mn w l nn:=by
 have key:∀ (l:List Int) (s:Option Int),(∀ y∈l,v y=w y)→l.foldl (K4 v) s=l.foldl (K4 w) s:=by
  intro l
  induction l with
  | nil=>intro s _;rfl
  | cons y l ih=>
    intro s h
    simp only [List.foldl_cons]
    have:K4 v s y=K4 w s y:=by
     unfold K4
     rw [h y (by simp)]
    rw [this]
    exact ih _ fun z hz=>h z (by simp [hz])
 unfold mn mnO
 rw [key l none h]
theorem zkb {v:Int→Int} {nn t:Int} {l:List Int} (hl:l≠[]):mn v l nn≤t↔∃ y∈l,v y≤t:=by
 have key:∀ (r:List Int),r≠[]→(mn v r.reverse nn≤t↔∃ y∈r,v y≤t):=by
  intro r
  induction r with
  | nil=>intro h;exact absurd rfl h
  | cons y r ih=>
    intro _
    rw [List.reverse_cons,zcH]
    by_cases hr:r=[]
    · subst hr
      simp
    · have hr':r.reverse≠[]:=by simpa using hr
      have:=ih hr
      simp only [hr',false_or,z2,exists_eq_or_imp]
      split
      · rename_i h
        constructor
        · intro h1;exact .inl h1
        · rintro (h1 | h1)
          · exact h1
          · have:=this.2 h1;omega
      · rename_i h
        constructor
        · intro h1;exact .inr (this.1 h1)
        · rintro (h1 | h1)
          · omega
          · exact this.2 h1
 have:=key l.reverse (by simpa using hl)
 simpa using this
theorem zaL {v:Int→Int} {nn:Int} {l:List Int} (hl:l≠[]) (h:∀ y∈l,0≤v y):0≤mn v l nn:=by
 by_cases h0:mn v l nn≤-1
 · obtain ⟨y,hy,h1⟩:=(zkb hl).1 h0
   have:=h y hy;omega
 · omega
def vO (n m:Nat):List Int:=zp (fun x=>!m.testBit x) n
theorem Xi {n m:Nat} {y:Int}:y∈vO n m↔∃ x:Nat,y=x∧x < n∧m.testBit x=false:=by
 unfold vO
 rw [xr]
 simp
theorem Kj:∀ c:Nat,c < 256→∀ y:Nat,y < 8→c.testBit y=false→c ||| 2 ^ y=c + 2 ^ y:=by decide +kernel
theorem zgY {n m:Nat} (hn:n≤8) (h:m < 2 ^ n):m < 256:=xy h (by
 have:=xw (n:=2) (by decide) hn
 simpa using this)
theorem zcT {n m x:Nat} (h:m < 2 ^ n) (hx:x < n):m ||| 2 ^ x < 2 ^ n:=Nat.or_lt_two_pow h (Nat.pow_lt_pow_right (by decide) hx)
theorem zfJ {n m:Nat} (h:m < 2 ^ n) (hb:∀ x,x < n→m.testBit x=true):m=2 ^ n - 1:=by
 apply ZX
 intro j
 rw [Nat.testBit_two_pow_sub_one]
 by_cases hj:j < n
 · rw [hb j hj,zt hj]
 · rw [zL hj]
   exact Nat.testBit_lt_two_pow (xy h (xw (by decide) (by omega)))
theorem NP {n m:Nat} (h:m < 2 ^ n):vO n m=[]↔m=2 ^ n - 1:=by
 constructor
 · intro h0
   refine zfJ h fun x hx=>?_
   cases hb:m.testBit x with
   | true=>rfl
   | false=>
     have:(x:Int)∈vO n m:=Xi.2 ⟨x,rfl,hx,hb⟩
     rw [h0] at this;cases this
 · rintro rfl
   rw [List.eq_nil_iff_forall_not_mem]
   intro y hy
   obtain ⟨x,_,hx,hb⟩:=Xi.1 hy
   rw [Nat.testBit_two_pow_sub_one,zt hx] at hb;cases hb
def Mk (n:Nat) (c:Nat→Nat→Int) (nn:Int) (T:Nat→Int):Prop:=∀ m,m < 2 ^ n→T m=mn (fun x=>max (c m x.toNat) (T (m ||| 2 ^ x.toNat))) (vO n m) nn
inductive Ch (n:Nat) (c:Nat→Int) (t:Int):Nat→Nat→Prop
 | refl (m:Nat):Ch n c t m m
 | step {m x m':Nat}:x < n→m.testBit x=false→c (m ||| 2 ^ x)≤t→Ch n c t (m ||| 2 ^ x) m'→Ch n c t m m'
theorem zlx {n:Nat} {c:Nat→Int} {t:Int} {T:Nat→Int} (hn:n≤8) (hT:Mk n (fun m x=>c (m ||| 2 ^ x)) 0 T) (ht:0≤t):∀ m,m < 2 ^ n→(T m≤t↔Ch n c t m (2 ^ n - 1)):=by
 have key:∀ d m,m + d=2 ^ n→m < 2 ^ n→(T m≤t↔Ch n c t m (2 ^ n - 1)):=by
  intro d
  induction d using Nat.strongRecOn with
  | ind d ih=>
    intro m hd hm
    rw [hT m hm]
    by_cases hf:m=2 ^ n - 1
    · rw [(NP hm).2 hf,ziu]
      subst hf
      exact ⟨fun _=>.refl _,fun _=>ht⟩
    · have hne:vO n m≠[]:=fun e=>hf ((NP hm).1 e)
      rw [zkb hne]
      constructor
      · rintro ⟨y,hy,h⟩
        obtain ⟨x,rfl,hx,hb⟩:=Xi.1 hy
        rw [z5] at h
        have h:max (c (m ||| 2 ^ x)) (T (m ||| 2 ^ x))≤t:=h
        have h1:=Kj m (zgY hn hm) x (by omega) hb
        have h2:=zcT hm hx
        have h3:=yi x
        exact .step hx hb (by omega) ((ih (2 ^ n - (m ||| 2 ^ x)) (by omega) (m ||| 2 ^ x) (by omega) h2).1 (by omega))
      · intro h
        cases h with
        | refl=>exact absurd rfl hf
        | step hx hb hc h=>
          rename_i x
          have h1:=Kj m (zgY hn hm) x (by omega) hb
          have h2:=zcT hm hx
          have h3:=yi x
          refine ⟨(x:Int),Xi.2 ⟨x,rfl,hx,hb⟩,?_⟩
          rw [z5]
          have:=(ih (2 ^ n - (m ||| 2 ^ x)) (by omega) (m ||| 2 ^ x) (by omega) h2).2 h
          exact Int.max_le.2 ⟨hc,this⟩
 intro m hm
 exact key (2 ^ n - m) m (by omega) hm
def frt (g:Gr) (p:Nat→Bool) (j:Nat):Bool:=p j && uC (fun y=>adj g j y && !p y) g.1.toNat
theorem zh3 {F:Nat} {g:Gr} {p:Nat→Bool} (hg:yz g=true) (hF:20≤F):Z5 F ⟨yF g⟩ ((mkm p g.1.toNat:Nat):Int)=some ((mkm (frt g p) g.1.toNat:Nat):Int):=by
 have h8:=zT hg
 have hp8:(zp p g.1.toNat).length≤8:=by rw [y9];exact xz wt (by omega)
 unfold Z5
 rw [JH (by omega) hF,zc]
 refine wU (L:=fun k i s=>xS F ((mkm p g.1.toNat:Nat):Int) ⟨yF g⟩ (zp p g.1.toNat) k s i) (n:=(zp p g.1.toNat).length) (fun i s=>s=((mkm (fun j=>decide ((j:Int)∈(zp p g.1.toNat).take i) && uC (fun y=>adj g j y && !p y) g.1.toNat) g.1.toNat:Nat):Int)) ?_ ?_ F _ (by omega) ?_
 · intro k i s hi hI
   subst hI
   refine ⟨_,rfl,?_⟩
   obtain ⟨a,ha,han,hap⟩:=w7 hi
   simp only [xS,ZZ]
   rw [zt (show (i:Int) < ((zp p g.1.toNat).length:Int) by omega),zl,zY (d:=0) hi,zc,ha,zY (d:=0) (by rw [vz];exact han),zc,LP han,xB (by omega),zc,yk hi (by unfold Sm;omega)]
   obtain ⟨c,hc,_,hb⟩:=ud (xU (p:=adj g a) (n:=g.1.toNat) (by omega)) (xU (p:=p) (n:=g.1.toNat) (by omega))
   rw [hc]
   have hiff:c=0↔uC (fun y=>adj g a y && !p y) g.1.toNat=false:=by
    rw [MZ,Bool.not_eq_false',xj]
    constructor
    · intro h0 y hy
      have:=hb y
      rw [h0,wF,yj,yj,zt hy,z7,z7] at this
      rw [← this];rfl
    · intro h
      apply ZX
      intro y
      rw [hb,yj,yj,wF]
      by_cases hy:y < g.1.toNat
      · have:=h y hy
        rw [zt hy,z7,z7]
        cases h6:(adj g a y && !p y) with
        | false=>rfl
        | true=>rw [h6] at this;cases this
      · rw [zL hy];rfl
   have hset:∀ b:Bool,uC (fun y=>adj g a y && !p y) g.1.toNat=b→∀ j:Nat,(decide ((j:Int)∈(zp p g.1.toNat).take (i + 1)) && uC (fun y=>adj g j y && !p y) g.1.toNat)=((decide ((j:Int)∈(zp p g.1.toNat).take i) && uC (fun y=>adj g j y && !p y) g.1.toNat) || (b && j == a)):=by
    intro b hbb j
    have hp2:=NQ (x:=a) hi ha j
    unfold Yo at hp2
    rw [hp2]
    by_cases e:j=a
    · subst e
      rw [hbb,Y6,Bool.or_true,z7,Bool.and_true]
      cases b <;> simp
    · have:(j == a)=false:=by simpa using e
      rw [this,Bool.and_false,uT,uT]
   cases hany:uC (fun y=>adj g a y && !p y) g.1.toNat with
   | false=>
     rw [hiff.2 hany]
     have:mkm (fun j=>decide ((j:Int)∈(zp p g.1.toNat).take (i + 1)) && uC (fun y=>adj g j y && !p y) g.1.toNat) g.1.toNat=mkm (fun j=>decide ((j:Int)∈(zp p g.1.toNat).take i) && uC (fun y=>adj g j y && !p y) g.1.toNat) g.1.toNat:=by
      apply Zy
      intro j _
      rw [hset false hany j];simp
     rw [this];rfl
   | true=>
     have hne:c≠0:=fun e=>by rw [hiff.1 e] at hany;cases hany
     have hne2:((c:Int) != 0)=true:=by simpa using hne
     rw [hne2,zl,Wf (xU (by omega)) (YB (by omega))]
     congr 2
     refine uK fun j=>?_
     rw [ZC,yj,uF,hset true hany j,z7]
     by_cases e:j=a
     · subst e
       rw [zt han];simp
     · have e1:(j == a)=false:=by simpa using e
       rw [e1,zL (show ¬ a=j by omega),uT,uT]
 · intro k s hI
   subst hI
   simp only [xS]
   rw [zL (show ¬ ((zp p g.1.toNat).length:Int) < ((zp p g.1.toNat).length:Int) by omega),zi]
   congr 2
   apply Zy
   intro j hj
   rw [List.take_length]
   unfold frt
   congr 1
   rw [yo,z8,xr]
   constructor
   · rintro ⟨j',e,_,h⟩
     obtain rfl:j=j':=by omega
     exact h
   · exact fun h=>⟨j,rfl,hj,h⟩
 · have:mkm (fun j=>decide ((j:Int)∈(zp p g.1.toNat).take 0) && uC (fun y=>adj g j y && !p y) g.1.toNat) g.1.toNat=0:=by
    rw [Xa,vm]
    intro j _
    simp
   rw [this];rfl
def frC (g:Gr) (m:Nat):Int:=(y8 (frt g m.testBit) g.1.toNat:Int)
theorem zeL {g:Gr} {m:Nat}:0≤frC g m:=by unfold frC;omega
theorem zj8 {n m:Nat} (h:m < 2 ^ n):mkm m.testBit n=m:=by
 symm
 refine uK fun j=>?_
 by_cases hj:j < n
 · rw [zt hj,z7]
 · rw [zL hj,vf]
   exact Nat.testBit_lt_two_pow (xy h (xw (by decide) (by omega)))
theorem zcg {F:Nat} {g:Gr} {m x:Nat} (hg:yz g=true) (hF:20≤F) (hm:m < 2 ^ g.1.toNat) (hx:x < g.1.toNat):wx F ⟨yF g⟩ (m:Int) (x:Int)=some (frC g (m ||| 2 ^ x)):=by
 have h8:=zT hg
 have h256:=zgY (by omega) hm
 unfold wx
 rw [xB (by omega),zc,Wf (by omega) (YB (by omega))]
 have hf:=zh3 (F:=F) (p:=(m ||| 2 ^ x).testBit) hg hF
 rw [zj8 (zcT hm hx)] at hf
 rw [hf,zc,MW (Lp (by omega)),zc,JB (by omega)]
 rfl
def frP (g:Gr) (m x:Nat):Int:=frC g (m ||| 2 ^ x)
theorem zeT {F:Nat} {g:Gr} {m x:Nat} (hg:yz g=true) (hF:20≤F) (hm:m < 2 ^ g.1.toNat) (hx:x < g.1.toNat):wx F ⟨yF g⟩ (m:Int) (x:Int)=some (frP g m x):=zcg hg hF hm hx
structure Bg (F:Nat) (bags:List (List Int)):Prop where
 len:bags.length≤1048576
 each:∀ x∈bags,x.length≤1048576
 fuel:1048577≤F
theorem Bg.at {F:Nat} {bags:List (List Int)} (h:Bg F bags) {i:Nat} (hi:i < bags.length):(bags.getD i []).length≤1048576:=h.each _ (vo hi)
theorem Bg.of {F:Nat} {bags:List (List Int)} (h:bags.length + zff bags bags.length≤1048576) (hF:1048577≤F):Bg F bags:=by
 refine ⟨by omega,fun x hx=>?_,hF⟩
 obtain ⟨i,hi,e⟩:=wT.1 hx
 have:=zmn hi
 rw [zC,zX hi,yV,e] at this
 omega
def bq (l:List Int) (j:Nat):Bool:=decide ((j:Int)∈l)
theorem zdJ {n:Int} {l:List Int} (h:Yl n l=true) (h0:0≤n):∀ y∈l,0≤y∧y < n:=by
 have hl:=Kn h
 have:=(Md n.toNat l (fun j hj=>LL h (by omega) (by omega))).2 (by omega)
 intro y hy
 have:=this y hy
 omega
def zwG (l:List Int) (r:Int) (j:Nat):Bool:=decide (l.getD j 0≤r)
def zx3 (g:Gr) (l:List Int) (x:Nat):Bool:=uC (fun y=>yY g (zwG l (l.getD x 0)) x y && ((y != x) && (l.getD y 0 == l.getD x 0))) g.1.toNat
theorem QY {out:List Int} {x j:Nat}:bq (out++[(x:Int)]) j=(bq out j || j == x):=by
 unfold bq
 rw [yo]
 simp only [z8,zN,wC,yH,yO]
 constructor
 · rintro (h | h)
   · exact .inl h
   · exact .inr (by omega)
 · rintro (h | h)
   · exact .inl h
   · exact .inr (by omega)
theorem zkZ {n:Nat}:mkm (fun _=>true) n=2 ^ n - 1:=by
 induction n with
 | zero=>rfl
 | succ n ih=>
   have:=zgL (p:=fun _=>true) (n:=n)
   rw [this,ih]
   have:=yi n
   simp only [if_true,Nat.pow_succ];omega
theorem zly {F:Nat} {g:Gr} (hg:yz g=true):xa F ⟨yF g⟩=some ((mkm (fun _=>true) g.1.toNat:Nat):Int):=by
 have h8:=zT hg
 have hpow:=yi g.1.toNat
 have h256:2 ^ g.1.toNat≤256:=by
  have:=xw (n:=2) (by decide) (show g.1.toNat≤8 by omega)
  simpa using this
 unfold xa
 rw [vz,xB (by omega),zc,xp (by omega) (by omega),zkZ]
 congr 1;omega
theorem Nr {F:Nat} {g:Gr} {nn:Int} (hg:yz g=true) (hF:300≤F) :
    ∃ best:List Int,yp F ⟨yF g⟩ nn ⟨(⟨yF g⟩,()),()⟩=some best∧best.length=2 ^ g.1.toNat∧Mk g.1.toNat (frP g) nn (fun m=>best.getD m 0):=by
 have h8:=zT hg
 obtain ⟨n,hn⟩:∃ n:Nat,g.1.toNat=n:=⟨_,rfl⟩
 have hn8:n≤8:=by omega
 have hpow:=yi n
 have hp256:2 ^ n≤256:=by
  have:=xw (n:=2) (by decide) hn8
  simpa using this
 have hall:xa F ⟨yF g⟩=some ((2 ^ n - 1:Nat):Int):=by
  unfold xa
  rw [vz,hn,xB (by omega),zc,xp (by omega) (by omega)]
  congr 1;omega
 have hw:w64 (((2 ^ n - 1:Nat):Int) + 1)=((2 ^ n:Nat):Int):=by rw [xp (by omega) (by omega)];omega
 unfold yp
 rw [hall,zc,hw,Uh (by omega),zc,zc,hn]
 have key:∀ d k (best:List Int),d≤2 ^ n→d < k→best.length=2 ^ n →
     (∀ j,d≤j→j < 2 ^ n→best.getD j 0=mn (fun x=>max (frP g j x.toNat) (best.getD (j ||| 2 ^ x.toNat) 0)) (vO n j) nn) →
     ∃ b,zO F nn ⟨(⟨yF g⟩,()),()⟩ ⟨yF g⟩ k best ((d:Int) - 1)=some b∧b.length=2 ^ n∧Mk n (frP g) nn (fun m=>b.getD m 0):=by
  intro d
  induction d with
  | zero=>
    intro k best _ hk hlen hrec
    obtain ⟨k,rfl⟩:∃ k',k=k' + 1:=⟨k - 1,by omega⟩
    refine ⟨best,?_,hlen,fun m hm=>hrec m (by omega) hm⟩
    simp only [zO]
    rw [zL (by omega),zi]
  | succ d ih=>
    intro k best hd hk hlen hrec
    obtain ⟨k,rfl⟩:∃ k',k=k' + 1:=⟨k - 1,by omega⟩
    have hdn:d < 2 ^ n:=by omega
    have e0:((d + 1:Nat):Int) - 1=(d:Int):=by omega
    have hmk:yW .i64 ((2 ^ n - 1:Nat):Int) (d:Int)=((mkm (fun x=>!d.testBit x) n:Nat):Int):=by
     obtain ⟨c,hc,_,hb⟩:=ud (a:=2 ^ n - 1) (b:=d) (by omega) (by omega)
     rw [hc]
     congr 1
     refine uK fun j=>?_
     rw [hb,Nat.testBit_two_pow_sub_one]
    have hl8:(vO n d).length≤8:=by unfold vO;rw [y9];exact xz wt hn8
    simp only [zO]
    rw [e0,zt (by omega),zl,zY (d:=0) (by omega),zc,hall,zc,hmk,JH hn8 (by omega),zc,z5]
    obtain ⟨s,hs,he⟩:=U2 (L:=fun k2 t s=>zS F nn ⟨(⟨yF g⟩,()),()⟩ ⟨yF g⟩ (d:Int) (vO n d) (zO F nn ⟨(⟨yF g⟩,()),()⟩ ⟨yF g⟩ k) k2 s t) (n:=(vO n d).length)
     (fun t s=>s=best.set d (mn (fun x=>max (frP g d x.toNat) (best.getD (d ||| 2 ^ x.toNat) 0)) ((vO n d).take t) nn)) (fin:=fun s=>zO F nn ⟨(⟨yF g⟩,()),()⟩ ⟨yF g⟩ k s ((d:Int) - 1)) (by
       intro k2 t s ht hI
       subst hI
       refine ⟨_,rfl,?_⟩
       obtain ⟨x,hx,hxn,hxb⟩:=Xi.1 (vo (d:=0) ht)
       have hgt:=Kj d (by omega) x (by omega) hxb
       have hxp:=yi x
       have hor:=zcT hdn hxn
       have hcost:=zeT (F:=F) (m:=d) (x:=x) hg (by omega) (by rw [hn];exact hdn) (by rw [hn];exact hxn)
       have htake:(vO n d).take (t + 1)=(vO n d).take t++[(x:Int)]:=by
        rw [List.take_add_one,zX ht]
        rw [zC,zX ht,yV] at hx
        rw [hx];rfl
       have hget:∀ a:Int,(best.set d a).getD (d ||| 2 ^ x) 0=best.getD (d ||| 2 ^ x) 0:=by
        intro a
        rw [zC,List.getElem?_set_ne (by omega),← zC]
       have hgetd:∀ a:Int,(best.set d a).getD d 0=a:=by
        intro a
        rw [zC,List.getElem?_set_self (by omega),yV]
       simp only [zS,yR,yQ]
       rw [zt (show (t:Int) < ((vO n d).length:Int) by omega),zl,zY (d:=0) ht,zc,hx]
       rw [hcost,zc,xB (by omega),zc,Wf (by omega) (YB (by omega)),zY (d:=0) (by rw [List.length_set];omega),zc,hget,zY (d:=0) (by rw [List.length_set];omega),zc,zc,hgetd,z5,List.set_set,yk ht (by unfold Sm;omega),htake,zcH]
       have hmax:(if best.getD (d ||| 2 ^ x) 0 > frP g d x then best.getD (d ||| 2 ^ x) 0 else frP g d x)=max (frP g d x) (best.getD (d ||| 2 ^ x) 0):=by
        by_cases h:best.getD (d ||| 2 ^ x) 0 > frP g d x
        · rw [if_pos h,Int.max_eq_right (by omega)]
        · rw [if_neg h,Int.max_eq_left (by omega)]
       rw [hmax,z5]
       by_cases ht0:t=0
       · subst ht0
         rw [if_pos (.inl (by simp))]
         rfl
       · have hne:(vO n d).take t≠[]:=by
          intro e
          have:=congrArg List.length e
          rw [Yh] at this
          simp only [List.length_nil] at this
          omega
         have hb:((t:Int) == 0)=false:=by rw [beq_eq_false_iff_ne];omega
         rw [hb,zi]
         by_cases hlt:max (frP g d x) (best.getD (d ||| 2 ^ x) 0) < mn (fun x=>max (frP g d x.toNat) (best.getD (d ||| 2 ^ x.toNat) 0)) ((vO n d).take t) nn
         · rw [zt hlt,zl,if_pos (.inr hlt)]
         · rw [zL hlt,zi,if_neg (fun h=>h.elim hne hlt)]) (by
       intro k2 s hI
       simp only [zS]
       rw [zL (show ¬ ((vO n d).length:Int) < ((vO n d).length:Int) by omega),zi,xp (by omega) (by omega)]) F (best.set d nn) (by omega) rfl
    have he':zS F nn ⟨(⟨yF g⟩,()),()⟩ ⟨yF g⟩ (d:Int) (vO n d) (zO F nn ⟨(⟨yF g⟩,()),()⟩ ⟨yF g⟩ k) F (best.set d nn) 0=zO F nn ⟨(⟨yF g⟩,()),()⟩ ⟨yF g⟩ k s ((d:Int) - 1):=he
    rw [List.take_length] at hs
    rw [show zp (fun x=>!d.testBit x) n=vO n d from rfl,he']
    refine ih k s (by omega) (by omega) (by rw [hs,List.length_set];exact hlen) ?_
    have hsd:s.getD d 0=mn (fun x=>max (frP g d x.toNat) (best.getD (d ||| 2 ^ x.toNat) 0)) (vO n d) nn:=by
     rw [hs,zC,List.getElem?_set_self (by omega),yV]
    have hsne:∀ j,j≠d→s.getD j 0=best.getD j 0:=by
     intro j hj
     rw [hs,zC,List.getElem?_set_ne (by omega),← zC]
    intro j h1 h2
    have hcg:mn (fun x=>max (frP g j x.toNat) (best.getD (j ||| 2 ^ x.toNat) 0)) (vO n j) nn=mn (fun x=>max (frP g j x.toNat) (s.getD (j ||| 2 ^ x.toNat) 0)) (vO n j) nn:=by
     refine zdv fun y hy=>?_
     obtain ⟨x,rfl,hxn,hxb⟩:=Xi.1 hy
     have hgt:=Kj j (by omega) x (by omega) hxb
     have hxp:=yi x
     rw [z5,hsne _ (by omega)]
    by_cases e:j=d
    · subst e;rw [hsd,hcg]
    · rw [hsne j e,hrec j (by omega) h2,hcg]
 have e1:((2 ^ n - 1:Nat):Int)=((2 ^ n:Nat):Int) - 1:=by omega
 rw [e1]
 exact key (2 ^ n) F _ (by omega) (by omega) (by simp) (fun j h1 h2=>absurd h2 (by omega))
end Go.Zq
