/- Plain mathematics: what the functions answer (part 2). Conditions: stated in each theorem. -/
import Derived.Test.YtelahampjnaimacM1
set_option linter.unusedVariables false
set_option linter.unusedSimpArgs false
namespace Go.Zq
theorem zdU {F n:Nat} {p:Nat→Bool} {x:Int} (hn:n≤8) (hF:20≤F):ZF F (zt p n) x=some (zt (fun j=>p j && !((j:Int) == x)) n):=by
 have hc:=uX (p:=p) (n:=n)
 have hl8:(zt p n).length≤8:=by rw [xg];omega
 have hfin:(zt p n).filter (fun y=>y != x)=zt (fun j=>p j && !((j:Int) == x)) n:=by
  refine Lv (List.Pairwise.filter _ K9) fun y=>?_
  rw [Zh,wA]
  constructor
  · rintro ⟨⟨j,rfl,h1,h2⟩,h3⟩;exact ⟨j,rfl,h1,by rw [h2];simpa using h3⟩
  · rintro ⟨j,rfl,h1,h2⟩
    simp only [zq] at h2
    exact ⟨⟨j,rfl,h1,h2.1⟩,by simpa using h2.2⟩
 unfold ZF
 refine xA (L:=fun k i s=>xO F (zt p n) x k s i) (n:=(zt p n).length) (fun i s=>s=((zt p n).take i).filter fun y=>y != x) ?_ ?_ F _ (by omega) rfl
 · intro k i s hi hI
   subst hI
   refine ⟨_,rfl,?_⟩
   have hfl:(((zt p n).take i).filter fun y=>y != x).length≤8:=xI (List.length_filter_le _ _) (by simp;omega)
   simp only [xO,ZI]
   rw [zo (show (i:Int) < ((zt p n).length:Int) by omega),zk,zT (d:=0) hi,zb,yd hi (by unfold Sm;omega)]
   have htk:((zt p n).take (i + 1)).filter (fun y=>y != x)=((zt p n).take i).filter (fun y=>y != x)++(if ((zt p n).getD i 0 != x)=true then [(zt p n).getD i 0] else []):=by
    rw [List.take_add_one,yL hi,List.filter_append]
    have e:(zt p n).getD i 0=(zt p n)[i]:=by rw [zZ,yL hi];rfl
    rw [e]
    cases h:((zt p n)[i] != x) <;> simp [h]
   rw [htk]
   cases h:((zt p n).getD i 0 != x) with
   | true=>rw [zk,zb,u9 (by omega),zb];rfl
   | false=>rw [zh];simp
 · intro k s hI
   subst hI
   simp only [xO]
   rw [zA (show ¬ ((zt p n).length:Int) < ((zt p n).length:Int) by omega),zh,List.take_length,hfin]
theorem Qs {F:Nat} {g:Gr} {p u:Nat→Bool} (hg:yD g=true) (hF:60≤F) (hG:g.2.length < F) (hs:Sm g.2.length) :
    Ym F g (zt p g.1.toNat) (zt u g.1.toNat)=some (zt (spr g (fun j=>!p j) u) g.1.toNat):=by
 have h8:=yl hg
 obtain ⟨n,hn⟩:∃ n:Nat,g.1.toNat=n:=⟨_,rfl⟩
 have hn8:n≤8:=by omega
 have hgn:g.1=(n:Int):=by omega
 rw [hn]
 unfold Ym
 have hul:(zt u n).length≤8:=by rw [xg];exact xI uX hn8
 refine xA (L:=fun k i s=>wh F (zt p n) (zt u n) g k s i) (n:=n) (fun i s=>s=zt (fun j=>!p j) i) ?_ ?_ F _ (by omega) rfl
 · intro k i s hi hI
   subst hI
   refine ⟨_,rfl,?_⟩
   have hc:=uX (p:=fun j=>!p j) (n:=i)
   simp only [wh,Yc]
   rw [hgn,zo (show (i:Int) < (n:Int) by omega),zk,YG hn8 hi (by omega),zb,Yl,yd hi (by unfold Sm;omega)]
   cases p i with
   | true=>rw [ye,zh];simp
   | false=>rw [wb,zk,u9 (by rw [xg];omega),zb];rfl
 · intro k s hI
   subst hI
   simp only [wh]
   rw [hgn,zA (show ¬ (n:Int) < (n:Int) by omega),zh]
   let A:Nat→Nat→Bool:=fun i j=>ve (fun t=>!p ((zt u n).getD t 0).toNat && Xj g (fun j=>!p j) ((zt u n).getD t 0).toNat j) i
   have hfin:∀ j,j < n→A (zt u n).length j=spr g (fun j=>!p j) u j:=by
    intro j _
    show ve _ _=_
    unfold spr
    rw [yM,uj,uj,hn]
    constructor
    · rintro ⟨t,ht,h⟩
      obtain ⟨y,hy,hyn,hyu⟩:=vU ht
      rw [hy,yi] at h
      exact ⟨y,hyn,by rw [hyu,zL];exact h⟩
    · rintro ⟨y,hy,h⟩
      simp only [zq] at h
      have hm:(y:Int)∈zt u n:=wA.2 ⟨y,rfl,hy,h.1.1⟩
      obtain ⟨t,ht,e⟩:=Yb.1 hm
      refine ⟨t,ht,?_⟩
      rw [zZ,yL ht,xa,e,yi,h.1.2,h.2];rfl
   refine xA (L:=fun k i s=>wg F (zt p n) (zt u n) g (zt (fun j=>!p j) n) k s i) (n:=(zt u n).length) (fun i s=>s=zt (A i) n) ?_ ?_ F _ (by omega) ?_
   · intro k i s hi hI
     subst hI
     refine ⟨_,rfl,?_⟩
     obtain ⟨y,hy,hyn,hyu⟩:=vU hi
     have hAs:∀ j,A (i + 1) j=(A i j || (!p y && Xj g (fun j=>!p j) y j)):=by
      intro j
      show (A i j || (!p ((zt u n).getD i 0).toNat && Xj g (fun j=>!p j) ((zt u n).getD i 0).toNat j))=_
      rw [hy,yi]
     have hwi:w64 ((i:Int) + 1)=((i + 1:Nat):Int):=yd hi (by unfold Sm;omega)
     simp only [wg]
     rw [zo (show (i:Int) < ((zt u n).length:Int) by omega),zk,zT (d:=0) hi,zb,hy,YG hn8 hyn (by omega),zb]
     cases hp:p y with
     | true=>
       rw [zk,hwi,xt (p:=A (i + 1)) (q:=A i) (fun j _=>by rw [hAs j,hp];simp)]
     | false=>
       have hr:=zhI (F:=F) (x:=y) (p:=fun j=>!p j) hg (by omega) (by rw [hp];rfl) (by omega) hG hs
       rw [hn] at hr
       rw [zh,zb,hr,zb]
       have hcl8:(zt (Xj g (fun j=>!p j) y) n).length≤8:=by rw [xg];exact xI uX hn8
       refine xA (L:=fun k2 t s=>ux F (zt p n) (zt u n) g (zt (fun j=>!p j) n) (i:Int) (zt (Xj g (fun j=>!p j) y) n) (wg F (zt p n) (zt u n) g (zt (fun j=>!p j) n) k) k2 s t) (n:=(zt (Xj g (fun j=>!p j) y) n).length)
        (fun t s=>s=zt (fun j=>A i j || decide ((j:Int)∈(zt (Xj g (fun j=>!p j) y) n).take t)) n) ?_ ?_ F _ (by omega) ?_
       · intro k2 t s ht hI
         subst hI
         refine ⟨_,rfl,?_⟩
         obtain ⟨z,hz,hzn,_⟩:=vU ht
         simp only [ux]
         rw [zo (show (t:Int) < ((zt (Xj g (fun j=>!p j) y) n).length:Int) by omega),zk,zT (d:=0) ht,zb,hz,M7 hn8 hzn (by omega),zb,yd ht (by unfold Sm;omega)]
         congr 1
         apply xt
         intro j _
         have hp2:=Wz (x:=z) ht hz j
         unfold xj at hp2
         rw [hp2,Bool.or_assoc]
       · intro k2 s hI
         subst hI
         simp only [ux]
         rw [zA (show ¬ ((zt (Xj g (fun j=>!p j) y) n).length:Int) < ((zt (Xj g (fun j=>!p j) y) n).length:Int) by omega),zh,hwi]
         congr 1
         apply xt
         intro j hj
         rw [List.take_length,hAs j,hp,wb,zL]
         congr 1
         rw [yM,yn,wA]
         constructor
         · rintro ⟨j',e,_,h⟩
           obtain rfl:j=j':=by omega
           exact h
         · exact fun h=>⟨j,rfl,hj,h⟩
       · apply xt;intro j _;simp
   · intro k s hI
     subst hI
     simp only [wg]
     rw [zA (show ¬ ((zt u n).length:Int) < ((zt u n).length:Int) by omega),zh,xt hfin]
   · rw [xt (p:=A 0) (q:=fun _=>false) (fun j _=>rfl)]
     simp [zt]
theorem Mg {F n:Nat} {p:Nat→Bool} {y:Int} (hn:n≤8) (hF:20≤F) (h0:0≤y) (hy:y < n):wI F (zt p n) y=some (p y.toNat):=by
 obtain ⟨x,rfl⟩:∃ x:Nat,y=x:=⟨y.toNat,by omega⟩
 rw [YG hn (by omega) hF,yi]
theorem zbA {F:Nat} {g:Gr} {p u:Nat→Bool} {step:Int} (hg:yD g=true) (hst:(Lit.int .i64 step).wf=true) (hF:40≤F) :
    WQ F g (zt p g.1.toNat,zt u g.1.toNat) step=some (Xu g.1.toNat p step):=by
 have h8:=yl hg
 have hr:=L9.1 hst
 have hgn:g.1=(g.1.toNat:Int):=by omega
 unfold WQ Up Xu
 by_cases h:step < 0
 · have hw:w64 (-1 - step)=xx step:=by have:=Mp hst;rwa [if_pos h] at this
   have hx:xx step=-1 - step:=by unfold xx;rw [if_pos h]
   have hw0:w64 (0 - g.1)=-g.1:=by rw [xw (by omega) (by omega)];omega
   rw [zA (show ¬ step≥0 by omega),zh,hw0,zo h]
   by_cases hn:step≥-g.1
   · rw [zo hn,zk,hw,Mg (by omega) (by omega) (by omega) (by omega),zb,zo (show xx step < (g.1.toNat:Int) by omega),zL]
     cases p (xx step).toNat <;> rfl
   · rw [zA hn,zh,zA (show ¬ xx step < (g.1.toNat:Int) by omega)];rfl
 · have hx:xx step=step:=by unfold xx;rw [if_neg h]
   have hw1:w64 (g.1 - 1)=g.1 - 1:=xw (by omega) (by omega)
   rw [zo (show step≥0 by omega),zk,hw1,Q2,zb,zb,zo (show (0:Int)≤step by omega),zL,zA h,hx]
   by_cases hn:step≤g.1 - 1
   · rw [zo hn,zk,Mg (by omega) (by omega) (by omega) (by omega),zb,zo (show step < (g.1.toNat:Int) by omega),zL]
     cases p step.toNat <;> rfl
   · rw [zA hn,zh,zA (show ¬ step < (g.1.toNat:Int) by omega)];rfl
theorem KQ {F:Nat} {g:Gr} {p u:Nat→Bool} {step:Int} (hg:yD g=true) (hst:(Lit.int .i64 step).wf=true) (hc:Xu g.1.toNat p step=true) (hF:60≤F) (hG:g.2.length < F) (hs:Sm g.2.length) :
    Z9 F g (zt p g.1.toNat,zt u g.1.toNat) step=some (zt (xi p step) g.1.toNat,zt (spr g (fun j=>!xi p step j) u) g.1.toNat):=by
 have h8:=yl hg
 have hr:=L9.1 hst
 unfold Xu at hc
 simp only [zq,yn] at hc
 have hx0:=KZ (step:=step)
 unfold Z9 XD
 simp only
 rw [zdU (by omega) (by omega),zb]
 by_cases h:step < 0
 · have hw:w64 (-1 - step)=xx step:=by have:=Mp hst;rwa [if_pos h] at this
   rw [zA (show ¬ step≥0 by omega),zh,hw]
   have e:zt (fun j=>p j && !((j:Int) == xx step)) g.1.toNat=zt (xi p step) g.1.toNat:=by
    apply xt
    intro j _
    unfold xi
    rw [if_pos h]
    congr 2
    rw [yM];simp;omega
   rw [e,Qs hg hF hG hs,zb]
 · have hx:xx step=step:=by unfold xx;rw [if_neg h]
   obtain ⟨x,hx2⟩:∃ x:Nat,step=x:=⟨step.toNat,by omega⟩
   rw [zo (show step≥0 by omega),zk]
   have hput:=M7 (F:=F) (n:=g.1.toNat) (x:=x) (p:=p) (by omega) (by omega) (by omega)
   rw [← hx2] at hput
   rw [hput,zb]
   have e:zt (fun j=>p j || j == x) g.1.toNat=zt (xi p step) g.1.toNat:=by
    apply xt
    intro j _
    unfold xi
    rw [if_neg h,hx,hx2,yi]
   rw [e,Qs hg hF hG hs,zb]
def stt (g:Gr) (l:List Int):Nat→(Nat→Bool)×(Nat→Bool)
 | 0=>(fun _=>false,fun j=>decide (j < g.1.toNat))
 | i + 1=>(xi (stt g l i).1 (l.getD i 0),spr g (fun j=>!xi (stt g l i).1 (l.getD i 0) j) (stt g l i).2)
def zaS (g:Gr) (l:List Int) (i:Nat):Bool:=Xu g.1.toNat (stt g l i).1 (l.getD i 0)
def xv (g:Gr) (l:List Int):Bool:=decide (l.length≤40) && w7 (zaS g l) l.length
theorem zdu {g:Gr} (hg:yD g=true) {l:List Int}:∀ i j,(stt g l i).2 j=true→j < g.1.toNat
 | 0,j,h=>by simpa [stt] using h
 | i + 1,j,h=>Q6 hg h
theorem zdj {F:Nat} {g:Gr} (hg:yD g=true) (hF:20≤F):UC F g=some (zt (fun j=>decide (j < g.1.toNat)) g.1.toNat):=by
 have h8:=yl hg
 have hgn:(g.1.toNat:Int)=g.1:=by omega
 have hpow:=w4 g.1.toNat
 have hpl:=Zl (j:=g.1.toNat) (by omega)
 unfold UC
 have hsh:=Zr (j:=g.1.toNat) (by omega)
 rw [hgn] at hsh
 rw [hsh,zb]
 have hw:w64 (((2 ^ g.1.toNat:Nat):Int) - 1)=((2 ^ g.1.toNat - 1:Nat):Int):=by rw [xw (by omega) (by omega)];omega
 have hb:=zkJ (F:=F) (n:=g.1.toNat) (code:=2 ^ g.1.toNat - 1) (by omega) (by omega) (by omega)
 rw [hgn] at hb
 rw [hw,hb,zb]
 congr 1
 apply xt
 intro j _
 rw [Nat.testBit_two_pow_sub_one]
theorem Jz {F:Nat} {g:Gr} {l:List Int} (hg:yD g=true) (hw:∀ x∈l,(Lit.int .i64 x).wf=true) (hF:60≤F) (hG:g.2.length < F) (hl:l.length < F) (hs:Sm g.2.length) (hsl:Sm l.length):wS F g l=some (xv g l):=by
 unfold wS Zg
 rw [zdj hg (by omega),zb,zb]
 simp only
 rw [zfa (L:=fun k i (s:List Int×List Int)=>wT F l g k s.1 s.2 i) (n:=l.length) (fun i s=>s=(zt (stt g l i).1 g.1.toNat,zt (stt g l i).2 g.1.toNat)) (p:=zaS g l) (r:=some (decide (l.length≤40))) (bad:=some false) ?_ ?_ ?_ F ([],zt (fun j=>decide (j < g.1.toNat)) g.1.toNat) hl ?_]
 · unfold xv
   cases w7 (zaS g l) l.length <;> simp
 · intro k i s hi hI hp
   subst hI
   refine ⟨_,rfl,?_⟩
   have hst:=hw _ (vg (d:=0) hi)
   simp only [wT]
   rw [zo (show (i:Int) < (l.length:Int) by omega),zk,zT (d:=0) hi,zb,zbA hg hst (by omega),zb]
   have hp':Xu g.1.toNat (stt g l i).1 (l.getD i 0)=true:=hp
   rw [hp',ye,zh,zb,KQ hg hst hp' hF hG hs,zb,yd hi hsl]
   rfl
 · intro k i s hi hI hp
   subst hI
   have hst:=hw _ (vg (d:=0) hi)
   have hp':Xu g.1.toNat (stt g l i).1 (l.getD i 0)=false:=hp
   simp only [wT]
   rw [zo (show (i:Int) < (l.length:Int) by omega),zk,zT (d:=0) hi,zb,zbA hg hst (by omega),zb,hp',wb,zk]
 · intro k s hI
   simp only [wT]
   rw [zA (show ¬ (l.length:Int) < (l.length:Int) by omega),zh]
   congr 1
   rw [yM];simp;omega
 · simp [stt,zt]
def stI (g:Gr) (l:List Int) (k:Nat):List (Int×Int):=(List.range k).map fun t=>(((mkm (stt g l t).1 g.1.toNat:Nat):Int),((mkm (stt g l t).2 g.1.toNat:Nat):Int))
theorem Zm {g:Gr} {l:List Int} {k:Nat}:(stI g l k).length=k:=by simp [stI]
theorem zjt {g:Gr} {l:List Int} {k:Nat}:stI g l (k + 1)=stI g l k++[(((mkm (stt g l k).1 g.1.toNat:Nat):Int),((mkm (stt g l k).2 g.1.toNat:Nat):Int))]:=by simp [stI,uB]
theorem UE {g:Gr} {l:List Int} {k i:Nat} (h:i < k):(stI g l k).getD i (0,0)=(((mkm (stt g l i).1 g.1.toNat:Nat):Int),((mkm (stt g l i).2 g.1.toNat:Nat):Int)):=by
 simp [stI,zZ,h]
theorem L4 {F:Nat} {g:Gr} {l:List Int} (hg:yD g=true) (hw:∀ x∈l,(Lit.int .i64 x).wf=true) (hF:60≤F) (hsl:Sm l.length):xX F ⟨xQ g⟩ l=some (bif xv g l then (stI g l (l.length + 1),true) else ([],false)):=by
 have h8:=yl hg
 have hpow:=w4 g.1.toNat
 have hpl:=Zl (j:=g.1.toNat) (by omega)
 unfold xX xv
 by_cases hl:l.length≤40
 · rw [zA (show ¬ (l.length:Int) > 40 by omega),zh,zo hl,zL]
   unfold uI
   rw [Zf,Zr (by omega),zb,zb]
   have hw1:w64 (((2 ^ g.1.toNat:Nat):Int) - 1)=((2 ^ g.1.toNat - 1:Nat):Int):=by rw [xw (by omega) (by omega)];omega
   rw [hw1,zfa (L:=fun k i s=>xr F ⟨xQ g⟩ l k s i) (n:=l.length) (fun i s=>s=stI g l (i + 1)) (p:=zaS g l) (r:=some (stI g l (l.length + 1),true)) (bad:=some ([],false)) ?_ ?_ ?_ F _ (by omega) ?_]
   · cases w7 (zaS g l) l.length <;> rfl
   · intro k i s hi hI hp
     subst hI
     refine ⟨_,rfl,?_⟩
     have hst:=hw _ (vg (d:=0) hi)
     obtain ⟨r,h1,h2,h3⟩:=NR (F:=F) (p:=(stt g l i).1) (u:=(stt g l i).2) hg hst (zdu hg i) (by omega)
     have hp':Xu g.1.toNat (stt g l i).1 (l.getD i 0)=true:=hp
     simp only [xr]
     rw [zo (show (i:Int) < (l.length:Int) by omega),zk,zT (d:=0) hi,zb,zT (d:=(0,0)) (by rw [Zm];omega),zb,UE (by omega),h1,zb,h2,hp',ye,zh,h3 hp',u9 (by rw [Zm];omega),zb,yd hi hsl,zjt (k:=i + 1)]
     rfl
   · intro k i s hi hI hp
     subst hI
     have hst:=hw _ (vg (d:=0) hi)
     obtain ⟨r,h1,h2,h3⟩:=NR (F:=F) (p:=(stt g l i).1) (u:=(stt g l i).2) hg hst (zdu hg i) (by omega)
     have hp':Xu g.1.toNat (stt g l i).1 (l.getD i 0)=false:=hp
     simp only [xr]
     rw [zo (show (i:Int) < (l.length:Int) by omega),zk,zT (d:=0) hi,zb,zT (d:=(0,0)) (by rw [Zm];omega),zb,UE (by omega),h1,zb,h2,hp',wb,zk]
   · intro k s hI
     subst hI
     simp only [xr]
     rw [zA (show ¬ (l.length:Int) < (l.length:Int) by omega),zh]
   · have e1:mkm (stt g l 0).1 g.1.toNat=0:=by rw [Kr,Ue];intro j _;rfl
     have e2:mkm (stt g l 0).2 g.1.toNat=2 ^ g.1.toNat - 1:=by
      symm
      refine W4 fun j=>?_
      rw [Nat.testBit_two_pow_sub_one]
      show decide (j < g.1.toNat)=(decide (j < g.1.toNat) && decide (j < g.1.toNat))
      rw [w5]
     show [(0,_)]=stI g l 1
     simp [stI,e1,e2]
 · rw [zo (show (l.length:Int) > 40 by omega),zk,zA hl,wZ];rfl
theorem zdA {F:Nat} {g:Gr} {l:List Int} (hw:∀ x∈l,(Lit.int .i64 x).wf=true) (hl:l.length < F) (hG:g.2.length < F) (hF:60≤F) (hsl:Sm l.length) (hs:Sm g.2.length):uP F g l=some (yD g && xv g l,yD g):=by
 unfold uP
 rw [YF hG hs,zb]
 cases hg:yD g with
 | false=>rfl
 | true=>rw [ye,zh,Jz hg hw hF hG hl hs hsl,zb,zL]
theorem zdC {F:Nat} {g:Gr} {l:List Int} (hw:∀ x∈l,(Lit.int .i64 x).wf=true) (hl:l.length < F) (hG:g.2.length < F) (hF:60≤F) (hsl:Sm l.length) (hs:Sm g.2.length):uT F g l=some (yD g && xv g l,yD g):=by
 unfold uT
 rw [Yj hG (by omega) hs,zb]
 cases hg:yD g with
 | false=>rfl
 | true=>
   rw [ye,zh,WD hg hG hs,zb,L4 hg hw hF hsl,zb,zL]
   cases xv g l <;> rfl
def stS (g:Gr) (l:List Int) (k:Nat):List (List Int×List Int):=(List.range k).map fun t=>(zt (stt g l t).1 g.1.toNat,zt (stt g l t).2 g.1.toNat)
theorem Zt {g:Gr} {l:List Int} {k:Nat}:(stS g l k).length=k:=by simp [stS]
theorem zhM {g:Gr} {l:List Int} {k:Nat}:stS g l (k + 1)=stS g l k++[(zt (stt g l k).1 g.1.toNat,zt (stt g l k).2 g.1.toNat)]:=by simp [stS,uB]
theorem UR {g:Gr} {l:List Int} {k i:Nat} (h:i < k):(stS g l k).getD i ([],[])=(zt (stt g l i).1 g.1.toNat,zt (stt g l i).2 g.1.toNat):=by
 simp [stS,zZ,h]
theorem YM {g:Gr} {l:List Int} (h:xv g l=true):l.length≤40:=by
 unfold xv at h
 simp only [zq,yn] at h
 exact h.1
theorem UG {F:Nat} {g:Gr} {l:List Int} (hg:yD g=true) (hw:∀ x∈l,(Lit.int .i64 x).wf=true) (hp:xv g l=true) (hF:60≤F) (hG:g.2.length < F) (hs:Sm g.2.length):ul F g l=some (stS g l (l.length + 1)):=by
 have h40:=YM hp
 have hall:w7 (zaS g l) l.length=true:=by
  unfold xv at hp
  simp only [zq] at hp
  exact hp.2
 unfold ul Zg
 rw [zdj hg (by omega),zb,zb]
 refine xA (L:=fun k i s=>ut F l g k s i) (n:=l.length) (fun i s=>s=stS g l (i + 1)) ?_ ?_ F _ (by omega) ?_
 · intro k i s hi hI
   subst hI
   refine ⟨_,rfl,?_⟩
   have hst:=hw _ (vg (d:=0) hi)
   have hp':Xu g.1.toNat (stt g l i).1 (l.getD i 0)=true:=y6.1 hall i hi
   simp only [ut]
   rw [zo (show (i:Int) < (l.length:Int) by omega),zk,zT (d:=([],[])) (by rw [Zt];omega),zb,zT (d:=0) hi,zb,UR (by omega),KQ hg hst hp' hF hG hs,zb,u9 (by rw [Zt];omega),zb,yd hi (by unfold Sm;omega),zhM (k:=i + 1)]
   rfl
 · intro k s hI
   subst hI
   simp only [ut]
   rw [zA (show ¬ (l.length:Int) < (l.length:Int) by omega),zh]
 · simp [stS,stt,zt]
def Js (g:Gr) (l:List Int):Bool:=Q8 (stt g l l.length).2 g.1.toNat == none
theorem zcM {p:Nat→Bool} {n:Nat}:yu p n=0↔Q8 p n=none:=by
 rw [Ue]
 constructor
 · intro h j hj
   cases hp:p j with
   | false=>rfl
   | true=>
     have:=QZ (p:=fun _=>false) (q:=p) (n:=n) (by simp) ⟨j,hj,rfl,hp⟩
     omega
 · intro h
   rw [ZW (q:=fun _=>false) h]
   unfold yu
   rw [List.countP_eq_zero];simp
theorem zkt {F:Nat} {g:Gr} {l:List Int} (hw:∀ x∈l,(Lit.int .i64 x).wf=true) (hl:l.length < F) (hG:g.2.length < F) (hF:60≤F) (hsl:Sm l.length) (hs:Sm g.2.length):uc F g l=some (bif yD g && xv g l then (Js g l,true) else (false,false)):=by
 unfold uc
 rw [YF hG hs,zb]
 cases hg:yD g with
 | false=>rfl
 | true=>
   rw [ye,zh,Jz hg hw hF hG hl hs hsl,zb,zL]
   unfold Ze
   cases hp:xv g l with
   | false=>rfl
   | true=>
     rw [ye,zh,zk,UG hg hw hp hF hG hs,zb,zT (d:=([],[])) (by rw [Zt];omega),zb,UR (by omega)]
     congr 2
     unfold Js
     rw [yM]
     simp only [xg,yA]
     rw [← zcM]
     omega
theorem zfi {F:Nat} {g:Gr} {l:List Int} (hw:∀ x∈l,(Lit.int .i64 x).wf=true) (hl:l.length < F) (hG:g.2.length < F) (hF:60≤F) (hsl:Sm l.length) (hs:Sm g.2.length):wK F g l=some (bif yD g && xv g l then (Js g l,true) else (false,false)):=by
 unfold wK wo
 rw [Yj hG (by omega) hs,zb]
 cases hg:yD g with
 | false=>rfl
 | true=>
   rw [ye,zh,WD hg hG hs,zb,L4 hg hw hF hsl,zb,zb,zL]
   cases hp:xv g l with
   | false=>rfl
   | true=>
     have h40:=YM hp
     simp only [zk,ye,zh]
     rw [Zm]
     have hw1:w64 (((l.length + 1:Nat):Int) - 1)=(l.length:Int):=by rw [xw (by omega) (by omega)];omega
     rw [hw1,zT (d:=(0,0)) (by rw [Zm];omega),zb,UE (by omega)]
     congr 2
     unfold Js
     rw [yM]
     simp only [yA]
     rw [← Kr]
     omega
theorem zbH {α:Type} {xs:List α} {i:Nat} (h:i≤xs.length):sub xs 0 (i:Int)=some (xs.take i):=by
 unfold sub
 rw [if_pos ⟨by omega,by omega,by omega⟩]
 simp
def zdk (xs:List (List Int)):Nat→Nat
 | 0=>0
 | i + 1=>zdk xs i + (xs.getD i []).length
theorem Qn {xs:List (List Int)}:∀ {i j:Nat},i≤j→zdk xs i≤zdk xs j
 | i,0,h=>by obtain rfl:i=0:=by omega
             exact yF _
 | i,j + 1,h=>by
   by_cases e:i=j + 1
   · subst e;exact yF _
   · have:=Qn (xs:=xs) (i:=i) (j:=j) (by omega)
     simp only [zdk];omega
theorem zkE {xs:List (List Int)} {i:Nat} (h:i < xs.length):(xs.getD i []).length≤zdk xs xs.length:=by
 have:=Qn (xs:=xs) (i:=i + 1) (j:=xs.length) (by omega)
 simp only [zdk] at this;omega
def KG (v:Int→Int) (s:Option Int) (y:Int):Option Int:=match s with
 | none=>some (v y)
 | some b=>if v y < b then some (v y) else some b
def mnO (v:Int→Int) (l:List Int):Option Int:=l.foldl (KG v) none
def mn (v:Int→Int) (l:List Int) (nn:Int):Int:=(mnO v l).getD nn
theorem zbZ {v:Int→Int} {l:List Int} {y:Int}:mnO v (l++[y])=KG v (mnO v l) y:=by simp [mnO,List.foldl_append]
theorem zdf {v:Int→Int}:∀ {l:List Int},mnO v l=none↔l=[]:=by
 intro l
 constructor
 · intro h
   cases hl:l.reverse with
   | nil=>simpa using hl
   | cons y ys=>
     have:l=ys.reverse++[y]:=by rw [← List.reverse_reverse l,hl];simp
     rw [this,zbZ] at h
     unfold KG at h
     split at h
     · cases h
     · split at h <;> cases h
 · rintro rfl;rfl
theorem zmM {v:Int→Int} {nn:Int}:mn v [] nn=nn:=rfl
theorem zfb {v:Int→Int} {l:List Int} {y nn:Int}:mn v (l++[y]) nn=if l=[]∨v y < mn v l nn then v y else mn v l nn:=by
 unfold mn
 rw [zbZ]
 cases h:mnO v l with
 | none=>
   have:=zdf.1 h
   rw [if_pos (.inl this)];rfl
 | some b=>
   have hne:l≠[]:=fun e=>by rw [zdf.2 e] at h;cases h
   simp only [KG,xa,hne,false_or]
   split <;> rfl
theorem ziJ {v w:Int→Int} {nn:Int} {l:List Int} (h:∀ y∈l,v y=w y):mn v l nn=mn w l nn:=by
 have key:∀ (l:List Int) (s:Option Int),(∀ y∈l,v y=w y)→l.foldl (KG v) s=l.foldl (KG w) s:=by
  intro l
  induction l with
  | nil=>intro s _;rfl
  | cons y l ih=>
    intro s h
    simp only [List.foldl_cons]
    have:KG v s y=KG w s y:=by
     unfold KG
     rw [h y (by simp)]
    rw [this]
    exact ih _ fun z hz=>h z (by simp [hz])
 unfold mn mnO
 rw [key l none h]
theorem zlG {v:Int→Int} {nn t:Int} {l:List Int} (hl:l≠[]):mn v l nn≤t↔∃ y∈l,v y≤t:=by
 have key:∀ (r:List Int),r≠[]→(mn v r.reverse nn≤t↔∃ y∈r,v y≤t):=by
  intro r
  induction r with
  | nil=>intro h;exact absurd rfl h
  | cons y r ih=>
    intro _
    rw [List.reverse_cons,zfb]
    by_cases hr:r=[]
    · subst hr
      simp
    · have hr':r.reverse≠[]:=by simpa using hr
      have:=ih hr
      simp only [hr',false_or,z4,exists_eq_or_imp]
      split
      · rename_i h
        constructor
        · intro h1;exact .inl h1
        · rintro (h1 | h1)
          · exact h1
          · have:=this.2 h1;omega
      · rename_i h
        constructor
        · intro h1;exact .inr (this.1 h1)
        · rintro (h1 | h1)
          · omega
          · exact this.2 h1
 have:=key l.reverse (by simpa using hl)
 simpa using this
theorem zf7 {v:Int→Int} {nn:Int} {l:List Int} (hl:l≠[]) (h:∀ y∈l,0≤v y):0≤mn v l nn:=by
 by_cases h0:mn v l nn≤-1
 · obtain ⟨y,hy,h1⟩:=(zlG hl).1 h0
   have:=h y hy;omega
 · omega
def XJ (n m:Nat):List Int:=zt (fun x=>!m.testBit x) n
theorem Ut {n m:Nat} {y:Int}:y∈XJ n m↔∃ x:Nat,y=x∧x < n∧m.testBit x=false:=by
 unfold XJ
 rw [wA]
 simp
theorem Mk:∀ c:Nat,c < 256→∀ y:Nat,y < 8→c.testBit y=false→c ||| 2 ^ y=c + 2 ^ y:=by decide +kernel
theorem ziV {n m:Nat} (hn:n≤8) (h:m < 2 ^ n):m < 256:=vq h (by
 have:=vx (n:=2) (by decide) hn
 simpa using this)
theorem ze8 {n m x:Nat} (h:m < 2 ^ n) (hx:x < n):m ||| 2 ^ x < 2 ^ n:=Nat.or_lt_two_pow h (Nat.pow_lt_pow_right (by decide) hx)
theorem zjS {n m:Nat} (h:m < 2 ^ n) (hb:∀ x,x < n→m.testBit x=true):m=2 ^ n - 1:=by
 apply wQ
 intro j
 rw [Nat.testBit_two_pow_sub_one]
 by_cases hj:j < n
 · rw [hb j hj,zo hj]
 · rw [zA hj]
   exact Nat.testBit_lt_two_pow (vq h (vx (by decide) (by omega)))
theorem zcc {n m:Nat} (h:m < 2 ^ n):XJ n m=[]↔m=2 ^ n - 1:=by
 constructor
 · intro h0
   refine zjS h fun x hx=>?_
   cases hb:m.testBit x with
   | true=>rfl
   | false=>
     have:(x:Int)∈XJ n m:=Ut.2 ⟨x,rfl,hx,hb⟩
     rw [h0] at this;cases this
 · rintro rfl
   rw [List.eq_nil_iff_forall_not_mem]
   intro y hy
   obtain ⟨x,_,hx,hb⟩:=Ut.1 hy
   rw [Nat.testBit_two_pow_sub_one,zo hx] at hb;cases hb
def zd0 (n:Nat) (c:Nat→Nat→Int) (nn:Int) (T:Nat→Int):Prop:=∀ m,m < 2 ^ n→T m=mn (fun x=>max (c m x.toNat) (T (m ||| 2 ^ x.toNat))) (XJ n m) nn
inductive Ch (n:Nat) (c:Nat→Int) (t:Int):Nat→Nat→Prop
 | refl (m:Nat):Ch n c t m m
 | step {m x m':Nat}:x < n→m.testBit x=false→c (m ||| 2 ^ x)≤t→Ch n c t (m ||| 2 ^ x) m'→Ch n c t m m'
theorem zka {n:Nat} {c:Nat→Int} {t:Int} {a m x:Nat} (h:Ch n c t a m) (hx:x < n) (hb:m.testBit x=false) (hc:c (m ||| 2 ^ x)≤t):Ch n c t a (m ||| 2 ^ x):=by
 induction h with
 | refl m=>exact .step hx hb hc (.refl _)
 | step h1 h2 h3 _ ih=>exact .step h1 h2 h3 (ih hb hc)
theorem zjR {n:Nat} {c:Nat→Int} {t:Int} {T:Nat→Int} (hn:n≤8) (hT:zd0 n (fun m x=>c (m ||| 2 ^ x)) 0 T) (ht:0≤t):∀ m,m < 2 ^ n→(T m≤t↔Ch n c t m (2 ^ n - 1)):=by
 have key:∀ d m,m + d=2 ^ n→m < 2 ^ n→(T m≤t↔Ch n c t m (2 ^ n - 1)):=by
  intro d
  induction d using Nat.strongRecOn with
  | ind d ih=>
    intro m hd hm
    rw [hT m hm]
    by_cases hf:m=2 ^ n - 1
    · rw [(zcc hm).2 hf,zmM]
      subst hf
      exact ⟨fun _=>.refl _,fun _=>ht⟩
    · have hne:XJ n m≠[]:=fun e=>hf ((zcc hm).1 e)
      rw [zlG hne]
      constructor
      · rintro ⟨y,hy,h⟩
        obtain ⟨x,rfl,hx,hb⟩:=Ut.1 hy
        rw [yi] at h
        have h:max (c (m ||| 2 ^ x)) (T (m ||| 2 ^ x))≤t:=h
        have h1:=Mk m (ziV hn hm) x (by omega) hb
        have h2:=ze8 hm hx
        have h3:=w4 x
        exact .step hx hb (by omega) ((ih (2 ^ n - (m ||| 2 ^ x)) (by omega) (m ||| 2 ^ x) (by omega) h2).1 (by omega))
      · intro h
        cases h with
        | refl=>exact absurd rfl hf
        | step hx hb hc h=>
          rename_i x
          have h1:=Mk m (ziV hn hm) x (by omega) hb
          have h2:=ze8 hm hx
          have h3:=w4 x
          refine ⟨(x:Int),Ut.2 ⟨x,rfl,hx,hb⟩,?_⟩
          rw [yi]
          have:=(ih (2 ^ n - (m ||| 2 ^ x)) (by omega) (m ||| 2 ^ x) (by omega) h2).2 h
          exact Int.max_le.2 ⟨hc,this⟩
 intro m hm
 exact key (2 ^ n - m) m (by omega) hm
def frt (g:Gr) (p:Nat→Bool) (j:Nat):Bool:=p j && ve (fun y=>adj g j y && !p y) g.1.toNat
theorem zgN {F:Nat} {g:Gr} {p:Nat→Bool} (hg:yD g=true) (hF:20≤F):ZC F ⟨xQ g⟩ ((mkm p g.1.toNat:Nat):Int)=some ((mkm (frt g p) g.1.toNat:Nat):Int):=by
 have h8:=yl hg
 have hp8:(zt p g.1.toNat).length≤8:=by rw [xg];exact xI uX (by omega)
 unfold ZC
 rw [KD (by omega) hF,zb]
 refine xA (L:=fun k i s=>xN F ((mkm p g.1.toNat:Nat):Int) ⟨xQ g⟩ (zt p g.1.toNat) k s i) (n:=(zt p g.1.toNat).length) (fun i s=>s=((mkm (fun j=>decide ((j:Int)∈(zt p g.1.toNat).take i) && ve (fun y=>adj g j y && !p y) g.1.toNat) g.1.toNat:Nat):Int)) ?_ ?_ F _ (by omega) ?_
 · intro k i s hi hI
   subst hI
   refine ⟨_,rfl,?_⟩
   obtain ⟨a,ha,han,hap⟩:=vU hi
   simp only [xN,Zw]
   rw [zo (show (i:Int) < ((zt p g.1.toNat).length:Int) by omega),zk,zT (d:=0) hi,zb,ha,zT (d:=0) (by rw [Zf];exact han),zb,JG han,Zr (by omega),zb,yd hi (by unfold Sm;omega)]
   obtain ⟨c,hc,_,hb⟩:=YO (ww (p:=adj g a) (n:=g.1.toNat) (by omega)) (ww (p:=p) (n:=g.1.toNat) (by omega))
   rw [hc]
   have hiff:c=0↔ve (fun y=>adj g a y && !p y) g.1.toNat=false:=by
    rw [Ko,Bool.not_eq_false',y6]
    constructor
    · intro h0 y hy
      have:=hb y
      rw [h0,xH,yh,yh,zo hy,zL,zL] at this
      rw [← this];rfl
    · intro h
      apply wQ
      intro y
      rw [hb,yh,yh,xH]
      by_cases hy:y < g.1.toNat
      · have:=h y hy
        rw [zo hy,zL,zL]
        cases h6:(adj g a y && !p y) with
        | false=>rfl
        | true=>rw [h6] at this;cases this
      · rw [zA hy];rfl
   have hset:∀ b:Bool,ve (fun y=>adj g a y && !p y) g.1.toNat=b→∀ j:Nat,(decide ((j:Int)∈(zt p g.1.toNat).take (i + 1)) && ve (fun y=>adj g j y && !p y) g.1.toNat)=((decide ((j:Int)∈(zt p g.1.toNat).take i) && ve (fun y=>adj g j y && !p y) g.1.toNat) || (b && j == a)):=by
    intro b hbb j
    have hp2:=Wz (x:=a) hi ha j
    unfold xj at hp2
    rw [hp2]
    by_cases e:j=a
    · subst e
      rw [hbb,beq_self_eq_true,Bool.or_true,zL,Bool.and_true]
      cases b <;> simp
    · have:(j == a)=false:=by simpa using e
      rw [this,YC,wy,wy]
   cases hany:ve (fun y=>adj g a y && !p y) g.1.toNat with
   | false=>
     rw [hiff.2 hany]
     have:mkm (fun j=>decide ((j:Int)∈(zt p g.1.toNat).take (i + 1)) && ve (fun y=>adj g j y && !p y) g.1.toNat) g.1.toNat=mkm (fun j=>decide ((j:Int)∈(zt p g.1.toNat).take i) && ve (fun y=>adj g j y && !p y) g.1.toNat) g.1.toNat:=by
      apply wD
      intro j _
      rw [hset false hany j];simp
     rw [this];rfl
   | true=>
     have hne:c≠0:=fun e=>by rw [hiff.1 e] at hany;cases hany
     have hne2:((c:Int) != 0)=true:=by simpa using hne
     rw [hne2,zk,XW (ww (by omega)) (Zl (by omega))]
     congr 2
     refine W4 fun j=>?_
     rw [ZN,yh,Z2,hset true hany j,zL]
     by_cases e:j=a
     · subst e
       rw [zo han];simp
     · have e1:(j == a)=false:=by simpa using e
       rw [e1,zA (show ¬ a=j by omega),wy,wy]
 · intro k s hI
   subst hI
   simp only [xN]
   rw [zA (show ¬ ((zt p g.1.toNat).length:Int) < ((zt p g.1.toNat).length:Int) by omega),zh]
   congr 2
   apply wD
   intro j hj
   rw [List.take_length]
   unfold frt
   congr 1
   rw [yM,yn,wA]
   constructor
   · rintro ⟨j',e,_,h⟩
     obtain rfl:j=j':=by omega
     exact h
   · exact fun h=>⟨j,rfl,hj,h⟩
 · have:mkm (fun j=>decide ((j:Int)∈(zt p g.1.toNat).take 0) && ve (fun y=>adj g j y && !p y) g.1.toNat) g.1.toNat=0:=by
    rw [Kr,Ue]
    intro j _
    simp
   rw [this];rfl
def frC (g:Gr) (m:Nat):Int:=(yu (frt g m.testBit) g.1.toNat:Int)
theorem zdh {g:Gr} {m:Nat}:0≤frC g m:=by unfold frC;omega
theorem zgQ {n m:Nat} (h:m < 2 ^ n):mkm m.testBit n=m:=by
 symm
 refine W4 fun j=>?_
 by_cases hj:j < n
 · rw [zo hj,zL]
 · rw [zA hj,wZ]
   exact Nat.testBit_lt_two_pow (vq h (vx (by decide) (by omega)))
theorem Ku {F:Nat} {g:Gr} {m x:Nat} (hg:yD g=true) (hF:20≤F) (hm:m < 2 ^ g.1.toNat) (hx:x < g.1.toNat):xE F ⟨xQ g⟩ (m:Int) (x:Int)=some (frC g (m ||| 2 ^ x)):=by
 have h8:=yl hg
 have h256:=ziV (by omega) hm
 unfold xE
 rw [Zr (by omega),zb,XW (by omega) (Zl (by omega))]
 have hf:=zgN (F:=F) (p:=(m ||| 2 ^ x).testBit) hg hF
 rw [zgQ (ze8 hm hx)] at hf
 rw [hf,zb,zfU (zfq (by omega)),zb,zcQ (by omega)]
 rfl
def frP (g:Gr) (m x:Nat):Int:=frC g (m ||| 2 ^ x)
theorem zdV {F:Nat} {g:Gr} {m x:Nat} (hg:yD g=true) (hF:20≤F) (hm:m < 2 ^ g.1.toNat) (hx:x < g.1.toNat):xE F ⟨xQ g⟩ (m:Int) (x:Int)=some (frP g m x):=Ku hg hF hm hx
structure Bg (F:Nat) (bags:List (List Int)):Prop where
 len:bags.length≤1048576
 each:∀ x∈bags,x.length≤1048576
 fuel:1048577≤F
theorem Bg.at {F:Nat} {bags:List (List Int)} (h:Bg F bags) {i:Nat} (hi:i < bags.length):(bags.getD i []).length≤1048576:=h.each _ (vg hi)
theorem Bg.of {F:Nat} {bags:List (List Int)} (h:bags.length + zdk bags bags.length≤1048576) (hF:1048577≤F):Bg F bags:=by
 refine ⟨by omega,fun x hx=>?_,hF⟩
 obtain ⟨i,hi,e⟩:=Yb.1 hx
 have:=zkE hi
 rw [zZ,yL hi,xa,e] at this
 omega
def bq (l:List Int) (j:Nat):Bool:=decide ((j:Int)∈l)
theorem Je {α β:Type} {f:α→β} {t:Bool} {a b:Option α}:(bif t then a else b).map f=bif t then a.map f else b.map f:=by cases t <;> rfl
theorem Y7 {p:Nat→Bool} {n:Nat}:(zt p n).length≤n:=by rw [xg];exact uX
def WY (g:Gr) (l:List Int) (n:Nat):List Int:=(List.range n).map fun (i:Nat)=>((yu (frt g (xj l (i + 1))) g.1.toNat:Nat):Int)
theorem NO {g:Gr} {l:List Int} {n:Nat}:WY g l (n + 1)=WY g l n++[((yu (frt g (xj l (n + 1))) g.1.toNat:Nat):Int)]:=by simp [WY,uB]
theorem Kw {g:Gr} {l:List Int} {n:Nat}:(WY g l n).length=n:=by simp [WY]
theorem Ug {n:Int} {l:List Int} (h:uM n l=true) (h0:0≤n):∀ y∈l,0≤y∧y < n:=by
 have hl:=Yv h
 have:=(JB n.toNat l (fun j hj=>K1 h (by omega) (by omega))).2 (by omega)
 intro y hy
 have:=this y hy
 omega
theorem MS {F:Nat} {g:Gr} {l:List Int} (hg:yD g=true) (hr:∀ y∈l,0≤y∧y < g.1) (hlen:l.length≤8) (hF:20≤F) (hG:g.2.length < F) (hs:Sm g.2.length):Yy F g l=some (zt (frt g (bq l)) g.1.toNat):=by
 have h8:=yl hg
 let Q:Nat→Nat→Bool:=fun i j=>decide ((j:Int)∈l.take i) && ve (fun y=>adj g j y && !bq l y) g.1.toNat
 unfold Yy
 refine xA (L:=fun k i s=>vh F l g k s i) (n:=l.length) (fun i s=>s=zt (Q i) g.1.toNat) ?_ ?_ F _ (by omega) ?_
 · intro k i s hi hI
   subst hI
   refine ⟨_,rfl,?_⟩
   obtain ⟨a,ha,han⟩:∃ a:Nat,l.getD i 0=a∧a < g.1.toNat:=by
    have:=hr _ (vg (d:=0) hi)
    exact ⟨(l.getD i 0).toNat,by omega,by omega⟩
   simp only [vh]
   rw [zo (show (i:Int) < (l.length:Int) by omega),zk]
   refine xA (L:=fun k2 y s=>wJ F l g (i:Int) (vh F l g k) k2 s y) (n:=g.1.toNat) (fun y s=>s=zt (fun j=>Q i j || (j == a && ve (fun y=>adj g a y && !bq l y) y)) g.1.toNat) ?_ ?_ F _ (by omega) ?_
   · intro k2 y s hy hI
     subst hI
     refine ⟨_,rfl,?_⟩
     simp only [wJ,Y1,YZ]
     rw [zo (show (y:Int) < g.1 by omega),zk,zT (d:=0) hi,zb,zb,ha,Ma hG hs,zb,M9 (by omega) (by unfold Sm;omega),show decide ((y:Int)∈l)=bq l y from rfl,zb,M7 (by omega) han (by omega),zb,yd hy (by unfold Sm;omega)]
     have hsame:(adj g a y && !bq l y)=false→zt (fun j=>Q i j || (j == a && ve (fun y=>adj g a y && !bq l y) (y + 1))) g.1.toNat=zt (fun j=>Q i j || (j == a && ve (fun y=>adj g a y && !bq l y) y)) g.1.toNat:=by
      intro h
      apply xt
      intro j _
      simp only [ve]
      rw [h,wy]
     cases h1:adj g a y with
     | false=>rw [hsame (by rw [h1];rfl)];rfl
     | true=>
       rw [zk]
       cases h2:bq l y with
       | true=>rw [hsame (by rw [h1,h2];rfl)];rfl
       | false=>
         rw [wb,zk]
         congr 1
         apply xt
         intro j _
         simp only [ve]
         rw [h1,h2]
         by_cases e:j=a
         · subst e;simp
         · have:(j == a)=false:=by simpa using e
           rw [this];simp
   · intro k2 s hI
     subst hI
     simp only [wJ]
     rw [zA (show ¬ (g.1.toNat:Int) < g.1 by omega),zh,yd hi (by unfold Sm;omega)]
     congr 1
     apply xt
     intro j _
     have hp2:=Wz (x:=a) hi ha j
     unfold xj at hp2
     show (Q i j || _)=Q (i + 1) j
     show (Q i j || _)=(decide ((j:Int)∈l.take (i + 1)) && ve (fun y=>adj g j y && !bq l y) g.1.toNat)
     rw [hp2]
     by_cases e:j=a
     · subst e
       rw [beq_self_eq_true,zL,Bool.or_true,zL]
       show ((_ && ve (fun y=>adj g j y && !bq l y) g.1.toNat) || _)=_
       cases ve (fun y=>adj g j y && !bq l y) g.1.toNat <;> simp
     · have:(j == a)=false:=by simpa using e
       rw [this,wZ,wy,wy]
   · apply xt
     intro j _
     simp [ve]
 · intro k s hI
   subst hI
   simp only [vh]
   rw [zA (show ¬ (l.length:Int) < (l.length:Int) by omega),zh]
   congr 1
   apply xt
   intro j hj
   show (decide ((j:Int)∈l.take l.length) && _)=_
   rw [List.take_length]
   rfl
 · have:zt (Q 0) g.1.toNat=zt (fun _=>false) g.1.toNat:=by
    apply xt
    intro j _
    show (decide ((j:Int)∈l.take 0) && _)=false
    simp
   rw [this];simp [zt]
theorem zf4 {l:List Int} {i:Nat}:bq (l.take i)=xj l i:=rfl
theorem zkk {F:Nat} {g:Gr} {l:List Int} (hg:yD g=true) (ho:uM g.1 l=true) (hF:20≤F) (hG:g.2.length < F) (hs:Sm g.2.length):vM F l g F [] 1=some (WY g l l.length,true):=by
 have h8:=yl hg
 have hlen:=Yv ho
 have hr:=Ug ho h8.1
 have:=xA (L:=fun k i s=>vM F l g k s (i + 1)) (n:=l.length) (r:=some (WY g l l.length,true)) (fun i s=>s=WY g l i) (by
  rintro k i s hi rfl
  refine ⟨_,rfl,?_⟩
  simp only [vM]
  have e:(i:Int) + 1=((i + 1:Nat):Int):=by omega
  rw [zo (show (i:Int) + 1≤(l.length:Int) by omega),zk,e,zbH (by omega),zb,MS hg (fun y hy=>hr y (List.mem_of_mem_take hy)) (by simp;omega) hF hG hs,zb,u9 (by rw [Kw];omega),zb,NO,zf4,xg,xw (by omega) (by omega)]) (by
  rintro k s rfl
  simp only [vM]
  rw [zA (show ¬ (l.length:Int) + 1≤(l.length:Int) by omega),zh]) F [] (by omega) rfl
 simpa using this
theorem zj8 {F:Nat} {g:Gr} {l:List Int} (hg:yD g=true) (ho:uM g.1 l=true) (hF:20≤F):∀ ys:List Int,ys.length=l.length→xL F ⟨xQ g⟩ l F ys 0 0=some (.of (WY g l l.length),true):=by
 intro ys hys
 have h8:=yl hg
 have hlen:=Yv ho
 have hr:=Ug ho h8.1
 refine xA (L:=fun k t (s:List Int×Int)=>xL F ⟨xQ g⟩ l k s.1 s.2 t) (n:=l.length) (fun t s=>s.1.length=l.length∧s.1.take t=WY g l t∧s.2=((mkm (xj l t) g.1.toNat:Nat):Int)) ?_ ?_ F (ys,0) (by omega) ⟨hys,by simp [WY],?_⟩
 · rintro k t ⟨zs,m⟩ ht ⟨h1,h2,h3⟩
   simp only at h1 h2 h3
   subst h3
   have hy:=hr _ (vg (d:=0) ht)
   obtain ⟨x,hx⟩:∃ x:Nat,l.getD t 0=x:=⟨(l.getD t 0).toNat,by omega⟩
   simp only [xL]
   have hor:mkm (xj l t) g.1.toNat ||| 2 ^ x=mkm (xj l (t + 1)) g.1.toNat:=by
    refine W4 fun j=>?_
    rw [ZN,yh,Z2,Wz ht hx]
    by_cases e:x=j
    · subst e
      have:decide (x < g.1.toNat)=true:=zo (by omega)
      rw [this];simp
    · have h1:decide (x=j)=false:=by simpa using e
      have h2:(j == x)=false:=by simp;omega
      rw [h1,h2];simp
   rw [zo (show (t:Int) < l.length by omega),zk,zT (d:=0) ht,zb,hx,Ku hg hF Kf (by omega),zb,UN (by omega),zb,Zr (by omega),zb,yd ht (by unfold Sm;omega),XW (ww (by omega)) (Zl (by omega)),hor]
   refine ⟨(_,_),⟨by simp [h1],?_,rfl⟩,rfl⟩
   show (List.set zs _ _).take (t + 1)=_
   rw [yi,List.take_add_one,List.take_set_of_le (yF _),h2,NO]
   congr 1
   simp only [List.getElem?_set_self (show t < zs.length by omega),Option.toList_some]
   unfold frC
   refine congrArg (fun z:Nat=>[((z:Nat):Int)]) (ZW fun j hj=>?_)
   unfold frt
   have hb:∀ y,y < g.1.toNat→(mkm (xj l (t + 1)) g.1.toNat).testBit y=xj l (t + 1) y:=by
    intro y hy;rw [yh,zo hy,zL]
   rw [hb j hj]
   congr 1
   refine MQ fun y hy=>?_
   rw [hb y hy]
 · rintro k ⟨zs,m⟩ ⟨h1,h2,h3⟩
   simp only [xL]
   rw [zA (show ¬ (l.length:Int) < l.length by omega),zh]
   simp only at h1 h2
   rw [List.take_of_length_le (by omega)] at h2
   rw [h2]
 · show (0:Int)=_
   have:mkm (xj l 0) g.1.toNat=0:=by
    rw [wD (q:=fun _=>false) (fun j _=>by simp [xj])]
    apply wQ;intro j;rw [yh];simp
   rw [this];rfl
theorem ziS {g:Gr} {a n:Nat} {p:Nat→Bool} (hn:n≤8):(yS .i64 ((mkm (adj g a) n:Nat):Int) ((mkm p n:Nat):Int) == 0)=!ve (fun y=>adj g a y && !p y) n:=by
 obtain ⟨c,hc,_,hb⟩:=YO (ww (p:=adj g a) (n:=n) (by omega)) (ww (p:=p) (n:=n) (by omega))
 rw [hc]
 have hiff:c=0↔ve (fun y=>adj g a y && !p y) n=false:=by
  rw [Ko,Bool.not_eq_false',y6]
  constructor
  · intro h0 y hy
    have:=hb y
    rw [h0,xH,yh,yh,zo hy,zL,zL] at this
    rw [← this];rfl
  · intro h
    apply wQ
    intro y
    rw [hb,yh,yh,xH]
    by_cases hy:y < n
    · have:=h y hy
      rw [zo hy,zL,zL]
      cases h6:(adj g a y && !p y) with
      | false=>rfl
      | true=>rw [h6] at this;cases this
    · rw [zA hy];rfl
 cases h:ve (fun y=>adj g a y && !p y) n with
 | false=>rw [hiff.2 h];rfl
 | true=>
   have hne:c≠0:=fun e=>by rw [hiff.1 e] at h;cases h
   simpa using hne
theorem zhu {A:Nat→Bool} {n a:Nat} (hn:n≤8) (ha:a < n):yS .i64 ((mkm A n:Nat):Int) ((2 ^ a:Nat):Int)=((mkm (fun j=>A j && !(j == a)) n:Nat):Int):=by
 obtain ⟨c,hc,_,hb⟩:=YO (ww (p:=A) (n:=n) (by omega)) (Zl (j:=a) (by omega))
 rw [hc]
 congr 1
 apply wQ
 intro j
 rw [hb,yh,yh,Z2]
 by_cases e:j=a
 · subst e;simp
 · have e1:(j == a)=false:=by simpa using e
   rw [e1,zA (show ¬ a=j by omega)]
   simp
theorem XT {A B:Nat→Bool}:∀ n,(zt A n).filter (fun y=>B y.toNat)=zt (fun j=>A j && B j) n
 | 0=>rfl
 | n + 1=>by
   rw [Yl,Yl,List.filter_append,XT n]
   congr 1
   cases h:A n
   · rfl
   · simp only [zL,if_true,List.filter_cons,List.filter_nil,yi]
def zaQ (A B:Nat→Bool) (n:Nat):List Int:=(zt (fun j=>A j && !B j) n).map fun y=>-1 - y
theorem zhT {A B:Nat→Bool} {n:Nat}:(zaQ A B n).length≤n:=by rw [zaQ,Zk];exact Y7
theorem zf3 {l:List Int} {k a:Nat} (hk:k < l.length) (ha:l.getD k 0=(a:Int)):l.take (k + 1)=l.take k++[(a:Int)]:=by
 rw [List.take_add_one]
 rw [zZ,yL hk] at ha
 simp only [xa] at ha
 rw [yL hk,ha];rfl
theorem znd {F n i:Nat} {g:Gr} {A B:Nat→Bool} {lay out0:List Int} {c1:List Int→List Int→Int→Option (List Int×Bool)} (hF:20≤F) (hn:n≤8) (ho:out0.length≤1000) :
    yI F lay g (zt A n) (i:Int) (zt B n) c1 F out0 [] 0=c1 (out0++zaQ A B n) (zt (fun j=>A j && B j) n) (w64 ((i:Int) + 1)):=by
 have h8:=Y7 (p:=A) (n:=n)
 refine xA (L:=fun k t (s:List Int×List Int)=>yI F lay g (zt A n) (i:Int) (zt B n) c1 k s.1 s.2 t) (n:=(zt A n).length) (fun k s=>s=(out0++(((zt A n).take k).filter (fun y=>!B y.toNat)).map (fun y=>-1 - y),((zt A n).take k).filter (fun y=>B y.toNat))) ?_ ?_ F (out0,[]) (by omega) (by simp)
 · rintro k t s ht rfl
   obtain ⟨a,ha,han,hap⟩:=vU ht
   refine ⟨_,rfl,?_⟩
   have hl1:=List.length_filter_le (fun y:Int=>!B y.toNat) ((zt A n).take t)
   have hl2:=List.length_filter_le (fun y:Int=>B y.toNat) ((zt A n).take t)
   have hl3:((zt A n).take t).length≤8:=by simp;omega
   simp only [yI,wX]
   rw [zo (show (t:Int) < ((zt A n).length:Int) by omega),zk,zT (d:=0) ht,zb,ha,YG hn han hF,zb,yd ht (by unfold Sm;omega),zf3 ht ha,List.filter_append,List.filter_append]
   cases hB:B a with
   | true=>
     rw [zk,zb,u9 (by omega),zb]
     simp [List.filter_cons,hB]
   | false=>
     rw [zh,zb,u9 (by rw [uA,Zk];omega),zb,xw (x:=-1 - (a:Int)) (by omega) (by omega)]
     simp [List.filter_cons,hB]
 · rintro k s rfl
   simp only [yI]
   rw [zA (show ¬ ((zt A n).length:Int) < ((zt A n).length:Int) by omega),zh,List.take_length,XT]
   have:=XT (A:=A) (B:=fun j=>!B j) n
   rw [this];rfl
theorem zmq {F i:Nat} {g:Gr} {A P:Nat→Bool} {lay prog0:List Int} {had q:Int} {c1:NL Int→Int→Int→Int→Option (NL Int×Bool)} (hg:yD g=true) (hF:20≤F) (ho:prog0.length≤1000)
    (hhad:ior .i64 had q=((mkm P g.1.toNat:Nat):Int)) (hAP:∀ j,A j=true→P j=true) :
    yP F ⟨xQ g⟩ had q lay (i:Int) (zt A g.1.toNat) c1 F prog0 ((mkm A g.1.toNat:Nat):Int) 0=c1 (.of (prog0++zaQ A (frt g P) g.1.toNat)) ((mkm P g.1.toNat:Nat):Int) ((mkm (fun j=>A j && frt g P j) g.1.toNat:Nat):Int) (w64 ((i:Int) + 1)):=by
 have h8:=yl hg
 obtain ⟨n,hn⟩:∃ n:Nat,g.1.toNat=n:=⟨_,rfl⟩
 have hn8:n≤8:=by omega
 rw [hn] at hhad ⊢
 have h8':=Y7 (p:=A) (n:=n)
 refine xA (L:=fun k t (s:List Int×Int)=>yP F ⟨xQ g⟩ had q lay (i:Int) (zt A n) c1 k s.1 s.2 t) (n:=(zt A n).length) (fun k s=>s=(prog0++(((zt A n).take k).filter (fun y=>!frt g P y.toNat)).map (fun y=>-1 - y),((mkm (fun j=>A j && (frt g P j || !decide ((j:Int)∈(zt A n).take k))) n:Nat):Int))) ?_ ?_ F (prog0,_) (by omega) ?_
 · rintro k t s ht rfl
   obtain ⟨a,ha,han,hap⟩:=vU ht
   refine ⟨_,rfl,?_⟩
   have hl1:=List.length_filter_le (fun y:Int=>!frt g P y.toNat) ((zt A n).take t)
   have hl3:((zt A n).take t).length≤8:=by simp;omega
   have hf:frt g P a=ve (fun y=>adj g a y && !P y) n:=by unfold frt;rw [hAP a hap,zL,hn]
   have hmem:∀ j:Nat,decide ((j:Int)∈(zt A n).take (t + 1))=(decide ((j:Int)∈(zt A n).take t) || j == a):=by
    intro j
    have hp2:=Wz (x:=a) ht ha j
    unfold xj at hp2
    exact hp2
   simp only [yP,vl]
   rw [zo (show (t:Int) < ((zt A n).length:Int) by omega),zk,zT (d:=0) ht,zb,ha,zT (d:=0) (by rw [Zf,hn];exact han),zb,JG (by rw [hn];exact han),hn,hhad,ziS (by omega),← hf,yd ht (by unfold Sm;omega),zf3 ht ha,List.filter_append]
   cases hB:frt g P a with
   | true=>
     rw [ye,zh]
     have:mkm (fun j=>A j && (frt g P j || !decide ((j:Int)∈(zt A n).take t++[(a:Int)]))) n=mkm (fun j=>A j && (frt g P j || !decide ((j:Int)∈(zt A n).take t))) n:=by
      apply wD
      intro j _
      rw [← zf3 ht ha,hmem]
      by_cases e:j=a
      · subst e;rw [hB];simp
      · have:(j == a)=false:=by simpa using e
        rw [this,wy]
     rw [this]
     simp [List.filter_cons,hB]
   | false=>
     rw [wb,zk,u9 (by rw [uA,Zk];omega),zb,Zr (by omega),zb,zhu (by omega) han,xw (x:=-1 - (a:Int)) (by omega) (by omega)]
     have:mkm (fun j=>A j && (frt g P j || !decide ((j:Int)∈(zt A n).take t++[(a:Int)]))) n=mkm (fun j=>(A j && (frt g P j || !decide ((j:Int)∈(zt A n).take t))) && !(j == a)) n:=by
      apply wD
      intro j _
      rw [← zf3 ht ha,hmem]
      by_cases e:j=a
      · subst e;rw [hB];simp
      · have:(j == a)=false:=by simpa using e
        rw [this,wy,wb,Bool.and_true]
     rw [this]
     simp [List.filter_cons,hB]
 · rintro k s rfl
   simp only [yP]
   rw [zA (show ¬ ((zt A n).length:Int) < ((zt A n).length:Int) by omega),zh,List.take_length,hhad]
   have:=XT (A:=A) (B:=fun j=>!frt g P j) n
   rw [this]
   have:mkm (fun j=>A j && (frt g P j || !decide ((j:Int)∈zt A n))) n=mkm (fun j=>A j && frt g P j) n:=by
    apply wD
    intro j hj
    cases hA:A j with
    | false=>rfl
    | true=>
      have:decide ((j:Int)∈zt A n)=true:=zo (wA.2 ⟨j,rfl,hj,hA⟩)
      rw [this];simp
   rw [this];rfl
 · have:mkm A n=mkm (fun j=>A j && (frt g P j || !decide ((j:Int)∈(zt A n).take 0))) n:=by
    apply wD
    intro j _
    simp
   rw [← this];simp
def Jy (g:Gr) (l:List Int):Nat→Nat→Bool
 | 0=>fun _=>false
 | i + 1=>fun j=>(Jy g l i j || j == (l.getD i 0).toNat) && frt g (xj l (i + 1)) j
def YQ (g:Gr) (l:List Int):Nat→List Int
 | 0=>[]
 | i + 1=>YQ g l i++[l.getD i 0]++zaQ (fun j=>Jy g l i j || j == (l.getD i 0).toNat) (frt g (xj l (i + 1))) g.1.toNat
theorem zcE {g:Gr} {l:List Int} (hn:g.1.toNat≤8):∀ i,(YQ g l i).length≤9 * i
 | 0=>by simp [YQ]
 | i + 1=>by
   have:=zcE (l:=l) hn i
   have h2:=zhT (A:=fun j=>Jy g l i j || j == (l.getD i 0).toNat) (B:=frt g (xj l (i + 1))) (n:=g.1.toNat)
   simp only [YQ,uA,List.length_singleton]
   omega
theorem zhe {g:Gr} {l:List Int}:∀ i,i≤l.length→(∀ y∈l,0≤y)→∀ j,Jy g l i j=true→xj l i j=true
 | 0,_,_,j,h=>by simp [Jy] at h
 | i + 1,hi,hr,j,h=>by
   simp only [Jy,zq] at h
   have h2:=h.2
   unfold frt at h2
   simp only [zq] at h2
   exact h2.1
theorem Ki {F:Nat} {g:Gr} {l:List Int} (hF:l.length < F) (hG:g.2.length < F) (h9:20≤F) (hl:Sm l.length) (hs:Sm g.2.length) :
    ∃ R b o,yY F g l=some (R,b)∧uz F g l=some (o,b)∧o.list=R∧R.length≤80∧b=(yD g && uM g.1 l)∧(b=true→R=YQ g l l.length):=by
 unfold yY uz ZD
 rw [YF hG hs,Yj hG (by omega) hs,zb,zb]
 cases h:yD g with
 | false=>exact ⟨[],false,.nil,rfl,rfl,rfl,by simp,rfl,fun h=>by cases h⟩
 | true=>
   have h8:=yl h
   simp only [ye,zh]
   rw [Qp h8.1 h8.2 hF (by omega) hl,Nc h8.1 h8.2 hF hl]
   cases ho:uM g.1 l with
   | false=>exact ⟨[],false,.nil,rfl,rfl,rfl,by simp,rfl,fun h=>by cases h⟩
   | true=>
     have hlen:=Yv ho
     have hr:=Ug ho h8.1
     have hp:=zcE (g:=g) (l:=l) (by omega)
     have key:∀ t,t < l.length→∃ x:Nat,l.getD t 0=x∧x < g.1.toNat:=by
      intro t ht
      have:=hr _ (vg (d:=0) ht)
      exact ⟨(l.getD t 0).toNat,by omega,by omega⟩
     have hS:y5 F l g F [] [] 0=some (YQ g l l.length,true):=by
      refine xA (L:=fun k t (s:List Int×List Int)=>y5 F l g k s.1 s.2 t) (n:=l.length) (fun t s=>s=(YQ g l t,zt (Jy g l t) g.1.toNat)) ?_ ?_ F ([],[]) hF ?_
      · rintro k t s ht rfl
        obtain ⟨x,hx,hxn⟩:=key t ht
        refine ⟨_,rfl,?_⟩
        have hpt:=hp t
        simp only [y5]
        have e:w64 ((t:Int) + 1)=((t + 1:Nat):Int):=yd ht (by unfold Sm;omega)
        rw [zo (show (t:Int) < l.length by omega),zk,zT (d:=0) ht,zb,u9 (by omega),zb,zb,hx,M7 (by omega) hxn h9,zb,e,zbH (by omega),zb,MS h (fun y hy=>hr y (List.mem_of_mem_take hy)) (by simp;omega) h9 hG hs,zb,znd h9 (by omega) (by simp;omega),e]
        simp only [YQ,Jy,hx,yi,zf4]
      · rintro k s rfl
        simp only [y5]
        rw [zA (show ¬ (l.length:Int) < l.length by omega),zh]
      · have:zt (Jy g l 0) g.1.toNat=[]:=by
         have:∀ n,zt (fun _=>false) n=[]:=by
          intro n
          induction n with
          | zero=>rfl
          | succ n ih=>rw [Yl,ih];rfl
         exact this _
        rw [this];rfl
     have hI:y4 F ⟨xQ g⟩ l F .nil 0 0 0=some (if l.length=0 then .nil else .of (YQ g l l.length),true):=by
      refine xA (L:=fun k t (s:NL Int×Int×Int)=>y4 F ⟨xQ g⟩ l k s.1 s.2.1 s.2.2 t) (n:=l.length) (fun t s=>s=((if t=0 then .nil else .of (YQ g l t)),((mkm (xj l t) g.1.toNat:Nat):Int),((mkm (Jy g l t) g.1.toNat:Nat):Int))) ?_ ?_ F (.nil,0,0) hF ?_
      · rintro k t s ht rfl
        obtain ⟨x,hx,hxn⟩:=key t ht
        refine ⟨_,rfl,?_⟩
        have hpt:=hp t
        have hlist:((if t=0 then .nil else .of (YQ g l t)):NL Int).list=YQ g l t:=by
         split
         · rename_i e;subst e;rfl
         · rfl
        have hor:∀ A:Nat→Bool,ior .i64 ((mkm A g.1.toNat:Nat):Int) ((2 ^ x:Nat):Int)=((mkm (fun j=>A j || j == x) g.1.toNat:Nat):Int):=by
         intro A
         rw [XW (ww (by omega)) (Zl (by omega))]
         congr 1
         refine W4 fun j=>?_
         rw [ZN,yh,Z2]
         by_cases e:x=j
         · subst e
           have:decide (x < g.1.toNat)=true:=zo (by omega)
           rw [this];simp
         · have h1:decide (x=j)=false:=by simpa using e
           have h2:(j == x)=false:=by simp;omega
           rw [h1,h2];simp
        have hpre:(fun j=>xj l t j || j == x)=xj l (t + 1):=by funext j;rw [Wz ht hx]
        have e:w64 ((t:Int) + 1)=((t + 1:Nat):Int):=yd ht (by unfold Sm;omega)
        simp only [y4]
        rw [zo (show (t:Int) < l.length by omega),zk,zT (d:=0) ht,zb,hlist,u9 (by omega),zb,hx,Zr (by omega),zb,zb,hor,KD (by omega) h9,zb]
        rw [zmq (P:=xj l (t + 1)) h h9 (by simp;omega) (by rw [hor,hpre]) ?_,e]
        · simp only [YQ,Jy,hx,yi,Nat.add_one_ne_zero,if_false]
        · intro j hj
          rw [← hpre]
          simp only [yU] at hj ⊢
          exact hj.imp (zhe t (by omega) (fun y hy=>(hr y hy).1) j) id
      · rintro k s rfl
        simp only [y4]
        rw [zA (show ¬ (l.length:Int) < l.length by omega),zh]
      · have:∀ q:Nat→Bool,(∀ j,q j=false)→mkm q g.1.toNat=0:=by
         intro q hq
         rw [wD (q:=fun _=>false) (fun j _=>hq j)]
         apply wQ;intro j;rw [yh];simp
        rw [this _ (fun j=>by simp [xj]),this (Jy g l 0) (fun j=>rfl)];rfl
     refine ⟨YQ g l l.length,true,if l.length=0 then .nil else .of (YQ g l l.length),?_,?_,?_,by have:=hp l.length;omega,rfl,fun _=>rfl⟩
     · simp only [zb,ye,wM,zh]
       exact hS
     · simp only [zb,ye,vi,zh]
       rw [WD h hG hs,zb]
       exact hI
     · split
       · rename_i e;rw [e];rfl
       · rfl
theorem zgO {p q:Nat→Bool}:∀ n,yu p n=yu (fun j=>q j && p j) n + yu (fun j=>p j && !q j) n:=by
 intro n
 rw [WS,WS,WS,← zfF]
 refine JP fun i _=>?_
 cases p i <;> cases q i <;> rfl
def zuO (l:List Int) (r:Int) (j:Nat):Bool:=decide (l.getD j 0≤r)
def zwt (g:Gr) (l:List Int) (x:Nat):Bool:=ve (fun y=>Xj g (zuO l (l.getD x 0)) x y && ((y != x) && (l.getD y 0 == l.getD x 0))) g.1.toNat
theorem MR {F:Nat} {g:Gr} {nn:Int} (hg:yD g=true) (hF:300≤F) :
    ∃ best:List Int,ym F ⟨xQ g⟩ nn ⟨(⟨xQ g⟩,()),()⟩=some best∧best.length=2 ^ g.1.toNat∧zd0 g.1.toNat (frP g) nn (fun m=>best.getD m 0):=by
 have h8:=yl hg
 obtain ⟨n,hn⟩:∃ n:Nat,g.1.toNat=n:=⟨_,rfl⟩
 have hn8:n≤8:=by omega
 have hpow:=w4 n
 have hp256:2 ^ n≤256:=by
  have:=vx (n:=2) (by decide) hn8
  simpa using this
 have hall:uI F ⟨xQ g⟩=some ((2 ^ n - 1:Nat):Int):=by
  unfold uI
  rw [Zf,hn,Zr (by omega),zb,xw (by omega) (by omega)]
  congr 1;omega
 have hw:w64 (((2 ^ n - 1:Nat):Int) + 1)=((2 ^ n:Nat):Int):=by rw [xw (by omega) (by omega)];omega
 unfold ym
 rw [hall,zb,hw,za7 (by omega),zb,zb,hn]
 have key:∀ d k (best:List Int),d≤2 ^ n→d < k→best.length=2 ^ n →
     (∀ j,d≤j→j < 2 ^ n→best.getD j 0=mn (fun x=>max (frP g j x.toNat) (best.getD (j ||| 2 ^ x.toNat) 0)) (XJ n j) nn) →
     ∃ b,zN F nn ⟨(⟨xQ g⟩,()),()⟩ ⟨xQ g⟩ k best ((d:Int) - 1)=some b∧b.length=2 ^ n∧zd0 n (frP g) nn (fun m=>b.getD m 0):=by
  intro d
  induction d with
  | zero=>
    intro k best _ hk hlen hrec
    obtain ⟨k,rfl⟩:∃ k',k=k' + 1:=⟨k - 1,by omega⟩
    refine ⟨best,?_,hlen,fun m hm=>hrec m (by omega) hm⟩
    simp only [zN]
    rw [zA (by omega),zh]
  | succ d ih=>
    intro k best hd hk hlen hrec
    obtain ⟨k,rfl⟩:∃ k',k=k' + 1:=⟨k - 1,by omega⟩
    have hdn:d < 2 ^ n:=by omega
    have e0:((d + 1:Nat):Int) - 1=(d:Int):=by omega
    have hmk:yS .i64 ((2 ^ n - 1:Nat):Int) (d:Int)=((mkm (fun x=>!d.testBit x) n:Nat):Int):=by
     obtain ⟨c,hc,_,hb⟩:=YO (a:=2 ^ n - 1) (b:=d) (by omega) (by omega)
     rw [hc]
     congr 1
     refine W4 fun j=>?_
     rw [hb,Nat.testBit_two_pow_sub_one]
    have hl8:(XJ n d).length≤8:=by unfold XJ;rw [xg];exact xI uX hn8
    simp only [zN]
    rw [e0,zo (by omega),zk,zT (d:=0) (by omega),zb,hall,zb,hmk,KD hn8 (by omega),zb,yi]
    obtain ⟨s,hs,he⟩:=Mh (L:=fun k2 t s=>zR F nn ⟨(⟨xQ g⟩,()),()⟩ ⟨xQ g⟩ (d:Int) (XJ n d) (zN F nn ⟨(⟨xQ g⟩,()),()⟩ ⟨xQ g⟩ k) k2 s t) (n:=(XJ n d).length)
     (fun t s=>s=best.set d (mn (fun x=>max (frP g d x.toNat) (best.getD (d ||| 2 ^ x.toNat) 0)) ((XJ n d).take t) nn)) (fin:=fun s=>zN F nn ⟨(⟨xQ g⟩,()),()⟩ ⟨xQ g⟩ k s ((d:Int) - 1)) (by
       intro k2 t s ht hI
       subst hI
       refine ⟨_,rfl,?_⟩
       obtain ⟨x,hx,hxn,hxb⟩:=Ut.1 (vg (d:=0) ht)
       have hgt:=Mk d (by omega) x (by omega) hxb
       have hxp:=w4 x
       have hor:=ze8 hdn hxn
       have hcost:=zdV (F:=F) (m:=d) (x:=x) hg (by omega) (by rw [hn];exact hdn) (by rw [hn];exact hxn)
       have htake:(XJ n d).take (t + 1)=(XJ n d).take t++[(x:Int)]:=by
        rw [List.take_add_one,yL ht]
        rw [zZ,yL ht,xa] at hx
        rw [hx];rfl
       have hget:∀ a:Int,(best.set d a).getD (d ||| 2 ^ x) 0=best.getD (d ||| 2 ^ x) 0:=by
        intro a
        rw [zZ,List.getElem?_set_ne (by omega),← zZ]
       have hgetd:∀ a:Int,(best.set d a).getD d 0=a:=by
        intro a
        rw [zZ,List.getElem?_set_self (by omega),xa]
       simp only [zR,yG,yH]
       rw [zo (show (t:Int) < ((XJ n d).length:Int) by omega),zk,zT (d:=0) ht,zb,hx]
       rw [hcost,zb,Zr (by omega),zb,XW (by omega) (Zl (by omega)),zT (d:=0) (by rw [List.length_set];omega),zb,hget,zT (d:=0) (by rw [List.length_set];omega),zb,zb,hgetd,yi,List.set_set,yd ht (by unfold Sm;omega),htake,zfb]
       have hmax:(if best.getD (d ||| 2 ^ x) 0 > frP g d x then best.getD (d ||| 2 ^ x) 0 else frP g d x)=max (frP g d x) (best.getD (d ||| 2 ^ x) 0):=by
        by_cases h:best.getD (d ||| 2 ^ x) 0 > frP g d x
        · rw [if_pos h,Int.max_eq_right (by omega)]
        · rw [if_neg h,Int.max_eq_left (by omega)]
       rw [hmax,yi]
       by_cases ht0:t=0
       · subst ht0
         rw [if_pos (.inl (by simp))]
         rfl
       · have hne:(XJ n d).take t≠[]:=by
          intro e
          have:=congrArg List.length e
          rw [List.length_take] at this
          simp only [List.length_nil] at this
          omega
         have hb:((t:Int) == 0)=false:=by rw [beq_eq_false_iff_ne];omega
         rw [hb,zh]
         by_cases hlt:max (frP g d x) (best.getD (d ||| 2 ^ x) 0) < mn (fun x=>max (frP g d x.toNat) (best.getD (d ||| 2 ^ x.toNat) 0)) ((XJ n d).take t) nn
         · rw [zo hlt,zk,if_pos (.inr hlt)]
         · rw [zA hlt,zh,if_neg (fun h=>h.elim hne hlt)]) (by
       intro k2 s hI
       simp only [zR]
       rw [zA (show ¬ ((XJ n d).length:Int) < ((XJ n d).length:Int) by omega),zh,xw (by omega) (by omega)]) F (best.set d nn) (by omega) rfl
    have he':zR F nn ⟨(⟨xQ g⟩,()),()⟩ ⟨xQ g⟩ (d:Int) (XJ n d) (zN F nn ⟨(⟨xQ g⟩,()),()⟩ ⟨xQ g⟩ k) F (best.set d nn) 0=zN F nn ⟨(⟨xQ g⟩,()),()⟩ ⟨xQ g⟩ k s ((d:Int) - 1):=he
    rw [List.take_length] at hs
    rw [show zt (fun x=>!d.testBit x) n=XJ n d from rfl,he']
    refine ih k s (by omega) (by omega) (by rw [hs,List.length_set];exact hlen) ?_
    have hsd:s.getD d 0=mn (fun x=>max (frP g d x.toNat) (best.getD (d ||| 2 ^ x.toNat) 0)) (XJ n d) nn:=by
     rw [hs,zZ,List.getElem?_set_self (by omega),xa]
    have hsne:∀ j,j≠d→s.getD j 0=best.getD j 0:=by
     intro j hj
     rw [hs,zZ,List.getElem?_set_ne (by omega),← zZ]
    intro j h1 h2
    have hcg:mn (fun x=>max (frP g j x.toNat) (best.getD (j ||| 2 ^ x.toNat) 0)) (XJ n j) nn=mn (fun x=>max (frP g j x.toNat) (s.getD (j ||| 2 ^ x.toNat) 0)) (XJ n j) nn:=by
     refine ziJ fun y hy=>?_
     obtain ⟨x,rfl,hxn,hxb⟩:=Ut.1 hy
     have hgt:=Mk j (by omega) x (by omega) hxb
     have hxp:=w4 x
     rw [yi,hsne _ (by omega)]
    by_cases e:j=d
    · subst e;rw [hsd,hcg]
    · rw [hsne j e,hrec j (by omega) h2,hcg]
 have e1:((2 ^ n - 1:Nat):Int)=((2 ^ n:Nat):Int) - 1:=by omega
 rw [e1]
 exact key (2 ^ n) F _ (by omega) (by omega) (by simp) (fun j h1 h2=>absurd h2 (by omega))
end Go.Zq
