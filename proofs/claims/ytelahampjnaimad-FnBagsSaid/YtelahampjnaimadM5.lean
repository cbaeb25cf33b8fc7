/- Plain mathematics: what the functions answer (part 5). Conditions: stated in each theorem. -/
import Derived.Test.YtelahampjnaimadM2
import Derived.Test.YtelahampjnaimadM4
import Derived.Test.YtelahampjnaimadM3
set_option linter.unusedVariables false
set_option linter.unusedSimpArgs false
namespace Go.Zq
theorem zfE {n:Int} {l:List Int} (hl:(l.length:Int)=n) (hn:l.Nodup) (hr:∀ v∈l,0≤v∧v < n):wl n l=true:=by
 unfold wl
 rw [zt hl,yg]
 refine yK.2 fun j hj=>zt ?_
 by_cases h:(j:Int)∈l
 · exact h
 · have:=KN n.toNat ((j:Int) :: l) (List.nodup_cons.2 ⟨h,hn⟩) (fun x hx=>by
    rcases z4.1 hx with rfl | hx
    · exact ⟨by omega,by omega⟩
    · have:=hr x hx;exact ⟨this.1,by omega⟩)
   simp at this
   omega
section
variable {F:Nat} {g:Gr} {l:List Int}
end
theorem zj3 {b:Nat→Bool} {n t:Nat} (ht:t < n) (h0:∀ i,i < t→b i=false) (h1:b t=true) (h2:∀ i,t < i→i < n→b i=true→b (i - 1)=true):(xU b n).1=1:=by
 have key:∀ m,m≤n→(m≤t→xU b m=(0,false))∧(t < m→xU b m=(1,b (m - 1))):=by
  intro m
  induction m with
  | zero=>exact fun _=>⟨fun _=>rfl,fun h=>by omega⟩
  | succ m ih=>
    intro hm
    obtain ⟨i1,i2⟩:=ih (by omega)
    refine ⟨fun h=>?_,fun h=>?_⟩
    · simp [xU,i1 (by omega),h0 m (by omega)]
    · by_cases e:m=t
      · subst e;simp [xU,i1 (yM _),h1]
      · have e2:=i2 (by omega)
        simp only [xU,e2,Nat.add_sub_cancel]
        cases hb:b m with
        | false=>simp
        | true=>rw [h2 m (by omega) (by omega) hb];simp
 rw [(key n (yM _)).2 ht]
theorem znu {b:Nat→Bool} (m:Nat):0≤(xU b m).1:=(UY b m).1.2.2.1
theorem rs1 {b:Nat→Bool} {m:Nat}:(xU b (m + 1)).1=if b m && !(xU b m).2 then (xU b m).1 + 1 else (xU b m).1:=rfl
theorem zdF {b:Nat→Bool} {m:Nat}:(xU b m).1≤(xU b (m + 1)).1:=by
 rw [rs1];split <;> omega
theorem L0 {b:Nat→Bool} (m:Nat):∀ d,(xU b m).1≤(xU b (m + d)).1
 | 0=>Int.le_refl _
 | d + 1=>Int.le_trans (L0 (b:=b) m d) zdF
theorem zeF {b:Nat→Bool}:∀ m,b m=true→1≤(xU b (m + 1)).1
 | 0,h=>by simp [xU,h]
 | m + 1,h=>by
   have h0:=znu (b:=b) (m + 1)
   cases hb:b m with
   | false=>
     have e:(xU b (m + 1)).2=false:=hb
     rw [rs1,h,e,Zm,wK,if_pos rfl];omega
   | true=>exact Int.le_trans (zeF m hb) zdF
theorem zgh {b:Nat→Bool} {n i j k:Nat} (h:(xU b n).1=1) (hij:i≤j) (hjk:j≤k) (hk:k < n) (hi:b i=true) (hkb:b k=true):b j=true:=by
 cases hb:b j with
 | true=>rfl
 | false=>
   exfalso
   have hne:i≠j:=fun e=>by rw [e,hb] at hi;cases hi
   have hne2:k≠j:=fun e=>by rw [e,hb] at hkb;cases hkb
   have hc:1≤(xU b (j + 1)).1:=by
    have h1:=zeF i hi
    have h2:=L0 (b:=b) (i + 1) (j - i)
    rw [show i + 1 + (j - i)=j + 1 by omega] at h2
    omega
   have hf:(xU b (j + 1)).2=false:=hb
   have key:∀ d,(xU b (j + 1)).1 + 1≤(xU b (j + 1 + d)).1∨((xU b (j + 1 + d)).1=(xU b (j + 1)).1∧(xU b (j + 1 + d)).2=false):=by
    intro d
    induction d with
    | zero=>exact .inr ⟨rfl,hf⟩
    | succ d ih=>
      rcases ih with ih | ⟨i1,i2⟩
      · left;exact Int.le_trans ih zdF
      · have e:xU b (j + 1 + (d + 1))=(if b (j + 1 + d) && !(xU b (j + 1 + d)).2 then (xU b (j + 1 + d)).1 + 1 else (xU b (j + 1 + d)).1,b (j + 1 + d)):=rfl
        rw [e,i1,i2]
        cases b (j + 1 + d) with
        | true=>left;simp
        | false=>right;simp
   have hk1:(xU b (j + 1)).1 + 1≤(xU b (k + 1)).1:=by
    have:=key (k - j - 1)
    rw [show j + 1 + (k - j - 1)=k by omega] at this
    rcases this with ih | ⟨i1,i2⟩
    · exact Int.le_trans ih zdF
    · rw [rs1 (m:=k),i1,i2,hkb];simp
   have h2:=L0 (b:=b) (k + 1) (n - k - 1)
   rw [show k + 1 + (n - k - 1)=n by omega] at h2
   omega
theorem znn {b:Nat→Bool} {n:Nat} (h:(xU b n).1=1):∃ i,i < n∧b i=true:=by
 refine Classical.byContradiction fun hno=>?_
 have:∀ m,m≤n→xU b m=(0,false):=by
  intro m
  induction m with
  | zero=>exact fun _=>rfl
  | succ m ih=>
    intro hm
    have hb:b m=false:=by
     cases e:b m with
     | false=>rfl
     | true=>exact absurd ⟨m,by omega,e⟩ hno
    simp [xU,ih (by omega),hb]
 rw [this n (yM _)] at h
 cases h
theorem zjy {p:Nat→Bool} {n:Int} (h0:0≤n):W3 n (y5 p n.toNat)=true:=by
 refine yK.2 fun i hi=>?_
 obtain ⟨j,e,hj,_⟩:=NP hi
 rw [zq,zq,xm]
 refine ⟨⟨by rw [e];exact zt (by omega),by rw [e];exact zt (by omega)⟩,?_⟩
 by_cases h0:i=0
 · exact .inl (by simp [h0])
 · exact .inr (zt (zhs KD (by omega) hi))
def wds (b:List (List Int)):List Int:=b.map fun x=>(x.length:Int) - 1
theorem LE {b:List (List Int)} {i:Nat} (h:i < b.length):(wds b).getD i 0=((b.getD i []).length:Int) - 1:=by
 simp [wds,zW,h]
theorem Nw {F:Nat} {b:List (List Int)} (hF:b.length < F) (hs:Sm b.length) (hx:∀ x∈b,x.length≤1048576):uF F b=some (mxL (wds b) b.length):=by
 unfold uF
 refine wQ (L:=fun k t (s:Int)=>wV F b k s t) (n:=b.length) (fun t s=>s=mxL (wds b) t) ?_ ?_ F 0 hF rfl
 · rintro k t s ht rfl
   have hl:=hx _ (xr (d:=[]) ht)
   simp only [wV]
   rw [zt (by omega),zn,z8 (d:=[]) ht,zc,wr (by omega) (by omega)]
   refine ⟨mxL (wds b) (t + 1),rfl,?_⟩
   unfold YJ
   rw [yh ht hs]
   by_cases hm:((b.getD t []).length:Int) - 1 > mxL (wds b) t
   · rw [zt hm,zn,zc,wr (by omega) (by omega)]
     simp only [mxL,LE ht,if_pos hm]
   · rw [zD hm,zj]
     simp only [mxL,LE ht,if_neg hm]
 · rintro k s rfl
   simp only [wV]
   rw [zD (by omega),zj]
section
variable {g:Gr} {l:List Int}
theorem Ma {t i x:Nat} (ht:t < l.length) (hx:l.getD t 0=(x:Int)) (hi:t < i):xz l i x=true:=by
 cases e:xz l i x with
 | true=>rfl
 | false=>
   have:=ziO (Nat.succ_le_of_lt hi) e
   rw [Nat.succ_eq_add_one,XS ht hx] at this
   simp at this
theorem YV {x i:Nat} (hx:x < g.1.toNat) (hi:i < l.length):inB (wy g l l.length) (x:Int) i=(frt g (xz l i) x || decide ((x:Int)=l.getD i 0)):=by
 have e:(wy g l l.length).getD i []=zai g l i:=by
  unfold wy
  rw [zW,List.getElem?_map,List.getElem?_range hi];rfl
 unfold inB
 rw [e]
 unfold zai
 rw [xe,z9,Xn]
 constructor
 · rintro ⟨j,h1,h2,h3⟩
   have:x=j:=by omega
   subst this;exact h3
 · exact fun h=>⟨x,rfl,hx,h⟩
theorem ziW (hg:xl g=true) (ho:wl g.1 l=true):pdB g (wy g l l.length)=true:=by
 have h8:=yx hg
 have hlen:=vf ho
 have hd:∀ t i x:Nat,t < l.length→i < l.length→l.getD t 0=(x:Int)→l.getD i 0=(x:Int)→t=i:=by
  intro t i x ht hi e1 e2
  rcases Nat.lt_trichotomy t i with h | h | h
  · have:=Ma ht e1 h;rw [Zb ho h8.1 hi e2] at this;cases this
  · exact h
  · have:=Ma hi e2 h;rw [Zb ho h8.1 ht e1] at this;cases this
 unfold pdB
 simp only [zq,Zi]
 refine ⟨⟨⟨zt (by omega),yK.2 fun i hi=>?_⟩,yK.2 fun x hx=>?_⟩,yK.2 fun e he=>?_⟩
 · have e:(wy g l l.length).getD i []=zai g l i:=by
    unfold wy
    rw [zW,List.getElem?_map,List.getElem?_range hi];rfl
   rw [e]
   exact zjy h8.1
 · obtain ⟨t,ht,ex⟩:=LC hg ho hx
   unfold KJ
   rw [Zi,yH]
   refine zj3 ht (fun i hi=>?_) ?_ fun i hi hil hb=>?_
   · rw [YV hx (by omega),Bool.or_eq_false_iff]
     have hp:xz l i x=false:=KP (Nat.le_of_lt hi) (Zb ho h8.1 ht ex)
     refine ⟨?_,zD fun e=>?_⟩
     · unfold frt;rw [hp,wv]
     · have:=hd t i x ht (by omega) ex e.symm;omega
   · rw [YV hx ht,ex];simp
   · rw [YV hx hil,xm,z9] at hb
     rcases hb with hb | hb
     · obtain ⟨_,y,h2,h3⟩:=(U1 hg).1 hb
       rw [YV hx (by omega),xm,z9]
       by_cases e:i - 1=t
       · right;rw [e,ex]
       · left
         exact (U1 hg).2 ⟨Ma ht ex (by omega),y,h2,KP (by omega) h3⟩
     · have:=hd t i x ht hil ex hb.symm;omega
 · obtain ⟨e1,e2,e3⟩:=KH hg he
   obtain ⟨a,ha⟩:∃ a:Nat,(g.2.getD e (0,0)).1=a:=⟨_,(Int.toNat_of_nonneg e1).symm⟩
   obtain ⟨b,hb⟩:∃ b:Nat,(g.2.getD e (0,0)).2=b:=⟨(g.2.getD e (0,0)).2.toNat,by omega⟩
   have hadj:adj g a b=true:=wq.2 ⟨e,he,NN.2 (.inl ⟨ha,hb⟩)⟩
   obtain ⟨s,hs,es⟩:=LC hg ho (b:=a) (by omega)
   obtain ⟨t,ht,et⟩:=LC hg ho (b:=b) (by omega)
   rw [ha,hb]
   unfold LW
   rw [Zi]
   rcases Nat.lt_trichotomy s t with h | h | h
   · refine wq.2 ⟨t,ht,?_⟩
     rw [YV (by omega) ht,YV (by omega) ht,et,(U1 hg).2 ⟨Ma hs es h,b,hadj,Zb ho h8.1 ht et⟩]
     simp
   · subst h;rw [es] at et;omega
   · refine wq.2 ⟨s,hs,?_⟩
     rw [YV (by omega) hs,YV (by omega) hs,es,(U1 hg).2 ⟨Ma ht et h,a,by rw [zgO];exact hadj,Zb ho h8.1 hs es⟩]
     simp
theorem zeA (hg:xl g=true) (ho:wl g.1 l=true):frS g l l.length=0:=by
 have h8:=yx hg
 have:xI (frt g (xz l l.length)) g.1.toNat=xI (fun _=>false) g.1.toNat:=ZZ fun j _=>by
  cases e:frt g (xz l l.length) j with
  | false=>rfl
  | true=>
    obtain ⟨_,y,h2,h3⟩:=(U1 hg).1 e
    have:=JC hg h2
    unfold xz at h3
    rw [List.take_length,decide_eq_false_iff_not] at h3
    exact absurd (WD ho (by omega) (by omega)) h3
 have h0:xI (fun _=>false) g.1.toNat=0:=by simp [xI]
 unfold frS;omega
theorem zcz (hg:xl g=true) (ho:wl g.1 l=true):mxL (wds (wy g l l.length)) l.length=mxL (WP g l l.length) l.length:=by
 have h8:=yx hg
 have hw:∀ i,i < l.length→(wds (wy g l l.length)).getD i 0=frS g l i:=by
  intro i hi
  rw [LE (by rw [Zi];exact hi)]
  have e:(wy g l l.length).getD i []=zai g l i:=by
   unfold wy
   rw [zW,List.getElem?_map,List.getElem?_range hi];rfl
  have hy:=Yh ho h8.1 _ (xr (d:=0) hi)
  obtain ⟨x,hx⟩:∃ x:Nat,l.getD i 0=x:=⟨(l.getD i 0).toNat,by omega⟩
  have hfx:frt g (xz l i) x=false:=by unfold frt;rw [Zb ho h8.1 hi hx,wv]
  have hc:=MB hfx (n:=g.1.toNat) (by omega)
  have:(zai g l i).length=xI (fun j=>frt g (xz l i) j || j == x) g.1.toNat:=by
   unfold zai
   rw [uu]
   refine ZZ fun j _=>?_
   rw [hx]
   congr 1
   rw [xe,z9,yH];omega
  rw [e,this,hc];unfold frS;omega
 have h0:=ZR (xs:=WP g l l.length) l.length
 refine Int.le_antisymm (zak h0 _ fun i hi=>?_) (zak (ZR _) _ fun i hi=>?_)
 · rw [hw i hi]
   cases i with
   | zero=>
     have:frS g l 0=0:=by
      have:xI (frt g (xz l 0)) g.1.toNat=xI (fun _=>false) g.1.toNat:=ZZ fun j _=>by simp [frt,xz]
      have h0:xI (fun _=>false) g.1.toNat=0:=by simp [xI]
      unfold frS;omega
     omega
   | succ i=>
     rw [← J0 (n:=l.length) (by omega)]
     exact Mj _ i (by omega)
 · rw [J0 hi]
   by_cases e:i + 1 < l.length
   · rw [← hw _ e]
     exact Mj _ (i + 1) e
   · rw [show i + 1=l.length by omega,zeA hg ho]
     exact ZR _
end
theorem zhJ {y:Int}:∀ (xs a:List Int),y∈dd a xs↔y∈a∨y∈xs
 | [],a=>by simp [dd]
 | x :: xs,a=>by
   simp only [dd]
   rw [zhJ xs]
   split
   · rename_i h
     rw [z4]
     constructor
     · rintro (h1 | h1)
       · exact .inl h1
       · exact .inr (.inr h1)
     · rintro (h1 | rfl | h1)
       · exact .inl h1
       · exact .inl h
       · exact .inr h1
   · rw [zK,wI,z4,or_assoc]
theorem U0 {y:Int}:∀ (bs:List (List Int)) (a:List Int),y∈dds a bs↔y∈a∨∃ c∈bs,y∈c
 | [],a=>by simp [dds]
 | b :: bs,a=>by
   simp only [dds]
   rw [U0 bs,zhJ]
   simp [or_assoc]
theorem zb8:∀ (xs a:List Int),a.Nodup→(dd a xs).Nodup
 | [],a,h=>h
 | x :: xs,a,h=>by
   simp only [dd]
   refine zb8 xs _ ?_
   split
   · exact h
   · rename_i hx
     rw [List.nodup_append]
     refine ⟨h,by simp,fun z hz w hw e=>?_⟩
     rw [wI] at hw
     subst hw;subst e;exact hx hz
theorem NM:∀ (bs:List (List Int)) (a:List Int),a.Nodup→(dds a bs).Nodup
 | [],_,h=>h
 | b :: bs,a,h=>NM bs _ (zb8 b a h)
theorem zga:∀ (xs a:List Int),∃ z,dd a xs=a++z
 | [],a=>⟨[],by simp [dd]⟩
 | x :: xs,a=>by
   simp only [dd]
   obtain ⟨z,hz⟩:=zga xs (if x∈a then a else a++[x])
   rw [hz]
   split
   · exact ⟨z,rfl⟩
   · exact ⟨x :: z,by simp⟩
theorem zdt:∀ (bs:List (List Int)) (a:List Int),∃ z,dds a bs=a++z
 | [],a=>⟨[],by simp [dds]⟩
 | b :: bs,a=>by
   simp only [dds]
   obtain ⟨z,hz⟩:=zdt bs (dd a b)
   obtain ⟨y,hy⟩:=zga b a
   exact ⟨y++z,by rw [hz,hy,List.append_assoc]⟩
section
variable {g:Gr} {b:List (List Int)}
theorem za9 (h:pdB g b=true):(∀ i,i < b.length→W3 g.1 (b.getD i [])=true)∧(∀ x,x < g.1.toNat→(xU (inB b (x:Int)) b.length).1=1)∧∀ i,i < g.2.length→LW b (g.2.getD i (0,0)).1 (g.2.getD i (0,0)).2=true:=by
 unfold pdB at h
 simp only [zq,z9] at h
 refine ⟨yK.1 h.1.1.2,fun x hx=>?_,yK.1 h.2⟩
 have:=yK.1 h.1.2 x hx
 unfold KJ at this
 exact yH.1 this
theorem Qi (hg:xl g=true) (h:pdB g b=true):wl g.1 (dds [] b)=true:=by
 have h8:=yx hg
 obtain ⟨p1,p2,_⟩:=za9 h
 have hn:=NM b [] (by simp)
 have hr:∀ v∈dds [] b,0≤v∧v < g.1:=by
  intro v hv
  rcases (U0 b []).1 hv with hv | ⟨c,hc,hv⟩
  · cases hv
  · obtain ⟨i,hi,e⟩:=uP.1 hc
    have:=p1 i hi
    rw [zW,yD hi,yI,e] at this
    exact MG this v hv
 have h1:=KN g.1.toNat _ hn fun x hx=>by have:=hr x hx;omega
 have h2:=(WA g.1.toNat (dds [] b) fun j hj=>by
  obtain ⟨i,hi,hb⟩:=znn (p2 j hj)
  exact (U0 b []).2 (.inr ⟨b.getD i [],xr hi,of_decide_eq_true hb⟩)).1
 exact zfE (by omega) hn hr
theorem zj8 (hg:xl g=true) (h:pdB g b=true):∀ i,i < (dds [] b).length→frS g (dds [] b) (i + 1)≤mxL (wds b) b.length:=by
 have h8:=yx hg
 have ho:=Qi hg h
 obtain ⟨p1,p2,p3⟩:=za9 h
 obtain ⟨l,hl⟩:∃ l,l=dds [] b:=⟨_,rfl⟩
 rw [← hl] at ho ⊢
 have main:∀ i,i < l.length→frS g l i≤mxL (wds b) b.length:=by
  intro i hi
  obtain ⟨t,ht,t1,t2⟩:∃ t,t < b.length∧(dds [] (b.take t)).length≤i∧i < (dds [] (b.take (t + 1))).length:=by
   have:∀ m,m≤b.length→i < (dds [] (b.take m)).length→∃ t,t < b.length∧(dds [] (b.take t)).length≤i∧i < (dds [] (b.take (t + 1))).length:=by
    intro m
    induction m with
    | zero=>intro _ h;simp [dds] at h
    | succ m ih=>
      intro hm h
      rcases uZ i (dds [] (b.take m)).length with h1 | h1
      · exact ih (by omega) h1
      · exact ⟨m,by omega,h1,h⟩
   exact this b.length (yM _) (by rw [List.take_length,← hl];exact hi)
  have hpre:∀ k,∃ z,l=dds [] (b.take k)++z:=by
   intro k
   obtain ⟨z,hz⟩:=zdt (b.drop k) (dds [] (b.take k))
   refine ⟨z,?_⟩
   rw [hl,← hz,← JA,Zz]
  have hy:=Yh ho h8.1 _ (xr (d:=0) hi)
  obtain ⟨y,hyy⟩:∃ y:Nat,l.getD i 0=y:=⟨(l.getD i 0).toNat,by omega⟩
  have hyf:=Zb ho h8.1 hi hyy
  have before:∀ v:Nat,xz l i v=true→∃ s,s≤t∧inB b (v:Int) s=true:=by
   intro v hv
   obtain ⟨z,hz⟩:=hpre (t + 1)
   unfold xz at hv
   rw [z9,hz,List.take_append_of_le_length (by omega)] at hv
   rcases (U0 _ []).1 (List.mem_of_mem_take hv) with h1 | ⟨c,hc,h1⟩
   · cases h1
   · obtain ⟨s,hs,e⟩:=List.mem_take_iff_getElem.1 hc
     refine ⟨s,by omega,zt ?_⟩
     rw [zW,yD (by omega),yI,e]
     exact h1
  have after:∀ v s:Nat,xz l i v=false→s < b.length→inB b (v:Int) s=true→t≤s:=by
   intro v s hv hs hb
   rcases uZ s t with hlt | hge
   · exfalso
     obtain ⟨z,hz⟩:=hpre t
     unfold xz at hv
     rw [decide_eq_false_iff_not] at hv
     refine hv ?_
     rw [hz,List.take_append]
     refine zK.2 (.inl ?_)
     rw [List.take_of_length_le t1]
     refine (U0 _ []).2 (.inr ⟨b.getD s [],?_,of_decide_eq_true hb⟩)
     rw [zW,yD hs,yI]
     exact List.mem_take_iff_getElem.2 ⟨s,by omega,rfl⟩
   · exact hge
  have hyc:inB b (y:Int) t=true:=by
   have hm:(y:Int)∈dds [] (b.take (t + 1)):=by
    obtain ⟨z,hz⟩:=hpre (t + 1)
    have e:l.getD i 0=(dds [] (b.take (t + 1))).getD i 0:=by
     rw [hz,zW,List.getElem?_append_left t2,← zW]
    rw [← hyy,e]
    exact xr t2
   rcases (U0 _ []).1 hm with h1 | ⟨c,hc,h1⟩
   · cases h1
   · obtain ⟨s,hs,e⟩:=List.mem_take_iff_getElem.1 hc
     have hin:inB b (y:Int) s=true:=by
      refine zt ?_
      rw [zW,yD (by omega),yI,e]
      exact h1
     have:=after y s hyf (by omega) hin
     have:s=t:=by omega
     subst this;exact hin
  have hfc:∀ v,frt g (xz l i) v=true→inB b (v:Int) t=true:=by
   intro v hv
   obtain ⟨h1,w,h2,h3⟩:=(U1 hg).1 hv
   obtain ⟨s',hs',hb'⟩:=before v h1
   have hlt:=JC hg h2
   obtain ⟨e,he,hj⟩:=wq.1 h2
   have ht3:=p3 e he
   have:∃ s,s < b.length∧inB b (v:Int) s=true∧inB b (w:Int) s=true:=by
    unfold LW at ht3
    obtain ⟨s,hs,hb⟩:=wq.1 ht3
    rw [zq] at hb
    rcases NN.1 hj with ⟨j1,j2⟩ | ⟨j1,j2⟩
    · rw [j1,j2] at hb;exact ⟨s,hs,hb.1,hb.2⟩
    · rw [j1,j2] at hb;exact ⟨s,hs,hb.2,hb.1⟩
   obtain ⟨s,hs,hv1,hw1⟩:=this
   exact zgh (p2 v (by omega)) hs' (after w s h3 hs hw1) hs hb' hv1
  have hset:=MO (p1 t ht)
  have hlen:(b.getD t []).length=xI (bq (b.getD t [])) g.1.toNat:=by
   have:=congrArg List.length hset
   rw [uu] at this
   exact this
  have hlt:=Qk (p:=frt g (xz l i)) (q:=bq (b.getD t [])) (n:=g.1.toNat) (fun j _ hj=>hfc j hj) ⟨y,by omega,by unfold frt;rw [hyf,wv],hyc⟩
  have:=Mj (xs:=wds b) b.length t ht
  rw [LE ht] at this
  unfold frS;omega
 intro i hi
 by_cases e:i + 1 < l.length
 · exact main _ e
 · rw [show i + 1=l.length by omega,zeA hg ho]
   exact ZR _
end
section
variable {F:Nat} {g:Gr} {l:List Int} {b:List (List Int)}
theorem zfs (hF:l.length < F) (hG:g.2.length < F) (h9:20≤F) (hl:Sm l.length) (hs:Sm g.2.length) :
    wC F g l=some (bif xl g && wl g.1 l then (wy g l l.length,true) else ([],false))∧wz F g l=some (bif xl g && wl g.1 l then (wy g l l.length,true) else ([],false)):=by
 unfold wC wz vI
 rw [WG hG hs,Yy hG (by omega) hs,zc,zc]
 cases hg:xl g with
 | false=>exact ⟨rfl,rfl⟩
 | true=>
   have h8:=yx hg
   simp only [yQ,zj,yg]
   rw [Ku h8.1 h8.2 hF (by omega) hl,Ms h8.1 h8.2 hF hl]
   cases ho:wl g.1 l with
   | false=>exact ⟨rfl,rfl⟩
   | true=>
     have hlen:=vf ho
     have hr:=Yh ho h8.1
     constructor
     · simp only [zc,yQ,vu,zj]
       rw [zbC hg ho h9 hG hs];rfl
     · simp only [zc,yQ,vF,zj,zn]
       rw [MA hg hG hs,zc]
       obtain ⟨s,⟨h1,_⟩,h3⟩:=Lr (L:=fun k t (s:NL (List Int)×Int)=>wg F ⟨vc g⟩ l k s.1 s.2 t) (n:=l.length) (fin:=fun s=>some (s.1.list,true)) (fun t s=>s.1.list=wy g l t∧s.2=((mkm (xz l t) g.1.toNat:Nat):Int)) (by
        rintro k t ⟨zs,m⟩ ht ⟨h1,h2⟩
        simp only at h1 h2
        subst h2
        have hy:=hr _ (xr (d:=0) ht)
        obtain ⟨x,hx⟩:∃ x:Nat,l.getD t 0=x:=⟨(l.getD t 0).toNat,by omega⟩
        have hxn:x < g.1.toNat:=by omega
        have hor:∀ p:Nat→Bool,mkm p g.1.toNat ||| 2 ^ x=mkm (fun j=>p j || j == x) g.1.toNat:=by
         intro p
         refine KR fun j=>?_
         rw [ZX,xA,YR]
         by_cases e:x=j
         · subst e
           have:decide (x < g.1.toNat)=true:=zt hxn
           rw [this];simp
         · have h1:decide (x=j)=false:=by simpa using e
           have h2:(j == x)=false:=by simp;omega
           rw [h1,h2];simp
        have hzl:zs.list.length=t:=by rw [h1,Zi]
        refine ⟨(.of (zs.list++[y5 (fun j=>frt g (xz l t) j || j == x) g.1.toNat]),((mkm (xz l (t + 1)) g.1.toNat:Nat):Int)),⟨?_,rfl⟩,?_⟩
        · show zs.list++[_]=_
          rw [h1,LY]
          congr 2
          refine xQ fun j _=>?_
          rw [hx]
          congr 1
          rw [xe,z9,yH];omega
        · simp only [wg]
          rw [zt (show (t:Int) < l.length by omega),zn,z8 (d:=0) ht,zc,hx,Nr hg h9,zc,YA (by omega),zc,Xb (XP (by omega)) (ZO (by omega)),hor,Mr (by omega) h9,zc,
           vU (by simp;omega),zc,zc,Xb (XP (by omega)) (ZO (by omega)),hor,yh ht (by unfold Sm;omega)]
          congr 2
          refine Wq fun j _=>?_
          rw [XS ht hx])
        (by
          rintro k ⟨zs,m⟩ ⟨h1,h2⟩
          simp only [wg]
          rw [zD (show ¬ (l.length:Int) < l.length by omega),zj]) F (.nil,0) (by omega) ⟨by simp [NL.list,wy],by
          show (0:Int)=_
          have:mkm (xz l 0) g.1.toNat=0:=by
           rw [Wq (q:=fun _=>false) (fun j _=>by simp [xz])]
           apply ZF;intro j;rw [xA];simp
          rw [this];rfl⟩
       rw [← h1];exact h3
theorem zdO {i:Int} {e:List Int} {c:NL Int→Int→Option (List Int×Bool)} {c':NL Int→Int→Option (NL Int×Bool)} (hc:∀ o a,c o a=(c' o a).map fun r=>(r.1.list,r.2)) :
    ∀ (k:Nat) (o:NL Int) (a:Int),xi F b i e c k o a=(xg F b i e c' k o a).map fun r=>(r.1.list,r.2)
 | 0,_,_=>rfl
 | k + 1,o,a=>by
   simp only [xi,xg,vx,vQ,Option.map_bind,XC,zdO hc k,hc,Function.comp_def]
theorem ze4:∀ (k:Nat) (o:NL Int) (a:Int),xW F b k o a=(y1 F b k o a).map fun r=>(r.1.list,r.2)
 | 0,_,_=>rfl
 | k + 1,o,a=>by
   simp only [xW,y1,Option.map_bind,XC,zdO (ze4 k),yu,Function.comp_def]
theorem zhj (hb:Bg F b) (hG:g.2.length < F) (hs:Sm g.2.length) :
    wB F g b=some (bif xl g && pdB g b then (dds [] b,true) else ([],false))∧wD F g b=some (bif xl g && pdB g b then (dds [] b,true) else ([],false)):=by
 have hfu:=hb.fuel
 unfold wB wD
 rw [WG hG hs,Yy hG (by omega) hs,zc,zc]
 cases hg:xl g with
 | false=>exact ⟨rfl,rfl⟩
 | true=>
   rw [yQ,zj,zj,zh0 hg hb hG hs,zhV hg hb hG hs,zc,zc,yg]
   cases hp:pdB g b with
   | false=>exact ⟨rfl,rfl⟩
   | true=>
     have hbs:=zpt hg hp
     obtain ⟨o,h1,h2⟩:=zj2 (F:=F) hbs (by omega)
     constructor
     · unfold vC
       rw [yQ,zj]
       exact zjo hbs (by omega)
     · unfold vy
       rw [yQ,zj,ze4,h1,zn,← h2];rfl
theorem zed {i m:Int} {ly:List Int} {ou:List (List Int)} {c1:List (List Int)→Int→Option (List (List Int))} {c1':List (List Int)→Int→Option (NL (List Int))} {c c'} (hc:∀ o a,c' o a=(c o a).map NL.of) :
    ∀ (k:Nat) (o:List Int) (a:Int),xM F ly g ou i m c1' c' k o a=(xu F ly g ou i m c1 c k o a).map NL.of
 | 0,_,_=>rfl
 | k + 1,o,a=>by
   simp only [xu,xM,ur,um,Option.map_bind,XC,zed (c1:=c1) (c1':=c1') hc k,hc,Function.comp_def]
theorem zdY {i:Int} {ly:List Int} {ou:List (List Int)} {c c'} (hc:∀ o a,c' o a=(c o a).map NL.of) :
    ∀ (k:Nat) (o:List Int) (a:Int),wO F ly g ou i c' k o a=(xy F ly g ou i c k o a).map NL.of
 | 0,_,_=>rfl
 | k + 1,o,a=>by
   simp only [xy,wO,Option.map_bind,XC,zed (c1:=c) (zdY hc k),hc,Function.comp_def]
theorem ze8 {ly:List Int}:∀ (k:Nat) (o:List (List Int)) (a:Int),wk F ly g k o a=(yV F ly g k o a).map NL.of
 | 0,_,_=>rfl
 | k + 1,o,a=>by
   simp only [yV,wk,Option.map_bind,XC,zdY (ze8 k),yu,Function.comp_def]
def OkB (b:List (List Int)) (m:Nat):Prop:=b.length≤m∧∀ x∈b,x.length≤40
theorem zjd {m:Nat} {x:List Int} (h:OkB b m) (hx:x.length≤40):OkB (b++[x]) (m + 1):=by
 refine ⟨by have:=h.1;simp;omega,fun y hy=>?_⟩
 rcases zK.1 hy with hy | hy
 · exact h.2 y hy
 · rw [wI] at hy;subst hy;exact hx
theorem zdu {m i:Nat} {x:List Int} (h:OkB b m) (hx:x.length≤40):OkB (b.set i x) m:=by
 refine ⟨by simpa using h.1,fun y hy=>?_⟩
 rcases List.mem_or_eq_of_mem_set hy with hy | rfl
 · exact h.2 y hy
 · exact hx
theorem zjQ {c:CC} {m:Nat} (h:Ck c.v.a c.v.b m) (hm:m < 800000):∃ r c',vq F c g=some (r,c')∧Ck c'.a c'.b (m + 4):=by
 have j:∀ (c':CU) (x:Bool),Ck c'.a c'.b (m + 2)→∃ r c'',wM F g c'.a c'.b c'.c.v x=some (r,c'')∧Ck c''.a c''.b (m + 4):=by
  intro c' x hk
  unfold wM
  cases x with
  | true=>
    obtain ⟨r,c2,e2,_,k2⟩:=UH (F:=F) (c:=Cu.mk c') (xs:=[(-1),0,8,4611686018427387904]) hk (by omega) (by decide)
    have e2':yW F (Cu.mk (S3.mk c'.a c'.b (Kd.mk c'.c.v:Kd .u64)):Cu (S3 (List (Kd .u8)) Int (Kd .u64))) [(-1),0,8,4611686018427387904]=some (r,c2):=e2
    rw [zn,e2']
    exact ⟨_,_,rfl,k2⟩
  | false=>
    obtain ⟨r,c2,e2,_,_,_,k2⟩:=uh (F:=F) (c:=Cu.mk c') (n:=g.1) hk (by omega)
    have e2':yf F (Cu.mk (S3.mk c'.a c'.b (Kd.mk c'.c.v:Kd .u64)):Cu (S3 (List (Kd .u8)) Int (Kd .u64))) g.1=some (r,c2):=e2
    rw [zj,e2']
    exact ⟨_,_,rfl,k2⟩
 unfold vq
 cases decide (g.1 < 1) with
 | true=>exact j c.v true (h.le (by omega))
 | false=>
   cases decide (g.1 > 8) with
   | true=>exact j c.v true (h.le (by omega))
   | false=>
     obtain ⟨r,c2,e2,k2⟩:=QH (F:=F) (c:=Cu.mk c.v) (n:=24) h (by omega)
     have e2':xR F (Cu.mk (S3.mk c.v.a c.v.b (Kd.mk c.v.c.v:Kd .u64)):Cu (S3 (List (Kd .u8)) Int (Kd .u64))) 24=some (r,c2):=e2
     rw [zj,zj,e2']
     exact j c2 r k2
theorem zin {x:Int}:(Mg l x).length≤l.length + 1:=by
 unfold Mg
 split
 · omega
 · simp only [Yl,Xl,List.length_drop,List.length_singleton];omega
theorem zjg {c:CC} (hF:500≤F) (hG:g.2.length < F) (hs:Sm g.2.length) (hc:Ck c.v.a c.v.b 5000):∃ y c',vo F c g=some (y,c')∧OkB y 40:=by
 unfold vo
 obtain ⟨l,c2,e2,h3,k2⟩:=MY (F:=F) (m:=5000) (g:=g) hF (by omega) (min g.1 8).toNat 0 F c.v.a c.v.b c.v.c.v [] (by omega) (by omega) hc rfl
 have e2':wF F (Cu.mk (S3.mk c.v.a c.v.b (Kd.mk c.v.c.v:Kd .u64)):Cu (S3 (List (Kd .u8)) Int (Kd .u64))) g=some (l,c2):=e2
 rw [e2',zc,WG hG hs,zc]
 have j1:∀ b,OkB b 8→(∀ x∈b,x.length≤20)→∃ y c',vl F (l,c2) g b=some (y,c')∧OkB y 40:=by
  intro b hb h20
  have hbl:=hb.1
  unfold vl
  by_cases hp:(b.length:Int) > 0
  · rw [zt hp,zn]
    obtain ⟨i,c3,e3,i0,i1,_,k3⟩:=uh (F:=F) (c:=cu c2.a c2.b c2.c.v) (n:=(b.length:Int)) k2 (by omega)
    have e3':yf F (Cu.mk (S3.mk (l,c2).2.a (l,c2).2.b (Kd.mk (l,c2).2.c.v:Kd .u64)):Cu (S3 (List (Kd .u8)) Int (Kd .u64))) (b.length:Int)=some (i,c3):=e3
    have hi:=i1 (by omega)
    obtain ⟨i,rfl⟩:∃ k:Nat,i=k:=⟨i.toNat,by omega⟩
    obtain ⟨q,c4,e4,q0,q1,_,k4⟩:=uh (F:=F) (c:=cu c3.a c3.b c3.c.v) (n:=10) k3 (by omega)
    have e4':yf F (Cu.mk (S3.mk ((i:Int),c3).2.a ((i:Int),c3).2.b (Kd.mk ((i:Int),c3).2.c.v:Kd .u64)):Cu (S3 (List (Kd .u8)) Int (Kd .u64))) 10=some (q,c4):=e4
    have hx:=hb.2 _ (xr (d:=[]) (show i < b.length by omega))
    have hid:idx b (i:Int)=some (b.getD i []):=z8 (by omega)
    have JN:∃ y c',some (b,(S3.mk (q,c4).2.a (q,c4).2.b (Kd.mk (q,c4).2.c.v:Kd .u64)))=some (y,c')∧OkB y 40:=⟨b,_,rfl,by omega,hb.2⟩
    rw [e3',zc,e4',zc]
    show ∃ y c',(bif (q == 0) then (idx b (i:Int)).bind _ else bif (q == 1) then (idx b (i:Int)).bind _ else bif (q == 2) then (sub b 0 (i:Int)).bind _ else bif (q == 3) then _ else bif (q == 4) then _ else _)=some (y,c')∧_
    rw [hid]
    cases (q == 0) with
    | true=>
      rw [zn,zc]
      by_cases hz:((b.getD i []).length:Int) > 0
      · rw [zt hz,zn,zc]
        have hsub:sub (b.getD i []) 1 ((b.getD i []).length:Int)=some ((b.getD i []).drop 1):=J2 (i:=1) (by omega)
        rw [hsub,zc,zc]
        refine ⟨_,_,rfl,?_⟩
        have:=zdu (i:=((i:Int),c3).1.toNat) (x:=(b.getD i []).drop 1) hb (by rw [List.length_drop];omega)
        exact ⟨by have:=this.1;omega,this.2⟩
      · rw [zD hz,zj];exact JN
    | false=>
      rw [zj]
      cases (q == 1) with
      | true=>
        rw [zn,zc]
        obtain ⟨r,c5,e5,k5⟩:=zjQ (F:=F) (g:=g) (c:=cu c4.a c4.b c4.c.v) k4 (by omega)
        have e5':vq F (Cu.mk (S3.mk (q,c4).2.a (q,c4).2.b (Kd.mk (q,c4).2.c.v:Kd .u64)):Cu (S3 (List (Kd .u8)) Int (Kd .u64))) g=some (r,c5):=e5
        have hpl:=zin (l:=b.getD i []) (x:=r)
        have hx8:=h20 _ (xr (d:=[]) (show i < b.length by omega))
        rw [e5',zc]
        show ∃ y c',(ZH F (b.getD i []) r).bind _=some (y,c')∧_
        rw [Qu (by omega) (by omega),zc,zc]
        have:=zdu (i:=((i:Int),c3).1.toNat) (x:=Mg (b.getD i []) r) hb (by omega)
        exact ⟨_,_,rfl,by have:=this.1;omega,this.2⟩
      | false=>
        rw [zj]
        cases (q == 2) with
        | true=>
          rw [zn]
          have s1:sub b 0 (i:Int)=some (b.take i):=zbR (by omega)
          have s2:sub b (w64 (((i:Int),c3).1 + 1)) (b.length:Int)=some (b.drop (i + 1)):=by
           show sub b (w64 ((i:Int) + 1)) _=_
           rw [yh (show i < b.length by omega) (by unfold Sm;omega)]
           exact J2 (by omega)
          rw [s1,zc,s2,zc,vU (by simp;omega),zc]
          refine ⟨_,_,rfl,by simp;omega,fun y hy=>?_⟩
          rcases zK.1 hy with hy | hy
          · exact hb.2 y (List.mem_of_mem_take hy)
          · exact hb.2 y (List.mem_of_mem_drop hy)
        | false=>
          rw [zj]
          cases (q == 3) with
          | true=>
            rw [zn]
            have hlast:=hb.2 _ (xr (d:=[]) (show b.length - 1 < b.length by omega))
            rw [vU (by simp;omega),zc,wr (by omega) (by omega),show (b.length:Int) - 1=((b.length - 1:Nat):Int) by omega,z8 (d:=[]) (by omega),zc,zlX (by omega),zc,vU (by simp;omega),zc]
            refine ⟨_,_,rfl,by simp;omega,fun y hy=>?_⟩
            simp only [zK,wI] at hy
            rcases hy with (rfl | hy) | rfl
            · simp
            · exact hb.2 y hy
            · exact hlast
          | false=>
            rw [zj]
            cases (q == 4) with
            | true=>
              rw [zn]
              obtain ⟨r,c5,e5,r0,r1,_,k5⟩:=uh (F:=F) (c:=cu c4.a c4.b c4.c.v) (n:=2) k4 (by omega)
              have e5':yf F (Cu.mk (S3.mk (q,c4).2.a (q,c4).2.b (Kd.mk (q,c4).2.c.v:Kd .u64)):Cu (S3 (List (Kd .u8)) Int (Kd .u64))) 2=some (r,c5):=e5
              have hr:=r1 (by omega)
              rw [e5',zc]
              have lp:∀ d k b,b.length + d=20→d < k→OkB b 20→∃ y c',wN F (r,c5) k b=some (y,c')∧OkB y 40:=by
               intro d
               induction d with
               | zero=>
                 intro k b hd hk hb
                 obtain ⟨k,rfl⟩:∃ k',k=k' + 1:=⟨k - 1,by omega⟩
                 simp only [wN]
                 rw [show w64 (16 + (r,c5).1)=16 + r from wr (by omega) (by omega),zD (by omega),zj]
                 exact ⟨_,_,rfl,by omega,hb.2⟩
               | succ d ih=>
                 intro k b hd hk hb
                 obtain ⟨k,rfl⟩:∃ k',k=k' + 1:=⟨k - 1,by omega⟩
                 simp only [wN]
                 rw [show w64 (16 + (r,c5).1)=16 + r from wr (by omega) (by omega)]
                 by_cases hlt:(b.length:Int) < 16 + r
                 · rw [zt hlt,zn,vU (by simp;omega),zc]
                   refine ih k _ (by simp;omega) (by omega) ?_
                   have:=zjd (x:=[]) hb (by simp)
                   exact ⟨by simp;omega,this.2⟩
                 · rw [zD hlt,zj]
                   exact ⟨_,_,rfl,by have:=hb.1;omega,hb.2⟩
              exact lp (20 - b.length) F b (by omega) (by omega) ⟨by omega,hb.2⟩
            | false=>exact JN
  · rw [zD hp,zj]
    exact ⟨b,_,rfl,by omega,hb.2⟩
 have nil:OkB [] 8:=⟨by simp,fun x hx=>by cases hx⟩
 have jf:∃ y c',vd F (l,c2) g false=some (y,c')∧OkB y 40:=j1 [] nil fun x hx=>by cases hx
 cases hgd:xl g with
 | false=>exact jf
 | true=>
   have h8:=yx hgd
   rw [zn]
   unfold vI
   show ∃ y c',((YN F g l).bind _).bind _=some (y,c')∧_
   rw [Ku h8.1 h8.2 (by omega) (by omega) (by unfold Sm;omega),zc,zc]
   cases ho:wl g.1 l with
   | false=>exact jf
   | true=>
     unfold vd
     have hlen:=vf ho
     have e5:Zn F g (l,c2).1=some (.of (wy g l l.length)):=by
      show wk F l g F [] 0=_
      rw [ze8]
      have:yV F l g F [] 0=some (wy g l l.length):=zbC hgd ho (by omega) hG hs
      rw [this];rfl
     rw [zn,e5]
     have hle:∀ x∈wy g l l.length,x.length≤8:=by
      intro x hx
      obtain ⟨t,_,rfl⟩:=xd.1 hx
      have:=zeV (g:=g) (l:=l) (i:=t)
      omega
     exact j1 _ ⟨by rw [Zi];omega,fun x hx=>by have:=hle x hx;omega⟩ fun x hx=>by have:=hle x hx;omega
theorem zbq {code:LB} (hF:500≤F) (hc:∀ y∈code,0≤y.v∧y.v≤255):∃ g b,yP F code=some (g,b)∧g.2.length≤400∧OkB b 40:=by
 unfold yP
 obtain ⟨g,c,e,hg,hck⟩:=K6 (F:=F) (c:=cu code 0 0) ⟨hc,Int.le_refl _,Int.le_refl _⟩ hF
 rw [e,zc]
 obtain ⟨b,c2,e2,h2⟩:=zjg (F:=F) (g:=g) (c:=cu c.a c.b c.c.v) hF (by omega) (by unfold Sm;omega) hck
 have e2':vo F (Cu.mk (S3.mk (g,c).2.a (g,c).2.b (Kd.mk (g,c).2.c.v:Kd .u64)):Cu (S3 (List (Kd .u8)) Int (Kd .u64))) (g,c).1=some (b,c2):=e2
 rw [e2']
 exact ⟨g,b,rfl,hg,h2⟩
end
theorem zfH {F:Nat} {code:LB} (hF:2097152≤F) (hc:∀ y∈code,0≤y.v∧y.v≤255):YK F code=some true:=by
 unfold YK Ko
 rw [zc]
 cases hbig:decide ((code.length:Int) > 65536) with
 | true=>rfl
 | false=>
   have hlen:=of_decide_eq_false hbig
   rw [zj]
   obtain ⟨g,l,e1,hg,hl⟩:=M9 (F:=F) (by omega) hc
   obtain ⟨h,b,e2,hh,hb⟩:=zbq (F:=F) (by omega) hc
   have hs:Sm g.2.length:=by unfold Sm;omega
   have hG:g.2.length < F:=by omega
   have hs2:Sm h.2.length:=by unfold Sm;omega
   have hG2:h.2.length < F:=by omega
   have hbl:=hb.1
   have hB:Bg F b:=⟨by omega,fun x hx=>by have:=hb.2 x hx;omega,by omega⟩
   obtain ⟨a1,a2⟩:=zfs (F:=F) (g:=g) (l:=l) (by omega) hG (by omega) (by unfold Sm;omega) hs
   obtain ⟨b1,b2⟩:=zhj hB hG2 hs2
   have c1:=zcc hB hG2 hs2
   have c2:=zio hB hG2 hs2
   have hbag:∀ x∈wy g l l.length,x.length≤g.1.toNat:=by
    intro x hx
    obtain ⟨t,_,rfl⟩:=xd.1 hx
    exact zeV
   have J1:ZT F (h,b) (bif xl h && pdB h b then (dds [] b,true) else ([],false))=some true:=by
    unfold ZT
    cases hgp:(xl h && pdB h b) with
    | false=>rfl
    | true=>
      rw [zn,yQ,zj]
      have hgp2:=hgp
      rw [zq] at hgp2
      obtain ⟨hgd,hpd⟩:=hgp2
      have h8:=yx hgd
      have ho:=Qi hgd hpd
      have hol:=vf ho
      have hsep:=zj8 hgd hpd
      have d1:=(Ul (F:=F) (g:=h) (l:=dds [] b) (by omega) hG2 (by omega) (by unfold Sm;omega) hs2).2
      unfold fsF at d1
      rw [hgd,ho,wK,zn] at d1
      obtain ⟨w,hw0,hpw,hiff⟩:=zlB (F:=F) hgd (by omega) hG2 hs2
      show (xZ F h (dds [] b)).bind _=_
      rw [d1,zc]
      show (wU F h).bind _=_
      have hle:=znm (g:=h) (l:=dds [] b) (ZR (xs:=wds b) b.length) hsep
      have hge:=zmk hgd ho hiff
      rw [hpw,zc,zn,zn]
      show (YE F (WP h (dds [] b) (dds [] b).length)).bind _=_
      rw [zcg (by rw [XM];omega) (by rw [XM];unfold Sm;omega),zc,XM]
      show (uF F b).bind _=_
      rw [Nw (by omega) (by unfold Sm;omega) hB.each,zc,zt hle,zn]
      show some (decide (w≤mxL (wds b) b.length))=_
      rw [zt (by omega)]
   have J3:vr F (g,l) (bif xl g && wl g.1 l then (wy g l l.length,true) else ([],false)) (h,b) (bif xl h && pdB h b then (dds [] b,true) else ([],false)) false=some true:=by
    unfold vr
    rw [zj]
    cases hgo:(xl g && wl g.1 l) with
    | false=>exact J1
    | true=>
      rw [zn,zn]
      have hgo2:=hgo
      rw [zq] at hgo2
      obtain ⟨hgd,ho⟩:=hgo2
      have h8:=yx hgd
      have hol:=vf ho
      have hbL:=Zi (g:=g) (l:=l) (m:=l.length)
      have hB2:Bg F (wy g l l.length):=⟨by omega,fun x hx=>by have:=hbag x hx;omega,by omega⟩
      have d1:=zcc hB2 hG hs
      rw [hgd,ziW hgd ho,wK] at d1
      have d2:=(Ul (F:=F) (g:=g) (l:=l) (by omega) hG (by omega) (by unfold Sm;omega) hs).2
      unfold fsF at d2
      rw [hgo,zn] at d2
      show (yE F g (wy g l l.length)).bind _=_
      rw [d1,zc]
      show (xZ F g l).bind _=_
      rw [d2,zc,yQ,zj,zj,zj]
      show (uF F (wy g l l.length)).bind _=_
      rw [Nw (by omega) (by unfold Sm;omega) hB2.each,zc]
      show (YE F (WP g l l.length)).bind _=_
      rw [zcg (by rw [XM];omega) (by rw [XM];unfold Sm;omega),zc,XM,hbL,zcz hgd ho,Zf]
      exact J1
   have hri:∀ R:List Int×Bool,R=(bif xl h && pdB h b then (dds [] b,true) else ([],false))→YB F R.1 R.1=some true:=by
    intro R hR
    have:R.1.length≤8:=by
     rw [hR]
     cases hgp:(xl h && pdB h b) with
     | false=>simp
     | true=>
       rw [zq] at hgp
       have h8:=yx hgp.1
       have:=vf (Qi hgp.1 hgp.2)
       show (dds [] b).length≤8;omega
    exact zbJ (by omega) (by unfold Sm;omega)
   have htb:∀ R:List (List Int)×Bool,R=(bif xl g && wl g.1 l then (wy g l l.length,true) else ([],false))→YO F R.1 R.1=some true:=by
    intro R hR
    have:R.1.length≤20∧∀ x∈R.1,x.length≤8:=by
     rw [hR]
     cases hgo:(xl g && wl g.1 l) with
     | false=>exact ⟨by simp,fun x hx=>by cases hx⟩
     | true=>
       rw [zq] at hgo
       have h8:=yx hgo.1
       exact ⟨by show (wy g l l.length).length≤20;rw [Zi];exact hl,fun x hx=>by have:=hbag x hx;omega⟩
    exact zfI (by omega) (by unfold Sm;omega) fun x hx=>⟨by have:=this.2 x hx;omega,by have:=this.2 x hx;unfold Sm;omega⟩
   unfold ww
   rw [e1,zc,zc]
   show (wz F g l).bind _=_
   rw [a2,zc]
   show (wC F g l).bind _=_
   rw [a1,zc,Zf,zj,htb _ rfl,zc,yQ]
   unfold YH
   rw [zj,e2,zc]
   show (yE F h b).bind _=_
   rw [c1,zc]
   show (yZ F h b).bind _=_
   rw [c2,zc,Zf,zj,Zf]
   unfold YI
   rw [zj]
   show (wD F h b).bind _=_
   rw [b2,zc]
   show (wB F h b).bind _=_
   rw [b1,zc,Zf,zj]
   have vi:=hri _ rfl
   cases hgd:xl h with
   | false=>
     rw [hgd] at J3 vi
     simp only [wv,zj] at J3 vi ⊢
     rw [Zf,zj,vi,zc,yQ]
     exact J3
   | true=>
     rw [hgd] at J3 vi
     simp only [yg,zn] at J3 vi ⊢
     have e6:((bif pdB h b then (dds [] b,true) else (([]:List Int),false)).2 != pdB h b)=false:=by cases pdB h b <;> rfl
     rw [e6,zj,vi,zc,yQ]
     exact J3
end Go.Zq
