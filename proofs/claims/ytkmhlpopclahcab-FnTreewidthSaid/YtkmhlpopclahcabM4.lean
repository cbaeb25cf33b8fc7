/- Plain mathematics: what the functions answer (part 4). Conditions: stated in each theorem. -/
import Derived.Test.YtkmhlpopclahcabM2
import Derived.Test.YtkmhlpopclahcabM1
import Derived.Test.YtkmhlpopclahcabM3
set_option linter.unusedVariables false
set_option linter.unusedSimpArgs false
namespace Go.Zq
def pcN (n a:Nat):Nat:=yO a.testBit n
end Go.Zq
namespace Go.Zq
def nxS (g:Gr) (s:Nat×Nat) (step:Int):Nat×Nat:=(mkm (Ud s.1.testBit step) g.1.toNat,mkm (spr g (fun j=>!Ud s.1.testBit step j) s.2.testBit) g.1.toNat)
def cnS (g:Gr) (k:Int) (s:Nat×Nat) (step:Int):Bool:=zmb g.1.toNat s.1.testBit step && !(decide (step≥0) && ((pcN g.1.toNat s.1:Int) == k))
inductive Rch (g:Gr) (k:Int):Nat×Nat→Prop
 | init:Rch g k (0,2 ^ g.1.toNat - 1)
 | step {s:Nat×Nat} {step:Int}:Rch g k s→cnS g k s step=true→Rch g k (nxS g s step)
structure Gst (g:Gr) (k:Int) (s:Nat×Nat):Prop where
 lt1:s.1 < 2 ^ g.1.toNat
 lt2:s.2 < 2 ^ g.1.toNat
 dis:∀ j,s.1.testBit j=true→s.2.testBit j=false
 cl:∀ a b,adj g a b=true→s.2.testBit a=true→s.1.testBit b=false→s.2.testBit b=true
 sz:(pcN g.1.toNat s.1:Int)≤k
theorem Mv {p:Nat→Bool} {x:Nat} (hx:p x=false):∀ {n:Nat},x < n→yO (fun j=>p j || j == x) n=yO p n + 1
 | 0,h=>by omega
 | n + 1,h=>by
   unfold yO
   rw [List.range_succ,List.countP_append,List.countP_append]
   by_cases e:x=n
   · subst e
     have:(List.range x).countP (fun j=>p j || j == x)=(List.range x).countP p:=by
      apply List.countP_congr
      intro j hj
      rw [List.mem_range] at hj
      have:(j == x)=false:=by simp;omega
      rw [this,Bool.or_false]
     rw [this]
     simp [hx]
   · have:=Mv hx (n:=n) (by omega)
     unfold yO at this
     rw [this]
     have e2:(n == x)=false:=by simp;omega
     simp [e2]
     omega
theorem zmc {n a j:Nat} (ha:a < 2 ^ n) (hj:a.testBit j=true):j < n:=by
 refine Classical.byContradiction fun h=>?_
 rw [Nat.testBit_lt_two_pow (Nat.lt_of_lt_of_le ha (Nat.pow_le_pow_right (by decide) (by omega)))] at hj
 cases hj
theorem zdw {p:Nat→Bool} {step:Int} (h:0≤step) (j:Nat):Ud p step j=(p j || j == step.toNat):=by
 unfold Ud KY
 rw [if_neg (by omega),if_neg (by omega)]
theorem zhm {p:Nat→Bool} {step:Int} (h:step < 0) {j:Nat} (hj:Ud p step j=true):p j=true:=by
 unfold Ud at hj
 rw [if_pos h,Bool.and_eq_true] at hj
 exact hj.1
theorem zc0 {n:Nat} {p:Nat→Bool} {step:Int} (h:0≤step) (hc:zmb n p step=true):step.toNat < n∧p step.toNat=false:=by
 unfold zmb KY at hc
 rw [if_neg (by omega),Bool.and_eq_true,decide_eq_true_eq,decide_eq_false (by omega),beq_iff_eq] at hc
 exact ⟨by omega,hc.2⟩
theorem zjf {g:Gr} (hg:xa g=true) {k:Int} (hk:0≤k):Gst g k (0,2 ^ g.1.toNat - 1):=by
 have:=Nat.two_pow_pos g.1.toNat
 refine ⟨by omega,by show 2 ^ g.1.toNat - 1 < _;omega,fun j hj=>?_,fun a b h _ _=>?_,?_⟩
 · rw [Nat.zero_testBit] at hj;cases hj
 · show (2 ^ g.1.toNat - 1).testBit b=true
   rw [Nat.testBit_two_pow_sub_one]
   have:=LV hg h
   exact decide_eq_true (by omega)
 · show ((yO (Nat.testBit 0) g.1.toNat:Nat):Int)≤k
   have:yO (Nat.testBit 0) g.1.toNat=0:=by
    unfold yO
    rw [List.countP_eq_zero]
    intro j _
    rw [Nat.zero_testBit];simp
   rw [this];exact hk
theorem zhe {g:Gr} (hg:xa g=true) {k:Int} {s:Nat×Nat} {step:Int} (hs:Gst g k s) (hc:cnS g k s step=true):Gst g k (nxS g s step):=by
 unfold cnS at hc
 rw [Bool.and_eq_true] at hc
 obtain ⟨hc,hk⟩:=hc
 refine ⟨WN,WN,fun j hj=>?_,fun a b hab ha hb=>?_,?_⟩
 · show (mkm (spr g (fun j=>!Ud s.1.testBit step j) s.2.testBit) g.1.toNat).testBit j=false
   have h1:(mkm (Ud s.1.testBit step) g.1.toNat).testBit j=true:=hj
   rw [ym,Bool.and_eq_true] at h1
   rw [ym]
   cases e:spr g (fun j=>!Ud s.1.testBit step j) s.2.testBit j with
   | false=>rw [Bool.and_false]
   | true=>
     unfold spr at e
     obtain ⟨y,hy,h⟩:=xd.1 e
     simp only [Bool.and_eq_true] at h
     have:=Lw (p:=fun j=>!Ud s.1.testBit step j) h.1.2 h.2
     simp only [h1.2] at this
     cases this
 · show (mkm (spr g (fun j=>!Ud s.1.testBit step j) s.2.testBit) g.1.toNat).testBit b=true
   have h1:(mkm (spr g (fun j=>!Ud s.1.testBit step j) s.2.testBit) g.1.toNat).testBit a=true:=ha
   have h2:(mkm (Ud s.1.testBit step) g.1.toNat).testBit b=false:=hb
   have hl:=LV hg hab
   have hbn:b < g.1.toNat:=by omega
   rw [ym,decide_eq_true hbn,Bool.true_and] at h2 ⊢
   rw [ym,Bool.and_eq_true] at h1
   obtain ⟨_,e⟩:=h1
   unfold spr at e ⊢
   obtain ⟨y,hy,h⟩:=xd.1 e
   refine xd.2 ⟨y,hy,?_⟩
   simp only [Bool.and_eq_true] at h ⊢
   refine ⟨h.1,wK hg hy h.1.2 h.2 ?_ hab⟩
   simp only [h2];rfl
 · show ((yO (mkm (Ud s.1.testBit step) g.1.toNat).testBit g.1.toNat:Nat):Int)≤k
   have e1:yO (mkm (Ud s.1.testBit step) g.1.toNat).testBit g.1.toNat=yO (Ud s.1.testBit step) g.1.toNat:=ZU fun j hj=>by rw [ym,decide_eq_true hj,Bool.true_and]
   rw [e1]
   have hsz:=hs.sz
   unfold pcN at hsz hk
   by_cases h:step < 0
   · have:=Uh (p:=Ud s.1.testBit step) (q:=s.1.testBit) (n:=g.1.toNat) fun j _ hj=>zhm h hj
     omega
   · obtain ⟨h1,h2⟩:=zc0 (by omega) hc
     have e2:yO (Ud s.1.testBit step) g.1.toNat=yO s.1.testBit g.1.toNat + 1:=by
      rw [← Mv h2 h1]
      exact ZU fun j _=>zdw (by omega) j
     rw [decide_eq_true (show step≥0 by omega),Bool.true_and,Bool.not_eq_true',beq_eq_false_iff_ne] at hk
     omega
theorem zjp {g:Gr} (hg:xa g=true) {k:Int} (hk:0≤k) {s:Nat×Nat} (h:Rch g k s):Gst g k s:=by
 induction h with
 | init=>exact zjf hg hk
 | step _ hc ih=>exact zhe hg ih hc
end Go.Zq
namespace Go.Zq
end Go.Zq
namespace Go.Zq
end Go.Zq
namespace Go.Zq
end Go.Zq
namespace Go.Zq
def cod (s:Nat×Nat):Nat:=s.1 + 256 * s.2
theorem zdc {l:List Nat} {N:Nat} (hn:l.Nodup) (h:∀ x∈l,x < N):l.length≤N:=by
 have:=M8 N (l.map fun x:Nat=>(x:Int)) (by
  rw [List.nodup_iff_pairwise_ne] at hn ⊢
  rw [List.pairwise_map]
  exact hn.imp fun h=>by omega) (by
  intro x hx
  obtain ⟨y,hy,rfl⟩:=List.mem_map.1 hx
  have:=h y hy
  omega)
 have h2:=vK (p:=fun j=>decide ((j:Int)∈l.map fun x:Nat=>(x:Int))) (n:=N)
 rw [this,List.length_map] at h2
 exact h2
structure Bfs (g:Gr) (k:Int) (T:List (Nat×Nat)) (P:List (NL Int)) (sn:List Bool):Prop where
 fst:T[0]?=some (0,2 ^ g.1.toNat - 1)
 rch:∀ s∈T,Rch g k s
 pln:P.length=T.length
 prg:∀ i,i < P.length→(P.getD i .nil).list.length≤i
 sln:sn.length=65536
 see:∀ c,c < 65536→(sn.getD c false=true↔∃ s∈T.tail,cod s=c)
 nod:(T.tail.map cod).Nodup
theorem Bfs.len {g:Gr} {k:Int} {T:List (Nat×Nat)} {P:List (NL Int)} {sn:List Bool} (hg:xa g=true) (h6:g.1≤6) (hk:0≤k) (h:Bfs g k T P sn):T.length≤16385:=by
 have:=zdc (N:=16384) h.nod (by
  intro c hc
  obtain ⟨s,hs,rfl⟩:=List.mem_map.1 hc
  have hst:=zjp hg hk (h.rch s (List.mem_of_mem_tail hs))
  have hp:=Nat.pow_le_pow_right (n:=2) (by decide) (show g.1.toNat≤6 by omega)
  have h1:=hst.lt1
  have h2:=hst.lt2
  unfold cod
  omega)
 rw [List.length_map,List.length_tail] at this
 omega
end Go.Zq
namespace Go.Zq
end Go.Zq
namespace Go.Zq
end Go.Zq
namespace Go.Zq
section
variable {g:Gr} {l:List Int}
theorem zcZ (hg:xa g=true) (ho:w3 g.1 l=true) {i:Nat} (hi:i < l.length):∃ x:Nat,l.getD i 0=(x:Int)∧x < g.1.toNat:=by
 have h8:=zY hg
 have hr:=Uz ho h8.1 _ (ww (d:=0) hi)
 exact ⟨(l.getD i 0).toNat,by omega,by omega⟩
theorem zaE (hg:xa g=true) (ho:w3 g.1 l=true) {b:Nat} (hb:b < g.1.toNat):∃ t,t < l.length∧l.getD t 0=(b:Int):=by
 have:=Kr ho (x:=(b:Int)) (by omega) (by omega)
 obtain ⟨t,ht,he⟩:=List.mem_iff_getElem.1 this
 exact ⟨t,ht,by rw [List.getD_eq_getElem?_getD,List.getElem?_eq_getElem ht];exact he⟩
end
end Go.Zq
namespace Go.Zq
def frS (g:Gr) (l:List Int) (i:Nat):Int:=((yO (frt g (xi l i)) g.1.toNat:Nat):Int)
theorem ze8 {F:Nat} {b:List Int} {cl} {w:S1 (List Int)} {o:NL Int} {s:Int} {q:List Int} {c:NL Int→Int→Option (List Int)} {c':NL Int→Int→Option (NL Int)} (hc:∀ o s,c o s=(c' o s).map NL.list) :
    ∀ (k:Nat) (t:Int),yV F b cl w o s q c k t=(z6 F b cl w o s q c' k t).map NL.list
 | 0,_=>rfl
 | k + 1,t=>by
   simp only [yV,z6,Option.map_bind,Z5,ze8 hc k,hc,Function.comp_def]
theorem zeK {F:Nat} {b:List Int} {cl} {w:S1 (List Int)} :
    ∀ (k:Nat) (o:NL Int) (s:Int),yT F b cl w k o s=(zP F b cl w k o s).map NL.list
 | 0,_,_=>rfl
 | k + 1,o,s=>by
   simp only [yT,zP,Option.map_bind,Z5,ze8 (zeK k),Function.comp_def,Option.map_some]
theorem Li {F:Nat} {g:Gr}:WM F g=(Yi F g).map fun r=>(r.1.list,r.2):=by
 simp only [WM,Yi,w4,xG,Option.map_bind,Z5,zeK,Function.comp_def,Option.map_some,NL.list,Option.bind_map]
section
variable {g:Gr} {l:List Int}
theorem zb9 (hg:xa g=true) (ho:w3 g.1 l=true) {i:Nat}:(mkm (xi l i) g.1.toNat).testBit=xi l i:=by
 have h8:=zY hg
 have hr:=Uz ho h8.1
 funext j
 rw [ym]
 by_cases hj:j < g.1.toNat
 · simp [hj]
 · rw [decide_eq_false hj,Bool.false_and]
   symm
   unfold xi
   rw [decide_eq_false_iff_not]
   intro h
   have:=hr _ (List.mem_of_mem_take h)
   omega
theorem NO:mkm (xi l 0) g.1.toNat=0:=by
 apply Nat.eq_of_testBit_eq;intro j;rw [ym];simp [xi]
theorem zfv (hg:xa g=true) (ho:w3 g.1 l=true):mkm (xi l l.length) g.1.toNat=2 ^ g.1.toNat - 1:=by
 refine Qv WN fun x hx=>?_
 rw [zb9 hg ho]
 obtain ⟨t,ht,he⟩:=zaE hg ho hx
 unfold xi
 rw [decide_eq_true_iff,List.take_length]
 have:l.getD t 0∈l:=ww ht
 rw [he] at this;exact this
theorem zjv (hg:xa g=true) (ho:w3 g.1 l=true) {i:Nat}:frC g (mkm (xi l i) g.1.toNat)=frS g l i:=by
 unfold frC frS;rw [zb9 hg ho]
theorem zng {n:Nat} {T:Nat→Int} {t:Int} {d m:Nat} (hn:g.1.toNat=n) (h:Grd n (fun m x=>decide (max (frP g m x) (T (m ||| 2 ^ x))≤t)) d m l):∀ b:List Int,bq b=m.testBit →
    bq (b++l)=(2 ^ n - 1).testBit∧∀ i,i < l.length→((yO (frt g (bq (b++l.take (i + 1)))) n:Nat):Int)≤t:=by
 induction h with
 | done=>intro b hb;exact ⟨by rw [List.append_nil,hb],fun i hi=>by simp at hi⟩
 | step hm hf _ ih=>
   rename_i d m x l _
   intro b hb
   have hx:=wH hf
   have hbx:bq (b++[(x:Int)])=(m ||| 2 ^ x).testBit:=by
    funext j
    rw [Nat.testBit_or,Nat.testBit_two_pow,← hb]
    unfold bq
    rw [Bool.eq_iff_iff]
    have:((j:Int)=(x:Int))↔x=j:=by omega
    simp [this]
   obtain ⟨h1,h2⟩:=ih _ hbx
   rw [List.append_assoc] at h1
   refine ⟨h1,fun i hi=>?_⟩
   cases i with
   | zero=>
     have hp:max (frP g m x) (T (m ||| 2 ^ x))≤t:=by have:=hx.2.1;simp only [Bool.and_eq_true,decide_eq_true_eq] at this;exact this.2
     have:frP g m x≤t:=by omega
     unfold frP frC at this
     rw [hn,← hbx] at this
     simpa using this
   | succ i=>
     have:=h2 i (by simpa using hi)
     rw [List.append_assoc] at this
     exact this
theorem Ni (n:Nat):yO (fun j=>!(0:Nat).testBit j) n=n:=by simp [yO]
theorem K9 {n:Nat} (hl:l.length=n) (h:bq l=(2 ^ n - 1).testBit):w3 (n:Int) l=true:=by
 unfold w3
 rw [Bool.and_eq_true]
 refine ⟨by simp [hl],?_⟩
 rw [xI]
 intro j hj
 have:=congrFun h j
 unfold bq at this
 rw [this,Nat.testBit_two_pow_sub_one]
 simpa using hj
theorem zde {F:Nat} (hg:xa g=true) (h9:300≤F) (hG:g.2.length < F) (hs:Sm g.2.length) :
    ∃ w l,0≤w∧Jb F g=some (w,true)∧vQ F g=some (w,true)∧J8 F g=some (l,true)∧WM F g=some (l,true)∧w3 g.1 l=true∧(∀ i,i < l.length→frS g l (i + 1)≤w) ∧
     ∀ t,0≤t→(w≤t↔Ch g.1.toNat (frC g) t 0 (2 ^ g.1.toNat - 1)):=by
 have h8:=zY hg
 have hpow:=Nat.two_pow_pos g.1.toNat
 have hp256:=Y0 (n:=g.1.toNat) (by omega)
 obtain ⟨best,b1,b2,b3⟩:=Up (F:=F) (nn:=0) hg h9
 have hpw:=zha hg h9 hG hs b2 b3
 have hT0:0≤best.getD 0 0:=by
  have h:=b3 0 hpow
  have h:best.getD 0 0=_:=h
  rw [h]
  by_cases he:y6 g.1.toNat 0=[]
  · rw [he];exact Int.le_refl _
  · refine Xk he fun y _=>?_
    have:=Js (g:=g) (m:=0 ||| 2 ^ y.toNat)
    have:0≤frP g 0 y.toNat:=this
    show 0≤max (frP g 0 y.toNat) _
    omega
 have hc0:=Ni g.1.toNat
 have hf0:frC g 0≤best.getD 0 0:=by
  unfold frC
  rw [← yJ,Qc (fun j=>Nat.zero_testBit j)]
  exact hT0
 obtain ⟨l,hl,hsr⟩:=(zfD (F:=F) (T:=fun m=>best.getD m 0) hg h9 hG hs b3 hT0 g.1.toNat 0 [] F hpow (by funext j;simp [bq]) (by simp) (by simp) hc0 (by omega)).1 hf0 (Int.le_refl _)
 obtain ⟨o,f1,f2⟩:=Lq hg h9 b2 hl .nil F (by omega) (by show 0 + g.1.toNat≤100;omega)
 have hgd:=zng (g:=g) (T:=fun m=>best.getD m 0) rfl hl [] (by funext j;simp [bq])
 have hio:Yi F g=some (o,true):=by
  unfold Yi
  rw [ug hG (by omega) hs,Option.bind_some,hg,Bool.not_true,cond_false,XP hg hG hs,Option.bind_some,b1,Option.bind_some]
  unfold xG
  have f1':zP F best ⟨(⟨yh g⟩,()),()⟩ ⟨yh g⟩ F .nil 0=some o:=f1
  rw [f1',Option.bind_some]
 have f2':o.list=l:=f2
 have hgn:((g.1.toNat:Nat):Int)=g.1:=by omega
 refine ⟨best.getD 0 0,l,hT0,?_,?_,?_,?_,?_,?_,?_⟩
 · unfold Jb
   rw [ZW hG hs,Option.bind_some,hg,Bool.not_true,cond_false,hpw,Option.bind_some]
 · unfold vQ
   rw [ug hG (by omega) hs,Option.bind_some,hg,Bool.not_true,cond_false,XP hg hG hs,Option.bind_some]
   have:=(zmr hg h9 hG hs).1
   rw [← this,hpw,Option.bind_some]
 · unfold J8
   rw [ZW hG hs,Option.bind_some,hg,Bool.not_true,cond_false,hpw,Option.bind_some]
   have hsr':LQ F g [] (best.getD 0 0)=some ([]++l,true):=hsr
   rw [hsr',Option.bind_some]
   rfl
 · rw [Li,hio]
   show some (o.list,true)=_
   rw [f2']
 · have:=K9 (zeI hl) hgd.1
   rwa [hgn] at this
 · intro i hi
   exact hgd.2 i hi
 · intro t ht
   exact zav (c:=frC g) (by omega) b3 ht 0 hpow
end
end Go.Zq
namespace Go.Zq
section
variable {F:Nat} {g:Gr} {l:List Int}
end
end Go.Zq
namespace Go.Zq
theorem Lj {F:Nat} {g:Gr} {nn:Int} (hg:xa g=true) (hF:300≤F) :
    ∃ best:List Int,yd F ⟨yh g⟩ nn ⟨(⟨yh g⟩,()),()⟩=some best∧best.length=2 ^ g.1.toNat∧Yl g.1.toNat (elC g) nn (fun m=>best.getD m 0):=by
 have h8:=zY hg
 obtain ⟨n,hn⟩:∃ n:Nat,g.1.toNat=n:=⟨_,rfl⟩
 have hn8:n≤8:=by omega
 have hpow:=Nat.two_pow_pos n
 have hp256:2 ^ n≤256:=by
  have:=Nat.pow_le_pow_right (n:=2) (by decide) hn8
  simpa using this
 have hall:yg F ⟨yh g⟩=some ((2 ^ n - 1:Nat):Int):=by
  unfold yg
  rw [wi,hn,yP (by omega),Option.bind_some,xp (by omega) (by omega)]
  congr 1;omega
 have hw:w64 (((2 ^ n - 1:Nat):Int) + 1)=((2 ^ n:Nat):Int):=by rw [xp (by omega) (by omega)];omega
 unfold yd
 rw [hall,Option.bind_some,hw,Lr (by omega),Option.bind_some,Option.bind_some,hn]
 have key:∀ d k (best:List Int),d≤2 ^ n→d < k→best.length=2 ^ n →
     (∀ j,d≤j→j < 2 ^ n→best.getD j 0=mn (fun x=>max (elC g j x.toNat) (best.getD (j ||| 2 ^ x.toNat) 0)) (y6 n j) nn) →
     ∃ b,zB F nn ⟨(⟨yh g⟩,()),()⟩ ⟨yh g⟩ k best ((d:Int) - 1)=some b∧b.length=2 ^ n∧Yl n (elC g) nn (fun m=>b.getD m 0):=by
  intro d
  induction d with
  | zero=>
    intro k best _ hk hlen hrec
    obtain ⟨k,rfl⟩:∃ k',k=k' + 1:=⟨k - 1,by omega⟩
    refine ⟨best,?_,hlen,fun m hm=>hrec m (by omega) hm⟩
    simp only [zB]
    rw [decide_eq_false (by omega),cond_false]
  | succ d ih=>
    intro k best hd hk hlen hrec
    obtain ⟨k,rfl⟩:∃ k',k=k' + 1:=⟨k - 1,by omega⟩
    have hdn:d < 2 ^ n:=by omega
    have e0:((d + 1:Nat):Int) - 1=(d:Int):=by omega
    have hmk:zK .i64 ((2 ^ n - 1:Nat):Int) (d:Int)=((mkm (fun x=>!d.testBit x) n:Nat):Int):=by
     obtain ⟨c,hc,_,hb⟩:=w8 (a:=2 ^ n - 1) (b:=d) (by omega) (by omega)
     rw [hc]
     congr 1
     refine vw fun j=>?_
     rw [hb,Nat.testBit_two_pow_sub_one]
    have hl8:(y6 n d).length≤8:=by unfold y6;rw [yJ];exact Nat.le_trans vK hn8
    simp only [zB]
    rw [e0,decide_eq_true (by omega),cond_true,zL (d:=0) (by omega),Option.bind_some,hall,Option.bind_some,hmk,Z4 hn8 (by omega),Option.bind_some,Int.toNat_natCast]
    obtain ⟨s,hs,he⟩:=YJ (L:=fun k2 t s=>zG F nn ⟨(⟨yh g⟩,()),()⟩ ⟨yh g⟩ (d:Int) (y6 n d) (zB F nn ⟨(⟨yh g⟩,()),()⟩ ⟨yh g⟩ k) k2 s t) (n:=(y6 n d).length)
     (fun t s=>s=best.set d (mn (fun x=>max (elC g d x.toNat) (best.getD (d ||| 2 ^ x.toNat) 0)) ((y6 n d).take t) nn)) (fin:=fun s=>zB F nn ⟨(⟨yh g⟩,()),()⟩ ⟨yh g⟩ k s ((d:Int) - 1)) (by
       intro k2 t s ht hI
       subst hI
       refine ⟨_,rfl,?_⟩
       obtain ⟨x,hx,hxn,hxb⟩:=wO.1 (ww (d:=0) ht)
       have hgt:=ZC d (by omega) x (by omega) hxb
       have hxp:=Nat.two_pow_pos x
       have hor:=Ww hdn hxn
       have hcost:=zdO (F:=F) (m:=d) (x:=x) hg (by omega) (by rw [hn];exact hdn) (by rw [hn];exact hxn)
       have htake:(y6 n d).take (t + 1)=(y6 n d).take t++[(x:Int)]:=by
        rw [List.take_add_one,List.getElem?_eq_getElem ht]
        rw [List.getD_eq_getElem?_getD,List.getElem?_eq_getElem ht,Option.getD_some] at hx
        rw [hx];rfl
       have hget:∀ a:Int,(best.set d a).getD (d ||| 2 ^ x) 0=best.getD (d ||| 2 ^ x) 0:=by
        intro a
        rw [List.getD_eq_getElem?_getD,List.getElem?_set_ne (by omega),← List.getD_eq_getElem?_getD]
       have hgetd:∀ a:Int,(best.set d a).getD d 0=a:=by
        intro a
        rw [List.getD_eq_getElem?_getD,List.getElem?_set_self (by omega),Option.getD_some]
       simp only [zG,yy,yx]
       rw [decide_eq_true (show (t:Int) < ((y6 n d).length:Int) by omega),cond_true,zL (d:=0) ht,Option.bind_some,hx]
       rw [hcost,Option.bind_some,yP (by omega),Option.bind_some,Za (by omega) (uc (by omega)),zL (d:=0) (by rw [List.length_set];omega),Option.bind_some,hget,zL (d:=0) (by rw [List.length_set];omega),Option.bind_some,Option.bind_some,hgetd,Int.toNat_natCast,List.set_set,z5 ht (by unfold Sm;omega),htake,JF]
       have hmax:(if best.getD (d ||| 2 ^ x) 0 > elC g d x then best.getD (d ||| 2 ^ x) 0 else elC g d x)=max (elC g d x) (best.getD (d ||| 2 ^ x) 0):=by
        by_cases h:best.getD (d ||| 2 ^ x) 0 > elC g d x
        · rw [if_pos h,Int.max_eq_right (by omega)]
        · rw [if_neg h,Int.max_eq_left (by omega)]
       rw [hmax,Int.toNat_natCast]
       by_cases ht0:t=0
       · subst ht0
         rw [if_pos (.inl (by simp))]
         rfl
       · have hne:(y6 n d).take t≠[]:=by
          intro e
          have:=congrArg List.length e
          rw [List.length_take] at this
          simp only [List.length_nil] at this
          omega
         have hb:((t:Int) == 0)=false:=by rw [beq_eq_false_iff_ne];omega
         rw [hb,cond_false]
         by_cases hlt:max (elC g d x) (best.getD (d ||| 2 ^ x) 0) < mn (fun x=>max (elC g d x.toNat) (best.getD (d ||| 2 ^ x.toNat) 0)) ((y6 n d).take t) nn
         · rw [decide_eq_true hlt,cond_true,if_pos (.inr hlt)]
         · rw [decide_eq_false hlt,cond_false,if_neg (fun h=>h.elim hne hlt)]) (by
       intro k2 s hI
       simp only [zG]
       rw [decide_eq_false (show ¬ ((y6 n d).length:Int) < ((y6 n d).length:Int) by omega),cond_false,xp (by omega) (by omega)]) F (best.set d nn) (by omega) rfl
    have he':zG F nn ⟨(⟨yh g⟩,()),()⟩ ⟨yh g⟩ (d:Int) (y6 n d) (zB F nn ⟨(⟨yh g⟩,()),()⟩ ⟨yh g⟩ k) F (best.set d nn) 0=zB F nn ⟨(⟨yh g⟩,()),()⟩ ⟨yh g⟩ k s ((d:Int) - 1):=he
    rw [List.take_length] at hs
    rw [show zo (fun x=>!d.testBit x) n=y6 n d from rfl,he']
    refine ih k s (by omega) (by omega) (by rw [hs,List.length_set];exact hlen) ?_
    have hsd:s.getD d 0=mn (fun x=>max (elC g d x.toNat) (best.getD (d ||| 2 ^ x.toNat) 0)) (y6 n d) nn:=by
     rw [hs,List.getD_eq_getElem?_getD,List.getElem?_set_self (by omega),Option.getD_some]
    have hsne:∀ j,j≠d→s.getD j 0=best.getD j 0:=by
     intro j hj
     rw [hs,List.getD_eq_getElem?_getD,List.getElem?_set_ne (by omega),← List.getD_eq_getElem?_getD]
    intro j h1 h2
    have hcg:mn (fun x=>max (elC g j x.toNat) (best.getD (j ||| 2 ^ x.toNat) 0)) (y6 n j) nn=mn (fun x=>max (elC g j x.toNat) (s.getD (j ||| 2 ^ x.toNat) 0)) (y6 n j) nn:=by
     refine Ut fun y hy=>?_
     obtain ⟨x,rfl,hxn,hxb⟩:=wO.1 hy
     have hgt:=ZC j (by omega) x (by omega) hxb
     have hxp:=Nat.two_pow_pos x
     rw [Int.toNat_natCast,hsne _ (by omega)]
    by_cases e:j=d
    · subst e;rw [hsd,hcg]
    · rw [hsne j e,hrec j (by omega) h2,hcg]
 have e1:((2 ^ n - 1:Nat):Int)=((2 ^ n:Nat):Int) - 1:=by omega
 rw [e1]
 exact key (2 ^ n) F _ (by omega) (by omega) (by simp) (fun j h1 h2=>absurd h2 (by omega))
theorem zfz {F:Nat} {g:Gr} (hg:xa g=true) (hF:300≤F) (hG:g.2.length < F) (hs:Sm g.2.length) :
    ∃ out:List Int,Z1 F g=some out∧out.length=2 ^ g.1.toNat∧Yl g.1.toNat (elC g) (-1) (fun m=>out.getD m 0):=by
 have h8:=zY hg
 obtain ⟨n,hn⟩:∃ n:Nat,g.1.toNat=n:=⟨_,rfl⟩
 have hn8:n≤8:=by omega
 have hgn:g.1=(n:Int):=by omega
 have hpow:=Nat.two_pow_pos n
 have hp256:=Y0 hn8
 rw [hn]
 unfold Z1
 rw [hgn,yP (by omega),Option.bind_some,Lr (by omega),Option.bind_some,List.length_replicate]
 have hw0:w64 (((2 ^ n:Nat):Int) - 1)=((2 ^ n:Nat):Int) - 1:=xp (by omega) (by omega)
 rw [hw0]
 have key:∀ d k (out:List Int),d≤2 ^ n→d < k→out.length=2 ^ n →
     (∀ j,d≤j→j < 2 ^ n→out.getD j 0=mn (fun x=>max (elC g j x.toNat) (out.getD (j ||| 2 ^ x.toNat) 0)) (y6 n j) (-1)) →
     ∃ b,x6 F g k out ((d:Int) - 1)=some b∧b.length=2 ^ n∧Yl n (elC g) (-1) (fun m=>b.getD m 0):=by
  intro d
  induction d with
  | zero=>
    intro k out _ hk hlen hrec
    obtain ⟨k,rfl⟩:∃ k',k=k' + 1:=⟨k - 1,by omega⟩
    refine ⟨out,?_,hlen,fun m hm=>hrec m (by omega) hm⟩
    simp only [x6]
    rw [decide_eq_false (by omega),cond_false]
  | succ d ih=>
    intro k out hd hk hlen hrec
    obtain ⟨k,rfl⟩:∃ k',k=k' + 1:=⟨k - 1,by omega⟩
    have hdn:d < 2 ^ n:=by omega
    have e0:((d + 1:Nat):Int) - 1=(d:Int):=by omega
    have hv0:∀ y,0≤(fun x:Int=>max (elC g d x.toNat) (out.getD (d ||| 2 ^ x.toNat) 0)) y:=by
     intro y
     show 0≤max (elC g d y.toNat) (out.getD (d ||| 2 ^ y.toNat) 0)
     have:0≤elC g d y.toNat:=by unfold elC;omega
     omega
    simp only [x6]
    rw [e0,decide_eq_true (by omega),cond_true,hgn,Lz hn8 (by omega) (by omega),Option.bind_some]
    obtain ⟨s,hs2,he⟩:=YJ (L:=fun k2 x b=>xZ F g out (d:Int) (zo d.testBit n) (x6 F g k) k2 b x) (n:=n)
     (fun x b=>b=mn (fun x=>max (elC g d x.toNat) (out.getD (d ||| 2 ^ x.toNat) 0)) (zo (fun x=>!d.testBit x) x) (-1)) (fin:=fun b=>x6 F g k (out.set d b) ((d:Int) - 1)) (by
       intro k2 x b hx hI
       subst hI
       refine ⟨_,rfl,?_⟩
       simp only [xZ,Yg,Z3]
       rw [hgn,decide_eq_true (show (x:Int) < (n:Int) by omega),cond_true,Ke hn8 hx (by omega),Option.bind_some,z5 hx (by unfold Sm;omega)]
       cases hb:d.testBit x with
       | true=>rw [cond_true,vi,hb];simp
       | false=>
         have hgt:=ZC d (by omega) x (by omega) hb
         have hor:=Ww hdn hx
         have hxp:=Nat.two_pow_pos x
         have hw:w64 ((d:Int) + ((2 ^ x:Nat):Int))=((d ||| 2 ^ x:Nat):Int):=by rw [xp (by omega) (by omega)];omega
         have hlat:=zbe (F:=F) (m:=d) (x:=x) hg (by omega) hG hs (by rw [hn];exact hdn) (by rw [hn];exact hx)
         rw [hn] at hlat
         have hlat':vC F g (zo (fun j=>d.testBit j) n) (x:Int)=some (.of (zo (vr g d x) n)):=by rw [zdV];exact congrArg (Option.map NL.of) hlat
         have hlen':((NL.of (zo (vr g d x) n)).list.length:Int)=((yO (vr g d x) n:Nat):Int):=by show ((zo (vr g d x) n).length:Int)=_;rw [yJ]
         rw [cond_false,hlat',Option.bind_some,yP (by omega),Option.bind_some,hw,zL (d:=0) (by omega),Option.bind_some,hlen',Ly,Option.bind_some,vi,hb,Bool.not_false,if_pos rfl,JF,Int.toNat_natCast]
         have hel:((yO (vr g d x) n:Nat):Int)=elC g d x:=by unfold elC;rw [hn]
         rw [hel]
         by_cases hl:zo (fun x=>!d.testBit x) x=[]
         · rw [hl,MR,if_pos (.inl rfl),decide_eq_true (by omega)];rfl
         · have h0:=Xk (nn:=-1) hl (fun y _=>hv0 y)
           rw [decide_eq_false (by omega),cond_false]
           by_cases hlt:max (elC g d x) (out.getD (d ||| 2 ^ x) 0) < mn (fun x=>max (elC g d x.toNat) (out.getD (d ||| 2 ^ x.toNat) 0)) (zo (fun x=>!d.testBit x) x) (-1)
           · rw [decide_eq_true hlt,cond_true,if_pos (.inr hlt)]
           · rw [decide_eq_false hlt,cond_false,if_neg (fun h=>h.elim hl hlt)]) (by
       intro k2 b hI
       simp only [xZ]
       rw [hgn,decide_eq_false (show ¬ (n:Int) < (n:Int) by omega),cond_false,zL (d:=0) (by omega),Option.bind_some,Int.toNat_natCast,xp (by omega) (by omega)]) F (-1) (by omega) rfl
    have he':xZ F g out (d:Int) (zo d.testBit n) (x6 F g k) F (-1) 0=x6 F g k (out.set d s) ((d:Int) - 1):=he
    rw [he']
    have hsd:(out.set d s).getD d 0=s:=by rw [List.getD_eq_getElem?_getD,List.getElem?_set_self (by omega),Option.getD_some]
    have hsne:∀ j,j≠d→(out.set d s).getD j 0=out.getD j 0:=by
     intro j hj
     rw [List.getD_eq_getElem?_getD,List.getElem?_set_ne (by omega),← List.getD_eq_getElem?_getD]
    refine ih k (out.set d s) (by omega) (by omega) (by rw [List.length_set];exact hlen) ?_
    intro j h1 h2
    have hcg:mn (fun x=>max (elC g j x.toNat) (out.getD (j ||| 2 ^ x.toNat) 0)) (y6 n j) (-1)=mn (fun x=>max (elC g j x.toNat) ((out.set d s).getD (j ||| 2 ^ x.toNat) 0)) (y6 n j) (-1):=by
     refine Ut fun y hy=>?_
     obtain ⟨x,rfl,hxn,hxb⟩:=wO.1 hy
     have hgt:=ZC j (by omega) x (by omega) hxb
     have hxp:=Nat.two_pow_pos x
     rw [Int.toNat_natCast,hsne _ (by omega)]
    by_cases e:j=d
    · subst e;rw [hsd,← hcg];exact hs2
    · rw [hsne j e,hrec j (by omega) h2,hcg]
 exact key (2 ^ n) F _ (by omega) (by omega) (by simp) (fun j h1 h2=>absurd h2 (by omega))
end Go.Zq
namespace Go.Zq
theorem KJ {F:Nat} {g:Gr} {best:List Int} (hg:xa g=true) (hF:300≤F) (hb:best.length=2 ^ g.1.toNat) :
    ∀ {d m:Nat} {l:List Int},Grd g.1.toNat (fun m x=>decide (max (elC g m x) (best.getD (m ||| 2 ^ x) 0)≤best.getD 0 0)) d m l →
    ∀ (o:NL Int) (k:Nat),d < k→o.list.length + d≤100→∃ o',zO F best ⟨(⟨yh g⟩,()),()⟩ ⟨yh g⟩ k o (m:Int)=some o'∧o'.list=o.list++l:=by
 have h8:=zY hg
 obtain ⟨n,hn⟩:∃ n:Nat,g.1.toNat=n:=⟨_,rfl⟩
 have hn8:n≤8:=by omega
 have hpow:=Nat.two_pow_pos n
 have hp256:=Y0 hn8
 have hall:yg F ⟨yh g⟩=some ((2 ^ n - 1:Nat):Int):=by
  unfold yg
  rw [wi,hn,yP (by omega),Option.bind_some,xp (by omega) (by omega)]
  congr 1;omega
 rw [hn] at hb ⊢
 intro d m l h
 induction h with
 | done=>
   intro o k hk _
   obtain ⟨k,rfl⟩:∃ k',k=k' + 1:=⟨k - 1,by omega⟩
   refine ⟨o,?_,by simp⟩
   simp only [zO]
   rw [hall,Option.bind_some,bne_self_eq_false,cond_false]
 | step hm hf hgrd ih=>
   rename_i d m x l
   intro o k hk ho
   obtain ⟨k,rfl⟩:∃ k',k=k' + 1:=⟨k - 1,by omega⟩
   obtain ⟨hx,hp,_⟩:=wH hf
   simp only [Bool.and_eq_true,Bool.not_eq_true',decide_eq_true_eq] at hp
   obtain ⟨hxb,hle⟩:=hp
   have hmf:m≠2 ^ n - 1:=by
    rintro rfl
    rw [Nat.testBit_two_pow_sub_one,decide_eq_true hx] at hxb;cases hxb
   have hmk:zK .i64 ((2 ^ n - 1:Nat):Int) (m:Int)=((mkm (fun x=>!m.testBit x) n:Nat):Int):=by
    obtain ⟨c,hc,_,hb⟩:=w8 (a:=2 ^ n - 1) (b:=m) (by omega) (by omega)
    rw [hc]
    congr 1
    refine vw fun j=>?_
    rw [hb,Nat.testBit_two_pow_sub_one]
   have hl8:(y6 n m).length≤8:=by unfold y6;rw [yJ];exact Nat.le_trans vK hn8
   obtain ⟨o',ho1,ho2⟩:=ih (.of (o.list++[(x:Int)])) k (by omega) (by show (o.list++[(x:Int)]).length + d≤100;rw [List.length_append,List.length_singleton];omega)
   refine ⟨o',?_,by rw [ho2];simp [NL.list]⟩
   have hne:(((m:Int)) != ((2 ^ n - 1:Nat):Int))=true:=by rw [bne_iff_ne];omega
   simp only [zO]
   rw [hall,Option.bind_some,hne,cond_true,Option.bind_some,hmk,Z4 hn8 (by omega),Option.bind_some]
   rw [Le,Option.map_eq_some_iff] at hf
   obtain ⟨i,hi,hix⟩:=hf
   have hil:=(wH hi).1
   have hstep:∀ (i:Nat) (hi:i < (y6 n m).length),∃ y:Nat,(y6 n m).getD i 0=y∧y < n∧xl F ⟨yh g⟩ (m:Int) (y:Int)=some (elC g m y)∧vR .i64 1 (y:Int)=some ((2 ^ y:Nat):Int)∧ior .i64 (m:Int) ((2 ^ y:Nat):Int)=((m ||| 2 ^ y:Nat):Int)∧idx best (((m ||| 2 ^ y:Nat)):Int)=some (best.getD (m ||| 2 ^ y) 0):=by
    intro i hi
    obtain ⟨y,hy,hyn,hyb⟩:=wO.1 (ww (d:=0) hi)
    have:=Ww hm hyn
    exact ⟨y,hy,hyn,zdO hg (by omega) (by rw [hn];exact hm) (by rw [hn];exact hyn),yP (by omega),Za (by omega) (uc (by omega)),zL (by omega)⟩
   have hz:idx best 0=some (best.getD 0 0):=zL (xs:=best) (i:=0) (d:=0) (by omega)
   have hmax:∀ a b:Int,(if b > a then b else a)=max a b:=by
    intro a b
    by_cases h:b > a
    · rw [if_pos h,Int.max_eq_right (by omega)]
    · rw [if_neg h,Int.max_eq_left (by omega)]
   refine JG (L:=fun k2 i=>zZ F best ⟨(⟨yh g⟩,()),()⟩ ⟨yh g⟩ o (m:Int) (y6 n m) (zO F best ⟨(⟨yh g⟩,()),()⟩ ⟨yh g⟩ k) k2 i) hi ?_ ?_ F (by show (y6 n m).length < F;omega)
   · intro k2 i hi hpi
     obtain ⟨y,hy,hyn,y1,y2,y3,y4⟩:=hstep i hi
     have hpi:decide (max (elC g m ((y6 n m).getD i 0).toNat) (best.getD (m ||| 2 ^ ((y6 n m).getD i 0).toNat) 0)≤best.getD 0 0)=false:=hpi
     rw [hy,Int.toNat_natCast] at hpi
     simp only [zZ]
     rw [decide_eq_true (show (i:Int) < ((y6 n m).length:Int) from by have:i < (y6 n m).length:=hi;omega),cond_true,zL (xs:=y6 n m) (d:=0) hi,Option.bind_some,hy,y1,Option.bind_some,y2,Option.bind_some,y3,y4,Option.bind_some,hz,Option.bind_some,hmax,hpi,cond_false,z5 (n:=(y6 n m).length) hi (by have:(zo (fun x=>!m.testBit x) n).length≤8:=hl8;unfold Sm;omega)]
   · intro k2
     obtain ⟨y,hy,hyn,y1,y2,y3,y4⟩:=hstep i hil
     have hyx:y=x:=by
      have e:((y6 n m).getD i 0).toNat=x:=hix
      rw [hy] at e;omega
     subst hyx
     have hle':decide (max (elC g m y) (best.getD (m ||| 2 ^ y) 0)≤best.getD 0 0)=true:=decide_eq_true hle
     simp only [zZ]
     rw [decide_eq_true (show (i:Int) < ((y6 n m).length:Int) from by have:i < (y6 n m).length:=hil;omega),cond_true,zL (xs:=y6 n m) (d:=0) hil,Option.bind_some,hy,y1,Option.bind_some,y2,Option.bind_some,y3,y4,Option.bind_some,hz,Option.bind_some,hmax,hle',cond_true,vF (by omega),Option.bind_some,Option.bind_some]
     rw [y3]
     exact ho1
end Go.Zq
namespace Go.Zq
theorem zbv {F m x:Nat} {g:Gr} {R:List Int} (hg:xa g=true) (hF:20≤F) (hG:g.2.length < F) (hs:Sm g.2.length) (hm:m < 2 ^ g.1.toNat) (hx:x < g.1.toNat) (hl:R.length≤8) (hR:bq R=m.testBit) (hr:∀ y∈R,0≤y∧y < g.1) :
    ∃ o,vC F g R (x:Int)=some o∧(o.list.length:Int)=elC g m x:=by
 have h8:=zY hg
 have hc:=vK (p:=m.testBit) (n:=g.1.toNat)
 have h:Yz F g R (x:Int)=some (zo (vr g m x) g.1.toNat):=by
  rw [← zbe (F:=F) hg hF hG hs hm hx]
  refine zcp fun e=>?_
  rw [YW (by omega) (by unfold Sm;omega),YW (by rw [yJ];omega) (by unfold Sm;rw [yJ];omega)]
  congr 1
  rw [Bool.eq_iff_iff,decide_eq_true_eq,decide_eq_true_eq,y5]
  constructor
  · intro he
    have h1:=hr e he
    refine ⟨e.toNat,by omega,by omega,?_⟩
    rw [← hR]
    unfold bq
    rw [Int.toNat_of_nonneg h1.1]
    exact decide_eq_true he
  · rintro ⟨j,rfl,hj,hb⟩
    rw [← hR] at hb
    exact of_decide_eq_true hb
 refine ⟨.of (zo (vr g m x) g.1.toNat),by rw [zdV,h];rfl,?_⟩
 show ((zo (vr g m x) g.1.toNat).length:Int)=_
 rw [yJ];rfl
theorem zjV {F:Nat} {g:Gr} {T:List Int} (hg:xa g=true) (hF:300≤F) (hG:g.2.length < F) (hs:Sm g.2.length) (hb:T.length=2 ^ g.1.toNat) :
    ∀ {d m:Nat} {l:List Int},Grd g.1.toNat (fun m x=>decide (max (elC g m x) (T.getD (m ||| 2 ^ x) 0)≤T.getD 0 0)) d m l →
    ∀ (R:List Int) (k:Nat),d < k→R.length + d=g.1.toNat→bq R=m.testBit→(∀ y∈R,0≤y∧y < g.1)→w6 F g T k R (m:Int)=some (R++l):=by
 have h8:=zY hg
 obtain ⟨n,hn⟩:∃ n:Nat,g.1.toNat=n:=⟨_,rfl⟩
 have hn8:n≤8:=by omega
 have hgn:g.1=(n:Int):=by omega
 have hpow:=Nat.two_pow_pos n
 have hp256:=Y0 hn8
 rw [hn] at hb ⊢
 have hz:idx T 0=some (T.getD 0 0):=zL (xs:=T) (i:=0) (d:=0) (by omega)
 intro d m l h
 induction h with
 | done=>
   intro R k hk hR _ _
   obtain ⟨k,rfl⟩:∃ k',k=k' + 1:=⟨k - 1,by omega⟩
   simp only [w6]
   rw [hgn,decide_eq_false (by omega),cond_false,List.append_nil]
 | step hm hf hgrd ih=>
   rename_i d m x l
   intro R k hk hR hbq hr
   obtain ⟨k,rfl⟩:∃ k',k=k' + 1:=⟨k - 1,by omega⟩
   obtain ⟨hx,hp,hlo⟩:=wH hf
   simp only [Bool.and_eq_true,Bool.not_eq_true',decide_eq_true_eq] at hp
   obtain ⟨hxb,hle⟩:=hp
   have hhas:∀ y:Nat,wC F R (y:Int)=some (m.testBit y):=by
    intro y
    rw [YW (by omega) (by unfold Sm;omega),← hbq];rfl
   simp only [w6]
   rw [hgn,decide_eq_true (by omega),cond_true]
   have hst:∀ x:Nat,x < n→m.testBit x=false→vR .i64 1 (x:Int)=some ((2 ^ x:Nat):Int)∧w64 ((m:Int) + ((2 ^ x:Nat):Int))=((m ||| 2 ^ x:Nat):Int)∧idx T (((m ||| 2 ^ x:Nat)):Int)=some (T.getD (m ||| 2 ^ x) 0):=by
    intro x hx hb
    have hgt:=ZC m (by omega) x (by omega) hb
    have hxp:=Nat.two_pow_pos x
    have hor:=Ww hm hx
    exact ⟨yP (by omega),by rw [xp (by omega) (by omega)];omega,zL (by omega)⟩
   refine JG (L:=fun k2 i=>wt F g T R (m:Int) (w6 F g T k) k2 i) hf ?_ ?_ F (by omega)
   · intro k2 i hi hpi
     simp only [wt,uF]
     rw [hhas i,Option.bind_some,cond_true,z5 hi (by unfold Sm;omega)]
     cases hb:m.testBit i with
     | true=>rfl
     | false=>
       obtain ⟨a1,a2,a3⟩:=hst i hi hb
       obtain ⟨o,o1,o2⟩:=zbv (F:=F) (m:=m) (x:=i) hg (by omega) hG hs (by rw [hn];exact hm) (by omega) (by omega) hbq hr
       have hpi:¬ max (elC g m i) (T.getD (m ||| 2 ^ i) 0)≤T.getD 0 0:=by
        have hpi:(!m.testBit i && decide (max (elC g m i) (T.getD (m ||| 2 ^ i) 0)≤T.getD 0 0))=false:=hpi
        rw [hb] at hpi
        simpa using hpi
       rw [cond_false,o1,Option.bind_some,hz,Option.bind_some,o2]
       by_cases hc:elC g m i > T.getD 0 0
       · rw [decide_eq_true hc,cond_true]
       · rw [decide_eq_false hc,cond_false,a1,Option.bind_some,a2,a3,Option.bind_some,Option.bind_some,decide_eq_true (by omega),cond_true]
   · intro k2
     obtain ⟨a1,a2,a3⟩:=hst x hx hxb
     obtain ⟨o,o1,o2⟩:=zbv (F:=F) (m:=m) (x:=x) hg (by omega) hG hs (by rw [hn];exact hm) (by omega) (by omega) hbq hr
     simp only [wt,uF]
     rw [hhas x,Option.bind_some,hxb,cond_false,o1,Option.bind_some,hz,Option.bind_some,o2,decide_eq_false (by omega),cond_false,a1,Option.bind_some,a2,a3,Option.bind_some,Option.bind_some,decide_eq_false (by omega),cond_false,vF (by omega),Option.bind_some,Option.bind_some,a2]
     rw [ih (R++[(x:Int)]) k (by omega) (by rw [List.length_append,List.length_singleton];omega) ?_ ?_]
     · simp
     · rw [← zht,← hbq]
       funext j
       unfold bq
       simp only [List.mem_append,List.mem_singleton,Bool.decide_or]
       congr 1
       by_cases e:j=x
       · subst e;simp
       · have h1:¬ ((j:Int)=(x:Int)):=by omega
         have h2:(j == x)=false:=by simpa using e
         rw [decide_eq_false h1,h2]
     · intro y hy
       rcases List.mem_append.1 hy with h | h
       · exact hr y h
       · obtain rfl:y=(x:Int):=by simpa using h
         omega
end Go.Zq
namespace Go.Zq
theorem zdB {F:Nat} {b:List Int} {cl} {w:S1 (List Int)} {o:NL Int} {s:Int} {q:List Int} {c:NL Int→Int→Option (List Int)} {c':NL Int→Int→Option (NL Int)} (hc:∀ o s,c o s=(c' o s).map NL.list) :
    ∀ (k:Nat) (t:Int),yj F b cl w o s q c k t=(zZ F b cl w o s q c' k t).map NL.list
 | 0,_=>rfl
 | k + 1,t=>by
   simp only [yj,zZ,Option.map_bind,Z5,zdB hc k,hc,Function.comp_def]
theorem zfg {F:Nat} {b:List Int} {cl} {w:S1 (List Int)} :
    ∀ (k:Nat) (o:NL Int) (s:Int),z8 F b cl w k o s=(zO F b cl w k o s).map NL.list
 | 0,_,_=>rfl
 | k + 1,o,s=>by
   simp only [z8,zO,Option.map_bind,Z5,zdB (zfg k),Function.comp_def,Option.map_some]
theorem Ue {F:Nat} {g:Gr}:y8 F g=(Zm F g).map fun r=>(r.1.list,r.2):=by
 simp only [y8,Zm,yo,xC,Option.map_bind,Z5,zfg,Function.comp_def,Option.map_some,NL.list,Option.bind_map]
theorem zem {F:Nat} {w:S1 (List Int)} {a:Int}:∀ (k:Nat) (o:NL Int) (s:Int),wD F w a k o s=(wu F w a k o s).map fun r=>(r.1.list,r.2)
 | 0,_,_=>rfl
 | k + 1,o,s=>by
   simp only [wD,wu,Zy,Zp,ZB,ZD,Option.map_bind,Z5,zem k,Function.comp_def,Option.map_some]
theorem MV {F:Nat} {g:Gr}:uK F g=(Xg F g).map fun r=>(r.1.list,r.2):=by
 simp only [uK,Xg,Option.map_bind,Z5,zem,Function.comp_def,Option.map_some,NL.list]
section
variable {g:Gr} {l:List Int}
theorem KG {t:Int}:∀ k,elW g l k≤t↔-1≤t∧∀ i,i < k→elV g l i≤t
 | 0=>by
   show (-1:Int)≤t↔_
   exact ⟨fun h=>⟨h,fun i hi=>by omega⟩,fun h=>h.1⟩
 | k + 1=>by
   rw [zcf]
   have ih:=KG (t:=t) k
   constructor
   · intro h
     have h1:=ih.1 (by omega)
     refine ⟨h1.1,fun i hi=>?_⟩
     by_cases e:i=k
     · subst e;omega
     · exact h1.2 i (by omega)
   · rintro ⟨h1,h2⟩
     have h3:=ih.2 ⟨h1,fun i hi=>h2 i (by omega)⟩
     have h4:=h2 k (by omega)
     omega
theorem ziE {T:Nat→Int} {t:Int} (hg:xa g=true) (ho:w3 g.1 l=true) (hT:Yl g.1.toNat (elC g) (-1) T) (ht:-1≤t) (h:∀ i,i < l.length→elV g l i≤t):T 0≤t:=by
 have h8:=zY hg
 have hlen:=ZS ho
 have key:∀ d i,i + d=l.length→T (vp l g.1.toNat i)≤t:=by
  intro d
  induction d with
  | zero=>
    intro i hi
    obtain rfl:i=l.length:=by omega
    have e:vp l g.1.toNat l.length=2 ^ g.1.toNat - 1:=zfv hg ho
    have hpow:=Nat.two_pow_pos g.1.toNat
    rw [e,hT _ (by omega),(Wt (by omega)).2 rfl,MR]
    exact ht
  | succ d ih=>
    intro i hi
    obtain ⟨x,hx,hxn⟩:=zcZ hg ho (show i < l.length by omega)
    have hlt:vp l g.1.toNat i < 2 ^ g.1.toNat:=WN
    have hb:(vp l g.1.toNat i).testBit x=false:=by
     rw [YB hxn];exact UO ho h8.1 (by omega) hx
    have hm:(x:Int)∈y6 g.1.toNat (vp l g.1.toNat i):=wO.2 ⟨x,rfl,hxn,hb⟩
    rw [hT _ hlt]
    refine (Nj (fun e=>by rw [e] at hm;cases hm)).2 ⟨_,hm,?_⟩
    show max (elC g (vp l g.1.toNat i) ((x:Int)).toNat) (T (vp l g.1.toNat i ||| 2 ^ ((x:Int)).toNat))≤t
    rw [Int.toNat_natCast,← W2 (by omega) hx hxn]
    have h1:=ih (i + 1) (by omega)
    have h2:=h i (by omega)
    unfold elV at h2
    rw [hx,Int.toNat_natCast] at h2
    unfold elC
    omega
 have:=key l.length 0 (by omega)
 have e:vp l g.1.toNat 0=0:=NO
 rwa [e] at this
theorem znG {n:Nat} {T:Nat→Int} {t:Int} {d m:Nat} (hn:g.1.toNat=n) (h:Grd n (fun m x=>decide (max (elC g m x) (T (m ||| 2 ^ x))≤t)) d m l):∀ b:List Int,bq b=m.testBit →
    bq (b++l)=(2 ^ n - 1).testBit∧∀ i,i < l.length→elC g (mkm (bq (b++l.take i)) n) (l.getD i 0).toNat≤t:=by
 induction h with
 | done=>intro b hb;exact ⟨by rw [List.append_nil,hb],fun i hi=>by simp at hi⟩
 | step hm hf _ ih=>
   rename_i d m x l _
   intro b hb
   have hx:=wH hf
   have hbx:bq (b++[(x:Int)])=(m ||| 2 ^ x).testBit:=by
    funext j
    rw [Nat.testBit_or,Nat.testBit_two_pow,← hb]
    unfold bq
    rw [Bool.eq_iff_iff]
    have:((j:Int)=(x:Int))↔x=j:=by omega
    simp [this]
   obtain ⟨h1,h2⟩:=ih _ hbx
   rw [List.append_assoc] at h1
   refine ⟨h1,fun i hi=>?_⟩
   cases i with
   | zero=>
     have hp:max (elC g m x) (T (m ||| 2 ^ x))≤t:=by have:=hx.2.1;simp only [Bool.and_eq_true,decide_eq_true_eq] at this;exact this.2
     have:elC g m x≤t:=by omega
     rw [List.take_zero,List.append_nil,hb,WC hm]
     exact this
   | succ i=>
     have:=h2 i (by simpa using hi)
     rw [List.append_assoc] at this
     exact this
theorem zcW {F:Nat} (hg:xa g=true) (h9:300≤F) (hG:g.2.length < F) (hs:Sm g.2.length) :
    ∃ w l,wF F g=some (w,true)∧wz F g=some (w,true)∧xu F g=some (l,true)∧y8 F g=some (l,true)∧w3 g.1 l=true∧elW g l l.length=w ∧
     (∀ l',w3 g.1 l'=true→w≤elW g l' l'.length):=by
 have h8:=zY hg
 have hpow:=Nat.two_pow_pos g.1.toNat
 have hp256:=Y0 (n:=g.1.toNat) (by omega)
 obtain ⟨out,o1,o2,o3⟩:=zfz hg h9 hG hs
 obtain ⟨best,b1,b2,b3⟩:=Lj (F:=F) (nn:=-1) hg h9
 have heq:out=best:=by
  refine List.ext_getElem (by omega) fun i h1 h2=>?_
  have:=zfQ (by omega) o3 b3 i (by omega)
  rwa [List.getD_eq_getElem?_getD,List.getElem?_eq_getElem h1,Option.getD_some,List.getD_eq_getElem?_getD,List.getElem?_eq_getElem h2,Option.getD_some] at this
 subst heq
 obtain ⟨l,hl⟩:=zmR (t:=out.getD 0 0) (by omega) o3 0 hpow (Int.le_refl _)
 have hc0:=Ni g.1.toNat
 rw [hc0] at hl
 obtain ⟨o,f1,f2⟩:=KJ hg h9 o2 hl .nil F (by omega) (by show 0 + g.1.toNat≤100;omega)
 have hs2:=zjV hg h9 hG hs o2 hl [] F (by omega) (by simp) (by funext j;simp [bq]) (by simp)
 have hgd:=znG (g:=g) (T:=fun m=>out.getD m 0) rfl hl [] (by funext j;simp [bq])
 have f2':o.list=l:=f2
 have hgn:((g.1.toNat:Nat):Int)=g.1:=by omega
 have ho:w3 g.1 l=true:=by
  have:=K9 (zeI hl) hgd.1
  rwa [hgn] at this
 have hix:=zL (xs:=out) (i:=0) (d:=0) (by omega)
 rw [show ((0:Nat):Int)=0 from rfl] at hix
 have hlow:∀ l',w3 g.1 l'=true→out.getD 0 0≤elW g l' l'.length:=by
  intro l' ho'
  have h:=(KG (g:=g) (l:=l') (t:=elW g l' l'.length) l'.length).1 (Int.le_refl _)
  exact ziE (T:=fun m=>out.getD m 0) hg ho' o3 h.1 h.2
 have hupp:elW g l l.length≤out.getD 0 0:=by
  refine (KG l.length).2 ⟨?_,fun i hi=>?_⟩
  · have h:=o3 0 hpow
    have h:out.getD 0 0=_:=h
    rw [h]
    by_cases he:y6 g.1.toNat 0=[]
    · rw [he];exact Int.le_refl _
    · have:=Xk (v:=fun x=>max (elC g 0 x.toNat) (out.getD (0 ||| 2 ^ x.toNat) 0)) (nn:=-1) he fun y _=>by
       have:0≤elC g 0 y.toNat:=by unfold elC;omega
       show 0≤max (elC g 0 y.toNat) _
       omega
      exact Int.le_trans (by decide) this
  · exact hgd.2 i hi
 refine ⟨out.getD 0 0,l,?_,?_,?_,?_,ho,Int.le_antisymm hupp (hlow l ho),hlow⟩
 · unfold wF Wo
   rw [ZW hG hs,Option.bind_some,hg,Bool.not_true,cond_false,o1,Option.bind_some,hix,Option.bind_some]
   rfl
 · unfold wz vy xv
   rw [ug hG (by omega) hs,Option.bind_some,hg,Bool.not_true,cond_false,XP hg hG hs,Option.bind_some,b1,Option.bind_some,Option.bind_some,hix,Option.bind_some]
   rfl
 · unfold xu Wi
   rw [ZW hG hs,Option.bind_some,hg,Bool.not_true,cond_false,o1,Option.bind_some]
   have hs2':w6 F g out F [] 0=some ([]++l):=hs2
   rw [hs2',Option.bind_some]
   rfl
 · rw [Ue]
   unfold Zm xv
   rw [ug hG (by omega) hs,Option.bind_some,hg,Bool.not_true,cond_false,XP hg hG hs,Option.bind_some,b1,Option.bind_some,Option.bind_some]
   unfold xC
   have f1':zO F out ⟨(⟨yh g⟩,()),()⟩ ⟨yh g⟩ F .nil 0=some o:=f1
   rw [f1',Option.bind_some]
   show some (o.list,true)=_
   rw [f2']
theorem zi0 {p:Nat→Bool}:∀ (X:List Int) (s:Int) (y:Int),y∈X→mnD g p s X≤(Jv g p y.toNat:Int)
 | [],_,_,h=>by cases h
 | x :: X,s,y,h=>by
   have low:∀ (X:List Int) (s:Int),mnD g p s X≤s:=by
    intro X
    induction X with
    | nil=>intro s;exact Int.le_refl _
    | cons z X ih=>intro s;have:=ih (min s (Jv g p z.toNat:Int));show mnD g p (min s _) X≤s;omega
   show mnD g p (min s (Jv g p x.toNat:Int)) X≤_
   rcases List.mem_cons.1 h with rfl | h
   · have:=low X (min s (Jv g p y.toNat:Int));omega
   · exact zi0 X _ y h
theorem zgt {p:Nat→Bool} {t:Int}:∀ (X:List Int) (s:Int),t≤s→(∀ y∈X,t≤(Jv g p y.toNat:Int))→t≤mnD g p s X
 | [],_,h,_=>h
 | x :: X,s,h,h2=>by
   have:=h2 x (by simp)
   exact zgt X (min s (Jv g p x.toNat:Int)) (by omega) fun y hy=>h2 y (by simp [hy])
theorem zhi:∀ M:Nat,-1≤dgn g M
 | 0=>Int.le_refl _
 | M + 1=>by have:=zhi M;show -1≤max _ _;omega
theorem ziW (hg:xa g=true) (ho:w3 g.1 l=true):∀ M:Nat,M < 2 ^ g.1.toNat→dgn g M≤elW g l l.length
 | 0,_=>((KG (g:=g) (l:=l) l.length).1 (Int.le_refl _)).1
 | M + 1,hM=>by
   have h8:=zY hg
   have ih:=ziW hg ho M (by omega)
   have:mnD g (M + 1).testBit g.1 (zo (M + 1).testBit g.1.toNat)≤elW g l l.length:=by
    obtain ⟨i0,hi0⟩:=Nat.exists_testBit_of_ne_zero (show M + 1≠0 by omega)
    have hlt:i0 < g.1.toNat:=zmc hM hi0
    obtain ⟨t,ht,he⟩:=zaE hg ho hlt
    have hex:∃ i,i < l.length∧(M + 1).testBit (l.getD i 0).toNat=true∧∀ j,j < i→(M + 1).testBit (l.getD j 0).toNat=false:=by
     have hft:Yq (fun i=>(M + 1).testBit (l.getD i 0).toNat) l.length≠none:=by
      intro e
      have:=vu.1 e t ht
      rw [he,Int.toNat_natCast,hi0] at this;cases this
     cases e:Yq (fun i=>(M + 1).testBit (l.getD i 0).toNat) l.length with
     | none=>exact absurd e hft
     | some i=>exact ⟨i,wH e⟩
    obtain ⟨i,hi,h1,h2⟩:=hex
    obtain ⟨x,hx,hxn⟩:=zcZ hg ho hi
    rw [hx,Int.toNat_natCast] at h1
    have hmem:(x:Int)∈zo (M + 1).testBit g.1.toNat:=y5.2 ⟨x,rfl,hxn,h1⟩
    have hd:=zi0 (g:=g) (p:=(M + 1).testBit) _ g.1 _ hmem
    rw [Int.toNat_natCast] at hd
    have hel:=((KG (g:=g) (l:=l) l.length).1 (Int.le_refl _)).2 i hi
    have:(Jv g (M + 1).testBit x:Int)≤elV g l i:=by
     unfold Jv elV
     rw [hx,Int.toNat_natCast]
     have:=Uh (p:=fun y=>(M + 1).testBit y && adj g x y) (q:=vr g (vp l g.1.toNat i) x) (n:=g.1.toNat) (fun j hj h=>by
      simp only [Bool.and_eq_true] at h
      unfold vr
      have hne:j≠x:=by
       rintro rfl
       rw [Qw hg] at h;cases h.2
      have hgj:(vp l g.1.toNat i).testBit j=false:=by
       rw [YB hj]
       unfold xi
       rw [decide_eq_false_iff_not]
       intro hm
       obtain ⟨k,hk,hke⟩:=List.mem_iff_getElem.1 hm
       rw [List.length_take] at hk
       have hkl:l.getD k 0=(j:Int):=by
        rw [List.getElem_take] at hke
        rw [List.getD_eq_getElem?_getD,List.getElem?_eq_getElem (by omega)];exact hke
       have:=h2 k (by omega)
       rw [hkl,Int.toNat_natCast,h.1] at this;cases this
      rw [hgj,Bool.not_false,Bool.true_and,Bool.and_eq_true]
      refine ⟨by simpa using hne,?_⟩
      rw [xd]
      exact ⟨x,hxn,by rw [ve,Bool.true_and];exact h.2⟩)
     omega
    omega
   show max _ _≤_
   omega
theorem zg3 {M m:Nat} (h:m < M):mnD g (m + 1).testBit g.1 (zo (m + 1).testBit g.1.toNat)≤dgn g M:=by
 induction M with
 | zero=>omega
 | succ M ih=>
   show _≤max _ _
   by_cases e:m=M
   · subst e;omega
   · have:=ih (by omega);omega
theorem zif:∀ M:Nat,bcl g M=[]∨∃ m,m < M∧clq g m.testBit=true∧bcl g M=zo m.testBit g.1.toNat
 | 0=>.inl rfl
 | M + 1=>by
   simp only [bcl]
   split
   · rename_i h
     rw [Bool.and_eq_true] at h
     exact .inr ⟨M,by omega,h.1,rfl⟩
   · rcases zif M with h | ⟨m,h1,h2,h3⟩
     · exact .inl h
     · exact .inr ⟨m,by omega,h2,h3⟩
theorem zga (hg:xa g=true):((bcl g (2 ^ g.1.toNat)).length:Int) - 1≤dgn g (2 ^ g.1.toNat - 1):=by
 have h8:=zY hg
 have h0:=zhi (g:=g) (2 ^ g.1.toNat - 1)
 rcases zif (g:=g) (2 ^ g.1.toNat) with h | ⟨m,hm,hc,h⟩
 · rw [h];simpa using h0
 · rw [h,yJ]
   by_cases hz:m=0
   · subst hz
     have:yO (Nat.testBit 0) g.1.toNat=0:=by simp [yO]
     omega
   · have h1:=zg3 (g:=g) (M:=2 ^ g.1.toNat - 1) (m:=m - 1) (by omega)
     rw [show m - 1 + 1=m by omega] at h1
     have hle:yO m.testBit g.1.toNat≤g.1.toNat:=vK
     have h2:=zgt (g:=g) (p:=m.testBit) (t:=(yO m.testBit g.1.toNat:Int) - 1) (zo m.testBit g.1.toNat) g.1 (by omega) (fun y hy=>by
      obtain ⟨x,rfl,hxn,hxb⟩:=y5.1 hy
      rw [Int.toNat_natCast]
      have e:yO (fun j=>(m.testBit j && adj g x j) || j == x) g.1.toNat=yO (fun j=>m.testBit j && adj g x j) g.1.toNat + 1:=Mv (by rw [Qw hg,Bool.and_false]) hxn
      have h3:=Uh (p:=m.testBit) (q:=fun j=>(m.testBit j && adj g x j) || j == x) (n:=g.1.toNat) (fun j hj hb=>by
       by_cases e:j=x
       · simp [e]
       · have:=zfb.1 hc x j hxn hj hxb hb (fun h=>e h.symm)
         simp [hb,this])
      unfold Jv
      omega)
     omega
theorem zsF {w:Int} (hg:xa g=true) (ho:w3 g.1 l=true) (hw:-1≤w) (h0:frS g l 0≤w) (h:∀ i,i < l.length→frS g l (i + 1)≤w):w3 g.1 l.reverse=true∧elW g l.reverse l.reverse.length≤w:=by
 have h8:=zY hg
 have hlen:=ZS ho
 have ho':w3 g.1 l.reverse=true:=by
  unfold w3 at ho ⊢
  rw [Bool.and_eq_true] at ho ⊢
  refine ⟨by simpa using ho.1,?_⟩
  rw [xI]
  intro j hj
  have:=xI.1 ho.2 j hj
  simpa using this
 refine ⟨ho',(KG _).2 ⟨hw,fun i hi=>?_⟩⟩
 rw [List.length_reverse] at hi
 obtain ⟨x,hx,hxn⟩:=zcZ hg ho (show l.length - 1 - i < l.length by omega)
 have hxr:l.reverse.getD i 0=(x:Int):=by
  rw [List.getD_eq_getElem?_getD,List.getElem?_reverse hi,← List.getD_eq_getElem?_getD];exact hx
 have hall:∀ k,k≤l.length→frS g l k≤w:=by
  intro k hk
  cases k with
  | zero=>exact h0
  | succ k=>exact h k (by omega)
 refine Int.le_trans ?_ (hall (l.length - 1 - i) (by omega))
 unfold elV frS
 rw [hxr,Int.toNat_natCast]
 have hsplit:∀ j,j < g.1.toNat→xi l.reverse i j=false→j≠x→xi l (l.length - 1 - i) j=true:=by
  intro j hj hp hne
  obtain ⟨t,ht,he⟩:=zaE hg ho hj
  have htx:t≠l.length - 1 - i:=by
   rintro rfl;rw [hx] at he;omega
  by_cases hlt:t < l.length - 1 - i
  · exact LG hlt ht he
  · exfalso
    have:xi l.reverse i j=true:=LG (t:=l.length - 1 - t) (by omega) (by rw [List.length_reverse];omega) (by
     rw [List.getD_eq_getElem?_getD,List.getElem?_reverse (by omega),← List.getD_eq_getElem?_getD,show l.length - 1 - (l.length - 1 - t)=t by omega];exact he)
    rw [hp] at this;cases this
 have hdis:∀ j,(xi l.reverse i j=true∨j=x)→xi l (l.length - 1 - i) j=false:=by
  intro j hj
  cases e:xi l (l.length - 1 - i) j with
  | false=>rfl
  | true=>
    exfalso
    unfold xi at e
    obtain ⟨k,hk,hke⟩:=List.mem_iff_getElem.1 (of_decide_eq_true e)
    rw [List.length_take] at hk
    rw [List.getElem_take] at hke
    have hkl:l.getD k 0=(j:Int):=by
     rw [List.getD_eq_getElem?_getD,List.getElem?_eq_getElem (by omega)];exact hke
    rcases hj with hj | rfl
    · unfold xi at hj
      obtain ⟨k2,hk2,hke2⟩:=List.mem_iff_getElem.1 (of_decide_eq_true hj)
      rw [List.length_take,List.length_reverse] at hk2
      rw [List.getElem_take,List.getElem_reverse] at hke2
      have h3:=UO ho h8.1 (i:=l.length - 1 - k2) (x:=j) (by omega) (by rw [List.getD_eq_getElem?_getD,List.getElem?_eq_getElem (by omega)];exact hke2)
      have h4:=LG (l:=l) (t:=k) (i:=l.length - 1 - k2) (by omega) (by omega) hkl
      rw [h3] at h4;cases h4
    · have h3:=UO ho h8.1 (i:=l.length - 1 - i) (by omega) hx
      have h4:=LG (l:=l) (t:=k) (i:=l.length - 1 - i) (by omega) (by omega) hkl
      rw [h3] at h4;cases h4
 have:=Uh (p:=vr g (vp l.reverse g.1.toNat i) x) (q:=frt g (xi l (l.length - 1 - i))) (n:=g.1.toNat) (fun j hj hl=>by
  have hne:=zkA hl
  rw [YB hj] at hne
  unfold vr at hl
  rw [Bool.and_eq_true,xd] at hl
  obtain ⟨y,hy,hya⟩:=hl.2
  rw [Bool.and_eq_true] at hya
  have hyw:=Lw (p:=wth (vp l.reverse g.1.toNat i) x) (by unfold wth;simp) hya.1
  unfold wth at hyw
  rw [YB hy,Bool.or_eq_true,beq_iff_eq] at hyw
  unfold frt
  rw [hsplit j hj hne.1 hne.2,Bool.true_and,xd]
  exact ⟨y,hy,by rw [hdis y hyw,YP];simpa using hya.2⟩)
 omega
end
end Go.Zq
namespace Go.Zq
theorem Jz {F:Nat} {xs:List Int} (hF:xs.length < F) (hs:Sm xs.length):XX F xs xs=some true:=by
 unfold XX
 rw [bne_self_eq_false,cond_false]
 rw [XT (L:=fun k i=>ZH F xs xs k i) (n:=xs.length) (p:=fun _=>true) (bad:=some false) (fin:=some true) ?_ ?_ F hF]
 · have:Yb (fun _=>true) xs.length=true:=xI.2 fun _ _=>rfl
   rw [this];rfl
 · intro k i hi
   simp only [ZH]
   rw [decide_eq_true (by omega),cond_true,zL (d:=0) hi,Option.bind_some,Option.bind_some,bne_self_eq_false,cond_false,cond_true,z5 hi hs]
 · intro k
   simp only [ZH]
   rw [decide_eq_false (by omega),cond_false]
theorem Qf {F:Nat} {code:LB} (hF:500≤F) (hc:∀ y∈code,0≤y.v∧y.v≤255):∃ g c,wW F (cu code 0 0)=some (g,c)∧g.2.length≤400∧Ck c.a c.b 5000:=by
 unfold wW
 obtain ⟨g,c',e,h1,h2⟩:=QB (F:=F) (c:=Cu.mk (cu code 0 0).v) (z:=6) ⟨hc,Int.le_refl _,Int.le_refl _⟩ hF (by omega) (by omega)
 rw [e];exact ⟨g,c',rfl,h1,h2⟩
theorem zbR {F:Nat} {g:Gr} (h9:300≤F) (hG:g.2.length < F) (hs:Sm g.2.length):∃ R,uQ F g=some R∧uK F g=some R∧R.1.length≤8∧(xa g=true→(R.1.length:Int) - 1≤dgn g (2 ^ g.1.toNat - 1)):=by
 obtain ⟨R,b,o,h1,h2,h3,h4,h5⟩:=zfu (F:=F) (g:=g) h9 hG hs
 refine ⟨(R,b),h1,?_,h4,fun hg=>?_⟩
 · rw [MV,h2];show some (o.list,b)=_;rw [h3]
 · show (R.length:Int) - 1≤_
   rw [h5 hg]
   exact zga hg
theorem Mf {F:Nat} {code:LB} (hF:2097152≤F) (hc:∀ y∈code,0≤y.v∧y.v≤255):wZ F code=some true:=by
 unfold wZ Kx
 rw [Option.bind_some]
 cases decide ((code.length:Int) > 65536) with
 | true=>rfl
 | false=>
   rw [cond_false]
   obtain ⟨g,c,e,hg,hck⟩:=Qf (F:=F) (by omega) hc
   have e1:wo F code=some g:=by unfold wo;rw [e];rfl
   obtain ⟨l,c',e2,h3,_⟩:=zfI (F:=F) (g:=g) (by omega) (min g.1 8).toNat 0 F c.a c.b c.c.v [] (by omega) (by omega) (hck.le (by omega)) rfl
   have e3:wL F code=some (g,l):=by
    unfold wL
    rw [e,Option.bind_some]
    have e2':vW F (Cu.mk (g,c).2) (g,c).1=some (l,c'):=e2
    rw [e2'];rfl
   have hs:Sm g.2.length:=by unfold Sm;omega
   have hG:g.2.length < F:=by omega
   have c1:=znU (F:=F) (g:=g) hG (by omega) hs
   have c2:=zl8 (F:=F) (g:=g) hG (by omega) hs
   obtain ⟨R,k1,k2,k3,k4⟩:=zbR (F:=F) (g:=g) (by omega) hG hs
   rw [e1,Option.bind_some]
   cases hgd:xa g with
   | false=>
     have p1:wz F g=some (0,false):=by unfold wz;rw [ug hG (by omega) hs,hgd];rfl
     have p2:wF F g=some (0,false):=by unfold wF;rw [ZW hG hs,hgd];rfl
     have b1:y8 F g=some ([],false):=by unfold y8;rw [ug hG (by omega) hs,hgd];rfl
     have b2:xu F g=some ([],false):=by unfold xu;rw [ZW hG hs,hgd];rfl
     rw [hgd,cond_false] at c1 c2
     rw [p1,Option.bind_some,p2,Option.bind_some,b1,Option.bind_some,b2,Option.bind_some,k2,Option.bind_some,k1,Option.bind_some,c2,Option.bind_some,c1,Option.bind_some]
     simp only [bne_self_eq_false,cond_false]
     rw [Jz (by simp;omega) (by unfold Sm;simp),Option.bind_some,Bool.not_true,cond_false,Jz (by omega) (by unfold Sm;omega),Option.bind_some,Bool.not_true,cond_false]
     rfl
   | true=>
     have h8:=zY hgd
     rw [hgd,cond_true] at c1 c2
     obtain ⟨w,b,p2,p1,b2,b1,hob,hbw,hlow⟩:=zcW (F:=F) hgd (by omega) hG hs
     have hblen:=ZS hob
     have hbl:b.length≤8:=by omega
     have d1:=zeU (F:=F) (g:=g) (l:=b) (by omega) hG (by omega) (by unfold Sm;omega) hs
     have d2:=zeU (F:=F) (g:=g) (l:=l) (by omega) hG (by omega) (by unfold Sm;omega) hs
     rw [hgd,hob,Bool.true_and,cond_true,hbw] at d1
     rw [hgd,Bool.true_and] at d2
     obtain ⟨pw,lb,q0,q2,q1,_,_,qo,qf,_⟩:=zde (F:=F) hgd (by omega) hG hs
     have hdg:=ziW hgd hob (2 ^ g.1.toNat - 1) (by have:=Nat.two_pow_pos g.1.toNat;omega)
     rw [hbw] at hdg
     have hk:=k4 hgd
     generalize dgn g (2 ^ g.1.toNat - 1)=dg at c1 c2 hdg hk
     have fin:yn F g (w,true) (pw,true) false=some true:=by
      unfold yn
      rw [cond_false,Bool.not_true,cond_false]
      cases hz:g.1 == 0 with
      | true=>rfl
      | false=>
        rw [cond_false]
        have h00:frS g lb 0=0:=by
         rw [← zjv hgd qo,NO]
         unfold frC
         rw [← yJ,Qc (fun j=>Nat.zero_testBit j)];rfl
        obtain ⟨t1,t2⟩:=zsF hgd qo (by omega) (by omega) qf
        have:=hlow _ t1
        rw [decide_eq_true (by show w≤pw;omega)]
     rw [p1,Option.bind_some,p2,Option.bind_some,b1,Option.bind_some,b2,Option.bind_some,k2,Option.bind_some,k1,Option.bind_some,c2,Option.bind_some,c1,Option.bind_some]
     simp only [bne_self_eq_false,cond_false]
     rw [Jz (by omega) (by unfold Sm;omega),Option.bind_some,Bool.not_true,cond_false,Jz (by omega) (by unfold Sm;omega),Option.bind_some,Bool.not_true,cond_false]
     unfold y7
     rw [cond_false,Bool.not_true,cond_false]
     show (yX F g b).bind _=_
     rw [d1,Option.bind_some,q1,Option.bind_some,e3,Option.bind_some]
     show (yX F g l).bind _=_
     rw [d2,Option.bind_some,Bool.not_true,cond_false,bne_self_eq_false,cond_false]
     have rest:(bif decide (dg > w) then yn F g (w,true) (pw,true) true else bif decide (w64 ((R.1.length:Int) - 1) > dg) then yn F g (w,true) (pw,true) (decide (g.1 > 0)) else yn F g (w,true) (pw,true) false)=some true:=by
      rw [decide_eq_false (by omega),cond_false,xp (by omega) (by omega),decide_eq_false (by omega),cond_false]
      exact fin
     cases ho:w3 g.1 l with
     | false=>exact rest
     | true=>
       rw [cond_true,cond_true]
       have:=hlow _ ho
       rw [decide_eq_false (show ¬ (elW g l l.length,true).1 < (w,true).1 by show ¬ elW g l l.length < w;omega),cond_false]
       exact rest
end Go.Zq
