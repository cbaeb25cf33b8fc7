/- Plain mathematics (part 5). Conditions: stated in each theorem. -/
import Derived.Test.YtelahampjnaimaeM4
import Derived.Test.YtelahampjnaimaeM3
set_option linter.unusedVariables false
set_option linter.unusedSimpArgs false
namespace Go.Zq
theorem zhw {g:Gr} {d:Nat} {p:Nat→Bool} (hd:1≤d) {x:Nat} (hx:x < g.1.toNat) (px:p x=true) (h:∀ x y,x < g.1.toNat→y < g.1.toNat→p x=true→p y=true→xw g p x y=true):(prt g d p).length=1:=by
 obtain ⟨d,rfl⟩:∃ d',d=d' + 1:=⟨d - 1,by omega⟩
 rw [prt]
 cases hf:ZZ p g.1.toNat with
 | none=>rw [vv.1 hf x hx] at px;cases px
 | some z=>
   obtain ⟨h1,h2,_⟩:=Z9 hf
   simp only [ZK]
   rw [zlQ fun j hj=>?_]
   · rfl
   · cases e:p j with
     | false=>rfl
     | true=>rw [h z j h1 hj h2 e];rfl
theorem zjt {g:Gr} {m m' a b:Nat} (hg:y0 g=true) (ha:a < g.1.toNat) (hs:∀ j,m.testBit j=true→m'.testBit j=true) (h:KT g m a b=true):KT g m' a b=true:=by
 obtain ⟨y,h1,h2⟩:=(uZ hg ha).1 h
 refine (uZ hg ha).2 ⟨y,vx (C:=xw g (wth m' a) a) xh (fun i j hi hj hij=>?_) h1,h2⟩
 refine xj hg ha YC hi ?_ hij
 rcases XR hj with hj | rfl
 · exact JT (hs j hj)
 · exact YC
theorem zh5 {p:Nat→Bool} {n:Int} (h0:0≤n):Uq n (yn p n.toNat)=true:=by
 refine yV.2 fun i hi=>?_
 obtain ⟨j,e,hj,_⟩:=Ks hi
 rw [zp,zp,y8]
 refine ⟨⟨by rw [e];exact zw (by omega),by rw [e];exact zw (by omega)⟩,?_⟩
 by_cases h0:i=0
 · exact .inl (by simp [h0])
 · exact .inr (zw (zkb Ky (by omega) hi))
section
variable {g:Gr} {l:List Int}
theorem zdS (hg:y0 g=true) (ho:wV g.1 l=true) {i:Nat} (hi:i + 1 < l.length):i < nxD g l i∧nxD g l i < l.length:=by
 cases h:ZZ (fun k=>qD g l i (l.getD k 0).toNat) l.length with
 | none=>rw [(J9 hg ho h).2];omega
 | some k=>obtain ⟨h1,h2,_,_,h5⟩:=UW hg ho (by omega) h;rw [h5];omega
theorem zkS {k i:Nat} (h:i < k):(Jn g l k).getD i (0,0)=((i:Int),(nxD g l i:Int)):=by
 unfold Jn
 rw [zU,List.getElem?_map,List.getElem?_range h];rfl
theorem zbo {k i:Nat} (h:i < k):(Uz g l k).getD i []=bgD g l i:=by
 unfold Uz
 rw [zU,List.getElem?_map,List.getElem?_range h];rfl
def mkD (g:Gr) (l:List Int):DC:=(Uz g l l.length,Jn g l (l.length - 1))
theorem zk6 (hg:y0 g=true) (ho:wV g.1 l=true):y0 (xl (mkD g l))=true:=by
 have h8:=yE hg
 have hlen:=ve ho
 refine zjR (by omega) (by show ((Uz g l l.length).length:Int)≤8;rw [Yw];omega) ?_ fun z hz=>?_
 · show zln (Jn g l (l.length - 1))
   unfold zln Jn
   rw [List.pairwise_map]
   refine List.pairwise_lt_range.imp fun {a b} h=>?_
   unfold bef
   rw [zw (show ((a:Int)) < (b:Int) by omega)];rfl
 · obtain ⟨t,ht,rfl⟩:=yX.1 (show z∈Jn g l (l.length - 1) from hz)
   rw [Y4] at ht
   have:=zdS hg ho (i:=t) (by omega)
   refine ⟨by omega,by show (t:Int) < (nxD g l t:Int);omega,?_⟩
   show (nxD g l t:Int) < ((Uz g l l.length).length:Int)
   rw [Yw];omega
theorem zil {i:Nat} (hi:i + 1 < l.length):adj (xl (mkD g l)) i (nxD g l i)=true:=by
 refine xN.2 ⟨i,by show i < (Jn g l (l.length - 1)).length;rw [WT];omega,uv.2 (.inl ?_)⟩
 have e:(xl (mkD g l)).2.getD i (0,0)=((i:Int),(nxD g l i:Int)):=zkS (by omega)
 rw [e];exact ⟨rfl,rfl⟩
theorem zkP (hg:y0 g=true) (ho:wV g.1 l=true) {i p x:Nat} (hi:i < l.length) (hp:p < l.length) (hx:l.getD p 0=(x:Int)) (hq:qD g l i x=true):i < p∧nxD g l i≤p∧(nxD g l i≠p→qD g l (nxD g l i) x=true):=by
 have h8:=yE hg
 have hip:i < p:=by
  refine ZA fun hne=>?_
  have:=L2 hg ho hi (show p≤i by omega)
  rw [hx,z8,hq] at this;cases this
 refine ⟨hip,?_⟩
 cases h:ZZ (fun k=>qD g l i (l.getD k 0).toNat) l.length with
 | none=>
   have:=vv.1 h p hp
   simp only [hx,z8,hq] at this;cases this
 | some k=>
   obtain ⟨h1,h2,h3,h4,h5⟩:=UW hg ho hi h
   rw [h5]
   have hkp:k≤p:=by
    refine ZA fun hne=>?_
    have:=h4 p (by omega)
    rw [hx,z8,hq] at this;cases this
   refine ⟨hkp,fun hne=>?_⟩
   obtain ⟨v,hv,hvn⟩:=YX hg ho hi
   obtain ⟨y,hy,hyn⟩:=YX hg ho h2
   obtain ⟨x',hx',hxn⟩:=YX hg ho hp
   have exx:x'=x:=by omega
   subst exx
   have hxy:x'≠y:=by
    rintro rfl
    have h9:=K2 (show k < p by omega) h2 hy
    rw [WM ho h8.1 hp hx] at h9;cases h9
   have hbx:∀ t,t≤p→(uX l g.1.toNat t).testBit x'=false:=fun t ht=>by
    rw [ZR hxn]
    exact LS ht (WM ho h8.1 hp hx)
   have hgl:∀ t,uX l g.1.toNat t < 2 ^ g.1.toNat:=fun t=>JX
   unfold qD at hq h3 ⊢
   rw [hy,z8] at h3 ⊢
   rw [hv,z8] at hq h3
   obtain ⟨q1,q2⟩:=Ll hq
   obtain ⟨r1,r2⟩:=Ll h3
   rw [YI q1 q2] at hq
   rw [YI r1 r2] at h3
   rw [YI (hbx k hkp) hxy]
   have hst:=Nw (g:=g) (m:=uX l g.1.toNat i) (x:=v) (a:=y) (b:=x') hg hvn hyn hxn (hgl i)
   rw [h3,hq,wT,Bool.or_true] at hst
   refine zjt hg hyn (fun j hj=>?_) hst
   rw [vo,y8,wh,ya] at hj
   rcases hj with hj | rfl
   · have hjn:j < g.1.toNat:=by
      refine ZA fun hge=>?_
      rw [Nat.testBit_lt_two_pow (Yj (hgl i) (vG (by decide) (by omega)))] at hj;cases hj
     rw [ZR hjn] at hj ⊢
     cases e:wN l k j with
     | true=>rfl
     | false=>rw [LS (show i≤k by omega) e] at hj;cases hj
   · rw [ZR hvn]
     exact K2 h1 hi hv
theorem NK {x i:Nat} (hx:x < g.1.toNat) (hi:i < l.length):inB (mkD g l).1 (x:Int) i=(qD g l i x || x == (l.getD i 0).toNat):=by
 unfold inB
 rw [show (mkD g l).1.getD i []=bgD g l i from zbo hi]
 unfold bgD
 rw [yJ,ya,Zd]
 constructor
 · rintro ⟨j,h1,h2,h3⟩
   have:x=j:=by omega
   subst this;exact h3
 · exact fun h=>⟨x,rfl,hx,h⟩
theorem zsQ (hg:y0 g=true) (ho:wV g.1 l=true) (h0:0 < l.length):dcB g (mkD g l)=true:=by
 have h8:=yE hg
 have hlen:=ve ho
 have ht:=zk6 hg ho
 have hk:(xl (mkD g l)).1.toNat=l.length:=by simp [mkD,Yw]
 have hk1:(mkD g l).1.length=l.length:=Yw
 have hk2:(mkD g l).2.length=l.length - 1:=WT
 have sym:∀ {p:Nat→Bool} {a b r:Nat},a < l.length→b < l.length→p a=true→p b=true→xw (xl (mkD g l)) p a r=true→xw (xl (mkD g l)) p b r=true→xw (xl (mkD g l)) p a b=true:=by
  intro p a b r ha hb pa pb h1 h2
  exact YV ht (by rw [hk];exact ha) pa h1 (Qv ht (by rw [hk];exact hb) pb h2)
 unfold dcB
 simp only [zp,ya,ym,hk1,hk2]
 refine ⟨⟨⟨⟨⟨⟨by omega,ht⟩,by omega⟩,?_⟩,?_⟩,?_⟩,?_⟩
 · have root:∀ d i,i + d=l.length - 1→xw (xl (mkD g l)) (fun _=>true) i (l.length - 1)=true:=by
    intro d
    induction d using Nat.strongRecOn with
    | ind d ih=>
      intro i hd
      by_cases e:i=l.length - 1
      · rw [e];exact xh
      · have hn:=zdS hg ho (i:=i) (by omega)
        refine YV ht (by rw [hk];omega) rfl ?_ (ih (l.length - 1 - nxD g l i) (by omega) (nxD g l i) (by omega))
        exact xj ht (by rw [hk];omega) rfl xh rfl (zil (i:=i) (by omega))
   exact zhw (by omega) (x:=0) (by rw [hk];exact h0) rfl fun x y hx hy _ _=>by
    rw [hk] at hx hy
    exact sym hx hy rfl rfl (root (l.length - 1 - x) x (by omega)) (root (l.length - 1 - y) y (by omega))
 · refine yV.2 fun i hi=>?_
   rw [show (mkD g l).1.getD i []=bgD g l i from zbo hi]
   exact zh5 h8.1
 · refine yV.2 fun x hx=>?_
   obtain ⟨p,hp,ep⟩:=ML hg ho hx
   unfold MB
   rw [hk1,ym]
   have hself:(fun i=>inB (mkD g l).1 (x:Int) i) p=true:=by
    show inB _ _ p=true
    rw [NK hx hp,ep];simp
   have root:∀ d i,i < l.length→p - i=d→inB (mkD g l).1 (x:Int) i=true→xw (xl (mkD g l)) (fun i=>inB (mkD g l).1 (x:Int) i) i p=true:=by
    intro d
    induction d using Nat.strongRecOn with
    | ind d ih=>
      intro i hi hd hb
      have hb':=hb
      rw [NK hx hi,y8] at hb
      rcases hb with hq | he
      · obtain ⟨q1,q2,q3⟩:=zkP hg ho hi hp ep hq
        have hn:=zdS hg ho (i:=i) (by omega)
        have hin:inB (mkD g l).1 (x:Int) (nxD g l i)=true:=by
         by_cases e:nxD g l i=p
         · rw [e];exact hself
         · rw [NK hx hn.2,q3 e];rfl
        refine YV ht (by rw [hk];exact hi) hb' ?_ (ih (p - nxD g l i) (by omega) _ hn.2 rfl hin)
        exact xj ht (by rw [hk];exact hi) hb' xh hin (zil (i:=i) (by omega))
      · have:i=p:=by
         obtain ⟨v,hv,hvn⟩:=YX hg ho hi
         rw [hv,z8] at he
         have he:x=v:=by simpa using he
         subst he
         rcases Nat.lt_trichotomy i p with h | h | h
         · have:=K2 h hi hv;rw [WM ho h8.1 hp ep] at this;cases this
         · exact h
         · have:=K2 h hp ep;rw [WM ho h8.1 hi hv] at this;cases this
        subst this;exact xh
   exact zhw (by omega) (x:=p) (by rw [hk];exact hp) hself fun a b ha hb pa pb=>by
    rw [hk] at ha hb
    exact sym ha hb pa pb (root _ a ha rfl pa) (root _ b hb rfl pb)
 · refine yV.2 fun e he=>?_
   obtain ⟨e1,e2,e3⟩:=Kq hg he
   obtain ⟨a,ha⟩:∃ a:Nat,(g.2.getD e (0,0)).1=a:=⟨_,(Int.toNat_of_nonneg e1).symm⟩
   obtain ⟨b,hb⟩:∃ b:Nat,(g.2.getD e (0,0)).2=b:=⟨(g.2.getD e (0,0)).2.toNat,by omega⟩
   have hadj:adj g a b=true:=xN.2 ⟨e,he,uv.2 (.inl ⟨ha,hb⟩)⟩
   obtain ⟨s,hs,es⟩:=ML hg ho (b:=a) (by omega)
   obtain ⟨t,ht2,et⟩:=ML hg ho (b:=b) (by omega)
   have key:∀ s t a b:Nat,s < l.length→t < l.length→s < t→a < g.1.toNat→b < g.1.toNat→l.getD s 0=(a:Int)→l.getD t 0=(b:Int)→adj g a b=true→inB (mkD g l).1 (a:Int) s=true∧inB (mkD g l).1 (b:Int) s=true:=by
    intro s t a b hs ht2 hst han hbn es et hab
    have hne:=(Un hg hab).2.2
    rw [NK han hs,NK hbn hs,es,z8]
    refine ⟨by simp,?_⟩
    have:qD g l s b=true:=by
     unfold qD
     rw [es,z8,YI (by rw [ZR hbn];exact LS (by omega) (WM ho h8.1 ht2 et)) (fun e=>hne e.symm)]
     exact (uZ hg han).2 ⟨a,xh,hab⟩
    rw [this];rfl
   unfold KB
   rw [ha,hb,hk1]
   rcases Nat.lt_trichotomy s t with h | h | h
   · obtain ⟨k1,k2⟩:=key s t a b hs ht2 h (by omega) (by omega) es et hadj
     exact xN.2 ⟨s,hs,by rw [k1,k2];rfl⟩
   · subst h;rw [es] at et;omega
   · obtain ⟨k1,k2⟩:=key t s b a ht2 hs h (by omega) (by omega) et es (by rw [Xm];exact hadj)
     exact xN.2 ⟨t,ht2,by rw [k1,k2];rfl⟩
theorem zc3 (hg:y0 g=true) (ho:wV g.1 l=true):∀ k,k≤l.length→Jc (mkD g l).1 k - 1=elW g l k
 | 0,_=>rfl
 | k + 1,hk=>by
   rw [WC,Nf,← zc3 hg ho k (by omega),show (mkD g l).1.getD k []=bgD g l k from zbo (by omega)]
   obtain ⟨x,hx,hxn⟩:=YX hg ho (show k < l.length by omega)
   have hf:qD g l k x=false:=by have:=L2 hg ho (show k < l.length by omega) (xF k);rwa [hx,z8] at this
   have hc:=JH hf hxn
   have:(bgD g l k).length=xC (fun j=>qD g l k j || j == x) g.1.toNat:=by
    unfold bgD;rw [xL,hx,z8]
   have e:elV g l k=(xC (qD g l k) g.1.toNat:Int):=rfl
   rw [this,hc,e];omega
end
section
variable {g:Gr} {l:List Int}
theorem zcq {F:Nat} (hg:y0 g=true) (ho:wV g.1 l=true) (hF:300≤F) (hG:g.2.length < F) (hs:Sm g.2.length) (h0:0 < l.length):W1 F g l=some (Uz g l l.length,Jn g l (l.length - 1)):=by
 have h8:=yE hg
 have hlen:=ve ho
 unfold W1
 refine ZD (L:=fun k i (s:List (List Int)×List (Int×Int))=>vu F l g k s.1 s.2 i) (n:=l.length) (fun i s=>s=(Uz g l i,Jn g l (min i (l.length - 1)))) ?_ ?_ F ([],[]) (by omega) (by simp [Uz,Jn])
 · rintro k i s hi rfl
   refine ⟨_,rfl,?_⟩
   obtain ⟨x,hx,hxn⟩:=YX hg ho hi
   have hq:Zi g (uX l g.1.toNat i) x=qD g l i:=by unfold qD;rw [hx,z8]
   have hb:bgD g l i=yn (fun j=>qD g l i j || j == x) g.1.toNat:=by unfold bgD;rw [hx,z8]
   simp only [vu]
   rw [zw (show (i:Int) < (l.length:Int) by omega),zq,Ly (by omega),ze,z9 (d:=0) hi,ze,hx,zdZ hg ho (by omega) hG hs (by omega) hxn,ze,hq,ze,ziV (by omega) hxn (by omega),ze,← hb,ub (by rw [Yw];simp;omega),ze,zlb hg ho hF hi (by rw [WT];omega),← Lx,yw hi (by unfold Sm;omega)]
   by_cases hl:i + 1 < l.length
   · rw [if_pos hl,show min i (l.length - 1)=i by omega,← Ql,show min (i + 1) (l.length - 1)=i + 1 by omega]
   · rw [zy hl,show min (i + 1) (l.length - 1)=min i (l.length - 1) by omega]
 · rintro k s rfl
   simp only [vu]
   rw [zI (show ¬ (l.length:Int) < (l.length:Int) by omega),zo,show min l.length (l.length - 1)=l.length - 1 by omega]
theorem zxN {F i k:Nat} (hg:y0 g=true) (ho:wV g.1 l=true) (hF:300≤F) (h:ZZ (fun k=>qD g l i (l.getD k 0).toNat) l.length=some k) :
    yo F l ⟨(),(⟨((mkm (qD g l i) g.1.toNat:Nat):Int)⟩,())⟩=some (k:Int):=by
 have h8:=yE hg
 have hlen:=ve ho
 obtain ⟨h1,h2,h3⟩:=Z9 h
 have hone:∀ j,j < l.length→wx F (l.getD j 0) ⟨((mkm (qD g l i) g.1.toNat:Nat):Int)⟩=some (qD g l i (l.getD j 0).toNat):=by
  intro j hj
  obtain ⟨y,hy,hyn⟩:=YX hg ho hj
  unfold wx
  obtain ⟨q,e1,e2,_⟩:=zby (m:=mkm (qD g l i) g.1.toNat) (j:=y) (xB (by omega)) (by omega)
  rw [hy,e1,ze,e2,yA,zw hyn,z6,z8]
 unfold yo
 refine MF (L:=fun k' t=>yr F l ⟨(),(⟨((mkm (qD g l i) g.1.toNat:Nat):Int)⟩,())⟩ k' t) (n:=k) ?_ ?_ F (by omega)
 · intro k' t ht
   simp only [yr]
   rw [zw (show (t:Int) < (l.length:Int) by omega),zq,z9 (d:=0) (show t < l.length by omega),ze,hone t (by omega),ze,h3 t ht,zo,yw ht (by unfold Sm;omega)]
 · intro k'
   simp only [yr]
   rw [zw (show (k:Int) < (l.length:Int) by omega),zq,z9 (d:=0) h1,ze,hone k h1,ze,h2,zq]
theorem zef {n i:Nat} (h:i < n):(nbL g l n).getD i 0=((mkm (qD g l i) g.1.toNat:Nat):Int):=by
 unfold nbL qD
 rw [zU,List.getElem?_map,List.getElem?_range h];rfl
theorem zhu {F:Nat} (hg:y0 g=true) (ho:wV g.1 l=true) (hF:300≤F) (h0:0 < l.length) :
    ∃ o t,yF F l g (nbL g l l.length) F .nil .nil 0=some ((o,t),true)∧o.list.map NL.list=Uz g l l.length∧t.list=Jn g l (l.length - 1):=by
 have h8:=yE hg
 have hlen:=ve ho
 have hbag:∀ i,i < l.length→∃ o,KA F (ior .i64 ((mkm (qD g l i) g.1.toNat:Nat):Int) ((2 ^ (l.getD i 0).toNat:Nat):Int))=some o∧o.list=bgD g l i:=by
  intro i hi
  obtain ⟨x,hx,hxn⟩:=YX hg ho hi
  rw [hx,z8,Wv (xB (by omega)) (Yt (by omega))]
  have e:mkm (qD g l i) g.1.toNat ||| 2 ^ x=mkm (fun j=>qD g l i j || j == x) g.1.toNat:=by
   refine vT fun j=>?_
   rw [vo,yA,wh]
   by_cases e:j=x
   · subst e;simp [hxn]
   · have h1:(j == x)=false:=by simpa using e
     have h2:decide (x=j)=false:=by simp;omega
     rw [h1,h2,Yp,Yp]
  obtain ⟨o,h1,h2⟩:=zdQ (F:=F) (n:=g.1.toNat) (p:=fun j=>qD g l i j || j == x) (by omega) (by omega)
  exact ⟨o,by rw [e];exact h1,by rw [h2];unfold bgD;rw [hx,z8]⟩
 have hw1:w64 (g.1 - 1)=((l.length - 1:Nat):Int):=by rw [vP (by omega) (by omega)];omega
 obtain ⟨oL,hL1,hL2⟩:=hbag (l.length - 1) (by omega)
 obtain ⟨⟨o,t⟩,⟨e1,e2⟩,e3⟩:=Ui (L:=fun k i (s:NL (NL Int)×NL (Int×Int))=>yF F l g (nbL g l l.length) k s.1 s.2 i) (n:=l.length - 1) (fin:=fun s=>some ((.of (s.1.list++[oL]),s.2),true))
  (fun i s=>s.1.list.map NL.list=Uz g l i∧s.2.list=Jn g l i) (by
    rintro k i ⟨o,t⟩ hi ⟨p1,p2⟩
    simp only at p1 p2
    obtain ⟨x,hx,hxn⟩:=YX hg ho (show i < l.length by omega)
    obtain ⟨r,hr1,hr2⟩:=hbag i (by omega)
    have hol:o.list.length=i:=by have:=congrArg List.length p1;rw [uz,Yw] at this;exact this
    have htl:t.list.length=i:=by rw [p2,WT]
    have hfin:∀ k,w6 F l g (o.list++[r]) t (i:Int) (nbL g l l.length) (yF F l g (nbL g l l.length) k) ((nxD g l i:Nat):Int)=yF F l g (nbL g l l.length) k (.of (o.list++[r])) (.of (t.list++[((i:Int),(nxD g l i:Int))])) ((i + 1:Nat):Int):=by
     intro k
     simp only [w6]
     rw [ub (by simp;omega),ze,yw (n:=l.length) (by omega) (by unfold Sm;omega)]
    refine ⟨(.of (o.list++[r]),.of (t.list++[((i:Int),(nxD g l i:Int))])),⟨?_,?_⟩,?_⟩
    · show (o.list++[r]).map NL.list=_
      rw [List.map_append,p1,Lx,← hr2];rfl
    · show t.list++[((i:Int),(nxD g l i:Int))]=_
      rw [p2,Ql]
    · simp only [yF]
      have hne:((i:Int) == ((l.length - 1:Nat):Int))=false:=wv.2 (by omega)
      rw [hx,z8] at hr1
      rw [zw (show (i:Int) < ((nbL g l l.length).length:Int) by rw [Uf];omega),zq,z9 (d:=0) (by rw [Uf];omega),ze,zef (by omega),z9 (d:=0) (show i < l.length by omega),ze,hx,um (by omega),ze,hr1,ze,ub (by simp;omega),ze,hw1,hne,zo]
      cases h:ZZ (fun k=>qD g l i (l.getD k 0).toNat) l.length with
      | none=>
        obtain ⟨h1,h2⟩:=J9 hg ho h
        have hz:mkm (qD g l i) g.1.toNat=0:=by
         apply ZN
         intro j
         rw [yA,Za]
         by_cases hj:j < g.1.toNat
         · rw [L7.1 h1 j hj,Bool.and_false]
         · rw [zI hj,ux]
        have e:(((mkm (qD g l i) g.1.toNat:Nat):Int) != 0)=false:=by rw [hz];rfl
        rw [e,zo]
        have:=hfin k
        rw [h2] at this ⊢
        rw [yw (n:=l.length) (by omega) (by unfold Sm;omega)]
        exact this
      | some m=>
        obtain ⟨h1,h2,h3,h4,h5⟩:=UW hg ho (by omega) h
        obtain ⟨z,hz,hzn⟩:=YX hg ho h2
        have e:(((mkm (qD g l i) g.1.toNat:Nat):Int) != 0)=true:=by
         rw [bne_iff_ne]
         intro e
         have e':mkm (qD g l i) g.1.toNat=0:=by omega
         have:(mkm (qD g l i) g.1.toNat).testBit z=true:=by
          rw [yA,zw hzn,z6]
          rw [hz,z8] at h3;exact h3
         rw [e',Za] at this;cases this
        rw [e,zq,zxN hg ho hF h,ze]
        have:=hfin k
        rw [h5] at this ⊢
        exact this) (by
    rintro k ⟨o,t⟩ ⟨p1,p2⟩
    simp only at p1 p2
    obtain ⟨x,hx,hxn⟩:=YX hg ho (show l.length - 1 < l.length by omega)
    have hol:o.list.length=l.length - 1:=by have:=congrArg List.length p1;rw [uz,Yw] at this;exact this
    simp only [yF]
    rw [hx,z8] at hL1
    rw [zw (show ((l.length - 1:Nat):Int) < ((nbL g l l.length).length:Int) by rw [Uf];omega),zq,z9 (d:=0) (by rw [Uf];omega),ze,zef (by omega),z9 (d:=0) (show l.length - 1 < l.length by omega),ze,hx,um (by omega),ze,hL1,ze,ub (by simp;omega),ze,hw1,ZL,zq]) F (.nil,.nil) (by omega) ⟨by simp [NL.list,Uz],by simp [NL.list,Jn]⟩
 refine ⟨_,_,e3,?_,e2⟩
 show (o.list++[oL]).map NL.list=_
 simp only at e1
 rw [List.map_append,e1,show l.length=l.length - 1 + 1 by omega,Lx]
 simp only [Nat.add_sub_cancel,List.map_cons,List.map_nil,hL2]
end
theorem zke {F:Nat} {g:Gr} {d:DC} (hd:Dg F d) (hG:g.2.length < F) (hs:Sm g.2.length):wA F g d=some (y0 g && dcB g d,y0 g):=by
 unfold wA
 rw [Kp hG hs,ze]
 cases hg:y0 g with
 | false=>rfl
 | true=>rw [yS,zo,zh6 hg hd hG hs,ze,z6]
theorem zcY {F:Nat} {g:Gr} {d:DC} (hd:Dg F d) (hG:g.2.length < F) (hs:Sm g.2.length):xR F g d=some (y0 g && dcB g d,y0 g):=by
 have hf:=hd.bg.fuel
 unfold xR
 rw [YU hG (by omega) hs,ze]
 cases hg:y0 g with
 | false=>rfl
 | true=>rw [yS,zo,zjV hg hd hG hs,ze,z6]
section
variable {F:Nat} {g:Gr} {l:List Int}
theorem zlp {α β:Type} {f:α→β} {xs:List α} {r:α}:vh (xs.map f) [f r]=(vh xs [r]).map (List.map f):=by
 unfold vh
 rw [uz]
 by_cases h:xs.length + [r].length≤2 ^ 40
 · rw [if_pos h,if_pos (show xs.length + [f r].length≤2 ^ 40 from h)];simp
 · rw [zy h,zy (show ¬ xs.length + [f r].length≤2 ^ 40 from h)];rfl
theorem zpN {α:Type} {xs:List α}:(NL.of xs).list=xs:=rfl
theorem zoD {α:Type}:(NL.nil:NL α).list=[]:=rfl
theorem zfJ {L:List Int}:∀ (k:Nat) (o:NL (NL Int)) (o':NL (List Int)) (t:NL (Int×Int)) (i:Int),o'.list=o.list.map NL.list→xc F l g L k o' t i=(yF F l g L k o t i).map fun r=>((r.1.1.list.map NL.list,r.1.2.list),r.2)
 | 0,_,_,_,_,_=>rfl
 | k + 1,o,o',t,i,h=>by
   have ih:∀ (ap:List (NL Int)) (t:NL (Int×Int)) (i:Int),xc F l g L k (.of (ap.map NL.list)) t i=(yF F l g L k (.of ap) t i).map fun r=>((r.1.1.list.map NL.list,r.1.2.list),r.2):=fun ap t i=>zfJ k (.of ap) (.of (ap.map NL.list)) t i rfl
   simp only [xc,yF,vA,w6,Option.map_bind,UL,Function.comp_def,yU,h,zgp,Option.bind_map,zlp,ih,zpN]
theorem zhf:wg F g l=(Yv F g l).map fun r=>((r.1.1.list.map NL.list,r.1.2.list),r.2):=by
 have ih:∀ L,xc F l g L F .nil .nil 0=(yF F l g L F .nil .nil 0).map fun r=>((r.1.1.list.map NL.list,r.1.2.list),r.2):=fun L=>zfJ F .nil .nil .nil 0 rfl
 simp only [wg,Yv,wR,w4,Option.map_bind,UL,Function.comp_def,yU,ih,zoD,List.map_nil]
theorem zjD (hF:l.length < F) (hG:g.2.length < F) (h9:300≤F) (hl:Sm l.length) (hs:Sm g.2.length) :
    wD F g l=some (bif y0 g && wV g.1 l && !(g.1 == 0) then (mkD g l,true) else (([],[]),false))∧wg F g l=some (bif y0 g && wV g.1 l && !(g.1 == 0) then (mkD g l,true) else (([],[]),false)):=by
 rw [zhf]
 unfold wD Xa Yv
 rw [Kp hG hs,YU hG (by omega) hs,ze,ze]
 cases hg:y0 g with
 | false=>exact ⟨rfl,rfl⟩
 | true=>
   have h8:=yE hg
   rw [zq,yS,zo,QH h8.1 h8.2 hF (by omega) hl,M0 h8.1 h8.2 hF hl,ze,ze,ze,z6]
   cases ho:wV g.1 l with
   | false=>exact ⟨rfl,rfl⟩
   | true=>
     have hlen:=ve ho
     rw [yS,zo,zo,z6]
     by_cases h0:g.1=0
     · have e:(g.1 == 0)=true:=by simpa using h0
       rw [e]
       exact ⟨rfl,rfl⟩
     · have e:(g.1 == 0)=false:=by simpa using h0
       rw [e]
       obtain ⟨o,t,h1,h2,h3⟩:=zhu hg ho h9 (by omega)
       constructor
       · simp only [vz]
         rw [zo,zcq hg ho h9 hG hs (by omega),ze];rfl
       · simp only [w4]
         rw [zo,Lt hg hG hs,ze,Qy hg ho (by omega),ze,h1]
         show some ((o.list.map NL.list,t.list),true)=_
         rw [h2,h3];rfl
theorem zfO {i:Int} {r:List Int} {B:List (List Int)} {T:List (Int×Int)} {c:List (List Int)→List (Int×Int)→Int→Option (List (List Int)×List (Int×Int))} {c':List (List Int)→List (Int×Int)→Int→Option (NL (List Int)×NL (Int×Int))} (hc:∀ a b d,c' a b d=(c a b d).map fun r=>(.of r.1,.of r.2)) :
    ∀ (k:Nat) (a:Int),vr F l g B T i r c' k a=(wi F l g B T i r c k a).map fun r=>(.of r.1,.of r.2)
 | 0,_=>rfl
 | k + 1,a=>by
   simp only [wi,vr,Yb,YL,Option.map_bind,UL,zfO hc k,hc,Function.comp_def]
theorem zfc:∀ (k:Nat) (B:List (List Int)) (T:List (Int×Int)) (a:Int),vZ F l g k B T a=(vu F l g k B T a).map fun r=>(.of r.1,.of r.2)
 | 0,_,_,_=>rfl
 | k + 1,B,T,a=>by
   simp only [vu,vZ,Option.map_bind,UL,zfO (zfc k),yU,Function.comp_def]
theorem zoz (hF:l.length < F) (hG:g.2.length < F) (h9:300≤F) (hl:Sm l.length) (hs:Sm g.2.length) :
    wc F g l=some (bif y0 g && wV g.1 l && !(g.1 == 0) then ((.of (mkD g l).1,.of (mkD g l).2),true) else ((.nil,.nil),false)):=by
 unfold wc Xa
 rw [Kp hG hs,ze]
 cases hg:y0 g with
 | false=>rfl
 | true=>
   have h8:=yE hg
   rw [zq,QH h8.1 h8.2 hF (by omega) hl,ze,ze,z6]
   cases ho:wV g.1 l with
   | false=>rfl
   | true=>
     have hlen:=ve ho
     rw [yS,zo,z6]
     by_cases h0:g.1=0
     · have e:(g.1 == 0)=true:=by simpa using h0
       rw [e];rfl
     · have e:(g.1 == 0)=false:=by simpa using h0
       rw [e]
       simp only [wZ]
       have:XP F g l=some (.of (mkD g l).1,.of (mkD g l).2):=by
        show vZ F l g F [] [] 0=_
        rw [zfc]
        have h1:vu F l g F [] [] 0=some (Uz g l l.length,Jn g l (l.length - 1)):=zcq hg ho h9 hG hs (by omega)
        rw [h1];rfl
       rw [zo,this];rfl
theorem zj3 {n c:Int}:∀ (k:Nat) (o:List Int) (a:Int),wY F n c k o a=(uP F n c k o a).map NL.of
 | 0,_,_=>rfl
 | k + 1,o,a=>by
   simp only [uP,wY,Uk,Yz,Option.map_bind,UL,zj3 k,yU,Function.comp_def]
theorem ziF {c:CC} {m:Nat} (hF:20≤F) (h:Ck c.v.a c.v.b m) (hm:m < 800000):∃ r c',vq F c g=some (r,c')∧r.length≤9:=by
 unfold vq ZM YG
 obtain ⟨n,hn,hn8⟩:∃ n:Nat,((bif decide (g.1 < 8) then some g.1 else some (8:Int)).bind fun r_3=>bif decide (r_3 > 0) then some r_3 else some 0)=some (n:Int)∧n≤8:=by
  by_cases h1:g.1 < 8
  · rw [zw h1,zq,ze]
    by_cases h2:g.1 > 0
    · rw [zw h2,zq];exact ⟨g.1.toNat,by congr 1;omega,by omega⟩
    · rw [zI h2,zo];exact ⟨0,rfl,by omega⟩
  · rw [zI h1,zo,ze];exact ⟨8,rfl,by omega⟩
 obtain ⟨r,c1,e1,r0,r1,_,k1⟩:=uM (F:=F) (c:=Cu.mk c.v) (n:=256) h (by omega)
 have e1':yj F (Cu.mk (S3.mk c.v.a c.v.b (Kd.mk c.v.c.v:Kd .u64)):Cu (S3 (List (Kd .u8)) Int (Kd .u64))) 256=some (r,c1):=e1
 have hr:=r1 (by omega)
 obtain ⟨q,rfl⟩:∃ q:Nat,r=q:=⟨r.toNat,by omega⟩
 have hb:Z6 F (n:Int) (q:Int)=some (.of (yn q.testBit n)):=by
  show wY F (n:Int) (q:Int) F [] 0=_
  rw [zj3]
  have:uP F (n:Int) (q:Int) F [] 0=some (yn q.testBit n):=zlo hn8 (by omega) hF
  rw [this];rfl
 obtain ⟨b,c2,e2,k2⟩:=zaW (F:=F) (c:=Cu.mk c1) (n:=20) k1 (by omega)
 have hle:=K5 (p:=q.testBit) (n:=n)
 have main:∃ r c',((yj F (Cu.mk (S3.mk c.v.a c.v.b (Kd.mk c.v.c.v:Kd .u64)):Cu (S3 (List (Kd .u8)) Int (Kd .u64))) 256).bind fun r_5=>
     (Z6 F (n:Int) r_5.1).bind fun r_6=>
     (zdX r_6).bind fun li_7=>
     (wF F (Cu.mk (S3.mk r_5.2.a r_5.2.b (Kd.mk r_5.2.c.v:Kd .u64)):Cu (S3 (List (Kd .u8)) Int (Kd .u64))) 20).bind fun r_8=>
     bif r_8.1 then
      (xx F (Cu.mk (S3.mk r_8.2.a r_8.2.b (Kd.mk r_8.2.c.v:Kd .u64)):Cu (S3 (List (Kd .u8)) Int (Kd .u64))) [(-1),0,8]).bind fun r_9=>
      (vh li_7 [r_9.1]).bind fun ap_10=>
      some (ap_10,(S3.mk r_9.2.a r_9.2.b (Kd.mk r_9.2.c.v:Kd .u64)))
     else
      some (li_7,(S3.mk r_8.2.a r_8.2.b (Kd.mk r_8.2.c.v:Kd .u64))))=some (r,c')∧r.length≤9:=by
  have e2':wF F (Cu.mk (S3.mk ((q:Int),c1).2.a ((q:Int),c1).2.b (Kd.mk ((q:Int),c1).2.c.v:Kd .u64)):Cu (S3 (List (Kd .u8)) Int (Kd .u64))) 20=some (b,c2):=e2
  rw [e1',ze]
  show ∃ r c',(Z6 F (n:Int) (q:Int)).bind _=some (r,c')∧_
  rw [hb,ze]
  show ∃ r c',(some (yn q.testBit n)).bind _=some (r,c')∧_
  rw [ze,e2',ze]
  cases b with
  | false=>exact ⟨_,_,rfl,by omega⟩
  | true=>
    obtain ⟨y,c3,e3,_,_⟩:=JW (F:=F) (c:=Cu.mk c2) (xs:=[(-1),0,8]) k2 (by omega) (by decide)
    have e3':xx F (Cu.mk (S3.mk (true,c2).2.a (true,c2).2.b (Kd.mk (true,c2).2.c.v:Kd .u64)):Cu (S3 (List (Kd .u8)) Int (Kd .u64))) [(-1),0,8]=some (y,c3):=e3
    rw [zq,e3',ze,ub (by simp;omega),ze]
    exact ⟨_,_,rfl,by simp;omega⟩
 rw [← Option.bind_assoc]
 rw [hn,ze]
 exact main
theorem zdP {code:LB} (hF:2097152≤F) (hc:∀ y∈code,0≤y.v∧y.v≤255):∃ g d,wd F code=some (g,d)∧g.2.length≤400∧Dg F d:=by
 obtain ⟨g,c,e,hg,hck⟩:=Qa (F:=F) (by omega) hc
 have hs:Sm g.2.length:=by unfold Sm;omega
 have hG:g.2.length < F:=by omega
 unfold wd
 have e':vt F (Cu.mk (S3.mk code 0 (Kd.mk 0:Kd .u64)):Cu (S3 (List (Kd .u8)) Int (Kd .u64)))=some (g,c):=e
 rw [e',ze]
 obtain ⟨l,c2,e2,h3,k2⟩:=M4 (F:=F) (m:=5000) (g:=g) (by omega) (by omega) (min g.1 8).toNat 0 F c.a c.b c.c.v [] (by omega) (by omega) hck rfl
 have e2':vB F (Cu.mk (S3.mk (g,c).2.a (g,c).2.b (Kd.mk (g,c).2.c.v:Kd .u64)):Cu (S3 (List (Kd .u8)) Int (Kd .u64))) (g,c).1=some (l,c2):=e2
 rw [e2',ze]
 show ∃ g' d,(wc F g l).bind _=some (g',d)∧_
 rw [zoz (by omega) hG (by omega) (by unfold Sm;omega) hs,ze]
 have mkDg:∀ B:List (List Int),∀ T:List (Int×Int),B.length≤1000→(∀ x∈B,x.length≤1000)→T.length≤1000→Dg F (B,T):=fun B T h1 h2 h3=>⟨⟨by show B.length≤_;omega,fun x hx=>by have:=h2 x hx;omega,by omega⟩,by show T.length≤_;omega⟩
 cases hgo:(y0 g && wV g.1 l && !(g.1 == 0)) with
 | false=>exact ⟨g,_,rfl,hg,mkDg _ _ (by simp) (fun x hx=>by rw [xo] at hx;subst hx;simp) (by simp)⟩
 | true=>
   simp only [zp,yT,wv] at hgo
   obtain ⟨⟨hgd,ho⟩,h0⟩:=hgo
   have h8:=yE hgd
   have hlen:=ve ho
   have hB:(mkD g l).1.length=l.length:=Yw
   have hT:(mkD g l).2.length=l.length - 1:=WT
   have hx8:∀ x∈(mkD g l).1,x.length≤8:=by
    intro x hx
    obtain ⟨i,_,rfl⟩:=yX.1 (show x∈Uz g l l.length from hx)
    unfold bgD
    have:=K5 (p:=fun j=>qD g l i j || j == (l.getD i 0).toNat) (n:=g.1.toNat)
    omega
   obtain ⟨B,T,hBT⟩:∃ B T,mkD g l=(B,T):=⟨_,_,rfl⟩
   rw [hBT] at hB hT hx8 ⊢
   simp only at hB hT hx8
   have hx1:∀ x∈B,x.length≤1000:=fun x hx=>by have:=hx8 x hx;omega
   have zgY:∃ g' d,some (g,(NL.of B).list,(NL.of T).list)=some (g',d)∧g'.2.length≤400∧Dg F d:=⟨g,_,rfl,hg,mkDg B T (by omega) hx1 (by omega)⟩
   obtain ⟨i,c3,e3,i0,i1,_,k3⟩:=uM (F:=F) (c:=cu c2.a c2.b c2.c.v) (n:=(B.length:Int)) k2 (by omega)
   have hi:=i1 (by omega)
   obtain ⟨i,rfl⟩:∃ k:Nat,i=k:=⟨i.toNat,by omega⟩
   obtain ⟨q,c4,e4,q0,q1,_,k4⟩:=uM (F:=F) (c:=cu c3.a c3.b c3.c.v) (n:=8) k3 (by omega)
   have e3':yj F (Cu.mk (S3.mk (l,c2).2.a (l,c2).2.b (Kd.mk (l,c2).2.c.v:Kd .u64)):Cu (S3 (List (Kd .u8)) Int (Kd .u64))) (B.length:Int)=some ((i:Int),c3):=e3
   have e4':yj F (Cu.mk (S3.mk ((i:Int),c3).2.a ((i:Int),c3).2.b (Kd.mk ((i:Int),c3).2.c.v:Kd .u64)):Cu (S3 (List (Kd .u8)) Int (Kd .u64))) 8=some (q,c4):=e4
   have hid:idx B (i:Int)=some (B.getD i []):=z9 (by omega)
   simp only [zq,yS,zo,NL.list]
   rw [e3',ze,e4',ze]
   have setD:∀ x:List Int,x.length≤1000→Dg F (B.set i x,T):=fun x hx=>mkDg _ _ (by simp;omega) (fun y hy=>by
    rcases List.mem_or_eq_of_mem_set hy with hy | rfl
    · exact hx1 y hy
    · exact hx) (by omega)
   cases h0q:(q == 0) with
   | true=>
     rw [zq]
     obtain ⟨r,c5,e5,hr⟩:=ziF (F:=F) (g:=g) (c:=cu c4.a c4.b c4.c.v) (by omega) k4 (by omega)
     have e5':vq F (Cu.mk (S3.mk (q,c4).2.a (q,c4).2.b (Kd.mk (q,c4).2.c.v:Kd .u64)):Cu (S3 (List (Kd .u8)) Int (Kd .u64))) g=some (r,c5):=e5
     show ∃ g' d,(vq F _ g).bind _=some (g',d)∧_
     rw [e5',ze]
     show ∃ g' d,(idx B (i:Int)).bind _=some (g',d)∧_
     rw [hid,ze]
     exact ⟨g,_,rfl,hg,setD r (by omega)⟩
   | false=>
     rw [zo]
     cases (q == 1) with
     | true=>
       rw [zq]
       show ∃ g' d,(bif decide ((T.length:Int) > 0) then _ else _)=some (g',d)∧_
       by_cases hz:(T.length:Int) > 0
       · rw [zw hz,zq]
         obtain ⟨j,c5,e5,j0,j1,_,k5⟩:=uM (F:=F) (c:=cu c4.a c4.b c4.c.v) (n:=(T.length:Int)) k4 (by omega)
         have e5':yj F (Cu.mk (S3.mk (q,c4).2.a (q,c4).2.b (Kd.mk (q,c4).2.c.v:Kd .u64)):Cu (S3 (List (Kd .u8)) Int (Kd .u64))) (T.length:Int)=some (j,c5):=e5
         have hj:=j1 (by omega)
         obtain ⟨j,rfl⟩:∃ k:Nat,j=k:=⟨j.toNat,by omega⟩
         obtain ⟨a,c6,e6,_,_,_,k6⟩:=uM (F:=F) (c:=cu c5.a c5.b c5.c.v) (n:=4) k5 (by omega)
         have e6':yj F (Cu.mk (S3.mk ((j:Int),c5).2.a ((j:Int),c5).2.b (Kd.mk ((j:Int),c5).2.c.v:Kd .u64)):Cu (S3 (List (Kd .u8)) Int (Kd .u64))) 4=some (a,c6):=e6
         obtain ⟨b,c7,e7,_,_,_,k7⟩:=uM (F:=F) (c:=cu c6.a c6.b c6.c.v) (n:=6) k6 (by omega)
         have e7':yj F (Cu.mk (S3.mk (a,c6).2.a (a,c6).2.b (Kd.mk (a,c6).2.c.v:Kd .u64)):Cu (S3 (List (Kd .u8)) Int (Kd .u64))) 6=some (b,c7):=e7
         have hit:idx T (j:Int)=some (T.getD j (0,0)):=z9 (by omega)
         rw [e5',ze,e6',ze,e7',ze]
         show ∃ g' d,(idx T (j:Int)).bind _=some (g',d)∧_
         rw [hit,ze]
         exact ⟨g,(B,T.set ((j:Int)).toNat (w64 (a - 1),b)),rfl,hg,mkDg B _ (by omega) hx1 (by rw [XF];omega)⟩
       · rw [zI hz,zo];exact zgY
     | false=>
       rw [zo]
       cases (q == 2) with
       | true=>
         rw [zq,ub (by simp;omega),ze,ub (by simp;omega),ze]
         refine ⟨g,_,rfl,hg,mkDg _ _ (by simp;omega) (fun x hx=>?_) (by simp;omega)⟩
         rcases zO.1 hx with hx | hx
         · exact hx1 x hx
         · rw [xo] at hx;subst hx;simp
       | false=>
         rw [zo]
         cases (q == 3) with
         | true=>
           rw [zq]
           have hxi:=hx8 _ (vS (d:=[]) (show i < B.length by omega))
           have hsub:∀ e:List Int,(e.length:Int) > 0→sub e 1 (e.length:Int)=some (e.drop 1):=fun e he=>Le (i:=1) (by omega)
           show ∃ g' d,((idx B (i:Int)).bind fun e=>bif decide ((e.length:Int) > 0) then (idx B (i:Int)).bind fun e2=>(sub e2 1 (e2.length:Int)).bind fun s=>(idx B (i:Int)).bind fun _=>some (g,(B.set ((i:Int)).toNat s,T)) else some (g,(B,T)))=some (g',d)∧_
           rw [hid]
           simp only [ze]
           by_cases hz:((B.getD i []).length:Int) > 0
           · rw [zw hz,zq,hsub _ hz,ze]
             exact ⟨g,_,rfl,hg,setD _ (by rw [List.length_drop];omega)⟩
           · rw [zI hz,zo];exact zgY
         | false=>
           rw [zo]
           cases (q == 4) with
           | true=>
             rw [zq]
             have hsub:∀ e:List (Int×Int),(e.length:Int) > 0→sub e 1 (e.length:Int)=some (e.drop 1):=fun e he=>Le (i:=1) (by omega)
             show ∃ g' d,(bif decide ((T.length:Int) > 0) then (some T).bind fun li=>(sub li 1 (li.length:Int)).bind fun s=>some (g,(B,s)) else some (g,(B,T)))=some (g',d)∧_
             by_cases hz:(T.length:Int) > 0
             · rw [zw hz,zq,ze,hsub _ hz,ze]
               exact ⟨g,_,rfl,hg,mkDg _ _ (by omega) hx1 (by rw [List.length_drop];omega)⟩
             · rw [zI hz,zo];exact zgY
           | false=>exact zgY
theorem zgz {xs:List (List Int)} (hF:xs.length < F) (hs:Sm xs.length) (hx:∀ x∈xs,x.length < F∧Sm x.length):Xq F xs xs=some true:=by
 unfold Xq
 rw [WN,zo]
 rw [vQ (L:=fun k i=>Yd F xs xs k i) (n:=xs.length) (p:=fun _=>true) (bad:=some false) (fin:=some true) ?_ ?_ F hF]
 · have:wG (fun _=>true) xs.length=true:=yV.2 fun _ _=>rfl
   rw [this];rfl
 · intro k i hi
   have h:=hx _ (vS (d:=[]) hi)
   simp only [Yd]
   rw [zw (by omega),zq,z9 (d:=[]) hi,ze,ze,zg2 h.1 h.2,ze,yS,zo,zq,yw hi hs]
 · intro k
   simp only [Yd]
   rw [zI (by omega),zo]
end
theorem M7 {F:Nat} {code:LB} (hF:500≤F) (hc:∀ y∈code,0≤y.v∧y.v≤255):∃ g l,vM F code=some (g,l)∧g.2.length≤400∧l.length≤20:=by
 obtain ⟨g,c,e,hg,hck⟩:=Qa (F:=F) hF hc
 unfold vM
 rw [e,ze]
 obtain ⟨l,c2,e2,h3,_⟩:=M4 (F:=F) (m:=5000) (g:=g) hF (by omega) (min g.1 8).toNat 0 F c.a c.b c.c.v [] (by omega) (by omega) hck rfl
 have e2':vB F (Cu.mk (S3.mk (g,c).2.a (g,c).2.b (Kd.mk (g,c).2.c.v:Kd .u64)):Cu (S3 (List (Kd .u8)) Int (Kd .u64))) (g,c).1=some (l,c2):=e2
 rw [e2',ze]
 exact ⟨g,l,rfl,hg,h3⟩
theorem KE {F:Nat} {code:LB} (hF:2097152≤F) (hc:∀ y∈code,0≤y.v∧y.v≤255):wj F code=some true:=by
 unfold wj LG
 rw [ze]
 cases hbig:decide ((code.length:Int) > 65536) with
 | true=>rfl
 | false=>
   have hlen:=of_decide_eq_false hbig
   rw [zo]
   obtain ⟨g,d,e1,hg,hD⟩:=zdP (F:=F) hF hc
   have hs:Sm g.2.length:=by unfold Sm;omega
   have hG:g.2.length < F:=by omega
   obtain ⟨c2,e2,hc2⟩:=zlH (F:=F) (n:=1) (code:=code) (by omega) hc
   have e2':J0 F code 1=some c2:=e2
   obtain ⟨h,l,e3,hh,hl⟩:=M7 (F:=F) (by omega) hc2
   have hs2:Sm h.2.length:=by unfold Sm;omega
   have hG2:h.2.length < F:=by omega
   have a1:=zcY hD hG hs
   have a2:=zke hD hG hs
   have b1:=Qg hD hG hs
   have b2:=zgs hD hG hs
   obtain ⟨p1,p2⟩:=zjD (F:=F) (g:=h) (l:=l) (by omega) hG2 (by omega) (by unfold Sm;omega) hs2
   have J1:wH F (h,l) (bif y0 h && wV h.1 l && !(h.1 == 0) then (mkD h l,true) else (([],[]),false))=some true:=by
    unfold wH
    cases hgo:(y0 h && wV h.1 l && !(h.1 == 0)) with
    | false=>rfl
    | true=>
      rw [zq,yS,zo]
      simp only [zp,yT,wv] at hgo
      obtain ⟨⟨hgd,ho⟩,h0⟩:=hgo
      have h8:=yE hgd
      have hlen:=ve ho
      have hB:(mkD h l).1.length=l.length:=Yw
      have hT:(mkD h l).2.length=l.length - 1:=WT
      have hD2:Dg F (mkD h l):=⟨⟨by omega,fun x hx=>by
       obtain ⟨i,_,rfl⟩:=yX.1 (show x∈Uz h l l.length from hx)
       unfold bgD
       have:=K5 (p:=fun j=>qD h l i j || j == (l.getD i 0).toNat) (n:=h.1.toNat)
       omega,by omega⟩,by omega⟩
      have hdc:=zsQ hgd ho (by omega)
      have q1:=zcY hD2 hG2 hs2
      have q2:=Qg hD2 hG2 hs2
      have q3:=zkw (F:=F) (g:=h) (l:=l) (by omega) hG2 (by omega) (by unfold Sm;omega) hs2
      rw [hgd,hdc,wT] at q1 q2
      rw [hgd,ho,wT] at q3
      rw [zq] at q2 q3
      show (xR F h (mkD h l)).bind _=_
      rw [q1,ze]
      show (xt F h (mkD h l)).bind _=_
      rw [q2,ze]
      show (wl F h l).bind _=_
      rw [q3,ze,zq]
      have hw:=zc3 hgd ho l.length (xF _)
      have hle:∀ k,elW h l k≤8:=by
       intro k
       induction k with
       | zero=>show (-1:Int)≤8;omega
       | succ k ih=>
         rw [Nf]
         have:xC (Zi h (uX l h.1.toNat k) (l.getD k 0).toNat) h.1.toNat≤h.1.toNat:=ur
         unfold elV;omega
      have:=hle l.length
      have hn:=MH (b:=(mkD h l).1) l.length
      show some (w64 (Jc (mkD h l).1 (mkD h l).1.length - 1) == elW h l l.length)=_
      rw [hB,vP (by omega) (by omega),hw,ZL]
   have J2:yp F (g,d) (bif y0 g && dcB g d then (w64 (Jc d.1 d.1.length - 1),true) else (0,false)) (h,l) (bif y0 h && wV h.1 l && !(h.1 == 0) then (mkD h l,true) else (([],[]),false)) false=some true:=by
    unfold yp
    rw [zo]
    cases hgd:(y0 g && dcB g d) with
    | false=>exact J1
    | true=>
      rw [zq,zq]
      rw [zp] at hgd
      have h8:=yE hgd.1
      obtain ⟨best,t1,t2,t3⟩:=Mx (F:=F) (nn:=-1) hgd.1 (by omega)
      have hp0:=Zg g.1.toNat
      have hi:vX F g=some (best.getD 0 0,true):=by
       unfold vX ut vI
       rw [YU hG (by omega) hs,ze,hgd.1,yS,zo,Lt hgd.1 hG hs,ze,t1,ze]
       have:=z9 (xs:=best) (i:=0) (d:=0) (by omega)
       rw [show ((0:Nat):Int)=0 from rfl] at this
       rw [ze,this,ze];rfl
      have htw:=zqq hgd.1 t3 hgd.2
      show (vX F g).bind _=_
      rw [hi,ze]
      have hn:=MH (b:=d.1) d.1.length
      have hw8:Jc d.1 d.1.length≤1048576:=by
       have:∀ k,k≤d.1.length→Jc d.1 k≤1048576:=by
        intro k
        induction k with
        | zero=>intro _;show (0:Int)≤1048576;omega
        | succ k ih=>
          intro hk
          rw [WC]
          have:=ih (by omega)
          have:=hD.bg.at (i:=k) (by omega)
          omega
       exact this _ (xF _)
      have e4:decide ((w64 (Jc d.1 d.1.length - 1),true).1 < (best.getD 0 0,true).1)=false:=by
       show decide (w64 (Jc d.1 d.1.length - 1) < best.getD 0 0)=false
       rw [vP (by omega) (by omega)]
       exact zI (by have htw:best.getD 0 0≤_:=htw;omega)
      rw [e4,zo];exact J1
   have hR:∀ R:DC×Bool,R=(bif y0 h && wV h.1 l && !(h.1 == 0) then (mkD h l,true) else (([],[]),false))→Xq F R.1.1 R.1.1=some true∧XB F R.1.2 R.1.2=some true:=by
    intro R hR
    have:R.1.1.length≤20∧R.1.2.length≤20∧∀ x∈R.1.1,x.length≤8:=by
     rw [hR]
     cases hgo:(y0 h && wV h.1 l && !(h.1 == 0)) with
     | false=>exact ⟨by simp,by simp,fun x hx=>by cases hx⟩
     | true=>
       simp only [zp] at hgo
       have h8:=yE hgo.1.1
       have hB:(mkD h l).1.length=l.length:=Yw
       have hT:(mkD h l).2.length=l.length - 1:=WT
       refine ⟨by show (mkD h l).1.length≤20;omega,by show (mkD h l).2.length≤20;omega,fun x hx=>?_⟩
       obtain ⟨i,_,rfl⟩:=yX.1 (show x∈Uz h l l.length from hx)
       unfold bgD
       have:=K5 (p:=fun j=>qD h l i j || j == (l.getD i 0).toNat) (n:=h.1.toNat)
       omega
    exact ⟨zgz (by omega) (by unfold Sm;omega) fun x hx=>⟨by have:=this.2.2 x hx;omega,by have:=this.2.2 x hx;unfold Sm;omega⟩,zgD (by omega) (by unfold Sm;omega)⟩
   rw [e1,ze]
   show (xR F g d).bind _=_
   rw [a1,ze]
   show (wA F g d).bind _=_
   rw [a2,ze]
   show (xt F g d).bind _=_
   rw [b1,ze]
   show (xV F g d).bind _=_
   rw [b2,ze,e2',ze]
   unfold wJ
   rw [e3,ze,ze]
   show (wg F h l).bind _=_
   rw [p2,ze]
   show (wD F h l).bind _=_
   obtain ⟨r1,r2⟩:=hR _ rfl
   rw [p1,ze]
   simp only [WN,zo]
   rw [r1,ze,yS,zo,r2,ze,yS]
   cases hgd:y0 g with
   | false=>
     rw [hgd] at J2
     simp only [ux,zo] at J2 ⊢
     rw [WN,zo]
     exact J2
   | true=>
     rw [hgd] at J2
     simp only [z6,zq] at J2 ⊢
     have e6:((bif dcB g d then (w64 (Jc d.1 d.1.length - 1),true) else ((0:Int),false)).2 != dcB g d)=false:=by cases dcB g d <;> rfl
     rw [e6,zo]
     exact J2
end Go.Zq
