/- Plain mathematics: what the functions answer (part 4). Conditions: stated in each theorem. -/
import Derived.Test.YtelahampjnaimaaM1
import Derived.Test.YtelahampjnaimaaM2
import Derived.Test.YtelahampjnaimaaM3
set_option linter.unusedVariables false
set_option linter.unusedSimpArgs false
namespace Go.Zq
def ZR (n:Nat) (ps:List Int):Int:=(List.range n).foldl (fun s x=>max s (1 + (yX ps (n + 1) ((x:Nat):Int)).length)) 0
theorem WR {g:Gr} {ps:List Int} (h:xm g ps=true) (h0:0≤g.1):Lu g.1.toNat ps∧∀ x,x < g.1.toNat→Yq g.1.toNat ps (x:Int)=true:=by
 unfold xm at h
 simp only [zk,z8] at h
 exact ⟨zcC (by omega) h.1.2,xj.1 h.2.1⟩
theorem zid {F:Nat} {g:Gr} {l:List Int} (hF:l.length < F) (hG:g.2.length < F) (h9:20≤F) (hl:Sm l.length) (hs:Sm g.2.length) :
    um F g l=some (bif yz g && xm g l then (ZR g.1.toNat l,true) else (0,false)):=by
 unfold um
 rw [XG hG hs,zc]
 cases hg:yz g with
 | false=>rfl
 | true=>
   have h8:=zT hg
   obtain ⟨n,hn⟩:∃ n:Nat,g.1=n:=⟨g.1.toNat,by omega⟩
   have hnn:g.1.toNat=n:=by omega
   rw [y0,zi,Ni hg hG h9 hs,zc,z7]
   cases hf:xm g l with
   | false=>rfl
   | true=>
     obtain ⟨hok,hends⟩:=WR hf h8.1
     rw [hnn] at hok hends ⊢
     unfold uN
     rw [y0,zi,zl]
     obtain ⟨s,_,h2,h3⟩:∃ s:Int,True∧wb F l g F 0 0=some (s,true)∧s=ZR n l:=by
      unfold ZR
      refine Uw (L:=fun k i s=>wb F l g k s i) (n:=n) (fun _ _=>True) (fin:=fun s=>some (s,true)) (fun x s=>max s (1 + (yX l (n + 1) ((x:Nat):Int)).length)) ?_ (fun _ _ _ _=>trivial) ?_ F 0 (by omega) trivial
      · intro k i s hi _
        simp only [wb]
        have hlt:decide ((i:Int) < g.1)=true:=zt (by omega)
        have hc:=Ku (ps:=l) (d:=n + 1) (x:=(i:Int)) (by omega)
        rw [hlt,zl,Ld hok (by omega) (by omega) (by omega) h9,zc,zbq,zc,yk hi (by unfold Sm;omega),xp (by omega) (by omega)]
      · intro k s _
        simp only [wb]
        have hlt:decide ((n:Int) < g.1)=false:=zL (by omega)
        rw [hlt,zi]
     rw [h2,h3]
theorem zaD {F:Nat} {g:Gr} {l:List Int} (hF:l.length < F) (hG:g.2.length < F) (h9:20≤F) (hl:Sm l.length) (hs:Sm g.2.length) :
    wL F g l=some (bif yz g && xm g l then (ZR g.1.toNat l,true) else (0,false)):=by
 unfold wL
 rw [YG hG (by omega) hs,zc]
 cases hg:yz g with
 | false=>rfl
 | true=>
   have h8:=zT hg
   obtain ⟨n,hn⟩:∃ n:Nat,g.1=n:=⟨g.1.toNat,by omega⟩
   have hnn:g.1.toNat=n:=by omega
   obtain ⟨ab,h1,h2⟩:=Qm (F:=F) (ps:=l) hg hG hF h9 hs hl
   rw [y0,zi,h1,zc,z7]
   cases hf:xm g l with
   | false=>rfl
   | true=>
     obtain ⟨hok,hends⟩:=WR hf h8.1
     have ha:=h2 hf
     rw [hnn] at hok hends ha ⊢
     simp only [zl,y0,zi]
     obtain ⟨s,_,h2,h3⟩:∃ s:Int,True∧we F (ab,true) F 0 0=some (s,true)∧s=ZR n l:=by
      unfold ZR
      refine Uw (L:=fun k i s=>we F (ab,true) k s i) (n:=n) (fun _ _=>True) (fin:=fun s=>some (s,true)) (fun x s=>max s (1 + (yX l (n + 1) ((x:Nat):Int)).length)) ?_ (fun _ _ _ _=>trivial) ?_ F 0 (by omega) trivial
      · intro k i s hi _
        simp only [we]
        have hlt:decide ((i:Int) < (ab.length:Int))=true:=zt (by rw [ha.1];omega)
        obtain ⟨m,e1,e2,e3⟩:=zhK hok (by omega) ha hi (hends i hi)
        have hc:=Ku (ps:=l) (d:=n + 1) (x:=(i:Int)) (by omega)
        rw [hlt,zl,zY (d:=0) (by rw [ha.1];omega),zc,e1,MW e2,zc,e3,yk hi (by unfold Sm;omega),xp (by omega) (by omega)]
        congr 1
        split <;> omega
      · intro k s _
        simp only [we]
        have hlt:decide ((n:Int) < (ab.length:Int))=false:=zL (by rw [ha.1];omega)
        rw [hlt,zi]
     rw [h2,h3]
def pcN (n a:Nat):Nat:=y8 a.testBit n
def nxS (g:Gr) (s:Nat×Nat) (step:Int):Nat×Nat:=(mkm (Js s.1.testBit step) g.1.toNat,mkm (spr g (fun j=>!Js s.1.testBit step j) s.2.testBit) g.1.toNat)
def cnS (g:Gr) (k:Int) (s:Nat×Nat) (step:Int):Bool:=zod g.1.toNat s.1.testBit step && !(decide (step≥0) && ((pcN g.1.toNat s.1:Int) == k))
inductive Rch (g:Gr) (k:Int):Nat×Nat→Prop
 | init:Rch g k (0,2 ^ g.1.toNat - 1)
 | step {s:Nat×Nat} {step:Int}:Rch g k s→cnS g k s step=true→Rch g k (nxS g s step)
structure Gst (g:Gr) (k:Int) (s:Nat×Nat):Prop where
 lt1:s.1 < 2 ^ g.1.toNat
 lt2:s.2 < 2 ^ g.1.toNat
 dis:∀ j,s.1.testBit j=true→s.2.testBit j=false
 cl:∀ a b,adj g a b=true→s.2.testBit a=true→s.1.testBit b=false→s.2.testBit b=true
 sz:(pcN g.1.toNat s.1:Int)≤k
theorem K9 {p:Nat→Bool} {x:Nat} (hx:p x=false):∀ {n:Nat},x < n→y8 (fun j=>p j || j == x) n=y8 p n + 1
 | 0,h=>by omega
 | n + 1,h=>by
   unfold y8
   rw [Xw,List.countP_append,List.countP_append]
   by_cases e:x=n
   · subst e
     have:(List.range x).countP (fun j=>p j || j == x)=(List.range x).countP p:=by
      apply List.countP_congr
      intro j hj
      rw [vP] at hj
      have:(j == x)=false:=by simp;omega
      rw [this,uT]
     rw [this]
     simp [hx]
   · have:=K9 hx (n:=n) (by omega)
     unfold y8 at this
     rw [this]
     have e2:(n == x)=false:=by simp;omega
     simp [e2]
     omega
theorem zeW {p:Nat→Bool} {step:Int} (h:0≤step) (j:Nat):Js p step j=(p j || j == step.toNat):=by
 unfold Js LW
 rw [if_neg (by omega),if_neg (by omega)]
theorem ziv {p:Nat→Bool} {step:Int} (h:step < 0) {j:Nat} (hj:Js p step j=true):p j=true:=by
 unfold Js at hj
 rw [if_pos h,zk] at hj
 exact hj.1
theorem zeM {n:Nat} {p:Nat→Bool} {step:Int} (h:0≤step) (hc:zod n p step=true):step.toNat < n∧p step.toNat=false:=by
 unfold zod LW at hc
 rw [if_neg (by omega),zk,z8,zL (by omega),yO] at hc
 exact ⟨by omega,hc.2⟩
theorem zkm {g:Gr} (hg:yz g=true) {k:Int} (hk:0≤k):Gst g k (0,2 ^ g.1.toNat - 1):=by
 have:=yi g.1.toNat
 refine ⟨by omega,by show 2 ^ g.1.toNat - 1 < _;omega,fun j hj=>?_,fun a b h _ _=>?_,?_⟩
 · rw [wF] at hj;cases hj
 · show (2 ^ g.1.toNat - 1).testBit b=true
   rw [Nat.testBit_two_pow_sub_one]
   have:=Mf hg h
   exact zt (by omega)
 · show ((y8 (Nat.testBit 0) g.1.toNat:Nat):Int)≤k
   have:y8 (Nat.testBit 0) g.1.toNat=0:=by
    unfold y8
    rw [List.countP_eq_zero]
    intro j _
    rw [wF];simp
   rw [this];exact hk
theorem zk4 {g:Gr} (hg:yz g=true) {k:Int} {s:Nat×Nat} {step:Int} (hs:Gst g k s) (hc:cnS g k s step=true):Gst g k (nxS g s step):=by
 unfold cnS at hc
 rw [zk] at hc
 obtain ⟨hc,hk⟩:=hc
 refine ⟨Xx,Xx,fun j hj=>?_,fun a b hab ha hb=>?_,?_⟩
 · show (mkm (spr g (fun j=>!Js s.1.testBit step j) s.2.testBit) g.1.toNat).testBit j=false
   have h1:(mkm (Js s.1.testBit step) g.1.toNat).testBit j=true:=hj
   rw [yj,zk] at h1
   rw [yj]
   cases e:spr g (fun j=>!Js s.1.testBit step j) s.2.testBit j with
   | false=>rw [Bool.and_false]
   | true=>
     unfold spr at e
     obtain ⟨y,hy,h⟩:=xT.1 e
     simp only [zk] at h
     have:=Xd (p:=fun j=>!Js s.1.testBit step j) h.1.2 h.2
     simp only [h1.2] at this
     cases this
 · show (mkm (spr g (fun j=>!Js s.1.testBit step j) s.2.testBit) g.1.toNat).testBit b=true
   have h1:(mkm (spr g (fun j=>!Js s.1.testBit step j) s.2.testBit) g.1.toNat).testBit a=true:=ha
   have h2:(mkm (Js s.1.testBit step) g.1.toNat).testBit b=false:=hb
   have hl:=Mf hg hab
   have hbn:b < g.1.toNat:=by omega
   rw [yj,zt hbn,z7] at h2 ⊢
   rw [yj,zk] at h1
   obtain ⟨_,e⟩:=h1
   unfold spr at e ⊢
   obtain ⟨y,hy,h⟩:=xT.1 e
   refine xT.2 ⟨y,hy,?_⟩
   simp only [zk] at h ⊢
   refine ⟨h.1,u7 hg hy h.1.2 h.2 ?_ hab⟩
   simp only [h2];rfl
 · show ((y8 (mkm (Js s.1.testBit step) g.1.toNat).testBit g.1.toNat:Nat):Int)≤k
   have e1:y8 (mkm (Js s.1.testBit step) g.1.toNat).testBit g.1.toNat=y8 (Js s.1.testBit step) g.1.toNat:=XF fun j hj=>by rw [yj,zt hj,z7]
   rw [e1]
   have hsz:=hs.sz
   unfold pcN at hsz hk
   by_cases h:step < 0
   · have:=XV (p:=Js s.1.testBit step) (q:=s.1.testBit) (n:=g.1.toNat) fun j _ hj=>ziv h hj
     omega
   · obtain ⟨h1,h2⟩:=zeM (by omega) hc
     have e2:y8 (Js s.1.testBit step) g.1.toNat=y8 s.1.testBit g.1.toNat + 1:=by
      rw [← K9 h2 h1]
      exact XF fun j _=>zeW (by omega) j
     rw [zt (show step≥0 by omega),z7,yN,beq_eq_false_iff_ne] at hk
     omega
theorem zlp {g:Gr} (hg:yz g=true) {k:Int} (hk:0≤k) {s:Nat×Nat} (h:Rch g k s):Gst g k s:=by
 induction h with
 | init=>exact zkm hg hk
 | step _ hc ih=>exact zk4 hg ih hc
inductive FS (g:Gr) (ps:List Int):(Nat→Bool)→Int→Nat→Prop
 | nil {p:Nat→Bool} {t:Int} {d:Nat}:(∀ j,p j=false)→FS g ps p t d
 | un {p q r:Nat→Bool} {t:Int} {d:Nat}:FS g ps q t d→FS g ps r t d→(∀ j,p j=(q j || r j))→(∀ a b,q a=true→r b=true→a≠b∧adj g a b=false)→FS g ps p t d
 | root {p q:Nat→Bool} {t:Int} {d x:Nat}:FS g ps q x d→p x=true→ps.getD x (-1)=t→(∀ j,q j=(p j && !(j == x)))→FS g ps p t (d + 1)
section
variable {g:Gr} {ps:List Int}
theorem zvU {p:Nat→Bool} {t:Int} {d:Nat} (h:FS g ps p t d):∀ ps':List Int,(∀ j,p j=true→ps'.getD j (-1)=ps.getD j (-1))→FS g ps' p t d:=by
 induction h with
 | nil h=>exact fun _ _=>.nil h
 | un _ _ h1 h2 i1 i2=>exact fun ps' hp=>.un (i1 ps' fun j hj=>hp j (by rw [h1,hj];rfl)) (i2 ps' fun j hj=>hp j (by rw [h1,hj,Bool.or_true])) h1 h2
 | root _ h1 h2 h3 ih=>exact fun ps' hp=>.root (ih ps' fun j hj=>hp j (by rw [h3] at hj;simp only [zk] at hj;exact hj.1)) h1 (by rw [hp _ h1,h2]) h3
theorem K6 {p p':Nat→Bool} {t:Int} {d:Nat} (h:FS g ps p t d) (e:∀ j,p' j=p j):FS g ps p' t d:=by
 have:p'=p:=funext e
 rw [this];exact h
theorem zjx (hg:yz g=true) {c:Nat} {q r:Nat→Bool} (h1:prt g g.1.toNat c.testBit=[c]) (hc:c < 2 ^ g.1.toNat) (h0:c≠0) (hqr:∀ j,c.testBit j=true→q j=true∨r j=true)
    (hno:∀ a b,q a=true→r b=true→a≠b∧adj g a b=false):(∀ j,c.testBit j=true→q j=true)∨(∀ j,c.testBit j=true→r j=true):=by
 obtain ⟨n,hn⟩:∃ n,g.1.toNat=n + 1:=by
  cases h:g.1.toNat with
  | zero=>rw [h] at hc;omega
  | succ n=>exact ⟨n,rfl⟩
 have hpr:prt g g.1.toNat c.testBit=prt g (n + 1) c.testBit:=by rw [hn]
 rw [hpr,prt] at h1
 cases hf:ZH c.testBit g.1.toNat with
 | none=>rw [hf] at h1;cases h1
 | some x=>
   rw [hf] at h1
   obtain ⟨x1,x2,_⟩:=ub hf
   have hm:mkm (yY g c.testBit x) g.1.toNat=c:=(List.cons.inj h1).1
   have hb:∀ j,c.testBit j=true→yY g c.testBit x j=true:=by
    intro j hj
    have h:(mkm (yY g c.testBit x) g.1.toNat).testBit j=true:=by rw [hm];exact hj
    rw [yj] at h
    simp only [zk] at h
    exact h.2
   rcases hqr x x2 with hx | hx
   · refine .inl fun j hj=>KU (C:=q) hx (fun y j hy hp ha=>?_) _ _ (hb j hj)
     rcases hqr j hp with h | h
     · exact h
     · have:=(hno y j hy h).2;rw [ha] at this;cases this
   · refine .inr fun j hj=>KU (C:=r) hx (fun y j hy hp ha=>?_) _ _ (hb j hj)
     rcases hqr j hp with h | h
     · have:=(hno j y h hy).2;rw [JS,ha] at this;cases this
     · exact h
theorem zsA (hg:yz g=true) {p:Nat→Bool} {t:Int} {d:Nat} (h:FS g ps p t d):∀ m:Nat,m < 2 ^ g.1.toNat→(∀ j,m.testBit j=true→p j=true)→td g m≤d:=by
 have h8:=zT hg
 have h256:=Zi (n:=g.1.toNat) (by omega)
 induction h with
 | nil h=>
   intro m hm hp
   have:m=0:=ZX fun j=>by
    rw [wF]
    cases hb:m.testBit j with
    | false=>rfl
    | true=>have:=hp j hb;rw [h j] at this;cases this
   subst this
   have:td g 0=0:=rfl
   rw [this];omega
 | un _ _ h1 h2 i1 i2=>
   intro m hm hp
   refine (JE hg hm (by omega)).1 fun c hc=>?_
   obtain ⟨c1,c2⟩:=XL hg _ _ c hc
   have c0:=MR hg _ _ c hc
   rcases zjx hg (Ut hg _ _ c hc) c1 c0 (fun j hj=>by have:=hp j (c2 j hj);rw [h1,yH] at this;exact this) h2 with hs | hs
   · exact i1 c c1 hs
   · exact i2 c c1 hs
 | root _ h1 h2 h3 ih=>
   rename_i x _
   intro m hm hp
   refine (JE hg hm (by omega)).1 fun c hc=>?_
   obtain ⟨c1,c2⟩:=XL hg _ _ c hc
   have c0:=MR hg _ _ c hc
   cases hx:c.testBit x with
   | true=>
     have hxn:x < g.1.toNat:=by
      rcases w3 x g.1.toNat with h | h
      · exact h
      · have:=Nat.testBit_lt_two_pow (xy c1 (xw (by decide) h));rw [hx] at this;cases this
     have hp2:=yi x
     refine (MV hg c1 c0 (by rw [Ut hg _ _ c hc];rfl)).2 ⟨x,hxn,hx,?_⟩
     have:=ih (c - 2 ^ x) (by omega) (fun j hj=>by
      have hj8:j < 8:=by
       rcases w3 j 8 with h | h
       · exact h
       · have:=Nat.testBit_lt_two_pow (x:=c - 2 ^ x) (i:=j) (xy (show c - 2 ^ x < 2 ^ 8 by omega) (xw (by decide) h));rw [hj] at this;cases this
      rw [Ul c (by omega) x (by omega) hx j hj8] at hj
      rw [h3]
      simp only [zk] at hj
      rw [hp j (c2 j hj.1),hj.2];rfl)
     omega
   | false=>
     have:=ih c c1 (fun j hj=>by
      rw [h3,hp j (c2 j hj)]
      by_cases e:j=x
      · subst e;rw [hx] at hj;cases hj
      · simp [e])
     omega
theorem zi7 {n:Nat} {c:Nat→Int} {t:Int} {a b d:Nat} (h:Ch n c t a b) (h':Ch n c t b d):Ch n c t a d:=by
 induction h with
 | refl=>exact h'
 | step h1 h2 h3 _ ih=>exact .step h1 h2 h3 (ih h')
theorem zml {p:Nat→Bool} {t:Int} {d:Nat} (h:FS g ps p t d):d=0→∀ j,p j=false:=by
 induction h with
 | nil h=>exact fun _=>h
 | un _ _ h1 _ i1 i2=>exact fun e j=>by rw [h1,i1 e j,i2 e j];rfl
 | root _ _ _ _ _=>intro e;cases e
theorem zvQ (hg:yz g=true) {p:Nat→Bool} {t0:Int} {d:Nat} (h:FS g ps p t0 d):∀ (t:Int) (A:Nat→Bool) (m:Nat),(∀ j,p j=true→j < g.1.toNat)→(∀ j,p j=true→m.testBit j=false) →
    (∀ a b,p a=true→adj g a b=true→p b=true∨A b=true)→(∀ j,A j=true→m.testBit j=true)→(∀ j,frt g m.testBit j=true→A j=true)→(y8 A g.1.toNat:Int) + d≤t + 1 →
    ∃ m',Ch g.1.toNat (frC g) t m m'∧∀ j,m'.testBit j=(m.testBit j || p j):=by
 have h8:=zT hg
 induction h with
 | nil h=>exact fun t A m _ _ _ _ _ _=>⟨m,.refl _,fun j=>by rw [h j,uT]⟩
 | un f1 f2 h1 h2 i1 i2=>
   rename_i p q r _ d
   intro t A m hn hm hN hA hF ht
   have hq:∀ j,q j=true→p j=true:=fun j hj=>by rw [h1,hj];rfl
   have hr:∀ j,r j=true→p j=true:=fun j hj=>by rw [h1,hj,Bool.or_true]
   obtain ⟨m1,c1,b1⟩:=i1 t A m (fun j hj=>hn j (hq j hj)) (fun j hj=>hm j (hq j hj)) (fun a b ha hab=>by
    rcases hN a b (hq a ha) hab with h | h
    · rw [h1,yH] at h
      rcases h with h | h
      · exact .inl h
      · have:=(h2 a b ha h).2;rw [hab] at this;cases this
    · exact .inr h) hA hF ht
   obtain ⟨m2,c2,b2⟩:=i2 t A m1 (fun j hj=>hn j (hr j hj)) (fun j hj=>by
    rw [b1,hm j (hr j hj),YO]
    cases hqj:q j with
    | false=>rfl
    | true=>exact absurd rfl (h2 j j hqj hj).1) (fun a b ha hab=>by
    rcases hN a b (hr a ha) hab with h | h
    · rw [h1,yH] at h
      rcases h with h | h
      · have:=(h2 b a h ha).2;rw [JS,hab] at this;cases this
      · exact .inl h
    · exact .inr h) (fun j hj=>by rw [b1,hA j hj];rfl) (fun j hj=>by
    unfold frt at hj
    rw [zk,xT] at hj
    obtain ⟨j1,y,y1,y2⟩:=hj
    rw [zk,yN,b1,Bool.or_eq_false_iff] at y2
    rw [b1,yH] at j1
    rcases j1 with j1 | j1
    · refine hF j ?_
      unfold frt
      rw [zk,xT]
      exact ⟨j1,y,y1,by rw [y2.1,y2.2.1];rfl⟩
    · rcases hN j y (hq j j1) y2.1 with h | h
      · rw [h1,y2.2.2,YO] at h
        have:=(h2 j y j1 h).2;rw [y2.1] at this;cases this
      · have:=hA y h;rw [y2.2.1] at this;cases this) ht
   exact ⟨m2,zi7 c1 c2,fun j=>by rw [b2,b1,h1,Bool.or_assoc]⟩
 | root f1 h1 h2 h3 ih=>
   rename_i p q _ d x
   intro t A m hn hm hN hA hF ht
   have hx:=hn x h1
   have hmx:=hm x h1
   have hbit:∀ j,(m ||| 2 ^ x).testBit j=(m.testBit j || j == x):=by
    intro j
    rw [ZC,uF]
    have:decide (x=j)=(j == x):=by rw [yo];simp;exact eq_comm
    rw [this]
   have hF1:∀ j,frt g (m ||| 2 ^ x).testBit j=true→A j=true∨j=x:=by
    intro j hj
    unfold frt at hj
    rw [zk,xT] at hj
    obtain ⟨j1,y,y1,y2⟩:=hj
    rw [zk,yN,hbit,Bool.or_eq_false_iff] at y2
    rw [hbit,yH] at j1
    rcases j1 with j1 | j1
    · left
      refine hF j ?_
      unfold frt
      rw [zk,xT]
      exact ⟨j1,y,y1,by rw [y2.1,y2.2.1];rfl⟩
    · right;simpa using j1
   have hcA:y8 (fun j=>A j || j == x) g.1.toNat≤y8 A g.1.toNat + 1:=by
    have hAx:A x=false:=by
     cases h:A x with
     | false=>rfl
     | true=>have:=hA x h;rw [hmx] at this;cases this
    exact Nat.le_of_eq (K9 hAx hx)
   have hcost:frC g (m ||| 2 ^ x)≤t:=by
    unfold frC
    cases d with
    | zero=>
      have hq0:=zml f1 rfl
      have:y8 (frt g (m ||| 2 ^ x).testBit) g.1.toNat≤y8 A g.1.toNat:=XV fun j _ hj=>by
       rcases hF1 j hj with h | h
       · exact h
       · subst h
         unfold frt at hj
         rw [zk,xT] at hj
         obtain ⟨j1,y,y1,y2⟩:=hj
         rw [zk,yN,hbit,Bool.or_eq_false_iff] at y2
         rcases hN j y h1 y2.1 with h | h
         · have:=hq0 y
           rw [h3,h,y2.2.2] at this;cases this
         · have:=hA y h;rw [y2.2.1] at this;cases this
      omega
    | succ d=>
      have:y8 (frt g (m ||| 2 ^ x).testBit) g.1.toNat≤y8 (fun j=>A j || j == x) g.1.toNat:=XV fun j _ hj=>by
       rcases hF1 j hj with h | h
       · rw [h];rfl
       · rw [h];simp
      omega
   obtain ⟨m',c1,b1⟩:=ih t (fun j=>A j || j == x) (m ||| 2 ^ x) (fun j hj=>hn j (by rw [h3,zk] at hj;exact hj.1)) (fun j hj=>by
    rw [h3,zk,yN] at hj
    rw [hbit,hm j hj.1,hj.2];rfl) (fun a b ha hab=>by
    rw [h3,zk] at ha
    rcases hN a b ha.1 hab with h | h
    · cases e:(b == x) with
      | true=>right;simp
      | false=>left;rw [h3,h,e];rfl
    · right;rw [h];rfl) (fun j hj=>by
    rw [yH] at hj
    rw [hbit]
    rcases hj with h | h
    · rw [hA j h];rfl
    · rw [h,Bool.or_true]) (fun j hj=>by
    rcases hF1 j hj with h | h
    · rw [h];rfl
    · rw [h];simp) (by omega)
   refine ⟨m',.step hx hmx hcost c1,fun j=>?_⟩
   rw [b1,hbit,h3,Bool.or_assoc]
   congr 1
   cases e:(j == x) with
   | false=>simp
   | true=>rw [Bool.true_or];have:j=x:=by simpa using e
           rw [this,h1]
end
section
variable {g:Gr} {ps:List Int}
theorem K7 {p:Nat→Bool} {t:Int} {d n:Nat} (h:FS g ps p t d):(∀ j,p j=true→j < n)→∀ x:Nat,p x=true →
    ∃ s,s < d∧s < y8 p n∧chn ps (x:Int) (s + 1)=t∧∀ j,j≤s→∃ y:Nat,chn ps (x:Int) j=y∧p y=true:=by
 induction h with
 | nil h=>intro _ x hx;rw [h x] at hx;cases hx
 | un _ _ h1 h2 i1 i2=>
   intro hn x hx
   rw [h1,yH] at hx
   rcases hx with hx | hx
   · obtain ⟨s,a,b,c,e⟩:=i1 (fun j hj=>hn j (by rw [h1,hj];rfl)) x hx
     exact ⟨s,a,xy b (XV fun j _ hj=>by rw [h1,hj];rfl),c,fun j hj=>by obtain ⟨y,y1,y2⟩:=e j hj;exact ⟨y,y1,by rw [h1,y2];rfl⟩⟩
   · obtain ⟨s,a,b,c,e⟩:=i2 (fun j hj=>hn j (by rw [h1,hj,Bool.or_true])) x hx
     exact ⟨s,a,xy b (XV fun j _ hj=>by rw [h1,hj,Bool.or_true]),c,fun j hj=>by obtain ⟨y,y1,y2⟩:=e j hj;exact ⟨y,y1,by rw [h1,y2,Bool.or_true]⟩⟩
 | root _ h1 h2 h3 ih=>
   rename_i p q t d x0 _
   intro hn x hx
   have hq:∀ j,q j=true→p j=true:=fun j hj=>by rw [h3,zk] at hj;exact hj.1
   have hx0:=hn x0 h1
   have hcnt:y8 q n + 1≤y8 p n:=Uq (fun j _ hj=>hq j hj) ⟨x0,hx0,by rw [h3];simp,h1⟩
   by_cases e:x=x0
   · subst e
     refine ⟨0,by omega,by omega,?_,fun j hj=>⟨x,by obtain rfl:j=0:=by omega
                                                    rfl,h1⟩⟩
     show (if (x:Int) < 0 then -1 else par ps x)=t
     rw [if_neg (by omega)];exact h2
   · obtain ⟨s,a,b,c,f⟩:=ih (fun j hj=>hn j (hq j hj)) x (by rw [h3,hx];simp [e])
     refine ⟨s + 1,by omega,by omega,?_,fun j hj=>?_⟩
     · rw [chn,c,if_neg (by omega)];exact h2
     · by_cases hj':j=s + 1
       · subst hj';exact ⟨x0,c,h1⟩
       · obtain ⟨y,y1,y2⟩:=f j (by omega)
         exact ⟨y,y1,hq y y2⟩
theorem zmi (hg:yz g=true) {p:Nat→Bool} {t:Int} {d n:Nat} (h:FS g ps p t d):(∀ j,p j=true→j < n)→∀ a b:Nat,p a=true→p b=true→adj g a b=true→(∃ s,chn ps (a:Int) (s + 1)=b)∨(∃ s,chn ps (b:Int) (s + 1)=a):=by
 induction h with
 | nil h=>intro _ a b ha;rw [h a] at ha;cases ha
 | un _ _ h1 h2 i1 i2=>
   intro hn a b ha hb hab
   rw [h1,yH] at ha hb
   rcases ha with ha | ha <;> rcases hb with hb | hb
   · exact i1 (fun j hj=>hn j (by rw [h1,hj];rfl)) a b ha hb hab
   · have:=(h2 a b ha hb).2;rw [hab] at this;cases this
   · have:=(h2 b a hb ha).2;rw [JS,hab] at this;cases this
   · exact i2 (fun j hj=>hn j (by rw [h1,hj,Bool.or_true])) a b ha hb hab
 | root f h1 h2 h3 ih=>
   rename_i p q t d x0
   intro hn a b ha hb hab
   have hq:∀ j,q j=true→p j=true:=fun j hj=>by rw [h3,zk] at hj;exact hj.1
   have hq':∀ j,p j=true→j≠x0→q j=true:=fun j hj hne=>by rw [h3,hj];simp [hne]
   have hne:=(Mf hg hab).2.2
   by_cases ea:a=x0
   · subst ea
     obtain ⟨s,_,_,c,_⟩:=K7 f (fun j hj=>hn j (hq j hj)) b (hq' b hb (Ne.symm hne))
     exact .inr ⟨s,c⟩
   · by_cases eb:b=x0
     · subst eb
       obtain ⟨s,_,_,c,_⟩:=K7 f (fun j hj=>hn j (hq j hj)) a (hq' a ha ea)
       exact .inl ⟨s,c⟩
     · exact ih (fun j hj=>hn j (hq j hj)) a b (hq' a ha ea) (hq' b hb eb) hab
theorem Na {n:Nat} {x:Int} {y:Nat} (h0:0≤x) (he:Yq n ps x=true) {s:Nat} (h:chn ps x (s + 1)=y):(y:Int)∈yX ps (n + 1) x:=by
 rw [WC h0]
 refine ⟨s,?_,h⟩
 have hc:=uL ps (n + 1) x h0
 unfold Yq at he
 have he:=of_decide_eq_true he
 rcases w3 s (yX ps (n + 1) x).length with h1 | h1
 · exact h1
 · have:=Ke (hc.2.2.1 (by omega)) (s + 1) (by omega)
   omega
theorem KX {n:Nat} {t:Int} (h0:0≤t):ZR n ps≤t↔∀ x:Nat,x < n→1 + ((yX ps (n + 1) (x:Int)).length:Int)≤t:=by
 unfold ZR
 rw [Ud]
 simp [h0]
theorem zh2 (hg:yz g=true) {d:Nat} (h:FS g ps (fun j=>decide (j < g.1.toNat)) (-1) d) (hl:ps.length=g.1.toNat):xm g ps=true∧ZR g.1.toNat ps≤d:=by
 have h8:=zT hg
 have hn:∀ j:Nat,decide (j < g.1.toNat)=true→j < g.1.toNat:=fun j hj=>of_decide_eq_true hj
 have hcl:∀ x:Nat,x < g.1.toNat→Yq g.1.toNat ps (x:Int)=true∧(yX ps (g.1.toNat + 1) (x:Int)).length < d:=by
  intro x hx
  obtain ⟨s,a,b,c,e⟩:=K7 h hn x (zt hx)
  have hs:s < g.1.toNat:=xy b wt
  have:=zgU (n:=g.1.toNat) (ps:=ps) (x:=(x:Int)) (i:=s) (by omega) hs (fun j hj=>by obtain ⟨y,y1,_⟩:=e j hj;omega) (by omega)
  exact ⟨by unfold Yq;rw [this];exact zt hs,by omega⟩
 refine ⟨?_,(KX (by omega)).2 fun x hx=>by have:=(hcl x hx).2;omega⟩
 unfold xm
 simp only [zk]
 refine ⟨⟨zt (by omega),?_⟩,xj.2 fun x hx=>(hcl x hx).1,xj.2 fun i hi=>?_⟩
 · refine yB.2 fun v hv=>?_
   obtain ⟨x,hx,rfl⟩:=wT.1 hv
   obtain ⟨s,a,b,c,e⟩:=K7 h hn x (zt (by omega))
   have hp:chn ps (x:Int) 1=ps[x]:=by
    show (if (x:Int) < 0 then -1 else par ps x)=_
    rw [if_neg (by omega)];unfold par
    simp [zC,hx]
   have:-1≤ps[x]∧ps[x]≤(g.1.toNat:Int) - 1:=by
    rw [← hp]
    cases s with
    | zero=>rw [c];omega
    | succ s=>obtain ⟨y,y1,y2⟩:=e 1 (by omega)
              have:=hn y y2
              omega
   rw [zt this.1,zt this.2];rfl
 · obtain ⟨e1,e2,e3⟩:=UB hg hi
   obtain ⟨a,ha⟩:∃ a:Nat,(g.2.getD i (0,0)).1=a:=⟨(g.2.getD i (0,0)).1.toNat,by omega⟩
   obtain ⟨b,hb⟩:∃ b:Nat,(g.2.getD i (0,0)).2=b:=⟨(g.2.getD i (0,0)).2.toNat,by omega⟩
   have hab:adj g a b=true:=by
    unfold adj
    exact xT.2 ⟨i,hi,zaE.2 (.inl ⟨ha,hb⟩)⟩
   unfold X2
   rw [ha,hb,yH]
   rcases zmi hg h hn a b (zt (by omega)) (zt (by omega)) hab with ⟨s,hs⟩ | ⟨s,hs⟩
   · exact .inl (zt (Na (by omega) (hcl a (by omega)).1 hs))
   · exact .inr (zt (Na (by omega) (hcl b (by omega)).1 hs))
theorem zdW {f:List Int→Nat→List Int} {t:Int} {K N:Nat} {Q:Nat→Prop} (hg:yz g=true) (hf:∀ m,Q m→∀ qs:List Int,qs.length=N→FS g (f qs m) m.testBit t K∧∀ j,m.testBit j=false→(f qs m).getD j (-1)=qs.getD j (-1)) (hlen:∀ qs m,(f qs m).length=qs.length) :
    ∀ (d:Nat) (p:Nat→Bool) (qs:List Int),qs.length=N→y8 p g.1.toNat≤d→(∀ j,p j=true→j < g.1.toNat)→(∀ m∈prt g d p,Q m)→FS g ((prt g d p).foldl f qs) p t K∧∀ j,p j=false→((prt g d p).foldl f qs).getD j (-1)=qs.getD j (-1)
 | 0,p,qs,hL,hc,hn,hK=>by
   rw [prt]
   have h0:∀ j,p j=false:=by
    intro j
    cases hj:p j with
    | false=>rfl
    | true=>
      have:=zlf.1 (show y8 p g.1.toNat=0 by omega)
      have:=vm.1 this j (hn j hj)
      rw [hj] at this;cases this
   exact ⟨.nil h0,fun _ _=>rfl⟩
 | d + 1,p,qs,hL,hc,hn,hK=>by
   rw [prt] at hK ⊢
   cases hx:ZH p g.1.toNat with
   | none=>
     have h0:∀ j,p j=false:=by
      intro j
      cases hj:p j with
      | false=>rfl
      | true=>have:=vm.1 hx j (hn j hj);rw [hj] at this;cases this
     exact ⟨.nil h0,fun _ _=>rfl⟩
   | some x=>
     simp only [hx] at hK ⊢
     obtain ⟨x1,x2,_⟩:=ub hx
     rw [List.foldl_cons]
     have hb:∀ j,(mkm (yY g p x) g.1.toNat).testBit j=yY g p x j:=by
      intro j
      rw [yj]
      cases hc2:yY g p x j with
      | false=>simp
      | true=>rw [zt (M0 hg x1 hc2)];rfl
     obtain ⟨a1,a2⟩:=hf (mkm (yY g p x) g.1.toNat) (hK _ (List.mem_cons_self ..)) qs hL
     obtain ⟨b1,b2⟩:=zdW hg hf hlen d (fun j=>p j && !yY g p x j) (f qs (mkm (yY g p x) g.1.toNat)) (by rw [hlen];exact hL) (Nk x1 x2 hc) (fun j hj=>hn j (by rw [zk] at hj;exact hj.1)) (fun m hm=>hK m (List.mem_cons_of_mem _ hm))
     refine ⟨.un (K6 (zvU a1 _ fun j hj=>b2 j (by rw [hb] at hj;rw [hj];simp)) fun j=>(hb j).symm) b1 (fun j=>?_) (fun a b ha hb'=>?_),fun j hj=>?_⟩
     · cases hcj:yY g p x j with
       | false=>simp
       | true=>rw [Xd x2 hcj];rfl
     · rw [zk,yN] at hb'
       refine ⟨fun e=>(by subst e;rw [ha] at hb';exact absurd hb'.2 (by simp)),?_⟩
       cases hab:adj g a b with
       | false=>rfl
       | true=>
         have:=u7 hg x1 x2 ha hb'.1 hab
         rw [hb'.2] at this;cases this
     · rw [b2 j (by rw [hj];rfl),a2 j (by
        rw [hb]
        cases hcj:yY g p x j with
        | false=>rfl
        | true=>rw [Xd x2 hcj] at hj;cases hj)]
theorem zdH {D:List Int} {c:Nat}:∀ (n:Nat) (l:List Int),l.length=n→l≠[]→∀ y∈l,D.getD (c - 2 ^ (fm (Ym D c) l).toNat) 0≤D.getD (c - 2 ^ y.toNat) 0
 | 0,l,hn,h,_,_=>absurd (List.length_eq_zero_iff.1 hn) h
 | n + 1,l',hn,hne,y,hy=>by
   obtain ⟨l,z,rfl⟩:∃ l z,l'=l++[z]:=⟨l'.take n,l'.getD n 0,by rw [← WG (by omega),List.take_of_length_le (by omega)]⟩
   have ih:=zdH (D:=D) (c:=c) n l (by simpa using hn)
   by_cases hl:l=[]
   · subst hl
     have:y=z:=by simpa using hy
     subst this
     simp [fm]
   · rw [zct hl]
     have hz:∀ b,D.getD (c - 2 ^ (Ym D c b z).toNat) 0≤D.getD (c - 2 ^ b.toNat) 0∧D.getD (c - 2 ^ (Ym D c b z).toNat) 0≤D.getD (c - 2 ^ z.toNat) 0:=by
      intro b
      unfold Ym
      split <;> constructor <;> omega
     rcases zN.1 hy with h | h
     · have:=ih hl y h
       have:=(hz (fm (Ym D c) l)).1
       omega
     · have:y=z:=by simpa using h
       subst this
       exact (hz _).2
end
theorem zmu {g:Gr} (hg:yz g=true):∀ (k c:Nat) (t:Int) (qs:List Int) (K:Nat),c < 2 ^ g.1.toNat→UW c < k→td g c≤K→qs.length=g.1.toNat →
    FS g (bfG g (tdT g (2 ^ g.1.toNat - 1)) k c t qs) c.testBit t K∧∀ j,c.testBit j=false→(bfG g (tdT g (2 ^ g.1.toNat - 1)) k c t qs).getD j (-1)=qs.getD j (-1)
 | 0,c,t,qs,K,hc,hk,_,_=>by omega
 | k + 1,c,t,qs,K,hc,hk,hK,hq=>by
   have h8:=zT hg
   have h256:=Zi (n:=g.1.toNat) (by omega)
   have hlt:∀ m:Nat,m < 2 ^ g.1.toNat→∀ j,m.testBit j=true→j < g.1.toNat:=by
    intro m hm j hj
    rcases w3 j g.1.toNat with h | h
    · exact h
    · have:=Nat.testBit_lt_two_pow (xy hm (xw (by decide) h));rw [hj] at this;cases this
   rw [bfG]
   refine zdW (N:=g.1.toNat) (Q:=fun m=>m∈prt g g.1.toNat c.testBit) hg (fun m hm qs hq=>?_) (fun qs m=>by rw [K5];simp) _ _ _ hq wt (hlt c hc) (fun m hm=>hm)
   obtain ⟨b,b1,b2,b3,b4,b5,b6,b7,_⟩:=WJ (D:=tdT g (2 ^ g.1.toNat - 1)) hg hm
   have hKm:=(JE hg hc (by omega)).2 hK m hm
   obtain ⟨y,y1,y2,y3⟩:=(MV hg b4 b5 (by rw [Ut hg _ _ m hm];rfl)).1 hKm
   have hle:td g (m - 2 ^ b)≤td g (m - 2 ^ y):=by
    have:=zdH (D:=tdT g (2 ^ g.1.toNat - 1)) (c:=m) _ (zp m.testBit g.1.toNat) rfl (Kc b4 b5) (y:Int) (xr.2 ⟨y,rfl,y1,y2⟩)
    have e:fm (Ym (tdT g (2 ^ g.1.toNat - 1)) m) (zp m.testBit g.1.toNat)=(b:Int):=b1
    rw [e,z5,z5,L4 _ _ (by omega),L4 _ _ (by have:=yi y;omega)] at this
    exact this
   have h0:=(zcX hg b6).1
   obtain ⟨K',rfl⟩:∃ K',K=K' + 1:=⟨K - 1,by omega⟩
   show FS g (bfG g _ k (m - 2 ^ (vX _ g.1.toNat m).toNat) (vX _ g.1.toNat m) (qs.set (vX _ g.1.toNat m).toNat t)) _ t _∧∀ j,_→(bfG g _ k (m - 2 ^ (vX _ g.1.toNat m).toNat) (vX _ g.1.toNat m) (qs.set (vX _ g.1.toNat m).toNat t)).getD j (-1)=_
   rw [b1,z5]
   obtain ⟨c1,c2⟩:=zmu hg k (m - 2 ^ b) (b:Int) (qs.set b t) K' b6 (by omega) (by omega) (by simpa using hq)
   have hbit:∀ j,(m - 2 ^ b).testBit j=(m.testBit j && !(j == b)):=by
    intro j
    rcases w3 j 8 with h | h
    · exact Ul m (by omega) b (by omega) b3 j h
    · rw [Nat.testBit_lt_two_pow (x:=m - 2 ^ b) (i:=j) (xy (show m - 2 ^ b < 2 ^ 8 by omega) (xw (by decide) h)),
       Nat.testBit_lt_two_pow (x:=m) (i:=j) (xy (show m < 2 ^ 8 by omega) (xw (by decide) h))];rfl
   refine ⟨.root c1 b3 ?_ hbit,fun j hj=>?_⟩
   · rw [c2 b (by rw [hbit];simp),zC,List.getElem?_set_self (by omega)];rfl
   · have hne:b≠j:=fun e=>by subst e;rw [b3] at hj;cases hj
     rw [c2 j (by rw [hbit,hj];rfl),zC,List.getElem?_set_ne hne,← zC]
theorem zjk {g:Gr} (hg:yz g=true) {K:Nat} (hK:td g (2 ^ g.1.toNat - 1)≤K):FS g (Yu g) (fun j=>decide (j < g.1.toNat)) (-1) K:=by
 have h8:=zT hg
 have hpow:=yi g.1.toNat
 have hc:mkm (fun _=>true) g.1.toNat < 2 ^ g.1.toNat:=Xx
 have hpc:=Wp (n:=g.1.toNat) (m:=mkm (fun _=>true) g.1.toNat) (by omega) hc
 have hm:mkm (fun _=>true) g.1.toNat=2 ^ g.1.toNat - 1:=ZX fun j=>by rw [yj,Nat.testBit_two_pow_sub_one,Bool.and_true]
 refine K6 (zmu hg 300 (mkm (fun _=>true) g.1.toNat) (-1) (List.replicate g.1.toNat 0) K hc (by omega) (by rw [hm];exact hK) (by simp)).1 fun j=>?_
 rw [yj,Bool.and_true]
def zew (n:Nat) (ps:List Int) (x j:Nat):Bool:=decide (j < n) && ((j == x) || decide ((x:Int)∈yX ps (n + 1) (j:Int)))
def zeU (n:Nat) (ps:List Int) (t:Int) (i j:Nat):Bool:=uC (fun c=>decide (par ps (c:Int)=t) && zew n ps c j) i
section
variable {ps:List Int} {n:Nat}
theorem Uc (he:∀ x:Nat,x < n→Yq n ps (x:Int)=true) {x j:Nat}:zew n ps x j=true↔j < n∧∃ s,chn ps (j:Int) s=x:=by
 unfold zew
 rw [zk,z8,yH]
 constructor
 · rintro ⟨h1,h | h⟩
   · have:j=x:=by simpa using h
     exact ⟨h1,0,by rw [this];rfl⟩
   · obtain ⟨s,_,h⟩:=(WC (by omega)).1 (of_decide_eq_true h)
     exact ⟨h1,s + 1,h⟩
 · rintro ⟨h1,s,h⟩
   refine ⟨h1,?_⟩
   cases s with
   | zero=>have h:(j:Int)=x:=h
           left;simp;omega
   | succ s=>exact .inr (zt (Na (by omega) (he j h1) h))
theorem ML {a b:Int} {s:Nat} (h:chn ps a s=b):∀ s',chn ps a (s + s')=chn ps b s'
 | 0=>h
 | s' + 1=>by
   show chn ps a (s + s' + 1)=_
   rw [chn,ML h s',chn]
theorem NB (he:∀ x:Nat,x < n→Yq n ps (x:Int)=true) {j a b:Nat} (hj:j < n) (hab:a < b) (e:chn ps (j:Int) a=chn ps (j:Int) b) (h0:0≤chn ps (j:Int) b):False:=by
 have:=NV (n:=n) (ps:=ps) (x:=(j:Int)) (by omega) (Mb hab e h0)
 rw [he j hj] at this;cases this
theorem zbI (he:∀ x:Nat,x < n→Yq n ps (x:Int)=true) {c i j s s':Nat} {t:Int} (hj:j < n) (hci:c≠i) (hc:par ps (c:Int)=t) (hi:par ps (i:Int)=t) (h1:chn ps (j:Int) s=c) (h2:chn ps (j:Int) s'=i):False:=by
 have k1:chn ps (j:Int) (s + 1)=t:=by rw [chn,h1,if_neg (by omega),hc]
 have k2:chn ps (j:Int) (s' + 1)=t:=by rw [chn,h2,if_neg (by omega),hi]
 rcases Nat.lt_trichotomy s s' with h | h | h
 · rcases Int.lt_or_le t 0 with h0 | h0
   · have:=Ke (ps:=ps) (x:=(j:Int)) (m:=s + 1) (by omega) s' (by omega)
     omega
   · exact NB he hj (show s + 1 < s' + 1 by omega) (by rw [k1,k2]) (by omega)
 · subst h;omega
 · rcases Int.lt_or_le t 0 with h0 | h0
   · have:=Ke (ps:=ps) (x:=(j:Int)) (m:=s' + 1) (by omega) s (by omega)
     omega
   · exact NB he hj (show s' + 1 < s + 1 by omega) (by rw [k1,k2]) (by omega)
end
section
variable {g:Gr} {ps:List Int}
theorem ze5 (hg:yz g=true) (hf:xm g ps=true) {a b:Nat} (hab:adj g a b=true):(b:Int)∈yX ps (g.1.toNat + 1) (a:Int)∨(a:Int)∈yX ps (g.1.toNat + 1) (b:Int):=by
 unfold xm at hf
 simp only [zk] at hf
 unfold adj at hab
 obtain ⟨i,hi,hj⟩:=xT.1 hab
 have:=xj.1 hf.2.2 i hi
 unfold X2 at this
 rw [yH,z8,z8] at this
 rcases zaE.1 hj with ⟨h1,h2⟩ | ⟨h1,h2⟩
 · rw [h1,h2] at this;exact this
 · rw [h1,h2] at this;exact this.symm
theorem MX (hg:yz g=true) (hf:xm g ps=true) {t:Int} {d:Nat} (h:∀ c:Nat,c < g.1.toNat→par ps (c:Int)=t→FS g ps (zew g.1.toNat ps c) t d):∀ i,i≤g.1.toNat→FS g ps (zeU g.1.toNat ps t i) t d
 | 0,_=>.nil fun _=>rfl
 | i + 1,hi=>by
   have h8:=zT hg
   obtain ⟨hok,he⟩:=WR hf h8.1
   by_cases hp:par ps (i:Int)=t
   · refine .un (MX hg hf h i (by omega)) (h i (by omega) hp) (fun j=>?_) (fun a b ha hb=>?_)
     · have:zeU g.1.toNat ps t (i + 1) j=(zeU g.1.toNat ps t i j || (decide (par ps (i:Int)=t) && zew g.1.toNat ps i j)):=rfl
       rw [this,zt hp,z7]
     · obtain ⟨c,hc,hcc⟩:=xT.1 ha
       rw [zk,z8] at hcc
       obtain ⟨a1,s,hs⟩:=(Uc he).1 hcc.2
       obtain ⟨b1,s',hs'⟩:=(Uc he).1 hb
       refine ⟨fun e=>by subst e;exact zbI he a1 (by omega) hcc.1 hp hs hs',?_⟩
       cases hab:adj g a b with
       | false=>rfl
       | true=>
         exfalso
         rcases ze5 hg hf hab with h | h
         · obtain ⟨z,_,hz⟩:=(WC (by omega)).1 h
           exact zbI he a1 (by omega) hcc.1 hp hs (by rw [ML hz s',hs'])
         · obtain ⟨z,_,hz⟩:=(WC (by omega)).1 h
           exact zbI he b1 (by omega) hcc.1 hp (by rw [ML hz s,hs]) hs'
   · refine K6 (MX hg hf h i (by omega)) fun j=>?_
     have:zeU g.1.toNat ps t (i + 1) j=(zeU g.1.toNat ps t i j || (decide (par ps (i:Int)=t) && zew g.1.toNat ps i j)):=rfl
     rw [this,zL hp,vf,uT]
theorem zj6 (hg:yz g=true) (hf:xm g ps=true) {k:Nat} (hk:∀ x:Nat,x < g.1.toNat→(yX ps (g.1.toNat + 1) (x:Int)).length < k):∀ (d x:Nat),x < g.1.toNat→k≤(yX ps (g.1.toNat + 1) (x:Int)).length + d→FS g ps (zew g.1.toNat ps x) (par ps (x:Int)) d
 | 0,x,hx,h=>by have:=hk x hx;omega
 | d + 1,x,hx,h=>by
   have h8:=zT hg
   obtain ⟨hok,he⟩:=WR hf h8.1
   have ih:=MX hg hf (t:=(x:Int)) (d:=d) (fun c hc hp=>by
    rw [← hp]
    refine zj6 hg hf hk d c hc ?_
    have k1:=uL ps (g.1.toNat + 1) (c:Int) (by omega)
    have k2:=uL ps (g.1.toNat + 1) (x:Int) (by omega)
    have e1:=of_decide_eq_true (he c hc)
    rcases w3 (yX ps (g.1.toNat + 1) (x:Int)).length (yX ps (g.1.toNat + 1) (c:Int)).length with hl | hl
    · omega
    · exfalso
      have n1:=k1.2.2.1 (by omega)
      have c1:chn ps (c:Int) 1=x:=by show (if (c:Int) < 0 then -1 else par ps c)=x;rw [if_neg (by omega),hp]
      have:=ML c1 (yX ps (g.1.toNat + 1) (c:Int)).length
      rw [Nat.add_comm,this] at n1
      have:=k2.2.1 _ hl
      omega) g.1.toNat (yP _)
   refine .root ih ?_ ?_ fun j=>?_
   · exact (Uc he).2 ⟨hx,0,rfl⟩
   · unfold par;rw [z5]
   · rw [yo,zk,Uc he]
     unfold zeU
     rw [xT]
     constructor
     · rintro ⟨c,hc,hcc⟩
       rw [zk,z8,Uc he] at hcc
       obtain ⟨hp,hj,s,hs⟩:=hcc
       have hs1:chn ps (j:Int) (s + 1)=x:=by rw [chn,hs,if_neg (by omega),hp]
       refine ⟨⟨hj,s + 1,hs1⟩,?_⟩
       rw [yN,beq_eq_false_iff_ne]
       intro e
       subst e
       exact NB he hj (show 0 < s + 1 by omega) (by rw [hs1];rfl) (by omega)
     · rintro ⟨⟨hj,s,hs⟩,hne⟩
       rw [yN,beq_eq_false_iff_ne] at hne
       cases s with
       | zero=>have hs:(j:Int)=x:=hs
               omega
       | succ s=>
         rw [chn] at hs
         by_cases h0:chn ps (j:Int) s < 0
         · rw [if_pos h0] at hs;omega
         · rw [if_neg h0] at hs
           have hlt:=Qk hok (x:=(j:Int)) (by omega) s
           refine ⟨(chn ps (j:Int) s).toNat,by omega,?_⟩
           rw [zk,z8,Uc he]
           rw [Int.toNat_of_nonneg (by omega)]
           exact ⟨hs,hj,s,rfl⟩
theorem zhn (hg:yz g=true) (hf:xm g ps=true) {k:Nat} (hk:ZR g.1.toNat ps≤k):FS g ps (fun j=>decide (j < g.1.toNat)) (-1) k:=by
 have h8:=zT hg
 obtain ⟨hok,he⟩:=WR hf h8.1
 have hk':=(KX (by omega)).1 hk
 refine K6 (MX hg hf (t:=-1) (d:=k) (fun c hc hp=>?_) g.1.toNat (yP _)) fun j=>?_
 · have:=zj6 hg hf (k:=k) (fun x hx=>by have:=hk' x hx;omega) k c hc (by omega)
   rwa [hp] at this
 · unfold zeU
   rw [yo,z8,xT]
   constructor
   · intro hj
     have k1:=uL ps (g.1.toNat + 1) (j:Int) (by omega)
     have e1:=of_decide_eq_true (he j hj)
     have n1:=k1.2.2.1 (by omega)
     have n2:=k1.2.1 _ (yP _)
     have hlt:=Qk hok (x:=(j:Int)) (by omega) (yX ps (g.1.toNat + 1) (j:Int)).length
     refine ⟨(chn ps (j:Int) (yX ps (g.1.toNat + 1) (j:Int)).length).toNat,by omega,?_⟩
     rw [zk,z8,Uc he,Int.toNat_of_nonneg n2]
     refine ⟨?_,hj,_,rfl⟩
     rw [chn,if_neg (by omega)] at n1
     have:=(ze1 hok (chn ps (j:Int) (yX ps (g.1.toNat + 1) (j:Int)).length)).1
     omega
   · rintro ⟨c,_,hcc⟩
     rw [zk,Uc he] at hcc
     exact hcc.2.1
theorem NX (hg:yz g=true):xm g (Yu g)=true∧ZR g.1.toNat (Yu g)=td g (2 ^ g.1.toNat - 1)∧(∀ ps,xm g ps=true→td g (2 ^ g.1.toNat - 1)≤ZR g.1.toNat ps) ∧
    ∀ t:Int,td g (2 ^ g.1.toNat - 1)≤t + 1→Ch g.1.toNat (frC g) t 0 (2 ^ g.1.toNat - 1):=by
 have h8:=zT hg
 have hpow:=yi g.1.toNat
 have h0:=(zcX hg (m:=2 ^ g.1.toNat - 1) (by omega)).1
 obtain ⟨K,hK⟩:∃ K:Nat,td g (2 ^ g.1.toNat - 1)=K:=⟨(td g (2 ^ g.1.toNat - 1)).toNat,by omega⟩
 have hb:=zjk hg (K:=K) (by omega)
 obtain ⟨f1,f2⟩:=zh2 hg hb LM
 have low:∀ ps,xm g ps=true→td g (2 ^ g.1.toNat - 1)≤ZR g.1.toNat ps:=by
  intro ps hf
  have hd0:0≤ZR g.1.toNat ps:=by
   have:=(KX (ps:=ps) (n:=g.1.toNat) (t:=max 0 (ZR g.1.toNat ps)) (by omega)).1 (by omega)
   unfold ZR
   exact ((Ud (B:=_) _ _).1 (ZB _)).1
  have:=zsA hg (zhn hg hf (k:=(ZR g.1.toNat ps).toNat) (by omega)) (2 ^ g.1.toNat - 1) (by omega) (fun j hj=>by rwa [Nat.testBit_two_pow_sub_one] at hj)
  omega
 refine ⟨f1,?_,low,fun t ht=>?_⟩
 · have:=low _ f1
   omega
 · have hz:y8 (fun _=>false) g.1.toNat=0:=by simp [y8]
   obtain ⟨m',c,b⟩:=zvQ hg hb t (fun _=>false) 0 (fun j hj=>of_decide_eq_true hj) (fun j _=>wF j) (fun a b _ hab=>.inl (zt (by have:=Mf hg hab;omega)))
    (fun j hj=>by cases hj) (fun j hj=>by unfold frt at hj;rw [wF] at hj;cases hj) (by omega)
   have:m'=2 ^ g.1.toNat - 1:=ZX fun j=>by rw [b,wF,YO,Nat.testBit_two_pow_sub_one]
   rwa [this] at c
end
theorem M2 {l:List Int} {t i x:Nat} (ht:t < i) (hl:t < l.length) (hx:l.getD t 0=(x:Int)):Yo l i x=true:=by
 unfold Yo
 refine zt ?_
 rw [List.mem_take_iff_getElem]
 refine ⟨t,by omega,?_⟩
 rw [← hx,zC,zX hl];rfl
theorem zlv {g:Gr} {m x b:Nat} (h:Qg g m x b=true):m.testBit b=false∧b≠x:=by
 unfold Qg at h
 simp only [zk,yN,beq_eq_false_iff_ne] at h
 exact h.1
def cod (s:Nat×Nat):Nat:=s.1 + 256 * s.2
theorem zeR {l:List Nat} {N:Nat} (hn:l.Nodup) (h:∀ x∈l,x < N):l.length≤N:=by
 have:=LU N (l.map fun x:Nat=>(x:Int)) (by
  rw [List.nodup_iff_pairwise_ne] at hn ⊢
  rw [List.pairwise_map]
  exact hn.imp fun h=>by omega) (by
  intro x hx
  obtain ⟨y,hy,rfl⟩:=xb.1 hx
  have:=h y hy
  omega)
 have h2:=wt (p:=fun j=>decide ((j:Int)∈l.map fun x:Nat=>(x:Int))) (n:=N)
 rw [this,wB] at h2
 exact h2
structure Bfs (g:Gr) (k:Int) (T:List (Nat×Nat)) (P:List (NL Int)) (sn:List Bool):Prop where
 fst:T[0]?=some (0,2 ^ g.1.toNat - 1)
 rch:∀ s∈T,Rch g k s
 pln:P.length=T.length
 prg:∀ i,i < P.length→(P.getD i .nil).list.length≤i
 sln:sn.length=65536
 see:∀ c,c < 65536→(sn.getD c false=true↔∃ s∈T.tail,cod s=c)
 nod:(T.tail.map cod).Nodup
theorem Bfs.len {g:Gr} {k:Int} {T:List (Nat×Nat)} {P:List (NL Int)} {sn:List Bool} (hg:yz g=true) (h6:g.1≤6) (hk:0≤k) (h:Bfs g k T P sn):T.length≤16385:=by
 have:=zeR (N:=16384) h.nod (by
  intro c hc
  obtain ⟨s,hs,rfl⟩:=xb.1 hc
  have hst:=zlp hg hk (h.rch s (List.mem_of_mem_tail hs))
  have hp:=xw (n:=2) (by decide) (show g.1.toNat≤6 by omega)
  have h1:=hst.lt1
  have h2:=hst.lt2
  unfold cod
  omega)
 rw [wB,List.length_tail] at this
 omega
section
variable {g:Gr} {l:List Int}
theorem ziN (hg:yz g=true) (ho:Yl g.1 l=true) {i:Nat} (hi:i < l.length):∃ x:Nat,l.getD i 0=(x:Int)∧x < g.1.toNat:=by
 have h8:=zT hg
 have hr:=zdJ ho h8.1 _ (vo (d:=0) hi)
 exact ⟨(l.getD i 0).toNat,by omega,by omega⟩
theorem zg5 (hg:yz g=true) (ho:Yl g.1 l=true) {b:Nat} (hb:b < g.1.toNat):∃ t,t < l.length∧l.getD t 0=(b:Int):=by
 have:=LL ho (x:=(b:Int)) (by omega) (by omega)
 obtain ⟨t,ht,he⟩:=wT.1 this
 exact ⟨t,ht,by rw [zC,zX ht];exact he⟩
end
def frS (g:Gr) (l:List Int) (i:Nat):Int:=((y8 (frt g (Yo l i)) g.1.toNat:Nat):Int)
section
variable {g:Gr} {l:List Int}
theorem zji (hg:yz g=true) (ho:Yl g.1 l=true) {i:Nat}:(mkm (Yo l i) g.1.toNat).testBit=Yo l i:=by
 have h8:=zT hg
 have hr:=zdJ ho h8.1
 funext j
 rw [yj]
 by_cases hj:j < g.1.toNat
 · simp [hj]
 · rw [zL hj,vf]
   symm
   unfold Yo
   rw [decide_eq_false_iff_not]
   intro h
   have:=hr _ (List.mem_of_mem_take h)
   omega
theorem zhy:mkm (Yo l 0) g.1.toNat=0:=by
 apply ZX;intro j;rw [yj];simp [Yo]
theorem zhB (hg:yz g=true) (ho:Yl g.1 l=true):mkm (Yo l l.length) g.1.toNat=2 ^ g.1.toNat - 1:=by
 refine zfJ Xx fun x hx=>?_
 rw [zji hg ho]
 obtain ⟨t,ht,he⟩:=zg5 hg ho hx
 unfold Yo
 rw [decide_eq_true_iff,List.take_length]
 have:l.getD t 0∈l:=vo ht
 rw [he] at this;exact this
theorem zdb {n:Nat} (hl:l.length=n) (h:bq l=(2 ^ n - 1).testBit):Yl (n:Int) l=true:=by
 unfold Yl
 rw [zk]
 refine ⟨by simp [hl],?_⟩
 rw [xj]
 intro j hj
 have:=congrFun h j
 unfold bq at this
 rw [this,Nat.testBit_two_pow_sub_one]
 simpa using hj
end
theorem MI {F:Nat} {g:Gr} {nn:Int} (hg:yz g=true) (hF:300≤F) :
    ∃ best:List Int,ym F ⟨yF g⟩ nn ⟨(⟨yF g⟩,()),()⟩=some best∧best.length=2 ^ g.1.toNat∧Mk g.1.toNat (elC g) nn (fun m=>best.getD m 0):=by
 have h8:=zT hg
 obtain ⟨n,hn⟩:∃ n:Nat,g.1.toNat=n:=⟨_,rfl⟩
 have hn8:n≤8:=by omega
 have hpow:=yi n
 have hp256:2 ^ n≤256:=by
  have:=xw (n:=2) (by decide) hn8
  simpa using this
 have hall:xa F ⟨yF g⟩=some ((2 ^ n - 1:Nat):Int):=by
  unfold xa
  rw [vz,hn,xB (by omega),zc,xp (by omega) (by omega)]
  congr 1;omega
 have hw:w64 (((2 ^ n - 1:Nat):Int) + 1)=((2 ^ n:Nat):Int):=by rw [xp (by omega) (by omega)];omega
 unfold ym
 rw [hall,zc,hw,Uh (by omega),zc,zc,hn]
 have key:∀ d k (best:List Int),d≤2 ^ n→d < k→best.length=2 ^ n →
     (∀ j,d≤j→j < 2 ^ n→best.getD j 0=mn (fun x=>max (elC g j x.toNat) (best.getD (j ||| 2 ^ x.toNat) 0)) (vO n j) nn) →
     ∃ b,zM F nn ⟨(⟨yF g⟩,()),()⟩ ⟨yF g⟩ k best ((d:Int) - 1)=some b∧b.length=2 ^ n∧Mk n (elC g) nn (fun m=>b.getD m 0):=by
  intro d
  induction d with
  | zero=>
    intro k best _ hk hlen hrec
    obtain ⟨k,rfl⟩:∃ k',k=k' + 1:=⟨k - 1,by omega⟩
    refine ⟨best,?_,hlen,fun m hm=>hrec m (by omega) hm⟩
    simp only [zM]
    rw [zL (by omega),zi]
  | succ d ih=>
    intro k best hd hk hlen hrec
    obtain ⟨k,rfl⟩:∃ k',k=k' + 1:=⟨k - 1,by omega⟩
    have hdn:d < 2 ^ n:=by omega
    have e0:((d + 1:Nat):Int) - 1=(d:Int):=by omega
    have hmk:yW .i64 ((2 ^ n - 1:Nat):Int) (d:Int)=((mkm (fun x=>!d.testBit x) n:Nat):Int):=by
     obtain ⟨c,hc,_,hb⟩:=ud (a:=2 ^ n - 1) (b:=d) (by omega) (by omega)
     rw [hc]
     congr 1
     refine uK fun j=>?_
     rw [hb,Nat.testBit_two_pow_sub_one]
    have hl8:(vO n d).length≤8:=by unfold vO;rw [y9];exact xz wt hn8
    simp only [zM]
    rw [e0,zt (by omega),zl,zY (d:=0) (by omega),zc,hall,zc,hmk,JH hn8 (by omega),zc,z5]
    obtain ⟨s,hs,he⟩:=U2 (L:=fun k2 t s=>zQ F nn ⟨(⟨yF g⟩,()),()⟩ ⟨yF g⟩ (d:Int) (vO n d) (zM F nn ⟨(⟨yF g⟩,()),()⟩ ⟨yF g⟩ k) k2 s t) (n:=(vO n d).length)
     (fun t s=>s=best.set d (mn (fun x=>max (elC g d x.toNat) (best.getD (d ||| 2 ^ x.toNat) 0)) ((vO n d).take t) nn)) (fin:=fun s=>zM F nn ⟨(⟨yF g⟩,()),()⟩ ⟨yF g⟩ k s ((d:Int) - 1)) (by
       intro k2 t s ht hI
       subst hI
       refine ⟨_,rfl,?_⟩
       obtain ⟨x,hx,hxn,hxb⟩:=Xi.1 (vo (d:=0) ht)
       have hgt:=Kj d (by omega) x (by omega) hxb
       have hxp:=yi x
       have hor:=zcT hdn hxn
       have hcost:=zmr (F:=F) (m:=d) (x:=x) hg (by omega) (by rw [hn];exact hdn) (by rw [hn];exact hxn)
       have htake:(vO n d).take (t + 1)=(vO n d).take t++[(x:Int)]:=by
        rw [List.take_add_one,zX ht]
        rw [zC,zX ht,yV] at hx
        rw [hx];rfl
       have hget:∀ a:Int,(best.set d a).getD (d ||| 2 ^ x) 0=best.getD (d ||| 2 ^ x) 0:=by
        intro a
        rw [zC,List.getElem?_set_ne (by omega),← zC]
       have hgetd:∀ a:Int,(best.set d a).getD d 0=a:=by
        intro a
        rw [zC,List.getElem?_set_self (by omega),yV]
       simp only [zQ,yJ,yK]
       rw [zt (show (t:Int) < ((vO n d).length:Int) by omega),zl,zY (d:=0) ht,zc,hx]
       rw [hcost,zc,xB (by omega),zc,Wf (by omega) (YB (by omega)),zY (d:=0) (by rw [List.length_set];omega),zc,hget,zY (d:=0) (by rw [List.length_set];omega),zc,zc,hgetd,z5,List.set_set,yk ht (by unfold Sm;omega),htake,zcH]
       have hmax:(if best.getD (d ||| 2 ^ x) 0 > elC g d x then best.getD (d ||| 2 ^ x) 0 else elC g d x)=max (elC g d x) (best.getD (d ||| 2 ^ x) 0):=by
        by_cases h:best.getD (d ||| 2 ^ x) 0 > elC g d x
        · rw [if_pos h,Int.max_eq_right (by omega)]
        · rw [if_neg h,Int.max_eq_left (by omega)]
       rw [hmax,z5]
       by_cases ht0:t=0
       · subst ht0
         rw [if_pos (.inl (by simp))]
         rfl
       · have hne:(vO n d).take t≠[]:=by
          intro e
          have:=congrArg List.length e
          rw [Yh] at this
          simp only [List.length_nil] at this
          omega
         have hb:((t:Int) == 0)=false:=by rw [beq_eq_false_iff_ne];omega
         rw [hb,zi]
         by_cases hlt:max (elC g d x) (best.getD (d ||| 2 ^ x) 0) < mn (fun x=>max (elC g d x.toNat) (best.getD (d ||| 2 ^ x.toNat) 0)) ((vO n d).take t) nn
         · rw [zt hlt,zl,if_pos (.inr hlt)]
         · rw [zL hlt,zi,if_neg (fun h=>h.elim hne hlt)]) (by
       intro k2 s hI
       simp only [zQ]
       rw [zL (show ¬ ((vO n d).length:Int) < ((vO n d).length:Int) by omega),zi,xp (by omega) (by omega)]) F (best.set d nn) (by omega) rfl
    have he':zQ F nn ⟨(⟨yF g⟩,()),()⟩ ⟨yF g⟩ (d:Int) (vO n d) (zM F nn ⟨(⟨yF g⟩,()),()⟩ ⟨yF g⟩ k) F (best.set d nn) 0=zM F nn ⟨(⟨yF g⟩,()),()⟩ ⟨yF g⟩ k s ((d:Int) - 1):=he
    rw [List.take_length] at hs
    rw [show zp (fun x=>!d.testBit x) n=vO n d from rfl,he']
    refine ih k s (by omega) (by omega) (by rw [hs,List.length_set];exact hlen) ?_
    have hsd:s.getD d 0=mn (fun x=>max (elC g d x.toNat) (best.getD (d ||| 2 ^ x.toNat) 0)) (vO n d) nn:=by
     rw [hs,zC,List.getElem?_set_self (by omega),yV]
    have hsne:∀ j,j≠d→s.getD j 0=best.getD j 0:=by
     intro j hj
     rw [hs,zC,List.getElem?_set_ne (by omega),← zC]
    intro j h1 h2
    have hcg:mn (fun x=>max (elC g j x.toNat) (best.getD (j ||| 2 ^ x.toNat) 0)) (vO n j) nn=mn (fun x=>max (elC g j x.toNat) (s.getD (j ||| 2 ^ x.toNat) 0)) (vO n j) nn:=by
     refine zdv fun y hy=>?_
     obtain ⟨x,rfl,hxn,hxb⟩:=Xi.1 hy
     have hgt:=Kj j (by omega) x (by omega) hxb
     have hxp:=yi x
     rw [z5,hsne _ (by omega)]
    by_cases e:j=d
    · subst e;rw [hsd,hcg]
    · rw [hsne j e,hrec j (by omega) h2,hcg]
 have e1:((2 ^ n - 1:Nat):Int)=((2 ^ n:Nat):Int) - 1:=by omega
 rw [e1]
 exact key (2 ^ n) F _ (by omega) (by omega) (by simp) (fun j h1 h2=>absurd h2 (by omega))
section
variable {g:Gr} {l:List Int}
theorem ze9 {t:Int}:∀ k,elW g l k≤t↔-1≤t∧∀ i,i < k→elV g l i≤t
 | 0=>by
   show (-1:Int)≤t↔_
   exact ⟨fun h=>⟨h,fun i hi=>by omega⟩,fun h=>h.1⟩
 | k + 1=>by
   rw [ziE]
   have ih:=ze9 (t:=t) k
   constructor
   · intro h
     have h1:=ih.1 (by omega)
     refine ⟨h1.1,fun i hi=>?_⟩
     by_cases e:i=k
     · subst e;omega
     · exact h1.2 i (by omega)
   · rintro ⟨h1,h2⟩
     have h3:=ih.2 ⟨h1,fun i hi=>h2 i (by omega)⟩
     have h4:=h2 k (by omega)
     omega
theorem zkw {T:Nat→Int} {t:Int} (hg:yz g=true) (ho:Yl g.1 l=true) (hT:Mk g.1.toNat (elC g) (-1) T) (ht:-1≤t) (h:∀ i,i < l.length→elV g l i≤t):T 0≤t:=by
 have h8:=zT hg
 have hlen:=Kn ho
 have key:∀ d i,i + d=l.length→T (We l g.1.toNat i)≤t:=by
  intro d
  induction d with
  | zero=>
    intro i hi
    obtain rfl:i=l.length:=by omega
    have e:We l g.1.toNat l.length=2 ^ g.1.toNat - 1:=zhB hg ho
    have hpow:=yi g.1.toNat
    rw [e,hT _ (by omega),(NP (by omega)).2 rfl,ziu]
    exact ht
  | succ d ih=>
    intro i hi
    obtain ⟨x,hx,hxn⟩:=ziN hg ho (show i < l.length by omega)
    have hlt:We l g.1.toNat i < 2 ^ g.1.toNat:=Xx
    have hb:(We l g.1.toNat i).testBit x=false:=by
     rw [LJ hxn];exact Mh ho h8.1 (by omega) hx
    have hm:(x:Int)∈vO g.1.toNat (We l g.1.toNat i):=Xi.2 ⟨x,rfl,hxn,hb⟩
    rw [hT _ hlt]
    refine (zkb (fun e=>by rw [e] at hm;cases hm)).2 ⟨_,hm,?_⟩
    show max (elC g (We l g.1.toNat i) ((x:Int)).toNat) (T (We l g.1.toNat i ||| 2 ^ ((x:Int)).toNat))≤t
    rw [z5,← zer (by omega) hx hxn]
    have h1:=ih (i + 1) (by omega)
    have h2:=h i (by omega)
    unfold elV at h2
    rw [hx,z5] at h2
    unfold elC
    omega
 have:=key l.length 0 (by omega)
 have e:We l g.1.toNat 0=0:=zhy
 rwa [e] at this
theorem zri {w:Int} (hg:yz g=true) (ho:Yl g.1 l=true) (hw:-1≤w) (h0:frS g l 0≤w) (h:∀ i,i < l.length→frS g l (i + 1)≤w):Yl g.1 l.reverse=true∧elW g l.reverse l.reverse.length≤w:=by
 have h8:=zT hg
 have hlen:=Kn ho
 have ho':Yl g.1 l.reverse=true:=by
  unfold Yl at ho ⊢
  rw [zk] at ho ⊢
  refine ⟨by simpa using ho.1,?_⟩
  rw [xj]
  intro j hj
  have:=xj.1 ho.2 j hj
  simpa using this
 refine ⟨ho',(ze9 _).2 ⟨hw,fun i hi=>?_⟩⟩
 rw [List.length_reverse] at hi
 obtain ⟨x,hx,hxn⟩:=ziN hg ho (show l.length - 1 - i < l.length by omega)
 have hxr:l.reverse.getD i 0=(x:Int):=by
  rw [zC,List.getElem?_reverse hi,← zC];exact hx
 have hall:∀ k,k≤l.length→frS g l k≤w:=by
  intro k hk
  cases k with
  | zero=>exact h0
  | succ k=>exact h k (by omega)
 refine Int.le_trans ?_ (hall (l.length - 1 - i) (by omega))
 unfold elV frS
 rw [hxr,z5]
 have hsplit:∀ j,j < g.1.toNat→Yo l.reverse i j=false→j≠x→Yo l (l.length - 1 - i) j=true:=by
  intro j hj hp hne
  obtain ⟨t,ht,he⟩:=zg5 hg ho hj
  have htx:t≠l.length - 1 - i:=by
   rintro rfl;rw [hx] at he;omega
  by_cases hlt:t < l.length - 1 - i
  · exact M2 hlt ht he
  · exfalso
    have:Yo l.reverse i j=true:=M2 (t:=l.length - 1 - t) (by omega) (by rw [List.length_reverse];omega) (by
     rw [zC,List.getElem?_reverse (by omega),← zC,show l.length - 1 - (l.length - 1 - t)=t by omega];exact he)
    rw [hp] at this;cases this
 have hdis:∀ j,(Yo l.reverse i j=true∨j=x)→Yo l (l.length - 1 - i) j=false:=by
  intro j hj
  cases e:Yo l (l.length - 1 - i) j with
  | false=>rfl
  | true=>
    exfalso
    unfold Yo at e
    obtain ⟨k,hk,hke⟩:=wT.1 (of_decide_eq_true e)
    rw [Yh] at hk
    rw [List.getElem_take] at hke
    have hkl:l.getD k 0=(j:Int):=by
     rw [zC,zX (by omega)];exact hke
    rcases hj with hj | rfl
    · unfold Yo at hj
      obtain ⟨k2,hk2,hke2⟩:=wT.1 (of_decide_eq_true hj)
      rw [Yh,List.length_reverse] at hk2
      rw [List.getElem_take,List.getElem_reverse] at hke2
      have h3:=Mh ho h8.1 (i:=l.length - 1 - k2) (x:=j) (by omega) (by rw [zC,zX (by omega)];exact hke2)
      have h4:=M2 (l:=l) (t:=k) (i:=l.length - 1 - k2) (by omega) (by omega) hkl
      rw [h3] at h4;cases h4
    · have h3:=Mh ho h8.1 (i:=l.length - 1 - i) (by omega) hx
      have h4:=M2 (l:=l) (t:=k) (i:=l.length - 1 - i) (by omega) (by omega) hkl
      rw [h3] at h4;cases h4
 have:=XV (p:=Qg g (We l.reverse g.1.toNat i) x) (q:=frt g (Yo l (l.length - 1 - i))) (n:=g.1.toNat) (fun j hj hl=>by
  have hne:=zlv hl
  rw [LJ hj] at hne
  unfold Qg at hl
  rw [zk,xT] at hl
  obtain ⟨y,hy,hya⟩:=hl.2
  rw [zk] at hya
  have hyw:=Xd (p:=wth (We l.reverse g.1.toNat i) x) (by unfold wth;simp) hya.1
  unfold wth at hyw
  rw [LJ hy,yH,yO] at hyw
  unfold frt
  rw [hsplit j hj hne.1 hne.2,z7,xT]
  exact ⟨y,hy,by rw [hdis y hyw,JS];simpa using hya.2⟩)
 omega
end
theorem zoW {F:Nat} {g:Gr} (hg:yz g=true) (h9:300≤F):∃ w,xZ F ⟨yF g⟩=some w∧-1≤w∧∀ l,Yl g.1 l=true→w≤elW g l l.length:=by
 have h8:=zT hg
 have hpow:=yi g.1.toNat
 obtain ⟨best,b1,b2,b3⟩:=MI (F:=F) (nn:=-1) hg h9
 have hi:xZ F ⟨yF g⟩=some (best.getD 0 0):=by
  unfold xZ w4
  rw [b1,zc]
  have:=zY (xs:=best) (i:=0) (d:=0) (by omega)
  rw [show ((0:Nat):Int)=0 from rfl] at this
  rw [zc,this,zc]
 refine ⟨_,hi,?_,fun l ho=>?_⟩
 · have h:=b3 0 hpow
   have h:best.getD 0 0=_:=h
   rw [h]
   by_cases he:vO g.1.toNat 0=[]
   · rw [he];exact ZB _
   · have:=zaL (v:=fun x=>max (elC g 0 x.toNat) (best.getD (0 ||| 2 ^ x.toNat) 0)) (nn:=-1) he fun y _=>by
      have:0≤elC g 0 y.toNat:=by unfold elC;omega
      show 0≤max (elC g 0 y.toNat) _
      omega
     exact Int.le_trans (by decide) this
 · have h:=(ze9 (g:=g) (l:=l) (t:=elW g l l.length) l.length).1 (ZB _)
   exact zkw (T:=fun m=>best.getD m 0) hg ho b3 h.1 h.2
theorem zpp {F:Nat} {g:Gr} (hg:yz g=true) (h9:300≤F) (hG:g.2.length < F) (hs:Sm g.2.length):∃ w,0≤w∧wK F g=some (w,true)∧∀ t,0≤t→(w≤t↔Ch g.1.toNat (frC g) t 0 (2 ^ g.1.toNat - 1)):=by
 have h8:=zT hg
 have hpow:=yi g.1.toNat
 obtain ⟨best,b1,b2,b3⟩:=Nr (F:=F) (nn:=0) hg h9
 have hT0:0≤best.getD 0 0:=by
  have h:=b3 0 hpow
  have h:best.getD 0 0=_:=h
  rw [h]
  by_cases he:vO g.1.toNat 0=[]
  · rw [he];exact ZB _
  · refine zaL he fun y _=>?_
    have:=zeL (g:=g) (m:=0 ||| 2 ^ y.toNat)
    have:0≤frP g 0 y.toNat:=this
    show 0≤max (frP g 0 y.toNat) _
    omega
 refine ⟨_,hT0,?_,fun t ht=>zlx (c:=frC g) (by omega) b3 ht 0 hpow⟩
 unfold wK vS
 have:=zY (xs:=best) (i:=0) (d:=0) (by omega)
 rw [show ((0:Nat):Int)=0 from rfl] at this
 rw [YG hG (by omega) hs,zc,hg,y0,zi,Jz hg hG hs,zc,b1,zc,this,zc,zc]
theorem zoU {g:Gr} {t:Int} {m m':Nat} (h:Ch g.1.toNat (frC g) t m m'):∀ l0:List Int,bq l0=m.testBit→l0.length=y8 m.testBit g.1.toNat →
    ∃ l1,bq (l0++l1)=m'.testBit∧(l0++l1).length=y8 m'.testBit g.1.toNat∧∀ i,l0.length≤i→i < (l0++l1).length→frS g (l0++l1) (i + 1)≤t:=by
 induction h with
 | refl m=>exact fun l0 h1 h2=>⟨[],by rw [yG];exact h1,by rw [yG];exact h2,fun i h3 h4=>by rw [yG] at h4;omega⟩
 | step hx hm hc _ ih=>
   rename_i m x m' _
   intro l0 h1 h2
   have hb:bq (l0++[(x:Int)])=(m ||| 2 ^ x).testBit:=by
    funext j
    rw [QY,h1,ZC,uF]
    have:decide (x=j)=(j == x):=by rw [yo];simp;exact eq_comm
    rw [this]
   have hcnt:y8 (m ||| 2 ^ x).testBit g.1.toNat=y8 m.testBit g.1.toNat + 1:=by
    rw [← hb,show bq (l0++[(x:Int)])=fun j=>m.testBit j || j == x from funext fun j=>by rw [QY,h1]]
    exact K9 hm hx
   obtain ⟨l1,a1,a2,a3⟩:=ih (l0++[(x:Int)]) hb (by rw [Y5,List.length_singleton,h2,hcnt])
   rw [List.append_assoc] at a1 a2 a3
   refine ⟨(x:Int) :: l1,a1,a2,fun i h3 h4=>?_⟩
   by_cases e:i=l0.length
   · subst e
     unfold frC at hc
     rw [← hb] at hc
     unfold frS
     have:Yo (l0++(x:Int) :: l1) (l0.length + 1)=bq (l0++[(x:Int)]):=by
      funext j
      unfold Yo bq
      have:(l0++(x:Int) :: l1).take (l0.length + 1)=l0++[(x:Int)]:=by rw [List.take_append,List.take_of_length_le (by omega),show l0.length + 1 - l0.length=1 by omega];rfl
      rw [this]
     rw [this];exact hc
   · exact a3 i (by rw [Y5,List.length_singleton];omega) h4
theorem zsW {F:Nat} {g:Gr} {t w:Int} (hg:yz g=true) (ht:0≤t) (hw:∀ l,Yl g.1 l=true→w≤elW g l l.length) (h:Ch g.1.toNat (frC g) t 0 (2 ^ g.1.toNat - 1)):w≤t:=by
 have h8:=zT hg
 have hz:([]:List Int).length=y8 (Nat.testBit 0) g.1.toNat:=by
  have:y8 (Nat.testBit 0) g.1.toNat=0:=by simp [y8]
  rw [this];rfl
 obtain ⟨l,a1,a2,a3⟩:=zoU h [] (by funext j;simp [bq]) hz
 rw [ZD] at a1 a2 a3
 have hlen:l.length=g.1.toNat:=by
  have e:y8 (2 ^ g.1.toNat - 1).testBit g.1.toNat=y8 (fun _=>true) g.1.toNat:=XF fun j hj=>by rw [Nat.testBit_two_pow_sub_one,zt hj]
  rw [a2,e]
  simp [y8]
 have ho:Yl g.1 l=true:=by
  have:=zdb hlen a1
  rwa [show ((g.1.toNat:Nat):Int)=g.1 by omega] at this
 have hf0:frS g l 0≤t:=by
  have:frS g l 0=0:=by
   unfold frS
   have:y8 (frt g (Yo l 0)) g.1.toNat=0:=by simp [y8,frt,Yo]
   omega
  omega
 obtain ⟨q1,q2⟩:=zri hg ho (by omega) hf0 fun i hi=>a3 i (by simp) hi
 have:=hw _ q1
 omega
theorem NO {F:Nat} {g:Gr} (h9:300≤F) (hG:g.2.length < F) (hs:Sm g.2.length):Zm F g=some (bif yz g then (Yu g,true) else ([],false))∧Zj F g=some (bif yz g then (Yu g,true) else ([],false)):=by
 unfold Zm Zj
 rw [XG hG hs,YG hG (by omega) hs,zc,zc]
 cases hg:yz g with
 | false=>exact ⟨rfl,rfl⟩
 | true=>
   obtain ⟨ds,a1,a2,a3,a4,a5⟩:=zko (F:=F) hg h9
   rw [y0,zi,zi,zkQ hg h9 hG hs,Jz hg hG hs,zc]
   refine ⟨?_,rfl⟩
   unfold vA
   rw [a1,zc,a2,zc,a3,zc,a4,zc,a5]
   rfl
theorem Qq {F:Nat} {g:Gr} (hg:yz g=true) (h9:300≤F) (hG:g.2.length < F) (hs:Sm g.2.length) :
    ∃ w pw,xZ F ⟨yF g⟩=some w∧wK F g=some (pw,true)∧w < td g (2 ^ g.1.toNat - 1)∧(g.1 > 0→pw≤td g (2 ^ g.1.toNat - 1) - 1)∧0≤td g (2 ^ g.1.toNat - 1)∧td g (2 ^ g.1.toNat - 1)≤8:=by
 have h8:=zT hg
 have hpow:=yi g.1.toNat
 obtain ⟨w,t1,t2,t7⟩:=zoW (F:=F) hg h9
 obtain ⟨pw,p0,p2,pch⟩:=zpp (F:=F) hg h9 hG hs
 obtain ⟨d1,d2,d3,d4⟩:=NX hg
 have h0:=zcX hg (m:=2 ^ g.1.toNat - 1) (by omega)
 have hpc:=Wp (n:=g.1.toNat) (m:=2 ^ g.1.toNat - 1) (by omega) (by omega)
 by_cases hz:g.1 > 0
 · have hd1:1≤td g (2 ^ g.1.toNat - 1):=by
    rw [← d2]
    have hnn:0≤ZR g.1.toNat (Yu g):=by rw [d2];exact h0.1
    have:=(KX hnn).1 (ZB _) 0 (by omega)
    omega
   have hch:=d4 (td g (2 ^ g.1.toNat - 1) - 1) (by omega)
   have hp:=(pch (td g (2 ^ g.1.toNat - 1) - 1) (by omega)).2 hch
   have:=zsW (F:=F) hg (by omega) t7 hch
   exact ⟨w,pw,t1,p2,by omega,fun _=>hp,h0.1,by omega⟩
 · have hw1:w≤-1:=by
    have:Yl g.1 []=true:=by
     unfold Yl
     rw [show g.1.toNat=0 by omega,show g.1=0 by omega];rfl
    exact t7 [] this
   exact ⟨w,pw,t1,p2,by omega,fun h=>absurd h hz,h0.1,by omega⟩
theorem zci {F:Nat} {code:LB} (hF:2097152≤F) (hc:∀ y∈code,0≤y.v∧y.v≤255):uZ F code=some true:=by
 unfold uZ L7
 rw [zc]
 cases hbig:decide ((code.length:Int) > 65536) with
 | true=>rfl
 | false=>
   have hlen:=of_decide_eq_false hbig
   rw [zi]
   obtain ⟨g,l,e,hg,hl⟩:=QH (F:=F) (by omega) hc
   have hs:Sm g.2.length:=by unfold Sm;omega
   have hG:g.2.length < F:=by omega
   have hls:Sm l.length:=by unfold Sm;omega
   have hlF:l.length < F:=by omega
   obtain ⟨c2,e2,hc2⟩:=zmd (F:=F) (n:=1) (code:=code) (by omega) hc
   obtain ⟨h,k,e3,hh,hk0,hk9⟩:=Qv (F:=F) (by omega) hc2
   have hs2:Sm h.2.length:=by unfold Sm;omega
   have hG2:h.2.length < F:=by omega
   have e2':J0 F code 1=some c2:=e2
   have a1:=zbN (F:=F) (g:=g) (l:=l) hlF hG (by omega) hls hs
   have a2:=zbg (F:=F) (g:=g) (l:=l) hlF hG (by omega) hls hs
   have b1:=zaD (F:=F) (g:=g) (l:=l) hlF hG (by omega) hls hs
   have b2:=zid (F:=F) (g:=g) (l:=l) hlF hG (by omega) hls hs
   have c1:=zlg (F:=F) (g:=g) hG (by omega) hs
   have c2:=znG (F:=F) (g:=g) hG (by omega) hs
   obtain ⟨d1,d2⟩:=NO (F:=F) (g:=g) (by omega) hG hs
   have f1:=zjb (F:=F) (g:=h) (k:=k) hG2 (by omega) hs2
   have f2:=zkM (F:=F) (g:=h) (k:=k) hG2 (by omega) hs2
   have t1:=zlg (F:=F) (g:=h) hG2 (by omega) hs2
   rw [e,zc,a1,zc,a2,zc,b1,zc,b2,zc,c1,zc,c2,zc,d1,zc,d2,zc,e2',zc,e3,zc,f1,zc,f2,zc]
   have hbl:(Yu g).length=g.1.toNat:=LM
   have hvi:∀ R:List Int×Bool,R=(bif yz g then (Yu g,true) else ([],false))→Wl F R.1 R.1=some true:=by
    intro R hR
    have:R.1.length≤8:=by
     rw [hR]
     cases hgd:yz g with
     | true=>have:=zT hgd;show (Yu g).length≤8;omega
     | false=>simp
    exact zhC (by omega) (by unfold Sm;omega)
   have key:yl F (g,l) (bif yz g && xm g l then (ZR g.1.toNat l,true) else (0,false)) (bif yz g then ((tdT g (2 ^ g.1.toNat - 1)).getD (2 ^ g.1.toNat - 1) 0,true) else (0,false))
       (bif yz g then (Yu g,true) else ([],false)) (h,k) (bif yz h && (decide (0≤k) && decide (k≤8)) then (decide (td h (2 ^ h.1.toNat - 1)≤k),true) else (false,false)) false=some true:=by
    have fin:uS F (g,l) (bif yz g && xm g l then (ZR g.1.toNat l,true) else (0,false)) (bif yz g then ((tdT g (2 ^ g.1.toNat - 1)).getD (2 ^ g.1.toNat - 1) 0,true) else (0,false)) (bif yz g then (Yu g,true) else ([],false))=some true:=by
     unfold uS
     cases hgd:yz g with
     | false=>rfl
     | true=>
       have h8:=zT hgd
       obtain ⟨w,pw,_,q2,q3,q4,q5,q6⟩:=Qq (F:=F) hgd (by omega) hG hs
       obtain ⟨dd1,dd2,dd3,_⟩:=NX hgd
       have bb:=zaD (F:=F) (g:=g) (l:=Yu g) (by omega) hG (by omega) (by unfold Sm;omega) hs
       rw [hgd,dd1,ww,zl,dd2] at bb
       have j1:vJ F (bif xm g l then (ZR g.1.toNat l,true) else (0,false)) (td g (2 ^ g.1.toNat - 1),true) (td g (2 ^ g.1.toNat - 1),true) false=some true:=by
        unfold vJ
        rw [zi,zl,Y6,zl]
        cases hfl:xm g l with
        | false=>rfl
        | true=>
          have:=dd3 l hfl
          show some (decide (ZR g.1.toNat l≥td g (2 ^ g.1.toNat - 1)))=some true
          rw [zt (by omega)]
       rw [z7,zl,zl,y0,zi]
       show (wL F g (Yu g)).bind _=_
       rw [bb,zc]
       show (wK F g).bind _=_
       rw [q2,zc,zl]
       by_cases hz:g.1 > 0
       · rw [zt (show (g,l).1.1 > 0 from hz),zl]
         have hq:=q4 hz
         have e4:decide ((pw,true).1 > w64 (((tdT g (2 ^ g.1.toNat - 1)).getD (2 ^ g.1.toNat - 1) 0,true).1 - 1))=false:=by
          show decide (pw > w64 (td g (2 ^ g.1.toNat - 1) - 1))=false
          rw [xp (by omega) (by omega)]
          exact zL (by omega)
         rw [e4];exact j1
       · rw [zL (show ¬ (g,l).1.1 > 0 from hz),zi];exact j1
    unfold yl
    rw [zi]
    cases hgh:yz h with
    | false=>exact fin
    | true=>
      cases hkk:(decide (0≤k) && decide (k≤8)) with
      | false=>exact fin
      | true=>
        rw [zk,z8,z8] at hkk
        obtain ⟨w,pw,q1,_,q3,_,_,_⟩:=Qq (F:=F) hgh (by omega) hG2 hs2
        rw [hgh,zl] at t1
        rw [ww,zl,zl]
        show (wQ F h).bind _=_
        rw [t1,zc]
        have hw:wA F (h,k).1 (h,k).2=some (decide (k > w),true):=by
         unfold wA vl
         show (vh F h).bind _=_
         rw [YG hG2 (by omega) hs2,zc,hgh,y0,zi,Kk,zc,zt hkk.1,zt hkk.2,ww,y0,zi]
         show (YA F h).bind _=_
         rw [Jz hgh hG2 hs2,zc,q1,zc]
        rw [hw,zc]
        have e5:((decide (td h (2 ^ h.1.toNat - 1)≤k),true).1 != decide ((h,k).2≥((tdT h (2 ^ h.1.toNat - 1)).getD (2 ^ h.1.toNat - 1) 0,true).1))=false:=bne_self_eq_false _
        rw [e5,zi]
        by_cases hwin:td h (2 ^ h.1.toNat - 1)≤k
        · rw [zt hwin,zl]
          have:decide (k > w)=true:=zt (by omega)
          rw [this];exact fin
        · rw [zL hwin,zi];exact fin
   simp only [bne_self_eq_false,zi]
   have vi:=hvi _ rfl
   cases hgd:yz g with
   | false=>
     rw [hgd] at key vi
     simp only [vf,zi] at key vi ⊢
     rw [bne_self_eq_false,zi,vi,zc,y0,zi]
     exact key
   | true=>
     rw [hgd] at key vi
     simp only [z7,zl] at key vi ⊢
     have e6:((bif xm g l then (ZR g.1.toNat l,true) else ((0:Int),false)).2 != xm g l)=false:=by cases xm g l <;> rfl
     rw [e6,zi,vi,zc,y0,zi]
     exact key
end Go.Zq
