/- The pure machine: what the model of Go does, told of values without memory (part 4). No further condition. -/
import Derived.Test.YtkmhlpopclahcacK3
import Derived.KernelRfl
set_option linter.unusedVariables false
set_option linter.unusedSimpArgs false
namespace Go.Zq
section
variable {D:Den} {σ:Sig} {R:(Nat→V)→Prop} {s:Nat→V} {K:(Nat→V)→Prop} {is:List I}
variable {α:Type} [Enc α]
end
/-! ## results two lists deep -/
section
variable {α:Type} [Enc α]
end
structure zwv (v r:V) (p:List Nat) (ts:List Nat):Prop where
 own:∃ l,V.own p 2 v=some l∧(l.map (·.2)).Nodup∧∀ y∈l,∃ r∈ts,y.2.root?=some r
 ret:V.ret 2 v=r
 low:V.low 2 v=[]
structure zws (vs rs:List V) (p:List Nat) (i:Nat) (ts:List Nat):Prop where
 own:∃ l,V.owns p 2 i vs=some l∧(l.map (·.2)).Nodup∧∀ y∈l,∃ r∈ts,y.2.root?=some r
 ret:V.rets 2 vs=rs
 low:V.lows 2 vs=[]
section
variable {α:Type}
end
section
variable {α:Type} [Enc α]
end
/-! ## marks -/
structure On2 (α:Type) where
 v:NL (NL α)
section
variable {α:Type} [Enc α]
def zdH (T:TF):Nat→List V→Option (List (NL α))
 | _,[]=>some []
 | k,v :: vs=>match LC (tk (T k)) v,zdH T (k + 1) vs with
   | some o,some os=>some (o :: os)
   | _,_=>none
def Np (r:Nat) (p:List Nat):V→Option (NL (NL α))
 | .sl t h lo vs=>if t = .nl then (if h.beq .p=true∧lo=0∧vs.isEmpty=true then some .nil else none)
   else if t = .at r p∧h.beq .p=true∧lo=0 then (zdH (zje r p) 0 vs).map .of else none
 | _=>none
theorem MT {T:TF}:∀ (os:List (NL α)) (k:Nat),zdH T k (zgp T k os)=some os
 | [],k=>rfl
 | o :: os,k=>by
   have h1:LC (tk (T k)) (zj (tk (T k)) o)=some o:=Wt o
   simp only [zgp,zdH,h1,MT os (k + 1)]
theorem Nc {T:TF}:∀ (vs:List V) (k:Nat) (os:List (NL α)),zdH T k vs=some os→zgp T k os=vs
 | [],k,os,h=>by simp [zdH] at h;subst h;rfl
 | v :: vs,k,os,h=>by
   simp only [zdH] at h
   split at h
   · rename_i o os' h1 h2
     simp only [Option.some.injEq] at h;subst h
     simp only [zgp,WS _ _ h1,Nc vs (k + 1) os' h2]
   · cases h
instance:Arg (On2 α) where
 arg x:=MJ zJ [] x.v
 un v:=(Np zJ [] v).map On2.mk
 un_arg x:=by
  obtain ⟨o⟩:=x
  cases o with
  | nil=>simp [MJ,Np,Sh.beq]
  | of os=>simp [MJ,Np,Sh.beq,MT]
 arg_un v x h:=by
  simp only [Option.map_eq_some_iff] at h
  obtain ⟨o,h1,rfl⟩:=h
  unfold Np at h1
  split at h1
  · rename_i t g lo vs
    split at h1
    · rename_i ht
      subst ht
      split at h1
      · rename_i hc
        simp only [Option.some.injEq] at h1;subst h1
        obtain ⟨hb,rfl,he⟩:=hc
        have hb:=Sh.beq_eq _ _ hb
        have he:vs=[]:=by simpa using he
        subst hb;subst he;rfl
      · cases h1
    · split at h1
      · rename_i hc
        simp only [Option.map_eq_some_iff] at h1
        obtain ⟨os,h2,rfl⟩:=h1
        obtain ⟨rfl,hb,rfl⟩:=hc
        have hb:=Sh.beq_eq _ _ hb
        subst hb
        simp only [MJ,Nc _ _ _ h2]
      · cases h1
  · cases h1
end
section
variable {α:Type}
end
section
variable {α:Type} [Enc α]
end
end Go.Zq
namespace Go.Zq
section
variable {α:Type} [Enc α]
end
section
variable {α:Type}
end
section
variable {α:Type} [Enc α]
end
theorem W9 {k j:Nat} {u:V} {vs us:List V} (h:V.muts (.bx k) 0 [j] u vs=vs) (hu:vs.set j u=us:=by rfl):V.mut (.bx k) 0 [j] u (.ref (.bx k) 0 [] (.agg vs)) = .ref (.bx k) 0 [] (.agg us):=by
 simp only [V.mut,h,V.seen,V.setP,KU,hu,and_self,if_true,true_or]
/-! ## lists of lists in structs -/
structure Od (α β:Type) where
 a:NL (NL α)
 v:NL β
theorem ziF {α:Type} [Enc α] {r:Nat} {p:List Nat} (o:NL (NL α)):Np r p (MJ r p o)=some o:=by
 cases o with
 | nil=>simp [MJ,Np,Sh.beq]
 | of os=>simp [MJ,Np,Sh.beq,MT]
theorem zjM {α:Type} [Enc α] {r:Nat} {p:List Nat} (v:V) (o:NL (NL α)) (h:Np r p v=some o):MJ r p o=v:=by
 unfold Np at h
 split at h
 · split at h
   · rename_i e
     split at h
     · rename_i hb
       simp only [Option.some.injEq] at h;subst h
       have h1:=Sh.beq_eq _ _ hb.1
       have h2:∀ l:List V,l.isEmpty=true→l=[]:=by intro l hl;cases l <;> simp_all
       rw [e,h1,hb.2.1,h2 _ hb.2.2];rfl
     · cases h
   · split at h
     · rename_i hb
       simp only [Option.map_eq_some_iff] at h
       obtain ⟨os,h2,rfl⟩:=h
       have h1:=Sh.beq_eq _ _ hb.2.1
       rw [hb.1,h1,hb.2.2]
       simp only [MJ,Nc _ _ _ h2]
     · cases h
 · cases h
instance {α β:Type} [Enc α] [Enc β]:Arg (Od α β) where
 arg x:=.agg [MJ zJ [0] x.a,zj (.at zJ [1]) x.v]
 un
  | .agg [u,v]=>(Np zJ [0] u).bind fun a=>(LC (.at zJ [1]) v).map (Od.mk a)
  | _=>none
 un_arg x:=by simp [Wt,ziF]
 arg_un v x h:=by
  split at h
  · simp only [Option.bind_eq_some_iff,Option.map_eq_some_iff] at h
    obtain ⟨a,h0,o,h1,rfl⟩:=h
    simp [WS _ _ h1,zjM _ _ h0]
  · cases h
section
variable {α β:Type} [Enc α] [Enc β]
end
section
variable {α β:Type}
end
section
variable {α β:Type} [Enc α] [Enc β]
end
section
variable {α β:Type}
end
section
variable {α β:Type} [Enc α] [Enc β]
end
section
variable {α β:Type}
end
section
variable {α β:Type} [Enc α] [Enc β]
end
section
variable {α β:Type}
end
section
variable {α β:Type} [Enc α] [Enc β]
end
section
variable {α β:Type}
end
section
variable {α β:Type} [Enc α] [Enc β]
end
section
variable {α β:Type}
end
section
variable {α β:Type} [Enc α] [Enc β]
end
section
variable {α β:Type}
end
section
variable {α β:Type} [Enc α] [Enc β]
end
section
variable {α β:Type}
end
section
variable {α β:Type} [Enc α] [Enc β]
end
section
variable {α β:Type} [Enc β]
end
section
variable {α β:Type} [Enc α] [Enc β]
end
end Go.Zq
namespace Go.Zq
def cst (v:V) (_:Nat):V:=v
section
variable {D:Den} {σ:Sig} {R:(Nat→V)→Prop} {s:Nat→V} {K:(Nat→V)→Prop} {is:List I}
theorem gm {d t:Nat} {l:Bool} {u:V} (h:s t=u) (H:cst u d=u→goK D σ is (upd s d u) K) (hk:u.ok=true:=by rfl):goK D σ (⟨some d,none,l,.v (.mov (.t t))⟩ :: is) s K:=
 g_v u (Wm h hk) (H rfl)
theorem gv {d:Nat} {l:Bool} {a:A} (v:V) (h:z8 s a=some v) (H:cst v d=v→goK D σ is (upd s d v) K):goK D σ (⟨some d,none,l,.v a⟩ :: is) s K:=
 g_v v h (H rfl)
theorem g0 {d:Nat} {l:Bool} {a:A} (v:V) (H:cst v d=v→goK D σ is (upd s d v) K) (he:z8 (fun _=>.dead) a=some v:=by rfl) (hr:a.rds=[]:=by rfl):goK D σ (⟨some d,none,l,.v a⟩ :: is) s K:=
 zvW v he hr (H rfl)
theorem g1 {d:Nat} {l:Bool} {a:A} (t:Nat) {u:V} (v:V) (h:s t=u) (H:cst v d=v→goK D σ is (upd s d v) K) (he:z8 (fun _=>u) a=some v:=by rfl) (hr:(a.rds.all fun k=>k == t)=true:=by rfl):goK D σ (⟨some d,none,l,.v a⟩ :: is) s K:=
 zvU v h he hr (H rfl)
theorem g2 {d:Nat} {l:Bool} {a:A} (t1 t2:Nat) {u1 u2:V} (v:V) (h1:s t1=u1) (h2:s t2=u2) (H:cst v d=v→goK D σ is (upd s d v) K) (he:z8 (fun k=>if k=t1 then u1 else u2) a=some v:=by rfl) (hr:(a.rds.all fun k=>k == t1 || k == t2)=true:=by rfl) :
    goK D σ (⟨some d,none,l,.v a⟩ :: is) s K:=
 zvb v h1 h2 he hr (H rfl)
theorem gz (L:List (Nat×V)) (h:zk L s) (H:∀ s',zk L s'→K s'):goK D σ [] s (fun s1=>epK [] s1 K):=H s h
theorem rg {k:List Fr} {ep:List E} (h:goK D σ is s fun s1=>epK ep s1 (Run D σ R (.nrm k))):Run D σ R (.run (.reg [] is ep) k) s:=zo (zuh h)
theorem ez (L:List (Nat×V)) (h:zk L s) (H:∀ s',zk L s'→K s'):epK [] s K:=H s h
theorem gq {k:List Fr} (H:Run D σ R (.nrm k) s):goK D σ [] s (fun s1=>epK [] s1 (Run D σ R (.nrm k))):=H
theorem mi {f:Tok→Option Tok} {k:IntKind} {n:Int}:V.map f (.int k n) = .int k n:=rfl
theorem mb {f:Tok→Option Tok} {b:Bool}:V.map f (.bool b) = .bool b:=rfl
theorem me {α:Type} [Enc α] {f:Tok→Option Tok} {x:α}:V.map f (Enc.enc x)=Enc.enc x:=Enc.map_enc f x
end
def ent {α γ:Type} [Yu α] (g:Nat) (f:α→Option γ) (t:γ→V) (m:Nat) (al:Bool) (sel:List (Nat×Nat)):Ent:=⟨g,da f t,m,al,zrw sel⟩
theorem zK {α γ:Type} [Yu α] {g:Nat} {f:α→Option γ} {t:γ→V} {m:Nat} {al:Bool} {sel:List (Nat×Nat)} (x:α) {r:γ} (h:f x=some r):(ent g f t m al sel).den (Yu.args x)=some (t r):=zia x h
abbrev ji (n:Int):V:=.int .i64 n
abbrev jb (b:Bool):V:=.bool b
abbrev eL (x:List Int):V:=Enc.enc x
abbrev oI (r:Nat) (p:List Nat) (o:NL Int):V:=zj (.at r p) o
abbrev jv (d:Nat) (a:A):I:=⟨some d,none,false,.v a⟩
abbrev jm (d t:Nat):I:=⟨some d,none,false,.v (.mov (.t t))⟩
abbrev jg (d j:Nat) (b:Bool) (a:A):I:=⟨some d,some (j,b),false,.v a⟩
abbrev jn (n:Int):O:=.k (.int .i64 n)
end Go.Zq
namespace Go.Zq
section
variable {P:Program}
def RT (P:Program) (rs:List ResultVar) (r:V) (us:List V) (s:Nat→V):Prop:=MF P s rs=some r∧∀ u∈us,∃ t,s t=u
theorem zam {D:Den} {σ:Sig} (hF:zr P D σ) (hm:P.follows .mixedOrders=true) {f:Nat} {fn:Func} {c:Code} (hf:P.funcs[f]?=some fn) (hb:fn.body=some c) {an:List An} {A:AC} (hc:cC P fn.ntmps an c=some A)
    {args:List V} {r:V} {us:List V} (hok:args.all V.ok=true) (hn:args.length≤fn.ntmps) (hnt:Nat.ble fn.ntmps zJ=true)
    (h:A.wp D σ (fun e s=>(e = .nrm∨e = .ret)∧RT P fn.results.toList r us s) (init args)):Nw P f args r us:=by
 intro w S τ vals hS hr hk hinj hru
 have hI:=zfT hS hr hk hinj hok hn (Nat.le_of_ble_eq_true hnt)
 refine calls_of_wp hf hb (zcv hF hm c A _ _ _ _ _ _ _ hc hI h ?_)
 rintro e s a w' S' τ' ⟨he,hres,hus⟩ hI'
 obtain ⟨cv,h1,h2,h3⟩:=Ld fn _ r rfl hres hI'
 have post:∃ S',Bel (fun b=>w.heap.size≤b∨∃ k∈V.tokss args,(τ k).b=b) w w'∧zu w' S' τ r cv ∧
     (∀ b,S' b→b < w'.heap.size∧(S b∨w.heap.size≤b∨∃ k∈V.tokss args,(τ k).b=b)) ∧
     ∀ u∈us,(∀ k∈u.toks,k.pinned=true)→(∀ k∈u.toks,¬ S' (τ k).b)∧∃ c,zu w' S' τ u c:=by
  refine ⟨S',hI'.below,xP (w:=w') (fun b hb=>⟨hb,rfl⟩) _ _ h2 (by rw [hru];intro k hk;cases hk),fun b hb=>⟨hI'.sbd b hb,hI'.sfr b hb⟩,?_⟩
  intro u hu hp
  obtain ⟨t,ht⟩:=hus u hu
  have hpin:∀ k∈u.toks,τ' k=τ k:=fun k hk=>hI'.pin t k (by rw [ht];exact hk) (hp k hk)
  refine ⟨fun k hk=>by rw [← hpin k hk];exact (hI'.own t k (by rw [ht];exact hk)).2.2,a.eval (.tmp t),?_⟩
  have h4:=hI'.told t
  rw [ht] at h4
  exact xP (w:=w') (fun b hb=>⟨hb,rfl⟩) _ _ h4 fun k hk=>⟨(hpin k hk).symm,rfl⟩
 obtain ⟨S2,post⟩:=post
 rcases he with rfl | rfl
 · exact ⟨hI'.defers,cv,h1,cv,S2,rfl,post⟩
 · exact ⟨hI'.defers,cv,h1,cv,S2,rfl,post⟩
theorem No {D:Den} {σ:Sig} (hF:zr P D σ) (hm:P.follows .mixedOrders=true) {f:Nat} {fn:Func} {c:Code} (hf:P.funcs[f]?=some fn) (hb:fn.body=some c) {an:List An} {A:AC} (hc:cC P fn.ntmps an c=some A)
    {al:Bool} {args:List V} {r:V} {us:List V} (hok:args.all V.ok=true) (hn:args.length≤fn.ntmps) (hnt:Nat.ble fn.ntmps zJ=true)
    (h:Run D σ (RT P fn.results.toList r us) (.run A []) (init args)):wn P f Zz al args (.tup [r,.tup us]):=by
 have h1:=zam hF hm hf hb hc hok hn hnt (zcY h)
 unfold wn
 rw [if_neg (by decide),if_neg (by decide),if_pos rfl]
 intro r' us' e
 simp only [V.tup.injEq,List.cons.injEq,and_true] at e
 obtain ⟨rfl,rfl⟩:=e
 exact h1
end
def grE (p q:Nat) (cw cd:V):List V:=[.ref .sh 0 [] cw,.ref .sh 0 [] cd,.ref (.bx p) 0 [] .dead,.ref (.bx q) 0 [] .dead]
def grV (p q g:Nat) (cw cd:V):V:=.ref (.bx q) 0 [] (.fn g [] (grE p q cw cd))
def grL (p r:Nat) (ρ:List Nat) (xs:List Int):V:=.ref (.bx p) 0 [] (zj (.at r ρ) (.of xs))
structure Pb where
 v:List Int
instance:Arg Pb where
 arg x:=grL zJ (zJ + 1) [] x.v
 un
  | .ref t i q c=>if t = .bx zJ∧i=0∧q=[] then (match (LC (.at (zJ + 1) []) c:Option (NL Int)) with
    | some (.of xs)=>some ⟨xs⟩
    | _=>none) else none
  | _=>none
 un_arg x:=by simp [grL,Wt]
 arg_un v x h:=by
  split at h
  · split at h
    · rename_i e
      obtain ⟨rfl,rfl,rfl⟩:=e
      split at h
      · rename_i xs hd
        simp only [Option.some.injEq] at h;subst h
        simp only [grL,WS _ _ hd]
      · cases h
    · cases h
  · cases h
structure Gb (g:Nat) (α β:Type) where
 a:α
 b:β
instance {g:Nat} {α β:Type} [Arg α] [Arg β]:Arg (Gb g α β) where
 arg x:=grV zJ (zJ + 2) g (Arg.arg x.a) (Arg.arg x.b)
 un
  | .ref t i q (.fn g' [] [.ref t1 i1 q1 va,.ref t2 i2 q2 vb,.ref t3 i3 q3 .dead,.ref t4 i4 q4 .dead])=>
    if t = .bx (zJ + 2)∧i=0∧q=[]∧g'=g∧t1 = .sh∧i1=0∧q1=[]∧t2 = .sh∧i2=0∧q2=[]∧t3 = .bx zJ∧i3=0∧q3=[]∧t4 = .bx (zJ + 2)∧i4=0∧q4=[] then
     (Arg.un va).bind fun x=>(Arg.un vb).map fun y=>⟨x,y⟩ else none
  | _=>none
 un_arg x:=by simp [grV,grE,Arg.un_arg]
 arg_un v x h:=by
  split at h
  · split at h
    · rename_i e
      obtain ⟨rfl,rfl,rfl,rfl,rfl,rfl,rfl,rfl,rfl,rfl,rfl,rfl,rfl,rfl,rfl,rfl⟩:=e
      simp only [Option.bind_eq_some_iff,Option.map_eq_some_iff] at h
      obtain ⟨y,h1,z,h2,rfl⟩:=h
      simp only [grV,grE,Arg.arg_un _ _ h1,Arg.arg_un _ _ h2]
    · cases h
  · cases h
section
variable {D:Den} {σ:Sig} {s:Nat→V} {K:(Nat→V)→Prop} {is:List I}
def ndR (r:Nat):V→Bool
 | .ref (.bx r') _ [] _=>!(Nat.beq r' r)
 | _=>true
theorem zg1 {ks:List Tok} {l:List (Nat×Nat×List Nat×V)} {v:V} (hl:∀ e∈l,e.2.2.1=[]∧ndR e.1 v=true):upG ks l v=V.map (Xe ks) v:=by
 rcases UG (ks:=ks) (l:=l) v with ⟨e,he,c,rfl,_⟩ | h1
 · obtain ⟨h2,h3⟩:=hl e he
   rw [h2] at h3;simp [ndR] at h3
 · exact h1
structure Cu (α:Type) where
 v:α
def cuV {α:Type} [Enc α] (r:Nat) (x:α):V:=.ref (.bx r) 0 [] (Enc.enc x)
instance {α:Type} [Enc α]:Arg (Cu α) where
 arg x:=cuV zJ x.v
 un
  | .ref t i q c=>if t = .bx zJ∧i=0∧q=[] then (Enc.dec c).map fun x=>⟨x⟩ else none
  | _=>none
 un_arg x:=by simp [cuV,Enc.dec_enc]
 arg_un v x h:=by
  split at h
  · split at h
    · rename_i e
      obtain ⟨rfl,rfl,rfl⟩:=e
      simp only [Option.map_eq_some_iff] at h
      obtain ⟨y,h1,rfl⟩:=h
      simp only [cuV,Enc.enc_dec _ _ h1]
    · cases h
  · cases h
theorem XT {α:Type} [Enc α] {r:Nat} {x:α}:(cuV r x).toks=[.bx r]:=by simp only [cuV,V.toks,Enc.toks_enc]
theorem u9 {α:Type} [Enc α] {d b g r:Nat} {as:List O} {vs:List V} {x x':α} {res:V} {al:Bool} (hb:s b=cuV r x) (hvs:Zd s as=some (cuV r x :: vs)) (h0:V.tokss vs=[]) (hvm:∀ f,V.maps f vs=vs)
    (hD:D g (cuV zJ x :: vs)=some (.tup [res,.tup [cuV zJ x']])) (hσ:σ g=some (Zz,al)) (hr:res.toks=[]) (hok:res.ok=true)
    (H:∀ s1,(∀ t,s t=cuV r x→s1 t=cuV r x')→(∀ t v u,s t=v→ndR r v=true→V.map (Wa (.bx r)) v=u→s1 t=u)→goK D σ is (upd s1 d res) K) (hgm:Nat.ble ZJ g=false:=by rfl) :
    goK D σ (⟨some d,none,false,.callT (.k (.fn g [] [])) as [b] []⟩ :: is) s K:=by
 have hrd:O.rd s (.k (.fn g [] []))=some (.fn g [] []):=rfl
 have hks:yo s ([b]++[])=[.bx r]:=by
  simp only [yo,List.append_nil,List.flatMap_cons,List.flatMap_nil,hb,XT,List.append_nil]
 have hn1:uJ [.bx r] (.bx r)=some (.bx zJ):=by
  simp [uJ,zb4,List.findIdx?_cons]
 have hko:∀ k∈[Tok.bx r],k≠.nl∧k≠.sh:=by
  intro k hk
  simp only [List.mem_cons,List.not_mem_nil,or_false] at hk
  subst hk;exact ⟨by simp,by simp⟩
 have hb1:=K8 hko (by simp) hn1
 have hmap:V.maps (uJ [.bx r]) (cuV r x :: vs)=cuV zJ x :: vs:=by
  simp only [V.maps,hvm,cuV,V.map,hn1,Enc.map_enc]
 have hall:(!((V.tokss ((cuV r x :: vs)++[].map (Zy s [b]))).all (yo s ([b]++[])).contains && [].all V.one && [].all fun e=>(s e).ok))=false:=by
  rw [hks]
  simp only [List.map_nil,List.append_nil,V.tokss,XT,h0]
  simp
 have hback:YW s [.bx r] [b] [cuV zJ x']=some [(r,0,[],cuV r x')]:=by
  simp only [YW,hb,cuV,hb1,and_self,if_true,Option.map_some,V.map,Enc.map_enc]
 simp only [goK,xK,yk,NZ,UR,hrd,hvs,hall,Bool.false_eq_true,if_false,key,cond_false]
 rw [hks]
 simp only [List.map_nil,List.append_nil]
 rw [hmap,hD,hσ]
 simp only [hgm,Nat.beq_refl,Bool.not_false,Bool.true_and,hr,hok,List.isEmpty_nil,hback]
 have hpin:([cuV zJ x'].all fun u=>u.toks.all Tok.pinned)=true:=by
  simp only [List.all_cons,List.all_nil,XT]
  decide
 rw [hpin]
 simp only [Bool.and_self,if_true,put]
 simp only [Option.map_some]
 refine H _ ?_ ?_
 · intro t ht;rw [ht];simp [upG,cuV]
 · intro t v u hv hd hm
   rw [← zgB] at hm
   rw [hv,zg1 (by simp [hd]),hm]
def uX:Nat:=zJ + 1
structure Oh (α:Type) where
 a:Int
 v:List α
instance {α:Type} [Enc α]:Arg (Oh α) where
 arg x:=.agg [.int .i64 x.a,zj (.at uX []) (.of x.v)]
 un
  | .agg [.int .i64 n,c]=>(match (LC (.at uX []) c:Option (NL α)) with
    | some (.of xs)=>some ⟨n,xs⟩
    | _=>none)
  | _=>none
 un_arg x:=by simp [Wt]
 arg_un v x h:=by
  split at h
  · split at h
    · rename_i h1
      simp only [Option.some.injEq] at h;subst h
      simp only [WS _ _ h1]
    · cases h
  · cases h
theorem zmt {α β:Type} [Enc α] [Enc β] {d b e g r q:Nat} {ρ:List Nat} {as:List O} {x x':α} {n:Int} {xs:List β} {res:V} {al:Bool} (hb:s b=cuV r x) (he:s e = .agg [.int .i64 n,zj (.at q ρ) (.of xs)])
    (hvs:Zd s as=some [cuV r x,.agg [.int .i64 n,zj (.at q ρ) (.of xs)]])
    (hD:D g [cuV zJ x,.agg [.int .i64 n,zj (.at uX []) (.of xs)]]=some (.tup [res,.tup [cuV zJ x']])) (hσ:σ g=some (Zz,al)) (hr:res.toks=[]) (hok:res.ok=true)
    (H:∀ s1,(∀ t,s t=cuV r x→s1 t=cuV r x')→(∀ t v u,s t=v→ndR r v=true→V.map (Xe [.bx r,.at q ρ]) v=u→s1 t=u)→goK D σ is (upd s1 d res) K) (hgm:Nat.ble ZJ g=false:=by rfl) :
    goK D σ (⟨some d,none,false,.callT (.k (.fn g [] [])) as [b] [e]⟩ :: is) s K:=by
 have hrd:O.rd s (.k (.fn g [] []))=some (.fn g [] []):=rfl
 have hok2:(V.agg [.int .i64 n,zj (.at q ρ) (.of xs)]).ok=true:=rfl
 have ht:(zj (.at q ρ) (.of xs:NL β)).toks=[.at q ρ]:=yi
 have hn2:uJ [.bx r,.at q ρ] (.at q ρ)=some (.at uX []):=by
  simp [uJ,zb4,List.findIdx?_cons,uX]
 have hn1:uJ [.bx r,.at q ρ] (.bx r)=some (.bx zJ):=by
  simp [uJ,zb4,List.findIdx?_cons]
 have hks:yo s ([b]++[e])=[.bx r,.at q ρ]:=by
  simp only [yo,List.cons_append,List.nil_append,List.flatMap_cons,List.flatMap_nil,hb,he,XT,V.toks,V.tokss,ht,List.append_nil]
 have hko:∀ k∈[Tok.bx r,.at q ρ],k≠.nl∧k≠.sh:=by
  intro k hk
  simp only [List.mem_cons,List.not_mem_nil,or_false] at hk
  rcases hk with rfl | rfl <;> exact ⟨by simp,by simp⟩
 have hb1:=K8 hko (by simp) hn1
 have hmap:V.maps (uJ [.bx r,.at q ρ]) [cuV r x,.agg [.int .i64 n,zj (.at q ρ) (.of xs)]]=[cuV zJ x,.agg [.int .i64 n,zj (.at uX []) (.of xs)]]:=by
  simp only [V.maps,cuV,V.map,hn1,Enc.map_enc,zl (o:=(.of xs:NL β)) hn2 (show uJ [.bx r,.at q ρ] .nl=some .nl from rfl)]
 have hall:(!((V.tokss ([cuV r x,.agg [.int .i64 n,zj (.at q ρ) (.of xs)]]++[].map (Zy s [b]))).all (yo s ([b]++[e])).contains && [].all V.one && [e].all fun e=>(s e).ok))=false:=by
  rw [hks]
  simp only [List.map_nil,List.append_nil,V.tokss,XT,V.toks,List.nil_append,List.all_cons,List.all_nil,Bool.and_true,he,hok2,ht,List.cons_append]
  simp
 have hback:YW s [.bx r,.at q ρ] [b] [cuV zJ x']=some [(r,0,[],cuV r x')]:=by
  simp only [YW,hb,cuV,hb1,and_self,if_true,Option.map_some,V.map,Enc.map_enc]
 simp only [goK,xK,yk,NZ,UR,hrd,hvs,hall,Bool.false_eq_true,if_false,key,cond_false]
 rw [hks]
 simp only [List.map_nil,List.append_nil]
 rw [hmap,hD,hσ]
 simp only [hgm,Nat.beq_refl,Bool.not_false,Bool.true_and,hr,hok,List.isEmpty_nil,hback]
 have hpin:([cuV zJ x'].all fun u=>u.toks.all Tok.pinned)=true:=by
  simp only [List.all_cons,List.all_nil,XT]
  decide
 rw [hpin]
 simp only [Bool.and_self,if_true,put]
 simp only [Option.map_some]
 refine H _ ?_ ?_
 · intro t ht;rw [ht];simp [upG,cuV]
 · intro t v u hv hd hm
   rw [hv,zg1 (by simp [hd]),hm]
theorem zhP {x q:Nat} {p:List Nat} {es:List E} {v:V} (hx:s x=v) (hk:v.ok=true) (H:∀ s1,(∀ t u u',s t=u→V.map (KD x [([],.at q p)]) u=u'→s1 t=u')→epK es s1 K) (hp:Nat.ble zJ x=false:=by rfl):epK (.ren x q p :: es) s K:=by
 have:Jt s (.ren x q p)=some (XM (KD x [([],.at q p)]) s):=by
  simp only [Jt,hx,hp]
  cases v <;> first | (simp [V.ok] at hk;done) | rfl
 simp only [epK,this]
 exact H _ fun t u u' h1 h2=>by simp only [XM,h1,h2]
theorem Qv:∀ {L:List (Nat×V)},zk L s→∀ p∈L,s p.1=p.2
 | [],_,p,hp=>by cases hp
 | [(t,v)],h,p,hp=>by
   rw [List.mem_singleton] at hp;subst hp;exact h
 | (t,v) :: q :: L,h,p,hp=>by
   rcases List.mem_cons.1 hp with rfl | hp
   · exact h.1
   · exact Qv (L:=q :: L) h.2 p hp
theorem zcl {ks:List Tok} {r:Nat} (h:∀ k∈ks,k≠.bx r):(ks.all fun k=>!([Tok.bx r].contains k))=true:=by
 rw [List.all_eq_true]
 intro k hk
 have:=h k hk
 simp [this]
theorem Ni {α:Type} [Enc α] {d b r:Nat} {l:Bool} {a:A} {x:α} (v:V) (hb:s b=cuV r x) (h:z8 s a=some v) (L:List (Nat×V)) (hL:zk L s) (hr:(a.rds.all fun k=>L.any fun x=>x.1 == k)=true)
    (ht:∀ p∈L,∀ k∈p.2.toks,k≠.bx r) (hv:∀ k∈v.toks,k≠.bx r) (H:goK D σ is (upd s d v) K):goK D σ (⟨some d,none,l,.vN a [b]⟩ :: is) s K:=by
 have hks:yo s [b]=[.bx r]:=by
  simp only [yo,List.flatMap_cons,List.flatMap_nil,hb,XT,List.append_nil]
 have h1:(a.rds.all fun t=>(s t).toks.all fun k=>!([Tok.bx r].contains k))=true:=by
  rw [List.all_eq_true] at hr ⊢
  intro t htr
  have h2:=hr t htr
  rw [List.any_eq_true] at h2
  obtain ⟨p,hp,e⟩:=h2
  have e:p.1=t:=by simpa using e
  rw [← e,Qv hL p hp]
  exact zcl (ht p hp)
 simp only [goK,xK,yk,h,hks,h1,zcl hv,Bool.and_self,if_true,put]
 exact H
theorem YQ {a:A} {v:V} (L:List (Nat×V)) (hs:zk L s) (hr:(a.rds.all fun k=>L.any fun x=>x.1 == k)=true) (he:z8 (Kw L) a=some v):z8 s a=some v:=by
 rw [ur (s2:=Kw L) fun k hk=>Ka L s hs k (List.all_eq_true.1 hr k hk)];exact he
theorem zcz {α:Type} [Enc α] {v:V} {n:Int} {k:Tok} {o:NL α} {xs:List α} (h:zmK o=some xs) (hs:v = .agg [.int .i64 n,zj k o]):v = .agg [.int .i64 n,zj k (.of xs)]:=by rw [hs,zko h]
theorem zaL {α:Type} [Enc α] {d:Nat} {z:V} {len:Nat} {ps:List (Nat×Nat×O)} (L:List (Nat×V)) (xs:List α) (hs:zk L s) (h:xB (Kw L) ps (List.replicate len z)=some (xs.map Enc.enc)) (hz:z.shape=Enc.shp α)
    (hr:((ps.flatMap fun p=>p.2.2.rds).all fun k=>L.any fun x=>x.1 == k)=true) (hg:s d = .gone)
    (H:∀ s1,s1 d=Enc.enc xs→(∀ t v u,t≠d→s t=v→V.frz [.at d []] v=u→s1 t=u)→goK D σ is s1 K):goK D σ (⟨some d,none,false,.litS z len ps⟩ :: is) s K:=by
 have h1:xB s ps (List.replicate len z)=some (xs.map Enc.enc):=by
  rw [vZ (s2:=Kw L) fun k hk=>Ka L s hs k (List.all_eq_true.1 hr k hk)];exact h
 simp only [goK,xK,yk,h1,hg]
 refine H _ ?_ ?_
 · rw [upd_same,hz]
   exact Xi (p:=[]) (xs:=xs)
 · intro t v u ht hv hm
   rw [zS _ _ ht,hv];exact hm
theorem rt0 {P:Program} {c:V} {t:Nat} (h0:s t=c):RT P [] (.tup []) [c] s:=⟨rfl,fun u hu=>by
 simp only [List.mem_cons,List.not_mem_nil,or_false] at hu
 subst hu;exact ⟨t,h0⟩⟩
theorem rt1 {P:Program} {x:ResultVar} {r c:V} {t:Nat} (h:Wy P s x=some r) (h0:s t=c):RT P [x] r [c] s:=⟨by simp only [MF,h],(rt0 (P:=P) h0).2⟩
end
end Go.Zq
namespace Go.Zq
abbrev LI:=List Int
abbrev TP:=List (Int×Int)
abbrev GR:=Int×List (Int×Int)
abbrev LB:=List (Kd .u8)
abbrev CU:=S3 (List (Kd .u8)) Int (Kd .u64)
abbrev CC:=Cu CU
abbrev cu (a:LB) (b c:Int):CC:=Cu.mk (S3.mk a b (Kd.mk c))
abbrev eP (x:TP):V:=Enc.enc x
abbrev eB (x:LB):V:=Enc.enc x
abbrev nI:V:=.sl .nl (Enc.shp Int) 0 []
abbrev nP:V:=.sl .nl (Enc.shp (Int×Int)) 0 []
abbrev gV (g:GR):V:=.agg [ji g.1,eP g.2]
abbrev bG (b:Nat) (g:GR):V:=.ref (.bx b) 0 [] (gV g)
abbrev g0V:V:=.agg [ji 0,nP]
abbrev bZ (b:Nat):V:=.ref (.bx b) 0 [] g0V
abbrev cV (c:CU):V:=.agg [eB c.a,ji c.b,.int .u64 c.c.v]
abbrev bC (c:CU):V:=.ref (.bx zJ) 0 [] (cV c)
abbrev i0:V:=.int .i64 (.ofNat 0)
abbrev kf:O:=.k (.bool false)
abbrev kt:O:=.k (.bool true)
abbrev jf (g:Nat):O:=.k (.fn g [] [])
abbrev jx (d:Nat) (x:X):I:=⟨some d,none,false,x⟩
abbrev jy (d:Nat) (x:X):I:=⟨some d,none,true,x⟩
abbrev cq (P:Program) (f:Func) (an:List An):Option AC:=cC P f.ntmps an (f.body.getD .skip)
abbrev rr (is:List I):AC:=.reg [] is []
abbrev jl (d t:Nat):I:=jv d (.load .s (.t t))
abbrev jk (d t:Nat):I:=jv d (.len (.t t))
abbrev jz (x:X):I:=⟨none,none,false,x⟩
theorem ct {v:V} {a b:Bool} (h:v = .bool a) (hg:a=b):v = .bool b:=h.trans (congrArg V.bool hg)
theorem cb {a b:Bool} (hg:a=b):V.bool a=V.bool b:=congrArg V.bool hg
theorem oi {α:Type} {a b:α} (h:some a=some b):a=b:=Option.some.inj h
theorem rf (x:V):x=x:=rfl
theorem nm {α:Type} {P:Prop} {r:α} (h:(none:Option α)=some r):P:=nomatch h
section
variable {f:Tok→Option Tok} {α:Type} [Enc α] {x:α} {n m:Int} {k l:IntKind}
theorem mIE:V.map f (.agg [.int k n,Enc.enc x]) = .agg [.int k n,Enc.enc x]:=zF (ze mi (ze me zm))
theorem mII:V.map f (.agg [.int k n,.int l m]) = .agg [.int k n,.int l m]:=zF (ze mi (ze mi zm))
theorem Zj:V.map f (.agg [Enc.enc x,.int k n,.int l m]) = .agg [Enc.enc x,.int k n,.int l m]:=zF (ze me (ze mi (ze mi zm)))
theorem te:(Enc.enc x:V).toks=[]:=Enc.toks_enc x
theorem fm1 (f:Tok→Option Tok):V.maps f [Enc.enc x]=[Enc.enc x]:=ze (Enc.map_enc f _) zm
theorem uE {tk:Tok} {i:Nat} {q:List Nat} {u:V}:V.mut tk i q u (Enc.enc x)=Enc.enc x:=Enc.mut_enc _ _ _ _ x
theorem zE {K:List Tok}:V.frz K (Enc.enc x)=Enc.enc x:=Enc.frz_enc _ x
theorem uIE {tk:Tok} {i:Nat} {q:List Nat} {u:V}:V.mut tk i q u (.agg [.int k n,Enc.enc x]) = .agg [.int k n,Enc.enc x]:=yD (zq rfl (zq uE rfl))
theorem zIE {K:List Tok}:V.frz K (.agg [.int k n,Enc.enc x]) = .agg [.int k n,Enc.enc x]:=Zx (yC rfl (yC zE rfl))
theorem UL {tk:Tok} {i:Nat} {q:List Nat} {u:V}:V.mut tk i q u (.agg [Enc.enc x,.int k n,.int l m]) = .agg [Enc.enc x,.int k n,.int l m]:=yD (zq uE (zq rfl (zq rfl rfl)))
theorem Wj {K:List Tok}:V.frz K (.agg [Enc.enc x,.int k n,.int l m]) = .agg [Enc.enc x,.int k n,.int l m]:=Zx (yC zE (yC rfl (yC rfl rfl)))
theorem ww {v c:V} {t:Tok} {g:Sh} (h6:v.toks.contains t=false) (h1:t≠.sh:=by decide) (h2:t≠.nl:=by decide) (h3:v.mem=true:=by rfl) (h4:v.shape.beq g=true:=by rfl) (h5:c.shape.beq g=true:=by rfl) :
    t≠.sh∧t≠.nl∧v.mem=true∧v.shape.beq g=true∧c.shape.beq g=true∧v.toks.contains t=false:=⟨h1,h2,h3,h4,h5,h6⟩
theorem mIx {v w:V} (h:V.map f v=w):V.map f (.agg [.int k n,v]) = .agg [.int k n,w]:=zF (ze mi (ze h zm))
end
theorem okZ {P:Program} {f:Nat} {α γ:Type} [Yu α] {g m:Nat} {al:Bool} {sel:List (Nat×Nat)} {F:α→Option γ} {t:γ→V} {fn:Func} (hf:P.funcs[f]?=some fn) (con:∀ (x:α) (y:γ),F x=some y→wn P f m al (Yu.args x) (t y))
    (h1 : unk g = f := by rfl) (h2 : fn.body.isNone = false := by rfl) (h3 : (fn.name == "runtime.NumGoroutine") = false := by rfl) : (ent g F t m al sel).Ok P := by
 refine Ln (f:=f) h1 (fun args r h=>?_) ⟨fn,hf,h2,h3⟩
 obtain ⟨x,y,rfl,hy,rfl⟩:=Wc h
 exact con x y hy
section
variable {D:Den} {σ:Sig} {P:Program}
theorem cR (hF:zr P D σ) {f:Nat} {fn:Func} {c:Code} (hf:P.funcs[f]?=some fn) {an:List An} {A:AC} (hc:cC P fn.ntmps an c=some A) {m:Nat} {al:Bool} {args:List V} {r:V}
    (h:Run D σ (fun s=>(MF P s fn.results.toList).bind (fin m al)=some r) (.run A []) (init args)) (hm:P.follows .mixedOrders=true:=by kernel_rfl) (hb:fn.body=some c:=by rfl) (hn:Nat.ble args.length fn.ntmps=true:=by rfl)
    (hnt:Nat.ble fn.ntmps zJ=true:=by decide) (hmp:Nat.ble zJ m=false:=by rfl):wn P f m al args r:=Yz hF hm hf hb hc (Nat.le_of_ble_eq_true hn) h hnt hmp
theorem cT (hF:zr P D σ) {f:Nat} {fn:Func} {c:Code} (hf:P.funcs[f]?=some fn) {an:List An} {A:AC} (hc:cC P fn.ntmps an c=some A) {al:Bool} {args:List V} {r:V} {us:List V}
    (h:Run D σ (RT P fn.results.toList r us) (.run A []) (init args)) (hm:P.follows .mixedOrders=true:=by kernel_rfl) (hb:fn.body=some c:=by rfl) (hok:args.all V.ok=true:=by rfl) (hn:Nat.ble args.length fn.ntmps=true:=by rfl)
    (hnt:Nat.ble fn.ntmps zJ=true:=by decide):wn P f Zz al args (.tup [r,.tup us]):=No hF hm hf hb hc hok (Nat.le_of_ble_eq_true hn) hnt h
end
section
variable {D:Den} {σ:Sig} {R:(Nat→V)→Prop} {s:Nat→V} {K:(Nat→V)→Prop} {is:List I}
theorem gl {α:Type} [Enc α] {d:Nat} {l:Bool} {x:O} {t:Tok} {h:Sh} {lo:Nat} (xs:List α) (hx:x.ev s = .sl t h lo (xs.map Enc.enc)) (H:cst (ji (xs.length:Int)) d=ji (xs.length:Int)→goK D σ is (upd s d (ji (xs.length:Int))) K):goK D σ (⟨some d,none,l,.v (.len x)⟩ :: is) s K:=
 gv (ji (xs.length:Int)) (zjm (xs:=xs) hx) H
end
theorem zjJ {P:Program} {t:TypeId} {k:IntKind} (ht:P.underlying t=some (.int k)) (hc:P.cellsOf t=1):zcS P t (Kd k) (fun x=>(Lit.int k x.v).wf=true):=by
 refine ⟨hc,?_⟩
 intro H en W fuel cs x h
 cases fuel with
 | zero=>simp [DataW.trod] at h
 | succ m=>
   unfold DataW.trod at h
   rw [ht] at h
   split at h <;> first | (exfalso;simp_all;done) | skip
   rename_i k1 k' n e
   simp only [Option.some.injEq,TypeDesc.int.injEq] at e
   subst e
   split at h
   · rename_i hh
     obtain ⟨rfl,hw⟩:=hh
     exact ⟨⟨n⟩,hw,fun S τ _=>by simp [Enc.enc,zt]⟩
   · cases h
theorem zmU {n:Int} (h:(Lit.int .u8 n).wf=true):0≤n∧n≤255:=by
 have e1:IntKind.min .u8=0:=by decide
 have e2:IntKind.max .u8=255:=by decide
 simp [Lit.wf,e1,e2] at h;omega
end Go.Zq
