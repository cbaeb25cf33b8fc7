/- The pure machine: what the model of Go does, told of values without memory (part 4). No further condition. -/
import Derived.Test.YtelahampjnaimaaK3
import Derived.KernelRfl
set_option linter.unusedVariables false
set_option linter.unusedSimpArgs false
namespace Go.Zq
section
variable {P:Program} {w:World} {S:Nat→Prop} {τ:Tok→Blk}
theorem Ng {f m:Nat} {al:Bool} {args:List V} {r:V} (h:w9 P (unk f) m al args r) (hm:Nat.ble zD m=false) (hg:Nat.ble YV f=false):UQ P f m al args r:=by
 unfold w9 at h
 rw [if_neg (by rintro rfl;exact absurd hm (by decide)),if_neg (by rintro rfl;exact absurd hm (by decide)),if_neg (by rintro rfl;exact absurd hm (by decide))] at h
 simpa [unk,hg] using h
theorem Jt {e : Ent} {f : Nat} (hu : unk e.g = f) (con : ∀ args r, e.den args = some r → w9 P f e.m e.al args r) (fn : ∃ fn, P.funcs[f]? = some fn ∧ fn.body.isNone = false ∧ (fn.name == "runtime.NumGoroutine") = false) : e.Ok P := by
 subst hu
 exact ⟨con,fn⟩
def zv8 (w:World) (τ:Tok→Blk) (ks:List Tok):Ori:=⟨w,fun b=>w.heap.size≤b∨∃ k∈ks,(τ k).b=b,τ,fun _ h=>.inl h⟩
theorem Ki:∀ (us:List V) (t:Nat) (k:Tok),k∈(us.getD t .dead).toks→k∈V.tokss us
 | [],t,k,h=>by simp [V.toks] at h
 | u :: us,t,k,h=>by
   simp only [V.tokss,zN]
   cases t with
   | zero=>exact .inl (by simpa using h)
   | succ t=>exact .inr (Ki us t k (by simpa using h))
theorem zcc:∀ (us:List V) (t:Nat),us.all V.ok=true→(us.getD t .dead).ok=true
 | [],t,h=>rfl
 | u :: us,t,h=>by
   simp only [List.all_cons,zk] at h
   cases t with
   | zero=>simpa using h.1
   | succ t=>simpa using zcc us t h.2
theorem zif {args:List V} {vals:Array Value} {nt:Nat} (hS:∀ b,S b→b < w.heap.size) (hr:yb w S τ args vals.toList) (hk:∀ k∈V.tokss args,k.pinned=true∧(τ k).b < w.heap.size∧¬ S (τ k).b)
    (hinj:∀ k∈V.tokss args,∀ k'∈V.tokss args,(τ k).b=(τ k').b→k=k') (hok:args.all V.ok=true) (hn:args.length≤nt) (hnt:nt≤zD) :
    Inv (zv8 w τ (V.tokss args)) S nt (init args) { tmps:=vals++Array.replicate (nt - vals.size) undef,defers:=[] } w S τ where
 told t:=by
  have hl:=UH _ _ hr
  simp only [Array.length_toList] at hl
  have:=KJ args vals.toList t hr
  by_cases ht:t < vals.size
  · simp only [init,Act.eval,Array.getD_eq_getD_getElem?,Array.getElem?_append_left ht]
    simpa [zC] using this
  · have:init args t = .dead:=by
     simp only [init]
     rw [zC,uh (by omega)];rfl
    rw [this];simp [zK]
 size:=by
  have hl:=UH _ _ hr
  simp at hl ⊢;omega
 defers:=rfl
 own t k h:=by
  have h1:=Ki args t k h
  have h2:=hk k h1
  exact ⟨.inr ⟨k,h1,rfl⟩,h2.2.1,h2.2.2⟩
 inj t t' k k' h h' e:=hinj k (Ki args t k h) k' (Ki args t' k' h') e
 sbd:=hS
 sfr b hb:=.inl hb
 s0 b hb:=hb
 below:=Bel.refl _ _
 lin r v t k hl _ _:=by
  have:=zcc args r hok
  simp only [init] at hl
  rw [hl] at this;simp [V.ok] at this
 gone r t k hg _:=by
  have:=zcc args r hok
  simp only [init] at hg
  rw [hg] at this;simp [V.ok] at this
 small:=hnt
 pin t k h _:=rfl
end
structure On (α:Type) where
 v:NL α
def MH {α:Type} [Enc α] (t:Tok):V→Option (NL α)
 | .sl .nl h 0 []=>if h.beq (Enc.shp α) then some .nil else none
 | .sl t' h 0 xs=>if t'=t∧h.beq (Enc.shp α)=true then (zdB xs).map .of else none
 | _=>none
theorem UZ {α:Type} [Enc α] {r:Nat} {p:List Nat} (o:NL α):MH (.at r p) (zu (.at r p) o)=some o:=by
 cases o with
 | nil=>simp [zu,MH,Sh.beq_refl]
 | of xs=>simp [zu,MH,Sh.beq_refl,LE]
theorem UA {α:Type} [Enc α] {t:Tok} (v:V) (o:NL α) (h:MH t v=some o):zu t o=v:=by
 unfold MH at h
 split at h
 · split at h
   · rename_i hb
     simp only [zg] at h;subst h
     simp [zu,Sh.beq_eq _ _ hb]
   · cases h
 · split at h
   · rename_i hb
     simp only [zZ] at h
     obtain ⟨ys,h1,rfl⟩:=h
     simp [zu,Sh.beq_eq _ _ hb.2,hb.1,L9 _ _ h1]
   · cases h
 · cases h
instance {α:Type} [Enc α]:Arg (On α) where
 arg x:=zu (.at zD []) x.v
 un v:=(MH (.at zD []) v).map On.mk
 un_arg x:=by simp [UZ]
 arg_un v x h:=by
  simp only [zZ] at h
  obtain ⟨o,h1,rfl⟩:=h
  exact UA v o h1
structure Og (α:Type) where
 a:Int
 v:NL α
instance {α:Type} [Enc α]:Arg (Og α) where
 arg x:=.agg [Enc.enc x.a,zu (.at zD [1]) x.v]
 un
  | .agg [u,v]=>(Enc.dec u).bind fun a=>(MH (.at zD [1]) v).map (Og.mk a)
  | _=>none
 un_arg x:=by simp [UZ,Enc.dec_enc]
 arg_un v x h:=by
  split at h
  · simp only [Option.bind_eq_some_iff,zZ] at h
    obtain ⟨a,h0,o,h1,rfl⟩:=h
    simp [UA _ _ h1,Enc.enc_dec _ _ h0]
  · cases h
theorem vK {α:Type} [Enc α] {t:Tok} {o:NL α}:(zu t o).ok=true:=by cases o <;> rfl
theorem NG {α:Type} [Enc α] {t:Tok} {o:NL α}:(zu t o).mem=true:=by cases o <;> rfl
theorem US {α:Type} [Enc α] {t:Tok} {o:NL α}:(zu t o).shape.beq .p=true:=by cases o <;> rfl
theorem WZ {α:Type} [Enc α] {r:Nat} {p:List Nat} {k:Tok} {o:NL α} (h:(k == .at r p)=false) (hn:(k == .nl)=false):(zu (.at r p) o).toks.contains k=false:=by
 cases o with
 | nil=>simp [zu,V.toks,V.tokss]
 | of xs=>
   have h1:((.of xs:NL α)) = .of xs:=rfl
   have:(zu (.at r p) (.of xs)).toks=[.at r p]:=by simp [zu,V.toks,vR]
   rw [this]
   simpa using h
theorem wm {α:Type} [Enc α] {t:Tok} {o:NL α}:(zu t o).shape = .p:=by cases o <;> rfl
theorem yd {α:Type} [Enc α] {r:Nat} {p:List Nat} {k:Tok} {o:NL α} (h:k≠.at r p):k∉(zu (.at r p) o).toks:=by
 cases o with
 | nil=>simp [zu,V.toks,V.tokss]
 | of xs=>
   have:(zu (.at r p) (.of xs)).toks=[.at r p]:=by simp [zu,V.toks,vR]
   rw [this]
   simpa using h
section
variable {D:Den} {σ:Sig} {R:(Nat→V)→Prop} {s:Nat→V} {K:(Nat→V)→Prop} {is:List I}
theorem zlB {x:O} {i:Nat} {vs:List V} {v:V} (h:x.ev s = .tup vs) (hi:vs[i]?=some v) (hk:v.ok=true):yf s (.ext x i)=some v:=by simp only [yf,zF h rfl,hi,hk,if_true]
theorem yw:uV s []=some []:=rfl
theorem zJ {x:O} {xs:List O} {v:V} {vs:List V} (h:x.ev s=v) (hk:v.ok=true) (hs:uV s xs=some vs):uV s (x :: xs)=some (v :: vs):=by
 simp only [uV,zF h hk,hs]
theorem uc {α:Type} [Enc α] {d:Nat} {p:List Nat} {o:NL α}:V.tag d p 1 (zu .sh o)=zu (.at d p) o:=by
 cases o with
 | nil=>rfl
 | of xs=>
   simp only [zu,V.tag]
   split
   · rfl
   · congr 1
     have:∀ (xs:List α) k,V.tags d p 0 k (xs.map Enc.enc)=xs.map Enc.enc:=by
      intro xs
      induction xs with
      | nil=>intro k;rfl
      | cons x xs ih=>intro k;simp [V.tags,Enc.tag0,ih]
     exact this xs 0
theorem ve {α:Type} [Enc α] {o:NL α}:(zu .sh o).toks=[]:=by
 cases o with
 | nil=>simp [zu,V.toks,V.tokss]
 | of xs=>rfl
theorem zlT {d:Nat} {p:List Nat} {m:Nat} {vs us:List V} (h:V.tags d p m 0 vs=us):V.tag d p m (.tup vs) = .tup us:=by simp only [V.tag,h]
theorem MM {d:Nat} {p:List Nat} {m:Nat} {vs us:List V} (h:V.tags d p m 0 vs=us):V.tag d p m (.agg vs) = .agg us:=by simp only [V.tag,h]
theorem JN {d:Nat} {p:List Nat} {m k:Nat}:V.tags d p m k []=[]:=rfl
theorem ZE {d:Nat} {p:List Nat} {m k:Nat} {v u:V} {vs us:List V} (h:V.tag d (p++[k]) m v=u) (hs:V.tags d p m (k + 1) vs=us):V.tags d p m k (v :: vs)=u :: us:=by simp only [V.tags,h,hs]
theorem ziV {vs:List V} (h:V.tokss vs=[]):(V.tup vs).toks=[]:=by simp only [V.toks,h]
theorem Lk {vs:List V} (h:V.tokss vs=[]):(V.agg vs).toks=[]:=by simp only [V.toks,h]
theorem yr:V.tokss []=[]:=rfl
theorem yg {v:V} {vs:List V} (h:v.toks=[]) (hs:V.tokss vs=[]):V.tokss (v :: vs)=[]:=by simp only [V.tokss,h,hs,yG]
theorem ZM {d g m:Nat} {al:Bool} {as:List O} {r v:V} {kk:Nat} (vs:List V) (hv:xe as s=some (vs,s)) (hD:D kk vs=some r) (hσ:σ kk=some (m,al)) (hal:(al && !(xg s as).isEmpty)=false)
    (hr:r.toks=[]) (ht:V.tag d [] m r=v) (hok:v.ok=true) (hg:s d = .gone) (H:goK D σ is (upd s d v) K) (hmp:Nat.ble zD m=false:=by rfl) (hgm:Nat.ble YV g=false:=by rfl) (hkk:g + YV=kk:=by rfl) :
    goK D σ (⟨some d,none,false,.callO (.k (.fn g [] [])) as⟩ :: is) s K:=by
 subst ht
 subst hkk
 have h0:(V.fn g [] []).toks=[]:=by simp [V.toks,V.tokss]
 have h1:O.rd s (.k (.fn g [] []))=some (.fn g [] []):=rfl
 have hal':¬ ((al && !((xg s as).isEmpty && (V.fn g [] []).toks.isEmpty))=true):=by simp [h0];simpa using hal
 simp only [goK,xK,yD,KF,h1,hv,V.erases,ZD,yG,key,zl,hD,hσ,hgm,ya,if_false]
 rw [if_neg hal']
 simp only [hr,hmp,uD,List.isEmpty_nil,List.all_nil,ww,if_true,yV,place,hok,hg,put]
 split
 · rename_i h
   split at h
   · simp only [zg] at h;subst h;exact H
   · simp at h;subst h;exact H
 · rename_i h
   split at h <;> cases h
def kdO {α:Type} [Enc α]:NL α→V
 | .nil=>.sl .nl (Enc.shp α) 0 []
 | .of _=>.dead
theorem Uf {α:Type} [Enc α] {r:Nat} {p:List Nat} {o:NL α}:V.map (Ui (.at r p)) (zu (.at r p) o)=kdO o:=by
 cases o with
 | nil=>simp [zu,V.map,Ui,kdO,V.maps]
 | of xs=>simp [zu,V.map,Ui,kdO]
theorem M4 {α:Type} [Enc α] {t:Tok} {i:Nat} {q:List Nat} {u:V} {o:NL α}:V.mut t i q u (kdO o)=kdO o:=by
 cases o with
 | nil=>cases t <;> simp [V.mut,kdO,V.muts,V.setPs]
 | of xs=>rfl
theorem MY {α:Type} [Enc α] {o:NL α}:(kdO o).shape.beq .p=true:=by cases o <;> rfl
theorem Jy {x:Nat} {es:List E} (H:∀ s1,s1 x = .dead→(∀ t,t≠x→s1 t=s t)→epK es s1 K):epK (.drp x :: es) s K:=by
 simp only [epK,Kw]
 exact H _ (by simp) (fun t ht=>zP _ _ ht)
end
structure zeV (v r:V) (p:List Nat) (ts:List Tok):Prop where
 own:∃ l,V.own p 1 v=some l∧(l.map (·.2)).Sublist ts
 ret:V.ret 1 v=r
 low:V.low 1 v=[]
structure zdq (vs rs:List V) (p:List Nat) (i:Nat) (ts:List Tok):Prop where
 own:∃ l,V.owns p 1 i vs=some l∧(l.map (·.2)).Sublist ts
 ret:V.rets 1 vs=rs
 low:V.lows 1 vs=[]
theorem Xs {α:Type} [Enc α] {r:Nat} {p q:List Nat} {o:NL α}:zeV (zu (.at r q) o) (zu .sh o) p [.at r q]:=by
 cases o with
 | nil=>exact ⟨⟨[],rfl,by simp⟩,rfl,rfl⟩
 | of xs=>
   have h0:∀ (xs:List α) k,V.owns p 0 k (xs.map Enc.enc)=some []:=by
    intro xs
    induction xs with
    | nil=>intro k;rfl
    | cons x xs ih=>intro k;simp [V.owns,Enc.own0,ih]
   have h1:∀ (xs:List α),V.lows 0 (xs.map Enc.enc)=[]:=by
    intro xs
    induction xs with
    | nil=>rfl
    | cons x xs ih=>simp [V.lows,Enc.low0,ih]
   have h2:∀ (xs:List α),V.rets 0 (xs.map Enc.enc)=xs.map Enc.enc:=by
    intro xs
    induction xs with
    | nil=>rfl
    | cons x xs ih=>simp [V.rets,Enc.ret0,ih]
   refine ⟨⟨[(p,.at r q)],?_,by simp⟩,?_,?_⟩
   · simp only [zu,V.own]
     split
     · split
       · rfl
       · rw [h0];rfl
     · rename_i h;exact absurd trivial h
   · simp only [zu,V.ret]
     split
     · rfl
     · rw [h2]
   · simp only [zu,V.low]
     split
     · rfl
     · exact h1 xs
theorem N2 {k:IntKind} {n:Int} {p:List Nat}:zeV (.int k n) (.int k n) p []:=⟨⟨[],rfl,by simp⟩,rfl,rfl⟩
theorem zaq {b:Bool} {p:List Nat}:zeV (.bool b) (.bool b) p []:=⟨⟨[],rfl,by simp⟩,rfl,rfl⟩
theorem UK {p:List Nat} {i:Nat}:zdq [] [] p i []:=⟨⟨[],rfl,by simp⟩,rfl,rfl⟩
theorem uq {v r:V} {vs rs:List V} {p:List Nat} {i:Nat} {ts us:List Tok} (h:zeV v r (p++[i]) ts) (hs:zdq vs rs p (i + 1) us):zdq (v :: vs) (r :: rs) p i (ts++us):=by
 obtain ⟨l,h1,h2⟩:=h.own
 obtain ⟨l',h3,h4⟩:=hs.own
 exact ⟨⟨l++l',by simp [V.owns,h1,h3],by rw [List.map_append];exact h2.append h4⟩,by simp [V.rets,h.ret,hs.ret],by simp [V.lows,h.low,hs.low]⟩
theorem NK {vs rs:List V} {p:List Nat} {ts:List Tok} (h:zdq vs rs p 0 ts):zeV (.agg vs) (.agg rs) p ts:=by
 obtain ⟨l,h1,h2⟩:=h.own
 exact ⟨⟨l,by simpa [V.own] using h1,h2⟩,by simp [V.ret,h.ret],by simp [V.low,h.low]⟩
theorem zej {vs rs:List V} {p:List Nat} {ts:List Tok} (h:zdq vs rs p 0 ts):zeV (.tup vs) (.tup rs) p ts:=by
 obtain ⟨l,h1,h2⟩:=h.own
 exact ⟨⟨l,by simpa [V.own] using h1,h2⟩,by simp [V.ret,h.ret],by simp [V.low,h.low]⟩
theorem Xc {v r:V} {ts:List Tok} {al:Bool} (h:zeV v r [] ts) (hn:decide ts.Nodup=true) (hm:(al || v.mine)=true):fin 1 al v=some r:=by
 obtain ⟨l,h1,h2⟩:=h.own
 have hnd:(l.map (·.2)).Nodup:=h2.nodup (of_decide_eq_true hn)
 simp only [fin,h1,hnd,decide_true,h.low,hm,h.ret]
 simp
def NL.set {α:Type} (o:NL α) (i:Nat) (b:α):NL α:=match o with
 | .nil=>.nil
 | .of xs=>.of (xs.set i b)
theorem Lt {α:Type} [Enc α] {r:Nat} {p:List Nat} {i:Nat} {u:α} {o:NL α}:V.mut (.at r p) i [] (Enc.enc u) (zu (.at r p) o)=zu (.at r p) (o.set i u):=by
 cases o with
 | nil=>simp [zu,V.mut,NL.set,V.muts]
 | of xs=>exact Xu
section
variable {P:Program}
end
section
variable {D:Den} {σ:Sig} {s s0 s1:Nat→V} {K:(Nat→V)→Prop} {is:List I}
theorem zhP {k:Tok}:ZL [k]=Ui k:=by
 funext k'
 unfold ZL Ui
 by_cases e:k'=k
 · subst e;simp
 · have h1:[k].contains k'=false:=by simpa using e
   have h2:(k' == k)=false:=by simpa using e
   rw [h1,h2]
end
def znE {α:Type}:NL α→Option (List α)
 | .nil=>none
 | .of xs=>some xs
theorem zlS {α:Type} {o:NL α} {xs:List α} (h:znE o=some xs):o = .of xs:=by
 cases o with
 | nil=>cases h
 | of ys=>cases h;rfl
theorem zaC {α:Type} [Enc α] {s:Nat→V} {x:O} {lo hi:Option O} {e r:Nat} {p:List Nat} {xs ys:List α} {a b:Int} (hx:x.ev s=zu (.at r p) (.of xs)) (hl:zdf s 0 lo a) (hh:zdf s xs.length hi b) (h:sub xs a b=some ys)
    (he:(Enc.shp α).size=e):yf s (.slice x lo hi e)=some (.sl (.at r p) (Enc.shp α) a.toNat (ys.map Enc.enc)):=by
 unfold sub at h
 split at h
 · rename_i hb
   simp only [zg] at h;subst h
   have hx':x.ev s = .sl (.at r p) (Enc.shp α) 0 (xs.map Enc.enc):=hx
   simp only [yf,zF hx' rfl,Ls hl hb.1,wB]
   rw [Ls hh (by omega)]
   simp only [he]
   rw [if_pos (by simp [Tok.isBx];omega)]
   simp [List.map_take,List.map_drop]
 · cases h
abbrev TF:=Nat→Nat×List Nat
def tk (x:Nat×List Nat):Tok:=.at x.1 x.2
section
variable {α:Type} [Enc α]
def zh8 (T:TF):Nat→List (NL α)→List V
 | _,[]=>[]
 | k,o :: os=>zu (tk (T k)) o :: zh8 T (k + 1) os
def zk1 (r:Nat) (p:List Nat):TF:=fun k=>(r,p++[k])
def NS (r:Nat) (p:List Nat):NL (NL α)→V
 | .nil=>.sl .nl .p 0 []
 | .of os=>.sl (.at r p) .p 0 (zh8 (zk1 r p) 0 os)
theorem KN {r:Nat} {p:List Nat} {o:NL (NL α)}:(NS r p o).shape = .p:=by cases o <;> rfl
end
section
variable {α:Type}
end
section
variable {α:Type} [Enc α]
end
section
variable {D:Den} {σ:Sig} {R:(Nat→V)→Prop} {s:Nat→V} {K:(Nat→V)→Prop} {is:List I}
variable {α:Type} [Enc α]
end
/-! ## results two lists deep -/
section
variable {α:Type} [Enc α]
end
structure zx5 (v r:V) (p:List Nat) (ts:List Nat):Prop where
 own:∃ l,V.own p 2 v=some l∧(l.map (·.2)).Nodup∧∀ y∈l,∃ r∈ts,y.2.root?=some r
 ret:V.ret 2 v=r
 low:V.low 2 v=[]
structure zx4 (vs rs:List V) (p:List Nat) (i:Nat) (ts:List Nat):Prop where
 own:∃ l,V.owns p 2 i vs=some l∧(l.map (·.2)).Nodup∧∀ y∈l,∃ r∈ts,y.2.root?=some r
 ret:V.rets 2 vs=rs
 low:V.lows 2 vs=[]
section
variable {α:Type}
end
section
variable {α:Type} [Enc α]
end
/-! ## marks -/
structure On2 (α:Type) where
 v:NL (NL α)
section
variable {α:Type} [Enc α]
def zeE (T:TF):Nat→List V→Option (List (NL α))
 | _,[]=>some []
 | k,v :: vs=>match MH (tk (T k)) v,zeE T (k + 1) vs with
   | some o,some os=>some (o :: os)
   | _,_=>none
def QD (r:Nat) (p:List Nat):V→Option (NL (NL α))
 | .sl t h lo vs=>if t = .nl then (if h.beq .p=true∧lo=0∧vs.isEmpty=true then some .nil else none)
   else if t = .at r p∧h.beq .p=true∧lo=0 then (zeE (zk1 r p) 0 vs).map .of else none
 | _=>none
theorem M8 {T:TF}:∀ (os:List (NL α)) (k:Nat),zeE T k (zh8 T k os)=some os
 | [],k=>rfl
 | o :: os,k=>by
   have h1:MH (tk (T k)) (zu (tk (T k)) o)=some o:=UZ o
   simp only [zh8,zeE,h1,M8 os (k + 1)]
theorem Np {T:TF}:∀ (vs:List V) (k:Nat) (os:List (NL α)),zeE T k vs=some os→zh8 T k os=vs
 | [],k,os,h=>by simp [zeE] at h;subst h;rfl
 | v :: vs,k,os,h=>by
   simp only [zeE] at h
   split at h
   · rename_i o os' h1 h2
     simp only [zg] at h;subst h
     simp only [zh8,UA _ _ h1,Np vs (k + 1) os' h2]
   · cases h
instance:Arg (On2 α) where
 arg x:=NS zD [] x.v
 un v:=(QD zD [] v).map On2.mk
 un_arg x:=by
  obtain ⟨o⟩:=x
  cases o with
  | nil=>simp [NS,QD,Sh.beq]
  | of os=>simp [NS,QD,Sh.beq,M8]
 arg_un v x h:=by
  simp only [zZ] at h
  obtain ⟨o,h1,rfl⟩:=h
  unfold QD at h1
  split at h1
  · rename_i t g lo vs
    split at h1
    · rename_i ht
      subst ht
      split at h1
      · rename_i hc
        simp only [zg] at h1;subst h1
        obtain ⟨hb,rfl,he⟩:=hc
        have hb:=Sh.beq_eq _ _ hb
        have he:vs=[]:=by simpa using he
        subst hb;subst he;rfl
      · cases h1
    · split at h1
      · rename_i hc
        simp only [zZ] at h1
        obtain ⟨os,h2,rfl⟩:=h1
        obtain ⟨rfl,hb,rfl⟩:=hc
        have hb:=Sh.beq_eq _ _ hb
        subst hb
        simp only [NS,Np _ _ _ h2]
      · cases h1
  · cases h1
end
section
variable {α:Type}
end
section
variable {α:Type} [Enc α]
end
section
variable {α:Type} [Enc α]
end
section
variable {α:Type}
end
section
variable {α:Type} [Enc α]
end
theorem U6 {k j:Nat} {u:V} {vs us:List V} (h:V.muts (.bx k) 0 [j] u vs=vs) (hu:vs.set j u=us:=by rfl):V.mut (.bx k) 0 [j] u (.ref (.bx k) 0 [] (.agg vs)) = .ref (.bx k) 0 [] (.agg us):=by
 simp only [V.mut,h,V.seen,V.setP,L6,hu,and_self,if_true,true_or]
/-! ## lists of lists in structs -/
structure Od (α β:Type) where
 a:NL (NL α)
 v:NL β
theorem zkc {α:Type} [Enc α] {r:Nat} {p:List Nat} (o:NL (NL α)):QD r p (NS r p o)=some o:=by
 cases o with
 | nil=>simp [NS,QD,Sh.beq]
 | of os=>simp [NS,QD,Sh.beq,M8]
theorem zjU {α:Type} [Enc α] {r:Nat} {p:List Nat} (v:V) (o:NL (NL α)) (h:QD r p v=some o):NS r p o=v:=by
 unfold QD at h
 split at h
 · split at h
   · rename_i e
     split at h
     · rename_i hb
       simp only [zg] at h;subst h
       have h1:=Sh.beq_eq _ _ hb.1
       have h2:∀ l:List V,l.isEmpty=true→l=[]:=by intro l hl;cases l <;> simp_all
       rw [e,h1,hb.2.1,h2 _ hb.2.2];rfl
     · cases h
   · split at h
     · rename_i hb
       simp only [zZ] at h
       obtain ⟨os,h2,rfl⟩:=h
       have h1:=Sh.beq_eq _ _ hb.2.1
       rw [hb.1,h1,hb.2.2]
       simp only [NS,Np _ _ _ h2]
     · cases h
 · cases h
instance {α β:Type} [Enc α] [Enc β]:Arg (Od α β) where
 arg x:=.agg [NS zD [0] x.a,zu (.at zD [1]) x.v]
 un
  | .agg [u,v]=>(QD zD [0] u).bind fun a=>(MH (.at zD [1]) v).map (Od.mk a)
  | _=>none
 un_arg x:=by simp [UZ,zkc]
 arg_un v x h:=by
  split at h
  · simp only [Option.bind_eq_some_iff,zZ] at h
    obtain ⟨a,h0,o,h1,rfl⟩:=h
    simp [UA _ _ h1,zjU _ _ h0]
  · cases h
section
variable {α β:Type} [Enc α] [Enc β]
end
section
variable {α β:Type}
end
section
variable {α β:Type} [Enc α] [Enc β]
end
section
variable {α β:Type}
end
section
variable {α β:Type} [Enc α] [Enc β]
end
section
variable {α β:Type}
end
section
variable {α β:Type} [Enc α] [Enc β]
end
section
variable {α β:Type}
end
section
variable {α β:Type} [Enc α] [Enc β]
end
section
variable {α β:Type}
end
section
variable {α β:Type} [Enc α] [Enc β]
end
section
variable {α β:Type}
end
section
variable {α β:Type} [Enc α] [Enc β]
end
section
variable {α β:Type}
end
section
variable {α β:Type} [Enc α] [Enc β]
end
section
variable {α β:Type}
end
section
variable {α β:Type} [Enc α] [Enc β]
end
section
variable {α β:Type} [Enc β]
end
section
variable {α β:Type} [Enc α] [Enc β]
end
def cst (v:V) (_:Nat):V:=v
section
variable {D:Den} {σ:Sig} {R:(Nat→V)→Prop} {s:Nat→V} {K:(Nat→V)→Prop} {is:List I}
theorem gm {d t:Nat} {l:Bool} {u:V} (h:s t=u) (H:cst u d=u→goK D σ is (upd s d u) K) (hk:u.ok=true:=by rfl):goK D σ (⟨some d,none,l,.v (.mov (.t t))⟩ :: is) s K:=
 g_v u (wn h hk) (H rfl)
theorem gv {d:Nat} {l:Bool} {a:A} (v:V) (h:yf s a=some v) (H:cst v d=v→goK D σ is (upd s d v) K):goK D σ (⟨some d,none,l,.v a⟩ :: is) s K:=
 g_v v h (H rfl)
theorem g0 {d:Nat} {l:Bool} {a:A} (v:V) (H:cst v d=v→goK D σ is (upd s d v) K) (he:yf (fun _=>.dead) a=some v:=by rfl) (hr:a.rds=[]:=by rfl):goK D σ (⟨some d,none,l,.v a⟩ :: is) s K:=
 zxV v he hr (H rfl)
theorem g1 {d:Nat} {l:Bool} {a:A} (t:Nat) {u:V} (v:V) (h:s t=u) (H:cst v d=v→goK D σ is (upd s d v) K) (he:yf (fun _=>u) a=some v:=by rfl) (hr:(a.rds.all fun k=>k == t)=true:=by rfl):goK D σ (⟨some d,none,l,.v a⟩ :: is) s K:=
 zw4 v h he hr (H rfl)
theorem g2 {d:Nat} {l:Bool} {a:A} (t1 t2:Nat) {u1 u2:V} (v:V) (h1:s t1=u1) (h2:s t2=u2) (H:cst v d=v→goK D σ is (upd s d v) K) (he:yf (fun k=>if k=t1 then u1 else u2) a=some v:=by rfl) (hr:(a.rds.all fun k=>k == t1 || k == t2)=true:=by rfl) :
    goK D σ (⟨some d,none,l,.v a⟩ :: is) s K:=
 zwW v h1 h2 he hr (H rfl)
theorem gz (L:List (Nat×V)) (h:zr L s) (H:∀ s',zr L s'→K s'):goK D σ [] s (fun s1=>epK [] s1 K):=H s h
theorem rg {k:List Fr} {ep:List E} (h:goK D σ is s fun s1=>epK ep s1 (Run D σ R (.nrm k))):Run D σ R (.run (.reg [] is ep) k) s:=zw (zqD h)
theorem ez (L:List (Nat×V)) (h:zr L s) (H:∀ s',zr L s'→K s'):epK [] s K:=H s h
theorem gq {k:List Fr} (H:Run D σ R (.nrm k) s):goK D σ [] s (fun s1=>epK [] s1 (Run D σ R (.nrm k))):=H
theorem mi {f:Tok→Option Tok} {k:IntKind} {n:Int}:V.map f (.int k n) = .int k n:=rfl
theorem mb {f:Tok→Option Tok} {b:Bool}:V.map f (.bool b) = .bool b:=rfl
theorem me {α:Type} [Enc α] {f:Tok→Option Tok} {x:α}:V.map f (Enc.enc x)=Enc.enc x:=Enc.map_enc f x
end
def ent {α γ:Type} [Xk α] (g:Nat) (f:α→Option γ) (t:γ→V) (m:Nat) (al:Bool) (sel:List (Nat×Nat)):Ent:=⟨g,da f t,m,al,zst sel⟩
theorem zU {α γ:Type} [Xk α] {g:Nat} {f:α→Option γ} {t:γ→V} {m:Nat} {al:Bool} {sel:List (Nat×Nat)} (x:α) {r:γ} (h:f x=some r):(ent g f t m al sel).den (Xk.args x)=some (t r):=zpR x h
abbrev ji (n:Int):V:=.int .i64 n
abbrev jb (b:Bool):V:=.bool b
abbrev eL (x:List Int):V:=Enc.enc x
abbrev oI (r:Nat) (p:List Nat) (o:NL Int):V:=zu (.at r p) o
abbrev jv (d:Nat) (a:A):I:=⟨some d,none,false,.v a⟩
abbrev jm (d t:Nat):I:=⟨some d,none,false,.v (.mov (.t t))⟩
abbrev jg (d j:Nat) (b:Bool) (a:A):I:=⟨some d,some (j,b),false,.v a⟩
abbrev jn (n:Int):O:=.k (.int .i64 n)
section
variable {P:Program}
def RT (P:Program) (rs:List ResultVar) (r:V) (us:List V) (s:Nat→V):Prop:=QK P s rs=some r∧∀ u∈us,∃ t,s t=u
theorem zaS {D:Den} {σ:Sig} (hF:zG P D σ) (hm:P.follows .mixedOrders=true) {f:Nat} {fn:Func} {c:Code} (hf:P.funcs[f]?=some fn) (hb:fn.body=some c) {an:List An} {A:AC} (hc:cC P fn.ntmps an c=some A)
    {args:List V} {r:V} {us:List V} (hok:args.all V.ok=true) (hn:args.length≤fn.ntmps) (hnt:Nat.ble fn.ntmps zD=true)
    (h:A.wp D σ (fun e s=>(e = .nrm∨e = .ret)∧RT P fn.results.toList r us s) (init args)):Q0 P f args r us:=by
 intro w S τ vals hS hr hk hinj hru
 have hI:=zif hS hr hk hinj hok hn (Nat.le_of_ble_eq_true hnt)
 refine calls_of_wp hf hb (zcR hF hm c A _ _ _ _ _ _ _ hc hI h ?_)
 rintro e s a w' S' τ' ⟨he,hres,hus⟩ hI'
 obtain ⟨cv,h1,h2,h3⟩:=MC fn _ r rfl hres hI'
 have post:∃ S',Bel (fun b=>w.heap.size≤b∨∃ k∈V.tokss args,(τ k).b=b) w w'∧zK w' S' τ r cv ∧
     (∀ b,S' b→b < w'.heap.size∧(S b∨w.heap.size≤b∨∃ k∈V.tokss args,(τ k).b=b)) ∧
     ∀ u∈us,(∀ k∈u.toks,k.pinned=true)→(∀ k∈u.toks,¬ S' (τ k).b)∧∃ c,zK w' S' τ u c:=by
  refine ⟨S',hI'.below,wa (w:=w') (fun b hb=>⟨hb,rfl⟩) _ _ h2 (by rw [hru];intro k hk;cases hk),fun b hb=>⟨hI'.sbd b hb,hI'.sfr b hb⟩,?_⟩
  intro u hu hp
  obtain ⟨t,ht⟩:=hus u hu
  have hpin:∀ k∈u.toks,τ' k=τ k:=fun k hk=>hI'.pin t k (by rw [ht];exact hk) (hp k hk)
  refine ⟨fun k hk=>by rw [← hpin k hk];exact (hI'.own t k (by rw [ht];exact hk)).2.2,a.eval (.tmp t),?_⟩
  have h4:=hI'.told t
  rw [ht] at h4
  exact wa (w:=w') (fun b hb=>⟨hb,rfl⟩) _ _ h4 fun k hk=>⟨(hpin k hk).symm,rfl⟩
 obtain ⟨S2,post⟩:=post
 rcases he with rfl | rfl
 · exact ⟨hI'.defers,cv,h1,cv,S2,rfl,post⟩
 · exact ⟨hI'.defers,cv,h1,cv,S2,rfl,post⟩
theorem KG {D:Den} {σ:Sig} (hF:zG P D σ) (hm:P.follows .mixedOrders=true) {f:Nat} {fn:Func} {c:Code} (hf:P.funcs[f]?=some fn) (hb:fn.body=some c) {an:List An} {A:AC} (hc:cC P fn.ntmps an c=some A)
    {al:Bool} {args:List V} {r:V} {us:List V} (hok:args.all V.ok=true) (hn:args.length≤fn.ntmps) (hnt:Nat.ble fn.ntmps zD=true)
    (h:Run D σ (RT P fn.results.toList r us) (.run A []) (init args)):w9 P f uA al args (.tup [r,.tup us]):=by
 have h1:=zaS hF hm hf hb hc hok hn hnt (zds h)
 unfold w9
 rw [if_neg (by decide),if_neg (by decide),if_pos rfl]
 intro r' us' e
 simp only [V.tup.injEq,List.cons.injEq,and_true] at e
 obtain ⟨rfl,rfl⟩:=e
 exact h1
end
def grE (p q:Nat) (cw cd:V):List V:=[.ref .sh 0 [] cw,.ref .sh 0 [] cd,.ref (.bx p) 0 [] .dead,.ref (.bx q) 0 [] .dead]
def grV (p q g:Nat) (cw cd:V):V:=.ref (.bx q) 0 [] (.fn g [] (grE p q cw cd))
def grL (p r:Nat) (ρ:List Nat) (xs:List Int):V:=.ref (.bx p) 0 [] (zu (.at r ρ) (.of xs))
structure Pb where
 v:List Int
instance:Arg Pb where
 arg x:=grL zD (zD + 1) [] x.v
 un
  | .ref t i q c=>if t = .bx zD∧i=0∧q=[] then (match (MH (.at (zD + 1) []) c:Option (NL Int)) with
    | some (.of xs)=>some ⟨xs⟩
    | _=>none) else none
  | _=>none
 un_arg x:=by simp [grL,UZ]
 arg_un v x h:=by
  split at h
  · split at h
    · rename_i e
      obtain ⟨rfl,rfl,rfl⟩:=e
      split at h
      · rename_i xs hd
        simp only [zg] at h;subst h
        simp only [grL,UA _ _ hd]
      · cases h
    · cases h
  · cases h
structure Gb (g:Nat) (α β:Type) where
 a:α
 b:β
instance {g:Nat} {α β:Type} [Arg α] [Arg β]:Arg (Gb g α β) where
 arg x:=grV zD (zD + 2) g (Arg.arg x.a) (Arg.arg x.b)
 un
  | .ref t i q (.fn g' [] [.ref t1 i1 q1 va,.ref t2 i2 q2 vb,.ref t3 i3 q3 .dead,.ref t4 i4 q4 .dead])=>
    if t = .bx (zD + 2)∧i=0∧q=[]∧g'=g∧t1 = .sh∧i1=0∧q1=[]∧t2 = .sh∧i2=0∧q2=[]∧t3 = .bx zD∧i3=0∧q3=[]∧t4 = .bx (zD + 2)∧i4=0∧q4=[] then
     (Arg.un va).bind fun x=>(Arg.un vb).map fun y=>⟨x,y⟩ else none
  | _=>none
 un_arg x:=by simp [grV,grE,Arg.un_arg]
 arg_un v x h:=by
  split at h
  · split at h
    · rename_i e
      obtain ⟨rfl,rfl,rfl,rfl,rfl,rfl,rfl,rfl,rfl,rfl,rfl,rfl,rfl,rfl,rfl,rfl⟩:=e
      simp only [Option.bind_eq_some_iff,zZ] at h
      obtain ⟨y,h1,z,h2,rfl⟩:=h
      simp only [grV,grE,Arg.arg_un _ _ h1,Arg.arg_un _ _ h2]
    · cases h
  · cases h
section
variable {D:Den} {σ:Sig} {s:Nat→V} {K:(Nat→V)→Prop} {is:List I}
theorem Qx {p r:Nat} {ρ:List Nat} {xs:List Int}:(grL p r ρ xs).toks=[.bx p,.at r ρ]:=by
 simp only [grL,V.toks,z6]
theorem NW {p q g:Nat} {cw cd:V}:(grV p q g cw cd).toks=[.bx q,.bx p,.bx q]:=by
 simp only [grV,grE,V.toks,V.tokss,ZD,uU,yG]
def ndR (r:Nat):V→Bool
 | .ref (.bx r') _ [] _=>!(Nat.beq r' r)
 | _=>true
theorem zez {ks:List Tok} {l:List (Nat×Nat×List Nat×V)} {v:V} (hl:∀ e∈l,e.2.2.1=[]∧ndR e.1 v=true):upG ks l v=V.map (ZL ks) v:=by
 rcases Ur (ks:=ks) (l:=l) v with ⟨e,he,c,rfl,_⟩ | h1
 · obtain ⟨h2,h3⟩:=hl e he
   rw [h2] at h3;simp [ndR] at h3
 · exact h1
theorem Jm {α:Type} [Enc α] {t:Tok} {o:NL α} {r:Nat}:ndR r (zu t o)=true:=by cases o <;> rfl
theorem zc7 (f:Tok→Option Tok):∀ xs ys:List V,V.maps f (xs++ys)=V.maps f xs++V.maps f ys
 | [],ys=>rfl
 | x :: xs,ys=>by simp only [uU,V.maps,zc7 f xs ys]
structure Cu (α:Type) where
 v:α
def cuV {α:Type} [Enc α] (r:Nat) (x:α):V:=.ref (.bx r) 0 [] (Enc.enc x)
instance {α:Type} [Enc α]:Arg (Cu α) where
 arg x:=cuV zD x.v
 un
  | .ref t i q c=>if t = .bx zD∧i=0∧q=[] then (Enc.dec c).map fun x=>⟨x⟩ else none
  | _=>none
 un_arg x:=by simp [cuV,Enc.dec_enc]
 arg_un v x h:=by
  split at h
  · split at h
    · rename_i e
      obtain ⟨rfl,rfl,rfl⟩:=e
      simp only [zZ] at h
      obtain ⟨y,h1,rfl⟩:=h
      simp only [cuV,Enc.enc_dec _ _ h1]
    · cases h
  · cases h
theorem W0 {α:Type} [Enc α] {r:Nat} {x:α}:(cuV r x).toks=[.bx r]:=by simp only [cuV,V.toks,Enc.toks_enc]
theorem vM {α:Type} [Enc α] {d b g r:Nat} {as:List O} {vs:List V} {x x':α} {res:V} {al:Bool} (hb:s b=cuV r x) (hvs:uV s as=some (cuV r x :: vs)) (h0:V.tokss vs=[]) (hvm:∀ f,V.maps f vs=vs)
    (hD:D g (cuV zD x :: vs)=some (.tup [res,.tup [cuV zD x']])) (hσ:σ g=some (uA,al)) (hr:res.toks=[]) (hok:res.ok=true)
    (H:∀ s1,(∀ t,s t=cuV r x→s1 t=cuV r x')→(∀ t v u,s t=v→ndR r v=true→V.map (Ui (.bx r)) v=u→s1 t=u)→goK D σ is (upd s1 d res) K) (hgm:Nat.ble YV g=false:=by rfl) :
    goK D σ (⟨some d,none,false,.callT (.k (.fn g [] [])) as [b] []⟩ :: is) s K:=by
 have hrd:O.rd s (.k (.fn g [] []))=some (.fn g [] []):=rfl
 have hks:yy s ([b]++[])=[.bx r]:=by
  simp only [yy,yG,Wt,List.flatMap_nil,hb,W0,yG]
 have hn1:vx [.bx r] (.bx r)=some (.bx zD):=by
  simp [vx,Ny,List.findIdx?_cons]
 have hko:∀ k∈[Tok.bx r],k≠.nl∧k≠.sh:=by
  intro k hk
  simp only [z2,List.not_mem_nil,or_false] at hk
  subst hk;exact ⟨by simp,by simp⟩
 have hb1:=Ws hko (by simp) hn1
 have hmap:V.maps (vx [.bx r]) (cuV r x :: vs)=cuV zD x :: vs:=by
  simp only [V.maps,hvm,cuV,V.map,hn1,Enc.map_enc]
 have hall:(!((V.tokss ((cuV r x :: vs)++[].map (uz s [b]))).all (yy s ([b]++[])).contains && [].all V.one && [].all fun e=>(s e).ok))=false:=by
  rw [hks]
  simp only [List.map_nil,yG,V.tokss,W0,h0]
  simp
 have hback:Xm s [.bx r] [b] [cuV zD x']=some [(r,0,[],cuV r x')]:=by
  simp only [Xm,hb,cuV,hb1,and_self,if_true,yM,V.map,Enc.map_enc]
 simp only [goK,xK,yD,KE,W1,hrd,hvs,hall,ya,if_false,key,zi]
 rw [hks]
 simp only [List.map_nil,yG]
 rw [hmap,hD,hσ]
 simp only [hgm,Nat.beq_refl,uD,z7,hr,hok,List.isEmpty_nil,hback]
 have hpin:([cuV zD x'].all fun u=>u.toks.all Tok.pinned)=true:=by
  simp only [List.all_cons,List.all_nil,W0]
  decide
 rw [hpin]
 simp only [ww,if_true,put]
 simp only [yM]
 refine H _ ?_ ?_
 · intro t ht;rw [ht];simp [upG,cuV]
 · intro t v u hv hd hm
   rw [← zhP] at hm
   rw [hv,zez (by simp [hd]),hm]
theorem zmv {d fs b1 b2 g p q r:Nat} {ρ:List Nat} {cw cd:V} {xs ys:List Int} {as:List O} {vs:List V} {al:Bool} (hf:s fs = .fn g [] (grE p q cw cd)) (h1:s b1=grL p r ρ xs) (h2:s b2=grV p q g cw cd) (hne:p≠q) (hb:b1≠b2)
    (hvs:uV s as=some vs) (h0:V.tokss vs=[]) (hvm:∀ f,V.maps f vs=vs)
    (hD:D g (vs++[.ref .sh 0 [] cw,.ref .sh 0 [] cd,grL zD (zD + 1) [] xs,grV zD (zD + 2) g cw cd])=some (.tup [.tup [],.tup [grL zD (zD + 1) [] ys,grV zD (zD + 2) g cw cd]])) (hσ:σ g=some (uA,al))
    (H:∀ s1,s1 b1=grL p r ρ ys→s1 b2=grV p q g cw cd→(∀ t v,s t=v→(ndR p v && ndR q v)=true→(∀ f,V.map f v=v)→s1 t=v)→goK D σ is (upd s1 d (.tup [])) K) (hgm:Nat.ble YV g=false:=by rfl) :
    goK D σ (⟨some d,none,false,.callT (.t fs) as [b1,b2] []⟩ :: is) s K:=by
 have hrd:O.rd s (.t fs)=some (.fn g [] (grE p q cw cd)):=zF hf rfl
 have hqp:(Tok.bx p == Tok.bx q)=false:=by
  simp only [beq_eq_false_iff_ne,ne_eq,Tok.bx.injEq];exact hne
 have hks:yy s ([b1,b2]++[])=[.bx p,.at r ρ,.bx q,.bx p,.bx q]:=by
  simp only [yy,yG,Wt,List.flatMap_nil,h1,h2,Qx,NW,uU,ZD,yG]
 have hn1:vx [.bx p,.at r ρ,.bx q,.bx p,.bx q] (.bx p)=some (.bx zD):=by
  simp [vx,Ny,List.findIdx?_cons]
 have hn2:vx [.bx p,.at r ρ,.bx q,.bx p,.bx q] (.at r ρ)=some (.at (zD + 1) []):=by
  simp [vx,Ny,List.findIdx?_cons]
 have hn3:vx [.bx p,.at r ρ,.bx q,.bx p,.bx q] (.bx q)=some (.bx (zD + 2)):=by
  simp [vx,Ny,List.findIdx?_cons,hqp]
 have hko:∀ k∈[Tok.bx p,.at r ρ,.bx q,.bx p,.bx q],k≠.nl∧k≠.sh:=by
  intro k hk
  simp only [z2,List.not_mem_nil,or_false] at hk
  rcases hk with rfl | rfl | rfl | rfl | rfl <;> exact ⟨by simp,by simp⟩
 have hb1:=Ws hko (by simp) hn1
 have hb2:=Ws hko (by simp) hn2
 have hb3:=Ws hko (by simp) hn3
 have hfill:(grE p q cw cd).map (uz s [b1,b2])=[.ref .sh 0 [] cw,.ref .sh 0 [] cd,grL p r ρ xs,grV p q g cw cd]:=by
  have e1:uz s [b1,b2] (.ref (.bx p) 0 [] .dead)=grL p r ρ xs:=by
   simp only [uz,h1,grL,and_self,if_true]
  have e2:uz s [b1,b2] (.ref (.bx q) 0 [] .dead)=grV p q g cw cd:=by
   simp only [uz,h1,h2,grL,grV,and_self,if_true,hne,false_and,if_false]
  simp only [grE,List.map_cons,List.map_nil,e1,e2]
  rfl
 have hmap:V.maps (vx [.bx p,.at r ρ,.bx q,.bx p,.bx q]) (vs++[.ref .sh 0 [] cw,.ref .sh 0 [] cd,grL p r ρ xs,grV p q g cw cd])=vs++[.ref .sh 0 [] cw,.ref .sh 0 [] cd,grL zD (zD + 1) [] xs,grV zD (zD + 2) g cw cd]:=by
  rw [zc7,hvm]
  simp only [V.maps,V.map,grL,grV,grE,zu,hn1,hn2,hn3]
  rfl
 have hall:(!((V.tokss (vs++(grE p q cw cd).map (uz s [b1,b2]))).all (yy s ([b1,b2]++[])).contains && (grE p q cw cd).all V.one && [].all fun e=>(s e).ok))=false:=by
  rw [hfill,hks,Yg,h0]
  simp only [V.tokss,Qx,NW,V.toks,ZD,uU,yG,List.all_cons,List.all_nil,grE,V.one]
  simp
 have hback:Xm s [.bx p,.at r ρ,.bx q,.bx p,.bx q] [b1,b2] [grL zD (zD + 1) [] ys,grV zD (zD + 2) g cw cd]=some [(p,0,[],grL p r ρ ys),(q,0,[],grV p q g cw cd)]:=by
  simp only [Xm,h1,h2,grL,grV,hb1,hb3,and_self,if_true,yM,V.map,V.maps,grE,zu,hb2]
  rfl
 simp only [goK,xK,yD,KE,W1,hrd,hvs,hall,ya,if_false,key,zi]
 rw [hfill,hks,hmap,hD,hσ]
 simp only [hgm,Nat.beq_refl,uD,z7,V.toks,V.tokss,V.ok,List.isEmpty_nil,hback]
 have hpin:([grL zD (zD + 1) [] ys,grV zD (zD + 2) g cw cd].all fun u=>u.toks.all Tok.pinned)=true:=by
  simp only [List.all_cons,List.all_nil,Qx,NW]
  decide
 rw [hpin]
 simp only [if_true,put]
 simp only [yM]
 refine H _ ?_ ?_ ?_
 · rw [h1];simp [upG,grL]
 · rw [h2];simp [upG,grV,hne]
 · intro t v hv hd hm
   simp only [zk] at hd
   rw [hv,zez (by simp [hd]),hm]
theorem zk6 {x y:O} {p q g:Nat} {cw cd c2:V} (hx:x.rd s=some (.ref (.bx q) 0 [] .dead)) (hy:y.rd s=some (.fn g [] [.ref .sh 0 [] cw,.ref .sh 0 [] cd,.ref (.bx p) 0 [] c2,.ref (.bx q) 0 [] .dead])) (hc:c2.shape.beq .p=true)
    (H:goK D σ is (X6 (.bx q) 0 [] (.fn g [] (grE p q cw cd)) s) K):goK D σ (⟨none,none,false,.storeK .p x y⟩ :: is) s K:=by
 have hd:QJ (.fn g [] [.ref .sh 0 [] cw,.ref .sh 0 [] cd,.ref (.bx p) 0 [] c2,.ref (.bx q) 0 [] .dead]) = .fn g [] (grE p q cw cd):=by
  simp only [QJ,List.map_cons,List.map_nil,QF,hc,if_true,grE]
  rfl
 have hk:zh6 (.fn g [] (grE p q cw cd))=true:=rfl
 simp only [goK,xK,yD,hx,hy,hd,hk]
 rw [if_pos ⟨by simp,by simp,rfl,rfl,rfl,trivial⟩]
 exact H
theorem zli {r:Nat} {p:Nat} {ρ:List Nat} {i:Nat} {n:Int} {xs:List Int}:V.mut (.at r ρ) i [] (.int .i64 n) (grL p r ρ xs)=grL p r ρ (xs.set i n):=by
 have:=Xu (r:=r) (p:=ρ) (i:=i) (u:=n) (xs:=xs)
 unfold grL
 exact zH rfl rfl this
theorem zlm {r:Nat} {ρ:List Nat} {i p q g:Nat} {u cw cd:V}:V.mut (.at r ρ) i [] u (grV p q g cw cd)=grV p q g cw cd:=by
 unfold grV
 refine zH rfl rfl ?_
 simp [V.mut,V.muts,grE]
theorem zdt {α:Type} [Enc α] {r:Nat} {x:α}:(V.ref (.bx r) 0 [] (Enc.enc x)).toks=[.bx r]:=by simp only [V.toks,Enc.toks_enc]
theorem zgJ {α:Type} [Enc α] {r:Nat} {x:α}:V.frz [.bx r] (.ref (.bx r) 0 [] (Enc.enc x)) = .ref .sh 0 [] (Enc.enc x):=by
 simp [V.frz,Enc.toks_enc,Enc.erase_enc]
theorem zgM {K:List Tok} {p r:Nat} {ρ:List Nat} {xs:List Int} (h1:K.contains (.bx p)=false) (h2:K.contains (.at r ρ)=false) (h3:K.contains .nl=false):V.frz K (grL p r ρ xs)=grL p r ρ xs:=
 xC h1 (NN h2 h3) rfl
theorem znM {g a b c d:Nat} {va vb vc vd:V} (ha:s a=va) (hb:s b=vb) (hc:s c=vc) (hd:s d=vd) (ka:(va.ok && (va.one && va.mem))=true) (kb:(vb.ok && (vb.one && vb.mem))=true) (kc:(vc.ok && (vc.one && vc.mem))=true) (kd:(vd.ok && (vd.one && vd.mem))=true) :
    yf s (.fn g [] [.t a,.t b,.t c,.t d])=some (.fn g [] [va,vb,vc,vd]):=by
 simp only [zk] at ka kb kc kd
 have h:uV s [.t a,.t b,.t c,.t d]=some [va,vb,vc,vd]:=zJ ha ka.1 (zJ hb kb.1 (zJ hc kc.1 (zJ hd kd.1 yw)))
 have h0:uV s []=some []:=rfl
 simp only [yf,h,h0,List.all_cons,List.all_nil,ka.2,kb.2,kc.2,kd.2,ww,if_true]
def wZ:Nat:=zD + 1
structure Oh (α:Type) where
 a:Int
 v:List α
instance {α:Type} [Enc α]:Arg (Oh α) where
 arg x:=.agg [.int .i64 x.a,zu (.at wZ []) (.of x.v)]
 un
  | .agg [.int .i64 n,c]=>(match (MH (.at wZ []) c:Option (NL α)) with
    | some (.of xs)=>some ⟨n,xs⟩
    | _=>none)
  | _=>none
 un_arg x:=by simp [UZ]
 arg_un v x h:=by
  split at h
  · split at h
    · rename_i h1
      simp only [zg] at h;subst h
      simp only [UA _ _ h1]
    · cases h
  · cases h
theorem zoT {α β:Type} [Enc α] [Enc β] {d b e g r q:Nat} {ρ:List Nat} {as:List O} {x x':α} {n:Int} {xs:List β} {res:V} {al:Bool} (hb:s b=cuV r x) (he:s e = .agg [.int .i64 n,zu (.at q ρ) (.of xs)])
    (hvs:uV s as=some [cuV r x,.agg [.int .i64 n,zu (.at q ρ) (.of xs)]])
    (hD:D g [cuV zD x,.agg [.int .i64 n,zu (.at wZ []) (.of xs)]]=some (.tup [res,.tup [cuV zD x']])) (hσ:σ g=some (uA,al)) (hr:res.toks=[]) (hok:res.ok=true)
    (H:∀ s1,(∀ t,s t=cuV r x→s1 t=cuV r x')→(∀ t v u,s t=v→ndR r v=true→V.map (ZL [.bx r,.at q ρ]) v=u→s1 t=u)→goK D σ is (upd s1 d res) K) (hgm:Nat.ble YV g=false:=by rfl) :
    goK D σ (⟨some d,none,false,.callT (.k (.fn g [] [])) as [b] [e]⟩ :: is) s K:=by
 have hrd:O.rd s (.k (.fn g [] []))=some (.fn g [] []):=rfl
 have hok2:(V.agg [.int .i64 n,zu (.at q ρ) (.of xs)]).ok=true:=rfl
 have ht:(zu (.at q ρ) (.of xs:NL β)).toks=[.at q ρ]:=z6
 have hn2:vx [.bx r,.at q ρ] (.at q ρ)=some (.at wZ []):=by
  simp [vx,Ny,List.findIdx?_cons,wZ]
 have hn1:vx [.bx r,.at q ρ] (.bx r)=some (.bx zD):=by
  simp [vx,Ny,List.findIdx?_cons]
 have hks:yy s ([b]++[e])=[.bx r,.at q ρ]:=by
  simp only [yy,uU,ZD,Wt,List.flatMap_nil,hb,he,W0,V.toks,V.tokss,ht,yG]
 have hko:∀ k∈[Tok.bx r,.at q ρ],k≠.nl∧k≠.sh:=by
  intro k hk
  simp only [z2,List.not_mem_nil,or_false] at hk
  rcases hk with rfl | rfl <;> exact ⟨by simp,by simp⟩
 have hb1:=Ws hko (by simp) hn1
 have hmap:V.maps (vx [.bx r,.at q ρ]) [cuV r x,.agg [.int .i64 n,zu (.at q ρ) (.of xs)]]=[cuV zD x,.agg [.int .i64 n,zu (.at wZ []) (.of xs)]]:=by
  simp only [V.maps,cuV,V.map,hn1,Enc.map_enc,zq (o:=(.of xs:NL β)) hn2 (show vx [.bx r,.at q ρ] .nl=some .nl from rfl)]
 have hall:(!((V.tokss ([cuV r x,.agg [.int .i64 n,zu (.at q ρ) (.of xs)]]++[].map (uz s [b]))).all (yy s ([b]++[e])).contains && [].all V.one && [e].all fun e=>(s e).ok))=false:=by
  rw [hks]
  simp only [List.map_nil,yG,V.tokss,W0,V.toks,ZD,List.all_cons,List.all_nil,Bool.and_true,he,hok2,ht,uU]
  simp
 have hback:Xm s [.bx r,.at q ρ] [b] [cuV zD x']=some [(r,0,[],cuV r x')]:=by
  simp only [Xm,hb,cuV,hb1,and_self,if_true,yM,V.map,Enc.map_enc]
 simp only [goK,xK,yD,KE,W1,hrd,hvs,hall,ya,if_false,key,zi]
 rw [hks]
 simp only [List.map_nil,yG]
 rw [hmap,hD,hσ]
 simp only [hgm,Nat.beq_refl,uD,z7,hr,hok,List.isEmpty_nil,hback]
 have hpin:([cuV zD x'].all fun u=>u.toks.all Tok.pinned)=true:=by
  simp only [List.all_cons,List.all_nil,W0]
  decide
 rw [hpin]
 simp only [ww,if_true,put]
 simp only [yM]
 refine H _ ?_ ?_
 · intro t ht;rw [ht];simp [upG,cuV]
 · intro t v u hv hd hm
   rw [hv,zez (by simp [hd]),hm]
theorem zfU {x q:Nat} {p:List Nat} {es:List E} {v:V} (hx:s x=v) (hk:v.ok=true) (H:∀ s1,(∀ t u u',s t=u→V.map (LQ x [([],.at q p)]) u=u'→s1 t=u')→epK es s1 K) (hp:Nat.ble zD x=false:=by rfl):epK (.ren x q p :: es) s K:=by
 have:Kw s (.ren x q p)=some (WU (LQ x [([],.at q p)]) s):=by
  simp only [Kw,hx,hp]
  cases v <;> first | (simp [V.ok] at hk;done) | rfl
 simp only [epK,this]
 exact H _ fun t u u' h1 h2=>by simp only [WU,h1,h2]
theorem LT:∀ {L:List (Nat×V)},zr L s→∀ p∈L,s p.1=p.2
 | [],_,p,hp=>by cases hp
 | [(t,v)],h,p,hp=>by
   rw [wC] at hp;subst hp;exact h
 | (t,v) :: q :: L,h,p,hp=>by
   rcases z2.1 hp with rfl | hp
   · exact h.1
   · exact LT (L:=q :: L) h.2 p hp
theorem zdV {ks:List Tok} {r:Nat} (h:∀ k∈ks,k≠.bx r):(ks.all fun k=>!([Tok.bx r].contains k))=true:=by
 rw [yB]
 intro k hk
 have:=h k hk
 simp [this]
theorem N9 {α:Type} [Enc α] (h:∀ x:α,(Enc.enc x:V).live=true):∀ xs:List α,V.lives (xs.map Enc.enc)=true
 | []=>rfl
 | x :: xs=>by simp only [List.map_cons,V.lives,h x,N9 h xs,ww]
theorem xH {α:Type} [Enc α] {xs:List α}:(Enc.enc xs:V).live=true:=rfl
theorem Zz {α:Type} [Enc α] (h:∀ x:α,(Enc.enc x:V).live=true) {r:Nat} {p:List Nat} {o:NL α}:(zu (.at r p) o).live=true:=by
 cases o with
 | nil=>simp [zu,V.live,V.lives]
 | of xs=>simp [zu,V.live,N9 h]
theorem Ys {α:Type} [Enc α] {r q:Nat} {p:List Nat} {o:NL α}:(∀ k∈(zu (.at r p) o).toks,k≠.bx q)=True:=by
 cases o with
 | nil=>simp [zu,V.toks,V.tokss]
 | of xs=>
   have:(zu (.at r p) (.of xs)).toks=[.at r p]:=by simp [zu,V.toks,vR]
   simp [this]
theorem U4 {α:Type} [Enc α] {d b r:Nat} {l:Bool} {a:A} {x:α} (v:V) (hb:s b=cuV r x) (h:yf s a=some v) (L:List (Nat×V)) (hL:zr L s) (hr:(a.rds.all fun k=>L.any fun x=>x.1 == k)=true)
    (ht:∀ p∈L,p.2.live=true∧∀ k∈p.2.toks,k≠.bx r) (hv:∀ k∈v.toks,k≠.bx r∧∃ p∈L,k∈p.2.toks) (H:goK D σ is (upd s d v) K) (hq:(L.all fun x=>a.rds.contains x.1)=true:=by rfl):goK D σ (⟨some d,none,l,.vN a [b]⟩ :: is) s K:=by
 have hks:yy s [b]=[.bx r]:=by
  simp only [yy,Wt,List.flatMap_nil,hb,W0,yG]
 have h1:(a.rds.all fun t=>(s t).live && (s t).toks.all fun k=>!([Tok.bx r].contains k))=true:=by
  rw [yB] at hr ⊢
  intro t htr
  have h2:=hr t htr
  rw [YR] at h2
  obtain ⟨p,hp,e⟩:=h2
  have e:p.1=t:=by simpa using e
  rw [← e,LT hL p hp,(ht p hp).1]
  exact zdV (ht p hp).2
 have h2:(v.toks.all fun k=>!([Tok.bx r].contains k) && a.rds.any fun t=>(s t).toks.contains k)=true:=by
  rw [yB]
  intro k hk
  obtain ⟨h3,p,hp,h4⟩:=hv k hk
  rw [zk,YR]
  refine ⟨yB.1 (zdV fun k hk=>(hv k hk).1) k hk,p.1,?_,?_⟩
  · exact wv.1 (yB.1 hq p hp)
  · rw [LT hL p hp];exact wv.2 h4
 simp only [goK,xK,yD,h,hks,h1,h2,ww,if_true,put]
 exact H
theorem uB {a:A} {v:V} (L:List (Nat×V)) (hs:zr L s) (hr:(a.rds.all fun k=>L.any fun x=>x.1 == k)=true) (he:yf (LX L) a=some v):yf s a=some v:=by
 rw [uW (s2:=LX L) fun k hk=>K2 L s hs k (yB.1 hr k hk)];exact he
theorem zcP {α:Type} [Enc α] {v:V} {n:Int} {k:Tok} {o:NL α} {xs:List α} (h:znE o=some xs) (hs:v = .agg [.int .i64 n,zu k o]):v = .agg [.int .i64 n,zu k (.of xs)]:=by rw [hs,zlS h]
theorem NJ {α:Type} [Enc α] {d:Nat} {z:V} {len:Nat} {ps:List (Nat×Nat×O)} (L:List (Nat×V)) (xs:List α) (hs:zr L s) (h:xx (LX L) ps (List.replicate len z)=some (xs.map Enc.enc)) (hz:z.shape=Enc.shp α)
    (hr:((ps.flatMap fun p=>p.2.2.rds).all fun k=>L.any fun x=>x.1 == k)=true) (hg:s d = .gone)
    (H:∀ s1,s1 d=Enc.enc xs→(∀ t,t≠d→s1 t=s t)→goK D σ is s1 K):goK D σ (⟨some d,none,false,.litS z len ps⟩ :: is) s K:=by
 have h1:xx s ps (List.replicate len z)=some (xs.map Enc.enc):=by
  rw [wW (s2:=LX L) fun k hk=>K2 L s hs k (yB.1 hr k hk)];exact h
 simp only [goK,xK,yD,h1,hg]
 refine H _ ?_ ?_
 · rw [upd_same,hz]
   exact XO (p:=[]) (xs:=xs)
 · intro t ht
   exact zP _ _ ht
theorem rt0 {P:Program} {c:V} {t:Nat} (h0:s t=c):RT P [] (.tup []) [c] s:=⟨rfl,fun u hu=>by
 simp only [z2,List.not_mem_nil,or_false] at hu
 subst hu;exact ⟨t,h0⟩⟩
theorem rt1 {P:Program} {x:ResultVar} {r c:V} {t:Nat} (h:JC P s x=some r) (h0:s t=c):RT P [x] r [c] s:=⟨by simp only [QK,h],(rt0 (P:=P) h0).2⟩
end
abbrev LI:=List Int
abbrev TP:=List (Int×Int)
abbrev GR:=Int×List (Int×Int)
abbrev LB:=List (Kd .u8)
abbrev CU:=S3 (List (Kd .u8)) Int (Kd .u64)
abbrev CC:=Cu CU
abbrev cu (a:LB) (b c:Int):CC:=Cu.mk (S3.mk a b (Kd.mk c))
abbrev eP (x:TP):V:=Enc.enc x
abbrev eB (x:LB):V:=Enc.enc x
abbrev nI:V:=.sl .nl (Enc.shp Int) 0 []
abbrev nP:V:=.sl .nl (Enc.shp (Int×Int)) 0 []
abbrev gV (g:GR):V:=.agg [ji g.1,eP g.2]
abbrev bG (b:Nat) (g:GR):V:=.ref (.bx b) 0 [] (gV g)
abbrev g0V:V:=.agg [ji 0,nP]
abbrev bZ (b:Nat):V:=.ref (.bx b) 0 [] g0V
abbrev cV (c:CU):V:=.agg [eB c.a,ji c.b,.int .u64 c.c.v]
abbrev bC (c:CU):V:=.ref (.bx zD) 0 [] (cV c)
abbrev i0:V:=.int .i64 (.ofNat 0)
abbrev kf:O:=.k (.bool false)
abbrev kt:O:=.k (.bool true)
abbrev jf (g:Nat):O:=.k (.fn g [] [])
abbrev jx (d:Nat) (x:X):I:=⟨some d,none,false,x⟩
abbrev jy (d:Nat) (x:X):I:=⟨some d,none,true,x⟩
abbrev cq (P:Program) (f:Func) (an:List An):Option AC:=cC P f.ntmps an (f.body.getD .skip)
abbrev rr (is:List I):AC:=.reg [] is []
abbrev jl (d t:Nat):I:=jv d (.load .s (.t t))
abbrev jk (d t:Nat):I:=jv d (.len (.t t))
abbrev jz (x:X):I:=⟨none,none,false,x⟩
theorem ct {v:V} {a b:Bool} (h:v = .bool a) (hg:a=b):v = .bool b:=h.trans (congrArg V.bool hg)
theorem oi {α:Type} {a b:α} (h:some a=some b):a=b:=Option.some.inj h
theorem rf (x:V):x=x:=rfl
theorem nm {α:Type} {P:Prop} {r:α} (h:(none:Option α)=some r):P:=nomatch h
section
variable {f:Tok→Option Tok} {α:Type} [Enc α] {x:α} {n m:Int} {k l:IntKind}
theorem mIE:V.map f (.agg [.int k n,Enc.enc x]) = .agg [.int k n,Enc.enc x]:=zW (zh mi (zh me zB))
theorem mII:V.map f (.agg [.int k n,.int l m]) = .agg [.int k n,.int l m]:=zW (zh mi (zh mi zB))
theorem Zh:V.map f (.agg [Enc.enc x,.int k n,.int l m]) = .agg [Enc.enc x,.int k n,.int l m]:=zW (zh me (zh mi (zh mi zB)))
theorem te:(Enc.enc x:V).toks=[]:=Enc.toks_enc x
theorem fm1 (f:Tok→Option Tok):V.maps f [Enc.enc x]=[Enc.enc x]:=zh (Enc.map_enc f _) zB
theorem uE {tk:Tok} {i:Nat} {q:List Nat} {u:V}:V.mut tk i q u (Enc.enc x)=Enc.enc x:=Enc.mut_enc _ _ _ _ x
theorem zE {K:List Tok}:V.frz K (Enc.enc x)=Enc.enc x:=Enc.frz_enc _ x
theorem uIE {tk:Tok} {i:Nat} {q:List Nat} {u:V}:V.mut tk i q u (.agg [.int k n,Enc.enc x]) = .agg [.int k n,Enc.enc x]:=yL (zy rfl (zy uE rfl))
theorem zIE {K:List Tok}:V.frz K (.agg [.int k n,Enc.enc x]) = .agg [.int k n,Enc.enc x]:=Jd (wD rfl (wD zE rfl))
theorem Jg {tk:Tok} {i:Nat} {q:List Nat} {u:V}:V.mut tk i q u (.agg [Enc.enc x,.int k n,.int l m]) = .agg [Enc.enc x,.int k n,.int l m]:=yL (zy uE (zy rfl (zy rfl rfl)))
theorem ze0 {K:List Tok}:V.frz K (.agg [Enc.enc x,.int k n,.int l m]) = .agg [Enc.enc x,.int k n,.int l m]:=Jd (wD zE (wD rfl (wD rfl rfl)))
theorem xN {v c:V} {t:Tok} {g:Sh} (h6:v.toks.contains t=false) (h1:t≠.sh:=by decide) (h2:t≠.nl:=by decide) (h3:v.mem=true:=by rfl) (h4:v.shape.beq g=true:=by rfl) (h5:c.shape.beq g=true:=by rfl) :
    t≠.sh∧t≠.nl∧v.mem=true∧v.shape.beq g=true∧c.shape.beq g=true∧v.toks.contains t=false:=⟨h1,h2,h3,h4,h5,h6⟩
theorem mIx {v w:V} (h:V.map f v=w):V.map f (.agg [.int k n,v]) = .agg [.int k n,w]:=zW (zh mi (zh h zB))
end
theorem okZ {P:Program} {f:Nat} {α γ:Type} [Xk α] {g m:Nat} {al:Bool} {sel:List (Nat×Nat)} {F:α→Option γ} {t:γ→V} {fn:Func} (hf:P.funcs[f]?=some fn) (con:∀ (x:α) (y:γ),F x=some y→w9 P f m al (Xk.args x) (t y))
    (h1 : unk g = f := by rfl) (h2 : fn.body.isNone = false := by rfl) (h3 : (fn.name == "runtime.NumGoroutine") = false := by rfl) : (ent g F t m al sel).Ok P := by
 refine Jt (f:=f) h1 (fun args r h=>?_) ⟨fn,hf,h2,h3⟩
 obtain ⟨x,y,rfl,hy,rfl⟩:=Xq h
 exact con x y hy
section
variable {D:Den} {σ:Sig} {P:Program}
theorem cR (hF:zG P D σ) {f:Nat} {fn:Func} {c:Code} (hf:P.funcs[f]?=some fn) {an:List An} {A:AC} (hc:cC P fn.ntmps an c=some A) {m:Nat} {al:Bool} {args:List V} {r:V}
    (h:Run D σ (fun s=>(QK P s fn.results.toList).bind (fin m al)=some r) (.run A []) (init args)) (hm:P.follows .mixedOrders=true:=by kernel_rfl) (hb:fn.body=some c:=by rfl) (hn:Nat.ble args.length fn.ntmps=true:=by rfl)
    (hnt:Nat.ble fn.ntmps zD=true:=by decide) (hmp:Nat.ble zD m=false:=by rfl):w9 P f m al args r:=Yi hF hm hf hb hc (Nat.le_of_ble_eq_true hn) h hnt hmp
theorem cT (hF:zG P D σ) {f:Nat} {fn:Func} {c:Code} (hf:P.funcs[f]?=some fn) {an:List An} {A:AC} (hc:cC P fn.ntmps an c=some A) {al:Bool} {args:List V} {r:V} {us:List V}
    (h:Run D σ (RT P fn.results.toList r us) (.run A []) (init args)) (hm:P.follows .mixedOrders=true:=by kernel_rfl) (hb:fn.body=some c:=by rfl) (hok:args.all V.ok=true:=by rfl) (hn:Nat.ble args.length fn.ntmps=true:=by rfl)
    (hnt:Nat.ble fn.ntmps zD=true:=by decide):w9 P f uA al args (.tup [r,.tup us]):=KG hF hm hf hb hc hok (Nat.le_of_ble_eq_true hn) hnt h
end
section
variable {D:Den} {σ:Sig} {R:(Nat→V)→Prop} {s:Nat→V} {K:(Nat→V)→Prop} {is:List I}
theorem gl {α:Type} [Enc α] {d:Nat} {l:Bool} {x:O} {t:Tok} {h:Sh} {lo:Nat} (xs:List α) (hx:x.ev s = .sl t h lo (xs.map Enc.enc)) (H:cst (ji (xs.length:Int)) d=ji (xs.length:Int)→goK D σ is (upd s d (ji (xs.length:Int))) K):goK D σ (⟨some d,none,l,.v (.len x)⟩ :: is) s K:=
 gv (ji (xs.length:Int)) (ziX (xs:=xs) hx) H
end
theorem zkL {P:Program} {t:TypeId} {k:IntKind} (ht:P.underlying t=some (.int k)) (hc:P.cellsOf t=1):zd2 P t (Kd k) (fun x=>(Lit.int k x.v).wf=true):=by
 refine ⟨hc,?_⟩
 intro H en W fuel cs x h
 cases fuel with
 | zero=>simp [DataW.trod] at h
 | succ m=>
   unfold DataW.trod at h
   rw [ht] at h
   split at h <;> first | (exfalso;simp_all;done) | skip
   rename_i k1 k' n e
   simp only [zg,TypeDesc.int.injEq] at e
   subst e
   split at h
   · rename_i hh
     obtain ⟨rfl,hw⟩:=hh
     exact ⟨⟨n⟩,hw,fun S τ _=>by simp [Enc.enc,zI]⟩
   · cases h
theorem zpJ {n:Int} (h:(Lit.int .u8 n).wf=true):0≤n∧n≤255:=by
 have e1:IntKind.min .u8=0:=by decide
 have e2:IntKind.max .u8=255:=by decide
 simp [Lit.wf,e1,e2] at h;omega
theorem gcF {D:Den} {σ:Sig} {is:List I} {s:Nat→V} {K:(Nat→V)→Prop} {d g:Nat} {as:List O} {r:V} (vs:List V) (hv:xe as s=some (vs,s)) (hD:D g vs=some r) (hσ:σ g=some (0,false)) (H:goK D σ is (upd s d (V.tag d [] 0 r)) K)
    (hr:r.toks=[]:=by rfl) (ht:(V.tag d [] 0 r).toks=[]:=by rfl) (hok:(V.tag d [] 0 r).ok=true:=by rfl) (hgm:Nat.ble YV g=false:=by rfl):goK D σ (⟨some d,none,false,.call (.k (.fn g [] [])) as⟩ :: is) s K:=
 ZI (m:=0) (al:=false) vs hv hD hσ rfl hr ht hok H rfl hgm
end Go.Zq
