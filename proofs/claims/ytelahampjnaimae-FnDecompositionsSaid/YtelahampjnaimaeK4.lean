/- The pure machine (part 4). No further condition. -/
import Derived.Test.YtelahampjnaimaeK3
import Derived.KernelRfl
set_option linter.unusedVariables false
set_option linter.unusedSimpArgs false
namespace Go.Zq
section
variable {P:Program} {w:World} {S:Nat→Prop} {τ:Tok→Blk}
theorem NM {f m:Nat} {al:Bool} {args:List V} {r:V} (h:vd P (unk f) m al args r) (hm:Nat.ble zP m=false) (hg:Nat.ble Xv f=false):Xz P f m al args r:=by
 unfold vd at h
 rw [zy (by rintro rfl;exact absurd hm (by decide)),zy (by rintro rfl;exact absurd hm (by decide)),zy (by rintro rfl;exact absurd hm (by decide))] at h
 simpa [unk,hg] using h
theorem zes {e : Ent} {f : Nat} (hu : unk e.g = f) (con : ∀ args r, e.den args = some r → vd P f e.m e.al args r) (fn : ∃ fn, P.funcs[f]? = some fn ∧ fn.body.isNone = false ∧ (fn.name == "runtime.NumGoroutine") = false) : e.Ok P := by
 subst hu
 exact ⟨con,fn⟩
def zvT (w:World) (τ:Tok→Blk) (ks:List Tok):Ori:=⟨w,fun b=>w.heap.size≤b∨∃ k∈ks,(τ k).b=b,τ,fun _ h=>.inl h⟩
theorem Kw:∀ (us:List V) (t:Nat) (k:Tok),k∈(us.getD t .dead).toks→k∈V.tokss us
 | [],t,k,h=>by simp [V.toks] at h
 | u :: us,t,k,h=>by
   simp only [V.tokss,zO]
   cases t with
   | zero=>exact .inl (by simpa using h)
   | succ t=>exact .inr (Kw us t k (by simpa using h))
theorem zbr:∀ (us:List V) (t:Nat),us.all V.ok=true→(us.getD t .dead).ok=true
 | [],t,h=>rfl
 | u :: us,t,h=>by
   simp only [List.all_cons,zp] at h
   cases t with
   | zero=>simpa using h.1
   | succ t=>simpa using zbr us t h.2
theorem zgA {args:List V} {vals:Array Value} {nt:Nat} (hS:∀ b,S b→b < w.heap.size) (hr:yB w S τ args vals.toList) (hk:∀ k∈V.tokss args,k.pinned=true∧(τ k).b < w.heap.size∧¬ S (τ k).b)
    (hinj:∀ k∈V.tokss args,∀ k'∈V.tokss args,(τ k).b=(τ k').b→k=k') (hok:args.all V.ok=true) (hn:args.length≤nt) (hnt:nt≤zP) :
    Inv (zvT w τ (V.tokss args)) S nt (init args) { tmps:=vals++Array.replicate (nt - vals.size) undef,defers:=[] } w S τ where
 told t:=by
  have hl:=UK _ _ hr
  simp only [Array.length_toList] at hl
  have:=KZ args vals.toList t hr
  by_cases ht:t < vals.size
  · simp only [init,Act.eval,Yy,Array.getElem?_append_left ht]
    simpa [zU] using this
  · have:init args t = .dead:=by
     simp only [init]
     rw [zU,Z3 (by omega)];rfl
    rw [this];simp [zR]
 size:=by
  have hl:=UK _ _ hr
  simp at hl ⊢;omega
 defers:=rfl
 own t k h:=by
  have h1:=Kw args t k h
  have h2:=hk k h1
  exact ⟨.inr ⟨k,h1,rfl⟩,h2.2.1,h2.2.2⟩
 inj t t' k k' h h' e:=hinj k (Kw args t k h) k' (Kw args t' k' h') e
 sbd:=hS
 sfr b hb:=.inl hb
 s0 b hb:=hb
 below:=Bel.refl _ _
 lin r v t k hl _ _:=by
  have:=zbr args r hok
  simp only [init] at hl
  rw [hl] at this;simp [V.ok] at this
 gone r t k hg _:=by
  have:=zbr args r hok
  simp only [init] at hg
  rw [hg] at this;simp [V.ok] at this
 small:=hnt
 pin t k h _:=rfl
end
structure On (α:Type) where
 v:NL α
def MA {α:Type} [Enc α] (t:Tok):V→Option (NL α)
 | .sl .nl h 0 []=>if h.beq (Enc.shp α) then some .nil else none
 | .sl t' h 0 xs=>if t'=t∧h.beq (Enc.shp α)=true then (zcX xs).map .of else none
 | _=>none
theorem UI {α:Type} [Enc α] {r:Nat} {p:List Nat} (o:NL α):MA (.at r p) (zh (.at r p) o)=some o:=by
 cases o with
 | nil=>simp [zh,MA,Sh.beq_refl]
 | of xs=>simp [zh,MA,Sh.beq_refl,LM]
theorem UO {α:Type} [Enc α] {t:Tok} (v:V) (o:NL α) (h:MA t v=some o):zh t o=v:=by
 unfold MA at h
 split at h
 · split at h
   · rename_i hb
     simp only [zn] at h;subst h
     simp [zh,Sh.beq_eq _ _ hb]
   · cases h
 · split at h
   · rename_i hb
     simp only [ye] at h
     obtain ⟨ys,h1,rfl⟩:=h
     simp [zh,Sh.beq_eq _ _ hb.2,hb.1,L4 _ _ h1]
   · cases h
 · cases h
instance {α:Type} [Enc α]:Arg (On α) where
 arg x:=zh (.at zP []) x.v
 un v:=(MA (.at zP []) v).map On.mk
 un_arg x:=by simp [UI]
 arg_un v x h:=by
  simp only [ye] at h
  obtain ⟨o,h1,rfl⟩:=h
  exact UO v o h1
structure Og (α:Type) where
 a:Int
 v:NL α
instance {α:Type} [Enc α]:Arg (Og α) where
 arg x:=.agg [Enc.enc x.a,zh (.at zP [1]) x.v]
 un
  | .agg [u,v]=>(Enc.dec u).bind fun a=>(MA (.at zP [1]) v).map (Og.mk a)
  | _=>none
 un_arg x:=by simp [UI,Enc.dec_enc]
 arg_un v x h:=by
  split at h
  · simp only [Option.bind_eq_some_iff,ye] at h
    obtain ⟨a,h0,o,h1,rfl⟩:=h
    simp [UO _ _ h1,Enc.enc_dec _ _ h0]
  · cases h
theorem YP {α:Type} [Enc α] {t:Tok} {o:NL α}:(zh t o).ok=true:=by cases o <;> rfl
theorem K3 {α:Type} [Enc α] {t:Tok} {o:NL α}:(zh t o).mem=true:=by cases o <;> rfl
theorem UQ {α:Type} [Enc α] {t:Tok} {o:NL α}:(zh t o).shape.beq .p=true:=by cases o <;> rfl
theorem ui {α:Type} [Enc α] {r:Nat} {p:List Nat} {k:Tok} {o:NL α} (h:(k == .at r p)=false) (hn:(k == .nl)=false):(zh (.at r p) o).toks.contains k=false:=by
 cases o with
 | nil=>simp [zh,V.toks,V.tokss]
 | of xs=>
   have h1:((.of xs:NL α)) = .of xs:=rfl
   have:(zh (.at r p) (.of xs)).toks=[.at r p]:=by simp [zh,V.toks,yl]
   rw [this]
   simpa using h
theorem zG {α:Type} [Enc α] {t:Tok} {o:NL α}:(zh t o).shape = .p:=by cases o <;> rfl
theorem zN {α:Type} [Enc α] {r:Nat} {p:List Nat} {k:Tok} {o:NL α} (h:k≠.at r p):k∉(zh (.at r p) o).toks:=by
 cases o with
 | nil=>simp [zh,V.toks,V.tokss]
 | of xs=>
   have:(zh (.at r p) (.of xs)).toks=[.at r p]:=by simp [zh,V.toks,yl]
   rw [this]
   simpa using h
section
variable {D:Den} {σ:Sig} {R:(Nat→V)→Prop} {s:Nat→V} {K:(Nat→V)→Prop} {is:List I}
theorem zkR {x:O} {i:Nat} {vs:List V} {v:V} (h:x.ev s = .tup vs) (hi:vs[i]?=some v) (hk:v.ok=true):yy s (.ext x i)=some v:=by simp only [yy,zx h rfl,hi,hk,z5]
theorem zkW {α:Type} [Enc α] {x:O} {t:Tok} {o:NL α} {h:Sh} (hx:x.ev s=zh t o):yy s (.bld (.agg [.sl .nl h 0 []]) [(0,0,x)])=some (.agg [zh t o]):=by
 simp [yy,xX,zx hx YP,K3,zG,V.shape,Sh.beq,V.shapes,Sh.sizes]
theorem yQ:Z0 s []=some []:=rfl
theorem zL {x:O} {xs:List O} {v:V} {vs:List V} (h:x.ev s=v) (hk:v.ok=true) (hs:Z0 s xs=some vs):Z0 s (x :: xs)=some (v :: vs):=by
 simp only [Z0,zx h hk,hs]
theorem uK {α:Type} [Enc α] {d:Nat} {p:List Nat} {o:NL α}:V.tag d p 1 (zh .sh o)=zh (.at d p) o:=by
 cases o with
 | nil=>rfl
 | of xs=>
   simp only [zh,V.tag]
   split
   · rfl
   · congr 1
     have:∀ (xs:List α) k,V.tags d p 0 k (xs.map Enc.enc)=xs.map Enc.enc:=by
      intro xs
      induction xs with
      | nil=>intro k;rfl
      | cons x xs ih=>intro k;simp [V.tags,Enc.tag0,ih]
     exact this xs 0
theorem vH {α:Type} [Enc α] {o:NL α}:(zh .sh o).toks=[]:=by
 cases o with
 | nil=>simp [zh,V.toks,V.tokss]
 | of xs=>rfl
theorem zkz {d:Nat} {p:List Nat} {m:Nat} {vs us:List V} (h:V.tags d p m 0 vs=us):V.tag d p m (.tup vs) = .tup us:=by simp only [V.tag,h]
theorem Jr {d:Nat} {p:List Nat} {m:Nat} {vs us:List V} (h:V.tags d p m 0 vs=us):V.tag d p m (.agg vs) = .agg us:=by simp only [V.tag,h]
theorem We {d:Nat} {p:List Nat} {m k:Nat}:V.tags d p m k []=[]:=rfl
theorem vm {d:Nat} {p:List Nat} {m k:Nat} {v u:V} {vs us:List V} (h:V.tag d (p++[k]) m v=u) (hs:V.tags d p m (k + 1) vs=us):V.tags d p m k (v :: vs)=u :: us:=by simp only [V.tags,h,hs]
theorem zi8 {vs:List V} (h:V.tokss vs=[]):(V.tup vs).toks=[]:=by simp only [V.toks,h]
theorem WR {vs:List V} (h:V.tokss vs=[]):(V.agg vs).toks=[]:=by simp only [V.toks,h]
theorem yz:V.tokss []=[]:=rfl
theorem yh {v:V} {vs:List V} (h:v.toks=[]) (hs:V.tokss vs=[]):V.tokss (v :: vs)=[]:=by simp only [V.tokss,h,hs,xy]
theorem YO {d g m:Nat} {al:Bool} {as:List O} {r v:V} {kk:Nat} (vs:List V) (hv:xO as s=some (vs,s)) (hD:D kk vs=some r) (hσ:σ kk=some (m,al)) (hal:(al && !(xQ s as).isEmpty)=false)
    (hr:r.toks=[]) (ht:V.tag d [] m r=v) (hok:v.ok=true) (hg:s d = .gone) (H:goK D σ is (upd s d v) K) (hmp:Nat.ble zP m=false:=by rfl) (hgm:Nat.ble Xv g=false:=by rfl) (hkk:g + Xv=kk:=by rfl) :
    goK D σ (⟨some d,none,false,.callO (.k (.fn g [] [])) as⟩ :: is) s K:=by
 subst ht
 subst hkk
 have h0:(V.fn g [] []).toks=[]:=by simp [V.toks,V.tokss]
 have h1:O.rd s (.k (.fn g [] []))=some (.fn g [] []):=rfl
 have hal':¬ ((al && !((xQ s as).isEmpty && (V.fn g [] []).toks.isEmpty))=true):=by simp [h0];simpa using hal
 simp only [goK,xK,yY,KF,h1,hv,V.erases,List.nil_append,xy,key,zq,hD,hσ,hgm,yD,yb]
 rw [zy hal']
 simp only [hr,hmp,Ym,List.isEmpty_nil,List.all_nil,wT,z5,y3,place,hok,hg,put]
 split
 · rename_i h
   split at h
   · simp only [zn] at h;subst h;exact H
   · simp at h;subst h;exact H
 · rename_i h
   split at h <;> cases h
def kdO {α:Type} [Enc α]:NL α→V
 | .nil=>.sl .nl (Enc.shp α) 0 []
 | .of _=>.dead
theorem wX {α:Type} [Enc α] {r:Nat} {p:List Nat} {o:NL α}:V.map (Ul (.at r p)) (zh (.at r p) o)=kdO o:=by
 cases o with
 | nil=>simp [zh,V.map,Ul,kdO,V.maps]
 | of xs=>simp [zh,V.map,Ul,kdO]
theorem YS {α:Type} [Enc α] {t:Tok} {i:Nat} {q:List Nat} {u:V} {o:NL α}:V.mut t i q u (kdO o)=kdO o:=by
 cases o with
 | nil=>cases t <;> simp [V.mut,kdO,V.muts,V.setPs]
 | of xs=>rfl
theorem YQ {α:Type} [Enc α] {o:NL α}:(kdO o).shape.beq .p=true:=by cases o <;> rfl
theorem uq {x:Nat} {es:List E} (H:∀ s1,s1 x = .dead→(∀ t,t≠x→s1 t=s t)→epK es s1 K):epK (.drp x :: es) s K:=by
 simp only [epK,KD]
 exact H _ (by simp) (fun t ht=>zX _ _ ht)
end
structure zcG (v r:V) (p:List Nat) (ts:List Tok):Prop where
 own:∃ l,V.own p 1 v=some l∧(l.map (·.2)).Sublist ts
 ret:V.ret 1 v=r
 low:V.low 1 v=[]
structure zc8 (vs rs:List V) (p:List Nat) (i:Nat) (ts:List Tok):Prop where
 own:∃ l,V.owns p 1 i vs=some l∧(l.map (·.2)).Sublist ts
 ret:V.rets 1 vs=rs
 low:V.lows 1 vs=[]
theorem YH {α:Type} [Enc α] {r:Nat} {p q:List Nat} {o:NL α}:zcG (zh (.at r q) o) (zh .sh o) p [.at r q]:=by
 cases o with
 | nil=>exact ⟨⟨[],rfl,by simp⟩,rfl,rfl⟩
 | of xs=>
   have h0:∀ (xs:List α) k,V.owns p 0 k (xs.map Enc.enc)=some []:=by
    intro xs
    induction xs with
    | nil=>intro k;rfl
    | cons x xs ih=>intro k;simp [V.owns,Enc.own0,ih]
   have h1:∀ (xs:List α),V.lows 0 (xs.map Enc.enc)=[]:=by
    intro xs
    induction xs with
    | nil=>rfl
    | cons x xs ih=>simp [V.lows,Enc.low0,ih]
   have h2:∀ (xs:List α),V.rets 0 (xs.map Enc.enc)=xs.map Enc.enc:=by
    intro xs
    induction xs with
    | nil=>rfl
    | cons x xs ih=>simp [V.rets,Enc.ret0,ih]
   refine ⟨⟨[(p,.at r q)],?_,by simp⟩,?_,?_⟩
   · simp only [zh,V.own]
     split
     · split
       · rfl
       · rw [h0];rfl
     · rename_i h;exact absurd trivial h
   · simp only [zh,V.ret]
     split
     · rfl
     · rw [h2]
   · simp only [zh,V.low]
     split
     · rfl
     · exact h1 xs
theorem zct {α:Type} [Enc α] {p:List Nat}:zcG (.sl .nl (Enc.shp α) 0 []) (zh .sh (.nil:NL α)) p []:=⟨⟨[],rfl,by simp⟩,rfl,rfl⟩
theorem NR {k:IntKind} {n:Int} {p:List Nat}:zcG (.int k n) (.int k n) p []:=⟨⟨[],rfl,by simp⟩,rfl,rfl⟩
theorem Qp {b:Bool} {p:List Nat}:zcG (.bool b) (.bool b) p []:=⟨⟨[],rfl,by simp⟩,rfl,rfl⟩
theorem Yk {p:List Nat} {i:Nat}:zc8 [] [] p i []:=⟨⟨[],rfl,by simp⟩,rfl,rfl⟩
theorem wn {v r:V} {vs rs:List V} {p:List Nat} {i:Nat} {ts us:List Tok} (h:zcG v r (p++[i]) ts) (hs:zc8 vs rs p (i + 1) us):zc8 (v :: vs) (r :: rs) p i (ts++us):=by
 obtain ⟨l,h1,h2⟩:=h.own
 obtain ⟨l',h3,h4⟩:=hs.own
 exact ⟨⟨l++l',by simp [V.owns,h1,h3],by rw [List.map_append];exact h2.append h4⟩,by simp [V.rets,h.ret,hs.ret],by simp [V.lows,h.low,hs.low]⟩
theorem WY {vs rs:List V} {p:List Nat} {ts:List Tok} (h:zc8 vs rs p 0 ts):zcG (.agg vs) (.agg rs) p ts:=by
 obtain ⟨l,h1,h2⟩:=h.own
 exact ⟨⟨l,by simpa [V.own] using h1,h2⟩,by simp [V.ret,h.ret],by simp [V.low,h.low]⟩
theorem zcg {vs rs:List V} {p:List Nat} {ts:List Tok} (h:zc8 vs rs p 0 ts):zcG (.tup vs) (.tup rs) p ts:=by
 obtain ⟨l,h1,h2⟩:=h.own
 exact ⟨⟨l,by simpa [V.own] using h1,h2⟩,by simp [V.ret,h.ret],by simp [V.low,h.low]⟩
theorem Xy {v r:V} {ts:List Tok} {al:Bool} (h:zcG v r [] ts) (hn:decide ts.Nodup=true) (hm:(al || v.mine)=true):fin 1 al v=some r:=by
 obtain ⟨l,h1,h2⟩:=h.own
 have hnd:(l.map (·.2)).Nodup:=h2.nodup (of_decide_eq_true hn)
 simp only [fin,h1,hnd,decide_true,h.low,hm,h.ret]
 simp
def NL.set {α:Type} (o:NL α) (i:Nat) (b:α):NL α:=match o with
 | .nil=>.nil
 | .of xs=>.of (xs.set i b)
theorem Lv {α:Type} [Enc α] {r:Nat} {p:List Nat} {i:Nat} {u:α} {o:NL α}:V.mut (.at r p) i [] (Enc.enc u) (zh (.at r p) o)=zh (.at r p) (o.set i u):=by
 cases o with
 | nil=>simp [zh,V.mut,NL.set,V.muts]
 | of xs=>exact Kl
section
variable {P:Program}
end
section
variable {D:Den} {σ:Sig} {s s0 s1:Nat→V} {K:(Nat→V)→Prop} {is:List I}
theorem zgq {k:Tok}:ZW [k]=Ul k:=by
 funext k'
 unfold ZW Ul
 by_cases e:k'=k
 · subst e;simp
 · have h1:[k].contains k'=false:=by simpa using e
   have h2:(k' == k)=false:=by simpa using e
   rw [h1,h2]
end
def zdX {α:Type}:NL α→Option (List α)
 | .nil=>none
 | .of xs=>some xs
theorem MX {α:Type} {o:NL α} {xs:List α} (h:zdX o=some xs):o = .of xs:=by
 cases o with
 | nil=>cases h
 | of ys=>cases h;rfl
theorem Q2 {α:Type} [Enc α] {v:V} {k:Tok} {o:NL α} {xs:List α} (h:zdX o=some xs) (hs:v=zh k o):v=zh k (.of xs):=by rw [hs,MX h]
theorem Mg {α:Type} [Enc α] {s:Nat→V} {x:O} {lo hi:Option O} {e r:Nat} {p:List Nat} {xs ys:List α} {a b:Int} (hx:x.ev s=zh (.at r p) (.of xs)) (hl:zcn s 0 lo a) (hh:zcn s xs.length hi b) (h:sub xs a b=some ys)
    (he:(Enc.shp α).size=e):yy s (.slice x lo hi e)=some (.sl (.at r p) (Enc.shp α) a.toNat (ys.map Enc.enc)):=by
 unfold sub at h
 split at h
 · rename_i hb
   simp only [zn] at h;subst h
   have hx':x.ev s = .sl (.at r p) (Enc.shp α) 0 (xs.map Enc.enc):=hx
   simp only [yy,zx hx' rfl,Lh hl hb.1,uz]
   rw [Lh hh (by omega)]
   simp only [he]
   rw [if_pos (by simp [Tok.isBx];omega)]
   simp [List.map_take,List.map_drop]
 · cases h
theorem zlD {α:Type} [Enc α] {f:Tok→Option Tok} {r lo:Nat} {p:List Nat} {xs:List α} (hf:f (.at r p)=some (.at r p)):V.map f (.sl (.at r p) (Enc.shp α) lo (xs.map Enc.enc)) = .sl (.at r p) (Enc.shp α) lo (xs.map Enc.enc):=by
 simp [V.map,hf,LN]
abbrev TF:=Nat→Nat×List Nat
def tk (x:Nat×List Nat):Tok:=.at x.1 x.2
section
variable {α:Type} [Enc α]
def zgh (T:TF):Nat→List (NL α)→List V
 | _,[]=>[]
 | k,o :: os=>zh (tk (T k)) o :: zgh T (k + 1) os
def zju (r:Nat) (p:List Nat):TF:=fun k=>(r,p++[k])
def Nv (r:Nat) (p:List Nat):NL (NL α)→V
 | .nil=>.sl .nl .p 0 []
 | .of os=>.sl (.at r p) .p 0 (zgh (zju r p) 0 os)
theorem zo3 {r:Nat} {p:List Nat} {o:NL (NL α)}:(Nv r p o).shape = .p:=by cases o <;> rfl
end
section
variable {α:Type}
end
section
variable {α:Type} [Enc α]
end
section
variable {D:Den} {σ:Sig} {R:(Nat→V)→Prop} {s:Nat→V} {K:(Nat→V)→Prop} {is:List I}
variable {α:Type} [Enc α]
end
/-! ## results two lists deep -/
section
variable {α:Type} [Enc α]
end
structure zxW (v r:V) (p:List Nat) (ts:List Nat):Prop where
 own:∃ l,V.own p 2 v=some l∧(l.map (·.2)).Nodup∧∀ y∈l,∃ r∈ts,y.2.root?=some r
 ret:V.ret 2 v=r
 low:V.low 2 v=[]
structure zxU (vs rs:List V) (p:List Nat) (i:Nat) (ts:List Nat):Prop where
 own:∃ l,V.owns p 2 i vs=some l∧(l.map (·.2)).Nodup∧∀ y∈l,∃ r∈ts,y.2.root?=some r
 ret:V.rets 2 vs=rs
 low:V.lows 2 vs=[]
section
variable {α:Type}
end
section
variable {α:Type} [Enc α]
end
/-! ## marks -/
structure On2 (α:Type) where
 v:NL (NL α)
section
variable {α:Type} [Enc α]
def zd2 (T:TF):Nat→List V→Option (List (NL α))
 | _,[]=>some []
 | k,v :: vs=>match MA (tk (T k)) v,zd2 T (k + 1) vs with
   | some o,some os=>some (o :: os)
   | _,_=>none
def N5 (r:Nat) (p:List Nat):V→Option (NL (NL α))
 | .sl t h lo vs=>if t = .nl then (if h.beq .p=true∧lo=0∧vs.isEmpty=true then some .nil else none)
   else if t = .at r p∧h.beq .p=true∧lo=0 then (zd2 (zju r p) 0 vs).map .of else none
 | _=>none
theorem Nm {T:TF}:∀ (os:List (NL α)) (k:Nat),zd2 T k (zgh T k os)=some os
 | [],k=>rfl
 | o :: os,k=>by
   have h1:MA (tk (T k)) (zh (tk (T k)) o)=some o:=UI o
   simp only [zgh,zd2,h1,Nm os (k + 1)]
theorem Ny {T:TF}:∀ (vs:List V) (k:Nat) (os:List (NL α)),zd2 T k vs=some os→zgh T k os=vs
 | [],k,os,h=>by simp [zd2] at h;subst h;rfl
 | v :: vs,k,os,h=>by
   simp only [zd2] at h
   split at h
   · rename_i o os' h1 h2
     simp only [zn] at h;subst h
     simp only [zgh,UO _ _ h1,Ny vs (k + 1) os' h2]
   · cases h
instance:Arg (On2 α) where
 arg x:=Nv zP [] x.v
 un v:=(N5 zP [] v).map On2.mk
 un_arg x:=by
  obtain ⟨o⟩:=x
  cases o with
  | nil=>simp [Nv,N5,Sh.beq]
  | of os=>simp [Nv,N5,Sh.beq,Nm]
 arg_un v x h:=by
  simp only [ye] at h
  obtain ⟨o,h1,rfl⟩:=h
  unfold N5 at h1
  split at h1
  · rename_i t g lo vs
    split at h1
    · rename_i ht
      subst ht
      split at h1
      · rename_i hc
        simp only [zn] at h1;subst h1
        obtain ⟨hb,rfl,he⟩:=hc
        have hb:=Sh.beq_eq _ _ hb
        have he:vs=[]:=by simpa using he
        subst hb;subst he;rfl
      · cases h1
    · split at h1
      · rename_i hc
        simp only [ye] at h1
        obtain ⟨os,h2,rfl⟩:=h1
        obtain ⟨rfl,hb,rfl⟩:=hc
        have hb:=Sh.beq_eq _ _ hb
        subst hb
        simp only [Nv,Ny _ _ _ h2]
      · cases h1
  · cases h1
end
section
variable {α:Type}
end
section
variable {α:Type} [Enc α]
end
section
variable {α:Type} [Enc α]
end
section
variable {α:Type}
end
section
variable {α:Type} [Enc α]
end
theorem u6 {k j:Nat} {u:V} {vs us:List V} (h:V.muts (.bx k) 0 [j] u vs=vs) (hu:vs.set j u=us:=by rfl):V.mut (.bx k) 0 [j] u (.ref (.bx k) 0 [] (.agg vs)) = .ref (.bx k) 0 [] (.agg us):=by
 simp only [V.mut,h,V.seen,V.setP,LW,hu,and_self,z5,true_or]
/-! ## lists of lists in structs -/
structure Od (α β:Type) where
 a:NL (NL α)
 v:NL β
theorem ziq {α:Type} [Enc α] {r:Nat} {p:List Nat} (o:NL (NL α)):N5 r p (Nv r p o)=some o:=by
 cases o with
 | nil=>simp [Nv,N5,Sh.beq]
 | of os=>simp [Nv,N5,Sh.beq,Nm]
theorem zjp {α:Type} [Enc α] {r:Nat} {p:List Nat} (v:V) (o:NL (NL α)) (h:N5 r p v=some o):Nv r p o=v:=by
 unfold N5 at h
 split at h
 · split at h
   · rename_i e
     split at h
     · rename_i hb
       simp only [zn] at h;subst h
       have h1:=Sh.beq_eq _ _ hb.1
       have h2:∀ l:List V,l.isEmpty=true→l=[]:=by intro l hl;cases l <;> simp_all
       rw [e,h1,hb.2.1,h2 _ hb.2.2];rfl
     · cases h
   · split at h
     · rename_i hb
       simp only [ye] at h
       obtain ⟨os,h2,rfl⟩:=h
       have h1:=Sh.beq_eq _ _ hb.2.1
       rw [hb.1,h1,hb.2.2]
       simp only [Nv,Ny _ _ _ h2]
     · cases h
 · cases h
instance {α β:Type} [Enc α] [Enc β]:Arg (Od α β) where
 arg x:=.agg [Nv zP [0] x.a,zh (.at zP [1]) x.v]
 un
  | .agg [u,v]=>(N5 zP [0] u).bind fun a=>(MA (.at zP [1]) v).map (Od.mk a)
  | _=>none
 un_arg x:=by simp [UI,ziq]
 arg_un v x h:=by
  split at h
  · simp only [Option.bind_eq_some_iff,ye] at h
    obtain ⟨a,h0,o,h1,rfl⟩:=h
    simp [UO _ _ h1,zjp _ _ h0]
  · cases h
section
variable {α β:Type} [Enc α] [Enc β]
end
section
variable {α β:Type}
end
section
variable {α β:Type} [Enc α] [Enc β]
end
section
variable {α β:Type}
end
section
variable {α β:Type} [Enc α] [Enc β]
end
section
variable {α β:Type}
end
section
variable {α β:Type} [Enc α] [Enc β]
end
section
variable {α β:Type}
end
section
variable {α β:Type} [Enc α] [Enc β]
end
section
variable {α β:Type}
end
section
variable {α β:Type} [Enc α] [Enc β]
end
section
variable {α β:Type}
end
section
variable {α β:Type} [Enc α] [Enc β]
end
section
variable {α β:Type}
end
section
variable {α β:Type} [Enc α] [Enc β]
end
section
variable {α β:Type}
end
section
variable {α β:Type} [Enc α] [Enc β]
end
section
variable {α β:Type} [Enc β]
end
section
variable {α β:Type} [Enc α] [Enc β]
end
theorem Ku {s:Nat→V} {x:O} {f off i:Nat} {t:Tok} {q q':List Nat} {vs:List V} {v:V} (h:x.ev s = .ref t i q (.agg vs)) (hi:vs[f]?=some v) (hc:(Sh.sizes (V.shapes (vs.take f)) == off)=true) (hq:q++[f]=q':=by rfl):yy s (.fld x f off)=some (.ref t i q' v):=by
 simp only [yy,zx h rfl,hi,hc,z5,hq]
def cst (v:V) (_:Nat):V:=v
section
variable {D:Den} {σ:Sig} {R:(Nat→V)→Prop} {s:Nat→V} {K:(Nat→V)→Prop} {is:List I}
theorem gm {d t:Nat} {l:Bool} {u:V} (h:s t=u) (H:cst u d=u→goK D σ is (upd s d u) K) (hk:u.ok=true:=by rfl):goK D σ (⟨some d,none,l,.v (.mov (.t t))⟩ :: is) s K:=
 g_v u (Uo h hk) (H rfl)
theorem gv {d:Nat} {l:Bool} {a:A} (v:V) (h:yy s a=some v) (H:cst v d=v→goK D σ is (upd s d v) K):goK D σ (⟨some d,none,l,.v a⟩ :: is) s K:=
 g_v v h (H rfl)
theorem g0 {d:Nat} {l:Bool} {a:A} (v:V) (H:cst v d=v→goK D σ is (upd s d v) K) (he:yy (fun _=>.dead) a=some v:=by rfl) (hr:a.rds=[]:=by rfl):goK D σ (⟨some d,none,l,.v a⟩ :: is) s K:=
 zvN v he hr (H rfl)
theorem g1 {d:Nat} {l:Bool} {a:A} (t:Nat) {u:V} (v:V) (h:s t=u) (H:cst v d=v→goK D σ is (upd s d v) K) (he:yy (fun _=>u) a=some v:=by rfl) (hr:(a.rds.all fun k=>k == t)=true:=by rfl):goK D σ (⟨some d,none,l,.v a⟩ :: is) s K:=
 zxg v h he hr (H rfl)
theorem g2 {d:Nat} {l:Bool} {a:A} (t1 t2:Nat) {u1 u2:V} (v:V) (h1:s t1=u1) (h2:s t2=u2) (H:cst v d=v→goK D σ is (upd s d v) K) (he:yy (fun k=>if k=t1 then u1 else u2) a=some v:=by rfl) (hr:(a.rds.all fun k=>k == t1 || k == t2)=true:=by rfl) :
    goK D σ (⟨some d,none,l,.v a⟩ :: is) s K:=
 zvV v h1 h2 he hr (H rfl)
theorem gz (L:List (Nat×V)) (h:zB L s) (H:∀ s',zB L s'→K s'):goK D σ [] s (fun s1=>epK [] s1 K):=H s h
theorem rg {k:List Fr} {ep:List E} (h:goK D σ is s fun s1=>epK ep s1 (Run D σ R (.nrm k))):Run D σ R (.run (.reg [] is ep) k) s:=zC (ztx h)
theorem ez (L:List (Nat×V)) (h:zB L s) (H:∀ s',zB L s'→K s'):epK [] s K:=H s h
theorem gq {k:List Fr} (H:Run D σ R (.nrm k) s):goK D σ [] s (fun s1=>epK [] s1 (Run D σ R (.nrm k))):=H
theorem mi {f:Tok→Option Tok} {k:IntKind} {n:Int}:V.map f (.int k n) = .int k n:=rfl
theorem mb {f:Tok→Option Tok} {b:Bool}:V.map f (.bool b) = .bool b:=rfl
theorem me {α:Type} [Enc α] {f:Tok→Option Tok} {x:α}:V.map f (Enc.enc x)=Enc.enc x:=Enc.map_enc f x
end
def ent {α γ:Type} [Xx α] (g:Nat) (f:α→Option γ) (t:γ→V) (m:Nat) (al:Bool) (sel:List (Nat×Nat)):Ent:=⟨g,da f t,m,al,zsA sel⟩
theorem zZ {α γ:Type} [Xx α] {g:Nat} {f:α→Option γ} {t:γ→V} {m:Nat} {al:Bool} {sel:List (Nat×Nat)} (x:α) {r:γ} (h:f x=some r):(ent g f t m al sel).den (Xx.args x)=some (t r):=zhd x h
abbrev ji (n:Int):V:=.int .i64 n
abbrev jb (b:Bool):V:=.bool b
abbrev eL (x:List Int):V:=Enc.enc x
abbrev oI (r:Nat) (p:List Nat) (o:NL Int):V:=zh (.at r p) o
abbrev jv (d:Nat) (a:A):I:=⟨some d,none,false,.v a⟩
abbrev jm (d t:Nat):I:=⟨some d,none,false,.v (.mov (.t t))⟩
abbrev jg (d j:Nat) (b:Bool) (a:A):I:=⟨some d,some (j,b),false,.v a⟩
abbrev jn (n:Int):O:=.k (.int .i64 n)
section
variable {P:Program}
def RT (P:Program) (rs:List ResultVar) (r:V) (us:List V) (s:Nat→V):Prop:=N9 P s rs=some r∧∀ u∈us,∃ t,s t=u
theorem zbn {D:Den} {σ:Sig} (hF:zH P D σ) (hm:P.follows .mixedOrders=true) {f:Nat} {fn:Func} {c:Code} (hf:P.funcs[f]?=some fn) (hb:fn.body=some c) {an:List An} {A:AC} (hc:cC P fn.ntmps an c=some A)
    {args:List V} {r:V} {us:List V} (hok:args.all V.ok=true) (hn:args.length≤fn.ntmps) (hnt:Nat.ble fn.ntmps zP=true)
    (h:A.wp D σ (fun e s=>(e = .nrm∨e = .ret)∧RT P fn.results.toList r us s) (init args)):Q3 P f args r us:=by
 intro w S τ vals hS hr hk hinj hru
 have hI:=zgA hS hr hk hinj hok hn (Nat.le_of_ble_eq_true hnt)
 refine calls_of_wp hf hb (zcd hF hm c A _ _ _ _ _ _ _ hc hI h ?_)
 rintro e s a w' S' τ' ⟨he,hres,hus⟩ hI'
 obtain ⟨cv,h1,h2,h3⟩:=Mj fn _ r rfl hres hI'
 have post:∃ S',Bel (fun b=>w.heap.size≤b∨∃ k∈V.tokss args,(τ k).b=b) w w'∧zR w' S' τ r cv ∧
     (∀ b,S' b→b < w'.heap.size∧(S b∨w.heap.size≤b∨∃ k∈V.tokss args,(τ k).b=b)) ∧
     ∀ u∈us,(∀ k∈u.toks,k.pinned=true)→(∀ k∈u.toks,¬ S' (τ k).b)∧∃ c,zR w' S' τ u c:=by
  refine ⟨S',hI'.below,wP (w:=w') (fun b hb=>⟨hb,rfl⟩) _ _ h2 (by rw [hru];intro k hk;cases hk),fun b hb=>⟨hI'.sbd b hb,hI'.sfr b hb⟩,?_⟩
  intro u hu hp
  obtain ⟨t,ht⟩:=hus u hu
  have hpin:∀ k∈u.toks,τ' k=τ k:=fun k hk=>hI'.pin t k (by rw [ht];exact hk) (hp k hk)
  refine ⟨fun k hk=>by rw [← hpin k hk];exact (hI'.own t k (by rw [ht];exact hk)).2.2,a.eval (.tmp t),?_⟩
  have h4:=hI'.told t
  rw [ht] at h4
  exact wP (w:=w') (fun b hb=>⟨hb,rfl⟩) _ _ h4 fun k hk=>⟨(hpin k hk).symm,rfl⟩
 obtain ⟨S2,post⟩:=post
 rcases he with rfl | rfl
 · exact ⟨hI'.defers,cv,h1,cv,S2,rfl,post⟩
 · exact ⟨hI'.defers,cv,h1,cv,S2,rfl,post⟩
theorem N7 {D:Den} {σ:Sig} (hF:zH P D σ) (hm:P.follows .mixedOrders=true) {f:Nat} {fn:Func} {c:Code} (hf:P.funcs[f]?=some fn) (hb:fn.body=some c) {an:List An} {A:AC} (hc:cC P fn.ntmps an c=some A)
    {al:Bool} {args:List V} {r:V} {us:List V} (hok:args.all V.ok=true) (hn:args.length≤fn.ntmps) (hnt:Nat.ble fn.ntmps zP=true)
    (h:Run D σ (RT P fn.results.toList r us) (.run A []) (init args)):vd P f Zc al args (.tup [r,.tup us]):=by
 have h1:=zbn hF hm hf hb hc hok hn hnt (zc5 h)
 unfold vd
 rw [zy (by decide),zy (by decide),if_pos rfl]
 intro r' us' e
 simp only [V.tup.injEq,List.cons.injEq,and_true] at e
 obtain ⟨rfl,rfl⟩:=e
 exact h1
end
def grE (p q:Nat) (cw cd:V):List V:=[.ref .sh 0 [] cw,.ref .sh 0 [] cd,.ref (.bx p) 0 [] .dead,.ref (.bx q) 0 [] .dead]
def grV (p q g:Nat) (cw cd:V):V:=.ref (.bx q) 0 [] (.fn g [] (grE p q cw cd))
def grL (p r:Nat) (ρ:List Nat) (xs:List Int):V:=.ref (.bx p) 0 [] (zh (.at r ρ) (.of xs))
structure Pb where
 v:List Int
instance:Arg Pb where
 arg x:=grL zP (zP + 1) [] x.v
 un
  | .ref t i q c=>if t = .bx zP∧i=0∧q=[] then (match (MA (.at (zP + 1) []) c:Option (NL Int)) with
    | some (.of xs)=>some ⟨xs⟩
    | _=>none) else none
  | _=>none
 un_arg x:=by simp [grL,UI]
 arg_un v x h:=by
  split at h
  · split at h
    · rename_i e
      obtain ⟨rfl,rfl,rfl⟩:=e
      split at h
      · rename_i xs hd
        simp only [zn] at h;subst h
        simp only [grL,UO _ _ hd]
      · cases h
    · cases h
  · cases h
structure Gb (g:Nat) (α β:Type) where
 a:α
 b:β
instance {g:Nat} {α β:Type} [Arg α] [Arg β]:Arg (Gb g α β) where
 arg x:=grV zP (zP + 2) g (Arg.arg x.a) (Arg.arg x.b)
 un
  | .ref t i q (.fn g' [] [.ref t1 i1 q1 va,.ref t2 i2 q2 vb,.ref t3 i3 q3 .dead,.ref t4 i4 q4 .dead])=>
    if t = .bx (zP + 2)∧i=0∧q=[]∧g'=g∧t1 = .sh∧i1=0∧q1=[]∧t2 = .sh∧i2=0∧q2=[]∧t3 = .bx zP∧i3=0∧q3=[]∧t4 = .bx (zP + 2)∧i4=0∧q4=[] then
     (Arg.un va).bind fun x=>(Arg.un vb).map fun y=>⟨x,y⟩ else none
  | _=>none
 un_arg x:=by simp [grV,grE,Arg.un_arg]
 arg_un v x h:=by
  split at h
  · split at h
    · rename_i e
      obtain ⟨rfl,rfl,rfl,rfl,rfl,rfl,rfl,rfl,rfl,rfl,rfl,rfl,rfl,rfl,rfl,rfl⟩:=e
      simp only [Option.bind_eq_some_iff,ye] at h
      obtain ⟨y,h1,z,h2,rfl⟩:=h
      simp only [grV,grE,Arg.arg_un _ _ h1,Arg.arg_un _ _ h2]
    · cases h
  · cases h
section
variable {D:Den} {σ:Sig} {s:Nat→V} {K:(Nat→V)→Prop} {is:List I}
def ndR (r:Nat):V→Bool
 | .ref (.bx r') _ [] _=>!(Nat.beq r' r)
 | _=>true
theorem zhI {ks:List Tok} {l:List (Nat×Nat×List Nat×V)} {v:V} (hl:∀ e∈l,e.2.2.1=[]∧ndR e.1 v=true):upG ks l v=V.map (ZW ks) v:=by
 rcases WW (ks:=ks) (l:=l) v with ⟨e,he,c,rfl,_⟩ | h1
 · obtain ⟨h2,h3⟩:=hl e he
   rw [h2] at h3;simp [ndR] at h3
 · exact h1
theorem MS {α:Type} [Enc α] {t:Tok} {o:NL α} {r:Nat}:ndR r (zh t o)=true:=by cases o <;> rfl
structure Cu (α:Type) where
 v:α
def cuV {α:Type} [Enc α] (r:Nat) (x:α):V:=.ref (.bx r) 0 [] (Enc.enc x)
instance {α:Type} [Enc α]:Arg (Cu α) where
 arg x:=cuV zP x.v
 un
  | .ref t i q c=>if t = .bx zP∧i=0∧q=[] then (Enc.dec c).map fun x=>⟨x⟩ else none
  | _=>none
 un_arg x:=by simp [cuV,Enc.dec_enc]
 arg_un v x h:=by
  split at h
  · split at h
    · rename_i e
      obtain ⟨rfl,rfl,rfl⟩:=e
      simp only [ye] at h
      obtain ⟨y,h1,rfl⟩:=h
      simp only [cuV,Enc.enc_dec _ _ h1]
    · cases h
  · cases h
theorem Wf {α:Type} [Enc α] {r:Nat} {x:α}:(cuV r x).toks=[.bx r]:=by simp only [cuV,V.toks,Enc.toks_enc]
theorem vJ {α:Type} [Enc α] {d b g r:Nat} {as:List O} {vs:List V} {x x':α} {res:V} {al:Bool} (hb:s b=cuV r x) (hvs:Z0 s as=some (cuV r x :: vs)) (h0:V.tokss vs=[]) (hvm:∀ f,V.maps f vs=vs)
    (hD:D g (cuV zP x :: vs)=some (.tup [res,.tup [cuV zP x']])) (hσ:σ g=some (Zc,al)) (hr:res.toks=[]) (hok:res.ok=true)
    (H:∀ s1,(∀ t,s t=cuV r x→s1 t=cuV r x')→(∀ t v u,s t=v→ndR r v=true→V.map (Ul (.bx r)) v=u→s1 t=u)→goK D σ is (upd s1 d res) K) (hgm:Nat.ble Xv g=false:=by rfl) :
    goK D σ (⟨some d,none,false,.callT (.k (.fn g [] [])) as [b] []⟩ :: is) s K:=by
 have hrd:O.rd s (.k (.fn g [] []))=some (.fn g [] []):=rfl
 have hks:y5 s ([b]++[])=[.bx r]:=by
  simp only [y5,xy,WE,List.flatMap_nil,hb,Wf,xy]
 have hn1:ZC [.bx r] (.bx r)=some (.bx zP):=by
  simp [ZC,zc7,List.findIdx?_cons]
 have hko:∀ k∈[Tok.bx r],k≠.nl∧k≠.sh:=by
  intro k hk
  simp only [yf,List.not_mem_nil,or_false] at hk
  subst hk;exact ⟨by simp,by simp⟩
 have hb1:=Ma hko (by simp) hn1
 have hmap:V.maps (ZC [.bx r]) (cuV r x :: vs)=cuV zP x :: vs:=by
  simp only [V.maps,hvm,cuV,V.map,hn1,Enc.map_enc]
 have hall:(!((V.tokss ((cuV r x :: vs)++[].map (Ys s [b]))).all (y5 s ([b]++[])).contains && [].all V.one && [].all fun e=>(s e).ok))=false:=by
  rw [hks]
  simp only [List.map_nil,xy,V.tokss,Wf,h0]
  simp
 have hback:Wg s [.bx r] [b] [cuV zP x']=some [(r,0,[],cuV r x')]:=by
  simp only [Wg,hb,cuV,hb1,and_self,z5,yU,V.map,Enc.map_enc]
 simp only [goK,xK,yY,JL,W4,hrd,hvs,hall,yD,yb,key,zo]
 rw [hks]
 simp only [List.map_nil,xy]
 rw [hmap,hD,hσ]
 simp only [hgm,Nat.beq_refl,Ym,z6,hr,hok,List.isEmpty_nil,hback]
 have hpin:([cuV zP x'].all fun u=>u.toks.all Tok.pinned)=true:=by
  simp only [List.all_cons,List.all_nil,Wf]
  decide
 rw [hpin]
 simp only [wT,z5,put]
 simp only [yU]
 refine H _ ?_ ?_
 · intro t ht;rw [ht];simp [upG,cuV]
 · intro t v u hv hd hm
   rw [← zgq] at hm
   rw [hv,zhI (by simp [hd]),hm]
def xY:Nat:=zP + 1
structure Oh (α:Type) where
 a:Int
 v:List α
instance {α:Type} [Enc α]:Arg (Oh α) where
 arg x:=.agg [.int .i64 x.a,zh (.at xY []) (.of x.v)]
 un
  | .agg [.int .i64 n,c]=>(match (MA (.at xY []) c:Option (NL α)) with
    | some (.of xs)=>some ⟨n,xs⟩
    | _=>none)
  | _=>none
 un_arg x:=by simp [UI]
 arg_un v x h:=by
  split at h
  · split at h
    · rename_i h1
      simp only [zn] at h;subst h
      simp only [UO _ _ h1]
    · cases h
  · cases h
theorem zov {α β:Type} [Enc α] [Enc β] {d b e g r q:Nat} {ρ:List Nat} {as:List O} {x x':α} {n:Int} {xs:List β} {res:V} {al:Bool} (hb:s b=cuV r x) (he:s e = .agg [.int .i64 n,zh (.at q ρ) (.of xs)])
    (hvs:Z0 s as=some [cuV r x,.agg [.int .i64 n,zh (.at q ρ) (.of xs)]])
    (hD:D g [cuV zP x,.agg [.int .i64 n,zh (.at xY []) (.of xs)]]=some (.tup [res,.tup [cuV zP x']])) (hσ:σ g=some (Zc,al)) (hr:res.toks=[]) (hok:res.ok=true)
    (H:∀ s1,(∀ t,s t=cuV r x→s1 t=cuV r x')→(∀ t v u,s t=v→ndR r v=true→V.map (ZW [.bx r,.at q ρ]) v=u→s1 t=u)→goK D σ is (upd s1 d res) K) (hgm:Nat.ble Xv g=false:=by rfl) :
    goK D σ (⟨some d,none,false,.callT (.k (.fn g [] [])) as [b] [e]⟩ :: is) s K:=by
 have hrd:O.rd s (.k (.fn g [] []))=some (.fn g [] []):=rfl
 have hok2:(V.agg [.int .i64 n,zh (.at q ρ) (.of xs)]).ok=true:=rfl
 have ht:(zh (.at q ρ) (.of xs:NL β)).toks=[.at q ρ]:=zM
 have hn2:ZC [.bx r,.at q ρ] (.at q ρ)=some (.at xY []):=by
  simp [ZC,zc7,List.findIdx?_cons,xY]
 have hn1:ZC [.bx r,.at q ρ] (.bx r)=some (.bx zP):=by
  simp [ZC,zc7,List.findIdx?_cons]
 have hks:y5 s ([b]++[e])=[.bx r,.at q ρ]:=by
  simp only [y5,XE,List.nil_append,WE,List.flatMap_nil,hb,he,Wf,V.toks,V.tokss,ht,xy]
 have hko:∀ k∈[Tok.bx r,.at q ρ],k≠.nl∧k≠.sh:=by
  intro k hk
  simp only [yf,List.not_mem_nil,or_false] at hk
  rcases hk with rfl | rfl <;> exact ⟨by simp,by simp⟩
 have hb1:=Ma hko (by simp) hn1
 have hmap:V.maps (ZC [.bx r,.at q ρ]) [cuV r x,.agg [.int .i64 n,zh (.at q ρ) (.of xs)]]=[cuV zP x,.agg [.int .i64 n,zh (.at xY []) (.of xs)]]:=by
  simp only [V.maps,cuV,V.map,hn1,Enc.map_enc,zm (o:=(.of xs:NL β)) hn2 (show ZC [.bx r,.at q ρ] .nl=some .nl from rfl)]
 have hall:(!((V.tokss ([cuV r x,.agg [.int .i64 n,zh (.at q ρ) (.of xs)]]++[].map (Ys s [b]))).all (y5 s ([b]++[e])).contains && [].all V.one && [e].all fun e=>(s e).ok))=false:=by
  rw [hks]
  simp only [List.map_nil,xy,V.tokss,Wf,V.toks,List.nil_append,List.all_cons,List.all_nil,Bool.and_true,he,hok2,ht,XE]
  simp
 have hback:Wg s [.bx r,.at q ρ] [b] [cuV zP x']=some [(r,0,[],cuV r x')]:=by
  simp only [Wg,hb,cuV,hb1,and_self,z5,yU,V.map,Enc.map_enc]
 simp only [goK,xK,yY,JL,W4,hrd,hvs,hall,yD,yb,key,zo]
 rw [hks]
 simp only [List.map_nil,xy]
 rw [hmap,hD,hσ]
 simp only [hgm,Nat.beq_refl,Ym,z6,hr,hok,List.isEmpty_nil,hback]
 have hpin:([cuV zP x'].all fun u=>u.toks.all Tok.pinned)=true:=by
  simp only [List.all_cons,List.all_nil,Wf]
  decide
 rw [hpin]
 simp only [wT,z5,put]
 simp only [yU]
 refine H _ ?_ ?_
 · intro t ht;rw [ht];simp [upG,cuV]
 · intro t v u hv hd hm
   rw [hv,zhI (by simp [hd]),hm]
theorem zcv {x q:Nat} {p:List Nat} {es:List E} {v:V} (hx:s x=v) (hk:v.ok=true) (H:∀ s1,(∀ t u u',s t=u→V.map (LU x [([],.at q p)]) u=u'→s1 t=u')→epK es s1 K) (hp:Nat.ble zP x=false:=by rfl):epK (.ren x q p :: es) s K:=by
 have:KD s (.ren x q p)=some (WZ (LU x [([],.at q p)]) s):=by
  simp only [KD,hx,hp]
  cases v <;> first | (simp [V.ok] at hk;done) | rfl
 simp only [epK,this]
 exact H _ fun t u u' h1 h2=>by simp only [WZ,h1,h2]
theorem LR:∀ {L:List (Nat×V)},zB L s→∀ p∈L,s p.1=p.2
 | [],_,p,hp=>by cases hp
 | [(t,v)],h,p,hp=>by
   rw [xo] at hp;subst hp;exact h
 | (t,v) :: q :: L,h,p,hp=>by
   rcases yf.1 hp with rfl | hp
   · exact h.1
   · exact LR (L:=q :: L) h.2 p hp
theorem zcs {ks:List Tok} {r:Nat} (h:∀ k∈ks,k≠.bx r):(ks.all fun k=>!([Tok.bx r].contains k))=true:=by
 rw [yN]
 intro k hk
 have:=h k hk
 simp [this]
theorem Jt {α:Type} [Enc α] (h:∀ x:α,(Enc.enc x:V).live=true):∀ xs:List α,V.lives (xs.map Enc.enc)=true
 | []=>rfl
 | x :: xs=>by simp only [List.map_cons,V.lives,h x,Jt h xs,wT]
theorem y7 {α:Type} [Enc α] {xs:List α}:(Enc.enc xs:V).live=true:=rfl
theorem yM {α:Type} [Enc α] (h:∀ x:α,(Enc.enc x:V).live=true) {r:Nat} {p:List Nat} {o:NL α}:(zh (.at r p) o).live=true:=by
 cases o with
 | nil=>simp [zh,V.live,V.lives]
 | of xs=>simp [zh,V.live,Jt h]
theorem yP {α:Type} [Enc α] {r q:Nat} {p:List Nat} {o:NL α}:(∀ k∈(zh (.at r p) o).toks,k≠.bx q)=True:=by
 cases o with
 | nil=>simp [zh,V.toks,V.tokss]
 | of xs=>
   have:(zh (.at r p) (.of xs)).toks=[.at r p]:=by simp [zh,V.toks,yl]
   simp [this]
theorem zxD {d b r:Nat} {ds:List Nat} {f:O} {as:List O} {α:Type} [Enc α] {x:α} (hb:s b=cuV r x) (hd:ds.contains r=false) (H:goK D σ (⟨some d,none,false,.callT f as [b] []⟩ :: is) s K):goK D σ (⟨some d,none,false,.callTN f as [b] ds⟩ :: is) s K:=by
 have hks:y5 s [b]=[.bx r]:=by
  simp only [y5,WE,List.flatMap_nil,hb,Wf,xy]
 have h1:((y5 s [b]).all fun k=>!(ds.map Tok.bx).contains k)=true:=by
  rw [hks]
  simp only [List.all_cons,List.all_nil,Bool.and_true,yT]
  cases e:(ds.map Tok.bx).contains (.bx r) with
  | false=>rfl
  | true=>
    obtain ⟨x,hx,e2⟩:=yX.1 (xe.1 e)
    cases e2
    rw [xe.2 hx] at hd;cases hd
 have e:goK D σ (⟨some d,none,false,.callTN f as [b] ds⟩ :: is) s K=goK D σ (⟨some d,none,false,.callT f as [b] []⟩ :: is) s K:=by
  simp only [goK,xK,yY,h1,z5]
 rw [e];exact H
theorem N6 {d r:Nat} {bs:List Nat} {l:Bool} {a:A} (v:V) (hks:uo s bs=[.bx r]) (h:yy s a=some v) (L:List (Nat×V)) (hL:zB L s) (hr:(a.rds.all fun k=>L.any fun x=>x.1 == k)=true)
    (ht:∀ p∈L,p.2.live=true∧∀ k∈p.2.toks,k≠.bx r) (hv:∀ k∈v.toks,k≠.bx r∧∃ p∈L,k∈p.2.toks) (H:goK D σ is (upd s d v) K) (hq:(L.all fun x=>a.rds.contains x.1)=true:=by rfl):goK D σ (⟨some d,none,l,.vN a bs⟩ :: is) s K:=by
 have h1:(a.rds.all fun t=>(s t).live && (s t).toks.all fun k=>!([Tok.bx r].contains k))=true:=by
  rw [yN] at hr ⊢
  intro t htr
  have h2:=hr t htr
  rw [ZT] at h2
  obtain ⟨p,hp,e⟩:=h2
  have e:p.1=t:=by simpa using e
  rw [← e,LR hL p hp,(ht p hp).1]
  exact zcs (ht p hp).2
 have h2:(v.toks.all fun k=>!([Tok.bx r].contains k) && a.rds.any fun t=>(s t).toks.contains k)=true:=by
  rw [yN]
  intro k hk
  obtain ⟨h3,p,hp,h4⟩:=hv k hk
  rw [zp,ZT]
  refine ⟨yN.1 (zcs fun k hk=>(hv k hk).1) k hk,p.1,?_,?_⟩
  · exact xe.1 (yN.1 hq p hp)
  · rw [LR hL p hp];exact xe.2 h4
 simp only [goK,xK,yY,h,hks,h1,h2,wT,z5,put]
 exact H
theorem zlq {α:Type} [Enc α] {r lo:Nat} {p:List Nat} {xs:List α}:zcM (.sl (.at r p) (Enc.shp α) lo (xs.map Enc.enc)) (Enc.enc xs):=⟨fun _=>rfl,by simp [V.ret,Enc.enc,Z8]⟩
theorem znb {α:Type} [Enc α] {b r:Nat} {x:α} (hb:s b=cuV r x):uo s [b]=[.bx r]:=by
 show y5 s [b]=_
 simp only [y5,WE,List.flatMap_nil,hb,Wf,xy]
theorem Wy {b r i:Nat} {q:List Nat} {c:V} (hb:s b = .ref (.bx r) i q c):uo s [b,b]=[.bx r]:=by simp only [uo,hb]
theorem Ue {α:Type} [Enc α] {d b r:Nat} {l:Bool} {a:A} {x:α} (v:V) (hb:s b=cuV r x) (h:yy s a=some v) (L:List (Nat×V)) (hL:zB L s) (hr:(a.rds.all fun k=>L.any fun x=>x.1 == k)=true)
    (ht:∀ p∈L,p.2.live=true∧∀ k∈p.2.toks,k≠.bx r) (hv:∀ k∈v.toks,k≠.bx r∧∃ p∈L,k∈p.2.toks) (H:goK D σ is (upd s d v) K) (hq:(L.all fun x=>a.rds.contains x.1)=true:=by rfl):goK D σ (⟨some d,none,l,.vN a [b]⟩ :: is) s K:=
 N6 v (znb hb) h L hL hr ht hv H hq
theorem u7 {a:A} {v:V} (L:List (Nat×V)) (hs:zB L s) (hr:(a.rds.all fun k=>L.any fun x=>x.1 == k)=true) (he:yy (LC L) a=some v):yy s a=some v:=by
 rw [uR (s2:=LC L) fun k hk=>Lj L s hs k (yN.1 hr k hk)];exact he
theorem zca {α:Type} [Enc α] {v:V} {n:Int} {k:Tok} {o:NL α} {xs:List α} (h:zdX o=some xs) (hs:v = .agg [.int .i64 n,zh k o]):v = .agg [.int .i64 n,zh k (.of xs)]:=by rw [hs,MX h]
theorem KO {α:Type} [Enc α] {d:Nat} {z:V} {len:Nat} {ps:List (Nat×Nat×O)} (L:List (Nat×V)) (xs:List α) (hs:zB L s) (h:xX (LC L) ps (List.replicate len z)=some (xs.map Enc.enc)) (hz:z.shape=Enc.shp α)
    (hr:((ps.flatMap fun p=>p.2.2.rds).all fun k=>L.any fun x=>x.1 == k)=true) (hg:s d = .gone)
    (H:∀ s1,s1 d=Enc.enc xs→(∀ t,t≠d→s1 t=s t)→goK D σ is s1 K):goK D σ (⟨some d,none,false,.litS z len ps⟩ :: is) s K:=by
 have h1:xX s ps (List.replicate len z)=some (xs.map Enc.enc):=by
  rw [vy (s2:=LC L) fun k hk=>Lj L s hs k (yN.1 hr k hk)];exact h
 simp only [goK,xK,yY,h1,hg]
 refine H _ ?_ ?_
 · rw [upd_same,hz]
   exact Xo (p:=[]) (xs:=xs)
 · intro t ht
   exact zX _ _ ht
theorem rt0 {P:Program} {c:V} {t:Nat} (h0:s t=c):RT P [] (.tup []) [c] s:=⟨rfl,fun u hu=>by
 simp only [yf,List.not_mem_nil,or_false] at hu
 subst hu;exact ⟨t,h0⟩⟩
theorem rt1 {P:Program} {x:ResultVar} {r c:V} {t:Nat} (h:JZ P s x=some r) (h0:s t=c):RT P [x] r [c] s:=⟨by simp only [N9,h],(rt0 (P:=P) h0).2⟩
end
abbrev LI:=List Int
abbrev TP:=List (Int×Int)
abbrev GR:=Int×List (Int×Int)
abbrev LB:=List (Kd .u8)
abbrev CU:=S3 (List (Kd .u8)) Int (Kd .u64)
abbrev CC:=Cu CU
abbrev cu (a:LB) (b c:Int):CC:=Cu.mk (S3.mk a b (Kd.mk c))
abbrev eP (x:TP):V:=Enc.enc x
abbrev eB (x:LB):V:=Enc.enc x
abbrev nI:V:=.sl .nl (Enc.shp Int) 0 []
abbrev nP:V:=.sl .nl (Enc.shp (Int×Int)) 0 []
abbrev gV (g:GR):V:=.agg [ji g.1,eP g.2]
abbrev bG (b:Nat) (g:GR):V:=.ref (.bx b) 0 [] (gV g)
abbrev g0V:V:=.agg [ji 0,nP]
abbrev bZ (b:Nat):V:=.ref (.bx b) 0 [] g0V
abbrev cV (c:CU):V:=.agg [eB c.a,ji c.b,.int .u64 c.c.v]
abbrev bC (c:CU):V:=.ref (.bx zP) 0 [] (cV c)
abbrev i0:V:=.int .i64 (.ofNat 0)
abbrev kf:O:=.k (.bool false)
abbrev kt:O:=.k (.bool true)
abbrev jf (g:Nat):O:=.k (.fn g [] [])
abbrev jx (d:Nat) (x:X):I:=⟨some d,none,false,x⟩
abbrev jy (d:Nat) (x:X):I:=⟨some d,none,true,x⟩
abbrev cq (P:Program) (f:Func) (an:List An):Option AC:=cC P f.ntmps an (f.body.getD .skip)
abbrev rr (is:List I):AC:=.reg [] is []
abbrev jl (d t:Nat):I:=jv d (.load .s (.t t))
abbrev jk (d t:Nat):I:=jv d (.len (.t t))
abbrev jz (x:X):I:=⟨none,none,false,x⟩
theorem ct {v:V} {a b:Bool} (h:v = .bool a) (hg:a=b):v = .bool b:=h.trans (congrArg V.bool hg)
theorem oi {α:Type} {a b:α} (h:some a=some b):a=b:=Option.some.inj h
theorem rf (x:V):x=x:=rfl
theorem nm {α:Type} {P:Prop} {r:α} (h:(none:Option α)=some r):P:=nomatch h
section
variable {f:Tok→Option Tok} {α:Type} [Enc α] {x:α} {n m:Int} {k l:IntKind}
theorem mIE:V.map f (.agg [.int k n,Enc.enc x]) = .agg [.int k n,Enc.enc x]:=zr (zc mi (zc me zk))
theorem mII:V.map f (.agg [.int k n,.int l m]) = .agg [.int k n,.int l m]:=zr (zc mi (zc mi zk))
theorem ue:V.map f (.agg [Enc.enc x,.int k n,.int l m]) = .agg [Enc.enc x,.int k n,.int l m]:=zr (zc me (zc mi (zc mi zk)))
theorem te:(Enc.enc x:V).toks=[]:=Enc.toks_enc x
theorem fm1 (f:Tok→Option Tok):V.maps f [Enc.enc x]=[Enc.enc x]:=zc (Enc.map_enc f _) zk
theorem uE {tk:Tok} {i:Nat} {q:List Nat} {u:V}:V.mut tk i q u (Enc.enc x)=Enc.enc x:=Enc.mut_enc _ _ _ _ x
theorem zE {K:List Tok}:V.frz K (Enc.enc x)=Enc.enc x:=Enc.frz_enc _ x
theorem uIE {tk:Tok} {i:Nat} {q:List Nat} {u:V}:V.mut tk i q u (.agg [.int k n,Enc.enc x]) = .agg [.int k n,Enc.enc x]:=zK (zf rfl (zf uE rfl))
theorem zIE {K:List Tok}:V.frz K (.agg [.int k n,Enc.enc x]) = .agg [.int k n,Enc.enc x]:=Ja (vk rfl (vk zE rfl))
theorem Uw {tk:Tok} {i:Nat} {q:List Nat} {u:V}:V.mut tk i q u (.agg [Enc.enc x,.int k n,.int l m]) = .agg [Enc.enc x,.int k n,.int l m]:=zK (zf uE (zf rfl (zf rfl rfl)))
theorem zbq {K:List Tok}:V.frz K (.agg [Enc.enc x,.int k n,.int l m]) = .agg [Enc.enc x,.int k n,.int l m]:=Ja (vk zE (vk rfl (vk rfl rfl)))
theorem xr {v c:V} {t:Tok} {g:Sh} (h6:v.toks.contains t=false) (h1:t≠.sh:=by decide) (h2:t≠.nl:=by decide) (h3:v.mem=true:=by rfl) (h4:v.shape.beq g=true:=by rfl) (h5:c.shape.beq g=true:=by rfl) :
    t≠.sh∧t≠.nl∧v.mem=true∧v.shape.beq g=true∧c.shape.beq g=true∧v.toks.contains t=false:=⟨h1,h2,h3,h4,h5,h6⟩
theorem mIx {v w:V} (h:V.map f v=w):V.map f (.agg [.int k n,v]) = .agg [.int k n,w]:=zr (zc mi (zc h zk))
end
theorem okZ {P:Program} {f:Nat} {α γ:Type} [Xx α] {g m:Nat} {al:Bool} {sel:List (Nat×Nat)} {F:α→Option γ} {t:γ→V} {fn:Func} (hf:P.funcs[f]?=some fn) (con:∀ (x:α) (y:γ),F x=some y→vd P f m al (Xx.args x) (t y))
    (h1 : unk g = f := by rfl) (h2 : fn.body.isNone = false := by rfl) (h3 : (fn.name == "runtime.NumGoroutine") = false := by rfl) : (ent g F t m al sel).Ok P := by
 refine zes (f:=f) h1 (fun args r h=>?_) ⟨fn,hf,h2,h3⟩
 obtain ⟨x,y,rfl,hy,rfl⟩:=MM h
 exact con x y hy
section
variable {D:Den} {σ:Sig} {P:Program}
theorem cR (hF:zH P D σ) {f:Nat} {fn:Func} {c:Code} (hf:P.funcs[f]?=some fn) {an:List An} {A:AC} (hc:cC P fn.ntmps an c=some A) {m:Nat} {al:Bool} {args:List V} {r:V}
    (h:Run D σ (fun s=>(N9 P s fn.results.toList).bind (fin m al)=some r) (.run A []) (init args)) (hm:P.follows .mixedOrders=true:=by kernel_rfl) (hb:fn.body=some c:=by rfl) (hn:Nat.ble args.length fn.ntmps=true:=by rfl)
    (hnt:Nat.ble fn.ntmps zP=true:=by decide) (hmp:Nat.ble zP m=false:=by rfl):vd P f m al args r:=Je hF hm hf hb hc (Nat.le_of_ble_eq_true hn) h hnt hmp
theorem cT (hF:zH P D σ) {f:Nat} {fn:Func} {c:Code} (hf:P.funcs[f]?=some fn) {an:List An} {A:AC} (hc:cC P fn.ntmps an c=some A) {al:Bool} {args:List V} {r:V} {us:List V}
    (h:Run D σ (RT P fn.results.toList r us) (.run A []) (init args)) (hm:P.follows .mixedOrders=true:=by kernel_rfl) (hb:fn.body=some c:=by rfl) (hok:args.all V.ok=true:=by rfl) (hn:Nat.ble args.length fn.ntmps=true:=by rfl)
    (hnt:Nat.ble fn.ntmps zP=true:=by decide):vd P f Zc al args (.tup [r,.tup us]):=N7 hF hm hf hb hc hok (Nat.le_of_ble_eq_true hn) hnt h
end
section
variable {D:Den} {σ:Sig} {R:(Nat→V)→Prop} {s:Nat→V} {K:(Nat→V)→Prop} {is:List I}
theorem gl {α:Type} [Enc α] {d:Nat} {l:Bool} {x:O} {t:Tok} {h:Sh} {lo:Nat} (xs:List α) (hx:x.ev s = .sl t h lo (xs.map Enc.enc)) (H:cst (ji (xs.length:Int)) d=ji (xs.length:Int)→goK D σ is (upd s d (ji (xs.length:Int))) K):goK D σ (⟨some d,none,l,.v (.len x)⟩ :: is) s K:=
 gv (ji (xs.length:Int)) (zjm (xs:=xs) hx) H
end
theorem zh7 {P:Program} {t:TypeId} {k:IntKind} (ht:P.underlying t=some (.int k)) (hc:P.cellsOf t=1):zcj P t (Kd k) (fun x=>(Lit.int k x.v).wf=true):=by
 refine ⟨hc,?_⟩
 intro H en W fuel cs x h
 cases fuel with
 | zero=>simp [DataW.trod] at h
 | succ m=>
   unfold DataW.trod at h
   rw [ht] at h
   split at h <;> first | (exfalso;simp_all;done) | skip
   rename_i k1 k' n e
   simp only [zn,TypeDesc.int.injEq] at e
   subst e
   split at h
   · rename_i hh
     obtain ⟨rfl,hw⟩:=hh
     exact ⟨⟨n⟩,hw,fun S τ _=>by simp [Enc.enc,zT]⟩
   · cases h
theorem zm2 {n:Int} (h:(Lit.int .u8 n).wf=true):0≤n∧n≤255:=by
 have e1:IntKind.min .u8=0:=by decide
 have e2:IntKind.max .u8=255:=by decide
 simp [Lit.wf,e1,e2] at h;omega
theorem gcF {D:Den} {σ:Sig} {is:List I} {s:Nat→V} {K:(Nat→V)→Prop} {d g:Nat} {as:List O} {r:V} (vs:List V) (hv:xO as s=some (vs,s)) (hD:D g vs=some r) (hσ:σ g=some (0,false)) (H:goK D σ is (upd s d (V.tag d [] 0 r)) K)
    (hr:r.toks=[]:=by rfl) (ht:(V.tag d [] 0 r).toks=[]:=by rfl) (hok:(V.tag d [] 0 r).ok=true:=by rfl) (hgm:Nat.ble Xv g=false:=by rfl):goK D σ (⟨some d,none,false,.call (.k (.fn g [] [])) as⟩ :: is) s K:=
 XG (m:=0) (al:=false) vs hv hD hσ rfl hr ht hok H rfl hgm
end Go.Zq
