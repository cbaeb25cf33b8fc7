/- The pure machine: what the model of Go does, told of values without memory (part 4). No further condition. -/
import Derived.Test.YtelahampjnaimacK3
import Derived.KernelRfl
set_option linter.unusedVariables false
set_option linter.unusedSimpArgs false
namespace Go.Zq
section
variable {P:Program} {w:World} {S:Nat→Prop} {τ:Tok→Blk}
theorem MK {f m:Nat} {al:Bool} {args:List V} {r:V} (h:w3 P (unk f) m al args r) (hm:Nat.ble zO m=false) (hg:Nat.ble YY f=false):Um P f m al args r:=by
 unfold w3 at h
 rw [if_neg (by rintro rfl;exact absurd hm (by decide)),if_neg (by rintro rfl;exact absurd hm (by decide)),if_neg (by rintro rfl;exact absurd hm (by decide))] at h
 simpa [unk,hg] using h
theorem ziT {e : Ent} {f : Nat} (hu : unk e.g = f) (con : ∀ args r, e.den args = some r → w3 P f e.m e.al args r) (fn : ∃ fn, P.funcs[f]? = some fn ∧ fn.body.isNone = false ∧ (fn.name == "runtime.NumGoroutine") = false) : e.Ok P := by
 subst hu
 exact ⟨con,fn⟩
def zuN (w:World) (τ:Tok→Blk) (ks:List Tok):Ori:=⟨w,fun b=>w.heap.size≤b∨∃ k∈ks,(τ k).b=b,τ,fun _ h=>.inl h⟩
theorem JF:∀ (us:List V) (t:Nat) (k:Tok),k∈(us.getD t .dead).toks→k∈V.tokss us
 | [],t,k,h=>by simp [V.toks] at h
 | u :: us,t,k,h=>by
   simp only [V.tokss,zQ]
   cases t with
   | zero=>exact .inl (by simpa using h)
   | succ t=>exact .inr (JF us t k (by simpa using h))
theorem zbh:∀ (us:List V) (t:Nat),us.all V.ok=true→(us.getD t .dead).ok=true
 | [],t,h=>rfl
 | u :: us,t,h=>by
   simp only [List.all_cons,zq] at h
   cases t with
   | zero=>simpa using h.1
   | succ t=>simpa using zbh us t h.2
theorem zf5 {args:List V} {vals:Array Value} {nt:Nat} (hS:∀ b,S b→b < w.heap.size) (hr:ya w S τ args vals.toList) (hk:∀ k∈V.tokss args,k.pinned=true∧(τ k).b < w.heap.size∧¬ S (τ k).b)
    (hinj:∀ k∈V.tokss args,∀ k'∈V.tokss args,(τ k).b=(τ k').b→k=k') (hok:args.all V.ok=true) (hn:args.length≤nt) (hnt:nt≤zO) :
    Inv (zuN w τ (V.tokss args)) S nt (init args) { tmps:=vals++Array.replicate (nt - vals.size) undef,defers:=[] } w S τ where
 told t:=by
  have hl:=Un _ _ hr
  simp only [Array.length_toList] at hl
  have:=Ka args vals.toList t hr
  by_cases ht:t < vals.size
  · simp only [init,Act.eval,Array.getD_eq_getD_getElem?,Array.getElem?_append_left ht]
    simpa [zZ] using this
  · have:init args t = .dead:=by
     simp only [init]
     rw [zZ,ZJ (by omega)];rfl
    rw [this];simp [zK]
 size:=by
  have hl:=Un _ _ hr
  simp at hl ⊢;omega
 defers:=rfl
 own t k h:=by
  have h1:=JF args t k h
  have h2:=hk k h1
  exact ⟨.inr ⟨k,h1,rfl⟩,h2.2.1,h2.2.2⟩
 inj t t' k k' h h' e:=hinj k (JF args t k h) k' (JF args t' k' h') e
 sbd:=hS
 sfr b hb:=.inl hb
 s0 b hb:=hb
 below:=Bel.refl _ _
 lin r v t k hl _ _:=by
  have:=zbh args r hok
  simp only [init] at hl
  rw [hl] at this;simp [V.ok] at this
 gone r t k hg _:=by
  have:=zbh args r hok
  simp only [init] at hg
  rw [hg] at this;simp [V.ok] at this
 small:=hnt
 pin t k h _:=rfl
end
structure On (α:Type) where
 v:NL α
def L1 {α:Type} [Enc α] (t:Tok):V→Option (NL α)
 | .sl .nl h 0 []=>if h.beq (Enc.shp α) then some .nil else none
 | .sl t' h 0 xs=>if t'=t∧h.beq (Enc.shp α)=true then (zcP xs).map .of else none
 | _=>none
theorem Ub {α:Type} [Enc α] {r:Nat} {p:List Nat} (o:NL α):L1 (.at r p) (zu (.at r p) o)=some o:=by
 cases o with
 | nil=>simp [zu,L1,Sh.beq_refl]
 | of xs=>simp [zu,L1,Sh.beq_refl,K2]
theorem Uh {α:Type} [Enc α] {t:Tok} (v:V) (o:NL α) (h:L1 t v=some o):zu t o=v:=by
 unfold L1 at h
 split at h
 · split at h
   · rename_i hb
     simp only [zi] at h;subst h
     simp [zu,Sh.beq_eq _ _ hb]
   · cases h
 · split at h
   · rename_i hb
     simp only [zU] at h
     obtain ⟨ys,h1,rfl⟩:=h
     simp [zu,Sh.beq_eq _ _ hb.2,hb.1,Lh _ _ h1]
   · cases h
 · cases h
instance {α:Type} [Enc α]:Arg (On α) where
 arg x:=zu (.at zO []) x.v
 un v:=(L1 (.at zO []) v).map On.mk
 un_arg x:=by simp [Ub]
 arg_un v x h:=by
  simp only [zU] at h
  obtain ⟨o,h1,rfl⟩:=h
  exact Uh v o h1
structure Og (α:Type) where
 a:Int
 v:NL α
instance {α:Type} [Enc α]:Arg (Og α) where
 arg x:=.agg [Enc.enc x.a,zu (.at zO [1]) x.v]
 un
  | .agg [u,v]=>(Enc.dec u).bind fun a=>(L1 (.at zO [1]) v).map (Og.mk a)
  | _=>none
 un_arg x:=by simp [Ub,Enc.dec_enc]
 arg_un v x h:=by
  split at h
  · simp only [Option.bind_eq_some_iff,zU] at h
    obtain ⟨a,h0,o,h1,rfl⟩:=h
    simp [Uh _ _ h1,Enc.enc_dec _ _ h0]
  · cases h
theorem XV {α:Type} [Enc α] {t:Tok} {o:NL α}:(zu t o).ok=true:=by cases o <;> rfl
theorem Mx {α:Type} [Enc α] {t:Tok} {o:NL α}:(zu t o).mem=true:=by cases o <;> rfl
theorem Uy {α:Type} [Enc α] {t:Tok} {o:NL α}:(zu t o).shape.beq .p=true:=by cases o <;> rfl
theorem WF {α:Type} [Enc α] {r:Nat} {p:List Nat} {k:Tok} {o:NL α} (h:(k == .at r p)=false) (hn:(k == .nl)=false):(zu (.at r p) o).toks.contains k=false:=by
 cases o with
 | nil=>simp [zu,V.toks,V.tokss]
 | of xs=>
   have h1:((.of xs:NL α)) = .of xs:=rfl
   have:(zu (.at r p) (.of xs)).toks=[.at r p]:=by simp [zu,V.toks,vS]
   rw [this]
   simpa using h
theorem wk {α:Type} [Enc α] {t:Tok} {o:NL α}:(zu t o).shape = .p:=by cases o <;> rfl
theorem zY {α:Type} [Enc α] {r:Nat} {p:List Nat} {k:Tok} {o:NL α} (h:k≠.at r p):k∉(zu (.at r p) o).toks:=by
 cases o with
 | nil=>simp [zu,V.toks,V.tokss]
 | of xs=>
   have:(zu (.at r p) (.of xs)).toks=[.at r p]:=by simp [zu,V.toks,vS]
   rw [this]
   simpa using h
section
variable {D:Den} {σ:Sig} {R:(Nat→V)→Prop} {s:Nat→V} {K:(Nat→V)→Prop} {is:List I}
theorem yp:ZG s []=some []:=rfl
theorem zJ {x:O} {xs:List O} {v:V} {vs:List V} (h:x.ev s=v) (hk:v.ok=true) (hs:ZG s xs=some vs):ZG s (x :: xs)=some (v :: vs):=by
 simp only [ZG,zB h hk,hs]
theorem WC {α:Type} [Enc α] {d:Nat} {p:List Nat} {o:NL α}:V.tag d p 1 (zu .sh o)=zu (.at d p) o:=by
 cases o with
 | nil=>rfl
 | of xs=>
   simp only [zu,V.tag]
   split
   · rfl
   · congr 1
     have:∀ (xs:List α) k,V.tags d p 0 k (xs.map Enc.enc)=xs.map Enc.enc:=by
      intro xs
      induction xs with
      | nil=>intro k;rfl
      | cons x xs ih=>intro k;simp [V.tags,Enc.tag0,ih]
     exact this xs 0
theorem Xe {α:Type} [Enc α] {o:NL α}:(zu .sh o).toks=[]:=by
 cases o with
 | nil=>simp [zu,V.toks,V.tokss]
 | of xs=>rfl
theorem Mj {d:Nat} {p:List Nat} {m:Nat} {vs us:List V} (h:V.tags d p m 0 vs=us):V.tag d p m (.agg vs) = .agg us:=by simp only [V.tag,h]
theorem KH {d:Nat} {p:List Nat} {m k:Nat}:V.tags d p m k []=[]:=rfl
theorem Ys {d:Nat} {p:List Nat} {m k:Nat} {v u:V} {vs us:List V} (h:V.tag d (p++[k]) m v=u) (hs:V.tags d p m (k + 1) vs=us):V.tags d p m k (v :: vs)=u :: us:=by simp only [V.tags,h,hs]
theorem KJ {vs:List V} (h:V.tokss vs=[]):(V.agg vs).toks=[]:=by simp only [V.toks,h]
theorem yk:V.tokss []=[]:=rfl
theorem yb {v:V} {vs:List V} (h:v.toks=[]) (hs:V.tokss vs=[]):V.tokss (v :: vs)=[]:=by simp only [V.tokss,h,hs,y8]
theorem UV {d g m:Nat} {al:Bool} {as:List O} {r v:V} {kk:Nat} (vs:List V) (hv:xf as s=some (vs,s)) (hD:D kk vs=some r) (hσ:σ kk=some (m,al)) (hal:(al && !(xh s as).isEmpty)=false)
    (hr:r.toks=[]) (ht:V.tag d [] m r=v) (hok:v.ok=true) (hg:s d = .gone) (H:goK D σ is (upd s d v) K) (hmp:Nat.ble zO m=false:=by rfl) (hgm:Nat.ble YY g=false:=by rfl) (hkk:g + YY=kk:=by rfl) :
    goK D σ (⟨some d,none,false,.callO (.k (.fn g [] [])) as⟩ :: is) s K:=by
 subst ht
 subst hkk
 have h0:(V.fn g [] []).toks=[]:=by simp [V.toks,V.tokss]
 have h1:O.rd s (.k (.fn g [] []))=some (.fn g [] []):=rfl
 have hal':¬ ((al && !((xh s as).isEmpty && (V.fn g [] []).toks.isEmpty))=true):=by simp [h0];simpa using hal
 simp only [goK,xK,yC,JY,h1,hv,V.erases,List.nil_append,y8,key,zk,hD,hσ,hgm,z9,if_false]
 rw [if_neg hal']
 simp only [hr,hmp,wb,List.isEmpty_nil,List.all_nil,w5,if_true,xa,place,hok,hg,put]
 split
 · rename_i h
   split at h
   · simp only [zi] at h;subst h;exact H
   · simp at h;subst h;exact H
 · rename_i h
   split at h <;> cases h
def kdO {α:Type} [Enc α]:NL α→V
 | .nil=>.sl .nl (Enc.shp α) 0 []
 | .of _=>.dead
theorem WN {α:Type} [Enc α] {r:Nat} {p:List Nat} {o:NL α}:V.map (WP (.at r p)) (zu (.at r p) o)=kdO o:=by
 cases o with
 | nil=>simp [zu,V.map,WP,kdO,V.maps]
 | of xs=>simp [zu,V.map,WP,kdO]
theorem Mf {α:Type} [Enc α] {t:Tok} {i:Nat} {q:List Nat} {u:V} {o:NL α}:V.mut t i q u (kdO o)=kdO o:=by
 cases o with
 | nil=>cases t <;> simp [V.mut,kdO,V.muts,V.setPs]
 | of xs=>rfl
theorem L7 {α:Type} [Enc α] {o:NL α}:(kdO o).shape.beq .p=true:=by cases o <;> rfl
theorem Jt {x:Nat} {es:List E} (H:∀ s1,s1 x = .dead→(∀ t,t≠x→s1 t=s t)→epK es s1 K):epK (.drp x :: es) s K:=by
 simp only [epK,JS]
 exact H _ (by simp) (fun t ht=>zP _ _ ht)
end
structure zip (v r:V) (p:List Nat) (ts:List Tok):Prop where
 own:∃ l,V.own p 1 v=some l∧(l.map (·.2)).Sublist ts
 ret:V.ret 1 v=r
 low:V.low 1 v=[]
structure zer (vs rs:List V) (p:List Nat) (i:Nat) (ts:List Tok):Prop where
 own:∃ l,V.owns p 1 i vs=some l∧(l.map (·.2)).Sublist ts
 ret:V.rets 1 vs=rs
 low:V.lows 1 vs=[]
theorem KE {α:Type} [Enc α] {r:Nat} {p q:List Nat} {o:NL α}:zip (zu (.at r q) o) (zu .sh o) p [.at r q]:=by
 cases o with
 | nil=>exact ⟨⟨[],rfl,by simp⟩,rfl,rfl⟩
 | of xs=>
   have h0:∀ (xs:List α) k,V.owns p 0 k (xs.map Enc.enc)=some []:=by
    intro xs
    induction xs with
    | nil=>intro k;rfl
    | cons x xs ih=>intro k;simp [V.owns,Enc.own0,ih]
   have h1:∀ (xs:List α),V.lows 0 (xs.map Enc.enc)=[]:=by
    intro xs
    induction xs with
    | nil=>rfl
    | cons x xs ih=>simp [V.lows,Enc.low0,ih]
   have h2:∀ (xs:List α),V.rets 0 (xs.map Enc.enc)=xs.map Enc.enc:=by
    intro xs
    induction xs with
    | nil=>rfl
    | cons x xs ih=>simp [V.rets,Enc.ret0,ih]
   refine ⟨⟨[(p,.at r q)],?_,by simp⟩,?_,?_⟩
   · simp only [zu,V.own]
     split
     · split
       · rfl
       · rw [h0];rfl
     · rename_i h;exact absurd trivial h
   · simp only [zu,V.ret]
     split
     · rfl
     · rw [h2]
   · simp only [zu,V.low]
     split
     · rfl
     · exact h1 xs
theorem MM {k:IntKind} {n:Int} {p:List Nat}:zip (.int k n) (.int k n) p []:=⟨⟨[],rfl,by simp⟩,rfl,rfl⟩
theorem La {p:List Nat} {i:Nat}:zer [] [] p i []:=⟨⟨[],rfl,by simp⟩,rfl,rfl⟩
theorem Xd {v r:V} {vs rs:List V} {p:List Nat} {i:Nat} {ts us:List Tok} (h:zip v r (p++[i]) ts) (hs:zer vs rs p (i + 1) us):zer (v :: vs) (r :: rs) p i (ts++us):=by
 obtain ⟨l,h1,h2⟩:=h.own
 obtain ⟨l',h3,h4⟩:=hs.own
 exact ⟨⟨l++l',by simp [V.owns,h1,h3],by rw [List.map_append];exact h2.append h4⟩,by simp [V.rets,h.ret,hs.ret],by simp [V.lows,h.low,hs.low]⟩
theorem Nv {vs rs:List V} {p:List Nat} {ts:List Tok} (h:zer vs rs p 0 ts):zip (.agg vs) (.agg rs) p ts:=by
 obtain ⟨l,h1,h2⟩:=h.own
 exact ⟨⟨l,by simpa [V.own] using h1,h2⟩,by simp [V.ret,h.ret],by simp [V.low,h.low]⟩
theorem Km {v r:V} {ts:List Tok} {al:Bool} (h:zip v r [] ts) (hn:decide ts.Nodup=true) (hm:(al || v.mine)=true):fin 1 al v=some r:=by
 obtain ⟨l,h1,h2⟩:=h.own
 have hnd:(l.map (·.2)).Nodup:=h2.nodup (of_decide_eq_true hn)
 simp only [fin,h1,hnd,decide_true,h.low,hm,h.ret]
 simp
def NL.set {α:Type} (o:NL α) (i:Nat) (b:α):NL α:=match o with
 | .nil=>.nil
 | .of xs=>.of (xs.set i b)
section
variable {P:Program}
end
section
variable {D:Den} {σ:Sig} {s s0 s1:Nat→V} {K:(Nat→V)→Prop} {is:List I}
theorem zgg {k:Tok}:Zs [k]=WP k:=by
 funext k'
 unfold Zs WP
 by_cases e:k'=k
 · subst e;simp
 · have h1:[k].contains k'=false:=by simpa using e
   have h2:(k' == k)=false:=by simpa using e
   rw [h1,h2]
end
def zok {α:Type}:NL α→Option (List α)
 | .nil=>none
 | .of xs=>some xs
theorem zkG {α:Type} {o:NL α} {xs:List α} (h:zok o=some xs):o = .of xs:=by
 cases o with
 | nil=>cases h
 | of ys=>cases h;rfl
theorem N4 {α:Type} [Enc α] {s:Nat→V} {x:O} {lo hi:Option O} {e r:Nat} {p:List Nat} {xs ys:List α} {a b:Int} (hx:x.ev s=zu (.at r p) (.of xs)) (hl:zb2 s 0 lo a) (hh:zb2 s xs.length hi b) (h:sub xs a b=some ys)
    (he:(Enc.shp α).size=e):yf s (.slice x lo hi e)=some (.sl (.at r p) (Enc.shp α) a.toNat (ys.map Enc.enc)):=by
 unfold sub at h
 split at h
 · rename_i hb
   simp only [zi] at h;subst h
   have hx':x.ev s = .sl (.at r p) (Enc.shp α) 0 (xs.map Enc.enc):=hx
   simp only [yf,zB hx' rfl,Ky hl hb.1,Zk]
   rw [Ky hh (by omega)]
   simp only [he]
   rw [if_pos (by simp [Tok.isBx];omega)]
   simp [List.map_take,List.map_drop]
 · cases h
abbrev TF:=Nat→Nat×List Nat
def tk (x:Nat×List Nat):Tok:=.at x.1 x.2
section
variable {α:Type} [Enc α]
def zga (T:TF):Nat→List (NL α)→List V
 | _,[]=>[]
 | k,o :: os=>zu (tk (T k)) o :: zga T (k + 1) os
def zhz (r:Nat) (p:List Nat):TF:=fun k=>(r,p++[k])
def Nw (r:Nat) (p:List Nat):NL (NL α)→V
 | .nil=>.sl .nl .p 0 []
 | .of os=>.sl (.at r p) .p 0 (zga (zhz r p) 0 os)
theorem J7 {r:Nat} {p:List Nat} {o:NL (NL α)}:(Nw r p o).shape = .p:=by cases o <;> rfl
end
section
variable {α:Type}
end
section
variable {α:Type} [Enc α]
end
section
variable {D:Den} {σ:Sig} {R:(Nat→V)→Prop} {s:Nat→V} {K:(Nat→V)→Prop} {is:List I}
variable {α:Type} [Enc α]
end
/-! ## results two lists deep -/
section
variable {α:Type} [Enc α]
end
structure zwv (v r:V) (p:List Nat) (ts:List Nat):Prop where
 own:∃ l,V.own p 2 v=some l∧(l.map (·.2)).Nodup∧∀ y∈l,∃ r∈ts,y.2.root?=some r
 ret:V.ret 2 v=r
 low:V.low 2 v=[]
structure zws (vs rs:List V) (p:List Nat) (i:Nat) (ts:List Nat):Prop where
 own:∃ l,V.owns p 2 i vs=some l∧(l.map (·.2)).Nodup∧∀ y∈l,∃ r∈ts,y.2.root?=some r
 ret:V.rets 2 vs=rs
 low:V.lows 2 vs=[]
section
variable {α:Type}
end
section
variable {α:Type} [Enc α]
end
/-! ## marks -/
structure On2 (α:Type) where
 v:NL (NL α)
section
variable {α:Type} [Enc α]
def zdT (T:TF):Nat→List V→Option (List (NL α))
 | _,[]=>some []
 | k,v :: vs=>match L1 (tk (T k)) v,zdT T (k + 1) vs with
   | some o,some os=>some (o :: os)
   | _,_=>none
def NE (r:Nat) (p:List Nat):V→Option (NL (NL α))
 | .sl t h lo vs=>if t = .nl then (if h.beq .p=true∧lo=0∧vs.isEmpty=true then some .nil else none)
   else if t = .at r p∧h.beq .p=true∧lo=0 then (zdT (zhz r p) 0 vs).map .of else none
 | _=>none
theorem MZ {T:TF}:∀ (os:List (NL α)) (k:Nat),zdT T k (zga T k os)=some os
 | [],k=>rfl
 | o :: os,k=>by
   have h1:L1 (tk (T k)) (zu (tk (T k)) o)=some o:=Ub o
   simp only [zga,zdT,h1,MZ os (k + 1)]
theorem M1 {T:TF}:∀ (vs:List V) (k:Nat) (os:List (NL α)),zdT T k vs=some os→zga T k os=vs
 | [],k,os,h=>by simp [zdT] at h;subst h;rfl
 | v :: vs,k,os,h=>by
   simp only [zdT] at h
   split at h
   · rename_i o os' h1 h2
     simp only [zi] at h;subst h
     simp only [zga,Uh _ _ h1,M1 vs (k + 1) os' h2]
   · cases h
instance:Arg (On2 α) where
 arg x:=Nw zO [] x.v
 un v:=(NE zO [] v).map On2.mk
 un_arg x:=by
  obtain ⟨o⟩:=x
  cases o with
  | nil=>simp [Nw,NE,Sh.beq]
  | of os=>simp [Nw,NE,Sh.beq,MZ]
 arg_un v x h:=by
  simp only [zU] at h
  obtain ⟨o,h1,rfl⟩:=h
  unfold NE at h1
  split at h1
  · rename_i t g lo vs
    split at h1
    · rename_i ht
      subst ht
      split at h1
      · rename_i hc
        simp only [zi] at h1;subst h1
        obtain ⟨hb,rfl,he⟩:=hc
        have hb:=Sh.beq_eq _ _ hb
        have he:vs=[]:=by simpa using he
        subst hb;subst he;rfl
      · cases h1
    · split at h1
      · rename_i hc
        simp only [zU] at h1
        obtain ⟨os,h2,rfl⟩:=h1
        obtain ⟨rfl,hb,rfl⟩:=hc
        have hb:=Sh.beq_eq _ _ hb
        subst hb
        simp only [Nw,M1 _ _ _ h2]
      · cases h1
  · cases h1
end
section
variable {α:Type}
end
section
variable {α:Type} [Enc α]
end
section
variable {α:Type} [Enc α]
end
section
variable {α:Type}
end
section
variable {α:Type} [Enc α]
end
theorem UH {k j:Nat} {u:V} {vs us:List V} (h:V.muts (.bx k) 0 [j] u vs=vs) (hu:vs.set j u=us:=by rfl):V.mut (.bx k) 0 [j] u (.ref (.bx k) 0 [] (.agg vs)) = .ref (.bx k) 0 [] (.agg us):=by
 simp only [V.mut,h,V.seen,V.setP,LC,hu,and_self,if_true,true_or]
/-! ## lists of lists in structs -/
structure Od (α β:Type) where
 a:NL (NL α)
 v:NL β
theorem zi1 {α:Type} [Enc α] {r:Nat} {p:List Nat} (o:NL (NL α)):NE r p (Nw r p o)=some o:=by
 cases o with
 | nil=>simp [Nw,NE,Sh.beq]
 | of os=>simp [Nw,NE,Sh.beq,MZ]
theorem zhg {α:Type} [Enc α] {r:Nat} {p:List Nat} (v:V) (o:NL (NL α)) (h:NE r p v=some o):Nw r p o=v:=by
 unfold NE at h
 split at h
 · split at h
   · rename_i e
     split at h
     · rename_i hb
       simp only [zi] at h;subst h
       have h1:=Sh.beq_eq _ _ hb.1
       have h2:∀ l:List V,l.isEmpty=true→l=[]:=by intro l hl;cases l <;> simp_all
       rw [e,h1,hb.2.1,h2 _ hb.2.2];rfl
     · cases h
   · split at h
     · rename_i hb
       simp only [zU] at h
       obtain ⟨os,h2,rfl⟩:=h
       have h1:=Sh.beq_eq _ _ hb.2.1
       rw [hb.1,h1,hb.2.2]
       simp only [Nw,M1 _ _ _ h2]
     · cases h
 · cases h
instance {α β:Type} [Enc α] [Enc β]:Arg (Od α β) where
 arg x:=.agg [Nw zO [0] x.a,zu (.at zO [1]) x.v]
 un
  | .agg [u,v]=>(NE zO [0] u).bind fun a=>(L1 (.at zO [1]) v).map (Od.mk a)
  | _=>none
 un_arg x:=by simp [Ub,zi1]
 arg_un v x h:=by
  split at h
  · simp only [Option.bind_eq_some_iff,zU] at h
    obtain ⟨a,h0,o,h1,rfl⟩:=h
    simp [Uh _ _ h1,zhg _ _ h0]
  · cases h
section
variable {α β:Type} [Enc α] [Enc β]
end
section
variable {α β:Type}
end
section
variable {α β:Type} [Enc α] [Enc β]
end
section
variable {α β:Type}
end
section
variable {α β:Type} [Enc α] [Enc β]
end
section
variable {α β:Type}
end
section
variable {α β:Type} [Enc α] [Enc β]
end
section
variable {α β:Type}
end
section
variable {α β:Type} [Enc α] [Enc β]
end
section
variable {α β:Type}
end
section
variable {α β:Type} [Enc α] [Enc β]
end
section
variable {α β:Type}
end
section
variable {α β:Type} [Enc α] [Enc β]
end
section
variable {α β:Type}
end
section
variable {α β:Type} [Enc α] [Enc β]
end
section
variable {α β:Type}
end
section
variable {α β:Type} [Enc α] [Enc β]
end
section
variable {α β:Type} [Enc β]
end
section
variable {α β:Type} [Enc α] [Enc β]
end
def cst (v:V) (_:Nat):V:=v
section
variable {D:Den} {σ:Sig} {R:(Nat→V)→Prop} {s:Nat→V} {K:(Nat→V)→Prop} {is:List I}
theorem gm {d t:Nat} {l:Bool} {u:V} (h:s t=u) (H:cst u d=u→goK D σ is (upd s d u) K) (hk:u.ok=true:=by rfl):goK D σ (⟨some d,none,l,.v (.mov (.t t))⟩ :: is) s K:=
 g_v u (W3 h hk) (H rfl)
theorem gv {d:Nat} {l:Bool} {a:A} (v:V) (h:yf s a=some v) (H:cst v d=v→goK D σ is (upd s d v) K):goK D σ (⟨some d,none,l,.v a⟩ :: is) s K:=
 g_v v h (H rfl)
theorem g0 {d:Nat} {l:Bool} {a:A} (v:V) (H:cst v d=v→goK D σ is (upd s d v) K) (he:yf (fun _=>.dead) a=some v:=by rfl) (hr:a.rds=[]:=by rfl):goK D σ (⟨some d,none,l,.v a⟩ :: is) s K:=
 zwi v he hr (H rfl)
theorem g1 {d:Nat} {l:Bool} {a:A} (t:Nat) {u:V} (v:V) (h:s t=u) (H:cst v d=v→goK D σ is (upd s d v) K) (he:yf (fun _=>u) a=some v:=by rfl) (hr:(a.rds.all fun k=>k == t)=true:=by rfl):goK D σ (⟨some d,none,l,.v a⟩ :: is) s K:=
 zwf v h he hr (H rfl)
theorem g2 {d:Nat} {l:Bool} {a:A} (t1 t2:Nat) {u1 u2:V} (v:V) (h1:s t1=u1) (h2:s t2=u2) (H:cst v d=v→goK D σ is (upd s d v) K) (he:yf (fun k=>if k=t1 then u1 else u2) a=some v:=by rfl) (hr:(a.rds.all fun k=>k == t1 || k == t2)=true:=by rfl) :
    goK D σ (⟨some d,none,l,.v a⟩ :: is) s K:=
 zva v h1 h2 he hr (H rfl)
theorem gz (L:List (Nat×V)) (h:zr L s) (H:∀ s',zr L s'→K s'):goK D σ [] s (fun s1=>epK [] s1 K):=H s h
theorem rg {k:List Fr} {ep:List E} (h:goK D σ is s fun s1=>epK ep s1 (Run D σ R (.nrm k))):Run D σ R (.run (.reg [] is ep) k) s:=zw (zqJ h)
theorem ez (L:List (Nat×V)) (h:zr L s) (H:∀ s',zr L s'→K s'):epK [] s K:=H s h
theorem gq {k:List Fr} (H:Run D σ R (.nrm k) s):goK D σ [] s (fun s1=>epK [] s1 (Run D σ R (.nrm k))):=H
theorem mi {f:Tok→Option Tok} {k:IntKind} {n:Int}:V.map f (.int k n) = .int k n:=rfl
theorem mb {f:Tok→Option Tok} {b:Bool}:V.map f (.bool b) = .bool b:=rfl
theorem me {α:Type} [Enc α] {f:Tok→Option Tok} {x:α}:V.map f (Enc.enc x)=Enc.enc x:=Enc.map_enc f x
end
def ent {α γ:Type} [Y5 α] (g:Nat) (f:α→Option γ) (t:γ→V) (m:Nat) (al:Bool) (sel:List (Nat×Nat)):Ent:=⟨g,da f t,m,al,zsY sel⟩
theorem zS {α γ:Type} [Y5 α] {g:Nat} {f:α→Option γ} {t:γ→V} {m:Nat} {al:Bool} {sel:List (Nat×Nat)} (x:α) {r:γ} (h:f x=some r):(ent g f t m al sel).den (Y5.args x)=some (t r):=znF x h
abbrev ji (n:Int):V:=.int .i64 n
abbrev jb (b:Bool):V:=.bool b
abbrev eL (x:List Int):V:=Enc.enc x
abbrev oI (r:Nat) (p:List Nat) (o:NL Int):V:=zu (.at r p) o
abbrev jv (d:Nat) (a:A):I:=⟨some d,none,false,.v a⟩
abbrev jm (d t:Nat):I:=⟨some d,none,false,.v (.mov (.t t))⟩
abbrev jg (d j:Nat) (b:Bool) (a:A):I:=⟨some d,some (j,b),false,.v a⟩
abbrev jn (n:Int):O:=.k (.int .i64 n)
section
variable {P:Program}
def RT (P:Program) (rs:List ResultVar) (r:V) (us:List V) (s:Nat→V):Prop:=NI P s rs=some r∧∀ u∈us,∃ t,s t=u
theorem zas {D:Den} {σ:Sig} (hF:zG P D σ) (hm:P.follows .mixedOrders=true) {f:Nat} {fn:Func} {c:Code} (hf:P.funcs[f]?=some fn) (hb:fn.body=some c) {an:List An} {A:AC} (hc:cC P fn.ntmps an c=some A)
    {args:List V} {r:V} {us:List V} (hok:args.all V.ok=true) (hn:args.length≤fn.ntmps) (hnt:Nat.ble fn.ntmps zO=true)
    (h:A.wp D σ (fun e s=>(e = .nrm∨e = .ret)∧RT P fn.results.toList r us s) (init args)):Qr P f args r us:=by
 intro w S τ vals hS hr hk hinj hru
 have hI:=zf5 hS hr hk hinj hok hn (Nat.le_of_ble_eq_true hnt)
 refine calls_of_wp hf hb (zc0 hF hm c A _ _ _ _ _ _ _ hc hI h ?_)
 rintro e s a w' S' τ' ⟨he,hres,hus⟩ hI'
 obtain ⟨cv,h1,h2,h3⟩:=LL fn _ r rfl hres hI'
 have post:∃ S',Bel (fun b=>w.heap.size≤b∨∃ k∈V.tokss args,(τ k).b=b) w w'∧zK w' S' τ r cv ∧
     (∀ b,S' b→b < w'.heap.size∧(S b∨w.heap.size≤b∨∃ k∈V.tokss args,(τ k).b=b)) ∧
     ∀ u∈us,(∀ k∈u.toks,k.pinned=true)→(∀ k∈u.toks,¬ S' (τ k).b)∧∃ c,zK w' S' τ u c:=by
  refine ⟨S',hI'.below,xU (w:=w') (fun b hb=>⟨hb,rfl⟩) _ _ h2 (by rw [hru];intro k hk;cases hk),fun b hb=>⟨hI'.sbd b hb,hI'.sfr b hb⟩,?_⟩
  intro u hu hp
  obtain ⟨t,ht⟩:=hus u hu
  have hpin:∀ k∈u.toks,τ' k=τ k:=fun k hk=>hI'.pin t k (by rw [ht];exact hk) (hp k hk)
  refine ⟨fun k hk=>by rw [← hpin k hk];exact (hI'.own t k (by rw [ht];exact hk)).2.2,a.eval (.tmp t),?_⟩
  have h4:=hI'.told t
  rw [ht] at h4
  exact xU (w:=w') (fun b hb=>⟨hb,rfl⟩) _ _ h4 fun k hk=>⟨(hpin k hk).symm,rfl⟩
 obtain ⟨S2,post⟩:=post
 rcases he with rfl | rfl
 · exact ⟨hI'.defers,cv,h1,cv,S2,rfl,post⟩
 · exact ⟨hI'.defers,cv,h1,cv,S2,rfl,post⟩
theorem NA {D:Den} {σ:Sig} (hF:zG P D σ) (hm:P.follows .mixedOrders=true) {f:Nat} {fn:Func} {c:Code} (hf:P.funcs[f]?=some fn) (hb:fn.body=some c) {an:List An} {A:AC} (hc:cC P fn.ntmps an c=some A)
    {al:Bool} {args:List V} {r:V} {us:List V} (hok:args.all V.ok=true) (hn:args.length≤fn.ntmps) (hnt:Nat.ble fn.ntmps zO=true)
    (h:Run D σ (RT P fn.results.toList r us) (.run A []) (init args)):w3 P f uK al args (.tup [r,.tup us]):=by
 have h1:=zas hF hm hf hb hc hok hn hnt (zcT h)
 unfold w3
 rw [if_neg (by decide),if_neg (by decide),if_pos rfl]
 intro r' us' e
 simp only [V.tup.injEq,List.cons.injEq,and_true] at e
 obtain ⟨rfl,rfl⟩:=e
 exact h1
end
def grE (p q:Nat) (cw cd:V):List V:=[.ref .sh 0 [] cw,.ref .sh 0 [] cd,.ref (.bx p) 0 [] .dead,.ref (.bx q) 0 [] .dead]
def grV (p q g:Nat) (cw cd:V):V:=.ref (.bx q) 0 [] (.fn g [] (grE p q cw cd))
def grL (p r:Nat) (ρ:List Nat) (xs:List Int):V:=.ref (.bx p) 0 [] (zu (.at r ρ) (.of xs))
structure Pb where
 v:List Int
instance:Arg Pb where
 arg x:=grL zO (zO + 1) [] x.v
 un
  | .ref t i q c=>if t = .bx zO∧i=0∧q=[] then (match (L1 (.at (zO + 1) []) c:Option (NL Int)) with
    | some (.of xs)=>some ⟨xs⟩
    | _=>none) else none
  | _=>none
 un_arg x:=by simp [grL,Ub]
 arg_un v x h:=by
  split at h
  · split at h
    · rename_i e
      obtain ⟨rfl,rfl,rfl⟩:=e
      split at h
      · rename_i xs hd
        simp only [zi] at h;subst h
        simp only [grL,Uh _ _ hd]
      · cases h
    · cases h
  · cases h
structure Gb (g:Nat) (α β:Type) where
 a:α
 b:β
instance {g:Nat} {α β:Type} [Arg α] [Arg β]:Arg (Gb g α β) where
 arg x:=grV zO (zO + 2) g (Arg.arg x.a) (Arg.arg x.b)
 un
  | .ref t i q (.fn g' [] [.ref t1 i1 q1 va,.ref t2 i2 q2 vb,.ref t3 i3 q3 .dead,.ref t4 i4 q4 .dead])=>
    if t = .bx (zO + 2)∧i=0∧q=[]∧g'=g∧t1 = .sh∧i1=0∧q1=[]∧t2 = .sh∧i2=0∧q2=[]∧t3 = .bx zO∧i3=0∧q3=[]∧t4 = .bx (zO + 2)∧i4=0∧q4=[] then
     (Arg.un va).bind fun x=>(Arg.un vb).map fun y=>⟨x,y⟩ else none
  | _=>none
 un_arg x:=by simp [grV,grE,Arg.un_arg]
 arg_un v x h:=by
  split at h
  · split at h
    · rename_i e
      obtain ⟨rfl,rfl,rfl,rfl,rfl,rfl,rfl,rfl,rfl,rfl,rfl,rfl,rfl,rfl,rfl,rfl⟩:=e
      simp only [Option.bind_eq_some_iff,zU] at h
      obtain ⟨y,h1,z,h2,rfl⟩:=h
      simp only [grV,grE,Arg.arg_un _ _ h1,Arg.arg_un _ _ h2]
    · cases h
  · cases h
section
variable {D:Den} {σ:Sig} {s:Nat→V} {K:(Nat→V)→Prop} {is:List I}
def ndR (r:Nat):V→Bool
 | .ref (.bx r') _ [] _=>!(Nat.beq r' r)
 | _=>true
theorem zg1 {ks:List Tok} {l:List (Nat×Nat×List Nat×V)} {v:V} (hl:∀ e∈l,e.2.2.1=[]∧ndR e.1 v=true):upG ks l v=V.map (Zs ks) v:=by
 rcases W0 (ks:=ks) (l:=l) v with ⟨e,he,c,rfl,_⟩ | h1
 · obtain ⟨h2,h3⟩:=hl e he
   rw [h2] at h3;simp [ndR] at h3
 · exact h1
structure Cu (α:Type) where
 v:α
def cuV {α:Type} [Enc α] (r:Nat) (x:α):V:=.ref (.bx r) 0 [] (Enc.enc x)
instance {α:Type} [Enc α]:Arg (Cu α) where
 arg x:=cuV zO x.v
 un
  | .ref t i q c=>if t = .bx zO∧i=0∧q=[] then (Enc.dec c).map fun x=>⟨x⟩ else none
  | _=>none
 un_arg x:=by simp [cuV,Enc.dec_enc]
 arg_un v x h:=by
  split at h
  · split at h
    · rename_i e
      obtain ⟨rfl,rfl,rfl⟩:=e
      simp only [zU] at h
      obtain ⟨y,h1,rfl⟩:=h
      simp only [cuV,Enc.enc_dec _ _ h1]
    · cases h
  · cases h
theorem Wl {α:Type} [Enc α] {r:Nat} {x:α}:(cuV r x).toks=[.bx r]:=by simp only [cuV,V.toks,Enc.toks_enc]
theorem vf {α:Type} [Enc α] {d b g r:Nat} {as:List O} {vs:List V} {x x':α} {res:V} {al:Bool} (hb:s b=cuV r x) (hvs:ZG s as=some (cuV r x :: vs)) (h0:V.tokss vs=[]) (hvm:∀ f,V.maps f vs=vs)
    (hD:D g (cuV zO x :: vs)=some (.tup [res,.tup [cuV zO x']])) (hσ:σ g=some (uK,al)) (hr:res.toks=[]) (hok:res.ok=true)
    (H:∀ s1,(∀ t,s t=cuV r x→s1 t=cuV r x')→(∀ t v u,s t=v→ndR r v=true→V.map (WP (.bx r)) v=u→s1 t=u)→goK D σ is (upd s1 d res) K) (hgm:Nat.ble YY g=false:=by rfl) :
    goK D σ (⟨some d,none,false,.callT (.k (.fn g [] [])) as [b] []⟩ :: is) s K:=by
 have hrd:O.rd s (.k (.fn g [] []))=some (.fn g [] []):=rfl
 have hks:yB s ([b]++[])=[.bx r]:=by
  simp only [yB,y8,List.flatMap_cons,List.flatMap_nil,hb,Wl,y8]
 have hn1:Za [.bx r] (.bx r)=some (.bx zO):=by
  simp [Za,zc5,List.findIdx?_cons]
 have hko:∀ k∈[Tok.bx r],k≠.nl∧k≠.sh:=by
  intro k hk
  simp only [z4,List.not_mem_nil,or_false] at hk
  subst hk;exact ⟨by simp,by simp⟩
 have hb1:=Lj hko (by simp) hn1
 have hmap:V.maps (Za [.bx r]) (cuV r x :: vs)=cuV zO x :: vs:=by
  simp only [V.maps,hvm,cuV,V.map,hn1,Enc.map_enc]
 have hall:(!((V.tokss ((cuV r x :: vs)++[].map (Z1 s [b]))).all (yB s ([b]++[])).contains && [].all V.one && [].all fun e=>(s e).ok))=false:=by
  rw [hks]
  simp only [List.map_nil,y8,V.tokss,Wl,h0]
  simp
 have hback:XE s [.bx r] [b] [cuV zO x']=some [(r,0,[],cuV r x')]:=by
  simp only [XE,hb,cuV,hb1,and_self,if_true,yx,V.map,Enc.map_enc]
 simp only [goK,xK,yC,Kg,WU,hrd,hvs,hall,z9,if_false,key,zh]
 rw [hks]
 simp only [List.map_nil,y8]
 rw [hmap,hD,hσ]
 simp only [hgm,Nat.beq_refl,wb,zL,hr,hok,List.isEmpty_nil,hback]
 have hpin:([cuV zO x'].all fun u=>u.toks.all Tok.pinned)=true:=by
  simp only [List.all_cons,List.all_nil,Wl]
  decide
 rw [hpin]
 simp only [w5,if_true,put]
 simp only [yx]
 refine H _ ?_ ?_
 · intro t ht;rw [ht];simp [upG,cuV]
 · intro t v u hv hd hm
   rw [← zgg] at hm
   rw [hv,zg1 (by simp [hd]),hm]
def uL:Nat:=zO + 1
structure Oh (α:Type) where
 a:Int
 v:List α
instance {α:Type} [Enc α]:Arg (Oh α) where
 arg x:=.agg [.int .i64 x.a,zu (.at uL []) (.of x.v)]
 un
  | .agg [.int .i64 n,c]=>(match (L1 (.at uL []) c:Option (NL α)) with
    | some (.of xs)=>some ⟨n,xs⟩
    | _=>none)
  | _=>none
 un_arg x:=by simp [Ub]
 arg_un v x h:=by
  split at h
  · split at h
    · rename_i h1
      simp only [zi] at h;subst h
      simp only [Uh _ _ h1]
    · cases h
  · cases h
theorem zn1 {α β:Type} [Enc α] [Enc β] {d b e g r q:Nat} {ρ:List Nat} {as:List O} {x x':α} {n:Int} {xs:List β} {res:V} {al:Bool} (hb:s b=cuV r x) (he:s e = .agg [.int .i64 n,zu (.at q ρ) (.of xs)])
    (hvs:ZG s as=some [cuV r x,.agg [.int .i64 n,zu (.at q ρ) (.of xs)]])
    (hD:D g [cuV zO x,.agg [.int .i64 n,zu (.at uL []) (.of xs)]]=some (.tup [res,.tup [cuV zO x']])) (hσ:σ g=some (uK,al)) (hr:res.toks=[]) (hok:res.ok=true)
    (H:∀ s1,(∀ t,s t=cuV r x→s1 t=cuV r x')→(∀ t v u,s t=v→ndR r v=true→V.map (Zs [.bx r,.at q ρ]) v=u→s1 t=u)→goK D σ is (upd s1 d res) K) (hgm:Nat.ble YY g=false:=by rfl) :
    goK D σ (⟨some d,none,false,.callT (.k (.fn g [] [])) as [b] [e]⟩ :: is) s K:=by
 have hrd:O.rd s (.k (.fn g [] []))=some (.fn g [] []):=rfl
 have hok2:(V.agg [.int .i64 n,zu (.at q ρ) (.of xs)]).ok=true:=rfl
 have ht:(zu (.at q ρ) (.of xs:NL β)).toks=[.at q ρ]:=z8
 have hn2:Za [.bx r,.at q ρ] (.at q ρ)=some (.at uL []):=by
  simp [Za,zc5,List.findIdx?_cons,uL]
 have hn1:Za [.bx r,.at q ρ] (.bx r)=some (.bx zO):=by
  simp [Za,zc5,List.findIdx?_cons]
 have hks:yB s ([b]++[e])=[.bx r,.at q ρ]:=by
  simp only [yB,Xn,List.nil_append,List.flatMap_cons,List.flatMap_nil,hb,he,Wl,V.toks,V.tokss,ht,y8]
 have hko:∀ k∈[Tok.bx r,.at q ρ],k≠.nl∧k≠.sh:=by
  intro k hk
  simp only [z4,List.not_mem_nil,or_false] at hk
  rcases hk with rfl | rfl <;> exact ⟨by simp,by simp⟩
 have hb1:=Lj hko (by simp) hn1
 have hmap:V.maps (Za [.bx r,.at q ρ]) [cuV r x,.agg [.int .i64 n,zu (.at q ρ) (.of xs)]]=[cuV zO x,.agg [.int .i64 n,zu (.at uL []) (.of xs)]]:=by
  simp only [V.maps,cuV,V.map,hn1,Enc.map_enc,zl (o:=(.of xs:NL β)) hn2 (show Za [.bx r,.at q ρ] .nl=some .nl from rfl)]
 have hall:(!((V.tokss ([cuV r x,.agg [.int .i64 n,zu (.at q ρ) (.of xs)]]++[].map (Z1 s [b]))).all (yB s ([b]++[e])).contains && [].all V.one && [e].all fun e=>(s e).ok))=false:=by
  rw [hks]
  simp only [List.map_nil,y8,V.tokss,Wl,V.toks,List.nil_append,List.all_cons,List.all_nil,Bool.and_true,he,hok2,ht,Xn]
  simp
 have hback:XE s [.bx r,.at q ρ] [b] [cuV zO x']=some [(r,0,[],cuV r x')]:=by
  simp only [XE,hb,cuV,hb1,and_self,if_true,yx,V.map,Enc.map_enc]
 simp only [goK,xK,yC,Kg,WU,hrd,hvs,hall,z9,if_false,key,zh]
 rw [hks]
 simp only [List.map_nil,y8]
 rw [hmap,hD,hσ]
 simp only [hgm,Nat.beq_refl,wb,zL,hr,hok,List.isEmpty_nil,hback]
 have hpin:([cuV zO x'].all fun u=>u.toks.all Tok.pinned)=true:=by
  simp only [List.all_cons,List.all_nil,Wl]
  decide
 rw [hpin]
 simp only [w5,if_true,put]
 simp only [yx]
 refine H _ ?_ ?_
 · intro t ht;rw [ht];simp [upG,cuV]
 · intro t v u hv hd hm
   rw [hv,zg1 (by simp [hd]),hm]
theorem zjD {x q:Nat} {p:List Nat} {es:List E} {v:V} (hx:s x=v) (hk:v.ok=true) (H:∀ s1,(∀ t u u',s t=u→V.map (Lb x [([],.at q p)]) u=u'→s1 t=u')→epK es s1 K) (hp:Nat.ble zO x=false:=by rfl):epK (.ren x q p :: es) s K:=by
 have:JS s (.ren x q p)=some (Wf (Lb x [([],.at q p)]) s):=by
  simp only [JS,hx,hp]
  cases v <;> first | (simp [V.ok] at hk;done) | rfl
 simp only [epK,this]
 exact H _ fun t u u' h1 h2=>by simp only [Wf,h1,h2]
theorem Lt:∀ {L:List (Nat×V)},zr L s→∀ p∈L,s p.1=p.2
 | [],_,p,hp=>by cases hp
 | [(t,v)],h,p,hp=>by
   rw [vv] at hp;subst hp;exact h
 | (t,v) :: q :: L,h,p,hp=>by
   rcases z4.1 hp with rfl | hp
   · exact h.1
   · exact Lt (L:=q :: L) h.2 p hp
theorem zb5 {ks:List Tok} {r:Nat} (h:∀ k∈ks,k≠.bx r):(ks.all fun k=>!([Tok.bx r].contains k))=true:=by
 rw [yw]
 intro k hk
 have:=h k hk
 simp [this]
theorem Mw {α:Type} [Enc α] (h:∀ x:α,(Enc.enc x:V).live=true):∀ xs:List α,V.lives (xs.map Enc.enc)=true
 | []=>rfl
 | x :: xs=>by simp only [List.map_cons,V.lives,h x,Mw h xs,w5]
theorem vt {α:Type} [Enc α] {xs:List α}:(Enc.enc xs:V).live=true:=rfl
theorem ZR {α:Type} [Enc α] (h:∀ x:α,(Enc.enc x:V).live=true) {r:Nat} {p:List Nat} {o:NL α}:(zu (.at r p) o).live=true:=by
 cases o with
 | nil=>simp [zu,V.live,V.lives]
 | of xs=>simp [zu,V.live,Mw h]
theorem Y8 {α:Type} [Enc α] {r q:Nat} {p:List Nat} {o:NL α}:(∀ k∈(zu (.at r p) o).toks,k≠.bx q)=True:=by
 cases o with
 | nil=>simp [zu,V.toks,V.tokss]
 | of xs=>
   have:(zu (.at r p) (.of xs)).toks=[.at r p]:=by simp [zu,V.toks,vS]
   simp [this]
theorem LE {α:Type} [Enc α] {d b r:Nat} {l:Bool} {a:A} {x:α} (v:V) (hb:s b=cuV r x) (h:yf s a=some v) (L:List (Nat×V)) (hL:zr L s) (hr:(a.rds.all fun k=>L.any fun x=>x.1 == k)=true)
    (ht:∀ p∈L,p.2.live=true∧∀ k∈p.2.toks,k≠.bx r) (hv:∀ k∈v.toks,k≠.bx r∧∃ p∈L,k∈p.2.toks) (H:goK D σ is (upd s d v) K) (hq:(L.all fun x=>a.rds.contains x.1)=true:=by rfl):goK D σ (⟨some d,none,l,.vN a [b]⟩ :: is) s K:=by
 have hks:yB s [b]=[.bx r]:=by
  simp only [yB,List.flatMap_cons,List.flatMap_nil,hb,Wl,y8]
 have h1:(a.rds.all fun t=>(s t).live && (s t).toks.all fun k=>!([Tok.bx r].contains k))=true:=by
  rw [yw] at hr ⊢
  intro t htr
  have h2:=hr t htr
  rw [Xi] at h2
  obtain ⟨p,hp,e⟩:=h2
  have e:p.1=t:=by simpa using e
  rw [← e,Lt hL p hp,(ht p hp).1]
  exact zb5 (ht p hp).2
 have h2:(v.toks.all fun k=>!([Tok.bx r].contains k) && a.rds.any fun t=>(s t).toks.contains k)=true:=by
  rw [yw]
  intro k hk
  obtain ⟨h3,p,hp,h4⟩:=hv k hk
  rw [zq,Xi]
  refine ⟨yw.1 (zb5 fun k hk=>(hv k hk).1) k hk,p.1,?_,?_⟩
  · exact wi.1 (yw.1 hq p hp)
  · rw [Lt hL p hp];exact wi.2 h4
 simp only [goK,xK,yC,h,hks,h1,h2,w5,if_true,put]
 exact H
theorem Ye {a:A} {v:V} (L:List (Nat×V)) (hs:zr L s) (hr:(a.rds.all fun k=>L.any fun x=>x.1 == k)=true) (he:yf (Lp L) a=some v):yf s a=some v:=by
 rw [uU (s2:=Lp L) fun k hk=>KF L s hs k (yw.1 hr k hk)];exact he
theorem zcn {α:Type} [Enc α] {v:V} {n:Int} {k:Tok} {o:NL α} {xs:List α} (h:zok o=some xs) (hs:v = .agg [.int .i64 n,zu k o]):v = .agg [.int .i64 n,zu k (.of xs)]:=by rw [hs,zkG h]
theorem KU {α:Type} [Enc α] {d:Nat} {z:V} {len:Nat} {ps:List (Nat×Nat×O)} (L:List (Nat×V)) (xs:List α) (hs:zr L s) (h:xy (Lp L) ps (List.replicate len z)=some (xs.map Enc.enc)) (hz:z.shape=Enc.shp α)
    (hr:((ps.flatMap fun p=>p.2.2.rds).all fun k=>L.any fun x=>x.1 == k)=true) (hg:s d = .gone)
    (H:∀ s1,s1 d=Enc.enc xs→(∀ t,t≠d→s1 t=s t)→goK D σ is s1 K):goK D σ (⟨some d,none,false,.litS z len ps⟩ :: is) s K:=by
 have h1:xy s ps (List.replicate len z)=some (xs.map Enc.enc):=by
  rw [wY (s2:=Lp L) fun k hk=>KF L s hs k (yw.1 hr k hk)];exact h
 simp only [goK,xK,yC,h1,hg]
 refine H _ ?_ ?_
 · rw [upd_same,hz]
   exact vJ (p:=[]) (xs:=xs)
 · intro t ht
   exact zP _ _ ht
theorem rt0 {P:Program} {c:V} {t:Nat} (h0:s t=c):RT P [] (.tup []) [c] s:=⟨rfl,fun u hu=>by
 simp only [z4,List.not_mem_nil,or_false] at hu
 subst hu;exact ⟨t,h0⟩⟩
theorem rt1 {P:Program} {x:ResultVar} {r c:V} {t:Nat} (h:Jr P s x=some r) (h0:s t=c):RT P [x] r [c] s:=⟨by simp only [NI,h],(rt0 (P:=P) h0).2⟩
end
abbrev LI:=List Int
abbrev TP:=List (Int×Int)
abbrev GR:=Int×List (Int×Int)
abbrev LB:=List (Kd .u8)
abbrev CU:=S3 (List (Kd .u8)) Int (Kd .u64)
abbrev CC:=Cu CU
abbrev cu (a:LB) (b c:Int):CC:=Cu.mk (S3.mk a b (Kd.mk c))
abbrev eP (x:TP):V:=Enc.enc x
abbrev eB (x:LB):V:=Enc.enc x
abbrev nI:V:=.sl .nl (Enc.shp Int) 0 []
abbrev nP:V:=.sl .nl (Enc.shp (Int×Int)) 0 []
abbrev gV (g:GR):V:=.agg [ji g.1,eP g.2]
abbrev bG (b:Nat) (g:GR):V:=.ref (.bx b) 0 [] (gV g)
abbrev g0V:V:=.agg [ji 0,nP]
abbrev bZ (b:Nat):V:=.ref (.bx b) 0 [] g0V
abbrev cV (c:CU):V:=.agg [eB c.a,ji c.b,.int .u64 c.c.v]
abbrev bC (c:CU):V:=.ref (.bx zO) 0 [] (cV c)
abbrev i0:V:=.int .i64 (.ofNat 0)
abbrev kf:O:=.k (.bool false)
abbrev kt:O:=.k (.bool true)
abbrev jf (g:Nat):O:=.k (.fn g [] [])
abbrev jx (d:Nat) (x:X):I:=⟨some d,none,false,x⟩
abbrev jy (d:Nat) (x:X):I:=⟨some d,none,true,x⟩
abbrev cq (P:Program) (f:Func) (an:List An):Option AC:=cC P f.ntmps an (f.body.getD .skip)
abbrev rr (is:List I):AC:=.reg [] is []
abbrev jl (d t:Nat):I:=jv d (.load .s (.t t))
abbrev jk (d t:Nat):I:=jv d (.len (.t t))
abbrev jz (x:X):I:=⟨none,none,false,x⟩
theorem ct {v:V} {a b:Bool} (h:v = .bool a) (hg:a=b):v = .bool b:=h.trans (congrArg V.bool hg)
theorem oi {α:Type} {a b:α} (h:some a=some b):a=b:=Option.some.inj h
theorem rf (x:V):x=x:=rfl
theorem nm {α:Type} {P:Prop} {r:α} (h:(none:Option α)=some r):P:=nomatch h
section
variable {f:Tok→Option Tok} {α:Type} [Enc α] {x:α} {n m:Int} {k l:IntKind}
theorem mIE:V.map f (.agg [.int k n,Enc.enc x]) = .agg [.int k n,Enc.enc x]:=zM (zg mi (zg me zx))
theorem mII:V.map f (.agg [.int k n,.int l m]) = .agg [.int k n,.int l m]:=zM (zg mi (zg mi zx))
theorem wW:V.map f (.agg [Enc.enc x,.int k n,.int l m]) = .agg [Enc.enc x,.int k n,.int l m]:=zM (zg me (zg mi (zg mi zx)))
theorem te:(Enc.enc x:V).toks=[]:=Enc.toks_enc x
theorem fm1 (f:Tok→Option Tok):V.maps f [Enc.enc x]=[Enc.enc x]:=zg (Enc.map_enc f _) zx
theorem uE {tk:Tok} {i:Nat} {q:List Nat} {u:V}:V.mut tk i q u (Enc.enc x)=Enc.enc x:=Enc.mut_enc _ _ _ _ x
theorem zE {K:List Tok}:V.frz K (Enc.enc x)=Enc.enc x:=Enc.frz_enc _ x
theorem uIE {tk:Tok} {i:Nat} {q:List Nat} {u:V}:V.mut tk i q u (.agg [.int k n,Enc.enc x]) = .agg [.int k n,Enc.enc x]:=yJ (zF rfl (zF uE rfl))
theorem zIE {K:List Tok}:V.frz K (.agg [.int k n,Enc.enc x]) = .agg [.int k n,Enc.enc x]:=UU (wC rfl (wC zE rfl))
theorem WI {tk:Tok} {i:Nat} {q:List Nat} {u:V}:V.mut tk i q u (.agg [Enc.enc x,.int k n,.int l m]) = .agg [Enc.enc x,.int k n,.int l m]:=yJ (zF uE (zF rfl (zF rfl rfl)))
theorem Nu {K:List Tok}:V.frz K (.agg [Enc.enc x,.int k n,.int l m]) = .agg [Enc.enc x,.int k n,.int l m]:=UU (wC zE (wC rfl (wC rfl rfl)))
theorem xo {v c:V} {t:Tok} {g:Sh} (h6:v.toks.contains t=false) (h1:t≠.sh:=by decide) (h2:t≠.nl:=by decide) (h3:v.mem=true:=by rfl) (h4:v.shape.beq g=true:=by rfl) (h5:c.shape.beq g=true:=by rfl) :
    t≠.sh∧t≠.nl∧v.mem=true∧v.shape.beq g=true∧c.shape.beq g=true∧v.toks.contains t=false:=⟨h1,h2,h3,h4,h5,h6⟩
theorem mIx {v w:V} (h:V.map f v=w):V.map f (.agg [.int k n,v]) = .agg [.int k n,w]:=zM (zg mi (zg h zx))
end
theorem okZ {P:Program} {f:Nat} {α γ:Type} [Y5 α] {g m:Nat} {al:Bool} {sel:List (Nat×Nat)} {F:α→Option γ} {t:γ→V} {fn:Func} (hf:P.funcs[f]?=some fn) (con:∀ (x:α) (y:γ),F x=some y→w3 P f m al (Y5.args x) (t y))
    (h1 : unk g = f := by rfl) (h2 : fn.body.isNone = false := by rfl) (h3 : (fn.name == "runtime.NumGoroutine") = false := by rfl) : (ent g F t m al sel).Ok P := by
 refine ziT (f:=f) h1 (fun args r h=>?_) ⟨fn,hf,h2,h3⟩
 obtain ⟨x,y,rfl,hy,rfl⟩:=zbd h
 exact con x y hy
section
variable {D:Den} {σ:Sig} {P:Program}
theorem cR (hF:zG P D σ) {f:Nat} {fn:Func} {c:Code} (hf:P.funcs[f]?=some fn) {an:List An} {A:AC} (hc:cC P fn.ntmps an c=some A) {m:Nat} {al:Bool} {args:List V} {r:V}
    (h:Run D σ (fun s=>(NI P s fn.results.toList).bind (fin m al)=some r) (.run A []) (init args)) (hm:P.follows .mixedOrders=true:=by kernel_rfl) (hb:fn.body=some c:=by rfl) (hn:Nat.ble args.length fn.ntmps=true:=by rfl)
    (hnt:Nat.ble fn.ntmps zO=true:=by decide) (hmp:Nat.ble zO m=false:=by rfl):w3 P f m al args r:=UL hF hm hf hb hc (Nat.le_of_ble_eq_true hn) h hnt hmp
theorem cT (hF:zG P D σ) {f:Nat} {fn:Func} {c:Code} (hf:P.funcs[f]?=some fn) {an:List An} {A:AC} (hc:cC P fn.ntmps an c=some A) {al:Bool} {args:List V} {r:V} {us:List V}
    (h:Run D σ (RT P fn.results.toList r us) (.run A []) (init args)) (hm:P.follows .mixedOrders=true:=by kernel_rfl) (hb:fn.body=some c:=by rfl) (hok:args.all V.ok=true:=by rfl) (hn:Nat.ble args.length fn.ntmps=true:=by rfl)
    (hnt:Nat.ble fn.ntmps zO=true:=by decide):w3 P f uK al args (.tup [r,.tup us]):=NA hF hm hf hb hc hok (Nat.le_of_ble_eq_true hn) hnt h
end
section
variable {D:Den} {σ:Sig} {R:(Nat→V)→Prop} {s:Nat→V} {K:(Nat→V)→Prop} {is:List I}
theorem gl {α:Type} [Enc α] {d:Nat} {l:Bool} {x:O} {t:Tok} {h:Sh} {lo:Nat} (xs:List α) (hx:x.ev s = .sl t h lo (xs.map Enc.enc)) (H:cst (ji (xs.length:Int)) d=ji (xs.length:Int)→goK D σ is (upd s d (ji (xs.length:Int))) K):goK D σ (⟨some d,none,l,.v (.len x)⟩ :: is) s K:=
 gv (ji (xs.length:Int)) (zhA (xs:=xs) hx) H
end
theorem zhW {P:Program} {t:TypeId} {k:IntKind} (ht:P.underlying t=some (.int k)) (hc:P.cellsOf t=1):zcC P t (Kd k) (fun x=>(Lit.int k x.v).wf=true):=by
 refine ⟨hc,?_⟩
 intro H en W fuel cs x h
 cases fuel with
 | zero=>simp [DataW.trod] at h
 | succ m=>
   unfold DataW.trod at h
   rw [ht] at h
   split at h <;> first | (exfalso;simp_all;done) | skip
   rename_i k1 k' n e
   simp only [zi,TypeDesc.int.injEq] at e
   subst e
   split at h
   · rename_i hh
     obtain ⟨rfl,hw⟩:=hh
     exact ⟨⟨n⟩,hw,fun S τ _=>by simp [Enc.enc,zI]⟩
   · cases h
theorem zni {n:Int} (h:(Lit.int .u8 n).wf=true):0≤n∧n≤255:=by
 have e1:IntKind.min .u8=0:=by decide
 have e2:IntKind.max .u8=255:=by decide
 simp [Lit.wf,e1,e2] at h;omega
theorem gcF {D:Den} {σ:Sig} {is:List I} {s:Nat→V} {K:(Nat→V)→Prop} {d g:Nat} {as:List O} {r:V} (vs:List V) (hv:xf as s=some (vs,s)) (hD:D g vs=some r) (hσ:σ g=some (0,false)) (H:goK D σ is (upd s d (V.tag d [] 0 r)) K)
    (hr:r.toks=[]:=by rfl) (ht:(V.tag d [] 0 r).toks=[]:=by rfl) (hok:(V.tag d [] 0 r).ok=true:=by rfl) (hgm:Nat.ble YY g=false:=by rfl):goK D σ (⟨some d,none,false,.call (.k (.fn g [] [])) as⟩ :: is) s K:=
 xT (m:=0) (al:=false) vs hv hD hσ rfl hr ht hok H rfl hgm
end Go.Zq
