/- The pure machine: what the model of Go does, told of values without memory (part 4). No further condition. -/
import Derived.Test.YtkmhlpopclahcaaK3
set_option linter.unusedVariables false
set_option linter.unusedSimpArgs false
namespace Go.Zq
section
variable {D : Den} {σ : Sig} {R : (Nat → V) → Prop} {s : Nat → V} {K : (Nat → V) → Prop} {is : List I}
variable {α : Type} [Enc α]
end
/-! ## results two lists deep -/
section
variable {α : Type} [Enc α]
end
structure zrP (v r : V) (p : List Nat) (ts : List Nat) : Prop where
 own : ∃ l, V.own p 2 v = some l ∧ (l.map (·.2)).Nodup ∧ ∀ y ∈ l, ∃ r ∈ ts, y.2.root? = some r
 ret : V.ret 2 v = r
 low : V.low 2 v = []
structure zrN (vs rs : List V) (p : List Nat) (i : Nat) (ts : List Nat) : Prop where
 own : ∃ l, V.owns p 2 i vs = some l ∧ (l.map (·.2)).Nodup ∧ ∀ y ∈ l, ∃ r ∈ ts, y.2.root? = some r
 ret : V.rets 2 vs = rs
 low : V.lows 2 vs = []
section
variable {α : Type}
end
section
variable {α : Type} [Enc α]
end
/-! ## marks -/
structure On2 (α : Type) where
 v : NL (NL α)
section
variable {α : Type} [Enc α]
def zaI (T : TF) : Nat → List V → Option (List (NL α))
 | _, [] => some []
 | k, v :: vs => match J3 (tk (T k)) v, zaI T (k + 1) vs with
   | some o, some os => some (o :: os)
   | _, _ => none
def Ly (r : Nat) (p : List Nat) : V → Option (NL (NL α))
 | .sl t h lo vs => if t = .nl then (if h.beq .p = true ∧ lo = 0 ∧ vs.isEmpty = true then some .nil else none)
   else if t = .at r p ∧ h.beq .p = true ∧ lo = 0 then (zaI (zf1 r p) 0 vs).map .of else none
 | _ => none
theorem KW {T : TF} : ∀ (os : List (NL α)) (k : Nat), zaI T k (zdy T k os) = some os
 | [], k => rfl
 | o :: os, k => by
   have h1 : J3 (tk (T k)) (zj (tk (T k)) o) = some o := Y6 o
   simp only [zdy, zaI, h1, KW os (k + 1)]
theorem KM {T : TF} : ∀ (vs : List V) (k : Nat) (os : List (NL α)), zaI T k vs = some os → zdy T k os = vs
 | [], k, os, h => by simp [zaI] at h; subst h; rfl
 | v :: vs, k, os, h => by
   simp only [zaI] at h
   split at h
   · rename_i o os' h1 h2
     simp only [Option.some.injEq] at h; subst h
     simp only [zdy, Y7 _ _ h1, KM vs (k + 1) os' h2]
   · cases h
instance : Arg (On2 α) where
 arg x := KC zA [] x.v
 un v := (Ly zA [] v).map On2.mk
 un_arg x := by
  obtain ⟨o⟩ := x
  cases o with
  | nil => simp [KC, Ly, Sh.beq]
  | of os => simp [KC, Ly, Sh.beq, KW]
 arg_un v x h := by
  simp only [Option.map_eq_some_iff] at h
  obtain ⟨o, h1, rfl⟩ := h
  unfold Ly at h1
  split at h1
  · rename_i t g lo vs
    split at h1
    · rename_i ht
      subst ht
      split at h1
      · rename_i hc
        simp only [Option.some.injEq] at h1; subst h1
        obtain ⟨hb, rfl, he⟩ := hc
        have hb := Sh.beq_eq _ _ hb
        have he : vs = [] := by simpa using he
        subst hb; subst he; rfl
      · cases h1
    · split at h1
      · rename_i hc
        simp only [Option.map_eq_some_iff] at h1
        obtain ⟨os, h2, rfl⟩ := h1
        obtain ⟨rfl, hb, rfl⟩ := hc
        have hb := Sh.beq_eq _ _ hb
        subst hb
        simp only [KC, KM _ _ _ h2]
      · cases h1
  · cases h1
end
section
variable {α : Type}
end
section
variable {α : Type} [Enc α]
end
end Go.Zq
namespace Go.Zq
section
variable {α : Type} [Enc α]
end
section
variable {α : Type}
end
section
variable {α : Type} [Enc α]
end
theorem XN {k j : Nat} {u : V} {vs us : List V} (h : V.muts (.bx k) 0 [j] u vs = vs) (hu : vs.set j u = us := by rfl) : V.mut (.bx k) 0 [j] u (.ref (.bx k) 0 [] (.agg vs)) = .ref (.bx k) 0 [] (.agg us) := by
 simp only [V.mut, h, V.seen, V.setP, Jz, hu, and_self, if_true, true_or]
def zam {α : Type} : List α → Nat → List α → List α
 | xs, _, [] => xs
 | xs, lo, y :: ys => zam (xs.set lo y) (lo + 1) ys
def NL.cpy {α : Type} (o : NL α) (lo : Nat) (ys : List α) : NL α := match o with
 | .nil => .nil
 | .of xs => .of (zam xs lo ys)
theorem WM {tk : Tok} {t : Nat} {v : V} : ∀ (us : List V) (lo : Nat) (s : Nat → V), s t = v → (∀ i u, V.mut tk i [] u v = v) → YB tk lo us s t = v
 | [], _, _, h, _ => h
 | u :: us, lo, s, h, hm => WM us (lo + 1) _ (zc h (hm lo u)) hm
theorem XC {α : Type} [Enc α] {r t : Nat} {p : List Nat} : ∀ (ys : List α) (lo : Nat) (s : Nat → V) (o : NL α), s t = zj (.at r p) o → YB (.at r p) lo (ys.map Enc.enc) s t = zj (.at r p) (o.cpy lo ys)
 | [], _, _, .nil, h => h
 | [], _, _, .of _, h => h
 | y :: ys, lo, s, .nil, h => by
   have := XC ys (lo + 1) (ZL (.at r p) lo [] (Enc.enc y) s) .nil (zc h Lo)
   exact this
 | y :: ys, lo, s, .of xs, h => by
   have := XC ys (lo + 1) (ZL (.at r p) lo [] (Enc.enc y) s) (.of (xs.set lo y)) (zc h Lo)
   exact this
theorem zfC {D : Den} {σ : Sig} {s : Nat → V} {K : (Nat → V) → Prop} {is : List I} {d r lo lo2 : Nat} {p : List Nat} {t2 : Tok} {l : Bool} {x y : O} (xs ys : List Int) (hx : x.ev s = .sl (.at r p) .s lo (xs.map Enc.enc)) (hy : y.ev s = .sl t2 .s lo2 (ys.map Enc.enc))
    (H : goK D σ is (upd (YB (.at r p) lo ((ys.take xs.length).map Enc.enc) s) d (.int .i64 ((min ys.length xs.length : Nat) : Int))) K) : goK D σ (⟨some d, none, l, .copy x y⟩ :: is) s K := by
 simp only [goK, xK, yb, zy hx rfl, zy hy rfl, List.length_map, Sh.beq, Bool.and_self, if_true, put, ← List.map_take]
 exact H
/-! ## lists of lists in structs -/
structure Od (α β : Type) where
 a : NL (NL α)
 v : NL β
theorem zf4 {α : Type} [Enc α] {r : Nat} {p : List Nat} (o : NL (NL α)) : Ly r p (KC r p o) = some o := by
 cases o with
 | nil => simp [KC, Ly, Sh.beq]
 | of os => simp [KC, Ly, Sh.beq, KW]
theorem zf2 {α : Type} [Enc α] {r : Nat} {p : List Nat} (v : V) (o : NL (NL α)) (h : Ly r p v = some o) : KC r p o = v := by
 unfold Ly at h
 split at h
 · split at h
   · rename_i e
     split at h
     · rename_i hb
       simp only [Option.some.injEq] at h; subst h
       have h1 := Sh.beq_eq _ _ hb.1
       have h2 : ∀ l : List V, l.isEmpty = true → l = [] := by intro l hl; cases l <;> simp_all
       rw [e, h1, hb.2.1, h2 _ hb.2.2]; rfl
     · cases h
   · split at h
     · rename_i hb
       simp only [Option.map_eq_some_iff] at h
       obtain ⟨os, h2, rfl⟩ := h
       have h1 := Sh.beq_eq _ _ hb.2.1
       rw [hb.1, h1, hb.2.2]
       simp only [KC, KM _ _ _ h2]
     · cases h
 · cases h
instance {α β : Type} [Enc α] [Enc β] : Arg (Od α β) where
 arg x := .agg [KC zA [0] x.a, zj (.at zA [1]) x.v]
 un
  | .agg [u, v] => (Ly zA [0] u).bind fun a => (J3 (.at zA [1]) v).map (Od.mk a)
  | _ => none
 un_arg x := by simp [Y6, zf4]
 arg_un v x h := by
  split at h
  · simp only [Option.bind_eq_some_iff, Option.map_eq_some_iff] at h
    obtain ⟨a, h0, o, h1, rfl⟩ := h
    simp [Y7 _ _ h1, zf2 _ _ h0]
  · cases h
section
variable {α β : Type} [Enc α] [Enc β]
end
section
variable {α β : Type}
end
section
variable {α β : Type} [Enc α] [Enc β]
end
section
variable {α β : Type}
end
section
variable {α β : Type} [Enc α] [Enc β]
end
section
variable {α β : Type}
end
section
variable {α β : Type} [Enc α] [Enc β]
end
section
variable {α β : Type}
end
section
variable {α β : Type} [Enc α] [Enc β]
end
section
variable {α β : Type}
end
section
variable {α β : Type} [Enc α] [Enc β]
end
section
variable {α β : Type}
end
section
variable {α β : Type} [Enc α] [Enc β]
end
section
variable {α β : Type}
end
section
variable {α β : Type} [Enc α] [Enc β]
end
section
variable {α β : Type}
end
section
variable {α β : Type} [Enc α] [Enc β]
end
section
variable {α β : Type} [Enc β]
end
section
variable {α β : Type} [Enc α] [Enc β]
end
end Go.Zq
namespace Go.Zq
def cst (v : V) (_ : Nat) : V := v
section
variable {D : Den} {σ : Sig} {R : (Nat → V) → Prop} {s : Nat → V} {K : (Nat → V) → Prop} {is : List I}
theorem gm {d t : Nat} {l : Bool} {u : V} (h : s t = u) (H : cst u d = u → goK D σ is (upd s d u) K) (hk : u.ok = true := by rfl) : goK D σ (⟨some d, none, l, .v (.mov (.t t))⟩ :: is) s K :=
 g_v u (Yl h hk) (H rfl)
theorem gv {d : Nat} {l : Bool} {a : A} (v : V) (h : zW s a = some v) (H : cst v d = v → goK D σ is (upd s d v) K) : goK D σ (⟨some d, none, l, .v a⟩ :: is) s K :=
 g_v v h (H rfl)
theorem g0 {d : Nat} {l : Bool} {a : A} (v : V) (H : cst v d = v → goK D σ is (upd s d v) K) (he : zW (fun _ => .dead) a = some v := by rfl) (hr : a.rds = [] := by rfl) : goK D σ (⟨some d, none, l, .v a⟩ :: is) s K :=
 zqH v he hr (H rfl)
theorem g1 {d : Nat} {l : Bool} {a : A} (t : Nat) {u : V} (v : V) (h : s t = u) (H : cst v d = v → goK D σ is (upd s d v) K) (he : zW (fun _ => u) a = some v := by rfl) (hr : (a.rds.all fun k => k == t) = true := by rfl) : goK D σ (⟨some d, none, l, .v a⟩ :: is) s K :=
 zqF v h he hr (H rfl)
theorem g2 {d : Nat} {l : Bool} {a : A} (t1 t2 : Nat) {u1 u2 : V} (v : V) (h1 : s t1 = u1) (h2 : s t2 = u2) (H : cst v d = v → goK D σ is (upd s d v) K) (he : zW (fun k => if k = t1 then u1 else u2) a = some v := by rfl) (hr : (a.rds.all fun k => k == t1 || k == t2) = true := by rfl) :
    goK D σ (⟨some d, none, l, .v a⟩ :: is) s K :=
 zrB v h1 h2 he hr (H rfl)
theorem gz (L : List (Nat × V)) (h : zl L s) (H : ∀ s', zl L s' → K s') : goK D σ [] s (fun s1 => epK [] s1 K) := H s h
theorem rg {k : List Fr} {ep : List E} (h : goK D σ is s fun s1 => epK ep s1 (Run D σ R (.nrm k))) : Run D σ R (.run (.reg [] is ep) k) s := zt (zoe h)
theorem ez (L : List (Nat × V)) (h : zl L s) (H : ∀ s', zl L s' → K s') : epK [] s K := H s h
theorem gq {k : List Fr} (H : Run D σ R (.nrm k) s) : goK D σ [] s (fun s1 => epK [] s1 (Run D σ R (.nrm k))) := H
theorem mi {f : Tok → Option Tok} {k : IntKind} {n : Int} : V.map f (.int k n) = .int k n := rfl
theorem mb {f : Tok → Option Tok} {b : Bool} : V.map f (.bool b) = .bool b := rfl
theorem me {α : Type} [Enc α] {f : Tok → Option Tok} {x : α} : V.map f (Enc.enc x) = Enc.enc x := Enc.map_enc f x
end
def ent {α γ : Type} [Zx α] (g : Nat) (f : α → Option γ) (t : γ → V) (m : Nat) (al : Bool) (sel : List (Nat × Nat)) : Ent := ⟨g, da f t, m, al, zl2 sel⟩
theorem zJ {α γ : Type} [Zx α] {g : Nat} {f : α → Option γ} {t : γ → V} {m : Nat} {al : Bool} {sel : List (Nat × Nat)} (x : α) {r : γ} (h : f x = some r) : (ent g f t m al sel).den (Zx.args x) = some (t r) := zkF x h
abbrev ji (n : Int) : V := .int .i64 n
abbrev jb (b : Bool) : V := .bool b
abbrev eL (x : List Int) : V := Enc.enc x
abbrev oI (r : Nat) (p : List Nat) (o : NL Int) : V := zj (.at r p) o
abbrev jv (d : Nat) (a : A) : I := ⟨some d, none, false, .v a⟩
abbrev jm (d t : Nat) : I := ⟨some d, none, false, .v (.mov (.t t))⟩
abbrev jg (d j : Nat) (b : Bool) (a : A) : I := ⟨some d, some (j, b), false, .v a⟩
abbrev jn (n : Int) : O := .k (.int .i64 n)
end Go.Zq
namespace Go.Zq
section
variable {P : Program}
def RT (P : Program) (rs : List ResultVar) (r : V) (us : List V) (s : Nat → V) : Prop := NK P s rs = some r ∧ ∀ u ∈ us, ∃ t, s t = u
theorem NG {D : Den} {σ : Sig} (hF : zu P D σ) (hm : P.follows .mixedOrders = true) {f : Nat} {fn : Func} {c : Code} (hf : P.funcs[f]? = some fn) (hb : fn.body = some c) {an : List An} {A : AC} (hc : cC P fn.ntmps an c = some A)
    {args : List V} {r : V} {us : List V} (hok : args.all V.ok = true) (hn : args.length ≤ fn.ntmps) (hnt : Nat.ble fn.ntmps zA = true)
    (h : A.wp D σ (fun e s => (e = .nrm ∨ e = .ret) ∧ RT P fn.results.toList r us s) (init args)) : MB P f args r us := by
 intro w S τ vals hS hr hk hinj hru
 have hI := zdZ hS hr hk hinj hok hn (Nat.le_of_ble_eq_true hnt)
 refine calls_of_wp hf hb (Q2 hF hm c A _ _ _ _ _ _ _ hc hI h ?_)
 rintro e s a w' S' τ' ⟨he, hres, hus⟩ hI'
 obtain ⟨cv, h1, h2, h3⟩ := JU fn _ r rfl hres hI'
 have post : ∃ S', Bel (fun b => w.heap.size ≤ b ∨ ∃ k ∈ V.tokss args, (τ k).b = b) w w' ∧ zp w' S' τ r cv ∧
     (∀ b, S' b → b < w'.heap.size ∧ (S b ∨ w.heap.size ≤ b ∨ ∃ k ∈ V.tokss args, (τ k).b = b)) ∧
     ∀ u ∈ us, (∀ k ∈ u.toks, k.pinned = true) → (∀ k ∈ u.toks, ¬ S' (τ k).b) ∧ ∃ c, zp w' S' τ u c := by
  refine ⟨S', hI'.below, yM (w := w') (fun b hb => ⟨hb, rfl⟩) _ _ h2 (by rw [hru]; intro k hk; cases hk), fun b hb => ⟨hI'.sbd b hb, hI'.sfr b hb⟩, ?_⟩
  intro u hu hp
  obtain ⟨t, ht⟩ := hus u hu
  have hpin : ∀ k ∈ u.toks, τ' k = τ k := fun k hk => hI'.pin t k (by rw [ht]; exact hk) (hp k hk)
  refine ⟨fun k hk => by rw [← hpin k hk]; exact (hI'.own t k (by rw [ht]; exact hk)).2.2, a.eval (.tmp t), ?_⟩
  have h4 := hI'.told t
  rw [ht] at h4
  exact yM (w := w') (fun b hb => ⟨hb, rfl⟩) _ _ h4 fun k hk => ⟨(hpin k hk).symm, rfl⟩
 obtain ⟨S2, post⟩ := post
 rcases he with rfl | rfl
 · exact ⟨hI'.defers, cv, h1, cv, S2, rfl, post⟩
 · exact ⟨hI'.defers, cv, h1, cv, S2, rfl, post⟩
theorem x8 {D : Den} {σ : Sig} (hF : zu P D σ) (hm : P.follows .mixedOrders = true) {f : Nat} {fn : Func} {c : Code} (hf : P.funcs[f]? = some fn) (hb : fn.body = some c) {an : List An} {A : AC} (hc : cC P fn.ntmps an c = some A)
    {al : Bool} {args : List V} {r : V} {us : List V} (hok : args.all V.ok = true) (hn : args.length ≤ fn.ntmps) (hnt : Nat.ble fn.ntmps zA = true)
    (h : Run D σ (RT P fn.results.toList r us) (.run A []) (init args)) : wc P f uf al args (.tup [r, .tup us]) := by
 have h1 := NG hF hm hf hb hc hok hn hnt (QA h)
 unfold wc
 rw [if_neg (by decide), if_neg (by decide), if_pos rfl]
 intro r' us' e
 simp only [V.tup.injEq, List.cons.injEq, and_true] at e
 obtain ⟨rfl, rfl⟩ := e
 exact h1
end
def grE (p q : Nat) (cw cd : V) : List V := [.ref .sh 0 [] cw, .ref .sh 0 [] cd, .ref (.bx p) 0 [] .dead, .ref (.bx q) 0 [] .dead]
def grV (p q g : Nat) (cw cd : V) : V := .ref (.bx q) 0 [] (.fn g [] (grE p q cw cd))
def grL (p r : Nat) (ρ : List Nat) (xs : List Int) : V := .ref (.bx p) 0 [] (zj (.at r ρ) (.of xs))
structure Pb where
 v : List Int
instance : Arg Pb where
 arg x := grL zA (zA + 1) [] x.v
 un
  | .ref t i q c => if t = .bx zA ∧ i = 0 ∧ q = [] then (match (J3 (.at (zA + 1) []) c : Option (NL Int)) with
    | some (.of xs) => some ⟨xs⟩
    | _ => none) else none
  | _ => none
 un_arg x := by simp [grL, Y6]
 arg_un v x h := by
  split at h
  · split at h
    · rename_i e
      obtain ⟨rfl, rfl, rfl⟩ := e
      split at h
      · rename_i xs hd
        simp only [Option.some.injEq] at h; subst h
        simp only [grL, Y7 _ _ hd]
      · cases h
    · cases h
  · cases h
structure Gb (g : Nat) (α β : Type) where
 a : α
 b : β
instance {g : Nat} {α β : Type} [Arg α] [Arg β] : Arg (Gb g α β) where
 arg x := grV zA (zA + 2) g (Arg.arg x.a) (Arg.arg x.b)
 un
  | .ref t i q (.fn g' [] [.ref t1 i1 q1 va, .ref t2 i2 q2 vb, .ref t3 i3 q3 .dead, .ref t4 i4 q4 .dead]) =>
    if t = .bx (zA + 2) ∧ i = 0 ∧ q = [] ∧ g' = g ∧ t1 = .sh ∧ i1 = 0 ∧ q1 = [] ∧ t2 = .sh ∧ i2 = 0 ∧ q2 = [] ∧ t3 = .bx zA ∧ i3 = 0 ∧ q3 = [] ∧ t4 = .bx (zA + 2) ∧ i4 = 0 ∧ q4 = [] then
     (Arg.un va).bind fun x => (Arg.un vb).map fun y => ⟨x, y⟩ else none
  | _ => none
 un_arg x := by simp [grV, grE, Arg.un_arg]
 arg_un v x h := by
  split at h
  · split at h
    · rename_i e
      obtain ⟨rfl, rfl, rfl, rfl, rfl, rfl, rfl, rfl, rfl, rfl, rfl, rfl, rfl, rfl, rfl, rfl⟩ := e
      simp only [Option.bind_eq_some_iff, Option.map_eq_some_iff] at h
      obtain ⟨y, h1, z, h2, rfl⟩ := h
      simp only [grV, grE, Arg.arg_un _ _ h1, Arg.arg_un _ _ h2]
    · cases h
  · cases h
section
variable {D : Den} {σ : Sig} {s : Nat → V} {K : (Nat → V) → Prop} {is : List I}
def ndR (r : Nat) : V → Bool
 | .ref (.bx r') _ [] _ => !(Nat.beq r' r)
 | _ => true
theorem zgC {ks : List Tok} {l : List (Nat × Nat × List Nat × V)} {v : V} (hl : ∀ e ∈ l, e.2.2.1 = [] ∧ ndR e.1 v = true) : upG ks l v = V.map (Zk ks) v := by
 rcases X6 (ks := ks) (l := l) v with ⟨e, he, c, rfl, _⟩ | h1
 · obtain ⟨h2, h3⟩ := hl e he
   rw [h2] at h3; simp [ndR] at h3
 · exact h1
structure Cu (α : Type) where
 v : α
def cuV {α : Type} [Enc α] (r : Nat) (x : α) : V := .ref (.bx r) 0 [] (Enc.enc x)
instance {α : Type} [Enc α] : Arg (Cu α) where
 arg x := cuV zA x.v
 un
  | .ref t i q c => if t = .bx zA ∧ i = 0 ∧ q = [] then (Enc.dec c).map fun x => ⟨x⟩ else none
  | _ => none
 un_arg x := by simp [cuV, Enc.dec_enc]
 arg_un v x h := by
  split at h
  · split at h
    · rename_i e
      obtain ⟨rfl, rfl, rfl⟩ := e
      simp only [Option.map_eq_some_iff] at h
      obtain ⟨y, h1, rfl⟩ := h
      simp only [cuV, Enc.enc_dec _ _ h1]
    · cases h
  · cases h
theorem Yp {α : Type} [Enc α] {r : Nat} {x : α} : (cuV r x).toks = [.bx r] := by simp only [cuV, V.toks, Enc.toks_enc]
theorem vw {α : Type} [Enc α] {d b g r : Nat} {as : List O} {vs : List V} {x x' : α} {res : V} {al : Bool} (hb : s b = cuV r x) (hvs : vt s as = some (cuV r x :: vs)) (h0 : V.tokss vs = []) (hvm : ∀ f, V.maps f vs = vs)
    (hD : D g (cuV zA x :: vs) = some (.tup [res, .tup [cuV zA x']])) (hσ : σ g = some (uf, al)) (hr : res.toks = []) (hok : res.ok = true)
    (H : ∀ s1, (∀ t, s t = cuV r x → s1 t = cuV r x') → (∀ t v u, s t = v → ndR r v = true → V.map (YR (.bx r)) v = u → s1 t = u) → goK D σ is (upd s1 d res) K) (hgm : Nat.ble vh g = false := by rfl) :
    goK D σ (⟨some d, none, false, .callT (.k (.fn g [] [])) as [b] []⟩ :: is) s K := by
 have hrd : O.rd s (.k (.fn g [] [])) = some (.fn g [] []) := rfl
 have hks : yh s ([b] ++ []) = [.bx r] := by
  simp only [yh, List.append_nil, List.flatMap_cons, List.flatMap_nil, hb, Yp, List.append_nil]
 have hn1 : ve [.bx r] (.bx r) = some (.bx zA) := by
  simp [ve, Q5, List.findIdx?_cons]
 have hko : ∀ k ∈ [Tok.bx r], k ≠ .nl ∧ k ≠ .sh := by
  intro k hk
  simp only [List.mem_cons, List.not_mem_nil, or_false] at hk
  subst hk; exact ⟨by simp, by simp⟩
 have hb1 := JC hko (by simp) hn1
 have hmap : V.maps (ve [.bx r]) (cuV r x :: vs) = cuV zA x :: vs := by
  simp only [V.maps, hvm, cuV, V.map, hn1, Enc.map_enc]
 have hall : (!((V.tokss ((cuV r x :: vs) ++ [].map (v7 s [b]))).all (yh s ([b] ++ [])).contains && [].all V.one && [].all fun e => (s e).ok)) = false := by
  rw [hks]
  simp only [List.map_nil, List.append_nil, V.tokss, Yp, h0]
  simp
 have hback : ZQ s [.bx r] [b] [cuV zA x'] = some [(r, 0, [], cuV r x')] := by
  simp only [ZQ, hb, cuV, hb1, and_self, if_true, Option.map_some, V.map, Enc.map_enc]
 simp only [goK, xK, yb, L6, Wh, hrd, hvs, hall, Bool.false_eq_true, if_false, key, cond_false]
 rw [hks]
 simp only [List.map_nil, List.append_nil]
 rw [hmap, hD, hσ]
 simp only [hgm, Nat.beq_refl, Bool.not_false, Bool.true_and, hr, hok, List.isEmpty_nil, hback]
 have hpin : ([cuV zA x'].all fun u => u.toks.all Tok.pinned) = true := by
  simp only [List.all_cons, List.all_nil, Yp]
  decide
 rw [hpin]
 simp only [Bool.and_self, if_true, put]
 simp only [Option.map_some]
 refine H _ ?_ ?_
 · intro t ht; rw [ht]; simp [upG, cuV]
 · intro t v u hv hd hm
   rw [← zd3] at hm
   rw [hv, zgC (by simp [hd]), hm]
def vu : Nat := zA + 1
structure Oh (α : Type) where
 a : Int
 v : List α
instance {α : Type} [Enc α] : Arg (Oh α) where
 arg x := .agg [.int .i64 x.a, zj (.at vu []) (.of x.v)]
 un
  | .agg [.int .i64 n, c] => (match (J3 (.at vu []) c : Option (NL α)) with
    | some (.of xs) => some ⟨n, xs⟩
    | _ => none)
  | _ => none
 un_arg x := by simp [Y6]
 arg_un v x h := by
  split at h
  · split at h
    · rename_i h1
      simp only [Option.some.injEq] at h; subst h
      simp only [Y7 _ _ h1]
    · cases h
  · cases h
theorem zjb {α β : Type} [Enc α] [Enc β] {d b e g r q : Nat} {ρ : List Nat} {as : List O} {x x' : α} {n : Int} {xs : List β} {res : V} {al : Bool} (hb : s b = cuV r x) (he : s e = .agg [.int .i64 n, zj (.at q ρ) (.of xs)])
    (hvs : vt s as = some [cuV r x, .agg [.int .i64 n, zj (.at q ρ) (.of xs)]])
    (hD : D g [cuV zA x, .agg [.int .i64 n, zj (.at vu []) (.of xs)]] = some (.tup [res, .tup [cuV zA x']])) (hσ : σ g = some (uf, al)) (hr : res.toks = []) (hok : res.ok = true)
    (H : ∀ s1, (∀ t, s t = cuV r x → s1 t = cuV r x') → (∀ t v u, s t = v → ndR r v = true → V.map (Zk [.bx r, .at q ρ]) v = u → s1 t = u) → goK D σ is (upd s1 d res) K) (hgm : Nat.ble vh g = false := by rfl) :
    goK D σ (⟨some d, none, false, .callT (.k (.fn g [] [])) as [b] [e]⟩ :: is) s K := by
 have hrd : O.rd s (.k (.fn g [] [])) = some (.fn g [] []) := rfl
 have hok2 : (V.agg [.int .i64 n, zj (.at q ρ) (.of xs)]).ok = true := rfl
 have ht : (zj (.at q ρ) (.of xs : NL β)).toks = [.at q ρ] := z5
 have hn2 : ve [.bx r, .at q ρ] (.at q ρ) = some (.at vu []) := by
  simp [ve, Q5, List.findIdx?_cons, vu]
 have hn1 : ve [.bx r, .at q ρ] (.bx r) = some (.bx zA) := by
  simp [ve, Q5, List.findIdx?_cons]
 have hks : yh s ([b] ++ [e]) = [.bx r, .at q ρ] := by
  simp only [yh, List.cons_append, List.nil_append, List.flatMap_cons, List.flatMap_nil, hb, he, Yp, V.toks, V.tokss, ht, List.append_nil]
 have hko : ∀ k ∈ [Tok.bx r, .at q ρ], k ≠ .nl ∧ k ≠ .sh := by
  intro k hk
  simp only [List.mem_cons, List.not_mem_nil, or_false] at hk
  rcases hk with rfl | rfl <;> exact ⟨by simp, by simp⟩
 have hb1 := JC hko (by simp) hn1
 have hmap : V.maps (ve [.bx r, .at q ρ]) [cuV r x, .agg [.int .i64 n, zj (.at q ρ) (.of xs)]] = [cuV zA x, .agg [.int .i64 n, zj (.at vu []) (.of xs)]] := by
  simp only [V.maps, cuV, V.map, hn1, Enc.map_enc, zm (o := (.of xs : NL β)) hn2 (show ve [.bx r, .at q ρ] .nl = some .nl from rfl)]
 have hall : (!((V.tokss ([cuV r x, .agg [.int .i64 n, zj (.at q ρ) (.of xs)]] ++ [].map (v7 s [b]))).all (yh s ([b] ++ [e])).contains && [].all V.one && [e].all fun e => (s e).ok)) = false := by
  rw [hks]
  simp only [List.map_nil, List.append_nil, V.tokss, Yp, V.toks, List.nil_append, List.all_cons, List.all_nil, Bool.and_true, he, hok2, ht, List.cons_append]
  simp
 have hback : ZQ s [.bx r, .at q ρ] [b] [cuV zA x'] = some [(r, 0, [], cuV r x')] := by
  simp only [ZQ, hb, cuV, hb1, and_self, if_true, Option.map_some, V.map, Enc.map_enc]
 simp only [goK, xK, yb, L6, Wh, hrd, hvs, hall, Bool.false_eq_true, if_false, key, cond_false]
 rw [hks]
 simp only [List.map_nil, List.append_nil]
 rw [hmap, hD, hσ]
 simp only [hgm, Nat.beq_refl, Bool.not_false, Bool.true_and, hr, hok, List.isEmpty_nil, hback]
 have hpin : ([cuV zA x'].all fun u => u.toks.all Tok.pinned) = true := by
  simp only [List.all_cons, List.all_nil, Yp]
  decide
 rw [hpin]
 simp only [Bool.and_self, if_true, put]
 simp only [Option.map_some]
 refine H _ ?_ ?_
 · intro t ht; rw [ht]; simp [upG, cuV]
 · intro t v u hv hd hm
   rw [hv, zgC (by simp [hd]), hm]
theorem zgs {x q : Nat} {p : List Nat} {es : List E} {v : V} (hx : s x = v) (hk : v.ok = true) (H : ∀ s1, (∀ t u u', s t = u → V.map (Jv x [([], .at q p)]) u = u' → s1 t = u') → epK es s1 K) (hp : Nat.ble zA x = false := by rfl) : epK (.ren x q p :: es) s K := by
 have : W3 s (.ren x q p) = some (Z3 (Jv x [([], .at q p)]) s) := by
  simp only [W3, hx, hp]
  cases v <;> first | (simp [V.ok] at hk; done) | rfl
 simp only [epK, this]
 exact H _ fun t u u' h1 h2 => by simp only [Z3, h1, h2]
theorem Mi : ∀ {L : List (Nat × V)}, zl L s → ∀ p ∈ L, s p.1 = p.2
 | [], _, p, hp => by cases hp
 | [(t, v)], h, p, hp => by
   rw [List.mem_singleton] at hp; subst hp; exact h
 | (t, v) :: q :: L, h, p, hp => by
   rcases List.mem_cons.1 hp with rfl | hp
   · exact h.1
   · exact Mi (L := q :: L) h.2 p hp
theorem zad {ks : List Tok} {r : Nat} (h : ∀ k ∈ ks, k ≠ .bx r) : (ks.all fun k => !([Tok.bx r].contains k)) = true := by
 rw [List.all_eq_true]
 intro k hk
 have := h k hk
 simp [this]
theorem Kr {α : Type} [Enc α] {d b r : Nat} {l : Bool} {a : A} {x : α} (v : V) (hb : s b = cuV r x) (h : zW s a = some v) (L : List (Nat × V)) (hL : zl L s) (hr : (a.rds.all fun k => L.any fun x => x.1 == k) = true)
    (ht : ∀ p ∈ L, ∀ k ∈ p.2.toks, k ≠ .bx r) (hv : ∀ k ∈ v.toks, k ≠ .bx r) (H : goK D σ is (upd s d v) K) : goK D σ (⟨some d, none, l, .vN a [b]⟩ :: is) s K := by
 have hks : yh s [b] = [.bx r] := by
  simp only [yh, List.flatMap_cons, List.flatMap_nil, hb, Yp, List.append_nil]
 have h1 : (a.rds.all fun t => (s t).toks.all fun k => !([Tok.bx r].contains k)) = true := by
  rw [List.all_eq_true] at hr ⊢
  intro t htr
  have h2 := hr t htr
  rw [List.any_eq_true] at h2
  obtain ⟨p, hp, e⟩ := h2
  have e : p.1 = t := by simpa using e
  rw [← e, Mi hL p hp]
  exact zad (ht p hp)
 simp only [goK, xK, yb, h, hks, h1, zad hv, Bool.and_self, if_true, put]
 exact H
theorem ZI {a : A} {v : V} (L : List (Nat × V)) (hs : zl L s) (hr : (a.rds.all fun k => L.any fun x => x.1 == k) = true) (he : zW (JB L) a = some v) : zW s a = some v := by
 rw [vA (s2 := JB L) fun k hk => UB L s hs k (List.all_eq_true.1 hr k hk)]; exact he
theorem QH {α : Type} [Enc α] {v : V} {n : Int} {k : Tok} {o : NL α} {xs : List α} (h : zja o = some xs) (hs : v = .agg [.int .i64 n, zj k o]) : v = .agg [.int .i64 n, zj k (.of xs)] := by rw [hs, zht h]
theorem NW {α : Type} [Enc α] {d : Nat} {z : V} {len : Nat} {ps : List (Nat × Nat × O)} (L : List (Nat × V)) (xs : List α) (hs : zl L s) (h : y0 (JB L) ps (List.replicate len z) = some (xs.map Enc.enc)) (hz : z.shape = Enc.shp α)
    (hr : ((ps.flatMap fun p => p.2.2.rds).all fun k => L.any fun x => x.1 == k) = true) (hg : s d = .gone)
    (H : ∀ s1, s1 d = Enc.enc xs → (∀ t v u, t ≠ d → s t = v → V.frz [.at d []] v = u → s1 t = u) → goK D σ is s1 K) : goK D σ (⟨some d, none, false, .litS z len ps⟩ :: is) s K := by
 have h1 : y0 s ps (List.replicate len z) = some (xs.map Enc.enc) := by
  rw [wL (s2 := JB L) fun k hk => UB L s hs k (List.all_eq_true.1 hr k hk)]; exact h
 simp only [goK, xK, yb, h1, hg]
 refine H _ ?_ ?_
 · rw [upd_same, hz]
   exact Zf (p := []) (xs := xs)
 · intro t v u ht hv hm
   rw [zI _ _ ht, hv]; exact hm
theorem rt0 {P : Program} {c : V} {t : Nat} (h0 : s t = c) : RT P [] (.tup []) [c] s := ⟨rfl, fun u hu => by
 simp only [List.mem_cons, List.not_mem_nil, or_false] at hu
 subst hu; exact ⟨t, h0⟩⟩
theorem rt1 {P : Program} {x : ResultVar} {r c : V} {t : Nat} (h : Wg P s x = some r) (h0 : s t = c) : RT P [x] r [c] s := ⟨by simp only [NK, h], (rt0 (P := P) h0).2⟩
end
end Go.Zq
namespace Go.Zq
abbrev LI := List Int
abbrev LP := List (Int × Int)
abbrev GR := Int × List (Int × Int)
abbrev LB := List (Kd .u8)
abbrev CU := S3 (List (Kd .u8)) Int (Kd .u64)
abbrev CC := Cu CU
abbrev cu (a : LB) (b c : Int) : CC := Cu.mk (S3.mk a b (Kd.mk c))
abbrev eP (x : LP) : V := Enc.enc x
abbrev eB (x : LB) : V := Enc.enc x
abbrev nI : V := .sl .nl (Enc.shp Int) 0 []
abbrev nP : V := .sl .nl (Enc.shp (Int × Int)) 0 []
abbrev gV (g : GR) : V := .agg [ji g.1, eP g.2]
abbrev bG (b : Nat) (g : GR) : V := .ref (.bx b) 0 [] (gV g)
abbrev g0V : V := .agg [ji 0, nP]
abbrev bZ (b : Nat) : V := .ref (.bx b) 0 [] g0V
abbrev cV (c : CU) : V := .agg [eB c.a, ji c.b, .int .u64 c.c.v]
abbrev bC (c : CU) : V := .ref (.bx zA) 0 [] (cV c)
abbrev i0 : V := .int .i64 (.ofNat 0)
abbrev kf : O := .k (.bool false)
abbrev kt : O := .k (.bool true)
abbrev jf (g : Nat) : O := .k (.fn g [] [])
abbrev jx (d : Nat) (x : X) : I := ⟨some d, none, false, x⟩
abbrev jy (d : Nat) (x : X) : I := ⟨some d, none, true, x⟩
abbrev jz (x : X) : I := ⟨none, none, false, x⟩
theorem ct {v : V} {a b : Bool} (h : v = .bool a) (hg : a = b) : v = .bool b := h.trans (congrArg V.bool hg)
theorem rf (x : V) : x = x := rfl
theorem nm {α : Type} {P : Prop} {r : α} (h : (none : Option α) = some r) : P := nomatch h
section
variable {f : Tok → Option Tok} {α : Type} [Enc α] {x : α} {n m : Int} {k l : IntKind}
theorem mIE : V.map f (.agg [.int k n, Enc.enc x]) = .agg [.int k n, Enc.enc x] := zF (ze mi (ze me zn))
theorem mII : V.map f (.agg [.int k n, .int l m]) = .agg [.int k n, .int l m] := zF (ze mi (ze mi zn))
theorem vz : V.map f (.agg [Enc.enc x, .int k n, .int l m]) = .agg [Enc.enc x, .int k n, .int l m] := zF (ze me (ze mi (ze mi zn)))
theorem te : (Enc.enc x : V).toks = [] := Enc.toks_enc x
theorem fm1 (f : Tok → Option Tok) : V.maps f [Enc.enc x] = [Enc.enc x] := ze (Enc.map_enc f _) zn
theorem uE {tk : Tok} {i : Nat} {q : List Nat} {u : V} : V.mut tk i q u (Enc.enc x) = Enc.enc x := Enc.mut_enc _ _ _ _ x
theorem zE {K : List Tok} : V.frz K (Enc.enc x) = Enc.enc x := Enc.frz_enc _ x
theorem uIE {tk : Tok} {i : Nat} {q : List Nat} {u : V} : V.mut tk i q u (.agg [.int k n, Enc.enc x]) = .agg [.int k n, Enc.enc x] := yp (zq rfl (zq uE rfl))
theorem zIE {K : List Tok} : V.frz K (.agg [.int k n, Enc.enc x]) = .agg [.int k n, Enc.enc x] := vU (yl rfl (yl zE rfl))
theorem Wx {tk : Tok} {i : Nat} {q : List Nat} {u : V} : V.mut tk i q u (.agg [Enc.enc x, .int k n, .int l m]) = .agg [Enc.enc x, .int k n, .int l m] := yp (zq uE (zq rfl (zq rfl rfl)))
theorem YW {K : List Tok} : V.frz K (.agg [Enc.enc x, .int k n, .int l m]) = .agg [Enc.enc x, .int k n, .int l m] := vU (yl zE (yl rfl (yl rfl rfl)))
theorem xR {v c : V} {t : Tok} {g : Sh} (h6 : v.toks.contains t = false) (h1 : t ≠ .sh := by decide) (h2 : t ≠ .nl := by decide) (h3 : v.mem = true := by rfl) (h4 : v.shape.beq g = true := by rfl) (h5 : c.shape.beq g = true := by rfl) :
    t ≠ .sh ∧ t ≠ .nl ∧ v.mem = true ∧ v.shape.beq g = true ∧ c.shape.beq g = true ∧ v.toks.contains t = false := ⟨h1, h2, h3, h4, h5, h6⟩
theorem mIx {v w : V} (h : V.map f v = w) : V.map f (.agg [.int k n, v]) = .agg [.int k n, w] := zF (ze mi (ze h zn))
end
theorem zeE {P : Program} {t : TypeId} {k : IntKind} (ht : P.underlying t = some (.int k)) (hc : P.cellsOf t = 1) : Qy P t (Kd k) (fun x => (Lit.int k x.v).wf = true) := by
 refine ⟨hc, ?_⟩
 intro H en W fuel cs x h
 cases fuel with
 | zero => simp [DataW.trod] at h
 | succ m =>
   unfold DataW.trod at h
   rw [ht] at h
   split at h <;> first | (exfalso; simp_all; done) | skip
   rename_i k1 k' n e
   simp only [Option.some.injEq, TypeDesc.int.injEq] at e
   subst e
   split at h
   · rename_i hh
     obtain ⟨rfl, hw⟩ := hh
     exact ⟨⟨n⟩, hw, fun S τ _ => by simp [Enc.enc, zo]⟩
   · cases h
theorem zka {n : Int} (h : (Lit.int .u8 n).wf = true) : 0 ≤ n ∧ n ≤ 255 := by
 have e1 : IntKind.min .u8 = 0 := by decide
 have e2 : IntKind.max .u8 = 255 := by decide
 simp [Lit.wf, e1, e2] at h; omega
end Go.Zq
