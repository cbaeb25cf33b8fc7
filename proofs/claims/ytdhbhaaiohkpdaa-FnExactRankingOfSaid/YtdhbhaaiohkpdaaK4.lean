/- The pure machine: what the model of Go does, told of values without memory (part 4). No further condition. -/
import Derived.Test.YtdhbhaaiohkpdaaK3
set_option linter.unusedVariables false
set_option linter.unusedSimpArgs false
/- Typed steps: what marks make of structs and rows; lists of own lists that stay as they are. -/
namespace Go.Zq

section
variable {α : Type} [Enc α]

end
section
variable {α : Type}

end
section
variable {α : Type} [Enc α]

theorem rem_agg {ks : List Tok} {nv : V} {vs us : List V} (h : V.rems ks nv vs = us) : V.rem ks nv (.agg vs) = .agg us := by simp only [V.rem, h]
theorem rems_nil {ks : List Tok} {nv : V} : V.rems ks nv [] = [] := rfl
theorem rems_cons {ks : List Tok} {nv v u : V} {vs us : List V} (h : V.rem ks nv v = u) (hs : V.rems ks nv vs = us) : V.rems ks nv (v :: vs) = u :: us := by simp only [V.rems, h, hs]

end
/-- a part of a list is written over -/
def cpyL {α : Type} : List α → Nat → List α → List α
  | xs, _, [] => xs
  | xs, lo, y :: ys => cpyL (xs.set lo y) (lo + 1) ys
def NL.cpy {α : Type} (o : NL α) (lo : Nat) (ys : List α) : NL α := match o with
  | .nil => .nil
  | .of xs => .of (cpyL xs lo ys)

theorem keep_copy {tk : Tok} {t : Nat} {v : V} : ∀ (us : List V) (lo : Nat) (s : Nat → V), s t = v → (∀ i u, V.mut tk i [] u v = v) → copyS tk lo us s t = v
  | [], _, _, h, _ => h
  | u :: us, lo, s, h, hm => keep_copy us (lo + 1) _ (keep_mut h (hm lo u)) hm

theorem keep_copyO {α : Type} [Enc α] {r t : Nat} {p : List Nat} : ∀ (ys : List α) (lo : Nat) (s : Nat → V) (o : NL α), s t = encO (.at r p) o → copyS (.at r p) lo (ys.map Enc.enc) s t = encO (.at r p) (o.cpy lo ys)
  | [], _, _, .nil, h => h
  | [], _, _, .of _, h => h
  | y :: ys, lo, s, .nil, h => by
    have := keep_copyO ys (lo + 1) (mutS (.at r p) lo [] (Enc.enc y) s) .nil (keep_mut h mut_ownN)
    exact this
  | y :: ys, lo, s, .of xs, h => by
    have := keep_copyO ys (lo + 1) (mutS (.at r p) lo [] (Enc.enc y) s) (.of (xs.set lo y)) (keep_mut h mut_ownN)
    exact this

theorem g_copy {D : Den} {σ : Sig} {s : Nat → V} {K : (Nat → V) → Prop} {is : List I} {d r lo lo2 : Nat} {p : List Nat} {t2 : Tok} {l : Bool} {x y : O} (xs ys : List Int) (hx : x.ev s = .sl (.at r p) .s lo (xs.map Enc.enc)) (hy : y.ev s = .sl t2 .s lo2 (ys.map Enc.enc))
    (H : goK D σ is (upd (copyS (.at r p) lo ((ys.take xs.length).map Enc.enc) s) d (.int .i64 ((min ys.length xs.length : Nat) : Int))) K) : goK D σ (⟨some d, none, l, .copy x y⟩ :: is) s K := by
  simp only [goK, xK, stepX, rd_of hx rfl, rd_of hy rfl, List.length_map, Sh.beq, Bool.and_self, if_true, put, ← List.map_take]
  exact H

/-! ## lists of lists in structs -/

/-- a struct of a list of lists and a list -/
structure Od (α β : Type) where
  a : NL (NL α)
  v : NL β

theorem decN_enc {α : Type} [Enc α] {r : Nat} {p : List Nat} (o : NL (NL α)) : decN r p (encN r p o) = some o := by
  cases o with
  | nil => simp [encN, decN, Sh.beq]
  | of os => simp [encN, decN, Sh.beq, decR_enc]
theorem enc_decN {α : Type} [Enc α] {r : Nat} {p : List Nat} (v : V) (o : NL (NL α)) (h : decN r p v = some o) : encN r p o = v := by
  unfold decN at h
  split at h
  · split at h
    · rename_i e
      split at h
      · rename_i hb
        simp only [Option.some.injEq] at h; subst h
        have h1 := Sh.beq_eq _ _ hb.1
        have h2 : ∀ l : List V, l.isEmpty = true → l = [] := by intro l hl; cases l <;> simp_all
        rw [e, h1, hb.2.1, h2 _ hb.2.2]; rfl
      · cases h
    · split at h
      · rename_i hb
        simp only [Option.map_eq_some_iff] at h
        obtain ⟨os, h2, rfl⟩ := h
        have h1 := Sh.beq_eq _ _ hb.2.1
        rw [hb.1, h1, hb.2.2]
        simp only [encN, enc_decR _ _ _ h2]
      · cases h
  · cases h

instance {α β : Type} [Enc α] [Enc β] : Arg (Od α β) where
  arg x := .agg [encN pinR [0] x.a, encO (.at pinR [1]) x.v]
  un
    | .agg [u, v] => (decN pinR [0] u).bind fun a => (deco (.at pinR [1]) v).map (Od.mk a)
    | _ => none
  un_arg x := by simp [deco_enc, decN_enc]
  arg_un v x h := by
    split at h
    · simp only [Option.bind_eq_some_iff, Option.map_eq_some_iff] at h
      obtain ⟨a, h0, o, h1, rfl⟩ := h
      simp [enc_deco _ _ h1, enc_decN _ _ h0]
    · cases h

section
variable {α β : Type} [Enc α] [Enc β]

end
section
variable {α β : Type}
end
section
variable {α β : Type} [Enc α] [Enc β]
end
section
variable {α β : Type}
end
section
variable {α β : Type} [Enc α] [Enc β]
end
section
variable {α β : Type}
end
section
variable {α β : Type} [Enc α] [Enc β]
end
section
variable {α β : Type}
end
section
variable {α β : Type} [Enc α] [Enc β]
end
section
variable {α β : Type}
end
section
variable {α β : Type} [Enc α] [Enc β]
end
section
variable {α β : Type}
end
section
variable {α β : Type} [Enc α] [Enc β]
end
section
variable {α β : Type}
end
section
variable {α β : Type} [Enc α] [Enc β]
end
section
variable {α β : Type}
end
section
variable {α β : Type} [Enc α] [Enc β]
end
section
variable {α β : Type} [Enc β]
end
section
variable {α β : Type} [Enc α] [Enc β]
end

end Go.Zq
/- Short forms of the steps. -/
namespace Go.Zq

/-- what a slot holds -/
def cst (v : V) (_ : Nat) : V := v

section
variable {D : Den} {σ : Sig} {R : (Nat → V) → Prop} {s : Nat → V} {K : (Nat → V) → Prop} {is : List I}

theorem gm {d t : Nat} {l : Bool} {u : V} (h : s t = u) (H : cst u d = u → goK D σ is (upd s d u) K) (hk : u.ok = true := by rfl) : goK D σ (⟨some d, none, l, .v (.mov (.t t))⟩ :: is) s K :=
  g_v u (ev_mov h hk) (H rfl)
theorem gv {d : Nat} {l : Bool} {a : A} (v : V) (h : evalA s a = some v) (H : cst v d = v → goK D σ is (upd s d v) K) : goK D σ (⟨some d, none, l, .v a⟩ :: is) s K :=
  g_v v h (H rfl)
theorem g0 {d : Nat} {l : Bool} {a : A} (v : V) (H : cst v d = v → goK D σ is (upd s d v) K) (he : evalA (fun _ => .dead) a = some v := by rfl) (hr : a.rds = [] := by rfl) : goK D σ (⟨some d, none, l, .v a⟩ :: is) s K :=
  g_v0 v he hr (H rfl)
theorem g1 {d : Nat} {l : Bool} {a : A} (t : Nat) {u : V} (v : V) (h : s t = u) (H : cst v d = v → goK D σ is (upd s d v) K) (he : evalA (fun _ => u) a = some v := by rfl) (hr : (a.rds.all fun k => k == t) = true := by rfl) : goK D σ (⟨some d, none, l, .v a⟩ :: is) s K :=
  g_v1 v h he hr (H rfl)
theorem g2 {d : Nat} {l : Bool} {a : A} (t1 t2 : Nat) {u1 u2 : V} (v : V) (h1 : s t1 = u1) (h2 : s t2 = u2) (H : cst v d = v → goK D σ is (upd s d v) K) (he : evalA (fun k => if k = t1 then u1 else u2) a = some v := by rfl) (hr : (a.rds.all fun k => k == t1 || k == t2) = true := by rfl) :
    goK D σ (⟨some d, none, l, .v a⟩ :: is) s K :=
  g_v2 v h1 h2 he hr (H rfl)

/-- the end of a region: what is known from now on -/
theorem gz (L : List (Nat × V)) (h : Facts L s) (H : ∀ s', Facts L s' → K s') : goK D σ [] s (fun s1 => epK [] s1 K) := H s h
/-- the beginning of a region -/
theorem rg {k : List Fr} {ep : List E} (h : goK D σ is s fun s1 => epK ep s1 (Run D σ R (.nrm k))) : Run D σ R (.run (.reg [] is ep) k) s := run_reg (e_end h)
theorem ez (L : List (Nat × V)) (h : Facts L s) (H : ∀ s', Facts L s' → K s') : epK [] s K := H s h

/-- the end of a region, nothing forgotten -/
theorem gq {k : List Fr} (H : Run D σ R (.nrm k) s) : goK D σ [] s (fun s1 => epK [] s1 (Run D σ R (.nrm k))) := H

theorem mi {f : Tok → Option Tok} {k : IntKind} {n : Int} : V.map f (.int k n) = .int k n := rfl
theorem mb {f : Tok → Option Tok} {b : Bool} : V.map f (.bool b) = .bool b := rfl
theorem me {α : Type} [Enc α] {f : Tok → Option Tok} {x : α} : V.map f (Enc.enc x) = Enc.enc x := Enc.map_enc f x

end
/-- an entry of the table -/
def ent {α γ : Type} [Args α] (g : Nat) (f : α → Option γ) (t : γ → V) (m : Nat) (al : Bool) (sel : List (Nat × Nat)) : Ent := ⟨g, da f t, m, al, selF sel⟩
theorem ent_put {α γ : Type} [Args α] {g : Nat} {f : α → Option γ} {t : γ → V} {m : Nat} {al : Bool} {sel : List (Nat × Nat)} (x : α) {r : γ} (h : f x = some r) : (ent g f t m al sel).den (Args.args x) = some (t r) := da_put x h
abbrev ji (n : Int) : V := .int .i64 n
abbrev jb (b : Bool) : V := .bool b
abbrev eL (x : List Int) : V := Enc.enc x
abbrev oI (r : Nat) (p : List Nat) (o : NL Int) : V := encO (.at r p) o
/-- operations, for short -/
abbrev jv (d : Nat) (a : A) : I := ⟨some d, none, false, .v a⟩
abbrev jm (d t : Nat) : I := ⟨some d, none, false, .v (.mov (.t t))⟩
abbrev jg (d j : Nat) (b : Bool) (a : A) : I := ⟨some d, some (j, b), false, .v a⟩
abbrev jn (n : Int) : O := .k (.int .i64 n)
end Go.Zq
/- Closures that call themselves and write to a list that they have caught. -/
namespace Go.Zq

section
variable {P : Program}

/-- what such a function hands back, and what it leaves -/
def RT (P : Program) (rs : List ResultVar) (r : V) (us : List V) (s : Nat → V) : Prop := resV P s rs = some r ∧ ∀ u ∈ us, ∃ t, s t = u

theorem contractT_of {D : Den} {σ : Sig} (hF : Fits2 P D σ) (hm : P.follows .mixedOrders = true) {f : Nat} {fn : Func} {c : Code} (hf : P.funcs[f]? = some fn) (hb : fn.body = some c) {an : List An} {A : AC} (hc : cC P fn.ntmps an c = some A)
    {args : List V} {r : V} {us : List V} (hok : args.all V.ok = true) (hn : args.length ≤ fn.ntmps) (hnt : Nat.ble fn.ntmps pinR = true)
    (h : A.wp D σ (fun e s => (e = .nrm ∨ e = .ret) ∧ RT P fn.results.toList r us s) (init args)) : ContractT P f args r us := by
  intro w S τ vals hS hr hk hinj hru
  have hI := inv_initM hS hr hk hinj hok hn (Nat.le_of_ble_eq_true hnt)
  refine calls_of_wp hf hb (ac_sound hF hm c A _ _ _ _ _ _ _ hc hI h ?_)
  rintro e s a w' S' τ' ⟨he, hres, hus⟩ hI'
  obtain ⟨cv, h1, h2, h3⟩ := results_run fn _ r rfl hres hI'
  have post : ∃ S', Bel (fun b => w.heap.size ≤ b ∨ ∃ k ∈ V.tokss args, (τ k).b = b) w w' ∧ relV w' S' τ r cv ∧
      (∀ b, S' b → b < w'.heap.size ∧ (S b ∨ w.heap.size ≤ b ∨ ∃ k ∈ V.tokss args, (τ k).b = b)) ∧
      ∀ u ∈ us, (∀ k ∈ u.toks, k.pinned = true) → (∀ k ∈ u.toks, ¬ S' (τ k).b) ∧ ∃ c, relV w' S' τ u c := by
    refine ⟨S', hI'.below, unit_rel hru h2, fun b hb => ⟨hI'.sbd b hb, hI'.sfr b hb⟩, ?_⟩
    intro u hu hp
    obtain ⟨t, ht⟩ := hus u hu
    have hpin : ∀ k ∈ u.toks, τ' k = τ k := fun k hk => hI'.pin t k (by rw [ht]; exact hk) (hp k hk)
    refine ⟨fun k hk => by rw [← hpin k hk]; exact (hI'.own t k (by rw [ht]; exact hk)).2.2, a.eval (.tmp t), ?_⟩
    have h4 := hI'.told t
    rw [ht] at h4
    exact relV_congr (w := w') (fun b hb => ⟨hb, rfl⟩) _ _ h4 fun k hk => ⟨(hpin k hk).symm, rfl⟩
  obtain ⟨S2, post⟩ := post
  rcases he with rfl | rfl
  · exact ⟨hI'.defers, cv, h1, cv, S2, rfl, post⟩
  · exact ⟨hI'.defers, cv, h1, cv, S2, rfl, post⟩

theorem contractT_run {D : Den} {σ : Sig} (hF : Fits2 P D σ) (hm : P.follows .mixedOrders = true) {f : Nat} {fn : Func} {c : Code} (hf : P.funcs[f]? = some fn) (hb : fn.body = some c) {an : List An} {A : AC} (hc : cC P fn.ntmps an c = some A)
    {al : Bool} {args : List V} {r : V} {us : List V} (hok : args.all V.ok = true) (hn : args.length ≤ fn.ntmps) (hnt : Nat.ble fn.ntmps pinR = true)
    (h : Run D σ (RT P fn.results.toList r us) (.run A []) (init args)) : Contract' P f recM al args (.tup [r, .tup us]) := by
  have h1 := contractT_of hF hm hf hb hc hok hn hnt (run_says h)
  unfold Contract'
  rw [if_neg (by decide), if_neg (by decide), if_pos rfl]
  intro r' us' e
  simp only [V.tup.injEq, List.cons.injEq, and_true] at e
  obtain ⟨rfl, rfl⟩ := e
  exact h1

end

/-- what the closure has caught: two variables that nobody writes to, a list, itself -/
def grE (p q : Nat) (cw cd : V) : List V := [.ref .sh 0 [] cw, .ref .sh 0 [] cd, .ref (.bx p) 0 [] .dead, .ref (.bx q) 0 [] .dead]
def grV (p q g : Nat) (cw cd : V) : V := .ref (.bx q) 0 [] (.fn g [] (grE p q cw cd))
def grL (p r : Nat) (ρ : List Nat) (xs : List Int) : V := .ref (.bx p) 0 [] (encO (.at r ρ) (.of xs))

/-- a list that a closure has caught -/
structure Pb where
  v : List Int
instance : Arg Pb where
  arg x := grL pinR (pinR + 1) [] x.v
  un
    | .ref t i q c => if t = .bx pinR ∧ i = 0 ∧ q = [] then (match (deco (.at (pinR + 1) []) c : Option (NL Int)) with
      | some (.of xs) => some ⟨xs⟩
      | _ => none) else none
    | _ => none
  un_arg x := by simp [grL, deco_enc]
  arg_un v x h := by
    split at h
    · split at h
      · rename_i e
        obtain ⟨rfl, rfl, rfl⟩ := e
        split at h
        · rename_i xs hd
          simp only [Option.some.injEq] at h; subst h
          simp only [grL, enc_deco _ _ hd]
        · cases h
      · cases h
    · cases h

/-- the closure's own variable -/
structure Gb (g : Nat) (α β : Type) where
  a : α
  b : β
instance {g : Nat} {α β : Type} [Arg α] [Arg β] : Arg (Gb g α β) where
  arg x := grV pinR (pinR + 2) g (Arg.arg x.a) (Arg.arg x.b)
  un
    | .ref t i q (.fn g' [] [.ref t1 i1 q1 va, .ref t2 i2 q2 vb, .ref t3 i3 q3 .dead, .ref t4 i4 q4 .dead]) =>
      if t = .bx (pinR + 2) ∧ i = 0 ∧ q = [] ∧ g' = g ∧ t1 = .sh ∧ i1 = 0 ∧ q1 = [] ∧ t2 = .sh ∧ i2 = 0 ∧ q2 = [] ∧ t3 = .bx pinR ∧ i3 = 0 ∧ q3 = [] ∧ t4 = .bx (pinR + 2) ∧ i4 = 0 ∧ q4 = [] then
        (Arg.un va).bind fun x => (Arg.un vb).map fun y => ⟨x, y⟩ else none
    | _ => none
  un_arg x := by simp [grV, grE, Arg.un_arg]
  arg_un v x h := by
    split at h
    · split at h
      · rename_i e
        obtain ⟨rfl, rfl, rfl, rfl, rfl, rfl, rfl, rfl, rfl, rfl, rfl, rfl, rfl, rfl, rfl, rfl⟩ := e
        simp only [Option.bind_eq_some_iff, Option.map_eq_some_iff] at h
        obtain ⟨y, h1, z, h2, rfl⟩ := h
        simp only [grV, grE, Arg.arg_un _ _ h1, Arg.arg_un _ _ h2]
      · cases h
    · cases h

section
variable {D : Den} {σ : Sig} {s : Nat → V} {K : (Nat → V) → Prop} {is : List I}

theorem grL_toks {p r : Nat} {ρ : List Nat} {xs : List Int} : (grL p r ρ xs).toks = [.bx p, .at r ρ] := by
  simp only [grL, V.toks, toks_ownL]
theorem grV_toks {p q g : Nat} {cw cd : V} : (grV p q g cw cd).toks = [.bx q, .bx p, .bx q] := by
  simp only [grV, grE, V.toks, V.tokss, List.nil_append, List.cons_append, List.append_nil]

theorem maps_app (f : Tok → Option Tok) : ∀ xs ys : List V, V.maps f (xs ++ ys) = V.maps f xs ++ V.maps f ys
  | [], ys => rfl
  | x :: xs, ys => by simp only [List.cons_append, V.maps, maps_app f xs ys]

/-- a call of the closure, by itself or by who has made it -/
theorem g_rec {d fs b1 b2 g p q r : Nat} {ρ : List Nat} {cw cd : V} {xs ys : List Int} {as : List O} {vs : List V} {al : Bool} (hf : s fs = .fn g [] (grE p q cw cd)) (h1 : s b1 = grL p r ρ xs) (h2 : s b2 = grV p q g cw cd) (hne : p ≠ q) (hb : b1 ≠ b2)
    (hvs : rdAll s as = some vs) (h0 : V.tokss vs = []) (hvm : ∀ f, V.maps f vs = vs)
    (hD : D g (vs ++ [.ref .sh 0 [] cw, .ref .sh 0 [] cd, grL pinR (pinR + 1) [] xs, grV pinR (pinR + 2) g cw cd]) = some (.tup [.tup [], .tup [grL pinR (pinR + 1) [] ys, grV pinR (pinR + 2) g cw cd]])) (hσ : σ g = some (recM, al))
    (H : ∀ s1, s1 b1 = grL p r ρ ys → s1 b2 = grV p q g cw cd → (∀ t v, t ≠ b1 → t ≠ b2 → s t = v → (∀ f, V.map f v = v) → s1 t = v) → goK D σ is (upd s1 d (.tup [])) K) (hgm : Nat.ble modeO g = false := by rfl) :
    goK D σ (⟨some d, none, false, .callT (.t fs) as [b1, b2]⟩ :: is) s K := by
  have hrd : O.rd s (.t fs) = some (.fn g [] (grE p q cw cd)) := rd_of hf rfl
  have hqp : (Tok.bx p == Tok.bx q) = false := by
    simp only [beq_eq_false_iff_ne, ne_eq, Tok.bx.injEq]; exact hne
  have hks : slotToks s [b1, b2] = [.bx p, .at r ρ, .bx q, .bx p, .bx q] := by
    simp only [slotToks, List.flatMap_cons, List.flatMap_nil, h1, h2, grL_toks, grV_toks, List.cons_append, List.nil_append, List.append_nil]
  have hn1 : nameT [.bx p, .at r ρ, .bx q, .bx p, .bx q] (.bx p) = some (.bx pinR) := by
    simp [nameT, pinT, List.findIdx?_cons]
  have hn2 : nameT [.bx p, .at r ρ, .bx q, .bx p, .bx q] (.at r ρ) = some (.at (pinR + 1) []) := by
    simp [nameT, pinT, List.findIdx?_cons]
  have hn3 : nameT [.bx p, .at r ρ, .bx q, .bx p, .bx q] (.bx q) = some (.bx (pinR + 2)) := by
    simp [nameT, pinT, List.findIdx?_cons, hqp]
  have hko : ∀ k ∈ [Tok.bx p, .at r ρ, .bx q, .bx p, .bx q], k ≠ .nl ∧ k ≠ .sh := by
    intro k hk
    simp only [List.mem_cons, List.not_mem_nil, or_false] at hk
    rcases hk with rfl | rfl | rfl | rfl | rfl <;> exact ⟨by simp, by simp⟩
  have hb1 := back_name hko (by simp) hn1
  have hb2 := back_name hko (by simp) hn2
  have hb3 := back_name hko (by simp) hn3
  have hfill : (grE p q cw cd).map (fillE s [b1, b2]) = [.ref .sh 0 [] cw, .ref .sh 0 [] cd, grL p r ρ xs, grV p q g cw cd] := by
    have e1 : fillE s [b1, b2] (.ref (.bx p) 0 [] .dead) = grL p r ρ xs := by
      simp only [fillE, h1, grL, and_self, if_true]
    have e2 : fillE s [b1, b2] (.ref (.bx q) 0 [] .dead) = grV p q g cw cd := by
      simp only [fillE, h1, h2, grL, grV, and_self, if_true, hne, false_and, if_false]
    simp only [grE, List.map_cons, List.map_nil, e1, e2]
    rfl
  have hmap : V.maps (nameT [.bx p, .at r ρ, .bx q, .bx p, .bx q]) (vs ++ [.ref .sh 0 [] cw, .ref .sh 0 [] cd, grL p r ρ xs, grV p q g cw cd]) = vs ++ [.ref .sh 0 [] cw, .ref .sh 0 [] cd, grL pinR (pinR + 1) [] xs, grV pinR (pinR + 2) g cw cd] := by
    rw [maps_app, hvm]
    simp only [V.maps, V.map, grL, grV, grE, encO, hn1, hn2, hn3]
    rfl
  have hall : (!((V.tokss (vs ++ (grE p q cw cd).map (fillE s [b1, b2]))).all (slotToks s [b1, b2]).contains && (grE p q cw cd).all V.one)) = false := by
    rw [hfill, hks, tokss_append, h0]
    simp only [V.tokss, grL_toks, grV_toks, V.toks, List.nil_append, List.cons_append, List.append_nil, List.all_cons, List.all_nil, grE, V.one]
    simp
  have hback : backS [.bx p, .at r ρ, .bx q, .bx p, .bx q] [b1, b2] [grL pinR (pinR + 1) [] ys, grV pinR (pinR + 2) g cw cd] s = some (upd (upd s b2 (grV p q g cw cd)) b1 (grL p r ρ ys)) := by
    simp only [backS, h1, h2, grL, grV, hb1, hb3, and_self, if_true, Option.map_some, V.map, V.maps, grE, encO, hb2]
    rfl
  simp only [goK, xK, stepX, stepT, hrd, hvs, hall, Bool.false_eq_true, if_false, key, cond_false]
  rw [hfill, hks, hmap, hD, hσ]
  simp only [hgm, Nat.beq_refl, Bool.not_false, Bool.true_and, V.unit, hback]
  have hpin : ([grL pinR (pinR + 1) [] ys, grV pinR (pinR + 2) g cw cd].all fun u => u.toks.all Tok.pinned) = true := by
    simp only [List.all_cons, List.all_nil, grL_toks, grV_toks]
    decide
  rw [hpin]
  simp only [if_true, put]
  refine H _ ?_ ?_ ?_
  · simp
  · have : ¬ b2 = b1 := fun e => hb e.symm
    simp [upd, this]
  · intro t v ht1 ht2 hv hm
    simp [ht1, ht2, hv, hm]

/-- the closure goes into its own variable -/
theorem g_storeK {x y : O} {p q g : Nat} {cw cd c2 : V} (hx : x.rd s = some (.ref (.bx q) 0 [] .dead)) (hy : y.rd s = some (.fn g [] [.ref .sh 0 [] cw, .ref .sh 0 [] cd, .ref (.bx p) 0 [] c2, .ref (.bx q) 0 [] .dead])) (hc : c2.shape.beq .p = true)
    (H : goK D σ is (mutS (.bx q) 0 [] (.fn g [] (grE p q cw cd)) s) K) : goK D σ (⟨none, none, false, .storeK .p x y⟩ :: is) s K := by
  have hd : dimV (.fn g [] [.ref .sh 0 [] cw, .ref .sh 0 [] cd, .ref (.bx p) 0 [] c2, .ref (.bx q) 0 [] .dead]) = .fn g [] (grE p q cw cd) := by
    simp only [dimV, List.map_cons, List.map_nil, dimE, hc, if_true, grE]
    rfl
  have hk : knot (.fn g [] (grE p q cw cd)) = true := rfl
  simp only [goK, xK, stepX, hx, hy, hd, hk]
  rw [if_pos ⟨by simp, by simp, rfl, rfl, rfl, trivial⟩]
  exact H

theorem mut_grL {r : Nat} {p : Nat} {ρ : List Nat} {i : Nat} {n : Int} {xs : List Int} : V.mut (.at r ρ) i [] (.int .i64 n) (grL p r ρ xs) = grL p r ρ (xs.set i n) := by
  have := mut_own (r := r) (p := ρ) (i := i) (u := n) (xs := xs)
  unfold grL
  exact mut_ref_ne rfl rfl this
theorem mut_grV {r : Nat} {ρ : List Nat} {i p q g : Nat} {u cw cd : V} : V.mut (.at r ρ) i [] u (grV p q g cw cd) = grV p q g cw cd := by
  unfold grV
  refine mut_ref_ne rfl rfl ?_
  simp [V.mut, V.muts, grE]

theorem toks_bxE {α : Type} [Enc α] {r : Nat} {x : α} : (V.ref (.bx r) 0 [] (Enc.enc x)).toks = [.bx r] := by simp only [V.toks, Enc.toks_enc]
theorem frz_bxE {α : Type} [Enc α] {r : Nat} {x : α} : V.frz [.bx r] (.ref (.bx r) 0 [] (Enc.enc x)) = .ref .sh 0 [] (Enc.enc x) := by
  simp [V.frz, Enc.toks_enc, Enc.erase_enc]
theorem frz_grL {K : List Tok} {p r : Nat} {ρ : List Nat} {xs : List Int} (h1 : K.contains (.bx p) = false) (h2 : K.contains (.at r ρ) = false) (h3 : K.contains .nl = false) : V.frz K (grL p r ρ xs) = grL p r ρ xs :=
  frz_ref_ne h1 (frz_own_ne h2 h3) rfl
theorem ev_clo {g a b c d : Nat} {va vb vc vd : V} (ha : s a = va) (hb : s b = vb) (hc : s c = vc) (hd : s d = vd) (ka : (va.ok && (va.one && va.mem)) = true) (kb : (vb.ok && (vb.one && vb.mem)) = true) (kc : (vc.ok && (vc.one && vc.mem)) = true) (kd : (vd.ok && (vd.one && vd.mem)) = true) :
    evalA s (.fn g [] [.t a, .t b, .t c, .t d]) = some (.fn g [] [va, vb, vc, vd]) := by
  simp only [Bool.and_eq_true] at ka kb kc kd
  have h : rdAll s [.t a, .t b, .t c, .t d] = some [va, vb, vc, vd] := rdAll_cons ha ka.1 (rdAll_cons hb kb.1 (rdAll_cons hc kc.1 (rdAll_cons hd kd.1 rdAll_nil)))
  have h0 : rdAll s [] = some [] := rfl
  simp only [evalA, h, h0, List.all_cons, List.all_nil, ka.2, kb.2, kc.2, kd.2, Bool.and_self, if_true]

end
end Go.Zq
