/- The pure machine: what the model of Go does, told of values without memory (part 3). No further condition. -/
import Derived.Test.YtonidecbmdpfhaaK2
import Derived.Deep.Slices
import Derived.Deep.Strs
import Derived.WalkKit
import Derived.ProofKit
import Derived.OpenShut
import Derived.ShutString
import Derived.ChangeOld
import Derived.Below
import Derived.SizedLaws
import Derived.Carry
set_option linter.unusedVariables false
set_option linter.unusedSimpArgs false
/- Structs of one, three, four and more parts. -/
namespace Go.Zq
structure S1 (α0 : Type) where
  a : α0
instance {α0 : Type} [Enc α0] : Enc (S1 α0) where
  enc x := .agg [Enc.enc x.a]
  dec | .agg [u0] => match Enc.dec u0 with
        | some x0 => some ⟨x0⟩
        | _ => none
      | _ => none
  shp := .ag [Enc.shp α0]
  dec_enc x := by simp [Enc.dec_enc]
  enc_dec v x h := by
    split at h
    · split at h
      · rename_i h0
        simp only [Option.some.injEq] at h; subst h
        simp [Enc.enc_dec _ _ h0]
      · cases h
    · cases h
  shape_enc x := by simp [V.shape, V.shapes, Enc.shape_enc]
  erase_enc x := by simp [V.erase, V.erases, Enc.erase_enc]
  toks_enc x := by simp [V.toks, V.tokss, Enc.toks_enc]
  map_enc f x := by simp [V.map, V.maps, Enc.map_enc]
  mem_enc _ := rfl
  own0 p x := by simp [V.own, V.owns, Enc.own0]
  low0 x := by simp [V.low, V.lows, Enc.low0]
  ret0 x := by simp [V.ret, V.rets, Enc.ret0]
  tag0 d p x := by simp [V.tag, V.tags, Enc.tag0]
  frz_enc K x := by simp [V.frz, V.frzs, Enc.frz_enc]
  mut_enc t i q u x := by simp [V.mut, V.muts, Enc.mut_enc]
structure S3 (α0 α1 α2 : Type) where
  a : α0
  b : α1
  c : α2
instance {α0 α1 α2 : Type} [Enc α0] [Enc α1] [Enc α2] : Enc (S3 α0 α1 α2) where
  enc x := .agg [Enc.enc x.a, Enc.enc x.b, Enc.enc x.c]
  dec | .agg [u0, u1, u2] => match Enc.dec u0, Enc.dec u1, Enc.dec u2 with
        | some x0, some x1, some x2 => some ⟨x0, x1, x2⟩
        | _, _, _ => none
      | _ => none
  shp := .ag [Enc.shp α0, Enc.shp α1, Enc.shp α2]
  dec_enc x := by simp [Enc.dec_enc]
  enc_dec v x h := by
    split at h
    · split at h
      · rename_i h0 h1 h2
        simp only [Option.some.injEq] at h; subst h
        simp [Enc.enc_dec _ _ h0, Enc.enc_dec _ _ h1, Enc.enc_dec _ _ h2]
      · cases h
    · cases h
  shape_enc x := by simp [V.shape, V.shapes, Enc.shape_enc]
  erase_enc x := by simp [V.erase, V.erases, Enc.erase_enc]
  toks_enc x := by simp [V.toks, V.tokss, Enc.toks_enc]
  map_enc f x := by simp [V.map, V.maps, Enc.map_enc]
  mem_enc _ := rfl
  own0 p x := by simp [V.own, V.owns, Enc.own0]
  low0 x := by simp [V.low, V.lows, Enc.low0]
  ret0 x := by simp [V.ret, V.rets, Enc.ret0]
  tag0 d p x := by simp [V.tag, V.tags, Enc.tag0]
  frz_enc K x := by simp [V.frz, V.frzs, Enc.frz_enc]
  mut_enc t i q u x := by simp [V.mut, V.muts, Enc.mut_enc]
structure S4 (α0 α1 α2 α3 : Type) where
  a : α0
  b : α1
  c : α2
  d : α3
instance {α0 α1 α2 α3 : Type} [Enc α0] [Enc α1] [Enc α2] [Enc α3] : Enc (S4 α0 α1 α2 α3) where
  enc x := .agg [Enc.enc x.a, Enc.enc x.b, Enc.enc x.c, Enc.enc x.d]
  dec | .agg [u0, u1, u2, u3] => match Enc.dec u0, Enc.dec u1, Enc.dec u2, Enc.dec u3 with
        | some x0, some x1, some x2, some x3 => some ⟨x0, x1, x2, x3⟩
        | _, _, _, _ => none
      | _ => none
  shp := .ag [Enc.shp α0, Enc.shp α1, Enc.shp α2, Enc.shp α3]
  dec_enc x := by simp [Enc.dec_enc]
  enc_dec v x h := by
    split at h
    · split at h
      · rename_i h0 h1 h2 h3
        simp only [Option.some.injEq] at h; subst h
        simp [Enc.enc_dec _ _ h0, Enc.enc_dec _ _ h1, Enc.enc_dec _ _ h2, Enc.enc_dec _ _ h3]
      · cases h
    · cases h
  shape_enc x := by simp [V.shape, V.shapes, Enc.shape_enc]
  erase_enc x := by simp [V.erase, V.erases, Enc.erase_enc]
  toks_enc x := by simp [V.toks, V.tokss, Enc.toks_enc]
  map_enc f x := by simp [V.map, V.maps, Enc.map_enc]
  mem_enc _ := rfl
  own0 p x := by simp [V.own, V.owns, Enc.own0]
  low0 x := by simp [V.low, V.lows, Enc.low0]
  ret0 x := by simp [V.ret, V.rets, Enc.ret0]
  tag0 d p x := by simp [V.tag, V.tags, Enc.tag0]
  frz_enc K x := by simp [V.frz, V.frzs, Enc.frz_enc]
  mut_enc t i q u x := by simp [V.mut, V.muts, Enc.mut_enc]
structure S5 (α0 α1 α2 α3 α4 : Type) where
  a : α0
  b : α1
  c : α2
  d : α3
  e : α4
instance {α0 α1 α2 α3 α4 : Type} [Enc α0] [Enc α1] [Enc α2] [Enc α3] [Enc α4] : Enc (S5 α0 α1 α2 α3 α4) where
  enc x := .agg [Enc.enc x.a, Enc.enc x.b, Enc.enc x.c, Enc.enc x.d, Enc.enc x.e]
  dec | .agg [u0, u1, u2, u3, u4] => match Enc.dec u0, Enc.dec u1, Enc.dec u2, Enc.dec u3, Enc.dec u4 with
        | some x0, some x1, some x2, some x3, some x4 => some ⟨x0, x1, x2, x3, x4⟩
        | _, _, _, _, _ => none
      | _ => none
  shp := .ag [Enc.shp α0, Enc.shp α1, Enc.shp α2, Enc.shp α3, Enc.shp α4]
  dec_enc x := by simp [Enc.dec_enc]
  enc_dec v x h := by
    split at h
    · split at h
      · rename_i h0 h1 h2 h3 h4
        simp only [Option.some.injEq] at h; subst h
        simp [Enc.enc_dec _ _ h0, Enc.enc_dec _ _ h1, Enc.enc_dec _ _ h2, Enc.enc_dec _ _ h3, Enc.enc_dec _ _ h4]
      · cases h
    · cases h
  shape_enc x := by simp [V.shape, V.shapes, Enc.shape_enc]
  erase_enc x := by simp [V.erase, V.erases, Enc.erase_enc]
  toks_enc x := by simp [V.toks, V.tokss, Enc.toks_enc]
  map_enc f x := by simp [V.map, V.maps, Enc.map_enc]
  mem_enc _ := rfl
  own0 p x := by simp [V.own, V.owns, Enc.own0]
  low0 x := by simp [V.low, V.lows, Enc.low0]
  ret0 x := by simp [V.ret, V.rets, Enc.ret0]
  tag0 d p x := by simp [V.tag, V.tags, Enc.tag0]
  frz_enc K x := by simp [V.frz, V.frzs, Enc.frz_enc]
  mut_enc t i q u x := by simp [V.mut, V.muts, Enc.mut_enc]
structure S6 (α0 α1 α2 α3 α4 α5 : Type) where
  a : α0
  b : α1
  c : α2
  d : α3
  e : α4
  f : α5
instance {α0 α1 α2 α3 α4 α5 : Type} [Enc α0] [Enc α1] [Enc α2] [Enc α3] [Enc α4] [Enc α5] : Enc (S6 α0 α1 α2 α3 α4 α5) where
  enc x := .agg [Enc.enc x.a, Enc.enc x.b, Enc.enc x.c, Enc.enc x.d, Enc.enc x.e, Enc.enc x.f]
  dec | .agg [u0, u1, u2, u3, u4, u5] => match Enc.dec u0, Enc.dec u1, Enc.dec u2, Enc.dec u3, Enc.dec u4, Enc.dec u5 with
        | some x0, some x1, some x2, some x3, some x4, some x5 => some ⟨x0, x1, x2, x3, x4, x5⟩
        | _, _, _, _, _, _ => none
      | _ => none
  shp := .ag [Enc.shp α0, Enc.shp α1, Enc.shp α2, Enc.shp α3, Enc.shp α4, Enc.shp α5]
  dec_enc x := by simp [Enc.dec_enc]
  enc_dec v x h := by
    split at h
    · split at h
      · rename_i h0 h1 h2 h3 h4 h5
        simp only [Option.some.injEq] at h; subst h
        simp [Enc.enc_dec _ _ h0, Enc.enc_dec _ _ h1, Enc.enc_dec _ _ h2, Enc.enc_dec _ _ h3, Enc.enc_dec _ _ h4, Enc.enc_dec _ _ h5]
      · cases h
    · cases h
  shape_enc x := by simp [V.shape, V.shapes, Enc.shape_enc]
  erase_enc x := by simp [V.erase, V.erases, Enc.erase_enc]
  toks_enc x := by simp [V.toks, V.tokss, Enc.toks_enc]
  map_enc f x := by simp [V.map, V.maps, Enc.map_enc]
  mem_enc _ := rfl
  own0 p x := by simp [V.own, V.owns, Enc.own0]
  low0 x := by simp [V.low, V.lows, Enc.low0]
  ret0 x := by simp [V.ret, V.rets, Enc.ret0]
  tag0 d p x := by simp [V.tag, V.tags, Enc.tag0]
  frz_enc K x := by simp [V.frz, V.frzs, Enc.frz_enc]
  mut_enc t i q u x := by simp [V.mut, V.muts, Enc.mut_enc]
structure Kd (k : IntKind) where
  v : Int
instance {k : IntKind} : Enc (Kd k) where
  enc x := .int k x.v
  dec | .int k' x => if k' = k then some ⟨x⟩ else none
      | _ => none
  shp := .s
  dec_enc _ := by simp
  enc_dec v x h := by
    split at h
    · split at h
      · rename_i e; simp only [Option.some.injEq] at h; subst h; subst e; rfl
      · cases h
    · cases h
  shape_enc _ := rfl
  erase_enc _ := rfl
  toks_enc _ := rfl
  map_enc _ _ := rfl
  mem_enc _ := rfl
  own0 _ _ := rfl
  low0 _ := rfl
  ret0 _ := rfl
  tag0 _ _ _ := rfl
  frz_enc _ _ := rfl
  mut_enc _ _ _ _ _ := rfl
instance {k : IntKind} : Ret (Kd k) := ⟨Enc.enc⟩
end Go.Zq
/- Typed steps: arrays, parts of lists, writes behind a computed index. -/
namespace Go.Zq
section
variable {s : Nat → V}
theorem sizes_takeE {α : Type} [Enc α] : ∀ (xs : List α) (k : Nat), k ≤ xs.length → Sh.sizes (V.shapes ((xs.map Enc.enc).take k)) = k * (Enc.shp α).size
  | xs, 0, _ => by simp [V.shapes, Sh.sizes]
  | [], k + 1, h => by simp at h
  | x :: xs, k + 1, h => by
    simp only [List.map_cons, List.take_succ_cons, V.shapes, Sh.sizes, Enc.shape_enc, sizes_takeE xs k (by simpa using h)]
    rw [Nat.succ_mul, Nat.add_comm]
theorem idx_lt {α : Type} {xs : List α} {i : Int} {a : α} (h : idx xs i = some a) : 0 ≤ i ∧ xs[i.toNat]? = some a ∧ i.toNat < xs.length := by
  unfold idx at h
  split at h
  · rename_i h0
    refine ⟨h0, h, ?_⟩
    obtain ⟨h1, _⟩ := List.getElem?_eq_some_iff.1 h
    exact h1
  · cases h
theorem ev_idxA {α : Type} [Enc α] {x i : O} {t : Tok} {j e len : Nat} {q : List Nat} {vs : List V} {xs : List α} {k : IntKind} {n : Int} {a : α} (hx : x.ev s = .ref t j q (.agg vs)) (hi : i.ev s = .int k n) (ha : idx xs n = some a)
    (hv : vs = xs.map Enc.enc) (hl : xs.length = len) (he : (Enc.shp α).size = e) : evalA s (.idxA x i len e) = some (.ref t j (q ++ [n.toNat]) (Enc.enc a)) := by
  obtain ⟨h0, h1, h2⟩ := idx_lt ha
  subst hv
  simp only [evalA, rd_of hx rfl, rd_of hi rfl, h0, if_true, List.getElem?_map, h1, Option.map_some, List.length_map, hl, beq_self_eq_true, Bool.true_and, sizes_takeE xs n.toNat (Nat.le_of_lt h2), he]
theorem ev_index {α : Type} [Enc α] {x i : O} {len : Nat} {g : Sh} {vs : List V} {xs : List α} {k : IntKind} {n : Int} {a : α} (hx : x.ev s = .agg vs) (hi : i.ev s = .int k n) (ha : idx xs n = some a)
    (hv : vs = xs.map Enc.enc) (hl : xs.length = len) (he : g = Enc.shp α) : evalA s (.index x i len g) = some (Enc.enc a) := by
  obtain ⟨h0, h1, h2⟩ := idx_lt ha
  subst hv; subst he
  simp only [evalA, rd_of hx rfl, rd_of hi rfl, h0, if_true, List.getElem?_map, h1, Option.map_some, List.length_map, hl, beq_self_eq_true, Bool.true_and, sizes_takeE xs n.toNat (Nat.le_of_lt h2), Enc.shape_enc, Sh.beq_refl]
theorem map_encT {α : Type} [Enc α] {f : Tok → Option Tok} {t : Tok} {o : NL α} (hf : f t = some t) (hn : f .nl = some .nl) : V.map f (encO t o) = encO t o := by
  cases o with
  | nil => simp [encO, V.map, hn, V.maps]
  | of xs => cases t <;> simp [encO, V.map, maps_encs] <;> simp [hf]
theorem mut_ref_ne {tk : Tok} {i : Nat} {q : List Nat} {u : V} {t' : Tok} {i' : Nat} {q' : List Nat} {c c' : V} (ht : (tk == t') = false) (hs : (t' == .sh) = false) (hc : V.mut tk i q u c = c') : V.mut tk i q u (.ref t' i' q' c) = .ref t' i' q' c' := by
  have h1 : tk ≠ t' := by simpa using ht
  cases t' with
  | sh => simp at hs
  | _ => simp only [V.mut, hc]; rw [if_neg (by rintro ⟨h, _⟩; exact h1 h)]
theorem mut_ix2 {α : Type} [Enc α] {r j : Nat} {i : Int} {xs : List α} {a b c0 c1 : α} (h : idx xs i = some a) (hl : xs.length = 2) :
    V.mut (.bx r) j [i.toNat] (Enc.enc b) (.ref (.bx r) j [] (.agg [Enc.enc c0, Enc.enc c1])) = .ref (.bx r) j [] (.agg [Enc.enc (bif i == 0 then b else c0), Enc.enc (bif i == 1 then b else c1)]) := by
  obtain ⟨h0, h1, h2⟩ := idx_lt h
  have : i = 0 ∨ i = 1 := by omega
  rcases this with rfl | rfl
  · simp [V.mut, V.muts, V.seen, Enc.mut_enc, V.setP, V.setPs]
  · simp [V.mut, V.muts, V.seen, Enc.mut_enc, V.setP, V.setPs]
end
end Go.Zq
/- Results; what functions of typed arguments say of values. -/
namespace Go.Zq
section
variable {s : Nat → V} {P : Program}
theorem res_tmp {t : Nat} {v : V} (h : s t = v) : resR P s (.tmp t) = some v := by simp only [resR, h]
theorem res_cell {a t i : Nat} {tk : Tok} {q : List Nat} {c : V} (h : s a = .ref tk i q c) (hc : (match shT P 6 t with | some h => c.shape.beq h && (aggT P t == some h.isAg && sizeT P t == some h.size) | none => false) = true) :
    resR P s (.cell a t) = some c := by
  simp only [resR, h]
  split at hc
  · rename_i h2; rw [h2]; simp only [hc, if_true]
  · cases hc
theorem rrA {x : ResultVar} {m : Nat} {al : Bool} {v r : V} (h : resR P s x = some v) (hf : fin m al v = some r) : RR P [x] m al r s := by
  simp only [RR, resV, h, Option.bind_some]; exact hf
theorem rrB {x y : ResultVar} {m : Nat} {al : Bool} {u v r : V} (h : resR P s x = some u) (h2 : resR P s y = some v) (hf : fin m al (.tup [u, v]) = some r) : RR P [x, y] m al r s := by
  simp only [RR, resV, h, h2, Option.bind_some]; exact hf
theorem rrC {x y z : ResultVar} {m : Nat} {al : Bool} {u v w r : V} (h : resR P s x = some u) (h2 : resR P s y = some v) (h3 : resR P s z = some w) (hf : fin m al (.tup [u, v, w]) = some r) : RR P [x, y, z] m al r s := by
  simp only [RR, resV, h, h2, h3, Option.bind_some]; exact hf
structure Fins (vs rs : List V) : Prop where
  own : ∀ p i, V.owns p 0 i vs = some []
  ret : V.rets 0 vs = rs
end
theorem fins_nil : Fins [] [] := ⟨fun _ _ => rfl, rfl⟩
theorem fins_cons {v r : V} {vs rs : List V} (h : Fin0 v r) (hs : Fins vs rs) : Fins (v :: vs) (r :: rs) := ⟨fun p i => by simp [V.owns, h.own, hs.own], by simp [V.rets, h.ret, hs.ret]⟩
theorem fin_agg {vs rs : List V} (h : Fins vs rs) : Fin0 (.agg vs) (.agg rs) := ⟨fun p => by simp [V.own, h.own], by simp [V.ret, h.ret]⟩
theorem fin_tup {vs rs : List V} (h : Fins vs rs) : Fin0 (.tup vs) (.tup rs) := ⟨fun p => by simp [V.own, h.own], by simp [V.ret, h.ret]⟩
def dn1 {α γ : Type} [Enc α] (f : α → Option γ) (t : γ → V) : List V → Option V
  | [u] => (Enc.dec u).bind fun x => (f x).map t
  | _ => none
def dn2 {α β γ : Type} [Enc α] [Enc β] (f : α → β → Option γ) (t : γ → V) : List V → Option V
  | [u, v] => (Enc.dec u).bind fun x => (Enc.dec v).bind fun y => (f x y).map t
  | _ => none
def dn3 {α β δ γ : Type} [Enc α] [Enc β] [Enc δ] (f : α → β → δ → Option γ) (t : γ → V) : List V → Option V
  | [u, v, w] => (Enc.dec u).bind fun x => (Enc.dec v).bind fun y => (Enc.dec w).bind fun z => (f x y z).map t
  | _ => none
def dn4 {α β δ ε γ : Type} [Enc α] [Enc β] [Enc δ] [Enc ε] (f : α → β → δ → ε → Option γ) (t : γ → V) : List V → Option V
  | [u, v, w, a] => (Enc.dec u).bind fun x => (Enc.dec v).bind fun y => (Enc.dec w).bind fun z => (Enc.dec a).bind fun o => (f x y z o).map t
  | _ => none
def dn5 {α β δ ε ζ γ : Type} [Enc α] [Enc β] [Enc δ] [Enc ε] [Enc ζ] (f : α → β → δ → ε → ζ → Option γ) (t : γ → V) : List V → Option V
  | [u, v, w, a, b] => (Enc.dec u).bind fun x => (Enc.dec v).bind fun y => (Enc.dec w).bind fun z => (Enc.dec a).bind fun o => (Enc.dec b).bind fun p => (f x y z o p).map t
  | _ => none
theorem dn1_put {α γ : Type} [Enc α] {f : α → Option γ} {t : γ → V} {x : α} {r : γ} (h : f x = some r) : dn1 f t [Enc.enc x] = some (t r) := by simp [dn1, Enc.dec_enc, h]
theorem dn2_put {α β γ : Type} [Enc α] [Enc β] {f : α → β → Option γ} {t : γ → V} {x : α} {y : β} {r : γ} (h : f x y = some r) : dn2 f t [Enc.enc x, Enc.enc y] = some (t r) := by simp [dn2, Enc.dec_enc, h]
theorem dn3_put {α β δ γ : Type} [Enc α] [Enc β] [Enc δ] {f : α → β → δ → Option γ} {t : γ → V} {x : α} {y : β} {z : δ} {r : γ} (h : f x y z = some r) : dn3 f t [Enc.enc x, Enc.enc y, Enc.enc z] = some (t r) := by simp [dn3, Enc.dec_enc, h]
theorem dn4_put {α β δ ε γ : Type} [Enc α] [Enc β] [Enc δ] [Enc ε] {f : α → β → δ → ε → Option γ} {t : γ → V} {x : α} {y : β} {z : δ} {o : ε} {r : γ} (h : f x y z o = some r) : dn4 f t [Enc.enc x, Enc.enc y, Enc.enc z, Enc.enc o] = some (t r) := by simp [dn4, Enc.dec_enc, h]
theorem dn5_put {α β δ ε ζ γ : Type} [Enc α] [Enc β] [Enc δ] [Enc ε] [Enc ζ] {f : α → β → δ → ε → ζ → Option γ} {t : γ → V} {x : α} {y : β} {z : δ} {o : ε} {p : ζ} {r : γ} (h : f x y z o p = some r) :
    dn5 f t [Enc.enc x, Enc.enc y, Enc.enc z, Enc.enc o, Enc.enc p] = some (t r) := by simp [dn5, Enc.dec_enc, h]
theorem dn1_open {α γ : Type} [Enc α] {f : α → Option γ} {t : γ → V} {args : List V} {r : V} (h : dn1 f t args = some r) : ∃ x y, args = [Enc.enc x] ∧ f x = some y ∧ r = t y := by
  unfold dn1 at h
  split at h
  · rename_i u
    obtain ⟨x, hx, h⟩ := bind_some h
    simp only [Option.map_eq_some_iff] at h
    obtain ⟨y, hy, e⟩ := h
    exact ⟨x, y, by rw [Enc.enc_dec _ _ hx], hy, e.symm⟩
  · cases h
theorem dn2_open {α β γ : Type} [Enc α] [Enc β] {f : α → β → Option γ} {t : γ → V} {args : List V} {r : V} (h : dn2 f t args = some r) : ∃ x1 x2 y, args = [Enc.enc x1, Enc.enc x2] ∧ f x1 x2 = some y ∧ r = t y := by
  unfold dn2 at h
  split at h
  · obtain ⟨x, hx, h⟩ := bind_some h
    obtain ⟨x2, hx2, h⟩ := bind_some h
    simp only [Option.map_eq_some_iff] at h
    obtain ⟨y, hy, e⟩ := h
    exact ⟨x, x2, y, by rw [Enc.enc_dec _ _ hx, Enc.enc_dec _ _ hx2], hy, e.symm⟩
  · cases h
theorem dn3_open {α β δ γ : Type} [Enc α] [Enc β] [Enc δ] {f : α → β → δ → Option γ} {t : γ → V} {args : List V} {r : V} (h : dn3 f t args = some r) : ∃ x1 x2 x3 y, args = [Enc.enc x1, Enc.enc x2, Enc.enc x3] ∧ f x1 x2 x3 = some y ∧ r = t y := by
  unfold dn3 at h
  split at h
  · obtain ⟨x, hx, h⟩ := bind_some h
    obtain ⟨x2, hx2, h⟩ := bind_some h
    obtain ⟨x3, hx3, h⟩ := bind_some h
    simp only [Option.map_eq_some_iff] at h
    obtain ⟨y, hy, e⟩ := h
    exact ⟨x, x2, x3, y, by rw [Enc.enc_dec _ _ hx, Enc.enc_dec _ _ hx2, Enc.enc_dec _ _ hx3], hy, e.symm⟩
  · cases h
theorem dn4_open {α β δ ε γ : Type} [Enc α] [Enc β] [Enc δ] [Enc ε] {f : α → β → δ → ε → Option γ} {t : γ → V} {args : List V} {r : V} (h : dn4 f t args = some r) :
    ∃ x1 x2 x3 x4 y, args = [Enc.enc x1, Enc.enc x2, Enc.enc x3, Enc.enc x4] ∧ f x1 x2 x3 x4 = some y ∧ r = t y := by
  unfold dn4 at h
  split at h
  · obtain ⟨x, hx, h⟩ := bind_some h
    obtain ⟨x2, hx2, h⟩ := bind_some h
    obtain ⟨x3, hx3, h⟩ := bind_some h
    obtain ⟨x4, hx4, h⟩ := bind_some h
    simp only [Option.map_eq_some_iff] at h
    obtain ⟨y, hy, e⟩ := h
    exact ⟨x, x2, x3, x4, y, by rw [Enc.enc_dec _ _ hx, Enc.enc_dec _ _ hx2, Enc.enc_dec _ _ hx3, Enc.enc_dec _ _ hx4], hy, e.symm⟩
  · cases h
theorem dn5_open {α β δ ε ζ γ : Type} [Enc α] [Enc β] [Enc δ] [Enc ε] [Enc ζ] {f : α → β → δ → ε → ζ → Option γ} {t : γ → V} {args : List V} {r : V} (h : dn5 f t args = some r) :
    ∃ x1 x2 x3 x4 x5 y, args = [Enc.enc x1, Enc.enc x2, Enc.enc x3, Enc.enc x4, Enc.enc x5] ∧ f x1 x2 x3 x4 x5 = some y ∧ r = t y := by
  unfold dn5 at h
  split at h
  · obtain ⟨x, hx, h⟩ := bind_some h
    obtain ⟨x2, hx2, h⟩ := bind_some h
    obtain ⟨x3, hx3, h⟩ := bind_some h
    obtain ⟨x4, hx4, h⟩ := bind_some h
    obtain ⟨x5, hx5, h⟩ := bind_some h
    simp only [Option.map_eq_some_iff] at h
    obtain ⟨y, hy, e⟩ := h
    exact ⟨x, x2, x3, x4, x5, y, by rw [Enc.enc_dec _ _ hx, Enc.enc_dec _ _ hx2, Enc.enc_dec _ _ hx3, Enc.enc_dec _ _ hx4, Enc.enc_dec _ _ hx5], hy, e.symm⟩
  · cases h
def optI (s : Nat → V) (d : Nat) (o : Option O) (n : Int) : Prop := match o with
  | none => n = d
  | some x => ∃ k, x.ev s = .int k n
theorem optI_none {s : Nat → V} {d : Nat} : optI s d none d := rfl
theorem optI_some {s : Nat → V} {d : Nat} {x : O} {k : IntKind} {n : Int} (h : x.ev s = .int k n) : optI s d (some x) n := ⟨k, h⟩
theorem optI_nat {s : Nat → V} {d : Nat} {o : Option O} {n : Int} (h : optI s d o n) (h0 : 0 ≤ n) : optNat s d o = some n.toNat := by
  cases o with
  | none => simp only [optI] at h; subst h; simp [optNat]
  | some x => obtain ⟨k, h⟩ := h; simp [optNat, rd_of h rfl, h0]
theorem ev_slice {α : Type} [Enc α] {s : Nat → V} {x : O} {lo hi : Option O} {e : Nat} {xs ys : List α} {a b : Int} (hx : x.ev s = .sl .sh (Enc.shp α) 0 (xs.map Enc.enc)) (hl : optI s 0 lo a) (hh : optI s xs.length hi b) (h : sub xs a b = some ys)
    (he : (Enc.shp α).size = e) : evalA s (.slice x lo hi e) = some (.sl .sh (Enc.shp α) 0 (ys.map Enc.enc)) := by
  unfold sub at h
  split at h
  · rename_i hb
    simp only [Option.some.injEq] at h; subst h
    simp only [evalA, rd_of hx rfl, optI_nat hl hb.1, List.length_map]
    rw [optI_nat hh (by omega)]
    simp only [he]
    rw [if_pos (by simp [Tok.isBx]; omega)]
    simp [List.map_take, List.map_drop]
  · cases h
end Go.Zq
/- A law's arguments, as the pure machine has them. -/
namespace Go.Zq
open Go.RowKit Go.ChangeShapes Go.Deep
def Opens (P : Program) (t : TypeId) (α : Type) [Enc α] (ok : α → Prop) : Prop :=
  P.cellsOf t = (Enc.shp α).size ∧
  ∀ {H : Type} (en : TypeId × Value → H) (W : World) (fuel : Nat) (cs : List Value) (x : DataW H × List MemPlace), DataW.trod en P W 0 (fun _ => true) true fuel t cs = some x →
    ∃ a : α, ok a ∧ ∀ (S : Nat → Prop) (τ : Tok → Blk), (∀ b, b < W.heap.size → S b) → relC W S τ (Enc.enc a) cs
variable {P : Program} {t : TypeId}
def okI (n : Int) : Prop := (Lit.int .i64 n).wf = true
theorem opens_int (ht : P.underlying t = some (.int .i64)) (hc : P.cellsOf t = 1) : Opens P t Int okI := by
  refine ⟨hc, ?_⟩
  intro H en W fuel cs x h
  cases fuel with
  | zero => simp [DataW.trod] at h
  | succ m =>
    unfold DataW.trod at h
    rw [ht] at h
    split at h <;> first | (exfalso; simp_all; done) | skip
    rename_i k k' n e
    simp only [Option.some.injEq, TypeDesc.int.injEq] at e
    subst e
    split at h
    · rename_i hh
      obtain ⟨rfl, hw⟩ := hh
      exact ⟨n, hw, fun S τ _ => by simp [Enc.enc, relC]⟩
    · cases h
theorem opens_bool (ht : P.underlying t = some .bool) (hc : P.cellsOf t = 1) : Opens P t Bool (fun _ => True) := by
  refine ⟨hc, ?_⟩
  intro H en W fuel cs x h
  cases fuel with
  | zero => simp [DataW.trod] at h
  | succ m =>
    unfold DataW.trod at h
    rw [ht] at h
    split at h <;> first | (exfalso; simp_all; done) | skip
    rename_i b _
    exact ⟨b, trivial, fun S τ _ => by simp [Enc.enc, relC]⟩
theorem opens_pair {α β : Type} [Enc α] [Enc β] {oa : α → Prop} {ob : β → Prop} {f0 f1 : Field} (ht : P.underlying t = some (.struct #[f0, f1])) (h0 : Opens P f0.type α oa) (h1 : Opens P f1.type β ob)
    (hc : P.cellsOf t = P.cellsOf f0.type + P.cellsOf f1.type) (e0 : f0.offset = 0) (e1 : f1.offset = P.cellsOf f0.type) : Opens P t (α × β) (fun x => oa x.1 ∧ ob x.2) := by
  refine ⟨by rw [hc, h0.1, h1.1]; simp [Enc.shp, Sh.size, Sh.sizes], ?_⟩
  intro H en W fuel cs x h
  obtain ⟨y0, y1, n, _, hl, t0, t1⟩ := trod_struct2 ht h
  obtain ⟨a, ha, ra⟩ := h0.2 en W n _ _ t0
  obtain ⟨b, hb, rb⟩ := h1.2 en W n _ _ t1
  refine ⟨(a, b), ⟨ha, hb⟩, fun S τ hS => ?_⟩
  have r0 := ra S τ hS
  have r1 := rb S τ hS
  rw [e0, h0.1] at r0
  rw [e1, h0.1, h1.1] at r1
  simp only [Enc.enc, relC, relCs, Enc.shape_enc]
  refine ⟨by simpa using r0, ?_, ?_⟩
  · exact r1
  · rw [List.drop_drop]; apply List.drop_eq_nil_of_le; rw [hl, hc, h0.1, h1.1]; omega
theorem opens_arr2 {α : Type} [Enc α] {oa : α → Prop} {e : TypeId} (ht : P.underlying t = some (.array 2 e)) (h0 : Opens P e α oa) (hc : P.cellsOf t = 2 * P.cellsOf e) : Opens P t (α × α) (fun x => oa x.1 ∧ oa x.2) := by
  refine ⟨by rw [hc, h0.1]; simp [Enc.shp, Sh.size, Sh.sizes]; omega, ?_⟩
  intro H en W fuel cs x h
  obtain ⟨xs, n, _, _, hl, hlen, hf⟩ := DataW.trod_array ht h
  match xs, hlen with
  | [y0, y1], _ =>
    have t0 := hf 0 (by omega)
    have t1 := hf 1 (by omega)
    simp only [List.getElem?_cons_zero] at t0
    simp only [List.getElem?_cons_succ, List.getElem?_cons_zero] at t1
    obtain ⟨a, ha, ra⟩ := h0.2 en W n _ _ t0
    obtain ⟨b, hb, rb⟩ := h0.2 en W n _ _ t1
    refine ⟨(a, b), ⟨ha, hb⟩, fun S τ hS => ?_⟩
    have r0 := ra S τ hS
    have r1 := rb S τ hS
    rw [h0.1] at r0 r1
    simp only [Enc.enc, relC, relCs, Enc.shape_enc]
    refine ⟨by simpa using r0, by simpa using r1, ?_⟩
    rw [List.drop_drop]; apply List.drop_eq_nil_of_le; rw [hl, hc, h0.1]; omega
theorem relCs_chunks {α : Type} [Enc α] {w : World} {S : Nat → Prop} {τ : Tok → Blk} : ∀ (xs : List α) (L : List Value), L.length = xs.length * (Enc.shp α).size →
    (∀ i a, xs[i]? = some a → relC w S τ (Enc.enc a) ((L.drop (i * (Enc.shp α).size)).take (Enc.shp α).size)) → relCs w S τ (xs.map Enc.enc) L
  | [], L, hl, _ => by simp only [List.map_nil, relCs]; simpa using hl
  | x :: xs, L, hl, h => by
    simp only [List.map_cons, relCs, Enc.shape_enc]
    refine ⟨by simpa using h 0 x rfl, relCs_chunks xs _ ?_ ?_⟩
    · rw [List.length_drop, hl, List.length_cons, Nat.succ_mul]; omega
    · intro i a ha
      have := h (i + 1) a (by simpa using ha)
      rw [List.drop_drop]
      rwa [show (Enc.shp α).size + i * (Enc.shp α).size = (i + 1) * (Enc.shp α).size by rw [Nat.succ_mul]; omega]
theorem opens_list {α : Type} [Enc α] {oa : α → Prop} {e : TypeId} (ht : P.underlying t = some (.slice e)) (h0 : Opens P e α oa) (hc : P.cellsOf t = 1) (hp : 0 < (Enc.shp α).size) :
    Opens P t (List α) (fun xs => xs.length ≤ maxLen ∧ ∀ x ∈ xs, oa x) := by
  refine ⟨hc, ?_⟩
  intro H en W fuel cs x h
  rcases open_slice ht h with ⟨rfl, _⟩ | ⟨a, len, cap, m, n, D, Pl, rfl, _, hl, hm, hmm, _, hx⟩
  · exact ⟨[], ⟨Nat.zero_le _, by simp⟩, fun S τ _ => by simp only [Enc.enc, relC, List.map_nil]; exact ⟨_, 0, rfl, Nat.zero_le _, by simp, fun _ => rfl, .inl rfl⟩⟩
  · simp only [if_true] at hmm
    subst hmm
    rw [h0.1] at hx
    have hx2 : ∀ i, i < m → ∃ cs', W.cells? 0 (a.add (i * (Enc.shp α).size)) (Enc.shp α).size = some cs' ∧ ∃ y : α, oa y ∧ ∀ (S : Nat → Prop) (τ : Tok → Blk), (∀ b, b < W.heap.size → S b) → relC W S τ (Enc.enc y) cs' := by
      intro i hi
      obtain ⟨cs', h1, h2⟩ := hx i hi
      exact ⟨cs', h1, h0.2 en W n _ _ h2⟩
    by_cases hcap : m = 0
    · subst hcap
      obtain rfl : len = 0 := by omega
      exact ⟨[], ⟨Nat.zero_le _, by simp⟩, fun S τ _ => by simp only [Enc.enc, relC, List.map_nil]; exact ⟨_, 0, rfl, Nat.zero_le _, by simp, fun _ => rfl, .inl rfl⟩⟩
    obtain ⟨cs0, hc0, _⟩ := hx2 0 (by omega)
    simp only [Nat.zero_mul] at hc0
    obtain ⟨_, hl0, hg0⟩ := World.cells?_some hc0
    have hz := hg0 0 hp
    have hz1 : cs0[0]? = some (cs0[0]'(by omega)) := List.getElem?_eq_getElem (by omega)
    rw [hz1] at hz
    have ha0 : (a.add 0).add 0 = a := by simp [Addr.add]
    rw [ha0] at hz
    unfold World.cell? at hz
    split at hz
    · rename_i arr ty fz hheap
      split at hz
      · cases hz
      · rename_i hspot
        have hsp : a.spot = none := by cases h : a.spot <;> simp_all
        have hadd : ∀ k, a.add k = ⟨a.block, a.off + k, none⟩ := by
          intro k; unfold Addr.add; split
          · rename_i hk; subst hk; cases a; simp_all
          · rfl
        have hcell : ∀ k, W.cell? (a.add k) = arr[a.off + k]? := by
          intro k; rw [hadd]; simp [World.cell?, hheap]
        have hget : ∀ i, i < m → ∀ cs', W.cells? 0 (a.add (i * (Enc.shp α).size)) (Enc.shp α).size = some cs' → cs'.length = (Enc.shp α).size ∧ ∀ j, j < (Enc.shp α).size → arr[a.off + (i * (Enc.shp α).size + j)]? = cs'[j]? := by
          intro i hi cs' hcs
          obtain ⟨_, h1, h2⟩ := World.cells?_some hcs
          refine ⟨h1, fun j hj => ?_⟩
          rw [← h2 j hj, add_add, hcell]
        have hsize : a.off + m * (Enc.shp α).size ≤ arr.size := by
          obtain ⟨cs', h1, _⟩ := hx2 (m - 1) (by omega)
          obtain ⟨h2, h3⟩ := hget (m - 1) (by omega) cs' h1
          have h4 := h3 ((Enc.shp α).size - 1) (by omega)
          rw [List.getElem?_eq_getElem (by omega)] at h4
          obtain ⟨h5, _⟩ := Array.getElem?_eq_some_iff.1 h4
          have : m * (Enc.shp α).size = (m - 1) * (Enc.shp α).size + (Enc.shp α).size := by
            rw [← Nat.succ_mul]; congr 1; omega
          omega
        have hch : ∀ i, i < m → ∃ y : α, oa y ∧ ∀ (S : Nat → Prop) (τ : Tok → Blk), (∀ b, b < W.heap.size → S b) → relC W S τ (Enc.enc y) ((arr.toList.drop (a.off + i * (Enc.shp α).size)).take (Enc.shp α).size) := by
          intro i hi
          obtain ⟨cs', h1, y, h2, h3⟩ := hx2 i hi
          obtain ⟨h4, h5⟩ := hget i hi cs' h1
          have : ((arr.toList.drop (a.off + i * (Enc.shp α).size)).take (Enc.shp α).size) = cs' := by
            apply List.ext_getElem?
            intro j
            by_cases hj : j < (Enc.shp α).size
            · rw [List.getElem?_take_of_lt hj, List.getElem?_drop, ← h5 j hj]; simp [Nat.add_assoc]
            · rw [List.getElem?_eq_none (by simp; omega), List.getElem?_eq_none (by omega)]
          exact ⟨y, h2, by rw [this]; exact h3⟩
        have hb : a.block < W.heap.size := by
          obtain ⟨h5, _⟩ := Array.getElem?_eq_some_iff.1 hheap; exact h5
        have hall : ∀ k, k ≤ m → ∃ ys : List α, ys.length = k ∧ (∀ y ∈ ys, oa y) ∧ ∀ (S : Nat → Prop) (τ : Tok → Blk), (∀ b, b < W.heap.size → S b) → ∀ i y, ys[i]? = some y → relC W S τ (Enc.enc y) ((arr.toList.drop (a.off + i * (Enc.shp α).size)).take (Enc.shp α).size) := by
          intro k
          induction k with
          | zero => intro _; exact ⟨[], rfl, by simp, by simp⟩
          | succ k ih =>
            intro hk
            obtain ⟨ys, h1, h2, h3⟩ := ih (by omega)
            obtain ⟨y, h4, h5⟩ := hch k (by omega)
            refine ⟨ys ++ [y], by simp [h1], ?_, ?_⟩
            · intro z hz; rcases List.mem_append.1 hz with hz | hz
              · exact h2 z hz
              · simp at hz; subst hz; exact h4
            · intro S τ hS i z hz
              by_cases hi : i < k
              · rw [List.getElem?_append_left (by omega)] at hz; exact h3 S τ hS i z hz
              · rw [List.getElem?_append_right (by omega)] at hz
                have : i = k := by
                  have := (List.getElem?_eq_some_iff.1 hz).1; simp at this; omega
                subst this
                simp [h1] at hz; subst hz; exact h5 S τ hS
        obtain ⟨ys, h1, h2, h3⟩ := hall len hl
        refine ⟨ys, ⟨by omega, h2⟩, fun S τ hS => ?_⟩
        have hh := h3 S τ hS
        simp only [Enc.enc, relC, List.length_map, h1]
        refine ⟨some a, m, rfl, hl, ?_, fun _ => toks_encs _, .inr ⟨a.block, a.off, arr, ty, fz, ?_, hheap, hS _ hb, hsize, ?_⟩⟩
        · intro v hv; obtain ⟨y, _, rfl⟩ := List.mem_map.1 hv; exact Enc.shape_enc y
        · cases a; simp_all
        · have hmul : len * (Enc.shp α).size ≤ m * (Enc.shp α).size := Nat.mul_le_mul_right _ hl
          refine relCs_chunks ys _ ?_ ?_
          · simp [h1]; omega
          · intro i y hy
            have hi : i < len := by have := (List.getElem?_eq_some_iff.1 hy).1; omega
            have h7 := hh i y hy
            have hmi : (i + 1) * (Enc.shp α).size ≤ len * (Enc.shp α).size := Nat.mul_le_mul_right _ hi
            rw [Nat.succ_mul] at hmi
            rw [List.drop_take, List.take_take, List.drop_drop, Nat.min_eq_left (by omega)]
            exact h7
    · cases hz
end Go.Zq
/- From a function's contract to the law's statement. -/
namespace Go.Zq
open Go.RowKit Go.ChangeShapes Go.WideShapes Go.ChangeAt Go.Deep
section
variable {H : Type} {en : TypeId × Value → H} {P : Program} {W W' : World}
theorem trodAll_stays (hl : laidOutB P = true) (hb : Below W.heap.size W W') : ∀ (ts : List TypeId) (vs : List Value) (ds : List (DataW H)) (p : List MemPlace), (∀ t ∈ ts, P.readableRec t = true ∧ t < P.types.size) →
    DataW.TrodAll en P W 0 (fun _ => true) true ts vs ds p → DataW.TrodAll en P W' 0 (fun b => decide (b < W.heap.size)) true ts vs ds p
  | [], [], [], p, _, h => h
  | t :: ts, v :: vs, d :: ds, p, hts, h => by
    obtain ⟨p1, q, h1, h2, rfl⟩ := h
    have ht := hts t (by simp)
    refine ⟨p1, q, Below.trod hl ht.1 ht.2 h1 hb ?_, trodAll_stays hl hb ts vs ds q (fun t ht => hts t (by simp [ht])) h2, rfl⟩
    obtain ⟨m, hm⟩ := h1
    exact DataW.trod_lt m _ _ _ hm
  | [], _ :: _, _, _, _, h => h.elim
  | [], [], _ :: _, _, _, h => h.elim
  | _ :: _, [], _, _, _, h => h.elim
  | _ :: _, _ :: _, [], _, _, h => h.elim
theorem trodAll_len : ∀ (ts : List TypeId) (vs : List Value) (ds : List (DataW H)) (p : List MemPlace) (base : Nat) (sp : Nat → Bool) (hd : Bool), DataW.TrodAll en P W base sp hd ts vs ds p → ds.length = ts.length
  | [], [], [], p, _, _, _, h => rfl
  | t :: ts, v :: vs, d :: ds, p, _, _, _, h => by
    obtain ⟨p1, q, h1, h2, rfl⟩ := h
    simp [trodAll_len ts vs ds q _ _ _ h2]
  | [], _ :: _, _, _, _, _, _, h => h.elim
  | [], [], _ :: _, _, _, _, _, h => h.elim
  | _ :: _, [], _, _, _, _, _, h => h.elim
  | _ :: _, _ :: _, [], _, _, _, _, h => h.elim
def ArgsAre (P : Program) (W : World) (us : List V) (vs : List Value) : Prop := V.tokss us = [] ∧ ∀ (S : Nat → Prop) (τ : Tok → Blk), (∀ b, b < W.heap.size → S b) → relVs W S τ us vs
theorem args_nil : ArgsAre P W [] [] := ⟨rfl, fun _ _ _ => by simp [relVs]⟩
theorem args_cons {α : Type} [Enc α] {a : α} {v : Value} {us : List V} {vs : List Value} (h : ∀ (S : Nat → Prop) (τ : Tok → Blk), (∀ b, b < W.heap.size → S b) → relV W S τ (Enc.enc a) v) (hs : ArgsAre P W us vs) : ArgsAre P W (Enc.enc a :: us) (v :: vs) :=
  ⟨by simp [V.tokss, Enc.toks_enc, hs.1], fun S τ hS => by simp only [relVs]; exact ⟨v, vs, rfl, h S τ hS, hs.2 S τ hS⟩⟩
def isOne : Option TypeDesc → Bool
  | some (.slice _) | some (.int _) | some .bool => true
  | _ => false
def isMany : Option TypeDesc → Bool
  | some (.struct _) | some (.array _ _) => true
  | _ => false
theorem arg_one {α : Type} [Enc α] {ok : α → Prop} {t : TypeId} {v : Value} {d : DataW H} {p : List MemPlace} {base : Nat} (ho : Opens P t α ok) (hn : ∀ a : α, (Enc.enc a).isAgg = false) (hu : isOne (P.underlying t) = true)
    (hv : Value.okWide P W .any base t v) (hd : DataW.Trod en P W 0 (fun _ => true) true t v d p) : ∃ a : α, ok a ∧ ∀ (S : Nat → Prop) (τ : Tok → Blk), (∀ b, b < W.heap.size → S b) → relV W S τ (Enc.enc a) v := by
  obtain ⟨m, hm⟩ := hd
  obtain ⟨a, ha, hr⟩ := ho.2 en W m _ _ hm
  refine ⟨a, ha, fun S τ hS => ?_⟩
  have h1 := hr S τ hS
  have hc : v.cells.toList = [v] := by
    unfold isOne at hu
    split at hu
    · rename_i e he; obtain ⟨_, _, _, rfl⟩ := okWide_slice he hv; rfl
    · rename_i e he; obtain ⟨_, rfl⟩ := okWide_int he hv; rfl
    · rename_i he; obtain ⟨_, rfl⟩ := okWide_bool he hv; rfl
    · cases hu
  rw [hc] at h1
  have h2 := hn a
  generalize Enc.enc a = u at h1 h2
  cases u <;> first | (simp only [relC] at h1; exact h1.elim) | (simp only [relV]; exact h1) | (simp [V.isAgg] at h2; done) | (simp only [relC] at h1; simp only [relV]; simpa using h1) | trivial
theorem arg_many {α : Type} [Enc α] {ok : α → Prop} {t : TypeId} {v : Value} {d : DataW H} {p : List MemPlace} {base : Nat} (ho : Opens P t α ok) (hn : ∀ a : α, (Enc.enc a).isAgg = true) (hu : isMany (P.underlying t) = true)
    (hv : Value.okWide P W .any base t v) (hd : DataW.Trod en P W 0 (fun _ => true) true t v d p) : ∃ a : α, ok a ∧ ∀ (S : Nat → Prop) (τ : Tok → Blk), (∀ b, b < W.heap.size → S b) → relV W S τ (Enc.enc a) v := by
  obtain ⟨m, hm⟩ := hd
  obtain ⟨a, ha, hr⟩ := ho.2 en W m _ _ hm
  refine ⟨a, ha, fun S τ hS => ?_⟩
  have h1 := hr S τ hS
  have hc : ∃ cs, v = .agg cs := by
    unfold isMany at hu
    split at hu
    · rename_i e he; simp only [Value.okWide, he] at hv; obtain ⟨cs, h, _⟩ := hv; exact ⟨cs, h⟩
    · rename_i e n he; simp only [Value.okWide, he] at hv; obtain ⟨cs, h, _⟩ := hv; exact ⟨cs, h⟩
    · cases hu
  obtain ⟨cs, rfl⟩ := hc
  have h2 := hn a
  generalize Enc.enc a = u at h1 h2
  cases u <;> first | (simp [V.isAgg] at h2; done) | skip
  simp only [relV]
  simp only [relC, Value.cells] at h1
  exact ⟨cs, rfl, h1⟩
theorem law_over {C : Checked} {os : Os} {s : ChangeSpec} {f : FuncId} {fn : Func} {conds : List PathCond} {tb : TypeId} (own : ownKnob C.prog.godebug = none) (started : os.Started) (noInit : C.prog.inits.idxOf? f = none) (hfn : C.prog.funcs[f]? = some fn)
    (witness : ∃ (w : World) (tape : Tape) (i : Input), w.os = os ∧ (w.forCall tape i).Shaped C.prog ∧ i.vars = [] ∧ Input.okWide C.prog (w.forCall tape i) .any w.heap.size f i ∧
      s.pre6 en C.prog fn conds false (w.forCall tape i).memory i.args ∧ ({} : Assume).holds C.prog (lone (Frame.enter C.prog f i.args .normal) [] (w.forCall tape i)))
    (hvars : s.vars = []) (hspec : ∀ ds : List (DataW H), ds.length = fn.params.size → (s.fn H ds).results = [.lit (.bool true)] ∧ (s.fn H ds).args = ds ∧ (s.fn H ds).vars = [])
    (hres : fn.resultTypes = #[tb]) (hb : C.prog.underlying tb = some .bool) (hl : laidOutB C.prog = true) (hts : fn.params.toList.all (fun t => C.prog.readableRec t && decide (t < C.prog.types.size)) = true)
    (hrun : ∀ (W : World) (args : Array Value) (ds : List (DataW H)) (p : List MemPlace) (base : Nat), (∀ (j : Nat) t v, fn.params[j]? = some t → args[j]? = some v → Value.okWide C.prog W .any base t v) →
      DataW.TrodAll en C.prog W 0 (fun _ => true) true fn.params.toList args.toList ds p → ∃ us, ArgsAre C.prog W us args.toList ∧ Contract C.prog f 0 false us (.bool true)) :
    ReturnsInHanded {} C os f .any (s.pre6 en C.prog fn conds false) (s.post en C.prog fn false true false false) := by
  refine returnsInHanded_of_change_sized (C := C) own started noInit hfn witness ?_
  intro W base args ds gs before hval hW hcnd hsz _
  have hW' := hW
  obtain ⟨p, q, hA, hV, rfl, hfz, hnd⟩ := hW
  rw [hvars] at hV
  obtain ⟨rfl, rfl⟩ := trodVars_none hV
  obtain ⟨us, hus, hcon⟩ := hrun W args ds p base hval hA
  refine (hcon 0 W (fun b => b < W.heap.size) (fun _ => ⟨0, 0, .s⟩) args (fun b hb => hb) (hus.2 _ _ fun b hb => hb) hus.1).mono fun e W' he => ?_
  obtain ⟨v, τ', rfl, bel, _, _, hrel⟩ := he
  simp only [V.tag, relV] at hrel
  subst hrel
  have hs := hspec ds (by have := trodAll_len _ _ _ _ _ _ _ hA; simpa using this)
  have hds : ds ++ [] = ds := List.append_nil ds
  refine ⟨.bool true, rfl, ds, [], _, [], p, [], hW', ?_, ?_, ?_, bel.frame _, fun h => by cases h⟩
  · rw [hds, hs.1, hres]
    exact ⟨[], [], ⟨1, by simp [DataW.trod, hb, Value.cells]⟩, rfl, rfl⟩
  · rw [hds, hs.2.1]
    refine trodAll_stays hl bel _ _ _ _ ?_ hA
    intro t ht
    have := List.all_eq_true.1 hts t ht
    simpa using this
  · rw [hds, hs.2.2, hvars]; rfl
end
end Go.Zq
/- Typed steps: owners are frozen. -/
namespace Go.Zq
section
variable {K : List Tok}
theorem toks_ownL {α : Type} [Enc α] {r : Nat} {p : List Nat} {xs : List α} : (encO (.at r p) (.of xs)).toks = [.at r p] := by
  simp only [encO, V.toks, toks_encs]
  split <;> rfl
theorem frz_own {α : Type} [Enc α] {r : Nat} {p : List Nat} {xs : List α} : V.frz [.at r p] (encO (.at r p) (.of xs)) = Enc.enc xs := by
  simp [encO, V.frz, toks_encs, erases_encs, Enc.enc]
theorem frzs_encs {α : Type} [Enc α] : ∀ xs : List α, V.frzs K (xs.map Enc.enc) = xs.map Enc.enc
  | [] => rfl
  | x :: xs => by simp [V.frzs, Enc.frz_enc, frzs_encs xs]
theorem frz_own_ne {α : Type} [Enc α] {t : Tok} {o : NL α} (hn : K.contains t = false) (hl : K.contains .nl = false) : V.frz K (encO t o) = encO t o := by
  cases o with
  | nil => simp only [encO, V.frz, hl, V.frzs]; simp
  | of xs => cases t <;> simp only [encO, V.frz, hn, frzs_encs] <;> simp
theorem frz_agg {vs us : List V} (h : V.frzs K vs = us) : V.frz K (.agg vs) = .agg us := by simp only [V.frz, h]
theorem frz_tup {vs us : List V} (h : V.frzs K vs = us) : V.frz K (.tup vs) = .tup us := by simp only [V.frz, h]
theorem frzs_cons {v u : V} {vs us : List V} (h : V.frz K v = u) (hs : V.frzs K vs = us) : V.frzs K (v :: vs) = u :: us := by simp only [V.frzs, h, hs]
theorem frz_ref_ne {t : Tok} {i : Nat} {q : List Nat} {c u : V} (hn : K.contains t = false) (h : V.frz K c = u) (hs : (t == .sh) = false) : V.frz K (.ref t i q c) = .ref t i q u := by
  cases t with
  | sh => simp at hs
  | _ => simp only [V.frz, hn, h]; simp
end
end Go.Zq
/- Typed steps: chains of appends within one region. -/
namespace Go.Zq
mutual
theorem frz_none : ∀ v : V, V.frz [] v = v
  | .dead | .gone | .int .. | .bool _ => rfl
  | .sl t h lo xs => by
    have := frzs_none xs
    cases t <;> simp [V.frz, this]
  | .ref t i q c => by
    have := frz_none c
    cases t <;> simp [V.frz, this]
  | .agg vs => by simp [V.frz, frzs_none vs]
  | .tup vs => by simp [V.frz, frzs_none vs]
  | .fn g fs env => by simp [V.frz, frzs_none fs, frzs_none env]
  | .lin v => by simp [V.frz, frz_none v]
theorem frzs_none : ∀ vs : List V, V.frzs [] vs = vs
  | [] => rfl
  | v :: vs => by simp [V.frzs, frz_none v, frzs_none vs]
end
section
variable {D : Den} {σ : Sig} {s : Nat → V} {K : (Nat → V) → Prop} {is : List I}
theorem g_litLl {d : Nat} {z : V} {len : Nat} {ps : List (Nat × Nat × O)} (L : List (Nat × V)) (vs : List V) (hs : Facts L s) (h : bldParts (look L) ps (List.replicate len z) = some vs)
    (hr : ((ps.flatMap fun p => p.2.2.rds).all fun k => L.any fun x => x.1 == k) = true) (hg : s d = .gone)
    (H : goK D σ is (upd s d (.lin (.sl (.at d []) z.shape 0 vs))) K) : goK D σ (⟨some d, none, true, .lit z len ps⟩ :: is) s K := by
  have h1 : bldParts s ps (List.replicate len z) = some vs := by
    rw [bldParts_congr (s2 := look L) fun k hk => look_of L s hs k (List.all_eq_true.1 hr k hk)]; exact h
  simp only [goK, xK, stepX, h1, hg]
  simp only [if_true]
  exact H
theorem g_appS {α : Type} [Enc α] {d r : Nat} {p : List Nat} {l : Bool} {g : Sh} {xs ys zs : List α} {y : O} {t2 : Tok} {lo2 : Nat} (hx : s r = .lin (encO (.at r p) (.of xs))) (hy : y.ev s = .sl t2 (Enc.shp α) lo2 (ys.map Enc.enc))
    (hgg : g = Enc.shp α) (hg : s d = .gone) (hd : (d == r) = false) (ha : appL xs ys = some zs)
    (H : goK D σ is (upd (upd s r .dead) d (if l then .lin (encO (.at d []) (.of zs)) else encO (.at d []) (.of zs))) K) : goK D σ (⟨some d, none, l, .appS g (.t r) y⟩ :: is) s K := by
  subst hgg
  unfold appL at ha
  split at ha
  · rename_i hlen
    simp only [Option.some.injEq] at ha; subst ha
    have hsp : spentS s (.t r) = some (upd s r .dead, .sl (.at r p) (Enc.shp α) 0 (xs.map Enc.enc)) := by
      simp only [spentS]; rw [hx]; simp only [encO, toks_encs, List.isEmpty_nil, Bool.and_true, decide_true, if_true]
    have hgd : upd s r .dead d = .gone := by
      rw [upd_ne _ _ (by simpa using hd)]; exact hg
    simp only [goK, xK, stepX, hsp, rd_of hy rfl, hgd, Sh.beq_refl, toks_encs, List.isEmpty_nil, Bool.or_true, Bool.true_and]
    rw [if_pos (by simpa using hlen)]
    have e : appV d (.at r p) (Enc.shp α) (xs.map Enc.enc) (ys.map Enc.enc) = encO (.at d []) (.of (xs ++ ys)) := by
      simp [appV, encO]
    rw [e]
    cases l with
    | true => simpa using H
    | false => simpa using H
  · cases ha
theorem ok_encO {α : Type} [Enc α] {t : Tok} {o : NL α} : (encO t o).ok = true := by cases o <;> rfl
theorem ev_mov {x : O} {v : V} (h : x.ev s = v) (hk : v.ok = true) : evalA s (.mov x) = some v := by simp only [evalA, rd_of h hk]
theorem beq_encO {α : Type} [Enc α] {t : Tok} {o : NL α} : (encO t o).shape.beq .p = true := by cases o <;> rfl
theorem ev_loadN {x : O} {t : Tok} {i : Nat} {q : List Nat} {c : V} {g : Sh} (h : x.ev s = .ref t i q c) (hc : c.shape.beq g = true) : evalA s (.load g x) = some c := by simp only [evalA, rd_of h rfl, hc, if_true]
end
end Go.Zq
/- Arguments of functions: captured variables and functions as values; tables by the form of arguments. -/
namespace Go.Zq
class Arg (α : Type) where
  arg : α → V
  un : V → Option α
  un_arg : ∀ x, un (arg x) = some x
  arg_un : ∀ v x, un v = some x → arg x = v
instance {α : Type} [Enc α] : Arg α := ⟨Enc.enc, Enc.dec, Enc.dec_enc, Enc.enc_dec⟩
structure Rf (α : Type) where
  v : α
instance {α : Type} [Arg α] : Arg (Rf α) where
  arg x := .ref .sh 0 [] (Arg.arg x.v)
  un
    | .ref .sh 0 [] u => (Arg.un u).map Rf.mk
    | _ => none
  un_arg x := by simp [Arg.un_arg]
  arg_un v x h := by
    split at h
    · simp only [Option.map_eq_some_iff] at h
      obtain ⟨y, h1, rfl⟩ := h
      simp [Arg.arg_un _ _ h1]
    · cases h
class Args (α : Type) where
  args : α → List V
  uns : List V → Option α
  uns_args : ∀ x, uns (args x) = some x
  args_uns : ∀ v x, uns v = some x → args x = v
instance : Args Unit where
  args _ := []
  uns
    | [] => some ()
    | _ => none
  uns_args _ := rfl
  args_uns v x h := by cases v <;> simp_all
instance {α β : Type} [Arg α] [Args β] : Args (α × β) where
  args x := Arg.arg x.1 :: Args.args x.2
  uns
    | v :: vs => (Arg.un v).bind fun x => (Args.uns vs).map fun y => (x, y)
    | [] => none
  uns_args x := by simp [Arg.un_arg, Args.uns_args]
  args_uns v x h := by
    split at h
    · simp only [Option.bind_eq_some_iff, Option.map_eq_some_iff] at h
      obtain ⟨y, h1, z, h2, rfl⟩ := h
      simp [Arg.arg_un _ _ h1, Args.args_uns _ _ h2]
    · cases h
structure Cl (g : Nat) (α β : Type) where
  fs : α
  env : β
instance {g : Nat} {α β : Type} [Args α] [Args β] : Arg (Cl g α β) where
  arg x := .fn g (Args.args x.fs) (Args.args x.env)
  un
    | .fn g' us vs => if g' = g then (Args.uns us).bind fun x => (Args.uns vs).map fun y => ⟨x, y⟩ else none
    | _ => none
  un_arg x := by simp [Args.uns_args]
  arg_un v x h := by
    split at h
    · split at h
      · rename_i e
        simp only [Option.bind_eq_some_iff, Option.map_eq_some_iff] at h
        obtain ⟨y, h1, z, h2, rfl⟩ := h
        simp [Args.args_uns _ _ h1, Args.args_uns _ _ h2, e]
      · cases h
    · cases h
def da {α γ : Type} [Args α] (f : α → Option γ) (t : γ → V) (args : List V) : Option V := (Args.uns args).bind fun x => (f x).map t
theorem da_put {α γ : Type} [Args α] {f : α → Option γ} {t : γ → V} (x : α) {r : γ} (h : f x = some r) : da f t (Args.args x) = some (t r) := by simp [da, Args.uns_args, h]
theorem da_open {α γ : Type} [Args α] {f : α → Option γ} {t : γ → V} {args : List V} {r : V} (h : da f t args = some r) : ∃ x y, args = Args.args x ∧ f x = some y ∧ r = t y := by
  simp only [da, Option.bind_eq_some_iff, Option.map_eq_some_iff] at h
  obtain ⟨x, h1, y, h2, rfl⟩ := h
  exact ⟨x, y, (Args.args_uns _ _ h1).symm, h2, rfl⟩
def selF : List (Nat × Nat) → List V → Bool
  | [], _ => true
  | (i, g) :: L, args => (match args[i]? with
    | some (.fn g' _ _) => g' == g
    | _ => false) && selF L args
section
variable {D : Den} {σ : Sig} {s : Nat → V} {K : (Nat → V) → Prop} {is : List I}
theorem g_callF {d g m : Nat} {al : Bool} {x : O} {fs env us ws : List V} {as : List O} {r : V} (hx : x.ev s = .fn g fs env) (hfs : V.erases fs = us) (henv : V.erases env = ws) (h1 : env.all V.one = true)
    (vs : List V) (hv : takeArgs as s = some (vs, s)) (hD : D g (us ++ vs ++ ws) = some r) (hσ : σ g = some (m, al)) (hal : (al && !((heldToks s as).isEmpty && (V.fn g fs env).toks.isEmpty)) = false)
    (hr : r.toks = []) (ht : (V.tag d [] m r).toks = []) (hok : (V.tag d [] m r).ok = true) (H : goK D σ is (upd s d (V.tag d [] m r)) K) (hmp : Nat.ble pinR m = false := by rfl) (hgm : Nat.ble modeO g = false := by rfl) : goK D σ (⟨some d, none, false, .call x as⟩ :: is) s K := by
  subst hfs; subst henv
  have hal' : ¬ ((al && !((heldToks s as).isEmpty && (V.fn g fs env).toks.isEmpty)) = true) := by rw [hal]; simp
  simp only [goK, xK, stepX, stepC, rd_of hx rfl, hv, key, cond_false, hD, hσ, hgm, Bool.false_eq_true, if_false]
  rw [if_neg hal']
  simp only [hr, hmp, Bool.not_false, h1, List.isEmpty_nil, Bool.and_self, if_true, Option.getD_some, place, ht, hok, put]
  exact H
theorem erase_fn {g : Nat} {fs env us vs : List V} (h : V.erases fs = us) (h2 : V.erases env = vs) : (V.fn g fs env).erase = .fn g us vs := by simp only [V.erase, h, h2]
theorem erase_ref {t : Tok} {i : Nat} {q : List Nat} {c u : V} (h : c.erase = u) : (V.ref t i q c).erase = .ref .sh 0 [] u := by simp only [V.erase, h]
theorem erase_agg {vs us : List V} (h : V.erases vs = us) : (V.agg vs).erase = .agg us := by simp only [V.erase, h]
theorem erases_nil : V.erases [] = [] := rfl
theorem erases_cons {v u : V} {vs us : List V} (h : v.erase = u) (hs : V.erases vs = us) : V.erases (v :: vs) = u :: us := by simp only [V.erases, h, hs]
theorem map_fn {f : Tok → Option Tok} {g : Nat} {fs env us vs : List V} (h : V.maps f fs = us) (h2 : V.maps f env = vs) : V.map f (.fn g fs env) = .fn g us vs := by simp only [V.map, h, h2]
theorem frz_fn {K : List Tok} {g : Nat} {fs env us vs : List V} (h : V.frzs K fs = us) (h2 : V.frzs K env = vs) : V.frz K (.fn g fs env) = .fn g us vs := by simp only [V.frz, h, h2]
theorem mut_fn {t : Tok} {i : Nat} {q : List Nat} {u : V} {g : Nat} {fs env us vs : List V} (h : V.muts t i q u fs = us) (h2 : V.muts t i q u env = vs) : V.mut t i q u (.fn g fs env) = .fn g us vs := by simp only [V.mut, h, h2]
theorem fin_retF {v r : V} (h : Fin0 v r) (hm : v.mine = true) : fin 0 false v = some r := by
  simp only [fin, h.own, List.map_nil, List.all_nil, hm, Bool.or_true, Bool.and_true, h.ret]
  simp
theorem mine_own {α : Type} [Enc α] {r : Nat} {p : List Nat} {o : NL α} (hf : (Enc.shp α).flat = true) : (encO (.at r p) o).mine = true := by
  cases o <;> simp [encO, V.mine, hf]
theorem mine_nil {h : Sh} : (V.sl .nl h 0 []).mine = true := by simp [V.mine, V.mines]
theorem mine_agg {vs : List V} (h : V.mines vs = true) : (V.agg vs).mine = true := by simp only [V.mine, h]
theorem mine_tup {vs : List V} (h : V.mines vs = true) : (V.tup vs).mine = true := by simp only [V.mine, h]
theorem mines_nil : V.mines [] = true := rfl
theorem mines_cons {v : V} {vs : List V} (h : v.mine = true) (hs : V.mines vs = true) : V.mines (v :: vs) = true := by simp only [V.mines, h, hs, Bool.and_self]
theorem hal_ofF {as : List O} {al : Bool} {g : Nat} {fs env : List V} (h : heldToks s as = []) (h2 : (V.fn g fs env).toks = []) : (al && !((heldToks s as).isEmpty && (V.fn g fs env).toks.isEmpty)) = false := by simp [h, h2]
theorem ev_nilcF {x : O} {g : Nat} {fs env : List V} (h : x.ev s = .fn g fs env) : evalA s (.nilc x) = some (.fn g fs env) := by simp only [evalA, rd_of h rfl]
end
end Go.Zq
/- Arguments that are structs of three parts. -/
namespace Go.Zq
open Go.RowKit Go.ChangeShapes Go.Deep
theorem opens_s3 {P : Program} {t : TypeId} {α β γ : Type} [Enc α] [Enc β] [Enc γ] {oa : α → Prop} {ob : β → Prop} {oc : γ → Prop} {f0 f1 f2 : Field} (ht : P.underlying t = some (.struct #[f0, f1, f2])) (h0 : Opens P f0.type α oa) (h1 : Opens P f1.type β ob) (h2 : Opens P f2.type γ oc)
    (hc : P.cellsOf t = P.cellsOf f0.type + P.cellsOf f1.type + P.cellsOf f2.type) (e0 : f0.offset = 0) (e1 : f1.offset = P.cellsOf f0.type) (e2 : f2.offset = P.cellsOf f0.type + P.cellsOf f1.type) :
    Opens P t (S3 α β γ) (fun x => oa x.a ∧ ob x.b ∧ oc x.c) := by
  refine ⟨by rw [hc, h0.1, h1.1, h2.1]; simp [Enc.shp, Sh.size, Sh.sizes]; omega, ?_⟩
  intro H en W fuel cs x h
  obtain ⟨xs, n, _, rfl, hl, hlen, hf⟩ := DataW.trod_struct ht h
  match xs, hlen with
  | [y0, y1, y2], _ =>
    have t0 := hf 0 f0 rfl
    have t1 := hf 1 f1 rfl
    have t2 := hf 2 f2 rfl
    obtain ⟨a, ha, ra⟩ := h0.2 en W n _ _ (by simpa using t0)
    obtain ⟨b, hb, rb⟩ := h1.2 en W n _ _ (by simpa using t1)
    obtain ⟨c, hcc, rc⟩ := h2.2 en W n _ _ (by simpa using t2)
    refine ⟨⟨a, b, c⟩, ⟨ha, hb, hcc⟩, fun S τ hS => ?_⟩
    have r0 := ra S τ hS
    have r1 := rb S τ hS
    have r2 := rc S τ hS
    rw [e0, h0.1] at r0
    rw [e1, h0.1, h1.1] at r1
    rw [e2, h0.1, h1.1, h2.1] at r2
    simp only [Enc.enc, relC, relCs, Enc.shape_enc]
    refine ⟨by simpa using r0, r1, ?_, ?_⟩
    · rw [List.drop_drop]; exact r2
    · rw [List.drop_drop, List.drop_drop]; apply List.drop_eq_nil_of_le; rw [hl, hc, h0.1, h1.1, h2.1]; omega
end Go.Zq
/- Functions that write to what their first argument owns; results that are the caller's own. -/
namespace Go.Zq
section
variable {P : Program} {w : World} {S : Nat → Prop} {τ : Tok → Blk}
theorem contract_plain {f m : Nat} {al : Bool} {args : List V} {r : V} (h : Contract' P (unk f) m al args r) (hm : Nat.ble pinR m = false) (hg : Nat.ble modeO f = false) : Contract P f m al args r := by
  unfold Contract' at h
  rw [if_neg (by rintro rfl; exact absurd hm (by decide)), if_neg (by rintro rfl; exact absurd hm (by decide))] at h
  simpa [unk, hg] using h
theorem ok_of {e : Ent} {f : Nat} (hu : unk e.g = f) (con : ∀ args r, e.den args = some r → Contract' P f e.m e.al args r) (fn : ∃ fn, P.funcs[f]? = some fn ∧ fn.body.isNone = false ∧ (fn.name == "runtime.NumGoroutine") = false) : e.Ok P := by
  subst hu
  exact ⟨con, fn⟩
def oriM (w : World) (τ : Tok → Blk) (ks : List Tok) : Ori := ⟨w, fun b => w.heap.size ≤ b ∨ ∃ k ∈ ks, (τ k).b = b, τ, fun _ h => .inl h⟩
theorem getD_toks : ∀ (us : List V) (t : Nat) (k : Tok), k ∈ (us.getD t .dead).toks → k ∈ V.tokss us
  | [], t, k, h => by simp [V.toks] at h
  | u :: us, t, k, h => by
    simp only [V.tokss, List.mem_append]
    cases t with
    | zero => exact .inl (by simpa using h)
    | succ t => exact .inr (getD_toks us t k (by simpa using h))
theorem getD_ok : ∀ (us : List V) (t : Nat), us.all V.ok = true → (us.getD t .dead).ok = true
  | [], t, h => rfl
  | u :: us, t, h => by
    simp only [List.all_cons, Bool.and_eq_true] at h
    cases t with
    | zero => simpa using h.1
    | succ t => simpa using getD_ok us t h.2
theorem inv_initM {args : List V} {vals : Array Value} {nt : Nat} (hS : ∀ b, S b → b < w.heap.size) (hr : relVs w S τ args vals.toList) (hk : ∀ k ∈ V.tokss args, k.pinned = true ∧ (τ k).b < w.heap.size ∧ ¬ S (τ k).b)
    (hinj : ∀ k ∈ V.tokss args, ∀ k' ∈ V.tokss args, (τ k).b = (τ k').b → k = k') (hok : args.all V.ok = true) (hn : args.length ≤ nt) (hnt : nt ≤ pinR) :
    Inv (oriM w τ (V.tokss args)) S nt (init args) { tmps := vals ++ Array.replicate (nt - vals.size) undef, defers := [] } w S τ where
  told t := by
    have hl := relVs_len _ _ hr
    simp only [Array.length_toList] at hl
    have := relVs_getD args vals.toList t hr
    by_cases ht : t < vals.size
    · simp only [init, Act.eval, Array.getD_eq_getD_getElem?, Array.getElem?_append_left ht]
      simpa [List.getD_eq_getElem?_getD] using this
    · have : init args t = .dead := by
        simp only [init]
        rw [List.getD_eq_getElem?_getD, List.getElem?_eq_none (by omega)]; rfl
      rw [this]; simp [relV]
  size := by
    have hl := relVs_len _ _ hr
    simp at hl ⊢; omega
  defers := rfl
  own t k h := by
    have h1 := getD_toks args t k h
    have h2 := hk k h1
    exact ⟨.inr ⟨k, h1, rfl⟩, h2.2.1, h2.2.2⟩
  inj t t' k k' h h' e := hinj k (getD_toks args t k h) k' (getD_toks args t' k' h') e
  sbd := hS
  sfr b hb := .inl hb
  s0 b hb := hb
  below := Bel.refl _ _
  lin r v t k hl _ _ := by
    have := getD_ok args r hok
    simp only [init] at hl
    rw [hl] at this; simp [V.ok] at this
  gone r t k hg _ := by
    have := getD_ok args r hok
    simp only [init] at hg
    rw [hg] at this; simp [V.ok] at this
  small := hnt
  pin t k h _ := rfl
def RM (P : Program) (rs : List ResultVar) (r u : V) (s : Nat → V) : Prop := resV P s rs = some r ∧ (s 0 = u ∨ u = .dead)
theorem contractM_of {D : Den} {σ : Sig} (hF : Fits2 P D σ) (hm : P.follows .mixedOrders = true) {f : Nat} {fn : Func} {c : Code} (hf : P.funcs[f]? = some fn) (hb : fn.body = some c) {an : List An} {A : AC} (hc : cC P fn.ntmps an c = some A)
    {args : List V} {r u : V} (hok : args.all V.ok = true) (hn : args.length ≤ fn.ntmps) (hnt : Nat.ble fn.ntmps pinR = true)
    (h : A.wp D σ (fun e s => (e = .nrm ∨ e = .ret) ∧ RM P fn.results.toList r u s) (init args)) : ContractM P f args r u := by
  intro w S τ vals hS hr hk hinj hnum
  have hI := inv_initM hS hr hk hinj hok hn (Nat.le_of_ble_eq_true hnt)
  refine calls_of_wp hf hb (ac_sound hF hm c A _ _ _ _ _ _ _ hc hI h ?_)
  rintro e s a w' S' τ' ⟨he, hres, hs0⟩ hI'
  obtain ⟨cv, h1, h2, h3⟩ := results_run fn _ r rfl hres hI'
  have post : Bel (fun b => w.heap.size ≤ b ∨ ∃ k ∈ V.tokss args, (τ k).b = b) w w' ∧ relV w' S τ r cv ∧
      ∀ h xs ys, args.head? = some (.sl (.at pinR []) h 0 xs) → u = .sl (.at pinR []) h 0 ys → h.flat = true → ys.length = xs.length → relV w' S τ u (vals.getD 0 undef) := by
    refine ⟨hI'.below, num_rel hnum h2, ?_⟩
    intro g xs ys hargs hu hfl hlen
    rcases hs0 with hs0 | hs0
    case inr => rw [hs0] at hu; cases hu
    cases args with
    | nil => cases hargs
    | cons v0 vs =>
    simp only [List.head?_cons, Option.some.injEq] at hargs
    subst hargs; subst hu
    have hr0 : ∃ c0 cs, vals.toList = c0 :: cs ∧ relC w S τ (.sl (.at pinR []) g 0 xs) [c0] := by
      simp only [relVs] at hr
      obtain ⟨c0, cs, e1, e2, _⟩ := hr
      exact ⟨c0, cs, e1, by simpa only [relV] using e2⟩
    obtain ⟨c0, cs, hvals, hr0⟩ := hr0
    have hc0 : vals.getD 0 undef = c0 := by
      have : vals.toList.getD 0 undef = c0 := by rw [hvals]; rfl
      simpa [Array.getD_eq_getD_getElem?, List.getD_eq_getElem?_getD] using this
    rw [hc0]
    simp only [relV]
    simp only [relC] at hr0 ⊢
    obtain ⟨a0, cap, hcc, hle, hxs, _, hh⟩ := hr0
    have ht := hI'.told 0
    rw [hs0] at ht
    have ht : relC w' S' τ' (.sl (.at pinR []) g 0 ys) [a.eval (.tmp 0)] := by simpa only [relV] using ht
    simp only [relC] at ht
    obtain ⟨a1, cap1, hcc1, hle1, hys, _, hh1⟩ := ht
    have hpin : τ' (.at pinR []) = τ (.at pinR []) := hI'.pin 0 _ (by rw [hs0]; simp [V.toks]) (pinned_of rfl (Nat.le_refl _))
    refine ⟨a0, cap, by rw [hlen]; exact hcc, by omega, hys, by simp, hh.imp id ?_⟩
    rintro ⟨b, off, arr, ty, fz, ha, hw, hp, hfit, hrr⟩
    obtain ⟨arr', hw', hsz⟩ := hI'.below.rows b arr ty fz hw
    refine ⟨b, off, arr', ty, fz, ha, hw', hp, by omega, ?_⟩
    rcases hh1 with h0 | ⟨b1, off1, arr1, ty1, fz1, ha1, hw1, hp1, hfit1, hrr1⟩
    · have : ys = [] := List.eq_nil_of_length_eq_zero (by omega)
      subst this
      simp [relCs]
    · simp only [PlaceL] at hp hp1
      rw [hpin] at hp1
      have hb1 : b1 = b := by rw [← hp1.1, ← hp.1]
      subst hb1
      rw [hw'] at hw1
      simp only [Option.some.injEq, Obj.cells.injEq] at hw1
      obtain ⟨rfl, _, _⟩ := hw1
      have ho : off1 = off := by rw [hp1.2.2.1, hp.2.2.1]
      subst ho
      exact relCs_flat S ys _ hrr1 fun y hy => by rw [hys y hy]; exact hfl
  rcases he with rfl | rfl
  · exact ⟨hI'.defers, cv, h1, cv, rfl, post⟩
  · exact ⟨hI'.defers, cv, h1, cv, rfl, post⟩
theorem contractM_run {D : Den} {σ : Sig} (hF : Fits2 P D σ) (hm : P.follows .mixedOrders = true) {f : Nat} {fn : Func} {c : Code} (hf : P.funcs[f]? = some fn) (hb : fn.body = some c) {an : List An} {A : AC} (hc : cC P fn.ntmps an c = some A)
    {al : Bool} {args : List V} {r u : V} (hok : args.all V.ok = true) (hn : args.length ≤ fn.ntmps) (hnt : Nat.ble fn.ntmps pinR = true)
    (h : Run D σ (RM P fn.results.toList r u) (.run A []) (init args)) : Contract' P f pinR al args (.tup [r, u]) := by
  have h1 := contractM_of hF hm hf hb hc hok hn hnt (run_says h)
  unfold Contract'
  rw [if_pos rfl]
  intro r' u' e
  simp only [V.tup.injEq, List.cons.injEq, and_true] at e
  obtain ⟨rfl, rfl⟩ := e
  exact h1
end
structure On (α : Type) where
  v : NL α
def deco {α : Type} [Enc α] (t : Tok) : V → Option (NL α)
  | .sl .nl h 0 [] => if h.beq (Enc.shp α) then some .nil else none
  | .sl t' h 0 xs => if t' = t ∧ h.beq (Enc.shp α) = true then (decs xs).map .of else none
  | _ => none
theorem deco_enc {α : Type} [Enc α] {r : Nat} {p : List Nat} (o : NL α) : deco (.at r p) (encO (.at r p) o) = some o := by
  cases o with
  | nil => simp [encO, deco, Sh.beq_refl]
  | of xs => simp [encO, deco, Sh.beq_refl, decs_encs]
theorem enc_deco {α : Type} [Enc α] {t : Tok} (v : V) (o : NL α) (h : deco t v = some o) : encO t o = v := by
  unfold deco at h
  split at h
  · split at h
    · rename_i hb
      simp only [Option.some.injEq] at h; subst h
      simp [encO, Sh.beq_eq _ _ hb]
    · cases h
  · split at h
    · rename_i hb
      simp only [Option.map_eq_some_iff] at h
      obtain ⟨ys, h1, rfl⟩ := h
      simp [encO, Sh.beq_eq _ _ hb.2, hb.1, encs_decs _ _ h1]
    · cases h
  · cases h
instance {α : Type} [Enc α] : Arg (On α) where
  arg x := encO (.at pinR []) x.v
  un v := (deco (.at pinR []) v).map On.mk
  un_arg x := by simp [deco_enc]
  arg_un v x h := by
    simp only [Option.map_eq_some_iff] at h
    obtain ⟨o, h1, rfl⟩ := h
    exact enc_deco v o h1
structure Og (α : Type) where
  a : Int
  v : NL α
instance {α : Type} [Enc α] : Arg (Og α) where
  arg x := .agg [Enc.enc x.a, encO (.at pinR [1]) x.v]
  un
    | .agg [u, v] => (Enc.dec u).bind fun a => (deco (.at pinR [1]) v).map (Og.mk a)
    | _ => none
  un_arg x := by simp [deco_enc, Enc.dec_enc]
  arg_un v x h := by
    split at h
    · simp only [Option.bind_eq_some_iff, Option.map_eq_some_iff] at h
      obtain ⟨a, h0, o, h1, rfl⟩ := h
      simp [enc_deco _ _ h1, Enc.enc_dec _ _ h0]
    · cases h
theorem ok_encP {α : Type} [Enc α] {t : Tok} {o : NL α} : (encO t o).ok = true := by cases o <;> rfl
theorem mem_encP {α : Type} [Enc α] {t : Tok} {o : NL α} : (encO t o).mem = true := by cases o <;> rfl
theorem shp_encP {α : Type} [Enc α] {t : Tok} {o : NL α} : (encO t o).shape.beq .p = true := by cases o <;> rfl
theorem tok_encP {α : Type} [Enc α] {r : Nat} {p : List Nat} {k : Tok} {o : NL α} (h : (k == .at r p) = false) (hn : (k == .nl) = false) : (encO (.at r p) o).toks.contains k = false := by
  cases o with
  | nil => simp [encO, V.toks, V.tokss]
  | of xs =>
    have h1 : ((.of xs : NL α)) = .of xs := rfl
    have : (encO (.at r p) (.of xs)).toks = [.at r p] := by simp [encO, V.toks, toks_encs]
    rw [this]
    simpa using h
theorem shape_encP {α : Type} [Enc α] {t : Tok} {o : NL α} : (encO t o).shape = .p := by cases o <;> rfl
theorem all_ok2 {a b : V} (ha : a.ok = true) (hb : b.ok = true) : [a, b].all V.ok = true := by simp [ha, hb]
theorem tok_memP {α : Type} [Enc α] {r : Nat} {p : List Nat} {k : Tok} {o : NL α} (h : k ≠ .at r p) : k ∉ (encO (.at r p) o).toks := by
  cases o with
  | nil => simp [encO, V.toks, V.tokss]
  | of xs =>
    have : (encO (.at r p) (.of xs)).toks = [.at r p] := by simp [encO, V.toks, toks_encs]
    rw [this]
    simpa using h
def ksO {α : Type} (t : Tok) : NL α → List Tok
  | .nil => []
  | .of _ => [t]
theorem killO_ne {α : Type} {t k : Tok} {o : NL α} (h : (k == t) = false) : killK (ksO t o) k = some k := by
  cases o with
  | nil => simp [killK, ksO]
  | of xs =>
    simp only [killK, ksO, List.contains_cons, List.contains_nil, h, Bool.or_false, Bool.false_eq_true, if_false]
theorem canon_own {α : Type} [Enc α] (hf : (Enc.shp α).flat = true) {r : Nat} {p : List Nat} {o : NL α} : canon (encO (.at r p) o) = some (encO (.at pinR []) o, ksO (.at r p) o) := by
  cases o with
  | nil => simp [canon, encO, V.own, V.low, V.ok, V.ret, V.tag, ksO]
  | of xs => simp [canon, encO, V.own, V.low, V.ok, V.ret, V.tag, ksO, hf]
theorem canon_agg {α : Type} [Enc α] (hf : (Enc.shp α).flat = true) {r : Nat} {p : List Nat} {o : NL α} {a : Int} : canon (.agg [Enc.enc a, encO (.at r p) o]) = some (.agg [Enc.enc a, encO (.at pinR [1]) o], ksO (.at r p) o) := by
  cases o with
  | nil => simp [canon, encO, V.own, V.owns, V.low, V.lows, V.ok, V.ret, V.rets, V.tag, V.tags, ksO, Enc.enc, V.toks, V.erase]
  | of xs => simp [canon, encO, V.own, V.owns, V.low, V.lows, V.ok, V.ret, V.rets, V.tag, V.tags, ksO, hf, Enc.enc, V.toks, V.erase]
def remark {α : Type} : NL α → NL α → Option (NL α)
  | .nil, _ => some .nil
  | .of xs, .of ys => if ys.length = xs.length then some (.of ys) else none
  | .of _, .nil => none
theorem marked_own {α : Type} [Enc α] (hf : (Enc.shp α).flat = true) {r : Nat} {p : List Nat} {o o1 o2 : NL α} (h : remark o o1 = some o2) : remV (ksO (.at r p) o) (marked (encO (.at r p) o) (encO (.at pinR []) o1)) (encO (.at r p) o) = encO (.at r p) o2 := by
  cases o with
  | nil => simp [remark] at h; subst h; simp [encO, remV, ksO, V.map, killK, V.maps]
  | of xs =>
    cases o1 with
    | nil => simp [remark] at h
    | of ys =>
      simp only [remark] at h
      split at h
      · rename_i hl
        simp only [Option.some.injEq] at h; subst h
        simp [encO, marked, remV, same, ksO, hf, Sh.beq_refl, hl]
      · cases h
theorem remV_ne {ks : List Tok} {nv : V} {α : Type} [Enc α] {r : Nat} {p : List Nat} {o : NL α} (h : ks.contains (.at r p) = false) : remV ks nv (encO (.at r p) o) = V.map (killK ks) (encO (.at r p) o) := by
  cases o with
  | nil => rfl
  | of xs => simp only [encO, remV, h, Bool.false_eq_true, if_false]
theorem ksO_ne {α : Type} {t k : Tok} {o : NL α} (h : (k == t) = false) : (ksO t o).contains k = false := by
  cases o with
  | nil => rfl
  | of xs => simp only [ksO, List.contains_cons, List.contains_nil, h, Bool.or_false]
theorem rem_own {α β : Type} [Enc α] {t : Tok} {nv : V} {r : Nat} {p : List Nat} {o : NL α} {o0 : NL β} (h : ((.at r p : Tok) == t) = false) (hn : (Tok.nl == t) = false) : remV (ksO t o0) nv (encO (.at r p) o) = encO (.at r p) o := by
  rw [remV_ne (ksO_ne h)]
  exact map_encO (killO_ne h) (killO_ne hn)
theorem rem_enc {α : Type} [Enc α] {ks : List Tok} {nv : V} {xs : List α} : remV ks nv (Enc.enc xs) = Enc.enc xs := rfl
theorem rem_map {ks : List Tok} {nv v u : V} (hn : (match v with | .sl (.at _ _) _ _ _ => false | _ => true) = true) (h : V.map (killK ks) v = u) : remV ks nv v = u := by
  rw [← h]
  unfold remV
  split
  · simp at hn
  · rfl
section
variable {D : Den} {σ : Sig} {R : (Nat → V) → Prop} {s : Nat → V} {K : (Nat → V) → Prop} {is : List I}
theorem g_mark {d g x : Nat} {rest : List O} {al : Bool} {v v0 r u : V} {vs : List V} {ks : List Tok} (hx : s x = v) (hc : canon v = some (v0, ks)) (hr : rdAll s rest = some vs) (hD : D g (v0 :: vs) = some (.tup [r, u])) (hσ : σ g = some (pinR, al))
    (h0 : V.tokss vs = []) (hn : r.num = true)
    (H : ∀ s1, (∀ t w w', s t = w → remV ks (marked v u) w = w' → s1 t = w') → goK D σ is (upd s1 d r) K) (hgm : Nat.ble modeO g = false := by rfl) :
    goK D σ (⟨some d, none, false, .mark (.k (.fn g [] [])) (.t x :: rest)⟩ :: is) s K := by
  have h1 : O.rd s (.k (.fn g [] [])) = some (.fn g [] []) := rfl
  simp only [goK, xK, stepX, h1, hx, hc, hr, key, cond_false, hD, hσ, h0, hn, hgm, List.isEmpty_nil, Nat.beq_refl, Bool.not_false, Bool.and_self, if_true, put]
  refine H _ ?_
  intro t w w' e1 e2
  simp only [e1]
  exact e2
theorem ev_extN {x : O} {i : Nat} {vs : List V} {v : V} (h : x.ev s = .tup vs) (hi : vs[i]? = some v) (hk : v.ok = true) : evalA s (.ext x i) = some v := by simp only [evalA, rd_of h rfl, hi, hk, if_true]
theorem ev_fieldN {x : O} {f off : Nat} {g : Sh} {vs : List V} {v : V} (h : x.ev s = .agg vs) (hi : vs[f]? = some v) (hc : (Sh.sizes (V.shapes (vs.take f)) == off && v.shape.beq g) = true) : evalA s (.field x f off g) = some v := by simp only [evalA, rd_of h rfl, hi, hc, if_true]
theorem ev_bldN {α : Type} [Enc α] {x : O} {t : Tok} {o : NL α} {h : Sh} (hx : x.ev s = encO t o) : evalA s (.bld (.agg [.sl .nl h 0 []]) [(0, 0, x)]) = some (.agg [encO t o]) := by
  simp [evalA, bldParts, rd_of hx ok_encP, mem_encP, shape_encP, V.shape, Sh.beq, V.shapes, Sh.sizes]
theorem rdAll_nil : rdAll s [] = some [] := rfl
theorem rdAll_cons {x : O} {xs : List O} {v : V} {vs : List V} (h : x.ev s = v) (hk : v.ok = true) (hs : rdAll s xs = some vs) : rdAll s (x :: xs) = some (v :: vs) := by
  simp only [rdAll, rd_of h hk, hs]
theorem rmA {P : Program} {x : ResultVar} {r u : V} (h : resR P s x = some r) (h0 : s 0 = u) : RM P [x] r u s := ⟨by simp only [resV, h], .inl h0⟩
theorem rmD {P : Program} {x : ResultVar} {r : V} (h : resR P s x = some r) : RM P [x] r .dead s := ⟨by simp only [resV, h], .inr rfl⟩
theorem tag_encO {α : Type} [Enc α] {d : Nat} {p : List Nat} {o : NL α} : V.tag d p 1 (encO .sh o) = encO (.at d p) o := by
  cases o with
  | nil => rfl
  | of xs =>
    simp only [encO, V.tag]
    split
    · rfl
    · congr 1
      have : ∀ (xs : List α) k, V.tags d p 0 k (xs.map Enc.enc) = xs.map Enc.enc := by
        intro xs
        induction xs with
        | nil => intro k; rfl
        | cons x xs ih => intro k; simp [V.tags, Enc.tag0, ih]
      exact this xs 0
theorem toks_encS {α : Type} [Enc α] {o : NL α} : (encO .sh o).toks = [] := by
  cases o with
  | nil => simp [encO, V.toks, V.tokss]
  | of xs => rfl
theorem tag_tup {d : Nat} {p : List Nat} {m : Nat} {vs us : List V} (h : V.tags d p m 0 vs = us) : V.tag d p m (.tup vs) = .tup us := by simp only [V.tag, h]
theorem tag_agg {d : Nat} {p : List Nat} {m : Nat} {vs us : List V} (h : V.tags d p m 0 vs = us) : V.tag d p m (.agg vs) = .agg us := by simp only [V.tag, h]
theorem tags_nil {d : Nat} {p : List Nat} {m k : Nat} : V.tags d p m k [] = [] := rfl
theorem tags_cons {d : Nat} {p : List Nat} {m k : Nat} {v u : V} {vs us : List V} (h : V.tag d (p ++ [k]) m v = u) (hs : V.tags d p m (k + 1) vs = us) : V.tags d p m k (v :: vs) = u :: us := by simp only [V.tags, h, hs]
theorem toks_tup {vs : List V} (h : V.tokss vs = []) : (V.tup vs).toks = [] := by simp only [V.toks, h]
theorem toks_agg {vs : List V} (h : V.tokss vs = []) : (V.agg vs).toks = [] := by simp only [V.toks, h]
theorem tokss_nil : V.tokss [] = [] := rfl
theorem tokss_cons {v : V} {vs : List V} (h : v.toks = []) (hs : V.tokss vs = []) : V.tokss (v :: vs) = [] := by simp only [V.tokss, h, hs, List.append_nil]
theorem g_callO {d g m : Nat} {al : Bool} {as : List O} {r v : V} {kk : Nat} (vs : List V) (hv : takeArgs as s = some (vs, s)) (hD : D kk vs = some r) (hσ : σ kk = some (m, al)) (hal : (al && !(heldToks s as).isEmpty) = false)
    (hr : r.toks = []) (ht : V.tag d [] m r = v) (hok : v.ok = true) (hg : s d = .gone) (H : goK D σ is (upd s d v) K) (hmp : Nat.ble pinR m = false := by rfl) (hgm : Nat.ble modeO g = false := by rfl) (hkk : g + modeO = kk := by rfl) :
    goK D σ (⟨some d, none, false, .callO (.k (.fn g [] [])) as⟩ :: is) s K := by
  subst ht
  subst hkk
  have h0 : (V.fn g [] []).toks = [] := by simp [V.toks, V.tokss]
  have h1 : O.rd s (.k (.fn g [] [])) = some (.fn g [] []) := rfl
  have hal' : ¬ ((al && !((heldToks s as).isEmpty && (V.fn g [] []).toks.isEmpty)) = true) := by simp [h0]; simpa using hal
  simp only [goK, xK, stepX, stepC, h1, hv, V.erases, List.nil_append, List.append_nil, key, cond_true, hD, hσ, hgm, Bool.false_eq_true, if_false]
  rw [if_neg hal']
  simp only [hr, hmp, Bool.not_false, List.isEmpty_nil, List.all_nil, Bool.and_self, if_true, Option.getD_some, place, hok, hg, put]
  split
  · rename_i h
    split at h
    · simp only [Option.some.injEq] at h; subst h; exact H
    · simp at h; subst h; exact H
  · rename_i h
    split at h <;> cases h
def linO (d : Nat) {α : Type} [Enc α] : NL α → V
  | .nil => encO (.at d []) (.nil : NL α)
  | .of xs => .lin (encO (.at d []) (.of xs))
theorem g_callOl {α : Type} [Enc α] {d g m : Nat} {al : Bool} {as : List O} {r : V} {o : NL α} {kk : Nat} (vs : List V) (hv : takeArgs as s = some (vs, s)) (hD : D kk vs = some r) (hσ : σ kk = some (m, al)) (hal : (al && !(heldToks s as).isEmpty) = false)
    (hr : r.toks = []) (ht : V.tag d [] m r = encO (.at d []) o) (hg : s d = .gone) (H : goK D σ is (upd s d (linO d o)) K) (hmp : Nat.ble pinR m = false := by rfl) (hgm : Nat.ble modeO g = false := by rfl) (hkk : g + modeO = kk := by rfl) :
    goK D σ (⟨some d, none, true, .callO (.k (.fn g [] [])) as⟩ :: is) s K := by
  subst hkk
  have h0 : (V.fn g [] []).toks = [] := by simp [V.toks, V.tokss]
  have h1 : O.rd s (.k (.fn g [] [])) = some (.fn g [] []) := rfl
  have hal' : ¬ ((al && !((heldToks s as).isEmpty && (V.fn g [] []).toks.isEmpty)) = true) := by simp [h0]; simpa using hal
  simp only [goK, xK, stepX, stepC, h1, hv, V.erases, List.nil_append, List.append_nil, key, cond_true, hD, hσ, hgm, Bool.false_eq_true, if_false]
  rw [if_neg hal']
  simp only [hr, hmp, ht, Bool.not_false, List.isEmpty_nil, List.all_nil, Bool.and_self, if_true, Option.getD_some, place, ok_encP, hg, put]
  cases o with
  | nil => simpa [encO, V.toks, V.tokss, linO] using H
  | of xs => simpa [encO, V.toks, toks_encs, linO] using H
theorem g_appSO {α : Type} [Enc α] {d r : Nat} {g : Sh} {o : NL α} {ys zs : List α} {y : O} {t2 : Tok} {lo2 : Nat} {l : Bool} (hx : s r = linO r o) (hy : y.ev s = .sl t2 (Enc.shp α) lo2 (ys.map Enc.enc)) (hgg : g = Enc.shp α) (hg : s d = .gone) (hne : ys ≠ []) (ha : appL o.list ys = some zs)
    (H : ∀ s1, (∀ t, t ≠ r → s1 t = s t) → goK D σ is (upd s1 d (if l then .lin (encO (.at d []) (.of zs)) else encO (.at d []) (.of zs))) K) : goK D σ (⟨some d, none, l, .appS g (.t r) y⟩ :: is) s K := by
  subst hgg
  unfold appL at ha
  split at ha
  case isFalse => cases ha
  rename_i hlen
  simp only [Option.some.injEq] at ha; subst ha
  have hrd : r ≠ d := by
    rintro rfl
    rw [hx] at hg
    cases o <;> simp [linO, encO] at hg
  have hne2 : ys.map (Enc.enc : α → V) ≠ [] := by simpa using hne
  cases o with
  | nil =>
    have hsp : spentS s (.t r) = some (s, .sl .nl (Enc.shp α) 0 []) := by simp only [spentS]; rw [hx]; rfl
    simp only [goK, xK, stepX, hsp, rd_of hy rfl, hg, Sh.beq_refl, toks_encs, List.isEmpty_nil, Bool.or_true, Bool.true_and]
    simp only [NL.list, List.length_nil] at hlen
    rw [if_pos (by simpa using hlen)]
    have e : appV d .nl (Enc.shp α) [] (ys.map Enc.enc) = encO (.at d []) (.of ((NL.nil : NL α).list ++ ys)) := by
      simp [appV, encO, NL.list, hne2]
    have hl : (l && !decide (True ∧ ys.map (Enc.enc : α → V) = [])) = l := by simp [hne]
    rw [e, hl]
    exact H s (fun t _ => rfl)
  | of xs =>
    have hsp : spentS s (.t r) = some (upd s r .dead, .sl (.at r []) (Enc.shp α) 0 (xs.map Enc.enc)) := by
      simp only [spentS]; rw [hx]; simp [linO, encO, toks_encs]
    have hgd : upd s r .dead d = .gone := by rw [upd_ne _ _ hrd.symm]; exact hg
    simp only [goK, xK, stepX, hsp, rd_of hy rfl, hgd, Sh.beq_refl, toks_encs, List.isEmpty_nil, Bool.or_true, Bool.true_and]
    simp only [NL.list] at hlen
    rw [if_pos (by simpa using hlen)]
    have e : appV d (.at r []) (Enc.shp α) (xs.map Enc.enc) (ys.map Enc.enc) = encO (.at d []) (.of ((NL.of xs).list ++ ys)) := by
      simp [appV, encO, NL.list]
    have hl : (l && !decide (Tok.at r [] = .nl ∧ ys.map (Enc.enc : α → V) = [])) = l := by simp
    rw [e, hl]
    exact H _ (fun t ht => upd_ne _ _ ht)
theorem g_callS {d g m rl : Nat} {al : Bool} {as : List O} {r : V} (vs : List V) (hv : takeArgs as s = some (vs, upd s rl .dead)) (hD : D g vs = some r) (hσ : σ g = some (m, al)) (hal : (al && !(heldToks s as).isEmpty) = false)
    (hr : r.toks = []) (ht : (V.tag d [] m r).toks = []) (hok : (V.tag d [] m r).ok = true) (H : goK D σ is (upd (upd s rl .dead) d (V.tag d [] m r)) K) (hmp : Nat.ble pinR m = false := by rfl) (hgm : Nat.ble modeO g = false := by rfl) : goK D σ (⟨some d, none, false, .call (.k (.fn g [] [])) as⟩ :: is) s K := by
  have h0 : (V.fn g [] []).toks = [] := by simp [V.toks, V.tokss]
  have h1 : O.rd s (.k (.fn g [] [])) = some (.fn g [] []) := rfl
  have hal' : ¬ ((al && !((heldToks s as).isEmpty && (V.fn g [] []).toks.isEmpty)) = true) := by simp [h0]; simpa using hal
  simp only [goK, xK, stepX, stepC, h1, hv, V.erases, List.nil_append, List.append_nil, key, cond_false, hD, hσ, hgm, Bool.false_eq_true, if_false]
  rw [if_neg hal']
  simp only [hr, hmp, Bool.not_false, List.isEmpty_nil, List.all_nil, Bool.and_self, if_true, Option.getD_some, place, ht, hok, put]
  exact H
theorem g_callOS {d g m rl : Nat} {al : Bool} {as : List O} {r v : V} {kk : Nat} (vs : List V) (hv : takeArgs as s = some (vs, upd s rl .dead)) (hD : D kk vs = some r) (hσ : σ kk = some (m, al)) (hal : (al && !(heldToks s as).isEmpty) = false)
    (hr : r.toks = []) (ht : V.tag d [] m r = v) (hok : v.ok = true) (hg : upd s rl .dead d = .gone) (H : goK D σ is (upd (upd s rl .dead) d v) K) (hmp : Nat.ble pinR m = false := by rfl) (hgm : Nat.ble modeO g = false := by rfl) (hkk : g + modeO = kk := by rfl) :
    goK D σ (⟨some d, none, false, .callO (.k (.fn g [] [])) as⟩ :: is) s K := by
  subst ht
  subst hkk
  have h0 : (V.fn g [] []).toks = [] := by simp [V.toks, V.tokss]
  have h1 : O.rd s (.k (.fn g [] [])) = some (.fn g [] []) := rfl
  have hal' : ¬ ((al && !((heldToks s as).isEmpty && (V.fn g [] []).toks.isEmpty)) = true) := by simp [h0]; simpa using hal
  simp only [goK, xK, stepX, stepC, h1, hv, V.erases, List.nil_append, List.append_nil, key, cond_true, hD, hσ, hgm, Bool.false_eq_true, if_false]
  rw [if_neg hal']
  simp only [hr, hmp, Bool.not_false, List.isEmpty_nil, List.all_nil, Bool.and_self, if_true, Option.getD_some, place, hok, hg, put]
  split
  · rename_i h
    split at h
    · simp only [Option.some.injEq] at h; subst h; exact H
    · simp at h; subst h; exact H
  · rename_i h
    split at h <;> cases h
theorem ta_lin {s1 : Nat → V} {r : Nat} {v u : V} {xs : List O} {vs : List V} (h : s r = .lin v) (he : v.erase = u) (hs : takeArgs xs (upd s r .dead) = some (vs, s1)) : takeArgs (.t r :: xs) s = some (u :: vs, s1) := by
  simp only [takeArgs, O.ev, h, hs, Option.map_some, he]
theorem ht_lin {α : Type} [Enc α] {r : Nat} {p : List Nat} {o : NL α} {xs : List O} (h : s r = .lin (encO (.at r p) o)) (hs : heldToks s xs = []) : heldToks s (.t r :: xs) = [] := by
  simp only [heldToks, O.ev, h, hs, List.append_nil]
  cases o with
  | nil => simp [encO, V.toks, V.tokss]
  | of xs => simp [encO, V.toks, toks_encs, Tok.root?]
def kdO {α : Type} [Enc α] : NL α → V
  | .nil => .sl .nl (Enc.shp α) 0 []
  | .of _ => .dead
theorem map_kdT {α : Type} [Enc α] {r : Nat} {p : List Nat} {o : NL α} : V.map (killT (.at r p)) (encO (.at r p) o) = kdO o := by
  cases o with
  | nil => simp [encO, V.map, killT, kdO, V.maps]
  | of xs => simp [encO, V.map, killT, kdO]
theorem map_kdO {α : Type} [Enc α] {f : Tok → Option Tok} {o : NL α} (hn : f .nl = some .nl) : V.map f (kdO o) = kdO o := by
  cases o with
  | nil => simp [V.map, kdO, hn, V.maps]
  | of xs => rfl
theorem mut_kdO {α : Type} [Enc α] {t : Tok} {i : Nat} {q : List Nat} {u : V} {o : NL α} : V.mut t i q u (kdO o) = kdO o := by
  cases o with
  | nil => cases t <;> simp [V.mut, kdO, V.muts, V.setPs]
  | of xs => rfl
theorem shp_kdO {α : Type} [Enc α] {o : NL α} : (kdO o).shape.beq .p = true := by cases o <;> rfl
theorem e_drp {x : Nat} {es : List E} (H : ∀ s1, s1 x = .dead → (∀ t, t ≠ x → s1 t = s t) → epK es s1 K) : epK (.drp x :: es) s K := by
  simp only [epK, runE]
  exact H _ (by simp) (fun t ht => upd_ne _ _ ht)
end
structure FinO (v r : V) (p : List Nat) (ts : List Tok) : Prop where
  own : ∃ l, V.own p 1 v = some l ∧ (l.map (·.2)).Sublist ts
  ret : V.ret 1 v = r
  low : V.low 1 v = []
structure FinOs (vs rs : List V) (p : List Nat) (i : Nat) (ts : List Tok) : Prop where
  own : ∃ l, V.owns p 1 i vs = some l ∧ (l.map (·.2)).Sublist ts
  ret : V.rets 1 vs = rs
  low : V.lows 1 vs = []
theorem finO_own {α : Type} [Enc α] {r : Nat} {p q : List Nat} {o : NL α} : FinO (encO (.at r q) o) (encO .sh o) p [.at r q] := by
  cases o with
  | nil => exact ⟨⟨[], rfl, by simp⟩, rfl, rfl⟩
  | of xs =>
    have h0 : ∀ (xs : List α) k, V.owns p 0 k (xs.map Enc.enc) = some [] := by
      intro xs
      induction xs with
      | nil => intro k; rfl
      | cons x xs ih => intro k; simp [V.owns, Enc.own0, ih]
    have h1 : ∀ (xs : List α), V.lows 0 (xs.map Enc.enc) = [] := by
      intro xs
      induction xs with
      | nil => rfl
      | cons x xs ih => simp [V.lows, Enc.low0, ih]
    have h2 : ∀ (xs : List α), V.rets 0 (xs.map Enc.enc) = xs.map Enc.enc := by
      intro xs
      induction xs with
      | nil => rfl
      | cons x xs ih => simp [V.rets, Enc.ret0, ih]
    refine ⟨⟨[(p, .at r q)], ?_, by simp⟩, ?_, ?_⟩
    · simp only [encO, V.own]
      split
      · split
        · rfl
        · rw [h0]; rfl
      · rename_i h; exact absurd trivial h
    · simp only [encO, V.ret]
      split
      · rfl
      · rw [h2]
    · simp only [encO, V.low]
      split
      · rfl
      · exact h1 xs
theorem finO_nil {α : Type} [Enc α] {p : List Nat} : FinO (.sl .nl (Enc.shp α) 0 []) (encO .sh (.nil : NL α)) p [] := ⟨⟨[], rfl, by simp⟩, rfl, rfl⟩
theorem finO_int {k : IntKind} {n : Int} {p : List Nat} : FinO (.int k n) (.int k n) p [] := ⟨⟨[], rfl, by simp⟩, rfl, rfl⟩
theorem finO_bool {b : Bool} {p : List Nat} : FinO (.bool b) (.bool b) p [] := ⟨⟨[], rfl, by simp⟩, rfl, rfl⟩
theorem finOs_nil {p : List Nat} {i : Nat} : FinOs [] [] p i [] := ⟨⟨[], rfl, by simp⟩, rfl, rfl⟩
theorem finOs_cons {v r : V} {vs rs : List V} {p : List Nat} {i : Nat} {ts us : List Tok} (h : FinO v r (p ++ [i]) ts) (hs : FinOs vs rs p (i + 1) us) : FinOs (v :: vs) (r :: rs) p i (ts ++ us) := by
  obtain ⟨l, h1, h2⟩ := h.own
  obtain ⟨l', h3, h4⟩ := hs.own
  exact ⟨⟨l ++ l', by simp [V.owns, h1, h3], by rw [List.map_append]; exact h2.append h4⟩, by simp [V.rets, h.ret, hs.ret], by simp [V.lows, h.low, hs.low]⟩
theorem finO_agg {vs rs : List V} {p : List Nat} {ts : List Tok} (h : FinOs vs rs p 0 ts) : FinO (.agg vs) (.agg rs) p ts := by
  obtain ⟨l, h1, h2⟩ := h.own
  exact ⟨⟨l, by simpa [V.own] using h1, h2⟩, by simp [V.ret, h.ret], by simp [V.low, h.low]⟩
theorem finO_tup {vs rs : List V} {p : List Nat} {ts : List Tok} (h : FinOs vs rs p 0 ts) : FinO (.tup vs) (.tup rs) p ts := by
  obtain ⟨l, h1, h2⟩ := h.own
  exact ⟨⟨l, by simpa [V.own] using h1, h2⟩, by simp [V.ret, h.ret], by simp [V.low, h.low]⟩
theorem fin_retO {v r : V} {ts : List Tok} {al : Bool} (h : FinO v r [] ts) (hn : decide ts.Nodup = true) (hm : (al || v.mine) = true) : fin 1 al v = some r := by
  obtain ⟨l, h1, h2⟩ := h.own
  have hnd : (l.map (·.2)).Nodup := h2.nodup (of_decide_eq_true hn)
  simp only [fin, h1, hnd, decide_true, h.low, hm, h.ret]
  simp
def NL.set {α : Type} (o : NL α) (i : Nat) (b : α) : NL α := match o with
  | .nil => .nil
  | .of xs => .of (xs.set i b)
def set2 {α : Type} (xs : List (α × α)) (i : Nat) (j : Int) (b : α) : List (α × α) := match xs[i]? with
  | some c => xs.set i (bif j == 0 then b else c.1, bif j == 1 then b else c.2)
  | none => xs
def NL.set2 {α : Type} (o : NL (α × α)) (i : Nat) (j : Int) (b : α) : NL (α × α) := match o with
  | .nil => .nil
  | .of xs => .of (Zq.set2 xs i j b)
theorem mut_ownN {α : Type} [Enc α] {r : Nat} {p : List Nat} {i : Nat} {u : α} {o : NL α} : V.mut (.at r p) i [] (Enc.enc u) (encO (.at r p) o) = encO (.at r p) (o.set i u) := by
  cases o with
  | nil => simp [encO, V.mut, NL.set, V.muts]
  | of xs => exact mut_own
theorem setPs_two {α : Type} [Enc α] {j : Int} (hj : j = 0 ∨ j = 1) (b : α) : ∀ (xs : List (α × α)) (i : Nat), V.setPs (xs.map Enc.enc) i [j.toNat] (Enc.enc b) = (set2 xs i j b).map Enc.enc
  | [], i => by simp [V.setPs, set2]
  | x :: xs, 0 => by
    rcases hj with rfl | rfl <;> simp [V.setPs, set2, V.setP, Enc.enc]
  | x :: xs, i + 1 => by
    have ih := setPs_two hj b xs i
    simp only [List.map_cons, V.setPs, ih, set2, List.getElem?_cons_succ]
    cases xs[i]? with
    | none => simp
    | some c => simp
theorem mut_own2 {α : Type} [Enc α] {r : Nat} {p : List Nat} {i : Nat} {j : Int} {l : List α} {a b : α} {o : NL (α × α)} (h : idx l j = some a) (hl : l.length = 2) :
    V.mut (.at r p) i [j.toNat] (Enc.enc b) (encO (.at r p) o) = encO (.at r p) (o.set2 i j b) := by
  obtain ⟨h0, h1, h2⟩ := idx_lt h
  have hj : j = 0 ∨ j = 1 := by omega
  cases o with
  | nil => simp [encO, V.mut, NL.set2, V.muts]
  | of xs => simp only [encO, V.mut, if_true, Nat.zero_le, Nat.sub_zero, NL.set2, muts_encs, setPs_two hj b xs i, ite_self]
theorem mut_own2k {α : Type} [Enc α] {r : Nat} {p : List Nat} {i k : Nat} {b : α} {o : NL (α × α)} (hk : k < 2) :
    V.mut (.at r p) i [k] (Enc.enc b) (encO (.at r p) o) = encO (.at r p) (o.set2 i (k : Int) b) := by
  have hj : (k : Int) = 0 ∨ (k : Int) = 1 := by omega
  cases o with
  | nil => simp [encO, V.mut, NL.set2, V.muts]
  | of xs =>
    have := setPs_two hj b xs i
    simp only [Int.toNat_natCast] at this
    simp only [encO, V.mut, if_true, Nat.zero_le, Nat.sub_zero, NL.set2, muts_encs, this, ite_self]
theorem unk_own (g : Nat) (h : Nat.ble modeO g = false) : unk (g + modeO) = g := unk_key (l := true) h
end Go.Zq
/- Lists that are given away for good: contracts of functions that hand them back, and calls of them. -/
namespace Go.Zq
section
variable {P : Program}
theorem contractG_of {D : Den} {σ : Sig} (hF : Fits2 P D σ) (hm : P.follows .mixedOrders = true) {f : Nat} {fn : Func} {c : Code} (hf : P.funcs[f]? = some fn) (hb : fn.body = some c) {an : List An} {A : AC} (hc : cC P fn.ntmps an c = some A)
    {args : List V} {r : V} (hok : args.all V.ok = true) (hn : args.length ≤ fn.ntmps) (hnt : Nat.ble fn.ntmps pinR = true)
    (h : A.wp D σ (fun e s => (e = .nrm ∨ e = .ret) ∧ (resV P s fn.results.toList).bind (fin 1 false) = some r) (init args)) : ContractG P f args r := by
  intro d w S τ vals hS hr hk hinj
  have hI := inv_initM hS hr hk hinj hok hn (Nat.le_of_ble_eq_true hnt)
  refine calls_of_wp hf hb (ac_sound hF hm c A _ _ _ _ _ _ _ hc hI h ?_)
  rintro e s a w' S' τ' ⟨he, hres⟩ hI'
  simp only [Option.bind_eq_some_iff] at hres
  obtain ⟨v, hv, hfin⟩ := hres
  obtain ⟨cv, h1, h2, h3⟩ := results_run fn _ v rfl hv hI'
  obtain ⟨τ2, h4, h5, h6, h7⟩ := inv_fin hI' hfin h2 h3 d
  have hN : ∀ b, (oriM w τ (V.tokss args)).N b ↔ (w.heap.size ≤ b ∨ ∃ k2 ∈ V.tokss args, (τ k2).b = b) := fun b => Iff.rfl
  have h7' : relV w' (fun b => (w.heap.size ≤ b ∨ ∃ k2 ∈ V.tokss args, (τ k2).b = b) ∧ b < w'.heap.size ∧ ∀ k ∈ (V.tag d [] 1 r).toks, (τ2 k).b ≠ b) τ2 (V.tag d [] 1 r) cv := by
    refine relV_congr (w := w') (τ := τ2) (fun b hb => ⟨?_, rfl⟩) _ _ h7 (fun k _ => ⟨rfl, rfl⟩)
    obtain ⟨h8, h9⟩ := hb
    refine ⟨?_, h9⟩
    rcases h8 with ⟨h8, _⟩ | h8
    · cases h8
    · exact (hN b).1 h8
  rcases he with rfl | rfl
  · exact ⟨hI'.defers, cv, h1, cv, τ2, rfl, h4, h5, h6, h7'⟩
  · exact ⟨hI'.defers, cv, h1, cv, τ2, rfl, h4, h5, h6, h7'⟩
theorem contractG_run {D : Den} {σ : Sig} (hF : Fits2 P D σ) (hm : P.follows .mixedOrders = true) {f : Nat} {fn : Func} {c : Code} (hf : P.funcs[f]? = some fn) (hb : fn.body = some c) {an : List An} {A : AC} (hc : cC P fn.ntmps an c = some A)
    {al : Bool} {args : List V} {r : V} (hok : args.all V.ok = true) (hn : args.length ≤ fn.ntmps) (hnt : Nat.ble fn.ntmps pinR = true)
    (h : Run D σ (RR P fn.results.toList 1 false r) (.run A []) (init args)) : Contract' P f giveM al args r := by
  have h1 := contractG_of hF hm hf hb hc hok hn hnt (run_says h)
  unfold Contract'
  rw [if_neg (by decide), if_pos rfl]
  exact h1
end
section
variable {D : Den} {σ : Sig} {s s0 s1 : Nat → V} {K : (Nat → V) → Prop} {is : List I}
theorem killK_one {k : Tok} : killK [k] = killT k := by
  funext k'
  unfold killK killT
  by_cases e : k' = k
  · subst e; simp
  · have h1 : [k].contains k' = false := by simpa using e
    have h2 : (k' == k) = false := by simpa using e
    rw [h1, h2]
theorem g_callG {α : Type} [Enc α] {d g i q rx : Nat} {p : List Nat} {al : Bool} {as : List O} {o : NL α} {r u : V} {kk : Nat} (vs : List V) (hx : as.getD i (.k .dead) = .t rx) (hs : s rx = encO (.at q p) o) (hfl : (Enc.shp α).flat = true)
    (hσ : σ kk = some (giveM, al)) (hr : r.toks = []) (ht : V.tag d [] 1 r = u) (hok : u.ok = true) (hg : s d = .gone) (hi : i < as.length)
    (H : ∀ s1, (∀ t v u, s t = v → V.map (killT (.at q p)) v = u → (o = .nil → v = u) → s1 t = u) → takeArgs (as.set i (.k (.bool true))) s1 = some (vs, s1) ∧ D kk (vs.set i (encO (.at pinR []) o)) = some r ∧ goK D σ is (upd s1 d u) K)
    (hgm : Nat.ble modeO g = false := by rfl) (hkk : g + modeO = kk := by rfl) :
    goK D σ (⟨some d, none, false, .callG (.k (.fn g [] [])) i as⟩ :: is) s K := by
  subst ht
  subst hkk
  have h1 : O.rd s (.k (.fn g [] [])) = some (.fn g [] []) := rfl
  have hm : Nat.beq giveM giveM = true := Nat.beq_refl _
  obtain ⟨s0, hgive, hs0⟩ : ∃ s0, giveArg s (as.getD i (.k .dead)) = some (encO (.at pinR []) o, s0) ∧ (∀ t v u, s t = v → V.map (killT (.at q p)) v = u → (o = .nil → v = u) → s0 t = u) := by
    rw [hx]
    cases o with
    | nil => exact ⟨s, by simp [giveArg, hs, encO], fun t v u h1 _ h3 => h1.trans (h3 rfl)⟩
    | of xs =>
      refine ⟨mapS (killK [.at q p]) s, by simp [giveArg, hs, encO, hfl], fun t v u h1 h2 _ => ?_⟩
      show V.map (killK [.at q p]) (s t) = u
      rw [h1, killK_one]; exact h2
  obtain ⟨ha, hD, H⟩ := H s0 hs0
  have hg0 : s0 d = .gone := hs0 d .gone .gone hg rfl (fun _ => rfl)
  simp only [goK, xK, stepX, stepG, h1, hgive, ha, key, cond_true, hD, hσ, hgm, hr, hm, decide_eq_true hi, Bool.not_false, List.isEmpty_nil, Bool.and_self, if_true, Option.getD_some, place, hok, hg0, put, Bool.false_eq_true, if_false]
  split
  · rename_i h
    split at h
    · simp only [Option.some.injEq] at h; subst h; exact H
    · simp at h; subst h; exact H
  · rename_i h
    split at h <;> cases h
theorem g_callGn {α : Type} [Enc α] {d g i : Nat} {al : Bool} {as : List O} {r u : V} {kk : Nat} (vs : List V) (hx : as.getD i (.k .dead) = .k (.sl .nl (Enc.shp α) 0 []))
    (ha : takeArgs (as.set i (.k (.bool true))) s = some (vs, s)) (hD : D kk (vs.set i (encO (.at pinR []) (.nil : NL α))) = some r)
    (hσ : σ kk = some (giveM, al)) (hr : r.toks = []) (ht : V.tag d [] 1 r = u) (hok : u.ok = true) (hg : s d = .gone) (hi : i < as.length) (H : goK D σ is (upd s d u) K)
    (hgm : Nat.ble modeO g = false := by rfl) (hkk : g + modeO = kk := by rfl) :
    goK D σ (⟨some d, none, false, .callG (.k (.fn g [] [])) i as⟩ :: is) s K := by
  subst ht
  subst hkk
  have h1 : O.rd s (.k (.fn g [] [])) = some (.fn g [] []) := rfl
  have hm : Nat.beq giveM giveM = true := Nat.beq_refl _
  have hgive : giveArg s (as.getD i (.k .dead)) = some (encO (.at pinR []) (.nil : NL α), s) := by rw [hx]; simp [giveArg, encO]
  simp only [goK, xK, stepX, stepG, h1, hgive, ha, key, cond_true, hD, hσ, hgm, hr, hm, decide_eq_true hi, Bool.not_false, List.isEmpty_nil, Bool.and_self, if_true, Option.getD_some, place, hok, hg, put, Bool.false_eq_true, if_false]
  split
  · rename_i h
    split at h
    · simp only [Option.some.injEq] at h; subst h; exact H
    · simp at h; subst h; exact H
  · rename_i h
    split at h <;> cases h
theorem all_okc {a : V} {xs : List V} (ha : a.ok = true) (hb : xs.all V.ok = true) : (a :: xs).all V.ok = true := by simp [ha, hb]
end
def ofNL {α : Type} : NL α → Option (List α)
  | .nil => none
  | .of xs => some xs
theorem ofNL_eq {α : Type} {o : NL α} {xs : List α} (h : ofNL o = some xs) : o = .of xs := by
  cases o with
  | nil => cases h
  | of ys => cases h; rfl
theorem ofNL_fact {α : Type} [Enc α] {v : V} {k : Tok} {o : NL α} {xs : List α} (h : ofNL o = some xs) (hs : v = encO k o) : v = encO k (.of xs) := by rw [hs, ofNL_eq h]
theorem ev_sliceO {α : Type} [Enc α] {s : Nat → V} {x : O} {lo hi : Option O} {e r : Nat} {p : List Nat} {xs ys : List α} {a b : Int} (hx : x.ev s = encO (.at r p) (.of xs)) (hl : optI s 0 lo a) (hh : optI s xs.length hi b) (h : sub xs a b = some ys)
    (he : (Enc.shp α).size = e) : evalA s (.slice x lo hi e) = some (.sl (.at r p) (Enc.shp α) a.toNat (ys.map Enc.enc)) := by
  unfold sub at h
  split at h
  · rename_i hb
    simp only [Option.some.injEq] at h; subst h
    have hx' : x.ev s = .sl (.at r p) (Enc.shp α) 0 (xs.map Enc.enc) := hx
    simp only [evalA, rd_of hx' rfl, optI_nat hl hb.1, List.length_map]
    rw [optI_nat hh (by omega)]
    simp only [he]
    rw [if_pos (by simp [Tok.isBx]; omega)]
    simp [List.map_take, List.map_drop]
  · cases h
theorem map_osl {α : Type} [Enc α] {f : Tok → Option Tok} {r lo : Nat} {p : List Nat} {xs : List α} (hf : f (.at r p) = some (.at r p)) (hfl : (Enc.shp α).flat = true) : V.map f (.sl (.at r p) (Enc.shp α) lo (xs.map Enc.enc)) = .sl (.at r p) (Enc.shp α) lo (xs.map Enc.enc) := by
  simp [V.map, hf, hfl]
theorem erase_osl {α : Type} [Enc α] {r lo : Nat} {p : List Nat} {xs : List α} (hfl : (Enc.shp α).flat = true) : V.erase (.sl (.at r p) (Enc.shp α) lo (xs.map Enc.enc)) = Enc.enc xs := by
  have : (Enc.enc xs : V) = .sl .sh (Enc.shp α) 0 (xs.map Enc.enc) := rfl
  rw [this]
  simp [V.erase, hfl]
end Go.Zq
