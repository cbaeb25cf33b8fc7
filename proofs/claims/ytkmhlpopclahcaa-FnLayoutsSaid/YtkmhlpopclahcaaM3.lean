/- Plain mathematics: what the functions answer (part 3). Conditions: stated in each theorem. -/
import Derived.Test.YtkmhlpopclahcaaM2
import Derived.Test.YtkmhlpopclahcaaM1
set_option linter.unusedVariables false
set_option linter.unusedSimpArgs false
namespace Go.Zq
theorem zeT {n : Nat} : mkm (fun _ => true) n = 2 ^ n - 1 := by
 induction n with
 | zero => rfl
 | succ n ih =>
   have := zg3 (p := fun _ => true) (n := n)
   rw [this, ih]
   have := Nat.two_pow_pos n
   simp only [if_true, Nat.pow_succ]; omega
theorem zgK {F : Nat} {g : Gr} (hg : y7 g = true) : y8 F ⟨yZ g⟩ = some ((mkm (fun _ => true) g.1.toNat : Nat) : Int) := by
 have h8 := z2 hg
 have hpow := Nat.two_pow_pos g.1.toNat
 have h256 : 2 ^ g.1.toNat ≤ 256 := by
  have := Nat.pow_le_pow_right (n := 2) (by decide) (show g.1.toNat ≤ 8 by omega)
  simpa using this
 unfold y8
 rw [Z7, xY (by omega), Option.bind_some, xW (by omega) (by omega), zeT]
 congr 1; omega
end Go.Zq
namespace Go.Zq
theorem znw (K : Nat) : ∀ n, n ≤ 8 → xU (K + 6) [8] ((n + 1 : Nat) : Int) = some (.of (List.replicate (n + 1) 8))
 | 0, _ => rfl
 | 1, _ => rfl
 | 2, _ => rfl
 | 3, _ => rfl
 | 4, _ => rfl
 | 5, _ => rfl
 | 6, _ => rfl
 | 7, _ => rfl
 | 8, _ => rfl
theorem zjg {F n : Nat} (hn : n ≤ 8) (hF : 20 ≤ F) : xU F [8] ((n + 1 : Nat) : Int) = some (.of (List.replicate (n + 1) 8)) := by
 obtain ⟨K, rfl⟩ : ∃ K, F = K + 6 := ⟨F - 6, by omega⟩
 exact znw K n hn
def lsF (g : Gr) (k : Nat) : Nat → Int
 | 0 => -1
 | M + 1 => if XE M = k then (if lsF g k M < 0 ∨ frC g M < lsF g k M then frC g M else lsF g k M) else lsF g k M
def l8 (x : Int) : Int := if x < 0 then 8 else x
def mxF (g : Gr) (N : Nat) : Nat → Int
 | 0 => 0
 | k + 1 => if mxF g N k > lsF g k N then mxF g N k else lsF g k N
theorem Uk {g : Gr} {k m : Nat} (hp : XE m = k) : ∀ M, m < M → 0 ≤ lsF g k M
 | 0, h => by omega
 | M + 1, h => by
   have hf := Zv (g := g) (m := M)
   simp only [lsF]
   by_cases e : m = M
   · subst e
     rw [if_pos hp]
     split <;> omega
   · have := Uk (g := g) hp M (by omega)
     split
     · split <;> omega
     · exact this
theorem zfA (n k : Nat) (h : k ≤ n) : yD (fun j => decide (j < k)) n = k := by
 induction n with
 | zero => simp [yD]; omega
 | succ n ih =>
   unfold yD at ih ⊢
   rw [List.range_succ, List.countP_append]
   by_cases e : k = n + 1
   · subst e
     have : (List.range n).countP (fun j => decide (j < n + 1)) = n := by
      rw [List.countP_eq_length.2 (fun x hx => by simp at hx ⊢; omega), List.length_range]
     rw [this]; simp
   · rw [ih (by omega)]
     simp; omega
theorem zgr {n k : Nat} (hn : n ≤ 8) (hk : k ≤ n) : ∃ m, m < 2 ^ n ∧ XE m = k := ⟨mkm (fun j => decide (j < k)) n, YX, by rw [Xk hn, zfA n k hk]⟩
theorem zd7 {n M : Nat} (hn : n ≤ 8) (hM : M < 2 ^ n) : (zL M.testBit n).length = XE M := by
 rw [yN, ← Xk hn, KR hM]
theorem zgQ {F n : Nat} {g : Gr} {x : Int} {m : Nat} {c : Int → Int → Option (Int × Bool)} (hg : y7 g = true) (hgn : g.1 = (n : Int)) (hF : 300 ≤ F) (hG : g.2.length < F) (hs : Sm g.2.length) :
    yC F g x (m : Int) c F (-1) 0 = c (if x > lsF g m (2 ^ n) then x else lsF g m (2 ^ n)) (w64 ((m : Int) + 1)) := by
 have h8 := z2 hg
 have h256 : 2 ^ n ≤ 256 := by
  have := Nat.pow_le_pow_right (n := 2) (by decide) (show n ≤ 8 by omega)
  simpa using this
 refine xo (L := fun k i s => yC F g x (m : Int) c k s i) (n := 2 ^ n) (fun i s => s = lsF g m i) ?_ ?_ F _ (by omega) rfl
 · rintro k i s hi rfl
   refine ⟨_, rfl, ?_⟩
   have hb := zbQ (F := F) (n := n) (code := i) (by omega) (by omega) (by omega)
   have hpl := zd7 (n := n) (M := i) (by omega) hi
   have hf := WW (F := F) (g := g) (p := i.testBit) hg (by omega) hG hs
   rw [show g.1.toNat = n by omega] at hf
   simp only [yC, vi, vc]
   rw [hgn, xY (by omega), Option.bind_some, decide_eq_true (show (i : Int) < ((2 ^ n : Nat) : Int) by omega), cond_true, hb, Option.bind_some, z3 hi (by unfold Sm; omega), hpl]
   simp only [lsF]
   by_cases e : XE i = m
   · have e1 : (((XE i : Nat) : Int) != (m : Int)) = false := by simp [e]
     have hl : ((zL (frt g i.testBit) n).length : Int) = frC g i := by
      rw [yN]; unfold frC; rw [show g.1.toNat = n by omega]
     rw [e1, cond_false, hf, Option.bind_some, if_pos e, hl]
     by_cases h1 : lsF g m i < 0
     · rw [decide_eq_true h1, cond_true, cond_true, if_pos (.inl h1)]
     · rw [decide_eq_false h1, cond_false]
       by_cases h2 : frC g i < lsF g m i
       · rw [decide_eq_true h2, cond_true, if_pos (.inr h2)]
       · rw [decide_eq_false h2, cond_false, if_neg (by omega)]
   · have e1 : (((XE i : Nat) : Int) != (m : Int)) = true := by simp; omega
     rw [e1, cond_true, if_neg e]
 · rintro k s rfl
   simp only [yC]
   rw [hgn, xY (by omega), Option.bind_some, decide_eq_false (show ¬ ((2 ^ n : Nat) : Int) < ((2 ^ n : Nat) : Int) by omega), cond_false]
   unfold uc
   by_cases h : x > lsF g m (2 ^ n)
   · rw [decide_eq_true h, if_pos h]; rfl
   · rw [decide_eq_false h, if_neg h]; rfl
theorem zkB {F n : Nat} {g : Gr} (hg : y7 g = true) (hgn : g.1 = (n : Int)) (hF : 300 ≤ F) (hG : g.2.length < F) (hs : Sm g.2.length) :
    xd F g F 0 0 = some (mxF g (2 ^ n) (n + 1), true) := by
 have h8 := z2 hg
 refine xo (L := fun k i s => xd F g k s i) (n := n + 1) (fun i s => s = mxF g (2 ^ n) i) ?_ ?_ F _ (by omega) rfl
 · rintro k i s hi rfl
   refine ⟨_, rfl, ?_⟩
   simp only [xd]
   rw [decide_eq_true (show (i : Int) ≤ g.1 by omega), cond_true, zgQ hg hgn hF hG hs, z3 hi (by unfold Sm; omega)]
   rfl
 · rintro k s rfl
   simp only [xd]
   rw [decide_eq_false (show ¬ ((n + 1 : Nat) : Int) ≤ g.1 by omega), cond_false]
theorem zi4 {F n : Nat} {g : Gr} {N : Nat} {xs : List Int} (hx : xs.length = n + 1) (hn : n ≤ 8) (hF : 20 ≤ F) (h : ∀ k, k ≤ n → xs.getD k 0 = lsF g k N) (h0 : ∀ k, k ≤ n → 0 ≤ lsF g k N) :
    uw F xs = some (mxF g N (n + 1)) := by
 unfold uw
 rw [decide_eq_false (show ¬ (xs.length : Int) < 1 by omega), cond_false]
 have hi0 := zX (d := 0) (xs := xs) (i := 0) (by omega)
 rw [show ((0 : Nat) : Int) = 0 from rfl] at hi0
 rw [hi0, Option.bind_some]
 refine xo (L := fun k i s => wG F xs k s (i + 1)) (n := n) (fun i s => s = mxF g N (i + 1)) ?_ ?_ F _ (by omega) ?_
 · rintro k i s hi rfl
   refine ⟨_, rfl, ?_⟩
   have hi1 := zX (d := 0) (xs := xs) (i := i + 1) (by omega)
   have hw := z3 (i := i + 1) (n := n + 1) (by omega) (by unfold Sm; omega)
   simp only [wG]
   rw [show ((i : Int) + 1) = ((i + 1 : Nat) : Int) by omega, decide_eq_true (show ((i + 1 : Nat) : Int) < (xs.length : Int) by omega), cond_true, hi1, Option.bind_some, hw, h (i + 1) (by omega), show (((i + 1 : Nat) : Int) + 1) = ((i + 1 + 1 : Nat) : Int) by omega]
   congr 1
   rw [show mxF g N (i + 1 + 1) = if mxF g N (i + 1) > lsF g (i + 1) N then mxF g N (i + 1) else lsF g (i + 1) N from rfl]
   split <;> split <;> omega
 · rintro k s rfl
   simp only [wG]
   rw [decide_eq_false (show ¬ ((n : Int) + 1) < (xs.length : Int) by omega), cond_false]
 · rw [h 0 (by omega)]
   have := h0 0 (by omega)
   rw [show mxF g N (0 + 1) = if mxF g N 0 > lsF g 0 N then mxF g N 0 else lsF g 0 N from rfl, if_neg (by simp only [mxF]; omega)]
theorem zi1 {F n : Nat} {g : Gr} (hg : y7 g = true) (hgn : g.1 = (n : Int)) (hF : 300 ≤ F) :
    xD F ⟨yZ g⟩ ((mkm (fun _ => true) n : Nat) : Int) F (.of (List.replicate (n + 1) 8)) 0 = some (mxF g (2 ^ n) (n + 1), true) := by
 have h8 := z2 hg
 have h256 : 2 ^ n ≤ 256 := by
  have := Nat.pow_le_pow_right (n := 2) (by decide) (show n ≤ 8 by omega)
  simpa using this
 have hpos : 0 < 2 ^ n := Nat.pow_pos (by decide)
 have hall : w64 (((mkm (fun _ => true) n : Nat) : Int) + 1) = ((2 ^ n : Nat) : Int) := by
  have : mkm (fun _ => true) n = 2 ^ n - 1 := by
   symm
   refine XR fun j => ?_
   rw [Nat.testBit_two_pow_sub_one]; simp
  rw [this, z3 (n := 2 ^ n) (by omega) (by unfold Sm; omega)]
  omega
 refine xo (L := fun k i s => xD F ⟨yZ g⟩ ((mkm (fun _ => true) n : Nat) : Int) k s i) (n := 2 ^ n) (fun i s => ∃ xs : List Int, s = .of xs ∧ xs.length = n + 1 ∧ ∀ k, k ≤ n → xs.getD k 0 = l8 (lsF g k i)) ?_ ?_ F _ (by omega) ?_
 · rintro k i s hi ⟨xs, rfl, hx, hv⟩
   have hf := JA (F := F) (g := g) (p := i.testBit) hg (by omega)
   rw [show g.1.toNat = n by omega, KR hi] at hf
   have hpn := zg9 (n := n) (m := i) (by omega) hi
   have hi1 := zX (d := 0) (xs := xs) (i := XE i) (by omega)
   have hfc : frC g i = ((yD (frt g i.testBit) n : Nat) : Int) := by unfold frC; rw [show g.1.toNat = n by omega]
   have hf8 : yD (frt g i.testBit) n ≤ n := Ze
   simp only [xD, NL.list]
   rw [hall, decide_eq_true (show (i : Int) < ((2 ^ n : Nat) : Int) by omega), cond_true, M7 (by omega), Option.bind_some, hi1, Option.bind_some, hf, Option.bind_some, M7 (zbI (by omega)), Option.bind_some, Xk (by omega), Option.bind_some, z3 hi (by unfold Sm; omega), ← hfc, hv _ hpn]
   refine ⟨_, ⟨_, rfl, ?_, ?_⟩, rfl⟩
   · simpa using hx
   · intro j hj
     rw [Int.toNat_natCast]
     simp only [lsF]
     by_cases e : XE i = j
     · rw [if_pos e, ← e, List.getD_eq_getElem?_getD, List.getElem?_set_self (by omega), Option.getD_some]
       unfold l8
       have := Zv (g := g) (m := i)
       by_cases h1 : lsF g (XE i) i < 0
       · rw [if_pos h1, if_pos (Or.inl h1)]
         split <;> split <;> omega
       · rw [if_neg h1]
         by_cases h2 : frC g i < lsF g (XE i) i
         · rw [if_pos h2, if_pos (Or.inr h2), if_neg (by omega)]
         · rw [if_neg h2, if_neg (show ¬ (lsF g (XE i) i < 0 ∨ frC g i < lsF g (XE i) i) by omega), if_neg h1]
     · rw [if_neg e, List.getD_eq_getElem?_getD, List.getElem?_set_ne e, ← List.getD_eq_getElem?_getD]
       exact hv j hj
 · rintro k s ⟨xs, rfl, hx, hv⟩
   simp only [xD, NL.list]
   have h0 : ∀ k, k ≤ n → 0 ≤ lsF g k (2 ^ n) := by
    intro k hk
    obtain ⟨m, hm, hp⟩ := zgr (n := n) (by omega) hk
    exact Uk hp _ hm
   rw [hall, decide_eq_false (show ¬ ((2 ^ n : Nat) : Int) < ((2 ^ n : Nat) : Int) by omega), cond_false, zi4 hx (by omega) (by omega) (fun k hk => by
    rw [hv k hk]; unfold l8; rw [if_neg (by have := h0 k hk; omega)]) h0, Option.bind_some]
 · refine ⟨_, rfl, by simp, fun k hk => ?_⟩
   rw [List.getD_eq_getElem?_getD, List.getElem?_replicate, if_pos (by omega)]
   rfl
theorem Wv {F : Nat} {g : Gr} (hF : 300 ≤ F) (hG : g.2.length < F) (hs : Sm g.2.length) : wZ F g = some (bif y7 g then (mxF g (2 ^ g.1.toNat) (g.1.toNat + 1), true) else (0, false)) := by
 unfold wZ
 rw [uB hG hs, Option.bind_some]
 cases hg : y7 g with
 | false => rfl
 | true =>
   have h8 := z2 hg
   rw [Bool.not_true, cond_false, cond_true]
   exact zkB (n := g.1.toNat) hg (by omega) hF hG hs
theorem Wd {F : Nat} {g : Gr} (hF : 300 ≤ F) (hG : g.2.length < F) (hs : Sm g.2.length) : w5 F g = some (bif y7 g then (mxF g (2 ^ g.1.toNat) (g.1.toNat + 1), true) else (0, false)) := by
 unfold w5
 rw [vx hG (by omega) hs, Option.bind_some]
 cases hg : y7 g with
 | false => rfl
 | true =>
   have h8 := z2 hg
   obtain ⟨n, hn⟩ : ∃ n : Nat, g.1 = n := ⟨g.1.toNat, by omega⟩
   rw [Bool.not_true, cond_false, cond_true, X5 hg hG hs, Option.bind_some, hn, z3 (n := n + 1) (by omega) (by unfold Sm; omega), zjg (by omega) (by omega), Option.bind_some, zgK hg, Option.bind_some, hn, Int.toNat_natCast]
   exact zi1 hg hn hF
end Go.Zq
namespace Go.Zq
end Go.Zq
namespace Go.Zq
end Go.Zq
namespace Go.Zq
end Go.Zq
namespace Go.Zq
theorem LR {n : Int} {l : List Int} (ho : xM n l = true) (h0 : 0 ≤ n) {i x : Nat} (hi : i < l.length) (hx : l.getD i 0 = (x : Int)) : xz l i x = false := by
 have hl := uL ho
 unfold xz
 refine decide_eq_false fun hm => ?_
 have hc := (WO n.toNat (l.take i ++ l.drop (i + 1)) (fun j hj => by
  have := Jf ho (x := (j : Int)) (by omega) (by omega)
  rw [← List.take_append_drop i l, List.mem_append] at this
  rcases this with h | h
  · exact List.mem_append_left _ h
  · rw [List.drop_eq_getElem_cons hi, List.mem_cons] at h
    rcases h with h | h
    · rw [List.getD_eq_getElem?_getD, List.getElem?_eq_getElem hi, Option.getD_some] at hx
      rw [h, hx]
      exact List.mem_append_left _ hm
    · exact List.mem_append_right _ h)).1
 rw [List.length_append, List.length_take, List.length_drop] at hc
 omega
end Go.Zq
namespace Go.Zq
end Go.Zq
namespace Go.Zq
end Go.Zq
namespace Go.Zq
end Go.Zq
namespace Go.Zq
theorem Jg {α : Type} {xs ys : List α} (h : xs.length + ys.length ≤ 1099511627776) : wM xs ys = some (xs ++ ys) := by
 unfold wM
 rw [if_pos (by simpa using h)]
end Go.Zq
namespace Go.Zq
def YE {α : Type} (p : α → Bool) : List α → Nat
 | [] => 0
 | x :: xs => if p x then YE p xs + 1 else 0
theorem Nx {α : Type} {p : α → Bool} : ∀ {xs : List α}, YE p xs ≤ xs.length
 | [] => Nat.le_refl _
 | x :: xs => by
   have := Nx (p := p) (xs := xs)
   simp only [YE, List.length_cons]
   split <;> omega
theorem zcL {α : Type} {p : α → Bool} : ∀ {xs : List α} {i : Nat} (h : i < YE p xs) (h2 : i < xs.length), p xs[i] = true
 | [], i, h, _ => by simp [YE] at h
 | x :: xs, i, h, h2 => by
   simp only [YE] at h
   split at h
   · rename_i hx
     cases i with
     | zero => exact hx
     | succ i => exact zcL (xs := xs) (by omega) (by simpa using h2)
   · omega
theorem zbZ {α : Type} {p : α → Bool} : ∀ {xs : List α} (h : YE p xs < xs.length), p xs[YE p xs] = false
 | [], h => by simp [YE] at h
 | x :: xs, h => by
   by_cases hx : p x = true
   · have e : YE p (x :: xs) = YE p xs + 1 := by simp [YE, hx]
     have h' : YE p xs < xs.length := by rw [e] at h; simpa using h
     have := zbZ (p := p) (xs := xs) h'
     simp only [e, List.getElem_cons_succ]
     exact this
   · have e : YE p (x :: xs) = 0 := by simp [YE, hx]
     simp only [e, List.getElem_cons_zero]
     simpa using hx
def zgF (xs : List (Int × Int)) (e : Int × Int) : List (Int × Int) := xs.take (YE (fun z => bef z e) xs) ++ e :: xs.drop (YE (fun z => bef z e) xs)
theorem Kt {xs : List (Int × Int)} {e : Int × Int} : (zgF xs e).length = xs.length + 1 := by
 unfold zgF
 have := Nx (p := fun z => bef z e) (xs := xs)
 simp; omega
theorem KV {F : Nat} {xs : List (Int × Int)} {e : Int × Int} (hF : xs.length < F) (hl : xs.length ≤ 1000000) : v6 F xs e = some (.of (zgF xs e)) := by
 have hle := Nx (p := fun z => bef z e) (xs := xs)
 unfold v6
 refine zcP (L := fun k i => xn F xs e k i) (n := YE (fun z => bef z e) xs) ?_ ?_ F (by omega)
 · intro k i hi
   have h1 := zcL (p := fun z => bef z e) (xs := xs) hi (by omega)
   simp only [xn, w4]
   rw [decide_eq_true (show (i : Int) < (xs.length : Int) by omega), cond_true, XS (by omega), Option.bind_some, Wn, Option.bind_some]
   rw [h1, cond_true, z3 (n := xs.length) (by omega) (by unfold Sm; omega)]
 · intro k
   have hfin : w4 F xs e ((YE (fun z => bef z e) xs : Nat) : Int) (xn F xs e k) false = some (.of (zgF xs e)) := by
    simp only [w4]
    rw [cond_false, Mc hle, Option.bind_some, Jg (by simp; omega), Option.bind_some, Jg (by simp; omega), Option.bind_some, zax hle, Option.bind_some, Jg (by simp; omega), Option.bind_some]
    unfold zgF
    simp
   simp only [xn]
   by_cases h : YE (fun z => bef z e) xs < xs.length
   · have h1 := zbZ (p := fun z => bef z e) (xs := xs) h
     rw [decide_eq_true (show ((YE (fun z => bef z e) xs : Nat) : Int) < (xs.length : Int) by omega), cond_true, XS h, Option.bind_some, Wn, Option.bind_some]
     rw [h1]
     exact hfin
   · rw [decide_eq_false (show ¬ ((YE (fun z => bef z e) xs : Nat) : Int) < (xs.length : Int) by omega), cond_false]
     exact hfin
end Go.Zq
namespace Go.Zq
end Go.Zq
namespace Go.Zq
end Go.Zq
namespace Go.Zq
theorem Li {F : Nat} {a b : Int} : uI F a b = some (min a b) := by
 unfold uI
 by_cases h : a < b
 · simp [h]; omega
 · simp [h]; omega
end Go.Zq
namespace Go.Zq
end Go.Zq
namespace Go.Zq
def pcN (n a : Nat) : Nat := yD a.testBit n
end Go.Zq
namespace Go.Zq
def nxS (g : Gr) (s : Nat × Nat) (step : Int) : Nat × Nat := (mkm (X0 s.1.testBit step) g.1.toNat, mkm (spr g (fun j => !X0 s.1.testBit step j) s.2.testBit) g.1.toNat)
def cnS (g : Gr) (k : Int) (s : Nat × Nat) (step : Int) : Bool := zjY g.1.toNat s.1.testBit step && !(decide (step ≥ 0) && ((pcN g.1.toNat s.1 : Int) == k))
inductive Rch (g : Gr) (k : Int) : Nat × Nat → Prop
 | init : Rch g k (0, 2 ^ g.1.toNat - 1)
 | step {s : Nat × Nat} {step : Int} : Rch g k s → cnS g k s step = true → Rch g k (nxS g s step)
structure Gst (g : Gr) (k : Int) (s : Nat × Nat) : Prop where
 lt1 : s.1 < 2 ^ g.1.toNat
 lt2 : s.2 < 2 ^ g.1.toNat
 dis : ∀ j, s.1.testBit j = true → s.2.testBit j = false
 cl : ∀ a b, adj g a b = true → s.2.testBit a = true → s.1.testBit b = false → s.2.testBit b = true
 sz : (pcN g.1.toNat s.1 : Int) ≤ k
theorem Lp {p : Nat → Bool} {x : Nat} (hx : p x = false) : ∀ {n : Nat}, x < n → yD (fun j => p j || j == x) n = yD p n + 1
 | 0, h => by omega
 | n + 1, h => by
   unfold yD
   rw [List.range_succ, List.countP_append, List.countP_append]
   by_cases e : x = n
   · subst e
     have : (List.range x).countP (fun j => p j || j == x) = (List.range x).countP p := by
      apply List.countP_congr
      intro j hj
      rw [List.mem_range] at hj
      have : (j == x) = false := by simp; omega
      rw [this, Bool.or_false]
     rw [this]
     simp [hx]
   · have := Lp hx (n := n) (by omega)
     unfold yD at this
     rw [this]
     have e2 : (n == x) = false := by simp; omega
     simp [e2]
     omega
theorem za0 {p : Nat → Bool} {step : Int} (h : 0 ≤ step) (j : Nat) : X0 p step j = (p j || j == step.toNat) := by
 unfold X0 Js
 rw [if_neg (by omega), if_neg (by omega)]
theorem zge {p : Nat → Bool} {step : Int} (h : step < 0) {j : Nat} (hj : X0 p step j = true) : p j = true := by
 unfold X0 at hj
 rw [if_pos h, Bool.and_eq_true] at hj
 exact hj.1
theorem zbh {n : Nat} {p : Nat → Bool} {step : Int} (h : 0 ≤ step) (hc : zjY n p step = true) : step.toNat < n ∧ p step.toNat = false := by
 unfold zjY Js at hc
 rw [if_neg (by omega), Bool.and_eq_true, decide_eq_true_eq, decide_eq_false (by omega), beq_iff_eq] at hc
 exact ⟨by omega, hc.2⟩
theorem zeJ {g : Gr} (hg : y7 g = true) {k : Int} (hk : 0 ≤ k) : Gst g k (0, 2 ^ g.1.toNat - 1) := by
 have := Nat.two_pow_pos g.1.toNat
 refine ⟨by omega, by show 2 ^ g.1.toNat - 1 < _; omega, fun j hj => ?_, fun a b h _ _ => ?_, ?_⟩
 · rw [Nat.zero_testBit] at hj; cases hj
 · show (2 ^ g.1.toNat - 1).testBit b = true
   rw [Nat.testBit_two_pow_sub_one]
   have := MT hg h
   exact decide_eq_true (by omega)
 · show ((yD (Nat.testBit 0) g.1.toNat : Nat) : Int) ≤ k
   have : yD (Nat.testBit 0) g.1.toNat = 0 := by
    unfold yD
    rw [List.countP_eq_zero]
    intro j _
    rw [Nat.zero_testBit]; simp
   rw [this]; exact hk
theorem zeq {g : Gr} (hg : y7 g = true) {k : Int} {s : Nat × Nat} {step : Int} (hs : Gst g k s) (hc : cnS g k s step = true) : Gst g k (nxS g s step) := by
 unfold cnS at hc
 rw [Bool.and_eq_true] at hc
 obtain ⟨hc, hk⟩ := hc
 refine ⟨YX, YX, fun j hj => ?_, fun a b hab ha hb => ?_, ?_⟩
 · show (mkm (spr g (fun j => !X0 s.1.testBit step j) s.2.testBit) g.1.toNat).testBit j = false
   have h1 : (mkm (X0 s.1.testBit step) g.1.toNat).testBit j = true := hj
   rw [xc, Bool.and_eq_true] at h1
   rw [xc]
   cases e : spr g (fun j => !X0 s.1.testBit step j) s.2.testBit j with
   | false => rw [Bool.and_false]
   | true =>
     unfold spr at e
     obtain ⟨y, hy, h⟩ := Xh.1 e
     simp only [Bool.and_eq_true] at h
     have := zgZ (p := fun j => !X0 s.1.testBit step j) h.1.2 h.2
     simp only [h1.2] at this
     cases this
 · show (mkm (spr g (fun j => !X0 s.1.testBit step j) s.2.testBit) g.1.toNat).testBit b = true
   have h1 : (mkm (spr g (fun j => !X0 s.1.testBit step j) s.2.testBit) g.1.toNat).testBit a = true := ha
   have h2 : (mkm (X0 s.1.testBit step) g.1.toNat).testBit b = false := hb
   have hl := MT hg hab
   have hbn : b < g.1.toNat := by omega
   rw [xc, decide_eq_true hbn, Bool.true_and] at h2 ⊢
   rw [xc, Bool.and_eq_true] at h1
   obtain ⟨_, e⟩ := h1
   unfold spr at e ⊢
   obtain ⟨y, hy, h⟩ := Xh.1 e
   refine Xh.2 ⟨y, hy, ?_⟩
   simp only [Bool.and_eq_true] at h ⊢
   refine ⟨h.1, QB hg hy h.1.2 h.2 ?_ hab⟩
   simp only [h2]; rfl
 · show ((yD (mkm (X0 s.1.testBit step) g.1.toNat).testBit g.1.toNat : Nat) : Int) ≤ k
   have e1 : yD (mkm (X0 s.1.testBit step) g.1.toNat).testBit g.1.toNat = yD (X0 s.1.testBit step) g.1.toNat := vT fun j hj => by rw [xc, decide_eq_true hj, Bool.true_and]
   rw [e1]
   have hsz := hs.sz
   unfold pcN at hsz hk
   by_cases h : step < 0
   · have := zaH (p := X0 s.1.testBit step) (q := s.1.testBit) (n := g.1.toNat) fun j _ hj => zge h hj
     omega
   · obtain ⟨h1, h2⟩ := zbh (by omega) hc
     have e2 : yD (X0 s.1.testBit step) g.1.toNat = yD s.1.testBit g.1.toNat + 1 := by
      rw [← Lp h2 h1]
      exact vT fun j _ => za0 (by omega) j
     rw [decide_eq_true (show step ≥ 0 by omega), Bool.true_and, Bool.not_eq_true', beq_eq_false_iff_ne] at hk
     omega
theorem zhl {g : Gr} (hg : y7 g = true) {k : Int} (hk : 0 ≤ k) {s : Nat × Nat} (h : Rch g k s) : Gst g k s := by
 induction h with
 | init => exact zeJ hg hk
 | step _ hc ih => exact zeq hg ih hc
end Go.Zq
namespace Go.Zq
end Go.Zq
