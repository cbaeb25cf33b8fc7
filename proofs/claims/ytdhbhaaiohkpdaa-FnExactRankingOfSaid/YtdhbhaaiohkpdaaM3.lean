/- Plain mathematics: what the functions answer (part 3). Conditions: stated in each theorem. -/
import Derived.Test.YtdhbhaaiohkpdaaM1
import Derived.Test.YtdhbhaaiohkpdaaM2
set_option linter.unusedVariables false
set_option linter.unusedSimpArgs false
/- Plain mathematics: the forest of least depth, as both make it. -/
namespace Go.Zq

/-- the first one with the least value -/
def fm (h : Int → Int → Int) : List Int → Int
  | [] => -1
  | x :: r => r.foldl h x
theorem fm_snoc {h : Int → Int → Int} {l : List Int} (hl : l ≠ []) (y : Int) : fm h (l ++ [y]) = h (fm h l) y := by
  cases l with
  | nil => exact absurd rfl hl
  | cons x r => simp [fm, List.foldl_append]
theorem fm_mem {h : Int → Int → Int} (hh : ∀ b y, h b y = b ∨ h b y = y) {l : List Int} (hl : l ≠ []) : fm h l ∈ l := by
  cases l with
  | nil => exact absurd rfl hl
  | cons x r =>
    have : ∀ (r : List Int) (b : Int), r.foldl h b = b ∨ r.foldl h b ∈ r := by
      intro r
      induction r with
      | nil => intro b; exact .inl rfl
      | cons y r ih =>
        intro b
        simp only [List.foldl_cons]
        rcases ih (h b y) with e | e
        · rcases hh b y with e2 | e2
          · exact .inl (by rw [e, e2])
          · exact .inr (by rw [e, e2]; simp)
        · exact .inr (by simp [e])
    rcases this r x with e | e
    · simp [fm, e]
    · simp [fm, e]

def lessR (D : List Int) (c : Nat) (b y : Int) : Int := if D.getD (c - 2 ^ y.toNat) 0 < D.getD (c - 2 ^ b.toNat) 0 then y else b
def rootN (D : List Int) (n c : Nat) : Int := fm (lessR D c) (listN c.testBit n)

theorem lessR_or {D : List Int} {c : Nat} (b y : Int) : lessR D c b y = b ∨ lessR D c b y = y := by
  unfold lessR; split
  · exact .inr rfl
  · exact .inl rfl

theorem listN_ne {n c : Nat} (hc : c < 2 ^ n) (h0 : c ≠ 0) : listN c.testBit n ≠ [] := by
  intro h
  have hz : mkm c.testBit n = 0 := by
    rw [mkm_zero, fst_none]
    intro j hj
    cases hb : c.testBit j with
    | false => rfl
    | true =>
      have : (j : Int) ∈ listN c.testBit n := listN_mem.2 ⟨j, rfl, hj, hb⟩
      rw [h] at this; cases this
  rw [mask_self hc] at hz
  exact h0 hz

theorem rootN_in {D : List Int} {n c : Nat} (hc : c < 2 ^ n) (h0 : c ≠ 0) : ∃ b : Nat, rootN D n c = b ∧ b < n ∧ c.testBit b = true :=
  listN_mem.1 (fm_mem lessR_or (listN_ne hc h0))

theorem lessR_self {D : List Int} {c : Nat} {x : Int} : lessR D c x x = x := by simp [lessR]

theorem take_snoc {α : Type} {l : List α} {i : Nat} {d : α} (hi : i < l.length) : l.take (i + 1) = l.take i ++ [l.getD i d] := by
  rw [List.take_add_one, List.getElem?_eq_getElem hi, List.getD_eq_getElem?_getD, List.getElem?_eq_getElem hi]; rfl

/-- the value of a set without a node -/
theorem val_at {D : List Int} {n c y : Nat} (hn : n ≤ 8) (hc : c < 2 ^ n) (hD : D.length = 2 ^ n) (hy : y < n) (hb : c.testBit y = true) :
    idx D (iandNot .i64 (c : Int) ((2 ^ y : Nat) : Int)) = some (D.getD (c - 2 ^ (y : Int).toNat) 0) ∧ idx D (w64 ((c : Int) - ((2 ^ y : Nat) : Int))) = some (D.getD (c - 2 ^ (y : Int).toNat) 0) := by
  have h256 := pow_256 hn
  obtain ⟨d1, d2, d3⟩ := drop_all c (by omega) y (by omega) hb
  have hp := Nat.two_pow_pos y
  have hw : w64 ((c : Int) - ((2 ^ y : Nat) : Int)) = ((c - 2 ^ y : Nat) : Int) := by rw [w64_id (by omega) (by omega)]; omega
  rw [d1, hw, Int.toNat_natCast]
  have := idx_getD (xs := D) (i := c - 2 ^ y) (d := 0) (by omega)
  exact ⟨this, this⟩

theorem sRoot_eq {F n c : Nat} {D : List Int} (hn : n ≤ 8) (hF : 60 ≤ F) (hc : c < 2 ^ n) (h0 : c ≠ 0) (hD : D.length = 2 ^ n) : s_l7Root F D (listN c.testBit n) = some (rootN D n c) := by
  have hne := listN_ne hc h0
  have hl8 : (listN c.testBit n).length ≤ 8 := by rw [listN_len]; exact Nat.le_trans cnt_le hn
  have hl0 : 0 < (listN c.testBit n).length := List.length_pos_iff.2 hne
  have hcode := code_eq (F := F) (n := n) (p := c.testBit) hn (by omega)
  rw [mask_self hc] at hcode
  unfold s_l7Root
  have hi0 : idx (listN c.testBit n) 0 = some ((listN c.testBit n).getD 0 0) := idx_getD (i := 0) hl0
  rw [hi0, Option.bind_some, hcode, Option.bind_some]
  unfold rootN
  generalize hL : listN c.testBit n = L at *
  have hget : ∀ i, i < L.length → ∃ j : Nat, L.getD i 0 = j ∧ j < n ∧ c.testBit j = true := by
    intro i hi
    rw [← hL]; exact listN_get (by rw [hL]; exact hi)
  refine loop_inv (L := fun k i s => s_l7Root_l1 F D L (c : Int) k s i) (n := L.length) (fun i s => (i = 0 → s = L.getD 0 0) ∧ (0 < i → s = fm (lessR D c) (L.take i))) ?_ ?_ F _ (by omega) ⟨fun _ => rfl, fun h => by omega⟩
  · intro k i s hi hI
    obtain ⟨y, hy, hyn, hyb⟩ := hget i hi
    have hsin : ∃ b : Nat, s = b ∧ b < n ∧ c.testBit b = true := by
      by_cases hi0 : i = 0
      · rw [hI.1 hi0]; exact hget 0 hl0
      · rw [hI.2 (by omega)]
        have : fm (lessR D c) (L.take i) ∈ L.take i := fm_mem lessR_or (by
          intro e
          have := congrArg List.length e
          rw [List.length_take, List.length_nil] at this
          omega)
        have hmem := List.mem_of_mem_take this
        exact listN_mem.1 (by rw [hL]; exact hmem)
    obtain ⟨b, hb1, hb2, hb3⟩ := hsin
    have hnext : lessR D c s (L.getD i 0) = fm (lessR D c) (L.take (i + 1)) := by
      rw [take_snoc (d := 0) hi]
      by_cases hi0 : i = 0
      · subst hi0
        rw [hI.1 rfl]
        simp [fm, lessR_self]
      · rw [fm_snoc (by
          intro e
          have := congrArg List.length e
          rw [List.length_take, List.length_nil] at this
          omega), ← hI.2 (by omega)]
    refine ⟨lessR D c s (L.getD i 0), ⟨fun h => by omega, fun _ => hnext⟩, ?_⟩
    simp only [s_l7Root_l1, s_l7Root_j1]
    have hw : w64 ((i : Int) + 1) = ((i + 1 : Nat) : Int) := w64_succ hi (by unfold Sm; omega)
    rw [decide_eq_true (show (i : Int) < (L.length : Int) by omega), cond_true, idx_getD (d := 0) hi, Option.bind_some, hy, one_shl (by omega), Option.bind_some, (val_at hn hc hD hyn hyb).2, Option.bind_some, hb1, one_shl (by omega), Option.bind_some, (val_at hn hc hD hb2 hb3).2, Option.bind_some, Option.bind_some, hw]
    unfold lessR
    by_cases hlt : D.getD (c - 2 ^ (y : Int).toNat) 0 < D.getD (c - 2 ^ (b : Int).toNat) 0
    · rw [decide_eq_true hlt, cond_true, if_pos hlt]
    · rw [decide_eq_false hlt, cond_false, if_neg hlt]
  · intro k s hI
    simp only [s_l7Root_l1]
    rw [decide_eq_false (show ¬ (L.length : Int) < (L.length : Int) by omega), cond_false, hI.2 hl0, List.take_length]

theorem iRoot_eq {F n c : Nat} {D : List Int} {w : S1 (List Int)} (hn : n ≤ 8) (hF : 60 ≤ F) (hc : c < 2 ^ n) (h0 : c ≠ 0) (hD : D.length = 2 ^ n) : i_net_bestRoot F w D (c : Int) = some (rootN D n c) := by
  have hne := listN_ne hc h0
  have hl8 : (listN c.testBit n).length ≤ 8 := by rw [listN_len]; exact Nat.le_trans cnt_le hn
  have hl0 : 0 < (listN c.testBit n).length := List.length_pos_iff.2 hne
  have hso := setOf_eq (F := F) (n := n) (p := c.testBit) hn (by omega)
  rw [mask_self hc] at hso
  unfold i_net_bestRoot
  rw [hso, Option.bind_some]
  unfold rootN
  generalize hL : listN c.testBit n = L at *
  have hget : ∀ i, i < L.length → ∃ j : Nat, L.getD i 0 = j ∧ j < n ∧ c.testBit j = true := by
    intro i hi
    rw [← hL]; exact listN_get (by rw [hL]; exact hi)
  refine loop_inv (L := fun k i s => i_net_bestRoot_l1 F D (c : Int) L k s i) (n := L.length) (fun i s => s = fm (lessR D c) (L.take i)) ?_ ?_ F _ (by omega) rfl
  · intro k i s hi hI
    obtain ⟨y, hy, hyn, hyb⟩ := hget i hi
    have hw : w64 ((i : Int) + 1) = ((i + 1 : Nat) : Int) := w64_succ hi (by unfold Sm; omega)
    simp only [i_net_bestRoot_l1, i_net_bestRoot_j1, i_net_bestRoot_j2]
    rw [decide_eq_true (show (i : Int) < (L.length : Int) by omega), cond_true, idx_getD (d := 0) hi, Option.bind_some, hw]
    by_cases hi0 : i = 0
    · subst hi0
      have hs : s = -1 := by rw [hI]; simp [fm]
      refine ⟨L.getD 0 0, ?_, ?_⟩
      · rw [take_snoc (d := 0) hi]; simp [fm]
      · rw [hs]; rfl
    · have hne2 : L.take i ≠ [] := by
        intro e
        have := congrArg List.length e
        rw [List.length_take, List.length_nil] at this
        omega
      have hsin : ∃ b : Nat, s = b ∧ b < n ∧ c.testBit b = true := by
        rw [hI]
        have hmem := List.mem_of_mem_take (fm_mem (h := lessR D c) lessR_or hne2)
        exact listN_mem.1 (by rw [hL]; exact hmem)
      obtain ⟨b, hb1, hb2, hb3⟩ := hsin
      refine ⟨lessR D c s (L.getD i 0), by rw [take_snoc (d := 0) hi, fm_snoc hne2, hI], ?_⟩
      rw [hb1, hy, decide_eq_false (show ¬ (b : Int) < 0 by omega), cond_false, one_shl (by omega), Option.bind_some, (val_at hn hc hD hyn hyb).1, Option.bind_some, one_shl (by omega), Option.bind_some, (val_at hn hc hD hb2 hb3).1, Option.bind_some]
      unfold lessR
      by_cases hlt : D.getD (c - 2 ^ (y : Int).toNat) 0 < D.getD (c - 2 ^ (b : Int).toNat) 0
      · rw [decide_eq_true hlt, cond_true, if_pos hlt]
      · rw [decide_eq_false hlt, cond_false, if_neg hlt]
  · intro k s hI
    simp only [i_net_bestRoot_l1]
    rw [decide_eq_false (show ¬ (L.length : Int) < (L.length : Int) by omega), cond_false, hI, List.take_length]

/-- the parents, with those of a set -/
def bfG (g : Gr) (D : List Int) : Nat → Nat → Int → List Int → List Int
  | 0, _, _, ps => ps
  | k + 1, c, par, ps => (prt g g.1.toNat c.testBit).foldl (fun ps m => bfG g D k (m - 2 ^ (rootN D g.1.toNat m).toNat) (rootN D g.1.toNat m) (ps.set (rootN D g.1.toNat m).toNat par)) ps

theorem foldl_keep {α β : Type} {f : β → α → β} {P : β → Prop} : ∀ (l : List α) (b : β), P b → (∀ b x, x ∈ l → P b → P (f b x)) → P (l.foldl f b)
  | [], b, h, _ => h
  | x :: l, b, h, hf => foldl_keep l (f b x) (hf b x (by simp) h) fun b y hy => hf b y (by simp [hy])
theorem foldl_eq {α β : Type} {f f' : β → α → β} : ∀ (l : List α) (b : β), (∀ b x, x ∈ l → f b x = f' b x) → l.foldl f b = l.foldl f' b
  | [], b, _ => rfl
  | x :: l, b, h => by
    simp only [List.foldl_cons]
    rw [h b x (by simp)]
    exact foldl_eq l _ fun b y hy => h b y (by simp [hy])

theorem bfG_len {g : Gr} {D : List Int} : ∀ (k c : Nat) (par : Int) (ps : List Int), (bfG g D k c par ps).length = ps.length
  | 0, _, _, _ => rfl
  | k + 1, c, par, ps => by
    rw [bfG]
    refine foldl_keep (P := fun (b : List Int) => b.length = ps.length) _ _ rfl fun b m _ hb => ?_
    rw [bfG_len k]; simpa using hb

theorem prt_ne0 {g : Gr} (hg : good g = true) : ∀ (d : Nat) (p : Nat → Bool) (m : Nat), m ∈ prt g d p → m ≠ 0
  | 0, p, m, h => by simp [prt] at h
  | d + 1, p, m, h => by
    rw [prt] at h
    cases hf : fstN p g.1.toNat with
    | none => rw [hf] at h; simp at h
    | some x =>
      rw [hf] at h
      obtain ⟨h1, h2, h3⟩ := fst_some hf
      rcases List.mem_cons.1 h with rfl | h
      · intro e
        have hb : (mkm (comp g p x) g.1.toNat).testBit x = true := by
          rw [mkm_bit, comp_self, Bool.and_true]; simpa using h1
        rw [e] at hb; simp at hb
      · exact prt_ne0 hg d _ m h

/-- a part's root, and what is left of it -/
theorem part_step {g : Gr} {D : List Int} {c m : Nat} (hg : good g = true) (hm : m ∈ prt g g.1.toNat c.testBit) :
    ∃ b : Nat, rootN D g.1.toNat m = b ∧ b < g.1.toNat ∧ m.testBit b = true ∧ m < 2 ^ g.1.toNat ∧ m ≠ 0 ∧ m - 2 ^ b < 2 ^ g.1.toNat ∧ popc (m - 2 ^ b) + 1 ≤ popc c ∧ iandNot .i64 (m : Int) ((2 ^ b : Nat) : Int) = ((m - 2 ^ b : Nat) : Int) := by
  have h8 := good_size hg
  have h256 := pow_256 (n := g.1.toNat) (by omega)
  obtain ⟨h1, h2⟩ := prt_sub hg _ _ m hm
  have h0 := prt_ne0 hg _ _ m hm
  obtain ⟨b, b1, b2, b3⟩ := rootN_in (D := D) h1 h0
  obtain ⟨d1, d2, d3⟩ := drop_all m (by omega) b (by omega) b3
  have := popc_mono h2
  have hp := Nat.two_pow_pos b
  exact ⟨b, b1, b2, b3, h1, h0, by omega, by omega, d1⟩

theorem bfG_fuel {g : Gr} {D : List Int} (hg : good g = true) : ∀ (k k' c : Nat) (par : Int) (ps : List Int), popc c < k → popc c < k' → bfG g D k c par ps = bfG g D k' c par ps
  | 0, _, _, _, _, h, _ => by omega
  | _ + 1, 0, _, _, _, _, h => by omega
  | k + 1, k' + 1, c, par, ps, h, h' => by
    rw [bfG, bfG]
    refine foldl_eq _ _ fun b m hm => ?_
    obtain ⟨x, x1, _, _, _, _, _, x5, _⟩ := part_step (D := D) hg hm
    rw [x1, Int.toNat_natCast]
    exact bfG_fuel hg k k' _ _ _ (by omega) (by omega)

theorem dropb_bits : ∀ c : Nat, c < 256 → ∀ y : Nat, y < 8 → c.testBit y = true → ∀ j : Nat, j < 8 → (c - 2 ^ y).testBit j = (c.testBit j && !(j == y)) := by decide +kernel

theorem sWithout_eq {F n m b : Nat} (hn : n ≤ 8) (hF : 20 ≤ F) (hm : m < 2 ^ n) (hb : b < n) (hmb : m.testBit b = true) : s_l2Without F (listN m.testBit n) (b : Int) = some (listN (m - 2 ^ b).testBit n) := by
  have h256 := pow_256 hn
  rw [without_eq hn hF]
  congr 1
  refine listN_congr fun j hj => ?_
  rw [dropb_bits m (by omega) b (by omega) hmb j (by omega)]
  by_cases e : j = b
  · subst e; simp
  · have h1 : ((j : Int) == (b : Int)) = false := by
      have : ¬ (j : Int) = (b : Int) := by omega
      simpa using this
    have h2 : (j == b) = false := by simpa using e
    rw [h1, h2]

/-- both loops over the parts -/
theorem sLoop {F : Nat} {g : Gr} {D : List Int} {par : Int} {β : Type} {L : Nat → NL Int → Int → Option β} {fin : NL Int → Option β} {c K : Nat} (hg : good g = true) (hF : 60 ≤ F) (hD : D.length = 2 ^ g.1.toNat) (hF2 : g.1.toNat < F)
    (hstep : ∀ k s i, i < (prt g g.1.toNat c.testBit).length → L (k + 1) s (i : Int) = (s_l7Root F D (listN ((prt g g.1.toNat c.testBit).getD i 0).testBit g.1.toNat)).bind fun r => (idx s.list r).bind fun _ => (s_l2Without F (listN ((prt g g.1.toNat c.testBit).getD i 0).testBit g.1.toNat) r).bind fun r26 =>
      (s_l7Grow_o_r F K g D ((NL.set s r.toNat par).list) r26 r).bind fun r27 => L k r27 (w64 ((i : Int) + 1)))
    (hend : ∀ k s, L (k + 1) s ((prt g g.1.toNat c.testBit).length : Int) = fin s)
    (ih : ∀ m ∈ prt g g.1.toNat c.testBit, ∀ (par : Int) (ps : List Int), ps.length = g.1.toNat → s_l7Grow_o_r F K g D ps (listN (m - 2 ^ (rootN D g.1.toNat m).toNat).testBit g.1.toNat) par = some (.of (bfG g D K (m - 2 ^ (rootN D g.1.toNat m).toNat) par ps)))
    (ps : List Int) (hps : ps.length = g.1.toNat) (hP : (prt g g.1.toNat c.testBit).length < F) : L F (.of ps) 0 = fin (.of (bfG g D (K + 1) c par ps)) := by
  have h8 := good_size hg
  rw [bfG]
  refine loop_inv (L := fun k i s => L k s i) (n := (prt g g.1.toNat c.testBit).length)
    (fun i s => s = .of (((prt g g.1.toNat c.testBit).take i).foldl (fun ps m => bfG g D K (m - 2 ^ (rootN D g.1.toNat m).toNat) (rootN D g.1.toNat m) (ps.set (rootN D g.1.toNat m).toNat par)) ps)) ?_ ?_ F _ hP rfl
  · intro k i s hi hI
    have hm : (prt g g.1.toNat c.testBit).getD i 0 ∈ prt g g.1.toNat c.testBit := getD_mem hi
    obtain ⟨b, b1, b2, b3, b4, b5, b6, b7, b8⟩ := part_step (D := D) hg hm
    have hlen : (((prt g g.1.toNat c.testBit).take i).foldl (fun ps m => bfG g D K (m - 2 ^ (rootN D g.1.toNat m).toNat) (rootN D g.1.toNat m) (ps.set (rootN D g.1.toNat m).toNat par)) ps).length = g.1.toNat :=
      foldl_keep (P := fun (b : List Int) => b.length = g.1.toNat) _ _ hps fun b m _ hb => by rw [bfG_len]; simpa using hb
    have hi8 : (prt g g.1.toNat c.testBit).length ≤ 256 := by
      have : ∀ d p, (prt g d p).length ≤ d := by
        intro d
        induction d with
        | zero => intro p; simp [prt]
        | succ d ih =>
          intro p; rw [prt]
          cases fstN p g.1.toNat with
          | none => simp
          | some x => simp; exact ih _
      have := this g.1.toNat c.testBit
      omega
    refine ⟨_, rfl, ?_⟩
    rw [hstep k s i hi, sRoot_eq (by omega) hF b4 b5 hD, Option.bind_some, b1]
    have e1 : idx s.list (b : Int) = some (s.list.getD b 0) := idx_getD (by rw [hI]; simp only [NL.list]; omega)
    rw [e1, Option.bind_some, sWithout_eq (by omega) (by omega) b4 b2 b3, Option.bind_some]
    have e2 : (NL.set s b par).list = (((prt g g.1.toNat c.testBit).take i).foldl (fun ps m => bfG g D K (m - 2 ^ (rootN D g.1.toNat m).toNat) (rootN D g.1.toNat m) (ps.set (rootN D g.1.toNat m).toNat par)) ps).set b par := by
      rw [hI]; simp [NL.set, NL.list]
    have e3 := ih _ hm (b : Int) ((NL.set s b par).list) (by rw [e2, List.length_set, hlen])
    rw [b1, Int.toNat_natCast] at e3
    rw [Int.toNat_natCast, e3, Option.bind_some, w64_succ hi (by unfold Sm; omega), take_snoc (d := 0) hi, List.foldl_append, List.foldl_cons, List.foldl_nil, b1, Int.toNat_natCast, ← e2]
  · intro k s hI
    rw [hend k s, hI, List.take_length]

theorem prt_le {g : Gr} : ∀ d p, (prt g d p).length ≤ d := by
  intro d
  induction d with
  | zero => intro p; simp [prt]
  | succ d ih =>
    intro p; rw [prt]
    cases fstN p g.1.toNat with
    | none => simp
    | some x => simp; exact ih _

theorem parts_get {g : Gr} {c i : Nat} (hi : i < (prt g g.1.toNat c.testBit).length) : idx ((prt g g.1.toNat c.testBit).map fun (m : Nat) => listN m.testBit g.1.toNat) (i : Int) = some (listN ((prt g g.1.toNat c.testBit).getD i 0).testBit g.1.toNat) := by
  rw [idx_getD (d := []) (by simpa using hi), List.getD_eq_getElem?_getD, List.getElem?_map, List.getElem?_eq_getElem hi, List.getD_eq_getElem?_getD, List.getElem?_eq_getElem hi]; rfl

theorem sGrow_eq {F : Nat} {g : Gr} {D : List Int} (hg : good g = true) (hF : 60 ≤ F) (hG : g.2.length < F) (hs : Sm g.2.length) (hD : D.length = 2 ^ g.1.toNat) : ∀ (k c : Nat) (par : Int) (ps : List Int), c < 2 ^ g.1.toNat → popc c < k → ps.length = g.1.toNat →
    s_l7Grow_o_r F k g D ps (listN c.testBit g.1.toNat) par = some (.of (bfG g D k c par ps))
  | 0, c, _, _, _, h, _ => by omega
  | k + 1, c, par, ps, hc, hk, hps => by
    have h8 := good_size hg
    have hP := prt_le (g := g) g.1.toNat c.testBit
    rw [s_l7Grow_o_r]
    unfold s_l7Grow_o_b
    rw [own_o (by omega), Option.bind_some, sParts_eq hg hF hG hs, Option.bind_some]
    refine sLoop (L := fun k2 s i => s_l7Grow_o_l1 F (s_l7Grow_o_r F k) D par g ((prt g g.1.toNat c.testBit).map fun (m : Nat) => listN m.testBit g.1.toNat) k2 s i) (fin := fun s => some s) (K := k) hg hF hD (by omega) ?_ ?_ ?_ ps hps (by omega)
    · intro k2 s i hi
      simp only [s_l7Grow_o_l1]
      rw [List.length_map, decide_eq_true (show (i : Int) < ((prt g g.1.toNat c.testBit).length : Int) by omega), cond_true, parts_get hi, Option.bind_some]
      rfl
    · intro k2 s
      simp only [s_l7Grow_o_l1]
      rw [List.length_map, decide_eq_false (by omega), cond_false]
    · intro m hm par ps hps
      obtain ⟨b, b1, b2, b3, b4, b5, b6, b7, b8⟩ := part_step (D := D) hg hm
      rw [b1, Int.toNat_natCast]
      exact sGrow_eq hg hF hG hs hD k _ _ _ b6 (by omega) hps

theorem iGrow_eq {F : Nat} {g : Gr} {D : List Int} (hg : good g = true) (hF : 60 ≤ F) (hD : D.length = 2 ^ g.1.toNat) : ∀ (k c : Nat) (par : Int) (ps : List Int), c < 2 ^ g.1.toNat → popc c < k → ps.length = g.1.toNat →
    i_net_grow_r F ⟨nearL g⟩ D k (c : Int) par ps = some (bfG g D k c par ps)
  | 0, c, _, _, _, h, _ => by omega
  | k + 1, c, par, ps, hc, hk, hps => by
    have h8 := good_size hg
    have hP := prt_le (g := g) g.1.toNat c.testBit
    rw [i_net_grow_r]
    unfold i_net_grow_b
    have hpe := parts_eq (F := F) (p := c.testBit) hg (by omega)
    rw [mask_self hc] at hpe
    rw [hpe, Option.bind_some, bfG]
    refine loop_inv (L := fun k2 i s => i_net_grow_l1 F ⟨nearL g⟩ D (i_net_grow_r F ⟨nearL g⟩ D k) par ((prt g g.1.toNat c.testBit).map fun (m : Nat) => (m : Int)) k2 s i) (n := (prt g g.1.toNat c.testBit).length)
      (fun i s => s = ((prt g g.1.toNat c.testBit).take i).foldl (fun ps m => bfG g D k (m - 2 ^ (rootN D g.1.toNat m).toNat) (rootN D g.1.toNat m) (ps.set (rootN D g.1.toNat m).toNat par)) ps) ?_ ?_ F _ (by omega) rfl
    · intro k2 i s hi hI
      have hm : (prt g g.1.toNat c.testBit).getD i 0 ∈ prt g g.1.toNat c.testBit := getD_mem hi
      obtain ⟨b, b1, b2, b3, b4, b5, b6, b7, b8⟩ := part_step (D := D) hg hm
      have hlen : s.length = g.1.toNat := by
        rw [hI]
        exact foldl_keep (P := fun (b : List Int) => b.length = g.1.toNat) _ _ hps fun b m _ hb => by rw [bfG_len]; simpa using hb
      have hget : idx ((prt g g.1.toNat c.testBit).map fun (m : Nat) => (m : Int)) (i : Int) = some (((prt g g.1.toNat c.testBit).getD i 0 : Nat) : Int) := by
        rw [idx_getD (d := 0) (by simpa using hi), List.getD_eq_getElem?_getD, List.getElem?_map, List.getElem?_eq_getElem hi, List.getD_eq_getElem?_getD, List.getElem?_eq_getElem hi]; rfl
      have ih := iGrow_eq hg hF hD k ((prt g g.1.toNat c.testBit).getD i 0 - 2 ^ b) (b : Int) (s.set b par) b6 (by omega) (by rw [List.length_set, hlen])
      refine ⟨_, rfl, ?_⟩
      simp only [i_net_grow_l1]
      rw [List.length_map, decide_eq_true (show (i : Int) < ((prt g g.1.toNat c.testBit).length : Int) by omega), cond_true, hget, Option.bind_some, iRoot_eq (by omega) hF b4 b5 hD, Option.bind_some, b1, idx_getD (d := 0) (by omega), Option.bind_some, one_shl (by omega), Option.bind_some, b8, Int.toNat_natCast, ih, Option.bind_some, w64_succ hi (by unfold Sm; omega), take_snoc (d := 0) hi, List.foldl_append, List.foldl_cons, List.foldl_nil, b1, Int.toNat_natCast, ← hI]
    · intro k2 s hI
      simp only [i_net_grow_l1]
      rw [List.length_map, decide_eq_false (show ¬ ((prt g g.1.toNat c.testBit).length : Int) < ((prt g g.1.toNat c.testBit).length : Int) by omega), cond_false, hI, List.take_length]

theorem tdI_eq {g : Gr} {ds : List Int} (h : TdI g (2 ^ g.1.toNat - 1) ds) : ds = tdT g (2 ^ g.1.toNat - 1) := by
  have hpow := Nat.two_pow_pos g.1.toNat
  apply List.ext_getElem?
  intro j
  by_cases hj : j < 2 ^ g.1.toNat
  · have := h.2.1 j (by omega)
    rw [List.getD_eq_getElem?_getD, List.getD_eq_getElem?_getD, List.getElem?_eq_getElem (by rw [h.1]; exact hj), List.getElem?_eq_getElem (by rw [tdT_len]; omega)] at this
    rw [List.getElem?_eq_getElem (by rw [h.1]; exact hj), List.getElem?_eq_getElem (by rw [tdT_len]; omega)]
    simpa using this
  · rw [List.getElem?_eq_none (by rw [h.1]; omega), List.getElem?_eq_none (by rw [tdT_len]; omega)]

/-- the best forest -/
def bestF (g : Gr) : List Int := bfG g (tdT g (2 ^ g.1.toNat - 1)) 300 (mkm (fun _ => true) g.1.toNat) (-1) (List.replicate g.1.toNat 0)
theorem bestF_len {g : Gr} : (bestF g).length = g.1.toNat := by unfold bestF; rw [bfG_len]; simp

theorem sBest_eq {F : Nat} {g : Gr} (hg : good g = true) (hF : 300 ≤ F) (hG : g.2.length < F) (hs : Sm g.2.length) : s_l7Best F g = some (bestF g) := by
  have h8 := good_size hg
  have hpow := Nat.two_pow_pos g.1.toNat
  have hgn : (g.1.toNat : Int) = g.1 := by omega
  have hc : mkm (fun _ => true) g.1.toNat < 2 ^ g.1.toNat := mkm_lt
  have hpc := popc_le (n := g.1.toNat) (m := mkm (fun _ => true) g.1.toNat) (by omega) hc
  have hD : (tdT g (2 ^ g.1.toNat - 1)).length = 2 ^ g.1.toNat := by rw [tdT_len]; omega
  unfold s_l7Best
  have hmk : mkN g.1 (0 : Int) = some (List.replicate g.1.toNat 0) := by rw [← hgn]; exact mkN_nat (by omega)
  have hall : listN (fun j => decide (j < g.1.toNat)) g.1.toNat = listN (mkm (fun _ => true) g.1.toNat).testBit g.1.toNat := by
    refine listN_congr fun j hj => ?_
    rw [mkm_bit]; simp
  rw [sDepths_eq hg hF hG hs, Option.bind_some, hmk, Option.bind_some, all_eq hg (by omega), Option.bind_some, hall]
  have hP := prt_le (g := g) g.1.toNat (mkm (fun _ => true) g.1.toNat).testBit
  have key : s_l7Grow F g (tdT g (2 ^ g.1.toNat - 1)) (List.replicate g.1.toNat 0) (listN (mkm (fun _ => true) g.1.toNat).testBit g.1.toNat) (-1) = some (bfG g (tdT g (2 ^ g.1.toNat - 1)) (F + 1) (mkm (fun _ => true) g.1.toNat) (-1) (List.replicate g.1.toNat 0)) := by
    unfold s_l7Grow
    obtain ⟨F', hF'⟩ : ∃ F', F = F' + 1 := ⟨F - 1, by omega⟩
    have hr : s_l7Grow_r F F = s_l7Grow_r F (F' + 1) := by rw [← hF']
    rw [hr, s_l7Grow_r]
    unfold s_l7Grow_b
    rw [own_o (by simp; omega), Option.bind_some, sParts_eq hg (by omega) hG hs, Option.bind_some]
    refine sLoop (L := fun k2 s i => s_l7Grow_l1 F (s_l7Grow_r F F') (tdT g (2 ^ g.1.toNat - 1)) (-1) g ((prt g g.1.toNat (mkm (fun _ => true) g.1.toNat).testBit).map fun (m : Nat) => listN m.testBit g.1.toNat) k2 s i) (fin := fun s => some s.list) (K := F) hg (by omega) hD (by omega) ?_ ?_ ?_ _ (by simp) (by omega)
    · intro k2 s i hi
      simp only [s_l7Grow_l1, s_l7Grow_o]
      rw [List.length_map, decide_eq_true (show (i : Int) < ((prt g g.1.toNat (mkm (fun _ => true) g.1.toNat).testBit).length : Int) by omega), cond_true, parts_get hi, Option.bind_some]
      rfl
    · intro k2 s
      simp only [s_l7Grow_l1]
      rw [List.length_map, decide_eq_false (by omega), cond_false]
    · intro m hm par ps hps
      obtain ⟨b, b1, b2, b3, b4, b5, b6, b7, b8⟩ := part_step (D := tdT g (2 ^ g.1.toNat - 1)) hg hm
      rw [b1, Int.toNat_natCast]
      exact sGrow_eq hg (by omega) hG hs hD F _ _ _ b6 (by omega) hps
  rw [key, Option.bind_some, bfG_fuel hg (F + 1) 300 _ _ _ (by omega) (by omega)]
  rfl

theorem iBest_eq {F : Nat} {g : Gr} (hg : good g = true) (hF : 300 ≤ F) : ∃ ds, i_net_treedepths F ⟨nearL g⟩ = some ds ∧ i_net_size F ⟨nearL g⟩ = some (g.1.toNat : Int) ∧ mkN (g.1.toNat : Int) (0 : Int) = some (List.replicate g.1.toNat 0) ∧
    i_net_all F ⟨nearL g⟩ = some ((mkm (fun _ => true) g.1.toNat : Nat) : Int) ∧ i_net_grow F ⟨nearL g⟩ ds ((mkm (fun _ => true) g.1.toNat : Nat) : Int) (-1) (List.replicate g.1.toNat 0) = some (bestF g) := by
  have h8 := good_size hg
  have hpow := Nat.two_pow_pos g.1.toNat
  have hc : mkm (fun _ => true) g.1.toNat < 2 ^ g.1.toNat := mkm_lt
  have hpc := popc_le (n := g.1.toNat) (m := mkm (fun _ => true) g.1.toNat) (by omega) hc
  have hD : (tdT g (2 ^ g.1.toNat - 1)).length = 2 ^ g.1.toNat := by rw [tdT_len]; omega
  obtain ⟨ds, h1, h2⟩ := iDepths_eq (F := F) hg hF
  have e := tdI_eq h2
  refine ⟨ds, h1, ?_, mkN_nat (by omega), iAll_eq hg, ?_⟩
  · unfold i_net_size; rw [nearL_len]
  · unfold i_net_grow
    rw [e, iGrow_eq hg (by omega) hD F _ _ _ hc (by omega) (by simp), bfG_fuel hg F 300 _ _ _ (by omega) (by omega)]
    rfl

end Go.Zq
/- Plain mathematics: the ranks of the best forest. -/
namespace Go.Zq

theorem bfG_rng {g : Gr} {D : List Int} (hg : good g = true) : ∀ (k c : Nat) (par : Int) (ps : List Int), (-1 ≤ par ∧ par < g.1.toNat) → (∀ e ∈ ps, -1 ≤ e ∧ e < (g.1.toNat : Int)) → ∀ e ∈ bfG g D k c par ps, -1 ≤ e ∧ e < (g.1.toNat : Int)
  | 0, _, _, _, _, h => h
  | k + 1, c, par, ps, hp, h => by
    rw [bfG]
    refine foldl_keep (P := fun (b : List Int) => ∀ e ∈ b, -1 ≤ e ∧ e < (g.1.toNat : Int)) _ _ h fun b m hm hb => ?_
    obtain ⟨x, x1, x2, _⟩ := part_step (D := D) hg hm
    refine bfG_rng hg k _ _ _ (by rw [x1]; omega) fun e he => ?_
    rcases List.mem_or_eq_of_mem_set he with h1 | h1
    · exact hb e h1
    · rw [h1]; exact hp

theorem bestF_rng {g : Gr} (hg : good g = true) {x : Nat} (hx : x < g.1.toNat) : -1 ≤ (bestF g).getD x 0 ∧ (bestF g).getD x 0 < (g.1.toNat : Int) := by
  have hm : (bestF g).getD x 0 ∈ bestF g := getD_mem (by rw [bestF_len]; exact hx)
  refine bfG_rng hg _ _ _ _ (by omega) (fun e he => ?_) _ hm
  rw [List.mem_replicate] at he
  omega

theorem rep1_n (K : Nat) : ∀ n, n ≤ 8 → slices_Repeat_o (K + 6) [1] ((n : Nat) : Int) = some (.of (List.replicate n 1))
  | 0, _ => rfl
  | 1, _ => rfl
  | 2, _ => rfl
  | 3, _ => rfl
  | 4, _ => rfl
  | 5, _ => rfl
  | 6, _ => rfl
  | 7, _ => rfl
  | 8, _ => rfl

theorem repeat_eq {F n : Nat} (hn : n ≤ 8) (hF : 20 ≤ F) : slices_Repeat_o F [1] (n : Int) = some (.of (List.replicate n 1)) := by
  obtain ⟨K, rfl⟩ : ∃ K, F = K + 6 := ⟨F - 6, by omega⟩
  exact rep1_n K n hn

/-- the rank of a node's parent is more than its own -/
def rkU (P r : List Int) (x : Nat) : List Int := if 0 ≤ P.getD x 0 then r.set (P.getD x 0).toNat (max (r.getD (P.getD x 0).toNat 0) (r.getD x 0 + 1)) else r
def rk1 (P : List Int) (n : Nat) (r : List Int) : List Int := (List.range n).foldl (fun r x => rkU P r x) r
def rkA (P : List Int) (n : Nat) : List Int := (List.range n).foldl (fun r _ => rk1 P n r) (List.replicate n 1)

def Bd (n k : Nat) (r : List Int) : Prop := r.length = n ∧ ∀ e ∈ r, 1 ≤ e ∧ e ≤ (k : Int)
theorem Bd.mono {n k k' : Nat} {r : List Int} (h : Bd n k r) (hk : k ≤ k') : Bd n k' r := ⟨h.1, fun e he => by have := h.2 e he; omega⟩
theorem Bd.at {n k i : Nat} {r : List Int} (h : Bd n k r) (hi : i < n) : 1 ≤ r.getD i 0 ∧ r.getD i 0 ≤ (k : Int) := h.2 _ (getD_mem (by rw [h.1]; exact hi))

theorem rkU_bd {P r : List Int} {n k x : Nat} (h : Bd n k r) (hx : x < n) (hp : P.getD x 0 < (n : Int)) : Bd n (k + 1) (rkU P r x) := by
  unfold rkU
  split
  · refine ⟨by rw [List.length_set, h.1], fun e he => ?_⟩
    rcases List.mem_or_eq_of_mem_set he with h1 | h1
    · have := h.2 e h1; omega
    · have h2 := h.at hx
      have h3 := h.at (i := (P.getD x 0).toNat) (by omega)
      omega
  · exact h.mono (by omega)

theorem rk_inner {β : Type} {n F B : Nat} {P : List Int} {L : Nat → Int → List Int → Option β} {fin : List Int → Option β} (hP : ∀ x, x < n → P.getD x 0 < (n : Int)) (hB : B ≤ 1000) (hn : n ≤ 8) (hF : n < F)
    (hs : ∀ k i s, i < n → Bd n 2000 s → L (k + 1) (i : Int) s = L k ((i + 1 : Nat) : Int) (rkU P s i)) (he : ∀ k s, L (k + 1) (n : Int) s = fin s) {s0 : List Int} (h0 : Bd n B s0) : L F 0 s0 = fin (rk1 P n s0) ∧ Bd n (B + n) (rk1 P n s0) := by
  obtain ⟨s, h1, h2, h3⟩ := loop_fold (L := L) (n := n) (fun i s => i ≤ n ∧ Bd n (B + i) s) (fin := fin) (fun i s => rkU P s i) (fun k i s hi hI => hs k i s hi (hI.2.mono (by omega)))
    (fun i s hi hI => ⟨by omega, rkU_bd hI.2 hi (hP i hi)⟩) (fun k s _ => he k s) F s0 hF ⟨by omega, h0⟩
  unfold rk1
  rw [← h3]
  exact ⟨h2, h1.2⟩

theorem rk_outer {β : Type} {n F : Nat} {P : List Int} {L : Nat → Int → List Int → Option β} {fin : List Int → Option β} (hn : n ≤ 8) (hF : n < F)
    (hs : ∀ k i s, i < n → Bd n (1 + i * n) s → L (k + 1) (i : Int) s = L k ((i + 1 : Nat) : Int) (rk1 P n s) ∧ Bd n (1 + i * n + n) (rk1 P n s)) (he : ∀ k s, L (k + 1) (n : Int) s = fin s) : L F 0 (List.replicate n 1) = fin (rkA P n) ∧ Bd n (1 + n * n) (rkA P n) := by
  obtain ⟨s, h1, h2, h3⟩ := loop_fold (L := L) (n := n) (fun i s => Bd n (1 + i * n) s) (fin := fin) (fun i s => rk1 P n s) (fun k i s hi hI => (hs k i s hi hI).1)
    (fun i s hi hI => (hs 0 i s hi hI).2.mono (by rw [Nat.add_mul]; omega)) (fun k s _ => he k s) F (List.replicate n 1) hF ⟨by simp, fun e he => by rw [List.mem_replicate] at he; omega⟩
  unfold rkA
  rw [← h3]
  exact ⟨h2, h1⟩

theorem sRank_eq {F : Nat} {g : Gr} (hg : good g = true) (hF : 300 ≤ F) : s_RankingOf_l3 F g (bestF g) F [] 0 = some (rkA (bestF g) g.1.toNat, true) := by
  have h8 := good_size hg
  have hgn : (g.1.toNat : Int) = g.1 := by omega
  have hP : ∀ x, x < g.1.toNat → (bestF g).getD x 0 < (g.1.toNat : Int) := fun x hx => (bestF_rng hg hx).2
  have key : s_RankingOf_l2 F g (bestF g) F (List.replicate g.1.toNat 1) 0 = some (rkA (bestF g) g.1.toNat, true) := by
    refine (rk_outer (P := bestF g) (L := fun k i s => s_RankingOf_l2 F g (bestF g) k s i) (fin := fun s => some (s, true)) (n := g.1.toNat) (by omega) (by omega) ?_ ?_).1
    · intro k i s hi hI
      have hb : 1 + i * g.1.toNat ≤ 1000 := by
        have : i * g.1.toNat ≤ 8 * 8 := Nat.mul_le_mul (by omega) (by omega)
        omega
      have hin := rk_inner (P := bestF g) (F := F) (L := fun k2 j s => s_RankingOf_l1 F g (bestF g) (i : Int) (s_RankingOf_l2 F g (bestF g) k) k2 s j) (fin := fun s => s_RankingOf_l2 F g (bestF g) k s ((i + 1 : Nat) : Int)) hP hb (by omega) (by omega) ?_ ?_ hI
      · refine ⟨?_, hin.2⟩
        show s_RankingOf_l2 F g (bestF g) (k + 1) s (i : Int) = _
        rw [s_RankingOf_l2, ← hgn, decide_eq_true (show (i : Int) < (g.1.toNat : Int) by omega), cond_true]
        exact hin.1
      · intro k2 j s hj hbd
        have hp := bestF_rng hg hj
        simp only [s_RankingOf_l1, s_RankingOf_j1]
        rw [← hgn, decide_eq_true (show (j : Int) < (g.1.toNat : Int) by omega), cond_true, idx_getD (d := 0) (by rw [bestF_len]; exact hj), Option.bind_some, w64_succ hj (by unfold Sm; omega)]
        unfold rkU
        have hj2 := hbd.at hj
        by_cases h0 : 0 ≤ (bestF g).getD j 0
        · have hpn : (((bestF g).getD j 0).toNat : Int) = (bestF g).getD j 0 := by omega
          have hpi : idx s ((bestF g).getD j 0) = some (s.getD ((bestF g).getD j 0).toNat 0) := by
            have := idx_getD (xs := s) (i := ((bestF g).getD j 0).toNat) (d := 0) (by rw [hbd.1]; omega)
            rwa [hpn] at this
          rw [decide_eq_true (show (bestF g).getD j 0 ≥ 0 by omega), cond_true, hpi, Option.bind_some, idx_getD (d := 0) (by rw [hbd.1]; exact hj), Option.bind_some, w64_id (by omega) (by omega), most_eq, Option.bind_some, Option.bind_some, if_pos h0]
        · rw [decide_eq_false (show ¬ (bestF g).getD j 0 ≥ 0 by omega), cond_false, if_neg h0]
      · intro k2 s
        simp only [s_RankingOf_l1]
        rw [← hgn, decide_eq_false (by omega), cond_false, w64_succ hi (by unfold Sm; omega)]
    · intro k s
      show s_RankingOf_l2 F g (bestF g) (k + 1) s (g.1.toNat : Int) = _
      rw [s_RankingOf_l2, ← hgn, decide_eq_false (by omega), cond_false]
  rw [← key]
  refine loop_inv (L := fun k i s => s_RankingOf_l3 F g (bestF g) k s i) (n := g.1.toNat) (fun i s => s = List.replicate i 1) ?_ ?_ F [] (by omega) rfl
  · intro k i s hi hI
    subst hI
    refine ⟨_, rfl, ?_⟩
    show s_RankingOf_l3 F g (bestF g) (k + 1) (List.replicate i 1) (i : Int) = _
    rw [s_RankingOf_l3, ← hgn, decide_eq_true (show (i : Int) < (g.1.toNat : Int) by omega), cond_true, appL_one (by rw [List.length_replicate]; omega), Option.bind_some, w64_succ hi (by unfold Sm; omega), List.replicate_succ']
  · intro k s hI
    subst hI
    show s_RankingOf_l3 F g (bestF g) (k + 1) (List.replicate g.1.toNat 1) (g.1.toNat : Int) = _
    rw [s_RankingOf_l3]
    have : decide ((g.1.toNat : Int) < g.1) = false := decide_eq_false (by omega)
    rw [this, cond_false]

theorem iRank_eq {F : Nat} {g : Gr} (hg : good g = true) (hF : 300 ≤ F) : i_RankingOf_o_l2 F (bestF g) g F (.of (List.replicate g.1.toNat 1)) 0 = some (.of (rkA (bestF g) g.1.toNat), true) := by
  have h8 := good_size hg
  have hgn : (g.1.toNat : Int) = g.1 := by omega
  have hP : ∀ x, x < g.1.toNat → (bestF g).getD x 0 < (g.1.toNat : Int) := fun x hx => (bestF_rng hg hx).2
  refine (rk_outer (P := bestF g) (L := fun k i s => i_RankingOf_o_l2 F (bestF g) g k (.of s) i) (fin := fun s => some (.of s, true)) (n := g.1.toNat) (by omega) (by omega) ?_ ?_).1
  · intro k i s hi hI
    have hb : 1 + i * g.1.toNat ≤ 1000 := by
      have : i * g.1.toNat ≤ 8 * 8 := Nat.mul_le_mul (by omega) (by omega)
      omega
    have hin := rk_inner (P := bestF g) (F := F) (L := fun k2 j s => i_RankingOf_o_l1 F (bestF g) g (i : Int) (i_RankingOf_o_l2 F (bestF g) g k) k2 (.of s) j) (fin := fun s => i_RankingOf_o_l2 F (bestF g) g k (.of s) ((i + 1 : Nat) : Int)) hP hb (by omega) (by omega) ?_ ?_ hI
    · refine ⟨?_, hin.2⟩
      show i_RankingOf_o_l2 F (bestF g) g (k + 1) (.of s) (i : Int) = _
      rw [i_RankingOf_o_l2, ← hgn, decide_eq_true (show (i : Int) < (g.1.toNat : Int) by omega), cond_true]
      exact hin.1
    · intro k2 j s hj hbd
      have hp := bestF_rng hg hj
      simp only [i_RankingOf_o_l1, i_RankingOf_o_j1]
      rw [bestF_len, decide_eq_true (show (j : Int) < (g.1.toNat : Int) by omega), cond_true, idx_getD (d := 0) (by rw [bestF_len]; exact hj), Option.bind_some, w64_succ hj (by unfold Sm; omega)]
      unfold rkU
      have hj2 := hbd.at hj
      by_cases h0 : 0 ≤ (bestF g).getD j 0
      · have hpn : (((bestF g).getD j 0).toNat : Int) = (bestF g).getD j 0 := by omega
        have hpi : idx s ((bestF g).getD j 0) = some (s.getD ((bestF g).getD j 0).toNat 0) := by
          have := idx_getD (xs := s) (i := ((bestF g).getD j 0).toNat) (d := 0) (by rw [hbd.1]; omega)
          rwa [hpn] at this
        have hl : (NL.of s).list = s := rfl
        rw [decide_eq_true (show (bestF g).getD j 0 ≥ 0 by omega), cond_true, hl, hpi, Option.bind_some, idx_getD (d := 0) (by rw [hbd.1]; exact hj), Option.bind_some, Option.bind_some, w64_id (by omega) (by omega), if_pos h0]
        have hm : (if s.getD j 0 + 1 > s.getD ((bestF g).getD j 0).toNat 0 then s.getD j 0 + 1 else s.getD ((bestF g).getD j 0).toNat 0) = max (s.getD ((bestF g).getD j 0).toNat 0) (s.getD j 0 + 1) := by split <;> omega
        rw [hm]; rfl
      · rw [decide_eq_false (show ¬ (bestF g).getD j 0 ≥ 0 by omega), cond_false, if_neg h0]
    · intro k2 s
      simp only [i_RankingOf_o_l1]
      rw [bestF_len, decide_eq_false (by omega), cond_false, w64_succ hi (by unfold Sm; omega)]
  · intro k s
    show i_RankingOf_o_l2 F (bestF g) g (k + 1) (.of s) (g.1.toNat : Int) = _
    rw [i_RankingOf_o_l2, ← hgn, decide_eq_false (by omega), cond_false]

theorem exRankingOf {F : Nat} {g : Gr} (h9 : 300 ≤ F) (hG : g.2.length < F) (hs : Sm g.2.length) :
    ∃ R b o, s_RankingOf F g = some (R, b) ∧ i_RankingOf_o F g = some (o, b) ∧ o.list = R ∧ R.length ≤ 8 := by
  unfold s_RankingOf i_RankingOf_o
  rw [l2Good_eq hG hs, isGraph_eq hG (by omega) hs, Option.bind_some, Option.bind_some]
  cases hg : good g with
  | false => exact ⟨[], false, .nil, rfl, rfl, rfl, by simp⟩
  | true =>
    have h8 := good_size hg
    have hgn : (g.1.toNat : Int) = g.1 := by omega
    obtain ⟨ds, a1, a2, a3, a4, a5⟩ := iBest_eq (F := F) hg h9
    have hlen : (rkA (bestF g) g.1.toNat).length ≤ 8 := by
      have key : ∀ (n : Nat) (r : List Int), (rk1 (bestF g) n r).length = r.length := by
        intro n r
        unfold rk1
        refine foldl_keep (P := fun (b : List Int) => b.length = r.length) _ _ rfl fun b x _ hb => ?_
        unfold rkU; split <;> simpa using hb
      unfold rkA
      refine foldl_keep (P := fun (b : List Int) => b.length ≤ 8) _ _ (by simp; omega) fun b x _ hb => ?_
      rw [key]; exact hb
    refine ⟨rkA (bestF g) g.1.toNat, true, .of (rkA (bestF g) g.1.toNat), ?_, ?_, rfl, hlen⟩
    · rw [Bool.not_true, cond_false, sBest_eq hg h9 hG hs, Option.bind_some, sRank_eq hg h9]
    · rw [Bool.not_true, cond_false, netOf_eq hg hG hs, Option.bind_some]
      unfold i_net_bestForest
      rw [a1, Option.bind_some, a2, Option.bind_some, a3, Option.bind_some, a4, Option.bind_some, a5, Option.bind_some, Option.bind_some]
      have hr := repeat_eq (F := F) (n := g.1.toNat) (by omega) (by omega)
      rw [hgn] at hr
      rw [hr, Option.bind_some, iRank_eq hg h9]

end Go.Zq
/- The law RankingOf, as a plain statement. -/
namespace Go.Zq

theorem lawRankingOf {F : Nat} {g : Gr} (hF : 2097152 ≤ F) (hg : g.2.length ≤ 9223372036854775807) : w_FnExactRankingOf F g = some true := by
  unfold w_FnExactRankingOf
  rw [szGraph_eq (by omega) (by omega) hg, Option.bind_some]
  by_cases h2 : (1048576 : Int) - g.2.length < 0
  · simp [h2]
  simp only [h2, if_false, decide_false, cond_false]
  obtain ⟨R, b, o, hs, hi, ho, hl⟩ := exRankingOf (F := F) (g := g) (by omega) (by omega) (by unfold Sm; omega)
  have e1 : w_toGraph F g = some g := toGraph_eq (by omega) (by omega) (by omega)
  have e2 : w_toGraph_o F g = some (g.1, .of g.2) := toGraph_o_eq (by omega) (by omega) (by omega)
  have e5 : w_eqIntS F o.list R = some true := by rw [ho]; exact eqIntS_eq (by omega) (by unfold Sm; omega)
  have e6 : w_eqGraph F (g.1, (NL.of g.2).list) g = some true := eqGraph_eq (g := g) (by omega) (by unfold Sm; omega) (by omega)
  obtain ⟨yg, e8, _, _⟩ := markGraph_eq (F := F) (a := g.1) (xs := g.2) (k := 1) (by omega) (by omega) (by omega) (by omega) (by omega)
  have e9 : decide ((1 + 2 * (g.2.length : Int)) < 0) = false := decide_eq_false (by omega)
  obtain ⟨o2, m2, m3, m4⟩ := markIntS_eq (F := F) (o := o) (k := 1) (by rw [ho]; omega) (by rw [ho]; omega) (by omega) (by omega)
  have e10 : w_heldIntS F o2.list 1 = some (1 + (o.list.length : Int)) := by rw [m4]; exact heldIntS_eq (by rw [ho]; omega) (by rw [ho]; omega) (by omega) (by omega)
  have e11 : decide ((1 + (o.list.length : Int)) < 0) = false := decide_eq_false (by omega)
  have hi1 : i_RankingOf_o F (g.1, (NL.of g.2).list) = some (o, b) := hi
  simp only [w_FnExactRankingOf_j1, w_FnExactRankingOf_j2, w_FnExactRankingOf_j3, e1, e2, e5, e6, e8, e9, e10, e11, hs, hi, hi1, m2, m3, Option.bind_some, Bool.not_true, cond_false, bne_self_eq_false]

end Go.Zq
