/- Plain mathematics: what the functions answer (part 2). Conditions: stated in each theorem. -/
import Derived.Test.YthblbfcloccopaaM1
set_option linter.unusedVariables false
set_option linter.unusedSimpArgs false
/- Plain mathematics: steps of a search, in the reference; programs. -/
namespace Go.Zq

theorem without_eq {F n : Nat} {p : Nat → Bool} {x : Int} (hn : n ≤ 8) (hF : 20 ≤ F) : s_l2Without F (listN p n) x = some (listN (fun j => p j && !((j : Int) == x)) n) := by
  have hc := cnt_le (p := p) (n := n)
  have hl8 : (listN p n).length ≤ 8 := by rw [listN_len]; omega
  have hfin : (listN p n).filter (fun y => y != x) = listN (fun j => p j && !((j : Int) == x)) n := by
    refine srt_listN (List.Pairwise.filter _ listN_srt) fun y => ?_
    rw [List.mem_filter, listN_mem]
    constructor
    · rintro ⟨⟨j, rfl, h1, h2⟩, h3⟩; exact ⟨j, rfl, h1, by rw [h2]; simpa using h3⟩
    · rintro ⟨j, rfl, h1, h2⟩
      simp only [Bool.and_eq_true] at h2
      exact ⟨⟨j, rfl, h1, h2.1⟩, by simpa using h2.2⟩
  unfold s_l2Without
  refine loop_inv (L := fun k i s => s_l2Without_l1 F (listN p n) x k s i) (n := (listN p n).length) (fun i s => s = ((listN p n).take i).filter fun y => y != x) ?_ ?_ F _ (by omega) rfl
  · intro k i s hi hI
    subst hI
    refine ⟨_, rfl, ?_⟩
    have hfl : (((listN p n).take i).filter fun y => y != x).length ≤ 8 := Nat.le_trans (List.length_filter_le _ _) (by simp; omega)
    simp only [s_l2Without_l1, s_l2Without_j1]
    rw [decide_eq_true (show (i : Int) < ((listN p n).length : Int) by omega), cond_true, idx_getD (d := 0) hi, Option.bind_some, w64_succ hi (by unfold Sm; omega)]
    have htk : ((listN p n).take (i + 1)).filter (fun y => y != x) = ((listN p n).take i).filter (fun y => y != x) ++ (if ((listN p n).getD i 0 != x) = true then [(listN p n).getD i 0] else []) := by
      rw [List.take_add_one, List.getElem?_eq_getElem hi, List.filter_append]
      have e : (listN p n).getD i 0 = (listN p n)[i] := by rw [List.getD_eq_getElem?_getD, List.getElem?_eq_getElem hi]; rfl
      rw [e]
      cases h : ((listN p n)[i] != x) <;> simp [h]
    rw [htk]
    cases h : ((listN p n).getD i 0 != x) with
    | true => rw [cond_true, Option.bind_some, appL_one (by omega), Option.bind_some]; rfl
    | false => rw [cond_false]; simp
  · intro k s hI
    subst hI
    simp only [s_l2Without_l1]
    rw [decide_eq_false (show ¬ ((listN p n).length : Int) < ((listN p n).length : Int) by omega), cond_false, List.take_length, hfin]

theorem all_eq {F : Nat} {g : Gr} (hg : good g = true) (hF : 20 ≤ F) : s_l2All F g = some (listN (fun j => decide (j < g.1.toNat)) g.1.toNat) := by
  have h8 := good_size hg
  have hgn : (g.1.toNat : Int) = g.1 := by omega
  have hpow := Nat.two_pow_pos g.1.toNat
  have hpl := pow_lt (j := g.1.toNat) (by omega)
  unfold s_l2All
  have hsh := one_shl (j := g.1.toNat) (by omega)
  rw [hgn] at hsh
  rw [hsh, Option.bind_some]
  have hw : w64 (((2 ^ g.1.toNat : Nat) : Int) - 1) = ((2 ^ g.1.toNat - 1 : Nat) : Int) := by rw [w64_id (by omega) (by omega)]; omega
  have hb := bits_eq (F := F) (n := g.1.toNat) (code := 2 ^ g.1.toNat - 1) (by omega) (by omega) (by omega)
  rw [hgn] at hb
  rw [hw, hb, Option.bind_some]
  congr 1
  apply listN_congr
  intro j _
  rw [Nat.testBit_two_pow_sub_one]

end Go.Zq
/- Plain mathematics: cops that stay, and treedepth. -/
namespace Go.Zq

/-- the treedepth of a set -/
def td (g : Gr) (m : Nat) : Int := (tdT g m).getD m 0

theorem tdT_td {g : Gr} : ∀ (c m : Nat), m ≤ c → (tdT g c).getD m 0 = td g m
  | 0, m, h => by obtain rfl : m = 0 := by omega
                  rfl
  | c + 1, m, h => by
    by_cases e : m = c + 1
    · subst e; rfl
    · rw [tdT_get (by omega)]; exact tdT_td c m (by omega)

theorem max_fold_le {α : Type} {f : α → Int} {B : Int} : ∀ (l : List α) (s : Int), l.foldl (fun s x => max s (f x)) s ≤ B ↔ s ≤ B ∧ ∀ x ∈ l, f x ≤ B
  | [], s => by simp
  | x :: l, s => by
    rw [List.foldl_cons, max_fold_le l]
    simp only [List.mem_cons, forall_eq_or_imp]
    constructor
    · rintro ⟨h1, h2⟩; exact ⟨by omega, by omega, h2⟩
    · rintro ⟨h1, h2, h3⟩; exact ⟨by omega, h3⟩
theorem min_fold_le {α : Type} {f : α → Int} {B : Int} : ∀ (l : List α) (s : Int), l.foldl (fun s x => min s (f x)) s ≤ B ↔ s ≤ B ∨ ∃ x ∈ l, f x ≤ B
  | [], s => by simp
  | x :: l, s => by
    rw [List.foldl_cons, min_fold_le l]
    simp only [List.mem_cons, exists_eq_or_imp]
    constructor
    · rintro (h | h)
      · by_cases hs : s ≤ B
        · exact .inl hs
        · exact .inr (.inl (by omega))
      · exact .inr (.inr h)
    · rintro (h | h | h)
      · exact .inl (by omega)
      · exact .inl (by omega)
      · exact .inr h

theorem td_ok {g : Gr} (hg : good g = true) {m : Nat} (hm : m < 2 ^ g.1.toNat) : 0 ≤ td g m ∧ td g m ≤ popc m := tdT_ok hg m hm m (Nat.le_refl _)

theorem comp_idem {g : Gr} (hg : good g = true) {q : Nat → Bool} {x : Nat} (hx : x < g.1.toNat) (hq : q x = true) (j : Nat) : comp g (comp g q x) x j = comp g q x j := by
  rw [Bool.eq_iff_iff]
  constructor
  · intro h; exact comp_in (p := comp g q x) comp_self h
  · intro h
    have : (comp g q x j && comp g (comp g q x) x j) = true := comp_min (C := fun j => comp g q x j && comp g (comp g q x) x j) (p := q) (by simp [comp_self]) (fun y j hy hj ha => by
      simp only [Bool.and_eq_true] at hy ⊢
      have h1 := comp_closed hg hx hq hy.1 hj ha
      exact ⟨h1, comp_closed hg hx comp_self hy.2 h1 ha⟩) h
    simp only [Bool.and_eq_true] at this
    exact this.2

theorem prt_nil {g : Gr} {d : Nat} {p : Nat → Bool} (h : ∀ j, j < g.1.toNat → p j = false) : prt g d p = [] := by
  cases d with
  | zero => rfl
  | succ d => rw [prt, fst_none.2 h]

/-- a part is connected -/
theorem prt_conn {g : Gr} (hg : good g = true) : ∀ (d : Nat) (p : Nat → Bool) (m : Nat), m ∈ prt g d p → prt g g.1.toNat m.testBit = [m]
  | 0, p, m, h => by simp [prt] at h
  | d + 1, p, m, h => by
    rw [prt] at h
    cases hf : fstN p g.1.toNat with
    | none => rw [hf] at h; simp at h
    | some x =>
      rw [hf] at h
      obtain ⟨h1, h2, h3⟩ := fst_some hf
      rcases List.mem_cons.1 h with rfl | h
      · obtain ⟨n, hn⟩ : ∃ n, g.1.toNat = n + 1 := ⟨g.1.toNat - 1, by omega⟩
        have hb : ∀ j, (mkm (comp g p x) g.1.toNat).testBit j = comp g p x j := by
          intro j
          rw [mkm_bit]
          cases hc : comp g p x j with
          | false => simp
          | true => rw [decide_eq_true (comp_lt hg h1 hc)]; rfl
        have hb' : (mkm (comp g p x) g.1.toNat).testBit = comp g p x := funext hb
        rw [hb']
        have hpr : prt g g.1.toNat (comp g p x) = prt g (n + 1) (comp g p x) := by rw [hn]
        rw [hpr, prt]
        have hfx : fstN (comp g p x) g.1.toNat = some x := by
          cases hf2 : fstN (comp g p x) g.1.toNat with
          | none => have := fst_none.1 hf2 x h1; rw [comp_self] at this; cases this
          | some y =>
            obtain ⟨y1, y2, y3⟩ := fst_some hf2
            have : y = x := by
              rcases Nat.lt_trichotomy y x with hl | hl | hl
              · have := h3 y hl; rw [comp_in h2 y2] at this; cases this
              · exact hl
              · have := y3 x hl; rw [comp_self] at this; cases this
            rw [this]
        rw [hfx]
        simp only
        rw [mkm_congr (q := comp g p x) (fun j _ => comp_idem hg h1 h2 j), prt_nil (fun j _ => by rw [comp_idem hg h1 h2 j]; cases comp g p x j <;> rfl)]
      · exact prt_conn hg d _ m h

theorem prt_one {g : Gr} (hg : good g = true) {c : Nat} (hc : c < 2 ^ g.1.toNat) (hl : (prt g g.1.toNat c.testBit).length = 1) : prt g g.1.toNat c.testBit = [c] := by
  obtain ⟨n, hn⟩ : ∃ n, g.1.toNat = n + 1 := by
    cases h : g.1.toNat with
    | zero => rw [h] at hl; simp [prt] at hl
    | succ n => exact ⟨n, rfl⟩
  have hpr : prt g g.1.toNat c.testBit = prt g (n + 1) c.testBit := by rw [hn]
  rw [hpr] at hl ⊢
  rw [prt] at hl ⊢
  cases hf : fstN c.testBit g.1.toNat with
  | none => rw [hf] at hl; simp at hl
  | some x =>
    rw [hf] at hl
    obtain ⟨h1, h2, h3⟩ := fst_some hf
    simp only [List.length_cons] at hl
    have hz : prt g n (fun j => c.testBit j && !comp g c.testBit x j) = [] := List.length_eq_zero_iff.1 (by omega)
    simp only
    rw [hz]
    congr 1
    have hnone : ∀ j, j < g.1.toNat → (c.testBit j && !comp g c.testBit x j) = false := by
      cases n with
      | zero =>
        intro j hj
        have : j = x := by omega
        subst this; rw [comp_self]; simp
      | succ n =>
        rw [prt] at hz
        cases hf2 : fstN (fun j => c.testBit j && !comp g c.testBit x j) g.1.toNat with
        | none => exact fst_none.1 hf2
        | some y => rw [hf2] at hz; simp at hz
    have he : mkm (comp g c.testBit x) g.1.toNat = mkm c.testBit g.1.toNat := by
      apply mkm_congr
      intro j hj
      have := hnone j hj
      cases hcb : c.testBit j with
      | true => rw [hcb] at this; simpa using this
      | false =>
        cases hcc : comp g c.testBit x j with
        | false => rfl
        | true => have := comp_in h2 hcc; rw [hcb] at this; cases this
    rw [he, mask_self hc]

/-- the treedepth of a set is that of its parts -/
theorem td_parts {g : Gr} (hg : good g = true) {c : Nat} (hc : c < 2 ^ g.1.toNat) {k : Int} (hk : 0 ≤ k) : (∀ m ∈ prt g g.1.toNat c.testBit, td g m ≤ k) ↔ td g c ≤ k := by
  cases c with
  | zero =>
    rw [prt_nil (fun j _ => Nat.zero_testBit j)]
    have : td g 0 = 0 := rfl
    rw [this]; simp [hk]
  | succ c =>
    have hpos := prt_pos (g := g) hc (by omega)
    by_cases hl : 1 < (prt g g.1.toNat (c + 1).testBit).length
    · have e : td g (c + 1) = (prt g g.1.toNat (c + 1).testBit).foldl (fun s m => max s ((tdT g c).getD m 0)) 0 := by
        show (tdT g (c + 1)).getD (c + 1) 0 = _
        rw [tdT_new]; unfold tdV; rw [if_pos hl]
      rw [e, max_fold_le]
      constructor
      · intro h
        refine ⟨hk, fun m hm => ?_⟩
        have := prt_lt hg hc hl m hm
        rw [tdT_td c m (by omega)]; exact h m hm
      · rintro ⟨_, h⟩ m hm
        have := prt_lt hg hc hl m hm
        rw [← tdT_td c m (by omega)]; exact h m hm
    · rw [prt_one hg hc (by omega)]; simp

/-- .. and that of a connected one is 1 more than that of the rest without its best node -/
theorem td_conn {g : Gr} (hg : good g = true) {c : Nat} (hc : c < 2 ^ g.1.toNat) (h0 : c ≠ 0) (hl : (prt g g.1.toNat c.testBit).length = 1) {k : Int} : td g c ≤ k ↔ ∃ y, y < g.1.toNat ∧ c.testBit y = true ∧ 1 + td g (c - 2 ^ y) ≤ k := by
  have h8 := good_size hg
  have h256 := pow_256 (n := g.1.toNat) (by omega)
  obtain ⟨c, rfl⟩ : ∃ c', c = c' + 1 := ⟨c - 1, by omega⟩
  have e : td g (c + 1) = (listN (c + 1).testBit g.1.toNat).foldl (fun s y => min s (1 + (tdT g c).getD (c + 1 - 2 ^ y.toNat) 0)) (g.1.toNat : Int) := by
    show (tdT g (c + 1)).getD (c + 1) 0 = _
    rw [tdT_new]; unfold tdV; rw [if_neg (by omega)]
  rw [e, min_fold_le]
  have hval : ∀ y : Nat, y < g.1.toNat → (c + 1).testBit y = true → (tdT g c).getD (c + 1 - 2 ^ y) 0 = td g (c + 1 - 2 ^ y) := by
    intro y _ _
    have := Nat.two_pow_pos y
    exact tdT_td c _ (by omega)
  constructor
  · rintro (h | ⟨y, hy, h⟩)
    · have hpp := popc_le (n := g.1.toNat) (m := c + 1) (by omega) hc
      have : ∃ y, y < g.1.toNat ∧ (c + 1).testBit y = true := by
        cases hf : fstN (c + 1).testBit g.1.toNat with
        | none => have := mkm_zero.2 hf; rw [mask_self hc] at this; omega
        | some y => obtain ⟨a, b, _⟩ := fst_some hf; exact ⟨y, a, b⟩
      obtain ⟨y, y1, y2⟩ := this
      obtain ⟨_, d2, d3⟩ := drop_all (c + 1) (by omega) y (by omega) y2
      have hp := Nat.two_pow_pos y
      have := (td_ok hg (m := c + 1 - 2 ^ y) (by omega)).2
      exact ⟨y, y1, y2, by omega⟩
    · obtain ⟨j, rfl, j1, j2⟩ := listN_mem.1 hy
      rw [Int.toNat_natCast, hval j j1 j2] at h
      exact ⟨j, j1, j2, h⟩
  · rintro ⟨y, y1, y2, h⟩
    refine .inr ⟨(y : Int), listN_mem.2 ⟨y, rfl, y1, y2⟩, ?_⟩
    rw [Int.toNat_natCast, hval y y1 y2]; exact h

theorem drop_bits_all : ∀ c : Nat, c < 256 → ∀ y : Nat, y < 8 → c.testBit y = true → ∀ j : Nat, j < 8 → (c - 2 ^ y).testBit j = (c.testBit j && !(j == y)) := by decide +kernel
theorem drop_bits {c y : Nat} (hc : c < 256) (hy8 : y < 8) (hy : c.testBit y = true) : (fun j : Nat => c.testBit j && !((j : Int) == (y : Int))) = (c - 2 ^ y).testBit := by
  funext j
  have e2 : ((j : Int) == (y : Int)) = (j == y) := by rw [Bool.eq_iff_iff]; simp; omega
  rw [e2]
  by_cases hj : j < 8
  · exact (drop_bits_all c hc y hy8 hy j hj).symm
  · have h1 : ∀ m, m < 256 → m.testBit j = false := fun m hm => Nat.testBit_lt_two_pow (Nat.lt_of_lt_of_le hm (by
      have := Nat.pow_le_pow_right (n := 2) (by decide) (show 8 ≤ j by omega)
      omega))
    rw [h1 c hc, h1 (c - 2 ^ y) (Nat.lt_of_le_of_lt (Nat.sub_le _ _) hc)]; rfl

/-- the reference's game, on a connected set -/
theorem caught_eq {F : Nat} {g : Gr} (hg : good g = true) (hF : 300 ≤ F) (hG : g.2.length < F) (hs : Sm g.2.length) : ∀ (k d : Nat) (m : Nat), m < 2 ^ g.1.toNat → m ≠ 0 → (prt g g.1.toNat m.testBit).length = 1 → k < d → k ≤ 8 →
    s_l7Caught_r F d g (listN m.testBit g.1.toNat) (k : Int) = some (decide (td g m ≤ (k : Int))) := by
  have h8 := good_size hg
  have h256 := pow_256 (n := g.1.toNat) (by omega)
  intro k
  induction k with
  | zero =>
    intro d m hm h0 hl hd _
    obtain ⟨d, rfl⟩ : ∃ d', d = d' + 1 := ⟨d - 1, by omega⟩
    rw [s_l7Caught_r, s_l7Caught_b]
    have : ¬ td g m ≤ ((0 : Nat) : Int) := by
      rw [td_conn hg hm h0 hl]
      rintro ⟨y, y1, y2, h⟩
      have h3 := (drop_all m (by omega) y (by omega) y2).2.2
      have hp := Nat.two_pow_pos y
      have := (td_ok hg (m := m - 2 ^ y) (by omega)).1
      omega
    rw [decide_eq_false this]; rfl
  | succ k ih =>
    intro d m hm h0 hl hd hk8
    obtain ⟨d, rfl⟩ : ∃ d', d = d' + 1 := ⟨d - 1, by omega⟩
    rw [s_l7Caught_r, s_l7Caught_b]
    have hne : (((k + 1 : Nat) : Int) == 0) = false := by simp; omega
    rw [hne, cond_false]
    have hl8 : (listN m.testBit g.1.toNat).length ≤ 8 := by rw [listN_len]; exact Nat.le_trans cnt_le (by omega)
    have hw : w64 (((k + 1 : Nat) : Int) - 1) = (k : Int) := by rw [w64_id (by omega) (by omega)]; omega
    -- one node
    let good1 : Nat → Bool := fun i => decide (td g (m - 2 ^ ((listN m.testBit g.1.toNat).getD i 0).toNat) ≤ (k : Int))
    rw [loop_all (L := fun k2 i => s_l7Caught_l2 F (s_l7Caught_r F d) (listN m.testBit g.1.toNat) ((k + 1 : Nat) : Int) g k2 i) (n := (listN m.testBit g.1.toNat).length) (p := fun i => !good1 i) (bad := some true) (fin := some false) ?_ ?_ F (by omega)]
    · have hx : allN (fun i => !good1 i) (listN m.testBit g.1.toNat).length = !decide (td g m ≤ ((k + 1 : Nat) : Int)) := by
        rw [Bool.eq_iff_iff, allN_iff]
        simp only [Bool.not_eq_true', decide_eq_false_iff_not]
        rw [td_conn hg hm h0 hl]
        constructor
        · rintro h ⟨y, y1, y2, hy⟩
          have hmem : (y : Int) ∈ listN m.testBit g.1.toNat := listN_mem.2 ⟨y, rfl, y1, y2⟩
          obtain ⟨t, ht, e⟩ := List.mem_iff_getElem.1 hmem
          have := h t ht
          simp only [good1, decide_eq_false_iff_not] at this
          rw [List.getD_eq_getElem?_getD, List.getElem?_eq_getElem ht, Option.getD_some, e, Int.toNat_natCast] at this
          omega
        · intro h i hi
          simp only [good1, decide_eq_false_iff_not]
          obtain ⟨y, hy, y1, y2⟩ := listN_get hi
          rw [hy, Int.toNat_natCast]
          intro hle
          exact h ⟨y, y1, y2, by omega⟩
      rw [hx]
      cases decide (td g m ≤ ((k + 1 : Nat) : Int)) <;> rfl
    · intro k2 i hi
      obtain ⟨y, hy, y1, y2⟩ := listN_get hi
      have h3 := (drop_all m (by omega) y (by omega) y2).2.2
      have hp := Nat.two_pow_pos y
      have hm' : m - 2 ^ y < 2 ^ g.1.toNat := by omega
      simp only [s_l7Caught_l2]
      rw [decide_eq_true (show (i : Int) < ((listN m.testBit g.1.toNat).length : Int) by omega), cond_true, idx_getD (d := 0) hi, Option.bind_some, hy, without_eq (by omega) (by omega), Option.bind_some, drop_bits (by omega) (by omega) y2, sParts_eq hg (by omega) hG hs, Option.bind_some]
      have hg1 : good1 i = decide (td g (m - 2 ^ y) ≤ (k : Int)) := by
        simp only [good1]; rw [hy, Int.toNat_natCast]
      rw [hg1]
      -- its parts
      have hPl : (prt g g.1.toNat (m - 2 ^ y).testBit).length ≤ 8 := by
        have : ∀ d p, (prt g d p).length ≤ d := by
          intro d
          induction d with
          | zero => intro p; simp [prt]
          | succ d ih =>
            intro p; rw [prt]
            cases fstN p g.1.toNat with
            | none => simp
            | some x => simp; exact ih _
        have := this g.1.toNat (m - 2 ^ y).testBit
        omega
      have htd := td_parts hg hm' (k := (k : Int)) (by omega)
      have hpart : ∀ m2 ∈ prt g g.1.toNat (m - 2 ^ y).testBit, s_l7Caught_r F d g (listN m2.testBit g.1.toNat) (k : Int) = some (decide (td g m2 ≤ (k : Int))) := by
        intro m2 hm2
        obtain ⟨a, _⟩ := prt_sub hg _ _ _ hm2
        have hc := prt_conn hg _ _ _ hm2
        have hm20 : m2 ≠ 0 := by
          intro e; subst e
          rw [prt_nil (fun j _ => Nat.zero_testBit j)] at hc; simp at hc
        exact ih d m2 a hm20 (by rw [hc]; rfl) (by omega) (by omega)
      generalize hP : prt g g.1.toNat (m - 2 ^ y).testBit = P at hPl htd hpart
      have hget : ∀ t, t < P.length → idx (P.map fun (m : Nat) => listN m.testBit g.1.toNat) (t : Int) = some (listN (P.getD t 0).testBit g.1.toNat) := by
        intro t ht
        rw [idx_getD (d := []) (by simp; exact ht), List.getD_eq_getElem?_getD, List.getElem?_map, List.getElem?_eq_getElem ht, List.getD_eq_getElem?_getD, List.getElem?_eq_getElem ht]; rfl
      have hlenP : (P.map fun (m : Nat) => listN m.testBit g.1.toNat).length = P.length := by simp
      refine (loop_inv (L := fun k3 t s => s_l7Caught_l1 F (s_l7Caught_r F d) (listN m.testBit g.1.toNat) ((k + 1 : Nat) : Int) g (i : Int) (P.map fun (m : Nat) => listN m.testBit g.1.toNat) (s_l7Caught_l2 F (s_l7Caught_r F d) (listN m.testBit g.1.toNat) ((k + 1 : Nat) : Int) g k2) k3 s t) (n := P.length)
        (r := bif decide (td g (m - 2 ^ y) ≤ (k : Int)) then some true else s_l7Caught_l2 F (s_l7Caught_r F d) (listN m.testBit g.1.toNat) ((k + 1 : Nat) : Int) g k2 ((i + 1 : Nat) : Int))
        (fun t s => s = allN (fun t => decide (td g (P.getD t 0) ≤ (k : Int))) t) ?_ ?_ F true (by omega) rfl).trans ?_
      · intro k3 t s ht hI
        subst hI
        refine ⟨_, rfl, ?_⟩
        simp only [s_l7Caught_l1, s_l7Caught_j1]
        rw [hlenP, decide_eq_true (show (t : Int) < (P.length : Int) by omega), cond_true, w64_succ ht (by unfold Sm; omega)]
        have hs1 : allN (fun t => decide (td g (P.getD t 0) ≤ (k : Int))) (t + 1) = (allN (fun t => decide (td g (P.getD t 0) ≤ (k : Int))) t && decide (td g (P.getD t 0) ≤ (k : Int))) := rfl
        rw [hs1]
        cases allN (fun t => decide (td g (P.getD t 0) ≤ (k : Int))) t with
        | false => rw [cond_false, Bool.false_and]
        | true => rw [cond_true, hget t ht, Option.bind_some, hw, hpart _ (getD_mem ht), Option.bind_some, Bool.true_and]
      · intro k3 s hI
        subst hI
        simp only [s_l7Caught_l1]
        rw [hlenP, decide_eq_false (show ¬ (P.length : Int) < (P.length : Int) by omega), cond_false, w64_succ hi (by unfold Sm; omega)]
        have hx : allN (fun t => decide (td g (P.getD t 0) ≤ (k : Int))) P.length = decide (td g (m - 2 ^ y) ≤ (k : Int)) := by
          rw [Bool.eq_iff_iff, allN_iff, decide_eq_true_eq, ← htd]
          constructor
          · intro h m2 hm2
            obtain ⟨t, ht, rfl⟩ := List.mem_iff_getElem.1 hm2
            have := h t ht
            rw [List.getD_eq_getElem?_getD, List.getElem?_eq_getElem ht] at this
            simpa using this
          · intro h t ht
            exact decide_eq_true (h _ (getD_mem ht))
        rw [hx]
      · cases decide (td g (m - 2 ^ y) ≤ (k : Int)) <;> rfl
    · intro k2
      simp only [s_l7Caught_l2]
      rw [decide_eq_false (show ¬ ((listN m.testBit g.1.toNat).length : Int) < ((listN m.testBit g.1.toNat).length : Int) by omega), cond_false]

theorem sStay_eq {F : Nat} {g : Gr} {k : Int} (hG : g.2.length < F) (hF : 300 ≤ F) (hs : Sm g.2.length) : s_StayersWin F g k = some (bif good g && (decide (0 ≤ k) && decide (k ≤ 8)) then (decide (td g (2 ^ g.1.toNat - 1) ≤ k), true) else (false, false)) := by
  unfold s_StayersWin
  rw [l2Good_eq hG hs, Option.bind_some]
  cases hg : good g with
  | false => rfl
  | true =>
    have h8 := good_size hg
    have hpow := Nat.two_pow_pos g.1.toNat
    rw [Bool.not_true, cond_false, l1In_eq, Option.bind_some, Bool.true_and]
    by_cases hk : 0 ≤ k ∧ k ≤ 8
    · rw [decide_eq_true hk.1, decide_eq_true hk.2]
      obtain ⟨k, rfl⟩ : ∃ k' : Nat, k = k' := ⟨k.toNat, by omega⟩
      unfold s_StayersWin_j1
      simp only [Bool.and_self, Bool.not_true, cond_false, cond_true]
      have hall : listN (fun j => decide (j < g.1.toNat)) g.1.toNat = listN (2 ^ g.1.toNat - 1).testBit g.1.toNat := by
        apply listN_congr; intro j _; rw [Nat.testBit_two_pow_sub_one]
      rw [all_eq hg (by omega), Option.bind_some, hall, sParts_eq hg (by omega) hG hs, Option.bind_some]
      have htd := td_parts hg (c := 2 ^ g.1.toNat - 1) (by omega) (k := (k : Int)) (by omega)
      have hPl : (prt g g.1.toNat (2 ^ g.1.toNat - 1).testBit).length ≤ 8 := by
        have : ∀ d p, (prt g d p).length ≤ d := by
          intro d
          induction d with
          | zero => intro p; simp [prt]
          | succ d ih =>
            intro p; rw [prt]
            cases fstN p g.1.toNat with
            | none => simp
            | some x => simp; exact ih _
        have := this g.1.toNat (2 ^ g.1.toNat - 1).testBit
        omega
      have hpart : ∀ m2 ∈ prt g g.1.toNat (2 ^ g.1.toNat - 1).testBit, s_l7Caught F g (listN m2.testBit g.1.toNat) (k : Int) = some (decide (td g m2 ≤ (k : Int))) := by
        intro m2 hm2
        obtain ⟨a, _⟩ := prt_sub hg _ _ _ hm2
        have hc := prt_conn hg _ _ _ hm2
        have hm20 : m2 ≠ 0 := by
          intro e; subst e
          rw [prt_nil (fun j _ => Nat.zero_testBit j)] at hc; simp at hc
        exact caught_eq hg hF hG hs k F m2 a hm20 (by rw [hc]; rfl) (by omega) (by omega)
      generalize hP : prt g g.1.toNat (2 ^ g.1.toNat - 1).testBit = P at hPl htd hpart
      have hget : ∀ t, t < P.length → idx (P.map fun (m : Nat) => listN m.testBit g.1.toNat) (t : Int) = some (listN (P.getD t 0).testBit g.1.toNat) := by
        intro t ht
        rw [idx_getD (d := []) (by simp; exact ht), List.getD_eq_getElem?_getD, List.getElem?_map, List.getElem?_eq_getElem ht, List.getD_eq_getElem?_getD, List.getElem?_eq_getElem ht]; rfl
      have hlenP : (P.map fun (m : Nat) => listN m.testBit g.1.toNat).length = P.length := by simp
      rw [loop_all (L := fun k2 i => s_StayersWin_l1 F (k : Int) g (P.map fun (m : Nat) => listN m.testBit g.1.toNat) k2 i) (n := P.length) (p := fun t => decide (td g (P.getD t 0) ≤ (k : Int))) (bad := some (false, true)) (fin := some (true, true)) ?_ ?_ F (by omega)]
      · have hx : allN (fun t => decide (td g (P.getD t 0) ≤ (k : Int))) P.length = decide (td g (2 ^ g.1.toNat - 1) ≤ (k : Int)) := by
          rw [Bool.eq_iff_iff, allN_iff, decide_eq_true_eq, ← htd]
          constructor
          · intro h m2 hm2
            obtain ⟨t, ht, rfl⟩ := List.mem_iff_getElem.1 hm2
            have := h t ht
            rw [List.getD_eq_getElem?_getD, List.getElem?_eq_getElem ht] at this
            simpa using this
          · intro h t ht
            exact decide_eq_true (h _ (getD_mem ht))
        rw [hx]
        cases decide (td g (2 ^ g.1.toNat - 1) ≤ (k : Int)) <;> rfl
      · intro k2 t ht
        simp only [s_StayersWin_l1]
        rw [hlenP, decide_eq_true (show (t : Int) < (P.length : Int) by omega), cond_true, hget t ht, Option.bind_some, hpart _ (getD_mem ht), Option.bind_some, w64_succ ht (by unfold Sm; omega)]
        cases decide (td g (P.getD t 0) ≤ (k : Int)) <;> rfl
      · intro k2
        simp only [s_StayersWin_l1]
        rw [hlenP, decide_eq_false (show ¬ (P.length : Int) < (P.length : Int) by omega), cond_false]
    · have : (decide (0 ≤ k) && decide (k ≤ 8)) = false := by
        rw [Bool.eq_false_iff]; intro h; apply hk; simpa using h
      rw [this]; rfl

theorem iStay_eq {F : Nat} {g : Gr} {k : Int} (hG : g.2.length < F) (hF : 300 ≤ F) (hs : Sm g.2.length) : i_StayersWin F g k = some (bif good g && (decide (0 ≤ k) && decide (k ≤ 8)) then (decide (td g (2 ^ g.1.toNat - 1) ≤ k), true) else (false, false)) := by
  unfold i_StayersWin
  rw [isGraph_eq hG (by omega) hs, Option.bind_some]
  cases hg : good g with
  | false => rfl
  | true =>
    have h8 := good_size hg
    have h256 := pow_256 (n := g.1.toNat) (by omega)
    have hpow := Nat.two_pow_pos g.1.toNat
    rw [Bool.not_true, cond_false, within_eq, Option.bind_some, Bool.true_and]
    cases (decide (0 ≤ k) && decide (k ≤ 8)) with
    | false => rfl
    | true =>
      unfold i_StayersWin_j1
      simp only [Bool.not_true, cond_false, cond_true]
      obtain ⟨ds, h1, h2⟩ := iDepths_eq hg hF
      rw [netOf_eq hg hG hs, Option.bind_some, h1, Option.bind_some]
      unfold i_net_all
      rw [nearL_len, one_shl (by omega), Option.bind_some, Option.bind_some]
      have hw : w64 (((2 ^ g.1.toNat : Nat) : Int) - 1) = ((2 ^ g.1.toNat - 1 : Nat) : Int) := by rw [w64_id (by omega) (by omega)]; omega
      rw [hw, idx_getD (d := 0) (by rw [h2.1]; omega), Option.bind_some, h2.2.1 _ (Nat.le_refl _)]
      rfl

end Go.Zq
/- The law StayersWin, as a plain statement. -/
namespace Go.Zq

theorem lawStayersWin {F : Nat} {g : Gr} {k : Int} (hF : 2097152 ≤ F) (hg : g.2.length ≤ 9223372036854775807) : w_FnExactStayersWin F g k = some true := by
  unfold w_FnExactStayersWin
  rw [szGraph_eq (by omega) (by omega) hg, Option.bind_some]
  by_cases h2 : (1048576 : Int) - g.2.length < 0
  · simp [h2]
  simp only [h2, if_false, decide_false, cond_false]
  rw [toGraph_eq (by omega) (by omega) (by omega)]
  simp only [Option.bind_some]
  rw [sStay_eq (by omega) (by omega) (by unfold Sm; omega), iStay_eq (by omega) (by omega) (by unfold Sm; omega)]
  simp only [Option.bind_some, bne_self_eq_false, cond_false, w_FnExactStayersWin_j1]
  rw [toGraph_eq (by omega) (by omega) (by omega)]
  simp only [Option.bind_some]
  rw [eqGraph_eq (by omega) (by unfold Sm; omega) (by omega)]
  rfl

end Go.Zq
