/- Plain mathematics: what the functions answer (part 2). Conditions: stated in each theorem. -/
import Derived.Test.YtdhbhaaiohkpdaaM1
set_option linter.unusedVariables false
set_option linter.unusedSimpArgs false
/- Plain mathematics: fronts. -/
namespace Go.Zq

theorem mkm_self {n m : Nat} (h : m < 2 ^ n) : mkm m.testBit n = m := by
  symm
  refine mkm_of fun j => ?_
  by_cases hj : j < n
  · rw [decide_eq_true hj, Bool.true_and]
  · rw [decide_eq_false hj, Bool.false_and]
    exact Nat.testBit_lt_two_pow (Nat.lt_of_lt_of_le h (Nat.pow_le_pow_right (by decide) (by omega)))

end Go.Zq
/- Plain mathematics: path decompositions. -/
namespace Go.Zq

theorem anyN_not {p : Nat → Bool} {n : Nat} : anyN (fun i => !p i) n = !allN p n := by
  rw [anyN_eq]; simp

structure Bg (F : Nat) (bags : List (List Int)) : Prop where
  len : bags.length ≤ 1048576
  each : ∀ x ∈ bags, x.length ≤ 1048576
  fuel : 1048577 ≤ F

theorem Bg.at {F : Nat} {bags : List (List Int)} (h : Bg F bags) {i : Nat} (hi : i < bags.length) : (bags.getD i []).length ≤ 1048576 := h.each _ (getD_mem hi)

theorem Bg.of {F : Nat} {bags : List (List Int)} (h : bags.length + sumL bags bags.length ≤ 1048576) (hF : 1048577 ≤ F) : Bg F bags := by
  refine ⟨by omega, fun x hx => ?_, hF⟩
  obtain ⟨i, hi, e⟩ := List.mem_iff_getElem.1 hx
  have := sumL_le hi
  rw [List.getD_eq_getElem?_getD, List.getElem?_eq_getElem hi, Option.getD_some, e] at this
  omega
theorem Bg.to {F : Nat} {bags : List (List Int)} (h : Bg F bags) : w_toIntSS F bags = some bags := by
  have h1 := h.len
  have h2 := h.fuel
  exact toIntSS_eq (by omega) (by omega) fun x hx => by have := h.each x hx; omega
theorem Bg.eq {F : Nat} {bags : List (List Int)} (h : Bg F bags) : w_eqIntSS F bags bags = some true := by
  have h1 := h.len
  have h2 := h.fuel
  exact eqIntSS_eq (by omega) (by unfold Sm; omega) fun x hx => by have := h.each x hx; exact ⟨by omega, by unfold Sm; omega⟩

end Go.Zq
/- Plain mathematics: sets of nodes as lists and as numbers; brambles. -/
namespace Go.Zq

/-- the nodes of a list -/
def bq (l : List Int) (j : Nat) : Bool := decide ((j : Int) ∈ l)

theorem setB_range {n : Int} {l : List Int} (h : setB n l = true) : ∀ x ∈ l, 0 ≤ x ∧ x < n := by
  intro x hx
  obtain ⟨i, hi, e⟩ := List.mem_iff_getElem.1 hx
  have := allN_iff.1 h i hi
  rw [List.getD_eq_getElem?_getD, List.getElem?_eq_getElem hi, Option.getD_some, e] at this
  simp only [Bool.and_eq_true, decide_eq_true_eq] at this
  exact this.1

theorem setB_srt {n : Int} {l : List Int} (h : setB n l = true) : Srt l := by
  have step : ∀ i, i + 1 < l.length → l.getD i 0 < l.getD (i + 1) 0 := by
    intro i hi
    have := allN_iff.1 h (i + 1) hi
    simp only [Bool.and_eq_true, Bool.or_eq_true, decide_eq_true_eq, Nat.add_sub_cancel] at this
    rcases this.2 with h | h
    · simp at h
    · exact h
  have all : ∀ d i, i + d + 1 < l.length → l.getD i 0 < l.getD (i + d + 1) 0 := by
    intro d
    induction d with
    | zero => intro i hi; exact step i hi
    | succ d ih =>
      intro i hi
      have h1 := ih i (by omega)
      have h2 := step (i + d + 1) (by omega)
      have : i + (d + 1) + 1 = i + d + 1 + 1 := by omega
      rw [this]; omega
  unfold Srt
  rw [List.pairwise_iff_getElem]
  intro i j hi hj hij
  have := all (j - i - 1) i (by omega)
  have e : i + (j - i - 1) + 1 = j := by omega
  rw [e, List.getD_eq_getElem?_getD, List.getD_eq_getElem?_getD, List.getElem?_eq_getElem hi, List.getElem?_eq_getElem hj] at this
  exact this

theorem setB_listN {g : Gr} {l : List Int} (h : setB g.1 l = true) : l = listN (bq l) g.1.toNat := by
  refine srt_listN (setB_srt h) fun y => ?_
  constructor
  · intro hy
    have := setB_range h y hy
    refine ⟨y.toNat, by omega, by omega, ?_⟩
    unfold bq
    rw [decide_eq_true_eq, Int.toNat_of_nonneg this.1]; exact hy
  · rintro ⟨j, rfl, _, h⟩
    exact of_decide_eq_true h

theorem bq_lt {g : Gr} {l : List Int} (h : setB g.1 l = true) {j : Nat} (hj : bq l j = true) : j < g.1.toNat := by
  have := setB_range h _ (of_decide_eq_true hj)
  omega

theorem maskSet {F : Nat} {g : Gr} {l : List Int} (hg : good g = true) (h : setB g.1 l = true) (hF : l.length < F) (hl : Sm l.length) : i_maskOf F l = some ((mkm (bq l) g.1.toNat : Nat) : Int) := by
  have h8 := good_size hg
  obtain ⟨m, h1, h2⟩ := maskOf_eq hF hl (fun x hx => by have := setB_range h x hx; omega)
  rw [h1]
  congr 2
  refine mkm_of fun j => ?_
  rw [h2.2]
  show bq l j = _
  cases hb : bq l j with
  | false => rw [Bool.and_false]
  | true => rw [decide_eq_true (bq_lt h hb)]; rfl

/-- two sets touch -/
def tou (g : Gr) (p q : Nat → Bool) : Bool := anyN (fun a => p a && anyN (fun b => q b && (a == b || adj g a b)) g.1.toNat) g.1.toNat

theorem touch_eq {F : Nat} {g : Gr} {p q : Nat → Bool} (hg : good g = true) (hF : 20 ≤ F) (hG : g.2.length < F) (hs : Sm g.2.length) : s_l5Touch F g (listN p g.1.toNat) (listN q g.1.toNat) = some (tou g p q) := by
  have h8 := good_size hg
  have hp8 : (listN p g.1.toNat).length ≤ 8 := by rw [listN_len]; exact Nat.le_trans cnt_le (by omega)
  have hq8 : (listN q g.1.toNat).length ≤ 8 := by rw [listN_len]; exact Nat.le_trans cnt_le (by omega)
  unfold s_l5Touch tou
  rw [loop_all (L := fun k i => s_l5Touch_l2 F (listN p g.1.toNat) (listN q g.1.toNat) g k i) (n := (listN p g.1.toNat).length) (p := fun i => !anyN (fun b => q b && (((listN p g.1.toNat).getD i 0).toNat == b || adj g ((listN p g.1.toNat).getD i 0).toNat b)) g.1.toNat) (bad := some true) (fin := some false) ?_ ?_ F (by omega)]
  · rw [anyN_eq (p := fun a => p a && anyN (fun b => q b && (a == b || adj g a b)) g.1.toNat)]
    have : allN (fun i => !anyN (fun b => q b && (((listN p g.1.toNat).getD i 0).toNat == b || adj g ((listN p g.1.toNat).getD i 0).toNat b)) g.1.toNat) (listN p g.1.toNat).length = allN (fun a => !(p a && anyN (fun b => q b && (a == b || adj g a b)) g.1.toNat)) g.1.toNat := by
      rw [Bool.eq_iff_iff, allN_iff, allN_iff]
      constructor
      · intro h a ha
        cases hp : p a with
        | false => rfl
        | true =>
          have hm : (a : Int) ∈ listN p g.1.toNat := listN_mem.2 ⟨a, rfl, ha, hp⟩
          obtain ⟨t, ht, e⟩ := List.mem_iff_getElem.1 hm
          have := h t ht
          rw [List.getD_eq_getElem?_getD, List.getElem?_eq_getElem ht, Option.getD_some, e, Int.toNat_natCast] at this
          rw [Bool.true_and]; exact this
      · intro h i hi
        obtain ⟨a, ha, han, hap⟩ := listN_mem.1 (getD_mem (d := 0) hi)
        have := h a han
        rw [hap, Bool.true_and] at this
        rw [ha, Int.toNat_natCast]; exact this
    rw [this]
    cases allN (fun a => !(p a && anyN (fun b => q b && (a == b || adj g a b)) g.1.toNat)) g.1.toNat <;> rfl
  · intro k i hi
    obtain ⟨a, ha, han, hap⟩ := listN_mem.1 (getD_mem (d := 0) hi)
    simp only [s_l5Touch_l2]
    rw [decide_eq_true (show (i : Int) < ((listN p g.1.toNat).length : Int) by omega), cond_true, ha, Int.toNat_natCast]
    rw [loop_all (L := fun k2 j => s_l5Touch_l1 F (listN p g.1.toNat) (listN q g.1.toNat) g (i : Int) (s_l5Touch_l2 F (listN p g.1.toNat) (listN q g.1.toNat) g k) k2 j) (n := (listN q g.1.toNat).length) (p := fun j => !(a == ((listN q g.1.toNat).getD j 0).toNat || adj g a ((listN q g.1.toNat).getD j 0).toNat)) (bad := some true) (fin := s_l5Touch_l2 F (listN p g.1.toNat) (listN q g.1.toNat) g k ((i + 1 : Nat) : Int)) ?_ ?_ F (by omega)]
    · rw [anyN_eq]
      have : allN (fun j => !(a == ((listN q g.1.toNat).getD j 0).toNat || adj g a ((listN q g.1.toNat).getD j 0).toNat)) (listN q g.1.toNat).length = allN (fun b => !(q b && (a == b || adj g a b))) g.1.toNat := by
        rw [Bool.eq_iff_iff, allN_iff, allN_iff]
        constructor
        · intro h b hb
          cases hq : q b with
          | false => rfl
          | true =>
            have hm : (b : Int) ∈ listN q g.1.toNat := listN_mem.2 ⟨b, rfl, hb, hq⟩
            obtain ⟨t, ht, e⟩ := List.mem_iff_getElem.1 hm
            have := h t ht
            rw [List.getD_eq_getElem?_getD, List.getElem?_eq_getElem ht, Option.getD_some, e, Int.toNat_natCast] at this
            rw [Bool.true_and]; exact this
        · intro h j hj
          obtain ⟨b, hb, hbn, hbq⟩ := listN_mem.1 (getD_mem (d := 0) hj)
          have := h b hbn
          rw [hbq, Bool.true_and] at this
          rw [hb, Int.toNat_natCast]; exact this
      rw [this, Bool.not_not]
    · intro k2 j hj
      obtain ⟨b, hb, hbn, hbq⟩ := listN_mem.1 (getD_mem (d := 0) hj)
      simp only [s_l5Touch_l1, s_l5Touch_j1]
      rw [decide_eq_true (show (j : Int) < ((listN q g.1.toNat).length : Int) by omega), cond_true, idx_getD (d := 0) hi, Option.bind_some, idx_getD (d := 0) hj, Option.bind_some, Option.bind_some, Option.bind_some, ha, hb, near_eq hG hs, Option.bind_some, Int.toNat_natCast, w64_succ hj (by unfold Sm; omega)]
      by_cases e : a = b
      · subst e; simp
      · have e1 : ((a : Int) == (b : Int)) = false := by
          rw [beq_eq_false_iff_ne]; omega
        have e2 : (a == b) = false := by simpa using e
        rw [e1, e2]
        cases adj g a b <;> rfl
    · intro k2
      simp only [s_l5Touch_l1]
      rw [decide_eq_false (show ¬ ((listN q g.1.toNat).length : Int) < ((listN q g.1.toNat).length : Int) by omega), cond_false, w64_succ hi (by unfold Sm; omega)]
  · intro k
    simp only [s_l5Touch_l2]
    rw [decide_eq_false (show ¬ ((listN p g.1.toNat).length : Int) < ((listN p g.1.toNat).length : Int) by omega), cond_false]

theorem tou_comm {g : Gr} {p q : Nat → Bool} : tou g p q = tou g q p := by
  have key : ∀ p q, tou g p q = true → tou g q p = true := by
    intro p q h
    obtain ⟨a, ha, h1⟩ := anyN_iff.1 h
    simp only [Bool.and_eq_true] at h1
    obtain ⟨b, hb, h2⟩ := anyN_iff.1 h1.2
    simp only [Bool.and_eq_true, Bool.or_eq_true, beq_iff_eq] at h2
    refine anyN_iff.2 ⟨b, hb, ?_⟩
    rw [Bool.and_eq_true]
    refine ⟨h2.1, anyN_iff.2 ⟨a, ha, ?_⟩⟩
    simp only [Bool.and_eq_true, Bool.or_eq_true, beq_iff_eq]
    exact ⟨h1.1, h2.2.imp Eq.symm fun h => by rw [adj_comm]; exact h⟩
  rw [Bool.eq_iff_iff]
  exact ⟨key p q, key q p⟩

theorem netTouch_eq {F : Nat} {g : Gr} {p q : Nat → Bool} (hg : good g = true) (hF : 9 ≤ F) : i_net_touch F ⟨nearL g⟩ ((mkm p g.1.toNat : Nat) : Int) ((mkm q g.1.toNat : Nat) : Int) = some (tou g p q) := by
  have h8 := good_size hg
  unfold i_net_touch
  rw [around_eq hg hF, Option.bind_some, iand_nat (mkm_lt63 (by omega)) (mkm_lt63 (by omega))]
  congr 1
  have : (mkm (arnd g p) g.1.toNat &&& mkm q g.1.toNat) = 0 ↔ tou g p q = false := by
    rw [Bool.eq_false_iff]
    constructor
    · intro h0 h
      obtain ⟨a, ha, h1⟩ := anyN_iff.1 h
      simp only [Bool.and_eq_true] at h1
      obtain ⟨b, hb, h2⟩ := anyN_iff.1 h1.2
      simp only [Bool.and_eq_true, Bool.or_eq_true, beq_iff_eq] at h2
      have h3 : (mkm (arnd g p) g.1.toNat &&& mkm q g.1.toNat).testBit b = false := by rw [h0, Nat.zero_testBit]
      rw [Nat.testBit_and, mkm_bit, mkm_bit, decide_eq_true hb, Bool.true_and, Bool.true_and, h2.1, Bool.and_true] at h3
      unfold arnd at h3
      rw [Bool.or_eq_false_iff] at h3
      rcases h2.2 with e | e
      · subst e; rw [h1.1] at h3; cases h3.1
      · have : anyN (fun x => p x && adj g x b) g.1.toNat = true := anyN_iff.2 ⟨a, ha, by rw [h1.1, e]; rfl⟩
        rw [this] at h3; cases h3.2
    · intro h
      apply Nat.eq_of_testBit_eq
      intro b
      rw [Nat.testBit_and, mkm_bit, mkm_bit, Nat.zero_testBit]
      by_cases hb : b < g.1.toNat
      · rw [decide_eq_true hb, Bool.true_and, Bool.true_and, Bool.eq_false_iff]
        intro h1
        rw [Bool.and_eq_true] at h1
        unfold arnd at h1
        rw [Bool.or_eq_true] at h1
        apply h
        rcases h1.1 with e | e
        · exact anyN_iff.2 ⟨b, hb, by rw [e, Bool.true_and]; exact anyN_iff.2 ⟨b, hb, by rw [h1.2]; simp⟩⟩
        · obtain ⟨a, ha, e⟩ := anyN_iff.1 e
          rw [Bool.and_eq_true] at e
          exact anyN_iff.2 ⟨a, ha, by rw [e.1, Bool.true_and]; exact anyN_iff.2 ⟨b, hb, by rw [h1.2, e.2]; simp⟩⟩
      · rw [decide_eq_false hb]; rfl
  cases ht : tou g p q with
  | false => rw [this.2 ht]; rfl
  | true =>
    have : (mkm (arnd g p) g.1.toNat &&& mkm q g.1.toNat) ≠ 0 := fun e => by rw [this.1 e] at ht; cases ht
    simp [this]

/-- a set in its place among others, for a bramble -/
def brP (g : Gr) (b : List (List Int)) (i : Nat) : Bool :=
  setB g.1 (b.getD i []) && ((prt g g.1.toNat (bq (b.getD i []))).length == 1) && allN (fun k => tou g (bq (b.getD k [])) (bq (b.getD i []))) i
def brB (g : Gr) (b : List (List Int)) : Bool := decide (0 < b.length) && allN (brP g b) b.length

theorem one_len {n : Nat} : ((n : Int) != 1) = !(n == 1) := by
  by_cases h : n = 1
  · subst h; rfl
  · have h1 : (n == 1) = false := by simpa using h
    rw [h1]
    have : (n : Int) ≠ 1 := by omega
    simpa using this

theorem sBr_eq {F : Nat} {g : Gr} {b : List (List Int)} (hg : good g = true) (hb : Bg F b) (hG : g.2.length < F) (hs : Sm g.2.length) : s_l5Bramble F g b = some (brB g b) := by
  have hf := hb.fuel
  have hl := hb.len
  have h8 := good_size hg
  unfold s_l5Bramble brB
  rw [loop_st (L := fun k i (_ : Unit) => s_l5Bramble_l2 F b g k i) (n := b.length) (fun i _ => ∀ k, k < i → setB g.1 (b.getD k []) = true) (p := brP g b) (r := some (decide (0 < b.length))) (bad := some false) ?_ ?_ ?_ F () (by omega) (by intro k hk; omega)]
  · cases allN (brP g b) b.length <;> simp
  · intro k i s hi hI hp
    unfold brP at hp
    simp only [Bool.and_eq_true] at hp
    obtain ⟨⟨p1, p2⟩, p3⟩ := hp
    have hbi := hb.at hi
    have hpl := setB_listN p1
    refine ⟨(), ?_, ?_⟩
    · intro k hk
      by_cases e : k = i
      · subst e; exact p1
      · exact hI k (by omega)
    · simp only [s_l5Bramble_l2, s_l5Bramble_j1]
      rw [decide_eq_true (show (i : Int) < (b.length : Int) by omega), cond_true, idx_getD (d := []) hi, Option.bind_some, Option.bind_some, l2Set_eq hg (by omega) (by unfold Sm; omega), Option.bind_some, p1, Bool.not_true, cond_false]
      have hsp := sParts_eq (F := F) (p := bq (b.getD i [])) hg (by omega) hG hs
      rw [← hpl] at hsp
      rw [hsp, Option.bind_some, List.length_map, one_len, p2, Bool.not_true, cond_false]
      rw [loop_all (L := fun k2 t => s_l5Bramble_l1 F b g (i : Int) (s_l5Bramble_l2 F b g k) k2 t) (n := i) (p := fun t => tou g (bq (b.getD t [])) (bq (b.getD i []))) (bad := some false) (fin := s_l5Bramble_l2 F b g k ((i + 1 : Nat) : Int)) ?_ ?_ F (by omega)]
      · rw [p3]; rfl
      · intro k2 t ht
        have hpt := setB_listN (hI t ht)
        simp only [s_l5Bramble_l1]
        rw [decide_eq_true (show (t : Int) < (i : Int) by omega), cond_true, idx_getD (d := []) (show t < b.length by omega), Option.bind_some, idx_getD (d := []) hi, Option.bind_some]
        have := touch_eq (F := F) (p := bq (b.getD t [])) (q := bq (b.getD i [])) hg (by omega) hG hs
        rw [← hpt, ← hpl] at this
        rw [this, Option.bind_some, w64_succ ht (by unfold Sm; omega)]
        cases tou g (bq (b.getD t [])) (bq (b.getD i [])) <;> rfl
      · intro k2
        simp only [s_l5Bramble_l1]
        rw [decide_eq_false (show ¬ (i : Int) < (i : Int) by omega), cond_false, w64_succ hi (by unfold Sm; omega)]
  · intro k i s hi hI hp
    have hbi := hb.at hi
    simp only [s_l5Bramble_l2, s_l5Bramble_j1]
    rw [decide_eq_true (show (i : Int) < (b.length : Int) by omega), cond_true, idx_getD (d := []) hi, Option.bind_some, Option.bind_some, l2Set_eq hg (by omega) (by unfold Sm; omega), Option.bind_some]
    cases p1 : setB g.1 (b.getD i []) with
    | false => rfl
    | true =>
      have hpl := setB_listN p1
      have hsp := sParts_eq (F := F) (p := bq (b.getD i [])) hg (by omega) hG hs
      rw [← hpl] at hsp
      rw [Bool.not_true, cond_false, hsp, Option.bind_some, List.length_map, one_len]
      cases p2 : ((prt g g.1.toNat (bq (b.getD i []))).length == 1) with
      | false => rfl
      | true =>
        rw [Bool.not_true, cond_false]
        rw [loop_all (L := fun k2 t => s_l5Bramble_l1 F b g (i : Int) (s_l5Bramble_l2 F b g k) k2 t) (n := i) (p := fun t => tou g (bq (b.getD t [])) (bq (b.getD i []))) (bad := some false) (fin := s_l5Bramble_l2 F b g k ((i + 1 : Nat) : Int)) ?_ ?_ F (by omega)]
        · unfold brP at hp
          rw [p1, p2, Bool.true_and, Bool.true_and] at hp
          rw [hp]; rfl
        · intro k2 t ht
          have hpt := setB_listN (hI t ht)
          simp only [s_l5Bramble_l1]
          rw [decide_eq_true (show (t : Int) < (i : Int) by omega), cond_true, idx_getD (d := []) (show t < b.length by omega), Option.bind_some, idx_getD (d := []) hi, Option.bind_some]
          have := touch_eq (F := F) (p := bq (b.getD t [])) (q := bq (b.getD i [])) hg (by omega) hG hs
          rw [← hpt, ← hpl] at this
          rw [this, Option.bind_some, w64_succ ht (by unfold Sm; omega)]
          cases tou g (bq (b.getD t [])) (bq (b.getD i [])) <;> rfl
        · intro k2
          simp only [s_l5Bramble_l1]
          rw [decide_eq_false (show ¬ (i : Int) < (i : Int) by omega), cond_false, w64_succ hi (by unfold Sm; omega)]
  · intro k s hI
    simp only [s_l5Bramble_l2]
    rw [decide_eq_false (show ¬ (b.length : Int) < (b.length : Int) by omega), cond_false]
    congr 1
    rw [decide_eq_decide]; omega

theorem take_getD {α : Type} {xs : List α} {i t : Nat} {d : α} (h : t < i) : (xs.take i).getD t d = xs.getD t d := by
  rw [List.getD_eq_getElem?_getD, List.getD_eq_getElem?_getD, List.getElem?_take_of_lt h]

theorem iTouches_eq {F : Nat} {g : Gr} {b : List (List Int)} (hg : good g = true) (hb : Bg F b) {i : Nat} (hi : i < b.length) (hI : ∀ k, k < i → setB g.1 (b.getD k []) = true) (p1 : setB g.1 (b.getD i []) = true) :
    slices_ContainsFunc_int_int_of_i_isBramble_1 F (b.take i) ⟨(), (⟨⟨nearL g⟩⟩, ⟨b.getD i []⟩, ())⟩ = some (!allN (fun k => tou g (bq (b.getD k [])) (bq (b.getD i []))) i) := by
  have hf := hb.fuel
  have hl := hb.len
  have hbi := hb.at hi
  have hlen : (b.take i).length = i := by rw [List.length_take]; omega
  unfold slices_ContainsFunc_int_int_of_i_isBramble_1 slices_IndexFunc_int_int_of_i_isBramble_1
  obtain ⟨r, h1, h2, _⟩ := loop_first (L := fun k t => slices_IndexFunc_int_int_of_i_isBramble_1_l1 F (b.take i) ⟨(), (⟨⟨nearL g⟩⟩, ⟨b.getD i []⟩, ())⟩ k t) (n := i) (p := fun k => !tou g (bq (b.getD k [])) (bq (b.getD i []))) (by
    intro k t ht
    have hbt := hb.at (show t < b.length by omega)
    simp only [slices_IndexFunc_int_int_of_i_isBramble_1_l1, i_isBramble_1]
    rw [hlen, decide_eq_true (show (t : Int) < (i : Int) by omega), cond_true, idx_getD (d := []) (show t < (b.take i).length by omega), Option.bind_some, take_getD ht, maskSet hg p1 (by omega) (by unfold Sm; omega), Option.bind_some, maskSet hg (hI t ht) (by omega) (by unfold Sm; omega), Option.bind_some, netTouch_eq hg (by omega), Option.bind_some, Option.bind_some, tou_comm, w64_succ ht (by unfold Sm; omega)]) (by
    intro k
    simp only [slices_IndexFunc_int_int_of_i_isBramble_1_l1]
    rw [hlen, decide_eq_false (show ¬ (i : Int) < (i : Int) by omega), cond_false]) F (by omega)
  rw [h1, Option.bind_some, h2, anyN_not]

theorem iBr_eq {F : Nat} {g : Gr} {b : List (List Int)} (hg : good g = true) (hb : Bg F b) (hG : g.2.length < F) (hs : Sm g.2.length) : i_isBramble F g b = some (brB g b) := by
  have hf := hb.fuel
  have hl := hb.len
  have h8 := good_size hg
  unfold i_isBramble brB
  rw [netOf_eq hg hG hs, Option.bind_some]
  rw [loop_st (L := fun k i (_ : Unit) => i_isBramble_l1 F b g ⟨nearL g⟩ k i) (n := b.length) (fun i _ => ∀ k, k < i → setB g.1 (b.getD k []) = true) (p := brP g b) (r := some (decide (0 < b.length))) (bad := some false) ?_ ?_ ?_ F () (by omega) (by intro k hk; omega)]
  · cases allN (brP g b) b.length <;> simp
  · intro k i s hi hI hp
    unfold brP at hp
    simp only [Bool.and_eq_true] at hp
    obtain ⟨⟨p1, p2⟩, p3⟩ := hp
    have hbi := hb.at hi
    refine ⟨(), ?_, ?_⟩
    · intro k hk
      by_cases e : k = i
      · subst e; exact p1
      · exact hI k (by omega)
    · simp only [i_isBramble_l1, i_isBramble_j1]
      rw [decide_eq_true (show (i : Int) < (b.length : Int) by omega), cond_true, idx_getD (d := []) hi, Option.bind_some, isSet_eq hg (by omega) (by unfold Sm; omega) hG hs (by omega), Option.bind_some, p1, Bool.not_true, cond_false]
      rw [maskSet hg p1 (by omega) (by unfold Sm; omega), Option.bind_some, parts_eq hg (by omega), Option.bind_some, List.length_map, one_len, p2, Bool.not_true, cond_false]
      rw [sub_take (by omega), Option.bind_some, iTouches_eq hg hb hi hI p1, Option.bind_some, p3, Bool.not_true, cond_false, w64_succ hi (by unfold Sm; omega)]
  · intro k i s hi hI hp
    have hbi := hb.at hi
    simp only [i_isBramble_l1, i_isBramble_j1]
    rw [decide_eq_true (show (i : Int) < (b.length : Int) by omega), cond_true, idx_getD (d := []) hi, Option.bind_some, isSet_eq hg (by omega) (by unfold Sm; omega) hG hs (by omega), Option.bind_some]
    cases p1 : setB g.1 (b.getD i []) with
    | false => rfl
    | true =>
      rw [Bool.not_true, cond_false, maskSet hg p1 (by omega) (by unfold Sm; omega), Option.bind_some, parts_eq hg (by omega), Option.bind_some, List.length_map, one_len]
      cases p2 : ((prt g g.1.toNat (bq (b.getD i []))).length == 1) with
      | false => rfl
      | true =>
        unfold brP at hp
        rw [p1, p2, Bool.true_and, Bool.true_and] at hp
        rw [Bool.not_true, cond_false, sub_take (by omega), Option.bind_some, iTouches_eq hg hb hi hI p1, Option.bind_some, hp]
        rfl
  · intro k s hI
    simp only [i_isBramble_l1]
    rw [decide_eq_false (show ¬ (b.length : Int) < (b.length : Int) by omega), cond_false]
    congr 1
    rw [decide_eq_decide]; omega

end Go.Zq
/- Plain mathematics: own copies of arguments; lists that are marked. -/
namespace Go.Zq

theorem toIntS_o_eq {F : Nat} {xs : List Int} (hF : xs.length < F) (hl : xs.length ≤ 1099511627776) : w_toIntS_o F xs = some (.of xs) := by
  unfold w_toIntS_o
  rw [mkN_nat hl, Option.bind_some]
  refine loop_inv (L := fun k i s => w_toIntS_o_l1 F xs k s i) (n := xs.length) (fun i ys => ys.length = xs.length ∧ ys.take i = xs.take i) ?_ ?_ F _ hF (by simp)
  · intro k i s hi hI
    refine ⟨_, copied hI hi, ?_⟩
    simp only [w_toIntS_o_l1]
    rw [idx_nat hi, idx_nat (by omega), w64_succ hi (by unfold Sm; omega)]
    simp [hi]
  · intro k s hI
    simp only [w_toIntS_o_l1]
    rw [copied_end hI]; simp

theorem toIntA2S_o_eq {F : Nat} {xs : List (Int × Int)} (hF : xs.length < F) (hl : xs.length ≤ 1099511627776) (h3 : 3 ≤ F) : w_toIntA2S_o F xs = some (.of xs) := by
  unfold w_toIntA2S_o
  rw [mkN_nat hl, Option.bind_some]
  refine loop_inv (L := fun k i s => w_toIntA2S_o_l1 F xs k s i) (n := xs.length) (fun i ys => ys.length = xs.length ∧ ys.take i = xs.take i) ?_ ?_ F _ hF (by simp)
  · intro k i s hi hI
    refine ⟨_, copied hI hi, ?_⟩
    simp only [w_toIntA2S_o_l1]
    rw [idx_nat hi, idx_nat (by omega), w64_succ hi (by unfold Sm; omega)]
    simp [hi, toIntA2_eq h3]
  · intro k s hI
    simp only [w_toIntA2S_o_l1]
    rw [copied_end hI]; simp

theorem toGraph_o_eq {F : Nat} {g : Int × List (Int × Int)} (hF : g.2.length < F) (hl : g.2.length ≤ 1099511627776) (h3 : 3 ≤ F) : w_toGraph_o F g = some (g.1, .of g.2) := by
  unfold w_toGraph_o
  rw [toIntA2S_o_eq hF hl h3]; rfl

/-- what a marked list is -/
def mkd (n : Nat) (k : Int) : List Int := (List.range n).map fun (i : Nat) => k + (i : Int)
theorem mkd_length {n : Nat} {k : Int} : (mkd n k).length = n := by simp [mkd]
theorem mkd_get {n i : Nat} {k : Int} (h : i < n) : idx (mkd n k) (i : Int) = some (k + i) := by
  rw [idx_nat (by rw [mkd_length]; exact h)]
  simp [mkd]

theorem markIntS_eq {F : Nat} {o : NL Int} {k : Int} (hF : o.list.length < F) (hl : o.list.length ≤ 1099511627776) (h0 : 0 ≤ k) (hk : k ≤ 4611686018427387904) :
    ∃ o', w_markIntS F ⟨o⟩ k = some (k + o.list.length, o') ∧ remark o o' = some o' ∧ o'.list = mkd o.list.length k := by
  cases o with
  | nil =>
    obtain ⟨j, rfl⟩ : ∃ j, F = j + 1 := ⟨F - 1, by omega⟩
    exact ⟨.nil, by simp [w_markIntS, w_markIntS_l1, NL.list], rfl, by simp [NL.list, mkd]⟩
  | of xs =>
    simp only [NL.list] at hF hl ⊢
    obtain ⟨s, ⟨ys, h1, h2, h3, h4⟩, h5⟩ := loop_ex (L := fun j i (s : NL Int × Int) => w_markIntS_l1 F j s.1 s.2 i) (n := xs.length) (fin := fun s => some (s.2, s.1))
      (fun i s => ∃ ys : List Int, s.1 = .of ys ∧ ys.length = xs.length ∧ s.2 = k + i ∧ ∀ j, j < i → ys[j]? = some (k + (j : Int)))
      (by
        rintro j i ⟨a, b⟩ hi ⟨ys, rfl, h2, rfl, h4⟩
        refine ⟨(.of (ys.set i (k + i)), k + ((i + 1 : Nat) : Int)), ⟨_, rfl, by simp [h2], rfl, ?_⟩, ?_⟩
        · intro m hm
          rw [List.getElem?_set]
          by_cases e : i = m
          · subst e; simp [h2, hi]
          · simp only [e, if_false]; exact h4 m (by omega)
        · simp only [w_markIntS_l1, NL.list]
          have : decide ((i : Int) < (ys.length : Int)) = true := by simp; omega
          change (bif decide ((i : Int) < (ys.length : Int)) then _ else _) = _
          rw [this, cond_true, idx_nat (by omega), Option.bind_some, w64_succ hi (by unfold Sm; omega), w64_id (x := k + i + 1) (by omega) (by omega)]
          simp only [NL.set, Int.toNat_natCast]
          congr 1
          omega)
      (by
        rintro j ⟨a, b⟩ ⟨ys, rfl, h2, rfl, h4⟩
        simp only [w_markIntS_l1, NL.list, h2]
        simp) F (.of xs, k) hF ⟨xs, rfl, rfl, by simp, by simp⟩
    obtain ⟨a, b⟩ := s
    simp only at h1 h3 h5
    subst h1; subst h3
    refine ⟨.of ys, ?_, by simp [remark, h2], ?_⟩
    · unfold w_markIntS; exact h5
    · simp only [NL.list]
      apply List.ext_getElem?
      intro i
      by_cases hi : i < xs.length
      · rw [h4 i hi]; simp [mkd, hi]
      · rw [List.getElem?_eq_none (by omega), List.getElem?_eq_none (by rw [mkd_length]; omega)]

theorem heldIntS_eq {F n : Nat} {k : Int} (hF : n < F) (hl : n ≤ 1099511627776) (h0 : 0 ≤ k) (hk : k ≤ 4611686018427387904) : w_heldIntS F (mkd n k) k = some (k + n) := by
  unfold w_heldIntS
  refine loop_inv (L := fun j i s => w_heldIntS_l1 F (mkd n k) j s i) (n := n) (fun i s => s = k + (i : Int)) ?_ ?_ F _ hF (by simp)
  · rintro j i s hi rfl
    refine ⟨_, rfl, ?_⟩
    simp only [w_heldIntS_l1, mkd_length]
    have : decide ((i : Int) < (n : Int)) = true := by simpa using hi
    rw [this, cond_true, mkd_get hi, Option.bind_some, w64_succ hi (by unfold Sm; omega), w64_id (x := k + i + 1) (by omega) (by omega)]
    simp only [bne_self_eq_false, cond_false]
    congr 1
    omega
  · rintro j s rfl
    simp only [w_heldIntS_l1, mkd_length]
    simp

theorem set2_length {α : Type} {xs : List (α × α)} {i : Nat} {j : Int} {b : α} : (set2 xs i j b).length = xs.length := by
  unfold set2
  split <;> simp

theorem markGraph_eq {F : Nat} {a : Int} {xs : List (Int × Int)} {k : Int} (hF : xs.length < F) (h3 : 3 ≤ F) (hl : xs.length ≤ 1099511627776) (h0 : 0 ≤ k) (hk : k ≤ 4611686018427387904) :
    ∃ ys : List (Int × Int), w_markGraph F ⟨a, .of xs⟩ k = some (k + 2 * xs.length, ⟨a, .of ys⟩) ∧ ys.length = xs.length ∧ ∀ i, i < xs.length → ys[i]? = some (k + 2 * (i : Int), k + 2 * (i : Int) + 1) := by
  obtain ⟨s, ⟨ys, h1, h2, h4, h6⟩, h5⟩ := loop_ex (L := fun j i (s : NL (Int × Int) × Int) => w_markIntA2S_l2 F j s.1 s.2 i) (n := xs.length) (fin := fun s => some (s.2, s.1))
      (fun i s => ∃ ys : List (Int × Int), s.1 = .of ys ∧ ys.length = xs.length ∧ s.2 = k + 2 * (i : Int) ∧ ∀ j, j < i → ys[j]? = some (k + 2 * (j : Int), k + 2 * (j : Int) + 1))
      (by
        rintro j i ⟨a, b⟩ hi ⟨ys, rfl, h2, rfl, h6⟩
        refine ⟨(.of (set2 (set2 ys i 0 (k + 2 * i)) i 1 (k + 2 * i + 1)), k + 2 * ((i + 1 : Nat) : Int)), ⟨_, rfl, by simp [set2_length, h2], rfl, ?_⟩, ?_⟩
        · intro m hm
          have e : set2 (set2 ys i 0 (k + 2 * i)) i 1 (k + 2 * i + 1) = ys.set i (k + 2 * (i : Int), k + 2 * (i : Int) + 1) := by
            have hil : i < ys.length := by omega
            have e1 : ys[i]? = some ys[i] := by simp [hil]
            simp only [set2, e1, List.getElem?_set, hil, if_true, List.set_set]
            rfl
          rw [e, List.getElem?_set]
          by_cases e : i = m
          · subst e; simp [h2, hi]
          · simp only [e, if_false]; exact h6 m (by omega)
        simp only [w_markIntA2S_l2, NL.list]
        have : decide ((i : Int) < (ys.length : Int)) = true := by simp; omega
        change (bif decide ((i : Int) < (ys.length : Int)) then _ else _) = _
        rw [this, cond_true]
        obtain ⟨f, rfl⟩ : ∃ f, F = f + 3 := ⟨F - 3, by omega⟩
        rw [w_markIntA2S_l1]
        simp only [NL.list]
        rw [idx_nat (by omega)]
        rw [show (decide ((0 : Int) < 2)) = true from rfl, cond_true, Option.bind_some]
        rw [show idx [(ys[i]'(by omega)).1, (ys[i]'(by omega)).2] 0 = some (ys[i]'(by omega)).1 from rfl, Option.bind_some]
        rw [show w64 (0 + 1) = 1 from by decide, w64_id (x := k + 2 * i + 1) (by omega) (by omega)]
        simp only [NL.set2, Int.toNat_natCast]
        rw [w_markIntA2S_l1]
        simp only [NL.list]
        rw [idx_nat (by rw [set2_length]; omega)]
        rw [show (decide ((1 : Int) < 2)) = true from rfl, cond_true, Option.bind_some]
        rw [show ∀ u v : Int, idx [u, v] 1 = some v from fun _ _ => rfl, Option.bind_some]
        rw [show w64 (1 + 1) = 2 from by decide, w64_id (x := k + 2 * i + 1 + 1) (by omega) (by omega)]
        simp only [NL.set2, Int.toNat_natCast]
        rw [w_markIntA2S_l1]
        rw [show (decide ((2 : Int) < 2)) = false from rfl, cond_false, w64_succ hi (by unfold Sm; omega)]
        congr 1
        omega)
      (by
        rintro j ⟨a, b⟩ ⟨ys, rfl, h2, rfl, _⟩
        simp only [w_markIntA2S_l2, NL.list, h2]
        simp) F (.of xs, k) hF ⟨xs, rfl, rfl, by simp, by simp⟩
  obtain ⟨u, b⟩ := s
  simp only at h1 h4 h5
  subst h1; subst h4
  refine ⟨ys, ?_, h2, h6⟩
  unfold w_markGraph w_markIntA2S
  rw [h5]
  simp [remark, h2]

end Go.Zq
/- Plain mathematics: fronts, as lists of one's own. -/
namespace Go.Zq

theorem ex_of_map {α β : Type} {f : α → β} {a : Option β} {b : Option α} {r : β} (h : a = b.map f) (hr : a = some r) : ∃ o, b = some o ∧ f o = r := by
  rw [hr] at h
  cases b with
  | none => cases h
  | some o => simp at h; exact ⟨o, rfl, h.symm⟩
theorem map_cond {α β : Type} {f : α → β} {t : Bool} {a b : Option α} : (bif t then a else b).map f = bif t then a.map f else b.map f := by cases t <;> rfl

theorem setOf_l1_map {F : Nat} {s : Int} : ∀ (k : Nat) (l : NL Int) (i : Int), i_setOf_l1 F s k l i = (i_setOf_o_l1 F s k l i).map NL.list
  | 0, l, i => rfl
  | k + 1, l, i => by
    simp only [i_setOf_l1, i_setOf_o_l1, i_setOf_j1, i_setOf_o_j1, Option.map_bind, map_cond, setOf_l1_map k, Function.comp_def, Option.map_some]

theorem setOf_o_eq {F n : Nat} {p : Nat → Bool} (hn : n ≤ 8) (hF : 20 ≤ F) : ∃ o, i_setOf_o F ((mkm p n : Nat) : Int) = some o ∧ o.list = listN p n :=
  ex_of_map (setOf_l1_map F .nil 0) (setOf_eq hn hF)

theorem listN_le {p : Nat → Bool} {n : Nat} : (listN p n).length ≤ n := by rw [listN_len]; exact cnt_le

end Go.Zq
/- Plain mathematics: lists of lists that are own, and their marks. -/
namespace Go.Zq

theorem toIntSS_o_eq {F : Nat} {xs : List (List Int)} (hF : xs.length < F) (hl : xs.length ≤ 1099511627776) (h2 : ∀ x ∈ xs, x.length < F ∧ x.length ≤ 1099511627776) : w_toIntSS_o F xs = some (.of (xs.map .of)) := by
  unfold w_toIntSS_o
  rw [mkN_nat hl, Option.bind_some]
  refine loop_inv (L := fun k i s => w_toIntSS_o_l1 F xs k s i) (n := xs.length) (fun i (ys : List (NL Int)) => ys.length = (xs.map (NL.of)).length ∧ ys.take i = (xs.map (NL.of)).take i) ?_ ?_ F _ hF (by simp)
  · intro k i s hi hI
    refine ⟨_, copied (xs := xs.map NL.of) hI (by simpa using hi), ?_⟩
    simp only [w_toIntSS_o_l1]
    have hx := h2 xs[i] (List.getElem_mem hi)
    have hsl : i < s.length := by have := hI.1; simp at this; omega
    rw [idx_nat hi, idx_nat hsl, w64_succ hi (by unfold Sm; omega)]
    simp [hi, toIntS_o_eq hx.1 hx.2]
  · intro k s hI
    simp only [w_toIntSS_o_l1]
    have := copied_end (xs := xs.map NL.of) (by simpa using hI)
    simp [this]

/-- what marked lists are -/
def mkdd : List Nat → Int → List (List Int)
  | [], _ => []
  | n :: ns, k => mkd n k :: mkdd ns (k + n)
def sumL0 : List Nat → Nat
  | [] => 0
  | n :: ns => n + sumL0 ns

theorem mkdd_len : ∀ (ns : List Nat) (k : Int), (mkdd ns k).length = ns.length
  | [], _ => rfl
  | n :: ns, k => by simp [mkdd, mkdd_len ns]

theorem mkdd_get : ∀ (ns : List Nat) (k : Int) (j n : Nat), ns[j]? = some n → (mkdd ns k)[j]? = some (mkd n (k + (sumL0 (ns.take j) : Nat)))
  | [], _, j, n, h => by simp at h
  | m :: ns, k, 0, n, h => by
    simp only [List.getElem?_cons_zero, Option.some.injEq] at h
    subst h
    simp [mkdd, sumL0]
  | m :: ns, k, j + 1, n, h => by
    simp only [List.getElem?_cons_succ] at h
    have := mkdd_get ns (k + m) j n h
    simp only [mkdd, List.getElem?_cons_succ, this, List.take_succ_cons, sumL0]
    congr 2
    omega

theorem sumL0_succ : ∀ (ns : List Nat) (j n : Nat), ns[j]? = some n → sumL0 (ns.take (j + 1)) = sumL0 (ns.take j) + n
  | [], j, n, h => by simp at h
  | m :: ns, 0, n, h => by
    simp only [List.getElem?_cons_zero, Option.some.injEq] at h
    subst h
    simp [sumL0]
  | m :: ns, j + 1, n, h => by
    simp only [List.getElem?_cons_succ] at h
    have := sumL0_succ ns j n h
    simp only [List.take_succ_cons, sumL0, this]
    omega

theorem sumL0_le : ∀ (ns : List Nat) (j : Nat), sumL0 (ns.take j) ≤ sumL0 ns
  | [], j => by simp [sumL0]
  | m :: ns, 0 => by simp [sumL0]
  | m :: ns, j + 1 => by
    have := sumL0_le ns j
    simp only [List.take_succ_cons, sumL0]
    omega

theorem remark_nil {o o' : NL Int} (h : remark o o' = some o') : o'.isNil = o.isNil := by
  cases o with
  | nil => simp [remark] at h; subst h; rfl
  | of xs => cases o' with
    | nil => simp [remark] at h
    | of ys => rfl

/-- the marks of a list of lists -/
theorem markIntSS_eq {F : Nat} {o : NL (NL Int)} {ns : List Nat} {k : Int} (hns : o.list.map (fun o => o.list.length) = ns) (hF : ns.length < F) (h1 : sumL0 ns < F) (hl : Sm ns.length) (hl1 : sumL0 ns ≤ 1099511627776) (h0 : 0 ≤ k) (hk : k + (sumL0 ns : Nat) ≤ 4611686018427387904) :
    ∃ o', w_markIntSS F ⟨o⟩ k = some (k + (sumL0 ns : Nat), o') ∧ remark2 o o' = some o' ∧ o'.list.map NL.list = mkdd ns k := by
  cases o with
  | nil =>
    simp only [NL.list, List.map_nil] at hns
    subst hns
    obtain ⟨j, rfl⟩ : ∃ j, F = j + 1 := ⟨F - 1, by omega⟩
    exact ⟨.nil, by simp [w_markIntSS, w_markIntSS_l1, NL.list, sumL0], rfl, rfl⟩
  | of os =>
    change os.map (fun o => o.list.length) = ns at hns
    have hlen : os.length = ns.length := by rw [← hns]; simp
    obtain ⟨s, ⟨ys, e1, e2, e3, e4, e5⟩, e6⟩ := loop_ex (L := fun j i (s : NL (NL Int) × Int) => w_markIntSS_l1 F j s.1 s.2 i) (n := ns.length) (fin := fun s => some (s.2, s.1))
      (fun i s => ∃ ys : List (NL Int), s.1 = .of ys ∧ ys.length = ns.length ∧ s.2 = k + (sumL0 (ns.take i) : Nat) ∧ ys.map NL.isNil = os.map NL.isNil ∧ ∀ j, j < ns.length → (j < i → ∃ y, ys[j]? = some y ∧ (mkdd ns k)[j]? = some y.list) ∧ (i ≤ j → ys[j]? = os[j]?))
      (by
        rintro j i ⟨a, b⟩ hi ⟨ys, rfl, h2, rfl, h4, h5⟩
        obtain ⟨oi, hio⟩ : ∃ oi, os[i]? = some oi := ⟨os[i]'(by omega), by simp [hlen, hi]⟩
        have hni : ns[i]? = some oi.list.length := by
          have h9 : (os.map (fun o => o.list.length))[i]? = ns[i]? := by rw [hns]
          rw [← h9, List.getElem?_map, hio]; rfl
        have hyi : ys[i]? = some oi := by rw [(h5 i hi).2 (Nat.le_refl _), hio]
        have hsum := sumL0_succ ns i _ hni
        have hle := sumL0_le ns (i + 1)
        obtain ⟨o', m1, m2, m3⟩ := markIntS_eq (F := F) (o := oi) (k := k + (sumL0 (ns.take i) : Nat)) (by omega) (by omega) (by omega) (by omega)
        refine ⟨(.of (ys.set i o'), k + (sumL0 (ns.take (i + 1)) : Nat)), ⟨_, rfl, by simp [h2], rfl, ?_, ?_⟩, ?_⟩
        · rw [← h4]
          apply List.ext_getElem?
          intro m
          simp only [List.getElem?_map, List.getElem?_set]
          by_cases e : i = m
          · subst e
            simp only [if_true, h2, hi, hyi, Option.map_some, remark_nil m2]
          · simp only [e, if_false]
        · intro m hm
          have h6 := h5 m hm
          refine ⟨fun hmi => ?_, fun him => ?_⟩
          · rw [List.getElem?_set]
            by_cases e : i = m
            · subst e
              refine ⟨o', by simp [h2, hi], ?_⟩
              rw [mkdd_get ns k i _ hni, m3]
            · simp only [e, if_false]
              exact h6.1 (by omega)
          · rw [List.getElem?_set, if_neg (by omega)]
            exact h6.2 (by omega)
        · simp only [w_markIntSS_l1, NL.list]
          have hc : decide ((i : Int) < (ys.length : Int)) = true := by simp; omega
          have hix : idx ys (i : Int) = some oi := by
            unfold idx
            rw [if_pos (by omega)]
            simpa using hyi
          change (bif decide ((i : Int) < (ys.length : Int)) then _ else _) = _
          rw [hc, cond_true, hix, Option.bind_some, m1, Option.bind_some, m2, Option.bind_some, w64_succ hi hl]
          simp only [NL.set, Int.toNat_natCast]
          congr 1
          omega)
      (by
        rintro j ⟨a, b⟩ ⟨ys, rfl, h2, rfl, _, _⟩
        simp only [w_markIntSS_l1, NL.list, h2]
        simp) F (.of os, k) hF ⟨os, rfl, hlen, by simp [sumL0], rfl, fun j hj => ⟨fun h => by omega, fun _ => rfl⟩⟩
    obtain ⟨a, b⟩ := s
    simp only at e1 e3 e6
    subst e1; subst e3
    rw [List.take_of_length_le (Nat.le_refl _)] at e6
    refine ⟨.of ys, ?_, by simp [remark2, e4], ?_⟩
    · unfold w_markIntSS; exact e6
    · simp only [NL.list]
      apply List.ext_getElem?
      intro j
      by_cases hj : j < ns.length
      · obtain ⟨y, h7, h8⟩ := (e5 j hj).1 hj
        rw [List.getElem?_map, h7, h8]; rfl
      · rw [List.getElem?_eq_none (by simp; omega), List.getElem?_eq_none (by rw [mkdd_len]; omega)]

end Go.Zq
/- Plain mathematics: the cutwidth of a layout. -/
namespace Go.Zq

end Go.Zq
/- Plain mathematics: the sizes of the fronts of a layout. -/
namespace Go.Zq

end Go.Zq
/- Plain mathematics: the table of best orders for a cost (frontSize). -/
namespace Go.Zq

end Go.Zq
/- Plain mathematics: the pathwidth. -/
namespace Go.Zq

end Go.Zq
/- Plain mathematics: treedepths of all sets. -/
namespace Go.Zq

end Go.Zq
/- Plain mathematics: cops that stay, and treedepth. -/
namespace Go.Zq

end Go.Zq
/- Plain mathematics: connected sets of a tree; decompositions. -/
namespace Go.Zq

end Go.Zq
/- Plain mathematics: the later neighbors of a node in an elimination. -/
namespace Go.Zq

end Go.Zq
/- Plain mathematics: parts, and what is connected. -/
namespace Go.Zq

end Go.Zq
/- Plain mathematics: the program of a layout. -/
namespace Go.Zq

end Go.Zq
/- Plain mathematics: neighbors as lists. -/
namespace Go.Zq

end Go.Zq
/- Plain mathematics: sets that stop a fire. -/
namespace Go.Zq

end Go.Zq
/- Plain mathematics: rankings. -/
namespace Go.Zq

/-- nodes with at most a number; nodes with just this number -/
def lowP (l : List Int) (r : Int) (j : Nat) : Bool := decide (l.getD j 0 ≤ r)
/-- a node of the same number is met -/
def meets (g : Gr) (l : List Int) (x : Nat) : Bool := anyN (fun y => comp g (lowP l (l.getD x 0)) x y && ((y != x) && (l.getD y 0 == l.getD x 0))) g.1.toNat

end Go.Zq
/- Plain mathematics: cliques; perfect eliminations. -/
namespace Go.Zq

end Go.Zq
