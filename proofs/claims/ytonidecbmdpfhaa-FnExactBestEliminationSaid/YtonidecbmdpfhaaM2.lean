/- Plain mathematics: what the functions answer (part 2). Conditions: stated in each theorem. -/
import Derived.Test.YtonidecbmdpfhaaM1
set_option linter.unusedVariables false
set_option linter.unusedSimpArgs false
/- Plain mathematics: treedepths of all sets. -/
namespace Go.Zq
end Go.Zq
/- Plain mathematics: steps of a search. -/
namespace Go.Zq
end Go.Zq
/- Plain mathematics: steps of a search, in the reference; programs. -/
namespace Go.Zq
theorem cnt_zero {p : Nat → Bool} {n : Nat} : cntN p n = 0 ↔ fstN p n = none := by
  rw [fst_none]
  constructor
  · intro h j hj
    cases hp : p j with
    | false => rfl
    | true =>
      have := cnt_lt (p := fun _ => false) (q := p) (n := n) (by simp) ⟨j, hj, rfl, hp⟩
      omega
  · intro h
    rw [cnt_congr (q := fun _ => false) h]
    unfold cntN
    rw [List.countP_eq_zero]; simp
end Go.Zq
/- Plain mathematics: cops that stay, and treedepth. -/
namespace Go.Zq
end Go.Zq
/- Plain mathematics: path decompositions. -/
namespace Go.Zq
structure Bg (F : Nat) (bags : List (List Int)) : Prop where
  len : bags.length ≤ 1048576
  each : ∀ x ∈ bags, x.length ≤ 1048576
  fuel : 1048577 ≤ F
theorem Bg.at {F : Nat} {bags : List (List Int)} (h : Bg F bags) {i : Nat} (hi : i < bags.length) : (bags.getD i []).length ≤ 1048576 := h.each _ (getD_mem hi)
theorem Bg.of {F : Nat} {bags : List (List Int)} (h : bags.length + sumL bags bags.length ≤ 1048576) (hF : 1048577 ≤ F) : Bg F bags := by
  refine ⟨by omega, fun x hx => ?_, hF⟩
  obtain ⟨i, hi, e⟩ := List.mem_iff_getElem.1 hx
  have := sumL_le hi
  rw [List.getD_eq_getElem?_getD, List.getElem?_eq_getElem hi, Option.getD_some, e] at this
  omega
end Go.Zq
/- Plain mathematics: sets of nodes as lists and as numbers; brambles. -/
namespace Go.Zq
def bq (l : List Int) (j : Nat) : Bool := decide ((j : Int) ∈ l)
end Go.Zq
/- Plain mathematics: connected sets of a tree; decompositions. -/
namespace Go.Zq
structure Seen (T : Gr) (p : Nat → Bool) (x : Nat) (seen : List Int) : Prop where
  nd : seen.Nodup
  inn : ∀ y ∈ seen, ∃ j : Nat, y = j ∧ j < T.1.toNat ∧ comp T p x j = true
  root : (x : Int) ∈ seen
theorem seen_len {T : Gr} {p : Nat → Bool} {x : Nat} {seen : List Int} (hT : good T = true) (h : Seen T p x seen) : seen.length ≤ 8 := by
  have h8 := good_size hT
  have := nodup_len T.1.toNat seen h.nd (fun y hy => by obtain ⟨j, rfl, h1, _⟩ := h.inn y hy; omega)
  omega
end Go.Zq
/- Plain mathematics: the later neighbors of a node in an elimination. -/
namespace Go.Zq
def wth (m x : Nat) (j : Nat) : Bool := m.testBit j || j == x
def latP (g : Gr) (m x : Nat) (j : Nat) : Bool := (!m.testBit j && !(j == x)) && anyN (fun y => comp g (wth m x) x y && adj g y j) g.1.toNat
def elC (g : Gr) (m x : Nat) : Int := (cntN (latP g m x) g.1.toNat : Int)
theorem neighbors_eq {F x : Nat} {g : Gr} (hg : good g = true) (hF : 20 ≤ F) (hG : g.2.length < F) (hs : Sm g.2.length) : s_l2Neighbors F g (x : Int) = some (listN (adj g x) g.1.toNat) := by
  have h8 := good_size hg
  unfold s_l2Neighbors
  refine loop_inv (L := fun k i s => s_l2Neighbors_l1 F (x : Int) g k s i) (n := g.1.toNat) (fun i s => s = listN (adj g x) i) ?_ ?_ F _ (by omega) rfl
  · intro k i s hi hI
    subst hI
    refine ⟨_, rfl, ?_⟩
    have hc := cnt_le (p := adj g x) (n := i)
    simp only [s_l2Neighbors_l1, s_l2Neighbors_j1]
    rw [decide_eq_true (show (i : Int) < g.1 by omega), cond_true, near_eq hG hs, Option.bind_some, w64_succ hi (by unfold Sm; omega), listN_succ]
    cases adj g x i with
    | true => rw [cond_true, appL_one (by rw [listN_len]; omega), Option.bind_some]; rfl
    | false => rw [cond_false]; simp
  · intro k s hI
    subst hI
    simp only [s_l2Neighbors_l1]
    rw [decide_eq_false (show ¬ (g.1.toNat : Int) < g.1 by omega), cond_false]
structure Lat (g : Gr) (m x : Nat) (q : Nat → Bool) (seen : List Int) : Prop where
  sn : Seen g (wth m x) x seen
  qin : ∀ j, q j = true → latP g m x j = true
def Fnd (m x : Nat) (q : Nat → Bool) (seen : List Int) (ns : List Int) : Prop := ∀ z : Nat, (z : Int) ∈ ns → (wth m x z = true → (z : Int) ∈ seen) ∧ (wth m x z = false → q z = true)
theorem latIn_eq {F : Nat} {g : Gr} {m x k : Nat} {q : Nat → Bool} {seen : List Int} {c : List Int → List Int → Int → Option (List Int)} (hg : good g = true) (hF : 20 ≤ F) (hm : m < 2 ^ g.1.toNat) (hx : x < g.1.toNat) (hk : k < seen.length) (hS : Lat g m x q seen) {y : Nat} (hy : seen.getD k 0 = (y : Int)) :
    ∃ q' ext, Lat g m x q' (seen ++ ext) ∧ Fnd m x q' (seen ++ ext) (listN (adj g y) g.1.toNat) ∧ (∀ j, q j = true → q' j = true) ∧
      s_l5Later_l1 F (listN m.testBit g.1.toNat) g (k : Int) (listN (adj g y) g.1.toNat) c F (listN q g.1.toNat) seen 0 = c (listN q' g.1.toNat) (seen ++ ext) ((k + 1 : Nat) : Int) := by
  have h8 := good_size hg
  have hn8 : (listN (adj g y) g.1.toNat).length ≤ 8 := by rw [listN_len]; exact Nat.le_trans cnt_le (by omega)
  obtain ⟨y', hy', hyn, hyc⟩ := hS.sn.inn _ (getD_mem (d := 0) hk)
  rw [hy] at hy'
  obtain rfl : y = y' := by omega
  obtain ⟨s, ⟨q', ext, hs, h1, h2, h3⟩, h4⟩ := loop_ex (L := fun k2 i (s : List Int × List Int) => s_l5Later_l1 F (listN m.testBit g.1.toNat) g (k : Int) (listN (adj g y) g.1.toNat) c k2 s.1 s.2 i) (n := (listN (adj g y) g.1.toNat).length)
    (fun i s => ∃ q' ext, s = (listN q' g.1.toNat, seen ++ ext) ∧ Lat g m x q' (seen ++ ext) ∧ Fnd m x q' (seen ++ ext) ((listN (adj g y) g.1.toNat).take i) ∧ (∀ j, q j = true → q' j = true)) (fin := fun s => c s.1 s.2 ((k + 1 : Nat) : Int)) (by
      rintro k2 i s hi ⟨q', ext, rfl, hL, hFn, hq⟩
      have hlen := seen_len hg hL.sn
      obtain ⟨z, hz, hzn, hza⟩ := listN_get hi
      have htake : (listN (adj g y) g.1.toNat).take (i + 1) = (listN (adj g y) g.1.toNat).take i ++ [(z : Int)] := by
        rw [List.take_add_one, List.getElem?_eq_getElem hi]
        rw [List.getD_eq_getElem?_getD, List.getElem?_eq_getElem hi, Option.getD_some] at hz
        rw [hz]; rfl
      have hstep : ∀ (q2 : Nat → Bool) (s2 : List Int), (∀ j, q' j = true → q2 j = true) → (∀ w, w ∈ seen ++ ext → w ∈ s2) → (wth m x z = true → (z : Int) ∈ s2) → (wth m x z = false → q2 z = true) → Fnd m x q2 s2 ((listN (adj g y) g.1.toNat).take (i + 1)) := by
        intro q2 s2 a1 a2 a3 a4 w hw
        rw [htake, List.mem_append] at hw
        rcases hw with hw | hw
        · exact ⟨fun h => a2 _ ((hFn w hw).1 h), fun h => a1 _ ((hFn w hw).2 h)⟩
        · simp only [List.mem_singleton] at hw
          obtain rfl : w = z := by omega
          exact ⟨a3, a4⟩
      simp only [s_l5Later_l1, s_l5Later_j1]
      rw [decide_eq_true (show (i : Int) < ((listN (adj g y) g.1.toNat).length : Int) by omega), cond_true, idx_getD (d := 0) hi, hz]
      simp only [Option.bind_some]
      rw [l1Has_eq (by omega) (by unfold Sm; omega), has_listN (by omega) hzn (by omega), put_eq (by omega) hzn (by omega), w64_succ hi (by unfold Sm; omega)]
      simp only [Option.bind_some]
      by_cases hm1 : (z : Int) ∈ seen ++ ext
      · refine ⟨_, ⟨q', ext, rfl, hL, hstep q' _ (fun _ h => h) (fun _ h => h) (fun _ => hm1) (fun h => ?_), hq⟩, by rw [decide_eq_true hm1, cond_true]⟩
        obtain ⟨z', e, _, hc⟩ := hL.sn.inn _ hm1
        obtain rfl : z = z' := by omega
        have := comp_in (p := wth m x) (show wth m x x = true by unfold wth; simp) hc
        rw [this] at h; cases h
      · rw [decide_eq_false hm1, cond_false]
        have hzx : z ≠ x := fun e => hm1 (by rw [e, List.mem_append]; exact .inl hS.sn.root)
        cases hb : m.testBit z with
        | true =>
          have hw : wth m x z = true := by unfold wth; rw [hb]; rfl
          refine ⟨(listN q' g.1.toNat, seen ++ ext ++ [(z : Int)]), ⟨q', ext ++ [(z : Int)], by rw [List.append_assoc], ⟨⟨?_, ?_, ?_⟩, hL.qin⟩, ?_, hq⟩, ?_⟩
          · rw [← List.append_assoc, List.nodup_append]
            refine ⟨hL.sn.nd, by simp, ?_⟩
            intro a ha b hb e
            simp only [List.mem_singleton] at hb
            subst hb; subst e; exact hm1 ha
          · intro a ha
            rw [← List.append_assoc, List.mem_append] at ha
            rcases ha with ha | ha
            · exact hL.sn.inn a ha
            · simp only [List.mem_singleton] at ha
              exact ⟨z, ha, hzn, comp_closed hg hx (by unfold wth; simp) hyc hw hza⟩
          · rw [List.mem_append]; exact .inl hS.sn.root
          · rw [← List.append_assoc]
            exact hstep q' _ (fun _ h => h) (fun w h => by rw [List.mem_append]; exact .inl h) (fun _ => by simp) (fun h => by rw [hw] at h; cases h)
          · rw [cond_true, appL_one (by omega), Option.bind_some]
        | false =>
          have hw : wth m x z = false := by
            unfold wth
            rw [hb]
            simpa using hzx
          refine ⟨(listN (fun j => q' j || j == z) g.1.toNat, seen ++ ext), ⟨fun j => q' j || j == z, ext, rfl, ⟨hL.sn, ?_⟩, ?_, fun j h => by simp [hq j h]⟩, ?_⟩
          · intro j hj
            rw [Bool.or_eq_true, beq_iff_eq] at hj
            rcases hj with hj | hj
            · exact hL.qin j hj
            · subst hj
              unfold latP
              rw [hb]
              have : (j == x) = false := by simpa using hzx
              rw [this]
              simp only [Bool.not_false, Bool.and_self, Bool.true_and]
              exact anyN_iff.2 ⟨y, hyn, by rw [hyc, hza]; rfl⟩
          · exact hstep _ _ (fun j h => by simp [h]) (fun _ h => h) (fun h => by rw [hw] at h; cases h) (fun _ => by simp)
          · rw [cond_false]) (by
      rintro k2 s ⟨q', ext, rfl, hL, hFn, hq⟩
      have hlen := seen_len hg hL.sn
      rw [List.length_append] at hlen
      simp only [s_l5Later_l1]
      rw [decide_eq_false (show ¬ ((listN (adj g y) g.1.toNat).length : Int) < ((listN (adj g y) g.1.toNat).length : Int) by omega), cond_false, w64_succ hk (by unfold Sm; omega)]) F (listN q g.1.toNat, seen) (by omega) ⟨q, [], by simp, by simpa using hS, fun z hz => by simp at hz, fun _ h => h⟩
  subst hs
  rw [List.take_length] at h2
  exact ⟨q', ext, h1, h2, h3, h4⟩
theorem latOut_eq {F : Nat} {g : Gr} {m x : Nat} (hg : good g = true) (hF : 20 ≤ F) (hG : g.2.length < F) (hs : Sm g.2.length) (hm : m < 2 ^ g.1.toNat) (hx : x < g.1.toNat) :
    ∀ (d fu k : Nat) (q : Nat → Bool) (seen : List Int), k + d = 9 → d < fu → k ≤ seen.length → Lat g m x q seen → (∀ t, t < k → ∀ y : Nat, seen.getD t 0 = (y : Int) → Fnd m x q seen (listN (adj g y) g.1.toNat)) →
      s_l5Later_l2 F (listN m.testBit g.1.toNat) g fu (listN q g.1.toNat) seen (k : Int) = some (listN (latP g m x) g.1.toNat) := by
  intro d
  induction d with
  | zero =>
    intro fu k q seen hk hd hl hS hC
    have := seen_len hg hS.sn
    omega
  | succ d ih =>
    intro fu k q seen hk hd hl hS hC
    obtain ⟨fu, rfl⟩ : ∃ f, fu = f + 1 := ⟨fu - 1, by omega⟩
    simp only [s_l5Later_l2]
    by_cases hlt : k < seen.length
    · obtain ⟨y, hy, hyn, hyc⟩ := hS.sn.inn _ (getD_mem (d := 0) hlt)
      obtain ⟨q', ext, h1, h2, h3, h4⟩ := latIn_eq (c := s_l5Later_l2 F (listN m.testBit g.1.toNat) g fu) hg hF hm hx hlt hS hy
      rw [decide_eq_true (show (k : Int) < (seen.length : Int) by omega), cond_true, idx_getD (d := 0) hlt, Option.bind_some, hy, neighbors_eq hg hF hG hs, Option.bind_some, h4]
      refine ih fu (k + 1) q' (seen ++ ext) (by omega) (by omega) (by rw [List.length_append]; omega) h1 ?_
      intro t ht w hw
      have hget : (seen ++ ext).getD t 0 = seen.getD t 0 := by
        rw [List.getD_eq_getElem?_getD, List.getElem?_append_left (by omega), ← List.getD_eq_getElem?_getD]
      rw [hget] at hw
      by_cases e : t = k
      · subst e
        rw [hy] at hw
        obtain rfl : y = w := by omega
        exact h2
      · intro z hz
        have := hC t (by omega) w hw z hz
        exact ⟨fun h => by rw [List.mem_append]; exact .inl (this.1 h), fun h => h3 _ (this.2 h)⟩
    · obtain rfl : k = seen.length := by omega
      rw [decide_eq_false (show ¬ (seen.length : Int) < (seen.length : Int) by omega), cond_false]
      congr 1
      apply listN_congr
      intro j hj
      have hxp : wth m x x = true := by unfold wth; simp
      have hsub : ∀ b, comp g (wth m x) x b = true → (b : Int) ∈ seen := by
        intro b hb
        refine of_decide_eq_true (comp_min (C := fun j => decide ((j : Int) ∈ seen)) (decide_eq_true hS.sn.root) ?_ hb)
        intro y b hy hb ha
        have hy' := of_decide_eq_true hy
        obtain ⟨t, ht, e⟩ := List.mem_iff_getElem.1 hy'
        have hget : seen.getD t 0 = (y : Int) := by rw [List.getD_eq_getElem?_getD, List.getElem?_eq_getElem ht, Option.getD_some, e]
        have hbn := (adj_lt hg ha).2.1
        exact decide_eq_true ((hC t ht y hget b (listN_mem.2 ⟨b, rfl, by omega, ha⟩)).1 hb)
      cases hq : q j with
      | true => exact (hS.qin j hq).symm
      | false =>
        cases hl : latP g m x j with
        | false => rfl
        | true =>
          exfalso
          unfold latP at hl
          simp only [Bool.and_eq_true, Bool.not_eq_true'] at hl
          obtain ⟨⟨l1, l2⟩, l3⟩ := hl
          obtain ⟨y, hyn, hy⟩ := anyN_iff.1 l3
          simp only [Bool.and_eq_true] at hy
          obtain ⟨t, ht, e⟩ := List.mem_iff_getElem.1 (hsub y hy.1)
          have hget : seen.getD t 0 = (y : Int) := by rw [List.getD_eq_getElem?_getD, List.getElem?_eq_getElem ht, Option.getD_some, e]
          have := (hC t ht y hget j (listN_mem.2 ⟨j, rfl, hj, hy.2⟩)).2 (by unfold wth; rw [l1, l2]; rfl)
          rw [this] at hq; cases hq
theorem later_eq {F : Nat} {g : Gr} {m x : Nat} (hg : good g = true) (hF : 20 ≤ F) (hG : g.2.length < F) (hs : Sm g.2.length) (hm : m < 2 ^ g.1.toNat) (hx : x < g.1.toNat) :
    s_l5Later F g (listN m.testBit g.1.toNat) (x : Int) = some (listN (latP g m x) g.1.toNat) := by
  unfold s_l5Later
  have hnil : ([] : List Int) = listN (fun _ => false) g.1.toNat := by simp [listN]
  have := latOut_eq (F := F) hg hF hG hs hm hx 9 F 0 (fun _ => false) [(x : Int)] (by omega) (by omega) (by omega) ⟨⟨by simp, fun y hy => by
    simp only [List.mem_singleton] at hy
    exact ⟨x, hy, hx, comp_self⟩, by simp⟩, fun j h => by cases h⟩ (fun t ht => absurd ht (by omega))
  rw [← hnil] at this
  exact this
def rdP (g : Gr) (m x : Nat) : Nat → Nat → Bool
  | 0 => fun j => j == x
  | t + 1 => arnd g (rch g (wth m x) x t)
theorem rd_and {g : Gr} {m x : Nat} : ∀ t j, (rdP g m x t j && wth m x j) = rch g (wth m x) x t j
  | 0, j => by
    show ((j == x) && wth m x j) = (j == x)
    unfold wth
    cases (j == x) <;> simp
  | t + 1, j => by
    show (arnd g (rch g (wth m x) x t) j && wth m x j) = stp g (wth m x) (rch g (wth m x) x t) j
    unfold arnd stp
    have hin := fun h => rch_in (g := g) (p := wth m x) (x := x) (show wth m x x = true by unfold wth; simp) t j h
    cases h1 : rch g (wth m x) x t j with
    | true => rw [hin h1]; rfl
    | false => rw [Bool.false_or, Bool.false_or, Bool.and_comm]
theorem elim_eq {F : Nat} {g : Gr} {m x : Nat} (hg : good g = true) (hF : 20 ≤ F) (hm : m < 2 ^ g.1.toNat) (hx : x < g.1.toNat) : i_net_eliminated F ⟨nearL g⟩ (m : Int) (x : Int) = some (elC g m x) := by
  have h8 := good_size hg
  have h256 := lt256 (by omega) hm
  have hxp : wth m x x = true := by unfold wth; simp
  obtain ⟨T, hT, hst⟩ := rch_stable hg hx hxp
  have hcn := cnt_le (p := wth m x) (n := g.1.toNat)
  have hmx : (ior .i64 (m : Int) ((2 ^ x : Nat) : Int)) = ((mkm (wth m x) g.1.toNat : Nat) : Int) := by
    rw [ior_nat (by omega) (pow_lt (by omega))]
    congr 1
    refine mkm_of fun j => ?_
    rw [Nat.testBit_or, Nat.testBit_two_pow]
    unfold wth
    by_cases hj : j < g.1.toNat
    · rw [decide_eq_true hj, Bool.true_and]
      congr 1
      rw [Bool.eq_iff_iff, decide_eq_true_eq, beq_iff_eq]; omega
    · rw [decide_eq_false hj, Bool.false_and, decide_eq_false (show ¬ x = j by omega), Bool.or_false]
      exact Nat.testBit_lt_two_pow (Nat.lt_of_lt_of_le hm (Nat.pow_le_pow_right (by decide) (by omega)))
  unfold i_net_eliminated
  rw [one_shl (by omega), Option.bind_some]
  have hstart : ((2 ^ x : Nat) : Int) = ((mkm (rdP g m x 0) g.1.toNat : Nat) : Int) := by
    congr 1
    refine mkm_of fun j => ?_
    rw [Nat.testBit_two_pow]
    show decide (x = j) = (decide (j < g.1.toNat) && (j == x))
    by_cases e : j = x
    · subst e; simp [hx]
    · have e1 : (j == x) = false := by simpa using e
      rw [e1, Bool.and_false, decide_eq_false (by omega)]
  have hend : ∀ t, (∀ j, j < g.1.toNat → rdP g m x (t + 1) j = rdP g m x t j) → ∀ j, j < g.1.toNat → (rdP g m x t j && !m.testBit j && !(j == x)) = latP g m x j := by
    intro t he j hj
    have hstab : ∀ j, rch g (wth m x) x (t + 1) j = true → rch g (wth m x) x t j = true := by
      intro j hj
      have hjn := rch_lt hg hx _ _ hj
      rw [← rd_and, he j hjn, rd_and] at hj; exact hj
    have hcomp : ∀ j, rch g (wth m x) x t j = comp g (wth m x) x j := by
      intro j
      rw [Bool.eq_iff_iff]
      constructor
      · intro h
        by_cases hle : t ≤ g.1.toNat
        · exact rch_mono h _ hle
        · have : rch g (wth m x) x (g.1.toNat + (t - g.1.toNat)) j = true := by
            rw [show g.1.toNat + (t - g.1.toNat) = t by omega]; exact h
          have h2 := rch_comp hg hx hxp (s := t) (by omega) j
          rw [← h2]; exact h
      · intro h
        have h3 : rch g (wth m x) x (t + g.1.toNat) j = true := rch_mono h _ (by omega)
        exact rch_stop hstab _ j h3
    rw [← he j hj]
    show (arnd g (rch g (wth m x) x t) j && !m.testBit j && !(j == x)) = latP g m x j
    unfold arnd latP
    have hany : anyN (fun y => rch g (wth m x) x t y && adj g y j) g.1.toNat = anyN (fun y => comp g (wth m x) x y && adj g y j) g.1.toNat := anyN_congr fun y _ => by rw [hcomp y]
    rw [hany, hcomp j]
    cases hb : m.testBit j with
    | true => simp
    | false =>
      cases hjx : (j == x) with
      | true => simp
      | false =>
        have : comp g (wth m x) x j = false := by
          rw [Bool.eq_false_iff]; intro h
          have := comp_in hxp h
          unfold wth at this
          rw [hb, hjx] at this; cases this
        rw [this]; simp
  have key : ∀ d t k, t + d = T + 1 → d < k → i_net_eliminated_l1 F (m : Int) (x : Int) ⟨nearL g⟩ k ((mkm (rdP g m x t) g.1.toNat : Nat) : Int) = some (elC g m x) := by
    intro d
    induction d with
    | zero =>
      intro t k ht hk
      obtain ⟨k, rfl⟩ : ∃ k', k = k' + 1 := ⟨k - 1, by omega⟩
      obtain rfl : t = T + 1 := by omega
      have hsame : ∀ j, j < g.1.toNat → rdP g m x (T + 1 + 1) j = rdP g m x (T + 1) j := by
        intro j _
        have hrr : ∀ j, rch g (wth m x) x (T + 1) j = rch g (wth m x) x T j := fun j => by
          rw [Bool.eq_iff_iff]; exact ⟨hst j, fun h => rch_mono h _ (by omega)⟩
        show arnd g (rch g (wth m x) x (T + 1)) j = arnd g (rch g (wth m x) x T) j
        unfold arnd
        rw [hrr j]
        congr 1
        exact anyN_congr fun y _ => by rw [hrr y]
      simp only [i_net_eliminated_l1]
      rw [one_shl (by omega), Option.bind_some, hmx, iand_nat (mkm_lt63 (by omega)) (mkm_lt63 (by omega))]
      have hnext : (mkm (rdP g m x (T + 1)) g.1.toNat &&& mkm (wth m x) g.1.toNat) = mkm (rch g (wth m x) x (T + 1)) g.1.toNat := by
        refine mkm_of fun j => ?_
        rw [Nat.testBit_and, mkm_bit, mkm_bit, ← rd_and]
        cases decide (j < g.1.toNat) <;> simp
      rw [hnext, around_eq hg (by omega), Option.bind_some]
      have heq : ((mkm (arnd g (rch g (wth m x) x (T + 1))) g.1.toNat : Nat) : Int) = ((mkm (rdP g m x (T + 1)) g.1.toNat : Nat) : Int) := by
        congr 1
        exact mkm_congr fun j hj => hsame j hj
      rw [heq, beq_self_eq_true, cond_true, Option.bind_some]
      obtain ⟨c1, e1, l1, b1⟩ := iandNot_nat (mkm_lt63 (p := rdP g m x (T + 1)) (n := g.1.toNat) (by omega)) (show m < 9223372036854775808 by omega)
      have hml := mkm_256 (p := rdP g m x (T + 1)) (n := g.1.toNat) (by omega)
      obtain ⟨c2, e2, l2, b2⟩ := iandNot_nat (a := c1) (show c1 < 9223372036854775808 by omega) (pow_lt (j := x) (by omega))
      rw [e1, e2, ones_eq (by omega), Option.bind_some]
      congr 2
      have hc2 : c2 = mkm (latP g m x) g.1.toNat := by
        refine mkm_of fun j => ?_
        rw [b2, b1, mkm_bit, Nat.testBit_two_pow]
        by_cases hj : j < g.1.toNat
        · rw [decide_eq_true hj, Bool.true_and, Bool.true_and, ← hend (T + 1) hsame j hj]
          congr 2
          rw [Bool.eq_iff_iff, decide_eq_true_eq, beq_iff_eq]; omega
        · rw [decide_eq_false hj]; rfl
      rw [hc2, popc_mkm (by omega)]
    | succ d ih =>
      intro t k ht hk
      obtain ⟨k, rfl⟩ : ∃ k', k = k' + 1 := ⟨k - 1, by omega⟩
      simp only [i_net_eliminated_l1]
      rw [one_shl (by omega), Option.bind_some, hmx, iand_nat (mkm_lt63 (by omega)) (mkm_lt63 (by omega))]
      have hnext : (mkm (rdP g m x t) g.1.toNat &&& mkm (wth m x) g.1.toNat) = mkm (rch g (wth m x) x t) g.1.toNat := by
        refine mkm_of fun j => ?_
        rw [Nat.testBit_and, mkm_bit, mkm_bit, ← rd_and]
        cases decide (j < g.1.toNat) <;> simp
      rw [hnext, around_eq hg (by omega), Option.bind_some]
      by_cases hE : mkm (arnd g (rch g (wth m x) x t)) g.1.toNat = mkm (rdP g m x t) g.1.toNat
      · have hsame : ∀ j, j < g.1.toNat → rdP g m x (t + 1) j = rdP g m x t j := fun j hj => mkm_ext hE j hj
        rw [hE, beq_self_eq_true, cond_true, Option.bind_some]
        obtain ⟨c1, e1, l1, b1⟩ := iandNot_nat (mkm_lt63 (p := rdP g m x t) (n := g.1.toNat) (by omega)) (show m < 9223372036854775808 by omega)
        have hml := mkm_256 (p := rdP g m x t) (n := g.1.toNat) (by omega)
        obtain ⟨c2, e2, l2, b2⟩ := iandNot_nat (a := c1) (show c1 < 9223372036854775808 by omega) (pow_lt (j := x) (by omega))
        rw [e1, e2, ones_eq (by omega), Option.bind_some]
        congr 2
        have hc2 : c2 = mkm (latP g m x) g.1.toNat := by
          refine mkm_of fun j => ?_
          rw [b2, b1, mkm_bit, Nat.testBit_two_pow]
          by_cases hj : j < g.1.toNat
          · rw [decide_eq_true hj, Bool.true_and, Bool.true_and, ← hend t hsame j hj]
            congr 2
            rw [Bool.eq_iff_iff, decide_eq_true_eq, beq_iff_eq]; omega
          · rw [decide_eq_false hj]; rfl
        rw [hc2, popc_mkm (by omega)]
      · have hb : (((mkm (arnd g (rch g (wth m x) x t)) g.1.toNat : Nat) : Int) == ((mkm (rdP g m x t) g.1.toNat : Nat) : Int)) = false := by
          rw [beq_eq_false_iff_ne]; omega
        rw [hb, cond_false]
        exact ih (t + 1) k (by omega) (by omega)
  have := key (T + 1) 0 F (by omega) (by omega)
  rw [hstart]
  exact this
end Go.Zq
/- Plain mathematics: own copies of arguments; lists that are marked. -/
namespace Go.Zq
theorem toIntA2S_o_eq {F : Nat} {xs : List (Int × Int)} (hF : xs.length < F) (hl : xs.length ≤ 1099511627776) (h3 : 3 ≤ F) : w_toIntA2S_o F xs = some (.of xs) := by
  unfold w_toIntA2S_o
  rw [mkN_nat hl, Option.bind_some]
  refine loop_inv (L := fun k i s => w_toIntA2S_o_l1 F xs k s i) (n := xs.length) (fun i ys => ys.length = xs.length ∧ ys.take i = xs.take i) ?_ ?_ F _ hF (by simp)
  · intro k i s hi hI
    refine ⟨_, copied hI hi, ?_⟩
    simp only [w_toIntA2S_o_l1]
    rw [idx_nat hi, idx_nat (by omega), w64_succ hi (by unfold Sm; omega)]
    simp [hi, toIntA2_eq h3]
  · intro k s hI
    simp only [w_toIntA2S_o_l1]
    rw [copied_end hI]; simp
theorem toGraph_o_eq {F : Nat} {g : Int × List (Int × Int)} (hF : g.2.length < F) (hl : g.2.length ≤ 1099511627776) (h3 : 3 ≤ F) : w_toGraph_o F g = some (g.1, .of g.2) := by
  unfold w_toGraph_o
  rw [toIntA2S_o_eq hF hl h3]; rfl
def mkd (n : Nat) (k : Int) : List Int := (List.range n).map fun (i : Nat) => k + (i : Int)
theorem mkd_length {n : Nat} {k : Int} : (mkd n k).length = n := by simp [mkd]
theorem mkd_get {n i : Nat} {k : Int} (h : i < n) : idx (mkd n k) (i : Int) = some (k + i) := by
  rw [idx_nat (by rw [mkd_length]; exact h)]
  simp [mkd]
theorem markIntS_eq {F : Nat} {o : NL Int} {k : Int} (hF : o.list.length < F) (hl : o.list.length ≤ 1099511627776) (h0 : 0 ≤ k) (hk : k ≤ 4611686018427387904) :
    ∃ o', w_markIntS F ⟨o⟩ k = some (k + o.list.length, o') ∧ remark o o' = some o' ∧ o'.list = mkd o.list.length k := by
  cases o with
  | nil =>
    obtain ⟨j, rfl⟩ : ∃ j, F = j + 1 := ⟨F - 1, by omega⟩
    exact ⟨.nil, by simp [w_markIntS, w_markIntS_l1, NL.list], rfl, by simp [NL.list, mkd]⟩
  | of xs =>
    simp only [NL.list] at hF hl ⊢
    obtain ⟨s, ⟨ys, h1, h2, h3, h4⟩, h5⟩ := loop_ex (L := fun j i (s : NL Int × Int) => w_markIntS_l1 F j s.1 s.2 i) (n := xs.length) (fin := fun s => some (s.2, s.1))
      (fun i s => ∃ ys : List Int, s.1 = .of ys ∧ ys.length = xs.length ∧ s.2 = k + i ∧ ∀ j, j < i → ys[j]? = some (k + (j : Int)))
      (by
        rintro j i ⟨a, b⟩ hi ⟨ys, rfl, h2, rfl, h4⟩
        refine ⟨(.of (ys.set i (k + i)), k + ((i + 1 : Nat) : Int)), ⟨_, rfl, by simp [h2], rfl, ?_⟩, ?_⟩
        · intro m hm
          rw [List.getElem?_set]
          by_cases e : i = m
          · subst e; simp [h2, hi]
          · simp only [e, if_false]; exact h4 m (by omega)
        · simp only [w_markIntS_l1, NL.list]
          have : decide ((i : Int) < (ys.length : Int)) = true := by simp; omega
          change (bif decide ((i : Int) < (ys.length : Int)) then _ else _) = _
          rw [this, cond_true, idx_nat (by omega), Option.bind_some, w64_succ hi (by unfold Sm; omega), w64_id (x := k + i + 1) (by omega) (by omega)]
          simp only [NL.set, Int.toNat_natCast]
          congr 1
          omega)
      (by
        rintro j ⟨a, b⟩ ⟨ys, rfl, h2, rfl, h4⟩
        simp only [w_markIntS_l1, NL.list, h2]
        simp) F (.of xs, k) hF ⟨xs, rfl, rfl, by simp, by simp⟩
    obtain ⟨a, b⟩ := s
    simp only at h1 h3 h5
    subst h1; subst h3
    refine ⟨.of ys, ?_, by simp [remark, h2], ?_⟩
    · unfold w_markIntS; exact h5
    · simp only [NL.list]
      apply List.ext_getElem?
      intro i
      by_cases hi : i < xs.length
      · rw [h4 i hi]; simp [mkd, hi]
      · rw [List.getElem?_eq_none (by omega), List.getElem?_eq_none (by rw [mkd_length]; omega)]
theorem heldIntS_eq {F n : Nat} {k : Int} (hF : n < F) (hl : n ≤ 1099511627776) (h0 : 0 ≤ k) (hk : k ≤ 4611686018427387904) : w_heldIntS F (mkd n k) k = some (k + n) := by
  unfold w_heldIntS
  refine loop_inv (L := fun j i s => w_heldIntS_l1 F (mkd n k) j s i) (n := n) (fun i s => s = k + (i : Int)) ?_ ?_ F _ hF (by simp)
  · rintro j i s hi rfl
    refine ⟨_, rfl, ?_⟩
    simp only [w_heldIntS_l1, mkd_length]
    have : decide ((i : Int) < (n : Int)) = true := by simpa using hi
    rw [this, cond_true, mkd_get hi, Option.bind_some, w64_succ hi (by unfold Sm; omega), w64_id (x := k + i + 1) (by omega) (by omega)]
    simp only [bne_self_eq_false, cond_false]
    congr 1
    omega
  · rintro j s rfl
    simp only [w_heldIntS_l1, mkd_length]
    simp
theorem set2_length {α : Type} {xs : List (α × α)} {i : Nat} {j : Int} {b : α} : (set2 xs i j b).length = xs.length := by
  unfold set2
  split <;> simp
theorem markGraph_eq {F : Nat} {a : Int} {xs : List (Int × Int)} {k : Int} (hF : xs.length < F) (h3 : 3 ≤ F) (hl : xs.length ≤ 1099511627776) (h0 : 0 ≤ k) (hk : k ≤ 4611686018427387904) :
    w_markGraph F ⟨a, .of xs⟩ k = some (k + 2 * xs.length) := by
  obtain ⟨s, ⟨ys, h1, h2, h4⟩, h5⟩ := loop_ex (L := fun j i (s : NL (Int × Int) × Int) => w_markIntA2S_l2 F j s.1 s.2 i) (n := xs.length) (fin := fun s => some (s.2, s.1))
      (fun i s => ∃ ys : List (Int × Int), s.1 = .of ys ∧ ys.length = xs.length ∧ s.2 = k + 2 * (i : Int))
      (by
        rintro j i ⟨a, b⟩ hi ⟨ys, rfl, h2, rfl⟩
        refine ⟨(.of (set2 (set2 ys i 0 (k + 2 * i)) i 1 (k + 2 * i + 1)), k + 2 * ((i + 1 : Nat) : Int)), ⟨_, rfl, by simp [set2_length, h2], rfl⟩, ?_⟩
        simp only [w_markIntA2S_l2, NL.list]
        have : decide ((i : Int) < (ys.length : Int)) = true := by simp; omega
        change (bif decide ((i : Int) < (ys.length : Int)) then _ else _) = _
        rw [this, cond_true]
        obtain ⟨f, rfl⟩ : ∃ f, F = f + 3 := ⟨F - 3, by omega⟩
        rw [w_markIntA2S_l1]
        simp only [NL.list]
        rw [idx_nat (by omega)]
        rw [show (decide ((0 : Int) < 2)) = true from rfl, cond_true, Option.bind_some]
        rw [show idx [(ys[i]'(by omega)).1, (ys[i]'(by omega)).2] 0 = some (ys[i]'(by omega)).1 from rfl, Option.bind_some]
        rw [show w64 (0 + 1) = 1 from by decide, w64_id (x := k + 2 * i + 1) (by omega) (by omega)]
        simp only [NL.set2, Int.toNat_natCast]
        rw [w_markIntA2S_l1]
        simp only [NL.list]
        rw [idx_nat (by rw [set2_length]; omega)]
        rw [show (decide ((1 : Int) < 2)) = true from rfl, cond_true, Option.bind_some]
        rw [show ∀ u v : Int, idx [u, v] 1 = some v from fun _ _ => rfl, Option.bind_some]
        rw [show w64 (1 + 1) = 2 from by decide, w64_id (x := k + 2 * i + 1 + 1) (by omega) (by omega)]
        simp only [NL.set2, Int.toNat_natCast]
        rw [w_markIntA2S_l1]
        rw [show (decide ((2 : Int) < 2)) = false from rfl, cond_false, w64_succ hi (by unfold Sm; omega)]
        congr 1
        omega)
      (by
        rintro j ⟨a, b⟩ ⟨ys, rfl, h2, rfl⟩
        simp only [w_markIntA2S_l2, NL.list, h2]
        simp) F (.of xs, k) hF ⟨xs, rfl, rfl, by simp⟩
  obtain ⟨u, b⟩ := s
  simp only at h1 h4 h5
  subst h1; subst h4
  unfold w_markGraph w_markIntA2S
  rw [h5]; rfl
end Go.Zq
/- Plain mathematics: later neighbors, as a list of one's own. -/
namespace Go.Zq
theorem bmap {α β γ : Type} {x : Option α} {f : α → Option β} {f' : α → Option γ} {h : β → γ} (H : ∀ a, f' a = (f a).map h) : x.bind f' = (x.bind f).map h := by
  cases x with
  | none => rfl
  | some a => exact H a
theorem cmap {β γ : Type} {t : Bool} {a b : Option β} {a' b' : Option γ} {h : β → γ} (H1 : a' = a.map h) (H2 : b' = b.map h) : (bif t then a' else b') = (bif t then a else b).map h := by
  cases t with
  | true => exact H1
  | false => exact H2
theorem put_o {F : Nat} {l : List Int} {n : Int} : s_l1Put_o F ⟨.of l⟩ n = (s_l1Put F l n).map NL.of := by
  have hj : ∀ (k : Int) (t : Bool), s_l1Put_o_j1 F ⟨.of l⟩ n k t = (s_l1Put_j1 F l n k t).map NL.of := by
    intro k t
    simp only [s_l1Put_o_j1, s_l1Put_j1, ofNL, Option.bind_some]
    exact cmap rfl (bmap fun _ => bmap fun _ => bmap fun _ => bmap fun _ => bmap fun _ => rfl)
  have key : ∀ (k : Nat) (i : Int), s_l1Put_o_l1 F ⟨.of l⟩ n k i = (s_l1Put_l1 F l n k i).map NL.of := by
    intro k
    induction k with
    | zero => intro i; rfl
    | succ k ih =>
      intro i
      have hj2 : ∀ t, s_l1Put_o_j2 F ⟨.of l⟩ n i (s_l1Put_o_l1 F ⟨.of l⟩ n k) t = (s_l1Put_j2 F l n i (s_l1Put_l1 F l n k) t).map NL.of := by
        intro t
        simp only [s_l1Put_o_j2, s_l1Put_j2]
        exact cmap (ih _) (cmap (bmap fun _ => hj i _) (hj i _))
      simp only [s_l1Put_o_l1, s_l1Put_l1]
      exact cmap (bmap fun _ => hj2 _) (hj2 _)
  exact key F 0
theorem later_o {F : Nat} {g : Gr} {a : List Int} {x : Int} : s_l5Later_o F g a x = (s_l5Later F g a x).map NL.of := by
  have h1 : ∀ (kk : Int) (r : List Int) (c : List Int → List Int → Int → Option (List Int)) (c' : NL Int → List Int → Int → Option (NL Int)), (∀ o s i, c' (.of o) s i = (c o s i).map NL.of) →
      ∀ (k : Nat) (o s : List Int) (i : Int), s_l5Later_o_l1 F a g kk r c' k (.of o) s i = (s_l5Later_l1 F a g kk r c k o s i).map NL.of := by
    intro kk r c c' hc k
    induction k with
    | zero => intro o s i; rfl
    | succ k ih =>
      intro o s i
      simp only [s_l5Later_o_l1, s_l5Later_l1, s_l5Later_o_j1, s_l5Later_j1, put_o]
      refine cmap (bmap fun e => bmap fun t => cmap (ih _ _ _) (bmap fun e2 => bmap fun t2 => cmap (bmap fun e3 => bmap fun s2 => ih _ _ _) (bmap fun e4 => ?_))) (hc _ _ _)
      cases s_l1Put F o e4 with
      | none => rfl
      | some o2 => exact ih _ _ _
  have h2 : ∀ (k : Nat) (o s : List Int) (i : Int), s_l5Later_o_l2 F a g k (.of o) s i = (s_l5Later_l2 F a g k o s i).map NL.of := by
    intro k
    induction k with
    | zero => intro o s i; rfl
    | succ k ih =>
      intro o s i
      simp only [s_l5Later_o_l2, s_l5Later_l2]
      exact cmap (bmap fun e => bmap fun r => h1 _ _ _ _ ih _ _ _ _) rfl
  exact h2 _ _ _ _
end Go.Zq
/- Plain mathematics: the treewidth. -/
namespace Go.Zq
theorem best_eliminated {F : Nat} {g : Gr} {nn : Int} (hg : good g = true) (hF : 300 ≤ F) :
    ∃ best : List Int, i_net_bestOrders_of_i_net_eliminated F ⟨nearL g⟩ nn ⟨(⟨nearL g⟩, ()), ()⟩ = some best ∧ best.length = 2 ^ g.1.toNat ∧ IsBack g.1.toNat (elC g) nn (fun m => best.getD m 0) := by
  have h8 := good_size hg
  obtain ⟨n, hn⟩ : ∃ n : Nat, g.1.toNat = n := ⟨_, rfl⟩
  have hn8 : n ≤ 8 := by omega
  have hpow := Nat.two_pow_pos n
  have hp256 : 2 ^ n ≤ 256 := by
    have := Nat.pow_le_pow_right (n := 2) (by decide) hn8
    simpa using this
  have hall : i_net_all F ⟨nearL g⟩ = some ((2 ^ n - 1 : Nat) : Int) := by
    unfold i_net_all
    rw [nearL_len, hn, one_shl (by omega), Option.bind_some, w64_id (by omega) (by omega)]
    congr 1; omega
  have hw : w64 (((2 ^ n - 1 : Nat) : Int) + 1) = ((2 ^ n : Nat) : Int) := by rw [w64_id (by omega) (by omega)]; omega
  unfold i_net_bestOrders_of_i_net_eliminated
  rw [hall, Option.bind_some, hw, mkN_nat (by omega), Option.bind_some, Option.bind_some, hn]
  have key : ∀ d k (best : List Int), d ≤ 2 ^ n → d < k → best.length = 2 ^ n →
      (∀ j, d ≤ j → j < 2 ^ n → best.getD j 0 = mn (fun x => max (elC g j x.toNat) (best.getD (j ||| 2 ^ x.toNat) 0)) (outs n j) nn) →
      ∃ b, i_net_bestOrders_of_i_net_eliminated_l2 F nn ⟨(⟨nearL g⟩, ()), ()⟩ ⟨nearL g⟩ k best ((d : Int) - 1) = some b ∧ b.length = 2 ^ n ∧ IsBack n (elC g) nn (fun m => b.getD m 0) := by
    intro d
    induction d with
    | zero =>
      intro k best _ hk hlen hrec
      obtain ⟨k, rfl⟩ : ∃ k', k = k' + 1 := ⟨k - 1, by omega⟩
      refine ⟨best, ?_, hlen, fun m hm => hrec m (by omega) hm⟩
      simp only [i_net_bestOrders_of_i_net_eliminated_l2]
      rw [decide_eq_false (by omega), cond_false]
    | succ d ih =>
      intro k best hd hk hlen hrec
      obtain ⟨k, rfl⟩ : ∃ k', k = k' + 1 := ⟨k - 1, by omega⟩
      have hdn : d < 2 ^ n := by omega
      have e0 : ((d + 1 : Nat) : Int) - 1 = (d : Int) := by omega
      have hmk : iandNot .i64 ((2 ^ n - 1 : Nat) : Int) (d : Int) = ((mkm (fun x => !d.testBit x) n : Nat) : Int) := by
        obtain ⟨c, hc, _, hb⟩ := iandNot_nat (a := 2 ^ n - 1) (b := d) (by omega) (by omega)
        rw [hc]
        congr 1
        refine mkm_of fun j => ?_
        rw [hb, Nat.testBit_two_pow_sub_one]
      have hl8 : (outs n d).length ≤ 8 := by unfold outs; rw [listN_len]; exact Nat.le_trans cnt_le hn8
      simp only [i_net_bestOrders_of_i_net_eliminated_l2]
      rw [e0, decide_eq_true (by omega), cond_true, idx_getD (d := 0) (by omega), Option.bind_some, hall, Option.bind_some, hmk, setOf_eq hn8 (by omega), Option.bind_some, Int.toNat_natCast]
      obtain ⟨s, hs, he⟩ := loop_ex (L := fun k2 t s => i_net_bestOrders_of_i_net_eliminated_l1 F nn ⟨(⟨nearL g⟩, ()), ()⟩ ⟨nearL g⟩ (d : Int) (outs n d) (i_net_bestOrders_of_i_net_eliminated_l2 F nn ⟨(⟨nearL g⟩, ()), ()⟩ ⟨nearL g⟩ k) k2 s t) (n := (outs n d).length)
        (fun t s => s = best.set d (mn (fun x => max (elC g d x.toNat) (best.getD (d ||| 2 ^ x.toNat) 0)) ((outs n d).take t) nn)) (fin := fun s => i_net_bestOrders_of_i_net_eliminated_l2 F nn ⟨(⟨nearL g⟩, ()), ()⟩ ⟨nearL g⟩ k s ((d : Int) - 1)) (by
          intro k2 t s ht hI
          subst hI
          refine ⟨_, rfl, ?_⟩
          obtain ⟨x, hx, hxn, hxb⟩ := outs_mem.1 (getD_mem (d := 0) ht)
          have hgt := add_all d (by omega) x (by omega) hxb
          have hxp := Nat.two_pow_pos x
          have hor := or_lt hdn hxn
          have hcost := elim_eq (F := F) (m := d) (x := x) hg (by omega) (by rw [hn]; exact hdn) (by rw [hn]; exact hxn)
          have htake : (outs n d).take (t + 1) = (outs n d).take t ++ [(x : Int)] := by
            rw [List.take_add_one, List.getElem?_eq_getElem ht]
            rw [List.getD_eq_getElem?_getD, List.getElem?_eq_getElem ht, Option.getD_some] at hx
            rw [hx]; rfl
          have hget : ∀ a : Int, (best.set d a).getD (d ||| 2 ^ x) 0 = best.getD (d ||| 2 ^ x) 0 := by
            intro a
            rw [List.getD_eq_getElem?_getD, List.getElem?_set_ne (by omega), ← List.getD_eq_getElem?_getD]
          have hgetd : ∀ a : Int, (best.set d a).getD d 0 = a := by
            intro a
            rw [List.getD_eq_getElem?_getD, List.getElem?_set_self (by omega), Option.getD_some]
          simp only [i_net_bestOrders_of_i_net_eliminated_l1, i_net_bestOrders_of_i_net_eliminated_j1, i_net_bestOrders_of_i_net_eliminated_j2]
          rw [decide_eq_true (show (t : Int) < ((outs n d).length : Int) by omega), cond_true, idx_getD (d := 0) ht, Option.bind_some, hx]
          rw [hcost, Option.bind_some, one_shl (by omega), Option.bind_some, ior_nat (by omega) (pow_lt (by omega)), idx_getD (d := 0) (by rw [List.length_set]; omega), Option.bind_some, hget, idx_getD (d := 0) (by rw [List.length_set]; omega), Option.bind_some, Option.bind_some, hgetd, Int.toNat_natCast, List.set_set, w64_succ ht (by unfold Sm; omega), htake, mn_snoc]
          have hmax : (if best.getD (d ||| 2 ^ x) 0 > elC g d x then best.getD (d ||| 2 ^ x) 0 else elC g d x) = max (elC g d x) (best.getD (d ||| 2 ^ x) 0) := by
            by_cases h : best.getD (d ||| 2 ^ x) 0 > elC g d x
            · rw [if_pos h, Int.max_eq_right (by omega)]
            · rw [if_neg h, Int.max_eq_left (by omega)]
          rw [hmax, Int.toNat_natCast]
          by_cases ht0 : t = 0
          · subst ht0
            rw [if_pos (.inl (by simp))]
            rfl
          · have hne : (outs n d).take t ≠ [] := by
              intro e
              have := congrArg List.length e
              rw [List.length_take] at this
              simp only [List.length_nil] at this
              omega
            have hb : ((t : Int) == 0) = false := by rw [beq_eq_false_iff_ne]; omega
            rw [hb, cond_false]
            by_cases hlt : max (elC g d x) (best.getD (d ||| 2 ^ x) 0) < mn (fun x => max (elC g d x.toNat) (best.getD (d ||| 2 ^ x.toNat) 0)) ((outs n d).take t) nn
            · rw [decide_eq_true hlt, cond_true, if_pos (.inr hlt)]
            · rw [decide_eq_false hlt, cond_false, if_neg (fun h => h.elim hne hlt)]) (by
          intro k2 s hI
          simp only [i_net_bestOrders_of_i_net_eliminated_l1]
          rw [decide_eq_false (show ¬ ((outs n d).length : Int) < ((outs n d).length : Int) by omega), cond_false, w64_id (by omega) (by omega)]) F (best.set d nn) (by omega) rfl
      have he' : i_net_bestOrders_of_i_net_eliminated_l1 F nn ⟨(⟨nearL g⟩, ()), ()⟩ ⟨nearL g⟩ (d : Int) (outs n d) (i_net_bestOrders_of_i_net_eliminated_l2 F nn ⟨(⟨nearL g⟩, ()), ()⟩ ⟨nearL g⟩ k) F (best.set d nn) 0 = i_net_bestOrders_of_i_net_eliminated_l2 F nn ⟨(⟨nearL g⟩, ()), ()⟩ ⟨nearL g⟩ k s ((d : Int) - 1) := he
      rw [List.take_length] at hs
      rw [show listN (fun x => !d.testBit x) n = outs n d from rfl, he']
      refine ih k s (by omega) (by omega) (by rw [hs, List.length_set]; exact hlen) ?_
      have hsd : s.getD d 0 = mn (fun x => max (elC g d x.toNat) (best.getD (d ||| 2 ^ x.toNat) 0)) (outs n d) nn := by
        rw [hs, List.getD_eq_getElem?_getD, List.getElem?_set_self (by omega), Option.getD_some]
      have hsne : ∀ j, j ≠ d → s.getD j 0 = best.getD j 0 := by
        intro j hj
        rw [hs, List.getD_eq_getElem?_getD, List.getElem?_set_ne (by omega), ← List.getD_eq_getElem?_getD]
      intro j h1 h2
      have hcg : mn (fun x => max (elC g j x.toNat) (best.getD (j ||| 2 ^ x.toNat) 0)) (outs n j) nn = mn (fun x => max (elC g j x.toNat) (s.getD (j ||| 2 ^ x.toNat) 0)) (outs n j) nn := by
        refine mn_congr fun y hy => ?_
        obtain ⟨x, rfl, hxn, hxb⟩ := outs_mem.1 hy
        have hgt := add_all j (by omega) x (by omega) hxb
        have hxp := Nat.two_pow_pos x
        rw [Int.toNat_natCast, hsne _ (by omega)]
      by_cases e : j = d
      · subst e; rw [hsd, hcg]
      · rw [hsne j e, hrec j (by omega) h2, hcg]
  have e1 : ((2 ^ n - 1 : Nat) : Int) = ((2 ^ n : Nat) : Int) - 1 := by omega
  rw [e1]
  exact key (2 ^ n) F _ (by omega) (by omega) (by simp) (fun j h1 h2 => absurd h2 (by omega))
theorem trests_eq {F : Nat} {g : Gr} (hg : good g = true) (hF : 300 ≤ F) (hG : g.2.length < F) (hs : Sm g.2.length) :
    ∃ out : List Int, s_l5Rests F g = some out ∧ out.length = 2 ^ g.1.toNat ∧ IsBack g.1.toNat (elC g) (-1) (fun m => out.getD m 0) := by
  have h8 := good_size hg
  obtain ⟨n, hn⟩ : ∃ n : Nat, g.1.toNat = n := ⟨_, rfl⟩
  have hn8 : n ≤ 8 := by omega
  have hgn : g.1 = (n : Int) := by omega
  have hpow := Nat.two_pow_pos n
  have hp256 := pow256 hn8
  rw [hn]
  unfold s_l5Rests
  rw [hgn, one_shl (by omega), Option.bind_some, mkN_nat (by omega), Option.bind_some, List.length_replicate]
  have hw0 : w64 (((2 ^ n : Nat) : Int) - 1) = ((2 ^ n : Nat) : Int) - 1 := w64_id (by omega) (by omega)
  rw [hw0]
  have key : ∀ d k (out : List Int), d ≤ 2 ^ n → d < k → out.length = 2 ^ n →
      (∀ j, d ≤ j → j < 2 ^ n → out.getD j 0 = mn (fun x => max (elC g j x.toNat) (out.getD (j ||| 2 ^ x.toNat) 0)) (outs n j) (-1)) →
      ∃ b, s_l5Rests_l2 F g k out ((d : Int) - 1) = some b ∧ b.length = 2 ^ n ∧ IsBack n (elC g) (-1) (fun m => b.getD m 0) := by
    intro d
    induction d with
    | zero =>
      intro k out _ hk hlen hrec
      obtain ⟨k, rfl⟩ : ∃ k', k = k' + 1 := ⟨k - 1, by omega⟩
      refine ⟨out, ?_, hlen, fun m hm => hrec m (by omega) hm⟩
      simp only [s_l5Rests_l2]
      rw [decide_eq_false (by omega), cond_false]
    | succ d ih =>
      intro k out hd hk hlen hrec
      obtain ⟨k, rfl⟩ : ∃ k', k = k' + 1 := ⟨k - 1, by omega⟩
      have hdn : d < 2 ^ n := by omega
      have e0 : ((d + 1 : Nat) : Int) - 1 = (d : Int) := by omega
      have hv0 : ∀ y, 0 ≤ (fun x : Int => max (elC g d x.toNat) (out.getD (d ||| 2 ^ x.toNat) 0)) y := by
        intro y
        show 0 ≤ max (elC g d y.toNat) (out.getD (d ||| 2 ^ y.toNat) 0)
        have : 0 ≤ elC g d y.toNat := by unfold elC; omega
        omega
      simp only [s_l5Rests_l2]
      rw [e0, decide_eq_true (by omega), cond_true, hgn, bits_eq hn8 (by omega) (by omega), Option.bind_some]
      obtain ⟨s, hs2, he⟩ := loop_ex (L := fun k2 x b => s_l5Rests_l1 F g out (d : Int) (listN d.testBit n) (s_l5Rests_l2 F g k) k2 b x) (n := n)
        (fun x b => b = mn (fun x => max (elC g d x.toNat) (out.getD (d ||| 2 ^ x.toNat) 0)) (listN (fun x => !d.testBit x) x) (-1)) (fin := fun b => s_l5Rests_l2 F g k (out.set d b) ((d : Int) - 1)) (by
          intro k2 x b hx hI
          subst hI
          refine ⟨_, rfl, ?_⟩
          simp only [s_l5Rests_l1, s_l5Rests_j1, s_l5Rests_j2]
          rw [hgn, decide_eq_true (show (x : Int) < (n : Int) by omega), cond_true, has_listN hn8 hx (by omega), Option.bind_some, w64_succ hx (by unfold Sm; omega)]
          cases hb : d.testBit x with
          | true => rw [cond_true, listN_succ, hb]; simp
          | false =>
            have hgt := add_all d (by omega) x (by omega) hb
            have hor := or_lt hdn hx
            have hxp := Nat.two_pow_pos x
            have hw : w64 ((d : Int) + ((2 ^ x : Nat) : Int)) = ((d ||| 2 ^ x : Nat) : Int) := by rw [w64_id (by omega) (by omega)]; omega
            have hlat := later_eq (F := F) (m := d) (x := x) hg (by omega) hG hs (by rw [hn]; exact hdn) (by rw [hn]; exact hx)
            rw [hn] at hlat
            have hlat' : s_l5Later_o F g (listN (fun j => d.testBit j) n) (x : Int) = some (.of (listN (latP g d x) n)) := by rw [later_o]; exact congrArg (Option.map NL.of) hlat
            have hlen' : ((NL.of (listN (latP g d x) n)).list.length : Int) = ((cntN (latP g d x) n : Nat) : Int) := by show ((listN (latP g d x) n).length : Int) = _; rw [listN_len]
            rw [cond_false, hlat', Option.bind_some, one_shl (by omega), Option.bind_some, hw, idx_getD (d := 0) (by omega), Option.bind_some, hlen', most_eq, Option.bind_some, listN_succ, hb, Bool.not_false, if_pos rfl, mn_snoc, Int.toNat_natCast]
            have hel : ((cntN (latP g d x) n : Nat) : Int) = elC g d x := by unfold elC; rw [hn]
            rw [hel]
            by_cases hl : listN (fun x => !d.testBit x) x = []
            · rw [hl, mn_nil, if_pos (.inl rfl), decide_eq_true (by omega)]; rfl
            · have h0 := mn_nonneg (nn := -1) hl (fun y _ => hv0 y)
              rw [decide_eq_false (by omega), cond_false]
              by_cases hlt : max (elC g d x) (out.getD (d ||| 2 ^ x) 0) < mn (fun x => max (elC g d x.toNat) (out.getD (d ||| 2 ^ x.toNat) 0)) (listN (fun x => !d.testBit x) x) (-1)
              · rw [decide_eq_true hlt, cond_true, if_pos (.inr hlt)]
              · rw [decide_eq_false hlt, cond_false, if_neg (fun h => h.elim hl hlt)]) (by
          intro k2 b hI
          simp only [s_l5Rests_l1]
          rw [hgn, decide_eq_false (show ¬ (n : Int) < (n : Int) by omega), cond_false, idx_getD (d := 0) (by omega), Option.bind_some, Int.toNat_natCast, w64_id (by omega) (by omega)]) F (-1) (by omega) rfl
      have he' : s_l5Rests_l1 F g out (d : Int) (listN d.testBit n) (s_l5Rests_l2 F g k) F (-1) 0 = s_l5Rests_l2 F g k (out.set d s) ((d : Int) - 1) := he
      rw [he']
      have hsd : (out.set d s).getD d 0 = s := by rw [List.getD_eq_getElem?_getD, List.getElem?_set_self (by omega), Option.getD_some]
      have hsne : ∀ j, j ≠ d → (out.set d s).getD j 0 = out.getD j 0 := by
        intro j hj
        rw [List.getD_eq_getElem?_getD, List.getElem?_set_ne (by omega), ← List.getD_eq_getElem?_getD]
      refine ih k (out.set d s) (by omega) (by omega) (by rw [List.length_set]; exact hlen) ?_
      intro j h1 h2
      have hcg : mn (fun x => max (elC g j x.toNat) (out.getD (j ||| 2 ^ x.toNat) 0)) (outs n j) (-1) = mn (fun x => max (elC g j x.toNat) ((out.set d s).getD (j ||| 2 ^ x.toNat) 0)) (outs n j) (-1) := by
        refine mn_congr fun y hy => ?_
        obtain ⟨x, rfl, hxn, hxb⟩ := outs_mem.1 hy
        have hgt := add_all j (by omega) x (by omega) hxb
        have hxp := Nat.two_pow_pos x
        rw [Int.toNat_natCast, hsne _ (by omega)]
      by_cases e : j = d
      · subst e; rw [hsd, ← hcg]; exact hs2
      · rw [hsne j e, hrec j (by omega) h2, hcg]
  exact key (2 ^ n) F _ (by omega) (by omega) (by simp) (fun j h1 h2 => absurd h2 (by omega))
end Go.Zq
/- Plain mathematics: parts, and what is connected. -/
namespace Go.Zq
end Go.Zq
/- Plain mathematics: fronts, as lists of one's own. -/
namespace Go.Zq
end Go.Zq
/- Plain mathematics: the cutwidth of a layout. -/
namespace Go.Zq
end Go.Zq
/- Plain mathematics: the sizes of the fronts of a layout. -/
namespace Go.Zq
end Go.Zq
/- Plain mathematics: the program of a layout. -/
namespace Go.Zq
end Go.Zq
/- Plain mathematics: neighbors as lists. -/
namespace Go.Zq
end Go.Zq
/- Plain mathematics: sets that stop a fire. -/
namespace Go.Zq
theorem cnt_split {p q : Nat → Bool} : ∀ n, cntN p n = cntN (fun j => q j && p j) n + cntN (fun j => p j && !q j) n := by
  intro n
  rw [cnt_sum, cnt_sum, cnt_sum, ← sum_add]
  refine sum_congr fun i _ => ?_
  cases p i <;> cases q i <;> rfl
end Go.Zq
