/- Plain mathematics: what the functions answer (part 2). Conditions: stated in each theorem. -/
import Derived.Test.YthblbfcloccopaaM1
set_option linter.unusedVariables false
set_option linter.unusedSimpArgs false
/- Plain mathematics: least values over lists; tables over sets, from below and from above. -/
namespace Go.Zq

def mstep (v : Int → Int) (s : Option Int) (y : Int) : Option Int := match s with
  | none => some (v y)
  | some b => if v y < b then some (v y) else some b
/-- the least value over a list -/
def mnO (v : Int → Int) (l : List Int) : Option Int := l.foldl (mstep v) none
def mn (v : Int → Int) (l : List Int) (nn : Int) : Int := (mnO v l).getD nn

theorem mnO_snoc {v : Int → Int} {l : List Int} {y : Int} : mnO v (l ++ [y]) = mstep v (mnO v l) y := by simp [mnO, List.foldl_append]
theorem mnO_none {v : Int → Int} : ∀ {l : List Int}, mnO v l = none ↔ l = [] := by
  intro l
  constructor
  · intro h
    cases hl : l.reverse with
    | nil => simpa using hl
    | cons y ys =>
      have : l = ys.reverse ++ [y] := by rw [← List.reverse_reverse l, hl]; simp
      rw [this, mnO_snoc] at h
      unfold mstep at h
      split at h
      · cases h
      · split at h <;> cases h
  · rintro rfl; rfl
theorem mn_nil {v : Int → Int} {nn : Int} : mn v [] nn = nn := rfl
theorem mn_snoc {v : Int → Int} {l : List Int} {y nn : Int} : mn v (l ++ [y]) nn = if l = [] ∨ v y < mn v l nn then v y else mn v l nn := by
  unfold mn
  rw [mnO_snoc]
  cases h : mnO v l with
  | none =>
    have := mnO_none.1 h
    rw [if_pos (.inl this)]; rfl
  | some b =>
    have hne : l ≠ [] := fun e => by rw [mnO_none.2 e] at h; cases h
    simp only [mstep, Option.getD_some, hne, false_or]
    split <;> rfl
theorem mn_congr {v w : Int → Int} {nn : Int} {l : List Int} (h : ∀ y ∈ l, v y = w y) : mn v l nn = mn w l nn := by
  have key : ∀ (l : List Int) (s : Option Int), (∀ y ∈ l, v y = w y) → l.foldl (mstep v) s = l.foldl (mstep w) s := by
    intro l
    induction l with
    | nil => intro s _; rfl
    | cons y l ih =>
      intro s h
      simp only [List.foldl_cons]
      have : mstep v s y = mstep w s y := by
        unfold mstep
        rw [h y (by simp)]
      rw [this]
      exact ih _ fun z hz => h z (by simp [hz])
  unfold mn mnO
  rw [key l none h]
theorem mn_le {v : Int → Int} {nn t : Int} {l : List Int} (hl : l ≠ []) : mn v l nn ≤ t ↔ ∃ y ∈ l, v y ≤ t := by
  have key : ∀ (r : List Int), r ≠ [] → (mn v r.reverse nn ≤ t ↔ ∃ y ∈ r, v y ≤ t) := by
    intro r
    induction r with
    | nil => intro h; exact absurd rfl h
    | cons y r ih =>
      intro _
      rw [List.reverse_cons, mn_snoc]
      by_cases hr : r = []
      · subst hr
        simp
      · have hr' : r.reverse ≠ [] := by simpa using hr
        have := ih hr
        simp only [hr', false_or, List.mem_cons, exists_eq_or_imp]
        split
        · rename_i h
          constructor
          · intro h1; exact .inl h1
          · rintro (h1 | h1)
            · exact h1
            · have := this.2 h1; omega
        · rename_i h
          constructor
          · intro h1; exact .inr (this.1 h1)
          · rintro (h1 | h1)
            · omega
            · exact this.2 h1
  have := key l.reverse (by simpa using hl)
  simpa using this
theorem mn_nonneg {v : Int → Int} {nn : Int} {l : List Int} (hl : l ≠ []) (h : ∀ y ∈ l, 0 ≤ v y) : 0 ≤ mn v l nn := by
  by_cases h0 : mn v l nn ≤ -1
  · obtain ⟨y, hy, h1⟩ := (mn_le hl).1 h0
    have := h y hy; omega
  · omega

/-- the nodes that are missing in a set, and those that are there -/
def outs (n m : Nat) : List Int := listN (fun x => !m.testBit x) n
theorem outs_mem {n m : Nat} {y : Int} : y ∈ outs n m ↔ ∃ x : Nat, y = x ∧ x < n ∧ m.testBit x = false := by
  unfold outs
  rw [listN_mem]
  simp
theorem add_all : ∀ c : Nat, c < 256 → ∀ y : Nat, y < 8 → c.testBit y = false → c ||| 2 ^ y = c + 2 ^ y := by decide +kernel
theorem lt256 {n m : Nat} (hn : n ≤ 8) (h : m < 2 ^ n) : m < 256 := Nat.lt_of_lt_of_le h (by
  have := Nat.pow_le_pow_right (n := 2) (by decide) hn
  simpa using this)
theorem or_lt {n m x : Nat} (h : m < 2 ^ n) (hx : x < n) : m ||| 2 ^ x < 2 ^ n := Nat.or_lt_two_pow h (Nat.pow_lt_pow_right (by decide) hx)

/-- a table from above -/
def IsBack (n : Nat) (c : Nat → Nat → Int) (nn : Int) (T : Nat → Int) : Prop := ∀ m, m < 2 ^ n → T m = mn (fun x => max (c m x.toNat) (T (m ||| 2 ^ x.toNat))) (outs n m) nn
theorem back_uniq {n : Nat} {c : Nat → Nat → Int} {nn : Int} {T U : Nat → Int} (hn : n ≤ 8) (hT : IsBack n c nn T) (hU : IsBack n c nn U) : ∀ m, m < 2 ^ n → T m = U m := by
  have key : ∀ d m, m + d = 2 ^ n → m < 2 ^ n → T m = U m := by
    intro d
    induction d using Nat.strongRecOn with
    | ind d ih =>
      intro m hd hm
      rw [hT m hm, hU m hm]
      refine mn_congr fun y hy => ?_
      obtain ⟨x, rfl, hx, hb⟩ := outs_mem.1 hy
      have h1 := add_all m (lt256 hn hm) x (by omega) hb
      have h2 := or_lt hm hx
      have h3 := Nat.two_pow_pos x
      rw [Int.toNat_natCast, ih (2 ^ n - (m ||| 2 ^ x)) (by omega) (m ||| 2 ^ x) (by omega) h2]
  intro m hm
  exact key (2 ^ n - m) m (by omega) hm


end Go.Zq
/- Plain mathematics: fronts. -/
namespace Go.Zq

end Go.Zq
/- Plain mathematics: the table of best orders for a cost (frontSize). -/
namespace Go.Zq

end Go.Zq
/- Plain mathematics: the pathwidth. -/
namespace Go.Zq

theorem pow256 {n : Nat} (hn : n ≤ 8) : 2 ^ n ≤ 256 := by
  have := Nat.pow_le_pow_right (n := 2) (by decide) hn
  simpa using this

end Go.Zq
/- Plain mathematics: how many neighbours a node has when it is eliminated. -/
namespace Go.Zq

/-- a set with one node more -/
def wth (m x : Nat) (j : Nat) : Bool := m.testBit j || j == x
/-- the neighbours of a node behind a set -/
def latP (g : Gr) (m x : Nat) (j : Nat) : Bool := (!m.testBit j && !(j == x)) && anyN (fun y => comp g (wth m x) x y && adj g y j) g.1.toNat
def elC (g : Gr) (m x : Nat) : Int := (cntN (latP g m x) g.1.toNat : Int)

theorem neighbors_eq {F x : Nat} {g : Gr} (hg : good g = true) (hF : 20 ≤ F) (hG : g.2.length < F) (hs : Sm g.2.length) : s_l2Neighbors F g (x : Int) = some (listN (adj g x) g.1.toNat) := by
  have h8 := good_size hg
  unfold s_l2Neighbors
  refine loop_inv (L := fun k i s => s_l2Neighbors_l1 F (x : Int) g k s i) (n := g.1.toNat) (fun i s => s = listN (adj g x) i) ?_ ?_ F _ (by omega) rfl
  · intro k i s hi hI
    subst hI
    refine ⟨_, rfl, ?_⟩
    have hc := cnt_le (p := adj g x) (n := i)
    simp only [s_l2Neighbors_l1, s_l2Neighbors_j1]
    rw [decide_eq_true (show (i : Int) < g.1 by omega), cond_true, near_eq hG hs, Option.bind_some, w64_succ hi (by unfold Sm; omega), listN_succ]
    cases adj g x i with
    | true => rw [cond_true, appL_one (by rw [listN_len]; omega), Option.bind_some]; rfl
    | false => rw [cond_false]; simp
  · intro k s hI
    subst hI
    simp only [s_l2Neighbors_l1]
    rw [decide_eq_false (show ¬ (g.1.toNat : Int) < g.1 by omega), cond_false]

/-- what was found behind a set: the nodes that were seen, the nodes that come later -/
structure Lat (g : Gr) (m x : Nat) (q : Nat → Bool) (seen : List Int) : Prop where
  sn : Seen g (wth m x) x seen
  qin : ∀ j, q j = true → latP g m x j = true

/-- all neighbours of a node were found, of the first ones -/
def Fnd (m x : Nat) (q : Nat → Bool) (seen : List Int) (ns : List Int) : Prop := ∀ z : Nat, (z : Int) ∈ ns → (wth m x z = true → (z : Int) ∈ seen) ∧ (wth m x z = false → q z = true)

theorem latIn_eq {F : Nat} {g : Gr} {m x k : Nat} {q : Nat → Bool} {seen : List Int} {c : List Int → List Int → Int → Option (List Int)} (hg : good g = true) (hF : 20 ≤ F) (hm : m < 2 ^ g.1.toNat) (hx : x < g.1.toNat) (hk : k < seen.length) (hS : Lat g m x q seen) {y : Nat} (hy : seen.getD k 0 = (y : Int)) :
    ∃ q' ext, Lat g m x q' (seen ++ ext) ∧ Fnd m x q' (seen ++ ext) (listN (adj g y) g.1.toNat) ∧ (∀ j, q j = true → q' j = true) ∧
      s_l5Later_l1 F (listN m.testBit g.1.toNat) g (k : Int) (listN (adj g y) g.1.toNat) c F (listN q g.1.toNat) seen 0 = c (listN q' g.1.toNat) (seen ++ ext) ((k + 1 : Nat) : Int) := by
  have h8 := good_size hg
  have hn8 : (listN (adj g y) g.1.toNat).length ≤ 8 := by rw [listN_len]; exact Nat.le_trans cnt_le (by omega)
  obtain ⟨y', hy', hyn, hyc⟩ := hS.sn.inn _ (getD_mem (d := 0) hk)
  rw [hy] at hy'
  obtain rfl : y = y' := by omega
  obtain ⟨s, ⟨q', ext, hs, h1, h2, h3⟩, h4⟩ := loop_ex (L := fun k2 i (s : List Int × List Int) => s_l5Later_l1 F (listN m.testBit g.1.toNat) g (k : Int) (listN (adj g y) g.1.toNat) c k2 s.1 s.2 i) (n := (listN (adj g y) g.1.toNat).length)
    (fun i s => ∃ q' ext, s = (listN q' g.1.toNat, seen ++ ext) ∧ Lat g m x q' (seen ++ ext) ∧ Fnd m x q' (seen ++ ext) ((listN (adj g y) g.1.toNat).take i) ∧ (∀ j, q j = true → q' j = true)) (fin := fun s => c s.1 s.2 ((k + 1 : Nat) : Int)) (by
      rintro k2 i s hi ⟨q', ext, rfl, hL, hFn, hq⟩
      have hlen := seen_len hg hL.sn
      obtain ⟨z, hz, hzn, hza⟩ := listN_get hi
      have htake : (listN (adj g y) g.1.toNat).take (i + 1) = (listN (adj g y) g.1.toNat).take i ++ [(z : Int)] := by
        rw [List.take_add_one, List.getElem?_eq_getElem hi]
        rw [List.getD_eq_getElem?_getD, List.getElem?_eq_getElem hi, Option.getD_some] at hz
        rw [hz]; rfl
      have hstep : ∀ (q2 : Nat → Bool) (s2 : List Int), (∀ j, q' j = true → q2 j = true) → (∀ w, w ∈ seen ++ ext → w ∈ s2) → (wth m x z = true → (z : Int) ∈ s2) → (wth m x z = false → q2 z = true) → Fnd m x q2 s2 ((listN (adj g y) g.1.toNat).take (i + 1)) := by
        intro q2 s2 a1 a2 a3 a4 w hw
        rw [htake, List.mem_append] at hw
        rcases hw with hw | hw
        · exact ⟨fun h => a2 _ ((hFn w hw).1 h), fun h => a1 _ ((hFn w hw).2 h)⟩
        · simp only [List.mem_singleton] at hw
          obtain rfl : w = z := by omega
          exact ⟨a3, a4⟩
      simp only [s_l5Later_l1, s_l5Later_j1]
      rw [decide_eq_true (show (i : Int) < ((listN (adj g y) g.1.toNat).length : Int) by omega), cond_true, idx_getD (d := 0) hi, hz]
      simp only [Option.bind_some]
      rw [l1Has_eq (by omega) (by unfold Sm; omega), has_listN (by omega) hzn (by omega), put_eq (by omega) hzn (by omega), w64_succ hi (by unfold Sm; omega)]
      simp only [Option.bind_some]
      by_cases hm1 : (z : Int) ∈ seen ++ ext
      · refine ⟨_, ⟨q', ext, rfl, hL, hstep q' _ (fun _ h => h) (fun _ h => h) (fun _ => hm1) (fun h => ?_), hq⟩, by rw [decide_eq_true hm1, cond_true]⟩
        obtain ⟨z', e, _, hc⟩ := hL.sn.inn _ hm1
        obtain rfl : z = z' := by omega
        have := comp_in (p := wth m x) (show wth m x x = true by unfold wth; simp) hc
        rw [this] at h; cases h
      · rw [decide_eq_false hm1, cond_false]
        have hzx : z ≠ x := fun e => hm1 (by rw [e, List.mem_append]; exact .inl hS.sn.root)
        cases hb : m.testBit z with
        | true =>
          have hw : wth m x z = true := by unfold wth; rw [hb]; rfl
          refine ⟨(listN q' g.1.toNat, seen ++ ext ++ [(z : Int)]), ⟨q', ext ++ [(z : Int)], by rw [List.append_assoc], ⟨⟨?_, ?_, ?_⟩, hL.qin⟩, ?_, hq⟩, ?_⟩
          · rw [← List.append_assoc, List.nodup_append]
            refine ⟨hL.sn.nd, by simp, ?_⟩
            intro a ha b hb e
            simp only [List.mem_singleton] at hb
            subst hb; subst e; exact hm1 ha
          · intro a ha
            rw [← List.append_assoc, List.mem_append] at ha
            rcases ha with ha | ha
            · exact hL.sn.inn a ha
            · simp only [List.mem_singleton] at ha
              exact ⟨z, ha, hzn, comp_closed hg hx (by unfold wth; simp) hyc hw hza⟩
          · rw [List.mem_append]; exact .inl hS.sn.root
          · rw [← List.append_assoc]
            exact hstep q' _ (fun _ h => h) (fun w h => by rw [List.mem_append]; exact .inl h) (fun _ => by simp) (fun h => by rw [hw] at h; cases h)
          · rw [cond_true, appL_one (by omega), Option.bind_some]
        | false =>
          have hw : wth m x z = false := by
            unfold wth
            rw [hb]
            simpa using hzx
          refine ⟨(listN (fun j => q' j || j == z) g.1.toNat, seen ++ ext), ⟨fun j => q' j || j == z, ext, rfl, ⟨hL.sn, ?_⟩, ?_, fun j h => by simp [hq j h]⟩, ?_⟩
          · intro j hj
            rw [Bool.or_eq_true, beq_iff_eq] at hj
            rcases hj with hj | hj
            · exact hL.qin j hj
            · subst hj
              unfold latP
              rw [hb]
              have : (j == x) = false := by simpa using hzx
              rw [this]
              simp only [Bool.not_false, Bool.and_self, Bool.true_and]
              exact anyN_iff.2 ⟨y, hyn, by rw [hyc, hza]; rfl⟩
          · exact hstep _ _ (fun j h => by simp [h]) (fun _ h => h) (fun h => by rw [hw] at h; cases h) (fun _ => by simp)
          · rw [cond_false]) (by
      rintro k2 s ⟨q', ext, rfl, hL, hFn, hq⟩
      have hlen := seen_len hg hL.sn
      rw [List.length_append] at hlen
      simp only [s_l5Later_l1]
      rw [decide_eq_false (show ¬ ((listN (adj g y) g.1.toNat).length : Int) < ((listN (adj g y) g.1.toNat).length : Int) by omega), cond_false, w64_succ hk (by unfold Sm; omega)]) F (listN q g.1.toNat, seen) (by omega) ⟨q, [], by simp, by simpa using hS, fun z hz => by simp at hz, fun _ h => h⟩
  subst hs
  rw [List.take_length] at h2
  exact ⟨q', ext, h1, h2, h3, h4⟩

theorem latOut_eq {F : Nat} {g : Gr} {m x : Nat} (hg : good g = true) (hF : 20 ≤ F) (hG : g.2.length < F) (hs : Sm g.2.length) (hm : m < 2 ^ g.1.toNat) (hx : x < g.1.toNat) :
    ∀ (d fu k : Nat) (q : Nat → Bool) (seen : List Int), k + d = 9 → d < fu → k ≤ seen.length → Lat g m x q seen → (∀ t, t < k → ∀ y : Nat, seen.getD t 0 = (y : Int) → Fnd m x q seen (listN (adj g y) g.1.toNat)) →
      s_l5Later_l2 F (listN m.testBit g.1.toNat) g fu (listN q g.1.toNat) seen (k : Int) = some (listN (latP g m x) g.1.toNat) := by
  intro d
  induction d with
  | zero =>
    intro fu k q seen hk hd hl hS hC
    have := seen_len hg hS.sn
    omega
  | succ d ih =>
    intro fu k q seen hk hd hl hS hC
    obtain ⟨fu, rfl⟩ : ∃ f, fu = f + 1 := ⟨fu - 1, by omega⟩
    simp only [s_l5Later_l2]
    by_cases hlt : k < seen.length
    · obtain ⟨y, hy, hyn, hyc⟩ := hS.sn.inn _ (getD_mem (d := 0) hlt)
      obtain ⟨q', ext, h1, h2, h3, h4⟩ := latIn_eq (c := s_l5Later_l2 F (listN m.testBit g.1.toNat) g fu) hg hF hm hx hlt hS hy
      rw [decide_eq_true (show (k : Int) < (seen.length : Int) by omega), cond_true, idx_getD (d := 0) hlt, Option.bind_some, hy, neighbors_eq hg hF hG hs, Option.bind_some, h4]
      refine ih fu (k + 1) q' (seen ++ ext) (by omega) (by omega) (by rw [List.length_append]; omega) h1 ?_
      intro t ht w hw
      have hget : (seen ++ ext).getD t 0 = seen.getD t 0 := by
        rw [List.getD_eq_getElem?_getD, List.getElem?_append_left (by omega), ← List.getD_eq_getElem?_getD]
      rw [hget] at hw
      by_cases e : t = k
      · subst e
        rw [hy] at hw
        obtain rfl : y = w := by omega
        exact h2
      · intro z hz
        have := hC t (by omega) w hw z hz
        exact ⟨fun h => by rw [List.mem_append]; exact .inl (this.1 h), fun h => h3 _ (this.2 h)⟩
    · obtain rfl : k = seen.length := by omega
      rw [decide_eq_false (show ¬ (seen.length : Int) < (seen.length : Int) by omega), cond_false]
      congr 1
      apply listN_congr
      intro j hj
      have hxp : wth m x x = true := by unfold wth; simp
      have hsub : ∀ b, comp g (wth m x) x b = true → (b : Int) ∈ seen := by
        intro b hb
        refine of_decide_eq_true (comp_min (C := fun j => decide ((j : Int) ∈ seen)) (decide_eq_true hS.sn.root) ?_ hb)
        intro y b hy hb ha
        have hy' := of_decide_eq_true hy
        obtain ⟨t, ht, e⟩ := List.mem_iff_getElem.1 hy'
        have hget : seen.getD t 0 = (y : Int) := by rw [List.getD_eq_getElem?_getD, List.getElem?_eq_getElem ht, Option.getD_some, e]
        have hbn := (adj_lt hg ha).2.1
        exact decide_eq_true ((hC t ht y hget b (listN_mem.2 ⟨b, rfl, by omega, ha⟩)).1 hb)
      cases hq : q j with
      | true => exact (hS.qin j hq).symm
      | false =>
        cases hl : latP g m x j with
        | false => rfl
        | true =>
          exfalso
          unfold latP at hl
          simp only [Bool.and_eq_true, Bool.not_eq_true'] at hl
          obtain ⟨⟨l1, l2⟩, l3⟩ := hl
          obtain ⟨y, hyn, hy⟩ := anyN_iff.1 l3
          simp only [Bool.and_eq_true] at hy
          obtain ⟨t, ht, e⟩ := List.mem_iff_getElem.1 (hsub y hy.1)
          have hget : seen.getD t 0 = (y : Int) := by rw [List.getD_eq_getElem?_getD, List.getElem?_eq_getElem ht, Option.getD_some, e]
          have := (hC t ht y hget j (listN_mem.2 ⟨j, rfl, hj, hy.2⟩)).2 (by unfold wth; rw [l1, l2]; rfl)
          rw [this] at hq; cases hq

theorem later_eq {F : Nat} {g : Gr} {m x : Nat} (hg : good g = true) (hF : 20 ≤ F) (hG : g.2.length < F) (hs : Sm g.2.length) (hm : m < 2 ^ g.1.toNat) (hx : x < g.1.toNat) :
    s_l5Later F g (listN m.testBit g.1.toNat) (x : Int) = some (listN (latP g m x) g.1.toNat) := by
  unfold s_l5Later
  have hnil : ([] : List Int) = listN (fun _ => false) g.1.toNat := by simp [listN]
  have := latOut_eq (F := F) hg hF hG hs hm hx 9 F 0 (fun _ => false) [(x : Int)] (by omega) (by omega) (by omega) ⟨⟨by simp, fun y hy => by
    simp only [List.mem_singleton] at hy
    exact ⟨x, hy, hx, comp_self⟩, by simp⟩, fun j h => by cases h⟩ (fun t ht => absurd ht (by omega))
  rw [← hnil] at this
  exact this

/-- what the program has reached -/
def rdP (g : Gr) (m x : Nat) : Nat → Nat → Bool
  | 0 => fun j => j == x
  | t + 1 => arnd g (rch g (wth m x) x t)

theorem rd_and {g : Gr} {m x : Nat} : ∀ t j, (rdP g m x t j && wth m x j) = rch g (wth m x) x t j
  | 0, j => by
    show ((j == x) && wth m x j) = (j == x)
    unfold wth
    cases (j == x) <;> simp
  | t + 1, j => by
    show (arnd g (rch g (wth m x) x t) j && wth m x j) = stp g (wth m x) (rch g (wth m x) x t) j
    unfold arnd stp
    have hin := fun h => rch_in (g := g) (p := wth m x) (x := x) (show wth m x x = true by unfold wth; simp) t j h
    cases h1 : rch g (wth m x) x t j with
    | true => rw [hin h1]; rfl
    | false => rw [Bool.false_or, Bool.false_or, Bool.and_comm]

theorem elim_eq {F : Nat} {g : Gr} {m x : Nat} (hg : good g = true) (hF : 20 ≤ F) (hm : m < 2 ^ g.1.toNat) (hx : x < g.1.toNat) : i_net_eliminated F ⟨nearL g⟩ (m : Int) (x : Int) = some (elC g m x) := by
  have h8 := good_size hg
  have h256 := lt256 (by omega) hm
  have hxp : wth m x x = true := by unfold wth; simp
  obtain ⟨T, hT, hst⟩ := rch_stable hg hx hxp
  have hcn := cnt_le (p := wth m x) (n := g.1.toNat)
  have hmx : (ior .i64 (m : Int) ((2 ^ x : Nat) : Int)) = ((mkm (wth m x) g.1.toNat : Nat) : Int) := by
    rw [ior_nat (by omega) (pow_lt (by omega))]
    congr 1
    refine mkm_of fun j => ?_
    rw [Nat.testBit_or, Nat.testBit_two_pow]
    unfold wth
    by_cases hj : j < g.1.toNat
    · rw [decide_eq_true hj, Bool.true_and]
      congr 1
      rw [Bool.eq_iff_iff, decide_eq_true_eq, beq_iff_eq]; omega
    · rw [decide_eq_false hj, Bool.false_and, decide_eq_false (show ¬ x = j by omega), Bool.or_false]
      exact Nat.testBit_lt_two_pow (Nat.lt_of_lt_of_le hm (Nat.pow_le_pow_right (by decide) (by omega)))
  unfold i_net_eliminated
  rw [one_shl (by omega), Option.bind_some]
  have hstart : ((2 ^ x : Nat) : Int) = ((mkm (rdP g m x 0) g.1.toNat : Nat) : Int) := by
    congr 1
    refine mkm_of fun j => ?_
    rw [Nat.testBit_two_pow]
    show decide (x = j) = (decide (j < g.1.toNat) && (j == x))
    by_cases e : j = x
    · subst e; simp [hx]
    · have e1 : (j == x) = false := by simpa using e
      rw [e1, Bool.and_false, decide_eq_false (by omega)]
  -- the end
  have hend : ∀ t, (∀ j, j < g.1.toNat → rdP g m x (t + 1) j = rdP g m x t j) → ∀ j, j < g.1.toNat → (rdP g m x t j && !m.testBit j && !(j == x)) = latP g m x j := by
    intro t he j hj
    have hstab : ∀ j, rch g (wth m x) x (t + 1) j = true → rch g (wth m x) x t j = true := by
      intro j hj
      have hjn := rch_lt hg hx _ _ hj
      rw [← rd_and, he j hjn, rd_and] at hj; exact hj
    have hcomp : ∀ j, rch g (wth m x) x t j = comp g (wth m x) x j := by
      intro j
      rw [Bool.eq_iff_iff]
      constructor
      · intro h
        by_cases hle : t ≤ g.1.toNat
        · exact rch_mono h _ hle
        · have : rch g (wth m x) x (g.1.toNat + (t - g.1.toNat)) j = true := by
            rw [show g.1.toNat + (t - g.1.toNat) = t by omega]; exact h
          have h2 := rch_comp hg hx hxp (s := t) (by omega) j
          rw [← h2]; exact h
      · intro h
        have h3 : rch g (wth m x) x (t + g.1.toNat) j = true := rch_mono h _ (by omega)
        exact rch_stop hstab _ j h3
    rw [← he j hj]
    show (arnd g (rch g (wth m x) x t) j && !m.testBit j && !(j == x)) = latP g m x j
    unfold arnd latP
    have hany : anyN (fun y => rch g (wth m x) x t y && adj g y j) g.1.toNat = anyN (fun y => comp g (wth m x) x y && adj g y j) g.1.toNat := anyN_congr fun y _ => by rw [hcomp y]
    rw [hany, hcomp j]
    cases hb : m.testBit j with
    | true => simp
    | false =>
      cases hjx : (j == x) with
      | true => simp
      | false =>
        have : comp g (wth m x) x j = false := by
          rw [Bool.eq_false_iff]; intro h
          have := comp_in hxp h
          unfold wth at this
          rw [hb, hjx] at this; cases this
        rw [this]; simp
  have key : ∀ d t k, t + d = T + 1 → d < k → i_net_eliminated_l1 F (m : Int) (x : Int) ⟨nearL g⟩ k ((mkm (rdP g m x t) g.1.toNat : Nat) : Int) = some (elC g m x) := by
    intro d
    induction d with
    | zero =>
      intro t k ht hk
      obtain ⟨k, rfl⟩ : ∃ k', k = k' + 1 := ⟨k - 1, by omega⟩
      obtain rfl : t = T + 1 := by omega
      have hsame : ∀ j, j < g.1.toNat → rdP g m x (T + 1 + 1) j = rdP g m x (T + 1) j := by
        intro j _
        have hrr : ∀ j, rch g (wth m x) x (T + 1) j = rch g (wth m x) x T j := fun j => by
          rw [Bool.eq_iff_iff]; exact ⟨hst j, fun h => rch_mono h _ (by omega)⟩
        show arnd g (rch g (wth m x) x (T + 1)) j = arnd g (rch g (wth m x) x T) j
        unfold arnd
        rw [hrr j]
        congr 1
        exact anyN_congr fun y _ => by rw [hrr y]
      simp only [i_net_eliminated_l1]
      rw [one_shl (by omega), Option.bind_some, hmx, iand_nat (mkm_lt63 (by omega)) (mkm_lt63 (by omega))]
      have hnext : (mkm (rdP g m x (T + 1)) g.1.toNat &&& mkm (wth m x) g.1.toNat) = mkm (rch g (wth m x) x (T + 1)) g.1.toNat := by
        refine mkm_of fun j => ?_
        rw [Nat.testBit_and, mkm_bit, mkm_bit, ← rd_and]
        cases decide (j < g.1.toNat) <;> simp
      rw [hnext, around_eq hg (by omega), Option.bind_some]
      have heq : ((mkm (arnd g (rch g (wth m x) x (T + 1))) g.1.toNat : Nat) : Int) = ((mkm (rdP g m x (T + 1)) g.1.toNat : Nat) : Int) := by
        congr 1
        exact mkm_congr fun j hj => hsame j hj
      rw [heq, beq_self_eq_true, cond_true, Option.bind_some]
      obtain ⟨c1, e1, l1, b1⟩ := iandNot_nat (mkm_lt63 (p := rdP g m x (T + 1)) (n := g.1.toNat) (by omega)) (show m < 9223372036854775808 by omega)
      have hml := mkm_256 (p := rdP g m x (T + 1)) (n := g.1.toNat) (by omega)
      obtain ⟨c2, e2, l2, b2⟩ := iandNot_nat (a := c1) (show c1 < 9223372036854775808 by omega) (pow_lt (j := x) (by omega))
      rw [e1, e2, ones_eq (by omega), Option.bind_some]
      congr 2
      have hc2 : c2 = mkm (latP g m x) g.1.toNat := by
        refine mkm_of fun j => ?_
        rw [b2, b1, mkm_bit, Nat.testBit_two_pow]
        by_cases hj : j < g.1.toNat
        · rw [decide_eq_true hj, Bool.true_and, Bool.true_and, ← hend (T + 1) hsame j hj]
          congr 2
          rw [Bool.eq_iff_iff, decide_eq_true_eq, beq_iff_eq]; omega
        · rw [decide_eq_false hj]; rfl
      rw [hc2, popc_mkm (by omega)]
    | succ d ih =>
      intro t k ht hk
      obtain ⟨k, rfl⟩ : ∃ k', k = k' + 1 := ⟨k - 1, by omega⟩
      simp only [i_net_eliminated_l1]
      rw [one_shl (by omega), Option.bind_some, hmx, iand_nat (mkm_lt63 (by omega)) (mkm_lt63 (by omega))]
      have hnext : (mkm (rdP g m x t) g.1.toNat &&& mkm (wth m x) g.1.toNat) = mkm (rch g (wth m x) x t) g.1.toNat := by
        refine mkm_of fun j => ?_
        rw [Nat.testBit_and, mkm_bit, mkm_bit, ← rd_and]
        cases decide (j < g.1.toNat) <;> simp
      rw [hnext, around_eq hg (by omega), Option.bind_some]
      by_cases hE : mkm (arnd g (rch g (wth m x) x t)) g.1.toNat = mkm (rdP g m x t) g.1.toNat
      · have hsame : ∀ j, j < g.1.toNat → rdP g m x (t + 1) j = rdP g m x t j := fun j hj => mkm_ext hE j hj
        rw [hE, beq_self_eq_true, cond_true, Option.bind_some]
        obtain ⟨c1, e1, l1, b1⟩ := iandNot_nat (mkm_lt63 (p := rdP g m x t) (n := g.1.toNat) (by omega)) (show m < 9223372036854775808 by omega)
        have hml := mkm_256 (p := rdP g m x t) (n := g.1.toNat) (by omega)
        obtain ⟨c2, e2, l2, b2⟩ := iandNot_nat (a := c1) (show c1 < 9223372036854775808 by omega) (pow_lt (j := x) (by omega))
        rw [e1, e2, ones_eq (by omega), Option.bind_some]
        congr 2
        have hc2 : c2 = mkm (latP g m x) g.1.toNat := by
          refine mkm_of fun j => ?_
          rw [b2, b1, mkm_bit, Nat.testBit_two_pow]
          by_cases hj : j < g.1.toNat
          · rw [decide_eq_true hj, Bool.true_and, Bool.true_and, ← hend t hsame j hj]
            congr 2
            rw [Bool.eq_iff_iff, decide_eq_true_eq, beq_iff_eq]; omega
          · rw [decide_eq_false hj]; rfl
        rw [hc2, popc_mkm (by omega)]
      · have hb : (((mkm (arnd g (rch g (wth m x) x t)) g.1.toNat : Nat) : Int) == ((mkm (rdP g m x t) g.1.toNat : Nat) : Int)) = false := by
          rw [beq_eq_false_iff_ne]; omega
        rw [hb, cond_false]
        exact ih (t + 1) k (by omega) (by omega)
  have := key (T + 1) 0 F (by omega) (by omega)
  rw [hstart]
  exact this

end Go.Zq
/- Plain mathematics: the table of best orders for a cost (eliminated). -/
namespace Go.Zq

theorem best_eliminated {F : Nat} {g : Gr} {nn : Int} (hg : good g = true) (hF : 300 ≤ F) :
    ∃ best : List Int, i_net_bestOrders_of_i_net_eliminated F ⟨nearL g⟩ nn ⟨(⟨nearL g⟩, ()), ()⟩ = some best ∧ best.length = 2 ^ g.1.toNat ∧ IsBack g.1.toNat (elC g) nn (fun m => best.getD m 0) := by
  have h8 := good_size hg
  obtain ⟨n, hn⟩ : ∃ n : Nat, g.1.toNat = n := ⟨_, rfl⟩
  have hn8 : n ≤ 8 := by omega
  have hpow := Nat.two_pow_pos n
  have hp256 : 2 ^ n ≤ 256 := by
    have := Nat.pow_le_pow_right (n := 2) (by decide) hn8
    simpa using this
  have hall : i_net_all F ⟨nearL g⟩ = some ((2 ^ n - 1 : Nat) : Int) := by
    unfold i_net_all
    rw [nearL_len, hn, one_shl (by omega), Option.bind_some, w64_id (by omega) (by omega)]
    congr 1; omega
  have hw : w64 (((2 ^ n - 1 : Nat) : Int) + 1) = ((2 ^ n : Nat) : Int) := by rw [w64_id (by omega) (by omega)]; omega
  unfold i_net_bestOrders_of_i_net_eliminated
  rw [hall, Option.bind_some, hw, mkN_nat (by omega), Option.bind_some, Option.bind_some, hn]
  have key : ∀ d k (best : List Int), d ≤ 2 ^ n → d < k → best.length = 2 ^ n →
      (∀ j, d ≤ j → j < 2 ^ n → best.getD j 0 = mn (fun x => max (elC g j x.toNat) (best.getD (j ||| 2 ^ x.toNat) 0)) (outs n j) nn) →
      ∃ b, i_net_bestOrders_of_i_net_eliminated_l2 F nn ⟨(⟨nearL g⟩, ()), ()⟩ ⟨nearL g⟩ k best ((d : Int) - 1) = some b ∧ b.length = 2 ^ n ∧ IsBack n (elC g) nn (fun m => b.getD m 0) := by
    intro d
    induction d with
    | zero =>
      intro k best _ hk hlen hrec
      obtain ⟨k, rfl⟩ : ∃ k', k = k' + 1 := ⟨k - 1, by omega⟩
      refine ⟨best, ?_, hlen, fun m hm => hrec m (by omega) hm⟩
      simp only [i_net_bestOrders_of_i_net_eliminated_l2]
      rw [decide_eq_false (by omega), cond_false]
    | succ d ih =>
      intro k best hd hk hlen hrec
      obtain ⟨k, rfl⟩ : ∃ k', k = k' + 1 := ⟨k - 1, by omega⟩
      have hdn : d < 2 ^ n := by omega
      have e0 : ((d + 1 : Nat) : Int) - 1 = (d : Int) := by omega
      have hmk : iandNot .i64 ((2 ^ n - 1 : Nat) : Int) (d : Int) = ((mkm (fun x => !d.testBit x) n : Nat) : Int) := by
        obtain ⟨c, hc, _, hb⟩ := iandNot_nat (a := 2 ^ n - 1) (b := d) (by omega) (by omega)
        rw [hc]
        congr 1
        refine mkm_of fun j => ?_
        rw [hb, Nat.testBit_two_pow_sub_one]
      have hl8 : (outs n d).length ≤ 8 := by unfold outs; rw [listN_len]; exact Nat.le_trans cnt_le hn8
      simp only [i_net_bestOrders_of_i_net_eliminated_l2]
      rw [e0, decide_eq_true (by omega), cond_true, idx_getD (d := 0) (by omega), Option.bind_some, hall, Option.bind_some, hmk, setOf_eq hn8 (by omega), Option.bind_some, Int.toNat_natCast]
      obtain ⟨s, hs, he⟩ := loop_ex (L := fun k2 t s => i_net_bestOrders_of_i_net_eliminated_l1 F nn ⟨(⟨nearL g⟩, ()), ()⟩ ⟨nearL g⟩ (d : Int) (outs n d) (i_net_bestOrders_of_i_net_eliminated_l2 F nn ⟨(⟨nearL g⟩, ()), ()⟩ ⟨nearL g⟩ k) k2 s t) (n := (outs n d).length)
        (fun t s => s = best.set d (mn (fun x => max (elC g d x.toNat) (best.getD (d ||| 2 ^ x.toNat) 0)) ((outs n d).take t) nn)) (fin := fun s => i_net_bestOrders_of_i_net_eliminated_l2 F nn ⟨(⟨nearL g⟩, ()), ()⟩ ⟨nearL g⟩ k s ((d : Int) - 1)) (by
          intro k2 t s ht hI
          subst hI
          refine ⟨_, rfl, ?_⟩
          obtain ⟨x, hx, hxn, hxb⟩ := outs_mem.1 (getD_mem (d := 0) ht)
          have hgt := add_all d (by omega) x (by omega) hxb
          have hxp := Nat.two_pow_pos x
          have hor := or_lt hdn hxn
          have hcost := elim_eq (F := F) (m := d) (x := x) hg (by omega) (by rw [hn]; exact hdn) (by rw [hn]; exact hxn)
          have htake : (outs n d).take (t + 1) = (outs n d).take t ++ [(x : Int)] := by
            rw [List.take_add_one, List.getElem?_eq_getElem ht]
            rw [List.getD_eq_getElem?_getD, List.getElem?_eq_getElem ht, Option.getD_some] at hx
            rw [hx]; rfl
          have hget : ∀ a : Int, (best.set d a).getD (d ||| 2 ^ x) 0 = best.getD (d ||| 2 ^ x) 0 := by
            intro a
            rw [List.getD_eq_getElem?_getD, List.getElem?_set_ne (by omega), ← List.getD_eq_getElem?_getD]
          have hgetd : ∀ a : Int, (best.set d a).getD d 0 = a := by
            intro a
            rw [List.getD_eq_getElem?_getD, List.getElem?_set_self (by omega), Option.getD_some]
          simp only [i_net_bestOrders_of_i_net_eliminated_l1, i_net_bestOrders_of_i_net_eliminated_j1, i_net_bestOrders_of_i_net_eliminated_j2]
          rw [decide_eq_true (show (t : Int) < ((outs n d).length : Int) by omega), cond_true, idx_getD (d := 0) ht, Option.bind_some, hx]
          rw [hcost, Option.bind_some, one_shl (by omega), Option.bind_some, ior_nat (by omega) (pow_lt (by omega)), idx_getD (d := 0) (by rw [List.length_set]; omega), Option.bind_some, hget, idx_getD (d := 0) (by rw [List.length_set]; omega), Option.bind_some, Option.bind_some, hgetd, Int.toNat_natCast, List.set_set, w64_succ ht (by unfold Sm; omega), htake, mn_snoc]
          have hmax : (if best.getD (d ||| 2 ^ x) 0 > elC g d x then best.getD (d ||| 2 ^ x) 0 else elC g d x) = max (elC g d x) (best.getD (d ||| 2 ^ x) 0) := by
            by_cases h : best.getD (d ||| 2 ^ x) 0 > elC g d x
            · rw [if_pos h, Int.max_eq_right (by omega)]
            · rw [if_neg h, Int.max_eq_left (by omega)]
          rw [hmax, Int.toNat_natCast]
          by_cases ht0 : t = 0
          · subst ht0
            rw [if_pos (.inl (by simp))]
            rfl
          · have hne : (outs n d).take t ≠ [] := by
              intro e
              have := congrArg List.length e
              rw [List.length_take] at this
              simp only [List.length_nil] at this
              omega
            have hb : ((t : Int) == 0) = false := by rw [beq_eq_false_iff_ne]; omega
            rw [hb, cond_false]
            by_cases hlt : max (elC g d x) (best.getD (d ||| 2 ^ x) 0) < mn (fun x => max (elC g d x.toNat) (best.getD (d ||| 2 ^ x.toNat) 0)) ((outs n d).take t) nn
            · rw [decide_eq_true hlt, cond_true, if_pos (.inr hlt)]
            · rw [decide_eq_false hlt, cond_false, if_neg (fun h => h.elim hne hlt)]) (by
          intro k2 s hI
          simp only [i_net_bestOrders_of_i_net_eliminated_l1]
          rw [decide_eq_false (show ¬ ((outs n d).length : Int) < ((outs n d).length : Int) by omega), cond_false, w64_id (by omega) (by omega)]) F (best.set d nn) (by omega) rfl
      have he' : i_net_bestOrders_of_i_net_eliminated_l1 F nn ⟨(⟨nearL g⟩, ()), ()⟩ ⟨nearL g⟩ (d : Int) (outs n d) (i_net_bestOrders_of_i_net_eliminated_l2 F nn ⟨(⟨nearL g⟩, ()), ()⟩ ⟨nearL g⟩ k) F (best.set d nn) 0 = i_net_bestOrders_of_i_net_eliminated_l2 F nn ⟨(⟨nearL g⟩, ()), ()⟩ ⟨nearL g⟩ k s ((d : Int) - 1) := he
      rw [List.take_length] at hs
      rw [show listN (fun x => !d.testBit x) n = outs n d from rfl, he']
      refine ih k s (by omega) (by omega) (by rw [hs, List.length_set]; exact hlen) ?_
      have hsd : s.getD d 0 = mn (fun x => max (elC g d x.toNat) (best.getD (d ||| 2 ^ x.toNat) 0)) (outs n d) nn := by
        rw [hs, List.getD_eq_getElem?_getD, List.getElem?_set_self (by omega), Option.getD_some]
      have hsne : ∀ j, j ≠ d → s.getD j 0 = best.getD j 0 := by
        intro j hj
        rw [hs, List.getD_eq_getElem?_getD, List.getElem?_set_ne (by omega), ← List.getD_eq_getElem?_getD]
      intro j h1 h2
      have hcg : mn (fun x => max (elC g j x.toNat) (best.getD (j ||| 2 ^ x.toNat) 0)) (outs n j) nn = mn (fun x => max (elC g j x.toNat) (s.getD (j ||| 2 ^ x.toNat) 0)) (outs n j) nn := by
        refine mn_congr fun y hy => ?_
        obtain ⟨x, rfl, hxn, hxb⟩ := outs_mem.1 hy
        have hgt := add_all j (by omega) x (by omega) hxb
        have hxp := Nat.two_pow_pos x
        rw [Int.toNat_natCast, hsne _ (by omega)]
      by_cases e : j = d
      · subst e; rw [hsd, hcg]
      · rw [hsne j e, hrec j (by omega) h2, hcg]
  have e1 : ((2 ^ n - 1 : Nat) : Int) = ((2 ^ n : Nat) : Int) - 1 := by omega
  rw [e1]
  exact key (2 ^ n) F _ (by omega) (by omega) (by simp) (fun j h1 h2 => absurd h2 (by omega))

end Go.Zq
/- Plain mathematics: the treewidth. -/
namespace Go.Zq

theorem rests_eq {F : Nat} {g : Gr} (hg : good g = true) (hF : 300 ≤ F) (hG : g.2.length < F) (hs : Sm g.2.length) :
    ∃ out : List Int, s_l5Rests F g = some out ∧ out.length = 2 ^ g.1.toNat ∧ IsBack g.1.toNat (elC g) (-1) (fun m => out.getD m 0) := by
  have h8 := good_size hg
  obtain ⟨n, hn⟩ : ∃ n : Nat, g.1.toNat = n := ⟨_, rfl⟩
  have hn8 : n ≤ 8 := by omega
  have hgn : g.1 = (n : Int) := by omega
  have hpow := Nat.two_pow_pos n
  have hp256 := pow256 hn8
  rw [hn]
  unfold s_l5Rests
  rw [hgn, one_shl (by omega), Option.bind_some, mkN_nat (by omega), Option.bind_some, List.length_replicate]
  have hw0 : w64 (((2 ^ n : Nat) : Int) - 1) = ((2 ^ n : Nat) : Int) - 1 := w64_id (by omega) (by omega)
  rw [hw0]
  have key : ∀ d k (out : List Int), d ≤ 2 ^ n → d < k → out.length = 2 ^ n →
      (∀ j, d ≤ j → j < 2 ^ n → out.getD j 0 = mn (fun x => max (elC g j x.toNat) (out.getD (j ||| 2 ^ x.toNat) 0)) (outs n j) (-1)) →
      ∃ b, s_l5Rests_l2 F g k out ((d : Int) - 1) = some b ∧ b.length = 2 ^ n ∧ IsBack n (elC g) (-1) (fun m => b.getD m 0) := by
    intro d
    induction d with
    | zero =>
      intro k out _ hk hlen hrec
      obtain ⟨k, rfl⟩ : ∃ k', k = k' + 1 := ⟨k - 1, by omega⟩
      refine ⟨out, ?_, hlen, fun m hm => hrec m (by omega) hm⟩
      simp only [s_l5Rests_l2]
      rw [decide_eq_false (by omega), cond_false]
    | succ d ih =>
      intro k out hd hk hlen hrec
      obtain ⟨k, rfl⟩ : ∃ k', k = k' + 1 := ⟨k - 1, by omega⟩
      have hdn : d < 2 ^ n := by omega
      have e0 : ((d + 1 : Nat) : Int) - 1 = (d : Int) := by omega
      have hv0 : ∀ y, 0 ≤ (fun x : Int => max (elC g d x.toNat) (out.getD (d ||| 2 ^ x.toNat) 0)) y := by
        intro y
        show 0 ≤ max (elC g d y.toNat) (out.getD (d ||| 2 ^ y.toNat) 0)
        have : 0 ≤ elC g d y.toNat := by unfold elC; omega
        omega
      simp only [s_l5Rests_l2]
      rw [e0, decide_eq_true (by omega), cond_true, hgn, bits_eq hn8 (by omega) (by omega), Option.bind_some]
      obtain ⟨s, hs2, he⟩ := loop_ex (L := fun k2 x b => s_l5Rests_l1 F g out (d : Int) (listN d.testBit n) (s_l5Rests_l2 F g k) k2 b x) (n := n)
        (fun x b => b = mn (fun x => max (elC g d x.toNat) (out.getD (d ||| 2 ^ x.toNat) 0)) (listN (fun x => !d.testBit x) x) (-1)) (fin := fun b => s_l5Rests_l2 F g k (out.set d b) ((d : Int) - 1)) (by
          intro k2 x b hx hI
          subst hI
          refine ⟨_, rfl, ?_⟩
          simp only [s_l5Rests_l1, s_l5Rests_j1, s_l5Rests_j2]
          rw [hgn, decide_eq_true (show (x : Int) < (n : Int) by omega), cond_true, has_listN hn8 hx (by omega), Option.bind_some, w64_succ hx (by unfold Sm; omega)]
          cases hb : d.testBit x with
          | true => rw [cond_true, listN_succ, hb]; simp
          | false =>
            have hgt := add_all d (by omega) x (by omega) hb
            have hor := or_lt hdn hx
            have hxp := Nat.two_pow_pos x
            have hw : w64 ((d : Int) + ((2 ^ x : Nat) : Int)) = ((d ||| 2 ^ x : Nat) : Int) := by rw [w64_id (by omega) (by omega)]; omega
            have hlat := later_eq (F := F) (m := d) (x := x) hg (by omega) hG hs (by rw [hn]; exact hdn) (by rw [hn]; exact hx)
            rw [hn] at hlat
            rw [cond_false, hlat, Option.bind_some, one_shl (by omega), Option.bind_some, hw, idx_getD (d := 0) (by omega), Option.bind_some, most_eq, Option.bind_some, listN_succ, hb, Bool.not_false, if_pos rfl, mn_snoc, Int.toNat_natCast, listN_len]
            have hel : ((cntN (latP g d x) n : Nat) : Int) = elC g d x := by unfold elC; rw [hn]
            rw [hel]
            by_cases hl : listN (fun x => !d.testBit x) x = []
            · rw [hl, mn_nil, if_pos (.inl rfl), decide_eq_true (by omega)]; rfl
            · have h0 := mn_nonneg (nn := -1) hl (fun y _ => hv0 y)
              rw [decide_eq_false (by omega), cond_false]
              by_cases hlt : max (elC g d x) (out.getD (d ||| 2 ^ x) 0) < mn (fun x => max (elC g d x.toNat) (out.getD (d ||| 2 ^ x.toNat) 0)) (listN (fun x => !d.testBit x) x) (-1)
              · rw [decide_eq_true hlt, cond_true, if_pos (.inr hlt)]
              · rw [decide_eq_false hlt, cond_false, if_neg (fun h => h.elim hl hlt)]) (by
          intro k2 b hI
          simp only [s_l5Rests_l1]
          rw [hgn, decide_eq_false (show ¬ (n : Int) < (n : Int) by omega), cond_false, idx_getD (d := 0) (by omega), Option.bind_some, Int.toNat_natCast, w64_id (by omega) (by omega)]) F (-1) (by omega) rfl
      have he' : s_l5Rests_l1 F g out (d : Int) (listN d.testBit n) (s_l5Rests_l2 F g k) F (-1) 0 = s_l5Rests_l2 F g k (out.set d s) ((d : Int) - 1) := he
      rw [he']
      have hsd : (out.set d s).getD d 0 = s := by rw [List.getD_eq_getElem?_getD, List.getElem?_set_self (by omega), Option.getD_some]
      have hsne : ∀ j, j ≠ d → (out.set d s).getD j 0 = out.getD j 0 := by
        intro j hj
        rw [List.getD_eq_getElem?_getD, List.getElem?_set_ne (by omega), ← List.getD_eq_getElem?_getD]
      refine ih k (out.set d s) (by omega) (by omega) (by rw [List.length_set]; exact hlen) ?_
      intro j h1 h2
      have hcg : mn (fun x => max (elC g j x.toNat) (out.getD (j ||| 2 ^ x.toNat) 0)) (outs n j) (-1) = mn (fun x => max (elC g j x.toNat) ((out.set d s).getD (j ||| 2 ^ x.toNat) 0)) (outs n j) (-1) := by
        refine mn_congr fun y hy => ?_
        obtain ⟨x, rfl, hxn, hxb⟩ := outs_mem.1 hy
        have hgt := add_all j (by omega) x (by omega) hxb
        have hxp := Nat.two_pow_pos x
        rw [Int.toNat_natCast, hsne _ (by omega)]
      by_cases e : j = d
      · subst e; rw [hsd, ← hcg]; exact hs2
      · rw [hsne j e, hrec j (by omega) h2, hcg]
  exact key (2 ^ n) F _ (by omega) (by omega) (by simp) (fun j h1 h2 => absurd h2 (by omega))

theorem sTw_eq {F : Nat} {g : Gr} (hg : good g = true) (hF : 300 ≤ F) (hG : g.2.length < F) (hs : Sm g.2.length) : s_l5Tree F g = i_net_treewidth F ⟨nearL g⟩ ∧ ∃ w, i_net_treewidth F ⟨nearL g⟩ = some w := by
  have h8 := good_size hg
  have hp256 := pow256 (n := g.1.toNat) (by omega)
  have hpow := Nat.two_pow_pos g.1.toNat
  obtain ⟨out, o1, o2, o3⟩ := rests_eq hg hF hG hs
  obtain ⟨best, b1, b2, b3⟩ := best_eliminated (F := F) (nn := -1) hg hF
  have heq := back_uniq (by omega) o3 b3 0 hpow
  have hi : i_net_treewidth F ⟨nearL g⟩ = some (best.getD 0 0) := by
    unfold i_net_treewidth i_net_elimination
    rw [b1, Option.bind_some]
    have := idx_getD (xs := best) (i := 0) (d := 0) (by omega)
    rw [show ((0 : Nat) : Int) = 0 from rfl] at this
    rw [Option.bind_some, this, Option.bind_some]
  refine ⟨?_, _, hi⟩
  unfold s_l5Tree
  have := idx_getD (xs := out) (i := 0) (d := 0) (by omega)
  rw [show ((0 : Nat) : Int) = 0 from rfl] at this
  rw [o1, Option.bind_some, this, Option.bind_some, hi]
  congr 1

theorem sTwOf_eq {F : Nat} {g : Gr} (hF : 300 ≤ F) (hG : g.2.length < F) (hs : Sm g.2.length) : ∃ r, s_TreewidthOf F g = some r ∧ i_TreewidthOf F g = some r := by
  unfold s_TreewidthOf i_TreewidthOf
  rw [l2Good_eq hG hs, isGraph_eq hG (by omega) hs, Option.bind_some, Option.bind_some]
  cases hg : good g with
  | false => exact ⟨(0, false), rfl, rfl⟩
  | true =>
    obtain ⟨h1, w, h2⟩ := sTw_eq hg hF hG hs
    rw [Bool.not_true, cond_false, cond_false, netOf_eq hg hG hs, Option.bind_some, h1, h2]
    exact ⟨(w, true), rfl, rfl⟩

end Go.Zq
/- The law TreewidthOf, as a plain statement. -/
namespace Go.Zq

theorem lawTreewidthOf {F : Nat} {g : Gr} (hF : 2097152 ≤ F) (hg : g.2.length ≤ 9223372036854775807) : w_FnExactTreewidthOf F g = some true := by
  unfold w_FnExactTreewidthOf
  rw [szGraph_eq (by omega) (by omega) hg, Option.bind_some]
  by_cases h2 : (1048576 : Int) - g.2.length < 0
  · simp [h2]
  simp only [h2, if_false, decide_false, cond_false]
  rw [toGraph_eq (by omega) (by omega) (by omega)]
  simp only [Option.bind_some]
  obtain ⟨r, h3, h4⟩ := sTwOf_eq (F := F) (g := g) (by omega) (by omega) (by unfold Sm; omega)
  rw [h3, h4]
  simp only [Option.bind_some, bne_self_eq_false, cond_false, w_FnExactTreewidthOf_j1]
  rw [toGraph_eq (by omega) (by omega) (by omega)]
  simp only [Option.bind_some]
  rw [eqGraph_eq (by omega) (by unfold Sm; omega) (by omega)]
  rfl

end Go.Zq
