/- Plain mathematics: what the functions answer (part 2). Conditions: stated in each theorem. -/
import Derived.Test.YtdhbhaaiohkpdaaM1
set_option linter.unusedVariables false
set_option linter.unusedSimpArgs false
/- Plain mathematics: treedepths of all sets. -/
namespace Go.Zq

end Go.Zq
/- Plain mathematics: steps of a search. -/
namespace Go.Zq

/-- the nodes that become unsafe: connected, without searchers, with one that was -/
def spr (g : Gr) (f u : Nat → Bool) (j : Nat) : Bool := anyN (fun y => u y && f y && comp g f y j) g.1.toNat

/-- the node of a step -/
def stNode (step : Int) : Int := if step < 0 then -1 - step else step
/-- whether a step is possible -/
def canB (n : Nat) (p : Nat → Bool) (step : Int) : Bool := decide (stNode step < n) && (p (stNode step).toNat == decide (step < 0))
def newP (p : Nat → Bool) (step : Int) (j : Nat) : Bool := if step < 0 then p j && !(j == (stNode step).toNat) else p j || j == (stNode step).toNat

end Go.Zq
/- Plain mathematics: steps of a search, in the reference; programs. -/
namespace Go.Zq

end Go.Zq
/- Plain mathematics: cops that stay, and treedepth. -/
namespace Go.Zq

end Go.Zq
/- Plain mathematics: path decompositions. -/
namespace Go.Zq

structure Bg (F : Nat) (bags : List (List Int)) : Prop where
  len : bags.length ≤ 1048576
  each : ∀ x ∈ bags, x.length ≤ 1048576
  fuel : 1048577 ≤ F

theorem Bg.at {F : Nat} {bags : List (List Int)} (h : Bg F bags) {i : Nat} (hi : i < bags.length) : (bags.getD i []).length ≤ 1048576 := h.each _ (getD_mem hi)

theorem Bg.of {F : Nat} {bags : List (List Int)} (h : bags.length + sumL bags bags.length ≤ 1048576) (hF : 1048577 ≤ F) : Bg F bags := by
  refine ⟨by omega, fun x hx => ?_, hF⟩
  obtain ⟨i, hi, e⟩ := List.mem_iff_getElem.1 hx
  have := sumL_le hi
  rw [List.getD_eq_getElem?_getD, List.getElem?_eq_getElem hi, Option.getD_some, e] at this
  omega
end Go.Zq
/- Plain mathematics: sets of nodes as lists and as numbers; brambles. -/
namespace Go.Zq

end Go.Zq
/- Plain mathematics: connected sets of a tree; decompositions. -/
namespace Go.Zq

/-- the other ends -/
theorem joins_iff {g : Gr} {a b i : Nat} : joins g a b i = true ↔ ((g.2.getD i (0, 0)).1 = a ∧ (g.2.getD i (0, 0)).2 = b) ∨ ((g.2.getD i (0, 0)).1 = b ∧ (g.2.getD i (0, 0)).2 = a) := by
  unfold joins
  simp only [Bool.or_eq_true, Bool.and_eq_true, beq_iff_eq]

/-- what has been seen from a node -/
structure Seen (T : Gr) (p : Nat → Bool) (x : Nat) (seen : List Int) : Prop where
  nd : seen.Nodup
  inn : ∀ y ∈ seen, ∃ j : Nat, y = j ∧ j < T.1.toNat ∧ comp T p x j = true
  root : (x : Int) ∈ seen
theorem seen_len {T : Gr} {p : Nat → Bool} {x : Nat} {seen : List Int} (hT : good T = true) (h : Seen T p x seen) : seen.length ≤ 8 := by
  have h8 := good_size hT
  have := nodup_len T.1.toNat seen h.nd (fun y hy => by obtain ⟨j, rfl, h1, _⟩ := h.inn y hy; omega)
  omega

end Go.Zq
/- Plain mathematics: the later neighbors of a node in an elimination. -/
namespace Go.Zq

def wth (m x : Nat) (j : Nat) : Bool := m.testBit j || j == x
/-- the neighbours of a node behind a set -/
def latP (g : Gr) (m x : Nat) (j : Nat) : Bool := (!m.testBit j && !(j == x)) && anyN (fun y => comp g (wth m x) x y && adj g y j) g.1.toNat
theorem neighbors_eq {F x : Nat} {g : Gr} (hg : good g = true) (hF : 20 ≤ F) (hG : g.2.length < F) (hs : Sm g.2.length) : s_l2Neighbors F g (x : Int) = some (listN (adj g x) g.1.toNat) := by
  have h8 := good_size hg
  unfold s_l2Neighbors
  refine loop_inv (L := fun k i s => s_l2Neighbors_l1 F (x : Int) g k s i) (n := g.1.toNat) (fun i s => s = listN (adj g x) i) ?_ ?_ F _ (by omega) rfl
  · intro k i s hi hI
    subst hI
    refine ⟨_, rfl, ?_⟩
    have hc := cnt_le (p := adj g x) (n := i)
    simp only [s_l2Neighbors_l1, s_l2Neighbors_j1]
    rw [decide_eq_true (show (i : Int) < g.1 by omega), cond_true, near_eq hG hs, Option.bind_some, w64_succ hi (by unfold Sm; omega), listN_succ]
    cases adj g x i with
    | true => rw [cond_true, appL_one (by rw [listN_len]; omega), Option.bind_some]; rfl
    | false => rw [cond_false]; simp
  · intro k s hI
    subst hI
    simp only [s_l2Neighbors_l1]
    rw [decide_eq_false (show ¬ (g.1.toNat : Int) < g.1 by omega), cond_false]

/-- what was found behind a set: the nodes that were seen, the nodes that come later -/
structure Lat (g : Gr) (m x : Nat) (q : Nat → Bool) (seen : List Int) : Prop where
  sn : Seen g (wth m x) x seen
  qin : ∀ j, q j = true → latP g m x j = true

/-- all neighbours of a node were found, of the first ones -/
def Fnd (m x : Nat) (q : Nat → Bool) (seen : List Int) (ns : List Int) : Prop := ∀ z : Nat, (z : Int) ∈ ns → (wth m x z = true → (z : Int) ∈ seen) ∧ (wth m x z = false → q z = true)

theorem latIn_eq {F : Nat} {g : Gr} {m x k : Nat} {q : Nat → Bool} {seen : List Int} {c : List Int → List Int → Int → Option (List Int)} (hg : good g = true) (hF : 20 ≤ F) (hm : m < 2 ^ g.1.toNat) (hx : x < g.1.toNat) (hk : k < seen.length) (hS : Lat g m x q seen) {y : Nat} (hy : seen.getD k 0 = (y : Int)) :
    ∃ q' ext, Lat g m x q' (seen ++ ext) ∧ Fnd m x q' (seen ++ ext) (listN (adj g y) g.1.toNat) ∧ (∀ j, q j = true → q' j = true) ∧
      s_l5Later_l1 F (listN m.testBit g.1.toNat) g (k : Int) (listN (adj g y) g.1.toNat) c F (listN q g.1.toNat) seen 0 = c (listN q' g.1.toNat) (seen ++ ext) ((k + 1 : Nat) : Int) := by
  have h8 := good_size hg
  have hn8 : (listN (adj g y) g.1.toNat).length ≤ 8 := by rw [listN_len]; exact Nat.le_trans cnt_le (by omega)
  obtain ⟨y', hy', hyn, hyc⟩ := hS.sn.inn _ (getD_mem (d := 0) hk)
  rw [hy] at hy'
  obtain rfl : y = y' := by omega
  obtain ⟨s, ⟨q', ext, hs, h1, h2, h3⟩, h4⟩ := loop_ex (L := fun k2 i (s : List Int × List Int) => s_l5Later_l1 F (listN m.testBit g.1.toNat) g (k : Int) (listN (adj g y) g.1.toNat) c k2 s.1 s.2 i) (n := (listN (adj g y) g.1.toNat).length)
    (fun i s => ∃ q' ext, s = (listN q' g.1.toNat, seen ++ ext) ∧ Lat g m x q' (seen ++ ext) ∧ Fnd m x q' (seen ++ ext) ((listN (adj g y) g.1.toNat).take i) ∧ (∀ j, q j = true → q' j = true)) (fin := fun s => c s.1 s.2 ((k + 1 : Nat) : Int)) (by
      rintro k2 i s hi ⟨q', ext, rfl, hL, hFn, hq⟩
      have hlen := seen_len hg hL.sn
      obtain ⟨z, hz, hzn, hza⟩ := listN_get hi
      have htake : (listN (adj g y) g.1.toNat).take (i + 1) = (listN (adj g y) g.1.toNat).take i ++ [(z : Int)] := by
        rw [List.take_add_one, List.getElem?_eq_getElem hi]
        rw [List.getD_eq_getElem?_getD, List.getElem?_eq_getElem hi, Option.getD_some] at hz
        rw [hz]; rfl
      have hstep : ∀ (q2 : Nat → Bool) (s2 : List Int), (∀ j, q' j = true → q2 j = true) → (∀ w, w ∈ seen ++ ext → w ∈ s2) → (wth m x z = true → (z : Int) ∈ s2) → (wth m x z = false → q2 z = true) → Fnd m x q2 s2 ((listN (adj g y) g.1.toNat).take (i + 1)) := by
        intro q2 s2 a1 a2 a3 a4 w hw
        rw [htake, List.mem_append] at hw
        rcases hw with hw | hw
        · exact ⟨fun h => a2 _ ((hFn w hw).1 h), fun h => a1 _ ((hFn w hw).2 h)⟩
        · simp only [List.mem_singleton] at hw
          obtain rfl : w = z := by omega
          exact ⟨a3, a4⟩
      simp only [s_l5Later_l1, s_l5Later_j1]
      rw [decide_eq_true (show (i : Int) < ((listN (adj g y) g.1.toNat).length : Int) by omega), cond_true, idx_getD (d := 0) hi, hz]
      simp only [Option.bind_some]
      rw [l1Has_eq (by omega) (by unfold Sm; omega), has_listN (by omega) hzn (by omega), put_eq (by omega) hzn (by omega), w64_succ hi (by unfold Sm; omega)]
      simp only [Option.bind_some]
      by_cases hm1 : (z : Int) ∈ seen ++ ext
      · refine ⟨_, ⟨q', ext, rfl, hL, hstep q' _ (fun _ h => h) (fun _ h => h) (fun _ => hm1) (fun h => ?_), hq⟩, by rw [decide_eq_true hm1, cond_true]⟩
        obtain ⟨z', e, _, hc⟩ := hL.sn.inn _ hm1
        obtain rfl : z = z' := by omega
        have := comp_in (p := wth m x) (show wth m x x = true by unfold wth; simp) hc
        rw [this] at h; cases h
      · rw [decide_eq_false hm1, cond_false]
        have hzx : z ≠ x := fun e => hm1 (by rw [e, List.mem_append]; exact .inl hS.sn.root)
        cases hb : m.testBit z with
        | true =>
          have hw : wth m x z = true := by unfold wth; rw [hb]; rfl
          refine ⟨(listN q' g.1.toNat, seen ++ ext ++ [(z : Int)]), ⟨q', ext ++ [(z : Int)], by rw [List.append_assoc], ⟨⟨?_, ?_, ?_⟩, hL.qin⟩, ?_, hq⟩, ?_⟩
          · rw [← List.append_assoc, List.nodup_append]
            refine ⟨hL.sn.nd, by simp, ?_⟩
            intro a ha b hb e
            simp only [List.mem_singleton] at hb
            subst hb; subst e; exact hm1 ha
          · intro a ha
            rw [← List.append_assoc, List.mem_append] at ha
            rcases ha with ha | ha
            · exact hL.sn.inn a ha
            · simp only [List.mem_singleton] at ha
              exact ⟨z, ha, hzn, comp_closed hg hx (by unfold wth; simp) hyc hw hza⟩
          · rw [List.mem_append]; exact .inl hS.sn.root
          · rw [← List.append_assoc]
            exact hstep q' _ (fun _ h => h) (fun w h => by rw [List.mem_append]; exact .inl h) (fun _ => by simp) (fun h => by rw [hw] at h; cases h)
          · rw [cond_true, appL_one (by omega), Option.bind_some]
        | false =>
          have hw : wth m x z = false := by
            unfold wth
            rw [hb]
            simpa using hzx
          refine ⟨(listN (fun j => q' j || j == z) g.1.toNat, seen ++ ext), ⟨fun j => q' j || j == z, ext, rfl, ⟨hL.sn, ?_⟩, ?_, fun j h => by simp [hq j h]⟩, ?_⟩
          · intro j hj
            rw [Bool.or_eq_true, beq_iff_eq] at hj
            rcases hj with hj | hj
            · exact hL.qin j hj
            · subst hj
              unfold latP
              rw [hb]
              have : (j == x) = false := by simpa using hzx
              rw [this]
              simp only [Bool.not_false, Bool.and_self, Bool.true_and]
              exact anyN_iff.2 ⟨y, hyn, by rw [hyc, hza]; rfl⟩
          · exact hstep _ _ (fun j h => by simp [h]) (fun _ h => h) (fun h => by rw [hw] at h; cases h) (fun _ => by simp)
          · rw [cond_false]) (by
      rintro k2 s ⟨q', ext, rfl, hL, hFn, hq⟩
      have hlen := seen_len hg hL.sn
      rw [List.length_append] at hlen
      simp only [s_l5Later_l1]
      rw [decide_eq_false (show ¬ ((listN (adj g y) g.1.toNat).length : Int) < ((listN (adj g y) g.1.toNat).length : Int) by omega), cond_false, w64_succ hk (by unfold Sm; omega)]) F (listN q g.1.toNat, seen) (by omega) ⟨q, [], by simp, by simpa using hS, fun z hz => by simp at hz, fun _ h => h⟩
  subst hs
  rw [List.take_length] at h2
  exact ⟨q', ext, h1, h2, h3, h4⟩

theorem latOut_eq {F : Nat} {g : Gr} {m x : Nat} (hg : good g = true) (hF : 20 ≤ F) (hG : g.2.length < F) (hs : Sm g.2.length) (hm : m < 2 ^ g.1.toNat) (hx : x < g.1.toNat) :
    ∀ (d fu k : Nat) (q : Nat → Bool) (seen : List Int), k + d = 9 → d < fu → k ≤ seen.length → Lat g m x q seen → (∀ t, t < k → ∀ y : Nat, seen.getD t 0 = (y : Int) → Fnd m x q seen (listN (adj g y) g.1.toNat)) →
      s_l5Later_l2 F (listN m.testBit g.1.toNat) g fu (listN q g.1.toNat) seen (k : Int) = some (listN (latP g m x) g.1.toNat) := by
  intro d
  induction d with
  | zero =>
    intro fu k q seen hk hd hl hS hC
    have := seen_len hg hS.sn
    omega
  | succ d ih =>
    intro fu k q seen hk hd hl hS hC
    obtain ⟨fu, rfl⟩ : ∃ f, fu = f + 1 := ⟨fu - 1, by omega⟩
    simp only [s_l5Later_l2]
    by_cases hlt : k < seen.length
    · obtain ⟨y, hy, hyn, hyc⟩ := hS.sn.inn _ (getD_mem (d := 0) hlt)
      obtain ⟨q', ext, h1, h2, h3, h4⟩ := latIn_eq (c := s_l5Later_l2 F (listN m.testBit g.1.toNat) g fu) hg hF hm hx hlt hS hy
      rw [decide_eq_true (show (k : Int) < (seen.length : Int) by omega), cond_true, idx_getD (d := 0) hlt, Option.bind_some, hy, neighbors_eq hg hF hG hs, Option.bind_some, h4]
      refine ih fu (k + 1) q' (seen ++ ext) (by omega) (by omega) (by rw [List.length_append]; omega) h1 ?_
      intro t ht w hw
      have hget : (seen ++ ext).getD t 0 = seen.getD t 0 := by
        rw [List.getD_eq_getElem?_getD, List.getElem?_append_left (by omega), ← List.getD_eq_getElem?_getD]
      rw [hget] at hw
      by_cases e : t = k
      · subst e
        rw [hy] at hw
        obtain rfl : y = w := by omega
        exact h2
      · intro z hz
        have := hC t (by omega) w hw z hz
        exact ⟨fun h => by rw [List.mem_append]; exact .inl (this.1 h), fun h => h3 _ (this.2 h)⟩
    · obtain rfl : k = seen.length := by omega
      rw [decide_eq_false (show ¬ (seen.length : Int) < (seen.length : Int) by omega), cond_false]
      congr 1
      apply listN_congr
      intro j hj
      have hxp : wth m x x = true := by unfold wth; simp
      have hsub : ∀ b, comp g (wth m x) x b = true → (b : Int) ∈ seen := by
        intro b hb
        refine of_decide_eq_true (comp_min (C := fun j => decide ((j : Int) ∈ seen)) (decide_eq_true hS.sn.root) ?_ hb)
        intro y b hy hb ha
        have hy' := of_decide_eq_true hy
        obtain ⟨t, ht, e⟩ := List.mem_iff_getElem.1 hy'
        have hget : seen.getD t 0 = (y : Int) := by rw [List.getD_eq_getElem?_getD, List.getElem?_eq_getElem ht, Option.getD_some, e]
        have hbn := (adj_lt hg ha).2.1
        exact decide_eq_true ((hC t ht y hget b (listN_mem.2 ⟨b, rfl, by omega, ha⟩)).1 hb)
      cases hq : q j with
      | true => exact (hS.qin j hq).symm
      | false =>
        cases hl : latP g m x j with
        | false => rfl
        | true =>
          exfalso
          unfold latP at hl
          simp only [Bool.and_eq_true, Bool.not_eq_true'] at hl
          obtain ⟨⟨l1, l2⟩, l3⟩ := hl
          obtain ⟨y, hyn, hy⟩ := anyN_iff.1 l3
          simp only [Bool.and_eq_true] at hy
          obtain ⟨t, ht, e⟩ := List.mem_iff_getElem.1 (hsub y hy.1)
          have hget : seen.getD t 0 = (y : Int) := by rw [List.getD_eq_getElem?_getD, List.getElem?_eq_getElem ht, Option.getD_some, e]
          have := (hC t ht y hget j (listN_mem.2 ⟨j, rfl, hj, hy.2⟩)).2 (by unfold wth; rw [l1, l2]; rfl)
          rw [this] at hq; cases hq

theorem later_eq {F : Nat} {g : Gr} {m x : Nat} (hg : good g = true) (hF : 20 ≤ F) (hG : g.2.length < F) (hs : Sm g.2.length) (hm : m < 2 ^ g.1.toNat) (hx : x < g.1.toNat) :
    s_l5Later F g (listN m.testBit g.1.toNat) (x : Int) = some (listN (latP g m x) g.1.toNat) := by
  unfold s_l5Later
  have hnil : ([] : List Int) = listN (fun _ => false) g.1.toNat := by simp [listN]
  have := latOut_eq (F := F) hg hF hG hs hm hx 9 F 0 (fun _ => false) [(x : Int)] (by omega) (by omega) (by omega) ⟨⟨by simp, fun y hy => by
    simp only [List.mem_singleton] at hy
    exact ⟨x, hy, hx, comp_self⟩, by simp⟩, fun j h => by cases h⟩ (fun t ht => absurd ht (by omega))
  rw [← hnil] at this
  exact this

end Go.Zq
/- Plain mathematics: parts, and what is connected. -/
namespace Go.Zq

theorem comp_trans {g : Gr} (hg : good g = true) {p : Nat → Bool} {x y z : Nat} (hx : x < g.1.toNat) (hp : p x = true) (h1 : comp g p x y = true) (h2 : comp g p y z = true) : comp g p x z = true :=
  comp_min (C := comp g p x) h1 (fun _ _ h3 h4 h5 => comp_closed hg hx hp h3 h4 h5) h2

end Go.Zq
/- Plain mathematics: own copies of arguments; lists that are marked. -/
namespace Go.Zq

theorem toIntS_o_eq {F : Nat} {xs : List Int} (hF : xs.length < F) (hl : xs.length ≤ 1099511627776) : w_toIntS_o F xs = some (.of xs) := by
  unfold w_toIntS_o
  rw [mkN_nat hl, Option.bind_some]
  refine loop_inv (L := fun k i s => w_toIntS_o_l1 F xs k s i) (n := xs.length) (fun i ys => ys.length = xs.length ∧ ys.take i = xs.take i) ?_ ?_ F _ hF (by simp)
  · intro k i s hi hI
    refine ⟨_, copied hI hi, ?_⟩
    simp only [w_toIntS_o_l1]
    rw [idx_nat hi, idx_nat (by omega), w64_succ hi (by unfold Sm; omega)]
    simp [hi]
  · intro k s hI
    simp only [w_toIntS_o_l1]
    rw [copied_end hI]; simp

theorem toIntA2S_o_eq {F : Nat} {xs : List (Int × Int)} (hF : xs.length < F) (hl : xs.length ≤ 1099511627776) (h3 : 3 ≤ F) : w_toIntA2S_o F xs = some (.of xs) := by
  unfold w_toIntA2S_o
  rw [mkN_nat hl, Option.bind_some]
  refine loop_inv (L := fun k i s => w_toIntA2S_o_l1 F xs k s i) (n := xs.length) (fun i ys => ys.length = xs.length ∧ ys.take i = xs.take i) ?_ ?_ F _ hF (by simp)
  · intro k i s hi hI
    refine ⟨_, copied hI hi, ?_⟩
    simp only [w_toIntA2S_o_l1]
    rw [idx_nat hi, idx_nat (by omega), w64_succ hi (by unfold Sm; omega)]
    simp [hi, toIntA2_eq h3]
  · intro k s hI
    simp only [w_toIntA2S_o_l1]
    rw [copied_end hI]; simp

theorem toGraph_o_eq {F : Nat} {g : Int × List (Int × Int)} (hF : g.2.length < F) (hl : g.2.length ≤ 1099511627776) (h3 : 3 ≤ F) : w_toGraph_o F g = some (g.1, .of g.2) := by
  unfold w_toGraph_o
  rw [toIntA2S_o_eq hF hl h3]; rfl

/-- what a marked list is -/
def mkd (n : Nat) (k : Int) : List Int := (List.range n).map fun (i : Nat) => k + (i : Int)
theorem mkd_length {n : Nat} {k : Int} : (mkd n k).length = n := by simp [mkd]
theorem mkd_get {n i : Nat} {k : Int} (h : i < n) : idx (mkd n k) (i : Int) = some (k + i) := by
  rw [idx_nat (by rw [mkd_length]; exact h)]
  simp [mkd]

theorem markIntS_eq {F : Nat} {o : NL Int} {k : Int} (hF : o.list.length < F) (hl : o.list.length ≤ 1099511627776) (h0 : 0 ≤ k) (hk : k ≤ 4611686018427387904) :
    ∃ o', w_markIntS F ⟨o⟩ k = some (k + o.list.length, o') ∧ remark o o' = some o' ∧ o'.list = mkd o.list.length k := by
  cases o with
  | nil =>
    obtain ⟨j, rfl⟩ : ∃ j, F = j + 1 := ⟨F - 1, by omega⟩
    exact ⟨.nil, by simp [w_markIntS, w_markIntS_l1, NL.list], rfl, by simp [NL.list, mkd]⟩
  | of xs =>
    simp only [NL.list] at hF hl ⊢
    obtain ⟨s, ⟨ys, h1, h2, h3, h4⟩, h5⟩ := loop_ex (L := fun j i (s : NL Int × Int) => w_markIntS_l1 F j s.1 s.2 i) (n := xs.length) (fin := fun s => some (s.2, s.1))
      (fun i s => ∃ ys : List Int, s.1 = .of ys ∧ ys.length = xs.length ∧ s.2 = k + i ∧ ∀ j, j < i → ys[j]? = some (k + (j : Int)))
      (by
        rintro j i ⟨a, b⟩ hi ⟨ys, rfl, h2, rfl, h4⟩
        refine ⟨(.of (ys.set i (k + i)), k + ((i + 1 : Nat) : Int)), ⟨_, rfl, by simp [h2], rfl, ?_⟩, ?_⟩
        · intro m hm
          rw [List.getElem?_set]
          by_cases e : i = m
          · subst e; simp [h2, hi]
          · simp only [e, if_false]; exact h4 m (by omega)
        · simp only [w_markIntS_l1, NL.list]
          have : decide ((i : Int) < (ys.length : Int)) = true := by simp; omega
          change (bif decide ((i : Int) < (ys.length : Int)) then _ else _) = _
          rw [this, cond_true, idx_nat (by omega), Option.bind_some, w64_succ hi (by unfold Sm; omega), w64_id (x := k + i + 1) (by omega) (by omega)]
          simp only [NL.set, Int.toNat_natCast]
          congr 1
          omega)
      (by
        rintro j ⟨a, b⟩ ⟨ys, rfl, h2, rfl, h4⟩
        simp only [w_markIntS_l1, NL.list, h2]
        simp) F (.of xs, k) hF ⟨xs, rfl, rfl, by simp, by simp⟩
    obtain ⟨a, b⟩ := s
    simp only at h1 h3 h5
    subst h1; subst h3
    refine ⟨.of ys, ?_, by simp [remark, h2], ?_⟩
    · unfold w_markIntS; exact h5
    · simp only [NL.list]
      apply List.ext_getElem?
      intro i
      by_cases hi : i < xs.length
      · rw [h4 i hi]; simp [mkd, hi]
      · rw [List.getElem?_eq_none (by omega), List.getElem?_eq_none (by rw [mkd_length]; omega)]

theorem heldIntS_eq {F n : Nat} {k : Int} (hF : n < F) (hl : n ≤ 1099511627776) (h0 : 0 ≤ k) (hk : k ≤ 4611686018427387904) : w_heldIntS F (mkd n k) k = some (k + n) := by
  unfold w_heldIntS
  refine loop_inv (L := fun j i s => w_heldIntS_l1 F (mkd n k) j s i) (n := n) (fun i s => s = k + (i : Int)) ?_ ?_ F _ hF (by simp)
  · rintro j i s hi rfl
    refine ⟨_, rfl, ?_⟩
    simp only [w_heldIntS_l1, mkd_length]
    have : decide ((i : Int) < (n : Int)) = true := by simpa using hi
    rw [this, cond_true, mkd_get hi, Option.bind_some, w64_succ hi (by unfold Sm; omega), w64_id (x := k + i + 1) (by omega) (by omega)]
    simp only [bne_self_eq_false, cond_false]
    congr 1
    omega
  · rintro j s rfl
    simp only [w_heldIntS_l1, mkd_length]
    simp

theorem set2_length {α : Type} {xs : List (α × α)} {i : Nat} {j : Int} {b : α} : (set2 xs i j b).length = xs.length := by
  unfold set2
  split <;> simp

theorem markGraph_eq {F : Nat} {a : Int} {xs : List (Int × Int)} {k : Int} (hF : xs.length < F) (h3 : 3 ≤ F) (hl : xs.length ≤ 1099511627776) (h0 : 0 ≤ k) (hk : k ≤ 4611686018427387904) :
    ∃ ys : List (Int × Int), w_markGraph F ⟨a, .of xs⟩ k = some (k + 2 * xs.length, ⟨a, .of ys⟩) ∧ ys.length = xs.length ∧ ∀ i, i < xs.length → ys[i]? = some (k + 2 * (i : Int), k + 2 * (i : Int) + 1) := by
  obtain ⟨s, ⟨ys, h1, h2, h4, h6⟩, h5⟩ := loop_ex (L := fun j i (s : NL (Int × Int) × Int) => w_markIntA2S_l2 F j s.1 s.2 i) (n := xs.length) (fin := fun s => some (s.2, s.1))
      (fun i s => ∃ ys : List (Int × Int), s.1 = .of ys ∧ ys.length = xs.length ∧ s.2 = k + 2 * (i : Int) ∧ ∀ j, j < i → ys[j]? = some (k + 2 * (j : Int), k + 2 * (j : Int) + 1))
      (by
        rintro j i ⟨a, b⟩ hi ⟨ys, rfl, h2, rfl, h6⟩
        refine ⟨(.of (set2 (set2 ys i 0 (k + 2 * i)) i 1 (k + 2 * i + 1)), k + 2 * ((i + 1 : Nat) : Int)), ⟨_, rfl, by simp [set2_length, h2], rfl, ?_⟩, ?_⟩
        · intro m hm
          have e : set2 (set2 ys i 0 (k + 2 * i)) i 1 (k + 2 * i + 1) = ys.set i (k + 2 * (i : Int), k + 2 * (i : Int) + 1) := by
            have hil : i < ys.length := by omega
            have e1 : ys[i]? = some ys[i] := by simp [hil]
            simp only [set2, e1, List.getElem?_set, hil, if_true, List.set_set]
            rfl
          rw [e, List.getElem?_set]
          by_cases e : i = m
          · subst e; simp [h2, hi]
          · simp only [e, if_false]; exact h6 m (by omega)
        simp only [w_markIntA2S_l2, NL.list]
        have : decide ((i : Int) < (ys.length : Int)) = true := by simp; omega
        change (bif decide ((i : Int) < (ys.length : Int)) then _ else _) = _
        rw [this, cond_true]
        obtain ⟨f, rfl⟩ : ∃ f, F = f + 3 := ⟨F - 3, by omega⟩
        rw [w_markIntA2S_l1]
        simp only [NL.list]
        rw [idx_nat (by omega)]
        rw [show (decide ((0 : Int) < 2)) = true from rfl, cond_true, Option.bind_some]
        rw [show idx [(ys[i]'(by omega)).1, (ys[i]'(by omega)).2] 0 = some (ys[i]'(by omega)).1 from rfl, Option.bind_some]
        rw [show w64 (0 + 1) = 1 from by decide, w64_id (x := k + 2 * i + 1) (by omega) (by omega)]
        simp only [NL.set2, Int.toNat_natCast]
        rw [w_markIntA2S_l1]
        simp only [NL.list]
        rw [idx_nat (by rw [set2_length]; omega)]
        rw [show (decide ((1 : Int) < 2)) = true from rfl, cond_true, Option.bind_some]
        rw [show ∀ u v : Int, idx [u, v] 1 = some v from fun _ _ => rfl, Option.bind_some]
        rw [show w64 (1 + 1) = 2 from by decide, w64_id (x := k + 2 * i + 1 + 1) (by omega) (by omega)]
        simp only [NL.set2, Int.toNat_natCast]
        rw [w_markIntA2S_l1]
        rw [show (decide ((2 : Int) < 2)) = false from rfl, cond_false, w64_succ hi (by unfold Sm; omega)]
        congr 1
        omega)
      (by
        rintro j ⟨a, b⟩ ⟨ys, rfl, h2, rfl, _⟩
        simp only [w_markIntA2S_l2, NL.list, h2]
        simp) F (.of xs, k) hF ⟨xs, rfl, rfl, by simp, by simp⟩
  obtain ⟨u, b⟩ := s
  simp only at h1 h4 h5
  subst h1; subst h4
  refine ⟨ys, ?_, h2, h6⟩
  unfold w_markGraph w_markIntA2S
  rw [h5]
  simp [remark, h2]

end Go.Zq
/- Plain mathematics: fronts, as lists of one's own. -/
namespace Go.Zq

theorem ex_of_map {α β : Type} {f : α → β} {a : Option β} {b : Option α} {r : β} (h : a = b.map f) (hr : a = some r) : ∃ o, b = some o ∧ f o = r := by
  rw [hr] at h
  cases b with
  | none => cases h
  | some o => simp at h; exact ⟨o, rfl, h.symm⟩
theorem map_cond {α β : Type} {f : α → β} {t : Bool} {a b : Option α} : (bif t then a else b).map f = bif t then a.map f else b.map f := by cases t <;> rfl

theorem setOf_l1_map {F : Nat} {s : Int} : ∀ (k : Nat) (l : NL Int) (i : Int), i_setOf_l1 F s k l i = (i_setOf_o_l1 F s k l i).map NL.list
  | 0, l, i => rfl
  | k + 1, l, i => by
    simp only [i_setOf_l1, i_setOf_o_l1, i_setOf_j1, i_setOf_o_j1, Option.map_bind, map_cond, setOf_l1_map k, Function.comp_def, Option.map_some]

theorem setOf_o_eq {F n : Nat} {p : Nat → Bool} (hn : n ≤ 8) (hF : 20 ≤ F) : ∃ o, i_setOf_o F ((mkm p n : Nat) : Int) = some o ∧ o.list = listN p n :=
  ex_of_map (setOf_l1_map F .nil 0) (setOf_eq hn hF)

theorem listN_le {p : Nat → Bool} {n : Nat} : (listN p n).length ≤ n := by rw [listN_len]; exact cnt_le

end Go.Zq
/- Plain mathematics: the cutwidth of a layout. -/
namespace Go.Zq

theorem isOrd_in {n : Int} {l : List Int} (h : isOrd n l = true) (h0 : 0 ≤ n) : ∀ y ∈ l, 0 ≤ y ∧ y < n := by
  have hl := isOrd_len h
  have := (cover_len n.toNat l (fun j hj => isOrd_mem h (by omega) (by omega))).2 (by omega)
  intro y hy
  have := this y hy
  omega

end Go.Zq
/- Plain mathematics: the sizes of the fronts of a layout. -/
namespace Go.Zq

end Go.Zq
/- Plain mathematics: the program of a layout. -/
namespace Go.Zq

end Go.Zq
/- Plain mathematics: neighbors as lists. -/
namespace Go.Zq

end Go.Zq
/- Plain mathematics: sets that stop a fire. -/
namespace Go.Zq

end Go.Zq
/- Plain mathematics: rankings. -/
namespace Go.Zq

/-- nodes with at most a number; nodes with just this number -/
def lowP (l : List Int) (r : Int) (j : Nat) : Bool := decide (l.getD j 0 ≤ r)
/-- a node of the same number is met -/
def meets (g : Gr) (l : List Int) (x : Nat) : Bool := anyN (fun y => comp g (lowP l (l.getD x 0)) x y && ((y != x) && (l.getD y 0 == l.getD x 0))) g.1.toNat

end Go.Zq
