/- Plain mathematics: what the functions answer (part 2). Conditions: stated in each theorem. -/
import Derived.Test.YtdhbhaaiohkpdaaM1
set_option linter.unusedVariables false
set_option linter.unusedSimpArgs false
/- Plain mathematics: fronts. -/
namespace Go.Zq

end Go.Zq
/- Plain mathematics: path decompositions. -/
namespace Go.Zq

structure Bg (F : Nat) (bags : List (List Int)) : Prop where
  len : bags.length ≤ 1048576
  each : ∀ x ∈ bags, x.length ≤ 1048576
  fuel : 1048577 ≤ F

theorem Bg.at {F : Nat} {bags : List (List Int)} (h : Bg F bags) {i : Nat} (hi : i < bags.length) : (bags.getD i []).length ≤ 1048576 := h.each _ (getD_mem hi)

theorem Bg.of {F : Nat} {bags : List (List Int)} (h : bags.length + sumL bags bags.length ≤ 1048576) (hF : 1048577 ≤ F) : Bg F bags := by
  refine ⟨by omega, fun x hx => ?_, hF⟩
  obtain ⟨i, hi, e⟩ := List.mem_iff_getElem.1 hx
  have := sumL_le hi
  rw [List.getD_eq_getElem?_getD, List.getElem?_eq_getElem hi, Option.getD_some, e] at this
  omega
end Go.Zq
/- Plain mathematics: sets of nodes as lists and as numbers; brambles. -/
namespace Go.Zq

end Go.Zq
/- Plain mathematics: own copies of arguments; lists that are marked. -/
namespace Go.Zq

theorem toIntS_o_eq {F : Nat} {xs : List Int} (hF : xs.length < F) (hl : xs.length ≤ 1099511627776) : w_toIntS_o F xs = some (.of xs) := by
  unfold w_toIntS_o
  rw [mkN_nat hl, Option.bind_some]
  refine loop_inv (L := fun k i s => w_toIntS_o_l1 F xs k s i) (n := xs.length) (fun i ys => ys.length = xs.length ∧ ys.take i = xs.take i) ?_ ?_ F _ hF (by simp)
  · intro k i s hi hI
    refine ⟨_, copied hI hi, ?_⟩
    simp only [w_toIntS_o_l1]
    rw [idx_nat hi, idx_nat (by omega), w64_succ hi (by unfold Sm; omega)]
    simp [hi]
  · intro k s hI
    simp only [w_toIntS_o_l1]
    rw [copied_end hI]; simp

theorem toIntA2S_o_eq {F : Nat} {xs : List (Int × Int)} (hF : xs.length < F) (hl : xs.length ≤ 1099511627776) (h3 : 3 ≤ F) : w_toIntA2S_o F xs = some (.of xs) := by
  unfold w_toIntA2S_o
  rw [mkN_nat hl, Option.bind_some]
  refine loop_inv (L := fun k i s => w_toIntA2S_o_l1 F xs k s i) (n := xs.length) (fun i ys => ys.length = xs.length ∧ ys.take i = xs.take i) ?_ ?_ F _ hF (by simp)
  · intro k i s hi hI
    refine ⟨_, copied hI hi, ?_⟩
    simp only [w_toIntA2S_o_l1]
    rw [idx_nat hi, idx_nat (by omega), w64_succ hi (by unfold Sm; omega)]
    simp [hi, toIntA2_eq h3]
  · intro k s hI
    simp only [w_toIntA2S_o_l1]
    rw [copied_end hI]; simp

theorem toGraph_o_eq {F : Nat} {g : Int × List (Int × Int)} (hF : g.2.length < F) (hl : g.2.length ≤ 1099511627776) (h3 : 3 ≤ F) : w_toGraph_o F g = some (g.1, .of g.2) := by
  unfold w_toGraph_o
  rw [toIntA2S_o_eq hF hl h3]; rfl

/-- what a marked list is -/
def mkd (n : Nat) (k : Int) : List Int := (List.range n).map fun (i : Nat) => k + (i : Int)
theorem mkd_length {n : Nat} {k : Int} : (mkd n k).length = n := by simp [mkd]
theorem mkd_get {n i : Nat} {k : Int} (h : i < n) : idx (mkd n k) (i : Int) = some (k + i) := by
  rw [idx_nat (by rw [mkd_length]; exact h)]
  simp [mkd]

theorem markIntS_eq {F : Nat} {o : NL Int} {k : Int} (hF : o.list.length < F) (hl : o.list.length ≤ 1099511627776) (h0 : 0 ≤ k) (hk : k ≤ 4611686018427387904) :
    ∃ o', w_markIntS F ⟨o⟩ k = some (k + o.list.length, o') ∧ remark o o' = some o' ∧ o'.list = mkd o.list.length k := by
  cases o with
  | nil =>
    obtain ⟨j, rfl⟩ : ∃ j, F = j + 1 := ⟨F - 1, by omega⟩
    exact ⟨.nil, by simp [w_markIntS, w_markIntS_l1, NL.list], rfl, by simp [NL.list, mkd]⟩
  | of xs =>
    simp only [NL.list] at hF hl ⊢
    obtain ⟨s, ⟨ys, h1, h2, h3, h4⟩, h5⟩ := loop_ex (L := fun j i (s : NL Int × Int) => w_markIntS_l1 F j s.1 s.2 i) (n := xs.length) (fin := fun s => some (s.2, s.1))
      (fun i s => ∃ ys : List Int, s.1 = .of ys ∧ ys.length = xs.length ∧ s.2 = k + i ∧ ∀ j, j < i → ys[j]? = some (k + (j : Int)))
      (by
        rintro j i ⟨a, b⟩ hi ⟨ys, rfl, h2, rfl, h4⟩
        refine ⟨(.of (ys.set i (k + i)), k + ((i + 1 : Nat) : Int)), ⟨_, rfl, by simp [h2], rfl, ?_⟩, ?_⟩
        · intro m hm
          rw [List.getElem?_set]
          by_cases e : i = m
          · subst e; simp [h2, hi]
          · simp only [e, if_false]; exact h4 m (by omega)
        · simp only [w_markIntS_l1, NL.list]
          have : decide ((i : Int) < (ys.length : Int)) = true := by simp; omega
          change (bif decide ((i : Int) < (ys.length : Int)) then _ else _) = _
          rw [this, cond_true, idx_nat (by omega), Option.bind_some, w64_succ hi (by unfold Sm; omega), w64_id (x := k + i + 1) (by omega) (by omega)]
          simp only [NL.set, Int.toNat_natCast]
          congr 1
          omega)
      (by
        rintro j ⟨a, b⟩ ⟨ys, rfl, h2, rfl, h4⟩
        simp only [w_markIntS_l1, NL.list, h2]
        simp) F (.of xs, k) hF ⟨xs, rfl, rfl, by simp, by simp⟩
    obtain ⟨a, b⟩ := s
    simp only at h1 h3 h5
    subst h1; subst h3
    refine ⟨.of ys, ?_, by simp [remark, h2], ?_⟩
    · unfold w_markIntS; exact h5
    · simp only [NL.list]
      apply List.ext_getElem?
      intro i
      by_cases hi : i < xs.length
      · rw [h4 i hi]; simp [mkd, hi]
      · rw [List.getElem?_eq_none (by omega), List.getElem?_eq_none (by rw [mkd_length]; omega)]

theorem heldIntS_eq {F n : Nat} {k : Int} (hF : n < F) (hl : n ≤ 1099511627776) (h0 : 0 ≤ k) (hk : k ≤ 4611686018427387904) : w_heldIntS F (mkd n k) k = some (k + n) := by
  unfold w_heldIntS
  refine loop_inv (L := fun j i s => w_heldIntS_l1 F (mkd n k) j s i) (n := n) (fun i s => s = k + (i : Int)) ?_ ?_ F _ hF (by simp)
  · rintro j i s hi rfl
    refine ⟨_, rfl, ?_⟩
    simp only [w_heldIntS_l1, mkd_length]
    have : decide ((i : Int) < (n : Int)) = true := by simpa using hi
    rw [this, cond_true, mkd_get hi, Option.bind_some, w64_succ hi (by unfold Sm; omega), w64_id (x := k + i + 1) (by omega) (by omega)]
    simp only [bne_self_eq_false, cond_false]
    congr 1
    omega
  · rintro j s rfl
    simp only [w_heldIntS_l1, mkd_length]
    simp

theorem set2_length {α : Type} {xs : List (α × α)} {i : Nat} {j : Int} {b : α} : (set2 xs i j b).length = xs.length := by
  unfold set2
  split <;> simp

theorem markGraph_eq {F : Nat} {a : Int} {xs : List (Int × Int)} {k : Int} (hF : xs.length < F) (h3 : 3 ≤ F) (hl : xs.length ≤ 1099511627776) (h0 : 0 ≤ k) (hk : k ≤ 4611686018427387904) :
    ∃ ys : List (Int × Int), w_markGraph F ⟨a, .of xs⟩ k = some (k + 2 * xs.length, ⟨a, .of ys⟩) ∧ ys.length = xs.length ∧ ∀ i, i < xs.length → ys[i]? = some (k + 2 * (i : Int), k + 2 * (i : Int) + 1) := by
  obtain ⟨s, ⟨ys, h1, h2, h4, h6⟩, h5⟩ := loop_ex (L := fun j i (s : NL (Int × Int) × Int) => w_markIntA2S_l2 F j s.1 s.2 i) (n := xs.length) (fin := fun s => some (s.2, s.1))
      (fun i s => ∃ ys : List (Int × Int), s.1 = .of ys ∧ ys.length = xs.length ∧ s.2 = k + 2 * (i : Int) ∧ ∀ j, j < i → ys[j]? = some (k + 2 * (j : Int), k + 2 * (j : Int) + 1))
      (by
        rintro j i ⟨a, b⟩ hi ⟨ys, rfl, h2, rfl, h6⟩
        refine ⟨(.of (set2 (set2 ys i 0 (k + 2 * i)) i 1 (k + 2 * i + 1)), k + 2 * ((i + 1 : Nat) : Int)), ⟨_, rfl, by simp [set2_length, h2], rfl, ?_⟩, ?_⟩
        · intro m hm
          have e : set2 (set2 ys i 0 (k + 2 * i)) i 1 (k + 2 * i + 1) = ys.set i (k + 2 * (i : Int), k + 2 * (i : Int) + 1) := by
            have hil : i < ys.length := by omega
            have e1 : ys[i]? = some ys[i] := by simp [hil]
            simp only [set2, e1, List.getElem?_set, hil, if_true, List.set_set]
            rfl
          rw [e, List.getElem?_set]
          by_cases e : i = m
          · subst e; simp [h2, hi]
          · simp only [e, if_false]; exact h6 m (by omega)
        simp only [w_markIntA2S_l2, NL.list]
        have : decide ((i : Int) < (ys.length : Int)) = true := by simp; omega
        change (bif decide ((i : Int) < (ys.length : Int)) then _ else _) = _
        rw [this, cond_true]
        obtain ⟨f, rfl⟩ : ∃ f, F = f + 3 := ⟨F - 3, by omega⟩
        rw [w_markIntA2S_l1]
        simp only [NL.list]
        rw [idx_nat (by omega)]
        rw [show (decide ((0 : Int) < 2)) = true from rfl, cond_true, Option.bind_some]
        rw [show idx [(ys[i]'(by omega)).1, (ys[i]'(by omega)).2] 0 = some (ys[i]'(by omega)).1 from rfl, Option.bind_some]
        rw [show w64 (0 + 1) = 1 from by decide, w64_id (x := k + 2 * i + 1) (by omega) (by omega)]
        simp only [NL.set2, Int.toNat_natCast]
        rw [w_markIntA2S_l1]
        simp only [NL.list]
        rw [idx_nat (by rw [set2_length]; omega)]
        rw [show (decide ((1 : Int) < 2)) = true from rfl, cond_true, Option.bind_some]
        rw [show ∀ u v : Int, idx [u, v] 1 = some v from fun _ _ => rfl, Option.bind_some]
        rw [show w64 (1 + 1) = 2 from by decide, w64_id (x := k + 2 * i + 1 + 1) (by omega) (by omega)]
        simp only [NL.set2, Int.toNat_natCast]
        rw [w_markIntA2S_l1]
        rw [show (decide ((2 : Int) < 2)) = false from rfl, cond_false, w64_succ hi (by unfold Sm; omega)]
        congr 1
        omega)
      (by
        rintro j ⟨a, b⟩ ⟨ys, rfl, h2, rfl, _⟩
        simp only [w_markIntA2S_l2, NL.list, h2]
        simp) F (.of xs, k) hF ⟨xs, rfl, rfl, by simp, by simp⟩
  obtain ⟨u, b⟩ := s
  simp only at h1 h4 h5
  subst h1; subst h4
  refine ⟨ys, ?_, h2, h6⟩
  unfold w_markGraph w_markIntA2S
  rw [h5]
  simp [remark, h2]

end Go.Zq
/- Plain mathematics: fronts, as lists of one's own. -/
namespace Go.Zq

theorem ex_of_map {α β : Type} {f : α → β} {a : Option β} {b : Option α} {r : β} (h : a = b.map f) (hr : a = some r) : ∃ o, b = some o ∧ f o = r := by
  rw [hr] at h
  cases b with
  | none => cases h
  | some o => simp at h; exact ⟨o, rfl, h.symm⟩
theorem map_cond {α β : Type} {f : α → β} {t : Bool} {a b : Option α} : (bif t then a else b).map f = bif t then a.map f else b.map f := by cases t <;> rfl

theorem setOf_l1_map {F : Nat} {s : Int} : ∀ (k : Nat) (l : NL Int) (i : Int), i_setOf_l1 F s k l i = (i_setOf_o_l1 F s k l i).map NL.list
  | 0, l, i => rfl
  | k + 1, l, i => by
    simp only [i_setOf_l1, i_setOf_o_l1, i_setOf_j1, i_setOf_o_j1, Option.map_bind, map_cond, setOf_l1_map k, Function.comp_def, Option.map_some]

theorem setOf_o_eq {F n : Nat} {p : Nat → Bool} (hn : n ≤ 8) (hF : 20 ≤ F) : ∃ o, i_setOf_o F ((mkm p n : Nat) : Int) = some o ∧ o.list = listN p n :=
  ex_of_map (setOf_l1_map F .nil 0) (setOf_eq hn hF)

theorem listN_le {p : Nat → Bool} {n : Nat} : (listN p n).length ≤ n := by rw [listN_len]; exact cnt_le

end Go.Zq
/- Plain mathematics: lists of lists that are own, and their marks. -/
namespace Go.Zq

/-- what marked lists are -/
def mkdd : List Nat → Int → List (List Int)
  | [], _ => []
  | n :: ns, k => mkd n k :: mkdd ns (k + n)
def sumL0 : List Nat → Nat
  | [] => 0
  | n :: ns => n + sumL0 ns

theorem mkdd_len : ∀ (ns : List Nat) (k : Int), (mkdd ns k).length = ns.length
  | [], _ => rfl
  | n :: ns, k => by simp [mkdd, mkdd_len ns]

theorem mkdd_get : ∀ (ns : List Nat) (k : Int) (j n : Nat), ns[j]? = some n → (mkdd ns k)[j]? = some (mkd n (k + (sumL0 (ns.take j) : Nat)))
  | [], _, j, n, h => by simp at h
  | m :: ns, k, 0, n, h => by
    simp only [List.getElem?_cons_zero, Option.some.injEq] at h
    subst h
    simp [mkdd, sumL0]
  | m :: ns, k, j + 1, n, h => by
    simp only [List.getElem?_cons_succ] at h
    have := mkdd_get ns (k + m) j n h
    simp only [mkdd, List.getElem?_cons_succ, this, List.take_succ_cons, sumL0]
    congr 2
    omega

theorem sumL0_succ : ∀ (ns : List Nat) (j n : Nat), ns[j]? = some n → sumL0 (ns.take (j + 1)) = sumL0 (ns.take j) + n
  | [], j, n, h => by simp at h
  | m :: ns, 0, n, h => by
    simp only [List.getElem?_cons_zero, Option.some.injEq] at h
    subst h
    simp [sumL0]
  | m :: ns, j + 1, n, h => by
    simp only [List.getElem?_cons_succ] at h
    have := sumL0_succ ns j n h
    simp only [List.take_succ_cons, sumL0, this]
    omega

theorem sumL0_le : ∀ (ns : List Nat) (j : Nat), sumL0 (ns.take j) ≤ sumL0 ns
  | [], j => by simp [sumL0]
  | m :: ns, 0 => by simp [sumL0]
  | m :: ns, j + 1 => by
    have := sumL0_le ns j
    simp only [List.take_succ_cons, sumL0]
    omega

theorem remark_nil {o o' : NL Int} (h : remark o o' = some o') : o'.isNil = o.isNil := by
  cases o with
  | nil => simp [remark] at h; subst h; rfl
  | of xs => cases o' with
    | nil => simp [remark] at h
    | of ys => rfl

/-- the marks of a list of lists -/
theorem markIntSS_eq {F : Nat} {o : NL (NL Int)} {ns : List Nat} {k : Int} (hns : o.list.map (fun o => o.list.length) = ns) (hF : ns.length < F) (h1 : sumL0 ns < F) (hl : Sm ns.length) (hl1 : sumL0 ns ≤ 1099511627776) (h0 : 0 ≤ k) (hk : k + (sumL0 ns : Nat) ≤ 4611686018427387904) :
    ∃ o', w_markIntSS F ⟨o⟩ k = some (k + (sumL0 ns : Nat), o') ∧ remark2 o o' = some o' ∧ o'.list.map NL.list = mkdd ns k := by
  cases o with
  | nil =>
    simp only [NL.list, List.map_nil] at hns
    subst hns
    obtain ⟨j, rfl⟩ : ∃ j, F = j + 1 := ⟨F - 1, by omega⟩
    exact ⟨.nil, by simp [w_markIntSS, w_markIntSS_l1, NL.list, sumL0], rfl, rfl⟩
  | of os =>
    change os.map (fun o => o.list.length) = ns at hns
    have hlen : os.length = ns.length := by rw [← hns]; simp
    obtain ⟨s, ⟨ys, e1, e2, e3, e4, e5⟩, e6⟩ := loop_ex (L := fun j i (s : NL (NL Int) × Int) => w_markIntSS_l1 F j s.1 s.2 i) (n := ns.length) (fin := fun s => some (s.2, s.1))
      (fun i s => ∃ ys : List (NL Int), s.1 = .of ys ∧ ys.length = ns.length ∧ s.2 = k + (sumL0 (ns.take i) : Nat) ∧ ys.map NL.isNil = os.map NL.isNil ∧ ∀ j, j < ns.length → (j < i → ∃ y, ys[j]? = some y ∧ (mkdd ns k)[j]? = some y.list) ∧ (i ≤ j → ys[j]? = os[j]?))
      (by
        rintro j i ⟨a, b⟩ hi ⟨ys, rfl, h2, rfl, h4, h5⟩
        obtain ⟨oi, hio⟩ : ∃ oi, os[i]? = some oi := ⟨os[i]'(by omega), by simp [hlen, hi]⟩
        have hni : ns[i]? = some oi.list.length := by
          have h9 : (os.map (fun o => o.list.length))[i]? = ns[i]? := by rw [hns]
          rw [← h9, List.getElem?_map, hio]; rfl
        have hyi : ys[i]? = some oi := by rw [(h5 i hi).2 (Nat.le_refl _), hio]
        have hsum := sumL0_succ ns i _ hni
        have hle := sumL0_le ns (i + 1)
        obtain ⟨o', m1, m2, m3⟩ := markIntS_eq (F := F) (o := oi) (k := k + (sumL0 (ns.take i) : Nat)) (by omega) (by omega) (by omega) (by omega)
        refine ⟨(.of (ys.set i o'), k + (sumL0 (ns.take (i + 1)) : Nat)), ⟨_, rfl, by simp [h2], rfl, ?_, ?_⟩, ?_⟩
        · rw [← h4]
          apply List.ext_getElem?
          intro m
          simp only [List.getElem?_map, List.getElem?_set]
          by_cases e : i = m
          · subst e
            simp only [if_true, h2, hi, hyi, Option.map_some, remark_nil m2]
          · simp only [e, if_false]
        · intro m hm
          have h6 := h5 m hm
          refine ⟨fun hmi => ?_, fun him => ?_⟩
          · rw [List.getElem?_set]
            by_cases e : i = m
            · subst e
              refine ⟨o', by simp [h2, hi], ?_⟩
              rw [mkdd_get ns k i _ hni, m3]
            · simp only [e, if_false]
              exact h6.1 (by omega)
          · rw [List.getElem?_set, if_neg (by omega)]
            exact h6.2 (by omega)
        · simp only [w_markIntSS_l1, NL.list]
          have hc : decide ((i : Int) < (ys.length : Int)) = true := by simp; omega
          have hix : idx ys (i : Int) = some oi := by
            unfold idx
            rw [if_pos (by omega)]
            simpa using hyi
          change (bif decide ((i : Int) < (ys.length : Int)) then _ else _) = _
          rw [hc, cond_true, hix, Option.bind_some, m1, Option.bind_some, m2, Option.bind_some, w64_succ hi hl]
          simp only [NL.set, Int.toNat_natCast]
          congr 1
          omega)
      (by
        rintro j ⟨a, b⟩ ⟨ys, rfl, h2, rfl, _, _⟩
        simp only [w_markIntSS_l1, NL.list, h2]
        simp) F (.of os, k) hF ⟨os, rfl, hlen, by simp [sumL0], rfl, fun j hj => ⟨fun h => by omega, fun _ => rfl⟩⟩
    obtain ⟨a, b⟩ := s
    simp only at e1 e3 e6
    subst e1; subst e3
    rw [List.take_of_length_le (Nat.le_refl _)] at e6
    refine ⟨.of ys, ?_, by simp [remark2, e4], ?_⟩
    · unfold w_markIntSS; exact e6
    · simp only [NL.list]
      apply List.ext_getElem?
      intro j
      by_cases hj : j < ns.length
      · obtain ⟨y, h7, h8⟩ := (e5 j hj).1 hj
        rw [List.getElem?_map, h7, h8]; rfl
      · rw [List.getElem?_eq_none (by simp; omega), List.getElem?_eq_none (by rw [mkdd_len]; omega)]

theorem heldIntSS_eq {F : Nat} {ns : List Nat} {k : Int} (hF : ns.length < F) (h1 : sumL0 ns < F) (hl : Sm ns.length) (hl1 : sumL0 ns ≤ 1099511627776) (h0 : 0 ≤ k) (hk : k + (sumL0 ns : Nat) ≤ 4611686018427387904) : w_heldIntSS F (mkdd ns k) k = some (k + (sumL0 ns : Nat)) := by
  unfold w_heldIntSS
  refine loop_inv (L := fun j i s => w_heldIntSS_l1 F (mkdd ns k) j s i) (n := ns.length) (fun i s => s = k + (sumL0 (ns.take i) : Nat)) ?_ ?_ F _ hF (by simp [sumL0])
  · rintro j i s hi rfl
    refine ⟨_, rfl, ?_⟩
    have hni : ns[i]? = some (ns[i]'hi) := by simp [hi]
    have hsum := sumL0_succ ns i _ hni
    have hle := sumL0_le ns (i + 1)
    simp only [w_heldIntSS_l1, mkdd_len]
    have hc : decide ((i : Int) < (ns.length : Int)) = true := by simpa using hi
    have hix : idx (mkdd ns k) (i : Int) = some (mkd (ns[i]'hi) (k + (sumL0 (ns.take i) : Nat))) := by
      unfold idx
      rw [if_pos (by omega)]
      simpa using mkdd_get ns k i _ hni
    rw [hc, cond_true, hix, Option.bind_some, heldIntS_eq (by omega) (by omega) (by omega) (by omega), Option.bind_some]
    have hd : decide ((k + (sumL0 (ns.take i) : Nat) + ((ns[i]'hi : Nat) : Int)) < 0) = false := decide_eq_false (by omega)
    rw [hd, cond_false, w64_succ hi hl]
    congr 1
    omega
  · rintro j s rfl
    simp only [w_heldIntSS_l1, mkdd_len]
    rw [List.take_of_length_le (Nat.le_refl _)]
    simp

end Go.Zq
/- Plain mathematics: the cutwidth of a layout. -/
namespace Go.Zq

end Go.Zq
/- Plain mathematics: the sizes of the fronts of a layout. -/
namespace Go.Zq

end Go.Zq
/- Plain mathematics: the table of best orders for a cost (frontSize). -/
namespace Go.Zq

end Go.Zq
/- Plain mathematics: the pathwidth. -/
namespace Go.Zq

end Go.Zq
/- Plain mathematics: treedepths of all sets. -/
namespace Go.Zq

end Go.Zq
/- Plain mathematics: cops that stay, and treedepth. -/
namespace Go.Zq

end Go.Zq
/- Plain mathematics: connected sets of a tree; decompositions. -/
namespace Go.Zq

end Go.Zq
/- Plain mathematics: the later neighbors of a node in an elimination. -/
namespace Go.Zq

end Go.Zq
/- Plain mathematics: parts, and what is connected. -/
namespace Go.Zq

end Go.Zq
/- Plain mathematics: the program of a layout. -/
namespace Go.Zq

end Go.Zq
/- Plain mathematics: neighbors as lists. -/
namespace Go.Zq

end Go.Zq
/- Plain mathematics: sets that stop a fire. -/
namespace Go.Zq

end Go.Zq
/- Plain mathematics: rankings. -/
namespace Go.Zq

/-- nodes with at most a number; nodes with just this number -/
def lowP (l : List Int) (r : Int) (j : Nat) : Bool := decide (l.getD j 0 ≤ r)
/-- a node of the same number is met -/
def meets (g : Gr) (l : List Int) (x : Nat) : Bool := anyN (fun y => comp g (lowP l (l.getD x 0)) x y && ((y != x) && (l.getD y 0 == l.getD x 0))) g.1.toNat

end Go.Zq
/- Plain mathematics: cliques; perfect eliminations. -/
namespace Go.Zq

end Go.Zq
