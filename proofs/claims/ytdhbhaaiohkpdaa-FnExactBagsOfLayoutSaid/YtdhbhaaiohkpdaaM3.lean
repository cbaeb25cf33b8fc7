/- Plain mathematics: what the functions answer (part 3). Conditions: stated in each theorem. -/
import Derived.Test.YtdhbhaaiohkpdaaM2
import Derived.Test.YtdhbhaaiohkpdaaM1
set_option linter.unusedVariables false
set_option linter.unusedSimpArgs false
/- Plain mathematics: decompositions. -/
namespace Go.Zq

end Go.Zq
/- Plain mathematics: the filling of an elimination, and its width. -/
namespace Go.Zq

theorem ord_fresh {n : Int} {l : List Int} (ho : isOrd n l = true) (h0 : 0 ≤ n) {i x : Nat} (hi : i < l.length) (hx : l.getD i 0 = (x : Int)) : preP l i x = false := by
  have hl := isOrd_len ho
  unfold preP
  refine decide_eq_false fun hm => ?_
  have hc := (cover_len n.toNat (l.take i ++ l.drop (i + 1)) (fun j hj => by
    have := isOrd_mem ho (x := (j : Int)) (by omega) (by omega)
    rw [← List.take_append_drop i l, List.mem_append] at this
    rcases this with h | h
    · exact List.mem_append_left _ h
    · rw [List.drop_eq_getElem_cons hi, List.mem_cons] at h
      rcases h with h | h
      · rw [List.getD_eq_getElem?_getD, List.getElem?_eq_getElem hi, Option.getD_some] at hx
        rw [h, hx]
        exact List.mem_append_left _ hm
      · exact List.mem_append_right _ h)).1
  rw [List.length_append, List.length_take, List.length_drop] at hc
  omega

end Go.Zq
/- Plain mathematics: lists of lists that are own, and their marks. -/
namespace Go.Zq

/-- what marked lists are -/
def mkdd : List Nat → Int → List (List Int)
  | [], _ => []
  | n :: ns, k => mkd n k :: mkdd ns (k + n)
def sumL0 : List Nat → Nat
  | [] => 0
  | n :: ns => n + sumL0 ns

theorem mkdd_len : ∀ (ns : List Nat) (k : Int), (mkdd ns k).length = ns.length
  | [], _ => rfl
  | n :: ns, k => by simp [mkdd, mkdd_len ns]

theorem mkdd_get : ∀ (ns : List Nat) (k : Int) (j n : Nat), ns[j]? = some n → (mkdd ns k)[j]? = some (mkd n (k + (sumL0 (ns.take j) : Nat)))
  | [], _, j, n, h => by simp at h
  | m :: ns, k, 0, n, h => by
    simp only [List.getElem?_cons_zero, Option.some.injEq] at h
    subst h
    simp [mkdd, sumL0]
  | m :: ns, k, j + 1, n, h => by
    simp only [List.getElem?_cons_succ] at h
    have := mkdd_get ns (k + m) j n h
    simp only [mkdd, List.getElem?_cons_succ, this, List.take_succ_cons, sumL0]
    congr 2
    omega

theorem sumL0_succ : ∀ (ns : List Nat) (j n : Nat), ns[j]? = some n → sumL0 (ns.take (j + 1)) = sumL0 (ns.take j) + n
  | [], j, n, h => by simp at h
  | m :: ns, 0, n, h => by
    simp only [List.getElem?_cons_zero, Option.some.injEq] at h
    subst h
    simp [sumL0]
  | m :: ns, j + 1, n, h => by
    simp only [List.getElem?_cons_succ] at h
    have := sumL0_succ ns j n h
    simp only [List.take_succ_cons, sumL0, this]
    omega

theorem sumL0_le : ∀ (ns : List Nat) (j : Nat), sumL0 (ns.take j) ≤ sumL0 ns
  | [], j => by simp [sumL0]
  | m :: ns, 0 => by simp [sumL0]
  | m :: ns, j + 1 => by
    have := sumL0_le ns j
    simp only [List.take_succ_cons, sumL0]
    omega

theorem remark_nil {o o' : NL Int} (h : remark o o' = some o') : o'.isNil = o.isNil := by
  cases o with
  | nil => simp [remark] at h; subst h; rfl
  | of xs => cases o' with
    | nil => simp [remark] at h
    | of ys => rfl

/-- the marks of a list of lists -/
theorem markIntSS_eq {F : Nat} {o : NL (NL Int)} {ns : List Nat} {k : Int} (hns : o.list.map (fun o => o.list.length) = ns) (hF : ns.length < F) (h1 : sumL0 ns < F) (hl : Sm ns.length) (hl1 : sumL0 ns ≤ 1099511627776) (h0 : 0 ≤ k) (hk : k + (sumL0 ns : Nat) ≤ 4611686018427387904) :
    ∃ o', w_markIntSS F ⟨o⟩ k = some (k + (sumL0 ns : Nat), o') ∧ remark2 o o' = some o' ∧ o'.list.map NL.list = mkdd ns k := by
  cases o with
  | nil =>
    simp only [NL.list, List.map_nil] at hns
    subst hns
    obtain ⟨j, rfl⟩ : ∃ j, F = j + 1 := ⟨F - 1, by omega⟩
    exact ⟨.nil, by simp [w_markIntSS, w_markIntSS_l1, NL.list, sumL0], rfl, rfl⟩
  | of os =>
    change os.map (fun o => o.list.length) = ns at hns
    have hlen : os.length = ns.length := by rw [← hns]; simp
    obtain ⟨s, ⟨ys, e1, e2, e3, e4, e5⟩, e6⟩ := loop_ex (L := fun j i (s : NL (NL Int) × Int) => w_markIntSS_l1 F j s.1 s.2 i) (n := ns.length) (fin := fun s => some (s.2, s.1))
      (fun i s => ∃ ys : List (NL Int), s.1 = .of ys ∧ ys.length = ns.length ∧ s.2 = k + (sumL0 (ns.take i) : Nat) ∧ ys.map NL.isNil = os.map NL.isNil ∧ ∀ j, j < ns.length → (j < i → ∃ y, ys[j]? = some y ∧ (mkdd ns k)[j]? = some y.list) ∧ (i ≤ j → ys[j]? = os[j]?))
      (by
        rintro j i ⟨a, b⟩ hi ⟨ys, rfl, h2, rfl, h4, h5⟩
        obtain ⟨oi, hio⟩ : ∃ oi, os[i]? = some oi := ⟨os[i]'(by omega), by simp [hlen, hi]⟩
        have hni : ns[i]? = some oi.list.length := by
          have h9 : (os.map (fun o => o.list.length))[i]? = ns[i]? := by rw [hns]
          rw [← h9, List.getElem?_map, hio]; rfl
        have hyi : ys[i]? = some oi := by rw [(h5 i hi).2 (Nat.le_refl _), hio]
        have hsum := sumL0_succ ns i _ hni
        have hle := sumL0_le ns (i + 1)
        obtain ⟨o', m1, m2, m3⟩ := markIntS_eq (F := F) (o := oi) (k := k + (sumL0 (ns.take i) : Nat)) (by omega) (by omega) (by omega) (by omega)
        refine ⟨(.of (ys.set i o'), k + (sumL0 (ns.take (i + 1)) : Nat)), ⟨_, rfl, by simp [h2], rfl, ?_, ?_⟩, ?_⟩
        · rw [← h4]
          apply List.ext_getElem?
          intro m
          simp only [List.getElem?_map, List.getElem?_set]
          by_cases e : i = m
          · subst e
            simp only [if_true, h2, hi, hyi, Option.map_some, remark_nil m2]
          · simp only [e, if_false]
        · intro m hm
          have h6 := h5 m hm
          refine ⟨fun hmi => ?_, fun him => ?_⟩
          · rw [List.getElem?_set]
            by_cases e : i = m
            · subst e
              refine ⟨o', by simp [h2, hi], ?_⟩
              rw [mkdd_get ns k i _ hni, m3]
            · simp only [e, if_false]
              exact h6.1 (by omega)
          · rw [List.getElem?_set, if_neg (by omega)]
            exact h6.2 (by omega)
        · simp only [w_markIntSS_l1, NL.list]
          have hc : decide ((i : Int) < (ys.length : Int)) = true := by simp; omega
          have hix : idx ys (i : Int) = some oi := by
            unfold idx
            rw [if_pos (by omega)]
            simpa using hyi
          change (bif decide ((i : Int) < (ys.length : Int)) then _ else _) = _
          rw [hc, cond_true, hix, Option.bind_some, m1, Option.bind_some, m2, Option.bind_some, w64_succ hi hl]
          simp only [NL.set, Int.toNat_natCast]
          congr 1
          omega)
      (by
        rintro j ⟨a, b⟩ ⟨ys, rfl, h2, rfl, _, _⟩
        simp only [w_markIntSS_l1, NL.list, h2]
        simp) F (.of os, k) hF ⟨os, rfl, hlen, by simp [sumL0], rfl, fun j hj => ⟨fun h => by omega, fun _ => rfl⟩⟩
    obtain ⟨a, b⟩ := s
    simp only at e1 e3 e6
    subst e1; subst e3
    rw [List.take_of_length_le (Nat.le_refl _)] at e6
    refine ⟨.of ys, ?_, by simp [remark2, e4], ?_⟩
    · unfold w_markIntSS; exact e6
    · simp only [NL.list]
      apply List.ext_getElem?
      intro j
      by_cases hj : j < ns.length
      · obtain ⟨y, h7, h8⟩ := (e5 j hj).1 hj
        rw [List.getElem?_map, h7, h8]; rfl
      · rw [List.getElem?_eq_none (by simp; omega), List.getElem?_eq_none (by rw [mkdd_len]; omega)]

theorem heldIntSS_eq {F : Nat} {ns : List Nat} {k : Int} (hF : ns.length < F) (h1 : sumL0 ns < F) (hl : Sm ns.length) (hl1 : sumL0 ns ≤ 1099511627776) (h0 : 0 ≤ k) (hk : k + (sumL0 ns : Nat) ≤ 4611686018427387904) : w_heldIntSS F (mkdd ns k) k = some (k + (sumL0 ns : Nat)) := by
  unfold w_heldIntSS
  refine loop_inv (L := fun j i s => w_heldIntSS_l1 F (mkdd ns k) j s i) (n := ns.length) (fun i s => s = k + (sumL0 (ns.take i) : Nat)) ?_ ?_ F _ hF (by simp [sumL0])
  · rintro j i s hi rfl
    refine ⟨_, rfl, ?_⟩
    have hni : ns[i]? = some (ns[i]'hi) := by simp [hi]
    have hsum := sumL0_succ ns i _ hni
    have hle := sumL0_le ns (i + 1)
    simp only [w_heldIntSS_l1, mkdd_len]
    have hc : decide ((i : Int) < (ns.length : Int)) = true := by simpa using hi
    have hix : idx (mkdd ns k) (i : Int) = some (mkd (ns[i]'hi) (k + (sumL0 (ns.take i) : Nat))) := by
      unfold idx
      rw [if_pos (by omega)]
      simpa using mkdd_get ns k i _ hni
    rw [hc, cond_true, hix, Option.bind_some, heldIntS_eq (by omega) (by omega) (by omega) (by omega), Option.bind_some]
    have hd : decide ((k + (sumL0 (ns.take i) : Nat) + ((ns[i]'hi : Nat) : Int)) < 0) = false := decide_eq_false (by omega)
    rw [hd, cond_false, w64_succ hi hl]
    congr 1
    omega
  · rintro j s rfl
    simp only [w_heldIntSS_l1, mkdd_len]
    rw [List.take_of_length_le (Nat.le_refl _)]
    simp

end Go.Zq
/- Plain mathematics: the bags of a layout. -/
namespace Go.Zq

def bagN (g : Gr) (l : List Int) (i : Nat) : List Int := listN (fun j => frt g (preP l i) j || decide ((j : Int) = l.getD i 0)) g.1.toNat
def bagsL (g : Gr) (l : List Int) (m : Nat) : List (List Int) := (List.range m).map (bagN g l)
theorem bagsL_succ {g : Gr} {l : List Int} {m : Nat} : bagsL g l (m + 1) = bagsL g l m ++ [bagN g l m] := by simp [bagsL, List.range_succ]
theorem bagsL_len {g : Gr} {l : List Int} {m : Nat} : (bagsL g l m).length = m := by simp [bagsL]

theorem appL_some {α : Type} {xs ys : List α} (h : xs.length + ys.length ≤ 1099511627776) : appL xs ys = some (xs ++ ys) := by
  unfold appL
  rw [if_pos (by simpa using h)]

theorem preP_mono {l : List Int} {i j a : Nat} (h : i ≤ j) (hp : preP l j a = false) : preP l i a = false := by
  simp only [preP, decide_eq_false_iff_not] at hp ⊢
  exact fun hm => hp (List.take_subset_take_left l h hm)

theorem later_ne {g : Gr} {l : List Int} {i a : Nat} (hg : good g = true) (ho : isOrd g.1 l = true) (hi : i ≤ l.length) :
    anyN (fun y => adj g a y && !preP l i y) g.1.toNat = anyN (fun j => decide (i ≤ j) && adj g a (l.getD j 0).toNat) l.length := by
  have h8 := good_size hg
  have hr := isOrd_in ho h8.1
  rw [Bool.eq_iff_iff, anyN_iff, anyN_iff]
  constructor
  · rintro ⟨y, hy, h⟩
    simp only [Bool.and_eq_true, Bool.not_eq_true'] at h
    have hm := isOrd_mem ho (x := (y : Int)) (by omega) (by omega)
    obtain ⟨j, hj, e⟩ := List.mem_iff_getElem.1 hm
    refine ⟨j, hj, ?_⟩
    have hij : i ≤ j := by
      rcases Nat.lt_or_ge j i with hlt | hge
      · exfalso
        have : preP l i y = true := by
          simp only [preP, decide_eq_true_eq]
          rw [← e, List.mem_take_iff_getElem]
          exact ⟨j, by omega, rfl⟩
        rw [this] at h; cases h.2
      · exact hge
    simp only [List.getD_eq_getElem?_getD, hj, List.getElem?_eq_getElem, Option.getD_some, e, Int.toNat_natCast, h.1, Bool.and_true, decide_eq_true_eq]
    exact hij
  · rintro ⟨j, hj, h⟩
    simp only [Bool.and_eq_true, decide_eq_true_eq] at h
    have hy := hr _ (getD_mem (d := 0) hj)
    refine ⟨(l.getD j 0).toNat, by omega, ?_⟩
    have hf := ord_fresh ho h8.1 (x := (l.getD j 0).toNat) hj (by omega)
    rw [h.2, preP_mono h.1 hf]
    rfl

theorem iBags_eq {F : Nat} {g : Gr} {l : List Int} (hg : good g = true) (ho : isOrd g.1 l = true) (hF : 20 ≤ F) : ∃ o : NL (NL Int), i_BagsOfLayout_o_l1 F ⟨nearL g⟩ l F .nil 0 0 = some (o, true) ∧ o.list.map NL.list = bagsL g l l.length := by
  have h8 := good_size hg
  have hlen := isOrd_len ho
  have hr := isOrd_in ho h8.1
  obtain ⟨s, ⟨h1, h2⟩, h3⟩ := loop_ex (L := fun k t (s : NL (NL Int) × Int) => i_BagsOfLayout_o_l1 F ⟨nearL g⟩ l k s.1 s.2 t) (n := l.length) (fin := fun s => some (s.1, true)) (fun t s => s.1.list.map NL.list = bagsL g l t ∧ s.2 = ((mkm (preP l t) g.1.toNat : Nat) : Int)) (by
    rintro k t ⟨zs, m⟩ ht ⟨h1, h2⟩
    simp only at h1 h2
    subst h2
    have hy := hr _ (getD_mem (d := 0) ht)
    obtain ⟨x, hx⟩ : ∃ x : Nat, l.getD t 0 = x := ⟨(l.getD t 0).toNat, by omega⟩
    have hxn : x < g.1.toNat := by omega
    have hor : ∀ p : Nat → Bool, mkm p g.1.toNat ||| 2 ^ x = mkm (fun j => p j || j == x) g.1.toNat := by
      intro p
      refine mkm_of fun j => ?_
      rw [Nat.testBit_or, mkm_bit, Nat.testBit_two_pow]
      by_cases e : x = j
      · subst e
        have : decide (x < g.1.toNat) = true := decide_eq_true hxn
        rw [this]; simp
      · have h1 : decide (x = j) = false := by simpa using e
        have h2 : (j == x) = false := by simp; omega
        rw [h1, h2]; simp
    obtain ⟨r, hr1, hr2⟩ := setOf_o_eq (F := F) (n := g.1.toNat) (p := fun j => frt g (preP l t) j || j == x) (by omega) hF
    have hzl : zs.list.length = t := by have := congrArg List.length h1; simpa [bagsL_len] using this
    refine ⟨(.of (zs.list ++ [r]), ((mkm (preP l (t + 1)) g.1.toNat : Nat) : Int)), ⟨?_, rfl⟩, ?_⟩
    · show List.map NL.list (zs.list ++ [r]) = _
      rw [List.map_append, h1, bagsL_succ]
      congr 1
      simp only [List.map_cons, List.map_nil]
      congr 1
      rw [hr2]
      refine listN_congr fun j _ => ?_
      rw [hx]
      congr 1
      by_cases e : j = x
      · subst e; simp
      · have h1 : (j == x) = false := by simpa using e
        rw [h1, eq_comm, decide_eq_false_iff_not]; omega
    · simp only [i_BagsOfLayout_o_l1]
      rw [decide_eq_true (show (t : Int) < l.length by omega), cond_true, idx_getD (d := 0) ht, Option.bind_some, hx, iFront_eq hg hF, Option.bind_some, one_shl (by omega), Option.bind_some, ior_nat (mkm_lt63 (by omega)) (pow_lt (by omega)), hor, hr1, Option.bind_some,
        appL_some (by simp; omega), Option.bind_some, Option.bind_some, ior_nat (mkm_lt63 (by omega)) (pow_lt (by omega)), hor, w64_succ ht (by unfold Sm; omega)]
      congr 2
      refine mkm_congr fun j _ => ?_
      rw [pre_succ ht hx])
    (by
      rintro k ⟨zs, m⟩ ⟨h1, h2⟩
      simp only [i_BagsOfLayout_o_l1]
      rw [decide_eq_false (show ¬ (l.length : Int) < l.length by omega), cond_false]) F (.nil, 0) (by omega) ⟨by simp [NL.list, bagsL], by
      show (0 : Int) = _
      have : mkm (preP l 0) g.1.toNat = 0 := by
        rw [mkm_congr (q := fun _ => false) (fun j _ => by simp [preP])]
        apply Nat.eq_of_testBit_eq; intro j; rw [mkm_bit]; simp
      rw [this]; rfl⟩
  exact ⟨s.1, h3, h1⟩

theorem sBags_eq {F : Nat} {g : Gr} {l : List Int} (hg : good g = true) (ho : isOrd g.1 l = true) (hF : 20 ≤ F) (hG : g.2.length < F) (hs : Sm g.2.length) : s_l6BagsOf F g l = some (bagsL g l l.length) := by
  have h8 := good_size hg
  have hlen := isOrd_len ho
  have hr := isOrd_in ho h8.1
  have hnat : ∀ i, i < l.length → ∃ a : Nat, l.getD i 0 = a ∧ a < g.1.toNat := by
    intro i hi
    have := hr _ (getD_mem (d := 0) hi)
    exact ⟨(l.getD i 0).toNat, by omega, by omega⟩
  unfold s_l6BagsOf
  refine loop_inv (L := fun k i s => s_l6BagsOf_l3 F l g k s i) (n := l.length) (fun i s => s = bagsL g l i) ?_ ?_ F _ (by omega) (by simp [bagsL])
  · rintro k i s hi rfl
    refine ⟨_, rfl, ?_⟩
    obtain ⟨x, hx, hxn⟩ := hnat i hi
    -- what the bag is on the way
    let Q : Nat → Nat → Bool := fun m a => (preP l m a && anyN (fun j => decide (i ≤ j) && adj g a (l.getD j 0).toNat) l.length) || a == x
    simp only [s_l6BagsOf_l3]
    rw [decide_eq_true (show (i : Int) < (l.length : Int) by omega), cond_true, idx_getD (d := 0) hi, Option.bind_some, hx]
    have h0 : [(x : Int)] = listN (Q 0) g.1.toNat := by
      have h1 := put_eq (F := F) (n := g.1.toNat) (x := x) (p := fun _ => false) (by omega) hxn hF
      have hz : listN (fun _ => false) g.1.toNat = [] := List.eq_nil_of_length_eq_zero (by rw [listN_len]; simp [cntN])
      rw [hz, put_raw (by simp; omega) (by simp)] at h1
      have h2 : put1 [] (x : Int) = [(x : Int)] := by simp [put1]
      rw [h2] at h1
      simp only [Option.some.injEq] at h1
      rw [h1]
      refine listN_congr fun a _ => ?_
      show (false || a == x) = ((preP l 0 a && _) || a == x)
      have : preP l 0 a = false := by simp [preP]
      rw [this]; rfl
    rw [h0]
    refine loop_inv (L := fun k2 m s => s_l6BagsOf_l2 F l g (bagsL g l i) (i : Int) (s_l6BagsOf_l3 F l g k) k2 s m) (n := i) (fun m s => s = listN (Q m) g.1.toNat) ?_ ?_ F _ (by omega) rfl
    · rintro k2 m s hm rfl
      refine ⟨_, rfl, ?_⟩
      obtain ⟨a, ha, han⟩ := hnat m (by omega)
      simp only [s_l6BagsOf_l2]
      rw [decide_eq_true (show (m : Int) < (i : Int) by omega), cond_true]
      -- the innermost loop
      let P : Nat → Nat → Bool := fun j b => Q m b || (b == a && anyN (fun t => decide (i ≤ t) && adj g a (l.getD t 0).toNat) j)
      have inner := loop_inv (L := fun k3 j s => s_l6BagsOf_l1 F l g (bagsL g l i) (i : Int) (m : Int) (s_l6BagsOf_l3 F l g k) (s_l6BagsOf_l2 F l g (bagsL g l i) (i : Int) (s_l6BagsOf_l3 F l g k) k2) k3 s ((i : Int) + j)) (n := l.length - i)
        (r := s_l6BagsOf_l2 F l g (bagsL g l i) (i : Int) (s_l6BagsOf_l3 F l g k) k2 (listN (Q (m + 1)) g.1.toNat) ((m + 1 : Nat) : Int)) (fun j s => s = listN (P (i + j)) g.1.toNat) (by
          rintro k3 j s hj rfl
          refine ⟨_, rfl, ?_⟩
          have hij : i + j < l.length := by omega
          obtain ⟨b, hb, hbn⟩ := hnat (i + j) hij
          simp only [s_l6BagsOf_l1, s_l6BagsOf_j1]
          have hcast : (i : Int) + (j : Int) = ((i + j : Nat) : Int) := by omega
          rw [hcast, decide_eq_true (show ((i + j : Nat) : Int) < (l.length : Int) by omega), cond_true, idx_getD (d := 0) (show m < l.length by omega), Option.bind_some, idx_getD (d := 0) hij, Option.bind_some, ha, hb, near_eq hG hs, Option.bind_some, Option.bind_some, put_eq (by omega) han hF, Option.bind_some, w64_succ hij (by unfold Sm; omega)]
          have hnext : ∀ c, P (i + (j + 1)) c = (P (i + j) c || (c == a && adj g a b)) := by
            intro c
            show (Q m c || (c == a && anyN _ (i + j + 1))) = ((Q m c || (c == a && anyN _ (i + j))) || (c == a && adj g a b))
            have hstep : anyN (fun t => decide (i ≤ t) && adj g a (l.getD t 0).toNat) (i + j + 1) = (anyN (fun t => decide (i ≤ t) && adj g a (l.getD t 0).toNat) (i + j) || adj g a b) := by
              simp only [anyN]
              rw [hb, Int.toNat_natCast, decide_eq_true (show i ≤ i + j by omega), Bool.true_and]
            rw [hstep]
            cases c == a <;> simp [Bool.or_assoc]
          rw [show ((i : Int) + ((j + 1 : Nat) : Int)) = ((i + j + 1 : Nat) : Int) by omega]
          cases h1 : adj g a b with
          | true =>
            rw [cond_true]
            congr 1
            refine listN_congr fun c _ => ?_
            rw [hnext, h1, Bool.and_true]
          | false =>
            rw [cond_false]
            congr 1
            refine listN_congr fun c _ => ?_
            rw [hnext, h1, Bool.and_false, Bool.or_false])
        (by
          rintro k3 s rfl
          simp only [s_l6BagsOf_l1]
          rw [decide_eq_false (show ¬ (i : Int) + ((l.length - i : Nat) : Int) < (l.length : Int) by omega), cond_false, w64_succ (show m < l.length by omega) (by unfold Sm; omega)]
          congr 1
          refine listN_congr fun c _ => ?_
          show (Q m c || (c == a && anyN _ (i + (l.length - i)))) = ((preP l (m + 1) c && _) || c == x)
          rw [show i + (l.length - i) = l.length by omega, pre_succ (x := a) (by omega) ha]
          show (((preP l m c && _) || c == x) || (c == a && _)) = _
          by_cases e : c = a
          · subst e
            simp only [beq_self_eq_true, Bool.or_true, Bool.true_and]
            cases preP l m c <;> cases anyN (fun j => decide (i ≤ j) && adj g c (l.getD j 0).toNat) l.length <;> cases c == x <;> rfl
          · have : (c == a) = false := by simpa using e
            rw [this, Bool.false_and, Bool.or_false, Bool.or_false])
        F (listN (Q m) g.1.toNat) (by omega) (by
          refine listN_congr fun c _ => ?_
          show Q m c = (Q m c || (c == a && anyN _ i))
          have : anyN (fun t => decide (i ≤ t) && adj g a (l.getD t 0).toNat) i = false := by
            rw [Bool.eq_false_iff, ne_eq, anyN_iff]
            rintro ⟨t, ht, h⟩
            simp only [Bool.and_eq_true, decide_eq_true_eq] at h
            omega
          rw [this, Bool.and_false, Bool.or_false])
      simpa using inner
    · rintro k2 s rfl
      simp only [s_l6BagsOf_l2]
      rw [decide_eq_false (show ¬ (i : Int) < (i : Int) by omega), cond_false, appL_some (by simp [bagsL_len]; omega), Option.bind_some, w64_succ hi (by unfold Sm; omega), bagsL_succ]
      congr 3
      refine listN_congr fun c hc => ?_
      show ((preP l i c && _) || c == x) = (frt g (preP l i) c || decide ((c : Int) = l.getD i 0))
      unfold frt
      rw [later_ne hg ho (by omega), hx]
      congr 1
      by_cases e : c = x
      · subst e; simp
      · have h1 : (c == x) = false := by simpa using e
        rw [h1, eq_comm, decide_eq_false_iff_not]; omega
  · rintro k s rfl
    simp only [s_l6BagsOf_l3]
    rw [decide_eq_false (show ¬ (l.length : Int) < (l.length : Int) by omega), cond_false]

theorem bagN_le {g : Gr} {l : List Int} {i : Nat} : (bagN g l i).length ≤ g.1.toNat := listN_le

theorem sumL0_mul {n : Nat} : ∀ (ns : List Nat), (∀ x ∈ ns, x ≤ n) → sumL0 ns ≤ ns.length * n
  | [], _ => by simp [sumL0]
  | x :: ns, h => by
    have h1 := h x (by simp)
    have h2 := sumL0_mul ns fun y hy => h y (by simp [hy])
    simp only [sumL0, List.length_cons, Nat.add_mul]
    omega

theorem exBagsOfLayout {F : Nat} {g : Gr} {l : List Int} (hF : l.length < F) (hG : g.2.length < F) (h9 : 20 ≤ F) (hl : Sm l.length) (hs : Sm g.2.length) :
    ∃ R b o, s_BagsOfLayout F g l = some (R, b) ∧ i_BagsOfLayout_o F g l = some (o, b) ∧ o.list.map NL.list = R ∧ R.length ≤ 8 ∧ ∀ x ∈ R, x.length ≤ 8 := by
  unfold s_BagsOfLayout i_BagsOfLayout_o s_l6Layout
  rw [l2Good_eq hG hs, isGraph_eq hG (by omega) hs, Option.bind_some, Option.bind_some]
  cases h : good g with
  | false => exact ⟨[], false, .nil, rfl, rfl, rfl, by simp, by simp⟩
  | true =>
    have h8 := good_size h
    simp only [Bool.not_true, cond_false]
    rw [l2Each_eq h8.1 h8.2 hF (by omega) hl, isOrder_eq h8.1 h8.2 hF hl]
    cases ho : isOrd g.1 l with
    | false => exact ⟨[], false, .nil, rfl, rfl, rfl, by simp, by simp⟩
    | true =>
      have hlen := isOrd_len ho
      obtain ⟨o, h1, h2⟩ := iBags_eq h ho h9
      refine ⟨bagsL g l l.length, true, o, ?_, ?_, h2, by rw [bagsL_len]; omega, ?_⟩
      · simp only [Option.bind_some, Bool.not_true, s_BagsOfLayout_j1, cond_false]
        rw [sBags_eq h ho h9 hG hs]; rfl
      · simp only [Option.bind_some, Bool.not_true, i_BagsOfLayout_o_j1, cond_false]
        rw [netOf_eq h hG hs, Option.bind_some]
        exact h1
      · intro x hx
        simp only [bagsL, List.mem_map] at hx
        obtain ⟨i, _, rfl⟩ := hx
        have := bagN_le (g := g) (l := l) (i := i)
        omega

end Go.Zq
/- The law BagsOfLayout, as a plain statement. -/
namespace Go.Zq

theorem lawBagsOfLayout {F : Nat} {g : Gr} {l : List Int} (hF : 2097152 ≤ F) (hg : g.2.length ≤ 9223372036854775807) : w_FnExactBagsOfLayout F g l = some true := by
  unfold w_FnExactBagsOfLayout
  by_cases h : (l.length : Int) > 1048576
  · simp [h]
  simp only [h, decide_false, cond_false]
  rw [szGraph_eq (by omega) (by omega) hg, Option.bind_some]
  by_cases h2 : (1048576 : Int) - g.2.length < 0
  · simp [h2]
  simp only [h2, if_false, decide_false, cond_false]
  obtain ⟨R, b, o, hs, hi, ho, hl, hl2⟩ := exBagsOfLayout (F := F) (g := g) (l := l) (by omega) (by omega) (by omega) (by unfold Sm; omega) (by unfold Sm; omega)
  have e1 : w_toGraph F g = some g := toGraph_eq (by omega) (by omega) (by omega)
  have e2 : w_toGraph_o F g = some (g.1, .of g.2) := toGraph_o_eq (by omega) (by omega) (by omega)
  have e3 : w_toIntS F l = some l := toIntS_eq (by omega) (by omega)
  have e4 : w_toIntS_o F l = some (.of l) := toIntS_o_eq (by omega) (by omega)
  have e5 : w_eqIntSS F (List.map NL.list o.list) R = some true := by rw [ho]; exact eqIntSS_eq (by omega) (by unfold Sm; omega) fun x hx => by have := hl2 x hx; exact ⟨by omega, (by unfold Sm; omega)⟩
  have e6 : w_eqGraph F (g.1, (NL.of g.2).list) g = some true := eqGraph_eq (g := g) (by omega) (by unfold Sm; omega) (by omega)
  have e7 : w_eqIntS F (NL.of l).list l = some true := eqIntS_eq (xs := l) (by omega) (by unfold Sm; omega)
  obtain ⟨yg, e8, _, _⟩ := markGraph_eq (F := F) (a := g.1) (xs := g.2) (k := 1) (by omega) (by omega) (by omega) (by omega) (by omega)
  obtain ⟨o1, m1, _, _⟩ := markIntS_eq (F := F) (o := .of l) (k := 1 + 2 * (g.2.length : Int)) (by simp only [NL.list]; omega) (by simp only [NL.list]; omega) (by omega) (by omega)
  have e9 : decide ((1 + 2 * (g.2.length : Int) + ((NL.of l).list.length : Int)) < 0) = false := decide_eq_false (by omega)
  obtain ⟨ns, hns⟩ : ∃ ns, o.list.map (fun o => o.list.length) = ns := ⟨_, rfl⟩
  have hns2 : ns = R.map List.length := by rw [← hns, ← ho, List.map_map]; rfl
  have hnl : ns.length ≤ 1024 := by rw [hns2, List.length_map]; omega
  have hsum : sumL0 ns ≤ 1048576 := by have h9 := sumL0_mul (n := 1024) ns (by intro x hx; rw [hns2] at hx; obtain ⟨y, hy, rfl⟩ := List.mem_map.1 hx; have := hl2 y hy; omega); have h10 : ns.length * 1024 ≤ 1024 * 1024 := Nat.mul_le_mul_right _ hnl; omega
  obtain ⟨o2, m2, m3, m4⟩ := markIntSS_eq (F := F) (o := o) (k := 1) hns (by omega) (by omega) (by unfold Sm; omega) (by omega) (by omega) (by omega)
  have e10 : w_heldIntSS F (List.map NL.list o2.list) 1 = (some (1 + ((sumL0 ns : Nat) : Int)) : Option Int) := by rw [m4]; exact heldIntSS_eq (by omega) (by omega) (by unfold Sm; omega) (by omega) (by omega) (by omega)
  have e11 : decide ((1 + (sumL0 ns : Int)) < 0) = false := decide_eq_false (by omega)
  have hi1 : i_BagsOfLayout_o F (g.1, (NL.of g.2).list) (NL.of l).list = some (o, b) := hi
  simp only [w_FnExactBagsOfLayout_j1, w_FnExactBagsOfLayout_j2, w_FnExactBagsOfLayout_j3, e1, e2, e3, e4, e5, e6, e7, e8, m1, e9, e10, e11, hs, hi, hi1, m2, m3, Option.bind_some, Bool.not_true, cond_false, bne_self_eq_false]

end Go.Zq
