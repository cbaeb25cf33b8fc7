/- Plain mathematics: what the functions answer (part 2). Conditions: stated in each theorem. -/
import Derived.Test.YtdhbhaaiohkpdaaM1
set_option linter.unusedVariables false
set_option linter.unusedSimpArgs false
/- Plain mathematics: lists of lists that are own, and their marks. -/
namespace Go.Zq

theorem toIntSS_o_eq {F : Nat} {xs : List (List Int)} (hF : xs.length < F) (hl : xs.length ≤ 1099511627776) (h2 : ∀ x ∈ xs, x.length < F ∧ x.length ≤ 1099511627776) : w_toIntSS_o F xs = some (.of (xs.map .of)) := by
  unfold w_toIntSS_o
  rw [mkN_nat hl, Option.bind_some]
  refine loop_inv (L := fun k i s => w_toIntSS_o_l1 F xs k s i) (n := xs.length) (fun i (ys : List (NL Int)) => ys.length = (xs.map (NL.of)).length ∧ ys.take i = (xs.map (NL.of)).take i) ?_ ?_ F _ hF (by simp)
  · intro k i s hi hI
    refine ⟨_, copied (xs := xs.map NL.of) hI (by simpa using hi), ?_⟩
    simp only [w_toIntSS_o_l1]
    have hx := h2 xs[i] (List.getElem_mem hi)
    have hsl : i < s.length := by have := hI.1; simp at this; omega
    rw [idx_nat hi, idx_nat hsl, w64_succ hi (by unfold Sm; omega)]
    simp [hi, toIntS_o_eq hx.1 hx.2]
  · intro k s hI
    simp only [w_toIntSS_o_l1]
    have := copied_end (xs := xs.map NL.of) (by simpa using hI)
    simp [this]

/-- what marked lists are -/
def mkdd : List Nat → Int → List (List Int)
  | [], _ => []
  | n :: ns, k => mkd n k :: mkdd ns (k + n)
def sumL0 : List Nat → Nat
  | [] => 0
  | n :: ns => n + sumL0 ns

theorem mkdd_len : ∀ (ns : List Nat) (k : Int), (mkdd ns k).length = ns.length
  | [], _ => rfl
  | n :: ns, k => by simp [mkdd, mkdd_len ns]

theorem mkdd_get : ∀ (ns : List Nat) (k : Int) (j n : Nat), ns[j]? = some n → (mkdd ns k)[j]? = some (mkd n (k + (sumL0 (ns.take j) : Nat)))
  | [], _, j, n, h => by simp at h
  | m :: ns, k, 0, n, h => by
    simp only [List.getElem?_cons_zero, Option.some.injEq] at h
    subst h
    simp [mkdd, sumL0]
  | m :: ns, k, j + 1, n, h => by
    simp only [List.getElem?_cons_succ] at h
    have := mkdd_get ns (k + m) j n h
    simp only [mkdd, List.getElem?_cons_succ, this, List.take_succ_cons, sumL0]
    congr 2
    omega

theorem sumL0_succ : ∀ (ns : List Nat) (j n : Nat), ns[j]? = some n → sumL0 (ns.take (j + 1)) = sumL0 (ns.take j) + n
  | [], j, n, h => by simp at h
  | m :: ns, 0, n, h => by
    simp only [List.getElem?_cons_zero, Option.some.injEq] at h
    subst h
    simp [sumL0]
  | m :: ns, j + 1, n, h => by
    simp only [List.getElem?_cons_succ] at h
    have := sumL0_succ ns j n h
    simp only [List.take_succ_cons, sumL0, this]
    omega

theorem sumL0_le : ∀ (ns : List Nat) (j : Nat), sumL0 (ns.take j) ≤ sumL0 ns
  | [], j => by simp [sumL0]
  | m :: ns, 0 => by simp [sumL0]
  | m :: ns, j + 1 => by
    have := sumL0_le ns j
    simp only [List.take_succ_cons, sumL0]
    omega

theorem remark_nil {o o' : NL Int} (h : remark o o' = some o') : o'.isNil = o.isNil := by
  cases o with
  | nil => simp [remark] at h; subst h; rfl
  | of xs => cases o' with
    | nil => simp [remark] at h
    | of ys => rfl

/-- the marks of a list of lists -/
theorem markIntSS_eq {F : Nat} {o : NL (NL Int)} {ns : List Nat} {k : Int} (hns : o.list.map (fun o => o.list.length) = ns) (hF : ns.length < F) (h1 : sumL0 ns < F) (hl : Sm ns.length) (hl1 : sumL0 ns ≤ 1099511627776) (h0 : 0 ≤ k) (hk : k + (sumL0 ns : Nat) ≤ 4611686018427387904) :
    ∃ o', w_markIntSS F ⟨o⟩ k = some (k + (sumL0 ns : Nat), o') ∧ remark2 o o' = some o' ∧ o'.list.map NL.list = mkdd ns k := by
  cases o with
  | nil =>
    simp only [NL.list, List.map_nil] at hns
    subst hns
    obtain ⟨j, rfl⟩ : ∃ j, F = j + 1 := ⟨F - 1, by omega⟩
    exact ⟨.nil, by simp [w_markIntSS, w_markIntSS_l1, NL.list, sumL0], rfl, rfl⟩
  | of os =>
    change os.map (fun o => o.list.length) = ns at hns
    have hlen : os.length = ns.length := by rw [← hns]; simp
    obtain ⟨s, ⟨ys, e1, e2, e3, e4, e5⟩, e6⟩ := loop_ex (L := fun j i (s : NL (NL Int) × Int) => w_markIntSS_l1 F j s.1 s.2 i) (n := ns.length) (fin := fun s => some (s.2, s.1))
      (fun i s => ∃ ys : List (NL Int), s.1 = .of ys ∧ ys.length = ns.length ∧ s.2 = k + (sumL0 (ns.take i) : Nat) ∧ ys.map NL.isNil = os.map NL.isNil ∧ ∀ j, j < ns.length → (j < i → ∃ y, ys[j]? = some y ∧ (mkdd ns k)[j]? = some y.list) ∧ (i ≤ j → ys[j]? = os[j]?))
      (by
        rintro j i ⟨a, b⟩ hi ⟨ys, rfl, h2, rfl, h4, h5⟩
        obtain ⟨oi, hio⟩ : ∃ oi, os[i]? = some oi := ⟨os[i]'(by omega), by simp [hlen, hi]⟩
        have hni : ns[i]? = some oi.list.length := by
          have h9 : (os.map (fun o => o.list.length))[i]? = ns[i]? := by rw [hns]
          rw [← h9, List.getElem?_map, hio]; rfl
        have hyi : ys[i]? = some oi := by rw [(h5 i hi).2 (Nat.le_refl _), hio]
        have hsum := sumL0_succ ns i _ hni
        have hle := sumL0_le ns (i + 1)
        obtain ⟨o', m1, m2, m3⟩ := markIntS_eq (F := F) (o := oi) (k := k + (sumL0 (ns.take i) : Nat)) (by omega) (by omega) (by omega) (by omega)
        refine ⟨(.of (ys.set i o'), k + (sumL0 (ns.take (i + 1)) : Nat)), ⟨_, rfl, by simp [h2], rfl, ?_, ?_⟩, ?_⟩
        · rw [← h4]
          apply List.ext_getElem?
          intro m
          simp only [List.getElem?_map, List.getElem?_set]
          by_cases e : i = m
          · subst e
            simp only [if_true, h2, hi, hyi, Option.map_some, remark_nil m2]
          · simp only [e, if_false]
        · intro m hm
          have h6 := h5 m hm
          refine ⟨fun hmi => ?_, fun him => ?_⟩
          · rw [List.getElem?_set]
            by_cases e : i = m
            · subst e
              refine ⟨o', by simp [h2, hi], ?_⟩
              rw [mkdd_get ns k i _ hni, m3]
            · simp only [e, if_false]
              exact h6.1 (by omega)
          · rw [List.getElem?_set, if_neg (by omega)]
            exact h6.2 (by omega)
        · simp only [w_markIntSS_l1, NL.list]
          have hc : decide ((i : Int) < (ys.length : Int)) = true := by simp; omega
          have hix : idx ys (i : Int) = some oi := by
            unfold idx
            rw [if_pos (by omega)]
            simpa using hyi
          change (bif decide ((i : Int) < (ys.length : Int)) then _ else _) = _
          rw [hc, cond_true, hix, Option.bind_some, m1, Option.bind_some, m2, Option.bind_some, w64_succ hi hl]
          simp only [NL.set, Int.toNat_natCast]
          congr 1
          omega)
      (by
        rintro j ⟨a, b⟩ ⟨ys, rfl, h2, rfl, _, _⟩
        simp only [w_markIntSS_l1, NL.list, h2]
        simp) F (.of os, k) hF ⟨os, rfl, hlen, by simp [sumL0], rfl, fun j hj => ⟨fun h => by omega, fun _ => rfl⟩⟩
    obtain ⟨a, b⟩ := s
    simp only at e1 e3 e6
    subst e1; subst e3
    rw [List.take_of_length_le (Nat.le_refl _)] at e6
    refine ⟨.of ys, ?_, by simp [remark2, e4], ?_⟩
    · unfold w_markIntSS; exact e6
    · simp only [NL.list]
      apply List.ext_getElem?
      intro j
      by_cases hj : j < ns.length
      · obtain ⟨y, h7, h8⟩ := (e5 j hj).1 hj
        rw [List.getElem?_map, h7, h8]; rfl
      · rw [List.getElem?_eq_none (by simp; omega), List.getElem?_eq_none (by rw [mkdd_len]; omega)]

end Go.Zq
/- Plain mathematics: least values over lists; tables over sets, from below and from above. -/
namespace Go.Zq


end Go.Zq
/- Plain mathematics: fronts. -/
namespace Go.Zq

end Go.Zq
/- Plain mathematics: fronts, as lists of one's own. -/
namespace Go.Zq

theorem listN_le {p : Nat → Bool} {n : Nat} : (listN p n).length ≤ n := by rw [listN_len]; exact cnt_le

end Go.Zq
/- Plain mathematics: the cutwidth of a layout. -/
namespace Go.Zq

end Go.Zq
/- Plain mathematics: the sizes of the fronts of a layout. -/
namespace Go.Zq

end Go.Zq
/- Plain mathematics: the table of best orders for a cost (frontSize). -/
namespace Go.Zq

end Go.Zq
/- Plain mathematics: the pathwidth. -/
namespace Go.Zq

end Go.Zq
/- Plain mathematics: treedepths of all sets. -/
namespace Go.Zq

end Go.Zq
/- Plain mathematics: steps of a search. -/
namespace Go.Zq

end Go.Zq
/- Plain mathematics: steps of a search, in the reference; programs. -/
namespace Go.Zq

end Go.Zq
/- Plain mathematics: cops that stay, and treedepth. -/
namespace Go.Zq

end Go.Zq
/- Plain mathematics: connected sets of a tree; decompositions. -/
namespace Go.Zq

end Go.Zq
/- Plain mathematics: the later neighbors of a node in an elimination. -/
namespace Go.Zq

end Go.Zq
/- Plain mathematics: parts, and what is connected. -/
namespace Go.Zq

end Go.Zq
/- Plain mathematics: the program of a layout. -/
namespace Go.Zq

end Go.Zq
/- Plain mathematics: neighbors as lists. -/
namespace Go.Zq

end Go.Zq
/- Plain mathematics: sets that stop a fire. -/
namespace Go.Zq

end Go.Zq
/- Plain mathematics: rankings. -/
namespace Go.Zq

/-- nodes with at most a number; nodes with just this number -/
def lowP (l : List Int) (r : Int) (j : Nat) : Bool := decide (l.getD j 0 ≤ r)
/-- a node of the same number is met -/
def meets (g : Gr) (l : List Int) (x : Nat) : Bool := anyN (fun y => comp g (lowP l (l.getD x 0)) x y && ((y != x) && (l.getD y 0 == l.getD x 0))) g.1.toNat

end Go.Zq
