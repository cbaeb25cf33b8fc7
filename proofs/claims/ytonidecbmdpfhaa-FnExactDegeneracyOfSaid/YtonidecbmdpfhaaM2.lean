/- Plain mathematics: what the functions answer (part 2). Conditions: stated in each theorem. -/
import Derived.Test.YtonidecbmdpfhaaM1
set_option linter.unusedVariables false
set_option linter.unusedSimpArgs false
/- Plain mathematics: steps of a search, in the reference; programs. -/
namespace Go.Zq

end Go.Zq
/- Plain mathematics: cops that stay, and treedepth. -/
namespace Go.Zq

end Go.Zq
/- Plain mathematics: parts, and what is connected. -/
namespace Go.Zq

end Go.Zq
/- Plain mathematics: lists of lists; sets as lists; loops that look for a place. -/
namespace Go.Zq

-- lists of lists
def sumL (xs : List (List Int)) : Nat → Nat
  | 0 => 0
  | i + 1 => sumL xs i + (xs.getD i []).length
theorem sumL_mono {xs : List (List Int)} : ∀ {i j : Nat}, i ≤ j → sumL xs i ≤ sumL xs j
  | i, 0, h => by obtain rfl : i = 0 := by omega
                  exact Nat.le_refl _
  | i, j + 1, h => by
    by_cases e : i = j + 1
    · subst e; exact Nat.le_refl _
    · have := sumL_mono (xs := xs) (i := i) (j := j) (by omega)
      simp only [sumL]; omega
theorem sumL_le {xs : List (List Int)} {i : Nat} (h : i < xs.length) : (xs.getD i []).length ≤ sumL xs xs.length := by
  have := sumL_mono (xs := xs) (i := i + 1) (j := xs.length) (by omega)
  simp only [sumL] at this; omega

end Go.Zq
/- Plain mathematics: least values over lists; tables over sets, from below and from above. -/
namespace Go.Zq

theorem lt256 {n m : Nat} (hn : n ≤ 8) (h : m < 2 ^ n) : m < 256 := Nat.lt_of_lt_of_le h (by
  have := Nat.pow_le_pow_right (n := 2) (by decide) hn
  simpa using this)

end Go.Zq
/- Plain mathematics: fronts. -/
namespace Go.Zq

theorem mkm_self {n m : Nat} (h : m < 2 ^ n) : mkm m.testBit n = m := by
  symm
  refine mkm_of fun j => ?_
  by_cases hj : j < n
  · rw [decide_eq_true hj, Bool.true_and]
  · rw [decide_eq_false hj, Bool.false_and]
    exact Nat.testBit_lt_two_pow (Nat.lt_of_lt_of_le h (Nat.pow_le_pow_right (by decide) (by omega)))

end Go.Zq
/- Plain mathematics: path decompositions. -/
namespace Go.Zq

structure Bg (F : Nat) (bags : List (List Int)) : Prop where
  len : bags.length ≤ 1048576
  each : ∀ x ∈ bags, x.length ≤ 1048576
  fuel : 1048577 ≤ F

theorem Bg.at {F : Nat} {bags : List (List Int)} (h : Bg F bags) {i : Nat} (hi : i < bags.length) : (bags.getD i []).length ≤ 1048576 := h.each _ (getD_mem hi)

theorem Bg.of {F : Nat} {bags : List (List Int)} (h : bags.length + sumL bags bags.length ≤ 1048576) (hF : 1048577 ≤ F) : Bg F bags := by
  refine ⟨by omega, fun x hx => ?_, hF⟩
  obtain ⟨i, hi, e⟩ := List.mem_iff_getElem.1 hx
  have := sumL_le hi
  rw [List.getD_eq_getElem?_getD, List.getElem?_eq_getElem hi, Option.getD_some, e] at this
  omega
end Go.Zq
/- Plain mathematics: sets of nodes as lists and as numbers; brambles. -/
namespace Go.Zq

end Go.Zq
/- Plain mathematics: own copies of arguments; lists that are marked. -/
namespace Go.Zq

end Go.Zq
/- Plain mathematics: fronts, as lists of one's own. -/
namespace Go.Zq

theorem listN_le {p : Nat → Bool} {n : Nat} : (listN p n).length ≤ n := by rw [listN_len]; exact cnt_le

end Go.Zq
/- Plain mathematics: the cutwidth of a layout. -/
namespace Go.Zq

end Go.Zq
/- Plain mathematics: the sizes of the fronts of a layout. -/
namespace Go.Zq

end Go.Zq
/- Plain mathematics: the program of a layout. -/
namespace Go.Zq

theorem filter_listN {A B : Nat → Bool} : ∀ n, (listN A n).filter (fun y => B y.toNat) = listN (fun j => A j && B j) n
  | 0 => rfl
  | n + 1 => by
    rw [listN_succ, listN_succ, List.filter_append, filter_listN n]
    congr 1
    cases h : A n
    · rfl
    · simp only [Bool.true_and, if_true, List.filter_cons, List.filter_nil, Int.toNat_natCast]

theorem takeS {l : List Int} {k a : Nat} (hk : k < l.length) (ha : l.getD k 0 = (a : Int)) : l.take (k + 1) = l.take k ++ [(a : Int)] := by
  rw [List.take_add_one]
  rw [List.getD_eq_getElem?_getD, List.getElem?_eq_getElem hk] at ha
  simp only [Option.getD_some] at ha
  rw [List.getElem?_eq_getElem hk, ha]; rfl

end Go.Zq
/- Plain mathematics: neighbors as lists. -/
namespace Go.Zq

theorem listN_s {p : Nat → Bool} {n : Nat} : listN p (n + 1) = if p n then listN p n ++ [(n : Int)] else listN p n := by
  rw [listN_succ]; cases p n <;> simp
end Go.Zq
/- Plain mathematics: sets that stop a fire. -/
namespace Go.Zq

end Go.Zq
/- Plain mathematics: rankings. -/
namespace Go.Zq

/-- nodes with at most a number; nodes with just this number -/
def lowP (l : List Int) (r : Int) (j : Nat) : Bool := decide (l.getD j 0 ≤ r)
/-- a node of the same number is met -/
def meets (g : Gr) (l : List Int) (x : Nat) : Bool := anyN (fun y => comp g (lowP l (l.getD x 0)) x y && ((y != x) && (l.getD y 0 == l.getD x 0))) g.1.toNat

end Go.Zq
/- Plain mathematics: cliques; perfect eliminations. -/
namespace Go.Zq

theorem and_mkm {A B : Nat → Bool} {n : Nat} (hn : n ≤ 8) : iand .i64 ((mkm A n : Nat) : Int) ((mkm B n : Nat) : Int) = ((mkm (fun j => A j && B j) n : Nat) : Int) := by
  rw [iand_nat (mkm_lt63 (by omega)) (mkm_lt63 (by omega))]
  congr 1
  apply Nat.eq_of_testBit_eq
  intro j
  rw [Nat.testBit_and, mkm_bit, mkm_bit, mkm_bit]
  cases decide (j < n) <;> simp

end Go.Zq
/- Plain mathematics: perfect eliminations. -/
namespace Go.Zq

theorem mkm_full {n : Nat} : mkm (fun _ => true) n = 2 ^ n - 1 := by
  induction n with
  | zero => rfl
  | succ n ih =>
    have := mkm_add (p := fun _ => true) (n := n)
    rw [this, ih]
    have := Nat.two_pow_pos n
    simp only [if_true, Nat.pow_succ]; omega

theorem iAll_eq {F : Nat} {g : Gr} (hg : good g = true) : i_net_all F ⟨nearL g⟩ = some ((mkm (fun _ => true) g.1.toNat : Nat) : Int) := by
  have h8 := good_size hg
  have hpow := Nat.two_pow_pos g.1.toNat
  have h256 : 2 ^ g.1.toNat ≤ 256 := by
    have := Nat.pow_le_pow_right (n := 2) (by decide) (show g.1.toNat ≤ 8 by omega)
    simpa using this
  unfold i_net_all
  rw [nearL_len, one_shl (by omega), Option.bind_some, w64_id (by omega) (by omega), mkm_full]
  congr 1; omega

end Go.Zq
/- Plain mathematics: the table of best orders for a cost (frontSize). -/
namespace Go.Zq

end Go.Zq
/- Plain mathematics: the pathwidth. -/
namespace Go.Zq

end Go.Zq
