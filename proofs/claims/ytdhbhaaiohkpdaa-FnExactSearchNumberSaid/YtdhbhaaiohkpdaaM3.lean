/- Plain mathematics: what the functions answer (part 3). Conditions: stated in each theorem. -/
import Derived.Test.YtdhbhaaiohkpdaaM2
import Derived.Test.YtdhbhaaiohkpdaaM1
set_option linter.unusedVariables false
set_option linter.unusedSimpArgs false
/- Plain mathematics: the program of a layout. -/
namespace Go.Zq

end Go.Zq
/- Plain mathematics: neighbors as lists. -/
namespace Go.Zq

end Go.Zq
/- Plain mathematics: sets that stop a fire. -/
namespace Go.Zq

end Go.Zq
/- Plain mathematics: rankings. -/
namespace Go.Zq

/-- nodes with at most a number; nodes with just this number -/
def lowP (l : List Int) (r : Int) (j : Nat) : Bool := decide (l.getD j 0 ≤ r)
/-- a node of the same number is met -/
def meets (g : Gr) (l : List Int) (x : Nat) : Bool := anyN (fun y => comp g (lowP l (l.getD x 0)) x y && ((y != x) && (l.getD y 0 == l.getD x 0))) g.1.toNat

end Go.Zq
/- Plain mathematics: cliques; perfect eliminations. -/
namespace Go.Zq

end Go.Zq
/- Plain mathematics: decompositions. -/
namespace Go.Zq

end Go.Zq
/- Plain mathematics: the filling of an elimination, and its width. -/
namespace Go.Zq

end Go.Zq
/- Plain mathematics: the bags of a layout. -/
namespace Go.Zq

theorem appL_some {α : Type} {xs ys : List α} (h : xs.length + ys.length ≤ 1099511627776) : appL xs ys = some (xs ++ ys) := by
  unfold appL
  rw [if_pos (by simpa using h)]

end Go.Zq
/- Plain mathematics: the unsafe nodes after each step of a program. -/
namespace Go.Zq

end Go.Zq
/- Plain mathematics: the search by breadth. -/
namespace Go.Zq

def enS (n : Nat) (s : Nat × Nat) : List Int × List Int := (listN s.1.testBit n, listN s.2.testBit n)
def cod (s : Nat × Nat) : Nat := s.1 + 256 * s.2

def slN : List Int → Nat
  | [] => 0
  | y :: l => 2 ^ y.toNat + slN l
theorem slN_app : ∀ (l r : List Int), slN (l ++ r) = slN l + slN r
  | [], r => by simp [slN]
  | y :: l, r => by simp only [List.cons_append, slN, slN_app l r]; omega
theorem slN_take {l : List Int} {t : Nat} (h : t < l.length) : slN (l.take (t + 1)) = slN (l.take t) + 2 ^ (l.getD t 0).toNat := by
  rw [List.take_add_one, List.getElem?_eq_getElem h, List.getD_eq_getElem?_getD, List.getElem?_eq_getElem h, slN_app]
  simp [slN]
theorem slN_listN {p : Nat → Bool} : ∀ n, slN (listN p n) = mkm p n
  | 0 => rfl
  | n + 1 => by
    rw [listN_succ, mkm_add, slN_app, slN_listN n]
    by_cases h : p n = true
    · simp [h, slN]
    · rw [Bool.not_eq_true] at h; simp [h, slN]

theorem sCode_eq {F n : Nat} {s : Nat × Nat} (hn : n ≤ 8) (h1 : s.1 < 2 ^ n) (h2 : s.2 < 2 ^ n) (hF : 20 ≤ F) : s_l6Code F (enS n s) = some (cod s : Int) := by
  have hA := listN_le (p := s.1.testBit) (n := n)
  have hB := listN_le (p := s.2.testBit) (n := n)
  have hel : ∀ (q : Nat → Bool) t, t < (listN q n).length → ∃ j : Nat, (listN q n).getD t 0 = (j : Int) ∧ 2 ^ j ≤ 128 ∧ j ≤ 7 := by
    intro q t ht
    obtain ⟨j, hj, hjn, _⟩ := listN_get ht
    exact ⟨j, hj, by
      have := Nat.pow_le_pow_right (n := 2) (by decide) (show j ≤ 7 by omega); omega, by omega⟩
  have hbd : ∀ (q : Nat → Bool) t, t ≤ (listN q n).length → slN ((listN q n).take t) ≤ t * 128 := by
    intro q t
    induction t with
    | zero => intro _; simp [slN]
    | succ t ih =>
      intro ht
      obtain ⟨j, hj, h3, _⟩ := hel q t (by omega)
      have := ih (by omega)
      rw [slN_take (by omega), hj, Int.toNat_natCast]; omega
  have hfin : ∀ k, s_l6Code_l1 F (enS n s) (k + (n + 1)) ((mkm s.1.testBit n : Nat) : Int) 0 = some (cod s : Int) := by
    intro k
    refine loop_inv (L := fun k t x => s_l6Code_l1 F (enS n s) k x t) (n := (listN s.2.testBit n).length) (fun t x => x = ((mkm s.1.testBit n + 256 * slN ((listN s.2.testBit n).take t) : Nat) : Int)) ?_ ?_ _ _ (by omega) (by simp [slN])
    · rintro k t x ht rfl
      refine ⟨_, rfl, ?_⟩
      obtain ⟨j, hj, h3, h4⟩ := hel _ t ht
      have hb := hbd s.2.testBit t (by omega)
      have hm : mkm s.1.testBit n < 256 := mkm_256 hn
      have hsh := shl_nat (a := 256) (j := j) (by omega) (by omega)
      simp only [s_l6Code_l1]
      rw [show (enS n s).2 = listN s.2.testBit n from rfl, decide_eq_true (show (t : Int) < ((listN s.2.testBit n).length : Int) by omega), cond_true, idx_getD (d := 0) ht, Option.bind_some, hj]
      rw [show ((256 : Nat) : Int) = 256 from rfl] at hsh
      rw [hsh, Option.bind_some, w64_succ ht (by unfold Sm; omega), slN_take ht, hj, Int.toNat_natCast]
      generalize 2 ^ j = q at h3 ⊢
      rw [w64_id (by omega) (by omega)]
      congr 1
      omega
    · rintro k x rfl
      simp only [s_l6Code_l1]
      rw [show (enS n s).2 = listN s.2.testBit n from rfl, decide_eq_false (show ¬ ((listN s.2.testBit n).length : Int) < ((listN s.2.testBit n).length : Int) by omega), cond_false, List.take_length, slN_listN, mkm_self h1, mkm_self h2]
      rfl
  unfold s_l6Code
  refine loop_inv (L := fun k t x => s_l6Code_l2 F (enS n s) k x t) (n := (listN s.1.testBit n).length) (fun t x => x = ((slN ((listN s.1.testBit n).take t) : Nat) : Int)) ?_ ?_ F 0 (by omega) (by simp [slN])
  · rintro k t x ht rfl
    refine ⟨_, rfl, ?_⟩
    obtain ⟨j, hj, h3, h4⟩ := hel _ t ht
    have hb := hbd s.1.testBit t (by omega)
    simp only [s_l6Code_l2]
    rw [show (enS n s).1 = listN s.1.testBit n from rfl, decide_eq_true (show (t : Int) < ((listN s.1.testBit n).length : Int) by omega), cond_true, idx_getD (d := 0) ht, Option.bind_some, hj, one_shl (by omega), Option.bind_some, w64_succ ht (by unfold Sm; omega), slN_take ht, hj, Int.toNat_natCast]
    generalize 2 ^ j = q at h3 ⊢
    rw [w64_id (by omega) (by omega)]
    congr 1
  · rintro k x rfl
    simp only [s_l6Code_l2]
    rw [show (enS n s).1 = listN s.1.testBit n from rfl, decide_eq_false (show ¬ ((listN s.1.testBit n).length : Int) < ((listN s.1.testBit n).length : Int) by omega), cond_false, List.take_length, slN_listN]
    have := hfin (F - (n + 1))
    rwa [show F - (n + 1) + (n + 1) = F by omega] at this

theorem cod_inj {s t : Nat × Nat} (h1 : s.1 < 256) (h2 : t.1 < 256) (h : cod s = cod t) : s = t := by
  unfold cod at h
  exact Prod.ext (by omega) (by omega)

theorem nodup_lenN {l : List Nat} {N : Nat} (hn : l.Nodup) (h : ∀ x ∈ l, x < N) : l.length ≤ N := by
  have := card_list N (l.map fun x : Nat => (x : Int)) (by
    rw [List.nodup_iff_pairwise_ne] at hn ⊢
    rw [List.pairwise_map]
    exact hn.imp fun h => by omega) (by
    intro x hx
    obtain ⟨y, hy, rfl⟩ := List.mem_map.1 hx
    have := h y hy
    omega)
  have h2 := cnt_le (p := fun j => decide ((j : Int) ∈ l.map fun x : Nat => (x : Int))) (n := N)
  rw [this, List.length_map] at h2
  exact h2

/-- what the search holds -/
structure Bfs (g : Gr) (k : Int) (T : List (Nat × Nat)) (P : List (NL Int)) (sn : List Bool) : Prop where
  fst : T[0]? = some (0, 2 ^ g.1.toNat - 1)
  rch : ∀ s ∈ T, Rch g k s
  pln : P.length = T.length
  prg : ∀ i, i < P.length → (P.getD i .nil).list.length ≤ i
  sln : sn.length = 65536
  see : ∀ c, c < 65536 → (sn.getD c false = true ↔ ∃ s ∈ T.tail, cod s = c)
  nod : (T.tail.map cod).Nodup

theorem Bfs.len {g : Gr} {k : Int} {T : List (Nat × Nat)} {P : List (NL Int)} {sn : List Bool} (hg : good g = true) (h6 : g.1 ≤ 6) (hk : 0 ≤ k) (h : Bfs g k T P sn) : T.length ≤ 16385 := by
  have := nodup_lenN (N := 16384) h.nod (by
    intro c hc
    obtain ⟨s, hs, rfl⟩ := List.mem_map.1 hc
    have hst := rch_gst hg hk (h.rch s (List.mem_of_mem_tail hs))
    have hp := Nat.pow_le_pow_right (n := 2) (by decide) (show g.1.toNat ≤ 6 by omega)
    have h1 := hst.lt1
    have h2 := hst.lt2
    unfold cod
    omega)
  rw [List.length_map, List.length_tail] at this
  omega

end Go.Zq
/- Plain mathematics: what the search by breadth finds. -/
namespace Go.Zq

theorem cod_lt {g : Gr} (h6 : g.1 ≤ 6) {k : Int} {s : Nat × Nat} (h : Gst g k s) : cod s < 65536 ∧ s.1 < 64 ∧ s.2 < 64 := by
  have hp := Nat.pow_le_pow_right (n := 2) (by decide) (show g.1.toNat ≤ 6 by omega)
  have h1 := h.lt1
  have h2 := h.lt2
  unfold cod
  omega

theorem Bfs.add {g : Gr} {k : Int} {T : List (Nat × Nat)} {P : List (NL Int)} {sn : List Bool} (hg : good g = true) (h6 : g.1 ≤ 6) (hk : 0 ≤ k) (h : Bfs g k T P sn) {i : Nat} {step : Int} (hi : i < T.length) (hc : cnS g k (T.getD i (0, 0)) step = true)
    (hn : sn.getD (cod (nxS g (T.getD i (0, 0)) step)) false = false) :
    Bfs g k (T ++ [nxS g (T.getD i (0, 0)) step]) (P ++ [.of ((P.getD i .nil).list ++ [step])]) (sn.set (cod (nxS g (T.getD i (0, 0)) step)) true) := by
  have hr : Rch g k (nxS g (T.getD i (0, 0)) step) := .step (h.rch _ (getD_mem hi)) hc
  have hst := rch_gst hg hk hr
  have hl := (cod_lt h6 hst).1
  generalize hs : nxS g (T.getD i (0, 0)) step = s' at hr hst hl hn ⊢
  have hne : T ≠ [] := fun e => by subst e; simp at hi
  have htl : (T ++ [s']).tail = T.tail ++ [s'] := by
    cases T with
    | nil => exact absurd rfl hne
    | cons a T => rfl
  have hpl := h.pln
  refine ⟨?_, ?_, ?_, ?_, ?_, ?_, ?_⟩
  · rw [List.getElem?_append_left (by omega)]; exact h.fst
  · intro s hs
    rw [List.mem_append, List.mem_singleton] at hs
    rcases hs with hs | rfl
    · exact h.rch s hs
    · exact hr
  · simp [hpl]
  · intro j hj
    rw [List.length_append, List.length_singleton] at hj
    by_cases e : j < P.length
    · rw [List.getD_eq_getElem?_getD, List.getElem?_append_left e, ← List.getD_eq_getElem?_getD]; exact h.prg j e
    · obtain rfl : j = P.length := by omega
      rw [List.getD_eq_getElem?_getD, List.getElem?_append_right (by omega)]
      have := h.prg i (by omega)
      simp only [Nat.sub_self, List.getElem?_cons_zero, Option.getD_some]
      show ((P.getD i .nil).list ++ [step]).length ≤ P.length
      rw [List.length_append, List.length_singleton]
      omega
  · rw [List.length_set]; exact h.sln
  · intro c hc2
    rw [htl, List.getD_eq_getElem?_getD, List.getElem?_set]
    have hsl := h.sln
    constructor
    · intro h5
      split at h5
      · rename_i e
        exact ⟨s', by simp, e⟩
      · rw [← List.getD_eq_getElem?_getD] at h5
        obtain ⟨t, h1, h2⟩ := (h.see c hc2).1 h5
        exact ⟨t, by simp [h1], h2⟩
    · rintro ⟨t, h1, h2⟩
      rw [List.mem_append, List.mem_singleton] at h1
      split
      · rename_i e
        rw [if_pos (by omega)]; rfl
      · rename_i e
        rw [← List.getD_eq_getElem?_getD]
        rcases h1 with h1 | rfl
        · exact (h.see c hc2).2 ⟨t, h1, h2⟩
        · exact absurd h2 e
  · rw [htl, List.map_append, List.nodup_append]
    refine ⟨h.nod, by simp, ?_⟩
    intro a ha b hb e
    simp only [List.map_cons, List.map_nil, List.mem_singleton] at hb
    subst e
    obtain ⟨t, h1, h2⟩ := List.mem_map.1 ha
    have := (h.see (cod s') hl).2 ⟨t, h1, by rw [h2, hb]⟩
    rw [hn] at this; cases this

theorem enS_nx {g : Gr} {s : Nat × Nat} {step : Int} : enS g.1.toNat (nxS g s step) = (listN (newP s.1.testBit step) g.1.toNat, listN (spr g (fun j => !newP s.1.testBit step j) s.2.testBit) g.1.toNat) := by
  unfold enS nxS
  refine Prod.ext ?_ ?_
  · exact listN_congr fun j hj => by rw [mkm_bit, decide_eq_true hj, Bool.true_and]
  · exact listN_congr fun j hj => by rw [mkm_bit, decide_eq_true hj, Bool.true_and]

theorem canB_range {n : Nat} {p : Nat → Bool} {step : Int} (h : canB n p step = true) : -(n : Int) ≤ step ∧ step < n := by
  unfold canB stNode at h
  rw [Bool.and_eq_true, decide_eq_true_eq] at h
  have := h.1
  split at this <;> omega

theorem map_getD {α β : Type} {f : α → β} {l : List α} {i : Nat} {d : α} {e : β} (h : i < l.length) : (l.map f).getD i e = f (l.getD i d) := by
  rw [List.getD_eq_getElem?_getD, List.getElem?_map, List.getD_eq_getElem?_getD, List.getElem?_eq_getElem h]; rfl

/-- the steps from one state -/
theorem bfsIn {F i : Nat} {g : Gr} {k : Int} {T : List (Nat × Nat)} {P : List (NL Int)} {sn : List Bool} {c : List (List Int × List Int) → List (NL Int) → List Bool → Int → Option (List Int × Bool)} (hg : good g = true) (h6 : g.1 ≤ 6) (hk : 0 ≤ k) (hF : 300 ≤ F) (hG : g.2.length < F) (hs : Sm g.2.length)
    (h : Bfs g k T P sn) (hi : i < T.length) :
    ∃ T' P' sn', Bfs g k T' P' sn' ∧ T.length ≤ T'.length ∧ (∀ j, j < T.length → T'.getD j (0, 0) = T.getD j (0, 0)) ∧ (∀ s, s ∈ T.tail → s ∈ T'.tail) ∧ (∀ step, cnS g k (T.getD i (0, 0)) step = true → nxS g (T.getD i (0, 0)) step ∈ T'.tail) ∧
      s_l6Shortest_l1 F k g (i : Int) c F (T.map (enS g.1.toNat)) P sn (w64 (0 - g.1)) = c (T'.map (enS g.1.toNat)) P' sn' (w64 ((i : Int) + 1)) := by
  have h8 := good_size hg
  obtain ⟨n, hn⟩ : ∃ n : Nat, g.1.toNat = n := ⟨_, rfl⟩
  have hgn : g.1 = (n : Int) := by omega
  have hw0 : w64 (0 - g.1) = -(n : Int) := by rw [w64_id (by omega) (by omega)]; omega
  obtain ⟨s', ⟨T', e1, e2, e3, e4, e5, e6⟩, e7⟩ := loop_ex (L := fun k' t (s : List (List Int × List Int) × List (NL Int) × List Bool) => s_l6Shortest_l1 F k g (i : Int) c k' s.1 s.2.1 s.2.2 (-(n : Int) + t)) (n := 2 * n) (fin := fun s => c s.1 s.2.1 s.2.2 (w64 ((i : Int) + 1)))
    (fun t s => ∃ T', s.1 = T'.map (enS g.1.toNat) ∧ Bfs g k T' s.2.1 s.2.2 ∧ T.length ≤ T'.length ∧ (∀ j, j < T.length → T'.getD j (0, 0) = T.getD j (0, 0)) ∧ (∀ s, s ∈ T.tail → s ∈ T'.tail) ∧
      (∀ step, step < -(n : Int) + t → cnS g k (T.getD i (0, 0)) step = true → nxS g (T.getD i (0, 0)) step ∈ T'.tail)) (by
      rintro k' t ⟨S1, P1, sn1⟩ ht ⟨T1, rfl, b1, b2, b3, b4, b5⟩
      simp only at b1 ⊢
      obtain ⟨step, hstep⟩ : ∃ step, -(n : Int) + (t : Int) = step := ⟨_, rfl⟩
      have hwf : (Lit.int .i64 step).wf = true := okI_iff.2 ⟨by omega, by omega⟩
      have hnext : w64 (step + 1) = -(n : Int) + ((t + 1 : Nat) : Int) := by rw [w64_id (by omega) (by omega)]; omega
      have hi1 : i < T1.length := by omega
      have hti := b3 i hi
      obtain ⟨si, hsi⟩ : ∃ si, T.getD i (0, 0) = si := ⟨_, rfl⟩
      rw [hsi] at hti b5 ⊢
      have hidx : idx (T1.map (enS g.1.toNat)) (i : Int) = some (listN si.1.testBit g.1.toNat, listN si.2.testBit g.1.toNat) := by
        rw [idx_getD (d := ([], [])) (by simpa using hi1), map_getD (d := (0, 0)) hi1, hti]; rfl
      have hskip : cnS g k si step = false → ∃ s' : List (List Int × List Int) × List (NL Int) × List Bool, (∃ T' : List (Nat × Nat), s'.1 = T'.map (enS g.1.toNat) ∧ Bfs g k T' s'.2.1 s'.2.2 ∧ T.length ≤ T'.length ∧ (∀ j, j < T.length → T'.getD j (0, 0) = T.getD j (0, 0)) ∧ (∀ s, s ∈ T.tail → s ∈ T'.tail) ∧
          (∀ step, step < -(n : Int) + ((t + 1 : Nat) : Int) → cnS g k si step = true → nxS g si step ∈ T'.tail)) ∧ s_l6Shortest_l1 F k g (i : Int) c k' (T1.map (enS g.1.toNat)) P1 sn1 (-(n : Int) + ((t + 1 : Nat) : Int)) = s_l6Shortest_l1 F k g (i : Int) c k' s'.1 s'.2.1 s'.2.2 (-(n : Int) + ((t + 1 : Nat) : Int)) := by
        intro hno
        refine ⟨(T1.map (enS g.1.toNat), P1, sn1), ⟨T1, rfl, b1, b2, b3, b4, fun st hst hcs => ?_⟩, rfl⟩
        by_cases e : st = step
        · subst e; rw [hno] at hcs; cases hcs
        · exact b5 st (by omega) hcs
      simp only [s_l6Shortest_l1]
      rw [hstep, decide_eq_true (show step < g.1 by omega), cond_true, hidx, Option.bind_some, sCan_eq hg hwf (by omega), Option.bind_some]
      cases hcan : canB g.1.toNat si.1.testBit step with
      | false =>
        rw [Bool.not_false, cond_true]
        simp only [s_l6Shortest_j2, cond_true]
        rw [hnext]
        exact hskip (by unfold cnS; rw [hcan]; rfl)
      | true =>
        rw [Bool.not_true, cond_false]
        have hgo : (bif decide (step ≥ 0) then (some (listN si.1.testBit g.1.toNat, listN si.2.testBit g.1.toNat)).bind fun e_263 => s_l6Shortest_j2 F k g (T1.map (enS g.1.toNat)) P1 sn1 (i : Int) step c (s_l6Shortest_l1 F k g (i : Int) c k') ((e_263.1.length : Int) == k) else s_l6Shortest_j2 F k g (T1.map (enS g.1.toNat)) P1 sn1 (i : Int) step c (s_l6Shortest_l1 F k g (i : Int) c k') false) =
            s_l6Shortest_j2 F k g (T1.map (enS g.1.toNat)) P1 sn1 (i : Int) step c (s_l6Shortest_l1 F k g (i : Int) c k') (decide (step ≥ 0) && ((pcN g.1.toNat si.1 : Int) == k)) := by
          cases decide (step ≥ 0) with
          | false => rfl
          | true => rw [cond_true, Option.bind_some, Bool.true_and, listN_len]; rfl
        rw [hgo]
        cases hfull : (decide (step ≥ 0) && ((pcN g.1.toNat si.1 : Int) == k)) with
        | true =>
          simp only [s_l6Shortest_j2, cond_true]
          rw [hnext]
          exact hskip (by unfold cnS; rw [hfull, Bool.not_true, Bool.and_false])
        | false =>
          have hcn : cnS g k si step = true := by unfold cnS; rw [hcan, hfull]; rfl
          have hri : Rch g k si := by rw [← hti]; exact b1.rch _ (getD_mem hi1)
          have hst := rch_gst hg hk (.step hri hcn)
          obtain ⟨hcl, hc1, hc2⟩ := cod_lt h6 hst
          have hcod := sCode_eq (F := F) (n := g.1.toNat) (by omega) hst.lt1 hst.lt2 (by omega)
          have hlen1 := b1.len hg h6 hk
          have hsl := b1.sln
          simp only [s_l6Shortest_j2]
          rw [cond_false, hidx, Option.bind_some, sStep_eq hg hwf hcan (by omega) hG hs, ← enS_nx, Option.bind_some, hcod, Option.bind_some, idx_getD (d := false) (by omega), Option.bind_some]
          cases hsee : sn1.getD (cod (nxS g si step)) false with
          | true =>
            rw [Bool.not_true, cond_false]
            simp only [s_l6Shortest_j1]
            rw [hnext]
            refine ⟨(T1.map (enS g.1.toNat), P1, sn1), ⟨T1, rfl, b1, b2, b3, b4, fun st hst2 hcs => ?_⟩, rfl⟩
            by_cases e : st = step
            · subst e
              obtain ⟨t', h1, h2⟩ := (b1.see _ hcl).1 hsee
              have hg2 := rch_gst hg hk (b1.rch t' (List.mem_of_mem_tail h1))
              have := cod_inj (s := t') (t := nxS g si st) (by have := (cod_lt h6 hg2).2.1; omega) (by omega) h2
              rwa [← this]
            · exact b5 st (by omega) hcs
          | false =>
            have hp := b1.prg i (by rw [b1.pln]; omega)
            rw [Bool.not_false, cond_true]
            simp only [s_l6Shortest_j1]
            rw [Option.bind_some, appL_some (by simp; omega), Option.bind_some, idx_getD (d := .nil) (by rw [b1.pln]; omega), Option.bind_some]
            unfold s_l1Own_o
            rw [appL_some (by rw [List.length_nil]; omega), Option.bind_some, Option.bind_some]
            rw [show (NL.of ([] ++ (P1.getD i .nil).list)).list = (P1.getD i .nil).list from rfl, appL_some (by rw [List.length_singleton]; omega), Option.bind_some, appL_some (by have := b1.pln; simp; omega), Option.bind_some, hnext, Int.toNat_natCast]
            have hadd := b1.add hg h6 hk hi1 (step := step) (by rw [hti]; exact hcn) (by rw [hti]; exact hsee)
            rw [hti] at hadd
            have hne : T1 ≠ [] := fun e => by subst e; simp at hi1
            have htl : (T1 ++ [nxS g si step]).tail = T1.tail ++ [nxS g si step] := by
              cases T1 with
              | nil => exact absurd rfl hne
              | cons a T1 => rfl
            refine ⟨((T1 ++ [nxS g si step]).map (enS g.1.toNat), P1 ++ [.of ((P1.getD i .nil).list ++ [step])], sn1.set (cod (nxS g si step)) true), ⟨_, rfl, hadd, ?_, ?_, ?_, fun st hst2 hcs => ?_⟩, ?_⟩
            · rw [List.length_append]; omega
            · intro j hj
              rw [List.getD_eq_getElem?_getD, List.getElem?_append_left (by omega), ← List.getD_eq_getElem?_getD]; exact b3 j hj
            · intro s hs2
              rw [htl]; exact List.mem_append_left _ (b4 s hs2)
            · rw [htl]
              by_cases e : st = step
              · subst e; simp
              · exact List.mem_append_left _ (b5 st (by omega) hcs)
            · rw [List.map_append]; rfl) (by
      rintro k' ⟨S1, P1, sn1⟩ _
      simp only [s_l6Shortest_l1]
      rw [decide_eq_false (show ¬ -(n : Int) + ((2 * n : Nat) : Int) < g.1 by omega), cond_false]) F (T.map (enS g.1.toNat), P, sn) (by omega) ⟨T, rfl, h, Nat.le_refl _, fun _ _ => rfl, fun _ h => h, fun step hst hcs => by
        have := canB_range (n := n) (p := (T.getD i (0, 0)).1.testBit) (step := step) (by unfold cnS at hcs; rw [Bool.and_eq_true, hn] at hcs; exact hcs.1)
        omega⟩
  obtain ⟨S2, P2, sn2⟩ := s'
  simp only at e1 e2 e7
  subst e1
  refine ⟨T', P2, sn2, e2, e3, e4, e5, fun step hcs => e6 step ?_ hcs, ?_⟩
  · have := canB_range (n := n) (p := (T.getD i (0, 0)).1.testBit) (step := step) (by unfold cnS at hcs; rw [Bool.and_eq_true, hn] at hcs; exact hcs.1)
    omega
  · rw [hw0, ← e7, Int.add_zero]

end Go.Zq
/- Plain mathematics: the search number. -/
namespace Go.Zq

theorem listN_nil {p : Nat → Bool} {n : Nat} : (listN p n).length = 0 ↔ ∀ j, j < n → p j = false := by
  rw [listN_len]
  unfold cntN
  rw [List.countP_eq_zero]
  constructor
  · intro h j hj
    have := h j (by simpa using hj)
    simpa using this
  · intro h j hj
    rw [h j (by simpa using hj)]; simp

theorem bfsOut {F : Nat} {g : Gr} {k : Int} (hg : good g = true) (h6 : g.1 ≤ 6) (hk : 0 ≤ k) (hF : 300 ≤ F) (hG : g.2.length < F) (hs : Sm g.2.length) :
    ∀ (d fuel : Nat) (T : List (Nat × Nat)) (P : List (NL Int)) (sn : List Bool) (i : Nat), Bfs g k T P sn → i ≤ T.length → (∀ j, j < i → (T.getD j (0, 0)).2 ≠ 0 ∧ ∀ step, cnS g k (T.getD j (0, 0)) step = true → nxS g (T.getD j (0, 0)) step ∈ T.tail) → 16386 ≤ i + d → d < fuel →
      ∃ r, s_l6Shortest_l2 F k g fuel (T.map (enS g.1.toNat)) P sn (i : Int) = some r ∧ (r.2 = true ↔ ∃ s, Rch g k s ∧ s.2 = 0) := by
  intro d
  induction d with
  | zero =>
    intro fuel T P sn i h hi _ hd _
    have := h.len hg h6 hk
    omega
  | succ d ih =>
    intro fuel T P sn i h hi hcl hd hf
    obtain ⟨f, rfl⟩ : ∃ f, fuel = f + 1 := ⟨fuel - 1, by omega⟩
    have hlen := h.len hg h6 hk
    simp only [s_l6Shortest_l2]
    by_cases hlt : i < T.length
    · have hri : Rch g k (T.getD i (0, 0)) := h.rch _ (getD_mem hlt)
      have hst := rch_gst hg hk hri
      have hidx : idx (T.map (enS g.1.toNat)) (i : Int) = some (listN (T.getD i (0, 0)).1.testBit g.1.toNat, listN (T.getD i (0, 0)).2.testBit g.1.toNat) := by
        rw [idx_getD (d := ([], [])) (by simpa using hlt), map_getD (d := (0, 0)) hlt]; rfl
      rw [decide_eq_true (show (i : Int) < ((T.map (enS g.1.toNat)).length : Int) by simp; omega), cond_true, hidx, Option.bind_some]
      by_cases hz : (T.getD i (0, 0)).2 = 0
      · have e : (listN (T.getD i (0, 0)).2.testBit g.1.toNat).length = 0 := listN_nil.2 fun j _ => by rw [hz, Nat.zero_testBit]
        have e2 : (((listN (T.getD i (0, 0)).2.testBit g.1.toNat).length : Int) == 0) = true := by rw [e]; rfl
        rw [e2, cond_true, idx_getD (d := .nil) (by rw [h.pln]; exact hlt), Option.bind_some]
        exact ⟨_, rfl, fun _ => ⟨_, hri, hz⟩, fun _ => rfl⟩
      · have e : (listN (T.getD i (0, 0)).2.testBit g.1.toNat).length ≠ 0 := fun e => by
          have e3 := listN_nil.1 e
          refine hz (Nat.eq_of_testBit_eq fun j => ?_)
          rw [Nat.zero_testBit]
          by_cases hj : j < g.1.toNat
          · exact e3 j hj
          · exact Nat.testBit_lt_two_pow (Nat.lt_of_lt_of_le hst.lt2 (Nat.pow_le_pow_right (by decide) (by omega)))
        have e2 : (((listN (T.getD i (0, 0)).2.testBit g.1.toNat).length : Int) == 0) = false := beq_eq_false_iff_ne.2 (by omega)
        rw [e2, cond_false]
        obtain ⟨T', P', sn', b1, b2, b3, b4, b5, b6⟩ := bfsIn (F := F) (c := s_l6Shortest_l2 F k g f) hg h6 hk hF hG hs h hlt
        rw [b6, w64_succ (n := 20000) (by omega) (by unfold Sm; omega)]
        refine ih f T' P' sn' (i + 1) b1 (by omega) ?_ (by omega) (by omega)
        intro j hj
        rw [b3 j (by omega)]
        by_cases e4 : j = i
        · subst e4; exact ⟨hz, b5⟩
        · obtain ⟨c1, c2⟩ := hcl j (by omega)
          exact ⟨c1, fun step hcs => b4 _ (c2 step hcs)⟩
    · obtain rfl : i = T.length := by omega
      rw [decide_eq_false (show ¬ ((T.length : Nat) : Int) < ((T.map (enS g.1.toNat)).length : Int) by simp), cond_false]
      refine ⟨_, rfl, fun h => (by cases h), ?_⟩
      rintro ⟨s, hr, hz⟩
      exfalso
      have hmem : s ∈ T := by
        clear hz
        induction hr with
        | init => exact List.mem_of_getElem? h.fst
        | step _ hc ih2 =>
          obtain ⟨j, hj, hje⟩ := List.mem_iff_getElem.1 ih2
          have h5 := (hcl j hj).2
          rw [List.getD_eq_getElem?_getD, List.getElem?_eq_getElem hj, Option.getD_some, hje] at h5
          exact List.mem_of_mem_tail (h5 _ hc)
      obtain ⟨j, hj, hje⟩ := List.mem_iff_getElem.1 hmem
      have h5 := (hcl j hj).1
      rw [List.getD_eq_getElem?_getD, List.getElem?_eq_getElem hj, Option.getD_some, hje] at h5
      exact h5 hz

theorem shortest_ok {F : Nat} {g : Gr} {k : Int} (hg : good g = true) (h6 : g.1 ≤ 6) (hk : 0 ≤ k) (hF : 70000 ≤ F) (hG : g.2.length < F) (hs : Sm g.2.length) :
    ∃ r, s_l6Shortest F g k = some r ∧ (r.2 = true ↔ ∃ s, Rch g k s ∧ s.2 = 0) := by
  have h8 := good_size hg
  unfold s_l6Shortest s_l6Begin
  rw [all_eq hg (by omega), Option.bind_some, Option.bind_some]
  have hmk := mkN_nat (n := 65536) (x := false) (by omega)
  rw [show ((65536 : Nat) : Int) = 65536 from rfl] at hmk
  rw [hmk, Option.bind_some]
  have hen : [(([], listN (fun j => decide (j < g.1.toNat)) g.1.toNat) : List Int × List Int)] = [(0, 2 ^ g.1.toNat - 1)].map (enS g.1.toNat) := by
    rw [List.map_cons, List.map_nil]
    congr 1
    unfold enS
    refine Prod.ext ?_ (listN_congr fun j _ => by show _ = (2 ^ g.1.toNat - 1).testBit j; rw [Nat.testBit_two_pow_sub_one])
    show [] = listN (Nat.testBit 0) g.1.toNat
    exact (List.eq_nil_of_length_eq_zero (listN_nil.2 fun j _ => Nat.zero_testBit j)).symm
  rw [hen]
  refine bfsOut hg h6 hk (by omega) hG hs 16386 F _ _ _ 0 ⟨rfl, ?_, rfl, ?_, List.length_replicate, ?_, List.Pairwise.nil⟩ (by omega) (fun j hj => absurd hj (by omega)) (by omega) (by omega)
  · intro s hs
    rw [List.mem_singleton] at hs
    subst hs; exact .init
  · intro i hi
    have : i = 0 := by simpa using hi
    subst this; simp [NL.list]
  · intro c hc
    constructor
    · intro h
      rw [List.getD_eq_getElem?_getD, List.getElem?_replicate, if_pos hc] at h
      cases h
    · rintro ⟨s, h1, _⟩
      cases h1

theorem ch_any {n : Nat} {c : Nat → Int} {t : Int} (hc : ∀ m, c m ≤ t) : ∀ (d m : Nat), 2 ^ n - m ≤ d → m < 2 ^ n → Ch n c t m (2 ^ n - 1)
  | 0, m, h, hm => by omega
  | d + 1, m, h, hm => by
    by_cases e : m = 2 ^ n - 1
    · subst e; exact .refl _
    · have hne : outs n m ≠ [] := fun e2 => e ((outs_nil hm).1 e2)
      obtain ⟨y, hy⟩ := List.exists_mem_of_ne_nil _ hne
      obtain ⟨x, rfl, hx, hb⟩ := outs_mem.1 hy
      have h1 := or_lt hm hx
      have h2 : m < m ||| 2 ^ x := by
        refine Nat.lt_of_le_of_ne Nat.left_le_or fun e3 => ?_
        have : (m ||| 2 ^ x).testBit x = true := by rw [Nat.testBit_or, Nat.testBit_two_pow]; simp
        rw [← e3, hb] at this; cases this
      exact .step hx hb (hc _) (ch_any hc d _ (by omega) h1)

theorem exSearchNumber {F : Nat} {g : Gr} (hF : 70000 ≤ F) (hG : g.2.length < F) (hs : Sm g.2.length) : ∃ r, s_SearchNumber F g = some r ∧ i_SearchNumber F g = some r := by
  unfold s_SearchNumber i_SearchNumber
  rw [l2Good_eq hG hs, isGraph_eq hG (by omega) hs, Option.bind_some, Option.bind_some]
  cases hg : good g with
  | false => exact ⟨(0, false), rfl, rfl⟩
  | true =>
    have h8 := good_size hg
    rw [Bool.not_true, cond_false, cond_false]
    by_cases h6 : g.1 > 6
    · rw [decide_eq_true h6]; exact ⟨(0, false), rfl, rfl⟩
    rw [decide_eq_false h6]
    unfold s_SearchNumber_j1 i_SearchNumber_j1
    rw [cond_false, cond_false]
    by_cases h0 : g.1 = 0
    · have e : (g.1 == 0) = true := by simpa using h0
      rw [e, cond_true]
      refine ⟨(0, true), ?_, rfl⟩
      obtain ⟨f, rfl⟩ : ∃ f, F = f + 1 := ⟨F - 1, by omega⟩
      obtain ⟨r, h1, h2⟩ := shortest_ok (F := f + 1) (k := 0) hg (by omega) (by omega) (by omega) hG hs
      rw [s_SearchNumber_l1, h1, Option.bind_some, h2.2 ⟨_, .init, by show 2 ^ g.1.toNat - 1 = 0; rw [h0]; rfl⟩, cond_true]
    · have e : (g.1 == 0) = false := by simpa using h0
      rw [e, cond_false, netOf_eq hg hG hs, Option.bind_some]
      obtain ⟨best, b1, b2, b3⟩ := best_frontSize (F := F) (nn := 0) hg (by omega)
      have hpos := Nat.two_pow_pos g.1.toNat
      unfold i_net_pathwidth
      have hi0 := idx_getD (d := 0) (xs := best) (i := 0) (by omega)
      rw [show ((0 : Nat) : Int) = 0 from rfl] at hi0
      rw [b1, Option.bind_some, hi0, Option.bind_some, Option.bind_some]
      have hch : ∀ t : Int, 0 ≤ t → (best.getD 0 0 ≤ t ↔ Ch g.1.toNat (frC g) t 0 (2 ^ g.1.toNat - 1)) := fun t ht => back_ch (T := fun m => best.getD m 0) (by omega) b3 ht 0 hpos
      have hle : best.getD 0 0 ≤ 8 := (hch 8 (by omega)).2 (ch_any (fun m => by
        have := cnt_le (p := frt g m.testBit) (n := g.1.toNat)
        unfold frC; omega) _ 0 (Nat.le_refl _) hpos)
      have hnn : 0 ≤ best.getD 0 0 := by
        have hb := b3 0 hpos
        have hb' : best.getD 0 0 = mn (fun x => max (frP g 0 x.toNat) (best.getD (0 ||| 2 ^ x.toNat) 0)) (outs g.1.toNat 0) 0 := hb
        rw [hb']
        refine mn_nonneg (fun e2 => ?_) fun y _ => ?_
        · have := (outs_nil hpos).1 e2
          have h2 : 2 ^ 1 ≤ 2 ^ g.1.toNat := Nat.pow_le_pow_right (by decide) (by omega)
          omega
        · have := frC_nonneg (g := g) (m := 0 ||| 2 ^ y.toNat)
          unfold frP
          omega
      obtain ⟨W, hW⟩ : ∃ W : Nat, best.getD 0 0 = W := ⟨(best.getD 0 0).toNat, by omega⟩
      rw [hW] at hle hch ⊢
      refine ⟨((W : Int) + 1, true), ?_, by rw [w64_id (by omega) (by omega)]⟩
      refine loop_to (L := fun k i => s_SearchNumber_l1 F g k i) (n := W + 1) ?_ ?_ F (by omega)
      · intro k i hi
        obtain ⟨r, h1, h2⟩ := shortest_ok (F := F) (k := (i : Int)) hg (by omega) (by omega) hF hG hs
        have hno : r.2 = false := by
          cases hr : r.2 with
          | false => rfl
          | true =>
            exfalso
            obtain ⟨s, hr1, hr2⟩ := h2.1 hr
            cases i with
            | zero =>
              have := rch_zero (g := g) hr1
              subst this
              have h2 : 2 ^ 1 ≤ 2 ^ g.1.toNat := Nat.pow_le_pow_right (by decide) (by omega)
              have hr2' : 2 ^ g.1.toNat - 1 = 0 := hr2
              omega
            | succ w =>
              have hr1' : Rch g ((w : Int) + 1) s := hr1
              have := (hch (w : Int) (by omega)).2 (clear_ch hg hr1' hr2)
              omega
        rw [s_SearchNumber_l1, h1, Option.bind_some, hno, cond_false, w64_succ hi (by unfold Sm; omega)]
      · intro k
        obtain ⟨r, h1, h2⟩ := shortest_ok (F := F) (k := (((W + 1 : Nat)) : Int)) hg (by omega) (by omega) hF hG hs
        have hyes : r.2 = true := h2.2 (by
          obtain ⟨s, h3, h4⟩ := ch_clear hg (w := W) ((hch (W : Int) (by omega)).1 (Int.le_refl _))
          exact ⟨s, h3, h4⟩)
        rw [s_SearchNumber_l1, h1, Option.bind_some, hyes, cond_true]
        rfl

end Go.Zq
/- The law SearchNumber, as a plain statement. -/
namespace Go.Zq

theorem lawSearchNumber {F : Nat} {g : Gr} (hF : 2097152 ≤ F) (hg : g.2.length ≤ 9223372036854775807) : w_FnExactSearchNumber F g = some true := by
  unfold w_FnExactSearchNumber
  rw [szGraph_eq (by omega) (by omega) hg, Option.bind_some]
  by_cases h2 : (1048576 : Int) - g.2.length < 0
  · simp [h2]
  simp only [h2, if_false, decide_false, cond_false]
  rw [toGraph_eq (by omega) (by omega) (by omega)]
  simp only [Option.bind_some]
  obtain ⟨r, h3, h4⟩ := exSearchNumber (F := F) (g := g) (by omega) (by omega) (by unfold Sm; omega)
  rw [h3, h4]
  simp only [Option.bind_some, bne_self_eq_false, cond_false, w_FnExactSearchNumber_j1]
  rw [toGraph_eq (by omega) (by omega) (by omega)]
  simp only [Option.bind_some]
  rw [eqGraph_eq (by omega) (by unfold Sm; omega) (by omega)]
  rfl

end Go.Zq
