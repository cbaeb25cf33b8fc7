/- Plain mathematics: what the functions answer (part 4). Conditions: stated in each theorem. -/
import Derived.Test.YtdhbhaaiohkpdaaM3
import Derived.Test.YtdhbhaaiohkpdaaM1
import Derived.Test.YtdhbhaaiohkpdaaM2
set_option linter.unusedVariables false
set_option linter.unusedSimpArgs false
/- Plain mathematics: the search number. -/
namespace Go.Zq

theorem listN_nil {p : Nat → Bool} {n : Nat} : (listN p n).length = 0 ↔ ∀ j, j < n → p j = false := by
  rw [listN_len]
  unfold cntN
  rw [List.countP_eq_zero]
  constructor
  · intro h j hj
    have := h j (by simpa using hj)
    simpa using this
  · intro h j hj
    rw [h j (by simpa using hj)]; simp

end Go.Zq
/- Plain mathematics: decompositions of eliminations. -/
namespace Go.Zq

def qD (g : Gr) (l : List Int) (i : Nat) : Nat → Bool := latP g (goneM l g.1.toNat i) (l.getD i 0).toNat
def bgD (g : Gr) (l : List Int) (i : Nat) : List Int := listN (fun j => qD g l i j || j == (l.getD i 0).toNat) g.1.toNat
def nxD (g : Gr) (l : List Int) (i : Nat) : Nat := match fstN (fun k => qD g l i (l.getD k 0).toNat) l.length with
  | none => i + 1
  | some k => k
def bgsD (g : Gr) (l : List Int) (i : Nat) : List (List Int) := (List.range i).map (bgD g l)
def trsD (g : Gr) (l : List Int) (i : Nat) : List (Int × Int) := (List.range i).map fun t : Nat => ((t : Int), (nxD g l t : Int))
theorem bgsD_succ {g : Gr} {l : List Int} {i : Nat} : bgsD g l (i + 1) = bgsD g l i ++ [bgD g l i] := by simp [bgsD, List.range_succ]
theorem trsD_succ {g : Gr} {l : List Int} {i : Nat} : trsD g l (i + 1) = trsD g l i ++ [((i : Int), (nxD g l i : Int))] := by simp [trsD, List.range_succ]
theorem bgsD_len {g : Gr} {l : List Int} {i : Nat} : (bgsD g l i).length = i := by simp [bgsD]
theorem trsD_len {g : Gr} {l : List Int} {i : Nat} : (trsD g l i).length = i := by simp [trsD]

section
variable {g : Gr} {l : List Int}

theorem ord_at (hg : good g = true) (ho : isOrd g.1 l = true) {i : Nat} (hi : i < l.length) : ∃ x : Nat, l.getD i 0 = (x : Int) ∧ x < g.1.toNat := by
  have h8 := good_size hg
  have hr := isOrd_in ho h8.1 _ (getD_mem (d := 0) hi)
  exact ⟨(l.getD i 0).toNat, by omega, by omega⟩

theorem ord_pos (hg : good g = true) (ho : isOrd g.1 l = true) {b : Nat} (hb : b < g.1.toNat) : ∃ t, t < l.length ∧ l.getD t 0 = (b : Int) := by
  have := isOrd_mem ho (x := (b : Int)) (by omega) (by omega)
  obtain ⟨t, ht, he⟩ := List.mem_iff_getElem.1 this
  exact ⟨t, ht, by rw [List.getD_eq_getElem?_getD, List.getElem?_eq_getElem ht]; exact he⟩

theorem qD_before (hg : good g = true) (ho : isOrd g.1 l = true) {i k : Nat} (hi : i < l.length) (hk : k ≤ i) : qD g l i (l.getD k 0).toNat = false := by
  cases e : qD g l i (l.getD k 0).toNat with
  | false => rfl
  | true =>
    obtain ⟨y, hy, hyn⟩ := ord_at hg ho (show k < l.length by omega)
    unfold qD at e
    obtain ⟨h1, h2⟩ := latP_of e
    rw [hy, Int.toNat_natCast] at h1 h2
    by_cases e2 : k = i
    · subst e2; rw [hy, Int.toNat_natCast] at h2; exact absurd rfl h2
    · rw [goneM_bit hyn, preP_of (show k < i by omega) (by omega) hy] at h1; cases h1

theorem nxD_some (hg : good g = true) (ho : isOrd g.1 l = true) {i k : Nat} (hi : i < l.length) (h : fstN (fun k => qD g l i (l.getD k 0).toNat) l.length = some k) : i < k ∧ k < l.length ∧ qD g l i (l.getD k 0).toNat = true ∧ (∀ j, j < k → qD g l i (l.getD j 0).toNat = false) ∧ nxD g l i = k := by
  obtain ⟨h1, h2, h3⟩ := fst_some h
  refine ⟨?_, h1, h2, h3, by unfold nxD; rw [h]⟩
  refine Classical.byContradiction fun hne => ?_
  have h2' : qD g l i (l.getD k 0).toNat = true := h2
  rw [qD_before hg ho hi (show k ≤ i by omega)] at h2'
  cases h2'

theorem nxD_none (hg : good g = true) (ho : isOrd g.1 l = true) {i : Nat} (h : fstN (fun k => qD g l i (l.getD k 0).toNat) l.length = none) : (listN (qD g l i) g.1.toNat).length = 0 ∧ nxD g l i = i + 1 := by
  refine ⟨listN_nil.2 fun j hj => ?_, by unfold nxD; rw [h]⟩
  obtain ⟨t, ht, he⟩ := ord_pos hg ho hj
  have := fst_none.1 h t ht
  simp only [he, Int.toNat_natCast] at this
  exact this

theorem sMadeIn {F i : Nat} {ap : List (List Int)} {x32 : List (Int × Int)} {c : List (List Int) → List (Int × Int) → Int → Option (List (List Int) × List (Int × Int))} (hg : good g = true) (ho : isOrd g.1 l = true) (hF : 300 ≤ F) (hi : i < l.length) (hx : x32.length ≤ 1000) :
    s_l5Made_l1 F l g ap x32 (i : Int) (listN (qD g l i) g.1.toNat) c F (w64 ((i : Int) + 1)) = if i + 1 < l.length then c ap (x32 ++ [((i : Int), (nxD g l i : Int))]) (w64 ((i : Int) + 1)) else c ap x32 (w64 ((i : Int) + 1)) := by
  have h8 := good_size hg
  have hlen := isOrd_len ho
  have hw : w64 ((i : Int) + 1) = ((i + 1 : Nat) : Int) := w64_succ hi (by unfold Sm; omega)
  by_cases hl : i + 1 < l.length
  · rw [if_pos hl]
    have hk : i < nxD g l i ∧ nxD g l i < l.length := by
      cases h : fstN (fun k => qD g l i (l.getD k 0).toNat) l.length with
      | none => rw [(nxD_none hg ho h).2]; omega
      | some k => obtain ⟨h1, h2, _, _, h5⟩ := nxD_some hg ho hi h; rw [h5]; omega
    have hloop := loop_to (L := fun k' t => s_l5Made_l1 F l g ap x32 (i : Int) (listN (qD g l i) g.1.toNat) c k' (((i + 1 : Nat) : Int) + t)) (n := nxD g l i - (i + 1)) (r := c ap (x32 ++ [((i : Int), (nxD g l i : Int))]) (w64 ((i : Int) + 1))) (by
        intro k' t ht
        have hm : i + 1 + t < l.length := by omega
        obtain ⟨y, hy, hyn⟩ := ord_at hg ho hm
        have hq : qD g l i y = false ∧ (((listN (qD g l i) g.1.toNat).length : Int) == 0) = false := by
          cases h : fstN (fun k => qD g l i (l.getD k 0).toNat) l.length with
          | none => have := (nxD_none hg ho h).2; omega
          | some k =>
            obtain ⟨h1, h2, h3, h4, h5⟩ := nxD_some hg ho hi h
            have h6 := h4 (i + 1 + t) (by omega)
            rw [hy, Int.toNat_natCast] at h6
            refine ⟨h6, beq_eq_false_iff_ne.2 fun e => ?_⟩
            obtain ⟨z, hz, hzn⟩ := ord_at hg ho h2
            have := listN_nil.1 (show (listN (qD g l i) g.1.toNat).length = 0 by omega) z hzn
            rw [hz, Int.toNat_natCast, this] at h3; cases h3
        simp only [s_l5Made_l1, s_l5Made_j1]
        rw [show ((i + 1 : Nat) : Int) + (t : Int) = ((i + 1 + t : Nat) : Int) by omega, show ((i + 1 : Nat) : Int) + ((t + 1 : Nat) : Int) = ((i + 1 + t + 1 : Nat) : Int) by omega, decide_eq_true (show ((i + 1 + t : Nat) : Int) < (l.length : Int) by omega), cond_true, idx_getD (d := 0) hm, Option.bind_some, hy, has_listN (by omega) hyn (by omega), Option.bind_some, hq.1, cond_false, hq.2, cond_false, w64_succ hm (by unfold Sm; omega)]) (by
        intro k'
        have hm := hk.2
        obtain ⟨y, hy, hyn⟩ := ord_at hg ho hm
        simp only [s_l5Made_l1, s_l5Made_j1]
        rw [show ((i + 1 : Nat) : Int) + ((nxD g l i - (i + 1) : Nat) : Int) = ((nxD g l i : Nat) : Int) by omega, decide_eq_true (show ((nxD g l i : Nat) : Int) < (l.length : Int) by omega), cond_true, idx_getD (d := 0) hm, Option.bind_some, hy, has_listN (by omega) hyn (by omega), Option.bind_some, cond_true, appL_some (by simp; omega), Option.bind_some]
        cases h : fstN (fun k => qD g l i (l.getD k 0).toNat) l.length with
        | none =>
          have h0 := (nxD_none hg ho h).1
          have e : (((listN (qD g l i) g.1.toNat).length : Int) == 0) = true := by rw [h0]; rfl
          rw [e, cond_true]
          cases qD g l i y <;> rfl
        | some k =>
          obtain ⟨_, _, h3, _, h5⟩ := nxD_some hg ho hi h
          rw [← h5, hy, Int.toNat_natCast] at h3
          rw [h3, cond_true]) F (by omega)
    simp only [Int.add_zero, hw] at hloop
    rw [hw]; exact hloop
  · rw [if_neg hl, hw]
    obtain ⟨f, hf⟩ : ∃ f, F = f + 1 := ⟨F - 1, by omega⟩
    have : ∀ k, s_l5Made_l1 F l g ap x32 (i : Int) (listN (qD g l i) g.1.toNat) c (k + 1) ((i + 1 : Nat) : Int) = c ap x32 ((i + 1 : Nat) : Int) := by
      intro k
      simp only [s_l5Made_l1]
      rw [decide_eq_false (show ¬ ((i + 1 : Nat) : Int) < (l.length : Int) by omega), cond_false, hw]
    have h2 := this f
    rwa [← hf] at h2

end

end Go.Zq
/- Plain mathematics: the decomposition of an elimination, both ways. -/
namespace Go.Zq

section
variable {g : Gr} {l : List Int}

theorem sMade_eq {F : Nat} (hg : good g = true) (ho : isOrd g.1 l = true) (hF : 300 ≤ F) (hG : g.2.length < F) (hs : Sm g.2.length) (h0 : 0 < l.length) : s_l5Made F g l = some (bgsD g l l.length, trsD g l (l.length - 1)) := by
  have h8 := good_size hg
  have hlen := isOrd_len ho
  unfold s_l5Made
  refine loop_inv (L := fun k i (s : List (List Int) × List (Int × Int)) => s_l5Made_l2 F l g k s.1 s.2 i) (n := l.length) (fun i s => s = (bgsD g l i, trsD g l (min i (l.length - 1)))) ?_ ?_ F ([], []) (by omega) (by simp [bgsD, trsD])
  · rintro k i s hi rfl
    refine ⟨_, rfl, ?_⟩
    obtain ⟨x, hx, hxn⟩ := ord_at hg ho hi
    have hq : latP g (goneM l g.1.toNat i) x = qD g l i := by unfold qD; rw [hx, Int.toNat_natCast]
    have hb : bgD g l i = listN (fun j => qD g l i j || j == x) g.1.toNat := by unfold bgD; rw [hx, Int.toNat_natCast]
    simp only [s_l5Made_l2]
    rw [decide_eq_true (show (i : Int) < (l.length : Int) by omega), cond_true, sub_takeO (by omega), Option.bind_some, idx_getD (d := 0) hi, Option.bind_some, hx, later_take hg ho (by omega) hG hs (by omega) hxn, Option.bind_some, hq, Option.bind_some, put_eq (by omega) hxn (by omega), Option.bind_some, ← hb, appL_some (by rw [bgsD_len]; simp; omega), Option.bind_some, sMadeIn hg ho hF hi (by rw [trsD_len]; omega), ← bgsD_succ, w64_succ hi (by unfold Sm; omega)]
    by_cases hl : i + 1 < l.length
    · rw [if_pos hl, show min i (l.length - 1) = i by omega, ← trsD_succ, show min (i + 1) (l.length - 1) = i + 1 by omega]
    · rw [if_neg hl, show min (i + 1) (l.length - 1) = min i (l.length - 1) by omega]
  · rintro k s rfl
    simp only [s_l5Made_l2]
    rw [decide_eq_false (show ¬ (l.length : Int) < (l.length : Int) by omega), cond_false, show min l.length (l.length - 1) = l.length - 1 by omega]

theorem idxD {F i k : Nat} (hg : good g = true) (ho : isOrd g.1 l = true) (hF : 300 ≤ F) (h : fstN (fun k => qD g l i (l.getD k 0).toNat) l.length = some k) :
    slices_IndexFunc_of_i_DecompositionOf_1 F l ⟨(), (⟨((mkm (qD g l i) g.1.toNat : Nat) : Int)⟩, ())⟩ = some (k : Int) := by
  have h8 := good_size hg
  have hlen := isOrd_len ho
  obtain ⟨h1, h2, h3⟩ := fst_some h
  have hone : ∀ j, j < l.length → i_DecompositionOf_1 F (l.getD j 0) ⟨((mkm (qD g l i) g.1.toNat : Nat) : Int)⟩ = some (qD g l i (l.getD j 0).toNat) := by
    intro j hj
    obtain ⟨y, hy, hyn⟩ := ord_at hg ho hj
    unfold i_DecompositionOf_1
    obtain ⟨q, e1, e2, _⟩ := bit_at (m := mkm (qD g l i) g.1.toNat) (j := y) (mkm_lt63 (by omega)) (by omega)
    rw [hy, e1, Option.bind_some, e2, mkm_bit, decide_eq_true hyn, Bool.true_and, Int.toNat_natCast]
  unfold slices_IndexFunc_of_i_DecompositionOf_1
  refine loop_to (L := fun k' t => slices_IndexFunc_of_i_DecompositionOf_1_l1 F l ⟨(), (⟨((mkm (qD g l i) g.1.toNat : Nat) : Int)⟩, ())⟩ k' t) (n := k) ?_ ?_ F (by omega)
  · intro k' t ht
    simp only [slices_IndexFunc_of_i_DecompositionOf_1_l1]
    rw [decide_eq_true (show (t : Int) < (l.length : Int) by omega), cond_true, idx_getD (d := 0) (show t < l.length by omega), Option.bind_some, hone t (by omega), Option.bind_some, h3 t ht, cond_false, w64_succ ht (by unfold Sm; omega)]
  · intro k'
    simp only [slices_IndexFunc_of_i_DecompositionOf_1_l1]
    rw [decide_eq_true (show (k : Int) < (l.length : Int) by omega), cond_true, idx_getD (d := 0) h1, Option.bind_some, hone k h1, Option.bind_some, h2, cond_true]

theorem nbL_get {n i : Nat} (h : i < n) : (nbL g l n).getD i 0 = ((mkm (qD g l i) g.1.toNat : Nat) : Int) := by
  unfold nbL qD
  rw [List.getD_eq_getElem?_getD, List.getElem?_map, List.getElem?_range h]; rfl

theorem iMade_eq {F : Nat} (hg : good g = true) (ho : isOrd g.1 l = true) (hF : 300 ≤ F) (h0 : 0 < l.length) :
    ∃ o t, i_DecompositionOf_o_l1 F l g (nbL g l l.length) F .nil .nil 0 = some ((o, t), true) ∧ o.list.map NL.list = bgsD g l l.length ∧ t.list = trsD g l (l.length - 1) := by
  have h8 := good_size hg
  have hlen := isOrd_len ho
  have hbag : ∀ i, i < l.length → ∃ o, i_setOf_o F (ior .i64 ((mkm (qD g l i) g.1.toNat : Nat) : Int) ((2 ^ (l.getD i 0).toNat : Nat) : Int)) = some o ∧ o.list = bgD g l i := by
    intro i hi
    obtain ⟨x, hx, hxn⟩ := ord_at hg ho hi
    rw [hx, Int.toNat_natCast, ior_nat (mkm_lt63 (by omega)) (pow_lt (by omega))]
    have e : mkm (qD g l i) g.1.toNat ||| 2 ^ x = mkm (fun j => qD g l i j || j == x) g.1.toNat := by
      refine mkm_of fun j => ?_
      rw [Nat.testBit_or, mkm_bit, Nat.testBit_two_pow]
      by_cases e : j = x
      · subst e; simp [hxn]
      · have h1 : (j == x) = false := by simpa using e
        have h2 : decide (x = j) = false := by simp; omega
        rw [h1, h2, Bool.or_false, Bool.or_false]
    obtain ⟨o, h1, h2⟩ := setOf_o_eq (F := F) (n := g.1.toNat) (p := fun j => qD g l i j || j == x) (by omega) (by omega)
    exact ⟨o, by rw [e]; exact h1, by rw [h2]; unfold bgD; rw [hx, Int.toNat_natCast]⟩
  have hw1 : w64 (g.1 - 1) = ((l.length - 1 : Nat) : Int) := by rw [w64_id (by omega) (by omega)]; omega
  obtain ⟨oL, hL1, hL2⟩ := hbag (l.length - 1) (by omega)
  obtain ⟨⟨o, t⟩, ⟨e1, e2⟩, e3⟩ := loop_ex (L := fun k i (s : NL (NL Int) × NL (Int × Int)) => i_DecompositionOf_o_l1 F l g (nbL g l l.length) k s.1 s.2 i) (n := l.length - 1) (fin := fun s => some ((.of (s.1.list ++ [oL]), s.2), true))
    (fun i s => s.1.list.map NL.list = bgsD g l i ∧ s.2.list = trsD g l i) (by
      rintro k i ⟨o, t⟩ hi ⟨p1, p2⟩
      simp only at p1 p2
      obtain ⟨x, hx, hxn⟩ := ord_at hg ho (show i < l.length by omega)
      obtain ⟨r, hr1, hr2⟩ := hbag i (by omega)
      have hol : o.list.length = i := by have := congrArg List.length p1; rw [List.length_map, bgsD_len] at this; exact this
      have htl : t.list.length = i := by rw [p2, trsD_len]
      have hfin : ∀ k, i_DecompositionOf_o_j1 F l g (o.list ++ [r]) t (i : Int) (nbL g l l.length) (i_DecompositionOf_o_l1 F l g (nbL g l l.length) k) ((nxD g l i : Nat) : Int) = i_DecompositionOf_o_l1 F l g (nbL g l l.length) k (.of (o.list ++ [r])) (.of (t.list ++ [((i : Int), (nxD g l i : Int))])) ((i + 1 : Nat) : Int) := by
        intro k
        simp only [i_DecompositionOf_o_j1]
        rw [appL_some (by simp; omega), Option.bind_some, w64_succ (n := l.length) (by omega) (by unfold Sm; omega)]
      refine ⟨(.of (o.list ++ [r]), .of (t.list ++ [((i : Int), (nxD g l i : Int))])), ⟨?_, ?_⟩, ?_⟩
      · show (o.list ++ [r]).map NL.list = _
        rw [List.map_append, p1, bgsD_succ, ← hr2]; rfl
      · show t.list ++ [((i : Int), (nxD g l i : Int))] = _
        rw [p2, trsD_succ]
      · simp only [i_DecompositionOf_o_l1]
        have hne : ((i : Int) == ((l.length - 1 : Nat) : Int)) = false := beq_eq_false_iff_ne.2 (by omega)
        rw [hx, Int.toNat_natCast] at hr1
        rw [decide_eq_true (show (i : Int) < ((nbL g l l.length).length : Int) by rw [nbL_len]; omega), cond_true, idx_getD (d := 0) (by rw [nbL_len]; omega), Option.bind_some, nbL_get (by omega), idx_getD (d := 0) (show i < l.length by omega), Option.bind_some, hx, one_shl (by omega), Option.bind_some, hr1, Option.bind_some, appL_some (by simp; omega), Option.bind_some, hw1, hne, cond_false]
        cases h : fstN (fun k => qD g l i (l.getD k 0).toNat) l.length with
        | none =>
          obtain ⟨h1, h2⟩ := nxD_none hg ho h
          have hz : mkm (qD g l i) g.1.toNat = 0 := by
            apply Nat.eq_of_testBit_eq
            intro j
            rw [mkm_bit, Nat.zero_testBit]
            by_cases hj : j < g.1.toNat
            · rw [listN_nil.1 h1 j hj, Bool.and_false]
            · rw [decide_eq_false hj, Bool.false_and]
          have e : (((mkm (qD g l i) g.1.toNat : Nat) : Int) != 0) = false := by rw [hz]; rfl
          rw [e, cond_false]
          have := hfin k
          rw [h2] at this ⊢
          rw [w64_succ (n := l.length) (by omega) (by unfold Sm; omega)]
          exact this
        | some m =>
          obtain ⟨h1, h2, h3, h4, h5⟩ := nxD_some hg ho (by omega) h
          obtain ⟨z, hz, hzn⟩ := ord_at hg ho h2
          have e : (((mkm (qD g l i) g.1.toNat : Nat) : Int) != 0) = true := by
            rw [bne_iff_ne]
            intro e
            have e' : mkm (qD g l i) g.1.toNat = 0 := by omega
            have : (mkm (qD g l i) g.1.toNat).testBit z = true := by
              rw [mkm_bit, decide_eq_true hzn, Bool.true_and]
              rw [hz, Int.toNat_natCast] at h3; exact h3
            rw [e', Nat.zero_testBit] at this; cases this
          rw [e, cond_true, idxD hg ho hF h, Option.bind_some]
          have := hfin k
          rw [h5] at this ⊢
          exact this) (by
      rintro k ⟨o, t⟩ ⟨p1, p2⟩
      simp only at p1 p2
      obtain ⟨x, hx, hxn⟩ := ord_at hg ho (show l.length - 1 < l.length by omega)
      have hol : o.list.length = l.length - 1 := by have := congrArg List.length p1; rw [List.length_map, bgsD_len] at this; exact this
      simp only [i_DecompositionOf_o_l1]
      rw [hx, Int.toNat_natCast] at hL1
      rw [decide_eq_true (show ((l.length - 1 : Nat) : Int) < ((nbL g l l.length).length : Int) by rw [nbL_len]; omega), cond_true, idx_getD (d := 0) (by rw [nbL_len]; omega), Option.bind_some, nbL_get (by omega), idx_getD (d := 0) (show l.length - 1 < l.length by omega), Option.bind_some, hx, one_shl (by omega), Option.bind_some, hL1, Option.bind_some, appL_some (by simp; omega), Option.bind_some, hw1, beq_self_eq_true, cond_true]) F (.nil, .nil) (by omega) ⟨by simp [NL.list, bgsD], by simp [NL.list, trsD]⟩
  refine ⟨_, _, e3, ?_, e2⟩
  show (o.list ++ [oL]).map NL.list = _
  simp only at e1
  rw [List.map_append, e1, show l.length = l.length - 1 + 1 by omega, bgsD_succ]
  simp only [Nat.add_sub_cancel, List.map_cons, List.map_nil, hL2]

theorem exDecompositionOf {F : Nat} (hF : l.length < F) (hG : g.2.length < F) (h9 : 300 ≤ F) (hl : Sm l.length) (hs : Sm g.2.length) :
    ∃ B T c o t, s_DecompositionOf F g l = some ((B, T), c) ∧ i_DecompositionOf_o F g l = some ((o, t), c) ∧ o.list.map NL.list = B ∧ t.list = T ∧ B.length ≤ 8 ∧ T.length ≤ 8 ∧ ∀ x ∈ B, x.length ≤ 8 := by
  unfold s_DecompositionOf s_l5Order i_DecompositionOf_o
  rw [l2Good_eq hG hs, isGraph_eq hG (by omega) hs, Option.bind_some, Option.bind_some]
  cases hg : good g with
  | false => exact ⟨[], [], false, .nil, .nil, rfl, rfl, rfl, rfl, by simp, by simp, by simp⟩
  | true =>
    have h8 := good_size hg
    rw [cond_true, Bool.not_true, cond_false, l2Each_eq h8.1 h8.2 hF (by omega) hl, isOrder_eq h8.1 h8.2 hF hl, Option.bind_some, Option.bind_some, Option.bind_some]
    cases ho : isOrd g.1 l with
    | false => exact ⟨[], [], false, .nil, .nil, rfl, rfl, rfl, rfl, by simp, by simp, by simp⟩
    | true =>
      have hlen := isOrd_len ho
      rw [Bool.not_true, cond_false, cond_false]
      by_cases h0 : g.1 = 0
      · have e : (g.1 == 0) = true := by simpa using h0
        rw [e]
        exact ⟨[], [], false, .nil, .nil, rfl, rfl, rfl, rfl, by simp, by simp, by simp⟩
      · have e : (g.1 == 0) = false := by simpa using h0
        rw [e]
        obtain ⟨o, t, h1, h2, h3⟩ := iMade_eq hg ho h9 (by omega)
        refine ⟨_, _, true, o, t, ?_, ?_, h2, h3, by rw [bgsD_len]; omega, by rw [trsD_len]; omega, ?_⟩
        · simp only [s_DecompositionOf_j1]
          rw [cond_false, sMade_eq hg ho h9 hG hs (by omega), Option.bind_some]
        · simp only [i_DecompositionOf_o_j2]
          rw [cond_false, netOf_eq hg hG hs, Option.bind_some, behind_eq hg ho (by omega), Option.bind_some, h1]
        · intro y hy
          unfold bgsD at hy
          obtain ⟨i, _, rfl⟩ := List.mem_map.1 hy
          unfold bgD
          have := listN_le (p := fun j => qD g l i j || j == (l.getD i 0).toNat) (n := g.1.toNat)
          omega

end

end Go.Zq
/- Plain mathematics: marks of a graph that is one's own. -/
namespace Go.Zq

theorem heldGraph_eq {F : Nat} {a : Int} {ys : List (Int × Int)} {k : Int} (hF : ys.length < F) (h3 : 3 ≤ F) (hl : ys.length ≤ 1099511627776) (h0 : 0 ≤ k) (hk : k ≤ 4611686018427387904) (hy : ∀ i, i < ys.length → ys[i]? = some (k + 2 * (i : Int), k + 2 * (i : Int) + 1)) :
    w_heldGraph F (a, ys) k = some (k + 2 * ys.length) := by
  have h : w_heldIntA2S F ys k = some (k + 2 * ys.length) := by
    unfold w_heldIntA2S
    refine loop_inv (L := fun j i s => w_heldIntA2S_l2 F ys j s i) (n := ys.length) (fun i s => s = k + 2 * (i : Int)) ?_ ?_ F k hF (by omega)
    · rintro j i s hi rfl
      refine ⟨_, rfl, ?_⟩
      obtain ⟨f, rfl⟩ : ∃ f, F = f + 3 := ⟨F - 3, by omega⟩
      have e := hy i hi
      rw [List.getElem?_eq_getElem hi, Option.some.injEq] at e
      simp only [w_heldIntA2S_l2]
      rw [decide_eq_true (show (i : Int) < (ys.length : Int) by omega), cond_true]
      rw [w_heldIntA2S_l1, show (decide ((0 : Int) < 2)) = true from rfl, cond_true, idx_nat hi, Option.bind_some, e]
      rw [show idx [k + 2 * (i : Int), k + 2 * (i : Int) + 1] 0 = some (k + 2 * (i : Int)) from rfl, Option.bind_some, bne_self_eq_false, cond_false]
      rw [show w64 (0 + 1) = 1 from by decide, w64_id (x := k + 2 * (i : Int) + 1) (by omega) (by omega)]
      rw [w_heldIntA2S_l1, show (decide ((1 : Int) < 2)) = true from rfl, cond_true, idx_nat hi, Option.bind_some, e]
      rw [show idx [k + 2 * (i : Int), k + 2 * (i : Int) + 1] 1 = some (k + 2 * (i : Int) + 1) from rfl, Option.bind_some, bne_self_eq_false, cond_false]
      rw [show w64 (1 + 1) = 2 from by decide, w64_id (x := k + 2 * (i : Int) + 1 + 1) (by omega) (by omega)]
      rw [w_heldIntA2S_l1, show (decide ((2 : Int) < 2)) = false from rfl, cond_false, w64_succ hi (by unfold Sm; omega)]
      congr 1; omega
    · rintro j s rfl
      simp only [w_heldIntA2S_l2]
      rw [decide_eq_false (show ¬ (ys.length : Int) < (ys.length : Int) by omega), cond_false]
  unfold w_heldGraph
  rw [h, Option.bind_some, decide_eq_false (show ¬ (k + 2 * (ys.length : Int)) < 0 by omega), cond_false]

theorem markGraphN {F : Nat} {a : Int} {o : NL (Int × Int)} {k : Int} (hF : o.list.length < F) (h3 : 3 ≤ F) (hl : o.list.length ≤ 1099511627776) (h0 : 0 ≤ k) (hk : k ≤ 4611686018427387904) :
    ∃ o', w_markGraph F ⟨a, o⟩ k = some (k + 2 * o.list.length, ⟨a, o'⟩) ∧ remarkG a o ⟨a, o'⟩ = some o' ∧ w_heldGraph F (a, o'.list) k = some (k + 2 * o.list.length) := by
  cases o with
  | of xs =>
    obtain ⟨ys, h1, h2, h4⟩ := markGraph_eq (F := F) (a := a) (xs := xs) (k := k) hF h3 hl h0 hk
    refine ⟨.of ys, h1, ?_, ?_⟩
    · unfold remarkG remark
      simp [h2]
    · have hl2 : (NL.of xs).list.length = ys.length := h2.symm
      rw [hl2]
      refine heldGraph_eq (ys := ys) (by rw [h2]; exact hF) h3 (by rw [h2]; exact hl) h0 hk fun i hi => h4 i (by omega)
  | nil =>
    obtain ⟨f, rfl⟩ : ∃ f, F = f + 3 := ⟨F - 3, by omega⟩
    refine ⟨.nil, ?_, ?_, ?_⟩
    · unfold w_markGraph w_markIntA2S
      rw [w_markIntA2S_l2]
      simp [NL.list, remark]
    · simp [remarkG, remark]
    · have := heldGraph_eq (F := f + 3) (a := a) (ys := []) (k := k) (by simp) h3 (by simp) h0 hk (by simp)
      exact this

end Go.Zq
/- The law DecompositionOf, as a plain statement. -/
namespace Go.Zq

theorem markTree {F : Nat} {o : NL (Int × Int)} {k : Int} (hF : o.list.length < F) (h3 : 3 ≤ F) (hl : o.list.length ≤ 1099511627776) (h0 : 0 ≤ k) (hk : k ≤ 4611686018427387904) :
    ∃ o', w_markIntA2S F ⟨o⟩ k = some (k + 2 * o.list.length, o') ∧ remark o o' = some o' ∧ w_heldIntA2S F o'.list k = some (k + 2 * o.list.length) ∧ (o = .nil → o' = .nil) := by
  obtain ⟨o', h1, h2, h4⟩ := markGraphN (F := F) (a := 0) (o := o) (k := k) hF h3 hl h0 hk
  unfold w_markGraph at h1
  cases h5 : w_markIntA2S F ⟨o⟩ k with
  | none => rw [h5] at h1; cases h1
  | some r =>
    obtain ⟨r1, r2⟩ := r
    rw [h5, Option.bind_some] at h1
    simp only at h1
    cases h6 : remark o r2 with
    | none => rw [h6] at h1; cases h1
    | some m =>
      rw [h6, Option.bind_some] at h1
      simp only [Option.some.injEq, Prod.mk.injEq, Og.mk.injEq, true_and] at h1
      obtain ⟨rfl, rfl⟩ := h1
      have h7 : w_heldIntA2S F m.list k = some (k + 2 * o.list.length) := by
        unfold w_heldGraph at h4
        cases h8 : w_heldIntA2S F m.list k with
        | none => simp only [h8] at h4; cases h4
        | some z =>
          simp only [h8, Option.bind_some] at h4
          by_cases hz : z < 0
          · rw [decide_eq_true hz, cond_true] at h4
            simp only [Option.some.injEq] at h4
            omega
          · rw [decide_eq_false hz, cond_false] at h4; exact h4
      cases o with
      | nil =>
        simp only [remark, Option.some.injEq] at h6
        subst h6
        have h9 : w_markIntA2S F ⟨.nil⟩ k = some (k, .nil) := by
          obtain ⟨f, rfl⟩ : ∃ f, F = f + 1 := ⟨F - 1, by omega⟩
          unfold w_markIntA2S
          rw [w_markIntA2S_l2]
          simp [NL.list]
        rw [h9] at h5
        simp only [Option.some.injEq, Prod.mk.injEq] at h5
        refine ⟨.nil, ?_, rfl, h7, fun _ => rfl⟩
        rw [h5.1, ← h5.2]
      | of xs =>
        cases r2 with
        | nil => simp [remark] at h6
        | of ys =>
          simp only [remark] at h6
          split at h6
          · rename_i e
            simp only [Option.some.injEq] at h6
            subst h6
            exact ⟨.of ys, rfl, by simp [remark, e], h7, fun h => by cases h⟩
          · cases h6

theorem remarkD_of {o o1 : NL (NL Int)} {t t1 : NL (Int × Int)} (h1 : remark2 o o1 = some o1) (h2 : remark t t1 = some t1) : remarkD o t ⟨o1, t1⟩ = some ⟨o1, t1⟩ := by
  have h3 : (o = .nil ∧ o1 = .nil) ∨ ∃ os us, o = .of os ∧ o1 = .of us ∧ us.map NL.isNil = os.map NL.isNil := by
    cases o with
    | nil => simp only [remark2, Option.some.injEq] at h1; exact .inl ⟨rfl, h1.symm⟩
    | of os =>
      cases o1 with
      | nil => simp [remark2] at h1
      | of us =>
        simp only [remark2] at h1
        split at h1
        · rename_i e; exact .inr ⟨os, us, rfl, rfl, e⟩
        · cases h1
  have h4 : (t = .nil ∧ t1 = .nil) ∨ ∃ xs ys, t = .of xs ∧ t1 = .of ys ∧ ys.length = xs.length := by
    cases t with
    | nil => simp only [remark, Option.some.injEq] at h2; exact .inl ⟨rfl, h2.symm⟩
    | of xs =>
      cases t1 with
      | nil => simp [remark] at h2
      | of ys =>
        simp only [remark] at h2
        split at h2
        · rename_i e; exact .inr ⟨xs, ys, rfl, rfl, e⟩
        · cases h2
  rcases h3 with ⟨rfl, rfl⟩ | ⟨os, us, rfl, rfl, e⟩ <;> rcases h4 with ⟨rfl, rfl⟩ | ⟨xs, ys, rfl, rfl, e2⟩ <;> simp [remarkD, *]

theorem lawDecompositionOf {F : Nat} {g : Gr} {l : List Int} (hF : 2097152 ≤ F) (hg : g.2.length ≤ 9223372036854775807) : w_FnExactDecompositionOf F g l = some true := by
  unfold w_FnExactDecompositionOf
  by_cases h : (l.length : Int) > 1048576
  · simp [h]
  simp only [h, decide_false, cond_false]
  rw [szGraph_eq (by omega) (by omega) hg, Option.bind_some]
  by_cases h2 : (1048576 : Int) - g.2.length < 0
  · simp [h2]
  simp only [h2, if_false, decide_false, cond_false]
  obtain ⟨B, T, c, o, t, hs, hi, ho, ht, hl, hl3, hl2⟩ := exDecompositionOf (F := F) (g := g) (l := l) (by omega) (by omega) (by omega) (by unfold Sm; omega) (by unfold Sm; omega)
  have e1 : w_toGraph F g = some g := toGraph_eq (by omega) (by omega) (by omega)
  have e2 : w_toGraph_o F g = some (g.1, .of g.2) := toGraph_o_eq (by omega) (by omega) (by omega)
  have e3 : w_toIntS F l = some l := toIntS_eq (by omega) (by omega)
  have e4 : w_toIntS_o F l = some (.of l) := toIntS_o_eq (by omega) (by omega)
  have e5 : w_eqDecomposition F (List.map NL.list o.list, t.list) (B, T) = some true := by
    rw [ho, ht]
    unfold w_eqDecomposition
    rw [eqIntSS_eq (by show B.length < F; omega) (by unfold Sm; show B.length ≤ _; omega) fun x hx => by have := hl2 x hx; exact ⟨by omega, (by unfold Sm; omega)⟩, Option.bind_some, Bool.not_true, cond_false, eqIntA2S_eq (by show T.length < F; omega) (by unfold Sm; show T.length ≤ _; omega) (by omega)]
    rfl
  have e6 : w_eqGraph F (g.1, (NL.of g.2).list) g = some true := eqGraph_eq (g := g) (by omega) (by unfold Sm; omega) (by omega)
  have e7 : w_eqIntS F (NL.of l).list l = some true := eqIntS_eq (xs := l) (by omega) (by unfold Sm; omega)
  obtain ⟨yg, e8, _, _⟩ := markGraph_eq (F := F) (a := g.1) (xs := g.2) (k := 1) (by omega) (by omega) (by omega) (by omega) (by omega)
  obtain ⟨o1, m1, _, _⟩ := markIntS_eq (F := F) (o := .of l) (k := 1 + 2 * (g.2.length : Int)) (by simp only [NL.list]; omega) (by simp only [NL.list]; omega) (by omega) (by omega)
  have e9 : decide ((1 + 2 * (g.2.length : Int) + ((NL.of l).list.length : Int)) < 0) = false := decide_eq_false (by omega)
  obtain ⟨ns, hns⟩ : ∃ ns, o.list.map (fun o => o.list.length) = ns := ⟨_, rfl⟩
  have hns2 : ns = B.map List.length := by rw [← hns, ← ho, List.map_map]; rfl
  have hnl : ns.length ≤ 8 := by rw [hns2, List.length_map]; omega
  have hsum : sumL0 ns ≤ 64 := by have h9 := sumL0_mul (n := 8) ns (by intro x hx; rw [hns2] at hx; obtain ⟨y, hy, rfl⟩ := List.mem_map.1 hx; have := hl2 y hy; omega); have h10 : ns.length * 8 ≤ 8 * 8 := Nat.mul_le_mul_right _ hnl; omega
  obtain ⟨o2, m2, m3, m4⟩ := markIntSS_eq (F := F) (o := o) (k := 1) hns (by omega) (by omega) (by unfold Sm; omega) (by omega) (by omega) (by omega)
  obtain ⟨t2, n2, n3, n4, _⟩ := markTree (F := F) (o := t) (k := 1 + ((sumL0 ns : Nat) : Int)) (by rw [ht]; omega) (by omega) (by rw [ht]; omega) (by omega) (by omega)
  have mD : w_markDecomposition F ⟨o, t⟩ 1 = some (1 + ((sumL0 ns : Nat) : Int) + 2 * t.list.length, ⟨o2, t2⟩) := by
    unfold w_markDecomposition
    simp only [m2, m3, n2, n3, Option.bind_some]
  have rD := remarkD_of m3 n3
  have e10 : w_heldDecomposition F (List.map NL.list o2.list, t2.list) 1 = some (1 + ((sumL0 ns : Nat) : Int) + 2 * t.list.length) := by
    unfold w_heldDecomposition
    have h1 : w_heldIntSS F (List.map NL.list o2.list) 1 = (some (1 + ((sumL0 ns : Nat) : Int)) : Option Int) := by rw [m4]; exact heldIntSS_eq (by omega) (by omega) (by unfold Sm; omega) (by omega) (by omega) (by omega)
    simp only [h1, n4, Option.bind_some]
    rw [decide_eq_false (show ¬ (1 + ((sumL0 ns : Nat) : Int)) < 0 by omega), cond_false, decide_eq_false (show ¬ (1 + ((sumL0 ns : Nat) : Int) + 2 * (t.list.length : Int)) < 0 by omega), cond_false]
  have e11 : decide ((1 + ((sumL0 ns : Nat) : Int) + 2 * (t.list.length : Int)) < 0) = false := decide_eq_false (by omega)
  have hi1 : i_DecompositionOf_o F (g.1, (NL.of g.2).list) (NL.of l).list = some ((o, t), c) := hi
  simp only [w_FnExactDecompositionOf_j1, w_FnExactDecompositionOf_j2, w_FnExactDecompositionOf_j3, e1, e2, e3, e4, e5, e6, e7, e8, m1, e9, e10, e11, hs, hi, hi1, mD, rD, Option.bind_some, Bool.not_true, cond_false, bne_self_eq_false]

end Go.Zq
