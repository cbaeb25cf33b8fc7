/- Plain mathematics: what the functions answer (part 3). Conditions: stated in each theorem. -/
import Derived.Test.YthblbfcloccopaaM2
import Derived.Test.YthblbfcloccopaaM1
set_option linter.unusedVariables false
set_option linter.unusedSimpArgs false
/- Plain mathematics: cliques; perfect eliminations. -/
namespace Go.Zq

theorem and_mkm {A B : Nat → Bool} {n : Nat} (hn : n ≤ 8) : iand .i64 ((mkm A n : Nat) : Int) ((mkm B n : Nat) : Int) = ((mkm (fun j => A j && B j) n : Nat) : Int) := by
  rw [iand_nat (mkm_lt63 (by omega)) (mkm_lt63 (by omega))]
  congr 1
  apply Nat.eq_of_testBit_eq
  intro j
  rw [Nat.testBit_and, mkm_bit, mkm_bit, mkm_bit]
  cases decide (j < n) <;> simp

theorem andNot_mkm {A B : Nat → Bool} {n : Nat} (hn : n ≤ 8) : iandNot .i64 ((mkm A n : Nat) : Int) ((mkm B n : Nat) : Int) = ((mkm (fun j => A j && !B j) n : Nat) : Int) := by
  obtain ⟨c, hc, _, hb⟩ := iandNot_nat (mkm_lt63 (p := A) (n := n) (by omega)) (mkm_lt63 (p := B) (n := n) (by omega))
  rw [hc]
  congr 1
  apply Nat.eq_of_testBit_eq
  intro j
  rw [hb, mkm_bit, mkm_bit, mkm_bit]
  cases decide (j < n) <;> simp

end Go.Zq
/- Plain mathematics: decompositions. -/
namespace Go.Zq

/-- the program's table of the bags that have a node -/
def HavIs (n m : Nat) (P : Nat → Nat → Bool) (hv : List Int) : Prop := hv.length = n ∧ ∀ x, x < n → hv.getD x 0 = ((mkm (P x) m : Nat) : Int)

end Go.Zq
/- Plain mathematics: the filling of an elimination, and its width. -/
namespace Go.Zq

theorem ord_fresh {n : Int} {l : List Int} (ho : isOrd n l = true) (h0 : 0 ≤ n) {i x : Nat} (hi : i < l.length) (hx : l.getD i 0 = (x : Int)) : preP l i x = false := by
  have hl := isOrd_len ho
  unfold preP
  refine decide_eq_false fun hm => ?_
  have hc := (cover_len n.toNat (l.take i ++ l.drop (i + 1)) (fun j hj => by
    have := isOrd_mem ho (x := (j : Int)) (by omega) (by omega)
    rw [← List.take_append_drop i l, List.mem_append] at this
    rcases this with h | h
    · exact List.mem_append_left _ h
    · rw [List.drop_eq_getElem_cons hi, List.mem_cons] at h
      rcases h with h | h
      · rw [List.getD_eq_getElem?_getD, List.getElem?_eq_getElem hi, Option.getD_some] at hx
        rw [h, hx]
        exact List.mem_append_left _ hm
      · exact List.mem_append_right _ h)).1
  rw [List.length_append, List.length_take, List.length_drop] at hc
  omega

/-- joined by an edge, or by a path through a set -/
def viaP (g : Gr) (m a b : Nat) : Bool := anyN (fun y => comp g (wth m a) a y && adj g y b) g.1.toNat

theorem latP_via {g : Gr} {m a b : Nat} (hb : m.testBit b = false) (hab : b ≠ a) : latP g m a b = viaP g m a b := by
  unfold latP viaP
  have : (b == a) = false := by simpa using hab
  rw [hb, this]; rfl

theorem via_iff {g : Gr} {m a b : Nat} (hg : good g = true) (ha : a < g.1.toNat) : viaP g m a b = true ↔ ∃ y, comp g (wth m a) a y = true ∧ adj g y b = true := by
  unfold viaP
  rw [anyN_iff]
  constructor
  · rintro ⟨y, _, h⟩
    rw [Bool.and_eq_true] at h
    exact ⟨y, h⟩
  · rintro ⟨y, h1, h2⟩
    exact ⟨y, comp_lt hg ha h1, by rw [h1, h2]; rfl⟩

theorem wth_self {m x : Nat} : wth m x x = true := by simp [wth]
theorem wth_of {m x j : Nat} (h : m.testBit j = true) : wth m x j = true := by simp [wth, h]
theorem wth_cases {m x j : Nat} (h : wth m x j = true) : m.testBit j = true ∨ j = x := by simpa [wth] using h

theorem via_symm {g : Gr} {m a b : Nat} (hg : good g = true) (ha : a < g.1.toNat) (hb : b < g.1.toNat) (hM : m < 2 ^ g.1.toNat) (h : viaP g m a b = true) : viaP g m b a = true := by
  obtain ⟨y, h1, h2⟩ := (via_iff hg ha).1 h
  have key := comp_min (g := g) (p := wth m a) (x := a) (j := y)
    (C := fun j => j == a || (m.testBit j && anyN (fun z => comp g m.testBit j z && adj g z a) g.1.toNat)) (by simp) (by
    intro u j hu hj huj
    simp only [Bool.or_eq_true, beq_iff_eq, Bool.and_eq_true] at hu ⊢
    rcases wth_cases hj with hmj | rfl
    · right
      refine ⟨hmj, ?_⟩
      have hjn : j < g.1.toNat := by
        by_cases h : j < g.1.toNat
        · exact h
        · have := Nat.testBit_lt_two_pow (Nat.lt_of_lt_of_le hM (Nat.pow_le_pow_right (by decide) (show g.1.toNat ≤ j by omega)))
          rw [this] at hmj; cases hmj
      rw [anyN_iff]
      rcases hu with rfl | ⟨hmu, hz⟩
      · refine ⟨j, hjn, ?_⟩
        rw [comp_self, adj_comm, huj]; rfl
      · rw [anyN_iff] at hz
        obtain ⟨z, hzn, hz⟩ := hz
        rw [Bool.and_eq_true] at hz
        refine ⟨z, hzn, ?_⟩
        have h1 : comp g m.testBit j u = true := comp_closed hg hjn hmj comp_self hmu (by rw [adj_comm]; exact huj)
        rw [comp_trans hg hjn hmj h1 hz.1, hz.2]; rfl
    · left; rfl) h1
  simp only [Bool.or_eq_true, beq_iff_eq, Bool.and_eq_true] at key
  rw [via_iff hg hb]
  rcases key with rfl | ⟨hmy, hz⟩
  · exact ⟨b, comp_self, by rw [adj_comm]; exact h2⟩
  · rw [anyN_iff] at hz
    obtain ⟨z, _, hz⟩ := hz
    rw [Bool.and_eq_true] at hz
    refine ⟨z, ?_, hz.2⟩
    have h0 : comp g (wth m b) b y = true := comp_closed hg hb wth_self comp_self (wth_of hmy) (by rw [adj_comm]; exact h2)
    exact comp_min (C := comp g (wth m b) b) h0 (fun u j hu hj huj => comp_closed hg hb wth_self hu (wth_of hj) huj) hz.1

theorem via_step {g : Gr} {m x a b : Nat} (hg : good g = true) (hx : x < g.1.toNat) (ha : a < g.1.toNat) (hb : b < g.1.toNat) (hM : m < 2 ^ g.1.toNat) :
    viaP g (m ||| 2 ^ x) a b = (viaP g m a b || (viaP g m x a && viaP g m x b)) := by
  have hw : ∀ j, (m ||| 2 ^ x).testBit j = true ↔ m.testBit j = true ∨ j = x := by
    intro j
    rw [Nat.testBit_or, Nat.testBit_two_pow, Bool.or_eq_true, decide_eq_true_eq]
    exact ⟨fun h => h.imp id Eq.symm, fun h => h.imp id Eq.symm⟩
  rw [Bool.eq_iff_iff, Bool.or_eq_true, Bool.and_eq_true]
  constructor
  · intro h
    obtain ⟨y, h1, h2⟩ := (via_iff hg ha).1 h
    have key := comp_min (g := g) (p := wth (m ||| 2 ^ x) a) (x := a) (j := y) (C := fun j => comp g (wth m a) a j || (viaP g m x a && comp g (wth m x) x j)) (by rw [comp_self]; rfl) (by
      intro u j hu hj huj
      simp only [Bool.or_eq_true, Bool.and_eq_true] at hu ⊢
      rcases hu with hu | ⟨hv, hu⟩
      · rcases wth_cases hj with hj | rfl
        · rcases (hw j).1 hj with hj | rfl
          · left; exact comp_closed hg ha wth_self hu (wth_of hj) huj
          · right
            exact ⟨via_symm hg ha hx hM ((via_iff hg ha).2 ⟨u, hu, huj⟩), comp_self⟩
        · left; exact comp_self
      · rcases wth_cases hj with hj | rfl
        · right
          refine ⟨hv, ?_⟩
          rcases (hw j).1 hj with hj | rfl
          · exact comp_closed hg hx wth_self hu (wth_of hj) huj
          · exact comp_self
        · left; exact comp_self) h1
    simp only [Bool.or_eq_true, Bool.and_eq_true] at key
    rcases key with h | ⟨h3, h4⟩
    · left; exact (via_iff hg ha).2 ⟨y, h, h2⟩
    · right; exact ⟨h3, (via_iff hg hx).2 ⟨y, h4, h2⟩⟩
  · have hup : ∀ y, comp g (wth m a) a y = true → comp g (wth (m ||| 2 ^ x) a) a y = true := fun y h =>
      comp_min (C := comp g (wth (m ||| 2 ^ x) a) a) comp_self (fun u j hu hj huj => comp_closed hg ha wth_self hu (by
        rcases wth_cases hj with hj | rfl
        · exact wth_of ((hw j).2 (.inl hj))
        · exact wth_self) huj) h
    rintro (h | ⟨h1, h2⟩)
    · obtain ⟨y, h1, h2⟩ := (via_iff hg ha).1 h
      exact (via_iff hg ha).2 ⟨y, hup y h1, h2⟩
    · obtain ⟨y, y1, y2⟩ := (via_iff hg ha).1 (via_symm hg hx ha hM h1)
      obtain ⟨z, z1, z2⟩ := (via_iff hg hx).1 h2
      have hax : comp g (wth (m ||| 2 ^ x) a) a x = true := comp_closed hg ha wth_self (hup y y1) (wth_of ((hw x).2 (.inr rfl))) y2
      exact (via_iff hg ha).2 ⟨z, comp_min (C := comp g (wth (m ||| 2 ^ x) a) a) hax (fun u j hu hj huj => comp_closed hg ha wth_self hu (wth_of ((hw j).2 (wth_cases hj))) huj) z1, z2⟩

theorem lat_step {g : Gr} {m x a b : Nat} (hg : good g = true) (hx : x < g.1.toNat) (ha : a < g.1.toNat) (hb : b < g.1.toNat) (hM : m < 2 ^ g.1.toNat) (h1 : (m ||| 2 ^ x).testBit a = false) (h2 : (m ||| 2 ^ x).testBit b = false) :
    latP g (m ||| 2 ^ x) a b = (latP g m a b || (latP g m x a && latP g m x b && !(b == a))) := by
  have h1' : m.testBit a = false ∧ a ≠ x := by
    rw [Nat.testBit_or, Nat.testBit_two_pow, Bool.or_eq_false_iff, decide_eq_false_iff_not] at h1
    exact ⟨h1.1, fun e => h1.2 e.symm⟩
  have h2' : m.testBit b = false ∧ b ≠ x := by
    rw [Nat.testBit_or, Nat.testBit_two_pow, Bool.or_eq_false_iff, decide_eq_false_iff_not] at h2
    exact ⟨h2.1, fun e => h2.2 e.symm⟩
  by_cases hab : b = a
  · subst hab
    simp [latP]
  · have : (b == a) = false := by simpa using hab
    rw [latP_via h2 hab, latP_via h2'.1 hab, latP_via h1'.1 h1'.2, latP_via h2'.1 h2'.2, via_step hg hx ha hb hM, this]
    simp

/-- the nodes that are gone after some steps -/
def goneM (l : List Int) (n i : Nat) : Nat := mkm (preP l i) n
theorem goneM_bit {l : List Int} {n i j : Nat} (hj : j < n) : (goneM l n i).testBit j = preP l i j := by
  unfold goneM
  rw [mkm_bit, decide_eq_true hj]; rfl
theorem goneM_succ {l : List Int} {n i x : Nat} (hi : i < l.length) (hx : l.getD i 0 = (x : Int)) (hn : x < n) : goneM l n (i + 1) = goneM l n i ||| 2 ^ x := by
  unfold goneM
  symm
  refine mkm_of fun j => ?_
  rw [Nat.testBit_or, mkm_bit, Nat.testBit_two_pow, pre_succ hi hx]
  by_cases e : x = j
  · subst e; simp [hn]
  · have h1 : decide (x = j) = false := by simpa using e
    have h2 : (j == x) = false := by simp; omega
    rw [h1, h2]; simp

/-- what the program's table holds -/
structure FilP (g : Gr) (l : List Int) (i : Nat) (P : Nat → Nat → Bool) : Prop where
  cur : ∀ a b, a < g.1.toNat → b < g.1.toNat → preP l i a = false → preP l i b = false → P a b = latP g (goneM l g.1.toNat i) a b
  old : ∀ t x : Nat, t < i → t < l.length → l.getD t 0 = (x : Int) → ∀ b, b < g.1.toNat → preP l (t + 1) b = false → P x b = latP g (goneM l g.1.toNat t) x b

theorem pre_mono {l : List Int} {s t j : Nat} (h : s ≤ t) (hs : preP l t j = false) : preP l s j = false := by
  unfold preP at *
  refine decide_eq_false fun hm => ?_
  have := of_decide_eq_false hs
  exact this (List.take_subset_take_left l h hm)

theorem fil_step {g : Gr} {l : List Int} {i x : Nat} {P : Nat → Nat → Bool} (hg : good g = true) (ho : isOrd g.1 l = true) (hi : i < l.length) (hx : l.getD i 0 = (x : Int)) (h : FilP g l i P) :
    FilP g l (i + 1) (fun a b => P a b || ((P x a && !preP l (i + 1) a) && (P x b && !preP l (i + 1) b) && !(b == a))) := by
  have h8 := good_size hg
  have hxr := isOrd_in ho h8.1 _ (getD_mem (d := 0) hi)
  have hxn : x < g.1.toNat := by rw [hx] at hxr; omega
  have hfr := ord_fresh ho h8.1 hi hx
  have hxi : preP l (i + 1) x = true := by rw [pre_succ hi hx]; simp
  refine ⟨?_, ?_⟩
  · intro a b ha hb hpa hpb
    have hpa' := pre_mono (Nat.le_succ i) hpa
    have hpb' := pre_mono (Nat.le_succ i) hpb
    have hlt : goneM l g.1.toNat i < 2 ^ g.1.toNat := mkm_lt
    show (P a b || _) = _
    rw [h.cur a b ha hb hpa' hpb', h.cur x a hxn ha hfr hpa', h.cur x b hxn hb hfr hpb', hpa, hpb, goneM_succ hi hx hxn]
    rw [lat_step hg hxn ha hb hlt (by rw [← goneM_succ hi hx hxn, goneM_bit ha]; exact hpa) (by rw [← goneM_succ hi hx hxn, goneM_bit hb]; exact hpb)]
    simp
  · intro t y ht htl hy b hb hpb
    show (P y b || _) = _
    by_cases e : t = i
    · subst e
      have : y = x := by rw [hx] at hy; omega
      subst this
      rw [hxi, h.cur y b hxn hb hfr (pre_mono (Nat.le_succ t) hpb)]
      simp
    · have hyi : preP l (i + 1) y = true := by
        unfold preP
        refine decide_eq_true ?_
        have hm : l.getD t 0 ∈ l.take (t + 1) := by
          rw [List.getD_eq_getElem?_getD, List.getElem?_eq_getElem htl, Option.getD_some]
          rw [List.mem_take_iff_getElem]
          exact ⟨t, by omega, rfl⟩
        rw [hy] at hm
        exact List.take_subset_take_left l (show t + 1 ≤ i + 1 by omega) hm
      rw [hyi, h.old t y (by omega) htl hy b hb hpb]
      simp

theorem fil_zero {g : Gr} {l : List Int} (hg : good g = true) : FilP g l 0 (adj g) := by
  refine ⟨fun a b ha hb _ _ => ?_, fun t _ ht => absurd ht (by omega)⟩
  have h0 : goneM l g.1.toNat 0 = 0 := by
    unfold goneM
    apply Nat.eq_of_testBit_eq; intro j
    rw [mkm_bit]; simp [preP]
  rw [h0]
  by_cases hab : b = a
  · subst hab
    have : latP g 0 b b = false := by simp [latP]
    rw [this]
    cases hadj : adj g b b with
    | false => rfl
    | true =>
      unfold adj at hadj
      rw [anyN_iff] at hadj
      obtain ⟨i, hi, hj⟩ := hadj
      obtain ⟨e1, e2, e3⟩ := good_edge hg hi
      rcases joins_iff.1 hj with ⟨h1, h2⟩ | ⟨h1, h2⟩ <;> omega
  · rw [latP_via (by simp) hab, Bool.eq_iff_iff, via_iff hg ha]
    constructor
    · intro h; exact ⟨a, comp_self, h⟩
    · rintro ⟨y, h1, h2⟩
      have := comp_min (C := fun j => j == a) (by simp) (fun u j _ hj _ => by
        rcases wth_cases hj with h | rfl
        · simp at h
        · simp) h1
      simp only [beq_iff_eq] at this
      subst this
      exact h2

end Go.Zq
/- Plain mathematics: the width of an elimination. -/
namespace Go.Zq

theorem cloneO_list {xs : List Int} (h : xs.length ≤ 1000000000000) : ∃ o, cloneO xs = some o ∧ o.list = xs := by
  unfold cloneO
  rw [if_pos h]
  refine ⟨_, rfl, ?_⟩
  cases xs with
  | nil => rfl
  | cons x xs => rfl

theorem set_list {o : NL Int} {i : Nat} {v : Int} : (NL.set o i v).list = o.list.set i v := by cases o <;> simp [NL.set, NL.list]

theorem later_congr {F : Nat} {g : Gr} {a b : List Int} (h : ∀ e, s_l1Has F a e = s_l1Has F b e) {x : Int} : s_l5Later F g a x = s_l5Later F g b x := by
  have h1 : ∀ (kk : Int) (r : List Int) (c : List Int → List Int → Int → Option (List Int)) (k : Nat) (o s : List Int) (i : Int), s_l5Later_l1 F a g kk r c k o s i = s_l5Later_l1 F b g kk r c k o s i := by
    intro kk r c k
    induction k with
    | zero => intro o s i; rfl
    | succ k ih =>
      intro o s i
      have ih' : s_l5Later_l1 F a g kk r c k = s_l5Later_l1 F b g kk r c k := by funext o s i; exact ih o s i
      simp only [s_l5Later_l1, h, ih', s_l5Later_j1]
  have h2 : ∀ (k : Nat) (o s : List Int) (i : Int), s_l5Later_l2 F a g k o s i = s_l5Later_l2 F b g k o s i := by
    intro k
    induction k with
    | zero => intro o s i; rfl
    | succ k ih =>
      intro o s i
      have ih' : s_l5Later_l2 F a g k = s_l5Later_l2 F b g k := by funext o s i; exact ih o s i
      simp only [s_l5Later_l2, ih', h1]
  unfold s_l5Later
  exact h2 _ _ _ _

theorem later_take {F : Nat} {g : Gr} {l : List Int} {i x : Nat} (hg : good g = true) (ho : isOrd g.1 l = true) (hF : 20 ≤ F) (hG : g.2.length < F) (hs : Sm g.2.length) (hi : i ≤ l.length) (hx : x < g.1.toNat) :
    s_l5Later F g (l.take i) (x : Int) = some (listN (latP g (goneM l g.1.toNat i) x) g.1.toNat) := by
  have h8 := good_size hg
  have hlen := isOrd_len ho
  have hlt : goneM l g.1.toNat i < 2 ^ g.1.toNat := mkm_lt
  have hc := cnt_le (p := (goneM l g.1.toNat i).testBit) (n := g.1.toNat)
  rw [← later_eq (F := F) hg hF hG hs hlt hx]
  refine later_congr fun e => ?_
  rw [l1Has_eq (by simp; omega) (by unfold Sm; simp; omega), l1Has_eq (by rw [listN_len]; omega) (by unfold Sm; rw [listN_len]; omega)]
  congr 1
  rw [Bool.eq_iff_iff, decide_eq_true_eq, decide_eq_true_eq, listN_mem]
  constructor
  · intro h
    have hr := isOrd_in ho h8.1 e (List.mem_of_mem_take h)
    refine ⟨e.toNat, by omega, by omega, ?_⟩
    rw [goneM_bit (by omega)]
    unfold preP
    rw [Int.toNat_of_nonneg hr.1]
    exact decide_eq_true h
  · rintro ⟨j, rfl, hj, hb⟩
    rw [goneM_bit hj] at hb
    exact of_decide_eq_true hb

/-- the width of an elimination, so far -/
def elV (g : Gr) (l : List Int) (i : Nat) : Int := (cntN (latP g (goneM l g.1.toNat i) (l.getD i 0).toNat) g.1.toNat : Int)
def elW (g : Gr) (l : List Int) (k : Nat) : Int := (List.range k).foldl (fun s i => max s (elV g l i)) (-1)
theorem elW_succ {g : Gr} {l : List Int} {k : Nat} : elW g l (k + 1) = max (elW g l k) (elV g l k) := by simp [elW, List.range_succ]

theorem sWid_eq {F : Nat} {g : Gr} {l : List Int} (hg : good g = true) (ho : isOrd g.1 l = true) (hF : 20 ≤ F) (hG : g.2.length < F) (hs : Sm g.2.length) : s_l5Width F g l = some (elW g l l.length) := by
  have h8 := good_size hg
  have hlen := isOrd_len ho
  unfold s_l5Width
  refine loop_inv (L := fun k i s => s_l5Width_l1 F l g k s i) (n := l.length) (fun i s => s = elW g l i) ?_ ?_ F (-1) (by omega) rfl
  · intro k i s hi hI
    subst hI
    refine ⟨_, rfl, ?_⟩
    have hr := isOrd_in ho h8.1 _ (getD_mem (d := 0) hi)
    obtain ⟨x, hx⟩ : ∃ x : Nat, l.getD i 0 = x := ⟨(l.getD i 0).toNat, by omega⟩
    simp only [s_l5Width_l1]
    rw [decide_eq_true (show (i : Int) < (l.length : Int) by omega), cond_true, sub_take (by omega), Option.bind_some, idx_getD (d := 0) hi, Option.bind_some, hx, later_take hg ho hF hG hs (by omega) (by omega), Option.bind_some, most_eq, Option.bind_some, listN_len, w64_succ hi (by unfold Sm; omega), elW_succ]
    unfold elV
    rw [hx, Int.toNat_natCast]
  · intro k s hI
    subst hI
    simp only [s_l5Width_l1]
    rw [decide_eq_false (show ¬ (l.length : Int) < (l.length : Int) by omega), cond_false]

theorem fill_in {F : Nat} {g : Gr} {l : List Int} {i x : Nat} {P : Nat → Nat → Bool} {o : NL Int} {q left : Int} {c : NL Int → Int → Int → Option (S1 (List Int))} (hg : good g = true) (hF : 20 ≤ F) (hx : x < g.1.toNat) (hH : HavIs g.1.toNat g.1.toNat P o.list) (hfx : preP l (i + 1) x = true)
    (hleft : iandNot .i64 left q = ((mkm (fun j => !preP l (i + 1) j) g.1.toNat : Nat) : Int)) :
    ∃ o', HavIs g.1.toNat g.1.toNat (fun a b => P a b || ((P x a && !preP l (i + 1) a) && (P x b && !preP l (i + 1) b) && !(b == a))) o'.list ∧
      i_net_filling_l1 F left q ((mkm (P x) g.1.toNat : Nat) : Int) l (i : Int) (listN (fun j => P x j && !preP l (i + 1) j) g.1.toNat) c F o 0 = c o' (iandNot .i64 left q) (w64 ((i : Int) + 1)) := by
  have h8 := good_size hg
  obtain ⟨n, hn⟩ : ∃ n : Nat, g.1.toNat = n := ⟨_, rfl⟩
  have hn8 : n ≤ 8 := by omega
  rw [hn] at hx hH hleft ⊢
  obtain ⟨B, hB⟩ : ∃ B : Nat → Bool, (fun j => P x j && !preP l (i + 1) j) = B := ⟨_, rfl⟩
  have hBj : ∀ j, (P x j && !preP l (i + 1) j) = B j := fun j => congrFun hB j
  rw [hB]
  simp only [hBj]
  have hl8 : (listN B n).length ≤ 8 := by rw [listN_len]; exact Nat.le_trans cnt_le hn8
  obtain ⟨s, hs, he⟩ := loop_ex (L := fun k2 t (s : NL Int) => i_net_filling_l1 F left q ((mkm (P x) n : Nat) : Int) l (i : Int) (listN B n) c k2 s t) (n := (listN B n).length)
    (fun t s => HavIs n n (fun a b => P a b || (decide ((a : Int) ∈ (listN B n).take t) && B b && !(b == a))) s.list) (fin := fun s => c s (iandNot .i64 left q) (w64 ((i : Int) + 1))) (by
      intro k2 t s ht hI
      obtain ⟨y, hy, hyn, hyB⟩ := listN_get ht
      have htake : (listN B n).take (t + 1) = (listN B n).take t ++ [(y : Int)] := by
        rw [List.take_add_one, List.getElem?_eq_getElem ht]
        rw [List.getD_eq_getElem?_getD, List.getElem?_eq_getElem ht, Option.getD_some] at hy
        rw [hy]; rfl
      have hget := hI.2 y hyn
      have hbm : iand .i64 ((mkm (P x) n : Nat) : Int) ((mkm (fun j => !preP l (i + 1) j) n : Nat) : Int) = ((mkm B n : Nat) : Int) := by
        rw [and_mkm hn8, hB]
      have hpow : ((2 ^ y : Nat) : Int) = ((mkm (fun j => j == y) n : Nat) : Int) := by
        congr 1
        refine mkm_of fun j => ?_
        rw [Nat.testBit_two_pow]
        by_cases e : y = j
        · subst e; simp [hyn]
        · have h1 : decide (y = j) = false := by simpa using e
          have h2 : (j == y) = false := by simp; omega
          rw [h1, h2]; simp
      refine ⟨NL.set s y (ior .i64 (s.list.getD y 0) (iandNot .i64 ((mkm B n : Nat) : Int) ((2 ^ y : Nat) : Int))), ?_, ?_⟩
      · rw [set_list]
        refine ⟨by rw [List.length_set]; exact hI.1, fun a ha => ?_⟩
        by_cases e : a = y
        · subst e
          rw [List.getD_eq_getElem?_getD, List.getElem?_set_self (by rw [hI.1]; exact ha), Option.getD_some, hget, hpow, andNot_mkm hn8, ior_nat (mkm_lt63 (by omega)) (mkm_lt63 (by omega))]
          congr 1
          refine mkm_of fun j => ?_
          rw [Nat.testBit_or, mkm_bit, mkm_bit, htake]
          have hmem : decide ((a : Int) ∈ (listN B n).take t ++ [(a : Int)]) = true := by simp
          dsimp only
          rw [hmem]
          cases decide (j < n) <;> cases P a j <;> cases B j <;> cases (j == a) <;> cases decide ((a : Int) ∈ (listN B n).take t) <;> rfl
        · rw [List.getD_eq_getElem?_getD, List.getElem?_set_ne (by omega), ← List.getD_eq_getElem?_getD, hI.2 a ha]
          congr 1
          refine mkm_congr fun j _ => ?_
          have hmem : decide ((a : Int) ∈ (listN B n).take (t + 1)) = decide ((a : Int) ∈ (listN B n).take t) := by
            rw [htake, Bool.eq_iff_iff, decide_eq_true_eq, decide_eq_true_eq, List.mem_append, List.mem_singleton]
            constructor
            · rintro (h | h)
              · exact h
              · omega
            · exact .inl
          dsimp only
          rw [hmem]
      · simp only [i_net_filling_l1]
        rw [decide_eq_true (show (t : Int) < ((listN B n).length : Int) by omega), cond_true, idx_getD (d := 0) ht, Option.bind_some, hy, idx_getD (d := 0) (by rw [hI.1]; exact hyn), Option.bind_some, one_shl (by omega), Option.bind_some, Option.bind_some, hleft, hbm, Int.toNat_natCast, w64_succ ht (by unfold Sm; omega)]) (by
      intro k2 s hI
      simp only [i_net_filling_l1]
      rw [decide_eq_false (show ¬ ((listN B n).length : Int) < ((listN B n).length : Int) by omega), cond_false]) F o (by omega) (by
      have : (fun a b => P a b || (decide ((a : Int) ∈ (listN B n).take 0) && B b && !(b == a))) = P := by
        funext a b; simp
      rw [this]; exact hH)
  refine ⟨s, ?_, he⟩
  rw [List.take_length] at hs
  have hP : ∀ a, a < n → ∀ b, (P a b || (decide ((a : Int) ∈ listN B n) && B b && !(b == a))) = (P a b || ((B a) && (B b) && !(b == a))) := by
    intro a ha b
    have : decide ((a : Int) ∈ listN B n) = B a := by
      rw [Bool.eq_iff_iff, decide_eq_true_eq, listN_mem]
      constructor
      · rintro ⟨j, h1, _, h3⟩
        have : a = j := by omega
        rw [this]; exact h3
      · intro h; exact ⟨a, rfl, ha, h⟩
    rw [this]
  exact ⟨hs.1, fun a ha => by rw [hs.2 a ha]; congr 1; exact mkm_congr fun j _ => hP a ha j⟩

theorem fill_eq {F : Nat} {g : Gr} {l : List Int} (hg : good g = true) (ho : isOrd g.1 l = true) (hF : 20 ≤ F) : ∃ L P, i_net_filling F ⟨nearL g⟩ l = some ⟨L⟩ ∧ HavIs g.1.toNat g.1.toNat P L ∧ FilP g l l.length P := by
  have h8 := good_size hg
  have hlen := isOrd_len ho
  unfold i_net_filling i_net_clone_o slices_Clone_o
  obtain ⟨o0, h0, h0l⟩ := cloneO_list (xs := nearL g) (by rw [nearL_len]; omega)
  rw [h0, Option.bind_some, Option.bind_some]
  have hall : i_net_all F ⟨nearL g⟩ = some ((mkm (fun j => !preP l 0 j) g.1.toNat : Nat) : Int) := by
    have hp := Nat.two_pow_pos g.1.toNat
    have := pow256 (n := g.1.toNat) (by omega)
    unfold i_net_all
    rw [nearL_len, one_shl (by omega), Option.bind_some, w64_id (by omega) (by omega)]
    have e : mkm (fun j => !preP l 0 j) g.1.toNat = 2 ^ g.1.toNat - 1 := by
      symm
      refine mkm_of fun j => ?_
      rw [Nat.testBit_two_pow_sub_one]
      simp [preP]
    rw [e]
    congr 1; omega
  rw [hall, Option.bind_some]
  obtain ⟨⟨s, lf⟩, ⟨⟨P, h1, h2⟩, _⟩, he⟩ := loop_ex (L := fun k t (s : NL Int × Int) => i_net_filling_l2 F l k s.1 s.2 t) (n := l.length)
    (fun t s => (∃ P, HavIs g.1.toNat g.1.toNat P s.1.list ∧ FilP g l t P) ∧ s.2 = ((mkm (fun j => !preP l t j) g.1.toNat : Nat) : Int)) (fin := fun s => some ⟨s.1.list⟩) (by
      rintro k t ⟨s, lf⟩ ht ⟨⟨P, h1, h2⟩, h3⟩
      simp only at h1 h3
      subst h3
      have hr := isOrd_in ho h8.1 _ (getD_mem (d := 0) ht)
      obtain ⟨x, hx⟩ : ∃ x : Nat, l.getD t 0 = x := ⟨(l.getD t 0).toNat, by omega⟩
      have hxn : x < g.1.toNat := by omega
      have hxi : preP l (t + 1) x = true := by rw [pre_succ ht hx]; simp
      have hpow : ((2 ^ x : Nat) : Int) = ((mkm (fun j => j == x) g.1.toNat : Nat) : Int) := by
        congr 1
        refine mkm_of fun j => ?_
        rw [Nat.testBit_two_pow]
        by_cases e : x = j
        · subst e; simp [hxn]
        · have h1 : decide (x = j) = false := by simpa using e
          have h2 : (j == x) = false := by simp; omega
          rw [h1, h2]; simp
      have hleft : iandNot .i64 ((mkm (fun j => !preP l t j) g.1.toNat : Nat) : Int) ((2 ^ x : Nat) : Int) = ((mkm (fun j => !preP l (t + 1) j) g.1.toNat : Nat) : Int) := by
        rw [hpow, andNot_mkm (by omega)]
        congr 1
        refine mkm_congr fun j _ => ?_
        show (!preP l t j && !(j == x)) = !preP l (t + 1) j
        rw [pre_succ ht hx]
        cases preP l t j <;> cases (j == x) <;> rfl
      obtain ⟨o', p1, p2⟩ := fill_in (F := F) (i := t) (c := i_net_filling_l2 F l k) hg hF hxn h1 hxi hleft
      refine ⟨(o', ((mkm (fun j => !preP l (t + 1) j) g.1.toNat : Nat) : Int)), ⟨⟨_, p1, fil_step hg ho ht hx h2⟩, rfl⟩, ?_⟩
      simp only [i_net_filling_l2]
      rw [decide_eq_true (show (t : Int) < (l.length : Int) by omega), cond_true, idx_getD (d := 0) ht, Option.bind_some, hx, one_shl (by omega), Option.bind_some, idx_getD (d := 0) (by rw [h1.1]; exact hxn), Option.bind_some, h1.2 x hxn]
      have hset : i_setOf F (iand .i64 ((mkm (P x) g.1.toNat : Nat) : Int) (iandNot .i64 ((mkm (fun j => !preP l t j) g.1.toNat : Nat) : Int) ((2 ^ x : Nat) : Int))) = some (listN (fun j => P x j && !preP l (t + 1) j) g.1.toNat) := by
        rw [hleft, and_mkm (by omega)]
        exact setOf_eq (by omega) hF
      rw [hset, Option.bind_some, p2, w64_succ ht (by unfold Sm; omega), hleft]) (by
      rintro k ⟨s, lf⟩ _
      simp only [i_net_filling_l2]
      rw [decide_eq_false (show ¬ (l.length : Int) < (l.length : Int) by omega), cond_false]) F (o0, _) (by omega) ⟨⟨adj g, ⟨by rw [h0l, nearL_len], fun x hx => by rw [h0l]; exact nearL_get hx⟩, fil_zero hg⟩, rfl⟩
  exact ⟨s.list, P, he, h1, h2⟩

/-- the neighbors behind, one set for each node of the order -/
def nbL (g : Gr) (l : List Int) (n : Nat) : List Int := (List.range n).map fun i => ((mkm (latP g (goneM l g.1.toNat i) (l.getD i 0).toNat) g.1.toNat : Nat) : Int)
theorem nbL_succ {g : Gr} {l : List Int} {n : Nat} : nbL g l (n + 1) = nbL g l n ++ [((mkm (latP g (goneM l g.1.toNat n) (l.getD n 0).toNat) g.1.toNat : Nat) : Int)] := by simp [nbL, List.range_succ]
theorem nbL_len {g : Gr} {l : List Int} {n : Nat} : (nbL g l n).length = n := by simp [nbL]

theorem behind_eq {F : Nat} {g : Gr} {l : List Int} (hg : good g = true) (ho : isOrd g.1 l = true) (hF : 20 ≤ F) : i_net_neighborsBehind F ⟨nearL g⟩ l = some (nbL g l l.length) := by
  have h8 := good_size hg
  have hlen := isOrd_len ho
  obtain ⟨L, P, f1, f2, f3⟩ := fill_eq hg ho hF
  unfold i_net_neighborsBehind
  have hall : i_net_all F ⟨nearL g⟩ = some ((mkm (fun j => !preP l 0 j) g.1.toNat : Nat) : Int) := by
    have hp := Nat.two_pow_pos g.1.toNat
    have := pow256 (n := g.1.toNat) (by omega)
    unfold i_net_all
    rw [nearL_len, one_shl (by omega), Option.bind_some, w64_id (by omega) (by omega)]
    have e : mkm (fun j => !preP l 0 j) g.1.toNat = 2 ^ g.1.toNat - 1 := by
      symm
      refine mkm_of fun j => ?_
      rw [Nat.testBit_two_pow_sub_one]
      simp [preP]
    rw [e]
    congr 1; omega
  rw [f1, Option.bind_some, hall, Option.bind_some]
  obtain ⟨⟨lf, s⟩, ⟨_, h2⟩, he⟩ := loop_ex (L := fun k t (s : Int × NL Int) => i_net_neighborsBehind_l1 F ⟨L⟩ l k s.1 s.2 t) (n := l.length)
    (fun t s => s.1 = ((mkm (fun j => !preP l t j) g.1.toNat : Nat) : Int) ∧ s.2.list = nbL g l t) (fin := fun s => some s.2.list) (by
      rintro k t ⟨lf, s⟩ ht ⟨h1, h2⟩
      simp only at h1 h2
      subst h1
      have hr := isOrd_in ho h8.1 _ (getD_mem (d := 0) ht)
      obtain ⟨x, hx⟩ : ∃ x : Nat, l.getD t 0 = x := ⟨(l.getD t 0).toNat, by omega⟩
      have hxn : x < g.1.toNat := by omega
      have hpow : ((2 ^ x : Nat) : Int) = ((mkm (fun j => j == x) g.1.toNat : Nat) : Int) := by
        congr 1
        refine mkm_of fun j => ?_
        rw [Nat.testBit_two_pow]
        by_cases e : x = j
        · subst e; simp [hxn]
        · have h1 : decide (x = j) = false := by simpa using e
          have h2 : (j == x) = false := by simp; omega
          rw [h1, h2]; simp
      have hleft : iandNot .i64 ((mkm (fun j => !preP l t j) g.1.toNat : Nat) : Int) ((2 ^ x : Nat) : Int) = ((mkm (fun j => !preP l (t + 1) j) g.1.toNat : Nat) : Int) := by
        rw [hpow, andNot_mkm (by omega)]
        congr 1
        refine mkm_congr fun j _ => ?_
        show (!preP l t j && !(j == x)) = !preP l (t + 1) j
        rw [pre_succ ht hx]
        cases preP l t j <;> cases (j == x) <;> rfl
      have hrow : iand .i64 ((mkm (P x) g.1.toNat : Nat) : Int) ((mkm (fun j => !preP l (t + 1) j) g.1.toNat : Nat) : Int) = ((mkm (latP g (goneM l g.1.toNat t) x) g.1.toNat : Nat) : Int) := by
        rw [and_mkm (by omega)]
        congr 1
        refine mkm_congr fun j hj => ?_
        show (P x j && !preP l (t + 1) j) = _
        cases hpj : preP l (t + 1) j with
        | false => rw [f3.old t x ht ht hx j hj hpj]; simp
        | true =>
          rw [Bool.not_true, Bool.and_false]
          rw [pre_succ ht hx, Bool.or_eq_true] at hpj
          unfold latP
          rw [goneM_bit hj]
          rcases hpj with h | h
          · rw [h]; rfl
          · rw [h]; simp
      refine ⟨(((mkm (fun j => !preP l (t + 1) j) g.1.toNat : Nat) : Int), .of (s.list ++ [((mkm (latP g (goneM l g.1.toNat t) x) g.1.toNat : Nat) : Int)])), ⟨rfl, ?_⟩, ?_⟩
      · show s.list ++ _ = _
        rw [h2, nbL_succ, hx, Int.toNat_natCast]
      · simp only [i_net_neighborsBehind_l1]
        rw [decide_eq_true (show (t : Int) < (l.length : Int) by omega), cond_true, idx_getD (d := 0) ht, Option.bind_some, hx, one_shl (by omega), Option.bind_some, idx_getD (d := 0) (by rw [f2.1]; exact hxn), Option.bind_some, f2.2 x hxn, hleft, hrow, appL_one (by rw [h2, nbL_len]; omega), Option.bind_some, w64_succ ht (by unfold Sm; omega)]) (by
      rintro k ⟨lf, s⟩ _
      simp only [i_net_neighborsBehind_l1]
      rw [decide_eq_false (show ¬ (l.length : Int) < (l.length : Int) by omega), cond_false]) F (_, .nil) (by omega) ⟨rfl, rfl⟩
  have he' : i_net_neighborsBehind_l1 F ⟨L⟩ l F ((mkm (fun j => !preP l 0 j) g.1.toNat : Nat) : Int) .nil 0 = some s.list := he
  rw [he', h2]

theorem sElw_eq {F : Nat} {g : Gr} {l : List Int} (hF : l.length < F) (hG : g.2.length < F) (h9 : 20 ≤ F) (hl : Sm l.length) (hs : Sm g.2.length) :
    s_EliminationWidth F g l = some (bif good g && isOrd g.1 l then (elW g l l.length, true) else (0, false)) := by
  unfold s_EliminationWidth s_l5Order
  rw [l2Good_eq hG hs, Option.bind_some]
  cases hg : good g with
  | false => rfl
  | true =>
    have h8 := good_size hg
    rw [cond_true, l2Each_eq h8.1 h8.2 hF (by omega) hl, Option.bind_some, Option.bind_some, Bool.true_and]
    cases ho : isOrd g.1 l with
    | false => rfl
    | true => rw [Bool.not_true, cond_false, sWid_eq hg ho h9 hG hs, Option.bind_some, cond_true]

theorem iElw_eq {F : Nat} {g : Gr} {l : List Int} (hF : l.length < F) (hG : g.2.length < F) (h9 : 20 ≤ F) (hl : Sm l.length) (hs : Sm g.2.length) :
    i_EliminationWidth F g l = some (bif good g && isOrd g.1 l then (elW g l l.length, true) else (0, false)) := by
  unfold i_EliminationWidth
  rw [isGraph_eq hG (by omega) hs, Option.bind_some]
  cases hg : good g with
  | false => rfl
  | true =>
    have h8 := good_size hg
    rw [Bool.not_true, cond_false, isOrder_eq h8.1 h8.2 hF hl, Option.bind_some, Bool.true_and]
    cases ho : isOrd g.1 l with
    | false => rfl
    | true =>
      have hlen := isOrd_len ho
      unfold i_EliminationWidth_j1
      rw [Bool.not_true, cond_false, netOf_eq hg hG hs, Option.bind_some, behind_eq hg ho h9, Option.bind_some, cond_true]
      refine loop_inv (L := fun k i s => i_EliminationWidth_l1 F (nbL g l l.length) k s i) (n := l.length) (fun i s => s = elW g l i) ?_ ?_ F (-1) (by omega) rfl
      · intro k i s hi hI
        subst hI
        refine ⟨_, rfl, ?_⟩
        have hget : (nbL g l l.length).getD i 0 = ((mkm (latP g (goneM l g.1.toNat i) (l.getD i 0).toNat) g.1.toNat : Nat) : Int) := by
          simp [nbL, List.getD_eq_getElem?_getD, hi]
        simp only [i_EliminationWidth_l1]
        rw [decide_eq_true (show (i : Int) < ((nbL g l l.length).length : Int) by rw [nbL_len]; omega), cond_true, idx_getD (d := 0) (by rw [nbL_len]; exact hi), Option.bind_some, hget, ones_eq (mkm_256 (by omega)), Option.bind_some, popc_mkm (by omega), w64_succ hi (by unfold Sm; omega), elW_succ]
        have : (if ((cntN (latP g (goneM l g.1.toNat i) (l.getD i 0).toNat) g.1.toNat : Nat) : Int) > elW g l i then ((cntN (latP g (goneM l g.1.toNat i) (l.getD i 0).toNat) g.1.toNat : Nat) : Int) else elW g l i) = max (elW g l i) (elV g l i) := by
          unfold elV
          by_cases h : ((cntN (latP g (goneM l g.1.toNat i) (l.getD i 0).toNat) g.1.toNat : Nat) : Int) > elW g l i
          · rw [if_pos h, Int.max_eq_right (by omega)]
          · rw [if_neg h, Int.max_eq_left (by omega)]
        rw [this]
      · intro k s hI
        subst hI
        simp only [i_EliminationWidth_l1]
        rw [decide_eq_false (show ¬ (l.length : Int) < ((nbL g l l.length).length : Int) by rw [nbL_len]; omega), cond_false]

end Go.Zq
/- The law EliminationWidth, as a plain statement. -/
namespace Go.Zq

theorem lawEliminationWidth {F : Nat} {g : Gr} {l : List Int} (hF : 2097152 ≤ F) (hg : g.2.length ≤ 9223372036854775807) : w_FnExactEliminationWidth F g l = some true := by
  unfold w_FnExactEliminationWidth
  by_cases h : (l.length : Int) > 1048576
  · simp [h]
  simp only [h, decide_false, cond_false]
  rw [szGraph_eq (by omega) (by omega) hg, Option.bind_some]
  by_cases h2 : (1048576 : Int) - g.2.length < 0
  · simp [h2]
  simp only [h2, if_false, decide_false, cond_false]
  rw [toGraph_eq (by omega) (by omega) (by omega), toIntS_eq (by omega) (by omega)]
  simp only [Option.bind_some]
  rw [sElw_eq (by omega) (by omega) (by omega) (by unfold Sm; omega) (by unfold Sm; omega), iElw_eq (by omega) (by omega) (by omega) (by unfold Sm; omega) (by unfold Sm; omega)]
  simp only [Option.bind_some, bne_self_eq_false, cond_false, w_FnExactEliminationWidth_j1]
  rw [toGraph_eq (by omega) (by omega) (by omega), toIntS_eq (by omega) (by omega)]
  simp only [Option.bind_some]
  rw [eqGraph_eq (by omega) (by unfold Sm; omega) (by omega), eqIntS_eq (by omega) (by unfold Sm; omega)]
  rfl

end Go.Zq
