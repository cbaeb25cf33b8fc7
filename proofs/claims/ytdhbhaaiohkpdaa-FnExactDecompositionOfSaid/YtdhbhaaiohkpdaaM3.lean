/- Plain mathematics: what the functions answer (part 3). Conditions: stated in each theorem. -/
import Derived.Test.YtdhbhaaiohkpdaaM2
import Derived.Test.YtdhbhaaiohkpdaaM1
set_option linter.unusedVariables false
set_option linter.unusedSimpArgs false
/- Plain mathematics: cliques; perfect eliminations. -/
namespace Go.Zq

theorem and_mkm {A B : Nat → Bool} {n : Nat} (hn : n ≤ 8) : iand .i64 ((mkm A n : Nat) : Int) ((mkm B n : Nat) : Int) = ((mkm (fun j => A j && B j) n : Nat) : Int) := by
  rw [iand_nat (mkm_lt63 (by omega)) (mkm_lt63 (by omega))]
  congr 1
  apply Nat.eq_of_testBit_eq
  intro j
  rw [Nat.testBit_and, mkm_bit, mkm_bit, mkm_bit]
  cases decide (j < n) <;> simp

theorem andNot_mkm {A B : Nat → Bool} {n : Nat} (hn : n ≤ 8) : iandNot .i64 ((mkm A n : Nat) : Int) ((mkm B n : Nat) : Int) = ((mkm (fun j => A j && !B j) n : Nat) : Int) := by
  obtain ⟨c, hc, _, hb⟩ := iandNot_nat (mkm_lt63 (p := A) (n := n) (by omega)) (mkm_lt63 (p := B) (n := n) (by omega))
  rw [hc]
  congr 1
  apply Nat.eq_of_testBit_eq
  intro j
  rw [hb, mkm_bit, mkm_bit, mkm_bit]
  cases decide (j < n) <;> simp

end Go.Zq
/- Plain mathematics: decompositions. -/
namespace Go.Zq

/-- the program's table of the bags that have a node -/
def HavIs (n m : Nat) (P : Nat → Nat → Bool) (hv : List Int) : Prop := hv.length = n ∧ ∀ x, x < n → hv.getD x 0 = ((mkm (P x) m : Nat) : Int)

end Go.Zq
/- Plain mathematics: the filling of an elimination, and its width. -/
namespace Go.Zq

theorem ord_fresh {n : Int} {l : List Int} (ho : isOrd n l = true) (h0 : 0 ≤ n) {i x : Nat} (hi : i < l.length) (hx : l.getD i 0 = (x : Int)) : preP l i x = false := by
  have hl := isOrd_len ho
  unfold preP
  refine decide_eq_false fun hm => ?_
  have hc := (cover_len n.toNat (l.take i ++ l.drop (i + 1)) (fun j hj => by
    have := isOrd_mem ho (x := (j : Int)) (by omega) (by omega)
    rw [← List.take_append_drop i l, List.mem_append] at this
    rcases this with h | h
    · exact List.mem_append_left _ h
    · rw [List.drop_eq_getElem_cons hi, List.mem_cons] at h
      rcases h with h | h
      · rw [List.getD_eq_getElem?_getD, List.getElem?_eq_getElem hi, Option.getD_some] at hx
        rw [h, hx]
        exact List.mem_append_left _ hm
      · exact List.mem_append_right _ h)).1
  rw [List.length_append, List.length_take, List.length_drop] at hc
  omega

/-- joined by an edge, or by a path through a set -/
def viaP (g : Gr) (m a b : Nat) : Bool := anyN (fun y => comp g (wth m a) a y && adj g y b) g.1.toNat

theorem latP_via {g : Gr} {m a b : Nat} (hb : m.testBit b = false) (hab : b ≠ a) : latP g m a b = viaP g m a b := by
  unfold latP viaP
  have : (b == a) = false := by simpa using hab
  rw [hb, this]; rfl

theorem via_iff {g : Gr} {m a b : Nat} (hg : good g = true) (ha : a < g.1.toNat) : viaP g m a b = true ↔ ∃ y, comp g (wth m a) a y = true ∧ adj g y b = true := by
  unfold viaP
  rw [anyN_iff]
  constructor
  · rintro ⟨y, _, h⟩
    rw [Bool.and_eq_true] at h
    exact ⟨y, h⟩
  · rintro ⟨y, h1, h2⟩
    exact ⟨y, comp_lt hg ha h1, by rw [h1, h2]; rfl⟩

theorem wth_self {m x : Nat} : wth m x x = true := by simp [wth]
theorem wth_of {m x j : Nat} (h : m.testBit j = true) : wth m x j = true := by simp [wth, h]
theorem wth_cases {m x j : Nat} (h : wth m x j = true) : m.testBit j = true ∨ j = x := by simpa [wth] using h

theorem via_symm {g : Gr} {m a b : Nat} (hg : good g = true) (ha : a < g.1.toNat) (hb : b < g.1.toNat) (hM : m < 2 ^ g.1.toNat) (h : viaP g m a b = true) : viaP g m b a = true := by
  obtain ⟨y, h1, h2⟩ := (via_iff hg ha).1 h
  have key := comp_min (g := g) (p := wth m a) (x := a) (j := y)
    (C := fun j => j == a || (m.testBit j && anyN (fun z => comp g m.testBit j z && adj g z a) g.1.toNat)) (by simp) (by
    intro u j hu hj huj
    simp only [Bool.or_eq_true, beq_iff_eq, Bool.and_eq_true] at hu ⊢
    rcases wth_cases hj with hmj | rfl
    · right
      refine ⟨hmj, ?_⟩
      have hjn : j < g.1.toNat := by
        by_cases h : j < g.1.toNat
        · exact h
        · have := Nat.testBit_lt_two_pow (Nat.lt_of_lt_of_le hM (Nat.pow_le_pow_right (by decide) (show g.1.toNat ≤ j by omega)))
          rw [this] at hmj; cases hmj
      rw [anyN_iff]
      rcases hu with rfl | ⟨hmu, hz⟩
      · refine ⟨j, hjn, ?_⟩
        rw [comp_self, adj_comm, huj]; rfl
      · rw [anyN_iff] at hz
        obtain ⟨z, hzn, hz⟩ := hz
        rw [Bool.and_eq_true] at hz
        refine ⟨z, hzn, ?_⟩
        have h1 : comp g m.testBit j u = true := comp_closed hg hjn hmj comp_self hmu (by rw [adj_comm]; exact huj)
        rw [comp_trans hg hjn hmj h1 hz.1, hz.2]; rfl
    · left; rfl) h1
  simp only [Bool.or_eq_true, beq_iff_eq, Bool.and_eq_true] at key
  rw [via_iff hg hb]
  rcases key with rfl | ⟨hmy, hz⟩
  · exact ⟨b, comp_self, by rw [adj_comm]; exact h2⟩
  · rw [anyN_iff] at hz
    obtain ⟨z, _, hz⟩ := hz
    rw [Bool.and_eq_true] at hz
    refine ⟨z, ?_, hz.2⟩
    have h0 : comp g (wth m b) b y = true := comp_closed hg hb wth_self comp_self (wth_of hmy) (by rw [adj_comm]; exact h2)
    exact comp_min (C := comp g (wth m b) b) h0 (fun u j hu hj huj => comp_closed hg hb wth_self hu (wth_of hj) huj) hz.1

theorem via_step {g : Gr} {m x a b : Nat} (hg : good g = true) (hx : x < g.1.toNat) (ha : a < g.1.toNat) (hb : b < g.1.toNat) (hM : m < 2 ^ g.1.toNat) :
    viaP g (m ||| 2 ^ x) a b = (viaP g m a b || (viaP g m x a && viaP g m x b)) := by
  have hw : ∀ j, (m ||| 2 ^ x).testBit j = true ↔ m.testBit j = true ∨ j = x := by
    intro j
    rw [Nat.testBit_or, Nat.testBit_two_pow, Bool.or_eq_true, decide_eq_true_eq]
    exact ⟨fun h => h.imp id Eq.symm, fun h => h.imp id Eq.symm⟩
  rw [Bool.eq_iff_iff, Bool.or_eq_true, Bool.and_eq_true]
  constructor
  · intro h
    obtain ⟨y, h1, h2⟩ := (via_iff hg ha).1 h
    have key := comp_min (g := g) (p := wth (m ||| 2 ^ x) a) (x := a) (j := y) (C := fun j => comp g (wth m a) a j || (viaP g m x a && comp g (wth m x) x j)) (by rw [comp_self]; rfl) (by
      intro u j hu hj huj
      simp only [Bool.or_eq_true, Bool.and_eq_true] at hu ⊢
      rcases hu with hu | ⟨hv, hu⟩
      · rcases wth_cases hj with hj | rfl
        · rcases (hw j).1 hj with hj | rfl
          · left; exact comp_closed hg ha wth_self hu (wth_of hj) huj
          · right
            exact ⟨via_symm hg ha hx hM ((via_iff hg ha).2 ⟨u, hu, huj⟩), comp_self⟩
        · left; exact comp_self
      · rcases wth_cases hj with hj | rfl
        · right
          refine ⟨hv, ?_⟩
          rcases (hw j).1 hj with hj | rfl
          · exact comp_closed hg hx wth_self hu (wth_of hj) huj
          · exact comp_self
        · left; exact comp_self) h1
    simp only [Bool.or_eq_true, Bool.and_eq_true] at key
    rcases key with h | ⟨h3, h4⟩
    · left; exact (via_iff hg ha).2 ⟨y, h, h2⟩
    · right; exact ⟨h3, (via_iff hg hx).2 ⟨y, h4, h2⟩⟩
  · have hup : ∀ y, comp g (wth m a) a y = true → comp g (wth (m ||| 2 ^ x) a) a y = true := fun y h =>
      comp_min (C := comp g (wth (m ||| 2 ^ x) a) a) comp_self (fun u j hu hj huj => comp_closed hg ha wth_self hu (by
        rcases wth_cases hj with hj | rfl
        · exact wth_of ((hw j).2 (.inl hj))
        · exact wth_self) huj) h
    rintro (h | ⟨h1, h2⟩)
    · obtain ⟨y, h1, h2⟩ := (via_iff hg ha).1 h
      exact (via_iff hg ha).2 ⟨y, hup y h1, h2⟩
    · obtain ⟨y, y1, y2⟩ := (via_iff hg ha).1 (via_symm hg hx ha hM h1)
      obtain ⟨z, z1, z2⟩ := (via_iff hg hx).1 h2
      have hax : comp g (wth (m ||| 2 ^ x) a) a x = true := comp_closed hg ha wth_self (hup y y1) (wth_of ((hw x).2 (.inr rfl))) y2
      exact (via_iff hg ha).2 ⟨z, comp_min (C := comp g (wth (m ||| 2 ^ x) a) a) hax (fun u j hu hj huj => comp_closed hg ha wth_self hu (wth_of ((hw j).2 (wth_cases hj))) huj) z1, z2⟩

theorem lat_step {g : Gr} {m x a b : Nat} (hg : good g = true) (hx : x < g.1.toNat) (ha : a < g.1.toNat) (hb : b < g.1.toNat) (hM : m < 2 ^ g.1.toNat) (h1 : (m ||| 2 ^ x).testBit a = false) (h2 : (m ||| 2 ^ x).testBit b = false) :
    latP g (m ||| 2 ^ x) a b = (latP g m a b || (latP g m x a && latP g m x b && !(b == a))) := by
  have h1' : m.testBit a = false ∧ a ≠ x := by
    rw [Nat.testBit_or, Nat.testBit_two_pow, Bool.or_eq_false_iff, decide_eq_false_iff_not] at h1
    exact ⟨h1.1, fun e => h1.2 e.symm⟩
  have h2' : m.testBit b = false ∧ b ≠ x := by
    rw [Nat.testBit_or, Nat.testBit_two_pow, Bool.or_eq_false_iff, decide_eq_false_iff_not] at h2
    exact ⟨h2.1, fun e => h2.2 e.symm⟩
  by_cases hab : b = a
  · subst hab
    simp [latP]
  · have : (b == a) = false := by simpa using hab
    rw [latP_via h2 hab, latP_via h2'.1 hab, latP_via h1'.1 h1'.2, latP_via h2'.1 h2'.2, via_step hg hx ha hb hM, this]
    simp

/-- the nodes that are gone after some steps -/
def goneM (l : List Int) (n i : Nat) : Nat := mkm (preP l i) n
theorem goneM_bit {l : List Int} {n i j : Nat} (hj : j < n) : (goneM l n i).testBit j = preP l i j := by
  unfold goneM
  rw [mkm_bit, decide_eq_true hj]; rfl
theorem goneM_succ {l : List Int} {n i x : Nat} (hi : i < l.length) (hx : l.getD i 0 = (x : Int)) (hn : x < n) : goneM l n (i + 1) = goneM l n i ||| 2 ^ x := by
  unfold goneM
  symm
  refine mkm_of fun j => ?_
  rw [Nat.testBit_or, mkm_bit, Nat.testBit_two_pow, pre_succ hi hx]
  by_cases e : x = j
  · subst e; simp [hn]
  · have h1 : decide (x = j) = false := by simpa using e
    have h2 : (j == x) = false := by simp; omega
    rw [h1, h2]; simp

/-- what the program's table holds -/
structure FilP (g : Gr) (l : List Int) (i : Nat) (P : Nat → Nat → Bool) : Prop where
  cur : ∀ a b, a < g.1.toNat → b < g.1.toNat → preP l i a = false → preP l i b = false → P a b = latP g (goneM l g.1.toNat i) a b
  old : ∀ t x : Nat, t < i → t < l.length → l.getD t 0 = (x : Int) → ∀ b, b < g.1.toNat → preP l (t + 1) b = false → P x b = latP g (goneM l g.1.toNat t) x b

theorem pre_mono {l : List Int} {s t j : Nat} (h : s ≤ t) (hs : preP l t j = false) : preP l s j = false := by
  unfold preP at *
  refine decide_eq_false fun hm => ?_
  have := of_decide_eq_false hs
  exact this (List.take_subset_take_left l h hm)

theorem fil_step {g : Gr} {l : List Int} {i x : Nat} {P : Nat → Nat → Bool} (hg : good g = true) (ho : isOrd g.1 l = true) (hi : i < l.length) (hx : l.getD i 0 = (x : Int)) (h : FilP g l i P) :
    FilP g l (i + 1) (fun a b => P a b || ((P x a && !preP l (i + 1) a) && (P x b && !preP l (i + 1) b) && !(b == a))) := by
  have h8 := good_size hg
  have hxr := isOrd_in ho h8.1 _ (getD_mem (d := 0) hi)
  have hxn : x < g.1.toNat := by rw [hx] at hxr; omega
  have hfr := ord_fresh ho h8.1 hi hx
  have hxi : preP l (i + 1) x = true := by rw [pre_succ hi hx]; simp
  refine ⟨?_, ?_⟩
  · intro a b ha hb hpa hpb
    have hpa' := pre_mono (Nat.le_succ i) hpa
    have hpb' := pre_mono (Nat.le_succ i) hpb
    have hlt : goneM l g.1.toNat i < 2 ^ g.1.toNat := mkm_lt
    show (P a b || _) = _
    rw [h.cur a b ha hb hpa' hpb', h.cur x a hxn ha hfr hpa', h.cur x b hxn hb hfr hpb', hpa, hpb, goneM_succ hi hx hxn]
    rw [lat_step hg hxn ha hb hlt (by rw [← goneM_succ hi hx hxn, goneM_bit ha]; exact hpa) (by rw [← goneM_succ hi hx hxn, goneM_bit hb]; exact hpb)]
    simp
  · intro t y ht htl hy b hb hpb
    show (P y b || _) = _
    by_cases e : t = i
    · subst e
      have : y = x := by rw [hx] at hy; omega
      subst this
      rw [hxi, h.cur y b hxn hb hfr (pre_mono (Nat.le_succ t) hpb)]
      simp
    · have hyi : preP l (i + 1) y = true := by
        unfold preP
        refine decide_eq_true ?_
        have hm : l.getD t 0 ∈ l.take (t + 1) := by
          rw [List.getD_eq_getElem?_getD, List.getElem?_eq_getElem htl, Option.getD_some]
          rw [List.mem_take_iff_getElem]
          exact ⟨t, by omega, rfl⟩
        rw [hy] at hm
        exact List.take_subset_take_left l (show t + 1 ≤ i + 1 by omega) hm
      rw [hyi, h.old t y (by omega) htl hy b hb hpb]
      simp

theorem fil_zero {g : Gr} {l : List Int} (hg : good g = true) : FilP g l 0 (adj g) := by
  refine ⟨fun a b ha hb _ _ => ?_, fun t _ ht => absurd ht (by omega)⟩
  have h0 : goneM l g.1.toNat 0 = 0 := by
    unfold goneM
    apply Nat.eq_of_testBit_eq; intro j
    rw [mkm_bit]; simp [preP]
  rw [h0]
  by_cases hab : b = a
  · subst hab
    have : latP g 0 b b = false := by simp [latP]
    rw [this]
    cases hadj : adj g b b with
    | false => rfl
    | true =>
      unfold adj at hadj
      rw [anyN_iff] at hadj
      obtain ⟨i, hi, hj⟩ := hadj
      obtain ⟨e1, e2, e3⟩ := good_edge hg hi
      rcases joins_iff.1 hj with ⟨h1, h2⟩ | ⟨h1, h2⟩ <;> omega
  · rw [latP_via (by simp) hab, Bool.eq_iff_iff, via_iff hg ha]
    constructor
    · intro h; exact ⟨a, comp_self, h⟩
    · rintro ⟨y, h1, h2⟩
      have := comp_min (C := fun j => j == a) (by simp) (fun u j _ hj _ => by
        rcases wth_cases hj with h | rfl
        · simp at h
        · simp) h1
      simp only [beq_iff_eq] at this
      subst this
      exact h2

end Go.Zq
/- Plain mathematics: the width of an elimination. -/
namespace Go.Zq

theorem cloneO_list {xs : List Int} (h : xs.length ≤ 1000000000000) : ∃ o, cloneO xs = some o ∧ o.list = xs := by
  unfold cloneO
  rw [if_pos h]
  refine ⟨_, rfl, ?_⟩
  cases xs with
  | nil => rfl
  | cons x xs => rfl

theorem set_list {o : NL Int} {i : Nat} {v : Int} : (NL.set o i v).list = o.list.set i v := by cases o <;> simp [NL.set, NL.list]

theorem later_congr {F : Nat} {g : Gr} {a b : List Int} (h : ∀ e, s_l1Has F a e = s_l1Has F b e) {x : Int} : s_l5Later F g a x = s_l5Later F g b x := by
  have h1 : ∀ (kk : Int) (r : List Int) (c : List Int → List Int → Int → Option (List Int)) (k : Nat) (o s : List Int) (i : Int), s_l5Later_l1 F a g kk r c k o s i = s_l5Later_l1 F b g kk r c k o s i := by
    intro kk r c k
    induction k with
    | zero => intro o s i; rfl
    | succ k ih =>
      intro o s i
      have ih' : s_l5Later_l1 F a g kk r c k = s_l5Later_l1 F b g kk r c k := by funext o s i; exact ih o s i
      simp only [s_l5Later_l1, h, ih', s_l5Later_j1]
  have h2 : ∀ (k : Nat) (o s : List Int) (i : Int), s_l5Later_l2 F a g k o s i = s_l5Later_l2 F b g k o s i := by
    intro k
    induction k with
    | zero => intro o s i; rfl
    | succ k ih =>
      intro o s i
      have ih' : s_l5Later_l2 F a g k = s_l5Later_l2 F b g k := by funext o s i; exact ih o s i
      simp only [s_l5Later_l2, ih', h1]
  unfold s_l5Later
  exact h2 _ _ _ _

theorem later_take {F : Nat} {g : Gr} {l : List Int} {i x : Nat} (hg : good g = true) (ho : isOrd g.1 l = true) (hF : 20 ≤ F) (hG : g.2.length < F) (hs : Sm g.2.length) (hi : i ≤ l.length) (hx : x < g.1.toNat) :
    s_l5Later F g (l.take i) (x : Int) = some (listN (latP g (goneM l g.1.toNat i) x) g.1.toNat) := by
  have h8 := good_size hg
  have hlen := isOrd_len ho
  have hlt : goneM l g.1.toNat i < 2 ^ g.1.toNat := mkm_lt
  have hc := cnt_le (p := (goneM l g.1.toNat i).testBit) (n := g.1.toNat)
  rw [← later_eq (F := F) hg hF hG hs hlt hx]
  refine later_congr fun e => ?_
  rw [l1Has_eq (by simp; omega) (by unfold Sm; simp; omega), l1Has_eq (by rw [listN_len]; omega) (by unfold Sm; rw [listN_len]; omega)]
  congr 1
  rw [Bool.eq_iff_iff, decide_eq_true_eq, decide_eq_true_eq, listN_mem]
  constructor
  · intro h
    have hr := isOrd_in ho h8.1 e (List.mem_of_mem_take h)
    refine ⟨e.toNat, by omega, by omega, ?_⟩
    rw [goneM_bit (by omega)]
    unfold preP
    rw [Int.toNat_of_nonneg hr.1]
    exact decide_eq_true h
  · rintro ⟨j, rfl, hj, hb⟩
    rw [goneM_bit hj] at hb
    exact of_decide_eq_true hb

theorem fill_in {F : Nat} {g : Gr} {l : List Int} {i x : Nat} {P : Nat → Nat → Bool} {o : NL Int} {q left : Int} {c : NL Int → Int → Int → Option (S1 (List Int))} (hg : good g = true) (hF : 20 ≤ F) (hx : x < g.1.toNat) (hH : HavIs g.1.toNat g.1.toNat P o.list) (hfx : preP l (i + 1) x = true)
    (hleft : iandNot .i64 left q = ((mkm (fun j => !preP l (i + 1) j) g.1.toNat : Nat) : Int)) :
    ∃ o', HavIs g.1.toNat g.1.toNat (fun a b => P a b || ((P x a && !preP l (i + 1) a) && (P x b && !preP l (i + 1) b) && !(b == a))) o'.list ∧
      i_net_filling_l1 F left q ((mkm (P x) g.1.toNat : Nat) : Int) l (i : Int) (listN (fun j => P x j && !preP l (i + 1) j) g.1.toNat) c F o 0 = c o' (iandNot .i64 left q) (w64 ((i : Int) + 1)) := by
  have h8 := good_size hg
  obtain ⟨n, hn⟩ : ∃ n : Nat, g.1.toNat = n := ⟨_, rfl⟩
  have hn8 : n ≤ 8 := by omega
  rw [hn] at hx hH hleft ⊢
  obtain ⟨B, hB⟩ : ∃ B : Nat → Bool, (fun j => P x j && !preP l (i + 1) j) = B := ⟨_, rfl⟩
  have hBj : ∀ j, (P x j && !preP l (i + 1) j) = B j := fun j => congrFun hB j
  rw [hB]
  simp only [hBj]
  have hl8 : (listN B n).length ≤ 8 := by rw [listN_len]; exact Nat.le_trans cnt_le hn8
  obtain ⟨s, hs, he⟩ := loop_ex (L := fun k2 t (s : NL Int) => i_net_filling_l1 F left q ((mkm (P x) n : Nat) : Int) l (i : Int) (listN B n) c k2 s t) (n := (listN B n).length)
    (fun t s => HavIs n n (fun a b => P a b || (decide ((a : Int) ∈ (listN B n).take t) && B b && !(b == a))) s.list) (fin := fun s => c s (iandNot .i64 left q) (w64 ((i : Int) + 1))) (by
      intro k2 t s ht hI
      obtain ⟨y, hy, hyn, hyB⟩ := listN_get ht
      have htake : (listN B n).take (t + 1) = (listN B n).take t ++ [(y : Int)] := by
        rw [List.take_add_one, List.getElem?_eq_getElem ht]
        rw [List.getD_eq_getElem?_getD, List.getElem?_eq_getElem ht, Option.getD_some] at hy
        rw [hy]; rfl
      have hget := hI.2 y hyn
      have hbm : iand .i64 ((mkm (P x) n : Nat) : Int) ((mkm (fun j => !preP l (i + 1) j) n : Nat) : Int) = ((mkm B n : Nat) : Int) := by
        rw [and_mkm hn8, hB]
      have hpow : ((2 ^ y : Nat) : Int) = ((mkm (fun j => j == y) n : Nat) : Int) := by
        congr 1
        refine mkm_of fun j => ?_
        rw [Nat.testBit_two_pow]
        by_cases e : y = j
        · subst e; simp [hyn]
        · have h1 : decide (y = j) = false := by simpa using e
          have h2 : (j == y) = false := by simp; omega
          rw [h1, h2]; simp
      refine ⟨NL.set s y (ior .i64 (s.list.getD y 0) (iandNot .i64 ((mkm B n : Nat) : Int) ((2 ^ y : Nat) : Int))), ?_, ?_⟩
      · rw [set_list]
        refine ⟨by rw [List.length_set]; exact hI.1, fun a ha => ?_⟩
        by_cases e : a = y
        · subst e
          rw [List.getD_eq_getElem?_getD, List.getElem?_set_self (by rw [hI.1]; exact ha), Option.getD_some, hget, hpow, andNot_mkm hn8, ior_nat (mkm_lt63 (by omega)) (mkm_lt63 (by omega))]
          congr 1
          refine mkm_of fun j => ?_
          rw [Nat.testBit_or, mkm_bit, mkm_bit, htake]
          have hmem : decide ((a : Int) ∈ (listN B n).take t ++ [(a : Int)]) = true := by simp
          dsimp only
          rw [hmem]
          cases decide (j < n) <;> cases P a j <;> cases B j <;> cases (j == a) <;> cases decide ((a : Int) ∈ (listN B n).take t) <;> rfl
        · rw [List.getD_eq_getElem?_getD, List.getElem?_set_ne (by omega), ← List.getD_eq_getElem?_getD, hI.2 a ha]
          congr 1
          refine mkm_congr fun j _ => ?_
          have hmem : decide ((a : Int) ∈ (listN B n).take (t + 1)) = decide ((a : Int) ∈ (listN B n).take t) := by
            rw [htake, Bool.eq_iff_iff, decide_eq_true_eq, decide_eq_true_eq, List.mem_append, List.mem_singleton]
            constructor
            · rintro (h | h)
              · exact h
              · omega
            · exact .inl
          dsimp only
          rw [hmem]
      · simp only [i_net_filling_l1]
        rw [decide_eq_true (show (t : Int) < ((listN B n).length : Int) by omega), cond_true, idx_getD (d := 0) ht, Option.bind_some, hy, idx_getD (d := 0) (by rw [hI.1]; exact hyn), Option.bind_some, one_shl (by omega), Option.bind_some, Option.bind_some, hleft, hbm, Int.toNat_natCast, w64_succ ht (by unfold Sm; omega)]) (by
      intro k2 s hI
      simp only [i_net_filling_l1]
      rw [decide_eq_false (show ¬ ((listN B n).length : Int) < ((listN B n).length : Int) by omega), cond_false]) F o (by omega) (by
      have : (fun a b => P a b || (decide ((a : Int) ∈ (listN B n).take 0) && B b && !(b == a))) = P := by
        funext a b; simp
      rw [this]; exact hH)
  refine ⟨s, ?_, he⟩
  rw [List.take_length] at hs
  have hP : ∀ a, a < n → ∀ b, (P a b || (decide ((a : Int) ∈ listN B n) && B b && !(b == a))) = (P a b || ((B a) && (B b) && !(b == a))) := by
    intro a ha b
    have : decide ((a : Int) ∈ listN B n) = B a := by
      rw [Bool.eq_iff_iff, decide_eq_true_eq, listN_mem]
      constructor
      · rintro ⟨j, h1, _, h3⟩
        have : a = j := by omega
        rw [this]; exact h3
      · intro h; exact ⟨a, rfl, ha, h⟩
    rw [this]
  exact ⟨hs.1, fun a ha => by rw [hs.2 a ha]; congr 1; exact mkm_congr fun j _ => hP a ha j⟩

theorem fill_eq {F : Nat} {g : Gr} {l : List Int} (hg : good g = true) (ho : isOrd g.1 l = true) (hF : 20 ≤ F) : ∃ L P, i_net_filling F ⟨nearL g⟩ l = some ⟨L⟩ ∧ HavIs g.1.toNat g.1.toNat P L ∧ FilP g l l.length P := by
  have h8 := good_size hg
  have hlen := isOrd_len ho
  unfold i_net_filling i_net_clone_o slices_Clone_o
  obtain ⟨o0, h0, h0l⟩ := cloneO_list (xs := nearL g) (by rw [nearL_len]; omega)
  rw [h0, Option.bind_some, Option.bind_some]
  have hall : i_net_all F ⟨nearL g⟩ = some ((mkm (fun j => !preP l 0 j) g.1.toNat : Nat) : Int) := by
    have hp := Nat.two_pow_pos g.1.toNat
    have := pow256 (n := g.1.toNat) (by omega)
    unfold i_net_all
    rw [nearL_len, one_shl (by omega), Option.bind_some, w64_id (by omega) (by omega)]
    have e : mkm (fun j => !preP l 0 j) g.1.toNat = 2 ^ g.1.toNat - 1 := by
      symm
      refine mkm_of fun j => ?_
      rw [Nat.testBit_two_pow_sub_one]
      simp [preP]
    rw [e]
    congr 1; omega
  rw [hall, Option.bind_some]
  obtain ⟨⟨s, lf⟩, ⟨⟨P, h1, h2⟩, _⟩, he⟩ := loop_ex (L := fun k t (s : NL Int × Int) => i_net_filling_l2 F l k s.1 s.2 t) (n := l.length)
    (fun t s => (∃ P, HavIs g.1.toNat g.1.toNat P s.1.list ∧ FilP g l t P) ∧ s.2 = ((mkm (fun j => !preP l t j) g.1.toNat : Nat) : Int)) (fin := fun s => some ⟨s.1.list⟩) (by
      rintro k t ⟨s, lf⟩ ht ⟨⟨P, h1, h2⟩, h3⟩
      simp only at h1 h3
      subst h3
      have hr := isOrd_in ho h8.1 _ (getD_mem (d := 0) ht)
      obtain ⟨x, hx⟩ : ∃ x : Nat, l.getD t 0 = x := ⟨(l.getD t 0).toNat, by omega⟩
      have hxn : x < g.1.toNat := by omega
      have hxi : preP l (t + 1) x = true := by rw [pre_succ ht hx]; simp
      have hpow : ((2 ^ x : Nat) : Int) = ((mkm (fun j => j == x) g.1.toNat : Nat) : Int) := by
        congr 1
        refine mkm_of fun j => ?_
        rw [Nat.testBit_two_pow]
        by_cases e : x = j
        · subst e; simp [hxn]
        · have h1 : decide (x = j) = false := by simpa using e
          have h2 : (j == x) = false := by simp; omega
          rw [h1, h2]; simp
      have hleft : iandNot .i64 ((mkm (fun j => !preP l t j) g.1.toNat : Nat) : Int) ((2 ^ x : Nat) : Int) = ((mkm (fun j => !preP l (t + 1) j) g.1.toNat : Nat) : Int) := by
        rw [hpow, andNot_mkm (by omega)]
        congr 1
        refine mkm_congr fun j _ => ?_
        show (!preP l t j && !(j == x)) = !preP l (t + 1) j
        rw [pre_succ ht hx]
        cases preP l t j <;> cases (j == x) <;> rfl
      obtain ⟨o', p1, p2⟩ := fill_in (F := F) (i := t) (c := i_net_filling_l2 F l k) hg hF hxn h1 hxi hleft
      refine ⟨(o', ((mkm (fun j => !preP l (t + 1) j) g.1.toNat : Nat) : Int)), ⟨⟨_, p1, fil_step hg ho ht hx h2⟩, rfl⟩, ?_⟩
      simp only [i_net_filling_l2]
      rw [decide_eq_true (show (t : Int) < (l.length : Int) by omega), cond_true, idx_getD (d := 0) ht, Option.bind_some, hx, one_shl (by omega), Option.bind_some, idx_getD (d := 0) (by rw [h1.1]; exact hxn), Option.bind_some, h1.2 x hxn]
      have hset : i_setOf F (iand .i64 ((mkm (P x) g.1.toNat : Nat) : Int) (iandNot .i64 ((mkm (fun j => !preP l t j) g.1.toNat : Nat) : Int) ((2 ^ x : Nat) : Int))) = some (listN (fun j => P x j && !preP l (t + 1) j) g.1.toNat) := by
        rw [hleft, and_mkm (by omega)]
        exact setOf_eq (by omega) hF
      rw [hset, Option.bind_some, p2, w64_succ ht (by unfold Sm; omega), hleft]) (by
      rintro k ⟨s, lf⟩ _
      simp only [i_net_filling_l2]
      rw [decide_eq_false (show ¬ (l.length : Int) < (l.length : Int) by omega), cond_false]) F (o0, _) (by omega) ⟨⟨adj g, ⟨by rw [h0l, nearL_len], fun x hx => by rw [h0l]; exact nearL_get hx⟩, fil_zero hg⟩, rfl⟩
  exact ⟨s.list, P, he, h1, h2⟩

/-- the neighbors behind, one set for each node of the order -/
def nbL (g : Gr) (l : List Int) (n : Nat) : List Int := (List.range n).map fun i => ((mkm (latP g (goneM l g.1.toNat i) (l.getD i 0).toNat) g.1.toNat : Nat) : Int)
theorem nbL_succ {g : Gr} {l : List Int} {n : Nat} : nbL g l (n + 1) = nbL g l n ++ [((mkm (latP g (goneM l g.1.toNat n) (l.getD n 0).toNat) g.1.toNat : Nat) : Int)] := by simp [nbL, List.range_succ]
theorem nbL_len {g : Gr} {l : List Int} {n : Nat} : (nbL g l n).length = n := by simp [nbL]

theorem behind_eq {F : Nat} {g : Gr} {l : List Int} (hg : good g = true) (ho : isOrd g.1 l = true) (hF : 20 ≤ F) : i_net_neighborsBehind F ⟨nearL g⟩ l = some (nbL g l l.length) := by
  have h8 := good_size hg
  have hlen := isOrd_len ho
  obtain ⟨L, P, f1, f2, f3⟩ := fill_eq hg ho hF
  unfold i_net_neighborsBehind
  have hall : i_net_all F ⟨nearL g⟩ = some ((mkm (fun j => !preP l 0 j) g.1.toNat : Nat) : Int) := by
    have hp := Nat.two_pow_pos g.1.toNat
    have := pow256 (n := g.1.toNat) (by omega)
    unfold i_net_all
    rw [nearL_len, one_shl (by omega), Option.bind_some, w64_id (by omega) (by omega)]
    have e : mkm (fun j => !preP l 0 j) g.1.toNat = 2 ^ g.1.toNat - 1 := by
      symm
      refine mkm_of fun j => ?_
      rw [Nat.testBit_two_pow_sub_one]
      simp [preP]
    rw [e]
    congr 1; omega
  rw [f1, Option.bind_some, hall, Option.bind_some]
  obtain ⟨⟨lf, s⟩, ⟨_, h2⟩, he⟩ := loop_ex (L := fun k t (s : Int × NL Int) => i_net_neighborsBehind_l1 F ⟨L⟩ l k s.1 s.2 t) (n := l.length)
    (fun t s => s.1 = ((mkm (fun j => !preP l t j) g.1.toNat : Nat) : Int) ∧ s.2.list = nbL g l t) (fin := fun s => some s.2.list) (by
      rintro k t ⟨lf, s⟩ ht ⟨h1, h2⟩
      simp only at h1 h2
      subst h1
      have hr := isOrd_in ho h8.1 _ (getD_mem (d := 0) ht)
      obtain ⟨x, hx⟩ : ∃ x : Nat, l.getD t 0 = x := ⟨(l.getD t 0).toNat, by omega⟩
      have hxn : x < g.1.toNat := by omega
      have hpow : ((2 ^ x : Nat) : Int) = ((mkm (fun j => j == x) g.1.toNat : Nat) : Int) := by
        congr 1
        refine mkm_of fun j => ?_
        rw [Nat.testBit_two_pow]
        by_cases e : x = j
        · subst e; simp [hxn]
        · have h1 : decide (x = j) = false := by simpa using e
          have h2 : (j == x) = false := by simp; omega
          rw [h1, h2]; simp
      have hleft : iandNot .i64 ((mkm (fun j => !preP l t j) g.1.toNat : Nat) : Int) ((2 ^ x : Nat) : Int) = ((mkm (fun j => !preP l (t + 1) j) g.1.toNat : Nat) : Int) := by
        rw [hpow, andNot_mkm (by omega)]
        congr 1
        refine mkm_congr fun j _ => ?_
        show (!preP l t j && !(j == x)) = !preP l (t + 1) j
        rw [pre_succ ht hx]
        cases preP l t j <;> cases (j == x) <;> rfl
      have hrow : iand .i64 ((mkm (P x) g.1.toNat : Nat) : Int) ((mkm (fun j => !preP l (t + 1) j) g.1.toNat : Nat) : Int) = ((mkm (latP g (goneM l g.1.toNat t) x) g.1.toNat : Nat) : Int) := by
        rw [and_mkm (by omega)]
        congr 1
        refine mkm_congr fun j hj => ?_
        show (P x j && !preP l (t + 1) j) = _
        cases hpj : preP l (t + 1) j with
        | false => rw [f3.old t x ht ht hx j hj hpj]; simp
        | true =>
          rw [Bool.not_true, Bool.and_false]
          rw [pre_succ ht hx, Bool.or_eq_true] at hpj
          unfold latP
          rw [goneM_bit hj]
          rcases hpj with h | h
          · rw [h]; rfl
          · rw [h]; simp
      refine ⟨(((mkm (fun j => !preP l (t + 1) j) g.1.toNat : Nat) : Int), .of (s.list ++ [((mkm (latP g (goneM l g.1.toNat t) x) g.1.toNat : Nat) : Int)])), ⟨rfl, ?_⟩, ?_⟩
      · show s.list ++ _ = _
        rw [h2, nbL_succ, hx, Int.toNat_natCast]
      · simp only [i_net_neighborsBehind_l1]
        rw [decide_eq_true (show (t : Int) < (l.length : Int) by omega), cond_true, idx_getD (d := 0) ht, Option.bind_some, hx, one_shl (by omega), Option.bind_some, idx_getD (d := 0) (by rw [f2.1]; exact hxn), Option.bind_some, f2.2 x hxn, hleft, hrow, appL_one (by rw [h2, nbL_len]; omega), Option.bind_some, w64_succ ht (by unfold Sm; omega)]) (by
      rintro k ⟨lf, s⟩ _
      simp only [i_net_neighborsBehind_l1]
      rw [decide_eq_false (show ¬ (l.length : Int) < (l.length : Int) by omega), cond_false]) F (_, .nil) (by omega) ⟨rfl, rfl⟩
  have he' : i_net_neighborsBehind_l1 F ⟨L⟩ l F ((mkm (fun j => !preP l 0 j) g.1.toNat : Nat) : Int) .nil 0 = some s.list := he
  rw [he', h2]

end Go.Zq
/- Plain mathematics: later neighbors, as a list of one's own. -/
namespace Go.Zq

end Go.Zq
/- Plain mathematics: lists of lists that are own, and their marks. -/
namespace Go.Zq

/-- what marked lists are -/
def mkdd : List Nat → Int → List (List Int)
  | [], _ => []
  | n :: ns, k => mkd n k :: mkdd ns (k + n)
def sumL0 : List Nat → Nat
  | [] => 0
  | n :: ns => n + sumL0 ns

theorem mkdd_len : ∀ (ns : List Nat) (k : Int), (mkdd ns k).length = ns.length
  | [], _ => rfl
  | n :: ns, k => by simp [mkdd, mkdd_len ns]

theorem mkdd_get : ∀ (ns : List Nat) (k : Int) (j n : Nat), ns[j]? = some n → (mkdd ns k)[j]? = some (mkd n (k + (sumL0 (ns.take j) : Nat)))
  | [], _, j, n, h => by simp at h
  | m :: ns, k, 0, n, h => by
    simp only [List.getElem?_cons_zero, Option.some.injEq] at h
    subst h
    simp [mkdd, sumL0]
  | m :: ns, k, j + 1, n, h => by
    simp only [List.getElem?_cons_succ] at h
    have := mkdd_get ns (k + m) j n h
    simp only [mkdd, List.getElem?_cons_succ, this, List.take_succ_cons, sumL0]
    congr 2
    omega

theorem sumL0_succ : ∀ (ns : List Nat) (j n : Nat), ns[j]? = some n → sumL0 (ns.take (j + 1)) = sumL0 (ns.take j) + n
  | [], j, n, h => by simp at h
  | m :: ns, 0, n, h => by
    simp only [List.getElem?_cons_zero, Option.some.injEq] at h
    subst h
    simp [sumL0]
  | m :: ns, j + 1, n, h => by
    simp only [List.getElem?_cons_succ] at h
    have := sumL0_succ ns j n h
    simp only [List.take_succ_cons, sumL0, this]
    omega

theorem sumL0_le : ∀ (ns : List Nat) (j : Nat), sumL0 (ns.take j) ≤ sumL0 ns
  | [], j => by simp [sumL0]
  | m :: ns, 0 => by simp [sumL0]
  | m :: ns, j + 1 => by
    have := sumL0_le ns j
    simp only [List.take_succ_cons, sumL0]
    omega

theorem remark_nil {o o' : NL Int} (h : remark o o' = some o') : o'.isNil = o.isNil := by
  cases o with
  | nil => simp [remark] at h; subst h; rfl
  | of xs => cases o' with
    | nil => simp [remark] at h
    | of ys => rfl

/-- the marks of a list of lists -/
theorem markIntSS_eq {F : Nat} {o : NL (NL Int)} {ns : List Nat} {k : Int} (hns : o.list.map (fun o => o.list.length) = ns) (hF : ns.length < F) (h1 : sumL0 ns < F) (hl : Sm ns.length) (hl1 : sumL0 ns ≤ 1099511627776) (h0 : 0 ≤ k) (hk : k + (sumL0 ns : Nat) ≤ 4611686018427387904) :
    ∃ o', w_markIntSS F ⟨o⟩ k = some (k + (sumL0 ns : Nat), o') ∧ remark2 o o' = some o' ∧ o'.list.map NL.list = mkdd ns k := by
  cases o with
  | nil =>
    simp only [NL.list, List.map_nil] at hns
    subst hns
    obtain ⟨j, rfl⟩ : ∃ j, F = j + 1 := ⟨F - 1, by omega⟩
    exact ⟨.nil, by simp [w_markIntSS, w_markIntSS_l1, NL.list, sumL0], rfl, rfl⟩
  | of os =>
    change os.map (fun o => o.list.length) = ns at hns
    have hlen : os.length = ns.length := by rw [← hns]; simp
    obtain ⟨s, ⟨ys, e1, e2, e3, e4, e5⟩, e6⟩ := loop_ex (L := fun j i (s : NL (NL Int) × Int) => w_markIntSS_l1 F j s.1 s.2 i) (n := ns.length) (fin := fun s => some (s.2, s.1))
      (fun i s => ∃ ys : List (NL Int), s.1 = .of ys ∧ ys.length = ns.length ∧ s.2 = k + (sumL0 (ns.take i) : Nat) ∧ ys.map NL.isNil = os.map NL.isNil ∧ ∀ j, j < ns.length → (j < i → ∃ y, ys[j]? = some y ∧ (mkdd ns k)[j]? = some y.list) ∧ (i ≤ j → ys[j]? = os[j]?))
      (by
        rintro j i ⟨a, b⟩ hi ⟨ys, rfl, h2, rfl, h4, h5⟩
        obtain ⟨oi, hio⟩ : ∃ oi, os[i]? = some oi := ⟨os[i]'(by omega), by simp [hlen, hi]⟩
        have hni : ns[i]? = some oi.list.length := by
          have h9 : (os.map (fun o => o.list.length))[i]? = ns[i]? := by rw [hns]
          rw [← h9, List.getElem?_map, hio]; rfl
        have hyi : ys[i]? = some oi := by rw [(h5 i hi).2 (Nat.le_refl _), hio]
        have hsum := sumL0_succ ns i _ hni
        have hle := sumL0_le ns (i + 1)
        obtain ⟨o', m1, m2, m3⟩ := markIntS_eq (F := F) (o := oi) (k := k + (sumL0 (ns.take i) : Nat)) (by omega) (by omega) (by omega) (by omega)
        refine ⟨(.of (ys.set i o'), k + (sumL0 (ns.take (i + 1)) : Nat)), ⟨_, rfl, by simp [h2], rfl, ?_, ?_⟩, ?_⟩
        · rw [← h4]
          apply List.ext_getElem?
          intro m
          simp only [List.getElem?_map, List.getElem?_set]
          by_cases e : i = m
          · subst e
            simp only [if_true, h2, hi, hyi, Option.map_some, remark_nil m2]
          · simp only [e, if_false]
        · intro m hm
          have h6 := h5 m hm
          refine ⟨fun hmi => ?_, fun him => ?_⟩
          · rw [List.getElem?_set]
            by_cases e : i = m
            · subst e
              refine ⟨o', by simp [h2, hi], ?_⟩
              rw [mkdd_get ns k i _ hni, m3]
            · simp only [e, if_false]
              exact h6.1 (by omega)
          · rw [List.getElem?_set, if_neg (by omega)]
            exact h6.2 (by omega)
        · simp only [w_markIntSS_l1, NL.list]
          have hc : decide ((i : Int) < (ys.length : Int)) = true := by simp; omega
          have hix : idx ys (i : Int) = some oi := by
            unfold idx
            rw [if_pos (by omega)]
            simpa using hyi
          change (bif decide ((i : Int) < (ys.length : Int)) then _ else _) = _
          rw [hc, cond_true, hix, Option.bind_some, m1, Option.bind_some, m2, Option.bind_some, w64_succ hi hl]
          simp only [NL.set, Int.toNat_natCast]
          congr 1
          omega)
      (by
        rintro j ⟨a, b⟩ ⟨ys, rfl, h2, rfl, _, _⟩
        simp only [w_markIntSS_l1, NL.list, h2]
        simp) F (.of os, k) hF ⟨os, rfl, hlen, by simp [sumL0], rfl, fun j hj => ⟨fun h => by omega, fun _ => rfl⟩⟩
    obtain ⟨a, b⟩ := s
    simp only at e1 e3 e6
    subst e1; subst e3
    rw [List.take_of_length_le (Nat.le_refl _)] at e6
    refine ⟨.of ys, ?_, by simp [remark2, e4], ?_⟩
    · unfold w_markIntSS; exact e6
    · simp only [NL.list]
      apply List.ext_getElem?
      intro j
      by_cases hj : j < ns.length
      · obtain ⟨y, h7, h8⟩ := (e5 j hj).1 hj
        rw [List.getElem?_map, h7, h8]; rfl
      · rw [List.getElem?_eq_none (by simp; omega), List.getElem?_eq_none (by rw [mkdd_len]; omega)]

theorem heldIntSS_eq {F : Nat} {ns : List Nat} {k : Int} (hF : ns.length < F) (h1 : sumL0 ns < F) (hl : Sm ns.length) (hl1 : sumL0 ns ≤ 1099511627776) (h0 : 0 ≤ k) (hk : k + (sumL0 ns : Nat) ≤ 4611686018427387904) : w_heldIntSS F (mkdd ns k) k = some (k + (sumL0 ns : Nat)) := by
  unfold w_heldIntSS
  refine loop_inv (L := fun j i s => w_heldIntSS_l1 F (mkdd ns k) j s i) (n := ns.length) (fun i s => s = k + (sumL0 (ns.take i) : Nat)) ?_ ?_ F _ hF (by simp [sumL0])
  · rintro j i s hi rfl
    refine ⟨_, rfl, ?_⟩
    have hni : ns[i]? = some (ns[i]'hi) := by simp [hi]
    have hsum := sumL0_succ ns i _ hni
    have hle := sumL0_le ns (i + 1)
    simp only [w_heldIntSS_l1, mkdd_len]
    have hc : decide ((i : Int) < (ns.length : Int)) = true := by simpa using hi
    have hix : idx (mkdd ns k) (i : Int) = some (mkd (ns[i]'hi) (k + (sumL0 (ns.take i) : Nat))) := by
      unfold idx
      rw [if_pos (by omega)]
      simpa using mkdd_get ns k i _ hni
    rw [hc, cond_true, hix, Option.bind_some, heldIntS_eq (by omega) (by omega) (by omega) (by omega), Option.bind_some]
    have hd : decide ((k + (sumL0 (ns.take i) : Nat) + ((ns[i]'hi : Nat) : Int)) < 0) = false := decide_eq_false (by omega)
    rw [hd, cond_false, w64_succ hi hl]
    congr 1
    omega
  · rintro j s rfl
    simp only [w_heldIntSS_l1, mkdd_len]
    rw [List.take_of_length_le (Nat.le_refl _)]
    simp

end Go.Zq
/- Plain mathematics: the bags of a layout. -/
namespace Go.Zq

theorem appL_some {α : Type} {xs ys : List α} (h : xs.length + ys.length ≤ 1099511627776) : appL xs ys = some (xs ++ ys) := by
  unfold appL
  rw [if_pos (by simpa using h)]

theorem sumL0_mul {n : Nat} : ∀ (ns : List Nat), (∀ x ∈ ns, x ≤ n) → sumL0 ns ≤ ns.length * n
  | [], _ => by simp [sumL0]
  | x :: ns, h => by
    have h1 := h x (by simp)
    have h2 := sumL0_mul ns fun y hy => h y (by simp [hy])
    simp only [sumL0, List.length_cons, Nat.add_mul]
    omega

end Go.Zq
/- Plain mathematics: sorted lists of edges. -/
namespace Go.Zq

end Go.Zq
/- Plain mathematics: perfect eliminations. -/
namespace Go.Zq

end Go.Zq
/- Plain mathematics: lists compared; the greatest clique. -/
namespace Go.Zq

end Go.Zq
/- Plain mathematics: graphs of sets of nodes; the degeneracy. -/
namespace Go.Zq

end Go.Zq
/- Plain mathematics: the degeneracy. -/
namespace Go.Zq

end Go.Zq
/- Plain mathematics: the filling of an elimination, as a graph. -/
namespace Go.Zq

theorem preP_of {l : List Int} {t i x : Nat} (ht : t < i) (hl : t < l.length) (hx : l.getD t 0 = (x : Int)) : preP l i x = true := by
  unfold preP
  refine decide_eq_true ?_
  rw [List.mem_take_iff_getElem]
  refine ⟨t, by omega, ?_⟩
  rw [← hx, List.getD_eq_getElem?_getD, List.getElem?_eq_getElem hl]; rfl

theorem latP_of {g : Gr} {m x b : Nat} (h : latP g m x b = true) : m.testBit b = false ∧ b ≠ x := by
  unfold latP at h
  simp only [Bool.and_eq_true, Bool.not_eq_true', beq_eq_false_iff_ne] at h
  exact h.1

end Go.Zq
/- Plain mathematics: crusades come to chains (a set function that is submodular). -/
namespace Go.Zq

def pcN (n a : Nat) : Nat := cntN a.testBit n
end Go.Zq
/- Plain mathematics: programs that clear, and chains. -/
namespace Go.Zq

/-- the next state, by the numbers of the sets -/
def nxS (g : Gr) (s : Nat × Nat) (step : Int) : Nat × Nat := (mkm (newP s.1.testBit step) g.1.toNat, mkm (spr g (fun j => !newP s.1.testBit step j) s.2.testBit) g.1.toNat)
/-- whether a step is possible with k searchers -/
def cnS (g : Gr) (k : Int) (s : Nat × Nat) (step : Int) : Bool := canB g.1.toNat s.1.testBit step && !(decide (step ≥ 0) && ((pcN g.1.toNat s.1 : Int) == k))

inductive Rch (g : Gr) (k : Int) : Nat × Nat → Prop
  | init : Rch g k (0, 2 ^ g.1.toNat - 1)
  | step {s : Nat × Nat} {step : Int} : Rch g k s → cnS g k s step = true → Rch g k (nxS g s step)

structure Gst (g : Gr) (k : Int) (s : Nat × Nat) : Prop where
  lt1 : s.1 < 2 ^ g.1.toNat
  lt2 : s.2 < 2 ^ g.1.toNat
  dis : ∀ j, s.1.testBit j = true → s.2.testBit j = false
  cl : ∀ a b, adj g a b = true → s.2.testBit a = true → s.1.testBit b = false → s.2.testBit b = true
  sz : (pcN g.1.toNat s.1 : Int) ≤ k

theorem cnt_add1 {p : Nat → Bool} {x : Nat} (hx : p x = false) : ∀ {n : Nat}, x < n → cntN (fun j => p j || j == x) n = cntN p n + 1
  | 0, h => by omega
  | n + 1, h => by
    unfold cntN
    rw [List.range_succ, List.countP_append, List.countP_append]
    by_cases e : x = n
    · subst e
      have : (List.range x).countP (fun j => p j || j == x) = (List.range x).countP p := by
        apply List.countP_congr
        intro j hj
        rw [List.mem_range] at hj
        have : (j == x) = false := by simp; omega
        rw [this, Bool.or_false]
      rw [this]
      simp [hx]
    · have := cnt_add1 hx (n := n) (by omega)
      unfold cntN at this
      rw [this]
      have e2 : (n == x) = false := by simp; omega
      simp [e2]
      omega

theorem newP_place {p : Nat → Bool} {step : Int} (h : 0 ≤ step) (j : Nat) : newP p step j = (p j || j == step.toNat) := by
  unfold newP stNode
  rw [if_neg (by omega), if_neg (by omega)]
theorem newP_rem {p : Nat → Bool} {step : Int} (h : step < 0) {j : Nat} (hj : newP p step j = true) : p j = true := by
  unfold newP at hj
  rw [if_pos h, Bool.and_eq_true] at hj
  exact hj.1

theorem canB_place {n : Nat} {p : Nat → Bool} {step : Int} (h : 0 ≤ step) (hc : canB n p step = true) : step.toNat < n ∧ p step.toNat = false := by
  unfold canB stNode at hc
  rw [if_neg (by omega), Bool.and_eq_true, decide_eq_true_eq, decide_eq_false (by omega), beq_iff_eq] at hc
  exact ⟨by omega, hc.2⟩

theorem gst_init {g : Gr} (hg : good g = true) {k : Int} (hk : 0 ≤ k) : Gst g k (0, 2 ^ g.1.toNat - 1) := by
  have := Nat.two_pow_pos g.1.toNat
  refine ⟨by omega, by show 2 ^ g.1.toNat - 1 < _; omega, fun j hj => ?_, fun a b h _ _ => ?_, ?_⟩
  · rw [Nat.zero_testBit] at hj; cases hj
  · show (2 ^ g.1.toNat - 1).testBit b = true
    rw [Nat.testBit_two_pow_sub_one]
    have := adj_lt hg h
    exact decide_eq_true (by omega)
  · show ((cntN (Nat.testBit 0) g.1.toNat : Nat) : Int) ≤ k
    have : cntN (Nat.testBit 0) g.1.toNat = 0 := by
      unfold cntN
      rw [List.countP_eq_zero]
      intro j _
      rw [Nat.zero_testBit]; simp
    rw [this]; exact hk

theorem gst_step {g : Gr} (hg : good g = true) {k : Int} {s : Nat × Nat} {step : Int} (hs : Gst g k s) (hc : cnS g k s step = true) : Gst g k (nxS g s step) := by
  unfold cnS at hc
  rw [Bool.and_eq_true] at hc
  obtain ⟨hc, hk⟩ := hc
  refine ⟨mkm_lt, mkm_lt, fun j hj => ?_, fun a b hab ha hb => ?_, ?_⟩
  · show (mkm (spr g (fun j => !newP s.1.testBit step j) s.2.testBit) g.1.toNat).testBit j = false
    have h1 : (mkm (newP s.1.testBit step) g.1.toNat).testBit j = true := hj
    rw [mkm_bit, Bool.and_eq_true] at h1
    rw [mkm_bit]
    cases e : spr g (fun j => !newP s.1.testBit step j) s.2.testBit j with
    | false => rw [Bool.and_false]
    | true =>
      unfold spr at e
      obtain ⟨y, hy, h⟩ := anyN_iff.1 e
      simp only [Bool.and_eq_true] at h
      have := comp_in (p := fun j => !newP s.1.testBit step j) h.1.2 h.2
      simp only [h1.2] at this
      cases this
  · show (mkm (spr g (fun j => !newP s.1.testBit step j) s.2.testBit) g.1.toNat).testBit b = true
    have h1 : (mkm (spr g (fun j => !newP s.1.testBit step j) s.2.testBit) g.1.toNat).testBit a = true := ha
    have h2 : (mkm (newP s.1.testBit step) g.1.toNat).testBit b = false := hb
    have hl := adj_lt hg hab
    have hbn : b < g.1.toNat := by omega
    rw [mkm_bit, decide_eq_true hbn, Bool.true_and] at h2 ⊢
    rw [mkm_bit, Bool.and_eq_true] at h1
    obtain ⟨_, e⟩ := h1
    unfold spr at e ⊢
    obtain ⟨y, hy, h⟩ := anyN_iff.1 e
    refine anyN_iff.2 ⟨y, hy, ?_⟩
    simp only [Bool.and_eq_true] at h ⊢
    refine ⟨h.1, comp_closed hg hy h.1.2 h.2 ?_ hab⟩
    simp only [h2]; rfl
  · show ((cntN (mkm (newP s.1.testBit step) g.1.toNat).testBit g.1.toNat : Nat) : Int) ≤ k
    have e1 : cntN (mkm (newP s.1.testBit step) g.1.toNat).testBit g.1.toNat = cntN (newP s.1.testBit step) g.1.toNat := cnt_congr fun j hj => by rw [mkm_bit, decide_eq_true hj, Bool.true_and]
    rw [e1]
    have hsz := hs.sz
    unfold pcN at hsz hk
    by_cases h : step < 0
    · have := cnt_mono (p := newP s.1.testBit step) (q := s.1.testBit) (n := g.1.toNat) fun j _ hj => newP_rem h hj
      omega
    · obtain ⟨h1, h2⟩ := canB_place (by omega) hc
      have e2 : cntN (newP s.1.testBit step) g.1.toNat = cntN s.1.testBit g.1.toNat + 1 := by
        rw [← cnt_add1 h2 h1]
        exact cnt_congr fun j _ => newP_place (by omega) j
      rw [decide_eq_true (show step ≥ 0 by omega), Bool.true_and, Bool.not_eq_true', beq_eq_false_iff_ne] at hk
      omega

theorem rch_gst {g : Gr} (hg : good g = true) {k : Int} (hk : 0 ≤ k) {s : Nat × Nat} (h : Rch g k s) : Gst g k s := by
  induction h with
  | init => exact gst_init hg hk
  | step _ hc ih => exact gst_step hg ih hc

end Go.Zq
/- Plain mathematics: k searchers clear exactly if there is a chain with fronts below k. -/
namespace Go.Zq

end Go.Zq
/- Plain mathematics: a chain comes to a program that clears. -/
namespace Go.Zq

end Go.Zq
/- Plain mathematics: the unsafe nodes after each step of a program. -/
namespace Go.Zq

end Go.Zq
/- Plain mathematics: the search by breadth. -/
namespace Go.Zq

def cod (s : Nat × Nat) : Nat := s.1 + 256 * s.2

theorem nodup_lenN {l : List Nat} {N : Nat} (hn : l.Nodup) (h : ∀ x ∈ l, x < N) : l.length ≤ N := by
  have := card_list N (l.map fun x : Nat => (x : Int)) (by
    rw [List.nodup_iff_pairwise_ne] at hn ⊢
    rw [List.pairwise_map]
    exact hn.imp fun h => by omega) (by
    intro x hx
    obtain ⟨y, hy, rfl⟩ := List.mem_map.1 hx
    have := h y hy
    omega)
  have h2 := cnt_le (p := fun j => decide ((j : Int) ∈ l.map fun x : Nat => (x : Int))) (n := N)
  rw [this, List.length_map] at h2
  exact h2

/-- what the search holds -/
structure Bfs (g : Gr) (k : Int) (T : List (Nat × Nat)) (P : List (NL Int)) (sn : List Bool) : Prop where
  fst : T[0]? = some (0, 2 ^ g.1.toNat - 1)
  rch : ∀ s ∈ T, Rch g k s
  pln : P.length = T.length
  prg : ∀ i, i < P.length → (P.getD i .nil).list.length ≤ i
  sln : sn.length = 65536
  see : ∀ c, c < 65536 → (sn.getD c false = true ↔ ∃ s ∈ T.tail, cod s = c)
  nod : (T.tail.map cod).Nodup

theorem Bfs.len {g : Gr} {k : Int} {T : List (Nat × Nat)} {P : List (NL Int)} {sn : List Bool} (hg : good g = true) (h6 : g.1 ≤ 6) (hk : 0 ≤ k) (h : Bfs g k T P sn) : T.length ≤ 16385 := by
  have := nodup_lenN (N := 16384) h.nod (by
    intro c hc
    obtain ⟨s, hs, rfl⟩ := List.mem_map.1 hc
    have hst := rch_gst hg hk (h.rch s (List.mem_of_mem_tail hs))
    have hp := Nat.pow_le_pow_right (n := 2) (by decide) (show g.1.toNat ≤ 6 by omega)
    have h1 := hst.lt1
    have h2 := hst.lt2
    unfold cod
    omega)
  rw [List.length_map, List.length_tail] at this
  omega

end Go.Zq
/- Plain mathematics: what the search by breadth finds. -/
namespace Go.Zq

end Go.Zq
