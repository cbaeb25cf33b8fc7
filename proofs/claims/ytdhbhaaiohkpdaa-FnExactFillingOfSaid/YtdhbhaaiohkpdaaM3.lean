/- Plain mathematics: what the functions answer (part 3). Conditions: stated in each theorem. -/
import Derived.Test.YtdhbhaaiohkpdaaM2
import Derived.Test.YtdhbhaaiohkpdaaM1
set_option linter.unusedVariables false
set_option linter.unusedSimpArgs false
/- Plain mathematics: cliques; perfect eliminations. -/
namespace Go.Zq

theorem and_mkm {A B : Nat → Bool} {n : Nat} (hn : n ≤ 8) : iand .i64 ((mkm A n : Nat) : Int) ((mkm B n : Nat) : Int) = ((mkm (fun j => A j && B j) n : Nat) : Int) := by
  rw [iand_nat (mkm_lt63 (by omega)) (mkm_lt63 (by omega))]
  congr 1
  apply Nat.eq_of_testBit_eq
  intro j
  rw [Nat.testBit_and, mkm_bit, mkm_bit, mkm_bit]
  cases decide (j < n) <;> simp

theorem andNot_mkm {A B : Nat → Bool} {n : Nat} (hn : n ≤ 8) : iandNot .i64 ((mkm A n : Nat) : Int) ((mkm B n : Nat) : Int) = ((mkm (fun j => A j && !B j) n : Nat) : Int) := by
  obtain ⟨c, hc, _, hb⟩ := iandNot_nat (mkm_lt63 (p := A) (n := n) (by omega)) (mkm_lt63 (p := B) (n := n) (by omega))
  rw [hc]
  congr 1
  apply Nat.eq_of_testBit_eq
  intro j
  rw [hb, mkm_bit, mkm_bit, mkm_bit]
  cases decide (j < n) <;> simp

end Go.Zq
/- Plain mathematics: decompositions. -/
namespace Go.Zq

/-- the program's table of the bags that have a node -/
def HavIs (n m : Nat) (P : Nat → Nat → Bool) (hv : List Int) : Prop := hv.length = n ∧ ∀ x, x < n → hv.getD x 0 = ((mkm (P x) m : Nat) : Int)

end Go.Zq
/- Plain mathematics: the filling of an elimination, and its width. -/
namespace Go.Zq

theorem ord_fresh {n : Int} {l : List Int} (ho : isOrd n l = true) (h0 : 0 ≤ n) {i x : Nat} (hi : i < l.length) (hx : l.getD i 0 = (x : Int)) : preP l i x = false := by
  have hl := isOrd_len ho
  unfold preP
  refine decide_eq_false fun hm => ?_
  have hc := (cover_len n.toNat (l.take i ++ l.drop (i + 1)) (fun j hj => by
    have := isOrd_mem ho (x := (j : Int)) (by omega) (by omega)
    rw [← List.take_append_drop i l, List.mem_append] at this
    rcases this with h | h
    · exact List.mem_append_left _ h
    · rw [List.drop_eq_getElem_cons hi, List.mem_cons] at h
      rcases h with h | h
      · rw [List.getD_eq_getElem?_getD, List.getElem?_eq_getElem hi, Option.getD_some] at hx
        rw [h, hx]
        exact List.mem_append_left _ hm
      · exact List.mem_append_right _ h)).1
  rw [List.length_append, List.length_take, List.length_drop] at hc
  omega

/-- joined by an edge, or by a path through a set -/
def viaP (g : Gr) (m a b : Nat) : Bool := anyN (fun y => comp g (wth m a) a y && adj g y b) g.1.toNat

theorem latP_via {g : Gr} {m a b : Nat} (hb : m.testBit b = false) (hab : b ≠ a) : latP g m a b = viaP g m a b := by
  unfold latP viaP
  have : (b == a) = false := by simpa using hab
  rw [hb, this]; rfl

theorem via_iff {g : Gr} {m a b : Nat} (hg : good g = true) (ha : a < g.1.toNat) : viaP g m a b = true ↔ ∃ y, comp g (wth m a) a y = true ∧ adj g y b = true := by
  unfold viaP
  rw [anyN_iff]
  constructor
  · rintro ⟨y, _, h⟩
    rw [Bool.and_eq_true] at h
    exact ⟨y, h⟩
  · rintro ⟨y, h1, h2⟩
    exact ⟨y, comp_lt hg ha h1, by rw [h1, h2]; rfl⟩

theorem wth_self {m x : Nat} : wth m x x = true := by simp [wth]
theorem wth_of {m x j : Nat} (h : m.testBit j = true) : wth m x j = true := by simp [wth, h]
theorem wth_cases {m x j : Nat} (h : wth m x j = true) : m.testBit j = true ∨ j = x := by simpa [wth] using h

theorem via_symm {g : Gr} {m a b : Nat} (hg : good g = true) (ha : a < g.1.toNat) (hb : b < g.1.toNat) (hM : m < 2 ^ g.1.toNat) (h : viaP g m a b = true) : viaP g m b a = true := by
  obtain ⟨y, h1, h2⟩ := (via_iff hg ha).1 h
  have key := comp_min (g := g) (p := wth m a) (x := a) (j := y)
    (C := fun j => j == a || (m.testBit j && anyN (fun z => comp g m.testBit j z && adj g z a) g.1.toNat)) (by simp) (by
    intro u j hu hj huj
    simp only [Bool.or_eq_true, beq_iff_eq, Bool.and_eq_true] at hu ⊢
    rcases wth_cases hj with hmj | rfl
    · right
      refine ⟨hmj, ?_⟩
      have hjn : j < g.1.toNat := by
        by_cases h : j < g.1.toNat
        · exact h
        · have := Nat.testBit_lt_two_pow (Nat.lt_of_lt_of_le hM (Nat.pow_le_pow_right (by decide) (show g.1.toNat ≤ j by omega)))
          rw [this] at hmj; cases hmj
      rw [anyN_iff]
      rcases hu with rfl | ⟨hmu, hz⟩
      · refine ⟨j, hjn, ?_⟩
        rw [comp_self, adj_comm, huj]; rfl
      · rw [anyN_iff] at hz
        obtain ⟨z, hzn, hz⟩ := hz
        rw [Bool.and_eq_true] at hz
        refine ⟨z, hzn, ?_⟩
        have h1 : comp g m.testBit j u = true := comp_closed hg hjn hmj comp_self hmu (by rw [adj_comm]; exact huj)
        rw [comp_trans hg hjn hmj h1 hz.1, hz.2]; rfl
    · left; rfl) h1
  simp only [Bool.or_eq_true, beq_iff_eq, Bool.and_eq_true] at key
  rw [via_iff hg hb]
  rcases key with rfl | ⟨hmy, hz⟩
  · exact ⟨b, comp_self, by rw [adj_comm]; exact h2⟩
  · rw [anyN_iff] at hz
    obtain ⟨z, _, hz⟩ := hz
    rw [Bool.and_eq_true] at hz
    refine ⟨z, ?_, hz.2⟩
    have h0 : comp g (wth m b) b y = true := comp_closed hg hb wth_self comp_self (wth_of hmy) (by rw [adj_comm]; exact h2)
    exact comp_min (C := comp g (wth m b) b) h0 (fun u j hu hj huj => comp_closed hg hb wth_self hu (wth_of hj) huj) hz.1

theorem via_step {g : Gr} {m x a b : Nat} (hg : good g = true) (hx : x < g.1.toNat) (ha : a < g.1.toNat) (hb : b < g.1.toNat) (hM : m < 2 ^ g.1.toNat) :
    viaP g (m ||| 2 ^ x) a b = (viaP g m a b || (viaP g m x a && viaP g m x b)) := by
  have hw : ∀ j, (m ||| 2 ^ x).testBit j = true ↔ m.testBit j = true ∨ j = x := by
    intro j
    rw [Nat.testBit_or, Nat.testBit_two_pow, Bool.or_eq_true, decide_eq_true_eq]
    exact ⟨fun h => h.imp id Eq.symm, fun h => h.imp id Eq.symm⟩
  rw [Bool.eq_iff_iff, Bool.or_eq_true, Bool.and_eq_true]
  constructor
  · intro h
    obtain ⟨y, h1, h2⟩ := (via_iff hg ha).1 h
    have key := comp_min (g := g) (p := wth (m ||| 2 ^ x) a) (x := a) (j := y) (C := fun j => comp g (wth m a) a j || (viaP g m x a && comp g (wth m x) x j)) (by rw [comp_self]; rfl) (by
      intro u j hu hj huj
      simp only [Bool.or_eq_true, Bool.and_eq_true] at hu ⊢
      rcases hu with hu | ⟨hv, hu⟩
      · rcases wth_cases hj with hj | rfl
        · rcases (hw j).1 hj with hj | rfl
          · left; exact comp_closed hg ha wth_self hu (wth_of hj) huj
          · right
            exact ⟨via_symm hg ha hx hM ((via_iff hg ha).2 ⟨u, hu, huj⟩), comp_self⟩
        · left; exact comp_self
      · rcases wth_cases hj with hj | rfl
        · right
          refine ⟨hv, ?_⟩
          rcases (hw j).1 hj with hj | rfl
          · exact comp_closed hg hx wth_self hu (wth_of hj) huj
          · exact comp_self
        · left; exact comp_self) h1
    simp only [Bool.or_eq_true, Bool.and_eq_true] at key
    rcases key with h | ⟨h3, h4⟩
    · left; exact (via_iff hg ha).2 ⟨y, h, h2⟩
    · right; exact ⟨h3, (via_iff hg hx).2 ⟨y, h4, h2⟩⟩
  · have hup : ∀ y, comp g (wth m a) a y = true → comp g (wth (m ||| 2 ^ x) a) a y = true := fun y h =>
      comp_min (C := comp g (wth (m ||| 2 ^ x) a) a) comp_self (fun u j hu hj huj => comp_closed hg ha wth_self hu (by
        rcases wth_cases hj with hj | rfl
        · exact wth_of ((hw j).2 (.inl hj))
        · exact wth_self) huj) h
    rintro (h | ⟨h1, h2⟩)
    · obtain ⟨y, h1, h2⟩ := (via_iff hg ha).1 h
      exact (via_iff hg ha).2 ⟨y, hup y h1, h2⟩
    · obtain ⟨y, y1, y2⟩ := (via_iff hg ha).1 (via_symm hg hx ha hM h1)
      obtain ⟨z, z1, z2⟩ := (via_iff hg hx).1 h2
      have hax : comp g (wth (m ||| 2 ^ x) a) a x = true := comp_closed hg ha wth_self (hup y y1) (wth_of ((hw x).2 (.inr rfl))) y2
      exact (via_iff hg ha).2 ⟨z, comp_min (C := comp g (wth (m ||| 2 ^ x) a) a) hax (fun u j hu hj huj => comp_closed hg ha wth_self hu (wth_of ((hw j).2 (wth_cases hj))) huj) z1, z2⟩

theorem lat_step {g : Gr} {m x a b : Nat} (hg : good g = true) (hx : x < g.1.toNat) (ha : a < g.1.toNat) (hb : b < g.1.toNat) (hM : m < 2 ^ g.1.toNat) (h1 : (m ||| 2 ^ x).testBit a = false) (h2 : (m ||| 2 ^ x).testBit b = false) :
    latP g (m ||| 2 ^ x) a b = (latP g m a b || (latP g m x a && latP g m x b && !(b == a))) := by
  have h1' : m.testBit a = false ∧ a ≠ x := by
    rw [Nat.testBit_or, Nat.testBit_two_pow, Bool.or_eq_false_iff, decide_eq_false_iff_not] at h1
    exact ⟨h1.1, fun e => h1.2 e.symm⟩
  have h2' : m.testBit b = false ∧ b ≠ x := by
    rw [Nat.testBit_or, Nat.testBit_two_pow, Bool.or_eq_false_iff, decide_eq_false_iff_not] at h2
    exact ⟨h2.1, fun e => h2.2 e.symm⟩
  by_cases hab : b = a
  · subst hab
    simp [latP]
  · have : (b == a) = false := by simpa using hab
    rw [latP_via h2 hab, latP_via h2'.1 hab, latP_via h1'.1 h1'.2, latP_via h2'.1 h2'.2, via_step hg hx ha hb hM, this]
    simp

/-- the nodes that are gone after some steps -/
def goneM (l : List Int) (n i : Nat) : Nat := mkm (preP l i) n
theorem goneM_bit {l : List Int} {n i j : Nat} (hj : j < n) : (goneM l n i).testBit j = preP l i j := by
  unfold goneM
  rw [mkm_bit, decide_eq_true hj]; rfl
theorem goneM_succ {l : List Int} {n i x : Nat} (hi : i < l.length) (hx : l.getD i 0 = (x : Int)) (hn : x < n) : goneM l n (i + 1) = goneM l n i ||| 2 ^ x := by
  unfold goneM
  symm
  refine mkm_of fun j => ?_
  rw [Nat.testBit_or, mkm_bit, Nat.testBit_two_pow, pre_succ hi hx]
  by_cases e : x = j
  · subst e; simp [hn]
  · have h1 : decide (x = j) = false := by simpa using e
    have h2 : (j == x) = false := by simp; omega
    rw [h1, h2]; simp

/-- what the program's table holds -/
structure FilP (g : Gr) (l : List Int) (i : Nat) (P : Nat → Nat → Bool) : Prop where
  cur : ∀ a b, a < g.1.toNat → b < g.1.toNat → preP l i a = false → preP l i b = false → P a b = latP g (goneM l g.1.toNat i) a b
  old : ∀ t x : Nat, t < i → t < l.length → l.getD t 0 = (x : Int) → ∀ b, b < g.1.toNat → preP l (t + 1) b = false → P x b = latP g (goneM l g.1.toNat t) x b

theorem pre_mono {l : List Int} {s t j : Nat} (h : s ≤ t) (hs : preP l t j = false) : preP l s j = false := by
  unfold preP at *
  refine decide_eq_false fun hm => ?_
  have := of_decide_eq_false hs
  exact this (List.take_subset_take_left l h hm)

theorem fil_step {g : Gr} {l : List Int} {i x : Nat} {P : Nat → Nat → Bool} (hg : good g = true) (ho : isOrd g.1 l = true) (hi : i < l.length) (hx : l.getD i 0 = (x : Int)) (h : FilP g l i P) :
    FilP g l (i + 1) (fun a b => P a b || ((P x a && !preP l (i + 1) a) && (P x b && !preP l (i + 1) b) && !(b == a))) := by
  have h8 := good_size hg
  have hxr := isOrd_in ho h8.1 _ (getD_mem (d := 0) hi)
  have hxn : x < g.1.toNat := by rw [hx] at hxr; omega
  have hfr := ord_fresh ho h8.1 hi hx
  have hxi : preP l (i + 1) x = true := by rw [pre_succ hi hx]; simp
  refine ⟨?_, ?_⟩
  · intro a b ha hb hpa hpb
    have hpa' := pre_mono (Nat.le_succ i) hpa
    have hpb' := pre_mono (Nat.le_succ i) hpb
    have hlt : goneM l g.1.toNat i < 2 ^ g.1.toNat := mkm_lt
    show (P a b || _) = _
    rw [h.cur a b ha hb hpa' hpb', h.cur x a hxn ha hfr hpa', h.cur x b hxn hb hfr hpb', hpa, hpb, goneM_succ hi hx hxn]
    rw [lat_step hg hxn ha hb hlt (by rw [← goneM_succ hi hx hxn, goneM_bit ha]; exact hpa) (by rw [← goneM_succ hi hx hxn, goneM_bit hb]; exact hpb)]
    simp
  · intro t y ht htl hy b hb hpb
    show (P y b || _) = _
    by_cases e : t = i
    · subst e
      have : y = x := by rw [hx] at hy; omega
      subst this
      rw [hxi, h.cur y b hxn hb hfr (pre_mono (Nat.le_succ t) hpb)]
      simp
    · have hyi : preP l (i + 1) y = true := by
        unfold preP
        refine decide_eq_true ?_
        have hm : l.getD t 0 ∈ l.take (t + 1) := by
          rw [List.getD_eq_getElem?_getD, List.getElem?_eq_getElem htl, Option.getD_some]
          rw [List.mem_take_iff_getElem]
          exact ⟨t, by omega, rfl⟩
        rw [hy] at hm
        exact List.take_subset_take_left l (show t + 1 ≤ i + 1 by omega) hm
      rw [hyi, h.old t y (by omega) htl hy b hb hpb]
      simp

theorem fil_zero {g : Gr} {l : List Int} (hg : good g = true) : FilP g l 0 (adj g) := by
  refine ⟨fun a b ha hb _ _ => ?_, fun t _ ht => absurd ht (by omega)⟩
  have h0 : goneM l g.1.toNat 0 = 0 := by
    unfold goneM
    apply Nat.eq_of_testBit_eq; intro j
    rw [mkm_bit]; simp [preP]
  rw [h0]
  by_cases hab : b = a
  · subst hab
    have : latP g 0 b b = false := by simp [latP]
    rw [this]
    cases hadj : adj g b b with
    | false => rfl
    | true =>
      unfold adj at hadj
      rw [anyN_iff] at hadj
      obtain ⟨i, hi, hj⟩ := hadj
      obtain ⟨e1, e2, e3⟩ := good_edge hg hi
      rcases joins_iff.1 hj with ⟨h1, h2⟩ | ⟨h1, h2⟩ <;> omega
  · rw [latP_via (by simp) hab, Bool.eq_iff_iff, via_iff hg ha]
    constructor
    · intro h; exact ⟨a, comp_self, h⟩
    · rintro ⟨y, h1, h2⟩
      have := comp_min (C := fun j => j == a) (by simp) (fun u j _ hj _ => by
        rcases wth_cases hj with h | rfl
        · simp at h
        · simp) h1
      simp only [beq_iff_eq] at this
      subst this
      exact h2

end Go.Zq
/- Plain mathematics: the width of an elimination. -/
namespace Go.Zq

theorem cloneO_list {xs : List Int} (h : xs.length ≤ 1000000000000) : ∃ o, cloneO xs = some o ∧ o.list = xs := by
  unfold cloneO
  rw [if_pos h]
  refine ⟨_, rfl, ?_⟩
  cases xs with
  | nil => rfl
  | cons x xs => rfl

theorem set_list {o : NL Int} {i : Nat} {v : Int} : (NL.set o i v).list = o.list.set i v := by cases o <;> simp [NL.set, NL.list]

theorem later_congr {F : Nat} {g : Gr} {a b : List Int} (h : ∀ e, s_l1Has F a e = s_l1Has F b e) {x : Int} : s_l5Later F g a x = s_l5Later F g b x := by
  have h1 : ∀ (kk : Int) (r : List Int) (c : List Int → List Int → Int → Option (List Int)) (k : Nat) (o s : List Int) (i : Int), s_l5Later_l1 F a g kk r c k o s i = s_l5Later_l1 F b g kk r c k o s i := by
    intro kk r c k
    induction k with
    | zero => intro o s i; rfl
    | succ k ih =>
      intro o s i
      have ih' : s_l5Later_l1 F a g kk r c k = s_l5Later_l1 F b g kk r c k := by funext o s i; exact ih o s i
      simp only [s_l5Later_l1, h, ih', s_l5Later_j1]
  have h2 : ∀ (k : Nat) (o s : List Int) (i : Int), s_l5Later_l2 F a g k o s i = s_l5Later_l2 F b g k o s i := by
    intro k
    induction k with
    | zero => intro o s i; rfl
    | succ k ih =>
      intro o s i
      have ih' : s_l5Later_l2 F a g k = s_l5Later_l2 F b g k := by funext o s i; exact ih o s i
      simp only [s_l5Later_l2, ih', h1]
  unfold s_l5Later
  exact h2 _ _ _ _

theorem later_take {F : Nat} {g : Gr} {l : List Int} {i x : Nat} (hg : good g = true) (ho : isOrd g.1 l = true) (hF : 20 ≤ F) (hG : g.2.length < F) (hs : Sm g.2.length) (hi : i ≤ l.length) (hx : x < g.1.toNat) :
    s_l5Later F g (l.take i) (x : Int) = some (listN (latP g (goneM l g.1.toNat i) x) g.1.toNat) := by
  have h8 := good_size hg
  have hlen := isOrd_len ho
  have hlt : goneM l g.1.toNat i < 2 ^ g.1.toNat := mkm_lt
  have hc := cnt_le (p := (goneM l g.1.toNat i).testBit) (n := g.1.toNat)
  rw [← later_eq (F := F) hg hF hG hs hlt hx]
  refine later_congr fun e => ?_
  rw [l1Has_eq (by simp; omega) (by unfold Sm; simp; omega), l1Has_eq (by rw [listN_len]; omega) (by unfold Sm; rw [listN_len]; omega)]
  congr 1
  rw [Bool.eq_iff_iff, decide_eq_true_eq, decide_eq_true_eq, listN_mem]
  constructor
  · intro h
    have hr := isOrd_in ho h8.1 e (List.mem_of_mem_take h)
    refine ⟨e.toNat, by omega, by omega, ?_⟩
    rw [goneM_bit (by omega)]
    unfold preP
    rw [Int.toNat_of_nonneg hr.1]
    exact decide_eq_true h
  · rintro ⟨j, rfl, hj, hb⟩
    rw [goneM_bit hj] at hb
    exact of_decide_eq_true hb

theorem fill_in {F : Nat} {g : Gr} {l : List Int} {i x : Nat} {P : Nat → Nat → Bool} {o : NL Int} {q left : Int} {c : NL Int → Int → Int → Option (S1 (List Int))} (hg : good g = true) (hF : 20 ≤ F) (hx : x < g.1.toNat) (hH : HavIs g.1.toNat g.1.toNat P o.list) (hfx : preP l (i + 1) x = true)
    (hleft : iandNot .i64 left q = ((mkm (fun j => !preP l (i + 1) j) g.1.toNat : Nat) : Int)) :
    ∃ o', HavIs g.1.toNat g.1.toNat (fun a b => P a b || ((P x a && !preP l (i + 1) a) && (P x b && !preP l (i + 1) b) && !(b == a))) o'.list ∧
      i_net_filling_l1 F left q ((mkm (P x) g.1.toNat : Nat) : Int) l (i : Int) (listN (fun j => P x j && !preP l (i + 1) j) g.1.toNat) c F o 0 = c o' (iandNot .i64 left q) (w64 ((i : Int) + 1)) := by
  have h8 := good_size hg
  obtain ⟨n, hn⟩ : ∃ n : Nat, g.1.toNat = n := ⟨_, rfl⟩
  have hn8 : n ≤ 8 := by omega
  rw [hn] at hx hH hleft ⊢
  obtain ⟨B, hB⟩ : ∃ B : Nat → Bool, (fun j => P x j && !preP l (i + 1) j) = B := ⟨_, rfl⟩
  have hBj : ∀ j, (P x j && !preP l (i + 1) j) = B j := fun j => congrFun hB j
  rw [hB]
  simp only [hBj]
  have hl8 : (listN B n).length ≤ 8 := by rw [listN_len]; exact Nat.le_trans cnt_le hn8
  obtain ⟨s, hs, he⟩ := loop_ex (L := fun k2 t (s : NL Int) => i_net_filling_l1 F left q ((mkm (P x) n : Nat) : Int) l (i : Int) (listN B n) c k2 s t) (n := (listN B n).length)
    (fun t s => HavIs n n (fun a b => P a b || (decide ((a : Int) ∈ (listN B n).take t) && B b && !(b == a))) s.list) (fin := fun s => c s (iandNot .i64 left q) (w64 ((i : Int) + 1))) (by
      intro k2 t s ht hI
      obtain ⟨y, hy, hyn, hyB⟩ := listN_get ht
      have htake : (listN B n).take (t + 1) = (listN B n).take t ++ [(y : Int)] := by
        rw [List.take_add_one, List.getElem?_eq_getElem ht]
        rw [List.getD_eq_getElem?_getD, List.getElem?_eq_getElem ht, Option.getD_some] at hy
        rw [hy]; rfl
      have hget := hI.2 y hyn
      have hbm : iand .i64 ((mkm (P x) n : Nat) : Int) ((mkm (fun j => !preP l (i + 1) j) n : Nat) : Int) = ((mkm B n : Nat) : Int) := by
        rw [and_mkm hn8, hB]
      have hpow : ((2 ^ y : Nat) : Int) = ((mkm (fun j => j == y) n : Nat) : Int) := by
        congr 1
        refine mkm_of fun j => ?_
        rw [Nat.testBit_two_pow]
        by_cases e : y = j
        · subst e; simp [hyn]
        · have h1 : decide (y = j) = false := by simpa using e
          have h2 : (j == y) = false := by simp; omega
          rw [h1, h2]; simp
      refine ⟨NL.set s y (ior .i64 (s.list.getD y 0) (iandNot .i64 ((mkm B n : Nat) : Int) ((2 ^ y : Nat) : Int))), ?_, ?_⟩
      · rw [set_list]
        refine ⟨by rw [List.length_set]; exact hI.1, fun a ha => ?_⟩
        by_cases e : a = y
        · subst e
          rw [List.getD_eq_getElem?_getD, List.getElem?_set_self (by rw [hI.1]; exact ha), Option.getD_some, hget, hpow, andNot_mkm hn8, ior_nat (mkm_lt63 (by omega)) (mkm_lt63 (by omega))]
          congr 1
          refine mkm_of fun j => ?_
          rw [Nat.testBit_or, mkm_bit, mkm_bit, htake]
          have hmem : decide ((a : Int) ∈ (listN B n).take t ++ [(a : Int)]) = true := by simp
          dsimp only
          rw [hmem]
          cases decide (j < n) <;> cases P a j <;> cases B j <;> cases (j == a) <;> cases decide ((a : Int) ∈ (listN B n).take t) <;> rfl
        · rw [List.getD_eq_getElem?_getD, List.getElem?_set_ne (by omega), ← List.getD_eq_getElem?_getD, hI.2 a ha]
          congr 1
          refine mkm_congr fun j _ => ?_
          have hmem : decide ((a : Int) ∈ (listN B n).take (t + 1)) = decide ((a : Int) ∈ (listN B n).take t) := by
            rw [htake, Bool.eq_iff_iff, decide_eq_true_eq, decide_eq_true_eq, List.mem_append, List.mem_singleton]
            constructor
            · rintro (h | h)
              · exact h
              · omega
            · exact .inl
          dsimp only
          rw [hmem]
      · simp only [i_net_filling_l1]
        rw [decide_eq_true (show (t : Int) < ((listN B n).length : Int) by omega), cond_true, idx_getD (d := 0) ht, Option.bind_some, hy, idx_getD (d := 0) (by rw [hI.1]; exact hyn), Option.bind_some, one_shl (by omega), Option.bind_some, Option.bind_some, hleft, hbm, Int.toNat_natCast, w64_succ ht (by unfold Sm; omega)]) (by
      intro k2 s hI
      simp only [i_net_filling_l1]
      rw [decide_eq_false (show ¬ ((listN B n).length : Int) < ((listN B n).length : Int) by omega), cond_false]) F o (by omega) (by
      have : (fun a b => P a b || (decide ((a : Int) ∈ (listN B n).take 0) && B b && !(b == a))) = P := by
        funext a b; simp
      rw [this]; exact hH)
  refine ⟨s, ?_, he⟩
  rw [List.take_length] at hs
  have hP : ∀ a, a < n → ∀ b, (P a b || (decide ((a : Int) ∈ listN B n) && B b && !(b == a))) = (P a b || ((B a) && (B b) && !(b == a))) := by
    intro a ha b
    have : decide ((a : Int) ∈ listN B n) = B a := by
      rw [Bool.eq_iff_iff, decide_eq_true_eq, listN_mem]
      constructor
      · rintro ⟨j, h1, _, h3⟩
        have : a = j := by omega
        rw [this]; exact h3
      · intro h; exact ⟨a, rfl, ha, h⟩
    rw [this]
  exact ⟨hs.1, fun a ha => by rw [hs.2 a ha]; congr 1; exact mkm_congr fun j _ => hP a ha j⟩

end Go.Zq
/- Plain mathematics: later neighbors, as a list of one's own. -/
namespace Go.Zq

theorem bmap {α β γ : Type} {x : Option α} {f : α → Option β} {f' : α → Option γ} {h : β → γ} (H : ∀ a, f' a = (f a).map h) : x.bind f' = (x.bind f).map h := by
  cases x with
  | none => rfl
  | some a => exact H a
theorem cmap {β γ : Type} {t : Bool} {a b : Option β} {a' b' : Option γ} {h : β → γ} (H1 : a' = a.map h) (H2 : b' = b.map h) : (bif t then a' else b') = (bif t then a else b).map h := by
  cases t with
  | true => exact H1
  | false => exact H2

theorem put_o {F : Nat} {l : List Int} {n : Int} : s_l1Put_o F ⟨.of l⟩ n = (s_l1Put F l n).map NL.of := by
  have hj : ∀ (k : Int) (t : Bool), s_l1Put_o_j1 F ⟨.of l⟩ n k t = (s_l1Put_j1 F l n k t).map NL.of := by
    intro k t
    simp only [s_l1Put_o_j1, s_l1Put_j1, ofNL, Option.bind_some]
    exact cmap rfl (bmap fun _ => bmap fun _ => bmap fun _ => bmap fun _ => bmap fun _ => rfl)
  have key : ∀ (k : Nat) (i : Int), s_l1Put_o_l1 F ⟨.of l⟩ n k i = (s_l1Put_l1 F l n k i).map NL.of := by
    intro k
    induction k with
    | zero => intro i; rfl
    | succ k ih =>
      intro i
      have hj2 : ∀ t, s_l1Put_o_j2 F ⟨.of l⟩ n i (s_l1Put_o_l1 F ⟨.of l⟩ n k) t = (s_l1Put_j2 F l n i (s_l1Put_l1 F l n k) t).map NL.of := by
        intro t
        simp only [s_l1Put_o_j2, s_l1Put_j2]
        exact cmap (ih _) (cmap (bmap fun _ => hj i _) (hj i _))
      simp only [s_l1Put_o_l1, s_l1Put_l1]
      exact cmap (bmap fun _ => hj2 _) (hj2 _)
  exact key F 0

theorem later_o {F : Nat} {g : Gr} {a : List Int} {x : Int} : s_l5Later_o F g a x = (s_l5Later F g a x).map NL.of := by
  have h1 : ∀ (kk : Int) (r : List Int) (c : List Int → List Int → Int → Option (List Int)) (c' : NL Int → List Int → Int → Option (NL Int)), (∀ o s i, c' (.of o) s i = (c o s i).map NL.of) →
      ∀ (k : Nat) (o s : List Int) (i : Int), s_l5Later_o_l1 F a g kk r c' k (.of o) s i = (s_l5Later_l1 F a g kk r c k o s i).map NL.of := by
    intro kk r c c' hc k
    induction k with
    | zero => intro o s i; rfl
    | succ k ih =>
      intro o s i
      simp only [s_l5Later_o_l1, s_l5Later_l1, s_l5Later_o_j1, s_l5Later_j1, put_o]
      refine cmap (bmap fun e => bmap fun t => cmap (ih _ _ _) (bmap fun e2 => bmap fun t2 => cmap (bmap fun e3 => bmap fun s2 => ih _ _ _) (bmap fun e4 => ?_))) (hc _ _ _)
      cases s_l1Put F o e4 with
      | none => rfl
      | some o2 => exact ih _ _ _
  have h2 : ∀ (k : Nat) (o s : List Int) (i : Int), s_l5Later_o_l2 F a g k (.of o) s i = (s_l5Later_l2 F a g k o s i).map NL.of := by
    intro k
    induction k with
    | zero => intro o s i; rfl
    | succ k ih =>
      intro o s i
      simp only [s_l5Later_o_l2, s_l5Later_l2]
      exact cmap (bmap fun e => bmap fun r => h1 _ _ _ _ ih _ _ _ _) rfl
  exact h2 _ _ _ _

end Go.Zq
/- Plain mathematics: lists of lists that are own, and their marks. -/
namespace Go.Zq

end Go.Zq
/- Plain mathematics: the bags of a layout. -/
namespace Go.Zq

theorem appL_some {α : Type} {xs ys : List α} (h : xs.length + ys.length ≤ 1099511627776) : appL xs ys = some (xs ++ ys) := by
  unfold appL
  rw [if_pos (by simpa using h)]

end Go.Zq
/- Plain mathematics: sorted lists of edges. -/
namespace Go.Zq

theorem bef_iff {a b : Int × Int} : bef a b = true ↔ a.1 < b.1 ∨ (a.1 = b.1 ∧ a.2 < b.2) := by
  unfold bef
  simp
theorem bef_trans {a b c : Int × Int} (h : bef a b = true) (h2 : bef b c = true) : bef a c = true := by
  rw [bef_iff] at *
  omega
theorem bef_irr {a : Int × Int} : bef a a = false := by
  cases h : bef a a with
  | false => rfl
  | true => rw [bef_iff] at h; omega
theorem bef_tot {a b : Int × Int} (h : a ≠ b) (h2 : bef a b = false) : bef b a = true := by
  rw [bef_iff]
  have h3 : ¬ (a.1 < b.1 ∨ (a.1 = b.1 ∧ a.2 < b.2)) := fun e => by rw [bef_iff.2 e] at h2; cases h2
  have h4 : ¬ (a.1 = b.1 ∧ a.2 = b.2) := fun e => h (Prod.ext e.1 e.2)
  omega

def SrtE (l : List (Int × Int)) : Prop := l.Pairwise fun a b => bef a b = true

theorem srtE_ext : ∀ (xs ys : List (Int × Int)), SrtE xs → SrtE ys → (∀ z, z ∈ xs ↔ z ∈ ys) → xs = ys
  | [], [], _, _, _ => rfl
  | [], y :: ys, _, _, h => by have := (h y).2 (by simp); simp at this
  | x :: xs, [], _, _, h => by have := (h x).1 (by simp); simp at this
  | x :: xs, y :: ys, hx, hy, h => by
    unfold SrtE at hx hy
    rw [List.pairwise_cons] at hx hy
    have e : x = y := by
      by_cases e : x = y
      · exact e
      have h1 := (h x).1 (by simp)
      have h2 := (h y).2 (by simp)
      rw [List.mem_cons] at h1 h2
      have h3 := hy.1 x (h1.resolve_left e)
      have h4 := hx.1 y (h2.resolve_left (Ne.symm e))
      have h5 := bef_trans h3 h4
      rw [bef_irr] at h5; cases h5
    subst e
    congr 1
    refine srtE_ext xs ys hx.2 hy.2 fun z => ?_
    have h1 := h z
    rw [List.mem_cons, List.mem_cons] at h1
    constructor
    · intro hz
      rcases h1.1 (.inr hz) with rfl | h2
      · have := hx.1 _ hz; rw [bef_irr] at this; cases this
      · exact h2
    · intro hz
      rcases h1.2 (.inr hz) with rfl | h2
      · have := hy.1 _ hz; rw [bef_irr] at this; cases this
      · exact h2

/-- how many elements come first that answer yes -/
def lead {α : Type} (p : α → Bool) : List α → Nat
  | [] => 0
  | x :: xs => if p x then lead p xs + 1 else 0
theorem lead_le {α : Type} {p : α → Bool} : ∀ {xs : List α}, lead p xs ≤ xs.length
  | [] => Nat.le_refl _
  | x :: xs => by
    have := lead_le (p := p) (xs := xs)
    simp only [lead, List.length_cons]
    split <;> omega
theorem lead_lt {α : Type} {p : α → Bool} : ∀ {xs : List α} {i : Nat} (h : i < lead p xs) (h2 : i < xs.length), p xs[i] = true
  | [], i, h, _ => by simp [lead] at h
  | x :: xs, i, h, h2 => by
    simp only [lead] at h
    split at h
    · rename_i hx
      cases i with
      | zero => exact hx
      | succ i => exact lead_lt (xs := xs) (by omega) (by simpa using h2)
    · omega
theorem lead_at {α : Type} {p : α → Bool} : ∀ {xs : List α} (h : lead p xs < xs.length), p xs[lead p xs] = false
  | [], h => by simp [lead] at h
  | x :: xs, h => by
    by_cases hx : p x = true
    · have e : lead p (x :: xs) = lead p xs + 1 := by simp [lead, hx]
      have h' : lead p xs < xs.length := by rw [e] at h; simpa using h
      have := lead_at (p := p) (xs := xs) h'
      simp only [e, List.getElem_cons_succ]
      exact this
    · have e : lead p (x :: xs) = 0 := by simp [lead, hx]
      simp only [e, List.getElem_cons_zero]
      simpa using hx

/-- a pair is put into a sorted list -/
def putE (xs : List (Int × Int)) (e : Int × Int) : List (Int × Int) := xs.take (lead (fun z => bef z e) xs) ++ e :: xs.drop (lead (fun z => bef z e) xs)
theorem putE_mem {xs : List (Int × Int)} {e z : Int × Int} : z ∈ putE xs e ↔ z = e ∨ z ∈ xs := by
  unfold putE
  have : z ∈ xs ↔ z ∈ xs.take (lead (fun z => bef z e) xs) ∨ z ∈ xs.drop (lead (fun z => bef z e) xs) := by
    rw [← List.mem_append, List.take_append_drop]
  rw [this, List.mem_append, List.mem_cons]
  constructor
  · rintro (h | h | h)
    · exact .inr (.inl h)
    · exact .inl h
    · exact .inr (.inr h)
  · rintro (h | h | h)
    · exact .inr (.inl h)
    · exact .inl h
    · exact .inr (.inr h)
theorem putE_len {xs : List (Int × Int)} {e : Int × Int} : (putE xs e).length = xs.length + 1 := by
  unfold putE
  have := lead_le (p := fun z => bef z e) (xs := xs)
  simp; omega
theorem putE_srt {xs : List (Int × Int)} {e : Int × Int} (h : SrtE xs) (he : e ∉ xs) : SrtE (putE xs e) := by
  unfold SrtE at h
  have h0 : (xs.take (lead (fun z => bef z e) xs) ++ xs.drop (lead (fun z => bef z e) xs)).Pairwise (fun a b => bef a b = true) := by rw [List.take_append_drop]; exact h
  rw [List.pairwise_append] at h0
  unfold SrtE putE
  have hd : ∀ z ∈ xs.drop (lead (fun z => bef z e) xs), bef e z = true := by
    intro z hz
    obtain ⟨i, hi, rfl⟩ := List.mem_iff_getElem.1 hz
    have hi' : lead (fun z => bef z e) xs + i < xs.length := by simp at hi; omega
    have h1 := lead_at (p := fun z => bef z e) (xs := xs) (by omega)
    have h2 : bef e (xs[lead (fun z => bef z e) xs]'(by omega)) = true := bef_tot (fun e2 => he (e2 ▸ List.getElem_mem _)) h1
    rw [List.getElem_drop]
    by_cases e0 : i = 0
    · subst e0; exact h2
    · exact bef_trans h2 (List.pairwise_iff_getElem.1 h _ _ (by omega) hi' (by omega))
  rw [List.pairwise_append, List.pairwise_cons]
  refine ⟨h0.1, ⟨hd, h0.2.1⟩, ?_⟩
  intro a ha b hb
  rw [List.mem_cons] at hb
  rcases hb with rfl | hb
  · obtain ⟨i, hi, rfl⟩ := List.mem_iff_getElem.1 ha
    rw [List.getElem_take]
    have hi2 : i < lead (fun z => bef z b) xs ∧ i < xs.length := by simp at hi; omega
    exact lead_lt hi2.1 hi2.2
  · exact h0.2.2 a ha b hb

theorem l2Put_eq {F : Nat} {xs : List (Int × Int)} {e : Int × Int} (hF : xs.length < F) (hl : xs.length ≤ 1000000) : s_l2Put_o F xs e = some (.of (putE xs e)) := by
  have hle := lead_le (p := fun z => bef z e) (xs := xs)
  unfold s_l2Put_o
  refine loop_to (L := fun k i => s_l2Put_o_l1 F xs e k i) (n := lead (fun z => bef z e) xs) ?_ ?_ F (by omega)
  · intro k i hi
    have h1 := lead_lt (p := fun z => bef z e) (xs := xs) hi (by omega)
    simp only [s_l2Put_o_l1, s_l2Put_o_j1]
    rw [decide_eq_true (show (i : Int) < (xs.length : Int) by omega), cond_true, idx_nat (by omega), Option.bind_some, l2Before_eq, Option.bind_some]
    rw [h1, cond_true, w64_succ (n := xs.length) (by omega) (by unfold Sm; omega)]
  · intro k
    have hfin : s_l2Put_o_j1 F xs e ((lead (fun z => bef z e) xs : Nat) : Int) (s_l2Put_o_l1 F xs e k) false = some (.of (putE xs e)) := by
      simp only [s_l2Put_o_j1]
      rw [cond_false, sub_takeO hle, Option.bind_some, appL_some (by simp; omega), Option.bind_some, appL_some (by simp; omega), Option.bind_some, sub_drop hle, Option.bind_some, appL_some (by simp; omega), Option.bind_some]
      unfold putE
      simp
    simp only [s_l2Put_o_l1]
    by_cases h : lead (fun z => bef z e) xs < xs.length
    · have h1 := lead_at (p := fun z => bef z e) (xs := xs) h
      rw [decide_eq_true (show ((lead (fun z => bef z e) xs : Nat) : Int) < (xs.length : Int) by omega), cond_true, idx_nat h, Option.bind_some, l2Before_eq, Option.bind_some]
      rw [h1]
      exact hfin
    · rw [decide_eq_false (show ¬ ((lead (fun z => bef z e) xs : Nat) : Int) < (xs.length : Int) by omega), cond_false]
      exact hfin

end Go.Zq
/- Plain mathematics: perfect eliminations. -/
namespace Go.Zq

end Go.Zq
/- Plain mathematics: lists compared; the greatest clique. -/
namespace Go.Zq

end Go.Zq
/- Plain mathematics: graphs of sets of nodes; the degeneracy. -/
namespace Go.Zq

end Go.Zq
/- Plain mathematics: the degeneracy. -/
namespace Go.Zq

theorem least_eq {F : Nat} {a b : Int} : s_l1Least F a b = some (min a b) := by
  unfold s_l1Least
  by_cases h : a < b
  · simp [h]; omega
  · simp [h]; omega

end Go.Zq
/- Plain mathematics: the filling of an elimination, as a graph. -/
namespace Go.Zq

def SymP (P : Nat → Nat → Bool) : Prop := ∀ a b, P a b = P b a
theorem symP_step {P : Nat → Nat → Bool} {q : Nat → Bool} {x : Nat} (h : SymP P) : SymP fun a b => P a b || ((P x a && !q a) && (P x b && !q b) && !(b == a)) := by
  intro a b
  show (P a b || _) = (P b a || _)
  rw [h a b, Bool.and_comm (P x a && !q a)]
  congr 3
  by_cases e : a = b
  · subst e; rfl
  · have h1 : (a == b) = false := by simpa using e
    have h2 : (b == a) = false := by simp; omega
    rw [h1, h2]

theorem fill_eq2 {F : Nat} {g : Gr} {l : List Int} (hg : good g = true) (ho : isOrd g.1 l = true) (hF : 20 ≤ F) : ∃ L P, i_net_filling F ⟨nearL g⟩ l = some ⟨L⟩ ∧ HavIs g.1.toNat g.1.toNat P L ∧ FilP g l l.length P ∧ SymP P := by
  have h8 := good_size hg
  have hlen := isOrd_len ho
  unfold i_net_filling i_net_clone_o slices_Clone_o
  obtain ⟨o0, h0, h0l⟩ := cloneO_list (xs := nearL g) (by rw [nearL_len]; omega)
  rw [h0, Option.bind_some, Option.bind_some]
  have hall : i_net_all F ⟨nearL g⟩ = some ((mkm (fun j => !preP l 0 j) g.1.toNat : Nat) : Int) := by
    have hp := Nat.two_pow_pos g.1.toNat
    have := pow256 (n := g.1.toNat) (by omega)
    unfold i_net_all
    rw [nearL_len, one_shl (by omega), Option.bind_some, w64_id (by omega) (by omega)]
    have e : mkm (fun j => !preP l 0 j) g.1.toNat = 2 ^ g.1.toNat - 1 := by
      symm
      refine mkm_of fun j => ?_
      rw [Nat.testBit_two_pow_sub_one]
      simp [preP]
    rw [e]
    congr 1; omega
  rw [hall, Option.bind_some]
  obtain ⟨⟨s, lf⟩, ⟨⟨P, h1, h2, hy⟩, _⟩, he⟩ := loop_ex (L := fun k t (s : NL Int × Int) => i_net_filling_l2 F l k s.1 s.2 t) (n := l.length)
    (fun t s => (∃ P, HavIs g.1.toNat g.1.toNat P s.1.list ∧ FilP g l t P ∧ SymP P) ∧ s.2 = ((mkm (fun j => !preP l t j) g.1.toNat : Nat) : Int)) (fin := fun s => some ⟨s.1.list⟩) (by
      rintro k t ⟨s, lf⟩ ht ⟨⟨P, h1, h2, hy⟩, h3⟩
      simp only at h1 h3
      subst h3
      have hr := isOrd_in ho h8.1 _ (getD_mem (d := 0) ht)
      obtain ⟨x, hx⟩ : ∃ x : Nat, l.getD t 0 = x := ⟨(l.getD t 0).toNat, by omega⟩
      have hxn : x < g.1.toNat := by omega
      have hxi : preP l (t + 1) x = true := by rw [pre_succ ht hx]; simp
      have hpow : ((2 ^ x : Nat) : Int) = ((mkm (fun j => j == x) g.1.toNat : Nat) : Int) := by
        congr 1
        refine mkm_of fun j => ?_
        rw [Nat.testBit_two_pow]
        by_cases e : x = j
        · subst e; simp [hxn]
        · have h1 : decide (x = j) = false := by simpa using e
          have h2 : (j == x) = false := by simp; omega
          rw [h1, h2]; simp
      have hleft : iandNot .i64 ((mkm (fun j => !preP l t j) g.1.toNat : Nat) : Int) ((2 ^ x : Nat) : Int) = ((mkm (fun j => !preP l (t + 1) j) g.1.toNat : Nat) : Int) := by
        rw [hpow, andNot_mkm (by omega)]
        congr 1
        refine mkm_congr fun j _ => ?_
        show (!preP l t j && !(j == x)) = !preP l (t + 1) j
        rw [pre_succ ht hx]
        cases preP l t j <;> cases (j == x) <;> rfl
      obtain ⟨o', p1, p2⟩ := fill_in (F := F) (i := t) (c := i_net_filling_l2 F l k) hg hF hxn h1 hxi hleft
      refine ⟨(o', ((mkm (fun j => !preP l (t + 1) j) g.1.toNat : Nat) : Int)), ⟨⟨_, p1, fil_step hg ho ht hx h2, symP_step hy⟩, rfl⟩, ?_⟩
      simp only [i_net_filling_l2]
      rw [decide_eq_true (show (t : Int) < (l.length : Int) by omega), cond_true, idx_getD (d := 0) ht, Option.bind_some, hx, one_shl (by omega), Option.bind_some, idx_getD (d := 0) (by rw [h1.1]; exact hxn), Option.bind_some, h1.2 x hxn]
      have hset : i_setOf F (iand .i64 ((mkm (P x) g.1.toNat : Nat) : Int) (iandNot .i64 ((mkm (fun j => !preP l t j) g.1.toNat : Nat) : Int) ((2 ^ x : Nat) : Int))) = some (listN (fun j => P x j && !preP l (t + 1) j) g.1.toNat) := by
        rw [hleft, and_mkm (by omega)]
        exact setOf_eq (by omega) hF
      rw [hset, Option.bind_some, p2, w64_succ ht (by unfold Sm; omega), hleft]) (by
      rintro k ⟨s, lf⟩ _
      simp only [i_net_filling_l2]
      rw [decide_eq_false (show ¬ (l.length : Int) < (l.length : Int) by omega), cond_false]) F (o0, _) (by omega) ⟨⟨adj g, ⟨by rw [h0l, nearL_len], fun x hx => by rw [h0l]; exact nearL_get hx⟩, fil_zero hg, fun a b => adj_comm⟩, rfl⟩
  exact ⟨s.list, P, he, h1, h2, hy⟩

/-- the pairs that the reference has put in -/
def filM (g : Gr) (l : List Int) (i : Nat) (z : Int × Int) : Prop := ∃ t x b : Nat, t < i ∧ l.getD t 0 = (x : Int) ∧ b < g.1.toNat ∧ latP g (goneM l g.1.toNat t) x b = true ∧ z = (min (x : Int) b, max (x : Int) b)
/-- the pairs of a relation -/
def prM (n : Nat) (P : Nat → Nat → Bool) (z : Int × Int) : Prop := ∃ a b : Nat, a < b ∧ b < n ∧ P a b = true ∧ z = ((a : Int), (b : Int))

theorem preP_of {l : List Int} {t i x : Nat} (ht : t < i) (hl : t < l.length) (hx : l.getD t 0 = (x : Int)) : preP l i x = true := by
  unfold preP
  refine decide_eq_true ?_
  rw [List.mem_take_iff_getElem]
  refine ⟨t, by omega, ?_⟩
  rw [← hx, List.getD_eq_getElem?_getD, List.getElem?_eq_getElem hl]; rfl

theorem latP_of {g : Gr} {m x b : Nat} (h : latP g m x b = true) : m.testBit b = false ∧ b ≠ x := by
  unfold latP at h
  simp only [Bool.and_eq_true, Bool.not_eq_true', beq_eq_false_iff_ne] at h
  exact h.1

theorem listN_fresh {q : Nat → Bool} {n j a : Nat} (hj : j < (listN q n).length) (ha : (listN q n).getD j 0 = (a : Int)) : preP (listN q n) j a = false := by
  unfold preP
  refine decide_eq_false fun hm => ?_
  rw [List.mem_take_iff_getElem] at hm
  obtain ⟨i, hi, he⟩ := hm
  have hs := listN_srt (p := q) (n := n)
  unfold Srt at hs
  have := List.pairwise_iff_getElem.1 hs i j (by omega) hj (by omega)
  rw [List.getD_eq_getElem?_getD, List.getElem?_eq_getElem hj, Option.getD_some] at ha
  omega

theorem sFilIn {F i x : Nat} {g : Gr} {l : List Int} {o : NL (Int × Int)} {c : NL (Int × Int) → Int → Option Gr} (hg : good g = true) (ho : isOrd g.1 l = true) (hF : 300 ≤ F) (hi : i < l.length) (hx : l.getD i 0 = (x : Int)) (hxn : x < g.1.toNat)
    (h1 : SrtE o.list) (h2 : o.list.length ≤ 8 * i) (h3 : ∀ z, z ∈ o.list ↔ filM g l i z) :
    ∃ o', s_l5Filling_l1 F l g (i : Int) (.of (listN (latP g (goneM l g.1.toNat i) x) g.1.toNat)) c F o 0 = c o' (w64 ((i : Int) + 1)) ∧ SrtE o'.list ∧ o'.list.length ≤ 8 * (i + 1) ∧ ∀ z, z ∈ o'.list ↔ filM g l (i + 1) z := by
  have h8 := good_size hg
  have hlen := isOrd_len ho
  have hfr := ord_fresh ho h8.1 hi hx
  obtain ⟨n, hn⟩ : ∃ n : Nat, g.1.toNat = n := ⟨_, rfl⟩
  obtain ⟨q, hq⟩ : ∃ q, latP g (goneM l n i) x = q := ⟨_, rfl⟩
  have hc := listN_len (p := q) (n := n)
  have hc2 := cnt_le (p := q) (n := n)
  rw [hn, hq]
  rw [hn] at hxn
  obtain ⟨o', ⟨h4, h5, h6⟩, h7⟩ := loop_ex (L := fun k j (s : NL (Int × Int)) => s_l5Filling_l1 F l g (i : Int) (.of (listN q n)) c k s j) (n := (listN q n).length) (fin := fun s => c s (w64 ((i : Int) + 1)))
    (fun j s => SrtE s.list ∧ s.list.length ≤ 8 * i + j ∧ ∀ z, z ∈ s.list ↔ filM g l i z ∨ ∃ b : Nat, preP (listN q n) j b = true ∧ z = (min (x : Int) b, max (x : Int) b)) (by
      rintro k j s hj ⟨p1, p2, p3⟩
      obtain ⟨a, ha, han, haq⟩ := listN_get hj
      have hnew := listN_fresh hj ha
      simp only [s_l5Filling_l1]
      rw [show (NL.of (listN q n)).list = listN q n from rfl, decide_eq_true (show (j : Int) < ((listN q n).length : Int) by omega), cond_true, idx_getD (d := 0) hi, Option.bind_some, hx, idx_getD (d := 0) hj, Option.bind_some, ha, least_eq, Option.bind_some, Option.bind_some, Option.bind_some, most_eq, Option.bind_some]
      rw [l2Put_eq (by omega) (by omega), Option.bind_some, w64_succ hj (by unfold Sm; omega)]
      refine ⟨.of (putE s.list (min (x : Int) a, max (x : Int) a)), ⟨(putE_srt p1 ?_ : SrtE (putE s.list (min (x : Int) a, max (x : Int) a))), ?_, ?_⟩, rfl⟩
      · intro hm
        rw [p3] at hm
        rcases hm with ⟨t, x', b', ht, hx', hb', hl', he⟩ | ⟨b, hb, he⟩
        · have hpx := preP_of ht (show t < l.length by omega) hx'
          simp only [Prod.mk.injEq] at he
          have : x' = x ∨ (x' = a ∧ b' = x) := by omega
          rcases this with rfl | ⟨rfl, rfl⟩
          · rw [hfr] at hpx; cases hpx
          · rw [← hq] at haq
            have := (latP_of haq).1
            rw [goneM_bit han, hpx] at this; cases this
        · simp only [Prod.mk.injEq] at he
          have : b = a := by omega
          subst this
          rw [hnew] at hb; cases hb
      · rw [show NL.list (NL.of (putE s.list (min (x : Int) a, max (x : Int) a))) = putE s.list (min (x : Int) a, max (x : Int) a) from rfl, putE_len]; omega
      · intro z
        show z ∈ putE s.list _ ↔ _
        rw [putE_mem, p3]
        constructor
        · rintro (rfl | h | ⟨b, hb, he⟩)
          · exact .inr ⟨a, by rw [pre_succ hj ha]; simp, rfl⟩
          · exact .inl h
          · exact .inr ⟨b, by rw [pre_succ hj ha, hb]; rfl, he⟩
        · rintro (h | ⟨b, hb, he⟩)
          · exact .inr (.inl h)
          · rw [pre_succ hj ha, Bool.or_eq_true, beq_iff_eq] at hb
            rcases hb with hb | rfl
            · exact .inr (.inr ⟨b, hb, he⟩)
            · exact .inl he) (by
      rintro k s _
      simp only [s_l5Filling_l1]
      rw [show (NL.of (listN q n)).list = listN q n from rfl, decide_eq_false (show ¬ ((listN q n).length : Int) < ((listN q n).length : Int) by omega), cond_false]) F o (by omega) ⟨h1, by omega, fun z => by
        rw [h3]
        constructor
        · exact .inl
        · rintro (h | ⟨b, hb, _⟩)
          · exact h
          · simp [preP] at hb⟩
  refine ⟨o', h7, h4, by omega, fun z => ?_⟩
  rw [h6]
  constructor
  · rintro (⟨t, x', b', ht, h⟩ | ⟨b, hb, he⟩)
    · exact ⟨t, x', b', by omega, h⟩
    · unfold preP at hb
      rw [List.take_length, decide_eq_true_eq, listN_mem] at hb
      obtain ⟨b', hb1, hb2, hb3⟩ := hb
      obtain rfl : b = b' := by omega
      exact ⟨i, x, b, by omega, hx, by rw [hn]; exact hb2, by rw [hn, hq]; exact hb3, he⟩
  · rintro ⟨t, x', b', ht, hx', hb', hl', he⟩
    by_cases e : t = i
    · subst e
      obtain rfl : x = x' := by omega
      refine .inr ⟨b', ?_, he⟩
      unfold preP
      rw [List.take_length, decide_eq_true_eq, listN_mem]
      rw [hn] at hb' hl'
      exact ⟨b', rfl, hb', by rw [← hq]; exact hl'⟩
    · exact .inl ⟨t, x', b', by omega, hx', hb', hl', he⟩

theorem sFil_eq {F : Nat} {g : Gr} {l : List Int} (hg : good g = true) (ho : isOrd g.1 l = true) (hF : 300 ≤ F) (hG : g.2.length < F) (hs : Sm g.2.length) :
    ∃ E, s_l5Filling F g l = some (g.1, E) ∧ SrtE E ∧ E.length ≤ 64 ∧ ∀ z, z ∈ E ↔ filM g l l.length z := by
  have h8 := good_size hg
  have hlen := isOrd_len ho
  unfold s_l5Filling
  obtain ⟨o, ⟨h1, h2, h3⟩, h4⟩ := loop_ex (L := fun k i (s : NL (Int × Int)) => s_l5Filling_l2 F l g k s i) (n := l.length) (fin := fun s => some (g.1, s.list))
    (fun i s => SrtE s.list ∧ s.list.length ≤ 8 * i ∧ ∀ z, z ∈ s.list ↔ filM g l i z) (by
      rintro k i s hi ⟨p1, p2, p3⟩
      have hr := isOrd_in ho h8.1 _ (getD_mem (d := 0) hi)
      obtain ⟨x, hx⟩ : ∃ x : Nat, l.getD i 0 = x := ⟨(l.getD i 0).toNat, by omega⟩
      obtain ⟨o', q1, q2, q3, q4⟩ := sFilIn (F := F) (o := s) (c := s_l5Filling_l2 F l g k) hg ho hF hi hx (by omega) p1 p2 p3
      refine ⟨o', ⟨q2, q3, q4⟩, ?_⟩
      simp only [s_l5Filling_l2]
      rw [decide_eq_true (show (i : Int) < (l.length : Int) by omega), cond_true, sub_takeO (by omega), Option.bind_some, idx_getD (d := 0) hi, Option.bind_some, hx, later_o, later_take hg ho (by omega) hG hs (by omega) (by omega), Option.map_some, Option.bind_some, q1, w64_succ hi (by unfold Sm; omega)]) (by
      rintro k s _
      simp only [s_l5Filling_l2]
      rw [decide_eq_false (show ¬ (l.length : Int) < (l.length : Int) by omega), cond_false]) F (.of []) (by omega) ⟨List.Pairwise.nil, by simp [NL.list], fun z => ⟨fun h => by simp [NL.list] at h, fun ⟨t, _, _, ht, _⟩ => absurd ht (by omega)⟩⟩
  exact ⟨o.list, h4, h1, by omega, h3⟩

theorem filM_pr {g : Gr} {l : List Int} {P : Nat → Nat → Bool} (hg : good g = true) (ho : isOrd g.1 l = true) (hP : FilP g l l.length P) (hy : SymP P) (z : Int × Int) : filM g l l.length z ↔ prM g.1.toNat P z := by
  have h8 := good_size hg
  have hlen := isOrd_len ho
  have hat : ∀ a : Nat, a < g.1.toNat → ∃ t, t < l.length ∧ l.getD t 0 = (a : Int) := by
    intro a ha
    have := isOrd_mem ho (x := (a : Int)) (by omega) (by omega)
    obtain ⟨t, ht, he⟩ := List.mem_iff_getElem.1 this
    exact ⟨t, ht, by rw [List.getD_eq_getElem?_getD, List.getElem?_eq_getElem ht]; exact he⟩
  constructor
  · rintro ⟨t, x, b, ht, hx, hb, hl, rfl⟩
    have hr := isOrd_in ho h8.1 _ (getD_mem (d := 0) ht)
    have hxn : x < g.1.toNat := by omega
    obtain ⟨h1, h2⟩ := latP_of hl
    rw [goneM_bit hb] at h1
    have hp : preP l (t + 1) b = false := by
      rw [pre_succ ht hx, h1]; simpa using h2
    have h3 : P x b = true := by rw [hP.old t x ht ht hx b hb hp]; exact hl
    by_cases e : x < b
    · exact ⟨x, b, e, hb, h3, by rw [Int.min_eq_left (by omega), Int.max_eq_right (by omega)]⟩
    · exact ⟨b, x, by omega, hxn, by rw [hy]; exact h3, by rw [Int.min_eq_right (by omega), Int.max_eq_left (by omega)]⟩
  · rintro ⟨a, b, hab, hb, hp, rfl⟩
    obtain ⟨s, hs, hsa⟩ := hat a (by omega)
    obtain ⟨t, ht, htb⟩ := hat b hb
    have hne : s ≠ t := fun e => by subst e; omega
    by_cases hlt : s < t
    · have h1 := pre_mono (show s + 1 ≤ t by omega) (ord_fresh ho h8.1 ht htb)
      have h2 := hP.old s a hs hs hsa b hb h1
      exact ⟨s, a, b, hs, hsa, hb, by rw [← h2]; exact hp, by rw [Int.min_eq_left (by omega), Int.max_eq_right (by omega)]⟩
    · have h1 := pre_mono (show t + 1 ≤ s by omega) (ord_fresh ho h8.1 hs hsa)
      have h2 := hP.old t b ht ht htb a (by omega) h1
      exact ⟨t, b, a, ht, htb, by omega, by rw [← h2, hy]; exact hp, by rw [Int.min_eq_right (by omega), Int.max_eq_left (by omega)]⟩

theorem has_hav {F n a b : Nat} {P : Nat → Nat → Bool} {L : List Int} (h : HavIs n n P L) (hn : n ≤ 8) (ha : a < n) (hb : b < n) : i_net_has F ⟨L⟩ (a : Int) (b : Int) = some (P a b) := by
  unfold i_net_has
  obtain ⟨q, h1, h2, _⟩ := bit_at (m := mkm (P a) n) (j := b) (mkm_lt63 (by omega)) (by omega)
  rw [idx_getD (d := 0) (by rw [h.1]; exact ha), Option.bind_some, h.2 a ha, h1, Option.bind_some, h2, mkm_bit, decide_eq_true hb, Bool.true_and]

theorem graphBy_eq {F n : Nat} {P : Nat → Nat → Bool} {L : List Int} (h : HavIs n n P L) (hn : n ≤ 8) (hF : 300 ≤ F) :
    ∃ o, i_net_graph_o F ⟨L⟩ = some ((n : Int), o) ∧ SrtE o.list ∧ o.list.length ≤ 64 ∧ ∀ z, z ∈ o.list ↔ prM n P z := by
  unfold i_net_graph_o i_net_size i_graphBy_of_i_net_has_o
  rw [Option.bind_some, h.1]
  obtain ⟨o, ⟨h1, h2, h3⟩, h4⟩ := loop_ex (L := fun k i (s : NL (Int × Int)) => i_graphBy_of_i_net_has_o_l2 F (n : Int) ⟨(⟨L⟩, ()), ()⟩ k s i) (n := n) (fin := fun s => some ((n : Int), s))
    (fun i s => SrtE s.list ∧ s.list.length ≤ 8 * i ∧ ∀ z, z ∈ s.list ↔ ∃ a b : Nat, a < i ∧ a < b ∧ b < n ∧ P a b = true ∧ z = ((a : Int), (b : Int))) (by
      rintro k a s ha ⟨p1, p2, p3⟩
      obtain ⟨o', ⟨q1, q2, q3⟩, q4⟩ := loop_ex (L := fun k' j (s : NL (Int × Int)) => i_graphBy_of_i_net_has_o_l1 F (n : Int) ⟨(⟨L⟩, ()), ()⟩ (a : Int) (i_graphBy_of_i_net_has_o_l2 F (n : Int) ⟨(⟨L⟩, ()), ()⟩ k) k' s (((a + 1 : Nat) : Int) + j)) (n := n - (a + 1)) (fin := fun s => i_graphBy_of_i_net_has_o_l2 F (n : Int) ⟨(⟨L⟩, ()), ()⟩ k s ((a + 1 : Nat) : Int))
        (fun j s => SrtE s.list ∧ s.list.length ≤ 8 * a + j ∧ ∀ z, z ∈ s.list ↔ (∃ a' b : Nat, a' < a ∧ a' < b ∧ b < n ∧ P a' b = true ∧ z = ((a' : Int), (b : Int))) ∨ ∃ b : Nat, a < b ∧ b < a + 1 + j ∧ P a b = true ∧ z = ((a : Int), (b : Int))) (by
          rintro k' j s hj ⟨r1, r2, r3⟩
          have hb : a + 1 + j < n := by omega
          simp only [i_graphBy_of_i_net_has_o_l1, i_graphBy_of_i_net_has_o_j1]
          rw [show ((a + 1 : Nat) : Int) + (j : Int) = ((a + 1 + j : Nat) : Int) by omega, show ((a + 1 : Nat) : Int) + ((j + 1 : Nat) : Int) = ((a + 1 + j + 1 : Nat) : Int) by omega, decide_eq_true (show ((a + 1 + j : Nat) : Int) < (n : Int) by omega), cond_true, has_hav h hn ha hb, Option.bind_some, w64_succ hb (by unfold Sm; omega)]
          cases hp : P a (a + 1 + j) with
          | false =>
            refine ⟨s, ⟨r1, by omega, fun z => ?_⟩, rfl⟩
            rw [r3]
            constructor
            · rintro (h | ⟨b, u1, u2, u3⟩)
              · exact .inl h
              · exact .inr ⟨b, u1, by omega, u3⟩
            · rintro (h | ⟨b, u1, u2, u3, u4⟩)
              · exact .inl h
              · by_cases e : b = a + 1 + j
                · subst e; rw [hp] at u3; cases u3
                · exact .inr ⟨b, u1, by omega, u3, u4⟩
          | true =>
            rw [cond_true, appL_some (by simp; omega), Option.bind_some]
            refine ⟨_, ⟨?_, ?_, fun z => ?_⟩, rfl⟩
            · show SrtE (s.list ++ [((a : Int), ((a + 1 + j : Nat) : Int))])
              unfold SrtE at r1 ⊢
              rw [List.pairwise_append]
              refine ⟨r1, by simp, fun u hu v hv => ?_⟩
              rw [List.mem_singleton] at hv
              subst hv
              rw [r3] at hu
              rw [bef_iff]
              rcases hu with ⟨a', b, u1, _, _, _, rfl⟩ | ⟨b, _, u2, _, rfl⟩
              · exact .inl (by show (a' : Int) < a; omega)
              · exact .inr ⟨rfl, by show (b : Int) < ((a + 1 + j : Nat) : Int); omega⟩
            · show (s.list ++ [((a : Int), ((a + 1 + j : Nat) : Int))]).length ≤ _
              rw [List.length_append, List.length_singleton]; omega
            · show z ∈ s.list ++ [((a : Int), ((a + 1 + j : Nat) : Int))] ↔ _
              rw [List.mem_append, List.mem_singleton, r3]
              constructor
              · rintro ((h | ⟨b, u1, u2, u3⟩) | rfl)
                · exact .inl h
                · exact .inr ⟨b, u1, by omega, u3⟩
                · exact .inr ⟨a + 1 + j, by omega, by omega, hp, rfl⟩
              · rintro (h | ⟨b, u1, u2, u3, u4⟩)
                · exact .inl (.inl h)
                · by_cases e : b = a + 1 + j
                  · subst e; exact .inr u4
                  · exact .inl (.inr ⟨b, u1, by omega, u3, u4⟩)) (by
          rintro k' s _
          simp only [i_graphBy_of_i_net_has_o_l1]
          rw [show ((a + 1 : Nat) : Int) + ((n - (a + 1) : Nat) : Int) = (n : Int) by omega, decide_eq_false (show ¬ (n : Int) < (n : Int) by omega), cond_false, w64_succ ha (by unfold Sm; omega)]) F s (by omega) ⟨p1, by omega, fun z => by
            rw [p3]
            constructor
            · exact .inl
            · rintro (h | ⟨b, u1, u2, _⟩)
              · exact h
              · omega⟩
      refine ⟨o', ⟨q1, by omega, fun z => ?_⟩, ?_⟩
      · rw [q3]
        constructor
        · rintro (⟨a', b, u1, u⟩ | ⟨b, u1, u2, u3, u4⟩)
          · exact ⟨a', b, by omega, u⟩
          · exact ⟨a, b, by omega, u1, by omega, u3, u4⟩
        · rintro ⟨a', b, u1, u2, u3, u4, u5⟩
          by_cases e : a' = a
          · subst e; exact .inr ⟨b, u2, by omega, u4, u5⟩
          · exact .inl ⟨a', b, by omega, u2, u3, u4, u5⟩
      · simp only [i_graphBy_of_i_net_has_o_l2]
        rw [decide_eq_true (show (a : Int) < (n : Int) by omega), cond_true, w64_succ ha (by unfold Sm; omega), ← q4, Int.add_zero]) (by
      rintro k s _
      simp only [i_graphBy_of_i_net_has_o_l2]
      rw [decide_eq_false (show ¬ (n : Int) < (n : Int) by omega), cond_false]) F .nil (by omega) ⟨List.Pairwise.nil, by simp [NL.list], fun z => ⟨fun h => by simp [NL.list] at h, fun ⟨_, _, h, _⟩ => absurd h (by omega)⟩⟩
  refine ⟨o, ?_, h1, by omega, fun z => ?_⟩
  · rw [h4, Option.bind_some]
  · rw [h3]
    exact ⟨fun ⟨a, b, _, u⟩ => ⟨a, b, u⟩, fun ⟨a, b, u1, u⟩ => ⟨a, b, by omega, u1, u⟩⟩

theorem exFillingOf {F : Nat} {g : Gr} {l : List Int} (hF : l.length < F) (hG : g.2.length < F) (h9 : 300 ≤ F) (hl : Sm l.length) (hs : Sm g.2.length) :
    ∃ a R c o, s_FillingOf F g l = some ((a, R), c) ∧ i_FillingOf_o F g l = some ((a, o), c) ∧ o.list = R ∧ R.length ≤ 1000 := by
  unfold s_FillingOf s_l5Order i_FillingOf_o
  rw [l2Good_eq hG hs, isGraph_eq hG (by omega) hs, Option.bind_some, Option.bind_some]
  cases hg : good g with
  | false => exact ⟨0, [], false, .nil, rfl, rfl, rfl, by simp⟩
  | true =>
    have h8 := good_size hg
    rw [cond_true, Bool.not_true, cond_false, l2Each_eq h8.1 h8.2 hF (by omega) hl, isOrder_eq h8.1 h8.2 hF hl, Option.bind_some, Option.bind_some, Option.bind_some]
    cases ho : isOrd g.1 l with
    | false => exact ⟨0, [], false, .nil, rfl, rfl, rfl, by simp⟩
    | true =>
      obtain ⟨E, e1, e2, e3, e4⟩ := sFil_eq hg ho h9 hG hs
      obtain ⟨L, P, f1, f2, f3, f4⟩ := fill_eq2 (F := F) hg ho (by omega)
      obtain ⟨o, g1, g2, g3, g4⟩ := graphBy_eq (F := F) f2 (by omega) h9
      refine ⟨g.1, E, true, o, ?_, ?_, ?_, by omega⟩
      · rw [Bool.not_true, cond_false, e1, Option.bind_some]
      · simp only [i_FillingOf_o_j1]
        rw [Bool.not_true, cond_false, netOf_eq hg hG hs, Option.bind_some, f1, Option.bind_some, g1, Option.bind_some, show ((g.1.toNat : Nat) : Int) = g.1 by omega]
      · exact srtE_ext _ _ g2 e2 fun z => by rw [g4, e4]; exact (filM_pr hg ho f3 f4 z).symm

end Go.Zq
/- Plain mathematics: marks of a graph that is one's own. -/
namespace Go.Zq

theorem heldGraph_eq {F : Nat} {a : Int} {ys : List (Int × Int)} {k : Int} (hF : ys.length < F) (h3 : 3 ≤ F) (hl : ys.length ≤ 1099511627776) (h0 : 0 ≤ k) (hk : k ≤ 4611686018427387904) (hy : ∀ i, i < ys.length → ys[i]? = some (k + 2 * (i : Int), k + 2 * (i : Int) + 1)) :
    w_heldGraph F (a, ys) k = some (k + 2 * ys.length) := by
  have h : w_heldIntA2S F ys k = some (k + 2 * ys.length) := by
    unfold w_heldIntA2S
    refine loop_inv (L := fun j i s => w_heldIntA2S_l2 F ys j s i) (n := ys.length) (fun i s => s = k + 2 * (i : Int)) ?_ ?_ F k hF (by omega)
    · rintro j i s hi rfl
      refine ⟨_, rfl, ?_⟩
      obtain ⟨f, rfl⟩ : ∃ f, F = f + 3 := ⟨F - 3, by omega⟩
      have e := hy i hi
      rw [List.getElem?_eq_getElem hi, Option.some.injEq] at e
      simp only [w_heldIntA2S_l2]
      rw [decide_eq_true (show (i : Int) < (ys.length : Int) by omega), cond_true]
      rw [w_heldIntA2S_l1, show (decide ((0 : Int) < 2)) = true from rfl, cond_true, idx_nat hi, Option.bind_some, e]
      rw [show idx [k + 2 * (i : Int), k + 2 * (i : Int) + 1] 0 = some (k + 2 * (i : Int)) from rfl, Option.bind_some, bne_self_eq_false, cond_false]
      rw [show w64 (0 + 1) = 1 from by decide, w64_id (x := k + 2 * (i : Int) + 1) (by omega) (by omega)]
      rw [w_heldIntA2S_l1, show (decide ((1 : Int) < 2)) = true from rfl, cond_true, idx_nat hi, Option.bind_some, e]
      rw [show idx [k + 2 * (i : Int), k + 2 * (i : Int) + 1] 1 = some (k + 2 * (i : Int) + 1) from rfl, Option.bind_some, bne_self_eq_false, cond_false]
      rw [show w64 (1 + 1) = 2 from by decide, w64_id (x := k + 2 * (i : Int) + 1 + 1) (by omega) (by omega)]
      rw [w_heldIntA2S_l1, show (decide ((2 : Int) < 2)) = false from rfl, cond_false, w64_succ hi (by unfold Sm; omega)]
      congr 1; omega
    · rintro j s rfl
      simp only [w_heldIntA2S_l2]
      rw [decide_eq_false (show ¬ (ys.length : Int) < (ys.length : Int) by omega), cond_false]
  unfold w_heldGraph
  rw [h, Option.bind_some, decide_eq_false (show ¬ (k + 2 * (ys.length : Int)) < 0 by omega), cond_false]

theorem markGraphN {F : Nat} {a : Int} {o : NL (Int × Int)} {k : Int} (hF : o.list.length < F) (h3 : 3 ≤ F) (hl : o.list.length ≤ 1099511627776) (h0 : 0 ≤ k) (hk : k ≤ 4611686018427387904) :
    ∃ o', w_markGraph F ⟨a, o⟩ k = some (k + 2 * o.list.length, ⟨a, o'⟩) ∧ remarkG a o ⟨a, o'⟩ = some o' ∧ w_heldGraph F (a, o'.list) k = some (k + 2 * o.list.length) := by
  cases o with
  | of xs =>
    obtain ⟨ys, h1, h2, h4⟩ := markGraph_eq (F := F) (a := a) (xs := xs) (k := k) hF h3 hl h0 hk
    refine ⟨.of ys, h1, ?_, ?_⟩
    · unfold remarkG remark
      simp [h2]
    · have hl2 : (NL.of xs).list.length = ys.length := h2.symm
      rw [hl2]
      refine heldGraph_eq (ys := ys) (by rw [h2]; exact hF) h3 (by rw [h2]; exact hl) h0 hk fun i hi => h4 i (by omega)
  | nil =>
    obtain ⟨f, rfl⟩ : ∃ f, F = f + 3 := ⟨F - 3, by omega⟩
    refine ⟨.nil, ?_, ?_, ?_⟩
    · unfold w_markGraph w_markIntA2S
      rw [w_markIntA2S_l2]
      simp [NL.list, remark]
    · simp [remarkG, remark]
    · have := heldGraph_eq (F := f + 3) (a := a) (ys := []) (k := k) (by simp) h3 (by simp) h0 hk (by simp)
      exact this

end Go.Zq
/- The law FillingOf, as a plain statement. -/
namespace Go.Zq

theorem lawFillingOf {F : Nat} {g : Gr} {l : List Int} (hF : 2097152 ≤ F) (hg : g.2.length ≤ 9223372036854775807) : w_FnExactFillingOf F g l = some true := by
  unfold w_FnExactFillingOf
  by_cases h : (l.length : Int) > 1048576
  · simp [h]
  simp only [h, decide_false, cond_false]
  rw [szGraph_eq (by omega) (by omega) hg, Option.bind_some]
  by_cases h2 : (1048576 : Int) - g.2.length < 0
  · simp [h2]
  simp only [h2, if_false, decide_false, cond_false]
  obtain ⟨a, R, c, o, hs, hi, ho, hl⟩ := exFillingOf (F := F) (g := g) (l := l) (by omega) (by omega) (by omega) (by unfold Sm; omega) (by unfold Sm; omega)
  have e1 : w_toGraph F g = some g := toGraph_eq (by omega) (by omega) (by omega)
  have e2 : w_toGraph_o F g = some (g.1, .of g.2) := toGraph_o_eq (by omega) (by omega) (by omega)
  have e3 : w_toIntS F l = some l := toIntS_eq (by omega) (by omega)
  have e4 : w_toIntS_o F l = some (.of l) := toIntS_o_eq (by omega) (by omega)
  have e5 : w_eqGraph F (a, o.list) (a, R) = some true := by rw [ho]; exact eqGraph_eq (g := (a, R)) (by show R.length < F; omega) (by unfold Sm; show R.length ≤ _; omega) (by omega)
  have e6 : w_eqGraph F (g.1, (NL.of g.2).list) g = some true := eqGraph_eq (g := g) (by omega) (by unfold Sm; omega) (by omega)
  have e7 : w_eqIntS F (NL.of l).list l = some true := eqIntS_eq (xs := l) (by omega) (by unfold Sm; omega)
  obtain ⟨u, e8, _, _⟩ := markGraphN (F := F) (a := g.1) (o := .of g.2) (k := 1) (by show g.2.length < F; omega) (by omega) (by show g.2.length ≤ _; omega) (by omega) (by omega)
  obtain ⟨o1, m1, _, _⟩ := markIntS_eq (F := F) (o := .of l) (k := 1 + 2 * ((NL.of g.2).list.length : Int)) (by simp only [NL.list]; omega) (by simp only [NL.list]; omega) (by omega) (by simp only [NL.list]; omega)
  have e9 : decide ((1 + 2 * ((NL.of g.2).list.length : Int) + ((NL.of l).list.length : Int)) < 0) = false := decide_eq_false (by omega)
  obtain ⟨o2, m2, m3, m4⟩ := markGraphN (F := F) (a := a) (o := o) (k := 1) (by rw [ho]; omega) (by omega) (by rw [ho]; omega) (by omega) (by omega)
  have e11 : decide ((1 + 2 * (o.list.length : Int)) < 0) = false := decide_eq_false (by omega)
  have hi1 : i_FillingOf_o F (g.1, (NL.of g.2).list) (NL.of l).list = some ((a, o), c) := hi
  simp only [w_FnExactFillingOf_j1, w_FnExactFillingOf_j2, w_FnExactFillingOf_j3, e1, e2, e3, e4, e5, e6, e7, e8, m1, e9, e11, hs, hi, hi1, m2, m3, m4, Option.bind_some, Bool.not_true, cond_false, bne_self_eq_false]

end Go.Zq
