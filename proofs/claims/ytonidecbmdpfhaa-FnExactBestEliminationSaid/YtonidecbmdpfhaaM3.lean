/- Plain mathematics: what the functions answer (part 3). Conditions: stated in each theorem. -/
import Derived.Test.YtonidecbmdpfhaaM2
import Derived.Test.YtonidecbmdpfhaaM1
set_option linter.unusedVariables false
set_option linter.unusedSimpArgs false
/- Plain mathematics: rankings. -/
namespace Go.Zq
def lowP (l : List Int) (r : Int) (j : Nat) : Bool := decide (l.getD j 0 ≤ r)
def meets (g : Gr) (l : List Int) (x : Nat) : Bool := anyN (fun y => comp g (lowP l (l.getD x 0)) x y && ((y != x) && (l.getD y 0 == l.getD x 0))) g.1.toNat
end Go.Zq
/- Plain mathematics: cliques; perfect eliminations. -/
namespace Go.Zq
theorem fst_eq {P : Nat → Bool} {n a : Nat} (ha : a < n) (h : P a = true) (hm : ∀ j, j < a → P j = false) : fstN P n = some a := by
  cases hf : fstN P n with
  | none => rw [fst_none.1 hf a ha] at h; cases h
  | some b =>
    obtain ⟨hb, hPb, hmb⟩ := fst_some hf
    congr 1
    rcases Nat.lt_trichotomy a b with h1 | h1 | h1
    · rw [hmb a h1] at h; cases h
    · exact h1.symm
    · rw [hm b h1] at hPb; cases hPb
theorem first_listN {p q : Nat → Bool} {n : Nat} : fstN (fun j => p j && q j) n = (fstN (fun i => q ((listN p n).getD i 0).toNat) (listN p n).length).map fun i => ((listN p n).getD i 0).toNat := by
  cases hf : fstN (fun i => q ((listN p n).getD i 0).toNat) (listN p n).length with
  | none =>
    rw [Option.map_none, fst_none]
    intro j hj
    cases hp : p j with
    | false => rfl
    | true =>
      have hm : (j : Int) ∈ listN p n := listN_mem.2 ⟨j, rfl, hj, hp⟩
      obtain ⟨i, hi, e⟩ := List.getElem_of_mem hm
      have := fst_none.1 hf i hi
      rw [List.getD_eq_getElem?_getD, List.getElem?_eq_getElem hi, Option.getD_some, e, Int.toNat_natCast] at this
      rw [this]; rfl
  | some i =>
    obtain ⟨hi, hq, hm⟩ := fst_some hf
    obtain ⟨a, ha, han, hap⟩ := listN_get hi
    rw [Option.map_some, ha, Int.toNat_natCast]
    rw [ha, Int.toNat_natCast] at hq
    refine fst_eq han (by rw [hap, hq]; rfl) ?_
    intro j hj
    cases hp : p j with
    | false => rfl
    | true =>
      have hm2 : (j : Int) ∈ listN p n := listN_mem.2 ⟨j, rfl, by omega, hp⟩
      obtain ⟨t, ht, e⟩ := List.getElem_of_mem hm2
      have e2 : (listN p n).getD t 0 = (j : Int) := by rw [List.getD_eq_getElem?_getD, List.getElem?_eq_getElem ht, Option.getD_some, e]
      have hlt : t < i := by
        rcases Nat.lt_trichotomy t i with h1 | h1 | h1
        · exact h1
        · subst h1; rw [ha] at e2; omega
        · have := srt_lt listN_srt h1 ht
          rw [ha, e2] at this; omega
      have := hm t hlt
      rw [e2, Int.toNat_natCast] at this
      rw [this]; rfl
end Go.Zq
/- Plain mathematics: the cost of a cut over sets, greedy orders. -/
namespace Go.Zq
theorem orbit {m x : Nat} : (fun j => m.testBit j || j == x) = (m ||| 2 ^ x).testBit := by
  funext j
  rw [Nat.testBit_or, Nat.testBit_two_pow]
  by_cases e : x = j
  · subst e; simp
  · have h1 : decide (x = j) = false := by simpa using e
    have h2 : (j == x) = false := by simp; omega
    rw [h1, h2]
theorem loop_fst {β : Type} {L : Nat → Int → Option β} {n x : Nat} {p : Nat → Bool} {r : Option β} (hf : fstN p n = some x) (hs : ∀ k i, i < n → p i = false → L (k + 1) (i : Int) = L k ((i + 1 : Nat) : Int)) (hx : ∀ k, L (k + 1) (x : Int) = r) : ∀ k, n < k → L k 0 = r := by
  obtain ⟨h1, _, h3⟩ := fst_some hf
  have key : ∀ d i k, i + d = x → d < k → L k (i : Int) = r := by
    intro d
    induction d with
    | zero =>
      intro i k hi hk
      obtain ⟨k, rfl⟩ : ∃ k', k = k' + 1 := ⟨k - 1, by omega⟩
      obtain rfl : i = x := by omega
      exact hx k
    | succ d ih =>
      intro i k hi hk
      obtain ⟨k, rfl⟩ : ∃ k', k = k' + 1 := ⟨k - 1, by omega⟩
      rw [hs k i (by omega) (h3 i (by omega))]
      exact ih (i + 1) k (by omega) (by omega)
  intro k hk
  exact key x 0 k (by omega) (by omega)
inductive Grd (n : Nat) (p : Nat → Nat → Bool) : Nat → Nat → List Int → Prop
  | done : Grd n p 0 (2 ^ n - 1) []
  | step {d m x : Nat} {l : List Int} : m < 2 ^ n → fstN (fun y => !m.testBit y && p m y) n = some x → Grd n p d (m ||| 2 ^ x) l → Grd n p (d + 1) m ((x : Int) :: l)
theorem grd_len {n : Nat} {p : Nat → Nat → Bool} {d m : Nat} {l : List Int} (h : Grd n p d m l) : l.length = d := by
  induction h with
  | done => rfl
  | step _ _ _ ih => rw [List.length_cons, ih]
theorem cnt_miss {n m x : Nat} (hx : x < n) (hb : m.testBit x = false) : cntN (fun j => !(m ||| 2 ^ x).testBit j) n + 1 = cntN (fun j => !m.testBit j) n := by
  have h1 := cnt_split (p := fun j => !m.testBit j) (q := fun j => j == x) n
  have h2 : cntN (fun j => !m.testBit j && !(j == x)) n = cntN (fun j => !(m ||| 2 ^ x).testBit j) n := by
    refine cnt_congr fun j _ => ?_
    rw [← orbit]
    show (!m.testBit j && !(j == x)) = !(m.testBit j || j == x)
    cases m.testBit j <;> cases (j == x) <;> rfl
  have h3 : cntN (fun j => (j == x) && !m.testBit j) n = 1 := by
    have key : ∀ k, cntN (fun j => (j == x) && !m.testBit j) k = if x < k then 1 else 0 := by
      intro k
      induction k with
      | zero => rfl
      | succ k ih =>
        have hs : cntN (fun j => (j == x) && !m.testBit j) (k + 1) = cntN (fun j => (j == x) && !m.testBit j) k + if ((k == x) && !m.testBit k) then 1 else 0 := by
          rw [cnt_sum, cnt_sum]; rfl
        rw [hs, ih]
        by_cases e : k = x
        · have h1 : ¬ x < k := by omega
          have h2 : x < k + 1 := by omega
          simp [e, h1, h2, hb]
        · have h1 : (k == x) = false := by simpa using e
          by_cases h : x < k
          · have h2 : x < k + 1 := by omega
            simp [h1, h, h2]
          · have h2 : ¬ x < k + 1 := by omega
            simp [h1, h, h2]
    rw [key, if_pos hx]
  omega
theorem grd_ex {n : Nat} {c : Nat → Nat → Int} {nn : Int} {T : Nat → Int} (hn : n ≤ 8) (hT : IsBack n c nn T) {t : Int} : ∀ m, m < 2 ^ n → T m ≤ t → ∃ l, Grd n (fun m x => decide (max (c m x) (T (m ||| 2 ^ x)) ≤ t)) (cntN (fun j => !m.testBit j) n) m l := by
  have key : ∀ d m, m + d = 2 ^ n → m < 2 ^ n → T m ≤ t → ∃ l, Grd n (fun m x => decide (max (c m x) (T (m ||| 2 ^ x)) ≤ t)) (cntN (fun j => !m.testBit j) n) m l := by
    intro d
    induction d using Nat.strongRecOn with
    | ind d ih =>
      intro m hd hm ht
      by_cases hf : m = 2 ^ n - 1
      · have : cntN (fun j => !m.testBit j) n = 0 := by
          rw [cnt_zero, fst_none]
          intro j hj
          rw [hf, Nat.testBit_two_pow_sub_one, decide_eq_true hj]; rfl
        rw [this, hf]
        exact ⟨[], .done⟩
      · have hne : outs n m ≠ [] := fun e => hf ((outs_nil hm).1 e)
        rw [hT m hm, mn_le hne] at ht
        obtain ⟨y, hy, h⟩ := ht
        obtain ⟨z, rfl, hz, hzb⟩ := outs_mem.1 hy
        rw [Int.toNat_natCast] at h
        cases hfs : fstN (fun y => !m.testBit y && decide (max (c m y) (T (m ||| 2 ^ y)) ≤ t)) n with
        | none =>
          have := fst_none.1 hfs z hz
          rw [hzb, decide_eq_true h] at this; cases this
        | some x =>
          obtain ⟨hx, hp, _⟩ := fst_some hfs
          simp only [Bool.and_eq_true, Bool.not_eq_true', decide_eq_true_eq] at hp
          have h1 := add_all m (lt256 hn hm) x (by omega) hp.1
          have h2 := or_lt hm hx
          have h3 := Nat.two_pow_pos x
          obtain ⟨l, hl⟩ := ih (2 ^ n - (m ||| 2 ^ x)) (by omega) (m ||| 2 ^ x) (by omega) h2 (by omega)
          refine ⟨(x : Int) :: l, ?_⟩
          rw [← cnt_miss hx hp.1]
          exact .step hm hfs hl
  intro m hm
  exact key (2 ^ n - m) m (by omega) hm
end Go.Zq
/- Plain mathematics: the first best order for a cost (eliminated). -/
namespace Go.Zq
theorem first_eliminated {F : Nat} {g : Gr} {best : List Int} (hg : good g = true) (hF : 300 ≤ F) (hb : best.length = 2 ^ g.1.toNat) :
    ∀ {d m : Nat} {l : List Int}, Grd g.1.toNat (fun m x => decide (max (elC g m x) (best.getD (m ||| 2 ^ x) 0) ≤ best.getD 0 0)) d m l →
    ∀ (o : NL Int) (k : Nat), d < k → o.list.length + d ≤ 100 → ∃ o', i_net_firstOrder_of_i_net_eliminated_o_l2 F best ⟨(⟨nearL g⟩, ()), ()⟩ ⟨nearL g⟩ k o (m : Int) = some o' ∧ o'.list = o.list ++ l := by
  have h8 := good_size hg
  obtain ⟨n, hn⟩ : ∃ n : Nat, g.1.toNat = n := ⟨_, rfl⟩
  have hn8 : n ≤ 8 := by omega
  have hpow := Nat.two_pow_pos n
  have hp256 := pow256 hn8
  have hall : i_net_all F ⟨nearL g⟩ = some ((2 ^ n - 1 : Nat) : Int) := by
    unfold i_net_all
    rw [nearL_len, hn, one_shl (by omega), Option.bind_some, w64_id (by omega) (by omega)]
    congr 1; omega
  rw [hn] at hb ⊢
  intro d m l h
  induction h with
  | done =>
    intro o k hk _
    obtain ⟨k, rfl⟩ : ∃ k', k = k' + 1 := ⟨k - 1, by omega⟩
    refine ⟨o, ?_, by simp⟩
    simp only [i_net_firstOrder_of_i_net_eliminated_o_l2]
    rw [hall, Option.bind_some, bne_self_eq_false, cond_false]
  | step hm hf hgrd ih =>
    rename_i d m x l
    intro o k hk ho
    obtain ⟨k, rfl⟩ : ∃ k', k = k' + 1 := ⟨k - 1, by omega⟩
    obtain ⟨hx, hp, _⟩ := fst_some hf
    simp only [Bool.and_eq_true, Bool.not_eq_true', decide_eq_true_eq] at hp
    obtain ⟨hxb, hle⟩ := hp
    have hmf : m ≠ 2 ^ n - 1 := by
      rintro rfl
      rw [Nat.testBit_two_pow_sub_one, decide_eq_true hx] at hxb; cases hxb
    have hmk : iandNot .i64 ((2 ^ n - 1 : Nat) : Int) (m : Int) = ((mkm (fun x => !m.testBit x) n : Nat) : Int) := by
      obtain ⟨c, hc, _, hb⟩ := iandNot_nat (a := 2 ^ n - 1) (b := m) (by omega) (by omega)
      rw [hc]
      congr 1
      refine mkm_of fun j => ?_
      rw [hb, Nat.testBit_two_pow_sub_one]
    have hl8 : (outs n m).length ≤ 8 := by unfold outs; rw [listN_len]; exact Nat.le_trans cnt_le hn8
    obtain ⟨o', ho1, ho2⟩ := ih (.of (o.list ++ [(x : Int)])) k (by omega) (by show (o.list ++ [(x : Int)]).length + d ≤ 100; rw [List.length_append, List.length_singleton]; omega)
    refine ⟨o', ?_, by rw [ho2]; simp [NL.list]⟩
    have hne : (((m : Int)) != ((2 ^ n - 1 : Nat) : Int)) = true := by rw [bne_iff_ne]; omega
    simp only [i_net_firstOrder_of_i_net_eliminated_o_l2]
    rw [hall, Option.bind_some, hne, cond_true, Option.bind_some, hmk, setOf_eq hn8 (by omega), Option.bind_some]
    rw [first_listN, Option.map_eq_some_iff] at hf
    obtain ⟨i, hi, hix⟩ := hf
    have hil := (fst_some hi).1
    have hstep : ∀ (i : Nat) (hi : i < (outs n m).length), ∃ y : Nat, (outs n m).getD i 0 = y ∧ y < n ∧ i_net_eliminated F ⟨nearL g⟩ (m : Int) (y : Int) = some (elC g m y) ∧ shlI .i64 1 (y : Int) = some ((2 ^ y : Nat) : Int) ∧ ior .i64 (m : Int) ((2 ^ y : Nat) : Int) = ((m ||| 2 ^ y : Nat) : Int) ∧ idx best (((m ||| 2 ^ y : Nat)) : Int) = some (best.getD (m ||| 2 ^ y) 0) := by
      intro i hi
      obtain ⟨y, hy, hyn, hyb⟩ := outs_mem.1 (getD_mem (d := 0) hi)
      have := or_lt hm hyn
      exact ⟨y, hy, hyn, elim_eq hg (by omega) (by rw [hn]; exact hm) (by rw [hn]; exact hyn), one_shl (by omega), ior_nat (by omega) (pow_lt (by omega)), idx_getD (by omega)⟩
    have hz : idx best 0 = some (best.getD 0 0) := idx_getD (xs := best) (i := 0) (d := 0) (by omega)
    have hmax : ∀ a b : Int, (if b > a then b else a) = max a b := by
      intro a b
      by_cases h : b > a
      · rw [if_pos h, Int.max_eq_right (by omega)]
      · rw [if_neg h, Int.max_eq_left (by omega)]
    refine loop_fst (L := fun k2 i => i_net_firstOrder_of_i_net_eliminated_o_l1 F best ⟨(⟨nearL g⟩, ()), ()⟩ ⟨nearL g⟩ o (m : Int) (outs n m) (i_net_firstOrder_of_i_net_eliminated_o_l2 F best ⟨(⟨nearL g⟩, ()), ()⟩ ⟨nearL g⟩ k) k2 i) hi ?_ ?_ F (by show (outs n m).length < F; omega)
    · intro k2 i hi hpi
      obtain ⟨y, hy, hyn, y1, y2, y3, y4⟩ := hstep i hi
      have hpi : decide (max (elC g m ((outs n m).getD i 0).toNat) (best.getD (m ||| 2 ^ ((outs n m).getD i 0).toNat) 0) ≤ best.getD 0 0) = false := hpi
      rw [hy, Int.toNat_natCast] at hpi
      simp only [i_net_firstOrder_of_i_net_eliminated_o_l1]
      rw [decide_eq_true (show (i : Int) < ((outs n m).length : Int) from by have : i < (outs n m).length := hi; omega), cond_true, idx_getD (xs := outs n m) (d := 0) hi, Option.bind_some, hy, y1, Option.bind_some, y2, Option.bind_some, y3, y4, Option.bind_some, hz, Option.bind_some, hmax, hpi, cond_false, w64_succ (n := (outs n m).length) hi (by have : (listN (fun x => !m.testBit x) n).length ≤ 8 := hl8; unfold Sm; omega)]
    · intro k2
      obtain ⟨y, hy, hyn, y1, y2, y3, y4⟩ := hstep i hil
      have hyx : y = x := by
        have e : ((outs n m).getD i 0).toNat = x := hix
        rw [hy] at e; omega
      subst hyx
      have hle' : decide (max (elC g m y) (best.getD (m ||| 2 ^ y) 0) ≤ best.getD 0 0) = true := decide_eq_true hle
      simp only [i_net_firstOrder_of_i_net_eliminated_o_l1]
      rw [decide_eq_true (show (i : Int) < ((outs n m).length : Int) from by have : i < (outs n m).length := hil; omega), cond_true, idx_getD (xs := outs n m) (d := 0) hil, Option.bind_some, hy, y1, Option.bind_some, y2, Option.bind_some, y3, y4, Option.bind_some, hz, Option.bind_some, hmax, hle', cond_true, appL_one (by omega), Option.bind_some, Option.bind_some]
      rw [y3]
      exact ho1
end Go.Zq
/- Plain mathematics: decompositions. -/
namespace Go.Zq
end Go.Zq
/- Plain mathematics: the filling of an elimination, and its width. -/
namespace Go.Zq
end Go.Zq
/- Plain mathematics: the width of an elimination. -/
namespace Go.Zq
theorem later_congr {F : Nat} {g : Gr} {a b : List Int} (h : ∀ e, s_l1Has F a e = s_l1Has F b e) {x : Int} : s_l5Later F g a x = s_l5Later F g b x := by
  have h1 : ∀ (kk : Int) (r : List Int) (c : List Int → List Int → Int → Option (List Int)) (k : Nat) (o s : List Int) (i : Int), s_l5Later_l1 F a g kk r c k o s i = s_l5Later_l1 F b g kk r c k o s i := by
    intro kk r c k
    induction k with
    | zero => intro o s i; rfl
    | succ k ih =>
      intro o s i
      have ih' : s_l5Later_l1 F a g kk r c k = s_l5Later_l1 F b g kk r c k := by funext o s i; exact ih o s i
      simp only [s_l5Later_l1, h, ih', s_l5Later_j1]
  have h2 : ∀ (k : Nat) (o s : List Int) (i : Int), s_l5Later_l2 F a g k o s i = s_l5Later_l2 F b g k o s i := by
    intro k
    induction k with
    | zero => intro o s i; rfl
    | succ k ih =>
      intro o s i
      have ih' : s_l5Later_l2 F a g k = s_l5Later_l2 F b g k := by funext o s i; exact ih o s i
      simp only [s_l5Later_l2, ih', h1]
  unfold s_l5Later
  exact h2 _ _ _ _
end Go.Zq
/- Plain mathematics: the first best order for a cost (frontSize). -/
namespace Go.Zq
end Go.Zq
/- Plain mathematics: the best layout. -/
namespace Go.Zq
end Go.Zq
/- Plain mathematics: the best elimination. -/
namespace Go.Zq
theorem later_bq {F m x : Nat} {g : Gr} {R : List Int} (hg : good g = true) (hF : 20 ≤ F) (hG : g.2.length < F) (hs : Sm g.2.length) (hm : m < 2 ^ g.1.toNat) (hx : x < g.1.toNat) (hl : R.length ≤ 8) (hR : bq R = m.testBit) (hr : ∀ y ∈ R, 0 ≤ y ∧ y < g.1) :
    ∃ o, s_l5Later_o F g R (x : Int) = some o ∧ (o.list.length : Int) = elC g m x := by
  have h8 := good_size hg
  have hc := cnt_le (p := m.testBit) (n := g.1.toNat)
  have h : s_l5Later F g R (x : Int) = some (listN (latP g m x) g.1.toNat) := by
    rw [← later_eq (F := F) hg hF hG hs hm hx]
    refine later_congr fun e => ?_
    rw [l1Has_eq (by omega) (by unfold Sm; omega), l1Has_eq (by rw [listN_len]; omega) (by unfold Sm; rw [listN_len]; omega)]
    congr 1
    rw [Bool.eq_iff_iff, decide_eq_true_eq, decide_eq_true_eq, listN_mem]
    constructor
    · intro he
      have h1 := hr e he
      refine ⟨e.toNat, by omega, by omega, ?_⟩
      rw [← hR]
      unfold bq
      rw [Int.toNat_of_nonneg h1.1]
      exact decide_eq_true he
    · rintro ⟨j, rfl, hj, hb⟩
      rw [← hR] at hb
      exact of_decide_eq_true hb
  refine ⟨.of (listN (latP g m x) g.1.toNat), by rw [later_o, h]; rfl, ?_⟩
  show ((listN (latP g m x) g.1.toNat).length : Int) = _
  rw [listN_len]; rfl
theorem sBe_grd {F : Nat} {g : Gr} {T : List Int} (hg : good g = true) (hF : 300 ≤ F) (hG : g.2.length < F) (hs : Sm g.2.length) (hb : T.length = 2 ^ g.1.toNat) :
    ∀ {d m : Nat} {l : List Int}, Grd g.1.toNat (fun m x => decide (max (elC g m x) (T.getD (m ||| 2 ^ x) 0) ≤ T.getD 0 0)) d m l →
    ∀ (R : List Int) (k : Nat), d < k → R.length + d = g.1.toNat → bq R = m.testBit → (∀ y ∈ R, 0 ≤ y ∧ y < g.1) → s_l5Best_l2 F g T k R (m : Int) = some (R ++ l) := by
  have h8 := good_size hg
  obtain ⟨n, hn⟩ : ∃ n : Nat, g.1.toNat = n := ⟨_, rfl⟩
  have hn8 : n ≤ 8 := by omega
  have hgn : g.1 = (n : Int) := by omega
  have hpow := Nat.two_pow_pos n
  have hp256 := pow256 hn8
  rw [hn] at hb ⊢
  have hz : idx T 0 = some (T.getD 0 0) := idx_getD (xs := T) (i := 0) (d := 0) (by omega)
  intro d m l h
  induction h with
  | done =>
    intro R k hk hR _ _
    obtain ⟨k, rfl⟩ : ∃ k', k = k' + 1 := ⟨k - 1, by omega⟩
    simp only [s_l5Best_l2]
    rw [hgn, decide_eq_false (by omega), cond_false, List.append_nil]
  | step hm hf hgrd ih =>
    rename_i d m x l
    intro R k hk hR hbq hr
    obtain ⟨k, rfl⟩ : ∃ k', k = k' + 1 := ⟨k - 1, by omega⟩
    obtain ⟨hx, hp, hlo⟩ := fst_some hf
    simp only [Bool.and_eq_true, Bool.not_eq_true', decide_eq_true_eq] at hp
    obtain ⟨hxb, hle⟩ := hp
    have hhas : ∀ y : Nat, s_l1Has F R (y : Int) = some (m.testBit y) := by
      intro y
      rw [l1Has_eq (by omega) (by unfold Sm; omega), ← hbq]; rfl
    simp only [s_l5Best_l2]
    rw [hgn, decide_eq_true (by omega), cond_true]
    have hst : ∀ x : Nat, x < n → m.testBit x = false → shlI .i64 1 (x : Int) = some ((2 ^ x : Nat) : Int) ∧ w64 ((m : Int) + ((2 ^ x : Nat) : Int)) = ((m ||| 2 ^ x : Nat) : Int) ∧ idx T (((m ||| 2 ^ x : Nat)) : Int) = some (T.getD (m ||| 2 ^ x) 0) := by
      intro x hx hb
      have hgt := add_all m (by omega) x (by omega) hb
      have hxp := Nat.two_pow_pos x
      have hor := or_lt hm hx
      exact ⟨one_shl (by omega), by rw [w64_id (by omega) (by omega)]; omega, idx_getD (by omega)⟩
    refine loop_fst (L := fun k2 i => s_l5Best_l1 F g T R (m : Int) (s_l5Best_l2 F g T k) k2 i) hf ?_ ?_ F (by omega)
    · intro k2 i hi hpi
      simp only [s_l5Best_l1, s_l5Best_j1]
      rw [hhas i, Option.bind_some, cond_true, w64_succ hi (by unfold Sm; omega)]
      cases hb : m.testBit i with
      | true => rfl
      | false =>
        obtain ⟨a1, a2, a3⟩ := hst i hi hb
        obtain ⟨o, o1, o2⟩ := later_bq (F := F) (m := m) (x := i) hg (by omega) hG hs (by rw [hn]; exact hm) (by omega) (by omega) hbq hr
        have hpi : ¬ max (elC g m i) (T.getD (m ||| 2 ^ i) 0) ≤ T.getD 0 0 := by
          have hpi : (!m.testBit i && decide (max (elC g m i) (T.getD (m ||| 2 ^ i) 0) ≤ T.getD 0 0)) = false := hpi
          rw [hb] at hpi
          simpa using hpi
        rw [cond_false, o1, Option.bind_some, hz, Option.bind_some, o2]
        by_cases hc : elC g m i > T.getD 0 0
        · rw [decide_eq_true hc, cond_true]
        · rw [decide_eq_false hc, cond_false, a1, Option.bind_some, a2, a3, Option.bind_some, Option.bind_some, decide_eq_true (by omega), cond_true]
    · intro k2
      obtain ⟨a1, a2, a3⟩ := hst x hx hxb
      obtain ⟨o, o1, o2⟩ := later_bq (F := F) (m := m) (x := x) hg (by omega) hG hs (by rw [hn]; exact hm) (by omega) (by omega) hbq hr
      simp only [s_l5Best_l1, s_l5Best_j1]
      rw [hhas x, Option.bind_some, hxb, cond_false, o1, Option.bind_some, hz, Option.bind_some, o2, decide_eq_false (by omega), cond_false, a1, Option.bind_some, a2, a3, Option.bind_some, Option.bind_some, decide_eq_false (by omega), cond_false, appL_one (by omega), Option.bind_some, Option.bind_some, a2]
      rw [ih (R ++ [(x : Int)]) k (by omega) (by rw [List.length_append, List.length_singleton]; omega) ?_ ?_]
      · simp
      · rw [← orbit, ← hbq]
        funext j
        unfold bq
        simp only [List.mem_append, List.mem_singleton, Bool.decide_or]
        congr 1
        by_cases e : j = x
        · subst e; simp
        · have h1 : ¬ ((j : Int) = (x : Int)) := by omega
          have h2 : (j == x) = false := by simpa using e
          rw [decide_eq_false h1, h2]
      · intro y hy
        rcases List.mem_append.1 hy with h | h
        · exact hr y h
        · obtain rfl : y = (x : Int) := by simpa using h
          omega
theorem exBestElimination {F : Nat} {g : Gr} (h9 : 300 ≤ F) (hG : g.2.length < F) (hs : Sm g.2.length) :
    ∃ R b o, s_BestElimination F g = some (R, b) ∧ i_BestElimination_o F g = some (o, b) ∧ o.list = R ∧ R.length ≤ 8 := by
  unfold s_BestElimination i_BestElimination_o s_l5Best i_net_elimination
  rw [l2Good_eq hG hs, isGraph_eq hG (by omega) hs, Option.bind_some, Option.bind_some]
  cases hg : good g with
  | false => exact ⟨[], false, .nil, rfl, rfl, rfl, by simp⟩
  | true =>
    have h8 := good_size hg
    have hpow := Nat.two_pow_pos g.1.toNat
    have hp256 := pow256 (n := g.1.toNat) (by omega)
    rw [Bool.not_true, cond_false, cond_false]
    obtain ⟨out, o1, o2, o3⟩ := trests_eq hg h9 hG hs
    obtain ⟨best, b1, b2, b3⟩ := best_eliminated (F := F) (nn := -1) hg h9
    have heq : out = best := by
      refine List.ext_getElem (by omega) fun i h1 h2 => ?_
      have := back_uniq (by omega) o3 b3 i (by omega)
      rwa [List.getD_eq_getElem?_getD, List.getElem?_eq_getElem h1, Option.getD_some, List.getD_eq_getElem?_getD, List.getElem?_eq_getElem h2, Option.getD_some] at this
    subst heq
    obtain ⟨l, hl⟩ := grd_ex (t := out.getD 0 0) (by omega) o3 0 hpow (Int.le_refl _)
    have hc0 : cntN (fun j => !(0 : Nat).testBit j) g.1.toNat = g.1.toNat := by
      have : ∀ n, cntN (fun j => !(0 : Nat).testBit j) n = n := by
        intro n
        simp [cntN]
      exact this _
    rw [hc0] at hl
    obtain ⟨o, f1, f2⟩ := first_eliminated hg h9 o2 hl .nil F (by omega) (by show 0 + g.1.toNat ≤ 100; omega)
    have hs2 := sBe_grd hg h9 hG hs o2 hl [] F (by omega) (by simp) (by funext j; simp [bq]) (by simp)
    refine ⟨l, true, o, ?_, ?_, ?_, by rw [grd_len hl]; omega⟩
    · rw [o1, Option.bind_some]
      have hs2' : s_l5Best_l2 F g out F [] 0 = some ([] ++ l) := hs2
      rw [hs2', Option.bind_some]
      rfl
    · rw [netOf_eq hg hG hs, Option.bind_some, b1, Option.bind_some, Option.bind_some]
      unfold i_net_firstOrder_of_i_net_eliminated_o
      have f1' : i_net_firstOrder_of_i_net_eliminated_o_l2 F out ⟨(⟨nearL g⟩, ()), ()⟩ ⟨nearL g⟩ F .nil 0 = some o := f1
      rw [f1', Option.bind_some]
    · rw [f2]; rfl
end Go.Zq
/- The law BestElimination, as a plain statement. -/
namespace Go.Zq
theorem lawBestElimination {F : Nat} {g : Gr} (hF : 2097152 ≤ F) (hg : g.2.length ≤ 9223372036854775807) : w_FnExactBestElimination F g = some true := by
  unfold w_FnExactBestElimination
  rw [szGraph_eq (by omega) (by omega) hg, Option.bind_some]
  by_cases h2 : (1048576 : Int) - g.2.length < 0
  · simp [h2]
  simp only [h2, if_false, decide_false, cond_false]
  obtain ⟨R, b, o, hs, hi, ho, hl⟩ := exBestElimination (F := F) (g := g) (by omega) (by omega) (by unfold Sm; omega)
  have e1 : w_toGraph F g = some g := toGraph_eq (by omega) (by omega) (by omega)
  have e2 : w_toGraph_o F g = some (g.1, .of g.2) := toGraph_o_eq (by omega) (by omega) (by omega)
  have e5 : w_eqIntS F o.list R = some true := by rw [ho]; exact eqIntS_eq (by omega) (by unfold Sm; omega)
  have e6 : w_eqGraph F (g.1, (NL.of g.2).list) g = some true := eqGraph_eq (g := g) (by omega) (by unfold Sm; omega) (by omega)
  have e8 : w_markGraph F ⟨g.1, .of g.2⟩ 1 = some (1 + 2 * (g.2.length : Int)) := markGraph_eq (by omega) (by omega) (by omega) (by omega) (by omega)
  have e9 : decide ((1 + 2 * (g.2.length : Int)) < 0) = false := decide_eq_false (by omega)
  obtain ⟨o2, m2, m3, m4⟩ := markIntS_eq (F := F) (o := o) (k := 1) (by rw [ho]; omega) (by rw [ho]; omega) (by omega) (by omega)
  have e10 : w_heldIntS F o2.list 1 = some (1 + (o.list.length : Int)) := by rw [m4]; exact heldIntS_eq (by rw [ho]; omega) (by rw [ho]; omega) (by omega) (by omega)
  have e11 : decide ((1 + (o.list.length : Int)) < 0) = false := decide_eq_false (by omega)
  have hi1 : i_BestElimination_o F (g.1, (NL.of g.2).list) = some (o, b) := hi
  simp only [w_FnExactBestElimination_j1, w_FnExactBestElimination_j2, w_FnExactBestElimination_j3, e1, e2, e5, e6, e8, e9, e10, e11, hs, hi, hi1, m2, m3, Option.bind_some, Bool.not_true, cond_false, bne_self_eq_false]
end Go.Zq
