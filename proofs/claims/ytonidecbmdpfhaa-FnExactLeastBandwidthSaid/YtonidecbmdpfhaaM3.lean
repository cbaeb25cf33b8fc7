/- Plain mathematics: what the functions answer (part 3). Conditions: stated in each theorem. -/
import Derived.Test.YtonidecbmdpfhaaM2
import Derived.Test.YtonidecbmdpfhaaM1
set_option linter.unusedVariables false
set_option linter.unusedSimpArgs false
/- Plain mathematics: cliques; perfect eliminations. -/
namespace Go.Zq

end Go.Zq
/- Plain mathematics: decompositions. -/
namespace Go.Zq

end Go.Zq
/- Plain mathematics: the filling of an elimination, and its width. -/
namespace Go.Zq

end Go.Zq
/- Plain mathematics: the width of an elimination. -/
namespace Go.Zq

theorem cloneO_list {xs : List Int} (h : xs.length ≤ 1000000000000) : ∃ o, cloneO xs = some o ∧ o.list = xs := by
  unfold cloneO
  rw [if_pos h]
  refine ⟨_, rfl, ?_⟩
  cases xs with
  | nil => rfl
  | cons x xs => rfl

end Go.Zq
/- Plain mathematics: the cost of a cut over sets, greedy orders. -/
namespace Go.Zq

/-- a loop that ends at the first index with a property -/
theorem loop_fst {β : Type} {L : Nat → Int → Option β} {n x : Nat} {p : Nat → Bool} {r : Option β} (hf : fstN p n = some x) (hs : ∀ k i, i < n → p i = false → L (k + 1) (i : Int) = L k ((i + 1 : Nat) : Int)) (hx : ∀ k, L (k + 1) (x : Int) = r) : ∀ k, n < k → L k 0 = r := by
  obtain ⟨h1, _, h3⟩ := fst_some hf
  have key : ∀ d i k, i + d = x → d < k → L k (i : Int) = r := by
    intro d
    induction d with
    | zero =>
      intro i k hi hk
      obtain ⟨k, rfl⟩ : ∃ k', k = k' + 1 := ⟨k - 1, by omega⟩
      obtain rfl : i = x := by omega
      exact hx k
    | succ d ih =>
      intro i k hi hk
      obtain ⟨k, rfl⟩ : ∃ k', k = k' + 1 := ⟨k - 1, by omega⟩
      rw [hs k i (by omega) (h3 i (by omega))]
      exact ih (i + 1) k (by omega) (by omega)
  intro k hk
  exact key x 0 k (by omega) (by omega)


end Go.Zq
/- Plain mathematics: the first best order for a cost (frontSize). -/
namespace Go.Zq

end Go.Zq
/- Plain mathematics: the best layout. -/
namespace Go.Zq

theorem own_o {F : Nat} {l : List Int} (hl : l.length ≤ 1000) : s_l1Own_o F l = some (.of l) := by
  unfold s_l1Own_o appL
  rw [if_pos (by
    have : (2 : Nat) ^ 40 = 1099511627776 := by decide
    simp only [List.length_nil]
    omega)]
  rfl

end Go.Zq
/- Plain mathematics: the longest path. -/
namespace Go.Zq

/-- may a path go on to a node -/
def exb (g : Gr) (p : List Int) (x : Nat) : Bool := !bq p x && (p.length == 0 || adj g (p.getD (p.length - 1) 0).toNat x)
theorem full_none {n : Nat} {p : List Int} (hl : p.length = n) (hnd : p.Nodup) (hr : ∀ y ∈ p, 0 ≤ y ∧ y < (n : Int)) {x : Nat} (hx : x < n) : bq p x = true := by
  unfold bq
  refine decide_eq_true ?_
  by_cases h : (x : Int) ∈ p
  · exact h
  · have := nodup_len n ((x : Int) :: p) (List.nodup_cons.2 ⟨h, hnd⟩) (by
      intro y hy
      rcases List.mem_cons.1 hy with rfl | hy
      · omega
      · exact hr y hy)
    rw [List.length_cons] at this
    omega

theorem nodup_snoc {p : List Int} {x : Nat} (hnd : p.Nodup) (h : bq p x = false) : (p ++ [(x : Int)]).Nodup := by
  rw [List.nodup_append]
  refine ⟨hnd, by simp, ?_⟩
  intro a ha b hb e
  have hb : b = (x : Int) := by simpa using hb
  subst e; subst hb
  exact of_decide_eq_false h ha

end Go.Zq
/- Plain mathematics: the least bandwidth. -/
namespace Go.Zq

/-- the node at a place -/
def nod (p : List Int) (i : Nat) : Nat := (p.getD i 0).toNat
/-- all pairs of neighbors are near enough -/
def okB (g : Gr) (w : Nat) (p : List Int) : Bool := allN (fun j => allN (fun i => !adj g (nod p i) (nod p j) || decide (j ≤ i + w)) j) p.length
def fitB (g : Gr) (w : Nat) (p : List Int) : Bool := allN (fun i => allN (fun y => !adj g (nod p i) y || decide ((if bq p y then p.idxOf (y : Int) else p.length) ≤ i + w)) g.1.toNat) p.length
def narB (g : Gr) (w : Nat) (p : List Int) (x : Nat) : Bool := allN (fun i => !adj g (nod p i) x) (p.length - w)

def fsI (h : Int → Option (List Int)) : List Int → Option (List Int)
  | [] => none
  | y :: L => match h y with
    | some r => some r
    | none => fsI h L

def RF (g : Gr) (w : Nat) : Nat → List Int → Option (List Int)
  | 0, p => if okB g w p then some p else none
  | d + 1, p => fsI (fun y => RF g w d (p ++ [y])) (listN (fun x => !bq p x) g.1.toNat)
def SL (g : Gr) (w : Nat) : Nat → List Int → Option (List Int)
  | 0, p => if fitB g w p then some p else none
  | d + 1, p => if fitB g w p then fsI (fun y => SL g w d (p ++ [y])) (listN (fun x => !bq p x) g.1.toNat) else none
def NY (g : Gr) (w : Nat) : Nat → List Int → Option (List Int)
  | 0, p => some p
  | d + 1, p => fsI (fun y => NY g w d (p ++ [y])) (listN (fun x => !bq p x && narB g w p x) g.1.toNat)

theorem fsI_some {h : Int → Option (List Int)} {r : List Int} : ∀ {L : List Int}, fsI h L = some r → ∃ y ∈ L, h y = some r
  | [], e => by cases e
  | y :: L, e => by
    simp only [fsI] at e
    split at e
    · rename_i r' hr
      cases e
      exact ⟨y, by simp, hr⟩
    · obtain ⟨z, hz, h1⟩ := fsI_some e
      exact ⟨z, by simp [hz], h1⟩
theorem fsI_none {h : Int → Option (List Int)} : ∀ {L : List Int}, fsI h L = none ↔ ∀ y ∈ L, h y = none
  | [] => by simp [fsI]
  | y :: L => by
    simp only [fsI]
    constructor
    · intro e
      split at e
      · cases e
      · rename_i hn
        intro z hz
        rcases List.mem_cons.1 hz with rfl | hz
        · exact hn
        · exact fsI_none.1 e z hz
    · intro e
      rw [e y (by simp)]
      exact fsI_none.2 fun z hz => e z (by simp [hz])
theorem fsI_congr {h h' : Int → Option (List Int)} : ∀ {L : List Int}, (∀ y ∈ L, h y = h' y) → fsI h L = fsI h' L
  | [], _ => rfl
  | y :: L, e => by
    simp only [fsI]
    rw [e y (by simp), fsI_congr (L := L) fun z hz => e z (by simp [hz])]
theorem fsI_app {h : Int → Option (List Int)} : ∀ {L M : List Int}, fsI h (L ++ M) = (match fsI h L with | some r => some r | none => fsI h M)
  | [], M => rfl
  | y :: L, M => by
    simp only [List.cons_append, fsI]
    cases h y with
    | some r => rfl
    | none => exact fsI_app
structure Pre (g : Gr) (d : Nat) (p : List Int) : Prop where
  len : p.length + d = g.1.toNat
  nd : p.Nodup
  rg : ∀ y ∈ p, 0 ≤ y ∧ y < g.1

theorem Pre.snoc {g : Gr} {d : Nat} {p : List Int} {x : Nat} (h : Pre g (d + 1) p) (hx : x < g.1.toNat) (hb : bq p x = false) : Pre g d (p ++ [(x : Int)]) where
  len := by have := h.len; rw [List.length_append, List.length_singleton]; omega
  nd := nodup_snoc h.nd hb
  rg := by
    intro y hy
    rcases List.mem_append.1 hy with h1 | h1
    · exact h.rg y h1
    · obtain rfl : y = (x : Int) := by simpa using h1
      omega

theorem okB_iff {g : Gr} {w : Nat} {p : List Int} : okB g w p = true ↔ ∀ i j, i < j → j < p.length → adj g (nod p i) (nod p j) = true → j ≤ i + w := by
  unfold okB
  rw [allN_iff]
  constructor
  · intro h i j hij hj ha
    have := (allN_iff.1 (h j hj)) i hij
    rw [ha] at this
    simpa using this
  · intro h j hj
    rw [allN_iff]
    intro i hi
    cases ha : adj g (nod p i) (nod p j) with
    | false => rfl
    | true => simpa using h i j hi hj ha

theorem nod_app {p t : List Int} {i : Nat} (hi : i < p.length) : nod (p ++ t) i = nod p i := by
  unfold nod
  rw [List.getD_eq_getElem?_getD, List.getElem?_append_left hi, ← List.getD_eq_getElem?_getD]

theorem RF_ext {g : Gr} {w : Nat} : ∀ (d : Nat) (p l : List Int), Pre g d p → RF g w d p = some l → ∃ t, l = p ++ t ∧ Pre g 0 l ∧ okB g w l = true
  | 0, p, l, hp, h => by
    simp only [RF] at h
    split at h
    · rename_i ho
      cases h
      exact ⟨[], by simp, hp, ho⟩
    · cases h
  | d + 1, p, l, hp, h => by
    simp only [RF] at h
    obtain ⟨y, hy, h1⟩ := fsI_some h
    obtain ⟨x, rfl, hx, hb⟩ := listN_mem.1 hy
    have hb : bq p x = false := by simpa using hb
    obtain ⟨t, e, h2, h3⟩ := RF_ext d _ l (hp.snoc hx hb) h1
    exact ⟨(x : Int) :: t, by rw [e]; simp, h2, h3⟩

theorem idx_nod {p : List Int} {y : Nat} (hb : bq p y = true) : p.idxOf (y : Int) < p.length ∧ nod p (p.idxOf (y : Int)) = y := by
  have hm : (y : Int) ∈ p := of_decide_eq_true hb
  have h1 := List.idxOf_lt_length_iff.2 hm
  refine ⟨h1, ?_⟩
  unfold nod
  rw [List.getD_eq_getElem?_getD, List.getElem?_eq_getElem h1, Option.getD_some, List.getElem_idxOf h1]
  rfl

theorem fit_of {g : Gr} {w : Nat} {p t : List Int} (hp : Pre g 0 (p ++ t)) (ho : okB g w (p ++ t) = true) : fitB g w p = true := by
  have h := okB_iff.1 ho
  unfold fitB
  rw [allN_iff]
  intro i hi
  rw [allN_iff]
  intro y hy
  cases ha : adj g (nod p i) y with
  | false => rfl
  | true =>
    rw [Bool.not_true, Bool.false_or]
    refine decide_eq_true ?_
    cases hb : bq p y with
    | true =>
      rw [if_pos rfl]
      obtain ⟨h1, h2⟩ := idx_nod hb
      by_cases hij : i < p.idxOf (y : Int)
      · have := h i (p.idxOf (y : Int)) hij (by rw [List.length_append]; omega)
        rw [nod_app hi, nod_app h1, h2] at this
        exact this ha
      · omega
    | false =>
      rw [if_neg (by simp)]
      have hbl : bq (p ++ t) y = true := full_none (by have := hp.len; omega) hp.nd (fun z hz => by have := hp.rg z hz; omega) hy
      obtain ⟨h1, h2⟩ := idx_nod hbl
      have hge : p.length ≤ (p ++ t).idxOf (y : Int) := by
        by_cases hlt : (p ++ t).idxOf (y : Int) < p.length
        · rw [nod_app hlt] at h2
          have hm : p.getD ((p ++ t).idxOf (y : Int)) 0 ∈ p := getD_mem hlt
          have hr := hp.rg _ (List.mem_append_left t hm)
          have : p.getD ((p ++ t).idxOf (y : Int)) 0 = (y : Int) := by unfold nod at h2; omega
          rw [this] at hm
          have := of_decide_eq_false hb
          exact absurd hm this
        · omega
      have := h i _ (by omega) h1
      rw [nod_app hi, h2] at this
      have := this ha
      omega

theorem SL_RF {g : Gr} {w : Nat} : ∀ (d : Nat) (p : List Int), Pre g d p → SL g w d p = RF g w d p
  | 0, p, hp => by
    simp only [SL, RF]
    have : fitB g w p = okB g w p := by
      rw [Bool.eq_iff_iff]
      constructor
      · intro hf
        rw [okB_iff]
        intro i j hij hj ha
        unfold fitB at hf
        rw [allN_iff] at hf
        have h1 := hf i (by omega)
        rw [allN_iff] at h1
        have hjm : p.getD j 0 ∈ p := getD_mem hj
        have hr := hp.rg _ hjm
        have h2 := h1 (nod p j) (by unfold nod; omega)
        rw [ha, Bool.not_true, Bool.false_or, decide_eq_true_eq] at h2
        have hjn : ((nod p j : Nat) : Int) = p.getD j 0 := by unfold nod; omega
        have hb : bq p (nod p j) = true := by unfold bq; rw [hjn]; exact decide_eq_true hjm
        rw [hb, if_pos rfl, hjn] at h2
        have : p.idxOf (p.getD j 0) = j := by
          rw [List.getD_eq_getElem?_getD, List.getElem?_eq_getElem hj, Option.getD_some]
          exact hp.nd.idxOf_getElem j hj
        omega
      · intro ho
        have := fit_of (p := p) (t := []) (by rw [List.append_nil]; exact hp) (by rw [List.append_nil]; exact ho)
        exact this
    rw [this]
  | d + 1, p, hp => by
    simp only [SL]
    split
    · simp only [RF]
      refine fsI_congr fun y hy => ?_
      obtain ⟨x, rfl, hx, hb⟩ := listN_mem.1 hy
      exact SL_RF d _ (hp.snoc hx (by simpa using hb))
    · rename_i hf
      symm
      cases hr : RF g w (d + 1) p with
      | none => rfl
      | some l =>
        obtain ⟨t, rfl, h1, h2⟩ := RF_ext _ _ _ hp hr
        exact absurd (fit_of h1 h2) hf

theorem ok_snoc {g : Gr} {w : Nat} {p : List Int} {x : Nat} (ho : okB g w p = true) (hn : narB g w p x = true) : okB g w (p ++ [(x : Int)]) = true := by
  rw [okB_iff] at ho ⊢
  intro i j hij hj ha
  rw [List.length_append, List.length_singleton] at hj
  by_cases hjp : j < p.length
  · rw [nod_app hjp, nod_app (by omega)] at ha
    exact ho i j hij hjp ha
  · obtain rfl : j = p.length := by omega
    have hx : nod (p ++ [(x : Int)]) p.length = x := by unfold nod; simp
    rw [hx, nod_app hij] at ha
    unfold narB at hn
    rw [allN_iff] at hn
    by_cases hc : i < p.length - w
    · have := hn i hc
      rw [ha] at this; cases this
    · omega

theorem NY_RF {g : Gr} {w : Nat} : ∀ (d : Nat) (p : List Int), Pre g d p → okB g w p = true → NY g w d p = RF g w d p
  | 0, p, hp, ho => by simp only [NY, RF, ho, if_true]
  | d + 1, p, hp, ho => by
    simp only [NY, RF]
    have e1 : ∀ x : Nat, x < g.1.toNat → (!bq p x) = true → narB g w p x = true → NY g w d (p ++ [(x : Int)]) = RF g w d (p ++ [(x : Int)]) := by
      intro x hx hb hn
      exact NY_RF d _ (hp.snoc hx (by simpa using hb)) (ok_snoc ho hn)
    have e2 : ∀ x : Nat, x < g.1.toNat → (!bq p x) = true → narB g w p x = false → RF g w d (p ++ [(x : Int)]) = none := by
      intro x hx hb hn
      cases hr : RF g w d (p ++ [(x : Int)]) with
      | none => rfl
      | some l =>
        exfalso
        obtain ⟨t, rfl, h1, h2⟩ := RF_ext _ _ _ (hp.snoc hx (by simpa using hb)) hr
        rw [okB_iff] at h2
        have : narB g w p x = true := by
          unfold narB
          rw [allN_iff]
          intro i hi
          cases ha : adj g (nod p i) x with
          | false => rfl
          | true =>
            have h3 := h2 i p.length (by omega) (by simp)
            have hx2 : nod (p ++ [(x : Int)] ++ t) p.length = x := by
              rw [nod_app (by simp)]
              unfold nod; simp
            rw [hx2, nod_app (by simp; omega), nod_app (by omega)] at h3
            have := h3 ha
            omega
        rw [this] at hn; cases hn
    have key : ∀ n, n ≤ g.1.toNat → fsI (fun y => NY g w d (p ++ [y])) (listN (fun x => !bq p x && narB g w p x) n) = fsI (fun y => RF g w d (p ++ [y])) (listN (fun x => !bq p x) n) := by
      intro n
      induction n with
      | zero => intro _; rfl
      | succ n ih =>
        intro hn
        rw [listN_succ, listN_succ, fsI_app, fsI_app, ih (by omega)]
        cases ha : (!bq p n) with
        | false => simp [fsI]
        | true =>
          cases hb : narB g w p n with
          | true =>
            simp only [Bool.and_self, if_true, fsI]
            rw [e1 n (by omega) ha hb]
          | false =>
            simp only [Bool.and_false, Bool.false_eq_true, if_false, if_true, fsI]
            rw [e2 n (by omega) ha hb]
    exact key _ (Nat.le_refl _)

theorem RF_wide {g : Gr} {w : Nat} (hw : g.1.toNat ≤ w + 1) : ∀ (d : Nat) (p : List Int), Pre g d p → ∃ l, RF g w d p = some l
  | 0, p, hp => by
    have ho : okB g w p = true := by
      rw [okB_iff]
      intro i j _ hj _
      have := hp.len
      omega
    exact ⟨p, by simp only [RF, ho, if_true]⟩
  | d + 1, p, hp => by
    cases h : RF g w (d + 1) p with
    | some l => exact ⟨l, rfl⟩
    | none =>
      exfalso
      simp only [RF] at h
      rw [fsI_none] at h
      have hall : ∀ j, j < g.1.toNat → (j : Int) ∈ p := by
        intro j hj
        cases hb : bq p j with
        | true => exact of_decide_eq_true hb
        | false =>
          obtain ⟨l, hl⟩ := RF_wide hw d _ (hp.snoc hj hb)
          have := h (j : Int) (listN_mem.2 ⟨j, rfl, hj, by rw [hb]; rfl⟩)
          rw [hl] at this; cases this
      have := (cover_len _ _ hall).1
      have := hp.len
      omega

end Go.Zq
/- Plain mathematics: steady programs; how many searchers are used. -/
namespace Go.Zq

theorem all_listN {p q : Nat → Bool} {n : Nat} : allN (fun k => q ((listN p n).getD k 0).toNat) (listN p n).length = allN (fun j => !p j || q j) n := by
  rw [Bool.eq_iff_iff, allN_iff, allN_iff]
  constructor
  · intro h j hj
    cases hp : p j with
    | false => rfl
    | true =>
      have hm : (j : Int) ∈ listN p n := listN_mem.2 ⟨j, rfl, hj, hp⟩
      obtain ⟨t, ht, e⟩ := List.mem_iff_getElem.1 hm
      have := h t ht
      rw [List.getD_eq_getElem?_getD, List.getElem?_eq_getElem ht, Option.getD_some, e, Int.toNat_natCast] at this
      rw [this]; rfl
  · intro h k hk
    obtain ⟨y, hy, hyn, hyp⟩ := listN_get hk
    have := h y hyn
    rw [hyp] at this
    simp only [hy, Int.toNat_natCast]
    simpa using this

end Go.Zq
/- Plain mathematics: the least bandwidth, as it is computed. -/
namespace Go.Zq

theorem fits_eq {F w : Nat} {g : Gr} {p : List Int} (hg : good g = true) (hw : w ≤ 8) (hl : p.length ≤ 8) (hr : ∀ y ∈ p, 0 ≤ y ∧ y < g.1) (hF : 300 ≤ F) (hG : g.2.length < F) (hs : Sm g.2.length) : s_l7Fits F g p (w : Int) = some (fitB g w p) := by
  have h8 := good_size hg
  obtain ⟨n, hn⟩ : ∃ n : Nat, g.1.toNat = n := ⟨_, rfl⟩
  have hn8 : n ≤ 8 := by omega
  unfold s_l7Fits
  rw [loop_all (L := fun k i => s_l7Fits_l2 F p (w : Int) g k i) (n := p.length) (p := fun i => allN (fun y => !adj g (nod p i) y || decide ((if bq p y then p.idxOf (y : Int) else p.length) ≤ i + w)) g.1.toNat) (bad := some false) (fin := some true) ?_ ?_ F (by omega)]
  · unfold fitB
    cases allN (fun i => allN (fun y => !adj g (nod p i) y || decide ((if bq p y then p.idxOf (y : Int) else p.length) ≤ i + w)) g.1.toNat) p.length <;> rfl
  · intro k i hi
    have hy := hr _ (getD_mem (l := p) (d := 0) hi)
    have hx : p.getD i 0 = ((nod p i : Nat) : Int) := by unfold nod; omega
    have hnb := neighbors_eq (F := F) (x := nod p i) hg (by omega) hG hs
    rw [hn] at hnb
    simp only [s_l7Fits_l2]
    rw [decide_eq_true (show (i : Int) < (p.length : Int) by omega), cond_true, idx_getD (d := 0) hi, Option.bind_some, hx, hnb, Option.bind_some]
    have hl8 : (listN (adj g (nod p i)) n).length ≤ 8 := by rw [listN_len]; exact Nat.le_trans cnt_le hn8
    rw [loop_all (L := fun k2 t => s_l7Fits_l1 F p (w : Int) g (i : Int) (listN (adj g (nod p i)) n) (s_l7Fits_l2 F p (w : Int) g k) k2 t) (n := (listN (adj g (nod p i)) n).length)
      (p := fun t => decide ((if bq p ((listN (adj g (nod p i)) n).getD t 0).toNat then p.idxOf ((((listN (adj g (nod p i)) n).getD t 0).toNat : Nat) : Int) else p.length) ≤ i + w)) (bad := some false) (fin := s_l7Fits_l2 F p (w : Int) g k ((i + 1 : Nat) : Int)) ?_ ?_ F (by omega)]
    · have := all_listN (p := adj g (nod p i)) (q := fun y => decide ((if bq p y then p.idxOf (y : Int) else p.length) ≤ i + w)) (n := n)
      rw [this, hn]
    · intro k2 t ht
      obtain ⟨y, hy, hyn, _⟩ := listN_get ht
      simp only [s_l7Fits_l1, s_l7Fits_j1]
      have hhas : s_l1Has F p (y : Int) = some (bq p y) := by rw [l1Has_eq (by omega) (by unfold Sm; omega)]; rfl
      rw [decide_eq_true (show (t : Int) < ((listN (adj g (nod p i)) n).length : Int) by omega), cond_true, idx_getD (d := 0) ht, Option.bind_some, hy, hhas, Option.bind_some, Int.toNat_natCast, w64_succ ht (by unfold Sm; omega)]
      cases hb : bq p y with
      | true =>
        have hm : (y : Int) ∈ p := of_decide_eq_true hb
        have h1 := List.idxOf_lt_length_iff.2 hm
        rw [cond_true, Option.bind_some, place_eq (by omega) (by unfold Sm; omega) hm, Option.bind_some, w64_id (by omega) (by omega), if_pos rfl]
        by_cases hc : p.idxOf (y : Int) ≤ i + w
        · rw [decide_eq_true hc, cond_true, decide_eq_false (by omega), cond_false]
        · rw [decide_eq_false hc, cond_false, decide_eq_true (by omega), cond_true]
      | false =>
        rw [cond_false, w64_id (by omega) (by omega), if_neg (by simp)]
        by_cases hc : p.length ≤ i + w
        · rw [decide_eq_true hc, cond_true, decide_eq_false (by omega), cond_false]
        · rw [decide_eq_false hc, cond_false, decide_eq_true (by omega), cond_true]
    · intro k2
      simp only [s_l7Fits_l1]
      rw [decide_eq_false (show ¬ ((listN (adj g (nod p i)) n).length : Int) < ((listN (adj g (nod p i)) n).length : Int) by omega), cond_false, w64_succ hi (by unfold Sm; omega)]
  · intro k
    simp only [s_l7Fits_l2]
    rw [decide_eq_false (show ¬ (p.length : Int) < (p.length : Int) by omega), cond_false]

/-- a search's answer -/
def ansL : Option (List Int) → List Int × Bool
  | some l => (l, true)
  | none => ([], false)

theorem sLay_eq {F w : Nat} {g : Gr} (hg : good g = true) (hw : w ≤ 8) (hF : 300 ≤ F) (hG : g.2.length < F) (hs : Sm g.2.length) :
    ∀ (d : Nat) (p : List Int) (k : Nat), Pre g d p → d < k → s_l7Layout_r F k g p (w : Int) = some (ansL (SL g w d p)) := by
  have h8 := good_size hg
  obtain ⟨n, hn⟩ : ∃ n : Nat, g.1.toNat = n := ⟨_, rfl⟩
  have hn8 : n ≤ 8 := by omega
  have hgn : g.1 = (n : Int) := by omega
  intro d
  induction d with
  | zero =>
    intro p k hp hk
    obtain ⟨k, rfl⟩ : ∃ k', k = k' + 1 := ⟨k - 1, by omega⟩
    have hlen := hp.len
    show s_l7Layout_b F (s_l7Layout_r F k) g p (w : Int) = _
    unfold s_l7Layout_b
    rw [fits_eq hg hw (by omega) hp.rg hF hG hs, Option.bind_some]
    simp only [SL]
    cases fitB g w p with
    | false => rfl
    | true =>
      have : ((p.length : Int) == g.1) = true := by rw [beq_iff_eq]; omega
      rw [Bool.not_true, cond_false, this, cond_true]
      rfl
  | succ d ih =>
    intro p k hp hk
    obtain ⟨k, rfl⟩ : ∃ k', k = k' + 1 := ⟨k - 1, by omega⟩
    have hlen := hp.len
    show s_l7Layout_b F (s_l7Layout_r F k) g p (w : Int) = _
    unfold s_l7Layout_b
    rw [fits_eq hg hw (by omega) hp.rg hF hG hs, Option.bind_some]
    simp only [SL]
    cases fitB g w p with
    | false => rfl
    | true =>
      have h0 : ((p.length : Int) == g.1) = false := by rw [beq_eq_false_iff_ne]; omega
      rw [Bool.not_true, cond_false, h0, cond_false, if_pos rfl, hn]
      have key : ∀ e x k2, x + e = n → e < k2 → fsI (fun y => SL g w d (p ++ [y])) (listN (fun x => !bq p x) x) = none →
          s_l7Layout_l1 F (s_l7Layout_r F k) p (w : Int) g k2 (x : Int) = some (ansL (fsI (fun y => SL g w d (p ++ [y])) (listN (fun x => !bq p x) n))) := by
        intro e
        induction e with
        | zero =>
          intro x k2 hx hk2 hnone
          obtain ⟨k2, rfl⟩ : ∃ k', k2 = k' + 1 := ⟨k2 - 1, by omega⟩
          obtain rfl : x = n := by omega
          simp only [s_l7Layout_l1]
          rw [hgn, decide_eq_false (show ¬ (x : Int) < (x : Int) by omega), cond_false, hnone]; rfl
        | succ e ihe =>
          intro x k2 hx hk2 hnone
          obtain ⟨k2, rfl⟩ : ∃ k', k2 = k' + 1 := ⟨k2 - 1, by omega⟩
          have hhas : s_l1Has F p (x : Int) = some (bq p x) := by rw [l1Has_eq (by omega) (by unfold Sm; omega)]; rfl
          have hxn : x < n := by omega
          simp only [s_l7Layout_l1]
          rw [hgn, decide_eq_true (show (x : Int) < (n : Int) by omega), cond_true, hhas, Option.bind_some, w64_succ hxn (by unfold Sm; omega)]
          cases hb : bq p x with
          | true =>
            rw [cond_true]
            refine ihe (x + 1) k2 (by omega) (by omega) ?_
            rw [listN_succ, hb]; simpa using hnone
          | false =>
            rw [cond_false, own_o (by omega), Option.bind_some]
            show ((appL p [(x : Int)]).bind _) = _
            rw [appL_one (by omega), Option.bind_some, ih (p ++ [(x : Int)]) k (hp.snoc (by omega) hb) (by omega), Option.bind_some]
            cases hsl : SL g w d (p ++ [(x : Int)]) with
            | some l =>
              -- the search ends here
              have hsp : ∀ m, x < m → fsI (fun y => SL g w d (p ++ [y])) (listN (fun x => !bq p x) m) = some l := by
                intro m
                induction m with
                | zero => intro h; omega
                | succ m ihm =>
                  intro h
                  rw [listN_succ, fsI_app]
                  by_cases e : x = m
                  · subst e
                    rw [hnone, hb]
                    simp [fsI, hsl]
                  · rw [ihm (by omega)]
              rw [hsp n hxn]
              simp only [ansL, cond_true]
            | none =>
              simp only [ansL, cond_false]
              refine ihe (x + 1) k2 (by omega) (by omega) ?_
              rw [listN_succ, fsI_app, hnone, hb]
              simp [fsI, hsl]
      exact key n 0 F (by omega) (by omega) rfl

theorem iHas_eq {F a x : Nat} {g : Gr} (ha : a < g.1.toNat) (hx : x < g.1.toNat) (hg : good g = true) : i_net_has F ⟨nearL g⟩ (a : Int) (x : Int) = some (adj g a x) := by
  have h8 := good_size hg
  unfold i_net_has
  rw [idx_getD (d := 0) (by rw [nearL_len]; exact ha), Option.bind_some, nearL_get ha]
  obtain ⟨q, q1, q2, _⟩ := bit_at (m := mkm (adj g a) g.1.toNat) (j := x) (mkm_lt63 (by omega)) (by omega)
  rw [q1, Option.bind_some, q2, mkm_bit, decide_eq_true hx]; rfl

theorem iNar_eq {F w : Nat} {g : Gr} (hg : good g = true) (hw : w ≤ 8) (hF : 300 ≤ F) :
    ∀ (d : Nat) (o : NL Int) (k : Nat), Pre g d o.list → d < k → ∃ o', i_net_narrowLayout_o_r F k ⟨nearL g⟩ (w : Int) ⟨o⟩ = some (o', (NY g w d o.list).isSome) ∧ ∀ l, NY g w d o.list = some l → o'.list = l := by
  have h8 := good_size hg
  obtain ⟨n, hn⟩ : ∃ n : Nat, g.1.toNat = n := ⟨_, rfl⟩
  have hn8 : n ≤ 8 := by omega
  have hgn : g.1 = (n : Int) := by omega
  intro d
  induction d with
  | zero =>
    intro o k hp hk
    obtain ⟨k, rfl⟩ : ∃ k', k = k' + 1 := ⟨k - 1, by omega⟩
    have hlen := hp.len
    refine ⟨o, ?_, fun l h => by cases h; rfl⟩
    show i_net_narrowLayout_o_b F (i_net_narrowLayout_o_r F k) ⟨nearL g⟩ (w : Int) ⟨o⟩ = _
    unfold i_net_narrowLayout_o_b i_net_size
    have : ((o.list.length : Int) == ((nearL g).length : Int)) = true := by rw [beq_iff_eq, nearL_len]; omega
    rw [Option.bind_some]
    show (bif ((o.list.length : Int) == ((nearL g).length : Int)) then _ else _) = _
    rw [this, cond_true]; rfl
  | succ d ih =>
    intro o k hp hk
    obtain ⟨k, rfl⟩ : ∃ k', k = k' + 1 := ⟨k - 1, by omega⟩
    have hlen := hp.len
    obtain ⟨p, hpe⟩ : ∃ p, o.list = p := ⟨_, rfl⟩
    show ∃ o', i_net_narrowLayout_o_b F (i_net_narrowLayout_o_r F k) ⟨nearL g⟩ (w : Int) ⟨o⟩ = _ ∧ _
    unfold i_net_narrowLayout_o_b i_net_size
    rw [Option.bind_some]
    have h0 : ((o.list.length : Int) == ((nearL g).length : Int)) = false := by rw [beq_eq_false_iff_ne, nearL_len]; omega
    show ∃ o', (bif ((o.list.length : Int) == ((nearL g).length : Int)) then _ else _) = _ ∧ _
    rw [h0, cond_false]
    simp only [NY]
    rw [hpe] at hp hlen ⊢
    rw [hn]
    obtain ⟨oc, q1, q2⟩ := cloneO_list (xs := p) (by omega)
    have key : ∀ e x k2, x + e = n → e < k2 → fsI (fun y => NY g w d (p ++ [y])) (listN (fun x => !bq p x && narB g w p x) x) = none →
        ∃ o', i_net_narrowLayout_o_l2 F (i_net_narrowLayout_o_r F k) (w : Int) ⟨o⟩ ⟨nearL g⟩ k2 (x : Int) = some (o', (fsI (fun y => NY g w d (p ++ [y])) (listN (fun x => !bq p x && narB g w p x) n)).isSome) ∧
          ∀ l, fsI (fun y => NY g w d (p ++ [y])) (listN (fun x => !bq p x && narB g w p x) n) = some l → o'.list = l := by
      intro e
      induction e with
      | zero =>
        intro x k2 hx hk2 hnone
        obtain ⟨k2, rfl⟩ : ∃ k', k2 = k' + 1 := ⟨k2 - 1, by omega⟩
        obtain rfl : x = n := by omega
        simp only [i_net_narrowLayout_o_l2]
        rw [nearL_len, hn, decide_eq_false (show ¬ (x : Int) < (x : Int) by omega), cond_false, hnone]
        exact ⟨.nil, rfl, fun l h => by cases h⟩
      | succ e ihe =>
        intro x k2 hx hk2 hnone
        obtain ⟨k2, rfl⟩ : ∃ k', k2 = k' + 1 := ⟨k2 - 1, by omega⟩
        have hxn : x < n := by omega
        simp only [i_net_narrowLayout_o_l2]
        rw [nearL_len, hn, decide_eq_true (show (x : Int) < (n : Int) by omega), cond_true]
        show ∃ o', ((slices_Contains F o.list (x : Int)).bind _) = _ ∧ _
        rw [hpe, contains_eq (by omega) (by unfold Sm; omega), Option.bind_some]
        -- the inner loop
        have inner : ∀ m f k3, m ≤ p.length - w → (p.length - w - m) < k3 → (f = (!bq p x && allN (fun i => !adj g (nod p i) x) m) ) →
            i_net_narrowLayout_o_l1 F (i_net_narrowLayout_o_r F k) (w : Int) ⟨o⟩ ⟨nearL g⟩ (x : Int) (i_net_narrowLayout_o_l2 F (i_net_narrowLayout_o_r F k) (w : Int) ⟨o⟩ ⟨nearL g⟩ k2) k3 f (m : Int) =
            (bif (!bq p x && narB g w p x) then (i_net_narrowLayout_o_r F k ⟨nearL g⟩ (w : Int) ⟨.of (p ++ [(x : Int)])⟩).bind fun r => bif r.2 then some (r.1, true) else i_net_narrowLayout_o_l2 F (i_net_narrowLayout_o_r F k) (w : Int) ⟨o⟩ ⟨nearL g⟩ k2 ((x + 1 : Nat) : Int)
             else i_net_narrowLayout_o_l2 F (i_net_narrowLayout_o_r F k) (w : Int) ⟨o⟩ ⟨nearL g⟩ k2 ((x + 1 : Nat) : Int)) := by
          have hend : ∀ f, (bif (!f) then i_net_narrowLayout_o_l2 F (i_net_narrowLayout_o_r F k) (w : Int) ⟨o⟩ ⟨nearL g⟩ k2 (w64 ((x : Int) + 1)) else
              (slices_Clone_o F o.list).bind fun r_48 => (appL r_48.list [(x : Int)]).bind fun ap_49 => (i_net_narrowLayout_o_r F k ⟨nearL g⟩ (w : Int) ⟨.of ap_49⟩).bind fun r_50 =>
                bif r_50.2 then some (r_50.1, true) else i_net_narrowLayout_o_l2 F (i_net_narrowLayout_o_r F k) (w : Int) ⟨o⟩ ⟨nearL g⟩ k2 (w64 ((x : Int) + 1))) =
              (bif f then (i_net_narrowLayout_o_r F k ⟨nearL g⟩ (w : Int) ⟨.of (p ++ [(x : Int)])⟩).bind fun r => bif r.2 then some (r.1, true) else i_net_narrowLayout_o_l2 F (i_net_narrowLayout_o_r F k) (w : Int) ⟨o⟩ ⟨nearL g⟩ k2 ((x + 1 : Nat) : Int)
               else i_net_narrowLayout_o_l2 F (i_net_narrowLayout_o_r F k) (w : Int) ⟨o⟩ ⟨nearL g⟩ k2 ((x + 1 : Nat) : Int)) := by
            intro f
            rw [w64_succ hxn (by unfold Sm; omega)]
            cases f with
            | false => rfl
            | true =>
              rw [Bool.not_true, cond_false, cond_true, hpe]
              unfold slices_Clone_o
              rw [q1, Option.bind_some, q2, appL_one (by omega), Option.bind_some]
          intro m f k3
          induction k3 generalizing m f with
          | zero => intro _ h; omega
          | succ k3 ih3 =>
            intro hm hk3 hf
            have hw64 : w64 ((o.list.length : Int) - (w : Int)) = (p.length : Int) - w := by rw [hpe, w64_id (by omega) (by omega)]
            simp only [i_net_narrowLayout_o_l1, i_net_narrowLayout_o_j1]
            show (bif decide ((m : Int) < w64 ((o.list.length : Int) - (w : Int))) then _ else _) = _
            rw [hw64]
            by_cases hlt : (m : Int) < (p.length : Int) - w
            · rw [decide_eq_true hlt, cond_true]
              have hmp : m < p.length := by omega
              have hr := hp.rg _ (getD_mem (l := p) (d := 0) hmp)
              have hxm : p.getD m 0 = ((nod p m : Nat) : Int) := by unfold nod; omega
              cases f with
              | true =>
                rw [cond_true]
                show ((idx o.list (m : Int)).bind _) = _
                rw [hpe, idx_getD (d := 0) hmp, Option.bind_some, hxm, iHas_eq (by unfold nod; omega) (by omega) hg, Option.bind_some, w64_succ (n := p.length) hmp (by unfold Sm; omega)]
                refine ih3 (m + 1) _ (by omega) (by omega) ?_
                have hf' : true = (!bq p x && allN (fun i => !adj g (nod p i) x) m) := hf
                simp only [allN]
                cases hbx : bq p x with
                | true => rw [hbx] at hf'; simp at hf'
                | false =>
                  rw [hbx] at hf'
                  simp only [Bool.not_false, Bool.true_and] at hf' ⊢
                  rw [← hf']; simp
              | false =>
                rw [cond_false]
                have hz : (!bq p x && narB g w p x) = false := by
                  cases hbx : bq p x with
                  | true => rfl
                  | false =>
                    rw [hbx] at hf
                    simp only [Bool.not_false, Bool.true_and] at hf ⊢
                    have hnall : ¬ allN (fun i => !adj g (nod p i) x) m = true := by rw [← hf]; simp
                    cases hnb : narB g w p x with
                    | false => rfl
                    | true =>
                      unfold narB at hnb
                      rw [allN_iff] at hnb
                      exact absurd (allN_iff.2 fun i hi => hnb i (by omega)) hnall
                have := hend false
                rw [hz]
                exact this
            · rw [decide_eq_false hlt, cond_false]
              have hmm : m = p.length - w := by omega
              have hz : (!bq p x && narB g w p x) = f := by rw [hf, hmm]; rfl
              rw [hz]
              have := hend f
              cases f with
              | true => exact this
              | false => exact this
        have hin := inner 0 (!decide ((x : Int) ∈ p)) F (by omega) (by omega) (by
          show (!bq p x) = _
          simp [allN])
        have hin' : i_net_narrowLayout_o_l1 F (i_net_narrowLayout_o_r F k) (w : Int) ⟨o⟩ ⟨nearL g⟩ (x : Int) (i_net_narrowLayout_o_l2 F (i_net_narrowLayout_o_r F k) (w : Int) ⟨o⟩ ⟨nearL g⟩ k2) F (!decide ((x : Int) ∈ p)) 0 = _ := hin
        rw [hin']
        cases hbn : (!bq p x && narB g w p x) with
        | false =>
          rw [cond_false]
          refine ihe (x + 1) k2 (by omega) (by omega) ?_
          rw [listN_succ, hbn]; simpa using hnone
        | true =>
          have hb : bq p x = false := by
            cases h : bq p x with
            | false => rfl
            | true => rw [h] at hbn; cases hbn
          obtain ⟨o', p1, p2⟩ := ih (.of (p ++ [(x : Int)])) k (hp.snoc (by omega) hb) (by omega)
          have p2 : ∀ l, NY g w d (p ++ [(x : Int)]) = some l → o'.list = l := p2
          have p1 : i_net_narrowLayout_o_r F k ⟨nearL g⟩ (w : Int) ⟨.of (p ++ [(x : Int)])⟩ = some (o', (NY g w d (p ++ [(x : Int)])).isSome) := p1
          rw [cond_true, p1, Option.bind_some]
          cases hny : NY g w d (p ++ [(x : Int)]) with
          | some l =>
            have hsp : ∀ m, x < m → fsI (fun y => NY g w d (p ++ [y])) (listN (fun x => !bq p x && narB g w p x) m) = some l := by
              intro m
              induction m with
              | zero => intro h; omega
              | succ m ihm =>
                intro h
                rw [listN_succ, fsI_app]
                by_cases e : x = m
                · subst e
                  rw [hnone, hbn]
                  simp [fsI, hny]
                · rw [ihm (by omega)]
            rw [hsp n hxn]
            simp only [Option.isSome_some, cond_true]
            exact ⟨o', rfl, fun l' h => by cases h; exact p2 l hny⟩
          | none =>
            simp only [Option.isSome_none, cond_false]
            refine ihe (x + 1) k2 (by omega) (by omega) ?_
            rw [listN_succ, fsI_app, hnone, hbn]
            simp [fsI, hny]
    exact key n 0 F (by omega) (by omega) rfl

theorem exLeastBandwidth {F : Nat} {g : Gr} (h9 : 300 ≤ F) (hG : g.2.length < F) (hs : Sm g.2.length) :
    ∃ R c b o, s_LeastBandwidth F g = some (S3.mk R c b) ∧ i_LeastBandwidth_o F g = some (S3.mk o c b) ∧ o.list = R ∧ R.length ≤ 8 := by
  unfold s_LeastBandwidth i_LeastBandwidth_o
  rw [l2Good_eq hG hs, isGraph_eq hG (by omega) hs, Option.bind_some, Option.bind_some]
  cases hg : good g with
  | false => exact ⟨[], 0, false, .nil, rfl, rfl, rfl, by simp⟩
  | true =>
    have h8 := good_size hg
    obtain ⟨n, hn⟩ : ∃ n : Nat, g.1.toNat = n := ⟨_, rfl⟩
    have hgn : g.1 = (n : Int) := by omega
    rw [Bool.not_true, cond_false, cond_false, netOf_eq hg hG hs, Option.bind_some]
    have hp0 : Pre g n [] := ⟨by simp [hn], List.nodup_nil, by simp⟩
    have hok0 : ∀ w, okB g w [] = true := fun w => rfl
    have hS : ∀ w : Nat, w ≤ 8 → s_l7Layout F g [] (w : Int) = some (ansL (RF g w n [])) := by
      intro w hw
      have := sLay_eq hg hw h9 hG hs n [] F hp0 (by omega)
      rw [SL_RF n [] hp0] at this
      exact this
    have hI : ∀ w : Nat, w ≤ 8 → ∃ o', i_net_narrowLayout_o F ⟨nearL g⟩ (w : Int) ⟨.nil⟩ = some (o', (RF g w n []).isSome) ∧ ∀ l, RF g w n [] = some l → o'.list = l := by
      intro w hw
      have := iNar_eq (F := F) hg hw h9 n .nil F hp0 (by omega)
      simp only [NL.list] at this
      rw [NY_RF n [] hp0 (hok0 w)] at this
      exact this
    by_cases hn0 : n = 0
    · subst hn0
      obtain ⟨o', p1, p2⟩ := hI 0 (by omega)
      have hr : RF g 0 0 [] = some [] := rfl
      rw [hr] at p1 p2
      obtain ⟨F, rfl⟩ : ∃ F', F = F' + 1 := ⟨F - 1, by omega⟩
      refine ⟨[], 0, true, o', ?_, ?_, p2 [] rfl, by simp⟩
      · simp only [s_LeastBandwidth_l1]
        rw [hgn]; rfl
      · have p1' : i_net_narrowLayout_o (F + 1) ⟨nearL g⟩ 0 ⟨.nil⟩ = some (o', true) := p1
        simp only [i_LeastBandwidth_o_l1]
        rw [p1']; rfl
    · cases hf : fstN (fun w => (RF g w n []).isSome) n with
      | none =>
        have := fst_none.1 hf (n - 1) (by omega)
        obtain ⟨l, hl⟩ := RF_wide (g := g) (w := n - 1) (by omega) n [] hp0
        rw [hl] at this; cases this
      | some W =>
        obtain ⟨w1, w2, w3⟩ := fst_some hf
        obtain ⟨l, hl⟩ := Option.isSome_iff_exists.1 w2
        obtain ⟨o', p1, p2⟩ := hI W (by omega)
        obtain ⟨t, ht, hpl, _⟩ := RF_ext _ _ _ hp0 hl
        refine ⟨l, (W : Int), true, o', ?_, ?_, p2 l hl, by have := hpl.len; omega⟩
        · refine loop_fst (L := fun k x => s_LeastBandwidth_l1 F g k x) hf ?_ ?_ F (by omega)
          · intro k i hi hpi
            have hnone : RF g i n [] = none := by
              cases h : RF g i n [] with
              | none => rfl
              | some r => rw [h] at hpi; cases hpi
            simp only [s_LeastBandwidth_l1]
            rw [hgn, decide_eq_true (show (i : Int) < (n : Int) by omega), cond_true, hS i (by omega), Option.bind_some, hnone, w64_succ hi (by unfold Sm; omega)]
            rfl
          · intro k
            simp only [s_LeastBandwidth_l1]
            rw [hgn, decide_eq_true (show (W : Int) < (n : Int) by omega), cond_true, hS W (by omega), Option.bind_some, hl]
            rfl
        · refine loop_fst (L := fun k x => i_LeastBandwidth_o_l1 F ⟨nearL g⟩ k x) hf ?_ ?_ F (by omega)
          · intro k i hi hpi
            have hnone : RF g i n [] = none := by
              cases h : RF g i n [] with
              | none => rfl
              | some r => rw [h] at hpi; cases hpi
            obtain ⟨o2, p3, _⟩ := hI i (by omega)
            simp only [i_LeastBandwidth_o_l1]
            rw [p3, Option.bind_some, hnone, w64_succ hi (by unfold Sm; omega)]
            rfl
          · intro k
            simp only [i_LeastBandwidth_o_l1]
            rw [p1, Option.bind_some, hl]
            rfl

end Go.Zq
/- The law LeastBandwidth, as a plain statement. -/
namespace Go.Zq

theorem lawLeastBandwidth {F : Nat} {g : Gr} (hF : 2097152 ≤ F) (hg : g.2.length ≤ 9223372036854775807) : w_FnExactLeastBandwidth F g = some true := by
  unfold w_FnExactLeastBandwidth
  rw [szGraph_eq (by omega) (by omega) hg, Option.bind_some]
  by_cases h2 : (1048576 : Int) - g.2.length < 0
  · simp [h2]
  simp only [h2, if_false, decide_false, cond_false]
  obtain ⟨R, c, b, o, hs, hi, ho, hl⟩ := exLeastBandwidth (F := F) (g := g) (by omega) (by omega) (by unfold Sm; omega)
  have e1 : w_toGraph F g = some g := toGraph_eq (by omega) (by omega) (by omega)
  have e2 : w_toGraph_o F g = some (g.1, .of g.2) := toGraph_o_eq (by omega) (by omega) (by omega)
  have e5 : w_eqIntS F o.list R = some true := by rw [ho]; exact eqIntS_eq (by omega) (by unfold Sm; omega)
  have e6 : w_eqGraph F (g.1, (NL.of g.2).list) g = some true := eqGraph_eq (g := g) (by omega) (by unfold Sm; omega) (by omega)
  have e8 : w_markGraph F ⟨g.1, .of g.2⟩ 1 = some (1 + 2 * (g.2.length : Int)) := markGraph_eq (by omega) (by omega) (by omega) (by omega) (by omega)
  have e9 : decide ((1 + 2 * (g.2.length : Int)) < 0) = false := decide_eq_false (by omega)
  obtain ⟨o2, m2, m3, m4⟩ := markIntS_eq (F := F) (o := o) (k := 1) (by rw [ho]; omega) (by rw [ho]; omega) (by omega) (by omega)
  have e10 : w_heldIntS F o2.list 1 = some (1 + (o.list.length : Int)) := by rw [m4]; exact heldIntS_eq (by rw [ho]; omega) (by rw [ho]; omega) (by omega) (by omega)
  have e11 : decide ((1 + (o.list.length : Int)) < 0) = false := decide_eq_false (by omega)
  have hi1 : i_LeastBandwidth_o F (g.1, (NL.of g.2).list) = some (S3.mk o c b) := hi
  simp only [w_FnExactLeastBandwidth_j1, w_FnExactLeastBandwidth_j2, w_FnExactLeastBandwidth_j3, e1, e2, e5, e6, e8, e9, e10, e11, hs, hi, hi1, m2, m3, Option.bind_some, Bool.not_true, cond_false, bne_self_eq_false]

end Go.Zq
