/- Plain mathematics: what the functions answer (part 3). Conditions: stated in each theorem. -/
import Derived.Test.YtonidecbmdpfhaaM2
import Derived.Test.YtonidecbmdpfhaaM1
set_option linter.unusedVariables false
set_option linter.unusedSimpArgs false
/- Plain mathematics: cliques; perfect eliminations. -/
namespace Go.Zq

end Go.Zq
/- Plain mathematics: decompositions. -/
namespace Go.Zq

end Go.Zq
/- Plain mathematics: the filling of an elimination, and its width. -/
namespace Go.Zq

end Go.Zq
/- Plain mathematics: the width of an elimination. -/
namespace Go.Zq

theorem cloneO_list {xs : List Int} (h : xs.length ≤ 1000000000000) : ∃ o, cloneO xs = some o ∧ o.list = xs := by
  unfold cloneO
  rw [if_pos h]
  refine ⟨_, rfl, ?_⟩
  cases xs with
  | nil => rfl
  | cons x xs => rfl

end Go.Zq
/- Plain mathematics: the cost of a cut over sets, greedy orders. -/
namespace Go.Zq


end Go.Zq
/- Plain mathematics: the first best order for a cost (frontSize). -/
namespace Go.Zq

end Go.Zq
/- Plain mathematics: the best layout. -/
namespace Go.Zq

theorem own_o {F : Nat} {l : List Int} (hl : l.length ≤ 1000) : s_l1Own_o F l = some (.of l) := by
  unfold s_l1Own_o appL
  rw [if_pos (by
    have : (2 : Nat) ^ 40 = 1099511627776 := by decide
    simp only [List.length_nil]
    omega)]
  rfl

end Go.Zq
/- Plain mathematics: the longest path. -/
namespace Go.Zq

/-- the longer of two lists, the first of equals -/
def bst (b c : List Int) : List Int := if c.length > b.length then c else b
theorem bst_assoc {a b c : List Int} : bst (bst a b) c = bst a (bst b c) := by
  unfold bst
  by_cases h1 : b.length > a.length <;> by_cases h2 : c.length > b.length
  · simp only [h1, h2, if_true]
    rw [if_pos (by omega)]
  · simp only [h1, h2, if_true, if_false]
  · simp only [h1, h2, if_true, if_false]
  · simp only [h1, h2, if_false]
    rw [if_neg (by omega)]
theorem fold_bst {h : Int → List Int} : ∀ (L : List Int) (a b : List Int), L.foldl (fun b y => bst b (h y)) (bst a b) = bst a (L.foldl (fun b y => bst b (h y)) b)
  | [], a, b => rfl
  | y :: L, a, b => by
    simp only [List.foldl_cons]
    rw [bst_assoc]
    exact fold_bst L a (bst b (h y))

/-- may a path go on to a node -/
def exb (g : Gr) (p : List Int) (x : Nat) : Bool := !bq p x && (p.length == 0 || adj g (p.getD (p.length - 1) 0).toNat x)
def LP (g : Gr) : Nat → List Int → List Int
  | 0, p => p
  | d + 1, p => (listN (exb g p) g.1.toNat).foldl (fun b y => bst b (LP g d (p ++ [y]))) p

theorem bst_len {b c : List Int} {m : Nat} (h1 : b.length ≤ m) (h2 : c.length ≤ m) : (bst b c).length ≤ m := by
  unfold bst; split <;> assumption
theorem LP_len {g : Gr} : ∀ (d : Nat) (p : List Int), (LP g d p).length ≤ p.length + d
  | 0, p => Nat.le_refl _
  | d + 1, p => by
    have key : ∀ (L : List Int) (b : List Int), b.length ≤ p.length + (d + 1) → (L.foldl (fun b y => bst b (LP g d (p ++ [y]))) b).length ≤ p.length + (d + 1) := by
      intro L
      induction L with
      | nil => intro b h; exact h
      | cons y L ih =>
        intro b h
        refine ih _ (bst_len h ?_)
        have := LP_len (g := g) d (p ++ [y])
        rw [List.length_append, List.length_singleton] at this
        omega
    exact key _ _ (by omega)

theorem full_none {n : Nat} {p : List Int} (hl : p.length = n) (hnd : p.Nodup) (hr : ∀ y ∈ p, 0 ≤ y ∧ y < (n : Int)) {x : Nat} (hx : x < n) : bq p x = true := by
  unfold bq
  refine decide_eq_true ?_
  by_cases h : (x : Int) ∈ p
  · exact h
  · have := nodup_len n ((x : Int) :: p) (List.nodup_cons.2 ⟨h, hnd⟩) (by
      intro y hy
      rcases List.mem_cons.1 hy with rfl | hy
      · omega
      · exact hr y hy)
    rw [List.length_cons] at this
    omega

theorem nodup_snoc {p : List Int} {x : Nat} (hnd : p.Nodup) (h : bq p x = false) : (p ++ [(x : Int)]).Nodup := by
  rw [List.nodup_append]
  refine ⟨hnd, by simp, ?_⟩
  intro a ha b hb e
  have hb : b = (x : Int) := by simpa using hb
  subst e; subst hb
  exact of_decide_eq_false h ha

theorem sLP_eq {F : Nat} {g : Gr} (hg : good g = true) (hF : 300 ≤ F) (hG : g.2.length < F) (hs : Sm g.2.length) :
    ∀ (d : Nat) (p : List Int) (k : Nat), p.length + d = g.1.toNat → p.Nodup → (∀ y ∈ p, 0 ≤ y ∧ y < g.1) → d < k → s_l7Path_r F k g p = some (LP g d p) := by
  have h8 := good_size hg
  obtain ⟨n, hn⟩ : ∃ n : Nat, g.1.toNat = n := ⟨_, rfl⟩
  have hn8 : n ≤ 8 := by omega
  have hgn : g.1 = (n : Int) := by omega
  rw [hn]
  intro d
  induction d with
  | zero =>
    intro p k hl hnd hr hk
    obtain ⟨k, rfl⟩ : ∃ k', k = k' + 1 := ⟨k - 1, by omega⟩
    show s_l7Path_b F (s_l7Path_r F k) g p = some p
    unfold s_l7Path_b
    refine loop_inv (L := fun k2 x b => s_l7Path_l1 F (s_l7Path_r F k) p g k2 b x) (n := n) (fun _ b => b = p) ?_ ?_ F p (by omega) rfl
    · intro k2 x b hx hI
      subst hI
      refine ⟨_, rfl, ?_⟩
      have hb : decide ((x : Int) ∈ b) = true := full_none (by omega) hnd (by rw [← hgn]; exact hr) hx
      simp only [s_l7Path_l1, s_l7Path_j1, s_l7Path_j2]
      rw [hgn, decide_eq_true (show (x : Int) < (n : Int) by omega), cond_true, l1Has_eq (by omega) (by unfold Sm; omega), Option.bind_some, hb, Bool.not_true, cond_false, cond_false, w64_succ hx (by unfold Sm; omega)]
    · intro k2 b hI
      subst hI
      simp only [s_l7Path_l1]
      rw [hgn, decide_eq_false (show ¬ (n : Int) < (n : Int) by omega), cond_false]
  | succ d ih =>
    intro p k hl hnd hr hk
    obtain ⟨k, rfl⟩ : ∃ k', k = k' + 1 := ⟨k - 1, by omega⟩
    show s_l7Path_b F (s_l7Path_r F k) g p = some ((listN (exb g p) g.1.toNat).foldl (fun b y => bst b (LP g d (p ++ [y]))) p)
    rw [hn]
    unfold s_l7Path_b
    refine loop_inv (L := fun k2 x b => s_l7Path_l1 F (s_l7Path_r F k) p g k2 b x) (n := n) (fun x b => b = (listN (exb g p) x).foldl (fun b y => bst b (LP g d (p ++ [y]))) p) ?_ ?_ F p (by omega) rfl
    · intro k2 x b hx hI
      refine ⟨_, rfl, ?_⟩
      have hhas : s_l1Has F p (x : Int) = some (bq p x) := by rw [l1Has_eq (by omega) (by unfold Sm; omega)]; rfl
      simp only [s_l7Path_l1, s_l7Path_j1, s_l7Path_j2]
      rw [hgn, decide_eq_true (show (x : Int) < (n : Int) by omega), cond_true, hhas, Option.bind_some, w64_succ hx (by unfold Sm; omega), listN_succ]
      have hex : (if (p.length : Int) == 0 then some true else (idx p (w64 ((p.length : Int) - 1))).bind fun e => s_l2Near F g e (x : Int)) = some (p.length == 0 || adj g (p.getD (p.length - 1) 0).toNat x) := by
        by_cases h0 : p.length = 0
        · have h1 : ((p.length : Int) == 0) = true := by rw [beq_iff_eq]; omega
          have h2 : (p.length == 0) = true := by rw [beq_iff_eq]; exact h0
          rw [h1, h2]; rfl
        · have h1 : ((p.length : Int) == 0) = false := by rw [beq_eq_false_iff_ne]; omega
          have h2 : (p.length == 0) = false := by rw [beq_eq_false_iff_ne]; exact h0
          have hw : w64 ((p.length : Int) - 1) = ((p.length - 1 : Nat) : Int) := by rw [w64_id (by omega) (by omega)]; omega
          have hy := hr _ (getD_mem (l := p) (d := 0) (i := p.length - 1) (by omega))
          obtain ⟨y, hy'⟩ : ∃ y : Nat, p.getD (p.length - 1) 0 = y := ⟨(p.getD (p.length - 1) 0).toNat, by omega⟩
          rw [h1, h2, hw, idx_getD (d := 0) (by omega), Option.bind_some, hy', near_eq hG hs, Int.toNat_natCast, Bool.false_or]
          rfl
      cases hb : bq p x with
      | true =>
        have he : exb g p x = false := by unfold exb; rw [hb]; rfl
        rw [he, Bool.not_true, cond_false, cond_false, hI]
        simp
      | false =>
        rw [Bool.not_false, cond_true]
        have hcomb : ∀ (T : Bool → Option (List Int)), (bif (p.length : Int) == 0 then T true else (idx p (w64 ((p.length : Int) - 1))).bind fun e => (s_l2Near F g e (x : Int)).bind T) = T (p.length == 0 || adj g (p.getD (p.length - 1) 0).toNat x) := by
          intro T
          cases h1 : ((p.length : Int) == 0) with
          | true =>
            rw [h1] at hex
            simp only [if_true, Option.some.injEq] at hex
            rw [cond_true, hex]
          | false =>
            rw [h1] at hex
            simp only [Bool.false_eq_true, if_false] at hex
            rw [cond_false, ← Option.bind_assoc, hex, Option.bind_some]
        have h2 := hcomb (fun t => bif t then (s_l1Own_o F p).bind fun r_41 => (appL r_41.list [(x : Int)]).bind fun ap_42 => (s_l7Path_r F k g ap_42).bind fun r_43 =>
            bif decide ((r_43.length : Int) > (b.length : Int)) then s_l7Path_l1 F (s_l7Path_r F k) p g k2 r_43 ((x + 1 : Nat) : Int) else s_l7Path_l1 F (s_l7Path_r F k) p g k2 b ((x + 1 : Nat) : Int)
          else s_l7Path_l1 F (s_l7Path_r F k) p g k2 b ((x + 1 : Nat) : Int))
        refine Eq.trans ?_ (h2.trans ?_)
        · cases ((p.length : Int) == 0) <;> rfl
        · have he : exb g p x = (p.length == 0 || adj g (p.getD (p.length - 1) 0).toNat x) := by unfold exb; rw [hb]; rfl
          rw [he]
          cases (p.length == 0 || adj g (p.getD (p.length - 1) 0).toNat x) with
          | false => rw [cond_false, hI]; simp
          | true =>
            have hrec := ih (p ++ [(x : Int)]) k (by rw [List.length_append, List.length_singleton]; omega) (nodup_snoc hnd hb) (by
              intro y hy
              rcases List.mem_append.1 hy with h | h
              · exact hr y h
              · obtain rfl : y = (x : Int) := by simpa using h
                omega) (by omega)
            rw [cond_true, own_o (by omega), Option.bind_some]
            show ((appL p [(x : Int)]).bind _) = _
            rw [appL_one (by omega), Option.bind_some, hrec, Option.bind_some, hI]
            simp only [if_true, List.foldl_append, List.foldl_cons, List.foldl_nil]
            unfold bst
            by_cases hl : (LP g d (p ++ [(x : Int)])).length > ((listN (exb g p) x).foldl (fun b y => if (LP g d (p ++ [y])).length > b.length then LP g d (p ++ [y]) else b) p).length
            · rw [decide_eq_true (by exact Int.ofNat_lt.2 hl), cond_true, if_pos hl]
            · rw [decide_eq_false (fun h => hl (Int.ofNat_lt.1 h)), cond_false, if_neg hl]
    · intro k2 b hI
      subst hI
      simp only [s_l7Path_l1]
      rw [hgn, decide_eq_false (show ¬ (n : Int) < (n : Int) by omega), cond_false]

theorem iLO_eq {F : Nat} {g : Gr} (hg : good g = true) (hF : 300 ≤ F) :
    ∀ (d : Nat) (p : List Int) (k : Nat) (o : NL Int), p.length + d = g.1.toNat → 0 < p.length → p.Nodup → (∀ y ∈ p, 0 ≤ y ∧ y < g.1) → d < k → ∃ o', i_net_longerPath_o_r F k ⟨nearL g⟩ p ⟨o⟩ = some o' ∧ o'.list = bst o.list (LP g d p) := by
  have h8 := good_size hg
  obtain ⟨n, hn⟩ : ∃ n : Nat, g.1.toNat = n := ⟨_, rfl⟩
  have hn8 : n ≤ 8 := by omega
  have hgn : g.1 = (n : Int) := by omega
  rw [hn]
  intro d
  induction d with
  | zero =>
    intro p k o hl h0 hnd hr hk
    obtain ⟨k, rfl⟩ : ∃ k', k = k' + 1 := ⟨k - 1, by omega⟩
    have hset : ∀ o1 : NL Int, i_net_longerPath_o_j1 F (i_net_longerPath_o_r F k) p ⟨nearL g⟩ o1 = some o1 := by
      intro o1
      have hw : w64 ((p.length : Int) - 1) = ((p.length - 1 : Nat) : Int) := by rw [w64_id (by omega) (by omega)]; omega
      have hy := hr _ (getD_mem (l := p) (d := 0) (i := p.length - 1) (by omega))
      obtain ⟨y, hy'⟩ : ∃ y : Nat, p.getD (p.length - 1) 0 = y := ⟨(p.getD (p.length - 1) 0).toNat, by omega⟩
      obtain ⟨m, m1, m2, m3⟩ := maskOf_eq (F := F) (l := p) (by omega) (by unfold Sm; omega) (fun z hz => by have := hr z hz; omega)
      unfold i_net_longerPath_o_j1
      rw [hw, idx_getD (d := 0) (by omega), Option.bind_some, hy', idx_getD (d := 0) (by rw [nearL_len]; omega), Option.bind_some, nearL_get (by omega), m1, Option.bind_some]
      obtain ⟨c, c1, _, c2⟩ := iandNot_nat (a := mkm (adj g y) g.1.toNat) (b := m) (mkm_lt63 (by omega)) m2
      have hc : c = mkm (fun _ => false) n := by
        refine mkm_of fun j => ?_
        rw [c2, mkm_bit, m3, hn]
        by_cases hj : j < n
        · have := full_none (by omega) hnd (by rw [← hgn]; exact hr) hj
          unfold bq at this
          dsimp only
          rw [this]; simp
        · rw [decide_eq_false hj]; rfl
      rw [c1, hc, setOf_eq hn8 (by omega), Option.bind_some]
      have hnil : listN (fun _ => false) n = [] := by simp [listN]
      rw [hnil]
      obtain ⟨F', rfl⟩ : ∃ F', F = F' + 1 := ⟨F - 1, by omega⟩
      simp only [i_net_longerPath_o_l1]
      rfl
    show ∃ o', i_net_longerPath_o_b F (i_net_longerPath_o_r F k) ⟨nearL g⟩ p ⟨o⟩ = some o' ∧ _
    unfold i_net_longerPath_o_b slices_Clone_o
    obtain ⟨oc, q1, q2⟩ := cloneO_list (xs := p) (by omega)
    show ∃ o' : NL Int, (bif decide ((p.length : Int) > (o.list.length : Int)) then _ else _) = some o' ∧ o'.list = bst o.list p
    by_cases h : (p.length : Int) > (o.list.length : Int)
    · rw [decide_eq_true h, cond_true, q1, Option.bind_some, hset]
      exact ⟨oc, rfl, by rw [q2]; unfold bst; rw [if_pos (by omega)]⟩
    · rw [decide_eq_false h, cond_false, hset]
      exact ⟨o, rfl, by unfold bst; rw [if_neg (by omega)]⟩
  | succ d ih =>
    intro p k o hl h0 hnd hr hk
    obtain ⟨k, rfl⟩ : ∃ k', k = k' + 1 := ⟨k - 1, by omega⟩
    obtain ⟨oc, q1, q2⟩ := cloneO_list (xs := p) (by omega)
    have hset : ∀ o1 : NL Int, ∃ o', i_net_longerPath_o_j1 F (i_net_longerPath_o_r F k) p ⟨nearL g⟩ o1 = some o' ∧ o'.list = (listN (exb g p) n).foldl (fun b y => bst b (LP g d (p ++ [y]))) o1.list := by
      intro o1
      have hw : w64 ((p.length : Int) - 1) = ((p.length - 1 : Nat) : Int) := by rw [w64_id (by omega) (by omega)]; omega
      have hy := hr _ (getD_mem (l := p) (d := 0) (i := p.length - 1) (by omega))
      obtain ⟨y, hy'⟩ : ∃ y : Nat, p.getD (p.length - 1) 0 = y := ⟨(p.getD (p.length - 1) 0).toNat, by omega⟩
      obtain ⟨m, m1, m2, m3⟩ := maskOf_eq (F := F) (l := p) (by omega) (by unfold Sm; omega) (fun z hz => by have := hr z hz; omega)
      unfold i_net_longerPath_o_j1
      rw [hw, idx_getD (d := 0) (by omega), Option.bind_some, hy', idx_getD (d := 0) (by rw [nearL_len]; omega), Option.bind_some, nearL_get (by omega), m1, Option.bind_some]
      obtain ⟨c, c1, _, c2⟩ := iandNot_nat (a := mkm (adj g y) g.1.toNat) (b := m) (mkm_lt63 (by omega)) m2
      have hc : c = mkm (exb g p) n := by
        refine mkm_of fun j => ?_
        rw [c2, mkm_bit, m3, hn]
        unfold exb bq
        have hz : (p.length == 0) = false := by rw [beq_eq_false_iff_ne]; omega
        rw [hz, hy', Int.toNat_natCast]
        dsimp only
        cases decide (j < n) <;> cases adj g y j <;> cases decide ((j : Int) ∈ p) <;> rfl
      rw [c1, hc, setOf_eq hn8 (by omega), Option.bind_some]
      have hl8 : (listN (exb g p) n).length ≤ 8 := by rw [listN_len]; exact Nat.le_trans cnt_le hn8
      obtain ⟨s, s1, s2⟩ := loop_ex (L := fun k2 t (s : NL Int) => i_net_longerPath_o_l1 F (i_net_longerPath_o_r F k) p ⟨nearL g⟩ (listN (exb g p) n) k2 s t) (n := (listN (exb g p) n).length)
        (fun t s => s.list = ((listN (exb g p) n).take t).foldl (fun b y => bst b (LP g d (p ++ [y]))) o1.list) (fin := fun s => some s) (by
          intro k2 t s ht hI
          obtain ⟨x, hx, hxn, hxe⟩ := listN_get ht
          have htake : (listN (exb g p) n).take (t + 1) = (listN (exb g p) n).take t ++ [(x : Int)] := by
            rw [List.take_add_one, List.getElem?_eq_getElem ht]
            rw [List.getD_eq_getElem?_getD, List.getElem?_eq_getElem ht, Option.getD_some] at hx
            rw [hx]; rfl
          have hbx : bq p x = false := by
            unfold exb at hxe
            cases h : bq p x with
            | false => rfl
            | true => rw [h] at hxe; cases hxe
          obtain ⟨o', p1, p2⟩ := ih (p ++ [(x : Int)]) k s (by rw [List.length_append, List.length_singleton]; omega) (by simp) (nodup_snoc hnd hbx) (by
            intro y hy
            rcases List.mem_append.1 hy with h | h
            · exact hr y h
            · obtain rfl : y = (x : Int) := by simpa using h
              omega) (by omega)
          refine ⟨o', ?_, ?_⟩
          · rw [p2, htake, List.foldl_append, hI]; rfl
          · simp only [i_net_longerPath_o_l1, slices_Clone_o]
            rw [decide_eq_true (show (t : Int) < ((listN (exb g p) n).length : Int) by omega), cond_true, idx_getD (d := 0) ht, Option.bind_some, hx, q1, Option.bind_some, q2, appL_one (by omega), Option.bind_some, p1, Option.bind_some, w64_succ ht (by unfold Sm; omega)]) (by
          intro k2 s hI
          simp only [i_net_longerPath_o_l1]
          rw [decide_eq_false (show ¬ ((listN (exb g p) n).length : Int) < ((listN (exb g p) n).length : Int) by omega), cond_false]) F o1 (by omega) rfl
      rw [List.take_length] at s1
      exact ⟨s, s2, s1⟩
    show ∃ o', i_net_longerPath_o_b F (i_net_longerPath_o_r F k) ⟨nearL g⟩ p ⟨o⟩ = some o' ∧ o'.list = bst o.list ((listN (exb g p) g.1.toNat).foldl (fun b y => bst b (LP g d (p ++ [y]))) p)
    rw [hn, ← fold_bst]
    unfold i_net_longerPath_o_b slices_Clone_o
    show ∃ o' : NL Int, (bif decide ((p.length : Int) > (o.list.length : Int)) then _ else _) = some o' ∧ _
    by_cases h : (p.length : Int) > (o.list.length : Int)
    · rw [decide_eq_true h, cond_true, q1, Option.bind_some]
      obtain ⟨o', e1, e2⟩ := hset oc
      refine ⟨o', e1, ?_⟩
      rw [e2, q2]
      have : bst o.list p = p := by unfold bst; rw [if_pos (by omega)]
      rw [this]
    · rw [decide_eq_false h, cond_false]
      obtain ⟨o', e1, e2⟩ := hset o
      refine ⟨o', e1, ?_⟩
      rw [e2]
      have : bst o.list p = o.list := by unfold bst; rw [if_neg (by omega)]
      rw [this]

theorem exLongestPath {F : Nat} {g : Gr} (h9 : 300 ≤ F) (hG : g.2.length < F) (hs : Sm g.2.length) :
    ∃ R b o, s_LongestPath F g = some (R, b) ∧ i_LongestPath_o F g = some (o, b) ∧ o.list = R ∧ R.length ≤ 8 := by
  unfold s_LongestPath i_LongestPath_o
  rw [l2Good_eq hG hs, isGraph_eq hG (by omega) hs, Option.bind_some, Option.bind_some]
  cases hg : good g with
  | false => exact ⟨[], false, .nil, rfl, rfl, rfl, by simp⟩
  | true =>
    have h8 := good_size hg
    obtain ⟨n, hn⟩ : ∃ n : Nat, g.1.toNat = n := ⟨_, rfl⟩
    have hgn : g.1 = (n : Int) := by omega
    rw [Bool.not_true, cond_false, cond_false]
    have hsp : s_l7Path F g [] = some (LP g n []) := sLP_eq hg h9 hG hs n [] F (by simp [hn]) List.nodup_nil (by simp) (by omega)
    rw [hsp, Option.bind_some, netOf_eq hg hG hs, Option.bind_some]
    have hlen := LP_len (g := g) n []
    simp only [List.length_nil] at hlen
    obtain ⟨s, s1, s2⟩ := loop_ex (L := fun k x (s : NL Int) => i_LongestPath_o_l1 F ⟨nearL g⟩ g k s x) (n := n)
      (fun x s => s.list = (listN (fun _ => true) x).foldl (fun b y => bst b (LP g (n - 1) ([] ++ [y]))) []) (fin := fun s => some (s, true)) (by
        intro k x s hx hI
        obtain ⟨o', p1, p2⟩ := iLO_eq hg h9 (n - 1) [(x : Int)] F s (by rw [List.length_singleton]; omega) (by simp) (by simp) (by
          intro y hy
          obtain rfl : y = (x : Int) := by simpa using hy
          omega) (by omega)
        refine ⟨o', ?_, ?_⟩
        · rw [p2, listN_succ, hI]; simp
        · simp only [i_LongestPath_o_l1]
          have p1' : i_net_longerPath_o F ⟨nearL g⟩ [(x : Int)] ⟨s⟩ = some o' := p1
          rw [hgn, decide_eq_true (show (x : Int) < (n : Int) by omega), cond_true, p1', Option.bind_some, w64_succ hx (by unfold Sm; omega)]) (by
        intro k s hI
        simp only [i_LongestPath_o_l1]
        rw [hgn, decide_eq_false (show ¬ (n : Int) < (n : Int) by omega), cond_false]) F .nil (by omega) rfl
    refine ⟨LP g n [], true, s, rfl, s2, ?_, by omega⟩
    rw [s1]
    cases n with
    | zero => rfl
    | succ n =>
      show _ = (listN (exb g []) g.1.toNat).foldl (fun b y => bst b (LP g n ([] ++ [y]))) []
      rw [hn]
      have : listN (exb g []) (n + 1) = listN (fun _ => true) (n + 1) := listN_congr fun j _ => by simp [exb, bq]
      rw [this]; rfl

end Go.Zq
/- The law LongestPath, as a plain statement. -/
namespace Go.Zq

theorem lawLongestPath {F : Nat} {g : Gr} (hF : 2097152 ≤ F) (hg : g.2.length ≤ 9223372036854775807) : w_FnExactLongestPath F g = some true := by
  unfold w_FnExactLongestPath
  rw [szGraph_eq (by omega) (by omega) hg, Option.bind_some]
  by_cases h2 : (1048576 : Int) - g.2.length < 0
  · simp [h2]
  simp only [h2, if_false, decide_false, cond_false]
  obtain ⟨R, b, o, hs, hi, ho, hl⟩ := exLongestPath (F := F) (g := g) (by omega) (by omega) (by unfold Sm; omega)
  have e1 : w_toGraph F g = some g := toGraph_eq (by omega) (by omega) (by omega)
  have e2 : w_toGraph_o F g = some (g.1, .of g.2) := toGraph_o_eq (by omega) (by omega) (by omega)
  have e5 : w_eqIntS F o.list R = some true := by rw [ho]; exact eqIntS_eq (by omega) (by unfold Sm; omega)
  have e6 : w_eqGraph F (g.1, (NL.of g.2).list) g = some true := eqGraph_eq (g := g) (by omega) (by unfold Sm; omega) (by omega)
  have e8 : w_markGraph F ⟨g.1, .of g.2⟩ 1 = some (1 + 2 * (g.2.length : Int)) := markGraph_eq (by omega) (by omega) (by omega) (by omega) (by omega)
  have e9 : decide ((1 + 2 * (g.2.length : Int)) < 0) = false := decide_eq_false (by omega)
  obtain ⟨o2, m2, m3, m4⟩ := markIntS_eq (F := F) (o := o) (k := 1) (by rw [ho]; omega) (by rw [ho]; omega) (by omega) (by omega)
  have e10 : w_heldIntS F o2.list 1 = some (1 + (o.list.length : Int)) := by rw [m4]; exact heldIntS_eq (by rw [ho]; omega) (by rw [ho]; omega) (by omega) (by omega)
  have e11 : decide ((1 + (o.list.length : Int)) < 0) = false := decide_eq_false (by omega)
  have hi1 : i_LongestPath_o F (g.1, (NL.of g.2).list) = some (o, b) := hi
  simp only [w_FnExactLongestPath_j1, w_FnExactLongestPath_j2, w_FnExactLongestPath_j3, e1, e2, e5, e6, e8, e9, e10, e11, hs, hi, hi1, m2, m3, Option.bind_some, Bool.not_true, cond_false, bne_self_eq_false]

end Go.Zq
