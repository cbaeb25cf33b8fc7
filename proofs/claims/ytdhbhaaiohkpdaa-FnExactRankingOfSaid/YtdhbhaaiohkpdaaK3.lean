/- The pure machine: what the model of Go does, told of values without memory (part 3). No further condition. -/
import Derived.Test.YtdhbhaaiohkpdaaK2
import Derived.LoopN
import Derived.Deep.Slices
import Derived.Deep.Strs
import Derived.WalkKit
import Derived.ProofKit
import Derived.OpenShut
import Derived.ShutString
import Derived.ChangeOld
import Derived.Below
import Derived.SizedLaws
import Derived.Carry
set_option linter.unusedVariables false
set_option linter.unusedSimpArgs false
/- Owners are renamed, owners are frozen: what a region's end may do to the pure machine's slots. -/
namespace Go.Zq

theorem frz_lin {K : List Tok} {v u : V} (h : V.frz K v = .lin u) : ∃ u', v = .lin u' := by
  cases v with
  | lin u' => exact ⟨u', rfl⟩
  | sl t g lo xs => cases t <;> simp only [V.frz] at h <;> (repeat' split at h) <;> cases h
  | ref t i q c => cases t <;> simp only [V.frz] at h <;> (repeat' split at h) <;> cases h
  | _ => simp [V.frz] at h

theorem frz_gone {K : List Tok} {v : V} (h : V.frz K v = .gone) : v = .gone := by
  cases v with
  | gone => rfl
  | sl t g lo xs => cases t <;> simp only [V.frz] at h <;> (repeat' split at h) <;> cases h
  | ref t i q c => cases t <;> simp only [V.frz] at h <;> (repeat' split at h) <;> cases h
  | _ => simp [V.frz] at h

section
variable {P : Program} {w0 : Ori} {S0 : Nat → Prop} {n : Nat} {s s' : Nat → V} {a : Act} {w : World} {S : Nat → Prop} {τ : Tok → Blk}

/-- some owners are frozen -/
theorem Inv.frz (h : Inv w0 S0 n s a w S τ) {K : List Tok} (hK : ∀ k ∈ K, ∃ t, k ∈ (s t).toks) : Inv w0 S0 n (fun t => V.frz K (s t)) a w (fun b => S b ∨ ∃ k ∈ K, (τ k).b = b) τ := by
  have hn : K.contains .nl = false := by
    cases hc : K.contains .nl with
    | false => rfl
    | true =>
      obtain ⟨t, ht⟩ := hK .nl (by simpa using hc)
      exact absurd rfl (toks_own _ _ ht).2
  refine ⟨?_, h.size, h.defers, ?_, ?_, ?_, ?_, fun b hb => .inl (h.s0 b hb), h.below, ?_, ?_, h.small, fun t k hk => h.pin t k (frz_toks K _ k hk).1⟩
  · intro t
    exact relV_frz (fun b hb => .inl hb) (fun k hk => .inr ⟨k, by simpa using hk, rfl⟩) hn _ _ (h.told t)
  · intro t k hk
    obtain ⟨h1, h2⟩ := frz_toks K _ k hk
    have h3 := h.own t k h1
    refine ⟨h3.1, h3.2.1, ?_⟩
    rintro (hs | ⟨k', hk', e⟩)
    · exact h3.2.2 hs
    · obtain ⟨t', ht'⟩ := hK k' hk'
      have := h.inj t' t k' k ht' h1 e
      subst this
      have : K.contains k' = true := by simpa using hk'
      rw [this] at h2; cases h2
  · intro t t' k k' hk hk' e
    exact h.inj t t' k k' (frz_toks K _ k hk).1 (frz_toks K _ k' hk').1 e
  · rintro b (hb | ⟨k, hk, rfl⟩)
    · exact h.sbd b hb
    · obtain ⟨t, ht⟩ := hK k hk; exact (h.own t k ht).2.1
  · rintro b (hb | ⟨k, hk, rfl⟩)
    · exact h.sfr b hb
    · obtain ⟨t, ht⟩ := hK k hk; exact .inr (h.own t k ht).1
  · intro r v t k hl ht hk
    obtain ⟨u, hu⟩ := frz_lin hl
    exact h.lin r u t k hu ht (frz_toks K _ k hk).1
  · intro r t k hg hk
    exact h.gone r t k (frz_gone hg) (frz_toks K _ k hk).1

/-- an owner's home is another slot -/
def Tok.move (r x : Nat) : Tok → Tok
  | .at r' p => if r' = r then .at x p else .at r' p
  | .bx r' => if r' = r then .bx x else .bx r'
  | k => k

def moveF (r x : Nat) (k : Tok) : Option Tok := if r = x then some k else if k.root? = some x then none else some (k.move r x)

theorem fits_move (r x : Nat) : Fits (moveF r x) τ (fun k => if r = x then τ k else if k.root? = some x then τ (k.move x r) else τ k) := by
  by_cases hrx : r = x
  · subst hrx
    simp [Fits, moveF]
  · refine ⟨?_, ?_, by simp [moveF, hrx, Tok.root?, Tok.move]⟩
    · intro r' p k e
      simp only [moveF, hrx, if_false, Tok.root?, Option.some.injEq] at e
      split at e
      · cases e
      · rename_i hne
        simp only [Option.some.injEq] at e
        by_cases h : r' = r
        · subst h
          simp only [Tok.move, if_true] at e; subst e
          simp [Tok.root?, Tok.move, hrx]
        · simp only [Tok.move, h, if_false] at e; subst e
          simp [Tok.root?, hne, hrx]
    · intro r' k e
      simp only [moveF, hrx, if_false, Tok.root?, Option.some.injEq] at e
      split at e
      · cases e
      · rename_i hne
        simp only [Option.some.injEq] at e
        by_cases h : r' = r
        · subst h
          simp only [Tok.move, if_true] at e; subst e
          simp [Tok.root?, Tok.move, hrx]
        · simp only [Tok.move, h, if_false] at e; subst e
          simp [Tok.root?, hne, hrx]

theorem move_root {r x : Nat} {k : Tok} : (k.move r x).root? = some x ∨ (k.move r x).root? = k.root? := by
  cases k <;> simp only [Tok.move] <;> (try split) <;> simp [Tok.root?]

theorem Inv.home (h : Inv w0 S0 n s a w S τ) {r x : Nat} (hx : Nat.ble pinR x = false) (hl : ∀ v, s x ≠ .lin v) (hg : s x ≠ .gone) :
    Inv w0 S0 n (mapS (moveF r x) s) a w S (fun k => if r = x then τ k else if k.root? = some x then τ (k.move x r) else τ k) := by
  have key : ∀ k k', moveF r x k = some k' → k'.root? = some x ∨ k'.root? = k.root? := by
    intro k k' e
    unfold moveF at e
    split at e
    · simp at e; subst e; exact .inr rfl
    · split at e
      · cases e
      · simp at e; subst e; exact move_root
  refine h.map (fits_move r x) ?_ ?_ ?_
  · intro q v t k k' hq ht hk e
    have : q ≠ x := by rintro rfl; exact hl _ hq
    rcases key k k' e with h1 | h1
    · rw [h1]; simp; exact fun e => this e.symm
    · rw [h1]; exact h.lin q v t k hq ht hk
  · intro q t k k' hq hk e
    have : q ≠ x := by rintro rfl; exact hg hq
    rcases key k k' e with h1 | h1
    · rw [h1]; simp; exact fun e => this e.symm
    · rw [h1]; exact h.gone q t k hq hk
  · intro k k' e hp
    unfold moveF at e
    split at e
    · simpa using e
    · split at e
      · cases e
      · simp only [Option.some.injEq] at e
        have key2 : ∀ r', (Tok.at r' []).pinned = true → r' ≠ x := by
          rintro r' h1 rfl
          simp [Tok.pinned, hx] at h1
        cases k with
        | «at» r' p =>
          simp only [Tok.move] at e
          split at e
          · subst e; exact absurd rfl (key2 x hp)
          · exact e
        | bx r' =>
          simp only [Tok.move] at e
          split at e
          · subst e; exact absurd rfl (key2 x hp)
          · exact e
        | nl => exact e
        | sh => exact e

/-- the owners of a value get names by their places in it -/
def canF (x : Nat) (l : List (List Nat × Tok)) : Tok → Option Tok
  | .at r p => match l.find? (fun y => y.2 == .at r p) with
    | some y => some (.at x y.1)
    | none => if r = x then none else some (.at r p)
  | .bx r => if r = x then none else some (.bx r)
  | k => some k

def canT (x : Nat) (l : List (List Nat × Tok)) (τ : Tok → Blk) : Tok → Blk
  | .at r p => if r = x then (match l.find? (fun y => y.1 == p) with
    | some y => τ y.2
    | none => τ (.at r p)) else τ (.at r p)
  | k => τ k

theorem find_path : ∀ {l : List (List Nat × Tok)}, (l.map (·.1)).Nodup → ∀ y ∈ l, l.find? (fun z => z.1 == y.1) = some y
  | [], _, y, hy => by cases hy
  | z :: l, hn, y, hy => by
    simp only [List.map_cons, List.nodup_cons] at hn
    simp only [List.find?_cons]
    rcases List.mem_cons.1 hy with rfl | hy
    · simp
    · have : z.1 ≠ y.1 := fun e => hn.1 (List.mem_map.2 ⟨y, hy, e.symm⟩)
      have hz : (z.1 == y.1) = false := by simpa using this
      rw [hz]
      exact find_path hn.2 y hy

theorem prefix_len {a b l : List Nat} (h1 : a <+: l) (h2 : b <+: l) (h : a.length = b.length) : a = b := by
  rw [List.prefix_iff_eq_take] at h1 h2
  rw [h1, h2, h]

mutual
theorem own_paths : ∀ (v : V) (p : List Nat) (m : Nat) (l : List (List Nat × Tok)), V.own p m v = some l → (∀ x ∈ l, p <+: x.1) ∧ (l.map (·.1)).Nodup
  | .dead, p, m, l, h => by simp [V.own] at h
  | .gone, p, m, l, h => by simp [V.own] at h
  | .fn .., p, m, l, h => by simp [V.own] at h
  | .ref .., p, m, l, h => by simp [V.own] at h
  | .int .., p, m, l, h => by simp [V.own] at h; subst h; simp
  | .bool .., p, m, l, h => by simp [V.own] at h; subst h; simp
  | .lin v, p, m, l, h => own_paths v p m l (by simpa [V.own] using h)
  | .agg vs, p, m, l, h => by
    have := owns_paths vs p m 0 l (by simpa [V.own] using h)
    exact ⟨fun x hx => by obtain ⟨j, _, hj⟩ := this.1 x hx; exact (List.prefix_append _ _).trans hj, this.2⟩
  | .tup vs, p, m, l, h => by
    have := owns_paths vs p m 0 l (by simpa [V.own] using h)
    exact ⟨fun x hx => by obtain ⟨j, _, hj⟩ := this.1 x hx; exact (List.prefix_append _ _).trans hj, this.2⟩
  | .sl t g lo xs, p, 0, l, h => by simp [V.own] at h; subst h; simp
  | .sl t g lo xs, p, m + 1, l, h => by
    cases t with
    | sh => simp [V.own] at h
    | bx r => simp [V.own] at h
    | nl => simp [V.own] at h; subst h; simp
    | «at» r q =>
      simp only [V.own] at h
      split at h
      · by_cases hf : g.flat = true
        · simp only [hf, if_true, Option.some.injEq] at h
          subst h
          simp
        · simp only [hf, Bool.false_eq_true, if_false, Option.map_eq_some_iff] at h
          obtain ⟨l', h', rfl⟩ := h
          have := owns_paths xs p m 0 l' h'
          refine ⟨?_, ?_⟩
          · intro x hx
            rcases List.mem_cons.1 hx with rfl | hx
            · exact List.prefix_refl _
            · obtain ⟨j, _, hj⟩ := this.1 x hx; exact (List.prefix_append _ _).trans hj
          · simp only [List.map_cons, List.nodup_cons]
            refine ⟨?_, this.2⟩
            intro hm
            obtain ⟨x, hx, e⟩ := List.mem_map.1 hm
            obtain ⟨j, _, hj⟩ := this.1 x hx
            have := hj.length_le
            rw [e] at this
            simp at this
            omega
      · cases h
theorem owns_paths : ∀ (vs : List V) (p : List Nat) (m k : Nat) (l : List (List Nat × Tok)), V.owns p m k vs = some l → (∀ x ∈ l, ∃ j, k ≤ j ∧ (p ++ [j]) <+: x.1) ∧ (l.map (·.1)).Nodup
  | [], p, m, k, l, h => by simp [V.owns] at h; subst h; simp
  | v :: vs, p, m, k, l, h => by
    simp only [V.owns] at h
    split at h
    · rename_i la lb h1 h2
      simp only [Option.some.injEq] at h
      subst h
      have ha := own_paths v (p ++ [k]) m la h1
      have hb := owns_paths vs p m (k + 1) lb h2
      refine ⟨?_, ?_⟩
      · intro x hx
        rcases List.mem_append.1 hx with hx | hx
        · exact ⟨k, Nat.le_refl _, ha.1 x hx⟩
        · obtain ⟨j, hj, h3⟩ := hb.1 x hx; exact ⟨j, by omega, h3⟩
      · rw [List.map_append, List.nodup_append]
        refine ⟨ha.2, hb.2, ?_⟩
        intro a ha' b hb' e
        obtain ⟨x, hx, rfl⟩ := List.mem_map.1 ha'
        obtain ⟨y, hy, rfl⟩ := List.mem_map.1 hb'
        obtain ⟨j, hj, h3⟩ := hb.1 y hy
        have h4 := ha.1 x hx
        rw [e] at h4
        have := prefix_len h4 h3 (by simp)
        simp at this
        omega
    · cases h
end

theorem fits_can {x : Nat} {l : List (List Nat × Tok)} (hn : (l.map (·.1)).Nodup) : Fits (canF x l) τ (canT x l τ) := by
  refine ⟨?_, ?_, rfl⟩
  · intro r p k e
    simp only [canF] at e
    split at e
    · rename_i y hy
      simp only [Option.some.injEq] at e; subst e
      have hm := List.mem_of_find?_eq_some hy
      have h2 : y.2 = .at r p := by simpa using List.find?_some hy
      refine ⟨?_, _, _, rfl⟩
      simp only [canT, if_true]
      rw [find_path hn y hm]
      simp only [h2]
    · split at e
      · cases e
      · rename_i hr
        simp only [Option.some.injEq] at e; subst e
        refine ⟨?_, _, _, rfl⟩
        simp only [canT, hr, if_false]
  · intro r k e
    simp only [canF] at e
    split at e
    · cases e
    · simp only [Option.some.injEq] at e; subst e
      exact ⟨rfl, _, rfl⟩

theorem Inv.can (h : Inv w0 S0 n s a w S τ) {x : Nat} {l : List (List Nat × Tok)} (hl0 : V.own [] 9 (s x) = some l) (hx : Nat.ble pinR x = false) (hl : ∀ v, s x ≠ .lin v) (hg : s x ≠ .gone) :
    Inv w0 S0 n (mapS (canF x l) s) a w S (canT x l τ) := by
  have key : ∀ k k', canF x l k = some k' → k'.root? = some x ∨ k' = k := by
    intro k k' e
    cases k with
    | «at» r p =>
      simp only [canF] at e
      split at e
      · simp only [Option.some.injEq] at e; subst e; exact .inl rfl
      · split at e
        · cases e
        · simp only [Option.some.injEq] at e; exact .inr e.symm
    | bx r =>
      simp only [canF] at e
      split at e
      · cases e
      · simp only [Option.some.injEq] at e; exact .inr e.symm
    | nl => simp only [canF, Option.some.injEq] at e; exact .inr e.symm
    | sh => simp only [canF, Option.some.injEq] at e; exact .inr e.symm
  refine h.map (fits_can (own_paths _ _ _ _ hl0).2) ?_ ?_ ?_
  · intro q v t k k' hq ht hk e
    have : q ≠ x := by rintro rfl; exact hl _ hq
    rcases key k k' e with h1 | rfl
    · rw [h1]; simp; exact fun e => this e.symm
    · exact h.lin q v t _ hq ht hk
  · intro q t k k' hq hk e
    have : q ≠ x := by rintro rfl; exact hg hq
    rcases key k k' e with h1 | rfl
    · rw [h1]; simp; exact fun e => this e.symm
    · exact h.gone q t _ hq hk
  · intro k k' e hp
    rcases key k k' e with h1 | rfl
    · obtain ⟨r, e1, e2⟩ := pinned_root hp
      rw [h1] at e1
      simp only [Option.some.injEq] at e1
      subst e1
      rw [Nat.ble_eq_true_of_le e2] at hx; cases hx
    · rfl

end

/-- what is done behind a region -/
inductive E where
  | home (r x : Nat)
  | frz (x : Nat)
  | clr (pk : List Nat)
  | drp (x : Nat)
  | can (x : Nat)
  deriving Repr, Inhabited

def runE (s : Nat → V) : E → Option (Nat → V)
  | .home r x => if Nat.ble pinR x then none else match s x with
    | .lin _ | .gone => none
    | _ => some (mapS (moveF r x) s)
  | .frz x => some fun t => V.frz (s x).toks (s t)
  | .clr pk => some (clear pk s)
  | .drp x => some (upd s x .dead)
  | .can x => if Nat.ble pinR x then none else match s x with
    | .lin _ | .gone => none
    | _ => (V.own [] 9 (s x)).map fun l => mapS (canF x l) s

def runEs : List E → (Nat → V) → Option (Nat → V)
  | [], s => some s
  | e :: es, s => match runE s e with
    | some s' => runEs es s'
    | none => none

theorem runE_inv {w0 : Ori} {S0 : Nat → Prop} {n : Nat} {s s' : Nat → V} {a : Act} {w : World} {S : Nat → Prop} {τ : Tok → Blk} {e : E} (h : Inv w0 S0 n s a w S τ) (he : runE s e = some s') : ∃ S' τ', Inv w0 S0 n s' a w S' τ' := by
  cases e with
  | home r x =>
    simp only [runE] at he
    split at he
    · cases he
    · rename_i hx
      split at he
      · cases he
      · cases he
      · rename_i h1 h2
        simp only [Option.some.injEq] at he; subst he
        exact ⟨_, _, h.home (by cases hb : Nat.ble pinR x with | true => exact absurd hb hx | false => rfl) h1 h2⟩
  | frz x =>
    simp only [runE, Option.some.injEq] at he; subst he
    exact ⟨_, _, h.frz fun k hk => ⟨x, hk⟩⟩
  | clr pk =>
    simp only [runE, Option.some.injEq] at he; subst he
    exact ⟨_, _, h.clear pk⟩
  | drp x =>
    simp only [runE, Option.some.injEq] at he; subst he
    exact ⟨_, _, h.drop x⟩
  | can x =>
    simp only [runE] at he
    split at he
    · cases he
    · rename_i hx
      split at he
      · cases he
      · cases he
      · rename_i h1 h2
        simp only [Option.map_eq_some_iff] at he
        obtain ⟨l, hl, rfl⟩ := he
        exact ⟨_, _, h.can hl (by cases hb : Nat.ble pinR x with | true => exact absurd hb hx | false => rfl) h1 h2⟩

theorem runEs_inv {w0 : Ori} {S0 : Nat → Prop} {n : Nat} {a : Act} {w : World} : ∀ (es : List E) {s s' : Nat → V} {S : Nat → Prop} {τ : Tok → Blk}, Inv w0 S0 n s a w S τ → runEs es s = some s' → ∃ S' τ', Inv w0 S0 n s' a w S' τ'
  | [], s, s', S, τ, h, he => by simp only [runEs, Option.some.injEq] at he; subst he; exact ⟨_, _, h⟩
  | e :: es, s, s', S, τ, h, he => by
    simp only [runEs] at he
    split at he
    · rename_i s1 h1
      obtain ⟨S1, τ1, hI⟩ := runE_inv h h1
      exact runEs_inv es hI he
    · cases he

end Go.Zq
/- Code: the pure machine's own small logic, and that it tells what the model does. -/
namespace Go.Zq

structure An where
  id : Nat
  pre : List E := []
  lin : List Nat := []
  sp : List Nat := []
  ep : List E := []
  deriving Repr

inductive AC where
  | skip
  | reg (pre : List E) (is : List I) (ep : List E)
  | seq (a b : AC)
  | cond (c : O) (a b : AC)
  | block (id : Nat) (a : AC)
  | loop (a : AC)
  | exit (id : Nat)
  | ret
  deriving Repr, Inhabited

def cC (P : Program) (n : Nat) (an : List An) : Code → Option AC
  | .skip => some .skip
  | .region id ops draw =>
    let x := (an.find? fun x => x.id == id).getD { id := id }
    match cIs P n ops x.lin x.sp (List.range ops.size) with
    | some is => if !draw || okDraw ops is then some (.reg x.pre is x.ep) else some (.reg [] [⟨none, none, false, .v (.un .not (.k .dead))⟩] [])
    | none => some (.reg [] [⟨none, none, false, .v (.un .not (.k .dead))⟩] [])
  | .seq a b => match cC P n an a, cC P n an b with
    | some a, some b => some (.seq a b)
    | _, _ => none
  | .cond c a b => match cO .s c, cC P n an a, cC P n an b with
    | some c, some a, some b => some (.cond c a b)
    | _, _, _ => none
  | .block id a => (cC P n an a).map (.block id)
  | .loop a => (cC P n an a).map .loop
  | .exit id => some (.exit id)
  | .ret => some .ret
  | _ => some (.cond (.k .dead) .skip .skip)

inductive Ex where
  | nrm
  | exit (id : Nat)
  | ret
  deriving DecidableEq, Repr

def Ex.up : Ex → Exit
  | .nrm => .normal
  | .exit id => .exit id
  | .ret => .ret

abbrev Post := Ex → (Nat → V) → Prop

def Post.thn (K : (Nat → V) → Prop) (Q : Post) : Post := fun e s => match e with
  | .nrm => K s
  | e => Q e s

def Post.blk (id : Nat) (Q : Post) : Post := fun e s => match e with
  | .exit i => if i = id then Q .nrm s else Q (.exit i) s
  | e => Q e s

def rounds (f : Post → (Nat → V) → Prop) (Q : Post) : Nat → (Nat → V) → Prop
  | 0, _ => False
  | k + 1, s => f (Post.thn (rounds f Q k) Q) s

def clr (pk : List Nat) (s : Nat → V) : Nat → V := match pk with
  | [] => s
  | pk => clear pk s

def AC.wp (D : Den) (σ : Sig) : AC → Post → (Nat → V) → Prop
  | .skip, Q, s => Q .nrm s
  | .reg pre is ep, Q, s => match runEs pre s with
    | some s0 => (match steps D σ is s0 with
      | some s1 => (match runEs ep s1 with
        | some s2 => Q .nrm s2
        | none => False)
      | none => False)
    | none => False
  | .seq a b, Q, s => a.wp D σ (Post.thn (b.wp D σ Q) Q) s
  | .cond c a b, Q, s => match c.ev s with
    | .bool t => if t then a.wp D σ Q s else b.wp D σ Q s
    | _ => False
  | .block id a, Q, s => a.wp D σ (Post.blk id Q) s
  | .loop a, Q, s => ∃ k, rounds (a.wp D σ) Q k s
  | .exit id, Q, s => Q (.exit id) s
  | .ret, Q, s => Q .ret s

section
variable {P : Program} {w0 : Ori} {S0 : Nat → Prop} {n : Nat} {s s' : Nat → V} {a : Act} {w : World} {S : Nat → Prop} {τ : Tok → Blk}

theorem Inv.clr (h : Inv w0 S0 n s a w S τ) (pk : List Nat) : Inv w0 S0 n (clr pk s) a w S τ := by
  cases pk with
  | nil => exact h
  | cons p pk => exact h.clear _

/-- what is asked of the model's exits -/
def Says (w0 : Ori) (S0 : Nat → Prop) (n : Nat) (Q : Post) (Q' : Exit → Act → World → Prop) : Prop := ∀ e s a w S τ, Q e s → Inv w0 S0 n s a w S τ → Q' e.up a w

theorem stuck_wp {D : Den} {σ : Sig} {Q : Post} (h : AC.wp D σ (.reg [] [⟨none, none, false, .v (.un .not (.k .dead))⟩] []) Q s) : False := h

theorem ac_sound {D : Den} {σ : Sig} (hF : Fits2 P D σ) (hm : P.follows .mixedOrders = true) {an : List An} : ∀ (c : Code) (A : AC) (Q : Post) (Q' : Exit → Act → World → Prop) (s : Nat → V) (a : Act) (w : World) (S : Nat → Prop) (τ : Tok → Blk),
    cC P n an c = some A → Inv w0 S0 n s a w S τ → A.wp D σ Q s → Says w0 S0 n Q Q' → c.wp P Q' a w := by
  intro c
  induction c with
  | skip =>
    intro A Q Q' s a w S τ hc hI h hQ
    simp only [cC, Option.some.injEq] at hc; subst hc
    exact wp_skip (hQ _ _ _ _ _ _ h hI)
  | region id ops draw =>
    intro A Q Q' s a w S τ hc hI h hQ
    simp only [cC] at hc
    split at hc
    · rename_i is his
      split at hc
      · rename_i hd
        simp only [Option.some.injEq] at hc; subst hc
        simp only [AC.wp] at h
        split at h
        case h_2 => exact h.elim
        rename_i s0 hs0
        obtain ⟨S0', τ0, hI⟩ := runEs_inv _ hI hs0
        split at h
        · rename_i s1 hs1
          split at h
          · rename_i s2 hs2
            have hgo : Goes w0 S0 n s1 (Q' .normal) := by
              intro a' w' S' τ' hI'
              obtain ⟨S2, τ2, hI2⟩ := runEs_inv _ hI' hs2
              exact hQ .nrm _ _ _ _ _ h hI2
            cases draw with
            | false =>
              exact wp_region (wpOps_sim hF _ _ _ _ _ _ _ his hI hs1 hgo)
            | true =>
              simp only [Bool.not_true, Bool.false_or] at hd
              refine wp_region_any hm ?_
              have hI3 : Inv w0 S0 n s0 a { w with drawn := w.drawn + 1 } S0' τ0 :=
                hI.same_heap rfl (drawn_below hI.below _)
              have hxs : ∀ (xs : List I), cIs P n ops ((an.find? fun x => x.id == id).getD { id := id }).lin ((an.find? fun x => x.id == id).getD { id := id }).sp (List.range ops.size) = some xs → (List.range ops.size).map (fun i => xs.getD i default) = xs := by
                intro xs hx
                have hlen : ∀ (is : List Nat) (xs : List I) lin sp, cIs P n ops lin sp is = some xs → xs.length = is.length := by
                  intro is
                  induction is with
                  | nil => intro xs lin sp h; simp [cIs] at h; subst h; rfl
                  | cons i is ih =>
                    intro xs lin sp h
                    simp only [cIs] at h
                    split at h
                    · rename_i x xs' _ h2
                      simp only [Option.some.injEq] at h; subst h
                      simp [ih _ _ _ h2]
                    · cases h
                have := hlen _ _ _ _ hx
                simp only [List.length_range] at this
                apply List.ext_getElem
                · simp [this]
                · intro k h1 h2
                  simp [List.getD_eq_getElem?_getD, h2]
              refine wpAny_sim hF his hd ops.size _ _ _ _ S0' τ0 (by simp) ?_ ?_ hI3 ?_ hgo
              · intro i o e ho he hb hl
                simp only [Array.getD_eq_getD_getElem?] at hl
                rw [Array.getElem?_replicate] at hl
                split at hl <;> simp at hl
              · exact Nat.le_trans (List.length_filter_le _ _) (by simp)
              · have : todo ops.size (Array.replicate ops.size false) = List.range ops.size := by
                  unfold todo
                  refine List.filter_eq_self.2 ?_
                  intro i hi
                  have hi : i < ops.size := by simpa using hi
                  simp [Array.getD_eq_getD_getElem?, Array.getElem?_replicate, hi]
                rw [this, hxs _ his]
                exact hs1
          · exact h.elim
        · exact h.elim
      · simp only [Option.some.injEq] at hc; subst hc
        exact (stuck_wp h).elim
    · simp only [Option.some.injEq] at hc; subst hc
      exact (stuck_wp h).elim
  | seq x y ihx ihy =>
    intro A Q Q' s a w S τ hc hI h hQ
    simp only [cC] at hc
    split at hc
    · rename_i A1 A2 h1 h2
      simp only [Option.some.injEq] at hc; subst hc
      refine wp_seq (ihx A1 _ _ s a w S τ h1 hI h ?_)
      intro e s' a' w' S' τ' hq hI'
      cases e with
      | nrm => exact ihy A2 Q Q' s' a' w' S' τ' h2 hI' hq hQ
      | exit id => exact hQ (.exit id) _ _ _ _ _ hq hI'
      | ret => exact hQ .ret _ _ _ _ _ hq hI'
    · cases hc
  | cond c x y ihx ihy =>
    intro A Q Q' s a w S τ hc hI h hQ
    simp only [cC] at hc
    split at hc
    · rename_i c' A1 A2 h0 h1 h2
      simp only [Option.some.injEq] at hc; subst hc
      simp only [AC.wp] at h
      split at h
      · rename_i t ht
        have hr := cO_rel h0 hI.told
        rw [ht] at hr
        simp only [relV] at hr
        refine wp_cond hr ?_
        cases t with
        | true => exact ihx A1 Q Q' s a w S τ h1 hI h hQ
        | false => exact ihy A2 Q Q' s a w S τ h2 hI h hQ
      · exact h.elim
    · cases hc
  | block id x ih =>
    intro A Q Q' s a w S τ hc hI h hQ
    simp only [cC, Option.map_eq_some_iff] at hc
    obtain ⟨A1, h1, rfl⟩ := hc
    refine wp_block (ih A1 _ _ s a w S τ h1 hI h ?_)
    intro e s' a' w' S' τ' hq hI'
    cases e with
    | nrm => exact hQ .nrm _ _ _ _ _ hq hI'
    | ret => exact hQ .ret _ _ _ _ _ hq hI'
    | exit i =>
      simp only [Post.blk, Ex.up, Exit.inBlock] at hq ⊢
      split
      · rename_i e; rw [if_pos e] at hq; exact hQ .nrm _ _ _ _ _ hq hI'
      · rename_i e; rw [if_neg e] at hq; exact hQ (.exit i) _ _ _ _ _ hq hI'
  | loop x ih =>
    intro A Q Q' s a w S τ hc hI h hQ
    simp only [cC, Option.map_eq_some_iff] at hc
    obtain ⟨A1, h1, rfl⟩ := hc
    obtain ⟨k, hk⟩ := h
    refine wp_loop_rounds k ?_
    have key : ∀ k s a w S τ, Inv w0 S0 n s a w S τ → rounds (A1.wp D σ) Q k s → Code.rounds P x Q' k a w := by
      intro k
      induction k with
      | zero => intro s a w S τ _ h; exact h.elim
      | succ k ihk =>
        intro s a w S τ hI h
        rw [rounds_succ]
        refine ih A1 _ _ s a w S τ h1 hI h ?_
        intro e s' a' w' S' τ' hq hI'
        cases e with
        | nrm => exact ihk s' a' w' S' τ' hI' hq
        | exit id => exact hQ (.exit id) _ _ _ _ _ hq hI'
        | ret => exact hQ .ret _ _ _ _ _ hq hI'
    exact key k s a w S τ hI hk
  | exit id =>
    intro A Q Q' s a w S τ hc hI h hQ
    simp only [cC, Option.some.injEq] at hc; subst hc
    exact wp_exit (hQ (.exit id) _ _ _ _ _ h hI)
  | ret =>
    intro A Q Q' s a w S τ hc hI h hQ
    simp only [cC, Option.some.injEq] at hc; subst hc
    exact wp_ret (hQ .ret _ _ _ _ _ h hI)
  | _ =>
    intro A Q Q' s a w S τ hc hI h
    simp only [cC, Option.some.injEq] at hc; subst hc
    exact h.elim

end
end Go.Zq
/- A function: what the pure machine says of its body is its contract. -/
namespace Go.Zq

def resR (P : Program) (s : Nat → V) : ResultVar → Option V
  | .tmp t => some (s t)
  | .cell a t => match shT P 6 t, s a with
    | some h, .ref _ _ _ c => if c.shape.beq h && (aggT P t == some h.isAg && sizeT P t == some h.size) then some c else none
    | _, _ => none

def resV (P : Program) (s : Nat → V) : List ResultVar → Option V
  | [] => some (.tup [])
  | [x] => resR P s x
  | [x, y] => match resR P s x, resR P s y with
    | some u, some v => some (.tup [u, v])
    | _, _ => none
  | [x, y, z] => match resR P s x, resR P s y, resR P s z with
    | some u, some v, some t => some (.tup [u, v, t])
    | _, _, _ => none
  | _ => none

/-- what a function hands back -/
def fin (m : Nat) (al : Bool) (v : V) : Option V :=
  match V.own [] m v with
  | some l => if decide (l.map (·.2)).Nodup && (l.all fun x => !(V.low m v).contains x.2) && (al || v.mine) then some (V.ret m v) else none
  | none => none

/-- the slots that a function starts with -/
def init (args : List V) : Nat → V := fun t => args.getD t .dead

section
variable {P : Program} {w0 : Ori} {S0 : Nat → Prop} {n : Nat} {s s' : Nat → V} {a : Act} {w : World} {S : Nat → Prop} {τ : Tok → Blk}

def runR (P : Program) (w : World) (tmps : Array Value) (rv : ResultVar) (c : Value) : Prop :=
  match rv with
  | .tmp t => c = tmps.getD t undef
  | .cell a t => ∃ ad, tmps.getD a undef = .pointer (some ad) ∧ (loadVar t ad).run P w = .ok c w

theorem resR_run {rv : ResultVar} {v : V} (h : resR P s rv = some v) (hI : Inv w0 S0 n s a w S τ) : ∃ c, runR P w a.tmps rv c ∧ relV w S τ v c ∧ ∀ k ∈ v.toks, ∃ t, k ∈ (s t).toks := by
  cases rv with
  | tmp t =>
    simp only [resR, Option.some.injEq] at h; subst h
    exact ⟨_, rfl, hI.told t, fun k hk => ⟨t, hk⟩⟩
  | cell x t =>
    simp only [resR] at h
    split at h
    · rename_i g tk i q c hg hs
      split at h
      · rename_i hcond
        simp only [Bool.and_eq_true, beq_iff_eq] at hcond
        simp only [Option.some.injEq] at h; subst h
        have hr := hI.told x
        rw [hs] at hr
        have hsh := Sh.beq_eq _ _ hcond.1
        obtain ⟨b, off, arr, ty, fz, e, hw, hp, hle, h0, hrel⟩ := ref_open hr
        obtain ⟨r, h1, h2⟩ := run_loadVar (P := P) (t := t) hw hle hrel (by rw [hsh]; exact hcond.2.1) (by rw [hsh]; exact hcond.2.2)
        refine ⟨r, ⟨_, e, h1⟩, h2, ?_⟩
        intro k hk
        refine ⟨x, ?_⟩
        rw [hs]
        cases tk with
        | sh => rw [h0 rfl] at hk; cases hk
        | nl => simpa [V.toks] using hk
        | _ => simp [V.toks, hk]
      · cases h
    · cases h

theorem results_run : ∀ (fn : Func) (rs : List ResultVar) (v : V), fn.results.toList = rs → resV P s rs = some v → Inv w0 S0 n s a w S τ →
    ∃ c, (results fn a.tmps).run P w = .ok c w ∧ relV w S τ v c ∧ ∀ k ∈ v.toks, ∃ t, k ∈ (s t).toks := by
  intro fn rs v hrs h hI
  have hres : fn.results = rs.toArray := by rw [← hrs]
  unfold resV at h
  split at h
  · simp only [Option.some.injEq] at h; subst h
    exact ⟨.tuple #[], by simp [results, hres], ⟨#[], rfl, by simp [relVs]⟩, by simp [V.toks, V.tokss]⟩
  · rename_i x
    obtain ⟨c, h1, h2, h3⟩ := resR_run h hI
    refine ⟨c, ?_, h2, h3⟩
    cases x with
    | tmp t => simp only [runR] at h1; subst h1; simp [results, hres]
    | cell y t => obtain ⟨ad, e, h1⟩ := h1; simp [results, hres] at e ⊢; simp [e, h1, asAddr]
  · rename_i x y
    split at h
    · rename_i u u' hu hu'
      simp only [Option.some.injEq] at h; subst h
      obtain ⟨c, h1, h2, h3⟩ := resR_run hu hI
      obtain ⟨c', h1', h2', h3'⟩ := resR_run hu' hI
      refine ⟨.tuple #[c, c'], ?_, ⟨_, rfl, by simp only [relVs]; exact ⟨c, [c'], rfl, h2, c', [], rfl, h2', rfl⟩⟩, ?_⟩
      · cases x <;> cases y <;> simp only [runR] at h1 h1' <;> (try obtain ⟨ad, e, h1⟩ := h1) <;> (try obtain ⟨ad', e', h1'⟩ := h1') <;> (try subst h1) <;> (try subst h1') <;> simp_all [results, asAddr]
      · intro k hk
        simp only [V.toks, V.tokss, List.append_nil, List.mem_append] at hk
        exact hk.elim (h3 k) (h3' k)
    · cases h
  · rename_i x y z
    split at h
    · rename_i u u' u'' hu hu' hu''
      simp only [Option.some.injEq] at h; subst h
      obtain ⟨c, h1, h2, h3⟩ := resR_run hu hI
      obtain ⟨c', h1', h2', h3'⟩ := resR_run hu' hI
      obtain ⟨c'', h1'', h2'', h3''⟩ := resR_run hu'' hI
      refine ⟨.tuple #[c, c', c''], ?_, ⟨_, rfl, by simp only [relVs]; exact ⟨c, [c', c''], rfl, h2, c', [c''], rfl, h2', c'', [], rfl, h2'', rfl⟩⟩, ?_⟩
      · cases x <;> cases y <;> cases z <;> simp only [runR] at h1 h1' h1'' <;> (try obtain ⟨ad, e, h1⟩ := h1) <;> (try obtain ⟨ad', e', h1'⟩ := h1') <;> (try obtain ⟨ad'', e'', h1''⟩ := h1'') <;> (try subst h1) <;> (try subst h1') <;> (try subst h1'') <;> simp_all [results, asAddr]
      · intro k hk
        simp only [V.toks, V.tokss, List.append_nil, List.mem_append] at hk
        exact hk.elim (h3 k) fun hk => hk.elim (h3' k) (h3'' k)
    · cases h
  · cases h

theorem relVs_getD : ∀ (us : List V) (cs : List Value) (t : Nat), relVs w S τ us cs → relV w S τ (us.getD t .dead) (cs.getD t undef)
  | [], cs, t, h => by simp [relV]
  | u :: us, cs, t, h => by
    simp only [relVs] at h
    obtain ⟨c, cs', rfl, h1, h2⟩ := h
    cases t with
    | zero => simpa using h1
    | succ t => simpa using relVs_getD us cs' t h2

theorem relVs_len : ∀ (us : List V) (cs : List Value), relVs w S τ us cs → cs.length = us.length
  | [], cs, h => by simp only [relVs] at h; subst h; rfl
  | u :: us, cs, h => by
    simp only [relVs] at h
    obtain ⟨c, cs', rfl, _, h2⟩ := h
    simp [relVs_len us cs' h2]

theorem tokss_getD : ∀ (us : List V) (t : Nat), V.tokss us = [] → (us.getD t .dead).toks = []
  | [], t, _ => by simp [V.toks]
  | u :: us, t, h => by
    simp only [V.tokss, List.append_eq_nil_iff] at h
    cases t with
    | zero => simpa using h.1
    | succ t => simpa using tokss_getD us t h.2

mutual
theorem low_toks : ∀ (v : V) (p : List Nat) (m : Nat) (l : List (List Nat × Tok)), V.own p m v = some l → ∀ k ∈ V.low m v, k ∈ v.toks
  | .sl t h lo xs, p, 0, l, ho, k, hk => by simpa [V.low] using hk
  | .sl t h lo xs, p, m + 1, l, ho, k, hk => by
    cases t with
    | sh => simp [V.own] at ho
    | bx r => simp [V.own] at ho
    | nl => simp [V.low] at hk
    | «at» r q =>
      simp only [V.low] at hk
      split at hk
      · cases hk
      · rename_i hf
        simp only [V.own, hf] at ho
        split at ho
        · simp only [Bool.false_eq_true, if_false, Option.map_eq_some_iff] at ho
          obtain ⟨l', h', _⟩ := ho
          have := lows_toks xs p m 0 l' h' k hk
          simp [V.toks, hf, this]
        · cases ho
  | .agg vs, p, m, l, ho, k, hk => by simpa [V.toks] using lows_toks vs p m 0 l (by simpa [V.own] using ho) k (by simpa [V.low] using hk)
  | .tup vs, p, m, l, ho, k, hk => by simpa [V.toks] using lows_toks vs p m 0 l (by simpa [V.own] using ho) k (by simpa [V.low] using hk)
  | .lin v, p, m, l, ho, k, hk => by simpa [V.toks] using low_toks v p m l (by simpa [V.own] using ho) k (by simpa [V.low] using hk)
  | .dead, p, m, l, ho, k, hk | .gone, p, m, l, ho, k, hk | .int .., p, m, l, ho, k, hk | .bool .., p, m, l, ho, k, hk | .ref .., p, m, l, ho, k, hk | .fn .., p, m, l, ho, k, hk => by simpa [V.low] using hk
theorem lows_toks : ∀ (vs : List V) (p : List Nat) (m j : Nat) (l : List (List Nat × Tok)), V.owns p m j vs = some l → ∀ k ∈ V.lows m vs, k ∈ V.tokss vs
  | [], p, m, j, l, ho, k, hk => by simp [V.lows] at hk
  | v :: vs, p, m, j, l, ho, k, hk => by
    simp only [V.owns] at ho
    split at ho
    · rename_i la lb h1 h2
      simp only [V.lows, V.tokss, List.mem_append] at hk ⊢
      exact hk.imp (low_toks v _ m la h1 k) (lows_toks vs p m (j + 1) lb h2 k)
    · cases ho
end

/-- where a function begins whose arguments are all shared -/
def ori (w : World) (τ : Tok → Blk) : Ori := ⟨w, fun b => w.heap.size ≤ b, τ, fun _ h => h⟩

/-- the slots hold what the function was called with -/
theorem inv_init {args : List V} {vals : Array Value} {nt : Nat} (hS : ∀ b, S b → b < w.heap.size) (hr : relVs w S τ args vals.toList) (h0 : V.tokss args = []) (hn : args.length ≤ nt) (hnt : nt ≤ pinR) :
    Inv (ori w τ) S nt (init args) { tmps := vals ++ Array.replicate (nt - vals.size) undef, defers := [] } w S τ where
  told t := by
    have hl := relVs_len _ _ hr
    simp only [Array.length_toList] at hl
    have := relVs_getD args vals.toList t hr
    by_cases ht : t < vals.size
    · simp only [init, Act.eval, Array.getD_eq_getD_getElem?, Array.getElem?_append_left ht]
      simpa [List.getD_eq_getElem?_getD] using this
    · have : init args t = .dead := by
        simp only [init]
        rw [List.getD_eq_getElem?_getD, List.getElem?_eq_none (by omega)]; rfl
      rw [this]; simp [relV]
  size := by
    have hl := relVs_len _ _ hr
    simp at hl ⊢; omega
  defers := rfl
  own t k hk := by rw [init, tokss_getD args t h0] at hk; cases hk
  inj t t' k k' hk := by rw [init, tokss_getD args t h0] at hk; cases hk
  sbd := hS
  sfr b hb := .inl hb
  s0 b hb := hb
  below := Bel.refl _ _
  lin r v t k _ _ hk := by rw [init, tokss_getD args t h0] at hk; cases hk
  gone r t k _ hk := by rw [init, tokss_getD args t h0] at hk; cases hk
  small := hnt
  pin t k hk := by rw [init, tokss_getD args t h0] at hk; cases hk

/-- what holds when a function ends -/
theorem inv_fin {m : Nat} {al : Bool} {v r : V} {c : Value} (hI : Inv w0 S0 n s a w S τ) (hf : fin m al v = some r) (hr : relV w S τ v c) (hk : ∀ k ∈ v.toks, ∃ t, k ∈ (s t).toks) (d : Nat) :
    ∃ τ', Bel w0.N w0.w w ∧
      (∀ k ∈ (V.tag d [] m r).toks, k.root? = some d ∧ w0.N (τ' k).b ∧ (τ' k).b < w.heap.size) ∧
      (∀ k ∈ (V.tag d [] m r).toks, ∀ k' ∈ (V.tag d [] m r).toks, (τ' k).b = (τ' k').b → k = k') ∧
      relV w (fun b => (al = true ∧ S0 b ∨ w0.N b) ∧ b < w.heap.size ∧ ∀ k ∈ (V.tag d [] m r).toks, (τ' k).b ≠ b) τ' (V.tag d [] m r) c := by
  unfold fin at hf
  split at hf
  · rename_i l hl
    split at hf
    · rename_i hc
      simp only [Option.some.injEq] at hf; subst hf
      simp only [Bool.and_eq_true, decide_eq_true_eq, List.all_eq_true, Bool.not_eq_true', Bool.or_eq_true] at hc
      obtain ⟨⟨hnd, hlow⟩, hal⟩ := hc
      let τ' : Tok → Blk := fun k => match k with
        | .at d' q => if d' = d then τ (tokOf v q) else τ k
        | k => τ k
      have hT : tagged d (tokOf v) τ τ' := by intro q; simp [τ']
      have htk := tag_toks d v [] m l hl
      have how := own_toks (T := tokOf v) v [] m l hl (fun q => by simp)
      have hown : ∀ x ∈ l, w0.N (τ' (.at d x.1)).b ∧ (τ' (.at d x.1)).b < w.heap.size ∧ ¬ S (τ' (.at d x.1)).b := by
        intro x hx
        have h1 := how x hx
        rw [hT x.1, h1.1]
        obtain ⟨t, ht⟩ := hk _ h1.2
        exact hI.own t _ ht
      refine ⟨τ', hI.below, ?_, ?_, ?_⟩
      · intro k hk'
        rw [htk] at hk'
        obtain ⟨x, hx, rfl⟩ := List.mem_map.1 hk'
        exact ⟨rfl, (hown x hx).1, (hown x hx).2.1⟩
      · intro k hk' k2 hk2 e
        rw [htk] at hk' hk2
        obtain ⟨x, hx, rfl⟩ := List.mem_map.1 hk'
        obtain ⟨y, hy, rfl⟩ := List.mem_map.1 hk2
        have h1 := how x hx
        have h2 := how y hy
        rw [hT x.1, hT y.1, h1.1, h2.1] at e
        obtain ⟨t, ht⟩ := hk _ h1.2
        obtain ⟨t', ht'⟩ := hk _ h2.2
        have e2 := hI.inj t t' _ _ ht ht' e
        have : x = y := by
          have hpw := List.pairwise_map.1 hnd
          have : ∀ (l : List (List Nat × Tok)), List.Pairwise (fun a b => a.2 ≠ b.2) l → x ∈ l → y ∈ l → x = y := by
            intro l
            induction l with
            | nil => intro _ h; cases h
            | cons z l ih =>
              intro hp hx hy
              rw [List.pairwise_cons] at hp
              rcases List.mem_cons.1 hx with h1 | h1 <;> rcases List.mem_cons.1 hy with h2 | h2
              · rw [h1, h2]
              · rw [h1] at e2; exact absurd e2 (hp.1 y h2)
              · rw [h2] at e2; exact absurd e2.symm (hp.1 x h1)
              · exact ih hp.2 h1 h2
          exact this l hpw hx hy
        rw [this]
      · -- what is shared
        have hlowS : ∀ k ∈ V.low m v, (w0.N (τ k).b) ∧ (τ k).b < w.heap.size ∧ ∀ k' ∈ (V.tag d [] m (V.ret m v)).toks, (τ' k').b ≠ (τ k).b := by
          intro k hkl
          obtain ⟨t, ht⟩ := hk _ (low_toks v [] m l hl k hkl)
          have h1 := hI.own t k ht
          refine ⟨h1.1, h1.2.1, ?_⟩
          intro k' hk' e
          rw [htk] at hk'
          obtain ⟨x, hx, rfl⟩ := List.mem_map.1 hk'
          have h2 := how x hx
          rw [hT x.1, h2.1] at e
          obtain ⟨t', ht'⟩ := hk _ h2.2
          have e2 := hI.inj t' t _ _ ht' ht e
          have := hlow x hx
          rw [e2] at this
          simp [hkl] at this
        rcases hal with hal | hal
        · subst hal
          refine relV_tag hT ?_ v [] m c l hr hl (fun q => by simp) ?_
          · intro b hb
            refine ⟨?_, hI.sbd b hb, ?_⟩
            · rcases hI.sfr b hb with h | h
              · exact .inl ⟨rfl, h⟩
              · exact .inr h
            · intro k' hk' e
              rw [htk] at hk'
              obtain ⟨x, hx, rfl⟩ := List.mem_map.1 hk'
              rw [← e] at hb
              exact (hown x hx).2.2 hb
          · intro k hkl
            have := hlowS k hkl
            exact ⟨.inr this.1, this.2.1, this.2.2⟩
        · refine relV_tag hT (S := fun _ => False) (fun b hb => hb.elim) v [] m c l (relV_mine _ v c hr hal) hl (fun q => by simp) ?_
          intro k hkl
          have := hlowS k hkl
          exact ⟨.inr this.1, this.2.1, this.2.2⟩
    · cases hf
  · cases hf

/-- a function's contract, from what the pure machine says of its body -/
theorem contract_of {D : Den} {σ : Sig} (hF : Fits2 P D σ) (hm : P.follows .mixedOrders = true) {f : Nat} {fn : Func} {c : Code} (hf : P.funcs[f]? = some fn) (hb : fn.body = some c) {an : List An} {A : AC} (hc : cC P fn.ntmps an c = some A)
    {m : Nat} {al : Bool} {args : List V} {r : V} (hn : args.length ≤ fn.ntmps) (hnt : Nat.ble fn.ntmps pinR = true)
    (h : A.wp D σ (fun e s => (e = .nrm ∨ e = .ret) ∧ (resV P s fn.results.toList).bind (fin m al) = some r) (init args)) : Contract P f m al args r := by
  intro d w S τ vals hS hr h0
  have hI := inv_init hS hr h0 hn (Nat.le_of_ble_eq_true hnt)
  refine calls_of_wp hf hb (ac_sound hF hm c A _ _ _ _ _ _ _ hc hI h ?_)
  rintro e s a w' S' τ' ⟨he, hres⟩ hI'
  simp only [Option.bind_eq_some_iff] at hres
  obtain ⟨v, hv, hfin⟩ := hres
  obtain ⟨cv, h1, h2, h3⟩ := results_run fn _ v rfl hv hI'
  obtain ⟨τ2, h4, h5, h6, h7⟩ := inv_fin hI' hfin h2 h3 d
  rcases he with rfl | rfl
  · exact ⟨hI'.defers, cv, h1, cv, τ2, rfl, h4.below, h5, h6, h7⟩
  · exact ⟨hI'.defers, cv, h1, cv, τ2, rfl, h4.below, h5, h6, h7⟩

end
end Go.Zq
/- The pure machine's small logic: its rules; tables of contracts. -/
namespace Go.Zq

section
variable {D : Den} {σ : Sig}

end

/-- an entry of a table: a function's number, what it computes, how far down its result is its own, whether it may look like its arguments -/
structure Ent where
  g : Nat
  den : List V → Option V
  m : Nat
  al : Bool
  sel : List V → Bool

def tD : List Ent → Den
  | [], _, _ => none
  | e :: t, g, args => bif g == e.g && e.sel args then e.den args else tD t g args

def tS : List Ent → Sig
  | [], _ => none
  | e :: t, g => if g = e.g then some (e.m, e.al) else tS t g

structure Ent.Ok (P : Program) (e : Ent) : Prop where
  con : ∀ args r, e.den args = some r → Contract' P (unk e.g) e.m e.al args r
  fn : ∃ fn, P.funcs[unk e.g]? = some fn ∧ fn.body.isNone = false ∧ (fn.name == "runtime.NumGoroutine") = false

theorem fits_nil {P : Program} : Fits2 P (tD []) (tS []) := ⟨fun _ _ _ _ _ h => by simp [tD] at h, fun _ _ _ h => by simp [tS] at h⟩

theorem tD_none : ∀ (t : List Ent) (g : Nat) (args : List V), tS t g = none → tD t g args = none
  | [], _, _, _ => rfl
  | e :: t, g, args, h => by
    simp only [tS] at h
    split at h
    · cases h
    · rename_i hg
      have : (g == e.g) = false := by simpa using hg
      simp only [tD, this, Bool.false_and, cond_false]
      exact tD_none t g args h

theorem fits_cons {P : Program} {e : Ent} {t : List Ent} (he : e.Ok P) (ht : Fits2 P (tD t) (tS t)) (hs : tS t e.g = none ∨ tS t e.g = some (e.m, e.al)) : Fits2 P (tD (e :: t)) (tS (e :: t)) := by
  refine ⟨?_, ?_⟩
  · intro g args r m al hD hσ
    simp only [tD, tS] at hD hσ
    by_cases hg : g = e.g
    · subst hg
      rw [if_pos rfl] at hσ
      simp only [Option.some.injEq, Prod.mk.injEq] at hσ
      obtain ⟨rfl, rfl⟩ := hσ
      simp only [beq_self_eq_true, Bool.true_and] at hD
      cases hsel : e.sel args with
      | true => rw [hsel] at hD; exact he.con args r hD
      | false =>
        rw [hsel, cond_false] at hD
        rcases hs with h | h
        · rw [tD_none t _ args h] at hD; cases hD
        · exact ht.con _ args r _ _ hD h
    · have : (g == e.g) = false := by simpa using hg
      rw [this, Bool.false_and, cond_false] at hD
      rw [if_neg hg] at hσ
      exact ht.con g args r m al hD hσ
  · intro g m al hσ
    simp only [tS] at hσ
    split at hσ
    · rename_i hg; subst hg; exact he.fn
    · exact ht.fn g m al hσ

mutual
theorem Sh.beq_refl : ∀ a : Sh, a.beq a = true
  | .s | .p => rfl
  | .ag hs => by simp [Sh.beq, Sh.beqs_refl hs]
theorem Sh.beqs_refl : ∀ a : List Sh, Sh.beqs a a = true
  | [] => rfl
  | h :: hs => by simp [Sh.beqs, Sh.beq_refl h, Sh.beqs_refl hs]
end

/-- what has a form as a value without owners -/
class Enc (α : Type) where
  enc : α → V
  dec : V → Option α
  shp : Sh
  dec_enc : ∀ x, dec (enc x) = some x
  enc_dec : ∀ v x, dec v = some x → enc x = v
  shape_enc : ∀ x, (enc x).shape = shp
  erase_enc : ∀ x, (enc x).erase = enc x
  toks_enc : ∀ x, (enc x).toks = []
  map_enc : ∀ f x, V.map f (enc x) = enc x
  mem_enc : ∀ x, (enc x).mem = true
  own0 : ∀ p x, V.own p 0 (enc x) = some []
  low0 : ∀ x, V.low 0 (enc x) = []
  ret0 : ∀ x, V.ret 0 (enc x) = enc x
  tag0 : ∀ d p x, V.tag d p 0 (enc x) = enc x
  frz_enc : ∀ K x, V.frz K (enc x) = enc x
  mut_enc : ∀ t i q u x, V.mut t i q u (enc x) = enc x

open Enc (enc dec)

instance : Enc Int where
  enc x := .int .i64 x
  dec | .int .i64 x => some x | _ => none
  shp := .s
  dec_enc _ := rfl
  enc_dec v x h := by
    cases v with
    | int k n => cases k <;> simp at h; subst h; rfl
    | _ => simp at h
  shape_enc _ := rfl
  erase_enc _ := rfl
  toks_enc _ := rfl
  map_enc _ _ := rfl
  mem_enc _ := rfl
  own0 _ _ := rfl
  low0 _ := rfl
  ret0 x := rfl
  tag0 _ _ _ := rfl
  frz_enc _ _ := rfl
  mut_enc _ _ _ _ _ := rfl

instance : Enc Bool where
  enc x := .bool x
  dec | .bool x => some x | _ => none
  shp := .s
  dec_enc _ := rfl
  enc_dec v x h := by
    cases v with
    | bool n => simp at h; subst h; rfl
    | _ => simp at h
  shape_enc _ := rfl
  erase_enc _ := rfl
  toks_enc _ := rfl
  map_enc _ _ := rfl
  mem_enc _ := rfl
  own0 _ _ := rfl
  low0 _ := rfl
  ret0 x := rfl
  tag0 _ _ _ := rfl
  frz_enc _ _ := rfl
  mut_enc _ _ _ _ _ := rfl

def decs {α : Type} [Enc α] : List V → Option (List α)
  | [] => some []
  | v :: vs => match Enc.dec v, decs vs with
    | some x, some xs => some (x :: xs)
    | _, _ => none

theorem decs_encs {α : Type} [Enc α] : ∀ xs : List α, decs (xs.map Enc.enc) = some xs
  | [] => rfl
  | x :: xs => by simp [decs, Enc.dec_enc, decs_encs xs]

theorem encs_decs {α : Type} [Enc α] : ∀ (vs : List V) (xs : List α), decs vs = some xs → xs.map Enc.enc = vs
  | [], xs, h => by simp [decs] at h; subst h; rfl
  | v :: vs, xs, h => by
    simp only [decs] at h
    split at h
    · rename_i x xs' h1 h2
      simp only [Option.some.injEq] at h; subst h
      simp [Enc.enc_dec v x h1, encs_decs vs xs' h2]
    · cases h

theorem erases_encs {α : Type} [Enc α] : ∀ xs : List α, V.erases (xs.map Enc.enc) = xs.map Enc.enc
  | [] => rfl
  | x :: xs => by simp [V.erases, Enc.erase_enc, erases_encs xs]

theorem toks_encs {α : Type} [Enc α] : ∀ xs : List α, V.tokss (xs.map Enc.enc) = []
  | [] => rfl
  | x :: xs => by simp [V.tokss, Enc.toks_enc, toks_encs xs]

theorem maps_encs {α : Type} [Enc α] (f : Tok → Option Tok) : ∀ xs : List α, V.maps f (xs.map Enc.enc) = xs.map Enc.enc
  | [] => rfl
  | x :: xs => by simp [V.maps, Enc.map_enc, maps_encs f xs]

instance {α : Type} [Enc α] : Enc (List α) where
  enc xs := .sl .sh (Enc.shp α) 0 (xs.map Enc.enc)
  dec | .sl .sh h 0 xs => if h.beq (Enc.shp α) then decs xs else none
      | _ => none
  shp := .p
  dec_enc xs := by simp [Sh.beq_refl, decs_encs]
  enc_dec v xs h := by
    split at h
    · split at h
      · rename_i hb
        rw [Sh.beq_eq _ _ hb, encs_decs _ _ h]
      · cases h
    · cases h
  shape_enc _ := rfl
  erase_enc xs := by simp [V.erase, erases_encs]
  toks_enc _ := rfl
  map_enc _ _ := rfl
  mem_enc _ := rfl
  own0 _ _ := rfl
  low0 _ := rfl
  ret0 x := by simp [V.ret, erases_encs]
  tag0 _ _ _ := rfl
  frz_enc _ _ := rfl
  mut_enc _ _ _ _ _ := rfl

/-- a slice that may be nil -/
inductive NL (α : Type) where
  | nil
  | of (xs : List α)

def NL.list {α : Type} : NL α → List α
  | .nil => []
  | .of xs => xs

/-- structs and arrays of two -/
instance {α β : Type} [Enc α] [Enc β] : Enc (α × β) where
  enc x := .agg [Enc.enc x.1, Enc.enc x.2]
  dec | .agg [u, v] => match Enc.dec u, Enc.dec v with
        | some x, some y => some (x, y)
        | _, _ => none
      | _ => none
  shp := .ag [Enc.shp α, Enc.shp β]
  dec_enc x := by simp [Enc.dec_enc]
  enc_dec v x h := by
    split at h
    · split at h
      · rename_i h1 h2
        simp only [Option.some.injEq] at h; subst h
        simp [Enc.enc_dec _ _ h1, Enc.enc_dec _ _ h2]
      · cases h
    · cases h
  shape_enc x := by simp [V.shape, V.shapes, Enc.shape_enc]
  erase_enc x := by simp [V.erase, V.erases, Enc.erase_enc]
  toks_enc x := by simp [V.toks, V.tokss, Enc.toks_enc]
  map_enc f x := by simp [V.map, V.maps, Enc.map_enc]
  mem_enc _ := rfl
  own0 p x := by simp [V.own, V.owns, Enc.own0]
  low0 x := by simp [V.low, V.lows, Enc.low0]
  ret0 x := by simp [V.ret, V.rets, Enc.ret0]
  tag0 d p x := by simp [V.tag, V.tags, Enc.tag0]
  frz_enc K x := by simp [V.frz, V.frzs, Enc.frz_enc]
  mut_enc t i q u x := by simp [V.mut, V.muts, Enc.mut_enc]

/-- what a function may hand back -/
class Ret (α : Type) where
  ret : α → V

instance : Ret Int := ⟨Enc.enc⟩
instance : Ret Bool := ⟨Enc.enc⟩
instance {α : Type} [Enc α] : Ret (NL α) := ⟨fun | .nil => .sl .nl (Enc.shp α) 0 [] | .of xs => .sl .sh (Enc.shp α) 0 (xs.map Enc.enc)⟩
instance {α β : Type} [Ret α] [Ret β] : Ret (α × β) := ⟨fun x => .tup [Ret.ret x.1, Ret.ret x.2]⟩

end Go.Zq
/- The pure machine's small logic, step by step. -/
namespace Go.Zq

/-- what holds behind one operation -/
def xK (D : Den) (σ : Sig) (s : Nat → V) (d : Option Nat) (l : Bool) (x : X) (K : (Nat → V) → Prop) : Prop :=
  match stepX D σ s d l x with
  | some s' => K s'
  | none => False

def goK (D : Den) (σ : Sig) : List I → (Nat → V) → ((Nat → V) → Prop) → Prop
  | [], s, K => K s
  | i :: is, s, K => match i.g with
    | none => xK D σ s i.d i.l i.x fun s' => goK D σ is s' K
    | some (j, want) => match s j with
      | .bool b => if b = want then xK D σ s i.d i.l i.x (fun s' => goK D σ is s' K) else goK D σ is (put s i.d (.tup [])) K
      | .tup [] => goK D σ is (put s i.d (.tup [])) K
      | _ => False

def epK : List E → (Nat → V) → ((Nat → V) → Prop) → Prop
  | [], s, K => K s
  | e :: es, s, K => match runE s e with
    | some s' => epK es s' K
    | none => False

section
variable {D : Den} {σ : Sig}

theorem goK_steps : ∀ (is : List I) (s : Nat → V) (K : (Nat → V) → Prop), goK D σ is s K → ∃ s', steps D σ is s = some s' ∧ K s'
  | [], s, K, h => ⟨s, rfl, h⟩
  | i :: is, s, K, h => by
    simp only [goK] at h
    simp only [steps, Zq.step]
    split at h
    · rename_i hg
      try simp only [hg]
      simp only [xK] at h
      split at h
      · rename_i s1 h1
        try simp only [h1]
        exact goK_steps is s1 K h
      · exact h.elim
    · rename_i j want hg
      try simp only [hg]
      split at h
      · rename_i b hb
        try simp only [hb]
        split at h
        · rename_i hw
          try simp only [if_pos hw]
          simp only [xK] at h
          split at h
          · rename_i s1 h1
            try simp only [h1]
            exact goK_steps is s1 K h
          · exact h.elim
        · rename_i hw
          try simp only [if_neg hw]
          exact goK_steps is _ K h
      · rename_i hb
        try simp only [hb]
        exact goK_steps is _ K h
      · exact h.elim

theorem epK_runs : ∀ (es : List E) (s : Nat → V) (K : (Nat → V) → Prop), epK es s K → ∃ s', runEs es s = some s' ∧ K s'
  | [], s, K, h => ⟨s, rfl, h⟩
  | e :: es, s, K, h => by
    simp only [epK] at h
    simp only [runEs]
    split at h
    · rename_i s1 h1
      try simp only [h1]
      exact epK_runs es s1 K h
    · exact h.elim

/-- the logic in steps -/
def AC.ok (D : Den) (σ : Sig) : AC → Post → (Nat → V) → Prop
  | .skip, Q, s => Q .nrm s
  | .reg pk is ep, Q, s => epK pk s fun s0 => goK D σ is s0 fun s1 => epK ep s1 (Q .nrm)
  | .seq a b, Q, s => a.ok D σ (Post.thn (b.ok D σ Q) Q) s
  | .cond c a b, Q, s => match c.ev s with
    | .bool t => if t then a.ok D σ Q s else b.ok D σ Q s
    | _ => False
  | .block id a, Q, s => a.ok D σ (Post.blk id Q) s
  | .loop a, Q, s => ∃ k, rounds (a.ok D σ) Q k s
  | .exit id, Q, s => Q (.exit id) s
  | .ret, Q, s => Q .ret s

-- the rules, one by one
variable {Q : Post} {s : Nat → V} {K : (Nat → V) → Prop}
/-- a value is put into a slot -/
theorem xK_v {d : Option Nat} {l : Bool} {a : A} : xK D σ s d l (.v a) K = (match evalA s a with | some v => K (put s d v) | none => False) := by
  cases h : evalA s a <;> simp [xK, stepX, h]

end
end Go.Zq
/- Runs with what is still to be done as a list: one step at a time. -/
namespace Go.Zq

inductive Fr where
  | sq (b : AC)
  | bk (id : Nat)
  | lp (a : AC)

inductive Cf where
  | run (a : AC) (k : List Fr)
  | nrm (k : List Fr)
  | ext (id : Nat) (k : List Fr)

inductive Run (D : Den) (σ : Sig) (R : (Nat → V) → Prop) : Cf → (Nat → V) → Prop
  | skip {k s} : Run D σ R (.nrm k) s → Run D σ R (.run .skip k) s
  | reg {pk is ep k s s0 s1 s2} : runEs pk s = some s0 → steps D σ is s0 = some s1 → runEs ep s1 = some s2 → Run D σ R (.nrm k) s2 → Run D σ R (.run (.reg pk is ep) k) s
  | seq {a b k s} : Run D σ R (.run a (.sq b :: k)) s → Run D σ R (.run (.seq a b) k) s
  | cond {c a b k s t} : c.ev s = .bool t → Run D σ R (.run (if t then a else b) k) s → Run D σ R (.run (.cond c a b) k) s
  | block {id a k s} : Run D σ R (.run a (.bk id :: k)) s → Run D σ R (.run (.block id a) k) s
  | loop {a k s} : Run D σ R (.run a (.lp a :: k)) s → Run D σ R (.run (.loop a) k) s
  | exit {id k s} : Run D σ R (.ext id k) s → Run D σ R (.run (.exit id) k) s
  | ret {k s} : R s → Run D σ R (.run .ret k) s
  | nil {s} : R s → Run D σ R (.nrm []) s
  | nsq {b k s} : Run D σ R (.run b k) s → Run D σ R (.nrm (.sq b :: k)) s
  | nbk {id k s} : Run D σ R (.nrm k) s → Run D σ R (.nrm (.bk id :: k)) s
  | nlp {a k s} : Run D σ R (.run a (.lp a :: k)) s → Run D σ R (.nrm (.lp a :: k)) s
  | esq {id b k s} : Run D σ R (.ext id k) s → Run D σ R (.ext id (.sq b :: k)) s
  | ebk {id k s} : Run D σ R (.nrm k) s → Run D σ R (.ext id (.bk id :: k)) s
  | ebn {i id k s} : i ≠ id → Run D σ R (.ext i k) s → Run D σ R (.ext i (.bk id :: k)) s
  | elp {i a k s} : Run D σ R (.ext i k) s → Run D σ R (.ext i (.lp a :: k)) s

def postK (D : Den) (σ : Sig) (R : (Nat → V) → Prop) : List Fr → Post
  | [] => fun e s => (e = .nrm ∨ e = .ret) ∧ R s
  | .sq b :: k => Post.thn (b.wp D σ (postK D σ R k)) (postK D σ R k)
  | .bk id :: k => Post.blk id (postK D σ R k)
  | .lp a :: k => Post.thn (fun s => ∃ n, rounds (a.wp D σ) (postK D σ R k) n s) (postK D σ R k)

section
variable {D : Den} {σ : Sig} {R : (Nat → V) → Prop}

theorem postK_ret {s : Nat → V} (h : R s) : ∀ k, postK D σ R k .ret s
  | [] => ⟨.inr rfl, h⟩
  | .sq _ :: k => postK_ret h k
  | .bk _ :: k => postK_ret h k
  | .lp _ :: k => postK_ret h k

/-- a run has one end -/
theorem wp_end : ∀ (A : AC) {Q : Post} {s : Nat → V}, A.wp D σ Q s → ∃ e s', Q e s' ∧ ∀ Q' : Post, Q' e s' → A.wp D σ Q' s := by
  intro A
  induction A with
  | skip => intro Q s h; exact ⟨_, _, h, fun _ h => h⟩
  | reg pk is ep =>
    intro Q s h
    simp only [AC.wp] at h ⊢
    cases h0 : runEs pk s with
    | none => simp only [h0] at h
    | some s0 =>
      simp only [h0] at h ⊢
      cases h1 : steps D σ is s0 with
      | none => simp only [h1] at h
      | some s1 =>
        simp only [h1] at h ⊢
        cases h2 : runEs ep s1 with
        | none => simp only [h2] at h
        | some s2 => simp only [h2] at h ⊢; exact ⟨_, _, h, fun _ h => h⟩
  | seq a b iha ihb =>
    intro Q s h
    obtain ⟨e, s1, h1, h2⟩ := iha h
    cases e with
    | nrm =>
      obtain ⟨e2, s2, h3, h4⟩ := ihb h1
      exact ⟨e2, s2, h3, fun Q' hq => h2 _ (h4 Q' hq)⟩
    | exit id => exact ⟨_, _, h1, fun Q' hq => h2 _ hq⟩
    | ret => exact ⟨_, _, h1, fun Q' hq => h2 _ hq⟩
  | cond c a b iha ihb =>
    intro Q s h
    simp only [AC.wp] at h ⊢
    cases hc : c.ev s with
    | bool t =>
      simp only [hc] at h ⊢
      cases t with
      | true => exact iha h
      | false => exact ihb h
    | _ => simp only [hc] at h
  | block id a ih =>
    intro Q s h
    obtain ⟨e, s1, h1, h2⟩ := ih h
    cases e with
    | nrm => exact ⟨.nrm, s1, h1, fun Q' hq => h2 _ hq⟩
    | ret => exact ⟨.ret, s1, h1, fun Q' hq => h2 _ hq⟩
    | exit i =>
      simp only [Post.blk] at h1
      split at h1
      · rename_i e; exact ⟨.nrm, s1, h1, fun Q' hq => h2 _ (by simp only [Post.blk, if_pos e]; exact hq)⟩
      · rename_i e; exact ⟨.exit i, s1, h1, fun Q' hq => h2 _ (by simp only [Post.blk, if_neg e]; exact hq)⟩
  | loop a ih =>
    intro Q s h
    obtain ⟨n, hn⟩ := h
    have key : ∀ n s, rounds (a.wp D σ) Q n s → ∃ e s', Q e s' ∧ ∀ Q' : Post, Q' e s' → ∃ m, rounds (a.wp D σ) Q' m s := by
      intro n
      induction n with
      | zero => intro s h; exact h.elim
      | succ n ihn =>
        intro s h
        obtain ⟨e, s1, h1, h2⟩ := ih h
        cases e with
        | nrm =>
          obtain ⟨e2, s2, h3, h4⟩ := ihn s1 h1
          refine ⟨e2, s2, h3, fun Q' hq => ?_⟩
          obtain ⟨m, hm⟩ := h4 Q' hq
          exact ⟨m + 1, h2 _ hm⟩
        | exit id => exact ⟨_, _, h1, fun Q' hq => ⟨1, h2 _ hq⟩⟩
        | ret => exact ⟨_, _, h1, fun Q' hq => ⟨1, h2 _ hq⟩⟩
    exact key n s hn
  | exit id => intro Q s h; exact ⟨_, _, h, fun _ h => h⟩
  | ret => intro Q s h; exact ⟨_, _, h, fun _ h => h⟩

theorem loop_step {a : AC} {Q : Post} {s : Nat → V} (h : a.wp D σ (Post.thn (fun s => ∃ n, rounds (a.wp D σ) Q n s) Q) s) : ∃ n, rounds (a.wp D σ) Q n s := by
  obtain ⟨e, s1, h1, h2⟩ := wp_end a h
  cases e with
  | nrm =>
    obtain ⟨n, hn⟩ := h1
    exact ⟨n + 1, h2 _ hn⟩
  | exit id => exact ⟨1, h2 _ h1⟩
  | ret => exact ⟨1, h2 _ h1⟩

def says (D : Den) (σ : Sig) (R : (Nat → V) → Prop) : Cf → (Nat → V) → Prop
  | .run a k, s => a.wp D σ (postK D σ R k) s
  | .nrm k, s => postK D σ R k .nrm s
  | .ext id k, s => postK D σ R k (.exit id) s

theorem run_says {c : Cf} {s : Nat → V} (h : Run D σ R c s) : says D σ R c s := by
  induction h with
  | skip _ ih => exact ih
  | reg h0 h1 h2 _ ih => simp only [says, AC.wp, h0, h1, h2]; exact ih
  | seq _ ih => exact ih
  | cond hc _ ih =>
    rename_i t _
    simp only [says, AC.wp, hc] at ih ⊢
    cases t
    · exact ih
    · exact ih
  | block _ ih => exact ih
  | loop _ ih => exact loop_step ih
  | exit _ ih => exact ih
  | ret h => exact postK_ret h _
  | nil h => exact ⟨.inl rfl, h⟩
  | nsq _ ih => exact ih
  | nbk _ ih => exact ih
  | nlp _ ih => exact loop_step ih
  | esq _ ih => exact ih
  | ebk _ ih => simp only [says, postK, Post.blk, if_true]; exact ih
  | ebn hn _ ih => simp only [says, postK, Post.blk, if_neg hn]; exact ih
  | elp _ ih => exact ih

/-- a function's contract, from a run of its body -/
theorem contract_run {P : Program} (hF : Fits2 P D σ) (hm : P.follows .mixedOrders = true) {f : Nat} {fn : Func} {c : Code} (hf : P.funcs[f]? = some fn) (hb : fn.body = some c) {an : List An} {A : AC} (hc : cC P fn.ntmps an c = some A)
    {m : Nat} {al : Bool} {args : List V} {r : V} (hn : args.length ≤ fn.ntmps)
    (h : Run D σ (fun s => (resV P s fn.results.toList).bind (fin m al) = some r) (.run A []) (init args)) (hnt : Nat.ble fn.ntmps pinR = true := by decide) (hmp : Nat.ble pinR m = false := by rfl) : Contract' P f m al args r := by
  have h1 := contract_of hF hm hf hb hc hn hnt (run_says h)
  unfold Contract'
  rw [if_neg (by rintro rfl; exact absurd hmp (by decide)), if_neg (by rintro rfl; exact absurd hmp (by decide)), if_neg (by rintro rfl; exact absurd hmp (by decide))]
  exact h1

-- one step at a time
variable {s : Nat → V} {K : (Nat → V) → Prop} {is : List I}

theorem run_reg {pk ep k} (h : epK pk s fun s0 => goK D σ is s0 fun s1 => epK ep s1 (Run D σ R (.nrm k))) : Run D σ R (.run (.reg pk is ep) k) s := by
  obtain ⟨s0, h5, h6⟩ := epK_runs _ _ _ h
  obtain ⟨s1, h1, h2⟩ := goK_steps _ _ _ h6
  obtain ⟨s2, h3, h4⟩ := epK_runs _ _ _ h2
  exact .reg h5 h1 h3 h4

/-- a branch, in the pure function and in the run -/
theorem run_cond {γ : Type} {r : γ} {A B : Option γ} {c : O} {a b : AC} {k : List Fr} {t : Bool} (hc : c.ev s = .bool t) (h : (bif t then A else B) = some r)
    (h1 : A = some r → Run D σ R (.run a k) s) (h2 : B = some r → Run D σ R (.run b k) s) : Run D σ R (.run (.cond c a b) k) s := by
  refine .cond hc ?_
  cases t with
  | true => exact h1 h
  | false => exact h2 h

theorem bind_some {α β : Type} {x : Option α} {f : α → Option β} {r : β} (h : x.bind f = some r) : ∃ a, x = some a ∧ f a = some r := by
  cases x with
  | none => cases h
  | some a => exact ⟨a, rfl, h⟩

def Facts : List (Nat × V) → (Nat → V) → Prop
  | [], _ => True
  | [(t, v)], s => s t = v
  | (t, v) :: L, s => s t = v ∧ Facts L s

theorem g_v {d : Nat} {l : Bool} {a : A} (v : V) (h : evalA s a = some v) (H : goK D σ is (upd s d v) K) : goK D σ (⟨some d, none, l, .v a⟩ :: is) s K := by
  simp only [goK, xK_v, h, put]; exact H

/-- a guard that is known -/
theorem g_yes {d j : Nat} {l b : Bool} {x : X} (hj : s j = .bool b) (H : goK D σ (⟨some d, none, l, x⟩ :: is) s K) : goK D σ (⟨some d, some (j, b), l, x⟩ :: is) s K := by
  simp only [goK, hj, if_true]; exact H
theorem g_no {d j : Nat} {l b : Bool} {x : X} (hj : s j = .bool (!b)) (H : goK D σ is (upd s d (.tup [])) K) : goK D σ (⟨some d, some (j, b), l, x⟩ :: is) s K := by
  simp only [goK, hj]
  rw [if_neg (by cases b <;> simp)]; exact H
/-- a guard that was left out itself -/
theorem g_skip {d j : Nat} {l b : Bool} {x : X} (hj : s j = .tup []) (H : goK D σ is (upd s d (.tup [])) K) : goK D σ (⟨some d, some (j, b), l, x⟩ :: is) s K := by
  simp only [goK, hj]; exact H
theorem g_box {d : Nat} {l : Bool} {x : O} (v : V) (h : x.rd s = some v) (hg : s d = .gone) (hm : v.mem = true) (H : goK D σ is (upd s d (.ref (.bx d) 0 [] v)) K) : goK D σ (⟨some d, none, l, .box x⟩ :: is) s K := by
  simp only [goK, xK, stepX, h, hg, hm, if_true]; exact H

theorem g_alloc {d : Nat} {l : Bool} {z : V} (hg : s d = .gone) (H : goK D σ is (upd s d (.ref (.bx d) 0 [] z)) K) : goK D σ (⟨some d, none, l, .alloc z⟩ :: is) s K := by
  simp only [goK, xK, stepX, hg]; exact H

theorem g_store {l : Bool} {g : Sh} {x y : O} {t i q c} (v : V) (hx : x.rd s = some (.ref t i q c)) (hy : y.rd s = some v) (h : t ≠ .sh ∧ t ≠ .nl ∧ v.mem = true ∧ v.shape.beq g = true ∧ c.shape.beq g = true ∧ v.toks.contains t = false)
    (H : goK D σ is (mutS t i q v s) K) : goK D σ (⟨none, none, l, .store g x y⟩ :: is) s K := by
  simp only [goK, xK, stepX, hx, hy]; rw [if_pos h]; exact H

end
end Go.Zq
/- Typed steps: lists and calls. -/
namespace Go.Zq

/-- an own slice that may be nil -/
def encO {α : Type} [Enc α] (t : Tok) : NL α → V
  | .nil => .sl .nl (Enc.shp α) 0 []
  | .of xs => .sl t (Enc.shp α) 0 (xs.map Enc.enc)

def idx {α : Type} (xs : List α) (i : Int) : Option α := if 0 ≤ i then xs[i.toNat]? else none
def mkN {α : Type} (m : Int) (x : α) : Option (List α) := if 0 ≤ m ∧ m ≤ 2 ^ 40 then some (List.replicate m.toNat x) else none
def appN {α : Type} (o : NL α) (ys : List α) : Option (NL α) := if o.list.length + ys.length ≤ 2 ^ 40 then (match o, ys with
  | .nil, [] => some .nil
  | o, ys => some (.of (o.list ++ ys))) else none
def sub {α : Type} (xs : List α) (a b : Int) : Option (List α) := if 0 ≤ a ∧ a ≤ b ∧ b ≤ xs.length then some ((xs.drop a.toNat).take (b.toNat - a.toNat)) else none

def killF (pk : List Nat) (k : Tok) : Option Tok := if pk.any (fun r => k.root? == some r) then none else some k
def killT (t : Tok) (k : Tok) : Option Tok := if k == t then none else some k

section
variable {D : Den} {σ : Sig} {R : (Nat → V) → Prop} {s : Nat → V} {K : (Nat → V) → Prop} {is : List I}

theorem map_encO {α : Type} [Enc α] {f : Tok → Option Tok} {r : Nat} {p : List Nat} {t' : Tok} {o : NL α} (hf : f (.at r p) = some t') (hn : f .nl = some .nl) : V.map f (encO (.at r p) o) = encO t' o := by
  cases o with
  | nil => simp [encO, V.map, hn, V.maps]
  | of xs => simp [encO, V.map, hf, maps_encs]

theorem erase_encO {α : Type} [Enc α] {t : Tok} {o : NL α} : (encO t o).erase = Enc.enc o.list := by
  cases o with
  | nil => simp [encO, V.erase, NL.list, Enc.enc, V.erases]
  | of xs => simp [encO, V.erase, NL.list, Enc.enc, erases_encs]

theorem rd_of {x : O} {v : V} (h : x.ev s = v) (hk : v.ok = true) : x.rd s = some v := by
  unfold O.rd; rw [h, if_pos hk]

theorem pk_of {x : O} {v : V} (h : x.ev s = v) (hk : v.ok = true) : x.pk s = v := by
  unfold O.pk; rw [h]; cases v <;> first | rfl | simp [V.ok] at hk

theorem ev_len {α : Type} [Enc α] {x : O} {t : Tok} {h : Sh} {lo : Nat} {xs : List α} (hx : x.ev s = .sl t h lo (xs.map Enc.enc)) : evalA s (.len x) = some (.int .i64 xs.length) := by
  simp only [evalA, pk_of hx rfl, List.length_map]

theorem ev_lenO {α : Type} [Enc α] {x : O} {t : Tok} {o : NL α} (hx : x.ev s = encO t o) : evalA s (.len x) = some (.int .i64 o.list.length) := by
  cases o with
  | nil => simp only [evalA, encO] at hx ⊢; rw [pk_of hx rfl]; rfl
  | of xs => exact ev_len (h := Enc.shp α) (lo := 0) hx

theorem ev_idx {α : Type} [Enc α] {x i : O} {t : Tok} {lo e : Nat} {xs : List α} {k : IntKind} {n : Int} {a : α} (hx : x.ev s = .sl t (Enc.shp α) lo (xs.map Enc.enc)) (hi : i.ev s = .int k n) (ha : idx xs n = some a)
    (he : (Enc.shp α).size = e) (ht : (t != .nl && !t.isBx) = true) : evalA s (.idx x i e) = some (.ref t (if t = .sh then 0 else lo + n.toNat) [] (Enc.enc a)) := by
  unfold idx at ha
  split at ha
  · rename_i h0
    simp only [evalA, rd_of hx rfl, rd_of hi rfl, h0, if_true, List.getElem?_map, ha, Option.map_some, he, beq_self_eq_true, Bool.true_and, ht]
  · cases ha

theorem ev_idxO {α : Type} [Enc α] {x i : O} {r : Nat} {p : List Nat} {e : Nat} {o : NL α} {k : IntKind} {n : Int} {a : α} (hx : x.ev s = encO (.at r p) o) (hi : i.ev s = .int k n) (ha : idx o.list n = some a)
    (he : (Enc.shp α).size = e) : evalA s (.idx x i e) = some (.ref (.at r p) n.toNat [] (Enc.enc a)) := by
  cases o with
  | nil => simp [idx, NL.list] at ha
  | of xs =>
    have := ev_idx (t := .at r p) (lo := 0) hx hi ha he (by simp [Tok.isBx])
    simpa using this

theorem g_mk {α : Type} [Enc α] {d : Nat} {n : O} {z z0 : V} {k : IntKind} {m : Int} {xs : List α} (x : α) (hn : n.ev s = .int k m) (hz : z = Enc.enc x) (hg : s d = .gone) (ho : mkN m x = some xs)
    (H : goK D σ is (upd s d (.sl (.at d []) (Enc.shp α) 0 (xs.map Enc.enc))) K) : goK D σ (⟨some d, none, false, .mk n z z0⟩ :: is) s K := by
  unfold mkN at ho
  split at ho
  · rename_i hb
    simp only [Option.some.injEq] at ho; subst ho; subst hz
    simp only [goK, xK, stepX, rd_of hn rfl, hg, if_pos hb]
    simp only [Bool.false_eq_true, if_false, Enc.shape_enc]
    simp only [List.map_replicate] at H
    exact H
  · cases ho

theorem g_lit {d : Nat} {z : V} {len : Nat} {ps : List (Nat × Nat × O)} (vs : List V) (h : bldParts s ps (List.replicate len z) = some vs) (hg : s d = .gone)
    (H : goK D σ is (upd s d (.sl (.at d []) z.shape 0 vs)) K) : goK D σ (⟨some d, none, false, .lit z len ps⟩ :: is) s K := by
  simp only [goK, xK, stepX, h, hg]
  simp only [Bool.false_eq_true, if_false]
  exact H

theorem g_app {α : Type} [Enc α] {d r q : Nat} {p : List Nat} {g : Sh} {o o' : NL α} {ys : List α} {y : O} {t2 : Tok} {lo2 : Nat} (hx : s r = encO (.at q p) o) (hy : y.ev s = .sl t2 (Enc.shp α) lo2 (ys.map Enc.enc)) (hgg : g = Enc.shp α) (hg : s d = .gone) (ha : appN o ys = some o')
    (H : ∀ s1, (∀ t v u, s t = v → V.map (killT (.at q p)) v = u → (o = .nil → v = u) → s1 t = u) → goK D σ is (upd s1 d (encO (.at d []) o')) K) : goK D σ (⟨some d, none, false, .app g (.t r) y⟩ :: is) s K := by
  subst hgg
  unfold appN at ha
  split at ha
  · rename_i hlen
    cases o with
    | nil =>
      have hsp : spent s (.t r) = some (s, .sl .nl (Enc.shp α) 0 []) := by simp only [spent]; rw [hx]; rfl
      simp only [goK, xK, stepX, hsp, rd_of hy rfl, hg, Sh.beq_refl, toks_encs, List.isEmpty_nil, Bool.or_true, Bool.true_and]
      simp only [NL.list, List.length_nil] at hlen
      rw [if_pos (by simpa using hlen)]
      have := H s (fun t v u h1 _ h3 => h1.trans (h3 rfl))
      simp only [Bool.false_and, Bool.false_eq_true, if_false]
      have e : appV d .nl (Enc.shp α) [] (ys.map Enc.enc) = encO (.at d []) o' := by
        cases ys with
        | nil => simp at ha; subst ha; rfl
        | cons y ys => simp [NL.list] at ha; subst ha; rfl
      rw [e]; exact this
    | of xs =>
      have hsp : spent s (.t r) = some (mapS (killT (.at q p)) s, .sl (.at q p) (Enc.shp α) 0 (xs.map Enc.enc)) := by
        simp only [spent]; rw [hx]; simp only [encO, toks_encs, List.contains_nil, Bool.not_false, if_true]; rfl
      have hgd : mapS (killT (.at q p)) s d = .gone := by simp only [mapS, hg]; rfl
      simp only [goK, xK, stepX, hsp, rd_of hy rfl, hgd, Sh.beq_refl, toks_encs, List.isEmpty_nil, Bool.or_true, Bool.true_and]
      simp only [NL.list] at hlen
      rw [if_pos (by simpa using hlen)]
      have := H (mapS (killT (.at q p)) s) (fun t v u h1 h2 _ => by simp only [mapS, h1]; exact h2)
      simp only [Bool.false_and, Bool.false_eq_true, if_false]
      have e : appV d (.at q p) (Enc.shp α) (xs.map Enc.enc) (ys.map Enc.enc) = encO (.at d []) o' := by
        have : o' = .of (xs ++ ys) := by cases ys <;> simp [NL.list] at ha <;> simp [ha.symm]
        subst this
        simp [appV, encO]
      rw [e]; exact this
  · cases ha

/-- a call whose result is shared -/
theorem g_call {d g m : Nat} {al : Bool} {as : List O} {r : V} (vs : List V) (hv : takeArgs as s = some (vs, s)) (hD : D g vs = some r) (hσ : σ g = some (m, al)) (hal : (al && !(heldToks s as).isEmpty) = false)
    (hr : r.toks = []) (ht : (V.tag d [] m r).toks = []) (hok : (V.tag d [] m r).ok = true) (H : goK D σ is (upd s d (V.tag d [] m r)) K) (hmp : Nat.ble pinR m = false := by rfl) (hgm : Nat.ble modeO g = false := by rfl) : goK D σ (⟨some d, none, false, .call (.k (.fn g [] [])) as⟩ :: is) s K := by
  have h0 : (V.fn g [] []).toks = [] := by simp [V.toks, V.tokss]
  have h1 : O.rd s (.k (.fn g [] [])) = some (.fn g [] []) := rfl
  have hal' : ¬ ((al && !((heldToks s as).isEmpty && (V.fn g [] []).toks.isEmpty)) = true) := by simp [h0]; simpa using hal
  simp only [goK, xK, stepX, stepC, h1, hv, V.erases, List.nil_append, List.append_nil, key, cond_false, hD, hσ, hgm, Bool.false_eq_true, if_false]
  rw [if_neg hal']
  simp only [hr, hmp, Bool.not_false, List.isEmpty_nil, List.all_nil, Bool.and_self, if_true, Option.getD_some, place, ht, hok, put]
  exact H

end
end Go.Zq

namespace Go.Zq
section
variable {D : Den} {σ : Sig} {R : (Nat → V) → Prop} {s : Nat → V} {K : (Nat → V) → Prop} {is : List I}

theorem g_end {ep : List E} (H : epK ep s K) : goK D σ [] s (fun s1 => epK ep s1 K) := H
theorem e_end (H : K s) : epK [] s K := H

/-- an operation that hangs on no slot -/
theorem g_v0 {d : Nat} {l : Bool} {a : A} (v : V) (he : evalA (fun _ => .dead) a = some v) (hr : a.rds = []) (H : goK D σ is (upd s d v) K) : goK D σ (⟨some d, none, l, .v a⟩ :: is) s K :=
  g_v v (by rw [evalA_congr (s2 := fun _ => .dead) (by rw [hr]; intro t ht; cases ht)]; exact he) H

/-- an operation that hangs on one slot -/
theorem g_v1 {d : Nat} {l : Bool} {a : A} {t : Nat} {u : V} (v : V) (h : s t = u) (he : evalA (fun _ => u) a = some v) (hr : (a.rds.all fun k => k == t) = true) (H : goK D σ is (upd s d v) K) : goK D σ (⟨some d, none, l, .v a⟩ :: is) s K :=
  g_v v (by
    rw [evalA_congr (s2 := fun _ => u)]
    · exact he
    · intro k hk
      have := List.all_eq_true.1 hr k hk
      simp at this; subst this; exact h) H

/-- an operation that hangs on two slots -/
theorem g_v2 {d : Nat} {l : Bool} {a : A} {t1 t2 : Nat} {u1 u2 : V} (v : V) (h1 : s t1 = u1) (h2 : s t2 = u2) (he : evalA (fun k => if k = t1 then u1 else u2) a = some v) (hr : (a.rds.all fun k => k == t1 || k == t2) = true) (H : goK D σ is (upd s d v) K) :
    goK D σ (⟨some d, none, l, .v a⟩ :: is) s K :=
  g_v v (by
    rw [evalA_congr (s2 := fun k => if k = t1 then u1 else u2)]
    · exact he
    · intro k hk
      have := List.all_eq_true.1 hr k hk
      simp only [Bool.or_eq_true, beq_iff_eq] at this
      by_cases e : k = t1
      · simp only [e, if_true]; exact h1
      · have : k = t2 := this.resolve_left e
        subst this; simp only [if_neg e]; exact h2) H

end
end Go.Zq
/- What the translator's proofs lean on. -/
namespace Go.Zq

abbrev w64 (x : Int) : Int := IntKind.i64.wrap x
def iand (k : IntKind) (x y : Int) : Int := k.wrap (BitVec.ofInt k.bits x &&& BitVec.ofInt k.bits y).toNat
def ior (k : IntKind) (x y : Int) : Int := k.wrap (BitVec.ofInt k.bits x ||| BitVec.ofInt k.bits y).toNat
def iandNot (k : IntKind) (x y : Int) : Int := k.wrap (BitVec.ofInt k.bits x &&& ~~~BitVec.ofInt k.bits y).toNat

def RR (P : Program) (rs : List ResultVar) (m : Nat) (al : Bool) (r : V) (s : Nat → V) : Prop := (resV P s rs).bind (fin m al) = some r

instance {α : Type} [Enc α] : Ret (List α) := ⟨Enc.enc⟩

section
variable {D : Den} {σ : Sig} {R : (Nat → V) → Prop} {s : Nat → V} {P : Program}

theorem run_condF {c : O} {a b : AC} {k : List Fr} (hc : c.ev s = .bool false) (h : Run D σ R (.run b k) s) : Run D σ R (.run (.cond c a b) k) s := .cond hc h

theorem split_on {γ : Type} {r : γ} {A B : Option γ} {c : Bool} {G : Prop} (h : (bif c then A else B) = some r) (h1 : c = true → A = some r → G) (h2 : c = false → B = some r → G) : G := by
  cases c with
  | true => exact h1 rfl h
  | false => exact h2 rfl h

theorem ta_nil : takeArgs [] s = some ([], s) := rfl
theorem ta_cons {s1 : Nat → V} {x : O} {xs : List O} {v u : V} {vs : List V} (h : x.ev s = v) (hk : v.ok = true) (he : v.erase = u) (hvs : takeArgs xs s = some (vs, s1)) : takeArgs (x :: xs) s = some (u :: vs, s1) := by
  subst he
  simp only [takeArgs, h]
  cases v <;> first | (simp [V.ok] at hk; done) | simp only [hvs, Option.map_some]
theorem ht_nil : heldToks s [] = [] := rfl
theorem ht_cons {x : O} {xs : List O} {v : V} (h : x.ev s = v) (hk : v.ok = true) (h0 : v.toks = []) (hs : heldToks s xs = []) : heldToks s (x :: xs) = [] := by
  simp only [heldToks, h, hs, List.append_nil]
  cases v <;> first | (simp [V.ok] at hk; done) | exact h0
theorem hal_of {as : List O} {al : Bool} (h : heldToks s as = []) : (al && !(heldToks s as).isEmpty) = false := by simp [h]

variable {K : (Nat → V) → Prop} {is : List I}

/-- slots that are known, as a function -/
def look : List (Nat × V) → Nat → V
  | [], _ => .dead
  | (t, v) :: L, k => if k = t then v else look L k

theorem look_of : ∀ (L : List (Nat × V)) (s : Nat → V), Facts L s → ∀ k, (L.any fun x => x.1 == k) = true → s k = look L k
  | [], _, _, k, h => by simp at h
  | [(t, v)], s, hf, k, h => by
    simp only [List.any_cons, List.any_nil, Bool.or_false, beq_iff_eq] at h
    subst h; simp only [look, if_true]; exact hf
  | (t, v) :: y :: L, s, hf, k, h => by
    by_cases e : k = t
    · subst e; simp only [look, if_true]; exact hf.1
    · rw [look, if_neg e]
      refine look_of (y :: L) s hf.2 k ?_
      simp only [List.any_cons, Bool.or_eq_true, beq_iff_eq] at h ⊢
      exact h.resolve_left fun h => e h.symm

theorem g_litL {d : Nat} {z : V} {len : Nat} {ps : List (Nat × Nat × O)} (L : List (Nat × V)) (vs : List V) (hs : Facts L s) (h : bldParts (look L) ps (List.replicate len z) = some vs)
    (hr : ((ps.flatMap fun p => p.2.2.rds).all fun k => L.any fun x => x.1 == k) = true) (hg : s d = .gone)
    (H : goK D σ is (upd s d (.sl (.at d []) z.shape 0 vs)) K) : goK D σ (⟨some d, none, false, .lit z len ps⟩ :: is) s K :=
  g_lit vs (by rw [bldParts_congr (s2 := look L) fun k hk => look_of L s hs k (List.all_eq_true.1 hr k hk)]; exact h) hg H

-- what stays through a change of owners
theorem e_clr {pk : List Nat} {es : List E} (H : epK es (clear pk s) K) : epK (.clr pk :: es) s K := H
theorem keep_clear {pk : List Nat} {t : Nat} {v : V} (h : s t = v) (hn : pk.contains t = false) (hm : V.map (killF pk) v = v) : clear pk s t = v := by
  simp only [clear, hn, h]; exact hm
theorem gone_clear {pk : List Nat} {t : Nat} (hn : pk.contains t = true) : clear pk s t = .gone := by
  simp only [clear, hn, if_true]

theorem e_home {r x : Nat} {es : List E} {v : V} (hx : s x = v) (hk : v.ok = true) (H : ∀ s1, (∀ t u u', s t = u → V.map (moveF r x) u = u' → s1 t = u') → epK es s1 K) (hp : Nat.ble pinR x = false := by rfl) : epK (.home r x :: es) s K := by
  have : runE s (.home r x) = some (mapS (moveF r x) s) := by
    simp only [runE, hx, hp]
    cases v <;> first | (simp [V.ok] at hk; done) | rfl
  simp only [epK, this]
  exact H _ fun t u u' h1 h2 => by simp only [mapS, h1, h2]

theorem e_frz {x : Nat} {es : List E} {v : V} (ks : List Tok) (hx : s x = v) (hk : v.toks = ks) (H : ∀ s1, (∀ t u u', s t = u → V.frz ks u = u' → s1 t = u') → epK es s1 K) : epK (.frz x :: es) s K := by
  have : runE s (.frz x) = some fun t => V.frz ks (s t) := by simp only [runE, hx, hk]
  simp only [epK, this]
  exact H _ fun t u u' h1 h2 => by simp only [h1, h2]

theorem keep_app {s1 : Nat → V} {tk : Tok} {t : Nat} {v : V} {N : Prop} (hs : ∀ t v u, s t = v → V.map (killT tk) v = u → (N → v = u) → s1 t = u) (h : s t = v) (hm : V.map (killT tk) v = v) : s1 t = v := hs t v v h hm (fun _ => rfl)
theorem map_agg {f : Tok → Option Tok} {vs us : List V} (h : V.maps f vs = us) : V.map f (.agg vs) = .agg us := by simp only [V.map, h]
theorem maps_nil {f : Tok → Option Tok} : V.maps f [] = [] := rfl
theorem maps_cons {f : Tok → Option Tok} {v u : V} {vs us : List V} (h : V.map f v = u) (hs : V.maps f vs = us) : V.maps f (v :: vs) = u :: us := by simp only [V.maps, h, hs]
theorem map_bx {f : Tok → Option Tok} {r r' i : Nat} {q : List Nat} {c u : V} (hf : f (.bx r) = some (.bx r')) (h : V.map f c = u) : V.map f (.ref (.bx r) i q c) = .ref (.bx r') i q u := by simp only [V.map, hf, h]
def appL {α : Type} (xs ys : List α) : Option (List α) := if xs.length + ys.length ≤ 2 ^ 40 then some (xs ++ ys) else none

theorem appN_L {α : Type} {o : NL α} {ys zs : List α} (h : appL o.list ys = some zs) (hn : (match o with | .of _ => True | .nil => ys ≠ [])) : appN o ys = some (.of zs) := by
  unfold appL at h
  unfold appN
  split at h
  · rename_i hl
    rw [if_pos hl]
    simp only [Option.some.injEq] at h; subst h
    cases o with
    | nil => cases ys with
      | nil => exact absurd rfl hn
      | cons y ys => rfl
    | of xs => cases ys <;> rfl
  · cases h

/-- a result that is told as shared -/
structure Fin0 (v r : V) : Prop where
  own : ∀ p, V.own p 0 v = some []
  ret : V.ret 0 v = r

theorem fin_enc {α : Type} [Enc α] {x : α} : Fin0 (Enc.enc x) (Enc.enc x) := ⟨fun p => Enc.own0 p x, Enc.ret0 x⟩
theorem fin_own {α : Type} [Enc α] {t : Tok} {o : NL α} : Fin0 (encO t o) (Enc.enc o.list) := by
  cases o with
  | nil => exact ⟨fun p => rfl, by simp [encO, V.ret, NL.list, Enc.enc, V.erases]⟩
  | of xs => exact ⟨fun p => rfl, by simp [encO, V.ret, NL.list, Enc.enc, erases_encs]⟩
theorem fin_ret1 {v r : V} (h : Fin0 v r) : fin 0 true v = some r := by
  simp only [fin, h.own, List.map_nil, List.all_nil, Bool.true_or, Bool.and_true, h.ret]
  simp
-- a write, slot by slot
theorem keep_mut {tk : Tok} {i : Nat} {q : List Nat} {u : V} {t : Nat} {v v' : V} (h : s t = v) (hm : V.mut tk i q u v = v') : mutS tk i q u s t = v' := by
  simp only [mutS, h]; exact hm

theorem setPs_nil (u : V) : ∀ (vs : List V) (i : Nat), V.setPs vs i [] u = vs.set i u
  | [], _ => by simp [V.setPs]
  | v :: vs, 0 => by simp [V.setPs, V.setP]
  | v :: vs, i + 1 => by simp [V.setPs, setPs_nil u vs i]

theorem muts_encs {α : Type} [Enc α] (tk : Tok) (i : Nat) (q : List Nat) (u : V) : ∀ xs : List α, V.muts tk i q u (xs.map Enc.enc) = xs.map Enc.enc
  | [] => rfl
  | x :: xs => by simp [V.muts, Enc.mut_enc, muts_encs tk i q u xs]

theorem mut_own {α : Type} [Enc α] {r : Nat} {p : List Nat} {i : Nat} {u : α} {xs : List α} : V.mut (.at r p) i [] (Enc.enc u) (encO (.at r p) (.of xs)) = encO (.at r p) (.of (xs.set i u)) := by
  simp [encO, V.mut, muts_encs, setPs_nil, List.map_set]

theorem mut_own_ne {α : Type} [Enc α] {tk : Tok} {r : Nat} {p : List Nat} {i : Nat} {q : List Nat} {u : V} {o : NL α} (hn : (tk == .at r p) = false) (hl : (tk == .nl) = false) : V.mut tk i q u (encO (.at r p) o) = encO (.at r p) o := by
  simp only [beq_eq_false_iff_ne, ne_eq] at hn hl
  cases o with
  | nil => simp [encO, V.mut, hl, V.muts]
  | of xs => simp [encO, V.mut, hn, muts_encs]
theorem mut_agg {tk : Tok} {i : Nat} {q : List Nat} {u : V} {vs us : List V} (h : V.muts tk i q u vs = us) : V.mut tk i q u (.agg vs) = .agg us := by simp only [V.mut, h]
theorem muts_cons {tk : Tok} {i : Nat} {q : List Nat} {u : V} {v w : V} {vs us : List V} (h : V.mut tk i q u v = w) (hs : V.muts tk i q u vs = us) : V.muts tk i q u (v :: vs) = w :: us := by simp only [V.muts, h, hs]

def shlI (k : IntKind) (x y : Int) : Option Int := if y < 0 then none else some (k.wrap (x * 2 ^ (min y.toNat k.bits)))
def shrI (k : IntKind) (x y : Int) : Option Int := if y < 0 then none else some (x.fdiv (2 ^ (min y.toNat k.bits)))

theorem ev_shl {k k' : IntKind} {x y : O} {a b v : Int} (hx : x.ev s = .int k a) (hy : y.ev s = .int k' b) (h : shlI k a b = some v) : evalA s (.bin .shl x y) = some (.int k v) := by
  unfold shlI at h
  split at h
  · cases h
  · rename_i h0; simp only [Option.some.injEq] at h; subst h
    simp only [evalA, rd_of hx rfl, rd_of hy rfl, binV, intShift, if_neg h0]
theorem ev_shr {k k' : IntKind} {x y : O} {a b v : Int} (hx : x.ev s = .int k a) (hy : y.ev s = .int k' b) (h : shrI k a b = some v) : evalA s (.bin .shr x y) = some (.int k v) := by
  unfold shrI at h
  split at h
  · cases h
  · rename_i h0; simp only [Option.some.injEq] at h; subst h
    simp only [evalA, rd_of hx rfl, rd_of hy rfl, binV, intShift, if_neg h0]
end
end Go.Zq
/- Structs of one, three, four and more parts. -/
namespace Go.Zq

structure S1 (α0 : Type) where
  a : α0

instance {α0 : Type} [Enc α0] : Enc (S1 α0) where
  enc x := .agg [Enc.enc x.a]
  dec | .agg [u0] => match Enc.dec u0 with
        | some x0 => some ⟨x0⟩
        | _ => none
      | _ => none
  shp := .ag [Enc.shp α0]
  dec_enc x := by simp [Enc.dec_enc]
  enc_dec v x h := by
    split at h
    · split at h
      · rename_i h0
        simp only [Option.some.injEq] at h; subst h
        simp [Enc.enc_dec _ _ h0]
      · cases h
    · cases h
  shape_enc x := by simp [V.shape, V.shapes, Enc.shape_enc]
  erase_enc x := by simp [V.erase, V.erases, Enc.erase_enc]
  toks_enc x := by simp [V.toks, V.tokss, Enc.toks_enc]
  map_enc f x := by simp [V.map, V.maps, Enc.map_enc]
  mem_enc _ := rfl
  own0 p x := by simp [V.own, V.owns, Enc.own0]
  low0 x := by simp [V.low, V.lows, Enc.low0]
  ret0 x := by simp [V.ret, V.rets, Enc.ret0]
  tag0 d p x := by simp [V.tag, V.tags, Enc.tag0]
  frz_enc K x := by simp [V.frz, V.frzs, Enc.frz_enc]
  mut_enc t i q u x := by simp [V.mut, V.muts, Enc.mut_enc]

structure S3 (α0 α1 α2 : Type) where
  a : α0
  b : α1
  c : α2

instance {α0 α1 α2 : Type} [Enc α0] [Enc α1] [Enc α2] : Enc (S3 α0 α1 α2) where
  enc x := .agg [Enc.enc x.a, Enc.enc x.b, Enc.enc x.c]
  dec | .agg [u0, u1, u2] => match Enc.dec u0, Enc.dec u1, Enc.dec u2 with
        | some x0, some x1, some x2 => some ⟨x0, x1, x2⟩
        | _, _, _ => none
      | _ => none
  shp := .ag [Enc.shp α0, Enc.shp α1, Enc.shp α2]
  dec_enc x := by simp [Enc.dec_enc]
  enc_dec v x h := by
    split at h
    · split at h
      · rename_i h0 h1 h2
        simp only [Option.some.injEq] at h; subst h
        simp [Enc.enc_dec _ _ h0, Enc.enc_dec _ _ h1, Enc.enc_dec _ _ h2]
      · cases h
    · cases h
  shape_enc x := by simp [V.shape, V.shapes, Enc.shape_enc]
  erase_enc x := by simp [V.erase, V.erases, Enc.erase_enc]
  toks_enc x := by simp [V.toks, V.tokss, Enc.toks_enc]
  map_enc f x := by simp [V.map, V.maps, Enc.map_enc]
  mem_enc _ := rfl
  own0 p x := by simp [V.own, V.owns, Enc.own0]
  low0 x := by simp [V.low, V.lows, Enc.low0]
  ret0 x := by simp [V.ret, V.rets, Enc.ret0]
  tag0 d p x := by simp [V.tag, V.tags, Enc.tag0]
  frz_enc K x := by simp [V.frz, V.frzs, Enc.frz_enc]
  mut_enc t i q u x := by simp [V.mut, V.muts, Enc.mut_enc]

structure S4 (α0 α1 α2 α3 : Type) where
  a : α0
  b : α1
  c : α2
  d : α3

instance {α0 α1 α2 α3 : Type} [Enc α0] [Enc α1] [Enc α2] [Enc α3] : Enc (S4 α0 α1 α2 α3) where
  enc x := .agg [Enc.enc x.a, Enc.enc x.b, Enc.enc x.c, Enc.enc x.d]
  dec | .agg [u0, u1, u2, u3] => match Enc.dec u0, Enc.dec u1, Enc.dec u2, Enc.dec u3 with
        | some x0, some x1, some x2, some x3 => some ⟨x0, x1, x2, x3⟩
        | _, _, _, _ => none
      | _ => none
  shp := .ag [Enc.shp α0, Enc.shp α1, Enc.shp α2, Enc.shp α3]
  dec_enc x := by simp [Enc.dec_enc]
  enc_dec v x h := by
    split at h
    · split at h
      · rename_i h0 h1 h2 h3
        simp only [Option.some.injEq] at h; subst h
        simp [Enc.enc_dec _ _ h0, Enc.enc_dec _ _ h1, Enc.enc_dec _ _ h2, Enc.enc_dec _ _ h3]
      · cases h
    · cases h
  shape_enc x := by simp [V.shape, V.shapes, Enc.shape_enc]
  erase_enc x := by simp [V.erase, V.erases, Enc.erase_enc]
  toks_enc x := by simp [V.toks, V.tokss, Enc.toks_enc]
  map_enc f x := by simp [V.map, V.maps, Enc.map_enc]
  mem_enc _ := rfl
  own0 p x := by simp [V.own, V.owns, Enc.own0]
  low0 x := by simp [V.low, V.lows, Enc.low0]
  ret0 x := by simp [V.ret, V.rets, Enc.ret0]
  tag0 d p x := by simp [V.tag, V.tags, Enc.tag0]
  frz_enc K x := by simp [V.frz, V.frzs, Enc.frz_enc]
  mut_enc t i q u x := by simp [V.mut, V.muts, Enc.mut_enc]

structure S5 (α0 α1 α2 α3 α4 : Type) where
  a : α0
  b : α1
  c : α2
  d : α3
  e : α4

instance {α0 α1 α2 α3 α4 : Type} [Enc α0] [Enc α1] [Enc α2] [Enc α3] [Enc α4] : Enc (S5 α0 α1 α2 α3 α4) where
  enc x := .agg [Enc.enc x.a, Enc.enc x.b, Enc.enc x.c, Enc.enc x.d, Enc.enc x.e]
  dec | .agg [u0, u1, u2, u3, u4] => match Enc.dec u0, Enc.dec u1, Enc.dec u2, Enc.dec u3, Enc.dec u4 with
        | some x0, some x1, some x2, some x3, some x4 => some ⟨x0, x1, x2, x3, x4⟩
        | _, _, _, _, _ => none
      | _ => none
  shp := .ag [Enc.shp α0, Enc.shp α1, Enc.shp α2, Enc.shp α3, Enc.shp α4]
  dec_enc x := by simp [Enc.dec_enc]
  enc_dec v x h := by
    split at h
    · split at h
      · rename_i h0 h1 h2 h3 h4
        simp only [Option.some.injEq] at h; subst h
        simp [Enc.enc_dec _ _ h0, Enc.enc_dec _ _ h1, Enc.enc_dec _ _ h2, Enc.enc_dec _ _ h3, Enc.enc_dec _ _ h4]
      · cases h
    · cases h
  shape_enc x := by simp [V.shape, V.shapes, Enc.shape_enc]
  erase_enc x := by simp [V.erase, V.erases, Enc.erase_enc]
  toks_enc x := by simp [V.toks, V.tokss, Enc.toks_enc]
  map_enc f x := by simp [V.map, V.maps, Enc.map_enc]
  mem_enc _ := rfl
  own0 p x := by simp [V.own, V.owns, Enc.own0]
  low0 x := by simp [V.low, V.lows, Enc.low0]
  ret0 x := by simp [V.ret, V.rets, Enc.ret0]
  tag0 d p x := by simp [V.tag, V.tags, Enc.tag0]
  frz_enc K x := by simp [V.frz, V.frzs, Enc.frz_enc]
  mut_enc t i q u x := by simp [V.mut, V.muts, Enc.mut_enc]

structure S6 (α0 α1 α2 α3 α4 α5 : Type) where
  a : α0
  b : α1
  c : α2
  d : α3
  e : α4
  f : α5

instance {α0 α1 α2 α3 α4 α5 : Type} [Enc α0] [Enc α1] [Enc α2] [Enc α3] [Enc α4] [Enc α5] : Enc (S6 α0 α1 α2 α3 α4 α5) where
  enc x := .agg [Enc.enc x.a, Enc.enc x.b, Enc.enc x.c, Enc.enc x.d, Enc.enc x.e, Enc.enc x.f]
  dec | .agg [u0, u1, u2, u3, u4, u5] => match Enc.dec u0, Enc.dec u1, Enc.dec u2, Enc.dec u3, Enc.dec u4, Enc.dec u5 with
        | some x0, some x1, some x2, some x3, some x4, some x5 => some ⟨x0, x1, x2, x3, x4, x5⟩
        | _, _, _, _, _, _ => none
      | _ => none
  shp := .ag [Enc.shp α0, Enc.shp α1, Enc.shp α2, Enc.shp α3, Enc.shp α4, Enc.shp α5]
  dec_enc x := by simp [Enc.dec_enc]
  enc_dec v x h := by
    split at h
    · split at h
      · rename_i h0 h1 h2 h3 h4 h5
        simp only [Option.some.injEq] at h; subst h
        simp [Enc.enc_dec _ _ h0, Enc.enc_dec _ _ h1, Enc.enc_dec _ _ h2, Enc.enc_dec _ _ h3, Enc.enc_dec _ _ h4, Enc.enc_dec _ _ h5]
      · cases h
    · cases h
  shape_enc x := by simp [V.shape, V.shapes, Enc.shape_enc]
  erase_enc x := by simp [V.erase, V.erases, Enc.erase_enc]
  toks_enc x := by simp [V.toks, V.tokss, Enc.toks_enc]
  map_enc f x := by simp [V.map, V.maps, Enc.map_enc]
  mem_enc _ := rfl
  own0 p x := by simp [V.own, V.owns, Enc.own0]
  low0 x := by simp [V.low, V.lows, Enc.low0]
  ret0 x := by simp [V.ret, V.rets, Enc.ret0]
  tag0 d p x := by simp [V.tag, V.tags, Enc.tag0]
  frz_enc K x := by simp [V.frz, V.frzs, Enc.frz_enc]
  mut_enc t i q u x := by simp [V.mut, V.muts, Enc.mut_enc]


/-- a number of another kind -/
structure Kd (k : IntKind) where
  v : Int

instance {k : IntKind} : Enc (Kd k) where
  enc x := .int k x.v
  dec | .int k' x => if k' = k then some ⟨x⟩ else none
      | _ => none
  shp := .s
  dec_enc _ := by simp
  enc_dec v x h := by
    split at h
    · split at h
      · rename_i e; simp only [Option.some.injEq] at h; subst h; subst e; rfl
      · cases h
    · cases h
  shape_enc _ := rfl
  erase_enc _ := rfl
  toks_enc _ := rfl
  map_enc _ _ := rfl
  mem_enc _ := rfl
  own0 _ _ := rfl
  low0 _ := rfl
  ret0 _ := rfl
  tag0 _ _ _ := rfl
  frz_enc _ _ := rfl
  mut_enc _ _ _ _ _ := rfl

instance {k : IntKind} : Ret (Kd k) := ⟨Enc.enc⟩
end Go.Zq
/- Typed steps: arrays, parts of lists, writes behind a computed index. -/
namespace Go.Zq

section
variable {s : Nat → V}

theorem sizes_takeE {α : Type} [Enc α] : ∀ (xs : List α) (k : Nat), k ≤ xs.length → Sh.sizes (V.shapes ((xs.map Enc.enc).take k)) = k * (Enc.shp α).size
  | xs, 0, _ => by simp [V.shapes, Sh.sizes]
  | [], k + 1, h => by simp at h
  | x :: xs, k + 1, h => by
    simp only [List.map_cons, List.take_succ_cons, V.shapes, Sh.sizes, Enc.shape_enc, sizes_takeE xs k (by simpa using h)]
    rw [Nat.succ_mul, Nat.add_comm]

theorem idx_lt {α : Type} {xs : List α} {i : Int} {a : α} (h : idx xs i = some a) : 0 ≤ i ∧ xs[i.toNat]? = some a ∧ i.toNat < xs.length := by
  unfold idx at h
  split at h
  · rename_i h0
    refine ⟨h0, h, ?_⟩
    obtain ⟨h1, _⟩ := List.getElem?_eq_some_iff.1 h
    exact h1
  · cases h

theorem ev_idxA {α : Type} [Enc α] {x i : O} {t : Tok} {j e len : Nat} {q : List Nat} {vs : List V} {xs : List α} {k : IntKind} {n : Int} {a : α} (hx : x.ev s = .ref t j q (.agg vs)) (hi : i.ev s = .int k n) (ha : idx xs n = some a)
    (hv : vs = xs.map Enc.enc) (hl : xs.length = len) (he : (Enc.shp α).size = e) : evalA s (.idxA x i len e) = some (.ref t j (q ++ [n.toNat]) (Enc.enc a)) := by
  obtain ⟨h0, h1, h2⟩ := idx_lt ha
  subst hv
  simp only [evalA, rd_of hx rfl, rd_of hi rfl, h0, if_true, List.getElem?_map, h1, Option.map_some, List.length_map, hl, beq_self_eq_true, Bool.true_and, sizes_takeE xs n.toNat (Nat.le_of_lt h2), he]

theorem mut_ref_ne {tk : Tok} {i : Nat} {q : List Nat} {u : V} {t' : Tok} {i' : Nat} {q' : List Nat} {c c' : V} (ht : (tk == t') = false) (hs : (t' == .sh) = false) (hc : V.mut tk i q u c = c') : V.mut tk i q u (.ref t' i' q' c) = .ref t' i' q' c' := by
  have h1 : tk ≠ t' := by simpa using ht
  cases t' with
  | sh => simp at hs
  | _ => simp only [V.mut, hc]; rw [if_neg (by rintro ⟨h, _⟩; exact h1 h)]

theorem mut_ix2 {α : Type} [Enc α] {r j : Nat} {i : Int} {xs : List α} {a b c0 c1 : α} (h : idx xs i = some a) (hl : xs.length = 2) :
    V.mut (.bx r) j [i.toNat] (Enc.enc b) (.ref (.bx r) j [] (.agg [Enc.enc c0, Enc.enc c1])) = .ref (.bx r) j [] (.agg [Enc.enc (bif i == 0 then b else c0), Enc.enc (bif i == 1 then b else c1)]) := by
  obtain ⟨h0, h1, h2⟩ := idx_lt h
  have : i = 0 ∨ i = 1 := by omega
  rcases this with rfl | rfl
  · simp [V.mut, V.muts, V.seen, Enc.mut_enc, V.setP, V.setPs]
  · simp [V.mut, V.muts, V.seen, Enc.mut_enc, V.setP, V.setPs]

end
end Go.Zq
/- Results; what functions of typed arguments say of values. -/
namespace Go.Zq

section
variable {s : Nat → V} {P : Program}

theorem res_tmp {t : Nat} {v : V} (h : s t = v) : resR P s (.tmp t) = some v := by simp only [resR, h]
theorem res_cell {a t i : Nat} {tk : Tok} {q : List Nat} {c : V} (h : s a = .ref tk i q c) (hc : (match shT P 6 t with | some h => c.shape.beq h && (aggT P t == some h.isAg && sizeT P t == some h.size) | none => false) = true) :
    resR P s (.cell a t) = some c := by
  simp only [resR, h]
  split at hc
  · rename_i h2; rw [h2]; simp only [hc, if_true]
  · cases hc

theorem rrA {x : ResultVar} {m : Nat} {al : Bool} {v r : V} (h : resR P s x = some v) (hf : fin m al v = some r) : RR P [x] m al r s := by
  simp only [RR, resV, h, Option.bind_some]; exact hf
theorem rrB {x y : ResultVar} {m : Nat} {al : Bool} {u v r : V} (h : resR P s x = some u) (h2 : resR P s y = some v) (hf : fin m al (.tup [u, v]) = some r) : RR P [x, y] m al r s := by
  simp only [RR, resV, h, h2, Option.bind_some]; exact hf
structure Fins (vs rs : List V) : Prop where
  own : ∀ p i, V.owns p 0 i vs = some []
  ret : V.rets 0 vs = rs

end

theorem fins_nil : Fins [] [] := ⟨fun _ _ => rfl, rfl⟩
theorem fins_cons {v r : V} {vs rs : List V} (h : Fin0 v r) (hs : Fins vs rs) : Fins (v :: vs) (r :: rs) := ⟨fun p i => by simp [V.owns, h.own, hs.own], by simp [V.rets, h.ret, hs.ret]⟩
theorem fin_agg {vs rs : List V} (h : Fins vs rs) : Fin0 (.agg vs) (.agg rs) := ⟨fun p => by simp [V.own, h.own], by simp [V.ret, h.ret]⟩
theorem fin_tup {vs rs : List V} (h : Fins vs rs) : Fin0 (.tup vs) (.tup rs) := ⟨fun p => by simp [V.own, h.own], by simp [V.ret, h.ret]⟩

/-- a slice's bounds -/
def optI (s : Nat → V) (d : Nat) (o : Option O) (n : Int) : Prop := match o with
  | none => n = d
  | some x => ∃ k, x.ev s = .int k n
theorem optI_none {s : Nat → V} {d : Nat} : optI s d none d := rfl
theorem optI_some {s : Nat → V} {d : Nat} {x : O} {k : IntKind} {n : Int} (h : x.ev s = .int k n) : optI s d (some x) n := ⟨k, h⟩
theorem optI_nat {s : Nat → V} {d : Nat} {o : Option O} {n : Int} (h : optI s d o n) (h0 : 0 ≤ n) : optNat s d o = some n.toNat := by
  cases o with
  | none => simp only [optI] at h; subst h; simp [optNat]
  | some x => obtain ⟨k, h⟩ := h; simp [optNat, rd_of h rfl, h0]

theorem ev_slice {α : Type} [Enc α] {s : Nat → V} {x : O} {lo hi : Option O} {e : Nat} {xs ys : List α} {a b : Int} (hx : x.ev s = .sl .sh (Enc.shp α) 0 (xs.map Enc.enc)) (hl : optI s 0 lo a) (hh : optI s xs.length hi b) (h : sub xs a b = some ys)
    (he : (Enc.shp α).size = e) : evalA s (.slice x lo hi e) = some (.sl .sh (Enc.shp α) 0 (ys.map Enc.enc)) := by
  unfold sub at h
  split at h
  · rename_i hb
    simp only [Option.some.injEq] at h; subst h
    simp only [evalA, rd_of hx rfl, optI_nat hl hb.1, List.length_map]
    rw [optI_nat hh (by omega)]
    simp only [he]
    rw [if_pos (by simp [Tok.isBx]; omega)]
    simp [List.map_take, List.map_drop]
  · cases h

end Go.Zq
/- A law's arguments, as the pure machine has them. -/
namespace Go.Zq
open Go.RowKit Go.ChangeShapes Go.Deep

def Opens (P : Program) (t : TypeId) (α : Type) [Enc α] (ok : α → Prop) : Prop :=
  P.cellsOf t = (Enc.shp α).size ∧
  ∀ {H : Type} (en : TypeId × Value → H) (W : World) (fuel : Nat) (cs : List Value) (x : DataW H × List MemPlace), DataW.trod en P W 0 (fun _ => true) true fuel t cs = some x →
    ∃ a : α, ok a ∧ ∀ (S : Nat → Prop) (τ : Tok → Blk), (∀ b, b < W.heap.size → S b) → relC W S τ (Enc.enc a) cs

variable {P : Program} {t : TypeId}

def okI (n : Int) : Prop := (Lit.int .i64 n).wf = true

theorem opens_int (ht : P.underlying t = some (.int .i64)) (hc : P.cellsOf t = 1) : Opens P t Int okI := by
  refine ⟨hc, ?_⟩
  intro H en W fuel cs x h
  cases fuel with
  | zero => simp [DataW.trod] at h
  | succ m =>
    unfold DataW.trod at h
    rw [ht] at h
    split at h <;> first | (exfalso; simp_all; done) | skip
    rename_i k k' n e
    simp only [Option.some.injEq, TypeDesc.int.injEq] at e
    subst e
    split at h
    · rename_i hh
      obtain ⟨rfl, hw⟩ := hh
      exact ⟨n, hw, fun S τ _ => by simp [Enc.enc, relC]⟩
    · cases h

theorem opens_pair {α β : Type} [Enc α] [Enc β] {oa : α → Prop} {ob : β → Prop} {f0 f1 : Field} (ht : P.underlying t = some (.struct #[f0, f1])) (h0 : Opens P f0.type α oa) (h1 : Opens P f1.type β ob)
    (hc : P.cellsOf t = P.cellsOf f0.type + P.cellsOf f1.type) (e0 : f0.offset = 0) (e1 : f1.offset = P.cellsOf f0.type) : Opens P t (α × β) (fun x => oa x.1 ∧ ob x.2) := by
  refine ⟨by rw [hc, h0.1, h1.1]; simp [Enc.shp, Sh.size, Sh.sizes], ?_⟩
  intro H en W fuel cs x h
  obtain ⟨y0, y1, n, _, hl, t0, t1⟩ := trod_struct2 ht h
  obtain ⟨a, ha, ra⟩ := h0.2 en W n _ _ t0
  obtain ⟨b, hb, rb⟩ := h1.2 en W n _ _ t1
  refine ⟨(a, b), ⟨ha, hb⟩, fun S τ hS => ?_⟩
  have r0 := ra S τ hS
  have r1 := rb S τ hS
  rw [e0, h0.1] at r0
  rw [e1, h0.1, h1.1] at r1
  simp only [Enc.enc, relC, relCs, Enc.shape_enc]
  refine ⟨by simpa using r0, ?_, ?_⟩
  · exact r1
  · rw [List.drop_drop]; apply List.drop_eq_nil_of_le; rw [hl, hc, h0.1, h1.1]; omega

theorem opens_arr2 {α : Type} [Enc α] {oa : α → Prop} {e : TypeId} (ht : P.underlying t = some (.array 2 e)) (h0 : Opens P e α oa) (hc : P.cellsOf t = 2 * P.cellsOf e) : Opens P t (α × α) (fun x => oa x.1 ∧ oa x.2) := by
  refine ⟨by rw [hc, h0.1]; simp [Enc.shp, Sh.size, Sh.sizes]; omega, ?_⟩
  intro H en W fuel cs x h
  obtain ⟨xs, n, _, _, hl, hlen, hf⟩ := DataW.trod_array ht h
  match xs, hlen with
  | [y0, y1], _ =>
    have t0 := hf 0 (by omega)
    have t1 := hf 1 (by omega)
    simp only [List.getElem?_cons_zero] at t0
    simp only [List.getElem?_cons_succ, List.getElem?_cons_zero] at t1
    obtain ⟨a, ha, ra⟩ := h0.2 en W n _ _ t0
    obtain ⟨b, hb, rb⟩ := h0.2 en W n _ _ t1
    refine ⟨(a, b), ⟨ha, hb⟩, fun S τ hS => ?_⟩
    have r0 := ra S τ hS
    have r1 := rb S τ hS
    rw [h0.1] at r0 r1
    simp only [Enc.enc, relC, relCs, Enc.shape_enc]
    refine ⟨by simpa using r0, by simpa using r1, ?_⟩
    rw [List.drop_drop]; apply List.drop_eq_nil_of_le; rw [hl, hc, h0.1]; omega

theorem relCs_chunks {α : Type} [Enc α] {w : World} {S : Nat → Prop} {τ : Tok → Blk} : ∀ (xs : List α) (L : List Value), L.length = xs.length * (Enc.shp α).size →
    (∀ i a, xs[i]? = some a → relC w S τ (Enc.enc a) ((L.drop (i * (Enc.shp α).size)).take (Enc.shp α).size)) → relCs w S τ (xs.map Enc.enc) L
  | [], L, hl, _ => by simp only [List.map_nil, relCs]; simpa using hl
  | x :: xs, L, hl, h => by
    simp only [List.map_cons, relCs, Enc.shape_enc]
    refine ⟨by simpa using h 0 x rfl, relCs_chunks xs _ ?_ ?_⟩
    · rw [List.length_drop, hl, List.length_cons, Nat.succ_mul]; omega
    · intro i a ha
      have := h (i + 1) a (by simpa using ha)
      rw [List.drop_drop]
      rwa [show (Enc.shp α).size + i * (Enc.shp α).size = (i + 1) * (Enc.shp α).size by rw [Nat.succ_mul]; omega]

theorem opens_list {α : Type} [Enc α] {oa : α → Prop} {e : TypeId} (ht : P.underlying t = some (.slice e)) (h0 : Opens P e α oa) (hc : P.cellsOf t = 1) (hp : 0 < (Enc.shp α).size) :
    Opens P t (List α) (fun xs => xs.length ≤ maxLen ∧ ∀ x ∈ xs, oa x) := by
  refine ⟨hc, ?_⟩
  intro H en W fuel cs x h
  rcases open_slice ht h with ⟨rfl, _⟩ | ⟨a, len, cap, m, n, D, Pl, rfl, _, hl, hm, hmm, _, hx⟩
  · exact ⟨[], ⟨Nat.zero_le _, by simp⟩, fun S τ _ => by simp only [Enc.enc, relC, List.map_nil]; exact ⟨_, 0, rfl, Nat.zero_le _, by simp, fun _ => rfl, .inl rfl⟩⟩
  · simp only [if_true] at hmm
    subst hmm
    rw [h0.1] at hx
    have hx2 : ∀ i, i < m → ∃ cs', W.cells? 0 (a.add (i * (Enc.shp α).size)) (Enc.shp α).size = some cs' ∧ ∃ y : α, oa y ∧ ∀ (S : Nat → Prop) (τ : Tok → Blk), (∀ b, b < W.heap.size → S b) → relC W S τ (Enc.enc y) cs' := by
      intro i hi
      obtain ⟨cs', h1, h2⟩ := hx i hi
      exact ⟨cs', h1, h0.2 en W n _ _ h2⟩
    by_cases hcap : m = 0
    · subst hcap
      obtain rfl : len = 0 := by omega
      exact ⟨[], ⟨Nat.zero_le _, by simp⟩, fun S τ _ => by simp only [Enc.enc, relC, List.map_nil]; exact ⟨_, 0, rfl, Nat.zero_le _, by simp, fun _ => rfl, .inl rfl⟩⟩
    obtain ⟨cs0, hc0, _⟩ := hx2 0 (by omega)
    simp only [Nat.zero_mul] at hc0
    obtain ⟨_, hl0, hg0⟩ := World.cells?_some hc0
    have hz := hg0 0 hp
    have hz1 : cs0[0]? = some (cs0[0]'(by omega)) := List.getElem?_eq_getElem (by omega)
    rw [hz1] at hz
    have ha0 : (a.add 0).add 0 = a := by simp [Addr.add]
    rw [ha0] at hz
    unfold World.cell? at hz
    split at hz
    · rename_i arr ty fz hheap
      split at hz
      · cases hz
      · rename_i hspot
        have hsp : a.spot = none := by cases h : a.spot <;> simp_all
        have hadd : ∀ k, a.add k = ⟨a.block, a.off + k, none⟩ := by
          intro k; unfold Addr.add; split
          · rename_i hk; subst hk; cases a; simp_all
          · rfl
        have hcell : ∀ k, W.cell? (a.add k) = arr[a.off + k]? := by
          intro k; rw [hadd]; simp [World.cell?, hheap]
        have hget : ∀ i, i < m → ∀ cs', W.cells? 0 (a.add (i * (Enc.shp α).size)) (Enc.shp α).size = some cs' → cs'.length = (Enc.shp α).size ∧ ∀ j, j < (Enc.shp α).size → arr[a.off + (i * (Enc.shp α).size + j)]? = cs'[j]? := by
          intro i hi cs' hcs
          obtain ⟨_, h1, h2⟩ := World.cells?_some hcs
          refine ⟨h1, fun j hj => ?_⟩
          rw [← h2 j hj, add_add, hcell]
        have hsize : a.off + m * (Enc.shp α).size ≤ arr.size := by
          obtain ⟨cs', h1, _⟩ := hx2 (m - 1) (by omega)
          obtain ⟨h2, h3⟩ := hget (m - 1) (by omega) cs' h1
          have h4 := h3 ((Enc.shp α).size - 1) (by omega)
          rw [List.getElem?_eq_getElem (by omega)] at h4
          obtain ⟨h5, _⟩ := Array.getElem?_eq_some_iff.1 h4
          have : m * (Enc.shp α).size = (m - 1) * (Enc.shp α).size + (Enc.shp α).size := by
            rw [← Nat.succ_mul]; congr 1; omega
          omega
        have hch : ∀ i, i < m → ∃ y : α, oa y ∧ ∀ (S : Nat → Prop) (τ : Tok → Blk), (∀ b, b < W.heap.size → S b) → relC W S τ (Enc.enc y) ((arr.toList.drop (a.off + i * (Enc.shp α).size)).take (Enc.shp α).size) := by
          intro i hi
          obtain ⟨cs', h1, y, h2, h3⟩ := hx2 i hi
          obtain ⟨h4, h5⟩ := hget i hi cs' h1
          have : ((arr.toList.drop (a.off + i * (Enc.shp α).size)).take (Enc.shp α).size) = cs' := by
            apply List.ext_getElem?
            intro j
            by_cases hj : j < (Enc.shp α).size
            · rw [List.getElem?_take_of_lt hj, List.getElem?_drop, ← h5 j hj]; simp [Nat.add_assoc]
            · rw [List.getElem?_eq_none (by simp; omega), List.getElem?_eq_none (by omega)]
          exact ⟨y, h2, by rw [this]; exact h3⟩
        have hb : a.block < W.heap.size := by
          obtain ⟨h5, _⟩ := Array.getElem?_eq_some_iff.1 hheap; exact h5
        have hall : ∀ k, k ≤ m → ∃ ys : List α, ys.length = k ∧ (∀ y ∈ ys, oa y) ∧ ∀ (S : Nat → Prop) (τ : Tok → Blk), (∀ b, b < W.heap.size → S b) → ∀ i y, ys[i]? = some y → relC W S τ (Enc.enc y) ((arr.toList.drop (a.off + i * (Enc.shp α).size)).take (Enc.shp α).size) := by
          intro k
          induction k with
          | zero => intro _; exact ⟨[], rfl, by simp, by simp⟩
          | succ k ih =>
            intro hk
            obtain ⟨ys, h1, h2, h3⟩ := ih (by omega)
            obtain ⟨y, h4, h5⟩ := hch k (by omega)
            refine ⟨ys ++ [y], by simp [h1], ?_, ?_⟩
            · intro z hz; rcases List.mem_append.1 hz with hz | hz
              · exact h2 z hz
              · simp at hz; subst hz; exact h4
            · intro S τ hS i z hz
              by_cases hi : i < k
              · rw [List.getElem?_append_left (by omega)] at hz; exact h3 S τ hS i z hz
              · rw [List.getElem?_append_right (by omega)] at hz
                have : i = k := by
                  have := (List.getElem?_eq_some_iff.1 hz).1; simp at this; omega
                subst this
                simp [h1] at hz; subst hz; exact h5 S τ hS
        obtain ⟨ys, h1, h2, h3⟩ := hall len hl
        refine ⟨ys, ⟨by omega, h2⟩, fun S τ hS => ?_⟩
        have hh := h3 S τ hS
        simp only [Enc.enc, relC, List.length_map, h1]
        refine ⟨some a, m, rfl, hl, ?_, fun _ => toks_encs _, .inr ⟨a.block, a.off, arr, ty, fz, ?_, hheap, hS _ hb, hsize, ?_⟩⟩
        · intro v hv; obtain ⟨y, _, rfl⟩ := List.mem_map.1 hv; exact Enc.shape_enc y
        · cases a; simp_all
        · have hmul : len * (Enc.shp α).size ≤ m * (Enc.shp α).size := Nat.mul_le_mul_right _ hl
          refine relCs_chunks ys _ ?_ ?_
          · simp [h1]; omega
          · intro i y hy
            have hi : i < len := by have := (List.getElem?_eq_some_iff.1 hy).1; omega
            have h7 := hh i y hy
            have hmi : (i + 1) * (Enc.shp α).size ≤ len * (Enc.shp α).size := Nat.mul_le_mul_right _ hi
            rw [Nat.succ_mul] at hmi
            rw [List.drop_take, List.take_take, List.drop_drop, Nat.min_eq_left (by omega)]
            exact h7
    · cases hz
end Go.Zq
/- From a function's contract to the law's statement. -/
namespace Go.Zq
open Go.RowKit Go.ChangeShapes Go.WideShapes Go.ChangeAt Go.Deep

section
variable {H : Type} {en : TypeId × Value → H} {P : Program} {W W' : World}

theorem trodAll_stays (hl : laidOutB P = true) (hb : Below W.heap.size W W') : ∀ (ts : List TypeId) (vs : List Value) (ds : List (DataW H)) (p : List MemPlace), (∀ t ∈ ts, P.readableRec t = true ∧ t < P.types.size) →
    DataW.TrodAll en P W 0 (fun _ => true) true ts vs ds p → DataW.TrodAll en P W' 0 (fun b => decide (b < W.heap.size)) true ts vs ds p
  | [], [], [], p, _, h => h
  | t :: ts, v :: vs, d :: ds, p, hts, h => by
    obtain ⟨p1, q, h1, h2, rfl⟩ := h
    have ht := hts t (by simp)
    refine ⟨p1, q, Below.trod hl ht.1 ht.2 h1 hb ?_, trodAll_stays hl hb ts vs ds q (fun t ht => hts t (by simp [ht])) h2, rfl⟩
    obtain ⟨m, hm⟩ := h1
    exact DataW.trod_lt m _ _ _ hm
  | [], _ :: _, _, _, _, h => h.elim
  | [], [], _ :: _, _, _, h => h.elim
  | _ :: _, [], _, _, _, h => h.elim
  | _ :: _, _ :: _, [], _, _, h => h.elim

theorem trodAll_len : ∀ (ts : List TypeId) (vs : List Value) (ds : List (DataW H)) (p : List MemPlace) (base : Nat) (sp : Nat → Bool) (hd : Bool), DataW.TrodAll en P W base sp hd ts vs ds p → ds.length = ts.length
  | [], [], [], p, _, _, _, h => rfl
  | t :: ts, v :: vs, d :: ds, p, _, _, _, h => by
    obtain ⟨p1, q, h1, h2, rfl⟩ := h
    simp [trodAll_len ts vs ds q _ _ _ h2]
  | [], _ :: _, _, _, _, _, _, h => h.elim
  | [], [], _ :: _, _, _, _, _, h => h.elim
  | _ :: _, [], _, _, _, _, _, h => h.elim
  | _ :: _, _ :: _, [], _, _, _, _, h => h.elim

/-- the arguments, one by one -/
def ArgsAre (P : Program) (W : World) (us : List V) (vs : List Value) : Prop := V.tokss us = [] ∧ ∀ (S : Nat → Prop) (τ : Tok → Blk), (∀ b, b < W.heap.size → S b) → relVs W S τ us vs

theorem args_nil : ArgsAre P W [] [] := ⟨rfl, fun _ _ _ => by simp [relVs]⟩
theorem args_cons {α : Type} [Enc α] {a : α} {v : Value} {us : List V} {vs : List Value} (h : ∀ (S : Nat → Prop) (τ : Tok → Blk), (∀ b, b < W.heap.size → S b) → relV W S τ (Enc.enc a) v) (hs : ArgsAre P W us vs) : ArgsAre P W (Enc.enc a :: us) (v :: vs) :=
  ⟨by simp [V.tokss, Enc.toks_enc, hs.1], fun S τ hS => by simp only [relVs]; exact ⟨v, vs, rfl, h S τ hS, hs.2 S τ hS⟩⟩

def isMany : Option TypeDesc → Bool
  | some (.struct _) | some (.array _ _) => true
  | _ => false

theorem arg_many {α : Type} [Enc α] {ok : α → Prop} {t : TypeId} {v : Value} {d : DataW H} {p : List MemPlace} {base : Nat} (ho : Opens P t α ok) (hn : ∀ a : α, (Enc.enc a).isAgg = true) (hu : isMany (P.underlying t) = true)
    (hv : Value.okWide P W .any base t v) (hd : DataW.Trod en P W 0 (fun _ => true) true t v d p) : ∃ a : α, ok a ∧ ∀ (S : Nat → Prop) (τ : Tok → Blk), (∀ b, b < W.heap.size → S b) → relV W S τ (Enc.enc a) v := by
  obtain ⟨m, hm⟩ := hd
  obtain ⟨a, ha, hr⟩ := ho.2 en W m _ _ hm
  refine ⟨a, ha, fun S τ hS => ?_⟩
  have h1 := hr S τ hS
  have hc : ∃ cs, v = .agg cs := by
    unfold isMany at hu
    split at hu
    · rename_i e he; simp only [Value.okWide, he] at hv; obtain ⟨cs, h, _⟩ := hv; exact ⟨cs, h⟩
    · rename_i e n he; simp only [Value.okWide, he] at hv; obtain ⟨cs, h, _⟩ := hv; exact ⟨cs, h⟩
    · cases hu
  obtain ⟨cs, rfl⟩ := hc
  have h2 := hn a
  generalize Enc.enc a = u at h1 h2
  cases u <;> first | (simp [V.isAgg] at h2; done) | skip
  simp only [relV]
  simp only [relC, Value.cells] at h1
  exact ⟨cs, rfl, h1⟩

theorem law_over {C : Checked} {os : Os} {s : ChangeSpec} {f : FuncId} {fn : Func} {conds : List PathCond} {tb : TypeId} (own : ownKnob C.prog.godebug = none) (started : os.Started) (noInit : C.prog.inits.idxOf? f = none) (hfn : C.prog.funcs[f]? = some fn)
    (witness : ∃ (w : World) (tape : Tape) (i : Input), w.os = os ∧ (w.forCall tape i).Shaped C.prog ∧ i.vars = [] ∧ Input.okWide C.prog (w.forCall tape i) .any w.heap.size f i ∧
      s.pre6 en C.prog fn conds false (w.forCall tape i).memory i.args ∧ ({} : Assume).holds C.prog (lone (Frame.enter C.prog f i.args .normal) [] (w.forCall tape i)))
    (hvars : s.vars = []) (hspec : ∀ ds : List (DataW H), ds.length = fn.params.size → (s.fn H ds).results = [.lit (.bool true)] ∧ (s.fn H ds).args = ds ∧ (s.fn H ds).vars = [])
    (hres : fn.resultTypes = #[tb]) (hb : C.prog.underlying tb = some .bool) (hl : laidOutB C.prog = true) (hts : fn.params.toList.all (fun t => C.prog.readableRec t && decide (t < C.prog.types.size)) = true)
    (hrun : ∀ (W : World) (args : Array Value) (ds : List (DataW H)) (p : List MemPlace) (base : Nat), (∀ (j : Nat) t v, fn.params[j]? = some t → args[j]? = some v → Value.okWide C.prog W .any base t v) →
      DataW.TrodAll en C.prog W 0 (fun _ => true) true fn.params.toList args.toList ds p → ∃ us, ArgsAre C.prog W us args.toList ∧ Contract C.prog f 0 false us (.bool true)) :
    ReturnsInHanded {} C os f .any (s.pre6 en C.prog fn conds false) (s.post en C.prog fn false true false false) := by
  refine returnsInHanded_of_change_sized (C := C) own started noInit hfn witness ?_
  intro W base args ds gs before hval hW hcnd hsz _
  have hW' := hW
  obtain ⟨p, q, hA, hV, rfl, hfz, hnd⟩ := hW
  rw [hvars] at hV
  obtain ⟨rfl, rfl⟩ := trodVars_none hV
  obtain ⟨us, hus, hcon⟩ := hrun W args ds p base hval hA
  refine (hcon 0 W (fun b => b < W.heap.size) (fun _ => ⟨0, 0, .s⟩) args (fun b hb => hb) (hus.2 _ _ fun b hb => hb) hus.1).mono fun e W' he => ?_
  obtain ⟨v, τ', rfl, bel, _, _, hrel⟩ := he
  simp only [V.tag, relV] at hrel
  subst hrel
  have hs := hspec ds (by have := trodAll_len _ _ _ _ _ _ _ hA; simpa using this)
  have hds : ds ++ [] = ds := List.append_nil ds
  refine ⟨.bool true, rfl, ds, [], _, [], p, [], hW', ?_, ?_, ?_, bel.frame _, fun h => by cases h⟩
  · rw [hds, hs.1, hres]
    exact ⟨[], [], ⟨1, by simp [DataW.trod, hb, Value.cells]⟩, rfl, rfl⟩
  · rw [hds, hs.2.1]
    refine trodAll_stays hl bel _ _ _ _ ?_ hA
    intro t ht
    have := List.all_eq_true.1 hts t ht
    simpa using this
  · rw [hds, hs.2.2, hvars]; rfl

end
end Go.Zq
/- Typed steps: owners are frozen. -/
namespace Go.Zq

section
variable {K : List Tok}

theorem toks_ownL {α : Type} [Enc α] {r : Nat} {p : List Nat} {xs : List α} : (encO (.at r p) (.of xs)).toks = [.at r p] := by
  simp only [encO, V.toks, toks_encs]
  split <;> rfl

theorem frz_own {α : Type} [Enc α] {r : Nat} {p : List Nat} {xs : List α} : V.frz [.at r p] (encO (.at r p) (.of xs)) = Enc.enc xs := by
  simp [encO, V.frz, toks_encs, erases_encs, Enc.enc]

theorem frzs_encs {α : Type} [Enc α] : ∀ xs : List α, V.frzs K (xs.map Enc.enc) = xs.map Enc.enc
  | [] => rfl
  | x :: xs => by simp [V.frzs, Enc.frz_enc, frzs_encs xs]

theorem frz_own_ne {α : Type} [Enc α] {t : Tok} {o : NL α} (hn : K.contains t = false) (hl : K.contains .nl = false) : V.frz K (encO t o) = encO t o := by
  cases o with
  | nil => simp only [encO, V.frz, hl, V.frzs]; simp
  | of xs => cases t <;> simp only [encO, V.frz, hn, frzs_encs] <;> simp

theorem frz_agg {vs us : List V} (h : V.frzs K vs = us) : V.frz K (.agg vs) = .agg us := by simp only [V.frz, h]
theorem frzs_cons {v u : V} {vs us : List V} (h : V.frz K v = u) (hs : V.frzs K vs = us) : V.frzs K (v :: vs) = u :: us := by simp only [V.frzs, h, hs]
theorem frz_ref_ne {t : Tok} {i : Nat} {q : List Nat} {c u : V} (hn : K.contains t = false) (h : V.frz K c = u) (hs : (t == .sh) = false) : V.frz K (.ref t i q c) = .ref t i q u := by
  cases t with
  | sh => simp at hs
  | _ => simp only [V.frz, hn, h]; simp
end
end Go.Zq
/- Typed steps: chains of appends within one region. -/
namespace Go.Zq

mutual
theorem frz_none : ∀ v : V, V.frz [] v = v
  | .dead | .gone | .int .. | .bool _ => rfl
  | .sl t h lo xs => by
    have := frzs_none xs
    cases t <;> simp [V.frz, this]
  | .ref t i q c => by
    have := frz_none c
    cases t <;> simp [V.frz, this]
  | .agg vs => by simp [V.frz, frzs_none vs]
  | .tup vs => by simp [V.frz, frzs_none vs]
  | .fn g fs env => by simp [V.frz, frzs_none fs, frzs_none env]
  | .lin v => by simp [V.frz, frz_none v]
theorem frzs_none : ∀ vs : List V, V.frzs [] vs = vs
  | [] => rfl
  | v :: vs => by simp [V.frzs, frz_none v, frzs_none vs]
end

section
variable {D : Den} {σ : Sig} {s : Nat → V} {K : (Nat → V) → Prop} {is : List I}

theorem g_litLl {d : Nat} {z : V} {len : Nat} {ps : List (Nat × Nat × O)} (L : List (Nat × V)) (vs : List V) (hs : Facts L s) (h : bldParts (look L) ps (List.replicate len z) = some vs)
    (hr : ((ps.flatMap fun p => p.2.2.rds).all fun k => L.any fun x => x.1 == k) = true) (hg : s d = .gone)
    (H : goK D σ is (upd s d (.lin (.sl (.at d []) z.shape 0 vs))) K) : goK D σ (⟨some d, none, true, .lit z len ps⟩ :: is) s K := by
  have h1 : bldParts s ps (List.replicate len z) = some vs := by
    rw [bldParts_congr (s2 := look L) fun k hk => look_of L s hs k (List.all_eq_true.1 hr k hk)]; exact h
  simp only [goK, xK, stepX, h1, hg]
  simp only [if_true]
  exact H

theorem g_appS {α : Type} [Enc α] {d r : Nat} {p : List Nat} {l : Bool} {g : Sh} {xs ys zs : List α} {y : O} {t2 : Tok} {lo2 : Nat} (hx : s r = .lin (encO (.at r p) (.of xs))) (hy : y.ev s = .sl t2 (Enc.shp α) lo2 (ys.map Enc.enc))
    (hgg : g = Enc.shp α) (hg : s d = .gone) (hd : (d == r) = false) (ha : appL xs ys = some zs)
    (H : goK D σ is (upd (upd s r .dead) d (if l then .lin (encO (.at d []) (.of zs)) else encO (.at d []) (.of zs))) K) : goK D σ (⟨some d, none, l, .appS g (.t r) y⟩ :: is) s K := by
  subst hgg
  unfold appL at ha
  split at ha
  · rename_i hlen
    simp only [Option.some.injEq] at ha; subst ha
    have hsp : spentS s (.t r) = some (upd s r .dead, .sl (.at r p) (Enc.shp α) 0 (xs.map Enc.enc)) := by
      simp only [spentS]; rw [hx]; simp only [encO, toks_encs, List.isEmpty_nil, Bool.and_true, decide_true, if_true]
    have hgd : upd s r .dead d = .gone := by
      rw [upd_ne _ _ (by simpa using hd)]; exact hg
    simp only [goK, xK, stepX, hsp, rd_of hy rfl, hgd, Sh.beq_refl, toks_encs, List.isEmpty_nil, Bool.or_true, Bool.true_and]
    rw [if_pos (by simpa using hlen)]
    have e : appV d (.at r p) (Enc.shp α) (xs.map Enc.enc) (ys.map Enc.enc) = encO (.at d []) (.of (xs ++ ys)) := by
      simp [appV, encO]
    rw [e]
    cases l with
    | true => simpa using H
    | false => simpa using H
  · cases ha

theorem ok_encO {α : Type} [Enc α] {t : Tok} {o : NL α} : (encO t o).ok = true := by cases o <;> rfl
theorem ev_mov {x : O} {v : V} (h : x.ev s = v) (hk : v.ok = true) : evalA s (.mov x) = some v := by simp only [evalA, rd_of h hk]
theorem beq_encO {α : Type} [Enc α] {t : Tok} {o : NL α} : (encO t o).shape.beq .p = true := by cases o <;> rfl
theorem ev_loadN {x : O} {t : Tok} {i : Nat} {q : List Nat} {c : V} {g : Sh} (h : x.ev s = .ref t i q c) (hc : c.shape.beq g = true) : evalA s (.load g x) = some c := by simp only [evalA, rd_of h rfl, hc, if_true]
end
end Go.Zq
/- Arguments of functions: captured variables and functions as values; tables by the form of arguments. -/
namespace Go.Zq

/-- what has a form as an argument -/
class Arg (α : Type) where
  arg : α → V
  un : V → Option α
  un_arg : ∀ x, un (arg x) = some x
  arg_un : ∀ v x, un v = some x → arg x = v

instance {α : Type} [Enc α] : Arg α := ⟨Enc.enc, Enc.dec, Enc.dec_enc, Enc.enc_dec⟩

/-- a captured variable -/
structure Rf (α : Type) where
  v : α

instance {α : Type} [Arg α] : Arg (Rf α) where
  arg x := .ref .sh 0 [] (Arg.arg x.v)
  un
    | .ref .sh 0 [] u => (Arg.un u).map Rf.mk
    | _ => none
  un_arg x := by simp [Arg.un_arg]
  arg_un v x h := by
    split at h
    · simp only [Option.map_eq_some_iff] at h
      obtain ⟨y, h1, rfl⟩ := h
      simp [Arg.arg_un _ _ h1]
    · cases h

/-- arguments, one after the other -/
class Args (α : Type) where
  args : α → List V
  uns : List V → Option α
  uns_args : ∀ x, uns (args x) = some x
  args_uns : ∀ v x, uns v = some x → args x = v

instance : Args Unit where
  args _ := []
  uns
    | [] => some ()
    | _ => none
  uns_args _ := rfl
  args_uns v x h := by cases v <;> simp_all

instance {α β : Type} [Arg α] [Args β] : Args (α × β) where
  args x := Arg.arg x.1 :: Args.args x.2
  uns
    | v :: vs => (Arg.un v).bind fun x => (Args.uns vs).map fun y => (x, y)
    | [] => none
  uns_args x := by simp [Arg.un_arg, Args.uns_args]
  args_uns v x h := by
    split at h
    · simp only [Option.bind_eq_some_iff, Option.map_eq_some_iff] at h
      obtain ⟨y, h1, z, h2, rfl⟩ := h
      simp [Arg.arg_un _ _ h1, Args.args_uns _ _ h2]
    · cases h

/-- a function as a value: what it was bound to, what it has captured -/
structure Cl (g : Nat) (α β : Type) where
  fs : α
  env : β

instance {g : Nat} {α β : Type} [Args α] [Args β] : Arg (Cl g α β) where
  arg x := .fn g (Args.args x.fs) (Args.args x.env)
  un
    | .fn g' us vs => if g' = g then (Args.uns us).bind fun x => (Args.uns vs).map fun y => ⟨x, y⟩ else none
    | _ => none
  un_arg x := by simp [Args.uns_args]
  arg_un v x h := by
    split at h
    · split at h
      · rename_i e
        simp only [Option.bind_eq_some_iff, Option.map_eq_some_iff] at h
        obtain ⟨y, h1, z, h2, rfl⟩ := h
        simp [Args.args_uns _ _ h1, Args.args_uns _ _ h2, e]
      · cases h
    · cases h

/-- an entry's meaning -/
def da {α γ : Type} [Args α] (f : α → Option γ) (t : γ → V) (args : List V) : Option V := (Args.uns args).bind fun x => (f x).map t
theorem da_put {α γ : Type} [Args α] {f : α → Option γ} {t : γ → V} (x : α) {r : γ} (h : f x = some r) : da f t (Args.args x) = some (t r) := by simp [da, Args.uns_args, h]
theorem da_open {α γ : Type} [Args α] {f : α → Option γ} {t : γ → V} {args : List V} {r : V} (h : da f t args = some r) : ∃ x y, args = Args.args x ∧ f x = some y ∧ r = t y := by
  simp only [da, Option.bind_eq_some_iff, Option.map_eq_some_iff] at h
  obtain ⟨x, h1, y, h2, rfl⟩ := h
  exact ⟨x, y, (Args.args_uns _ _ h1).symm, h2, rfl⟩

def selF : List (Nat × Nat) → List V → Bool
  | [], _ => true
  | (i, g) :: L, args => (match args[i]? with
    | some (.fn g' _ _) => g' == g
    | _ => false) && selF L args

section
variable {D : Den} {σ : Sig} {s : Nat → V} {K : (Nat → V) → Prop} {is : List I}

theorem erase_agg {vs us : List V} (h : V.erases vs = us) : (V.agg vs).erase = .agg us := by simp only [V.erase, h]
theorem erases_nil : V.erases [] = [] := rfl
theorem erases_cons {v u : V} {vs us : List V} (h : v.erase = u) (hs : V.erases vs = us) : V.erases (v :: vs) = u :: us := by simp only [V.erases, h, hs]
theorem fin_retF {v r : V} (h : Fin0 v r) (hm : v.mine = true) : fin 0 false v = some r := by
  simp only [fin, h.own, List.map_nil, List.all_nil, hm, Bool.or_true, Bool.and_true, h.ret]
  simp
theorem mine_own {α : Type} [Enc α] {r : Nat} {p : List Nat} {o : NL α} (hf : (Enc.shp α).flat = true) : (encO (.at r p) o).mine = true := by
  cases o <;> simp [encO, V.mine, hf]
theorem mine_nil {h : Sh} : (V.sl .nl h 0 []).mine = true := by simp [V.mine, V.mines]
theorem mine_agg {vs : List V} (h : V.mines vs = true) : (V.agg vs).mine = true := by simp only [V.mine, h]
theorem mine_tup {vs : List V} (h : V.mines vs = true) : (V.tup vs).mine = true := by simp only [V.mine, h]
theorem mines_nil : V.mines [] = true := rfl
theorem mines_cons {v : V} {vs : List V} (h : v.mine = true) (hs : V.mines vs = true) : V.mines (v :: vs) = true := by simp only [V.mines, h, hs, Bool.and_self]
end
end Go.Zq
/- Arguments that are structs of three parts. -/
namespace Go.Zq
open Go.RowKit Go.ChangeShapes Go.Deep

end Go.Zq
/- Functions that write to what their first argument owns; results that are the caller's own. -/
namespace Go.Zq

section
variable {P : Program} {w : World} {S : Nat → Prop} {τ : Tok → Blk}

theorem contract_plain {f m : Nat} {al : Bool} {args : List V} {r : V} (h : Contract' P (unk f) m al args r) (hm : Nat.ble pinR m = false) (hg : Nat.ble modeO f = false) : Contract P f m al args r := by
  unfold Contract' at h
  rw [if_neg (by rintro rfl; exact absurd hm (by decide)), if_neg (by rintro rfl; exact absurd hm (by decide)), if_neg (by rintro rfl; exact absurd hm (by decide))] at h
  simpa [unk, hg] using h

theorem ok_of {e : Ent} {f : Nat} (hu : unk e.g = f) (con : ∀ args r, e.den args = some r → Contract' P f e.m e.al args r) (fn : ∃ fn, P.funcs[f]? = some fn ∧ fn.body.isNone = false ∧ (fn.name == "runtime.NumGoroutine") = false) : e.Ok P := by
  subst hu
  exact ⟨con, fn⟩

/-- where a function begins that may write to what its arguments own -/
def oriM (w : World) (τ : Tok → Blk) (ks : List Tok) : Ori := ⟨w, fun b => w.heap.size ≤ b ∨ ∃ k ∈ ks, (τ k).b = b, τ, fun _ h => .inl h⟩

theorem getD_toks : ∀ (us : List V) (t : Nat) (k : Tok), k ∈ (us.getD t .dead).toks → k ∈ V.tokss us
  | [], t, k, h => by simp [V.toks] at h
  | u :: us, t, k, h => by
    simp only [V.tokss, List.mem_append]
    cases t with
    | zero => exact .inl (by simpa using h)
    | succ t => exact .inr (getD_toks us t k (by simpa using h))

theorem getD_ok : ∀ (us : List V) (t : Nat), us.all V.ok = true → (us.getD t .dead).ok = true
  | [], t, h => rfl
  | u :: us, t, h => by
    simp only [List.all_cons, Bool.and_eq_true] at h
    cases t with
    | zero => simpa using h.1
    | succ t => simpa using getD_ok us t h.2

theorem inv_initM {args : List V} {vals : Array Value} {nt : Nat} (hS : ∀ b, S b → b < w.heap.size) (hr : relVs w S τ args vals.toList) (hk : ∀ k ∈ V.tokss args, k.pinned = true ∧ (τ k).b < w.heap.size ∧ ¬ S (τ k).b)
    (hinj : ∀ k ∈ V.tokss args, ∀ k' ∈ V.tokss args, (τ k).b = (τ k').b → k = k') (hok : args.all V.ok = true) (hn : args.length ≤ nt) (hnt : nt ≤ pinR) :
    Inv (oriM w τ (V.tokss args)) S nt (init args) { tmps := vals ++ Array.replicate (nt - vals.size) undef, defers := [] } w S τ where
  told t := by
    have hl := relVs_len _ _ hr
    simp only [Array.length_toList] at hl
    have := relVs_getD args vals.toList t hr
    by_cases ht : t < vals.size
    · simp only [init, Act.eval, Array.getD_eq_getD_getElem?, Array.getElem?_append_left ht]
      simpa [List.getD_eq_getElem?_getD] using this
    · have : init args t = .dead := by
        simp only [init]
        rw [List.getD_eq_getElem?_getD, List.getElem?_eq_none (by omega)]; rfl
      rw [this]; simp [relV]
  size := by
    have hl := relVs_len _ _ hr
    simp at hl ⊢; omega
  defers := rfl
  own t k h := by
    have h1 := getD_toks args t k h
    have h2 := hk k h1
    exact ⟨.inr ⟨k, h1, rfl⟩, h2.2.1, h2.2.2⟩
  inj t t' k k' h h' e := hinj k (getD_toks args t k h) k' (getD_toks args t' k' h') e
  sbd := hS
  sfr b hb := .inl hb
  s0 b hb := hb
  below := Bel.refl _ _
  lin r v t k hl _ _ := by
    have := getD_ok args r hok
    simp only [init] at hl
    rw [hl] at this; simp [V.ok] at this
  gone r t k hg _ := by
    have := getD_ok args r hok
    simp only [init] at hg
    rw [hg] at this; simp [V.ok] at this
  small := hnt
  pin t k h _ := rfl

mutual
theorem like_shape : ∀ v u : V, v.like u = true → u.shape = v.shape
  | .int .., .int .., _ => rfl
  | .bool _, .bool _, _ => rfl
  | .sl .., .sl .., _ => rfl
  | .agg vs, .agg us, h => by simp only [V.shape]; rw [likes_shapes vs us (by simpa [V.like] using h)]
  | .int .., .dead, h | .int .., .gone, h | .int .., .bool _, h | .int .., .sl .., h | .int .., .ref .., h | .int .., .agg _, h | .int .., .tup _, h | .int .., .fn .., h | .int .., .lin _, h => by simp [V.like] at h
  | .bool _, .dead, h | .bool _, .gone, h | .bool _, .int .., h | .bool _, .sl .., h | .bool _, .ref .., h | .bool _, .agg _, h | .bool _, .tup _, h | .bool _, .fn .., h | .bool _, .lin _, h => by simp [V.like] at h
  | .sl .., .dead, h | .sl .., .gone, h | .sl .., .int .., h | .sl .., .bool .., h | .sl .., .ref .., h | .sl .., .agg _, h | .sl .., .tup _, h | .sl .., .fn .., h | .sl .., .lin _, h => by simp [V.like] at h
  | .agg _, .dead, h | .agg _, .gone, h | .agg _, .int .., h | .agg _, .bool .., h | .agg _, .ref .., h | .agg _, .sl .., h | .agg _, .tup _, h | .agg _, .fn .., h | .agg _, .lin _, h => by simp [V.like] at h
  | .dead, u, h | .gone, u, h | .ref .., u, h | .tup _, u, h | .fn .., u, h | .lin _, u, h => by cases u <;> simp [V.like] at h
theorem likes_shapes : ∀ vs us : List V, V.likes vs us = true → V.shapes us = V.shapes vs
  | [], [], _ => rfl
  | v :: vs, u :: us, h => by
    simp only [V.likes, Bool.and_eq_true] at h
    simp only [V.shapes, like_shape v u h.1, likes_shapes vs us h.2]
  | [], _ :: _, h | _ :: _, [], h => by simp [V.likes] at h
end

mutual
/-- what is told of a value at the end holds of the one that was handed in -/
theorem relC_again {w w' : World} {S S' : Nat → Prop} {τ τ' : Tok → Blk} (hrows : ∀ (b : Nat) (arr : Array Value) (ty : TypeId) (fz : Nat × Nat), w.heap[b]? = some (.cells arr ty fz) → ∃ arr', w'.heap[b]? = some (.cells arr' ty fz) ∧ arr'.size = arr.size) :
    ∀ (v u : V) (cs cs' : List Value), relC w S τ v cs → relC w' S' τ' u cs' → v.like u = true → u.mine = true → (∀ k ∈ u.toks, τ' k = τ k) → relC w' S τ u cs
  | .int k n, .int k' n', cs, cs', h, _, hl, _, _ => by
    simp only [V.like, Bool.and_eq_true, decide_eq_true_eq] at hl
    obtain ⟨rfl, rfl⟩ := hl
    simpa only [relC] using h
  | .bool b, .bool b', cs, cs', h, _, hl, _, _ => by
    simp only [V.like, beq_iff_eq] at hl
    subst hl
    simpa only [relC] using h
  | .sl t g lo xs, .sl t' g' lo' ys, cs, cs', h, h', hl, hm, hk => by
    simp only [V.like, Bool.and_eq_true, decide_eq_true_eq] at hl
    obtain ⟨rfl, hb, h1, h2, h3⟩ := hl
    have hb := Sh.beq_eq _ _ hb
    have h1 := Nat.eq_of_beq_eq_true h1
    have h2 := Nat.eq_of_beq_eq_true h2
    have h3 := Nat.eq_of_beq_eq_true h3
    subst hb; subst h1; subst h2
    simp only [relC] at h h' ⊢
    obtain ⟨a0, cap, hcc, hle, hxs, _, hh⟩ := h
    obtain ⟨a1, cap1, hcc1, hle1, hys, hsh1, hh1⟩ := h'
    have hys0 : ∀ c, relCs w' S' τ' ys c → relCs w' S τ ys c := by
      intro c hc
      by_cases hf : g'.flat = true
      · exact relCs_flat S ys _ hc fun y hy => by rw [hys y hy]; exact hf
      · have hmy : V.mines ys = true := by
          simp only [V.mine, hf, Bool.false_or, Bool.and_eq_true] at hm
          exact hm.2
        refine relCs_congr (w := w') (S := S) (τ := τ') (fun b hb => ⟨hb, rfl⟩) ys c (relCs_mine S ys c hc hmy) fun k hk' => ⟨(hk k ?_).symm, rfl⟩
        by_cases ht : t = .sh
        · subst ht; simp [V.mine] at hm
        · exact sl_toks hys ht k hk'
    refine ⟨a0, cap, by rw [h3]; exact hcc, by omega, hys, hsh1, hh.imp id ?_⟩
    rintro ⟨b, off, arr, ty, fz, ha, hw, hp, hfit, hrr⟩
    obtain ⟨arr', hw', hsz⟩ := hrows b arr ty fz hw
    refine ⟨b, off, arr', ty, fz, ha, hw', hp, by omega, ?_⟩
    rcases hh1 with h0 | ⟨b1, off1, arr1, ty1, fz1, ha1, hw1, hp1, hfit1, hrr1⟩
    · have : ys = [] := List.eq_nil_of_length_eq_zero (by omega)
      subst this
      simp [relCs]
    · cases t with
      | sh => simp [V.mine] at hm
      | bx r => simp [V.mine] at hm
      | nl => exact hp.elim
      | «at» r p =>
        simp only [PlaceL] at hp hp1
        rw [hk (.at r p) (by simp [V.toks])] at hp1
        have hb1 : b1 = b := by rw [← hp1.1, ← hp.1]
        subst hb1
        rw [hw'] at hw1
        simp only [Option.some.injEq, Obj.cells.injEq] at hw1
        obtain ⟨rfl, _, _⟩ := hw1
        have ho : off1 = off := by rw [hp1.2.2.1, hp.2.2.1]
        subst ho
        exact hys0 _ hrr1
  | .agg vs, .agg us, cs, cs', h, h', hl, hm, hk => by
    simp only [relC] at h h' ⊢
    exact relCs_again hrows vs us cs cs' h h' (by simpa [V.like] using hl) (by simpa [V.mine] using hm) (by simpa [V.toks] using hk)
  | .int .., .dead, _, _, _, _, h, _, _ | .int .., .gone, _, _, _, _, h, _, _ | .int .., .bool _, _, _, _, _, h, _, _ | .int .., .sl .., _, _, _, _, h, _, _ | .int .., .ref .., _, _, _, _, h, _, _ | .int .., .agg _, _, _, _, _, h, _, _ | .int .., .tup _, _, _, _, _, h, _, _ | .int .., .fn .., _, _, _, _, h, _, _ | .int .., .lin _, _, _, _, _, h, _, _ => by simp [V.like] at h
  | .bool _, .dead, _, _, _, _, h, _, _ | .bool _, .gone, _, _, _, _, h, _, _ | .bool _, .int .., _, _, _, _, h, _, _ | .bool _, .sl .., _, _, _, _, h, _, _ | .bool _, .ref .., _, _, _, _, h, _, _ | .bool _, .agg _, _, _, _, _, h, _, _ | .bool _, .tup _, _, _, _, _, h, _, _ | .bool _, .fn .., _, _, _, _, h, _, _ | .bool _, .lin _, _, _, _, _, h, _, _ => by simp [V.like] at h
  | .sl .., .dead, _, _, _, _, h, _, _ | .sl .., .gone, _, _, _, _, h, _, _ | .sl .., .int .., _, _, _, _, h, _, _ | .sl .., .bool .., _, _, _, _, h, _, _ | .sl .., .ref .., _, _, _, _, h, _, _ | .sl .., .agg _, _, _, _, _, h, _, _ | .sl .., .tup _, _, _, _, _, h, _, _ | .sl .., .fn .., _, _, _, _, h, _, _ | .sl .., .lin _, _, _, _, _, h, _, _ => by simp [V.like] at h
  | .agg _, .dead, _, _, _, _, h, _, _ | .agg _, .gone, _, _, _, _, h, _, _ | .agg _, .int .., _, _, _, _, h, _, _ | .agg _, .bool .., _, _, _, _, h, _, _ | .agg _, .ref .., _, _, _, _, h, _, _ | .agg _, .sl .., _, _, _, _, h, _, _ | .agg _, .tup _, _, _, _, _, h, _, _ | .agg _, .fn .., _, _, _, _, h, _, _ | .agg _, .lin _, _, _, _, _, h, _, _ => by simp [V.like] at h
  | .dead, u, _, _, _, _, h, _, _ | .gone, u, _, _, _, _, h, _, _ | .ref .., u, _, _, _, _, h, _, _ | .tup _, u, _, _, _, _, h, _, _ | .fn .., u, _, _, _, _, h, _, _ | .lin _, u, _, _, _, _, h, _, _ => by cases u <;> simp [V.like] at h
theorem relCs_again {w w' : World} {S S' : Nat → Prop} {τ τ' : Tok → Blk} (hrows : ∀ (b : Nat) (arr : Array Value) (ty : TypeId) (fz : Nat × Nat), w.heap[b]? = some (.cells arr ty fz) → ∃ arr', w'.heap[b]? = some (.cells arr' ty fz) ∧ arr'.size = arr.size) :
    ∀ (vs us : List V) (cs cs' : List Value), relCs w S τ vs cs → relCs w' S' τ' us cs' → V.likes vs us = true → V.mines us = true → (∀ k ∈ V.tokss us, τ' k = τ k) → relCs w' S τ us cs
  | [], [], cs, cs', h, _, _, _, _ => by simpa only [relCs] using h
  | v :: vs, u :: us, cs, cs', h, h', hl, hm, hk => by
    simp only [V.likes, Bool.and_eq_true] at hl
    simp only [V.mines, Bool.and_eq_true] at hm
    simp only [relCs] at h h' ⊢
    rw [like_shape v u hl.1] at h' ⊢
    exact ⟨relC_again hrows v u _ _ h.1 h'.1 hl.1 hm.1 fun k hk' => hk k (by simp [V.tokss, hk']), relCs_again hrows vs us _ _ h.2 h'.2 hl.2 hm.2 fun k hk' => hk k (by simp [V.tokss, hk'])⟩
  | [], _ :: _, _, _, _, _, h, _, _ | _ :: _, [], _, _, _, _, h, _, _ => by simp [V.likes] at h
end

theorem relV_again {w w' : World} {S S' : Nat → Prop} {τ τ' : Tok → Blk} (hrows : ∀ (b : Nat) (arr : Array Value) (ty : TypeId) (fz : Nat × Nat), w.heap[b]? = some (.cells arr ty fz) → ∃ arr', w'.heap[b]? = some (.cells arr' ty fz) ∧ arr'.size = arr.size)
    {v u : V} {c c' : Value} (h : relV w S τ v c) (h' : relV w' S' τ' u c') (hl : v.like u = true) (hm : u.mine = true) (hk : ∀ k ∈ u.toks, τ' k = τ k) : relV w' S τ u c := by
  cases v with
  | int k n =>
    cases u with
    | int k' n' =>
      simp only [V.like, Bool.and_eq_true, decide_eq_true_eq] at hl
      obtain ⟨rfl, rfl⟩ := hl
      simpa only [relV] using h
    | _ => simp [V.like] at hl
  | bool b =>
    cases u with
    | bool b' => simp only [V.like, beq_iff_eq] at hl; subst hl; simpa only [relV] using h
    | _ => simp [V.like] at hl
  | sl t g lo xs =>
    cases u with
    | sl t' g' lo' ys =>
      simp only [relV] at h h' ⊢
      exact relC_again hrows _ _ _ _ h h' hl hm hk
    | _ => simp [V.like] at hl
  | agg vs =>
    cases u with
    | agg us =>
      simp only [relV] at h h' ⊢
      obtain ⟨arr, e, h⟩ := h
      obtain ⟨arr', e', h'⟩ := h'
      exact ⟨arr, e, relCs_again hrows vs us _ _ h h' (by simpa [V.like] using hl) (by simpa [V.mine] using hm) (by simpa [V.toks] using hk)⟩
    | _ => simp [V.like] at hl
  | _ => cases u <;> simp [V.like] at hl

/-- what such a function hands back, and what it leaves -/
def RM (P : Program) (rs : List ResultVar) (r u : V) (s : Nat → V) : Prop := resV P s rs = some r ∧ (s 0 = u ∨ u = .dead)

theorem contractM_of {D : Den} {σ : Sig} (hF : Fits2 P D σ) (hm : P.follows .mixedOrders = true) {f : Nat} {fn : Func} {c : Code} (hf : P.funcs[f]? = some fn) (hb : fn.body = some c) {an : List An} {A : AC} (hc : cC P fn.ntmps an c = some A)
    {args : List V} {r u : V} (hok : args.all V.ok = true) (hn : args.length ≤ fn.ntmps) (hnt : Nat.ble fn.ntmps pinR = true)
    (h : A.wp D σ (fun e s => (e = .nrm ∨ e = .ret) ∧ RM P fn.results.toList r u s) (init args)) : ContractM P f args r u := by
  intro w S τ vals hS hr hk hinj hnum
  have hI := inv_initM hS hr hk hinj hok hn (Nat.le_of_ble_eq_true hnt)
  refine calls_of_wp hf hb (ac_sound hF hm c A _ _ _ _ _ _ _ hc hI h ?_)
  rintro e s a w' S' τ' ⟨he, hres, hs0⟩ hI'
  obtain ⟨cv, h1, h2, h3⟩ := results_run fn _ r rfl hres hI'
  have post : Bel (fun b => w.heap.size ≤ b ∨ ∃ k ∈ V.tokss args, (τ k).b = b) w w' ∧ relV w' S τ r cv ∧
      ∀ v0, args.head? = some v0 → v0.like u = true → u.mine = true → (∀ k ∈ u.toks, k.pinned = true) → relV w' S τ u (vals.getD 0 undef) := by
    refine ⟨hI'.below, num_rel hnum h2, ?_⟩
    intro v0 hargs hlike hmine hpin
    rcases hs0 with hs0 | hs0
    case inr => rw [hs0] at hmine; cases hmine
    cases args with
    | nil => cases hargs
    | cons v1 vs =>
    simp only [List.head?_cons, Option.some.injEq] at hargs
    subst hargs
    obtain ⟨c0, cs, hvals, hr0⟩ : ∃ c0 cs, vals.toList = c0 :: cs ∧ relV w S τ v1 c0 := by
      simp only [relVs] at hr
      obtain ⟨c0, cs, e1, e2, _⟩ := hr
      exact ⟨c0, cs, e1, e2⟩
    have hc0 : vals.getD 0 undef = c0 := by
      have : vals.toList.getD 0 undef = c0 := by rw [hvals]; rfl
      simpa [Array.getD_eq_getD_getElem?, List.getD_eq_getElem?_getD] using this
    rw [hc0]
    have ht := hI'.told 0
    rw [hs0] at ht
    exact relV_again hI'.below.rows hr0 ht hlike hmine fun k hk => hI'.pin 0 k (by rw [hs0]; exact hk) (hpin k hk)
  rcases he with rfl | rfl
  · exact ⟨hI'.defers, cv, h1, cv, rfl, post⟩
  · exact ⟨hI'.defers, cv, h1, cv, rfl, post⟩

theorem contractM_run {D : Den} {σ : Sig} (hF : Fits2 P D σ) (hm : P.follows .mixedOrders = true) {f : Nat} {fn : Func} {c : Code} (hf : P.funcs[f]? = some fn) (hb : fn.body = some c) {an : List An} {A : AC} (hc : cC P fn.ntmps an c = some A)
    {al : Bool} {args : List V} {r u : V} (hok : args.all V.ok = true) (hn : args.length ≤ fn.ntmps) (hnt : Nat.ble fn.ntmps pinR = true)
    (h : Run D σ (RM P fn.results.toList r u) (.run A []) (init args)) : Contract' P f pinR al args (.tup [r, u]) := by
  have h1 := contractM_of hF hm hf hb hc hok hn hnt (run_says h)
  unfold Contract'
  rw [if_pos rfl]
  intro r' u' e
  simp only [V.tup.injEq, List.cons.injEq, and_true] at e
  obtain ⟨rfl, rfl⟩ := e
  exact h1

end

/-- a list that the callee may write to -/
structure On (α : Type) where
  v : NL α

def deco {α : Type} [Enc α] (t : Tok) : V → Option (NL α)
  | .sl .nl h 0 [] => if h.beq (Enc.shp α) then some .nil else none
  | .sl t' h 0 xs => if t' = t ∧ h.beq (Enc.shp α) = true then (decs xs).map .of else none
  | _ => none

theorem deco_enc {α : Type} [Enc α] {r : Nat} {p : List Nat} (o : NL α) : deco (.at r p) (encO (.at r p) o) = some o := by
  cases o with
  | nil => simp [encO, deco, Sh.beq_refl]
  | of xs => simp [encO, deco, Sh.beq_refl, decs_encs]

theorem enc_deco {α : Type} [Enc α] {t : Tok} (v : V) (o : NL α) (h : deco t v = some o) : encO t o = v := by
  unfold deco at h
  split at h
  · split at h
    · rename_i hb
      simp only [Option.some.injEq] at h; subst h
      simp [encO, Sh.beq_eq _ _ hb]
    · cases h
  · split at h
    · rename_i hb
      simp only [Option.map_eq_some_iff] at h
      obtain ⟨ys, h1, rfl⟩ := h
      simp [encO, Sh.beq_eq _ _ hb.2, hb.1, encs_decs _ _ h1]
    · cases h
  · cases h

instance {α : Type} [Enc α] : Arg (On α) where
  arg x := encO (.at pinR []) x.v
  un v := (deco (.at pinR []) v).map On.mk
  un_arg x := by simp [deco_enc]
  arg_un v x h := by
    simp only [Option.map_eq_some_iff] at h
    obtain ⟨o, h1, rfl⟩ := h
    exact enc_deco v o h1

/-- a struct of a number and such a list -/
structure Og (α : Type) where
  a : Int
  v : NL α

instance {α : Type} [Enc α] : Arg (Og α) where
  arg x := .agg [Enc.enc x.a, encO (.at pinR [1]) x.v]
  un
    | .agg [u, v] => (Enc.dec u).bind fun a => (deco (.at pinR [1]) v).map (Og.mk a)
    | _ => none
  un_arg x := by simp [deco_enc, Enc.dec_enc]
  arg_un v x h := by
    split at h
    · simp only [Option.bind_eq_some_iff, Option.map_eq_some_iff] at h
      obtain ⟨a, h0, o, h1, rfl⟩ := h
      simp [enc_deco _ _ h1, Enc.enc_dec _ _ h0]
    · cases h

theorem ok_encP {α : Type} [Enc α] {t : Tok} {o : NL α} : (encO t o).ok = true := by cases o <;> rfl

theorem mem_encP {α : Type} [Enc α] {t : Tok} {o : NL α} : (encO t o).mem = true := by cases o <;> rfl
theorem shp_encP {α : Type} [Enc α] {t : Tok} {o : NL α} : (encO t o).shape.beq .p = true := by cases o <;> rfl
theorem tok_encP {α : Type} [Enc α] {r : Nat} {p : List Nat} {k : Tok} {o : NL α} (h : (k == .at r p) = false) (hn : (k == .nl) = false) : (encO (.at r p) o).toks.contains k = false := by
  cases o with
  | nil => simp [encO, V.toks, V.tokss]
  | of xs =>
    have h1 : ((.of xs : NL α)) = .of xs := rfl
    have : (encO (.at r p) (.of xs)).toks = [.at r p] := by simp [encO, V.toks, toks_encs]
    rw [this]
    simpa using h

theorem shape_encP {α : Type} [Enc α] {t : Tok} {o : NL α} : (encO t o).shape = .p := by cases o <;> rfl
theorem all_ok2 {a b : V} (ha : a.ok = true) (hb : b.ok = true) : [a, b].all V.ok = true := by simp [ha, hb]

theorem tok_memP {α : Type} [Enc α] {r : Nat} {p : List Nat} {k : Tok} {o : NL α} (h : k ≠ .at r p) : k ∉ (encO (.at r p) o).toks := by
  cases o with
  | nil => simp [encO, V.toks, V.tokss]
  | of xs =>
    have : (encO (.at r p) (.of xs)).toks = [.at r p] := by simp [encO, V.toks, toks_encs]
    rw [this]
    simpa using h

/-- whose a list is -/
def ksO {α : Type} (t : Tok) : NL α → List Tok
  | .nil => []
  | .of _ => [t]

theorem killO_ne {α : Type} {t k : Tok} {o : NL α} (h : (k == t) = false) : killK (ksO t o) k = some k := by
  cases o with
  | nil => simp [killK, ksO]
  | of xs =>
    simp only [killK, ksO, List.contains_cons, List.contains_nil, h, Bool.or_false, Bool.false_eq_true, if_false]

theorem canon_own {α : Type} [Enc α] (hf : (Enc.shp α).flat = true) {r : Nat} {p : List Nat} {o : NL α} : canon (encO (.at r p) o) = some (encO (.at pinR []) o, ksO (.at r p) o) := by
  cases o with
  | nil => simp [canon, encO, V.own, V.low, V.ok, V.ret, V.tag, ksO]
  | of xs => simp [canon, encO, V.own, V.low, V.ok, V.ret, V.tag, ksO, hf]

theorem canon_agg {α : Type} [Enc α] (hf : (Enc.shp α).flat = true) {r : Nat} {p : List Nat} {o : NL α} {a : Int} : canon (.agg [Enc.enc a, encO (.at r p) o]) = some (.agg [Enc.enc a, encO (.at pinR [1]) o], ksO (.at r p) o) := by
  cases o with
  | nil => simp [canon, encO, V.own, V.owns, V.low, V.lows, V.ok, V.ret, V.rets, V.tag, V.tags, ksO, Enc.enc, V.toks, V.erase]
  | of xs => simp [canon, encO, V.own, V.owns, V.low, V.lows, V.ok, V.ret, V.rets, V.tag, V.tags, ksO, hf, Enc.enc, V.toks, V.erase]

/-- the list behind the call -/
def remark {α : Type} : NL α → NL α → Option (NL α)
  | .nil, _ => some .nil
  | .of xs, .of ys => if ys.length = xs.length then some (.of ys) else none
  | .of _, .nil => none

mutual
theorem rem_self {ks : List Tok} {nv : V} : ∀ v : V, V.map (killK ks) v = v → V.rem ks nv v = v
  | .dead, _ | .gone, _ | .int .., _ | .bool _, _ => rfl
  | .lin v, h => by simp only [V.map, V.lin.injEq] at h; simp only [V.rem]; rw [rem_self v h]
  | .tup vs, h => by simp only [V.map, V.tup.injEq] at h; simp only [V.rem]; rw [rems_self vs h]
  | .agg vs, h => by simp only [V.map, V.agg.injEq] at h; simp only [V.rem]; rw [rems_self vs h]
  | .fn g fs vs, h => by simp only [V.map, V.fn.injEq, true_and] at h; simp only [V.rem]; rw [rems_self fs h.1, rems_self vs h.2]
  | .ref t i q c, h => by
    cases t with
    | sh => rfl
    | _ =>
      simp only [V.map, killK] at h
      simp only [V.rem]
      split at h
      · rename_i e
        split at e
        · cases e
        · rename_i hc
          simp only [Option.some.injEq] at e; subst e
          simp only [V.ref.injEq, true_and] at h
          rw [if_neg hc, rem_self c h]
      · cases h
  | .sl t g lo xs, h => by
    cases t with
    | sh => rfl
    | _ =>
      simp only [V.map, killK] at h
      simp only [V.rem]
      split at h
      · rename_i e
        split at e
        · cases e
        · rename_i hc
          simp only [Option.some.injEq] at e; subst e
          simp only [V.sl.injEq, true_and] at h
          rw [if_neg hc]
          by_cases hg : g.flat = true
          · simp [hg]
          · simp only [hg, Bool.false_eq_true, if_false] at h ⊢
            rw [rems_self xs h]
      · cases h
theorem rems_self {ks : List Tok} {nv : V} : ∀ vs : List V, V.maps (killK ks) vs = vs → V.rems ks nv vs = vs
  | [], _ => rfl
  | v :: vs, h => by
    simp only [V.maps, List.cons.injEq] at h
    simp only [V.rems]
    rw [rem_self v h.1, rems_self vs h.2]
end

theorem own_flat {α : Type} [Enc α] (hf : (Enc.shp α).flat = true) {r : Nat} {p q : List Nat} {o : NL α} : V.own q 9 (encO (.at r p) o) = some (match o with | .nil => [] | .of _ => [(q, .at r p)]) := by
  cases o with
  | nil => rfl
  | of xs => simp [encO, V.own, hf]

theorem tag_flat {α : Type} [Enc α] (hf : (Enc.shp α).flat = true) {r : Nat} {p q : List Nat} {o : NL α} : V.tag pinR q 9 (V.ret 9 (encO (.at r p) o)) = encO (.at pinR q) o := by
  cases o with
  | nil => rfl
  | of xs => simp [encO, V.ret, V.tag, hf]

theorem marked_own {α : Type} [Enc α] (hf : (Enc.shp α).flat = true) {r : Nat} {p : List Nat} {o o1 o2 : NL α} (h : remark o o1 = some o2) : V.rem (ksO (.at r p) o) (marked (encO (.at r p) o) (encO (.at pinR []) o1)) (encO (.at r p) o) = encO (.at r p) o2 := by
  cases o with
  | nil => simp [remark] at h; subst h; simp [encO, V.rem, ksO, V.rems]
  | of xs =>
    cases o1 with
    | nil => simp [remark] at h
    | of ys =>
      simp only [remark] at h
      split at h
      · rename_i hl
        simp only [Option.some.injEq] at h; subst h
        have hp : Nat.ble pinR pinR = true := Nat.ble_eq_true_of_le (Nat.le_refl _)
        simp only [marked, own_flat hf, tag_flat hf]
        simp [encO, V.rem, ksO, V.like, V.mine, V.toks, hf, Sh.beq_refl, hl, backF, V.map, same, V.sub, Tok.pinned, hp]
      · cases h

theorem rem_enc {α : Type} [Enc α] {ks : List Tok} {nv : V} {xs : List α} : V.rem ks nv (Enc.enc xs) = Enc.enc xs := rfl
section
variable {D : Den} {σ : Sig} {R : (Nat → V) → Prop} {s : Nat → V} {K : (Nat → V) → Prop} {is : List I}

/-- a call of a function that writes to what its first argument owns -/
theorem g_mark {d g x : Nat} {rest : List O} {al : Bool} {v v0 r u : V} {vs : List V} {ks : List Tok} (hx : s x = v) (hc : canon v = some (v0, ks)) (hr : rdAll s rest = some vs) (hD : D g (v0 :: vs) = some (.tup [r, u])) (hσ : σ g = some (pinR, al))
    (h0 : V.tokss vs = []) (hn : r.num = true)
    (H : ∀ s1, (∀ t w w', s t = w → V.rem ks (marked v u) w = w' → s1 t = w') → goK D σ is (upd s1 d r) K) (hgm : Nat.ble modeO g = false := by rfl) :
    goK D σ (⟨some d, none, false, .mark (.k (.fn g [] [])) (.t x :: rest)⟩ :: is) s K := by
  have h1 : O.rd s (.k (.fn g [] [])) = some (.fn g [] []) := rfl
  simp only [goK, xK, stepX, h1, hx, hc, hr, key, cond_false, hD, hσ, h0, hn, hgm, List.isEmpty_nil, Nat.beq_refl, Bool.not_false, Bool.and_self, if_true, put]
  refine H _ ?_
  intro t w w' e1 e2
  simp only [e1]
  exact e2

theorem ev_extN {x : O} {i : Nat} {vs : List V} {v : V} (h : x.ev s = .tup vs) (hi : vs[i]? = some v) (hk : v.ok = true) : evalA s (.ext x i) = some v := by simp only [evalA, rd_of h rfl, hi, hk, if_true]
theorem rdAll_nil : rdAll s [] = some [] := rfl
theorem rdAll_cons {x : O} {xs : List O} {v : V} {vs : List V} (h : x.ev s = v) (hk : v.ok = true) (hs : rdAll s xs = some vs) : rdAll s (x :: xs) = some (v :: vs) := by
  simp only [rdAll, rd_of h hk, hs]

theorem rmA {P : Program} {x : ResultVar} {r u : V} (h : resR P s x = some r) (h0 : s 0 = u) : RM P [x] r u s := ⟨by simp only [resV, h], .inl h0⟩
theorem tag_encO {α : Type} [Enc α] {d : Nat} {p : List Nat} {o : NL α} : V.tag d p 1 (encO .sh o) = encO (.at d p) o := by
  cases o with
  | nil => rfl
  | of xs =>
    simp only [encO, V.tag]
    split
    · rfl
    · congr 1
      have : ∀ (xs : List α) k, V.tags d p 0 k (xs.map Enc.enc) = xs.map Enc.enc := by
        intro xs
        induction xs with
        | nil => intro k; rfl
        | cons x xs ih => intro k; simp [V.tags, Enc.tag0, ih]
      exact this xs 0

theorem toks_encS {α : Type} [Enc α] {o : NL α} : (encO .sh o).toks = [] := by
  cases o with
  | nil => simp [encO, V.toks, V.tokss]
  | of xs => rfl

theorem tag_tup {d : Nat} {p : List Nat} {m : Nat} {vs us : List V} (h : V.tags d p m 0 vs = us) : V.tag d p m (.tup vs) = .tup us := by simp only [V.tag, h]
theorem tag_agg {d : Nat} {p : List Nat} {m : Nat} {vs us : List V} (h : V.tags d p m 0 vs = us) : V.tag d p m (.agg vs) = .agg us := by simp only [V.tag, h]
theorem tags_nil {d : Nat} {p : List Nat} {m k : Nat} : V.tags d p m k [] = [] := rfl
theorem tags_cons {d : Nat} {p : List Nat} {m k : Nat} {v u : V} {vs us : List V} (h : V.tag d (p ++ [k]) m v = u) (hs : V.tags d p m (k + 1) vs = us) : V.tags d p m k (v :: vs) = u :: us := by simp only [V.tags, h, hs]
theorem toks_tup {vs : List V} (h : V.tokss vs = []) : (V.tup vs).toks = [] := by simp only [V.toks, h]
theorem toks_agg {vs : List V} (h : V.tokss vs = []) : (V.agg vs).toks = [] := by simp only [V.toks, h]
theorem tokss_nil : V.tokss [] = [] := rfl
theorem tokss_cons {v : V} {vs : List V} (h : v.toks = []) (hs : V.tokss vs = []) : V.tokss (v :: vs) = [] := by simp only [V.tokss, h, hs, List.append_nil]

/-- a call whose result is the caller's own -/
theorem g_callO {d g m : Nat} {al : Bool} {as : List O} {r v : V} {kk : Nat} (vs : List V) (hv : takeArgs as s = some (vs, s)) (hD : D kk vs = some r) (hσ : σ kk = some (m, al)) (hal : (al && !(heldToks s as).isEmpty) = false)
    (hr : r.toks = []) (ht : V.tag d [] m r = v) (hok : v.ok = true) (hg : s d = .gone) (H : goK D σ is (upd s d v) K) (hmp : Nat.ble pinR m = false := by rfl) (hgm : Nat.ble modeO g = false := by rfl) (hkk : g + modeO = kk := by rfl) :
    goK D σ (⟨some d, none, false, .callO (.k (.fn g [] [])) as⟩ :: is) s K := by
  subst ht
  subst hkk
  have h0 : (V.fn g [] []).toks = [] := by simp [V.toks, V.tokss]
  have h1 : O.rd s (.k (.fn g [] [])) = some (.fn g [] []) := rfl
  have hal' : ¬ ((al && !((heldToks s as).isEmpty && (V.fn g [] []).toks.isEmpty)) = true) := by simp [h0]; simpa using hal
  simp only [goK, xK, stepX, stepC, h1, hv, V.erases, List.nil_append, List.append_nil, key, cond_true, hD, hσ, hgm, Bool.false_eq_true, if_false]
  rw [if_neg hal']
  simp only [hr, hmp, Bool.not_false, List.isEmpty_nil, List.all_nil, Bool.and_self, if_true, Option.getD_some, place, hok, hg, put]
  split
  · rename_i h
    split at h
    · simp only [Option.some.injEq] at h; subst h; exact H
    · simp at h; subst h; exact H
  · rename_i h
    split at h <;> cases h

end

/-- what is the function's own in its result, one list deep -/
structure FinO (v r : V) (p : List Nat) (ts : List Tok) : Prop where
  own : ∃ l, V.own p 1 v = some l ∧ (l.map (·.2)).Sublist ts
  ret : V.ret 1 v = r
  low : V.low 1 v = []
structure FinOs (vs rs : List V) (p : List Nat) (i : Nat) (ts : List Tok) : Prop where
  own : ∃ l, V.owns p 1 i vs = some l ∧ (l.map (·.2)).Sublist ts
  ret : V.rets 1 vs = rs
  low : V.lows 1 vs = []

theorem finO_own {α : Type} [Enc α] {r : Nat} {p q : List Nat} {o : NL α} : FinO (encO (.at r q) o) (encO .sh o) p [.at r q] := by
  cases o with
  | nil => exact ⟨⟨[], rfl, by simp⟩, rfl, rfl⟩
  | of xs =>
    have h0 : ∀ (xs : List α) k, V.owns p 0 k (xs.map Enc.enc) = some [] := by
      intro xs
      induction xs with
      | nil => intro k; rfl
      | cons x xs ih => intro k; simp [V.owns, Enc.own0, ih]
    have h1 : ∀ (xs : List α), V.lows 0 (xs.map Enc.enc) = [] := by
      intro xs
      induction xs with
      | nil => rfl
      | cons x xs ih => simp [V.lows, Enc.low0, ih]
    have h2 : ∀ (xs : List α), V.rets 0 (xs.map Enc.enc) = xs.map Enc.enc := by
      intro xs
      induction xs with
      | nil => rfl
      | cons x xs ih => simp [V.rets, Enc.ret0, ih]
    refine ⟨⟨[(p, .at r q)], ?_, by simp⟩, ?_, ?_⟩
    · simp only [encO, V.own]
      split
      · split
        · rfl
        · rw [h0]; rfl
      · rename_i h; exact absurd trivial h
    · simp only [encO, V.ret]
      split
      · rfl
      · rw [h2]
    · simp only [encO, V.low]
      split
      · rfl
      · exact h1 xs
theorem finO_nil {α : Type} [Enc α] {p : List Nat} : FinO (.sl .nl (Enc.shp α) 0 []) (encO .sh (.nil : NL α)) p [] := ⟨⟨[], rfl, by simp⟩, rfl, rfl⟩
theorem finO_int {k : IntKind} {n : Int} {p : List Nat} : FinO (.int k n) (.int k n) p [] := ⟨⟨[], rfl, by simp⟩, rfl, rfl⟩
theorem finO_bool {b : Bool} {p : List Nat} : FinO (.bool b) (.bool b) p [] := ⟨⟨[], rfl, by simp⟩, rfl, rfl⟩
theorem finOs_nil {p : List Nat} {i : Nat} : FinOs [] [] p i [] := ⟨⟨[], rfl, by simp⟩, rfl, rfl⟩
theorem finOs_cons {v r : V} {vs rs : List V} {p : List Nat} {i : Nat} {ts us : List Tok} (h : FinO v r (p ++ [i]) ts) (hs : FinOs vs rs p (i + 1) us) : FinOs (v :: vs) (r :: rs) p i (ts ++ us) := by
  obtain ⟨l, h1, h2⟩ := h.own
  obtain ⟨l', h3, h4⟩ := hs.own
  exact ⟨⟨l ++ l', by simp [V.owns, h1, h3], by rw [List.map_append]; exact h2.append h4⟩, by simp [V.rets, h.ret, hs.ret], by simp [V.lows, h.low, hs.low]⟩
theorem finO_agg {vs rs : List V} {p : List Nat} {ts : List Tok} (h : FinOs vs rs p 0 ts) : FinO (.agg vs) (.agg rs) p ts := by
  obtain ⟨l, h1, h2⟩ := h.own
  exact ⟨⟨l, by simpa [V.own] using h1, h2⟩, by simp [V.ret, h.ret], by simp [V.low, h.low]⟩
theorem finO_tup {vs rs : List V} {p : List Nat} {ts : List Tok} (h : FinOs vs rs p 0 ts) : FinO (.tup vs) (.tup rs) p ts := by
  obtain ⟨l, h1, h2⟩ := h.own
  exact ⟨⟨l, by simpa [V.own] using h1, h2⟩, by simp [V.ret, h.ret], by simp [V.low, h.low]⟩
theorem fin_retO {v r : V} {ts : List Tok} {al : Bool} (h : FinO v r [] ts) (hn : decide ts.Nodup = true) (hm : (al || v.mine) = true) : fin 1 al v = some r := by
  obtain ⟨l, h1, h2⟩ := h.own
  have hnd : (l.map (·.2)).Nodup := h2.nodup (of_decide_eq_true hn)
  simp only [fin, h1, hnd, decide_true, h.low, hm, h.ret]
  simp

def NL.set {α : Type} (o : NL α) (i : Nat) (b : α) : NL α := match o with
  | .nil => .nil
  | .of xs => .of (xs.set i b)
def set2 {α : Type} (xs : List (α × α)) (i : Nat) (j : Int) (b : α) : List (α × α) := match xs[i]? with
  | some c => xs.set i (bif j == 0 then b else c.1, bif j == 1 then b else c.2)
  | none => xs
def NL.set2 {α : Type} (o : NL (α × α)) (i : Nat) (j : Int) (b : α) : NL (α × α) := match o with
  | .nil => .nil
  | .of xs => .of (Zq.set2 xs i j b)

theorem mut_ownN {α : Type} [Enc α] {r : Nat} {p : List Nat} {i : Nat} {u : α} {o : NL α} : V.mut (.at r p) i [] (Enc.enc u) (encO (.at r p) o) = encO (.at r p) (o.set i u) := by
  cases o with
  | nil => simp [encO, V.mut, NL.set, V.muts]
  | of xs => exact mut_own

theorem setPs_two {α : Type} [Enc α] {j : Int} (hj : j = 0 ∨ j = 1) (b : α) : ∀ (xs : List (α × α)) (i : Nat), V.setPs (xs.map Enc.enc) i [j.toNat] (Enc.enc b) = (set2 xs i j b).map Enc.enc
  | [], i => by simp [V.setPs, set2]
  | x :: xs, 0 => by
    rcases hj with rfl | rfl <;> simp [V.setPs, set2, V.setP, Enc.enc]
  | x :: xs, i + 1 => by
    have ih := setPs_two hj b xs i
    simp only [List.map_cons, V.setPs, ih, set2, List.getElem?_cons_succ]
    cases xs[i]? with
    | none => simp
    | some c => simp

theorem mut_own2 {α : Type} [Enc α] {r : Nat} {p : List Nat} {i : Nat} {j : Int} {l : List α} {a b : α} {o : NL (α × α)} (h : idx l j = some a) (hl : l.length = 2) :
    V.mut (.at r p) i [j.toNat] (Enc.enc b) (encO (.at r p) o) = encO (.at r p) (o.set2 i j b) := by
  obtain ⟨h0, h1, h2⟩ := idx_lt h
  have hj : j = 0 ∨ j = 1 := by omega
  cases o with
  | nil => simp [encO, V.mut, NL.set2, V.muts]
  | of xs => simp only [encO, V.mut, if_true, Nat.zero_le, Nat.sub_zero, NL.set2, muts_encs, setPs_two hj b xs i, ite_self]

end Go.Zq
/- Lists that are given away for good: contracts of functions that hand them back, and calls of them. -/
namespace Go.Zq

section
variable {P : Program}

end

section
variable {D : Den} {σ : Sig} {s s0 s1 : Nat → V} {K : (Nat → V) → Prop} {is : List I}

end

/-- a part of one's own list -/
theorem ev_sliceO {α : Type} [Enc α] {s : Nat → V} {x : O} {lo hi : Option O} {e r : Nat} {p : List Nat} {xs ys : List α} {a b : Int} (hx : x.ev s = encO (.at r p) (.of xs)) (hl : optI s 0 lo a) (hh : optI s xs.length hi b) (h : sub xs a b = some ys)
    (he : (Enc.shp α).size = e) : evalA s (.slice x lo hi e) = some (.sl (.at r p) (Enc.shp α) a.toNat (ys.map Enc.enc)) := by
  unfold sub at h
  split at h
  · rename_i hb
    simp only [Option.some.injEq] at h; subst h
    have hx' : x.ev s = .sl (.at r p) (Enc.shp α) 0 (xs.map Enc.enc) := hx
    simp only [evalA, rd_of hx' rfl, optI_nat hl hb.1, List.length_map]
    rw [optI_nat hh (by omega)]
    simp only [he]
    rw [if_pos (by simp [Tok.isBx]; omega)]
    simp [List.map_take, List.map_drop]
  · cases h

end Go.Zq
/- Own lists of own lists. -/
namespace Go.Zq

/-- a row's owner: where it is at home -/
abbrev TF := Nat → Nat × List Nat
def tk (x : Nat × List Nat) : Tok := .at x.1 x.2

section
variable {α : Type} [Enc α]

def encR (T : TF) : Nat → List (NL α) → List V
  | _, [] => []
  | k, o :: os => encO (tk (T k)) o :: encR T (k + 1) os
def pathsT (r : Nat) (p : List Nat) : TF := fun k => (r, p ++ [k])
def encN (r : Nat) (p : List Nat) : NL (NL α) → V
  | .nil => .sl .nl .p 0 []
  | .of os => .sl (.at r p) .p 0 (encR (pathsT r p) 0 os)
theorem shape_encN {r : Nat} {p : List Nat} {o : NL (NL α)} : (encN r p o).shape = .p := by cases o <;> rfl

end

section
variable {α : Type}

end

section
variable {α : Type} [Enc α]

end
end Go.Zq
/- Typed steps: own lists of own lists. -/
namespace Go.Zq

section
variable {D : Den} {σ : Sig} {R : (Nat → V) → Prop} {s : Nat → V} {K : (Nat → V) → Prop} {is : List I}
variable {α : Type} [Enc α]

end

/-! ## results two lists deep -/

section
variable {α : Type} [Enc α]

end

/-- what is the function's own in its result, two lists deep -/
structure FinN (v r : V) (p : List Nat) (ts : List Nat) : Prop where
  own : ∃ l, V.own p 2 v = some l ∧ (l.map (·.2)).Nodup ∧ ∀ y ∈ l, ∃ r ∈ ts, y.2.root? = some r
  ret : V.ret 2 v = r
  low : V.low 2 v = []
structure FinNs (vs rs : List V) (p : List Nat) (i : Nat) (ts : List Nat) : Prop where
  own : ∃ l, V.owns p 2 i vs = some l ∧ (l.map (·.2)).Nodup ∧ ∀ y ∈ l, ∃ r ∈ ts, y.2.root? = some r
  ret : V.rets 2 vs = rs
  low : V.lows 2 vs = []

section
variable {α : Type}
end
section
variable {α : Type} [Enc α]

end
/-! ## marks -/

/-- a list of lists that the callee may write to -/
structure On2 (α : Type) where
  v : NL (NL α)

section
variable {α : Type} [Enc α]

def decR (T : TF) : Nat → List V → Option (List (NL α))
  | _, [] => some []
  | k, v :: vs => match deco (tk (T k)) v, decR T (k + 1) vs with
    | some o, some os => some (o :: os)
    | _, _ => none
def decN (r : Nat) (p : List Nat) : V → Option (NL (NL α))
  | .sl t h lo vs => if t = .nl then (if h.beq .p = true ∧ lo = 0 ∧ vs.isEmpty = true then some .nil else none)
    else if t = .at r p ∧ h.beq .p = true ∧ lo = 0 then (decR (pathsT r p) 0 vs).map .of else none
  | _ => none

theorem decR_enc {T : TF} : ∀ (os : List (NL α)) (k : Nat), decR T k (encR T k os) = some os
  | [], k => rfl
  | o :: os, k => by
    have h1 : deco (tk (T k)) (encO (tk (T k)) o) = some o := deco_enc o
    simp only [encR, decR, h1, decR_enc os (k + 1)]
theorem enc_decR {T : TF} : ∀ (vs : List V) (k : Nat) (os : List (NL α)), decR T k vs = some os → encR T k os = vs
  | [], k, os, h => by simp [decR] at h; subst h; rfl
  | v :: vs, k, os, h => by
    simp only [decR] at h
    split at h
    · rename_i o os' h1 h2
      simp only [Option.some.injEq] at h; subst h
      simp only [encR, enc_deco _ _ h1, enc_decR vs (k + 1) os' h2]
    · cases h

instance : Arg (On2 α) where
  arg x := encN pinR [] x.v
  un v := (decN pinR [] v).map On2.mk
  un_arg x := by
    obtain ⟨o⟩ := x
    cases o with
    | nil => simp [encN, decN, Sh.beq]
    | of os => simp [encN, decN, Sh.beq, decR_enc]
  arg_un v x h := by
    simp only [Option.map_eq_some_iff] at h
    obtain ⟨o, h1, rfl⟩ := h
    unfold decN at h1
    split at h1
    · rename_i t g lo vs
      split at h1
      · rename_i ht
        subst ht
        split at h1
        · rename_i hc
          simp only [Option.some.injEq] at h1; subst h1
          obtain ⟨hb, rfl, he⟩ := hc
          have hb := Sh.beq_eq _ _ hb
          have he : vs = [] := by simpa using he
          subst hb; subst he; rfl
        · cases h1
      · split at h1
        · rename_i hc
          simp only [Option.map_eq_some_iff] at h1
          obtain ⟨os, h2, rfl⟩ := h1
          obtain ⟨rfl, hb, rfl⟩ := hc
          have hb := Sh.beq_eq _ _ hb
          subst hb
          simp only [encN, enc_decR _ _ _ h2]
        · cases h1
    · cases h1

end
section
variable {α : Type}
end
section
variable {α : Type} [Enc α]

end
end Go.Zq
