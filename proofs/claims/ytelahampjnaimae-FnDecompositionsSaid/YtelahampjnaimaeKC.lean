/- slices.Clone of a list of ints: what the library has proved of it, as a contract. No further condition. -/
import Derived.Test.YtelahampjnaimaeK4
import Derived.Shelf.Slices.In.Clone
import Derived.Ground.Names2Prog
import Derived.Shelf.Lay
import Derived.Sort.EveryDepth
set_option linter.unusedVariables false
set_option linter.unusedSimpArgs false
namespace Go.Proofs
open Go.Shelf Go.RowKit Go.Lib
variable {P : Program} {ρ : Ren}
set_option maxHeartbeats 2000000 in
set_option maxRecDepth 100000 in
theorem AnyS.slices_Clone_int_bare_in (L : Lays2.n15 P ρ) (D : Nat) (a : Addr) (c : Nat) (w : World) :
    CallsIn (Fence.list [ρ.f 15] (some D)) 0 P (ρ.f 15) #[.slice (some a) 0 c] w fun e w' => e = .returned (.slice (some ⟨w.heap.size, 0, none⟩) 0 0) ∧ Below w.heap.size w w' := by
 have mixed := L.mixed; have t3 := L.t3; have a3 := L.a3; have z3 := L.z3; have v3 := L.v3; have t4 := L.t4; have a4 := L.a4; have z4 := L.z4; have v4 := L.v4; have t22 := L.t22; have a22 := L.a22; have z22 := L.z22; have v22 := L.v22
 obtain ⟨i0, hi, hz0, hz1, hz2⟩ := info_parts L.i3
 have q22 : ∀ (w : World) (a : Option Addr) (n c n' c' : Nat), (binOp .eql (ρ.t 22) (.slice a n c) (.slice none n' c')).run P w = .ok (.bool a.isNone) w := fun w a n c n' c' => Lib.run_eql_slice_nil w _ _ a n c n' c' L.t22
 have u22 : ∀ w, Sem.run P (underlying (ρ.t 22)) w = .ok (TypeDesc.slice (ρ.t 3)) w := run_underlying t22
 gi_enter L.f15, Body2.n15_ntmps ρ
 gi_wp2_with (gi_at_builtin; refine wpListIn_append_fits _ rfl _ _ (ρ.t 22) rfl w.heap.size (ρ.t 3) i0 1 t22 hi hz1 w.heap.size 0 0 [] rfl (World.ownsRow_made w #[] 0 (Nat.le_refl _) (Nat.zero_le _) rfl) a 0 c [] rfl rfl (by intro j u hj; simp at hj) (by intro u hu; cases hu) (by omega) ?_)
 intro w1 hown hgrow
 gi_wp2
 go_ret
 refine ⟨rfl, ?_⟩
 exact ((Below.refl _ w).alloc (Nat.le_refl _) _).grown hgrow (by simp) (by intro k hk; simp at hk; omega)
end Go.Proofs
namespace Go.Zq
open Go.Proofs Go.Shelf Go.RowKit Go.Lib
def cloneT (xs : List Int) : Option (List Int) := if xs.length ≤ 1000000000000 then some xs else none
def cloneO (xs : List Int) : Option (NL Int) := if xs.length ≤ 1000000000000 then some (if xs.isEmpty then .nil else .of xs) else none
theorem relCs_ints {w : World} {S : Nat → Prop} {τ : Tok → Blk} : ∀ (xs : List Int) (cs : List Value), yC w S τ (xs.map Enc.enc) cs ↔ cs = xs.map (Value.int .i64)
 | [], cs => by simp [yC]
 | x :: xs, cs => by
   simp only [List.map_cons, yC]
   have ih := relCs_ints (w := w) (S := S) (τ := τ) xs
   have e : (Enc.enc x : V) = .int .i64 x := rfl
   rw [e]
   have es : (V.int .i64 x).shape.size = 1 := rfl
   rw [es, ih]
   simp only [zT]
   constructor
   · rintro ⟨h1, h2⟩
     cases cs with
     | nil => simp at h1
     | cons c cs =>
       simp only [List.take_succ_cons, List.take_zero, List.cons.injEq, and_true, List.drop_succ_cons, List.drop_zero] at h1 h2
       rw [h1, h2]
   · rintro rfl
     simp
theorem own_rel {w : World} {S : Nat → Prop} {τ : Tok → Blk} {base : Nat} {e : TypeId} {v : Value} {xs : List Int} (h : w.ownsRow base e 1 v xs.length (xs.map (Value.int .i64))) (hS : ∀ b, base ≤ b → b < w.heap.size → S b) :
    zR w S τ (Enc.enc xs) v := by
 have ee : (Enc.enc xs : V) = .sl .sh .s 0 (xs.map Enc.enc) := rfl
 rw [ee]
 simp only [zR, zT]
 have hsh : ∀ x ∈ (xs.map Enc.enc : List V), x.shape = Sh.s := by
  intro x hx
  obtain ⟨y, _, rfl⟩ := List.mem_map.1 hx
  rfl
 have htk : V.tokss (xs.map Enc.enc) = [] := by
  clear h ee hsh
  induction xs with
  | nil => rfl
  | cons x xs ih => simp only [List.map_cons, V.tokss]; rw [ih]; rfl
 obtain ⟨_, ⟨rfl, hn⟩ | ⟨g, cap, cur, rfl, hb, hg, hc, _, hsz, htake⟩⟩ := h
 · exact ⟨none, 0, by rw [List.length_map, hn], by rw [List.length_map, hn]; exact Nat.le_refl _, hsh, fun _ => htk, .inl rfl⟩
 · refine ⟨_, cap, by rw [List.length_map], by rw [List.length_map]; exact hc, hsh, fun _ => htk, .inr ⟨g, 0, cur, e, (0, 0), rfl, hg, hS g hb ?_, ?_, ?_⟩⟩
   · exact (Array.getElem?_eq_some_iff.1 hg).1
   · have : Sh.size .s = 1 := rfl
     rw [this]; omega
   · rw [relCs_ints]
     have : Sh.size .s = 1 := rfl
     rw [this, List.length_map, List.drop_zero]; exact htake
theorem toks_list (xs : List Int) : (Enc.enc xs : V).toks = [] := by
 have ee : (Enc.enc xs : V) = .sl .sh .s 0 (xs.map Enc.enc) := rfl
 rw [ee]
 simp [V.toks, yl]
theorem clone_run {P : Program} {ρ : Ren} (L : Lays2.n15 P ρ) {xs : List Int} (hx : xs.length ≤ 1000000000000) {w : World} {S : Nat → Prop} {τ : Tok → Blk} {c : Value} (hr : zR w S τ (Enc.enc xs) c)
    {Q : Ending → World → Prop} (h1 : xs = [] → Q (.returned (.slice none 0 0)) w) (h2 : xs = [] → ∀ w', Below w.heap.size w w' → Q (.returned (.slice (some ⟨w.heap.size, 0, none⟩) 0 0)) w')
    (h3 : xs ≠ [] → ∀ v' w', w'.ownsRow w.heap.size (ρ.t 3) 1 v' xs.length (xs.map (Value.int .i64)) → Below w.heap.size w w' → Q (.returned v') w') : Calls P (ρ.f 15) #[c] w Q := by
 have ee : (Enc.enc xs : V) = .sl .sh .s 0 (xs.map Enc.enc) := rfl
 rw [ee] at hr
 simp only [zR, zT] at hr
 obtain ⟨a, cap, hc, hlen, _, _, hcell⟩ := hr
 rw [List.length_map] at hc hlen hcell
 obtain rfl : c = .slice a xs.length cap := by simpa using hc
 by_cases hxe : xs = []
 · subst hxe
   cases a with
   | none =>
     refine (calls_of_every_depth fun D => AnyS.slices_Clone_int_nil_in L D 0 cap w).mono ?_
     rintro e w' ⟨rfl, rfl⟩
     exact h1 rfl
   | some a =>
     refine (calls_of_every_depth fun D => AnyS.slices_Clone_int_bare_in L D a cap w).mono ?_
     rintro e w' ⟨rfl, hb⟩
     exact h2 rfl w' hb
 · have hpos : 0 < xs.length := List.length_pos_iff.2 hxe
   rcases hcell with h0 | ⟨b, off, arr, ty, fz, rfl, hb, _, hsz, hcs⟩
   · omega
   · rw [relCs_ints] at hcs
     have hs1 : Sh.size .s = 1 := rfl
     rw [hs1] at hcs hsz
     refine (calls_of_every_depth fun D => AnyS.slices_Clone_int_in L D b off xs.length cap xs w (Nat.le_refl _) (by omega) ?_).mono ?_
     · intro j hj
       unfold World.cell?
       simp only [hb]
       have hq : ((arr.toList.drop off).take (xs.length * 1))[j]? = (xs.map (Value.int .i64))[j]? := by rw [hcs]
       rw [List.getElem?_take_of_lt (by omega), List.getElem?_drop, List.getElem?_map, List.getElem?_eq_getElem hj] at hq
       rw [List.getD_eq_getElem?_getD, List.getElem?_eq_getElem hj]
       simpa using hq
     · rintro e w' ⟨v', rfl, ho, _, hbl⟩
       rw [List.take_length] at ho
       exact h3 hxe v' w' ho hbl
theorem clone_con {P : Program} {ρ : Ren} (L : Lays2.n15 P ρ) {xs : List Int} {r : List Int} (hx : cloneT xs = some r) : Xz P (ρ.f 15) 0 false [Enc.enc xs] (Enc.enc r) := by
 unfold cloneT at hx
 split at hx
 · rename_i hl
   cases hx
   intro d w S τ vals hS hv _
   obtain ⟨c, cs', h1, h2, h3⟩ := hv
   have h3 : cs' = [] := h3
   subst h3
   obtain rfl : vals = #[c] := by cases vals; simp_all
   have e0 : V.tag d [] 0 (Enc.enc xs) = Enc.enc xs := rfl
   rw [e0, toks_list]
   refine clone_run L hl h2 ?_ ?_ ?_
   · rintro rfl
     refine ⟨_, τ, rfl, .refl _ _, by simp, by simp, own_rel (base := w.heap.size) (e := ρ.t 3) ⟨rfl, .inl ⟨rfl, rfl⟩⟩ fun b h1 h2 => ⟨.inr h1, h2, by simp⟩⟩
   · rintro rfl w' hb
     refine ⟨_, τ, rfl, hb, by simp, by simp, ?_⟩
     have ee : (Enc.enc ([] : List Int) : V) = .sl .sh .s 0 [] := rfl
     rw [ee]
     simp only [zR, zT]
     exact ⟨_, 0, rfl, Nat.le_refl _, by simp, fun _ => rfl, .inl rfl⟩
   · intro _ v' w' ho hb
     exact ⟨_, τ, rfl, hb, by simp, by simp, own_rel ho fun b h1 h2 => ⟨.inr h1, h2, by simp⟩⟩
 · cases hx
theorem clone_conO {P : Program} {ρ : Ren} (L : Lays2.n15 P ρ) {xs : List Int} {r : NL Int} (hx : cloneO xs = some r) : Xz P (ρ.f 15) 1 false [Enc.enc xs] (zh .sh r) := by
 unfold cloneO at hx
 split at hx
 · rename_i hl
   cases hx
   intro d w S τ vals hS hv _
   obtain ⟨c, cs', h1, h2, h3⟩ := hv
   have h3 : cs' = [] := h3
   subst h3
   obtain rfl : vals = #[c] := by cases vals; simp_all
   by_cases hxe : xs = []
   · subst hxe
     have e0 : V.tag d [] 1 (zh .sh (NL.nil : NL Int)) = .sl .nl .s 0 [] := rfl
     rw [show (if ([] : List Int).isEmpty then (NL.nil : NL Int) else NL.of []) = NL.nil from rfl, e0]
     have et : (V.sl .nl .s 0 []).toks = [] := by simp [V.toks, V.tokss]
     rw [et]
     refine clone_run L hl h2 ?_ ?_ ?_
     · intro _
       refine ⟨_, τ, rfl, .refl _ _, by simp, by simp, ?_⟩
       simp only [zR, zT]
       exact ⟨_, 0, rfl, Nat.le_refl _, by simp, fun _ => rfl, .inl rfl⟩
     · intro _ w' hb
       refine ⟨_, τ, rfl, hb, by simp, by simp, ?_⟩
       simp only [zR, zT]
       exact ⟨_, 0, rfl, Nat.le_refl _, by simp, fun _ => rfl, .inl rfl⟩
     · intro h; exact absurd rfl h
   · have hi : xs.isEmpty = false := by cases xs with
      | nil => exact absurd rfl hxe
      | cons _ _ => rfl
     rw [hi, if_neg (by simp)]
     have hpos : 0 < xs.length := List.length_pos_iff.2 hxe
     have hsh : ∀ x ∈ (xs.map Enc.enc : List V), x.shape = Sh.s := by
      intro x hx
      obtain ⟨y, _, rfl⟩ := List.mem_map.1 hx
      rfl
     have e0 : V.tag d [] 1 (zh .sh (NL.of xs)) = .sl (.at d []) .s 0 (xs.map Enc.enc) := rfl
     rw [e0]
     have et : (V.sl (.at d []) .s 0 (xs.map Enc.enc : List V)).toks = [.at d []] := by
      simp [V.toks, yl]
     rw [et]
     refine clone_run L hl h2 (fun h => absurd h hxe) (fun h => absurd h hxe) ?_
     intro _ v' w' ho hb
     obtain ⟨_, ⟨rfl, hn⟩ | ⟨g, cap, cur, rfl, hg0, hg, hc, _, hsz, htake⟩⟩ := ho
     · omega
     · have hgs := (Array.getElem?_eq_some_iff.1 hg).1
       refine ⟨_, fun _ => ⟨g, 0, .s⟩, rfl, hb, ?_, ?_, ?_⟩
       · intro k hk
         obtain rfl : k = .at d [] := by simpa using hk
         exact ⟨rfl, hg0, hgs⟩
       · intro k hk k' hk' _
         rw [show k = Tok.at d [] by simpa using hk, show k' = Tok.at d [] by simpa using hk']
       · simp only [zR, zT]
         refine ⟨_, cap, by rw [List.length_map], by rw [List.length_map]; exact hc, hsh, (fun h => by cases h), .inr ⟨g, 0, cur, _, (0, 0), rfl, hg, ⟨rfl, rfl, rfl, rfl⟩, ?_, ?_⟩⟩
         · have : Sh.size .s = 1 := rfl
           rw [this]; omega
         · rw [relCs_ints]
           have : Sh.size .s = 1 := rfl
           rw [this, List.length_map, List.drop_zero]; exact htake
 · cases hx
theorem con_plain {P : Program} {f m : Nat} {al : Bool} {args : List V} {r : V} (h : Xz P f m al args r) (hm : Nat.ble zP m = false) : vd P f m al args r := by
 unfold vd
 rw [if_neg (by rintro rfl; exact absurd hm (by decide)), if_neg (by rintro rfl; exact absurd hm (by decide)), if_neg (by rintro rfl; exact absurd hm (by decide))]
 exact h
end Go.Zq
