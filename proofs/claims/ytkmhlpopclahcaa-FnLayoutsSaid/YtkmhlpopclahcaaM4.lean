/- Plain mathematics: what the functions answer (part 4). Conditions: stated in each theorem. -/
import Derived.Test.YtkmhlpopclahcaaM3
import Derived.Test.YtkmhlpopclahcaaM2
import Derived.Test.YtkmhlpopclahcaaM1
set_option linter.unusedVariables false
set_option linter.unusedSimpArgs false
namespace Go.Zq
end Go.Zq
namespace Go.Zq
end Go.Zq
namespace Go.Zq
def cod (s : Nat × Nat) : Nat := s.1 + 256 * s.2
theorem zbi {l : List Nat} {N : Nat} (hn : l.Nodup) (h : ∀ x ∈ l, x < N) : l.length ≤ N := by
 have := Mj N (l.map fun x : Nat => (x : Int)) (by
  rw [List.nodup_iff_pairwise_ne] at hn ⊢
  rw [List.pairwise_map]
  exact hn.imp fun h => by omega) (by
  intro x hx
  obtain ⟨y, hy, rfl⟩ := List.mem_map.1 hx
  have := h y hy
  omega)
 have h2 := Ze (p := fun j => decide ((j : Int) ∈ l.map fun x : Nat => (x : Int))) (n := N)
 rw [this, List.length_map] at h2
 exact h2
structure Bfs (g : Gr) (k : Int) (T : List (Nat × Nat)) (P : List (NL Int)) (sn : List Bool) : Prop where
 fst : T[0]? = some (0, 2 ^ g.1.toNat - 1)
 rch : ∀ s ∈ T, Rch g k s
 pln : P.length = T.length
 prg : ∀ i, i < P.length → (P.getD i .nil).list.length ≤ i
 sln : sn.length = 65536
 see : ∀ c, c < 65536 → (sn.getD c false = true ↔ ∃ s ∈ T.tail, cod s = c)
 nod : (T.tail.map cod).Nodup
theorem Bfs.len {g : Gr} {k : Int} {T : List (Nat × Nat)} {P : List (NL Int)} {sn : List Bool} (hg : y7 g = true) (h6 : g.1 ≤ 6) (hk : 0 ≤ k) (h : Bfs g k T P sn) : T.length ≤ 16385 := by
 have := zbi (N := 16384) h.nod (by
  intro c hc
  obtain ⟨s, hs, rfl⟩ := List.mem_map.1 hc
  have hst := zhl hg hk (h.rch s (List.mem_of_mem_tail hs))
  have hp := Nat.pow_le_pow_right (n := 2) (by decide) (show g.1.toNat ≤ 6 by omega)
  have h1 := hst.lt1
  have h2 := hst.lt2
  unfold cod
  omega)
 rw [List.length_map, List.length_tail] at this
 omega
end Go.Zq
namespace Go.Zq
end Go.Zq
namespace Go.Zq
end Go.Zq
namespace Go.Zq
section
variable {g : Gr} {l : List Int}
theorem zbj (hg : y7 g = true) (ho : xM g.1 l = true) {i : Nat} (hi : i < l.length) : ∃ x : Nat, l.getD i 0 = (x : Int) ∧ x < g.1.toNat := by
 have h8 := z2 hg
 have hr := Ut ho h8.1 _ (ue (d := 0) hi)
 exact ⟨(l.getD i 0).toNat, by omega, by omega⟩
theorem zgX (hg : y7 g = true) (ho : xM g.1 l = true) {b : Nat} (hb : b < g.1.toNat) : ∃ t, t < l.length ∧ l.getD t 0 = (b : Int) := by
 have := Jf ho (x := (b : Int)) (by omega) (by omega)
 obtain ⟨t, ht, he⟩ := List.mem_iff_getElem.1 this
 exact ⟨t, ht, by rw [List.getD_eq_getElem?_getD, List.getElem?_eq_getElem ht]; exact he⟩
end
end Go.Zq
namespace Go.Zq
def frS (g : Gr) (l : List Int) (i : Nat) : Int := ((yD (frt g (xz l i)) g.1.toNat : Nat) : Int)
theorem K6 {g : Gr} {l : List Int} {n i : Nat} (h : i < n) : (xE g l n).getD i 0 = frS g l (i + 1) := by
 simp [xE, frS, List.getD_eq_getElem?_getD, h]
theorem zer {F : Nat} {w : S1 (List Int)} {l : List Int} : ∀ (k : Nat) (zs : List Int) (s t : Int), wr F w l k zs s t = (y5 F w l k zs s t).map fun r => (r.1.list, r.2)
 | 0, _, _, _ => rfl
 | k + 1, zs, s, t => by
   simp only [wr, y5, Option.map_bind, YC, zer k, Function.comp_def, Option.map_some, NL.list]
theorem J1 {F : Nat} {g : Gr} {l : List Int} : x7 F g l = (Yy F g l).map fun r => (r.1.list, r.2) := by
 simp only [x7, Yy, w9, vr, Option.map_bind, YC, zer, Function.comp_def, Option.map_some, NL.list]
theorem zci {F : Nat} {b : List Int} {cl} {w : S1 (List Int)} {o : NL Int} {s : Int} {q : List Int} {c : NL Int → Int → Option (List Int)} {c' : NL Int → Int → Option (NL Int)} (hc : ∀ o s, c o s = (c' o s).map NL.list) :
    ∀ (k : Nat) (t : Int), zZ F b cl w o s q c k t = (zQ F b cl w o s q c' k t).map NL.list
 | 0, _ => rfl
 | k + 1, t => by
   simp only [zZ, zQ, Option.map_bind, YC, zci hc k, hc, Function.comp_def]
theorem zc9 {F : Nat} {b : List Int} {cl} {w : S1 (List Int)} :
    ∀ (k : Nat) (o : NL Int) (s : Int), zT F b cl w k o s = (zG F b cl w k o s).map NL.list
 | 0, _, _ => rfl
 | k + 1, o, s => by
   simp only [zT, zG, Option.map_bind, YC, zci (zc9 k), Function.comp_def, Option.map_some]
theorem J9 {F : Nat} {g : Gr} : xH F g = (uU F g).map fun r => (r.1.list, r.2) := by
 simp only [xH, uU, ya, yX, Option.map_bind, YC, zc9, Function.comp_def, Option.map_some, NL.list, Option.bind_map]
theorem zdp {F : Nat} {s : Int} : uk F s = (JI F s).map NL.list := XI F .nil 0
theorem Nv {F : Nat} {g : Gr} {l : List Int} : uD F g l = (Wy F g l).map fun r => (r.1.list, r.2) := by
 simp only [uD, Wy, zdp, Option.map_bind, YC, Function.comp_def, Option.map_some, NL.list, Option.bind_map]
section
variable {g : Gr} {l : List Int}
theorem Ws (hg : y7 g = true) (ho : xM g.1 l = true) {i : Nat} : (mkm (xz l i) g.1.toNat).testBit = xz l i := by
 have h8 := z2 hg
 have hr := Ut ho h8.1
 funext j
 rw [xc]
 by_cases hj : j < g.1.toNat
 · simp [hj]
 · rw [decide_eq_false hj, Bool.false_and]
   symm
   unfold xz
   rw [decide_eq_false_iff_not]
   intro h
   have := hr _ (List.mem_of_mem_take h)
   omega
theorem LV (hg : y7 g = true) (ho : xM g.1 l = true) {i x : Nat} (hi : i < l.length) (hx : l.getD i 0 = (x : Int)) (hxn : x < g.1.toNat) : mkm (xz l (i + 1)) g.1.toNat = mkm (xz l i) g.1.toNat ||| 2 ^ x := by
 apply Nat.eq_of_testBit_eq
 intro j
 rw [Nat.testBit_or, Ws hg ho, Ws hg ho, Nat.testBit_two_pow, Yo hi hx]
 by_cases e : x = j
 · subst e; simp
 · have h1 : decide (x = j) = false := by simpa using e
   have h2 : (j == x) = false := by simp; omega
   rw [h1, h2]
theorem LD : mkm (xz l 0) g.1.toNat = 0 := by
 apply Nat.eq_of_testBit_eq; intro j; rw [xc]; simp [xz]
theorem zdQ (hg : y7 g = true) (ho : xM g.1 l = true) : mkm (xz l l.length) g.1.toNat = 2 ^ g.1.toNat - 1 := by
 refine NB YX fun x hx => ?_
 rw [Ws hg ho]
 obtain ⟨t, ht, he⟩ := zgX hg ho hx
 unfold xz
 rw [decide_eq_true_iff, List.take_length]
 have : l.getD t 0 ∈ l := ue ht
 rw [he] at this; exact this
theorem Nc (hg : y7 g = true) (ho : xM g.1 l = true) {i : Nat} : frC g (mkm (xz l i) g.1.toNat) = frS g l i := by
 unfold frC frS; rw [Ws hg ho]
theorem ziZ (hg : y7 g = true) (ho : xM g.1 l = true) {t : Int} (h : ∀ i, i < l.length → frS g l (i + 1) ≤ t) : Ch g.1.toNat (frC g) t 0 (2 ^ g.1.toNat - 1) := by
 have h8 := z2 hg
 have key : ∀ i, i ≤ l.length → Ch g.1.toNat (frC g) t 0 (mkm (xz l i) g.1.toNat) := by
  intro i
  induction i with
  | zero => intro _; rw [LD]; exact .refl _
  | succ i ih =>
    intro hi
    obtain ⟨x, hx, hxn⟩ := zbj hg ho (show i < l.length by omega)
    rw [LV hg ho (by omega) hx hxn]
    refine zcq (ih (by omega)) hxn ?_ ?_
    · rw [Ws hg ho]; exact LR ho h8.1 (by omega) hx
    · rw [← LV hg ho (by omega) hx hxn, Nc hg ho]; exact h i (by omega)
 have := key l.length (Nat.le_refl _)
 rwa [zdQ hg ho] at this
theorem zkj {n : Nat} {T : Nat → Int} {t : Int} {d m : Nat} (hn : g.1.toNat = n) (h : Grd n (fun m x => decide (max (frP g m x) (T (m ||| 2 ^ x)) ≤ t)) d m l) : ∀ b : List Int, bq b = m.testBit →
    bq (b ++ l) = (2 ^ n - 1).testBit ∧ ∀ i, i < l.length → ((yD (frt g (bq (b ++ l.take (i + 1)))) n : Nat) : Int) ≤ t := by
 induction h with
 | done => intro b hb; exact ⟨by rw [List.append_nil, hb], fun i hi => by simp at hi⟩
 | step hm hf _ ih =>
   rename_i d m x l _
   intro b hb
   have hx := Zj hf
   have hbx : bq (b ++ [(x : Int)]) = (m ||| 2 ^ x).testBit := by
    funext j
    rw [Nat.testBit_or, Nat.testBit_two_pow, ← hb]
    unfold bq
    rw [Bool.eq_iff_iff]
    have : ((j : Int) = (x : Int)) ↔ x = j := by omega
    simp [this]
   obtain ⟨h1, h2⟩ := ih _ hbx
   rw [List.append_assoc] at h1
   refine ⟨h1, fun i hi => ?_⟩
   cases i with
   | zero =>
     have hp : max (frP g m x) (T (m ||| 2 ^ x)) ≤ t := by have := hx.2.1; simp only [Bool.and_eq_true, decide_eq_true_eq] at this; exact this.2
     have : frP g m x ≤ t := by omega
     unfold frP frC at this
     rw [hn, ← hbx] at this
     simpa using this
   | succ i =>
     have := h2 i (by simpa using hi)
     rw [List.append_assoc] at this
     exact this
theorem zdt (n : Nat) : yD (fun j => !(0 : Nat).testBit j) n = n := by simp [yD]
theorem zak {n : Nat} (hl : l.length = n) (h : bq l = (2 ^ n - 1).testBit) : xM (n : Int) l = true := by
 unfold xM
 rw [Bool.and_eq_true]
 refine ⟨by simp [hl], ?_⟩
 rw [yI]
 intro j hj
 have := congrFun h j
 unfold bq at this
 rw [this, Nat.testBit_two_pow_sub_one]
 simpa using hj
theorem zaV {F : Nat} (hg : y7 g = true) (h9 : 300 ≤ F) (hG : g.2.length < F) (hs : Sm g.2.length) :
    ∃ w l, 0 ≤ w ∧ xJ F g = some (w, true) ∧ xI F g = some (w, true) ∧ x6 F g = some (l, true) ∧ xH F g = some (l, true) ∧ xM g.1 l = true ∧ (∀ i, i < l.length → frS g l (i + 1) ≤ w) ∧
     ∀ t, 0 ≤ t → (w ≤ t ↔ Ch g.1.toNat (frC g) t 0 (2 ^ g.1.toNat - 1)) := by
 have h8 := z2 hg
 have hpow := Nat.two_pow_pos g.1.toNat
 have hp256 := JF (n := g.1.toNat) (by omega)
 obtain ⟨best, b1, b2, b3⟩ := WA (F := F) (nn := 0) hg h9
 have hpw := zed hg h9 hG hs b2 b3
 have hT0 : 0 ≤ best.getD 0 0 := by
  have h := b3 0 hpow
  have h : best.getD 0 0 = _ := h
  rw [h]
  by_cases he : wF g.1.toNat 0 = []
  · rw [he]; exact Int.le_refl _
  · refine W2 he fun y _ => ?_
    have := Zv (g := g) (m := 0 ||| 2 ^ y.toNat)
    have : 0 ≤ frP g 0 y.toNat := this
    show 0 ≤ max (frP g 0 y.toNat) _
    omega
 have hc0 := zdt g.1.toNat
 have hf0 : frC g 0 ≤ best.getD 0 0 := by
  unfold frC
  rw [← yN, Mb (fun j => Nat.zero_testBit j)]
  exact hT0
 obtain ⟨l, hl, hsr⟩ := (zdI (F := F) (T := fun m => best.getD m 0) hg h9 hG hs b3 hT0 g.1.toNat 0 [] F hpow (by funext j; simp [bq]) (by simp) (by simp) hc0 (by omega)).1 hf0 (Int.le_refl _)
 obtain ⟨o, f1, f2⟩ := J0 hg h9 b2 hl .nil F (by omega) (by show 0 + g.1.toNat ≤ 100; omega)
 have hgd := zkj (g := g) (T := fun m => best.getD m 0) rfl hl [] (by funext j; simp [bq])
 have hio : uU F g = some (o, true) := by
  unfold uU
  rw [vx hG (by omega) hs, Option.bind_some, hg, Bool.not_true, cond_false, X5 hg hG hs, Option.bind_some, b1, Option.bind_some]
  unfold yX
  have f1' : zG F best ⟨(⟨yZ g⟩, ()), ()⟩ ⟨yZ g⟩ F .nil 0 = some o := f1
  rw [f1', Option.bind_some]
 have f2' : o.list = l := f2
 have hgn : ((g.1.toNat : Nat) : Int) = g.1 := by omega
 refine ⟨best.getD 0 0, l, hT0, ?_, ?_, ?_, ?_, ?_, ?_, ?_⟩
 · unfold xJ
   rw [uB hG hs, Option.bind_some, hg, Bool.not_true, cond_false, hpw, Option.bind_some]
 · unfold xI
   rw [vx hG (by omega) hs, Option.bind_some, hg, Bool.not_true, cond_false, X5 hg hG hs, Option.bind_some]
   have := (zkm hg h9 hG hs).1
   rw [← this, hpw, Option.bind_some]
 · unfold x6
   rw [uB hG hs, Option.bind_some, hg, Bool.not_true, cond_false, hpw, Option.bind_some]
   have hsr' : Uf F g [] (best.getD 0 0) = some ([] ++ l, true) := hsr
   rw [hsr', Option.bind_some]
   rfl
 · rw [J9, hio]
   show some (o.list, true) = _
   rw [f2']
 · have := zak (zhc hl) hgd.1
   rwa [hgn] at this
 · intro i hi
   exact hgd.2 i hi
 · intro t ht
   exact N3 (c := frC g) (by omega) b3 ht 0 hpow
end
end Go.Zq
namespace Go.Zq
def Ck (a : LB) (b : Int) (m : Nat) : Prop := (∀ y ∈ a, 0 ≤ y.v ∧ y.v ≤ 255) ∧ 0 ≤ b ∧ b ≤ m
theorem Ck.le {a : LB} {b : Int} {m m' : Nat} (h : Ck a b m) (hm : m ≤ m') : Ck a b m' := ⟨h.1, h.2.1, by have := h.2.2; omega⟩
theorem zfk {q : Int} : 0 ≤ z6 .u64 q 255 ∧ z6 .u64 q 255 ≤ 255 := by
 unfold z6
 have h : (BitVec.ofInt IntKind.u64.bits q &&& BitVec.ofInt IntKind.u64.bits 255).toNat ≤ 255 := by
  rw [BitVec.toNat_and]
  exact Nat.le_trans Nat.and_le_right (by decide)
 generalize (BitVec.ofInt IntKind.u64.bits q &&& BitVec.ofInt IntKind.u64.bits 255).toNat = n at h
 have e : IntKind.wrap .u64 (n : Int) = n := by
  simp only [IntKind.wrap, IntKind.bits, IntKind.signed, Bool.false_and]
  have e1 : ((2 : Int) ^ 64) = 18446744073709551616 := by decide
  simp only [e1]
  split
  · rename_i hh; cases hh
  · omega
 rw [e]; omega
theorem zoi (q : Int) : 0 ≤ w64 (z6 .u64 q 255) ∧ w64 (z6 .u64 q 255) ≤ 255 := by
 have := zfk (q := q)
 rw [xW (by omega) (by omega)]; exact this
section
variable {F : Nat} {c : CC} {m : Nat}
theorem zaB {x : Int} (h : Ck c.v.a c.v.b m) (hm : m < 1000000) (h0 : 0 ≤ x) (hx : x ≤ 255) : ∃ r c', wu F c x = some (r, c') ∧ 0 ≤ r ∧ r ≤ 255 ∧ Ck c'.a c'.b (m + 1) := by
 have hb := h.2
 have hw : w64 (c.v.b + 1) = c.v.b + 1 := xW (by omega) (by omega)
 unfold wu
 rw [hw]
 have hk : Ck c.v.a (c.v.b + 1) (m + 1) := ⟨h.1, by omega, by omega⟩
 cases decide ((c.v.b + 1) ≤ (c.v.a.length : Int)) with
 | true => exact ⟨x, _, rfl, h0, hx, hk⟩
 | false =>
   exact ⟨_, _, rfl, (zoi _).1, (zoi _).2, hk⟩
theorem zbS (h : Ck c.v.a c.v.b m) (hm : m < 1000000) : ∃ r c', xZ F c = some (r, c') ∧ 0 ≤ r ∧ r ≤ 255 ∧ Ck c'.a c'.b (m + 1) := by
 unfold xZ
 by_cases hd : c.v.b < (c.v.a.length : Int)
 · rw [decide_eq_true hd, cond_true]
   have hb := h.2
   obtain ⟨i, hi⟩ : ∃ i : Nat, c.v.b = i := ⟨c.v.b.toNat, by omega⟩
   rw [hi, XS (by omega), Option.bind_some]
   have hy := h.1 _ (List.getElem_mem (show i < c.v.a.length by omega))
   rw [xW (by omega) (by omega)]
   exact zaB h hm hy.1 hy.2
 · rw [decide_eq_false hd, cond_false]
   exact zaB h hm (by omega) (by omega)
theorem uW {n : Int} (h : Ck c.v.a c.v.b m) (hm : m < 900000) : ∃ r c', ye F c n = some (r, c') ∧ 0 ≤ r ∧ (1 ≤ n → r < n) ∧ (n ≤ 1 → r = 0) ∧ Ck c'.a c'.b (m + 2) := by
 unfold ye
 have rem : ∀ (v : Int) (c' : CU), 0 ≤ v → 1 < n → Ck c'.a c'.b (m + 2) → ∃ r c'', wt F n c'.a c'.b c'.c.v v = some (r, c'') ∧ 0 ≤ r ∧ (1 ≤ n → r < n) ∧ (n ≤ 1 → r = 0) ∧ Ck c''.a c''.b (m + 2) := by
  intro v c' hv hn hk
  have e : zfj .i64 v n = some (v.tmod n) := by unfold zfj; rw [if_neg (by omega)]
  unfold wt
  rw [e]
  exact ⟨_, _, rfl, Int.tmod_nonneg _ hv, fun _ => Int.tmod_lt_of_pos _ (by omega), fun h => by omega, hk⟩
 by_cases hn : n ≤ 1
 · rw [decide_eq_true hn, cond_true]
   exact ⟨0, _, rfl, by omega, fun h => by omega, fun _ => rfl, h.le (by omega)⟩
 · rw [decide_eq_false hn, cond_false]
   obtain ⟨r, c1, e1, h1, h2, k1⟩ := zbS (F := F) (c := Cu.mk c.v) h (by omega)
   rw [e1, Option.bind_some]
   by_cases h200 : n > 200
   · rw [decide_eq_true h200, cond_true]
     obtain ⟨r', c2, e2, h3, h4, k2⟩ := zbS (F := F) (c := Cu.mk c1) k1 (by omega)
     have e2' : xZ F (Cu.mk (r, c1).2) = some (r', c2) := e2
     rw [e2', Option.bind_some]
     refine rem _ c2 ?_ (by omega) k2
     show 0 ≤ w64 ((w64 (r * 256)) + r')
     rw [xW (x := r * 256) (by omega) (by omega), xW (by omega) (by omega)]; omega
   · rw [decide_eq_false h200, cond_false]
     exact rem r c1 h1 (by omega) (k1.le (by omega))
theorem UV {xs : List Int} (h : Ck c.v.a c.v.b m) (hm : m < 900000) (hx : 0 < xs.length) : ∃ r c', yJ F c xs = some (r, c') ∧ r ∈ xs ∧ Ck c'.a c'.b (m + 2) := by
 unfold yJ
 obtain ⟨r, c1, e1, h1, h2, _, k1⟩ := uW (F := F) (c := Cu.mk c.v) (n := (xs.length : Int)) h hm
 rw [e1, Option.bind_some]
 have := h2 (by omega)
 obtain ⟨i, hi⟩ : ∃ i : Nat, r = i := ⟨r.toNat, by omega⟩
 subst hi
 have e : idx xs ((i : Int), c1).1 = some xs[i] := XS (by omega)
 rw [e]
 exact ⟨_, _, rfl, List.getElem_mem _, k1⟩
theorem za7 {n : Int} (h : Ck c.v.a c.v.b m) (hm : m < 900000) : ∃ r c', xN F c n = some (r, c') ∧ Ck c'.a c'.b (m + 2) := by
 unfold xN
 obtain ⟨r, c1, e1, _, _, _, k1⟩ := uW (F := F) (c := Cu.mk c.v) (n := n) h hm
 rw [e1]
 exact ⟨_, _, rfl, k1⟩
def GOk (x : Option (GR × CU)) : Prop := ∃ g c', x = some (g, c') ∧ g.2.length ≤ 400 ∧ Ck c'.a c'.b 5000
theorem Ug {α : Type} {xs ys : List α} (h : xs.length + ys.length ≤ 1000) : wM xs ys = some (xs ++ ys) := by
 unfold wM
 rw [if_pos (Nat.le_trans h (by decide))]
theorem zdx {o : Oh (Int × Int)} (h : Ck c.v.a c.v.b m) (hm : m ≤ 4000) (ho : o.v.length ≤ 300) : GOk (wl F c o) := by
 unfold wl
 obtain ⟨r, c1, e1, h1, h2, _, k1⟩ := uW (F := F) (c := Cu.mk c.v) (n := 50) h (by omega)
 rw [e1, Option.bind_some]
 have fin : GOk (some ((o.a, o.v), c1)) := ⟨_, _, rfl, by show o.v.length ≤ 400; omega, k1.le (by omega)⟩
 cases (r, c1).1 == 0 with
 | true =>
   rw [cond_true]
   obtain ⟨r, c2, e2, _, k2⟩ := UV (F := F) (c := Cu.mk c1) (xs := [(-1), 8, 9, 0, 4611686018427387904]) k1 (by omega) (by decide)
   have e2' : yJ F (Cu.mk (r, c1).2) [(-1), 8, 9, 0, 4611686018427387904] = some (r, c2) := e2
   rw [e2', Option.bind_some]
   exact ⟨_, _, rfl, by show o.v.length ≤ 400; omega, k2.le (by omega)⟩
 | false =>
   rw [cond_false]
   cases (r, c1).1 == 1 with
   | true =>
     rw [cond_true]
     obtain ⟨r2, c2, e2, _, _, _, k2⟩ := uW (F := F) (c := Cu.mk c1) (n := 4) k1 (by omega)
     have e2' : ye F (Cu.mk (r, c1).2) 4 = some (r2, c2) := e2
     rw [e2', Option.bind_some]
     obtain ⟨r3, c3, e3, _, _, _, k3⟩ := uW (F := F) (c := Cu.mk c2) (n := 9) k2 (by omega)
     have e3' : ye F (Cu.mk (r2, c2).2) 9 = some (r3, c3) := e3
     rw [e3', Option.bind_some, Ug (by simp; omega), Option.bind_some]
     exact ⟨_, _, rfl, by simp; omega, k3.le (by omega)⟩
   | false =>
     rw [cond_false]
     cases (r, c1).1 == 2 with
     | true =>
       rw [cond_true]
       by_cases hl : (o.v.length : Int) > 0
       · rw [decide_eq_true hl, cond_true]
         obtain ⟨r2, c2, e2, h3, h4, _, k2⟩ := uW (F := F) (c := Cu.mk c1) (n := (o.v.length : Int)) k1 (by omega)
         have e2' : ye F (Cu.mk (r, c1).2) (o.v.length : Int) = some (r2, c2) := e2
         rw [e2', Option.bind_some]
         have := h4 (by omega)
         obtain ⟨i, hi⟩ : ∃ i : Nat, r2 = i := ⟨r2.toNat, by omega⟩
         subst hi
         have e : idx o.v ((i : Int), c2).1 = some o.v[i] := XS (by omega)
         rw [e, Option.bind_some, Ug (by simp; omega), Option.bind_some]
         exact ⟨_, _, rfl, by simp; omega, k2.le (by omega)⟩
       · rw [decide_eq_false hl, cond_false]
         exact fin
     | false => exact fin
theorem Lk {a : LB} {b v n : Int} {xs : List (Int × Int)} (h : Ck a b m) (hm : m ≤ 4000) (ho : xs.length ≤ 300) : GOk (yx F a b v n (.of xs)) := by
 unfold yx
 obtain ⟨g, c', e, h1, h2⟩ := zdx (F := F) (c := cu a b v) (o := Oh.mk n xs) h hm ho
 show GOk (Option.bind (some xs) _)
 rw [Option.bind_some, e, Option.bind_some]
 exact ⟨g, c', rfl, h1, h2⟩
end
theorem zbO (K : Nat) : ∀ n : Nat, n ≤ 8 → ∃ l, uy (K + 20) (n : Int) = some ((n : Int), .of l) ∧ l.length ≤ 10
 | 0, _ => ⟨_, rfl, by decide⟩
 | 1, _ => ⟨_, rfl, by decide⟩
 | 2, _ => ⟨_, rfl, by decide⟩
 | 3, _ => ⟨_, rfl, by decide⟩
 | 4, _ => ⟨_, rfl, by decide⟩
 | 5, _ => ⟨_, rfl, by decide⟩
 | 6, _ => ⟨_, rfl, by decide⟩
 | 7, _ => ⟨_, rfl, by decide⟩
 | 8, _ => ⟨_, rfl, by decide⟩
 | n + 9, h => absurd h (by omega)
theorem Qs (K : Nat) : ∀ n : Nat, n ≤ 8 → ∃ l, wR (K + 20) (n : Int) = some ((n : Int), .of l) ∧ l.length ≤ 300
 | 0, _ => ⟨_, rfl, by decide⟩
 | 1, _ => ⟨_, rfl, by decide⟩
 | 2, _ => ⟨_, rfl, by decide⟩
 | 3, _ => ⟨_, rfl, by decide⟩
 | 4, _ => ⟨_, rfl, by decide⟩
 | 5, _ => ⟨_, rfl, by decide⟩
 | 6, _ => ⟨_, rfl, by decide⟩
 | 7, _ => ⟨_, rfl, by decide⟩
 | 8, _ => ⟨_, rfl, by decide⟩
 | n + 9, h => absurd h (by omega)
theorem ze9 {F n : Nat} (hF : 300 ≤ F) (h : n ≤ 8) : ∃ l, vD F (n : Int) = some ((n : Int), .of l) ∧ l.length ≤ 20 := by
 obtain ⟨K, rfl⟩ : ∃ K, F = K + 20 := ⟨F - 20, by omega⟩
 obtain ⟨l, e, hl⟩ := zbO K n h
 unfold vD
 rw [e, Option.bind_some]
 have : (((n : Int), NL.of l).2).list = l := rfl
 rw [this, KV (by omega) (by omega), Option.bind_some]
 exact ⟨_, rfl, by rw [Kt]; omega⟩
end Go.Zq
namespace Go.Zq
theorem zkE {F n i : Nat} {q : Int × CU} {t : Bool × CU} {c5 : LB → Int → Int → NL (Int × Int) → Int → Option (GR × CU)} (hn : n ≤ 8) (hF : 500 ≤ F) (hi : i < n)
    (H : ∀ (c' : CU) (ys : List (Int × Int)), Ck c'.a c'.b (50 + 40 * (i + 1)) → ys.length ≤ 10 * (i + 1) → GOk (c5 c'.a c'.b c'.c.v (.of ys) ((i + 1 : Nat) : Int))) :
    ∀ (d j k : Nat) (a : LB) (b v : Int) (xs : List (Int × Int)), j + d = n → d < k → Ck a b (50 + 40 * i + 2 * j) → xs.length ≤ 10 * i + j → GOk (z8 F (n : Int) q t (i : Int) c5 k a b v (.of xs) (j : Int)) := by
 have hw : w64 ((i : Int) + 1) = ((i + 1 : Nat) : Int) := z3 (n := n) (by omega) (by unfold Sm; omega)
 intro d
 induction d with
 | zero =>
   intro j k a b v xs hj hk hc hx
   obtain ⟨k, rfl⟩ : ∃ k', k = k' + 1 := ⟨k - 1, by omega⟩
   simp only [z8]
   rw [decide_eq_false (by omega), cond_false, zb4, Option.bind_some]
   obtain ⟨r, c1, e1, h1, _, _, k1⟩ := uW (F := F) (c := cu a b v) (n := max (i : Int) 1) hc (by omega)
   rw [e1, Option.bind_some]
   have hk1 : Ck c1.a c1.b (50 + 40 * (i + 1)) := k1.le (by omega)
   have h4f : GOk (yF F (r, c1) (n : Int) (.of xs) q t (i : Int) c5 false) := by
    show GOk (c5 c1.a c1.b c1.c.v (.of xs) (w64 ((i : Int) + 1)))
    rw [hw]; exact H c1 xs hk1 (by omega)
   have h4t : GOk (yF F (r, c1) (n : Int) (.of xs) q t (i : Int) c5 true) := by
    unfold yF
    rw [cond_true, show (NL.of xs).list = xs from rfl, KV (by omega) (by omega), Option.bind_some]
    show GOk (c5 c1.a c1.b c1.c.v (.of _) (w64 ((i : Int) + 1)))
    rw [hw]; exact H c1 _ hk1 (by rw [Kt]; omega)
   by_cases h0 : (i : Int) > 0
   · rw [decide_eq_true h0, cond_true]
     cases !t.1 with
     | false => exact h4f
     | true =>
       rw [cond_true]
       obtain ⟨y, hy⟩ : ∃ y : Nat, r = y := ⟨r.toNat, by omega⟩
       subst hy
       have e : u7 F ((n : Int), (NL.of xs).list) (i : Int) ((y : Int), c1).1 = _ := MM (g := ((n : Int), xs)) (F := F) (a := i) (b := y) (by show xs.length < F; omega) (by show Sm xs.length; unfold Sm; omega)
       rw [e, Option.bind_some]
       cases !adj ((n : Int), xs) i y with
       | false => exact h4f
       | true => exact h4t
   · rw [decide_eq_false h0]; exact h4f
 | succ d ih =>
   intro j k a b v xs hj hk hc hx
   obtain ⟨k, rfl⟩ : ∃ k', k = k' + 1 := ⟨k - 1, by omega⟩
   simp only [z8]
   rw [decide_eq_true (by omega), cond_true]
   obtain ⟨r, c1, e1, h1, _, _, k1⟩ := uW (F := F) (c := cu a b v) (n := q.1) hc (by omega)
   rw [e1, Option.bind_some]
   have hwj : w64 ((j : Int) + 1) = ((j + 1 : Nat) : Int) := z3 (n := n) (by omega) (by unfold Sm; omega)
   cases (r, c1).1 == 0 with
   | true =>
     rw [cond_true, show (NL.of xs).list = xs from rfl, KV (by omega) (by omega), Option.bind_some]
     show GOk (z8 F (n : Int) q t (i : Int) c5 k c1.a c1.b c1.c.v (.of _) (w64 ((j : Int) + 1)))
     rw [hwj]
     exact ih (j + 1) k _ _ _ _ (by omega) (by omega) (k1.le (by omega)) (by rw [Kt]; omega)
   | false =>
     show GOk (z8 F (n : Int) q t (i : Int) c5 k c1.a c1.b c1.c.v (.of xs) (w64 ((j : Int) + 1)))
     rw [hwj]
     exact ih (j + 1) k _ _ _ _ (by omega) (by omega) (k1.le (by omega)) (by omega)
theorem zje {F n : Nat} {q : Int × CU} {t : Bool × CU} (hn : n ≤ 8) (hF : 500 ≤ F) :
    ∀ (d i k : Nat) (a : LB) (b v : Int) (xs : List (Int × Int)), i + d = n → d < k → Ck a b (50 + 40 * i) → xs.length ≤ 10 * i → GOk (yG F (n : Int) q t k a b v (.of xs) (i : Int)) := by
 intro d
 induction d with
 | zero =>
   intro i k a b v xs hj hk hc hx
   obtain ⟨k, rfl⟩ : ∃ k', k = k' + 1 := ⟨k - 1, by omega⟩
   simp only [yG]
   rw [decide_eq_false (by omega), cond_false]
   exact Lk hc (by omega) (by omega)
 | succ d ih =>
   intro i k a b v xs hj hk hc hx
   obtain ⟨k, rfl⟩ : ∃ k', k = k' + 1 := ⟨k - 1, by omega⟩
   simp only [yG]
   rw [decide_eq_true (by omega), cond_true, z3 (n := n) (by omega) (by unfold Sm; omega)]
   exact zkE hn hF (by omega) (fun c' ys hc' hy => ih (i + 1) k _ _ _ _ (by omega) (by omega) hc' hy) (n - (i + 1)) (i + 1) F a b v xs (by omega) (by omega) (hc.le (by omega)) (by omega)
theorem ND {F : Nat} {c : CC} {z : Int} (h : Ck c.v.a c.v.b 0) (hF : 500 ≤ F) (h0 : 0 ≤ z) (h8 : z ≤ 8) : GOk (xq F c z) := by
 obtain ⟨K, hK⟩ : ∃ K, F = K + 20 := ⟨F - 20, by omega⟩
 have j5 : ∀ (c1 : CU) (x : Int), Ck c1.a c1.b 10 → 0 ≤ x → GOk (xj F z c1.a c1.b c1.c.v x) := by
  intro c1 x k1 hx
  unfold xj
  rw [Li, Option.bind_some]
  obtain ⟨n, hn⟩ : ∃ n : Nat, min x z = n := ⟨(min x z).toNat, by omega⟩
  have hn8 : n ≤ 8 := by omega
  rw [hn]
  obtain ⟨r, c2, e2, h1, _, _, k2⟩ := uW (F := F) (c := cu c1.a c1.b c1.c.v) (n := 8) k1 (by omega)
  rw [e2, Option.bind_some]
  have k2' : Ck c2.a c2.b 20 := k2.le (by omega)
  cases (r, c2).1 == 0 with
  | true =>
    rw [cond_true]
    obtain ⟨l, e, hl⟩ := zbO K n hn8
    rw [← hK] at e
    rw [e, Option.bind_some]
    exact Lk k2' (by omega) (by omega)
  | false =>
    rw [cond_false]
    cases (r, c2).1 == 1 with
    | true =>
      rw [cond_true]
      by_cases h2 : (n : Int) > 2
      · rw [decide_eq_true h2, cond_true]
        obtain ⟨l, e, hl⟩ := ze9 (F := F) (by omega) hn8
        rw [e, Option.bind_some]
        exact Lk k2' (by omega) (by omega)
      · rw [decide_eq_false h2, cond_false]
        exact Lk k2' (by omega) (by simp)
    | false =>
      rw [cond_false]
      cases (r, c2).1 == 2 with
      | true =>
        rw [cond_true]
        obtain ⟨l, e, hl⟩ := Qs K n hn8
        rw [← hK] at e
        rw [e, Option.bind_some]
        exact Lk k2' (by omega) (by omega)
      | false =>
        rw [cond_false]
        obtain ⟨r3, c3, e3, _, k3⟩ := UV (F := F) (c := Cu.mk c2) (xs := [3, 4, 6]) k2' (by omega) (by decide)
        have e3' : yJ F (Cu.mk (r, c2).2) [3, 4, 6] = some (r3, c3) := e3
        rw [e3', Option.bind_some]
        obtain ⟨r4, c4, e4, k4⟩ := za7 (F := F) (c := Cu.mk c3) (n := 6) k3 (by omega)
        have e4' : xN F (Cu.mk (r3, c3).2) 6 = some (r4, c4) := e4
        rw [e4', Option.bind_some]
        exact zje hn8 hF n 0 F c4.a c4.b c4.c.v [] (by omega) (by omega) (k4.le (by omega)) (by simp)
 unfold xq
 obtain ⟨r, c1, e1, hr, k1⟩ := UV (F := F) (c := Cu.mk c.v) (xs := [4, 5, 3, 6, 2, 1, 0]) h (by omega) (by decide)
 rw [e1, Option.bind_some]
 have hr0 : 0 ≤ r := by
  have : ∀ y ∈ ([4, 5, 3, 6, 2, 1, 0] : List Int), 0 ≤ y := by decide
  exact this r hr
 by_cases h6 : z > 6
 · rw [decide_eq_true h6, cond_true]
   obtain ⟨r2, c2, e2, k2⟩ := za7 (F := F) (c := Cu.mk c1) (n := 4) k1 (by omega)
   have e2' : xN F (Cu.mk (r, c1).2) 4 = some (r2, c2) := e2
   rw [e2', Option.bind_some]
   unfold xO
   cases (r2, c2).1 with
   | true =>
     rw [cond_true]
     obtain ⟨r3, c3, e3, h3, h4, _, k3⟩ := uW (F := F) (c := cu c2.a c2.b c2.c.v) (n := 2) k2 (by omega)
     have e3' : ye F (cu (r2, c2).2.a (r2, c2).2.b (r2, c2).2.c.v) 2 = some (r3, c3) := e3
     rw [e3', Option.bind_some]
     have := h4 (by omega)
     exact j5 c3 _ (k3.le (by omega)) (by show 0 ≤ w64 (7 + r3); rw [xW (by omega) (by omega)]; omega)
   | false => exact j5 c2 r (k2.le (by omega)) hr0
 · rw [decide_eq_false h6, cond_false]
   exact j5 c1 r (k1.le (by omega)) hr0
theorem Q3 {F : Nat} {c : CC} (h : Ck c.v.a c.v.b 0) (hF : 500 ≤ F) : GOk (xF F c) := by
 unfold xF
 obtain ⟨g, c', e, h1, h2⟩ := ND (F := F) (c := Cu.mk c.v) (z := 8) h hF (by omega) (by omega)
 rw [e]; exact ⟨g, c', rfl, h1, h2⟩
theorem zfm {α : Type} {xs : List α} {a b : Nat} (h : a ≤ b) (hb : b ≤ xs.length) : ∃ ys, sub xs (a : Int) (b : Int) = some ys ∧ ys.length = b - a := by
 unfold sub
 rw [if_pos ⟨by omega, by omega, by omega⟩]
 exact ⟨_, rfl, by simp; omega⟩
theorem zdO {F : Nat} {g : GR} (hF : 500 ≤ F) : ∀ (d i k : Nat) (a : LB) (b v : Int) (xs : List Int), i + d = (min g.1 8).toNat → d < k → Ck a b (5000 + 2 * i) → xs.length = i →
    ∃ l c', y6 F g k a b v xs (i : Int) = some (l, c') ∧ l.length ≤ 20 ∧ Ck c'.a c'.b 6000 := by
 intro d
 have fin : ∀ (i k : Nat) (a : LB) (b v : Int) (xs : List Int), ¬ (i : Int) < min g.1 8 → Ck a b (5000 + 2 * i) → xs.length = i → i ≤ 8 → ∃ l c', y6 F g (k + 1) a b v xs (i : Int) = some (l, c') ∧ l.length ≤ 20 ∧ Ck c'.a c'.b 6000 := by
  intro i k a b v xs hi hc hx h8
  simp only [y6]
  rw [Li, Option.bind_some, decide_eq_false hi, cond_false]
  obtain ⟨r, c1, e1, k1⟩ := za7 (F := F) (c := cu a b v) (n := 24) hc (by omega)
  rw [e1, Option.bind_some]
  cases (r, c1).1 with
  | true =>
    rw [cond_true]
    obtain ⟨r2, c2, e2, _, k2⟩ := UV (F := F) (c := Cu.mk c1) (xs := [0, (-1), 8]) k1 (by omega) (by decide)
    have e2' : yJ F (Cu.mk (r, c1).2) [0, (-1), 8] = some (r2, c2) := e2
    rw [e2', Option.bind_some, Ug (by simp; omega), Option.bind_some]
    exact ⟨_, _, rfl, by simp; omega, k2.le (by omega)⟩
  | false => exact ⟨_, _, rfl, by omega, k1.le (by omega)⟩
 induction d with
 | zero =>
   intro i k a b v xs hj hk hc hx
   obtain ⟨k, rfl⟩ : ∃ k', k = k' + 1 := ⟨k - 1, by omega⟩
   exact fin i k a b v xs (by omega) hc hx (by omega)
 | succ d ih =>
   intro i k a b v xs hj hk hc hx
   obtain ⟨k, rfl⟩ : ∃ k', k = k' + 1 := ⟨k - 1, by omega⟩
   simp only [y6]
   rw [Li, Option.bind_some, decide_eq_true (by omega), cond_true, hx, z3 (n := i + 1) (by omega) (by unfold Sm; omega)]
   obtain ⟨r, c1, e1, h1, h2, _, k1⟩ := uW (F := F) (c := cu a b v) (n := ((i + 1 : Nat) : Int)) hc (by omega)
   rw [e1, Option.bind_some]
   have := h2 (by omega)
   obtain ⟨p, hp⟩ : ∃ p : Nat, r = p := ⟨r.toNat, by omega⟩
   subst hp
   obtain ⟨ys, s1, s2⟩ := zfm (xs := xs) (a := 0) (b := p) (by omega) (by omega)
   obtain ⟨zs, s3, s4⟩ := zfm (xs := xs) (a := p) (b := i) (by omega) (by omega)
   have s1' : sub xs 0 ((p : Int), c1).1 = some ys := s1
   have s3' : sub xs ((p : Int), c1).1 (i : Int) = some zs := s3
   rw [s1', Option.bind_some, Ug (by simp; omega), Option.bind_some, Ug (by simp; omega), Option.bind_some, s3', Option.bind_some, Ug (by simp; omega), Option.bind_some]
   exact ih (i + 1) k c1.a c1.b c1.c.v _ (by omega) (by omega) (k1.le (by omega)) (by simp; omega)
theorem Lt {F : Nat} {code : LB} (hF : 500 ≤ F) (hc : ∀ y ∈ code, 0 ≤ y.v ∧ y.v ≤ 255) : ∃ g l, wi F code = some (g, l) ∧ g.2.length ≤ 400 ∧ l.length ≤ 20 := by
 unfold wi
 obtain ⟨g, c, e, h1, h2⟩ := Q3 (F := F) (c := cu code 0 0) ⟨hc, Int.le_refl _, Int.le_refl _⟩ hF
 rw [e, Option.bind_some]
 obtain ⟨l, c', e2, h3, _⟩ := zdO (F := F) (g := g) hF (min g.1 8).toNat 0 F c.a c.b c.c.v [] (by omega) (by omega) (h2.le (by omega)) rfl
 have e2' : wN F (Cu.mk (g, c).2) (g, c).1 = some (l, c') := e2
 rw [e2', Option.bind_some]
 exact ⟨g, l, rfl, h1, h3⟩
end Go.Zq
namespace Go.Zq
theorem UR {F : Nat} {xs : List Int} (hF : xs.length < F) (hs : Sm xs.length) : ul F xs xs = some true := by
 unfold ul
 rw [bne_self_eq_false, cond_false]
 rw [vv (L := fun k i => ur F xs xs k i) (n := xs.length) (p := fun _ => true) (bad := some false) (fin := some true) ?_ ?_ F hF]
 · have : vC (fun _ => true) xs.length = true := yI.2 fun _ _ => rfl
   rw [this]; rfl
 · intro k i hi
   simp only [ur]
   rw [decide_eq_true (by omega), cond_true, zX (d := 0) hi, Option.bind_some, Option.bind_some, bne_self_eq_false, cond_false, cond_true, z3 hi hs]
 · intro k
   simp only [ur]
   rw [decide_eq_false (by omega), cond_false]
theorem zg6 {F : Nat} {xs : List Int} {x : Int} (hF : xs.length < F) (hs : Sm xs.length) : Ui F xs x = some (decide (x ∈ xs)) := by
 unfold Ui
 rw [vv (L := fun k i => Zu F xs x k i) (n := xs.length) (p := fun i => !(xs.getD i 0 == x)) (bad := some true) (fin := some false) ?_ ?_ F hF]
 · cases h : vC (fun i => !(xs.getD i 0 == x)) xs.length with
   | true =>
     rw [cond_true]
     have h := yI.1 h
     rw [decide_eq_false]
     intro hm
     obtain ⟨i, hi, he⟩ := List.mem_iff_getElem.1 hm
     have := h i hi
     rw [List.getD_eq_getElem?_getD, List.getElem?_eq_getElem hi] at this
     simp [he] at this
   | false =>
     rw [cond_false]
     rw [decide_eq_true]
     apply Classical.byContradiction
     intro hm
     have : vC (fun i => !(xs.getD i 0 == x)) xs.length = true := yI.2 fun i hi => by
      rw [Bool.not_eq_true', beq_eq_false_iff_ne]
      intro e
      exact hm (e ▸ ue hi)
     rw [h] at this; cases this
 · intro k i hi
   simp only [Zu]
   rw [decide_eq_true (by omega), cond_true, zX (d := 0) hi, Option.bind_some, z3 hi hs]
   cases xs.getD i 0 == x <;> rfl
 · intro k
   simp only [Zu]
   rw [decide_eq_false (by omega), cond_false]
def mxL (xs : List Int) : Nat → Int
 | 0 => 0
 | i + 1 => if xs.getD i 0 > mxL xs i then xs.getD i 0 else mxL xs i
theorem K2 {xs : List Int} : ∀ n, 0 ≤ mxL xs n
 | 0 => Int.le_refl _
 | n + 1 => by
   have := K2 (xs := xs) n
   simp only [mxL]; split <;> omega
theorem zej {xs : List Int} : ∀ n i, i < n → xs.getD i 0 ≤ mxL xs n
 | 0, i, h => by omega
 | n + 1, i, h => by
   have h2 := zej (xs := xs) n
   simp only [mxL]
   by_cases e : i = n
   · subst e; split <;> omega
   · have := h2 i (by omega); split <;> omega
theorem zga {xs : List Int} {t : Int} (h0 : 0 ≤ t) : ∀ n, (∀ i, i < n → xs.getD i 0 ≤ t) → mxL xs n ≤ t
 | 0, _ => h0
 | n + 1, h => by
   have := zga h0 n fun i hi => h i (by omega)
   have := h n (by omega)
   simp only [mxL]; split <;> omega
def fsF (g : Gr) (l : List Int) : List Int × Bool := bif y7 g && xM g.1 l then (xE g l l.length, true) else ([], false)
section
variable {F : Nat} {g : Gr} {l : List Int}
theorem XW (hF : l.length < F) (hG : g.2.length < F) (h9 : 20 ≤ F) (hl : Sm l.length) (hs : Sm g.2.length) : w8 F g l = some (fsF g l) ∧ x7 F g l = some (fsF g l) := by
 unfold fsF
 rw [J1]
 unfold w8 Yy vB
 rw [uB hG hs, vx hG (by omega) hs, Option.bind_some, Option.bind_some]
 cases h : y7 g with
 | false => exact ⟨rfl, rfl⟩
 | true =>
   have h8 := z2 h
   simp only [Bool.not_true, cond_false]
   rw [LM h8.1 h8.2 hF (by omega) hl, Ll h8.1 h8.2 hF hl]
   cases ho : xM g.1 l with
   | false => exact ⟨rfl, rfl⟩
   | true =>
     have hlen := uL ho
     constructor
     · simp only [Option.bind_some, Bool.not_true, vj, cond_false]
       exact zhJ h ho h9 hG hs
     · simp only [Option.bind_some, Bool.not_true, vr, cond_false]
       obtain ⟨n, hn⟩ : ∃ n : Nat, g.1 = n := ⟨g.1.toNat, by omega⟩
       rw [X5 h hG hs, Option.bind_some, hn, MP (by omega), Option.bind_some]
       rw [zhk h ho h9 _ (by simp; omega)]
       rfl
theorem Nr {p : Nat → Bool} (hg : y7 g = true) (hG : g.2.length < F) (h9 : 20 ≤ F) (hs : Sm g.2.length) :
    ZA F g (zL p g.1.toNat) = some (zL (frt g p) g.1.toNat, true) ∧ uD F g (zL p g.1.toNat) = some (zL (frt g p) g.1.toNat, true) := by
 have h8 := z2 hg
 have hle := UQ (p := p) (n := g.1.toNat)
 have hset : J7 g.1 (zL p g.1.toNat) = true := by
  unfold J7
  rw [yI]
  intro i hi
  obtain ⟨j, e, hj, _⟩ := WZ hi
  have hsrt := WH (p := p) (n := g.1.toNat)
  unfold Srt at hsrt
  rw [List.pairwise_iff_getElem] at hsrt
  rw [Bool.and_eq_true, Bool.and_eq_true, Bool.or_eq_true]
  refine ⟨⟨by rw [e]; exact decide_eq_true (by omega), by rw [e]; exact decide_eq_true (by omega)⟩, ?_⟩
  by_cases h0 : i = 0
  · exact .inl (by simp [h0])
  · right
    have := hsrt (i - 1) i (by omega) hi (by omega)
    rw [decide_eq_true_eq, List.getD_eq_getElem?_getD, List.getD_eq_getElem?_getD, List.getElem?_eq_getElem hi, List.getElem?_eq_getElem (by omega)]
    exact this
 have hfr := WW (p := p) hg h9 hG hs
 constructor
 · unfold ZA
   rw [uB hG hs, Option.bind_some, hg, Bool.not_true, cond_false, zfY hg (by omega) (by unfold Sm; omega), Option.bind_some, hset]
   simp only [u6, Bool.not_true, cond_false]
   rw [hfr, Option.bind_some]
 · rw [Nv]
   obtain ⟨o, h1, h2⟩ := zbA (F := F) (n := g.1.toNat) (p := frt g (bq (zL p g.1.toNat))) (by omega) h9
   unfold Wy
   rw [zeG hg (by omega) (by unfold Sm; omega) hG hs (by omega), Option.bind_some, hset, Bool.not_true, cond_false, X5 hg hG hs, Option.bind_some, zgT hg hset (by omega) (by unfold Sm; omega), Option.bind_some, JA hg h9, Option.bind_some, h1, Option.bind_some]
   show some (o.list, true) = _
   rw [h2]
   have e := WW (p := bq (zL p g.1.toNat)) hg h9 hG hs
   rw [← za8 hset, hfr] at e
   rw [← Option.some.inj e]
theorem ze8 {k m : Nat} (hp : XE m = k) : ∀ M, m < M → lsF g k M ≤ frC g m
 | 0, h => by omega
 | M + 1, h => by
   have hf := Zv (g := g) (m := m)
   simp only [lsF]
   by_cases e : m = M
   · subst e
     rw [if_pos hp]
     split <;> omega
   · have := ze8 hp M (by omega)
     have := Uk (g := g) hp M (by omega)
     split
     · split <;> omega
     · omega
theorem zfu {N : Nat} {t : Int} (h0 : 0 ≤ t) : ∀ K, (∀ k, k < K → lsF g k N ≤ t) → mxF g N K ≤ t
 | 0, _ => h0
 | K + 1, h => by
   have := zfu h0 K fun i hi => h i (by omega)
   have := h K (by omega)
   simp only [mxF]; split <;> omega
theorem zbH (hg : y7 g = true) (ho : xM g.1 l = true) : ∀ i, i ≤ l.length → yD (xz l i) g.1.toNat = i
 | 0, _ => by
   have : yD (xz l 0) g.1.toNat = yD (fun _ => false) g.1.toNat := vT fun j _ => by simp [xz]
   rw [this]; simp [yD]
 | i + 1, h => by
   obtain ⟨x, hx, hxn⟩ := zbj hg ho (show i < l.length by omega)
   rw [vT (fun j _ => Yo (show i < l.length by omega) hx j), Lp (LR ho (z2 hg).1 (by omega) hx) hxn, zbH hg ho i (by omega)]
theorem zfi {w : Int} (hg : y7 g = true) (ho : xM g.1 l = true) (h0 : 0 ≤ w) (h : ∀ i, i < l.length → frS g l (i + 1) ≤ w) : mxF g (2 ^ g.1.toNat) (g.1.toNat + 1) ≤ w := by
 have h8 := z2 hg
 have hlen := uL ho
 refine zfu h0 _ fun k hk => ?_
 have h1 := ze8 (g := g) (k := k) (m := mkm (xz l k) g.1.toNat) (by rw [Xk (by omega), zbH hg ho k (by omega)]) (2 ^ g.1.toNat) YX
 rw [Nc hg ho] at h1
 cases k with
 | zero =>
   have : frS g l 0 = 0 := by
    rw [← Nc hg ho, LD]
    unfold frC
    rw [← yN, Mb (fun j => Nat.zero_testBit j)]; rfl
   omega
 | succ k => have := h k (by omega); omega
theorem zfK {w : Int} (hg : y7 g = true) (ho : xM g.1 l = true) (hw : ∀ t, 0 ≤ t → (w ≤ t ↔ Ch g.1.toNat (frC g) t 0 (2 ^ g.1.toNat - 1))) : w ≤ mxL (xE g l l.length) l.length := by
 refine (hw _ (K2 _)).2 (ziZ hg ho fun i hi => ?_)
 rw [← K6 hi]
 exact zej _ i hi
theorem zjl {w : Int} (h0 : 0 ≤ w) (h : ∀ i, i < l.length → frS g l (i + 1) ≤ w) : mxL (xE g l l.length) l.length ≤ w := by
 refine zga h0 _ fun i hi => ?_
 rw [K6 hi]; exact h i hi
end
end Go.Zq
namespace Go.Zq
theorem zfn {F : Nat} {g : Gr} {l : List Int} {w : Int} {pb : Bool} (hg : y7 g = true) (ho : xM g.1 l = true) (hG : g.2.length < F) (h9 : 300 ≤ F) (hs : Sm g.2.length) (hw : w ≤ mxL (xE g l l.length) l.length) :
    yc F (g, l) (xE g l l.length, true) (w, pb) F 0 [] 0 = some true := by
 have h8 := z2 hg
 have hlen := uL ho
 have hgn : ((g.1.toNat : Nat) : Int) = g.1 := by omega
 refine xo (L := fun k t (s : Int × List Int) => yc F (g, l) (xE g l l.length, true) (w, pb) k s.1 s.2 t) (n := l.length) (fun t s => s.1 = mxL (xE g l l.length) t ∧ s.2 = zL (xz l t) g.1.toNat) ?_ ?_ F (0, []) (by omega) ⟨rfl, ?_⟩
 · rintro k t ⟨m, S⟩ ht ⟨h1, h2⟩
   simp only at h1 h2
   subst h1; subst h2
   have hfl : (xE g l l.length).length = l.length := Wo
   obtain ⟨x, hx, hxn⟩ := zbj hg ho ht
   simp only [yc]
   rw [decide_eq_true (show (t : Int) < ((xE g l l.length).length : Int) by omega), cond_true, zX (d := 0) (by omega), Option.bind_some]
   have hin : ∀ m', wQ F (g, l) (xE g l l.length, true) (w, pb) (zL (xz l t) g.1.toNat) (t : Int) (yc F (g, l) (xE g l l.length, true) (w, pb) k) m' = yc F (g, l) (xE g l l.length, true) (w, pb) k m' (zL (xz l (t + 1)) g.1.toNat) ((t + 1 : Nat) : Int) := by
    intro m'
    unfold wQ
    refine xo (L := fun k' j (s : List Int) => yH F (g, l) (xE g l l.length, true) (w, pb) m' (zL (xz l t) g.1.toNat) (t : Int) (yc F (g, l) (xE g l l.length, true) (w, pb) k) k' s j) (n := g.1.toNat) (fun j s => s = zL (xz l (t + 1)) j) ?_ ?_ F [] (by omega) rfl
    · rintro k' j s hj rfl
      simp only [yH]
      have hle := UQ (p := xz l t) (n := g.1.toNat)
      have hle2 := UQ (p := xz l (t + 1)) (n := j)
      rw [decide_eq_true (show (j : Int) < g.1 by omega), cond_true, zg6 (by omega) (by unfold Sm; omega), Option.bind_some]
      have e1 : decide ((j : Int) ∈ zL (xz l t) g.1.toNat) = xz l t j := by
       rw [Bool.eq_iff_iff, decide_eq_true_iff, wd]
       constructor
       · rintro ⟨i, e, _, hi⟩
         have : i = j := by omega
         rw [← this]; exact hi
       · intro h; exact ⟨j, rfl, hj, h⟩
      have hps := Yo ht hx j
      rw [e1]
      have fin : ∀ b : Bool, xz l (t + 1) j = b → wP F (g, l) (xE g l l.length, true) (w, pb) m' (zL (xz l t) g.1.toNat) (t : Int) (zL (xz l (t + 1)) j) (j : Int) (yc F (g, l) (xE g l l.length, true) (w, pb) k) (yH F (g, l) (xE g l l.length, true) (w, pb) m' (zL (xz l t) g.1.toNat) (t : Int) (yc F (g, l) (xE g l l.length, true) (w, pb) k) k') b =
          yH F (g, l) (xE g l l.length, true) (w, pb) m' (zL (xz l t) g.1.toNat) (t : Int) (yc F (g, l) (xE g l l.length, true) (w, pb) k) k' (zL (xz l (t + 1)) (j + 1)) ((j + 1 : Nat) : Int) := by
       intro b hb
       have hwj : w64 ((j : Int) + 1) = ((j + 1 : Nat) : Int) := z3 (n := g.1.toNat) (by omega) (by unfold Sm; omega)
       unfold wP vL
       rw [hwj, ZB, hb]
       cases b with
       | true => rw [cond_true, Ug (by simp; omega), Option.bind_some]; rfl
       | false => rw [cond_false]; simp
      refine ⟨_, rfl, ?_⟩
      cases hp : xz l t j with
      | true =>
        rw [cond_true]
        exact fin true (by rw [hps, hp]; rfl)
      | false =>
        rw [cond_false]
        show (idx l (t : Int)).bind _ = _
        rw [zX (d := 0) ht, Option.bind_some, hx]
        refine fin _ ?_
        rw [hps, hp, Bool.false_or, Bool.eq_iff_iff, beq_iff_eq, beq_iff_eq]; omega
    · rintro k' s rfl
      simp only [yH]
      rw [decide_eq_false (show ¬ ((g.1.toNat : Nat) : Int) < g.1 by omega), cond_false]
      obtain ⟨f1, f2⟩ := Nr (F := F) (g := g) (p := xz l (t + 1)) hg hG (by omega) hs
      rw [f2, Option.bind_some, f1, Option.bind_some]
      have hle3 := UQ (p := frt g (xz l (t + 1))) (n := g.1.toNat)
      rw [Bool.not_true, cond_false, cond_false]
      show (ul F (zL (frt g (xz l (t + 1))) g.1.toNat) (zL (frt g (xz l (t + 1))) g.1.toNat)).bind _ = _
      rw [UR (by omega) (by unfold Sm; omega), Option.bind_some, Bool.not_true, cond_false, zX (d := 0) (by omega), Option.bind_some, K6 ht]
      have e : (((zL (frt g (xz l (t + 1))) g.1.toNat).length : Int) != frS g l (t + 1)) = false := by
       rw [yN]; unfold frS; exact bne_self_eq_false _
      rw [e]
      unfold wk
      rw [cond_false, z3 (n := l.length) (by omega) (by unfold Sm; omega)]
   refine ⟨(mxL (xE g l l.length) (t + 1), zL (xz l (t + 1)) g.1.toNat), ⟨rfl, rfl⟩, ?_⟩
   by_cases hm : (xE g l l.length).getD t 0 > mxL (xE g l l.length) t
   · have e : mxL (xE g l l.length) (t + 1) = (xE g l l.length).getD t 0 := if_pos hm
     rw [decide_eq_true hm, cond_true, Option.bind_some, hin, e]
   · have e : mxL (xE g l l.length) (t + 1) = mxL (xE g l l.length) t := if_neg hm
     rw [decide_eq_false hm, cond_false, hin, e]
 · rintro k ⟨m, S⟩ ⟨h1, h2⟩
   simp only at h1 h2
   subst h1
   have hfl : (xE g l l.length).length = l.length := Wo
   simp only [yc]
   rw [decide_eq_false (show ¬ (l.length : Int) < ((xE g l l.length).length : Int) by omega), cond_false, decide_eq_true (by omega)]
 · symm
   show zL (xz l 0) g.1.toNat = []
   rw [xg (q := fun _ => false) (fun j _ => by simp [xz])]
   simp [zL]
theorem MJ {F : Nat} {code : LB} (hF : 2097152 ≤ F) (hc : ∀ y ∈ code, 0 ≤ y.v ∧ y.v ≤ 255) : wU F code = some true := by
 unfold wU U5
 rw [Option.bind_some]
 cases decide ((code.length : Int) > 65536) with
 | true => rfl
 | false =>
   rw [cond_false]
   obtain ⟨g, l, e, hg, hl⟩ := Lt (F := F) (by omega) hc
   have e1 : xG F code = some (g, l) := by unfold xG; rw [e]; rfl
   rw [e1, Option.bind_some]
   have hs : Sm g.2.length := by unfold Sm; omega
   obtain ⟨f1, f2⟩ := XW (F := F) (g := g) (l := l) (by omega) (by omega) (by omega) (by unfold Sm; omega) hs
   rw [f2, Option.bind_some, f1, Option.bind_some, bne_self_eq_false, cond_false]
   have hfs : (fsF g l).1.length ≤ 20 := by
    unfold fsF
    cases y7 g && xM g.1 l with
    | true => rw [cond_true, Wo]; exact hl
    | false => simp
   rw [UR (by omega) (by unfold Sm; omega), Option.bind_some, Bool.not_true]
   unfold vg
   rw [cond_false]
   show (vF F g l).bind _ = _
   have y1 := za2 (F := F) (g := g) (l := l) (by omega) (by omega) (by omega) (by unfold Sm; omega) hs
   have y2 := zbl (F := F) (g := g) (l := l) (by omega) (by omega) (by omega) (by unfold Sm; omega) hs
   rw [y1, Option.bind_some, y2, Option.bind_some, bne_self_eq_false, cond_false, bne_self_eq_false, cond_false]
   cases hgd : y7 g with
   | false =>
     have hf0 : fsF g l = ([], false) := by unfold fsF; rw [hgd]; rfl
     have p1 : xI F g = some (0, false) := by unfold xI; rw [vx (by omega) (by omega) hs, hgd]; rfl
     have p2 : xJ F g = some (0, false) := by unfold xJ; rw [uB (by omega) hs, hgd]; rfl
     have b1 : xH F g = some ([], false) := by unfold xH; rw [vx (by omega) (by omega) hs, hgd]; rfl
     have b2 : x6 F g = some ([], false) := by unfold x6; rw [uB (by omega) hs, hgd]; rfl
     have c1 := Wd (F := F) (g := g) (by omega) (by omega) hs
     have c2 := Wv (F := F) (g := g) (by omega) (by omega) hs
     rw [hgd, cond_false] at c1 c2
     rw [hf0]
     show yT F (g, l) ([], false) false false = some true
     unfold yT
     rw [cond_false, p1, Option.bind_some, p2, Option.bind_some]
     show xu F (g, l) ([], false) false (0, false) false = some true
     unfold xu
     rw [cond_false, b1, Option.bind_some, b2, Option.bind_some]
     show (ul F [] []).bind _ = _
     rw [UR (by simp; omega) (by unfold Sm; simp), Option.bind_some]
     show xw F (g, l) ([], false) false (0, false) ([], false) false = some true
     unfold xw
     rw [cond_false, c1, Option.bind_some, c2, Option.bind_some]
     rfl
   | true =>
     have h8 := z2 hgd
     have c1 := Wd (F := F) (g := g) (by omega) (by omega) hs
     have c2 := Wv (F := F) (g := g) (by omega) (by omega) hs
     rw [hgd, cond_true] at c1 c2
     obtain ⟨w, b, h0, p2, p1, b2, b1, hob, hfb, hch⟩ := zaV (F := F) hgd (by omega) (by omega) hs
     have hblen := uL hob
     obtain ⟨_, d1⟩ := XW (F := F) (g := g) (l := b) (by omega) (by omega) (by omega) (by unfold Sm; omega) hs
     have hfb' : fsF g b = (xE g b b.length, true) := by unfold fsF; rw [hgd, hob]; rfl
     rw [hfb'] at d1
     have hw1 := zfK hgd hob hch
     have hw2 := zjl h0 hfb
     have hbd := zfi hgd hob h0 hfb
     generalize mxF g (2 ^ g.1.toNat) (g.1.toNat + 1) = M at c1 c2 hbd
     have fin : wg F (g, l) (fsF g l) (w, true) false = some true := by
      unfold wg
      rw [cond_false]
      cases ho : xM g.1 l with
      | false =>
        have : fsF g l = ([], false) := by unfold fsF; rw [ho, Bool.and_false]; rfl
        rw [this]; rfl
      | true =>
        have : fsF g l = (xE g l l.length, true) := by unfold fsF; rw [hgd, ho]; rfl
        rw [this]
        show yc F (g, l) (xE g l l.length, true) (w, true) F 0 [] 0 = some true
        exact zfn hgd ho (by omega) (by omega) hs (zfK hgd ho hch)
     have hlp : yP F (g, l) (fsF g l) (w, true) (M, true) (xE g b b.length, true) F 0 0 = some true := by
      have hfl : (xE g b b.length).length = b.length := Wo
      refine xo (L := fun k t (s : Int) => yP F (g, l) (fsF g l) (w, true) (M, true) (xE g b b.length, true) k s t) (n := b.length) (fun t s => s = mxL (xE g b b.length) t) ?_ ?_ F 0 (by omega) rfl
      · rintro k t s ht rfl
        simp only [yP]
        rw [decide_eq_true (show (t : Int) < ((xE g b b.length).length : Int) by omega), cond_true, zX (d := 0) (by omega), Option.bind_some]
        refine ⟨mxL (xE g b b.length) (t + 1), rfl, ?_⟩
        unfold vH
        rw [z3 (n := b.length) (by omega) (by unfold Sm; omega)]
        by_cases hm : (xE g b b.length).getD t 0 > mxL (xE g b b.length) t
        · rw [decide_eq_true hm, cond_true, Option.bind_some]
          simp only [mxL, if_pos hm]
        · rw [decide_eq_false hm, cond_false]
          simp only [mxL, if_neg hm]
      · rintro k s rfl
        simp only [yP]
        rw [decide_eq_false (show ¬ (b.length : Int) < ((xE g b b.length).length : Int) by omega), cond_false, Bool.not_true, cond_false]
        have e : mxL (xE g b b.length) b.length = w := by omega
        rw [e, bne_self_eq_false, cond_false, decide_eq_false (by omega)]
        exact fin
     have hr4 : ((fsF g l).2 != (true && xM g.1 l)) = false := by
      unfold fsF; rw [hgd, Bool.true_and]; cases xM g.1 l <;> rfl
     show yT F (g, l) (fsF g l) true ((fsF g l).2 != (true && xM g.1 l)) = some true
     rw [hr4]
     unfold yT
     rw [cond_false, p1, Option.bind_some, p2, Option.bind_some, bne_self_eq_false, cond_false]
     show xu F (g, l) (fsF g l) true (w, true) false = some true
     unfold xu
     rw [cond_false, b1, Option.bind_some, b2, Option.bind_some]
     show (ul F b b).bind _ = _
     rw [UR (by omega) (by unfold Sm; omega), Option.bind_some]
     show xw F (g, l) (fsF g l) true (w, true) (b, true) false = some true
     unfold xw
     rw [cond_false, c1, Option.bind_some, c2, Option.bind_some, bne_self_eq_false, cond_false]
     show wh F (g, l) (fsF g l) true (w, true) (b, true) (M, true) false = some true
     unfold wh
     rw [cond_false, Bool.not_true, cond_false, d1, Option.bind_some]
     exact hlp
end Go.Zq
