/- Functions of the program as typed functions, and that the machine runs as they say (part 3). No further condition. -/
import Derived.Test.YtdhbhaaiohkpdaaK4
import Derived.Test.YtdhbhaaiohkpdaaProg
import Derived.Test.YtdhbhaaiohkpdaaChecked
import Derived.KernelRfl
import Derived.Test.YtdhbhaaiohkpdaaG2
set_option linter.unusedVariables false
set_option linter.unusedSimpArgs false
/- Functions of the program, as typed functions, and that the machine runs as they say. -/
namespace Go.Zq
open Go.Proofs
/- loop.example/g01109/laws.eqIntS -/
def A21_2 : AC := (.cond (.t 14) .skip (.exit 0))
def A21_4 : AC := (.cond (.t 25) (.seq (.reg [] [((jv 4 (.mov (.k (.bool false)))))] []) .ret) .skip)
def A21_5 : AC := (.reg [] [(jm 15 5), ((jv 16 (.bin .add (.t 15) (jn 1)))), (jm 5 16)] [])
def A21_3 : AC := (.seq (.block 1 (.seq (.reg [] [(jm 17 0), (jm 18 5), ((jv 19 (.idx (.t 17) (.t 18) 1))), ((jv 20 (.load .s (.t 19)))), (jm 21 1), (jm 22 5), ((jv 23 (.idx (.t 21) (.t 22) 1))), ((jv 24 (.load .s (.t 23)))), ((jv 25 (.bin .neq (.t 20) (.t 24))))] []) A21_4)) A21_5)
def A21_1 : AC := (.seq (.seq (.reg [] [(jm 11 5), (jm 12 0), ((jv 13 (.len (.t 12)))), ((jv 14 (.bin .lss (.t 11) (.t 13))))] []) A21_2) A21_3)
def A21_6 : AC := (.seq (.reg [] [((jv 4 (.mov (.k (.bool true)))))] []) .ret)
def A21_8 : AC := (.cond (.t 10) (.seq (.reg [] [((jv 4 (.mov (.k (.bool false)))))] []) .ret) .skip)
def A21_10 : AC := (.block 0 (.loop A21_1))
def A21_9 : AC := (.seq (.seq (.reg [] [((jv 5 (.mov (jn 0))))] []) A21_10) A21_6)
def A21_7 : AC := (.seq (.seq (.reg [] [(jm 6 0), ((jv 7 (.len (.t 6)))), (jm 8 1), ((jv 9 (.len (.t 8)))), ((jv 10 (.bin .neq (.t 7) (.t 9))))] []) A21_8) A21_9)
def A21 : AC := (.seq (.reg [] [((jv 4 (.mov (.k (.bool false)))))] []) A21_7)
def an21 : List An := []
theorem c21 : cC Try.prog Try.f21.ntmps an21 (Try.f21.body.getD .skip) = some A21 := by kernel_rfl
structure H21 (D : Den) (σ : Sig) (F : Nat) : Prop where
  mk ::
abbrev R21 (r : Bool) : (Nat → V) → Prop := RR Try.prog [.tmp 4] 0 false (Enc.enc (r : Bool))
section
variable {D : Den} {σ : Sig} {F : Nat} {r : Bool}
def w_eqIntS_l1 (F : Nat) (x_1 : (List Int)) (x_2 : (List Int))  : Nat → Int → Option Bool
  | 0, _ => none
  | k + 1, x_5 =>
    bif decide (x_5 < (x_1.length : Int)) then
      (idx x_1 x_5).bind fun e_8 =>
      (idx x_2 x_5).bind fun e_9 =>
      bif (e_8 != e_9) then
        some false
      else
        (w_eqIntS_l1 F x_1 x_2 k) (w64 (x_5 + 1))
    else
      some true
theorem t_f21_l1 (H : H21 D σ F) (x_1 : (List Int)) (x_2 : (List Int))  : ∀ (k : Nat) (x_5 : Int) (s : Nat → V), Facts [(0, (eL x_1)), (1, (eL x_2)), (4, (jb false)), (5, (ji x_5))] s → w_eqIntS_l1 F x_1 x_2 k x_5 = some r → Run D σ (R21 r) (.run A21_1 [.lp A21_1, .bk 0, .sq A21_6]) s := by
  intro k
  induction k with
  | zero => intro x_5 s _ h; exact nomatch (h : (none : Option _) = some r)
  | succ k ih =>
    intro x_5 s hs h
    rw [w_eqIntS_l1] at h
    obtain ⟨h0, h1, h4, h5⟩ := hs
    refine .seq (.seq (rg (gm h5 fun h11 => gm h0 fun h12 => gv (ji (x_1.length : Int)) (ev_len (xs := x_1) h12) fun h13 => ?_)))
    refine g2 11 13 (jb (decide (x_5 < (x_1.length : Int)))) h11 h13 fun h14 => ?_
    refine gq (.nsq (run_cond (t := decide (x_5 < (x_1.length : Int))) h14 h (fun h => ?_) (fun h => ?_)))
    · refine .skip (.nsq (.seq (.block (.seq (rg (gm h0 fun h17 => gm h5 fun h18 => ?_))))))
      obtain ⟨e_8, E_e_8, h⟩ := bind_some h
      refine gv (.ref .sh 0 [] (ji e_8)) (ev_idx (t := .sh) (lo := 0) (xs := x_1) h17 h18 E_e_8 rfl rfl) fun h19 => ?_
      refine g1 19 (ji e_8) h19 fun h20 => ?_
      refine gm h1 fun h21 => gm h5 fun h22 => ?_
      obtain ⟨e_9, E_e_9, h⟩ := bind_some h
      refine gv (.ref .sh 0 [] (ji e_9)) (ev_idx (t := .sh) (lo := 0) (xs := x_2) h21 h22 E_e_9 rfl rfl) fun h23 => ?_
      refine g1 23 (ji e_9) h23 fun h24 => ?_
      refine g2 20 24 (jb (e_8 != e_9)) h20 h24 fun h25 => ?_
      refine gq (.nsq (run_cond (t := (e_8 != e_9)) h25 h (fun h => ?_) (fun h => ?_)))
      · refine .seq (rg (g0 (jb false) fun h4 => ?_))
        refine gq (.nsq (.ret ?_))
        have hr := Option.some.inj h
        subst hr
        exact rrA (res_tmp h4) rfl
      refine .skip (.nbk (.nsq (rg (gm h5 fun h15 => g1 15 (ji (w64 (x_5 + 1))) h15 fun h16 => ?_))))
      refine gm h16 fun h5 => gq (.nlp ?_)
      exact ih (w64 (x_5 + 1)) _ ⟨h0, h1, h4, h5⟩ h
    refine .exit (.esq (.elp (.ebk (.nsq (.seq (rg (g0 (jb true) fun h4 => ?_)))))))
    refine gq (.nsq (.ret ?_))
    have hr := Option.some.inj h
    subst hr
    exact rrA (res_tmp h4) rfl
def w_eqIntS (F : Nat) (x_1 : (List Int)) (x_2 : (List Int)) : Option Bool :=
  bif ((x_1.length : Int) != (x_2.length : Int)) then
    some false
  else
    w_eqIntS_l1 F x_1 x_2 F 0
theorem t21 (H : H21 D σ F) (x_1 : (List Int)) (x_2 : (List Int)) (s : Nat → V) (hs : Facts [(0, (eL x_1)), (1, (eL x_2))] s) (h : w_eqIntS F x_1 x_2 = some r) : Run D σ (R21 r) (.run A21 []) s := by
  unfold w_eqIntS at h
  obtain ⟨h0, h1⟩ := hs
  refine .seq (rg (g0 (jb false) fun h4 => ?_))
  refine gq (.nsq (.seq (.seq (rg (gm h0 fun h6 => gv (ji (x_1.length : Int)) (ev_len (xs := x_1) h6) fun h7 => ?_)))))
  refine gm h1 fun h8 => gv (ji (x_2.length : Int)) (ev_len (xs := x_2) h8) fun h9 => ?_
  refine g2 7 9 (jb ((x_1.length : Int) != (x_2.length : Int))) h7 h9 fun h10 => ?_
  refine gq (.nsq (run_cond (t := ((x_1.length : Int) != (x_2.length : Int))) h10 h (fun h => ?_) (fun h => ?_)))
  · refine .seq (rg (g0 (jb false) fun h4 => ?_))
    refine gq (.nsq (.ret ?_))
    have hr := Option.some.inj h
    subst hr
    exact rrA (res_tmp h4) rfl
  refine .skip (.nsq (.seq (.seq (rg (g0 (ji 0) fun h5 => gq (.nsq (.block (.loop ?_))))))))
  exact t_f21_l1 H x_1 x_2 F 0 _ ⟨h0, h1, h4, h5⟩ h
end
def e21 (F : Nat) : Ent := ent 21 (fun (x : ((List Int) × (List Int) × Unit)) => w_eqIntS F x.1 x.2.1) (fun (r : Bool) => (Enc.enc (r : Bool))) 0 false []
theorem p21 {F : Nat} {x0 : (List Int)} {x1 : (List Int)} {r : Bool} (h : w_eqIntS F x0 x1 = some r) : (e21 F).den [Enc.enc x0, Enc.enc x1] = some (Enc.enc (r : Bool)) := ent_put (x0, x1, ()) h
theorem o21 {D : Den} {σ : Sig} {F : Nat} (hF : Fits2 Try.prog D σ) (H : H21 D σ F) : (e21 F).Ok Try.prog := by
  refine ok_of (f := 21) (show unk 21 = 21 from rfl) (fun args r h => ?_) ⟨Try.f21, Try.func21, rfl, rfl⟩
  obtain ⟨⟨x0, x1, _⟩, y, rfl, hy, rfl⟩ := da_open h
  exact contract_run hF (by kernel_rfl) Try.func21 rfl c21 (show 2 ≤ Try.f21.ntmps by decide) (t21 H x0 x1 _ ⟨rfl, rfl⟩ hy)
/- loop.example/g01109/laws.eqIntA2 -/
def A129_2 : AC := (.cond (.t 7) .skip (.exit 0))
def A129_4 : AC := (.cond (.t 16) (.seq (.reg [] [((jv 4 (.mov (.k (.bool false)))))] []) .ret) .skip)
def A129_5 : AC := (.reg [] [(jm 8 5), ((jv 9 (.bin .add (.t 8) (jn 1)))), (jm 5 9)] [])
def A129_3 : AC := (.seq (.block 1 (.seq (.reg [] [(jm 10 5), ((jv 11 (.idxA (.t 2) (.t 10) 2 1))), ((jv 12 (.load .s (.t 11)))), (jm 13 5), ((jv 14 (.idxA (.t 3) (.t 13) 2 1))), ((jv 15 (.load .s (.t 14)))), ((jv 16 (.bin .neq (.t 12) (.t 15))))] []) A129_4)) A129_5)
def A129_1 : AC := (.seq (.seq (.reg [] [(jm 6 5), ((jv 7 (.bin .lss (.t 6) (jn 2))))] []) A129_2) A129_3)
def A129_6 : AC := (.seq (.reg [] [((jv 4 (.mov (.k (.bool true)))))] []) .ret)
def A129_8 : AC := (.block 0 (.loop A129_1))
def A129_7 : AC := (.seq (.seq (.reg [] [((jv 5 (.mov (jn 0))))] []) A129_8) A129_6)
def A129 : AC := (.seq (.reg [.clr [2, 3]] [(.mk (some 2) none false (.box (.t 0))), (.mk (some 3) none false (.box (.t 1))), ((jv 4 (.mov (.k (.bool false)))))] []) A129_7)
def an129 : List An := [{ id := 0, pre := [.clr [2, 3]], ep := [], lin := [], sp := [] }]
theorem c129 : cC Try.prog Try.f129.ntmps an129 (Try.f129.body.getD .skip) = some A129 := by kernel_rfl
structure H129 (D : Den) (σ : Sig) (F : Nat) : Prop where
  mk ::
abbrev R129 (r : Bool) : (Nat → V) → Prop := RR Try.prog [.tmp 4] 0 false (Enc.enc (r : Bool))
section
variable {D : Den} {σ : Sig} {F : Nat} {r : Bool}
def w_eqIntA2_l1 (F : Nat) (x_1 : (Int × Int)) (x_2 : (Int × Int))  : Nat → Int → Option Bool
  | 0, _ => none
  | k + 1, x_3 =>
    bif decide (x_3 < 2) then
      (idx [x_1.1, x_1.2] x_3).bind fun e_6 =>
      (idx [x_2.1, x_2.2] x_3).bind fun e_7 =>
      bif (e_6 != e_7) then
        some false
      else
        (w_eqIntA2_l1 F x_1 x_2 k) (w64 (x_3 + 1))
    else
      some true
theorem t_f129_l1 (H : H129 D σ F) (x_1 : (Int × Int)) (x_2 : (Int × Int))  : ∀ (k : Nat) (x_3 : Int) (s : Nat → V), Facts [(2, (.ref (.bx 2) 0 [] (.agg [(ji x_1.1), (ji x_1.2)]))), (3, (.ref (.bx 3) 0 [] (.agg [(ji x_2.1), (ji x_2.2)]))), (4, (jb false)), (5, (ji x_3))] s → w_eqIntA2_l1 F x_1 x_2 k x_3 = some r → Run D σ (R129 r) (.run A129_1 [.lp A129_1, .bk 0, .sq A129_6]) s := by
  intro k
  induction k with
  | zero => intro x_3 s _ h; exact nomatch (h : (none : Option _) = some r)
  | succ k ih =>
    intro x_3 s hs h
    rw [w_eqIntA2_l1] at h
    obtain ⟨h2, h3, h4, h5⟩ := hs
    refine .seq (.seq (rg (gm h5 fun h6 => g1 6 (jb (decide (x_3 < 2))) h6 fun h7 => ?_)))
    refine gq (.nsq (run_cond (t := decide (x_3 < 2)) h7 h (fun h => ?_) (fun h => ?_)))
    · refine .skip (.nsq (.seq (.block (.seq (rg (gm h5 fun h10 => ?_))))))
      obtain ⟨e_6, E_e_6, h⟩ := bind_some h
      refine gv (.ref (.bx 2) 0 [x_3.toNat] (ji e_6)) (ev_idxA (xs := [x_1.1, x_1.2]) (a := e_6) (n := x_3) (q := []) h2 h10 E_e_6 rfl rfl rfl) fun h11 => ?_
      refine g1 11 (ji e_6) h11 fun h12 => ?_
      refine gm h5 fun h13 => ?_
      obtain ⟨e_7, E_e_7, h⟩ := bind_some h
      refine gv (.ref (.bx 3) 0 [x_3.toNat] (ji e_7)) (ev_idxA (xs := [x_2.1, x_2.2]) (a := e_7) (n := x_3) (q := []) h3 h13 E_e_7 rfl rfl rfl) fun h14 => ?_
      refine g1 14 (ji e_7) h14 fun h15 => ?_
      refine g2 12 15 (jb (e_6 != e_7)) h12 h15 fun h16 => ?_
      refine gq (.nsq (run_cond (t := (e_6 != e_7)) h16 h (fun h => ?_) (fun h => ?_)))
      · refine .seq (rg (g0 (jb false) fun h4 => ?_))
        refine gq (.nsq (.ret ?_))
        have hr := Option.some.inj h
        subst hr
        exact rrA (res_tmp h4) rfl
      refine .skip (.nbk (.nsq (rg (gm h5 fun h8 => g1 8 (ji (w64 (x_3 + 1))) h8 fun h9 => ?_))))
      refine gm h9 fun h5 => gq (.nlp ?_)
      exact ih (w64 (x_3 + 1)) _ ⟨h2, h3, h4, h5⟩ h
    refine .exit (.esq (.elp (.ebk (.nsq (.seq (rg (g0 (jb true) fun h4 => ?_)))))))
    refine gq (.nsq (.ret ?_))
    have hr := Option.some.inj h
    subst hr
    exact rrA (res_tmp h4) rfl
def w_eqIntA2 (F : Nat) (x_1 : (Int × Int)) (x_2 : (Int × Int)) : Option Bool :=
  w_eqIntA2_l1 F x_1 x_2 F 0
theorem t129 (H : H129 D σ F) (x_1 : (Int × Int)) (x_2 : (Int × Int)) (s : Nat → V) (hs : Facts [(0, (.agg [(ji x_1.1), (ji x_1.2)])), (1, (.agg [(ji x_2.1), (ji x_2.2)]))] s) (h : w_eqIntA2 F x_1 x_2 = some r) : Run D σ (R129 r) (.run A129 []) s := by
  unfold w_eqIntA2 at h
  obtain ⟨h0, h1⟩ := hs
  refine .seq (run_reg ?_)
  refine e_clr ?_
  refine ez [(0, _), (1, _), (2, _), (3, _)] ⟨(keep_clear (pk := [2, 3]) h0 rfl (map_agg (maps_cons mi (maps_cons mi maps_nil)))), (keep_clear (pk := [2, 3]) h1 rfl (map_agg (maps_cons mi (maps_cons mi maps_nil)))), (gone_clear (pk := [2, 3]) (t := 2) rfl), (gone_clear (pk := [2, 3]) (t := 3) rfl)⟩ ?_
  rintro s ⟨h0, h1, h2, h3⟩
  refine g_box (.agg [(ji x_1.1), (ji x_1.2)]) (rd_of h0 rfl) h2 rfl ?_
  refine g_box (.agg [(ji x_2.1), (ji x_2.2)]) (rd_of h1 rfl) h3 rfl ?_
  refine g0 (jb false) fun h4 => ?_
  refine gq (.nsq (.seq (.seq (rg (g0 (ji 0) fun h5 => gq (.nsq (.block (.loop ?_))))))))
  exact t_f129_l1 H x_1 x_2 F 0 _ ⟨rfl, rfl, h4, h5⟩ h
end
def e129 (F : Nat) : Ent := ent 129 (fun (x : ((Int × Int) × (Int × Int) × Unit)) => w_eqIntA2 F x.1 x.2.1) (fun (r : Bool) => (Enc.enc (r : Bool))) 0 false []
theorem p129 {F : Nat} {x0 : (Int × Int)} {x1 : (Int × Int)} {r : Bool} (h : w_eqIntA2 F x0 x1 = some r) : (e129 F).den [Enc.enc x0, Enc.enc x1] = some (Enc.enc (r : Bool)) := ent_put (x0, x1, ()) h
theorem o129 {D : Den} {σ : Sig} {F : Nat} (hF : Fits2 Try.prog D σ) (H : H129 D σ F) : (e129 F).Ok Try.prog := by
  refine ok_of (f := 129) (show unk 129 = 129 from rfl) (fun args r h => ?_) ⟨Try.f129, Try.func129, rfl, rfl⟩
  obtain ⟨⟨x0, x1, _⟩, y, rfl, hy, rfl⟩ := da_open h
  exact contract_run hF (by kernel_rfl) Try.func129 rfl c129 (show 2 ≤ Try.f129.ntmps by decide) (t129 H x0 x1 _ ⟨rfl, rfl⟩ hy)
/- loop.example/g01109/laws.eqIntA2S -/
def A68_2 : AC := (.cond (.t 14) .skip (.exit 0))
def A68_4 : AC := (.cond (.t 26) (.seq (.reg [] [((jv 4 (.mov (.k (.bool false)))))] []) .ret) .skip)
def A68_5 : AC := (.reg [] [(jm 15 5), ((jv 16 (.bin .add (.t 15) (jn 1)))), (jm 5 16)] [])
def A68_3 : AC := (.seq (.block 1 (.seq (.reg [] [(jm 17 0), (jm 18 5), ((jv 19 (.idx (.t 17) (.t 18) 2))), ((jv 20 (.load (.ag [.s, .s]) (.t 19)))), (jm 21 1), (jm 22 5), ((jv 23 (.idx (.t 21) (.t 22) 2))), ((jv 24 (.load (.ag [.s, .s]) (.t 23)))), (.mk (some 25) none false (.call (.k (.fn 129 [] [])) [(.t 20), (.t 24)])), ((jv 26 (.un .not (.t 25))))] []) A68_4)) A68_5)
def A68_1 : AC := (.seq (.seq (.reg [] [(jm 11 5), (jm 12 0), ((jv 13 (.len (.t 12)))), ((jv 14 (.bin .lss (.t 11) (.t 13))))] []) A68_2) A68_3)
def A68_6 : AC := (.seq (.reg [] [((jv 4 (.mov (.k (.bool true)))))] []) .ret)
def A68_8 : AC := (.cond (.t 10) (.seq (.reg [] [((jv 4 (.mov (.k (.bool false)))))] []) .ret) .skip)
def A68_10 : AC := (.block 0 (.loop A68_1))
def A68_9 : AC := (.seq (.seq (.reg [] [((jv 5 (.mov (jn 0))))] []) A68_10) A68_6)
def A68_7 : AC := (.seq (.seq (.reg [] [(jm 6 0), ((jv 7 (.len (.t 6)))), (jm 8 1), ((jv 9 (.len (.t 8)))), ((jv 10 (.bin .neq (.t 7) (.t 9))))] []) A68_8) A68_9)
def A68 : AC := (.seq (.reg [] [((jv 4 (.mov (.k (.bool false)))))] []) A68_7)
def an68 : List An := []
theorem c68 : cC Try.prog Try.f68.ntmps an68 (Try.f68.body.getD .skip) = some A68 := by kernel_rfl
structure H68 (D : Den) (σ : Sig) (F : Nat) : Prop where
  c129 : ∀ (x0 : (Int × Int)) (x1 : (Int × Int)) r, w_eqIntA2 F x0 x1 = some r → D 129 [Enc.enc x0, Enc.enc x1] = some (Enc.enc (r : Bool))
  g129 : σ 129 = some (0, false)
abbrev R68 (r : Bool) : (Nat → V) → Prop := RR Try.prog [.tmp 4] 0 false (Enc.enc (r : Bool))
section
variable {D : Den} {σ : Sig} {F : Nat} {r : Bool}
def w_eqIntA2S_l1 (F : Nat) (x_1 : (List (Int × Int))) (x_2 : (List (Int × Int)))  : Nat → Int → Option Bool
  | 0, _ => none
  | k + 1, x_6 =>
    bif decide (x_6 < (x_1.length : Int)) then
      (idx x_1 x_6).bind fun e_10 =>
      (idx x_2 x_6).bind fun e_11 =>
      (w_eqIntA2 F e_10 e_11).bind fun r_12 =>
      bif (!r_12) then
        some false
      else
        (w_eqIntA2S_l1 F x_1 x_2 k) (w64 (x_6 + 1))
    else
      some true
theorem t_f68_l1 (H : H68 D σ F) (x_1 : (List (Int × Int))) (x_2 : (List (Int × Int)))  : ∀ (k : Nat) (x_6 : Int) (s : Nat → V), Facts [(0, (Enc.enc (x_1 : List (Int × Int)))), (1, (Enc.enc (x_2 : List (Int × Int)))), (4, (jb false)), (5, (ji x_6))] s → w_eqIntA2S_l1 F x_1 x_2 k x_6 = some r → Run D σ (R68 r) (.run A68_1 [.lp A68_1, .bk 0, .sq A68_6]) s := by
  intro k
  induction k with
  | zero => intro x_6 s _ h; exact nomatch (h : (none : Option _) = some r)
  | succ k ih =>
    intro x_6 s hs h
    rw [w_eqIntA2S_l1] at h
    obtain ⟨h0, h1, h4, h5⟩ := hs
    refine .seq (.seq (rg (gm h5 fun h11 => gm h0 fun h12 => gv (ji (x_1.length : Int)) (ev_len (xs := x_1) h12) fun h13 => ?_)))
    refine g2 11 13 (jb (decide (x_6 < (x_1.length : Int)))) h11 h13 fun h14 => ?_
    refine gq (.nsq (run_cond (t := decide (x_6 < (x_1.length : Int))) h14 h (fun h => ?_) (fun h => ?_)))
    · refine .skip (.nsq (.seq (.block (.seq (rg (gm h0 fun h17 => gm h5 fun h18 => ?_))))))
      obtain ⟨e_10, E_e_10, h⟩ := bind_some h
      refine gv (.ref .sh 0 [] (.agg [(ji e_10.1), (ji e_10.2)])) (ev_idx (t := .sh) (lo := 0) (xs := x_1) h17 h18 E_e_10 rfl rfl) fun h19 => ?_
      refine g1 19 (.agg [(ji e_10.1), (ji e_10.2)]) h19 fun h20 => ?_
      refine gm h1 fun h21 => gm h5 fun h22 => ?_
      obtain ⟨e_11, E_e_11, h⟩ := bind_some h
      refine gv (.ref .sh 0 [] (.agg [(ji e_11.1), (ji e_11.2)])) (ev_idx (t := .sh) (lo := 0) (xs := x_2) h21 h22 E_e_11 rfl rfl) fun h23 => ?_
      refine g1 23 (.agg [(ji e_11.1), (ji e_11.2)]) h23 fun h24 => ?_
      obtain ⟨r_12, E_r_12, h⟩ := bind_some h
      refine g_call (m := 0) (al := false) (r := (Enc.enc (r_12 : Bool))) [Enc.enc (e_10 : (Int × Int)), Enc.enc (e_11 : (Int × Int))] (ta_cons (v := (.agg [(ji e_10.1), (ji e_10.2)])) h20 rfl (Enc.erase_enc (e_10 : (Int × Int))) (ta_cons (v := (.agg [(ji e_11.1), (ji e_11.2)])) h24 rfl (Enc.erase_enc (e_11 : (Int × Int))) ta_nil)) (H.c129 _ _ _ E_r_12) H.g129 rfl rfl rfl rfl ?_
      refine g1 25 (jb (!r_12)) (rfl : (_ : V) = (jb r_12)) fun h26 => ?_
      refine gq (.nsq (run_cond (t := (!r_12)) h26 h (fun h => ?_) (fun h => ?_)))
      · refine .seq (rg (g0 (jb false) fun h4 => ?_))
        refine gq (.nsq (.ret ?_))
        have hr := Option.some.inj h
        subst hr
        exact rrA (res_tmp h4) rfl
      refine .skip (.nbk (.nsq (rg (gm h5 fun h15 => g1 15 (ji (w64 (x_6 + 1))) h15 fun h16 => ?_))))
      refine gm h16 fun h5 => gq (.nlp ?_)
      exact ih (w64 (x_6 + 1)) _ ⟨h0, h1, h4, h5⟩ h
    refine .exit (.esq (.elp (.ebk (.nsq (.seq (rg (g0 (jb true) fun h4 => ?_)))))))
    refine gq (.nsq (.ret ?_))
    have hr := Option.some.inj h
    subst hr
    exact rrA (res_tmp h4) rfl
def w_eqIntA2S (F : Nat) (x_1 : (List (Int × Int))) (x_2 : (List (Int × Int))) : Option Bool :=
  bif ((x_1.length : Int) != (x_2.length : Int)) then
    some false
  else
    w_eqIntA2S_l1 F x_1 x_2 F 0
theorem t68 (H : H68 D σ F) (x_1 : (List (Int × Int))) (x_2 : (List (Int × Int))) (s : Nat → V) (hs : Facts [(0, (Enc.enc (x_1 : List (Int × Int)))), (1, (Enc.enc (x_2 : List (Int × Int))))] s) (h : w_eqIntA2S F x_1 x_2 = some r) : Run D σ (R68 r) (.run A68 []) s := by
  unfold w_eqIntA2S at h
  obtain ⟨h0, h1⟩ := hs
  refine .seq (rg (g0 (jb false) fun h4 => ?_))
  refine gq (.nsq (.seq (.seq (rg (gm h0 fun h6 => gv (ji (x_1.length : Int)) (ev_len (xs := x_1) h6) fun h7 => ?_)))))
  refine gm h1 fun h8 => gv (ji (x_2.length : Int)) (ev_len (xs := x_2) h8) fun h9 => ?_
  refine g2 7 9 (jb ((x_1.length : Int) != (x_2.length : Int))) h7 h9 fun h10 => ?_
  refine gq (.nsq (run_cond (t := ((x_1.length : Int) != (x_2.length : Int))) h10 h (fun h => ?_) (fun h => ?_)))
  · refine .seq (rg (g0 (jb false) fun h4 => ?_))
    refine gq (.nsq (.ret ?_))
    have hr := Option.some.inj h
    subst hr
    exact rrA (res_tmp h4) rfl
  refine .skip (.nsq (.seq (.seq (rg (g0 (ji 0) fun h5 => gq (.nsq (.block (.loop ?_))))))))
  exact t_f68_l1 H x_1 x_2 F 0 _ ⟨h0, h1, h4, h5⟩ h
end
def e68 (F : Nat) : Ent := ent 68 (fun (x : ((List (Int × Int)) × (List (Int × Int)) × Unit)) => w_eqIntA2S F x.1 x.2.1) (fun (r : Bool) => (Enc.enc (r : Bool))) 0 false []
theorem p68 {F : Nat} {x0 : (List (Int × Int))} {x1 : (List (Int × Int))} {r : Bool} (h : w_eqIntA2S F x0 x1 = some r) : (e68 F).den [Enc.enc x0, Enc.enc x1] = some (Enc.enc (r : Bool)) := ent_put (x0, x1, ()) h
theorem o68 {D : Den} {σ : Sig} {F : Nat} (hF : Fits2 Try.prog D σ) (H : H68 D σ F) : (e68 F).Ok Try.prog := by
  refine ok_of (f := 68) (show unk 68 = 68 from rfl) (fun args r h => ?_) ⟨Try.f68, Try.func68, rfl, rfl⟩
  obtain ⟨⟨x0, x1, _⟩, y, rfl, hy, rfl⟩ := da_open h
  exact contract_run hF (by kernel_rfl) Try.func68 rfl c68 (show 2 ≤ Try.f68.ntmps by decide) (t68 H x0 x1 _ ⟨rfl, rfl⟩ hy)
/- loop.example/g01109/laws.eqGraph -/
def A20_2 : AC := (.cond (.t 9) (.seq (.reg [] [((jv 4 (.mov (.k (.bool false)))))] []) .ret) .skip)
def A20_4 : AC := (.cond (.t 15) (.seq (.reg [] [((jv 4 (.mov (.k (.bool false)))))] []) .ret) .skip)
def A20_5 : AC := (.seq (.reg [] [((jv 4 (.mov (.k (.bool true)))))] []) .ret)
def A20_3 : AC := (.seq (.seq (.reg [] [((jv 10 (.fld (.t 2) 1 1))), ((jv 11 (.load .p (.t 10)))), ((jv 12 (.fld (.t 3) 1 1))), ((jv 13 (.load .p (.t 12)))), (.mk (some 14) none false (.call (.k (.fn 68 [] [])) [(.t 11), (.t 13)])), ((jv 15 (.un .not (.t 14))))] []) A20_4) A20_5)
def A20_1 : AC := (.seq (.seq (.reg [] [((jv 5 (.fld (.t 2) 0 0))), ((jv 6 (.load .s (.t 5)))), ((jv 7 (.fld (.t 3) 0 0))), ((jv 8 (.load .s (.t 7)))), ((jv 9 (.bin .neq (.t 6) (.t 8))))] []) A20_2) A20_3)
def A20 : AC := (.seq (.reg [.clr [2, 3]] [(.mk (some 2) none false (.box (.t 0))), (.mk (some 3) none false (.box (.t 1))), ((jv 4 (.mov (.k (.bool false)))))] []) A20_1)
def an20 : List An := [{ id := 0, pre := [.clr [2, 3]], ep := [], lin := [], sp := [] }]
theorem c20 : cC Try.prog Try.f20.ntmps an20 (Try.f20.body.getD .skip) = some A20 := by kernel_rfl
structure H20 (D : Den) (σ : Sig) (F : Nat) : Prop where
  c68 : ∀ (x0 : (List (Int × Int))) (x1 : (List (Int × Int))) r, w_eqIntA2S F x0 x1 = some r → D 68 [Enc.enc x0, Enc.enc x1] = some (Enc.enc (r : Bool))
  g68 : σ 68 = some (0, false)
abbrev R20 (r : Bool) : (Nat → V) → Prop := RR Try.prog [.tmp 4] 0 false (Enc.enc (r : Bool))
section
variable {D : Den} {σ : Sig} {F : Nat} {r : Bool}
def w_eqGraph (F : Nat) (x_1 : (Int × (List (Int × Int)))) (x_2 : (Int × (List (Int × Int)))) : Option Bool :=
  bif (x_1.1 != x_2.1) then
    some false
  else
    (w_eqIntA2S F x_1.2 x_2.2).bind fun r_3 =>
    bif (!r_3) then
      some false
    else
      some true
theorem t20 (H : H20 D σ F) (x_1 : (Int × (List (Int × Int)))) (x_2 : (Int × (List (Int × Int)))) (s : Nat → V) (hs : Facts [(0, (.agg [(ji x_1.1), (Enc.enc (x_1.2 : List (Int × Int)))])), (1, (.agg [(ji x_2.1), (Enc.enc (x_2.2 : List (Int × Int)))]))] s) (h : w_eqGraph F x_1 x_2 = some r) : Run D σ (R20 r) (.run A20 []) s := by
  unfold w_eqGraph at h
  obtain ⟨h0, h1⟩ := hs
  refine .seq (run_reg ?_)
  refine e_clr ?_
  refine ez [(0, _), (1, _), (2, _), (3, _)] ⟨(keep_clear (pk := [2, 3]) h0 rfl (map_agg (maps_cons mi (maps_cons me maps_nil)))), (keep_clear (pk := [2, 3]) h1 rfl (map_agg (maps_cons mi (maps_cons me maps_nil)))), (gone_clear (pk := [2, 3]) (t := 2) rfl), (gone_clear (pk := [2, 3]) (t := 3) rfl)⟩ ?_
  rintro s ⟨h0, h1, h2, h3⟩
  refine g_box (.agg [(ji x_1.1), (Enc.enc (x_1.2 : List (Int × Int)))]) (rd_of h0 rfl) h2 rfl ?_
  refine g_box (.agg [(ji x_2.1), (Enc.enc (x_2.2 : List (Int × Int)))]) (rd_of h1 rfl) h3 rfl ?_
  refine g0 (jb false) fun h4 => ?_
  refine gq (.nsq (.seq (.seq (rg (g1 2 (.ref (.bx 2) 0 [0] (ji x_1.1)) (rfl : (_ : V) = (.ref (.bx 2) 0 [] (.agg [(ji x_1.1), (Enc.enc (x_1.2 : List (Int × Int)))]))) fun h5 => ?_)))))
  refine g1 5 (ji x_1.1) h5 fun h6 => ?_
  refine g1 3 (.ref (.bx 3) 0 [0] (ji x_2.1)) (rfl : (_ : V) = (.ref (.bx 3) 0 [] (.agg [(ji x_2.1), (Enc.enc (x_2.2 : List (Int × Int)))]))) fun h7 => ?_
  refine g1 7 (ji x_2.1) h7 fun h8 => ?_
  refine g2 6 8 (jb (x_1.1 != x_2.1)) h6 h8 fun h9 => ?_
  refine gq (.nsq (run_cond (t := (x_1.1 != x_2.1)) h9 h (fun h => ?_) (fun h => ?_)))
  · refine .seq (rg (g0 (jb false) fun h4 => ?_))
    refine gq (.nsq (.ret ?_))
    have hr := Option.some.inj h
    subst hr
    exact rrA (res_tmp h4) rfl
  refine .skip (.nsq (.seq (.seq (rg (g1 2 (.ref (.bx 2) 0 [1] (Enc.enc (x_1.2 : List (Int × Int)))) (rfl : (_ : V) = (.ref (.bx 2) 0 [] (.agg [(ji x_1.1), (Enc.enc (x_1.2 : List (Int × Int)))]))) fun h10 => ?_)))))
  refine g1 10 (Enc.enc (x_1.2 : List (Int × Int))) h10 fun h11 => ?_
  refine g1 3 (.ref (.bx 3) 0 [1] (Enc.enc (x_2.2 : List (Int × Int)))) (rfl : (_ : V) = (.ref (.bx 3) 0 [] (.agg [(ji x_2.1), (Enc.enc (x_2.2 : List (Int × Int)))]))) fun h12 => ?_
  refine g1 12 (Enc.enc (x_2.2 : List (Int × Int))) h12 fun h13 => ?_
  obtain ⟨r_3, E_r_3, h⟩ := bind_some h
  refine g_call (m := 0) (al := false) (r := (Enc.enc (r_3 : Bool))) [Enc.enc (x_1.2 : (List (Int × Int))), Enc.enc (x_2.2 : (List (Int × Int)))] (ta_cons (v := (Enc.enc (x_1.2 : List (Int × Int)))) h11 rfl (Enc.erase_enc (x_1.2 : (List (Int × Int)))) (ta_cons (v := (Enc.enc (x_2.2 : List (Int × Int)))) h13 rfl (Enc.erase_enc (x_2.2 : (List (Int × Int)))) ta_nil)) (H.c68 _ _ _ E_r_3) H.g68 rfl rfl rfl rfl ?_
  refine g1 14 (jb (!r_3)) (rfl : (_ : V) = (jb r_3)) fun h15 => ?_
  refine gq (.nsq (run_cond (t := (!r_3)) h15 h (fun h => ?_) (fun h => ?_)))
  · refine .seq (rg (g0 (jb false) fun h4 => ?_))
    refine gq (.nsq (.ret ?_))
    have hr := Option.some.inj h
    subst hr
    exact rrA (res_tmp h4) rfl
  refine .skip (.nsq (.seq (rg (g0 (jb true) fun h4 => ?_))))
  refine gq (.nsq (.ret ?_))
  have hr := Option.some.inj h
  subst hr
  exact rrA (res_tmp h4) rfl
end
def e20 (F : Nat) : Ent := ent 20 (fun (x : ((Int × (List (Int × Int))) × (Int × (List (Int × Int))) × Unit)) => w_eqGraph F x.1 x.2.1) (fun (r : Bool) => (Enc.enc (r : Bool))) 0 false []
theorem p20 {F : Nat} {x0 : (Int × (List (Int × Int)))} {x1 : (Int × (List (Int × Int)))} {r : Bool} (h : w_eqGraph F x0 x1 = some r) : (e20 F).den [Enc.enc x0, Enc.enc x1] = some (Enc.enc (r : Bool)) := ent_put (x0, x1, ()) h
theorem o20 {D : Den} {σ : Sig} {F : Nat} (hF : Fits2 Try.prog D σ) (H : H20 D σ F) : (e20 F).Ok Try.prog := by
  refine ok_of (f := 20) (show unk 20 = 20 from rfl) (fun args r h => ?_) ⟨Try.f20, Try.func20, rfl, rfl⟩
  obtain ⟨⟨x0, x1, _⟩, y, rfl, hy, rfl⟩ := da_open h
  exact contract_run hF (by kernel_rfl) Try.func20 rfl c20 (show 2 ≤ Try.f20.ntmps by decide) (t20 H x0 x1 _ ⟨rfl, rfl⟩ hy)
/- loop.example/g01109/laws.toIntA2S -/
def A62o_2 : AC := (.cond (.t 11) .skip (.exit 0))
def A62o_4 : AC := (.reg [] [(jm 12 4), ((jv 13 (.bin .add (.t 12) (jn 1)))), (jm 4 13)] [])
def A62o_3 : AC := (.seq (.block 1 (.reg [] [(jm 14 3), (jm 15 4), (jm 16 0), (jm 17 4), ((jv 18 (.idx (.t 16) (.t 17) 2))), ((jv 19 (.load (.ag [.s, .s]) (.t 18)))), (.mk (some 20) none false (.call (.k (.fn 123 [] [])) [(.t 19)])), ((jv 21 (.idx (.t 14) (.t 15) 2))), (.mk none none false (.store (.ag [.s, .s]) (.t 21) (.t 20)))] [])) A62o_4)
def A62o_1 : AC := (.seq (.seq (.reg [] [(jm 8 4), (jm 9 0), ((jv 10 (.len (.t 9)))), ((jv 11 (.bin .lss (.t 8) (.t 10))))] []) A62o_2) A62o_3)
def A62o_5 : AC := (.seq (.reg [] [(jm 22 3), (jm 2 22)] [.home 3 2]) .ret)
def A62o_8 : AC := (.block 0 (.loop A62o_1))
def A62o_7 : AC := (.seq (.seq (.reg [] [((jv 4 (.mov (jn 0))))] []) A62o_8) A62o_5)
def A62o_6 : AC := (.seq (.reg [.clr [7]] [(jm 5 0), ((jv 6 (.len (.t 5)))), (.mk (some 7) none false (.mk (.t 6) (.agg [(.int .i64 (.ofNat 0)), (.int .i64 (.ofNat 0))]) (.agg [(.int .i64 (.ofNat 0)), (.int .i64 (.ofNat 0))]))), (jm 3 7)] [.home 7 3]) A62o_7)
def A62o : AC := (.seq (.reg [] [((jv 2 (.mov (.k (.sl .nl (.ag [.s, .s]) 0 [])))))] []) A62o_6)
def an62o : List An := [{ id := 1, pre := [.clr [7]], ep := [.home 7 3], lin := [], sp := [] }, { id := 6, pre := [], ep := [.home 3 2], lin := [], sp := [] }]
theorem c62o : cC Try.prog Try.f62.ntmps an62o (Try.f62.body.getD .skip) = some A62o := by kernel_rfl
structure H62o (D : Den) (σ : Sig) (F : Nat) : Prop where
  c123 : ∀ (x0 : (Int × Int)) r, w_toIntA2 F x0 = some r → D 123 [Enc.enc x0] = some (Enc.enc (r : (Int × Int)))
  g123 : σ 123 = some (0, false)
abbrev R62o (r : (NL (Int × Int))) : (Nat → V) → Prop := RR Try.prog [.tmp 2] 1 false (encO .sh (r : NL (Int × Int)))
section
variable {D : Den} {σ : Sig} {F : Nat} {r : (NL (Int × Int))}
def w_toIntA2S_o_l1 (F : Nat) (x_1 : (List (Int × Int)))  : Nat → (List (Int × Int)) → Int → Option (NL (Int × Int))
  | 0, _, _ => none
  | k + 1, x_6, x_7 =>
    bif decide (x_7 < (x_1.length : Int)) then
      (idx x_1 x_7).bind fun e_11 =>
      (w_toIntA2 F e_11).bind fun r_12 =>
      (idx x_6 x_7).bind fun e_13 =>
      (w_toIntA2S_o_l1 F x_1 k) (x_6.set x_7.toNat r_12) (w64 (x_7 + 1))
    else
      some (.of x_6)
theorem t_f62o_l1 (H : H62o D σ F) (x_1 : (List (Int × Int)))  : ∀ (k : Nat) (x_6 : (List (Int × Int))) (x_7 : Int) (s : Nat → V), Facts [(0, (Enc.enc (x_1 : List (Int × Int)))), (2, (.sl .nl (Enc.shp (Int × Int)) 0 [])), (3, (encO (.at 3 []) (.of (x_6 : List (Int × Int))))), (4, (ji x_7))] s → w_toIntA2S_o_l1 F x_1 k x_6 x_7 = some r → Run D σ (R62o r) (.run A62o_1 [.lp A62o_1, .bk 0, .sq A62o_5]) s := by
  intro k
  induction k with
  | zero => intro x_6 x_7 s _ h; exact nomatch (h : (none : Option _) = some r)
  | succ k ih =>
    intro x_6 x_7 s hs h
    rw [w_toIntA2S_o_l1] at h
    obtain ⟨h0, h2, h3, h4⟩ := hs
    refine .seq (.seq (rg (gm h4 fun h8 => gm h0 fun h9 => gv (ji (x_1.length : Int)) (ev_len (xs := x_1) h9) fun h10 => ?_)))
    refine g2 8 10 (jb (decide (x_7 < (x_1.length : Int)))) h8 h10 fun h11 => ?_
    refine gq (.nsq (run_cond (t := decide (x_7 < (x_1.length : Int))) h11 h (fun h => ?_) (fun h => ?_)))
    · refine .skip (.nsq (.seq (.block (rg (gm h3 fun h14 => gm h4 fun h15 => gm h0 fun h16 => gm h4 fun h17 => ?_)))))
      obtain ⟨e_11, E_e_11, h⟩ := bind_some h
      refine gv (.ref .sh 0 [] (.agg [(ji e_11.1), (ji e_11.2)])) (ev_idx (t := .sh) (lo := 0) (xs := x_1) h16 h17 E_e_11 rfl rfl) fun h18 => ?_
      refine g1 18 (.agg [(ji e_11.1), (ji e_11.2)]) h18 fun h19 => ?_
      obtain ⟨r_12, E_r_12, h⟩ := bind_some h
      refine g_call (m := 0) (al := false) (r := (Enc.enc (r_12 : (Int × Int)))) [Enc.enc (e_11 : (Int × Int))] (ta_cons (v := (.agg [(ji e_11.1), (ji e_11.2)])) h19 rfl (Enc.erase_enc (e_11 : (Int × Int))) ta_nil) (H.c123 _ _ E_r_12) H.g123 rfl rfl rfl rfl ?_
      obtain ⟨e_13, E_e_13, h⟩ := bind_some h
      refine gv (.ref (.at 3 []) x_7.toNat [] (.agg [(ji e_13.1), (ji e_13.2)])) (ev_idxO (o := (.of x_6)) h14 h15 E_e_13 rfl) fun h21 => ?_
      refine g_store (.agg [(ji r_12.1), (ji r_12.2)]) (rd_of h21 rfl) (rd_of rfl rfl) (by refine ⟨by decide, by decide, rfl, rfl, rfl, ?_⟩; first | rfl | (simp [V.toks, V.tokss, Enc.toks_enc]; done) | simp [V.toks, V.tokss, Enc.toks_enc, tok_memP]) ?_
      refine gz [(0, (Enc.enc (x_1 : List (Int × Int)))), (2, (.sl .nl (Enc.shp (Int × Int)) 0 [])), (3, _), (4, (ji x_7))] ⟨(keep_mut h0 (Enc.mut_enc _ _ _ _ (x_1 : List (Int × Int)))), (keep_mut h2 rfl), (keep_mut h3 mut_own), (keep_mut h4 rfl)⟩ ?_
      rintro s ⟨h0, h2, h3, h4⟩
      refine .nbk (.nsq (rg (gm h4 fun h12 => g1 12 (ji (w64 (x_7 + 1))) h12 fun h13 => ?_)))
      refine gm h13 fun h4 => gq (.nlp ?_)
      exact ih (x_6.set x_7.toNat r_12) (w64 (x_7 + 1)) _ ⟨h0, h2, h3, h4⟩ h
    refine .exit (.esq (.elp (.ebk (.nsq (.seq (rg (gm h3 fun h22 => gm h22 fun h2 => g_end ?_)))))))
    refine e_home (r := 3) (x := 2) (v := _) h2 rfl (fun s_3 hg_3 => ?_)
    refine ez [(2, (encO (.at 2 []) (.of (x_6 : List (Int × Int)))))] (hg_3 2 _ _ h2 (map_encO (r := 3) (p := []) rfl rfl)) ?_
    rintro s h2
    refine .nsq (.ret ?_)
    have hr := Option.some.inj h
    subst hr
    exact rrA (res_tmp h2) (fin_retO (finO_own (o := ((.of x_6) : NL (Int × Int)))) rfl (mine_own rfl))
def w_toIntA2S_o (F : Nat) (x_1 : (List (Int × Int))) : Option (NL (Int × Int)) :=
  (mkN (x_1.length : Int) (0, 0)).bind fun mk_2 =>
  w_toIntA2S_o_l1 F x_1 F mk_2 0
theorem t62o (H : H62o D σ F) (x_1 : (List (Int × Int))) (s : Nat → V) (hs : Facts [(0, (Enc.enc (x_1 : List (Int × Int))))] s) (h : w_toIntA2S_o F x_1 = some r) : Run D σ (R62o r) (.run A62o []) s := by
  unfold w_toIntA2S_o at h
  have h0 := hs
  refine .seq (rg (g0 (.sl .nl (Enc.shp (Int × Int)) 0 []) fun h2 => ?_))
  refine gq (.nsq (.seq (run_reg ?_)))
  refine e_clr ?_
  refine ez [(0, _), (2, _), (7, _)] ⟨(keep_clear (pk := [7]) h0 rfl me), (keep_clear (pk := [7]) h2 rfl rfl), (gone_clear (pk := [7]) (t := 7) rfl)⟩ ?_
  rintro s ⟨h0, h2, h7⟩
  refine gm h0 fun h5 => gv (ji (x_1.length : Int)) (ev_len (xs := x_1) h5) fun h6 => ?_
  obtain ⟨mk_2, E_mk_2, h⟩ := bind_some h
  refine g_mk ((0, 0) : (Int × Int)) h6 rfl h7 E_mk_2 ?_
  refine gm (rfl : (_ : V) = (encO (.at 7 []) (.of (mk_2 : List (Int × Int))))) fun h3 => ?_
  refine g_end ?_
  refine e_home (r := 7) (x := 3) (v := _) h3 rfl (fun s_2 hg_2 => ?_)
  refine ez [(0, (Enc.enc (x_1 : List (Int × Int)))), (2, (.sl .nl (Enc.shp (Int × Int)) 0 [])), (3, (encO (.at 3 []) (.of (mk_2 : List (Int × Int)))))] ⟨(hg_2 0 _ _ h0 me), (hg_2 2 _ (.sl .nl (Enc.shp (Int × Int)) 0 []) h2 rfl), (hg_2 3 _ _ h3 (map_encO (r := 7) (p := []) rfl rfl))⟩ ?_
  rintro s ⟨h0, h2, h3⟩
  refine .nsq (.seq (.seq (rg (g0 (ji 0) fun h4 => gq (.nsq (.block (.loop ?_)))))))
  exact t_f62o_l1 H x_1 F mk_2 0 _ ⟨h0, h2, h3, h4⟩ h
end
def e62o (F : Nat) : Ent := ent 1000000062 (fun (x : ((List (Int × Int)) × Unit)) => w_toIntA2S_o F x.1) (fun (r : (NL (Int × Int))) => (encO .sh (r : NL (Int × Int)))) 1 false []
theorem p62o {F : Nat} {x0 : (List (Int × Int))} {r : (NL (Int × Int))} (h : w_toIntA2S_o F x0 = some r) : (e62o F).den [Enc.enc x0] = some (encO .sh (r : NL (Int × Int))) := ent_put (x0, ()) h
theorem o62o {D : Den} {σ : Sig} {F : Nat} (hF : Fits2 Try.prog D σ) (H : H62o D σ F) : (e62o F).Ok Try.prog := by
  refine ok_of (f := 62) (show unk 1000000062 = 62 from rfl) (fun args r h => ?_) ⟨Try.f62, Try.func62, rfl, rfl⟩
  obtain ⟨⟨x0, _⟩, y, rfl, hy, rfl⟩ := da_open h
  exact contract_run hF (by kernel_rfl) Try.func62 rfl c62o (show 1 ≤ Try.f62.ntmps by decide) (t62o H x0 _ rfl hy)
/- loop.example/g01109/laws.toGraph -/
def A17o_4 : AC := (.seq (.reg [] [((jv 11 (.load (.ag [.s, .p]) (.t 3)))), (.mk none none false (.store (.ag [.s, .p]) (.t 2) (.t 11)))] []) .ret)
def A17o_3 : AC := (.seq (.reg [.clr [9]] [((jv 7 (.fld (.t 1) 1 1))), ((jv 8 (.load .p (.t 7)))), (.mk (some 9) none false (.callO (.k (.fn 62 [] [])) [(.t 8)])), ((jv 10 (.fld (.t 3) 1 1))), (.mk none none false (.store .p (.t 10) (.t 9)))] []) A17o_4)
def A17o_2 : AC := (.seq (.reg [] [((jv 4 (.fld (.t 1) 0 0))), ((jv 5 (.load .s (.t 4)))), ((jv 6 (.fld (.t 3) 0 0))), (.mk none none false (.store .s (.t 6) (.t 5)))] []) A17o_3)
def A17o_1 : AC := (.seq (.reg [.clr [3]] [(.mk (some 3) none false (.alloc (.agg [(.int .i64 (.ofNat 0)), (.sl .nl (.ag [.s, .s]) 0 [])])))] []) A17o_2)
def A17o : AC := (.seq (.reg [.clr [1, 2]] [(.mk (some 1) none false (.box (.t 0))), (.mk (some 2) none false (.alloc (.agg [(.int .i64 (.ofNat 0)), (.sl .nl (.ag [.s, .s]) 0 [])])))] []) A17o_1)
def an17o : List An := [{ id := 0, pre := [.clr [1, 2]], ep := [], lin := [], sp := [] }, { id := 1, pre := [.clr [3]], ep := [], lin := [], sp := [] }, { id := 3, pre := [.clr [9]], ep := [], lin := [], sp := [1002] }]
theorem c17o : cC Try.prog Try.f17.ntmps an17o (Try.f17.body.getD .skip) = some A17o := by kernel_rfl
structure H17o (D : Den) (σ : Sig) (F : Nat) : Prop where
  c62o : ∀ (x0 : (List (Int × Int))) r, w_toIntA2S_o F x0 = some r → D 1000000062 [Enc.enc x0] = some (encO .sh (r : NL (Int × Int)))
  g62o : σ 1000000062 = some (1, false)
abbrev R17o (r : (Int × (NL (Int × Int)))) : (Nat → V) → Prop := RR Try.prog [.cell 2 27] 1 false (.agg [(Enc.enc (r.1 : Int)), (encO .sh (r.2 : NL (Int × Int)))])
section
variable {D : Den} {σ : Sig} {F : Nat} {r : (Int × (NL (Int × Int)))}
def w_toGraph_o (F : Nat) (x_1 : (Int × (List (Int × Int)))) : Option (Int × (NL (Int × Int))) :=
  (w_toIntA2S_o F x_1.2).bind fun r_2 =>
  some (x_1.1, r_2)
theorem t17o (H : H17o D σ F) (x_1 : (Int × (List (Int × Int)))) (s : Nat → V) (hs : Facts [(0, (.agg [(ji x_1.1), (Enc.enc (x_1.2 : List (Int × Int)))]))] s) (h : w_toGraph_o F x_1 = some r) : Run D σ (R17o r) (.run A17o []) s := by
  unfold w_toGraph_o at h
  have h0 := hs
  refine .seq (run_reg ?_)
  refine e_clr ?_
  refine ez [(0, _), (1, _), (2, _)] ⟨(keep_clear (pk := [1, 2]) h0 rfl (map_agg (maps_cons mi (maps_cons me maps_nil)))), (gone_clear (pk := [1, 2]) (t := 1) rfl), (gone_clear (pk := [1, 2]) (t := 2) rfl)⟩ ?_
  rintro s ⟨h0, h1, h2⟩
  refine g_box (.agg [(ji x_1.1), (Enc.enc (x_1.2 : List (Int × Int)))]) (rd_of h0 rfl) h1 rfl ?_
  refine g_alloc h2 ?_
  refine gq (.nsq (.seq (run_reg ?_)))
  refine e_clr ?_
  refine ez [(1, _), (2, _), (3, _)] ⟨(keep_clear (pk := [3]) rfl rfl (map_bx rfl (map_agg (maps_cons mi (maps_cons me maps_nil))))), (keep_clear (pk := [3]) rfl rfl (map_bx rfl (map_agg (maps_cons mi (maps_cons rfl maps_nil))))), (gone_clear (pk := [3]) (t := 3) rfl)⟩ ?_
  rintro s ⟨h1, h2, h3⟩
  refine g_alloc h3 ?_
  refine gq (.nsq (.seq (rg (g1 1 (.ref (.bx 1) 0 [0] (ji x_1.1)) h1 fun h4 => ?_))))
  refine g1 4 (ji x_1.1) h4 fun h5 => ?_
  refine g1 3 (.ref (.bx 3) 0 [0] (ji 0)) (rfl : (_ : V) = (.ref (.bx 3) 0 [] (.agg [(ji 0), (.sl .nl (Enc.shp (Int × Int)) 0 [])]))) fun h6 => ?_
  refine g_store (ji x_1.1) (rd_of h6 rfl) (rd_of h5 rfl) (by refine ⟨by decide, by decide, rfl, rfl, rfl, ?_⟩; first | rfl | (simp [V.toks, V.tokss, Enc.toks_enc]; done) | simp [V.toks, V.tokss, Enc.toks_enc, tok_memP]) ?_
  refine gz [(1, (.ref (.bx 1) 0 [] (.agg [(ji x_1.1), (Enc.enc (x_1.2 : List (Int × Int)))]))), (2, (.ref (.bx 2) 0 [] (.agg [(ji 0), (.sl .nl (Enc.shp (Int × Int)) 0 [])]))), (3, (.ref (.bx 3) 0 [] (.agg [(ji x_1.1), (.sl .nl (Enc.shp (Int × Int)) 0 [])])))] ⟨(keep_mut h1 (mut_ref_ne rfl rfl (mut_agg (muts_cons rfl (muts_cons (Enc.mut_enc _ _ _ _ (x_1.2 : List (Int × Int))) rfl))))), (keep_mut h2 (mut_ref_ne rfl rfl (mut_agg (muts_cons rfl (muts_cons rfl rfl))))), (keep_mut rfl rfl)⟩ ?_
  rintro s ⟨h1, h2, h3⟩
  refine .nsq (.seq (run_reg ?_))
  refine e_clr ?_
  refine ez [(1, _), (2, _), (3, _), (9, _)] ⟨(keep_clear (pk := [9]) h1 rfl (map_bx rfl (map_agg (maps_cons mi (maps_cons me maps_nil))))), (keep_clear (pk := [9]) h2 rfl (map_bx rfl (map_agg (maps_cons mi (maps_cons rfl maps_nil))))), (keep_clear (pk := [9]) h3 rfl (map_bx rfl (map_agg (maps_cons mi (maps_cons rfl maps_nil))))), (gone_clear (pk := [9]) (t := 9) rfl)⟩ ?_
  rintro s ⟨h1, h2, h3, h9⟩
  refine g1 1 (.ref (.bx 1) 0 [1] (Enc.enc (x_1.2 : List (Int × Int)))) h1 fun h7 => ?_
  refine g1 7 (Enc.enc (x_1.2 : List (Int × Int))) h7 fun h8 => ?_
  obtain ⟨r_2, E_r_2, h⟩ := bind_some h
  refine g_callO (m := 1) (al := false) (r := (encO .sh (r_2 : NL (Int × Int)))) (v := (encO (.at 9 []) (r_2 : NL (Int × Int)))) (kk := 1000000062) [Enc.enc (x_1.2 : (List (Int × Int)))] (ta_cons (v := (Enc.enc (x_1.2 : List (Int × Int)))) h8 rfl (Enc.erase_enc (x_1.2 : (List (Int × Int)))) ta_nil) (H.c62o _ _ E_r_2) H.g62o rfl toks_encS tag_encO ok_encP h9 ?_
  refine g1 3 (.ref (.bx 3) 0 [1] (.sl .nl (Enc.shp (Int × Int)) 0 [])) h3 fun h10 => ?_
  refine g_store (encO (.at 9 []) (r_2 : NL (Int × Int))) (rd_of h10 rfl) (rd_of rfl ok_encP) ⟨by decide, by decide, mem_encP, shp_encP, rfl, tok_encP rfl rfl⟩ ?_
  refine gz [(2, (.ref (.bx 2) 0 [] (.agg [(ji 0), (.sl .nl (Enc.shp (Int × Int)) 0 [])]))), (3, (.ref (.bx 3) 0 [] (.agg [(ji x_1.1), (encO (.at 9 []) (r_2 : NL (Int × Int)))])))] ⟨(keep_mut h2 (mut_ref_ne rfl rfl (mut_agg (muts_cons rfl (muts_cons rfl rfl))))), (keep_mut h3 rfl)⟩ ?_
  rintro s ⟨h2, h3⟩
  refine .nsq (.seq (rg (gv (.agg [(ji x_1.1), (encO (.at 9 []) (r_2 : NL (Int × Int)))]) (ev_loadN (c := (.agg [(ji x_1.1), (encO (.at 9 []) (r_2 : NL (Int × Int)))])) h3 (by simp [V.shape, V.shapes, shape_encP, shape_encN, Sh.beq, Sh.beqs])) fun h11 => ?_)))
  refine g_store (.agg [(ji x_1.1), (encO (.at 9 []) (r_2 : NL (Int × Int)))]) (rd_of h2 rfl) (rd_of h11 rfl) ⟨by decide, by decide, rfl, (by simp [V.shape, V.shapes, shape_encP, Sh.beq, Sh.beqs]), (by simp [V.shape, V.shapes, shape_encP, Sh.beq, Sh.beqs]), (by simp [V.toks, V.tokss, tok_memP])⟩ ?_
  refine gz [(2, (.ref (.bx 2) 0 [] (.agg [(ji x_1.1), (encO (.at 9 []) (r_2 : NL (Int × Int)))])))] (keep_mut h2 rfl) ?_
  rintro s h2
  refine .nsq (.ret ?_)
  have hr := Option.some.inj h
  subst hr
  exact rrA (res_cell h2 (by simp only [V.shape, V.shapes, shape_encP]; kernel_rfl)) (fin_retO (finO_agg (finOs_cons finO_int (finOs_cons (finO_own (o := (r_2 : NL (Int × Int)))) finOs_nil))) rfl (mine_agg (mines_cons rfl (mines_cons (mine_own rfl) mines_nil))))
end
def e17o (F : Nat) : Ent := ent 1000000017 (fun (x : ((Int × (List (Int × Int))) × Unit)) => w_toGraph_o F x.1) (fun (r : (Int × (NL (Int × Int)))) => (.agg [(Enc.enc (r.1 : Int)), (encO .sh (r.2 : NL (Int × Int)))])) 1 false []
theorem p17o {F : Nat} {x0 : (Int × (List (Int × Int)))} {r : (Int × (NL (Int × Int)))} (h : w_toGraph_o F x0 = some r) : (e17o F).den [Enc.enc x0] = some (.agg [(Enc.enc (r.1 : Int)), (encO .sh (r.2 : NL (Int × Int)))]) := ent_put (x0, ()) h
theorem o17o {D : Den} {σ : Sig} {F : Nat} (hF : Fits2 Try.prog D σ) (H : H17o D σ F) : (e17o F).Ok Try.prog := by
  refine ok_of (f := 17) (show unk 1000000017 = 17 from rfl) (fun args r h => ?_) ⟨Try.f17, Try.func17, rfl, rfl⟩
  obtain ⟨⟨x0, _⟩, y, rfl, hy, rfl⟩ := da_open h
  exact contract_run hF (by kernel_rfl) Try.func17 rfl c17o (show 1 ≤ Try.f17.ntmps by decide) (t17o H x0 _ rfl hy)
/- loop.example/g01109/laws.markIntA2S -/
def A69_2 : AC := (.cond (.t 10) .skip (.exit 0))
def A69_6 : AC := (.cond (.t 14) .skip (.exit 2))
def A69_8 : AC := (.reg [] [(jm 23 1), ((jv 24 (.bin .add (.t 23) (jn 1)))), (jm 1 24)] [])
def A69_9 : AC := (.reg [] [(jm 15 6), ((jv 16 (.bin .add (.t 15) (jn 1)))), (jm 6 16)] [])
def A69_7 : AC := (.seq (.block 3 (.seq (.reg [] [(jm 17 0), (jm 18 5), (jm 19 6), (jm 20 1), ((jv 21 (.idx (.t 17) (.t 18) 2))), ((jv 22 (.idxA (.t 21) (.t 19) 2 1))), (.mk none none false (.store .s (.t 22) (.t 20)))] []) A69_8)) A69_9)
def A69_5 : AC := (.seq (.seq (.reg [] [(jm 13 6), ((jv 14 (.bin .lss (.t 13) (jn 2))))] []) A69_6) A69_7)
def A69_4 : AC := (.block 2 (.loop A69_5))
def A69_10 : AC := (.reg [] [(jm 11 5), ((jv 12 (.bin .add (.t 11) (jn 1)))), (jm 5 12)] [])
def A69_3 : AC := (.seq (.block 1 (.seq (.reg [] [((jv 6 (.mov (jn 0))))] []) A69_4)) A69_10)
def A69_1 : AC := (.seq (.seq (.reg [] [(jm 7 5), (jm 8 0), ((jv 9 (.len (.t 8)))), ((jv 10 (.bin .lss (.t 7) (.t 9))))] []) A69_2) A69_3)
def A69_11 : AC := (.seq (.reg [] [(jm 25 1), (jm 4 25)] []) .ret)
def A69_13 : AC := (.block 0 (.loop A69_1))
def A69_12 : AC := (.seq (.seq (.reg [] [((jv 5 (.mov (jn 0))))] []) A69_13) A69_11)
def A69 : AC := (.seq (.reg [] [((jv 4 (.mov (jn 0))))] []) A69_12)
def an69 : List An := []
theorem c69 : cC Try.prog Try.f69.ntmps an69 (Try.f69.body.getD .skip) = some A69 := by kernel_rfl
structure H69 (D : Den) (σ : Sig) (F : Nat) : Prop where
  mk ::
abbrev R69 (r : (Int × NL (Int × Int))) : (Nat → V) → Prop := RM Try.prog [.tmp 4] (Enc.enc (r.1 : Int)) (encO (.at pinR []) (r.2 : NL (Int × Int)))
section
variable {D : Den} {σ : Sig} {F : Nat} {r : (Int × NL (Int × Int))}
def w_markIntA2S_l1 (F : Nat) (x_13 : Int) (c1 : (NL (Int × Int)) → Int → Int → Option (Int × NL (Int × Int))) : Nat → (NL (Int × Int)) → Int → Int → Option (Int × NL (Int × Int))
  | 0, _, _, _ => none
  | k + 1, x_23, x_24, x_25 =>
    bif decide (x_25 < 2) then
      (idx x_23.list x_13).bind fun e_28 =>
      (idx [e_28.1, e_28.2] x_25).bind fun e_29 =>
      (w_markIntA2S_l1 F x_13 c1 k) (NL.set2 x_23 x_13.toNat x_25 x_24) (w64 (x_24 + 1)) (w64 (x_25 + 1))
    else
      c1 x_23 x_24 (w64 (x_13 + 1))
theorem t_f69_l1 (H : H69 D σ F) (x_13 : Int) (c1 : (NL (Int × Int)) → Int → Int → Option (Int × NL (Int × Int))) (Hc1 : ∀ (x_11 : (NL (Int × Int))) (x_12 : Int) (x_13 : Int) (s : Nat → V), Facts [(0, (encO (.at pinR []) (x_11 : NL (Int × Int)))), (1, (ji x_12)), (4, (ji 0)), (5, (ji x_13))] s → c1 x_11 x_12 x_13 = some r → Run D σ (R69 r) (.run A69_1 [.lp A69_1, .bk 0, .sq A69_11]) s) : ∀ (k : Nat) (x_23 : (NL (Int × Int))) (x_24 : Int) (x_25 : Int) (s : Nat → V), Facts [(0, (encO (.at pinR []) (x_23 : NL (Int × Int)))), (1, (ji x_24)), (4, (ji 0)), (5, (ji x_13)), (6, (ji x_25))] s → w_markIntA2S_l1 F x_13 c1 k x_23 x_24 x_25 = some r → Run D σ (R69 r) (.run A69_5 [.lp A69_5, .bk 2, .bk 1, .sq A69_10, .lp A69_1, .bk 0, .sq A69_11]) s := by
  intro k
  induction k with
  | zero => intro x_23 x_24 x_25 s _ h; exact nomatch (h : (none : Option _) = some r)
  | succ k ih =>
    intro x_23 x_24 x_25 s hs h
    rw [w_markIntA2S_l1] at h
    obtain ⟨h0, h1, h4, h5, h6⟩ := hs
    refine .seq (.seq (rg (gm h6 fun h13 => g1 13 (jb (decide (x_25 < 2))) h13 fun h14 => ?_)))
    refine gq (.nsq (run_cond (t := decide (x_25 < 2)) h14 h (fun h => ?_) (fun h => ?_)))
    · refine .skip (.nsq (.seq (.block (.seq (rg (gv (encO (.at pinR []) (x_23 : NL (Int × Int))) (ev_mov h0 ok_encO) fun h17 => ?_))))))
      refine gm h5 fun h18 => gm h6 fun h19 => gm h1 fun h20 => ?_
      obtain ⟨e_28, E_e_28, h⟩ := bind_some h
      refine gv (.ref (.at pinR []) x_13.toNat [] (.agg [(ji e_28.1), (ji e_28.2)])) (ev_idxO (o := x_23) h17 h18 E_e_28 rfl) fun h21 => ?_
      obtain ⟨e_29, E_e_29, h⟩ := bind_some h
      refine gv (.ref (.at pinR []) x_13.toNat [x_25.toNat] (ji e_29)) (ev_idxA (xs := [e_28.1, e_28.2]) (a := e_29) (n := x_25) (q := []) h21 h19 E_e_29 rfl rfl rfl) fun h22 => ?_
      refine g_store (ji x_24) (rd_of h22 rfl) (rd_of h20 rfl) (by refine ⟨by decide, by decide, rfl, rfl, rfl, ?_⟩; first | rfl | (simp [V.toks, V.tokss, Enc.toks_enc]; done) | simp [V.toks, V.tokss, Enc.toks_enc, tok_memP]) ?_
      refine gz [(0, (encO (.at pinR []) ((NL.set2 x_23 x_13.toNat x_25 x_24) : NL (Int × Int)))), (1, (ji x_24)), (4, (ji 0)), (5, (ji x_13)), (6, (ji x_25))] ⟨(keep_mut h0 (mut_own2 (o := x_23) E_e_29 rfl)), (keep_mut h1 rfl), (keep_mut h4 rfl), (keep_mut h5 rfl), (keep_mut h6 rfl)⟩ ?_
      rintro s ⟨h0, h1, h4, h5, h6⟩
      refine .nsq (rg (gm h1 fun h23 => g1 23 (ji (w64 (x_24 + 1))) h23 fun h24 => ?_))
      refine gm h24 fun h1 => gq (.nbk (.nsq (rg (gm h6 fun h15 => g1 15 (ji (w64 (x_25 + 1))) h15 fun h16 => ?_))))
      refine gm h16 fun h6 => gq (.nlp ?_)
      exact ih (NL.set2 x_23 x_13.toNat x_25 x_24) (w64 (x_24 + 1)) (w64 (x_25 + 1)) _ ⟨h0, h1, h4, h5, h6⟩ h
    refine .exit (.esq (.elp (.ebk (.nbk (.nsq (rg (gm h5 fun h11 => g1 11 (ji (w64 (x_13 + 1))) h11 fun h12 => ?_)))))))
    refine gm h12 fun h5 => gq (.nlp ?_)
    exact Hc1 x_23 x_24 (w64 (x_13 + 1)) _ ⟨h0, h1, h4, h5⟩ h
def w_markIntA2S_l2 (F : Nat)   : Nat → (NL (Int × Int)) → Int → Int → Option (Int × NL (Int × Int))
  | 0, _, _, _ => none
  | k + 1, x_11, x_12, x_13 =>
    bif decide (x_13 < (x_11.list.length : Int)) then
      w_markIntA2S_l1 F x_13 (w_markIntA2S_l2 F k) F x_11 x_12 0
    else
      some (x_12, x_11)
theorem t_f69_l2 (H : H69 D σ F)   : ∀ (k : Nat) (x_11 : (NL (Int × Int))) (x_12 : Int) (x_13 : Int) (s : Nat → V), Facts [(0, (encO (.at pinR []) (x_11 : NL (Int × Int)))), (1, (ji x_12)), (4, (ji 0)), (5, (ji x_13))] s → w_markIntA2S_l2 F k x_11 x_12 x_13 = some r → Run D σ (R69 r) (.run A69_1 [.lp A69_1, .bk 0, .sq A69_11]) s := by
  intro k
  induction k with
  | zero => intro x_11 x_12 x_13 s _ h; exact nomatch (h : (none : Option _) = some r)
  | succ k ih =>
    intro x_11 x_12 x_13 s hs h
    rw [w_markIntA2S_l2] at h
    obtain ⟨h0, h1, h4, h5⟩ := hs
    refine .seq (.seq (rg (gm h5 fun h7 => gv (encO (.at pinR []) (x_11 : NL (Int × Int))) (ev_mov h0 ok_encO) fun h8 => ?_)))
    refine gv (ji (x_11.list.length : Int)) (ev_lenO (o := x_11) h8) fun h9 => ?_
    refine g2 7 9 (jb (decide (x_13 < (x_11.list.length : Int)))) h7 h9 fun h10 => ?_
    refine gq (.nsq (run_cond (t := decide (x_13 < (x_11.list.length : Int))) h10 h (fun h => ?_) (fun h => ?_)))
    · refine .skip (.nsq (.seq (.block (.seq (rg (g0 (ji 0) fun h6 => gq (.nsq (.block (.loop ?_)))))))))
      exact t_f69_l1 H x_13 (w_markIntA2S_l2 F k) ih F x_11 x_12 0 _ ⟨h0, h1, h4, h5, h6⟩ h
    refine .exit (.esq (.elp (.ebk (.nsq (.seq (rg (gm h1 fun h25 => gm h25 fun h4 => gq (.nsq (.ret ?_)))))))))
    have hr := Option.some.inj h
    subst hr
    exact rmA (res_tmp h4) h0
def w_markIntA2S (F : Nat) (x_1 : (On (Int × Int))) (x_2 : Int) : Option (Int × NL (Int × Int)) :=
  w_markIntA2S_l2 F F x_1.v x_2 0
theorem t69 (H : H69 D σ F) (x_1 : (On (Int × Int))) (x_2 : Int) (s : Nat → V) (hs : Facts [(0, (encO (.at pinR []) (x_1.v : NL (Int × Int)))), (1, (ji x_2))] s) (h : w_markIntA2S F x_1 x_2 = some r) : Run D σ (R69 r) (.run A69 []) s := by
  unfold w_markIntA2S at h
  obtain ⟨h0, h1⟩ := hs
  refine .seq (rg (g0 (ji 0) fun h4 => gq (.nsq (.seq (.seq (rg (g0 (ji 0) fun h5 => gq (.nsq (.block (.loop ?_))))))))))
  exact t_f69_l2 H F x_1.v x_2 0 _ ⟨h0, h1, h4, h5⟩ h
end
def e69 (F : Nat) : Ent := ent 69 (fun (x : ((On (Int × Int)) × Int × Unit)) => w_markIntA2S F x.1 x.2.1) (fun (r : (Int × NL (Int × Int))) => (.tup [Enc.enc (r.1 : Int), encO (.at pinR []) (r.2 : NL (Int × Int))])) pinR false []
theorem p69 {F : Nat} {x0 : (On (Int × Int))} {x1 : Int} {r : (Int × NL (Int × Int))} (h : w_markIntA2S F x0 x1 = some r) : (e69 F).den [Arg.arg x0, Enc.enc x1] = some (.tup [Enc.enc (r.1 : Int), encO (.at pinR []) (r.2 : NL (Int × Int))]) := ent_put (x0, x1, ()) h
theorem o69 {D : Den} {σ : Sig} {F : Nat} (hF : Fits2 Try.prog D σ) (H : H69 D σ F) : (e69 F).Ok Try.prog := by
  refine ok_of (f := 69) (show unk 69 = 69 from rfl) (fun args r h => ?_) ⟨Try.f69, Try.func69, rfl, rfl⟩
  obtain ⟨⟨x0, x1, _⟩, y, rfl, hy, rfl⟩ := da_open h
  exact contractM_run hF (by kernel_rfl) Try.func69 rfl c69 (all_ok2 ok_encP rfl) (show 2 ≤ Try.f69.ntmps by decide) (by decide) (t69 H x0 x1 _ ⟨rfl, rfl⟩ hy)
/- loop.example/g01109/laws.markGraph -/
def A22_2 : AC := (.seq (.reg [] [(jm 9 1), (jm 4 9)] []) .ret)
def A22_1 : AC := (.seq (.reg [] [((jv 5 (.fld (.t 2) 1 1))), ((jv 6 (.load .p (.t 5)))), (jm 7 1), (.mk (some 8) none false (.mark (.k (.fn 69 [] [])) [(.t 6), (.t 7)])), (jm 1 8)] []) A22_2)
def A22 : AC := (.seq (.reg [.clr [2]] [(.mk (some 2) none false (.box (.t 0))), ((jv 4 (.mov (jn 0))))] []) A22_1)
def an22 : List An := [{ id := 0, pre := [.clr [2]], ep := [], lin := [], sp := [] }, { id := 1, pre := [], ep := [], lin := [], sp := [3] }]
theorem c22 : cC Try.prog Try.f22.ntmps an22 (Try.f22.body.getD .skip) = some A22 := by kernel_rfl
structure H22 (D : Den) (σ : Sig) (F : Nat) : Prop where
  c69 : ∀ (x0 : (On (Int × Int))) (x1 : Int) r, w_markIntA2S F x0 x1 = some r → D 69 [Arg.arg x0, Enc.enc x1] = some (.tup [Enc.enc (r.1 : Int), encO (.at pinR []) (r.2 : NL (Int × Int))])
  g69 : σ 69 = some (pinR, false)
abbrev R22 (r : (Int × Og (Int × Int))) : (Nat → V) → Prop := RM Try.prog [.tmp 4] (Enc.enc (r.1 : Int)) (.agg [Enc.enc (r.2.a : Int), encO (.at pinR [1]) (r.2.v : NL (Int × Int))])
section
variable {D : Den} {σ : Sig} {F : Nat} {r : (Int × Og (Int × Int))}
def w_markGraph (F : Nat) (x_1 : (Og (Int × Int))) (x_2 : Int) : Option (Int × Og (Int × Int)) :=
  (w_markIntA2S F (On.mk x_1.v : (On (Int × Int))) x_2).bind fun r_3 =>
  (remark x_1.v r_3.2).bind fun m_4 =>
  some (r_3.1, Og.mk x_1.a m_4)
theorem t22 (H : H22 D σ F) (x_1 : (Og (Int × Int))) (x_2 : Int) (s : Nat → V) (hs : Facts [(0, (.agg [(ji x_1.a), (encO (.at pinR [1]) (x_1.v : NL (Int × Int)))])), (1, (ji x_2))] s) (h : w_markGraph F x_1 x_2 = some r) : Run D σ (R22 r) (.run A22 []) s := by
  unfold w_markGraph at h
  obtain ⟨h0, h1⟩ := hs
  refine .seq (run_reg ?_)
  refine e_clr ?_
  refine ez [(0, _), (1, _), (2, _)] ⟨(keep_clear (pk := [2]) h0 rfl (map_agg (maps_cons mi (maps_cons (map_encO (r := pinR) (p := [1]) rfl rfl) maps_nil)))), (keep_clear (pk := [2]) h1 rfl mi), (gone_clear (pk := [2]) (t := 2) rfl)⟩ ?_
  rintro s ⟨h0, h1, h2⟩
  refine g_box (.agg [(ji x_1.a), (encO (.at pinR [1]) (x_1.v : NL (Int × Int)))]) (rd_of h0 rfl) h2 rfl ?_
  refine g0 (ji 0) fun h4 => gq (.nsq (.seq (rg (g1 2 (.ref (.bx 2) 0 [1] (encO (.at pinR [1]) (x_1.v : NL (Int × Int)))) (rfl : (_ : V) = (.ref (.bx 2) 0 [] (.agg [(ji x_1.a), (encO (.at pinR [1]) (x_1.v : NL (Int × Int)))]))) fun h5 => ?_))))
  refine gv (encO (.at pinR [1]) (x_1.v : NL (Int × Int))) (ev_loadN h5 beq_encO) fun h6 => ?_
  refine gm h1 fun h7 => ?_
  obtain ⟨r_3, E_r_3, h⟩ := bind_some h
  obtain ⟨m_4, E_m_4, h⟩ := bind_some h
  refine g_mark (v := (encO (.at pinR [1]) (x_1.v : NL (Int × Int)))) h6 (canon_own (o := (x_1.v : (NL (Int × Int)))) rfl) (rdAll_cons (v := (ji x_2)) h7 rfl rdAll_nil) (H.c69 _ _ _ E_r_3) H.g69 rfl rfl (fun s_2 hm_2 => ?_)
  refine gm (rfl : (_ : V) = (ji r_3.1)) fun h1 => ?_
  refine gz [(0, (.agg [(ji x_1.a), (encO (.at pinR [1]) (m_4 : NL (Int × Int)))])), (1, _), (4, (ji 0))] ⟨(show s_2 0 = (.agg [(ji x_1.a), (encO (.at pinR [1]) (m_4 : NL (Int × Int)))]) from hm_2 0 (.agg [(ji x_1.a), (encO (.at pinR [1]) (x_1.v : NL (Int × Int)))]) (.agg [(ji x_1.a), (encO (.at pinR [1]) (m_4 : NL (Int × Int)))]) h0 (rem_agg (rems_cons (rem_self _ rfl) (rems_cons (marked_own (o := (x_1.v : NL (Int × Int))) rfl E_m_4) rems_nil)))), h1, (show s_2 4 = (ji 0) from hm_2 4 (ji 0) (ji 0) h4 (rem_self _ rfl))⟩ ?_
  rintro s ⟨h0, h1, h4⟩
  refine .nsq (.seq (rg (gm h1 fun h9 => gm h9 fun h4 => gq (.nsq (.ret ?_)))))
  have hr := Option.some.inj h
  subst hr
  exact rmA (res_tmp h4) h0
end
def e22 (F : Nat) : Ent := ent 22 (fun (x : ((Og (Int × Int)) × Int × Unit)) => w_markGraph F x.1 x.2.1) (fun (r : (Int × Og (Int × Int))) => (.tup [Enc.enc (r.1 : Int), .agg [Enc.enc (r.2.a : Int), encO (.at pinR [1]) (r.2.v : NL (Int × Int))]])) pinR false []
theorem p22 {F : Nat} {x0 : (Og (Int × Int))} {x1 : Int} {r : (Int × Og (Int × Int))} (h : w_markGraph F x0 x1 = some r) : (e22 F).den [Arg.arg x0, Enc.enc x1] = some (.tup [Enc.enc (r.1 : Int), .agg [Enc.enc (r.2.a : Int), encO (.at pinR [1]) (r.2.v : NL (Int × Int))]]) := ent_put (x0, x1, ()) h
theorem o22 {D : Den} {σ : Sig} {F : Nat} (hF : Fits2 Try.prog D σ) (H : H22 D σ F) : (e22 F).Ok Try.prog := by
  refine ok_of (f := 22) (show unk 22 = 22 from rfl) (fun args r h => ?_) ⟨Try.f22, Try.func22, rfl, rfl⟩
  obtain ⟨⟨x0, x1, _⟩, y, rfl, hy, rfl⟩ := da_open h
  exact contractM_run hF (by kernel_rfl) Try.func22 rfl c22 (all_ok2 rfl rfl) (show 2 ≤ Try.f22.ntmps by decide) (by decide) (t22 H x0 x1 _ ⟨rfl, rfl⟩ hy)
/- loop.example/g01109/laws.markIntS -/
def A23_2 : AC := (.cond (.t 9) .skip (.exit 0))
def A23_4 : AC := (.reg [] [(jm 16 1), ((jv 17 (.bin .add (.t 16) (jn 1)))), (jm 1 17)] [])
def A23_5 : AC := (.reg [] [(jm 10 5), ((jv 11 (.bin .add (.t 10) (jn 1)))), (jm 5 11)] [])
def A23_3 : AC := (.seq (.block 1 (.seq (.reg [] [(jm 12 0), (jm 13 5), (jm 14 1), ((jv 15 (.idx (.t 12) (.t 13) 1))), (.mk none none false (.store .s (.t 15) (.t 14)))] []) A23_4)) A23_5)
def A23_1 : AC := (.seq (.seq (.reg [] [(jm 6 5), (jm 7 0), ((jv 8 (.len (.t 7)))), ((jv 9 (.bin .lss (.t 6) (.t 8))))] []) A23_2) A23_3)
def A23_6 : AC := (.seq (.reg [] [(jm 18 1), (jm 4 18)] []) .ret)
def A23_8 : AC := (.block 0 (.loop A23_1))
def A23_7 : AC := (.seq (.seq (.reg [] [((jv 5 (.mov (jn 0))))] []) A23_8) A23_6)
def A23 : AC := (.seq (.reg [] [((jv 4 (.mov (jn 0))))] []) A23_7)
def an23 : List An := []
theorem c23 : cC Try.prog Try.f23.ntmps an23 (Try.f23.body.getD .skip) = some A23 := by kernel_rfl
structure H23 (D : Den) (σ : Sig) (F : Nat) : Prop where
  mk ::
abbrev R23 (r : (Int × NL Int)) : (Nat → V) → Prop := RM Try.prog [.tmp 4] (Enc.enc (r.1 : Int)) (encO (.at pinR []) (r.2 : NL Int))
section
variable {D : Den} {σ : Sig} {F : Nat} {r : (Int × NL Int)}
def w_markIntS_l1 (F : Nat)   : Nat → (NL Int) → Int → Int → Option (Int × NL Int)
  | 0, _, _, _ => none
  | k + 1, x_4, x_5, x_6 =>
    bif decide (x_6 < (x_4.list.length : Int)) then
      (idx x_4.list x_6).bind fun e_8 =>
      (w_markIntS_l1 F k) (NL.set x_4 x_6.toNat x_5) (w64 (x_5 + 1)) (w64 (x_6 + 1))
    else
      some (x_5, x_4)
theorem t_f23_l1 (H : H23 D σ F)   : ∀ (k : Nat) (x_4 : (NL Int)) (x_5 : Int) (x_6 : Int) (s : Nat → V), Facts [(0, (oI pinR [] x_4)), (1, (ji x_5)), (4, (ji 0)), (5, (ji x_6))] s → w_markIntS_l1 F k x_4 x_5 x_6 = some r → Run D σ (R23 r) (.run A23_1 [.lp A23_1, .bk 0, .sq A23_6]) s := by
  intro k
  induction k with
  | zero => intro x_4 x_5 x_6 s _ h; exact nomatch (h : (none : Option _) = some r)
  | succ k ih =>
    intro x_4 x_5 x_6 s hs h
    rw [w_markIntS_l1] at h
    obtain ⟨h0, h1, h4, h5⟩ := hs
    refine .seq (.seq (rg (gm h5 fun h6 => gv (oI pinR [] x_4) (ev_mov h0 ok_encO) fun h7 => ?_)))
    refine gv (ji (x_4.list.length : Int)) (ev_lenO (o := x_4) h7) fun h8 => ?_
    refine g2 6 8 (jb (decide (x_6 < (x_4.list.length : Int)))) h6 h8 fun h9 => ?_
    refine gq (.nsq (run_cond (t := decide (x_6 < (x_4.list.length : Int))) h9 h (fun h => ?_) (fun h => ?_)))
    · refine .skip (.nsq (.seq (.block (.seq (rg (gv (oI pinR [] x_4) (ev_mov h0 ok_encO) fun h12 => ?_))))))
      refine gm h5 fun h13 => gm h1 fun h14 => ?_
      obtain ⟨e_8, E_e_8, h⟩ := bind_some h
      refine gv (.ref (.at pinR []) x_6.toNat [] (ji e_8)) (ev_idxO (o := x_4) h12 h13 E_e_8 rfl) fun h15 => ?_
      refine g_store (ji x_5) (rd_of h15 rfl) (rd_of h14 rfl) (by refine ⟨by decide, by decide, rfl, rfl, rfl, ?_⟩; first | rfl | (simp [V.toks, V.tokss, Enc.toks_enc]; done) | simp [V.toks, V.tokss, Enc.toks_enc, tok_memP]) ?_
      refine gz [(0, _), (1, (ji x_5)), (4, (ji 0)), (5, (ji x_6))] ⟨(keep_mut h0 (mut_ownN (α := Int) (u := x_5) (i := x_6.toNat) (o := x_4))), (keep_mut h1 rfl), (keep_mut h4 rfl), (keep_mut h5 rfl)⟩ ?_
      rintro s ⟨h0, h1, h4, h5⟩
      refine .nsq (rg (gm h1 fun h16 => g1 16 (ji (w64 (x_5 + 1))) h16 fun h17 => ?_))
      refine gm h17 fun h1 => gq (.nbk (.nsq (rg (gm h5 fun h10 => g1 10 (ji (w64 (x_6 + 1))) h10 fun h11 => ?_))))
      refine gm h11 fun h5 => gq (.nlp ?_)
      exact ih (NL.set x_4 x_6.toNat x_5) (w64 (x_5 + 1)) (w64 (x_6 + 1)) _ ⟨h0, h1, h4, h5⟩ h
    refine .exit (.esq (.elp (.ebk (.nsq (.seq (rg (gm h1 fun h18 => gm h18 fun h4 => gq (.nsq (.ret ?_)))))))))
    have hr := Option.some.inj h
    subst hr
    exact rmA (res_tmp h4) h0
def w_markIntS (F : Nat) (x_1 : (On Int)) (x_2 : Int) : Option (Int × NL Int) :=
  w_markIntS_l1 F F x_1.v x_2 0
theorem t23 (H : H23 D σ F) (x_1 : (On Int)) (x_2 : Int) (s : Nat → V) (hs : Facts [(0, (oI pinR [] x_1.v)), (1, (ji x_2))] s) (h : w_markIntS F x_1 x_2 = some r) : Run D σ (R23 r) (.run A23 []) s := by
  unfold w_markIntS at h
  obtain ⟨h0, h1⟩ := hs
  refine .seq (rg (g0 (ji 0) fun h4 => gq (.nsq (.seq (.seq (rg (g0 (ji 0) fun h5 => gq (.nsq (.block (.loop ?_))))))))))
  exact t_f23_l1 H F x_1.v x_2 0 _ ⟨h0, h1, h4, h5⟩ h
end
def e23 (F : Nat) : Ent := ent 23 (fun (x : ((On Int) × Int × Unit)) => w_markIntS F x.1 x.2.1) (fun (r : (Int × NL Int)) => (.tup [Enc.enc (r.1 : Int), encO (.at pinR []) (r.2 : NL Int)])) pinR false []
theorem p23 {F : Nat} {x0 : (On Int)} {x1 : Int} {r : (Int × NL Int)} (h : w_markIntS F x0 x1 = some r) : (e23 F).den [Arg.arg x0, Enc.enc x1] = some (.tup [Enc.enc (r.1 : Int), encO (.at pinR []) (r.2 : NL Int)]) := ent_put (x0, x1, ()) h
theorem o23 {D : Den} {σ : Sig} {F : Nat} (hF : Fits2 Try.prog D σ) (H : H23 D σ F) : (e23 F).Ok Try.prog := by
  refine ok_of (f := 23) (show unk 23 = 23 from rfl) (fun args r h => ?_) ⟨Try.f23, Try.func23, rfl, rfl⟩
  obtain ⟨⟨x0, x1, _⟩, y, rfl, hy, rfl⟩ := da_open h
  exact contractM_run hF (by kernel_rfl) Try.func23 rfl c23 (all_ok2 ok_encP rfl) (show 2 ≤ Try.f23.ntmps by decide) (by decide) (t23 H x0 x1 _ ⟨rfl, rfl⟩ hy)
/- loop.example/g01109/laws.heldIntS -/
def A31_2 : AC := (.cond (.t 9) .skip (.exit 0))
def A31_4 : AC := (.cond (.t 17) (.seq (.reg [] [((jv 4 (.mov (jn (-1)))))] []) .ret) .skip)
def A31_5 : AC := (.reg [] [(jm 18 1), ((jv 19 (.bin .add (.t 18) (jn 1)))), (jm 1 19)] [])
def A31_6 : AC := (.reg [] [(jm 10 5), ((jv 11 (.bin .add (.t 10) (jn 1)))), (jm 5 11)] [])
def A31_3 : AC := (.seq (.block 1 (.seq (.seq (.reg [] [(jm 12 0), (jm 13 5), ((jv 14 (.idx (.t 12) (.t 13) 1))), ((jv 15 (.load .s (.t 14)))), (jm 16 1), ((jv 17 (.bin .neq (.t 15) (.t 16))))] []) A31_4) A31_5)) A31_6)
def A31_1 : AC := (.seq (.seq (.reg [] [(jm 6 5), (jm 7 0), ((jv 8 (.len (.t 7)))), ((jv 9 (.bin .lss (.t 6) (.t 8))))] []) A31_2) A31_3)
def A31_7 : AC := (.seq (.reg [] [(jm 20 1), (jm 4 20)] []) .ret)
def A31_9 : AC := (.block 0 (.loop A31_1))
def A31_8 : AC := (.seq (.seq (.reg [] [((jv 5 (.mov (jn 0))))] []) A31_9) A31_7)
def A31 : AC := (.seq (.reg [] [((jv 4 (.mov (jn 0))))] []) A31_8)
def an31 : List An := []
theorem c31 : cC Try.prog Try.f31.ntmps an31 (Try.f31.body.getD .skip) = some A31 := by kernel_rfl
structure H31 (D : Den) (σ : Sig) (F : Nat) : Prop where
  mk ::
abbrev R31 (r : Int) : (Nat → V) → Prop := RR Try.prog [.tmp 4] 0 false (Enc.enc (r : Int))
section
variable {D : Den} {σ : Sig} {F : Nat} {r : Int}
def w_heldIntS_l1 (F : Nat) (x_1 : (List Int))  : Nat → Int → Int → Option Int
  | 0, _, _ => none
  | k + 1, x_4, x_5 =>
    bif decide (x_5 < (x_1.length : Int)) then
      (idx x_1 x_5).bind fun e_7 =>
      bif (e_7 != x_4) then
        some (-1)
      else
        (w_heldIntS_l1 F x_1 k) (w64 (x_4 + 1)) (w64 (x_5 + 1))
    else
      some x_4
theorem t_f31_l1 (H : H31 D σ F) (x_1 : (List Int))  : ∀ (k : Nat) (x_4 : Int) (x_5 : Int) (s : Nat → V), Facts [(0, (eL x_1)), (1, (ji x_4)), (4, (ji 0)), (5, (ji x_5))] s → w_heldIntS_l1 F x_1 k x_4 x_5 = some r → Run D σ (R31 r) (.run A31_1 [.lp A31_1, .bk 0, .sq A31_7]) s := by
  intro k
  induction k with
  | zero => intro x_4 x_5 s _ h; exact nomatch (h : (none : Option _) = some r)
  | succ k ih =>
    intro x_4 x_5 s hs h
    rw [w_heldIntS_l1] at h
    obtain ⟨h0, h1, h4, h5⟩ := hs
    refine .seq (.seq (rg (gm h5 fun h6 => gm h0 fun h7 => gv (ji (x_1.length : Int)) (ev_len (xs := x_1) h7) fun h8 => ?_)))
    refine g2 6 8 (jb (decide (x_5 < (x_1.length : Int)))) h6 h8 fun h9 => ?_
    refine gq (.nsq (run_cond (t := decide (x_5 < (x_1.length : Int))) h9 h (fun h => ?_) (fun h => ?_)))
    · refine .skip (.nsq (.seq (.block (.seq (.seq (rg (gm h0 fun h12 => gm h5 fun h13 => ?_)))))))
      obtain ⟨e_7, E_e_7, h⟩ := bind_some h
      refine gv (.ref .sh 0 [] (ji e_7)) (ev_idx (t := .sh) (lo := 0) (xs := x_1) h12 h13 E_e_7 rfl rfl) fun h14 => ?_
      refine g1 14 (ji e_7) h14 fun h15 => ?_
      refine gm h1 fun h16 => g2 15 16 (jb (e_7 != x_4)) h15 h16 fun h17 => ?_
      refine gq (.nsq (run_cond (t := (e_7 != x_4)) h17 h (fun h => ?_) (fun h => ?_)))
      · refine .seq (rg (g0 (ji (-1)) fun h4 => ?_))
        refine gq (.nsq (.ret ?_))
        have hr := Option.some.inj h
        subst hr
        exact rrA (res_tmp h4) rfl
      refine .skip (.nsq (rg (gm h1 fun h18 => g1 18 (ji (w64 (x_4 + 1))) h18 fun h19 => ?_)))
      refine gm h19 fun h1 => gq (.nbk (.nsq (rg (gm h5 fun h10 => g1 10 (ji (w64 (x_5 + 1))) h10 fun h11 => ?_))))
      refine gm h11 fun h5 => gq (.nlp ?_)
      exact ih (w64 (x_4 + 1)) (w64 (x_5 + 1)) _ ⟨h0, h1, h4, h5⟩ h
    refine .exit (.esq (.elp (.ebk (.nsq (.seq (rg (gm h1 fun h20 => gm h20 fun h4 => gq (.nsq (.ret ?_)))))))))
    have hr := Option.some.inj h
    subst hr
    exact rrA (res_tmp h4) rfl
def w_heldIntS (F : Nat) (x_1 : (List Int)) (x_2 : Int) : Option Int :=
  w_heldIntS_l1 F x_1 F x_2 0
theorem t31 (H : H31 D σ F) (x_1 : (List Int)) (x_2 : Int) (s : Nat → V) (hs : Facts [(0, (eL x_1)), (1, (ji x_2))] s) (h : w_heldIntS F x_1 x_2 = some r) : Run D σ (R31 r) (.run A31 []) s := by
  unfold w_heldIntS at h
  obtain ⟨h0, h1⟩ := hs
  refine .seq (rg (g0 (ji 0) fun h4 => gq (.nsq (.seq (.seq (rg (g0 (ji 0) fun h5 => gq (.nsq (.block (.loop ?_))))))))))
  exact t_f31_l1 H x_1 F x_2 0 _ ⟨h0, h1, h4, h5⟩ h
end
def e31 (F : Nat) : Ent := ent 31 (fun (x : ((List Int) × Int × Unit)) => w_heldIntS F x.1 x.2.1) (fun (r : Int) => (Enc.enc (r : Int))) 0 false []
theorem p31 {F : Nat} {x0 : (List Int)} {x1 : Int} {r : Int} (h : w_heldIntS F x0 x1 = some r) : (e31 F).den [Enc.enc x0, Enc.enc x1] = some (Enc.enc (r : Int)) := ent_put (x0, x1, ()) h
theorem o31 {D : Den} {σ : Sig} {F : Nat} (hF : Fits2 Try.prog D σ) (H : H31 D σ F) : (e31 F).Ok Try.prog := by
  refine ok_of (f := 31) (show unk 31 = 31 from rfl) (fun args r h => ?_) ⟨Try.f31, Try.func31, rfl, rfl⟩
  obtain ⟨⟨x0, x1, _⟩, y, rfl, hy, rfl⟩ := da_open h
  exact contract_run hF (by kernel_rfl) Try.func31 rfl c31 (show 2 ≤ Try.f31.ntmps by decide) (t31 H x0 x1 _ ⟨rfl, rfl⟩ hy)
/- loop.example/g01109/laws.FnExactRankingOf -/
def A5_1 : AC := (.cond (.t 87) (.seq (.reg [] [((jv 2 (.mov (.k (.bool false)))))] []) .ret) .skip)
def A5_5 : AC := (.cond (.t 92) (.seq (.reg [] [((jv 2 (.mov (.k (.bool false)))))] []) .ret) .skip)
def A5_7 : AC := (.cond (.t 95) (.seq (.reg [] [((jv 2 (.mov (.k (.bool false)))))] []) .ret) .skip)
def A5_8 : AC := (.seq (.reg [] [((jv 2 (.mov (.k (.bool true)))))] []) .ret)
def A5_6 : AC := (.seq (.seq (.reg [] [(jm 93 11), (jm 94 10), ((jv 95 (.bin .neq (.t 93) (.t 94))))] []) A5_7) A5_8)
def A5_4 : AC := (.seq (.seq (.reg [] [(jm 91 11), ((jv 92 (.bin .lss (.t 91) (jn 0))))] []) A5_5) A5_6)
def A5_3 : AC := (.seq (.reg [] [(jm 88 7), (jm 89 11), (.mk (some 90) none false (.call (.k (.fn 31 [] [])) [(.t 88), (.t 89)])), (jm 11 90)] []) A5_4)
def A5_2 : AC := (.seq (.reg [] [((jv 11 (.mov (jn 1))))] []) A5_3)
def A5_9 : AC := (.cond (.t 61) (.seq (.reg [] [((jv 2 (.mov (.k (.bool false)))))] []) .ret) .skip)
def A5_15 : AC := (.cond (.t 69) (.seq (.reg [] [((jv 2 (.mov (.k (.bool false)))))] []) .ret) .skip)
def A5_17 : AC := (.cond (.t 72) (.seq (.reg [] [((jv 2 (.mov (.k (.bool false)))))] []) .ret) .skip)
def A5_19 : AC := (.seq (.seq (.reg [] [(jm 79 12), (jm 80 4), (.mk (some 81) none false (.call (.k (.fn 21 [] [])) [(.t 79), (.t 80)])), ((jv 82 (.un .not (.t 81)))), (jm 83 82), ((jg 84 83 false (.mov (.t 13)))), ((jg 85 83 false (.mov (.t 5)))), ((jg 86 83 false (.beq true (.t 84) (.t 85)))), ((jv 87 (.pick (.t 83) (.k (.bool true)) (.t 86))))] []) A5_1) A5_2)
def A5_18 : AC := (.seq (.reg [.clr [76]] [((jv 74 (.load (.ag [.s, .p]) (.t 1)))), (.mk (some 75) none false (.call (.k (.fn 17 [] [])) [(.t 74)])), (.mk (some 76) none false (.callO (.k (.fn 33 [] [])) [(.t 75)])), (jm 73 76), ((jv 77 (.ext (.t 73) 0))), ((jv 78 (.extS (.t 73) 1))), (jm 12 77), (jm 13 78)] [.home 76 12]) A5_19)
def A5_16 : AC := (.seq (.seq (.reg [] [(jm 70 11), (jm 71 10), ((jv 72 (.bin .neq (.t 70) (.t 71))))] []) A5_17) A5_18)
def A5_14 : AC := (.seq (.seq (.reg [] [(jm 68 11), ((jv 69 (.bin .lss (.t 68) (jn 0))))] []) A5_15) A5_16)
def A5_13 : AC := (.seq (.reg [] [(jm 65 7), (jm 66 11), (.mk (some 67) none false (.call (.k (.fn 31 [] [])) [(.t 65), (.t 66)])), (jm 11 67)] []) A5_14)
def A5_12 : AC := (.seq (.reg [] [((jv 11 (.mov (jn 1))))] []) A5_13)
def A5_11 : AC := (.seq (.reg [] [(jm 62 7), (jm 63 10), (.mk (some 64) none false (.mark (.k (.fn 23 [] [])) [(.t 62), (.t 63)])), (jm 10 64)] []) A5_12)
def A5_10 : AC := (.seq (.reg [] [((jv 10 (.mov (jn 1))))] []) A5_11)
def A5_20 : AC := (.cond (.t 40) (.seq (.reg [] [((jv 2 (.mov (.k (.bool false)))))] []) .ret) .skip)
def A5_22 : AC := (.cond (.t 45) (.seq (.reg [] [((jv 2 (.mov (.k (.bool false)))))] []) .ret) .skip)
def A5_25 : AC := (.seq (.seq (.reg [] [(jm 49 9), ((jv 50 (.bin .lss (.t 49) (jn 0)))), (jm 51 50), ((jg 52 51 false (.mov (.t 7)))), ((jg 53 51 false (.mov (.t 4)))), (.mk (some 54) (some (51, false)) false (.call (.k (.fn 21 [] [])) [(.t 52), (.t 53)])), ((jg 55 51 false (.un .not (.t 54)))), ((jv 56 (.pick (.t 51) (.k (.bool true)) (.t 55)))), (jm 57 56), ((jg 58 57 false (.mov (.t 8)))), ((jg 59 57 false (.mov (.t 5)))), ((jg 60 57 false (.beq true (.t 58) (.t 59)))), ((jv 61 (.pick (.t 57) (.k (.bool true)) (.t 60))))] []) A5_9) A5_10)
def A5_24 : AC := (.seq (.reg [] [((jv 46 (.load (.ag [.s, .p]) (.t 6)))), (jm 47 9), (.mk (some 48) none false (.mark (.k (.fn 22 [] [])) [(.t 46), (.t 47)])), (jm 9 48)] []) A5_25)
def A5_23 : AC := (.seq (.reg [] [((jv 9 (.mov (jn 1))))] []) A5_24)
def A5_21 : AC := (.seq (.seq (.reg [] [((jv 41 (.load (.ag [.s, .p]) (.t 6)))), ((jv 42 (.load (.ag [.s, .p]) (.t 1)))), (.mk (some 43) none false (.call (.k (.fn 17 [] [])) [(.t 42)])), (.mk (some 44) none false (.call (.k (.fn 20 [] [])) [(.t 41), (.t 43)])), ((jv 45 (.un .not (.t 44))))] []) A5_22) A5_23)
def A5_29 : AC := (.cond (.t 18) (.seq (.reg [] [((jv 2 (.mov (.k (.bool true)))))] []) .ret) .skip)
def A5_33 : AC := (.seq (.seq (.reg [] [(jm 32 7), (jm 33 4), (.mk (some 34) none false (.call (.k (.fn 21 [] [])) [(.t 32), (.t 33)])), ((jv 35 (.un .not (.t 34)))), (jm 36 35), ((jg 37 36 false (.mov (.t 8)))), ((jg 38 36 false (.mov (.t 5)))), ((jg 39 36 false (.beq true (.t 37) (.t 38)))), ((jv 40 (.pick (.t 36) (.k (.bool true)) (.t 39))))] []) A5_20) A5_21)
def A5_32 : AC := (.seq (.reg [.clr [29]] [((jv 28 (.load (.ag [.s, .p]) (.t 6)))), (.mk (some 29) none false (.callO (.k (.fn 33 [] [])) [(.t 28)])), (jm 27 29), ((jv 30 (.ext (.t 27) 0))), ((jv 31 (.extS (.t 27) 1))), (jm 7 30), (jm 8 31)] [.home 29 7]) A5_33)
def A5_31 : AC := (.seq (.reg [.clr [26, 6]] [((jv 25 (.load (.ag [.s, .p]) (.t 1)))), (.mk (some 26) none false (.callO (.k (.fn 17 [] [])) [(.t 25)])), (.mk (some 6) none false (.alloc (.agg [(.int .i64 (.ofNat 0)), (.sl .nl (.ag [.s, .s]) 0 [])]))), (.mk none none false (.store (.ag [.s, .p]) (.t 6) (.t 26)))] []) A5_32)
def A5_30 : AC := (.seq (.reg [] [((jv 20 (.load (.ag [.s, .p]) (.t 1)))), (.mk (some 21) none false (.call (.k (.fn 17 [] [])) [(.t 20)])), (.mk (some 22) none false (.call (.k (.fn 32 [] [])) [(.t 21)])), (jm 19 22), ((jv 23 (.ext (.t 19) 0))), ((jv 24 (.extS (.t 19) 1))), (jm 4 23), (jm 5 24)] []) A5_31)
def A5_28 : AC := (.seq (.seq (.reg [] [(jm 17 3), ((jv 18 (.bin .lss (.t 17) (jn 0))))] []) A5_29) A5_30)
def A5_27 : AC := (.seq (.reg [] [((jv 14 (.load (.ag [.s, .p]) (.t 1)))), (jm 15 3), (.mk (some 16) none false (.call (.k (.fn 15 [] [])) [(.t 14), (.t 15)])), (jm 3 16)] []) A5_28)
def A5_26 : AC := (.seq (.reg [] [((jv 3 (.mov (jn 1048576))))] []) A5_27)
def A5 : AC := (.seq (.reg [.clr [1]] [(.mk (some 1) none false (.box (.t 0))), ((jv 2 (.mov (.k (.bool false)))))] []) A5_26)
def an5 : List An := [{ id := 0, pre := [.clr [1]], ep := [], lin := [], sp := [] }, { id := 6, pre := [.clr [26, 6]], ep := [], lin := [], sp := [1001] }, { id := 7, pre := [.clr [29]], ep := [.home 29 7], lin := [], sp := [1001] }, { id := 13, pre := [], ep := [], lin := [], sp := [2] }, { id := 17, pre := [], ep := [], lin := [], sp := [2] }, { id := 24, pre := [.clr [76]], ep := [.home 76 12], lin := [], sp := [1002] }]
theorem c5 : cC Try.prog Try.f5.ntmps an5 (Try.f5.body.getD .skip) = some A5 := by kernel_rfl
structure H5 (D : Den) (σ : Sig) (F : Nat) : Prop where
  c15 : ∀ (x0 : (Int × (List (Int × Int)))) (x1 : Int) r, w_szGraph F x0 x1 = some r → D 15 [Enc.enc x0, Enc.enc x1] = some (Enc.enc (r : Int))
  g15 : σ 15 = some (0, false)
  c17 : ∀ (x0 : (Int × (List (Int × Int)))) r, w_toGraph F x0 = some r → D 17 [Enc.enc x0] = some (Enc.enc (r : (Int × (List (Int × Int)))))
  g17 : σ 17 = some (0, true)
  c32 : ∀ (x0 : (Int × (List (Int × Int)))) r, s_RankingOf F x0 = some r → D 32 [Enc.enc x0] = some (.tup [Enc.enc (r.1 : (List Int)), Enc.enc (r.2 : Bool)])
  g32 : σ 32 = some (0, false)
  c17o : ∀ (x0 : (Int × (List (Int × Int)))) r, w_toGraph_o F x0 = some r → D 1000000017 [Enc.enc x0] = some (.agg [(Enc.enc (r.1 : Int)), (encO .sh (r.2 : NL (Int × Int)))])
  g17o : σ 1000000017 = some (1, false)
  c33o : ∀ (x0 : (Int × (List (Int × Int)))) r, i_RankingOf_o F x0 = some r → D 1000000033 [Enc.enc x0] = some (.tup [(encO .sh (r.1 : NL Int)), (Enc.enc (r.2 : Bool))])
  g33o : σ 1000000033 = some (1, false)
  c21 : ∀ (x0 : (List Int)) (x1 : (List Int)) r, w_eqIntS F x0 x1 = some r → D 21 [Enc.enc x0, Enc.enc x1] = some (Enc.enc (r : Bool))
  g21 : σ 21 = some (0, false)
  c20 : ∀ (x0 : (Int × (List (Int × Int)))) (x1 : (Int × (List (Int × Int)))) r, w_eqGraph F x0 x1 = some r → D 20 [Enc.enc x0, Enc.enc x1] = some (Enc.enc (r : Bool))
  g20 : σ 20 = some (0, false)
  c22 : ∀ (x0 : (Og (Int × Int))) (x1 : Int) r, w_markGraph F x0 x1 = some r → D 22 [Arg.arg x0, Enc.enc x1] = some (.tup [Enc.enc (r.1 : Int), .agg [Enc.enc (r.2.a : Int), encO (.at pinR [1]) (r.2.v : NL (Int × Int))]])
  g22 : σ 22 = some (pinR, false)
  c23 : ∀ (x0 : (On Int)) (x1 : Int) r, w_markIntS F x0 x1 = some r → D 23 [Arg.arg x0, Enc.enc x1] = some (.tup [Enc.enc (r.1 : Int), encO (.at pinR []) (r.2 : NL Int)])
  g23 : σ 23 = some (pinR, false)
  c31 : ∀ (x0 : (List Int)) (x1 : Int) r, w_heldIntS F x0 x1 = some r → D 31 [Enc.enc x0, Enc.enc x1] = some (Enc.enc (r : Int))
  g31 : σ 31 = some (0, false)
abbrev R5 (r : Bool) : (Nat → V) → Prop := RR Try.prog [.tmp 2] 0 false (Enc.enc (r : Bool))
section
variable {D : Den} {σ : Sig} {F : Nat} {r : Bool}
def w_FnExactRankingOf_j1 (F : Nat) (m_15 : (NL Int)) (r_14 : (Int × (NL Int)))  (x_20 : Bool) : Option Bool :=
  bif x_20 then
    some false
  else
    (w_heldIntS F m_15.list 1).bind fun r_21 =>
    bif decide (r_21 < 0) then
      some false
    else
      bif (r_21 != r_14.1) then
        some false
      else
        some true
theorem t_f5_j1 (H : H5 D σ F) (m_15 : (NL Int)) (r_14 : (Int × (NL Int)))  (x_20 : Bool) (s : Nat → V) (hs : Facts [(2, (jb false)), (7, (oI 7 [0] m_15)), (10, (ji r_14.1)), (87, (jb x_20))] s) (h : w_FnExactRankingOf_j1 F m_15 r_14  x_20 = some r) : Run D σ (R5 r) (.nrm [.sq A5_1, .sq A5_2]) s := by
  unfold w_FnExactRankingOf_j1 at h
  obtain ⟨h2, h7, h10, h87⟩ := hs
  refine .nsq (run_cond (t := x_20) h87 h (fun h => ?_) (fun h => ?_))
  · refine .seq (rg (g0 (jb false) fun h2 => ?_))
    refine gq (.nsq (.ret ?_))
    have hr := Option.some.inj h
    subst hr
    exact rrA (res_tmp h2) rfl
  refine .skip (.nsq (.seq (rg (g0 (ji 1) fun h11 => gq (.nsq (.seq (rg (gv (oI 7 [0] m_15) (ev_mov h7 ok_encO) fun h88 => ?_))))))))
  refine gm h11 fun h89 => ?_
  obtain ⟨r_21, E_r_21, h⟩ := bind_some h
  refine g_call (m := 0) (al := false) (r := (Enc.enc (r_21 : Int))) [Enc.enc (m_15.list : (List Int)), Enc.enc (1 : Int)] (ta_cons (v := (oI 7 [0] m_15)) h88 ok_encP (erase_encO (o := m_15)) (ta_cons (v := (ji 1)) h89 rfl rfl ta_nil)) (H.c31 _ _ _ E_r_21) H.g31 rfl rfl rfl rfl ?_
  refine gm (rfl : (_ : V) = (ji r_21)) fun h11 => ?_
  refine gq (.nsq (.seq (.seq (rg (gm h11 fun h91 => g1 91 (jb (decide (r_21 < 0))) h91 fun h92 => ?_)))))
  refine gq (.nsq (run_cond (t := decide (r_21 < 0)) h92 h (fun h => ?_) (fun h => ?_)))
  · refine .seq (rg (g0 (jb false) fun h2 => ?_))
    refine gq (.nsq (.ret ?_))
    have hr := Option.some.inj h
    subst hr
    exact rrA (res_tmp h2) rfl
  refine .skip (.nsq (.seq (.seq (rg (gm h11 fun h93 => gm h10 fun h94 => g2 93 94 (jb (r_21 != r_14.1)) h93 h94 fun h95 => ?_)))))
  refine gq (.nsq (run_cond (t := (r_21 != r_14.1)) h95 h (fun h => ?_) (fun h => ?_)))
  · refine .seq (rg (g0 (jb false) fun h2 => ?_))
    refine gq (.nsq (.ret ?_))
    have hr := Option.some.inj h
    subst hr
    exact rrA (res_tmp h2) rfl
  refine .skip (.nsq (.seq (rg (g0 (jb true) fun h2 => ?_))))
  refine gq (.nsq (.ret ?_))
  have hr := Option.some.inj h
  subst hr
  exact rrA (res_tmp h2) rfl
def w_FnExactRankingOf_j2 (F : Nat) (x_1 : (Int × (List (Int × Int)))) (r_4 : ((List Int) × Bool)) (r_6 : ((NL Int) × Bool))  (x_13 : Bool) : Option Bool :=
  bif x_13 then
    some false
  else
    (w_markIntS F (On.mk r_6.1 : (On Int)) 1).bind fun r_14 =>
    (remark r_6.1 r_14.2).bind fun m_15 =>
    (w_heldIntS F m_15.list 1).bind fun r_16 =>
    bif decide (r_16 < 0) then
      some false
    else
      bif (r_16 != r_14.1) then
        some false
      else
        (w_toGraph F x_1).bind fun r_17 =>
        (i_RankingOf_o F r_17).bind fun r_18 =>
        (w_eqIntS F r_18.1.list r_4.1).bind fun r_22 =>
        bif (!r_22) then
          w_FnExactRankingOf_j1 F m_15 r_14 true
        else
          w_FnExactRankingOf_j1 F m_15 r_14 (r_18.2 != r_4.2)
theorem t_f5_j2 (H : H5 D σ F) (x_1 : (Int × (List (Int × Int)))) (r_4 : ((List Int) × Bool)) (r_6 : ((NL Int) × Bool))  (x_13 : Bool) (s : Nat → V) (hs : Facts [(1, (.ref (.bx 1) 0 [] (.agg [(ji x_1.1), (Enc.enc (x_1.2 : List (Int × Int)))]))), (2, (jb false)), (4, (eL r_4.1)), (5, (jb r_4.2)), (7, (oI 7 [0] r_6.1)), (61, (jb x_13))] s) (h : w_FnExactRankingOf_j2 F x_1 r_4 r_6  x_13 = some r) : Run D σ (R5 r) (.nrm [.sq A5_9, .sq A5_10]) s := by
  unfold w_FnExactRankingOf_j2 at h
  obtain ⟨h1, h2, h4, h5, h7, h61⟩ := hs
  refine .nsq (run_cond (t := x_13) h61 h (fun h => ?_) (fun h => ?_))
  · refine .seq (rg (g0 (jb false) fun h2 => ?_))
    refine gq (.nsq (.ret ?_))
    have hr := Option.some.inj h
    subst hr
    exact rrA (res_tmp h2) rfl
  refine .skip (.nsq (.seq (rg (g0 (ji 1) fun h10 => gq (.nsq (.seq (rg (gv (oI 7 [0] r_6.1) (ev_mov h7 ok_encO) fun h62 => ?_))))))))
  refine gm h10 fun h63 => ?_
  obtain ⟨r_14, E_r_14, h⟩ := bind_some h
  obtain ⟨m_15, E_m_15, h⟩ := bind_some h
  refine g_mark (v := (oI 7 [0] r_6.1)) h62 (canon_own (o := (r_6.1 : (NL Int))) rfl) (rdAll_cons (v := (ji 1)) h63 rfl rdAll_nil) (H.c23 _ _ _ E_r_14) H.g23 rfl rfl (fun s_6 hm_6 => ?_)
  refine gm (rfl : (_ : V) = (ji r_14.1)) fun h10 => ?_
  refine gz [(1, (.ref (.bx 1) 0 [] (.agg [(ji x_1.1), (Enc.enc (x_1.2 : List (Int × Int)))]))), (2, (jb false)), (4, _), (5, (jb r_4.2)), (7, (oI 7 [0] m_15)), (10, _)] ⟨(show s_6 1 = (.ref (.bx 1) 0 [] (.agg [(ji x_1.1), (Enc.enc (x_1.2 : List (Int × Int)))])) from hm_6 1 (.ref (.bx 1) 0 [] (.agg [(ji x_1.1), (Enc.enc (x_1.2 : List (Int × Int)))])) (.ref (.bx 1) 0 [] (.agg [(ji x_1.1), (Enc.enc (x_1.2 : List (Int × Int)))])) h1 (rem_self _ (map_bx (killO_ne rfl) (map_agg (maps_cons rfl (maps_cons (Enc.map_enc _ (x_1.2 : List (Int × Int))) maps_nil)))))), (show s_6 2 = (jb false) from hm_6 2 (jb false) (jb false) h2 (rem_self _ rfl)), (show s_6 4 = (eL r_4.1) from hm_6 4 (eL r_4.1) (eL r_4.1) h4 (rem_enc (xs := (r_4.1 : List Int)))), (show s_6 5 = (jb r_4.2) from hm_6 5 (jb r_4.2) (jb r_4.2) h5 (rem_self _ rfl)), (show s_6 7 = (oI 7 [0] m_15) from hm_6 7 (oI 7 [0] r_6.1) (oI 7 [0] m_15) h7 (marked_own (o := (r_6.1 : NL Int)) rfl E_m_15)), h10⟩ ?_
  rintro s ⟨h1, h2, h4, h5, h7, h10⟩
  refine .nsq (.seq (rg (g0 (ji 1) fun h11 => gq (.nsq (.seq (rg (gv (oI 7 [0] m_15) (ev_mov h7 ok_encO) fun h65 => ?_)))))))
  refine gm h11 fun h66 => ?_
  obtain ⟨r_16, E_r_16, h⟩ := bind_some h
  refine g_call (m := 0) (al := false) (r := (Enc.enc (r_16 : Int))) [Enc.enc (m_15.list : (List Int)), Enc.enc (1 : Int)] (ta_cons (v := (oI 7 [0] m_15)) h65 ok_encP (erase_encO (o := m_15)) (ta_cons (v := (ji 1)) h66 rfl rfl ta_nil)) (H.c31 _ _ _ E_r_16) H.g31 rfl rfl rfl rfl ?_
  refine gm (rfl : (_ : V) = (ji r_16)) fun h11 => ?_
  refine gq (.nsq (.seq (.seq (rg (gm h11 fun h68 => g1 68 (jb (decide (r_16 < 0))) h68 fun h69 => ?_)))))
  refine gq (.nsq (run_cond (t := decide (r_16 < 0)) h69 h (fun h => ?_) (fun h => ?_)))
  · refine .seq (rg (g0 (jb false) fun h2 => ?_))
    refine gq (.nsq (.ret ?_))
    have hr := Option.some.inj h
    subst hr
    exact rrA (res_tmp h2) rfl
  refine .skip (.nsq (.seq (.seq (rg (gm h11 fun h70 => gm h10 fun h71 => g2 70 71 (jb (r_16 != r_14.1)) h70 h71 fun h72 => ?_)))))
  refine gq (.nsq (run_cond (t := (r_16 != r_14.1)) h72 h (fun h => ?_) (fun h => ?_)))
  · refine .seq (rg (g0 (jb false) fun h2 => ?_))
    refine gq (.nsq (.ret ?_))
    have hr := Option.some.inj h
    subst hr
    exact rrA (res_tmp h2) rfl
  refine .skip (.nsq (.seq (run_reg ?_)))
  refine e_clr ?_
  refine ez [(1, _), (2, _), (4, _), (5, _), (7, _), (10, _), (76, _)] ⟨(keep_clear (pk := [76]) h1 rfl (map_bx rfl (map_agg (maps_cons mi (maps_cons me maps_nil))))), (keep_clear (pk := [76]) h2 rfl mb), (keep_clear (pk := [76]) h4 rfl me), (keep_clear (pk := [76]) h5 rfl mb), (keep_clear (pk := [76]) h7 rfl (map_encO (r := 7) (p := [0]) rfl rfl)), (keep_clear (pk := [76]) h10 rfl mi), (gone_clear (pk := [76]) (t := 76) rfl)⟩ ?_
  rintro s ⟨h1, h2, h4, h5, h7, h10, h76⟩
  refine g1 1 (.agg [(ji x_1.1), (Enc.enc (x_1.2 : List (Int × Int)))]) h1 fun h74 => ?_
  obtain ⟨r_17, E_r_17, h⟩ := bind_some h
  refine g_call (m := 0) (al := true) (r := (Enc.enc (r_17 : (Int × (List (Int × Int)))))) [Enc.enc (x_1 : (Int × (List (Int × Int))))] (ta_cons (v := (.agg [(ji x_1.1), (Enc.enc (x_1.2 : List (Int × Int)))])) h74 rfl (Enc.erase_enc (x_1 : (Int × (List (Int × Int))))) ta_nil) (H.c17 _ _ E_r_17) H.g17 (hal_of (ht_cons (v := (.agg [(ji x_1.1), (Enc.enc (x_1.2 : List (Int × Int)))])) h74 rfl rfl ht_nil)) rfl rfl rfl ?_
  obtain ⟨r_18, E_r_18, h⟩ := bind_some h
  refine g_callO (m := 1) (al := false) (r := (.tup [(encO .sh (r_18.1 : NL Int)), (Enc.enc (r_18.2 : Bool))])) (v := (.tup [(oI 76 [0] r_18.1), (jb r_18.2)])) (kk := 1000000033) [Enc.enc (r_17 : (Int × (List (Int × Int))))] (ta_cons (v := (.agg [(ji r_17.1), (Enc.enc (r_17.2 : List (Int × Int)))])) rfl rfl (Enc.erase_enc (r_17 : (Int × (List (Int × Int))))) ta_nil) (H.c33o _ _ E_r_18) H.g33o rfl (toks_tup (tokss_cons toks_encS (tokss_cons rfl tokss_nil))) (tag_tup (tags_cons tag_encO (tags_cons rfl tags_nil))) rfl h76 ?_
  refine gm (rfl : (_ : V) = (.tup [(oI 76 [0] r_18.1), (jb r_18.2)])) fun h73 => ?_
  refine gv (oI 76 [0] r_18.1) (ev_extN (v := (oI 76 [0] r_18.1)) h73 rfl ok_encP) fun h77 => ?_
  refine g1 73 (jb r_18.2) h73 fun h78 => ?_
  refine gv (oI 76 [0] r_18.1) (ev_mov h77 ok_encO) fun h12 => ?_
  refine gm h78 fun h13 => g_end ?_
  refine e_home (r := 76) (x := 12) (v := _) h12 ok_encO (fun s_8 hg_8 => ?_)
  refine ez [(2, (jb false)), (4, (eL r_4.1)), (5, (jb r_4.2)), (7, (oI 7 [0] m_15)), (10, (ji r_14.1)), (12, (oI 12 [0] r_18.1)), (13, (jb r_18.2))] ⟨(hg_8 2 _ _ h2 mb), (hg_8 4 _ _ h4 me), (hg_8 5 _ _ h5 mb), (hg_8 7 _ _ h7 (map_encO (r := 7) (p := [0]) rfl rfl)), (hg_8 10 _ _ h10 mi), (hg_8 12 _ _ h12 (map_encO (r := 76) (p := [0]) rfl rfl)), (hg_8 13 _ _ h13 mb)⟩ ?_
  rintro s ⟨h2, h4, h5, h7, h10, h12, h13⟩
  refine .nsq (.seq (.seq (rg (gv (oI 12 [0] r_18.1) (ev_mov h12 ok_encO) fun h79 => ?_))))
  refine gm h4 fun h80 => ?_
  obtain ⟨r_22, E_r_22, h⟩ := bind_some h
  refine g_call (m := 0) (al := false) (r := (Enc.enc (r_22 : Bool))) [Enc.enc (r_18.1.list : (List Int)), Enc.enc (r_4.1 : (List Int))] (ta_cons (v := (oI 12 [0] r_18.1)) h79 ok_encP (erase_encO (o := r_18.1)) (ta_cons (v := (eL r_4.1)) h80 rfl (Enc.erase_enc (r_4.1 : (List Int))) ta_nil)) (H.c21 _ _ _ E_r_22) H.g21 rfl rfl rfl rfl ?_
  refine g1 81 (jb (!r_22)) (rfl : (_ : V) = (jb r_22)) fun h82 => ?_
  refine gm h82 fun h83 => split_on (c := (!r_22)) h (fun hg5 h => ?_) (fun hg5 h => ?_)
  · refine g_no (h83.trans (congrArg V.bool hg5)) ?_
    refine g_no (h83.trans (congrArg V.bool hg5)) ?_
    refine g_no (h83.trans (congrArg V.bool hg5)) ?_
    refine g2 83 86 (jb true) (h83.trans (congrArg V.bool hg5)) (rfl : (_ : V) = (.tup [])) fun h87 => ?_
    refine gq ?_
    exact t_f5_j1 H m_15 r_14 true _ ⟨h2, h7, h10, h87⟩ h
  refine g_yes (h83.trans (congrArg V.bool hg5)) (gm h13 fun h84 => ?_)
  refine g_yes (h83.trans (congrArg V.bool hg5)) (gm h5 fun h85 => ?_)
  refine g_yes (h83.trans (congrArg V.bool hg5)) (g2 84 85 (jb (r_18.2 != r_4.2)) h84 h85 fun h86 => ?_)
  refine g2 83 86 (jb (r_18.2 != r_4.2)) (h83.trans (congrArg V.bool hg5)) h86 fun h87 => ?_
  refine gq ?_
  exact t_f5_j1 H m_15 r_14 (r_18.2 != r_4.2) _ ⟨h2, h7, h10, h87⟩ h
def w_FnExactRankingOf_j3 (F : Nat) (x_1 : (Int × (List (Int × Int)))) (r_4 : ((List Int) × Bool)) (r_5 : (Int × (NL (Int × Int)))) (r_6 : ((NL Int) × Bool))  (x_8 : Bool) : Option Bool :=
  bif x_8 then
    some false
  else
    (w_toGraph F x_1).bind fun r_9 =>
    (w_eqGraph F (r_5.1, r_5.2.list) r_9).bind fun r_10 =>
    bif (!r_10) then
      some false
    else
      (w_markGraph F (Og.mk r_5.1 r_5.2 : (Og (Int × Int))) 1).bind fun r_11 =>
      bif decide (r_11.1 < 0) then
        w_FnExactRankingOf_j2 F x_1 r_4 r_6 true
      else
        (w_eqIntS F r_6.1.list r_4.1).bind fun r_23 =>
        bif (!r_23) then
          w_FnExactRankingOf_j2 F x_1 r_4 r_6 true
        else
          w_FnExactRankingOf_j2 F x_1 r_4 r_6 (r_6.2 != r_4.2)
theorem t_f5_j3 (H : H5 D σ F) (x_1 : (Int × (List (Int × Int)))) (r_4 : ((List Int) × Bool)) (r_5 : (Int × (NL (Int × Int)))) (r_6 : ((NL Int) × Bool))  (x_8 : Bool) (s : Nat → V) (hs : Facts [(1, (.ref (.bx 1) 0 [] (.agg [(ji x_1.1), (Enc.enc (x_1.2 : List (Int × Int)))]))), (2, (jb false)), (4, (eL r_4.1)), (5, (jb r_4.2)), (6, (.ref (.bx 6) 0 [] (.agg [(ji r_5.1), (encO (.at 26 [1]) (r_5.2 : NL (Int × Int)))]))), (7, (oI 7 [0] r_6.1)), (8, (jb r_6.2)), (40, (jb x_8))] s) (h : w_FnExactRankingOf_j3 F x_1 r_4 r_5 r_6  x_8 = some r) : Run D σ (R5 r) (.nrm [.sq A5_20, .sq A5_21]) s := by
  unfold w_FnExactRankingOf_j3 at h
  obtain ⟨h1, h2, h4, h5, h6, h7, h8, h40⟩ := hs
  refine .nsq (run_cond (t := x_8) h40 h (fun h => ?_) (fun h => ?_))
  · refine .seq (rg (g0 (jb false) fun h2 => ?_))
    refine gq (.nsq (.ret ?_))
    have hr := Option.some.inj h
    subst hr
    exact rrA (res_tmp h2) rfl
  refine .skip (.nsq (.seq (.seq (rg (gv (.agg [(ji r_5.1), (encO (.at 26 [1]) (r_5.2 : NL (Int × Int)))]) (ev_loadN (c := (.agg [(ji r_5.1), (encO (.at 26 [1]) (r_5.2 : NL (Int × Int)))])) h6 (by simp [V.shape, V.shapes, shape_encP, shape_encN, Sh.beq, Sh.beqs])) fun h41 => ?_)))))
  refine g1 1 (.agg [(ji x_1.1), (Enc.enc (x_1.2 : List (Int × Int)))]) h1 fun h42 => ?_
  obtain ⟨r_9, E_r_9, h⟩ := bind_some h
  refine g_call (m := 0) (al := true) (r := (Enc.enc (r_9 : (Int × (List (Int × Int)))))) [Enc.enc (x_1 : (Int × (List (Int × Int))))] (ta_cons (v := (.agg [(ji x_1.1), (Enc.enc (x_1.2 : List (Int × Int)))])) h42 rfl (Enc.erase_enc (x_1 : (Int × (List (Int × Int))))) ta_nil) (H.c17 _ _ E_r_9) H.g17 (hal_of (ht_cons (v := (.agg [(ji x_1.1), (Enc.enc (x_1.2 : List (Int × Int)))])) h42 rfl rfl ht_nil)) rfl rfl rfl ?_
  obtain ⟨r_10, E_r_10, h⟩ := bind_some h
  refine g_call (m := 0) (al := false) (r := (Enc.enc (r_10 : Bool))) [Enc.enc ((r_5.1, r_5.2.list) : (Int × (List (Int × Int)))), Enc.enc (r_9 : (Int × (List (Int × Int))))] (ta_cons (v := (.agg [(ji r_5.1), (encO (.at 26 [1]) (r_5.2 : NL (Int × Int)))])) h41 rfl (erase_agg (erases_cons rfl (erases_cons (erase_encO (o := r_5.2)) erases_nil))) (ta_cons (v := (.agg [(ji r_9.1), (Enc.enc (r_9.2 : List (Int × Int)))])) rfl rfl (Enc.erase_enc (r_9 : (Int × (List (Int × Int))))) ta_nil)) (H.c20 _ _ _ E_r_10) H.g20 rfl rfl rfl rfl ?_
  refine g1 44 (jb (!r_10)) (rfl : (_ : V) = (jb r_10)) fun h45 => ?_
  refine gq (.nsq (run_cond (t := (!r_10)) h45 h (fun h => ?_) (fun h => ?_)))
  · refine .seq (rg (g0 (jb false) fun h2 => ?_))
    refine gq (.nsq (.ret ?_))
    have hr := Option.some.inj h
    subst hr
    exact rrA (res_tmp h2) rfl
  refine .skip (.nsq (.seq (rg (g0 (ji 1) fun h9 => gq (.nsq (.seq (rg (gv (.agg [(ji r_5.1), (encO (.at 26 [1]) (r_5.2 : NL (Int × Int)))]) (ev_loadN (c := (.agg [(ji r_5.1), (encO (.at 26 [1]) (r_5.2 : NL (Int × Int)))])) h6 (by simp [V.shape, V.shapes, shape_encP, shape_encN, Sh.beq, Sh.beqs])) fun h46 => ?_))))))))
  refine gm h9 fun h47 => ?_
  obtain ⟨r_11, E_r_11, h⟩ := bind_some h
  refine g_mark (v := (.agg [(ji r_5.1), (encO (.at 26 [1]) (r_5.2 : NL (Int × Int)))])) h46 (canon_agg (a := r_5.1) (o := (r_5.2 : NL (Int × Int))) rfl) (rdAll_cons (v := (ji 1)) h47 rfl rdAll_nil) (H.c22 _ _ _ E_r_11) H.g22 rfl rfl (fun s_5 hm_5 => ?_)
  refine gm (rfl : (_ : V) = (ji r_11.1)) fun h9 => ?_
  refine gz [(1, (.ref (.bx 1) 0 [] (.agg [(ji x_1.1), (Enc.enc (x_1.2 : List (Int × Int)))]))), (2, (jb false)), (4, _), (5, (jb r_4.2)), (7, (oI 7 [0] r_6.1)), (8, (jb r_6.2)), (9, _)] ⟨(show s_5 1 = (.ref (.bx 1) 0 [] (.agg [(ji x_1.1), (Enc.enc (x_1.2 : List (Int × Int)))])) from hm_5 1 (.ref (.bx 1) 0 [] (.agg [(ji x_1.1), (Enc.enc (x_1.2 : List (Int × Int)))])) (.ref (.bx 1) 0 [] (.agg [(ji x_1.1), (Enc.enc (x_1.2 : List (Int × Int)))])) h1 (rem_self _ (map_bx (killO_ne rfl) (map_agg (maps_cons rfl (maps_cons (Enc.map_enc _ (x_1.2 : List (Int × Int))) maps_nil)))))), (show s_5 2 = (jb false) from hm_5 2 (jb false) (jb false) h2 (rem_self _ rfl)), (show s_5 4 = (eL r_4.1) from hm_5 4 (eL r_4.1) (eL r_4.1) h4 (rem_enc (xs := (r_4.1 : List Int)))), (show s_5 5 = (jb r_4.2) from hm_5 5 (jb r_4.2) (jb r_4.2) h5 (rem_self _ rfl)), (show s_5 7 = (oI 7 [0] r_6.1) from hm_5 7 (oI 7 [0] r_6.1) (oI 7 [0] r_6.1) h7 (rem_self _ (map_encO (r := 7) (p := [0]) (killO_ne rfl) (killO_ne rfl)))), (show s_5 8 = (jb r_6.2) from hm_5 8 (jb r_6.2) (jb r_6.2) h8 (rem_self _ rfl)), h9⟩ ?_
  rintro s ⟨h1, h2, h4, h5, h7, h8, h9⟩
  refine .nsq (.seq (.seq (rg (gm h9 fun h49 => g1 49 (jb (decide (r_11.1 < 0))) h49 fun h50 => ?_))))
  refine gm h50 fun h51 => split_on (c := decide (r_11.1 < 0)) h (fun hg3 h => ?_) (fun hg3 h => ?_)
  · refine g_no (h51.trans (congrArg V.bool hg3)) ?_
    refine g_no (h51.trans (congrArg V.bool hg3)) ?_
    refine g_no (h51.trans (congrArg V.bool hg3)) ?_
    refine g_no (h51.trans (congrArg V.bool hg3)) ?_
    refine g2 51 55 (jb true) (h51.trans (congrArg V.bool hg3)) (rfl : (_ : V) = (.tup [])) fun h56 => ?_
    refine gm h56 fun h57 => g_no h57 ?_
    refine g_no h57 ?_
    refine g_no h57 ?_
    refine g2 57 60 (jb true) h57 (rfl : (_ : V) = (.tup [])) fun h61 => ?_
    refine gq ?_
    exact t_f5_j2 H x_1 r_4 r_6 true _ ⟨h1, h2, h4, h5, h7, h61⟩ h
  refine g_yes (h51.trans (congrArg V.bool hg3)) (gv (oI 7 [0] r_6.1) (ev_mov h7 ok_encO) fun h52 => ?_)
  refine g_yes (h51.trans (congrArg V.bool hg3)) (gm h4 fun h53 => ?_)
  obtain ⟨r_23, E_r_23, h⟩ := bind_some h
  refine g_yes (h51.trans (congrArg V.bool hg3)) (g_call (m := 0) (al := false) (r := (Enc.enc (r_23 : Bool))) [Enc.enc (r_6.1.list : (List Int)), Enc.enc (r_4.1 : (List Int))] (ta_cons (v := (oI 7 [0] r_6.1)) h52 ok_encP (erase_encO (o := r_6.1)) (ta_cons (v := (eL r_4.1)) h53 rfl (Enc.erase_enc (r_4.1 : (List Int))) ta_nil)) (H.c21 _ _ _ E_r_23) H.g21 rfl rfl rfl rfl ?_)
  refine g_yes (h51.trans (congrArg V.bool hg3)) (g1 54 (jb (!r_23)) (rfl : (_ : V) = (jb r_23)) fun h55 => ?_)
  refine g2 51 55 (jb (!r_23)) (h51.trans (congrArg V.bool hg3)) h55 fun h56 => ?_
  refine gm h56 fun h57 => split_on (c := (!r_23)) h (fun hg9 h => ?_) (fun hg9 h => ?_)
  · refine g_no (h57.trans (congrArg V.bool hg9)) ?_
    refine g_no (h57.trans (congrArg V.bool hg9)) ?_
    refine g_no (h57.trans (congrArg V.bool hg9)) ?_
    refine g2 57 60 (jb true) (h57.trans (congrArg V.bool hg9)) (rfl : (_ : V) = (.tup [])) fun h61 => ?_
    refine gq ?_
    exact t_f5_j2 H x_1 r_4 r_6 true _ ⟨h1, h2, h4, h5, h7, h61⟩ h
  refine g_yes (h57.trans (congrArg V.bool hg9)) (gm h8 fun h58 => ?_)
  refine g_yes (h57.trans (congrArg V.bool hg9)) (gm h5 fun h59 => ?_)
  refine g_yes (h57.trans (congrArg V.bool hg9)) (g2 58 59 (jb (r_6.2 != r_4.2)) h58 h59 fun h60 => ?_)
  refine g2 57 60 (jb (r_6.2 != r_4.2)) (h57.trans (congrArg V.bool hg9)) h60 fun h61 => ?_
  refine gq ?_
  exact t_f5_j2 H x_1 r_4 r_6 (r_6.2 != r_4.2) _ ⟨h1, h2, h4, h5, h7, h61⟩ h
def w_FnExactRankingOf (F : Nat) (x_1 : (Int × (List (Int × Int)))) : Option Bool :=
  (w_szGraph F x_1 1048576).bind fun r_2 =>
  bif decide (r_2 < 0) then
    some true
  else
    (w_toGraph F x_1).bind fun r_3 =>
    (s_RankingOf F r_3).bind fun r_4 =>
    (w_toGraph_o F x_1).bind fun r_5 =>
    (i_RankingOf_o F (r_5.1, r_5.2.list)).bind fun r_6 =>
    (w_eqIntS F r_6.1.list r_4.1).bind fun r_24 =>
    bif (!r_24) then
      w_FnExactRankingOf_j3 F x_1 r_4 r_5 r_6 true
    else
      w_FnExactRankingOf_j3 F x_1 r_4 r_5 r_6 (r_6.2 != r_4.2)
theorem t5 (H : H5 D σ F) (x_1 : (Int × (List (Int × Int)))) (s : Nat → V) (hs : Facts [(0, (.agg [(ji x_1.1), (Enc.enc (x_1.2 : List (Int × Int)))]))] s) (h : w_FnExactRankingOf F x_1 = some r) : Run D σ (R5 r) (.run A5 []) s := by
  unfold w_FnExactRankingOf at h
  have h0 := hs
  refine .seq (run_reg ?_)
  refine e_clr ?_
  refine ez [(0, _), (1, _)] ⟨(keep_clear (pk := [1]) h0 rfl (map_agg (maps_cons mi (maps_cons me maps_nil)))), (gone_clear (pk := [1]) (t := 1) rfl)⟩ ?_
  rintro s ⟨h0, h1⟩
  refine g_box (.agg [(ji x_1.1), (Enc.enc (x_1.2 : List (Int × Int)))]) (rd_of h0 rfl) h1 rfl ?_
  refine g0 (jb false) fun h2 => ?_
  refine gq (.nsq (.seq (rg (g0 (ji 1048576) fun h3 => gq (.nsq (.seq (rg (g1 1 (.agg [(ji x_1.1), (Enc.enc (x_1.2 : List (Int × Int)))]) (rfl : (_ : V) = (.ref (.bx 1) 0 [] (.agg [(ji x_1.1), (Enc.enc (x_1.2 : List (Int × Int)))]))) fun h14 => ?_))))))))
  refine gm h3 fun h15 => ?_
  obtain ⟨r_2, E_r_2, h⟩ := bind_some h
  refine g_call (m := 0) (al := false) (r := (Enc.enc (r_2 : Int))) [Enc.enc (x_1 : (Int × (List (Int × Int)))), Enc.enc (1048576 : Int)] (ta_cons (v := (.agg [(ji x_1.1), (Enc.enc (x_1.2 : List (Int × Int)))])) h14 rfl (Enc.erase_enc (x_1 : (Int × (List (Int × Int))))) (ta_cons (v := (ji 1048576)) h15 rfl rfl ta_nil)) (H.c15 _ _ _ E_r_2) H.g15 rfl rfl rfl rfl ?_
  refine gm (rfl : (_ : V) = (ji r_2)) fun h3 => ?_
  refine gq (.nsq (.seq (.seq (rg (gm h3 fun h17 => g1 17 (jb (decide (r_2 < 0))) h17 fun h18 => ?_)))))
  refine gq (.nsq (run_cond (t := decide (r_2 < 0)) h18 h (fun h => ?_) (fun h => ?_)))
  · refine .seq (rg (g0 (jb true) fun h2 => ?_))
    refine gq (.nsq (.ret ?_))
    have hr := Option.some.inj h
    subst hr
    exact rrA (res_tmp h2) rfl
  refine .skip (.nsq (.seq (rg (g1 1 (.agg [(ji x_1.1), (Enc.enc (x_1.2 : List (Int × Int)))]) (rfl : (_ : V) = (.ref (.bx 1) 0 [] (.agg [(ji x_1.1), (Enc.enc (x_1.2 : List (Int × Int)))]))) fun h20 => ?_))))
  obtain ⟨r_3, E_r_3, h⟩ := bind_some h
  refine g_call (m := 0) (al := true) (r := (Enc.enc (r_3 : (Int × (List (Int × Int)))))) [Enc.enc (x_1 : (Int × (List (Int × Int))))] (ta_cons (v := (.agg [(ji x_1.1), (Enc.enc (x_1.2 : List (Int × Int)))])) h20 rfl (Enc.erase_enc (x_1 : (Int × (List (Int × Int))))) ta_nil) (H.c17 _ _ E_r_3) H.g17 (hal_of (ht_cons (v := (.agg [(ji x_1.1), (Enc.enc (x_1.2 : List (Int × Int)))])) h20 rfl rfl ht_nil)) rfl rfl rfl ?_
  obtain ⟨r_4, E_r_4, h⟩ := bind_some h
  refine g_call (m := 0) (al := false) (r := (.tup [Enc.enc (r_4.1 : (List Int)), Enc.enc (r_4.2 : Bool)])) [Enc.enc (r_3 : (Int × (List (Int × Int))))] (ta_cons (v := (.agg [(ji r_3.1), (Enc.enc (r_3.2 : List (Int × Int)))])) rfl rfl (Enc.erase_enc (r_3 : (Int × (List (Int × Int))))) ta_nil) (H.c32 _ _ E_r_4) H.g32 rfl rfl rfl rfl ?_
  refine gm (rfl : (_ : V) = (.tup [(eL r_4.1), (jb r_4.2)])) fun h19 => ?_
  refine g1 19 (eL r_4.1) h19 fun h23 => ?_
  refine g1 19 (jb r_4.2) h19 fun h24 => ?_
  refine gm h23 fun h4 => gm h24 fun h5 => gq (.nsq (.seq (run_reg ?_)))
  refine e_clr ?_
  refine ez [(1, _), (2, _), (4, _), (5, _), (6, _), (26, _)] ⟨(keep_clear (pk := [26, 6]) rfl rfl (map_bx rfl (map_agg (maps_cons mi (maps_cons me maps_nil))))), (keep_clear (pk := [26, 6]) h2 rfl mb), (keep_clear (pk := [26, 6]) h4 rfl me), (keep_clear (pk := [26, 6]) h5 rfl mb), (gone_clear (pk := [26, 6]) (t := 6) rfl), (gone_clear (pk := [26, 6]) (t := 26) rfl)⟩ ?_
  rintro s ⟨h1, h2, h4, h5, h6, h26⟩
  refine g1 1 (.agg [(ji x_1.1), (Enc.enc (x_1.2 : List (Int × Int)))]) h1 fun h25 => ?_
  obtain ⟨r_5, E_r_5, h⟩ := bind_some h
  refine g_callO (m := 1) (al := false) (r := (.agg [(Enc.enc (r_5.1 : Int)), (encO .sh (r_5.2 : NL (Int × Int)))])) (v := (.agg [(ji r_5.1), (encO (.at 26 [1]) (r_5.2 : NL (Int × Int)))])) (kk := 1000000017) [Enc.enc (x_1 : (Int × (List (Int × Int))))] (ta_cons (v := (.agg [(ji x_1.1), (Enc.enc (x_1.2 : List (Int × Int)))])) h25 rfl (Enc.erase_enc (x_1 : (Int × (List (Int × Int))))) ta_nil) (H.c17o _ _ E_r_5) H.g17o rfl (toks_agg (tokss_cons rfl (tokss_cons toks_encS tokss_nil))) (tag_agg (tags_cons rfl (tags_cons tag_encO tags_nil))) rfl h26 ?_
  refine g_alloc h6 ?_
  refine g_store (.agg [(ji r_5.1), (encO (.at 26 [1]) (r_5.2 : NL (Int × Int)))]) (rd_of rfl rfl) (rd_of rfl rfl) ⟨by decide, by decide, rfl, (by simp [V.shape, V.shapes, shape_encP, Sh.beq, Sh.beqs]), (by simp [V.shape, V.shapes, shape_encP, Sh.beq, Sh.beqs]), (by simp [V.toks, V.tokss, tok_memP])⟩ ?_
  refine gz [(1, (.ref (.bx 1) 0 [] (.agg [(ji x_1.1), (Enc.enc (x_1.2 : List (Int × Int)))]))), (2, (jb false)), (4, (eL r_4.1)), (5, (jb r_4.2)), (6, (.ref (.bx 6) 0 [] (.agg [(ji r_5.1), (encO (.at 26 [1]) (r_5.2 : NL (Int × Int)))])))] ⟨(keep_mut h1 (mut_ref_ne rfl rfl (mut_agg (muts_cons rfl (muts_cons (Enc.mut_enc _ _ _ _ (x_1.2 : List (Int × Int))) rfl))))), (keep_mut h2 rfl), (keep_mut h4 (Enc.mut_enc _ _ _ _ (r_4.1 : List Int))), (keep_mut h5 rfl), (keep_mut rfl rfl)⟩ ?_
  rintro s ⟨h1, h2, h4, h5, h6⟩
  refine .nsq (.seq (run_reg ?_))
  refine e_clr ?_
  refine ez [(1, _), (2, _), (4, _), (5, _), (6, _), (29, _)] ⟨(keep_clear (pk := [29]) h1 rfl (map_bx rfl (map_agg (maps_cons mi (maps_cons me maps_nil))))), (keep_clear (pk := [29]) h2 rfl mb), (keep_clear (pk := [29]) h4 rfl me), (keep_clear (pk := [29]) h5 rfl mb), (keep_clear (pk := [29]) h6 rfl (map_bx rfl (map_agg (maps_cons mi (maps_cons (map_encO (r := 26) (p := [1]) rfl rfl) maps_nil))))), (gone_clear (pk := [29]) (t := 29) rfl)⟩ ?_
  rintro s ⟨h1, h2, h4, h5, h6, h29⟩
  refine gv (.agg [(ji r_5.1), (encO (.at 26 [1]) (r_5.2 : NL (Int × Int)))]) (ev_loadN (c := (.agg [(ji r_5.1), (encO (.at 26 [1]) (r_5.2 : NL (Int × Int)))])) h6 (by simp [V.shape, V.shapes, shape_encP, shape_encN, Sh.beq, Sh.beqs])) fun h28 => ?_
  obtain ⟨r_6, E_r_6, h⟩ := bind_some h
  refine g_callO (m := 1) (al := false) (r := (.tup [(encO .sh (r_6.1 : NL Int)), (Enc.enc (r_6.2 : Bool))])) (v := (.tup [(oI 29 [0] r_6.1), (jb r_6.2)])) (kk := 1000000033) [Enc.enc ((r_5.1, r_5.2.list) : (Int × (List (Int × Int))))] (ta_cons (v := (.agg [(ji r_5.1), (encO (.at 26 [1]) (r_5.2 : NL (Int × Int)))])) h28 rfl (erase_agg (erases_cons rfl (erases_cons (erase_encO (o := r_5.2)) erases_nil))) ta_nil) (H.c33o _ _ E_r_6) H.g33o rfl (toks_tup (tokss_cons toks_encS (tokss_cons rfl tokss_nil))) (tag_tup (tags_cons tag_encO (tags_cons rfl tags_nil))) rfl h29 ?_
  refine gm (rfl : (_ : V) = (.tup [(oI 29 [0] r_6.1), (jb r_6.2)])) fun h27 => ?_
  refine gv (oI 29 [0] r_6.1) (ev_extN (v := (oI 29 [0] r_6.1)) h27 rfl ok_encP) fun h30 => ?_
  refine g1 27 (jb r_6.2) h27 fun h31 => ?_
  refine gv (oI 29 [0] r_6.1) (ev_mov h30 ok_encO) fun h7 => ?_
  refine gm h31 fun h8 => g_end ?_
  refine e_home (r := 29) (x := 7) (v := _) h7 ok_encO (fun s_4 hg_4 => ?_)
  refine ez [(1, (.ref (.bx 1) 0 [] (.agg [(ji x_1.1), (Enc.enc (x_1.2 : List (Int × Int)))]))), (2, (jb false)), (4, (eL r_4.1)), (5, (jb r_4.2)), (6, (.ref (.bx 6) 0 [] (.agg [(ji r_5.1), (encO (.at 26 [1]) (r_5.2 : NL (Int × Int)))]))), (7, (oI 7 [0] r_6.1)), (8, (jb r_6.2))] ⟨(hg_4 1 _ _ h1 (map_bx rfl (map_agg (maps_cons mi (maps_cons me maps_nil))))), (hg_4 2 _ _ h2 mb), (hg_4 4 _ _ h4 me), (hg_4 5 _ _ h5 mb), (hg_4 6 _ (.ref (.bx 6) 0 [] (.agg [(ji r_5.1), (encO (.at 26 [1]) (r_5.2 : NL (Int × Int)))])) h6 (map_bx rfl (map_agg (maps_cons mi (maps_cons (map_encO (r := 26) (p := [1]) rfl rfl) maps_nil))))), (hg_4 7 _ _ h7 (map_encO (r := 29) (p := [0]) rfl rfl)), (hg_4 8 _ _ h8 mb)⟩ ?_
  rintro s ⟨h1, h2, h4, h5, h6, h7, h8⟩
  refine .nsq (.seq (.seq (rg (gv (oI 7 [0] r_6.1) (ev_mov h7 ok_encO) fun h32 => ?_))))
  refine gm h4 fun h33 => ?_
  obtain ⟨r_24, E_r_24, h⟩ := bind_some h
  refine g_call (m := 0) (al := false) (r := (Enc.enc (r_24 : Bool))) [Enc.enc (r_6.1.list : (List Int)), Enc.enc (r_4.1 : (List Int))] (ta_cons (v := (oI 7 [0] r_6.1)) h32 ok_encP (erase_encO (o := r_6.1)) (ta_cons (v := (eL r_4.1)) h33 rfl (Enc.erase_enc (r_4.1 : (List Int))) ta_nil)) (H.c21 _ _ _ E_r_24) H.g21 rfl rfl rfl rfl ?_
  refine g1 34 (jb (!r_24)) (rfl : (_ : V) = (jb r_24)) fun h35 => ?_
  refine gm h35 fun h36 => split_on (c := (!r_24)) h (fun hg5 h => ?_) (fun hg5 h => ?_)
  · refine g_no (h36.trans (congrArg V.bool hg5)) ?_
    refine g_no (h36.trans (congrArg V.bool hg5)) ?_
    refine g_no (h36.trans (congrArg V.bool hg5)) ?_
    refine g2 36 39 (jb true) (h36.trans (congrArg V.bool hg5)) (rfl : (_ : V) = (.tup [])) fun h40 => ?_
    refine gq ?_
    exact t_f5_j3 H x_1 r_4 r_5 r_6 true _ ⟨h1, h2, h4, h5, h6, h7, h8, h40⟩ h
  refine g_yes (h36.trans (congrArg V.bool hg5)) (gm h8 fun h37 => ?_)
  refine g_yes (h36.trans (congrArg V.bool hg5)) (gm h5 fun h38 => ?_)
  refine g_yes (h36.trans (congrArg V.bool hg5)) (g2 37 38 (jb (r_6.2 != r_4.2)) h37 h38 fun h39 => ?_)
  refine g2 36 39 (jb (r_6.2 != r_4.2)) (h36.trans (congrArg V.bool hg5)) h39 fun h40 => ?_
  refine gq ?_
  exact t_f5_j3 H x_1 r_4 r_5 r_6 (r_6.2 != r_4.2) _ ⟨h1, h2, h4, h5, h6, h7, h8, h40⟩ h
end
def e5 (F : Nat) : Ent := ent 5 (fun (x : ((Int × (List (Int × Int))) × Unit)) => w_FnExactRankingOf F x.1) (fun (r : Bool) => (Enc.enc (r : Bool))) 0 false []
theorem p5 {F : Nat} {x0 : (Int × (List (Int × Int)))} {r : Bool} (h : w_FnExactRankingOf F x0 = some r) : (e5 F).den [Enc.enc x0] = some (Enc.enc (r : Bool)) := ent_put (x0, ()) h
theorem o5 {D : Den} {σ : Sig} {F : Nat} (hF : Fits2 Try.prog D σ) (H : H5 D σ F) : (e5 F).Ok Try.prog := by
  refine ok_of (f := 5) (show unk 5 = 5 from rfl) (fun args r h => ?_) ⟨Try.f5, Try.func5, rfl, rfl⟩
  obtain ⟨⟨x0, _⟩, y, rfl, hy, rfl⟩ := da_open h
  exact contract_run hF (by kernel_rfl) Try.func5 rfl c5 (show 1 ≤ Try.f5.ntmps by decide) (t5 H x0 _ rfl hy)
end Go.Zq
