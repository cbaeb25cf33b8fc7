/- Functions of the program as typed functions, and that the machine runs as they say (part 3). No further condition. -/
import Derived.Test.YtdhbhaaiohkpdaaK3
import Derived.Test.YtdhbhaaiohkpdaaProg
import Derived.Test.YtdhbhaaiohkpdaaChecked
import Derived.KernelRfl
import Derived.Test.YtdhbhaaiohkpdaaG2
set_option linter.unusedVariables false
set_option linter.unusedSimpArgs false
/- Functions of the program, as typed functions, and that the machine runs as they say. -/
namespace Go.Zq
open Go.Proofs
/- loop.example/g01109/laws.eqIntA2S -/
def A68_2 : AC := (.cond (.t 14) .skip (.exit 0))
def A68_4 : AC := (.cond (.t 26) (.seq (.reg [] [((jv 4 (.mov (.k (.bool false)))))] []) .ret) .skip)
def A68_5 : AC := (.reg [] [(jm 15 5), ((jv 16 (.bin .add (.t 15) (jn 1)))), (jm 5 16)] [])
def A68_3 : AC := (.seq (.block 1 (.seq (.reg [] [(jm 17 0), (jm 18 5), ((jv 19 (.idx (.t 17) (.t 18) 2))), ((jv 20 (.load (.ag [.s, .s]) (.t 19)))), (jm 21 1), (jm 22 5), ((jv 23 (.idx (.t 21) (.t 22) 2))), ((jv 24 (.load (.ag [.s, .s]) (.t 23)))), (.mk (some 25) none false (.call (.k (.fn 129 [] [])) [(.t 20), (.t 24)])), ((jv 26 (.un .not (.t 25))))] []) A68_4)) A68_5)
def A68_1 : AC := (.seq (.seq (.reg [] [(jm 11 5), (jm 12 0), ((jv 13 (.len (.t 12)))), ((jv 14 (.bin .lss (.t 11) (.t 13))))] []) A68_2) A68_3)
def A68_6 : AC := (.seq (.reg [] [((jv 4 (.mov (.k (.bool true)))))] []) .ret)
def A68_8 : AC := (.cond (.t 10) (.seq (.reg [] [((jv 4 (.mov (.k (.bool false)))))] []) .ret) .skip)
def A68_10 : AC := (.block 0 (.loop A68_1))
def A68_9 : AC := (.seq (.seq (.reg [] [((jv 5 (.mov (jn 0))))] []) A68_10) A68_6)
def A68_7 : AC := (.seq (.seq (.reg [] [(jm 6 0), ((jv 7 (.len (.t 6)))), (jm 8 1), ((jv 9 (.len (.t 8)))), ((jv 10 (.bin .neq (.t 7) (.t 9))))] []) A68_8) A68_9)
def A68 : AC := (.seq (.reg [] [((jv 4 (.mov (.k (.bool false)))))] []) A68_7)
def an68 : List An := []
theorem c68 : cC Try.prog Try.f68.ntmps an68 (Try.f68.body.getD .skip) = some A68 := by kernel_rfl
structure H68 (D : Den) (σ : Sig) (F : Nat) : Prop where
  c129 : ∀ (x0 : (Int × Int)) (x1 : (Int × Int)) r, w_eqIntA2 F x0 x1 = some r → D 129 [Enc.enc x0, Enc.enc x1] = some (Enc.enc (r : Bool))
  g129 : σ 129 = some (0, false)
abbrev R68 (r : Bool) : (Nat → V) → Prop := RR Try.prog [.tmp 4] 0 false (Enc.enc (r : Bool))
section
variable {D : Den} {σ : Sig} {F : Nat} {r : Bool}
def w_eqIntA2S_l1 (F : Nat) (x_1 : (List (Int × Int))) (x_2 : (List (Int × Int)))  : Nat → Int → Option Bool
  | 0, _ => none
  | k + 1, x_6 =>
    bif decide (x_6 < (x_1.length : Int)) then
      (idx x_1 x_6).bind fun e_10 =>
      (idx x_2 x_6).bind fun e_11 =>
      (w_eqIntA2 F e_10 e_11).bind fun r_12 =>
      bif (!r_12) then
        some false
      else
        (w_eqIntA2S_l1 F x_1 x_2 k) (w64 (x_6 + 1))
    else
      some true
theorem t_f68_l1 (H : H68 D σ F) (x_1 : (List (Int × Int))) (x_2 : (List (Int × Int)))  : ∀ (k : Nat) (x_6 : Int) (s : Nat → V), Facts [(0, (Enc.enc (x_1 : List (Int × Int)))), (1, (Enc.enc (x_2 : List (Int × Int)))), (4, (jb false)), (5, (ji x_6))] s → w_eqIntA2S_l1 F x_1 x_2 k x_6 = some r → Run D σ (R68 r) (.run A68_1 [.lp A68_1, .bk 0, .sq A68_6]) s := by
  intro k
  induction k with
  | zero => intro x_6 s _ h; exact nomatch (h : (none : Option _) = some r)
  | succ k ih =>
    intro x_6 s hs h
    rw [w_eqIntA2S_l1] at h
    obtain ⟨h0, h1, h4, h5⟩ := hs
    refine .seq (.seq (rg (gm h5 fun h11 => gm h0 fun h12 => gv (ji (x_1.length : Int)) (ev_len (xs := x_1) h12) fun h13 => ?_)))
    refine g2 11 13 (jb (decide (x_6 < (x_1.length : Int)))) h11 h13 fun h14 => ?_
    refine gq (.nsq (run_cond (t := decide (x_6 < (x_1.length : Int))) h14 h (fun h => ?_) (fun h => ?_)))
    · refine .skip (.nsq (.seq (.block (.seq (rg (gm h0 fun h17 => gm h5 fun h18 => ?_))))))
      obtain ⟨e_10, E_e_10, h⟩ := bind_some h
      refine gv (.ref .sh 0 [] (.agg [(ji e_10.1), (ji e_10.2)])) (ev_idx (t := .sh) (lo := 0) (xs := x_1) h17 h18 E_e_10 rfl rfl) fun h19 => ?_
      refine g1 19 (.agg [(ji e_10.1), (ji e_10.2)]) h19 fun h20 => ?_
      refine gm h1 fun h21 => gm h5 fun h22 => ?_
      obtain ⟨e_11, E_e_11, h⟩ := bind_some h
      refine gv (.ref .sh 0 [] (.agg [(ji e_11.1), (ji e_11.2)])) (ev_idx (t := .sh) (lo := 0) (xs := x_2) h21 h22 E_e_11 rfl rfl) fun h23 => ?_
      refine g1 23 (.agg [(ji e_11.1), (ji e_11.2)]) h23 fun h24 => ?_
      obtain ⟨r_12, E_r_12, h⟩ := bind_some h
      refine g_call (m := 0) (al := false) (r := (Enc.enc (r_12 : Bool))) [Enc.enc (e_10 : (Int × Int)), Enc.enc (e_11 : (Int × Int))] (ta_cons (v := (.agg [(ji e_10.1), (ji e_10.2)])) h20 rfl (Enc.erase_enc (e_10 : (Int × Int))) (ta_cons (v := (.agg [(ji e_11.1), (ji e_11.2)])) h24 rfl (Enc.erase_enc (e_11 : (Int × Int))) ta_nil)) (H.c129 _ _ _ E_r_12) H.g129 rfl rfl rfl rfl ?_
      refine g1 25 (jb (!r_12)) (rfl : (_ : V) = (jb r_12)) fun h26 => ?_
      refine gq (.nsq (run_cond (t := (!r_12)) h26 h (fun h => ?_) (fun h => ?_)))
      · refine .seq (rg (g0 (jb false) fun h4 => ?_))
        refine gq (.nsq (.ret ?_))
        have hr := Option.some.inj h
        subst hr
        exact rrA (res_tmp h4) rfl
      refine .skip (.nbk (.nsq (rg (gm h5 fun h15 => g1 15 (ji (w64 (x_6 + 1))) h15 fun h16 => ?_))))
      refine gm h16 fun h5 => gq (.nlp ?_)
      exact ih (w64 (x_6 + 1)) _ ⟨h0, h1, h4, h5⟩ h
    refine .exit (.esq (.elp (.ebk (.nsq (.seq (rg (g0 (jb true) fun h4 => ?_)))))))
    refine gq (.nsq (.ret ?_))
    have hr := Option.some.inj h
    subst hr
    exact rrA (res_tmp h4) rfl
def w_eqIntA2S (F : Nat) (x_1 : (List (Int × Int))) (x_2 : (List (Int × Int))) : Option Bool :=
  bif ((x_1.length : Int) != (x_2.length : Int)) then
    some false
  else
    w_eqIntA2S_l1 F x_1 x_2 F 0
theorem t68 (H : H68 D σ F) (x_1 : (List (Int × Int))) (x_2 : (List (Int × Int))) (s : Nat → V) (hs : Facts [(0, (Enc.enc (x_1 : List (Int × Int)))), (1, (Enc.enc (x_2 : List (Int × Int))))] s) (h : w_eqIntA2S F x_1 x_2 = some r) : Run D σ (R68 r) (.run A68 []) s := by
  unfold w_eqIntA2S at h
  obtain ⟨h0, h1⟩ := hs
  refine .seq (rg (g0 (jb false) fun h4 => ?_))
  refine gq (.nsq (.seq (.seq (rg (gm h0 fun h6 => gv (ji (x_1.length : Int)) (ev_len (xs := x_1) h6) fun h7 => ?_)))))
  refine gm h1 fun h8 => gv (ji (x_2.length : Int)) (ev_len (xs := x_2) h8) fun h9 => ?_
  refine g2 7 9 (jb ((x_1.length : Int) != (x_2.length : Int))) h7 h9 fun h10 => ?_
  refine gq (.nsq (run_cond (t := ((x_1.length : Int) != (x_2.length : Int))) h10 h (fun h => ?_) (fun h => ?_)))
  · refine .seq (rg (g0 (jb false) fun h4 => ?_))
    refine gq (.nsq (.ret ?_))
    have hr := Option.some.inj h
    subst hr
    exact rrA (res_tmp h4) rfl
  refine .skip (.nsq (.seq (.seq (rg (g0 (ji 0) fun h5 => gq (.nsq (.block (.loop ?_))))))))
  exact t_f68_l1 H x_1 x_2 F 0 _ ⟨h0, h1, h4, h5⟩ h
end
def e68 (F : Nat) : Ent := ent 68 (fun (x : ((List (Int × Int)) × (List (Int × Int)) × Unit)) => w_eqIntA2S F x.1 x.2.1) (fun (r : Bool) => (Enc.enc (r : Bool))) 0 false []
theorem p68 {F : Nat} {x0 : (List (Int × Int))} {x1 : (List (Int × Int))} {r : Bool} (h : w_eqIntA2S F x0 x1 = some r) : (e68 F).den [Enc.enc x0, Enc.enc x1] = some (Enc.enc (r : Bool)) := ent_put (x0, x1, ()) h
theorem o68 {D : Den} {σ : Sig} {F : Nat} (hF : Fits2 Try.prog D σ) (H : H68 D σ F) : (e68 F).Ok Try.prog := by
  refine ok_of (f := 68) (show unk 68 = 68 from rfl) (fun args r h => ?_) ⟨Try.f68, Try.func68, rfl, rfl⟩
  obtain ⟨⟨x0, x1, _⟩, y, rfl, hy, rfl⟩ := da_open h
  exact contract_run hF (by kernel_rfl) Try.func68 rfl c68 (show 2 ≤ Try.f68.ntmps by decide) (t68 H x0 x1 _ ⟨rfl, rfl⟩ hy)
/- loop.example/g01109/laws.eqGraph -/
def A20_2 : AC := (.cond (.t 9) (.seq (.reg [] [((jv 4 (.mov (.k (.bool false)))))] []) .ret) .skip)
def A20_4 : AC := (.cond (.t 15) (.seq (.reg [] [((jv 4 (.mov (.k (.bool false)))))] []) .ret) .skip)
def A20_5 : AC := (.seq (.reg [] [((jv 4 (.mov (.k (.bool true)))))] []) .ret)
def A20_3 : AC := (.seq (.seq (.reg [] [((jv 10 (.fld (.t 2) 1 1))), ((jv 11 (.load .p (.t 10)))), ((jv 12 (.fld (.t 3) 1 1))), ((jv 13 (.load .p (.t 12)))), (.mk (some 14) none false (.call (.k (.fn 68 [] [])) [(.t 11), (.t 13)])), ((jv 15 (.un .not (.t 14))))] []) A20_4) A20_5)
def A20_1 : AC := (.seq (.seq (.reg [] [((jv 5 (.fld (.t 2) 0 0))), ((jv 6 (.load .s (.t 5)))), ((jv 7 (.fld (.t 3) 0 0))), ((jv 8 (.load .s (.t 7)))), ((jv 9 (.bin .neq (.t 6) (.t 8))))] []) A20_2) A20_3)
def A20 : AC := (.seq (.reg [.clr [2, 3]] [(.mk (some 2) none false (.box (.t 0))), (.mk (some 3) none false (.box (.t 1))), ((jv 4 (.mov (.k (.bool false)))))] []) A20_1)
def an20 : List An := [{ id := 0, pre := [.clr [2, 3]], ep := [], lin := [], sp := [] }]
theorem c20 : cC Try.prog Try.f20.ntmps an20 (Try.f20.body.getD .skip) = some A20 := by kernel_rfl
structure H20 (D : Den) (σ : Sig) (F : Nat) : Prop where
  c68 : ∀ (x0 : (List (Int × Int))) (x1 : (List (Int × Int))) r, w_eqIntA2S F x0 x1 = some r → D 68 [Enc.enc x0, Enc.enc x1] = some (Enc.enc (r : Bool))
  g68 : σ 68 = some (0, false)
abbrev R20 (r : Bool) : (Nat → V) → Prop := RR Try.prog [.tmp 4] 0 false (Enc.enc (r : Bool))
section
variable {D : Den} {σ : Sig} {F : Nat} {r : Bool}
def w_eqGraph (F : Nat) (x_1 : (Int × (List (Int × Int)))) (x_2 : (Int × (List (Int × Int)))) : Option Bool :=
  bif (x_1.1 != x_2.1) then
    some false
  else
    (w_eqIntA2S F x_1.2 x_2.2).bind fun r_3 =>
    bif (!r_3) then
      some false
    else
      some true
theorem t20 (H : H20 D σ F) (x_1 : (Int × (List (Int × Int)))) (x_2 : (Int × (List (Int × Int)))) (s : Nat → V) (hs : Facts [(0, (.agg [(ji x_1.1), (Enc.enc (x_1.2 : List (Int × Int)))])), (1, (.agg [(ji x_2.1), (Enc.enc (x_2.2 : List (Int × Int)))]))] s) (h : w_eqGraph F x_1 x_2 = some r) : Run D σ (R20 r) (.run A20 []) s := by
  unfold w_eqGraph at h
  obtain ⟨h0, h1⟩ := hs
  refine .seq (run_reg ?_)
  refine e_clr ?_
  refine ez [(0, _), (1, _), (2, _), (3, _)] ⟨(keep_clear (pk := [2, 3]) h0 rfl (map_agg (maps_cons mi (maps_cons me maps_nil)))), (keep_clear (pk := [2, 3]) h1 rfl (map_agg (maps_cons mi (maps_cons me maps_nil)))), (gone_clear (pk := [2, 3]) (t := 2) rfl), (gone_clear (pk := [2, 3]) (t := 3) rfl)⟩ ?_
  rintro s ⟨h0, h1, h2, h3⟩
  refine g_box (.agg [(ji x_1.1), (Enc.enc (x_1.2 : List (Int × Int)))]) (rd_of h0 rfl) h2 rfl ?_
  refine g_box (.agg [(ji x_2.1), (Enc.enc (x_2.2 : List (Int × Int)))]) (rd_of h1 rfl) h3 rfl ?_
  refine g0 (jb false) fun h4 => ?_
  refine gq (.nsq (.seq (.seq (rg (g1 2 (.ref (.bx 2) 0 [0] (ji x_1.1)) (rfl : (_ : V) = (.ref (.bx 2) 0 [] (.agg [(ji x_1.1), (Enc.enc (x_1.2 : List (Int × Int)))]))) fun h5 => ?_)))))
  refine g1 5 (ji x_1.1) h5 fun h6 => ?_
  refine g1 3 (.ref (.bx 3) 0 [0] (ji x_2.1)) (rfl : (_ : V) = (.ref (.bx 3) 0 [] (.agg [(ji x_2.1), (Enc.enc (x_2.2 : List (Int × Int)))]))) fun h7 => ?_
  refine g1 7 (ji x_2.1) h7 fun h8 => ?_
  refine g2 6 8 (jb (x_1.1 != x_2.1)) h6 h8 fun h9 => ?_
  refine gq (.nsq (run_cond (t := (x_1.1 != x_2.1)) h9 h (fun h => ?_) (fun h => ?_)))
  · refine .seq (rg (g0 (jb false) fun h4 => ?_))
    refine gq (.nsq (.ret ?_))
    have hr := Option.some.inj h
    subst hr
    exact rrA (res_tmp h4) rfl
  refine .skip (.nsq (.seq (.seq (rg (g1 2 (.ref (.bx 2) 0 [1] (Enc.enc (x_1.2 : List (Int × Int)))) (rfl : (_ : V) = (.ref (.bx 2) 0 [] (.agg [(ji x_1.1), (Enc.enc (x_1.2 : List (Int × Int)))]))) fun h10 => ?_)))))
  refine g1 10 (Enc.enc (x_1.2 : List (Int × Int))) h10 fun h11 => ?_
  refine g1 3 (.ref (.bx 3) 0 [1] (Enc.enc (x_2.2 : List (Int × Int)))) (rfl : (_ : V) = (.ref (.bx 3) 0 [] (.agg [(ji x_2.1), (Enc.enc (x_2.2 : List (Int × Int)))]))) fun h12 => ?_
  refine g1 12 (Enc.enc (x_2.2 : List (Int × Int))) h12 fun h13 => ?_
  obtain ⟨r_3, E_r_3, h⟩ := bind_some h
  refine g_call (m := 0) (al := false) (r := (Enc.enc (r_3 : Bool))) [Enc.enc (x_1.2 : (List (Int × Int))), Enc.enc (x_2.2 : (List (Int × Int)))] (ta_cons (v := (Enc.enc (x_1.2 : List (Int × Int)))) h11 rfl (Enc.erase_enc (x_1.2 : (List (Int × Int)))) (ta_cons (v := (Enc.enc (x_2.2 : List (Int × Int)))) h13 rfl (Enc.erase_enc (x_2.2 : (List (Int × Int)))) ta_nil)) (H.c68 _ _ _ E_r_3) H.g68 rfl rfl rfl rfl ?_
  refine g1 14 (jb (!r_3)) (rfl : (_ : V) = (jb r_3)) fun h15 => ?_
  refine gq (.nsq (run_cond (t := (!r_3)) h15 h (fun h => ?_) (fun h => ?_)))
  · refine .seq (rg (g0 (jb false) fun h4 => ?_))
    refine gq (.nsq (.ret ?_))
    have hr := Option.some.inj h
    subst hr
    exact rrA (res_tmp h4) rfl
  refine .skip (.nsq (.seq (rg (g0 (jb true) fun h4 => ?_))))
  refine gq (.nsq (.ret ?_))
  have hr := Option.some.inj h
  subst hr
  exact rrA (res_tmp h4) rfl
end
def e20 (F : Nat) : Ent := ent 20 (fun (x : ((Int × (List (Int × Int))) × (Int × (List (Int × Int))) × Unit)) => w_eqGraph F x.1 x.2.1) (fun (r : Bool) => (Enc.enc (r : Bool))) 0 false []
theorem p20 {F : Nat} {x0 : (Int × (List (Int × Int)))} {x1 : (Int × (List (Int × Int)))} {r : Bool} (h : w_eqGraph F x0 x1 = some r) : (e20 F).den [Enc.enc x0, Enc.enc x1] = some (Enc.enc (r : Bool)) := ent_put (x0, x1, ()) h
theorem o20 {D : Den} {σ : Sig} {F : Nat} (hF : Fits2 Try.prog D σ) (H : H20 D σ F) : (e20 F).Ok Try.prog := by
  refine ok_of (f := 20) (show unk 20 = 20 from rfl) (fun args r h => ?_) ⟨Try.f20, Try.func20, rfl, rfl⟩
  obtain ⟨⟨x0, x1, _⟩, y, rfl, hy, rfl⟩ := da_open h
  exact contract_run hF (by kernel_rfl) Try.func20 rfl c20 (show 2 ≤ Try.f20.ntmps by decide) (t20 H x0 x1 _ ⟨rfl, rfl⟩ hy)
/- loop.example/g01109/laws.eqIntSS -/
def A29_2 : AC := (.cond (.t 14) .skip (.exit 0))
def A29_4 : AC := (.cond (.t 26) (.seq (.reg [] [((jv 4 (.mov (.k (.bool false)))))] []) .ret) .skip)
def A29_5 : AC := (.reg [] [(jm 15 5), ((jv 16 (.bin .add (.t 15) (jn 1)))), (jm 5 16)] [])
def A29_3 : AC := (.seq (.block 1 (.seq (.reg [] [(jm 17 0), (jm 18 5), ((jv 19 (.idx (.t 17) (.t 18) 1))), ((jv 20 (.load .p (.t 19)))), (jm 21 1), (jm 22 5), ((jv 23 (.idx (.t 21) (.t 22) 1))), ((jv 24 (.load .p (.t 23)))), (.mk (some 25) none false (.call (.k (.fn 21 [] [])) [(.t 20), (.t 24)])), ((jv 26 (.un .not (.t 25))))] []) A29_4)) A29_5)
def A29_1 : AC := (.seq (.seq (.reg [] [(jm 11 5), (jm 12 0), ((jv 13 (.len (.t 12)))), ((jv 14 (.bin .lss (.t 11) (.t 13))))] []) A29_2) A29_3)
def A29_6 : AC := (.seq (.reg [] [((jv 4 (.mov (.k (.bool true)))))] []) .ret)
def A29_8 : AC := (.cond (.t 10) (.seq (.reg [] [((jv 4 (.mov (.k (.bool false)))))] []) .ret) .skip)
def A29_10 : AC := (.block 0 (.loop A29_1))
def A29_9 : AC := (.seq (.seq (.reg [] [((jv 5 (.mov (jn 0))))] []) A29_10) A29_6)
def A29_7 : AC := (.seq (.seq (.reg [] [(jm 6 0), ((jv 7 (.len (.t 6)))), (jm 8 1), ((jv 9 (.len (.t 8)))), ((jv 10 (.bin .neq (.t 7) (.t 9))))] []) A29_8) A29_9)
def A29 : AC := (.seq (.reg [] [((jv 4 (.mov (.k (.bool false)))))] []) A29_7)
def an29 : List An := []
theorem c29 : cC Try.prog Try.f29.ntmps an29 (Try.f29.body.getD .skip) = some A29 := by kernel_rfl
structure H29 (D : Den) (σ : Sig) (F : Nat) : Prop where
  c21 : ∀ (x0 : (List Int)) (x1 : (List Int)) r, w_eqIntS F x0 x1 = some r → D 21 [Enc.enc x0, Enc.enc x1] = some (Enc.enc (r : Bool))
  g21 : σ 21 = some (0, false)
abbrev R29 (r : Bool) : (Nat → V) → Prop := RR Try.prog [.tmp 4] 0 false (Enc.enc (r : Bool))
section
variable {D : Den} {σ : Sig} {F : Nat} {r : Bool}
def w_eqIntSS_l1 (F : Nat) (x_1 : (List (List Int))) (x_2 : (List (List Int)))  : Nat → Int → Option Bool
  | 0, _ => none
  | k + 1, x_6 =>
    bif decide (x_6 < (x_1.length : Int)) then
      (idx x_1 x_6).bind fun e_10 =>
      (idx x_2 x_6).bind fun e_11 =>
      (w_eqIntS F e_10 e_11).bind fun r_12 =>
      bif (!r_12) then
        some false
      else
        (w_eqIntSS_l1 F x_1 x_2 k) (w64 (x_6 + 1))
    else
      some true
theorem t_f29_l1 (H : H29 D σ F) (x_1 : (List (List Int))) (x_2 : (List (List Int)))  : ∀ (k : Nat) (x_6 : Int) (s : Nat → V), Facts [(0, (Enc.enc (x_1 : List (List Int)))), (1, (Enc.enc (x_2 : List (List Int)))), (4, (jb false)), (5, (ji x_6))] s → w_eqIntSS_l1 F x_1 x_2 k x_6 = some r → Run D σ (R29 r) (.run A29_1 [.lp A29_1, .bk 0, .sq A29_6]) s := by
  intro k
  induction k with
  | zero => intro x_6 s _ h; exact nomatch (h : (none : Option _) = some r)
  | succ k ih =>
    intro x_6 s hs h
    rw [w_eqIntSS_l1] at h
    obtain ⟨h0, h1, h4, h5⟩ := hs
    refine .seq (.seq (rg (gm h5 fun h11 => gm h0 fun h12 => gv (ji (x_1.length : Int)) (ev_len (xs := x_1) h12) fun h13 => ?_)))
    refine g2 11 13 (jb (decide (x_6 < (x_1.length : Int)))) h11 h13 fun h14 => ?_
    refine gq (.nsq (run_cond (t := decide (x_6 < (x_1.length : Int))) h14 h (fun h => ?_) (fun h => ?_)))
    · refine .skip (.nsq (.seq (.block (.seq (rg (gm h0 fun h17 => gm h5 fun h18 => ?_))))))
      obtain ⟨e_10, E_e_10, h⟩ := bind_some h
      refine gv (.ref .sh 0 [] (eL e_10)) (ev_idx (t := .sh) (lo := 0) (xs := x_1) h17 h18 E_e_10 rfl rfl) fun h19 => ?_
      refine g1 19 (eL e_10) h19 fun h20 => ?_
      refine gm h1 fun h21 => gm h5 fun h22 => ?_
      obtain ⟨e_11, E_e_11, h⟩ := bind_some h
      refine gv (.ref .sh 0 [] (eL e_11)) (ev_idx (t := .sh) (lo := 0) (xs := x_2) h21 h22 E_e_11 rfl rfl) fun h23 => ?_
      refine g1 23 (eL e_11) h23 fun h24 => ?_
      obtain ⟨r_12, E_r_12, h⟩ := bind_some h
      refine g_call (m := 0) (al := false) (r := (Enc.enc (r_12 : Bool))) [Enc.enc (e_10 : (List Int)), Enc.enc (e_11 : (List Int))] (ta_cons (v := (eL e_10)) h20 rfl (Enc.erase_enc (e_10 : (List Int))) (ta_cons (v := (eL e_11)) h24 rfl (Enc.erase_enc (e_11 : (List Int))) ta_nil)) (H.c21 _ _ _ E_r_12) H.g21 rfl rfl rfl rfl ?_
      refine g1 25 (jb (!r_12)) (rfl : (_ : V) = (jb r_12)) fun h26 => ?_
      refine gq (.nsq (run_cond (t := (!r_12)) h26 h (fun h => ?_) (fun h => ?_)))
      · refine .seq (rg (g0 (jb false) fun h4 => ?_))
        refine gq (.nsq (.ret ?_))
        have hr := Option.some.inj h
        subst hr
        exact rrA (res_tmp h4) rfl
      refine .skip (.nbk (.nsq (rg (gm h5 fun h15 => g1 15 (ji (w64 (x_6 + 1))) h15 fun h16 => ?_))))
      refine gm h16 fun h5 => gq (.nlp ?_)
      exact ih (w64 (x_6 + 1)) _ ⟨h0, h1, h4, h5⟩ h
    refine .exit (.esq (.elp (.ebk (.nsq (.seq (rg (g0 (jb true) fun h4 => ?_)))))))
    refine gq (.nsq (.ret ?_))
    have hr := Option.some.inj h
    subst hr
    exact rrA (res_tmp h4) rfl
def w_eqIntSS (F : Nat) (x_1 : (List (List Int))) (x_2 : (List (List Int))) : Option Bool :=
  bif ((x_1.length : Int) != (x_2.length : Int)) then
    some false
  else
    w_eqIntSS_l1 F x_1 x_2 F 0
theorem t29 (H : H29 D σ F) (x_1 : (List (List Int))) (x_2 : (List (List Int))) (s : Nat → V) (hs : Facts [(0, (Enc.enc (x_1 : List (List Int)))), (1, (Enc.enc (x_2 : List (List Int))))] s) (h : w_eqIntSS F x_1 x_2 = some r) : Run D σ (R29 r) (.run A29 []) s := by
  unfold w_eqIntSS at h
  obtain ⟨h0, h1⟩ := hs
  refine .seq (rg (g0 (jb false) fun h4 => ?_))
  refine gq (.nsq (.seq (.seq (rg (gm h0 fun h6 => gv (ji (x_1.length : Int)) (ev_len (xs := x_1) h6) fun h7 => ?_)))))
  refine gm h1 fun h8 => gv (ji (x_2.length : Int)) (ev_len (xs := x_2) h8) fun h9 => ?_
  refine g2 7 9 (jb ((x_1.length : Int) != (x_2.length : Int))) h7 h9 fun h10 => ?_
  refine gq (.nsq (run_cond (t := ((x_1.length : Int) != (x_2.length : Int))) h10 h (fun h => ?_) (fun h => ?_)))
  · refine .seq (rg (g0 (jb false) fun h4 => ?_))
    refine gq (.nsq (.ret ?_))
    have hr := Option.some.inj h
    subst hr
    exact rrA (res_tmp h4) rfl
  refine .skip (.nsq (.seq (.seq (rg (g0 (ji 0) fun h5 => gq (.nsq (.block (.loop ?_))))))))
  exact t_f29_l1 H x_1 x_2 F 0 _ ⟨h0, h1, h4, h5⟩ h
end
def e29 (F : Nat) : Ent := ent 29 (fun (x : ((List (List Int)) × (List (List Int)) × Unit)) => w_eqIntSS F x.1 x.2.1) (fun (r : Bool) => (Enc.enc (r : Bool))) 0 false []
theorem p29 {F : Nat} {x0 : (List (List Int))} {x1 : (List (List Int))} {r : Bool} (h : w_eqIntSS F x0 x1 = some r) : (e29 F).den [Enc.enc x0, Enc.enc x1] = some (Enc.enc (r : Bool)) := ent_put (x0, x1, ()) h
theorem o29 {D : Den} {σ : Sig} {F : Nat} (hF : Fits2 Try.prog D σ) (H : H29 D σ F) : (e29 F).Ok Try.prog := by
  refine ok_of (f := 29) (show unk 29 = 29 from rfl) (fun args r h => ?_) ⟨Try.f29, Try.func29, rfl, rfl⟩
  obtain ⟨⟨x0, x1, _⟩, y, rfl, hy, rfl⟩ := da_open h
  exact contract_run hF (by kernel_rfl) Try.func29 rfl c29 (show 2 ≤ Try.f29.ntmps by decide) (t29 H x0 x1 _ ⟨rfl, rfl⟩ hy)
/- loop.example/g01109/laws.toIntA2S -/
def A62o_2 : AC := (.cond (.t 11) .skip (.exit 0))
def A62o_4 : AC := (.reg [] [(jm 12 4), ((jv 13 (.bin .add (.t 12) (jn 1)))), (jm 4 13)] [])
def A62o_3 : AC := (.seq (.block 1 (.reg [] [(jm 14 3), (jm 15 4), (jm 16 0), (jm 17 4), ((jv 18 (.idx (.t 16) (.t 17) 2))), ((jv 19 (.load (.ag [.s, .s]) (.t 18)))), (.mk (some 20) none false (.call (.k (.fn 123 [] [])) [(.t 19)])), ((jv 21 (.idx (.t 14) (.t 15) 2))), (.mk none none false (.store (.ag [.s, .s]) (.t 21) (.t 20)))] [])) A62o_4)
def A62o_1 : AC := (.seq (.seq (.reg [] [(jm 8 4), (jm 9 0), ((jv 10 (.len (.t 9)))), ((jv 11 (.bin .lss (.t 8) (.t 10))))] []) A62o_2) A62o_3)
def A62o_5 : AC := (.seq (.reg [] [(jm 22 3), (jm 2 22)] [.home 3 2]) .ret)
def A62o_8 : AC := (.block 0 (.loop A62o_1))
def A62o_7 : AC := (.seq (.seq (.reg [] [((jv 4 (.mov (jn 0))))] []) A62o_8) A62o_5)
def A62o_6 : AC := (.seq (.reg [.clr [7]] [(jm 5 0), ((jv 6 (.len (.t 5)))), (.mk (some 7) none false (.mk (.t 6) (.agg [(.int .i64 (.ofNat 0)), (.int .i64 (.ofNat 0))]) (.agg [(.int .i64 (.ofNat 0)), (.int .i64 (.ofNat 0))]))), (jm 3 7)] [.home 7 3]) A62o_7)
def A62o : AC := (.seq (.reg [] [((jv 2 (.mov (.k (.sl .nl (.ag [.s, .s]) 0 [])))))] []) A62o_6)
def an62o : List An := [{ id := 1, pre := [.clr [7]], ep := [.home 7 3], lin := [], sp := [] }, { id := 6, pre := [], ep := [.home 3 2], lin := [], sp := [] }]
theorem c62o : cC Try.prog Try.f62.ntmps an62o (Try.f62.body.getD .skip) = some A62o := by kernel_rfl
structure H62o (D : Den) (σ : Sig) (F : Nat) : Prop where
  c123 : ∀ (x0 : (Int × Int)) r, w_toIntA2 F x0 = some r → D 123 [Enc.enc x0] = some (Enc.enc (r : (Int × Int)))
  g123 : σ 123 = some (0, false)
abbrev R62o (r : (NL (Int × Int))) : (Nat → V) → Prop := RR Try.prog [.tmp 2] 1 false (encO .sh (r : NL (Int × Int)))
section
variable {D : Den} {σ : Sig} {F : Nat} {r : (NL (Int × Int))}
def w_toIntA2S_o_l1 (F : Nat) (x_1 : (List (Int × Int)))  : Nat → (List (Int × Int)) → Int → Option (NL (Int × Int))
  | 0, _, _ => none
  | k + 1, x_6, x_7 =>
    bif decide (x_7 < (x_1.length : Int)) then
      (idx x_1 x_7).bind fun e_11 =>
      (w_toIntA2 F e_11).bind fun r_12 =>
      (idx x_6 x_7).bind fun e_13 =>
      (w_toIntA2S_o_l1 F x_1 k) (x_6.set x_7.toNat r_12) (w64 (x_7 + 1))
    else
      some (.of x_6)
theorem t_f62o_l1 (H : H62o D σ F) (x_1 : (List (Int × Int)))  : ∀ (k : Nat) (x_6 : (List (Int × Int))) (x_7 : Int) (s : Nat → V), Facts [(0, (Enc.enc (x_1 : List (Int × Int)))), (2, (.sl .nl (Enc.shp (Int × Int)) 0 [])), (3, (encO (.at 3 []) (.of (x_6 : List (Int × Int))))), (4, (ji x_7))] s → w_toIntA2S_o_l1 F x_1 k x_6 x_7 = some r → Run D σ (R62o r) (.run A62o_1 [.lp A62o_1, .bk 0, .sq A62o_5]) s := by
  intro k
  induction k with
  | zero => intro x_6 x_7 s _ h; exact nomatch (h : (none : Option _) = some r)
  | succ k ih =>
    intro x_6 x_7 s hs h
    rw [w_toIntA2S_o_l1] at h
    obtain ⟨h0, h2, h3, h4⟩ := hs
    refine .seq (.seq (rg (gm h4 fun h8 => gm h0 fun h9 => gv (ji (x_1.length : Int)) (ev_len (xs := x_1) h9) fun h10 => ?_)))
    refine g2 8 10 (jb (decide (x_7 < (x_1.length : Int)))) h8 h10 fun h11 => ?_
    refine gq (.nsq (run_cond (t := decide (x_7 < (x_1.length : Int))) h11 h (fun h => ?_) (fun h => ?_)))
    · refine .skip (.nsq (.seq (.block (rg (gm h3 fun h14 => gm h4 fun h15 => gm h0 fun h16 => gm h4 fun h17 => ?_)))))
      obtain ⟨e_11, E_e_11, h⟩ := bind_some h
      refine gv (.ref .sh 0 [] (.agg [(ji e_11.1), (ji e_11.2)])) (ev_idx (t := .sh) (lo := 0) (xs := x_1) h16 h17 E_e_11 rfl rfl) fun h18 => ?_
      refine g1 18 (.agg [(ji e_11.1), (ji e_11.2)]) h18 fun h19 => ?_
      obtain ⟨r_12, E_r_12, h⟩ := bind_some h
      refine g_call (m := 0) (al := false) (r := (Enc.enc (r_12 : (Int × Int)))) [Enc.enc (e_11 : (Int × Int))] (ta_cons (v := (.agg [(ji e_11.1), (ji e_11.2)])) h19 rfl (Enc.erase_enc (e_11 : (Int × Int))) ta_nil) (H.c123 _ _ E_r_12) H.g123 rfl rfl rfl rfl ?_
      obtain ⟨e_13, E_e_13, h⟩ := bind_some h
      refine gv (.ref (.at 3 []) x_7.toNat [] (.agg [(ji e_13.1), (ji e_13.2)])) (ev_idxO (o := (.of x_6)) h14 h15 E_e_13 rfl) fun h21 => ?_
      refine g_store (.agg [(ji r_12.1), (ji r_12.2)]) (rd_of h21 rfl) (rd_of rfl rfl) (by refine ⟨by decide, by decide, rfl, rfl, rfl, ?_⟩; first | rfl | simp [V.toks, V.tokss, Enc.toks_enc]) ?_
      refine gz [(0, (Enc.enc (x_1 : List (Int × Int)))), (2, (.sl .nl (Enc.shp (Int × Int)) 0 [])), (3, _), (4, (ji x_7))] ⟨(keep_mut h0 (Enc.mut_enc _ _ _ _ (x_1 : List (Int × Int)))), (keep_mut h2 rfl), (keep_mut h3 mut_own), (keep_mut h4 rfl)⟩ ?_
      rintro s ⟨h0, h2, h3, h4⟩
      refine .nbk (.nsq (rg (gm h4 fun h12 => g1 12 (ji (w64 (x_7 + 1))) h12 fun h13 => ?_)))
      refine gm h13 fun h4 => gq (.nlp ?_)
      exact ih (x_6.set x_7.toNat r_12) (w64 (x_7 + 1)) _ ⟨h0, h2, h3, h4⟩ h
    refine .exit (.esq (.elp (.ebk (.nsq (.seq (rg (gm h3 fun h22 => gm h22 fun h2 => g_end ?_)))))))
    refine e_home (r := 3) (x := 2) (v := _) h2 rfl (fun s_3 hg_3 => ?_)
    refine ez [(2, (encO (.at 2 []) (.of (x_6 : List (Int × Int)))))] (hg_3 2 _ _ h2 (map_encO (r := 3) (p := []) rfl rfl)) ?_
    rintro s h2
    refine .nsq (.ret ?_)
    have hr := Option.some.inj h
    subst hr
    exact rrA (res_tmp h2) (fin_retO (finO_own (o := ((.of x_6) : NL (Int × Int)))) rfl (mine_own rfl))
def w_toIntA2S_o (F : Nat) (x_1 : (List (Int × Int))) : Option (NL (Int × Int)) :=
  (mkN (x_1.length : Int) (0, 0)).bind fun mk_2 =>
  w_toIntA2S_o_l1 F x_1 F mk_2 0
theorem t62o (H : H62o D σ F) (x_1 : (List (Int × Int))) (s : Nat → V) (hs : Facts [(0, (Enc.enc (x_1 : List (Int × Int))))] s) (h : w_toIntA2S_o F x_1 = some r) : Run D σ (R62o r) (.run A62o []) s := by
  unfold w_toIntA2S_o at h
  have h0 := hs
  refine .seq (rg (g0 (.sl .nl (Enc.shp (Int × Int)) 0 []) fun h2 => ?_))
  refine gq (.nsq (.seq (run_reg ?_)))
  refine e_clr ?_
  refine ez [(0, _), (2, _), (7, _)] ⟨(keep_clear (pk := [7]) h0 rfl me), (keep_clear (pk := [7]) h2 rfl rfl), (gone_clear (pk := [7]) (t := 7) rfl)⟩ ?_
  rintro s ⟨h0, h2, h7⟩
  refine gm h0 fun h5 => gv (ji (x_1.length : Int)) (ev_len (xs := x_1) h5) fun h6 => ?_
  obtain ⟨mk_2, E_mk_2, h⟩ := bind_some h
  refine g_mk ((0, 0) : (Int × Int)) h6 rfl h7 E_mk_2 ?_
  refine gm (rfl : (_ : V) = (encO (.at 7 []) (.of (mk_2 : List (Int × Int))))) fun h3 => ?_
  refine g_end ?_
  refine e_home (r := 7) (x := 3) (v := _) h3 rfl (fun s_2 hg_2 => ?_)
  refine ez [(0, (Enc.enc (x_1 : List (Int × Int)))), (2, (.sl .nl (Enc.shp (Int × Int)) 0 [])), (3, (encO (.at 3 []) (.of (mk_2 : List (Int × Int)))))] ⟨(hg_2 0 _ _ h0 me), (hg_2 2 _ (.sl .nl (Enc.shp (Int × Int)) 0 []) h2 rfl), (hg_2 3 _ _ h3 (map_encO (r := 7) (p := []) rfl rfl))⟩ ?_
  rintro s ⟨h0, h2, h3⟩
  refine .nsq (.seq (.seq (rg (g0 (ji 0) fun h4 => gq (.nsq (.block (.loop ?_)))))))
  exact t_f62o_l1 H x_1 F mk_2 0 _ ⟨h0, h2, h3, h4⟩ h
end
def e62o (F : Nat) : Ent := ent 1000000062 (fun (x : ((List (Int × Int)) × Unit)) => w_toIntA2S_o F x.1) (fun (r : (NL (Int × Int))) => (encO .sh (r : NL (Int × Int)))) 1 false []
theorem p62o {F : Nat} {x0 : (List (Int × Int))} {r : (NL (Int × Int))} (h : w_toIntA2S_o F x0 = some r) : (e62o F).den [Enc.enc x0] = some (encO .sh (r : NL (Int × Int))) := ent_put (x0, ()) h
theorem o62o {D : Den} {σ : Sig} {F : Nat} (hF : Fits2 Try.prog D σ) (H : H62o D σ F) : (e62o F).Ok Try.prog := by
  refine ok_of (f := 62) (show unk 1000000062 = 62 from rfl) (fun args r h => ?_) ⟨Try.f62, Try.func62, rfl, rfl⟩
  obtain ⟨⟨x0, _⟩, y, rfl, hy, rfl⟩ := da_open h
  exact contract_run hF (by kernel_rfl) Try.func62 rfl c62o (show 1 ≤ Try.f62.ntmps by decide) (t62o H x0 _ rfl hy)
/- loop.example/g01109/laws.toGraph -/
def A17o_4 : AC := (.seq (.reg [] [((jv 11 (.load (.ag [.s, .p]) (.t 3)))), (.mk none none false (.store (.ag [.s, .p]) (.t 2) (.t 11)))] []) .ret)
def A17o_3 : AC := (.seq (.reg [.clr [9]] [((jv 7 (.fld (.t 1) 1 1))), ((jv 8 (.load .p (.t 7)))), (.mk (some 9) none false (.callO (.k (.fn 62 [] [])) [(.t 8)])), ((jv 10 (.fld (.t 3) 1 1))), (.mk none none false (.store .p (.t 10) (.t 9)))] []) A17o_4)
def A17o_2 : AC := (.seq (.reg [] [((jv 4 (.fld (.t 1) 0 0))), ((jv 5 (.load .s (.t 4)))), ((jv 6 (.fld (.t 3) 0 0))), (.mk none none false (.store .s (.t 6) (.t 5)))] []) A17o_3)
def A17o_1 : AC := (.seq (.reg [.clr [3]] [(.mk (some 3) none false (.alloc (.agg [(.int .i64 (.ofNat 0)), (.sl .nl (.ag [.s, .s]) 0 [])])))] []) A17o_2)
def A17o : AC := (.seq (.reg [.clr [1, 2]] [(.mk (some 1) none false (.box (.t 0))), (.mk (some 2) none false (.alloc (.agg [(.int .i64 (.ofNat 0)), (.sl .nl (.ag [.s, .s]) 0 [])])))] []) A17o_1)
def an17o : List An := [{ id := 0, pre := [.clr [1, 2]], ep := [], lin := [], sp := [] }, { id := 1, pre := [.clr [3]], ep := [], lin := [], sp := [] }, { id := 3, pre := [.clr [9]], ep := [], lin := [], sp := [1002] }]
theorem c17o : cC Try.prog Try.f17.ntmps an17o (Try.f17.body.getD .skip) = some A17o := by kernel_rfl
structure H17o (D : Den) (σ : Sig) (F : Nat) : Prop where
  c62o : ∀ (x0 : (List (Int × Int))) r, w_toIntA2S_o F x0 = some r → D 1000000062 [Enc.enc x0] = some (encO .sh (r : NL (Int × Int)))
  g62o : σ 1000000062 = some (1, false)
abbrev R17o (r : (Int × (NL (Int × Int)))) : (Nat → V) → Prop := RR Try.prog [.cell 2 27] 1 false (.agg [(Enc.enc (r.1 : Int)), (encO .sh (r.2 : NL (Int × Int)))])
section
variable {D : Den} {σ : Sig} {F : Nat} {r : (Int × (NL (Int × Int)))}
def w_toGraph_o (F : Nat) (x_1 : (Int × (List (Int × Int)))) : Option (Int × (NL (Int × Int))) :=
  (w_toIntA2S_o F x_1.2).bind fun r_2 =>
  some (x_1.1, r_2)
theorem t17o (H : H17o D σ F) (x_1 : (Int × (List (Int × Int)))) (s : Nat → V) (hs : Facts [(0, (.agg [(ji x_1.1), (Enc.enc (x_1.2 : List (Int × Int)))]))] s) (h : w_toGraph_o F x_1 = some r) : Run D σ (R17o r) (.run A17o []) s := by
  unfold w_toGraph_o at h
  have h0 := hs
  refine .seq (run_reg ?_)
  refine e_clr ?_
  refine ez [(0, _), (1, _), (2, _)] ⟨(keep_clear (pk := [1, 2]) h0 rfl (map_agg (maps_cons mi (maps_cons me maps_nil)))), (gone_clear (pk := [1, 2]) (t := 1) rfl), (gone_clear (pk := [1, 2]) (t := 2) rfl)⟩ ?_
  rintro s ⟨h0, h1, h2⟩
  refine g_box (.agg [(ji x_1.1), (Enc.enc (x_1.2 : List (Int × Int)))]) (rd_of h0 rfl) h1 rfl ?_
  refine g_alloc h2 ?_
  refine gq (.nsq (.seq (run_reg ?_)))
  refine e_clr ?_
  refine ez [(1, _), (2, _), (3, _)] ⟨(keep_clear (pk := [3]) rfl rfl (map_bx rfl (map_agg (maps_cons mi (maps_cons me maps_nil))))), (keep_clear (pk := [3]) rfl rfl (map_bx rfl (map_agg (maps_cons mi (maps_cons rfl maps_nil))))), (gone_clear (pk := [3]) (t := 3) rfl)⟩ ?_
  rintro s ⟨h1, h2, h3⟩
  refine g_alloc h3 ?_
  refine gq (.nsq (.seq (rg (g1 1 (.ref (.bx 1) 0 [0] (ji x_1.1)) h1 fun h4 => ?_))))
  refine g1 4 (ji x_1.1) h4 fun h5 => ?_
  refine g1 3 (.ref (.bx 3) 0 [0] (ji 0)) (rfl : (_ : V) = (.ref (.bx 3) 0 [] (.agg [(ji 0), (.sl .nl (Enc.shp (Int × Int)) 0 [])]))) fun h6 => ?_
  refine g_store (ji x_1.1) (rd_of h6 rfl) (rd_of h5 rfl) (by refine ⟨by decide, by decide, rfl, rfl, rfl, ?_⟩; first | rfl | simp [V.toks, V.tokss, Enc.toks_enc]) ?_
  refine gz [(1, (.ref (.bx 1) 0 [] (.agg [(ji x_1.1), (Enc.enc (x_1.2 : List (Int × Int)))]))), (2, (.ref (.bx 2) 0 [] (.agg [(ji 0), (.sl .nl (Enc.shp (Int × Int)) 0 [])]))), (3, (.ref (.bx 3) 0 [] (.agg [(ji x_1.1), (.sl .nl (Enc.shp (Int × Int)) 0 [])])))] ⟨(keep_mut h1 (mut_ref_ne rfl rfl (mut_agg (muts_cons rfl (muts_cons (Enc.mut_enc _ _ _ _ (x_1.2 : List (Int × Int))) rfl))))), (keep_mut h2 (mut_ref_ne rfl rfl (mut_agg (muts_cons rfl (muts_cons rfl rfl))))), (keep_mut rfl rfl)⟩ ?_
  rintro s ⟨h1, h2, h3⟩
  refine .nsq (.seq (run_reg ?_))
  refine e_clr ?_
  refine ez [(1, _), (2, _), (3, _), (9, _)] ⟨(keep_clear (pk := [9]) h1 rfl (map_bx rfl (map_agg (maps_cons mi (maps_cons me maps_nil))))), (keep_clear (pk := [9]) h2 rfl (map_bx rfl (map_agg (maps_cons mi (maps_cons rfl maps_nil))))), (keep_clear (pk := [9]) h3 rfl (map_bx rfl (map_agg (maps_cons mi (maps_cons rfl maps_nil))))), (gone_clear (pk := [9]) (t := 9) rfl)⟩ ?_
  rintro s ⟨h1, h2, h3, h9⟩
  refine g1 1 (.ref (.bx 1) 0 [1] (Enc.enc (x_1.2 : List (Int × Int)))) h1 fun h7 => ?_
  refine g1 7 (Enc.enc (x_1.2 : List (Int × Int))) h7 fun h8 => ?_
  obtain ⟨r_2, E_r_2, h⟩ := bind_some h
  refine g_callO (m := 1) (al := false) (r := (encO .sh (r_2 : NL (Int × Int)))) (v := (encO (.at 9 []) (r_2 : NL (Int × Int)))) (kk := 1000000062) [Enc.enc (x_1.2 : (List (Int × Int)))] (ta_cons (v := (Enc.enc (x_1.2 : List (Int × Int)))) h8 rfl (Enc.erase_enc (x_1.2 : (List (Int × Int)))) ta_nil) (H.c62o _ _ E_r_2) H.g62o rfl toks_encS tag_encO ok_encP h9 ?_
  refine g1 3 (.ref (.bx 3) 0 [1] (.sl .nl (Enc.shp (Int × Int)) 0 [])) h3 fun h10 => ?_
  refine g_store (encO (.at 9 []) (r_2 : NL (Int × Int))) (rd_of h10 rfl) (rd_of rfl ok_encP) ⟨by decide, by decide, mem_encP, shp_encP, rfl, tok_encP rfl rfl⟩ ?_
  refine gz [(2, (.ref (.bx 2) 0 [] (.agg [(ji 0), (.sl .nl (Enc.shp (Int × Int)) 0 [])]))), (3, (.ref (.bx 3) 0 [] (.agg [(ji x_1.1), (encO (.at 9 []) (r_2 : NL (Int × Int)))])))] ⟨(keep_mut h2 (mut_ref_ne rfl rfl (mut_agg (muts_cons rfl (muts_cons rfl rfl))))), (keep_mut h3 rfl)⟩ ?_
  rintro s ⟨h2, h3⟩
  refine .nsq (.seq (rg (gv (.agg [(ji x_1.1), (encO (.at 9 []) (r_2 : NL (Int × Int)))]) (ev_loadN (c := (.agg [(ji x_1.1), (encO (.at 9 []) (r_2 : NL (Int × Int)))])) h3 (by simp [V.shape, V.shapes, shape_encP, Sh.beq, Sh.beqs])) fun h11 => ?_)))
  refine g_store (.agg [(ji x_1.1), (encO (.at 9 []) (r_2 : NL (Int × Int)))]) (rd_of h2 rfl) (rd_of h11 rfl) ⟨by decide, by decide, rfl, (by simp [V.shape, V.shapes, shape_encP, Sh.beq, Sh.beqs]), (by simp [V.shape, V.shapes, shape_encP, Sh.beq, Sh.beqs]), (by simp [V.toks, V.tokss, tok_memP])⟩ ?_
  refine gz [(2, (.ref (.bx 2) 0 [] (.agg [(ji x_1.1), (encO (.at 9 []) (r_2 : NL (Int × Int)))])))] (keep_mut h2 rfl) ?_
  rintro s h2
  refine .nsq (.ret ?_)
  have hr := Option.some.inj h
  subst hr
  exact rrA (res_cell h2 (by simp only [V.shape, V.shapes, shape_encP]; kernel_rfl)) (fin_retO (finO_agg (finOs_cons finO_int (finOs_cons (finO_own (o := (r_2 : NL (Int × Int)))) finOs_nil))) rfl (mine_agg (mines_cons rfl (mines_cons (mine_own rfl) mines_nil))))
end
def e17o (F : Nat) : Ent := ent 1000000017 (fun (x : ((Int × (List (Int × Int))) × Unit)) => w_toGraph_o F x.1) (fun (r : (Int × (NL (Int × Int)))) => (.agg [(Enc.enc (r.1 : Int)), (encO .sh (r.2 : NL (Int × Int)))])) 1 false []
theorem p17o {F : Nat} {x0 : (Int × (List (Int × Int)))} {r : (Int × (NL (Int × Int)))} (h : w_toGraph_o F x0 = some r) : (e17o F).den [Enc.enc x0] = some (.agg [(Enc.enc (r.1 : Int)), (encO .sh (r.2 : NL (Int × Int)))]) := ent_put (x0, ()) h
theorem o17o {D : Den} {σ : Sig} {F : Nat} (hF : Fits2 Try.prog D σ) (H : H17o D σ F) : (e17o F).Ok Try.prog := by
  refine ok_of (f := 17) (show unk 1000000017 = 17 from rfl) (fun args r h => ?_) ⟨Try.f17, Try.func17, rfl, rfl⟩
  obtain ⟨⟨x0, _⟩, y, rfl, hy, rfl⟩ := da_open h
  exact contract_run hF (by kernel_rfl) Try.func17 rfl c17o (show 1 ≤ Try.f17.ntmps by decide) (t17o H x0 _ rfl hy)
/- loop.example/g01109/laws.markIntA2S -/
def A69_2 : AC := (.cond (.t 10) .skip (.exit 0))
def A69_6 : AC := (.cond (.t 14) .skip (.exit 2))
def A69_8 : AC := (.reg [] [(jm 23 1), ((jv 24 (.bin .add (.t 23) (jn 1)))), (jm 1 24)] [])
def A69_9 : AC := (.reg [] [(jm 15 6), ((jv 16 (.bin .add (.t 15) (jn 1)))), (jm 6 16)] [])
def A69_7 : AC := (.seq (.block 3 (.seq (.reg [] [(jm 17 0), (jm 18 5), (jm 19 6), (jm 20 1), ((jv 21 (.idx (.t 17) (.t 18) 2))), ((jv 22 (.idxA (.t 21) (.t 19) 2 1))), (.mk none none false (.store .s (.t 22) (.t 20)))] []) A69_8)) A69_9)
def A69_5 : AC := (.seq (.seq (.reg [] [(jm 13 6), ((jv 14 (.bin .lss (.t 13) (jn 2))))] []) A69_6) A69_7)
def A69_4 : AC := (.block 2 (.loop A69_5))
def A69_10 : AC := (.reg [] [(jm 11 5), ((jv 12 (.bin .add (.t 11) (jn 1)))), (jm 5 12)] [])
def A69_3 : AC := (.seq (.block 1 (.seq (.reg [] [((jv 6 (.mov (jn 0))))] []) A69_4)) A69_10)
def A69_1 : AC := (.seq (.seq (.reg [] [(jm 7 5), (jm 8 0), ((jv 9 (.len (.t 8)))), ((jv 10 (.bin .lss (.t 7) (.t 9))))] []) A69_2) A69_3)
def A69_11 : AC := (.seq (.reg [] [(jm 25 1), (jm 4 25)] []) .ret)
def A69_13 : AC := (.block 0 (.loop A69_1))
def A69_12 : AC := (.seq (.seq (.reg [] [((jv 5 (.mov (jn 0))))] []) A69_13) A69_11)
def A69 : AC := (.seq (.reg [] [((jv 4 (.mov (jn 0))))] []) A69_12)
def an69 : List An := []
theorem c69 : cC Try.prog Try.f69.ntmps an69 (Try.f69.body.getD .skip) = some A69 := by kernel_rfl
structure H69 (D : Den) (σ : Sig) (F : Nat) : Prop where
  mk ::
abbrev R69 (r : (Int × NL (Int × Int))) : (Nat → V) → Prop := RM Try.prog [.tmp 4] (Enc.enc (r.1 : Int)) (encO (.at pinR []) (r.2 : NL (Int × Int)))
section
variable {D : Den} {σ : Sig} {F : Nat} {r : (Int × NL (Int × Int))}
def w_markIntA2S_l1 (F : Nat) (x_13 : Int) (c1 : (NL (Int × Int)) → Int → Int → Option (Int × NL (Int × Int))) : Nat → (NL (Int × Int)) → Int → Int → Option (Int × NL (Int × Int))
  | 0, _, _, _ => none
  | k + 1, x_23, x_24, x_25 =>
    bif decide (x_25 < 2) then
      (idx x_23.list x_13).bind fun e_28 =>
      (idx [e_28.1, e_28.2] x_25).bind fun e_29 =>
      (w_markIntA2S_l1 F x_13 c1 k) (NL.set2 x_23 x_13.toNat x_25 x_24) (w64 (x_24 + 1)) (w64 (x_25 + 1))
    else
      c1 x_23 x_24 (w64 (x_13 + 1))
theorem t_f69_l1 (H : H69 D σ F) (x_13 : Int) (c1 : (NL (Int × Int)) → Int → Int → Option (Int × NL (Int × Int))) (Hc1 : ∀ (x_11 : (NL (Int × Int))) (x_12 : Int) (x_13 : Int) (s : Nat → V), Facts [(0, (encO (.at pinR []) (x_11 : NL (Int × Int)))), (1, (ji x_12)), (4, (ji 0)), (5, (ji x_13))] s → c1 x_11 x_12 x_13 = some r → Run D σ (R69 r) (.run A69_1 [.lp A69_1, .bk 0, .sq A69_11]) s) : ∀ (k : Nat) (x_23 : (NL (Int × Int))) (x_24 : Int) (x_25 : Int) (s : Nat → V), Facts [(0, (encO (.at pinR []) (x_23 : NL (Int × Int)))), (1, (ji x_24)), (4, (ji 0)), (5, (ji x_13)), (6, (ji x_25))] s → w_markIntA2S_l1 F x_13 c1 k x_23 x_24 x_25 = some r → Run D σ (R69 r) (.run A69_5 [.lp A69_5, .bk 2, .bk 1, .sq A69_10, .lp A69_1, .bk 0, .sq A69_11]) s := by
  intro k
  induction k with
  | zero => intro x_23 x_24 x_25 s _ h; exact nomatch (h : (none : Option _) = some r)
  | succ k ih =>
    intro x_23 x_24 x_25 s hs h
    rw [w_markIntA2S_l1] at h
    obtain ⟨h0, h1, h4, h5, h6⟩ := hs
    refine .seq (.seq (rg (gm h6 fun h13 => g1 13 (jb (decide (x_25 < 2))) h13 fun h14 => ?_)))
    refine gq (.nsq (run_cond (t := decide (x_25 < 2)) h14 h (fun h => ?_) (fun h => ?_)))
    · refine .skip (.nsq (.seq (.block (.seq (rg (gv (encO (.at pinR []) (x_23 : NL (Int × Int))) (ev_mov h0 ok_encO) fun h17 => ?_))))))
      refine gm h5 fun h18 => gm h6 fun h19 => gm h1 fun h20 => ?_
      obtain ⟨e_28, E_e_28, h⟩ := bind_some h
      refine gv (.ref (.at pinR []) x_13.toNat [] (.agg [(ji e_28.1), (ji e_28.2)])) (ev_idxO (o := x_23) h17 h18 E_e_28 rfl) fun h21 => ?_
      obtain ⟨e_29, E_e_29, h⟩ := bind_some h
      refine gv (.ref (.at pinR []) x_13.toNat [x_25.toNat] (ji e_29)) (ev_idxA (xs := [e_28.1, e_28.2]) (a := e_29) (n := x_25) (q := []) h21 h19 E_e_29 rfl rfl rfl) fun h22 => ?_
      refine g_store (ji x_24) (rd_of h22 rfl) (rd_of h20 rfl) (by refine ⟨by decide, by decide, rfl, rfl, rfl, ?_⟩; first | rfl | simp [V.toks, V.tokss, Enc.toks_enc]) ?_
      refine gz [(0, (encO (.at pinR []) ((NL.set2 x_23 x_13.toNat x_25 x_24) : NL (Int × Int)))), (1, (ji x_24)), (4, (ji 0)), (5, (ji x_13)), (6, (ji x_25))] ⟨(keep_mut h0 (mut_own2 (o := x_23) E_e_29 rfl)), (keep_mut h1 rfl), (keep_mut h4 rfl), (keep_mut h5 rfl), (keep_mut h6 rfl)⟩ ?_
      rintro s ⟨h0, h1, h4, h5, h6⟩
      refine .nsq (rg (gm h1 fun h23 => g1 23 (ji (w64 (x_24 + 1))) h23 fun h24 => ?_))
      refine gm h24 fun h1 => gq (.nbk (.nsq (rg (gm h6 fun h15 => g1 15 (ji (w64 (x_25 + 1))) h15 fun h16 => ?_))))
      refine gm h16 fun h6 => gq (.nlp ?_)
      exact ih (NL.set2 x_23 x_13.toNat x_25 x_24) (w64 (x_24 + 1)) (w64 (x_25 + 1)) _ ⟨h0, h1, h4, h5, h6⟩ h
    refine .exit (.esq (.elp (.ebk (.nbk (.nsq (rg (gm h5 fun h11 => g1 11 (ji (w64 (x_13 + 1))) h11 fun h12 => ?_)))))))
    refine gm h12 fun h5 => gq (.nlp ?_)
    exact Hc1 x_23 x_24 (w64 (x_13 + 1)) _ ⟨h0, h1, h4, h5⟩ h
def w_markIntA2S_l2 (F : Nat)   : Nat → (NL (Int × Int)) → Int → Int → Option (Int × NL (Int × Int))
  | 0, _, _, _ => none
  | k + 1, x_11, x_12, x_13 =>
    bif decide (x_13 < (x_11.list.length : Int)) then
      w_markIntA2S_l1 F x_13 (w_markIntA2S_l2 F k) F x_11 x_12 0
    else
      some (x_12, x_11)
theorem t_f69_l2 (H : H69 D σ F)   : ∀ (k : Nat) (x_11 : (NL (Int × Int))) (x_12 : Int) (x_13 : Int) (s : Nat → V), Facts [(0, (encO (.at pinR []) (x_11 : NL (Int × Int)))), (1, (ji x_12)), (4, (ji 0)), (5, (ji x_13))] s → w_markIntA2S_l2 F k x_11 x_12 x_13 = some r → Run D σ (R69 r) (.run A69_1 [.lp A69_1, .bk 0, .sq A69_11]) s := by
  intro k
  induction k with
  | zero => intro x_11 x_12 x_13 s _ h; exact nomatch (h : (none : Option _) = some r)
  | succ k ih =>
    intro x_11 x_12 x_13 s hs h
    rw [w_markIntA2S_l2] at h
    obtain ⟨h0, h1, h4, h5⟩ := hs
    refine .seq (.seq (rg (gm h5 fun h7 => gv (encO (.at pinR []) (x_11 : NL (Int × Int))) (ev_mov h0 ok_encO) fun h8 => ?_)))
    refine gv (ji (x_11.list.length : Int)) (ev_lenO (o := x_11) h8) fun h9 => ?_
    refine g2 7 9 (jb (decide (x_13 < (x_11.list.length : Int)))) h7 h9 fun h10 => ?_
    refine gq (.nsq (run_cond (t := decide (x_13 < (x_11.list.length : Int))) h10 h (fun h => ?_) (fun h => ?_)))
    · refine .skip (.nsq (.seq (.block (.seq (rg (g0 (ji 0) fun h6 => gq (.nsq (.block (.loop ?_)))))))))
      exact t_f69_l1 H x_13 (w_markIntA2S_l2 F k) ih F x_11 x_12 0 _ ⟨h0, h1, h4, h5, h6⟩ h
    refine .exit (.esq (.elp (.ebk (.nsq (.seq (rg (gm h1 fun h25 => gm h25 fun h4 => gq (.nsq (.ret ?_)))))))))
    have hr := Option.some.inj h
    subst hr
    exact rmA (res_tmp h4) h0
def w_markIntA2S (F : Nat) (x_1 : (On (Int × Int))) (x_2 : Int) : Option (Int × NL (Int × Int)) :=
  w_markIntA2S_l2 F F x_1.v x_2 0
theorem t69 (H : H69 D σ F) (x_1 : (On (Int × Int))) (x_2 : Int) (s : Nat → V) (hs : Facts [(0, (encO (.at pinR []) (x_1.v : NL (Int × Int)))), (1, (ji x_2))] s) (h : w_markIntA2S F x_1 x_2 = some r) : Run D σ (R69 r) (.run A69 []) s := by
  unfold w_markIntA2S at h
  obtain ⟨h0, h1⟩ := hs
  refine .seq (rg (g0 (ji 0) fun h4 => gq (.nsq (.seq (.seq (rg (g0 (ji 0) fun h5 => gq (.nsq (.block (.loop ?_))))))))))
  exact t_f69_l2 H F x_1.v x_2 0 _ ⟨h0, h1, h4, h5⟩ h
end
def e69 (F : Nat) : Ent := ent 69 (fun (x : ((On (Int × Int)) × Int × Unit)) => w_markIntA2S F x.1 x.2.1) (fun (r : (Int × NL (Int × Int))) => (.tup [Enc.enc (r.1 : Int), encO (.at pinR []) (r.2 : NL (Int × Int))])) pinR false []
theorem p69 {F : Nat} {x0 : (On (Int × Int))} {x1 : Int} {r : (Int × NL (Int × Int))} (h : w_markIntA2S F x0 x1 = some r) : (e69 F).den [Arg.arg x0, Enc.enc x1] = some (.tup [Enc.enc (r.1 : Int), encO (.at pinR []) (r.2 : NL (Int × Int))]) := ent_put (x0, x1, ()) h
theorem o69 {D : Den} {σ : Sig} {F : Nat} (hF : Fits2 Try.prog D σ) (H : H69 D σ F) : (e69 F).Ok Try.prog := by
  refine ok_of (f := 69) (show unk 69 = 69 from rfl) (fun args r h => ?_) ⟨Try.f69, Try.func69, rfl, rfl⟩
  obtain ⟨⟨x0, x1, _⟩, y, rfl, hy, rfl⟩ := da_open h
  exact contractM_run hF (by kernel_rfl) Try.func69 rfl c69 (all_ok2 ok_encP rfl) (show 2 ≤ Try.f69.ntmps by decide) (by decide) (t69 H x0 x1 _ ⟨rfl, rfl⟩ hy)
/- loop.example/g01109/laws.markGraph -/
def A22_2 : AC := (.seq (.reg [] [(jm 9 1), (jm 4 9)] []) .ret)
def A22_1 : AC := (.seq (.reg [] [((jv 5 (.fld (.t 2) 1 1))), ((jv 6 (.load .p (.t 5)))), (jm 7 1), (.mk (some 8) none false (.mark (.k (.fn 69 [] [])) [(.t 6), (.t 7)])), (jm 1 8)] []) A22_2)
def A22 : AC := (.seq (.reg [.clr [2]] [(.mk (some 2) none false (.box (.t 0))), ((jv 4 (.mov (jn 0))))] []) A22_1)
def an22 : List An := [{ id := 0, pre := [.clr [2]], ep := [], lin := [], sp := [] }, { id := 1, pre := [], ep := [], lin := [], sp := [3] }]
theorem c22 : cC Try.prog Try.f22.ntmps an22 (Try.f22.body.getD .skip) = some A22 := by kernel_rfl
structure H22 (D : Den) (σ : Sig) (F : Nat) : Prop where
  c69 : ∀ (x0 : (On (Int × Int))) (x1 : Int) r, w_markIntA2S F x0 x1 = some r → D 69 [Arg.arg x0, Enc.enc x1] = some (.tup [Enc.enc (r.1 : Int), encO (.at pinR []) (r.2 : NL (Int × Int))])
  g69 : σ 69 = some (pinR, false)
abbrev R22 (r : (Int × Og (Int × Int))) : (Nat → V) → Prop := RM Try.prog [.tmp 4] (Enc.enc (r.1 : Int)) (.agg [Enc.enc (r.2.a : Int), encO (.at pinR [1]) (r.2.v : NL (Int × Int))])
section
variable {D : Den} {σ : Sig} {F : Nat} {r : (Int × Og (Int × Int))}
def w_markGraph (F : Nat) (x_1 : (Og (Int × Int))) (x_2 : Int) : Option (Int × Og (Int × Int)) :=
  (w_markIntA2S F (On.mk x_1.v : (On (Int × Int))) x_2).bind fun r_3 =>
  (remark x_1.v r_3.2).bind fun m_4 =>
  some (r_3.1, Og.mk x_1.a m_4)
theorem t22 (H : H22 D σ F) (x_1 : (Og (Int × Int))) (x_2 : Int) (s : Nat → V) (hs : Facts [(0, (.agg [(ji x_1.a), (encO (.at pinR [1]) (x_1.v : NL (Int × Int)))])), (1, (ji x_2))] s) (h : w_markGraph F x_1 x_2 = some r) : Run D σ (R22 r) (.run A22 []) s := by
  unfold w_markGraph at h
  obtain ⟨h0, h1⟩ := hs
  refine .seq (run_reg ?_)
  refine e_clr ?_
  refine ez [(0, _), (1, _), (2, _)] ⟨(keep_clear (pk := [2]) h0 rfl (map_agg (maps_cons mi (maps_cons (map_encO (r := pinR) (p := [1]) rfl rfl) maps_nil)))), (keep_clear (pk := [2]) h1 rfl mi), (gone_clear (pk := [2]) (t := 2) rfl)⟩ ?_
  rintro s ⟨h0, h1, h2⟩
  refine g_box (.agg [(ji x_1.a), (encO (.at pinR [1]) (x_1.v : NL (Int × Int)))]) (rd_of h0 rfl) h2 rfl ?_
  refine g0 (ji 0) fun h4 => gq (.nsq (.seq (rg (g1 2 (.ref (.bx 2) 0 [1] (encO (.at pinR [1]) (x_1.v : NL (Int × Int)))) (rfl : (_ : V) = (.ref (.bx 2) 0 [] (.agg [(ji x_1.a), (encO (.at pinR [1]) (x_1.v : NL (Int × Int)))]))) fun h5 => ?_))))
  refine gv (encO (.at pinR [1]) (x_1.v : NL (Int × Int))) (ev_loadN h5 beq_encO) fun h6 => ?_
  refine gm h1 fun h7 => ?_
  obtain ⟨r_3, E_r_3, h⟩ := bind_some h
  obtain ⟨m_4, E_m_4, h⟩ := bind_some h
  refine g_mark (v := (encO (.at pinR [1]) (x_1.v : NL (Int × Int)))) h6 (canon_own (o := (x_1.v : (NL (Int × Int)))) rfl) (rdAll_cons (v := (ji x_2)) h7 rfl rdAll_nil) (H.c69 _ _ _ E_r_3) H.g69 rfl rfl (fun s_2 hm_2 => ?_)
  refine gm (rfl : (_ : V) = (ji r_3.1)) fun h1 => ?_
  refine gz [(0, (.agg [(ji x_1.a), (encO (.at pinR [1]) (m_4 : NL (Int × Int)))])), (1, _), (4, (ji 0))] ⟨(show s_2 0 = (.agg [(ji x_1.a), (encO (.at pinR [1]) (m_4 : NL (Int × Int)))]) from hm_2 0 (.agg [(ji x_1.a), (encO (.at pinR [1]) (x_1.v : NL (Int × Int)))]) (.agg [(ji x_1.a), (encO (.at pinR [1]) (m_4 : NL (Int × Int)))]) h0 (rem_agg (rems_cons (rem_self _ rfl) (rems_cons (marked_own (o := (x_1.v : NL (Int × Int))) rfl E_m_4) rems_nil)))), h1, (show s_2 4 = (ji 0) from hm_2 4 (ji 0) (ji 0) h4 (rem_self _ rfl))⟩ ?_
  rintro s ⟨h0, h1, h4⟩
  refine .nsq (.seq (rg (gm h1 fun h9 => gm h9 fun h4 => gq (.nsq (.ret ?_)))))
  have hr := Option.some.inj h
  subst hr
  exact rmA (res_tmp h4) h0
end
def e22 (F : Nat) : Ent := ent 22 (fun (x : ((Og (Int × Int)) × Int × Unit)) => w_markGraph F x.1 x.2.1) (fun (r : (Int × Og (Int × Int))) => (.tup [Enc.enc (r.1 : Int), .agg [Enc.enc (r.2.a : Int), encO (.at pinR [1]) (r.2.v : NL (Int × Int))]])) pinR false []
theorem p22 {F : Nat} {x0 : (Og (Int × Int))} {x1 : Int} {r : (Int × Og (Int × Int))} (h : w_markGraph F x0 x1 = some r) : (e22 F).den [Arg.arg x0, Enc.enc x1] = some (.tup [Enc.enc (r.1 : Int), .agg [Enc.enc (r.2.a : Int), encO (.at pinR [1]) (r.2.v : NL (Int × Int))]]) := ent_put (x0, x1, ()) h
theorem o22 {D : Den} {σ : Sig} {F : Nat} (hF : Fits2 Try.prog D σ) (H : H22 D σ F) : (e22 F).Ok Try.prog := by
  refine ok_of (f := 22) (show unk 22 = 22 from rfl) (fun args r h => ?_) ⟨Try.f22, Try.func22, rfl, rfl⟩
  obtain ⟨⟨x0, x1, _⟩, y, rfl, hy, rfl⟩ := da_open h
  exact contractM_run hF (by kernel_rfl) Try.func22 rfl c22 (all_ok2 rfl rfl) (show 2 ≤ Try.f22.ntmps by decide) (by decide) (t22 H x0 x1 _ ⟨rfl, rfl⟩ hy)
/- loop.example/g01109/laws.toIntS -/
def A18o_2 : AC := (.cond (.t 11) .skip (.exit 0))
def A18o_4 : AC := (.reg [] [(jm 12 4), ((jv 13 (.bin .add (.t 12) (jn 1)))), (jm 4 13)] [])
def A18o_3 : AC := (.seq (.block 1 (.reg [] [(jm 14 3), (jm 15 4), (jm 16 0), (jm 17 4), ((jv 18 (.idx (.t 16) (.t 17) 1))), ((jv 19 (.load .s (.t 18)))), ((jv 20 (.idx (.t 14) (.t 15) 1))), (.mk none none false (.store .s (.t 20) (.t 19)))] [])) A18o_4)
def A18o_1 : AC := (.seq (.seq (.reg [] [(jm 8 4), (jm 9 0), ((jv 10 (.len (.t 9)))), ((jv 11 (.bin .lss (.t 8) (.t 10))))] []) A18o_2) A18o_3)
def A18o_5 : AC := (.seq (.reg [] [(jm 21 3), (jm 2 21)] [.home 3 2]) .ret)
def A18o_8 : AC := (.block 0 (.loop A18o_1))
def A18o_7 : AC := (.seq (.seq (.reg [] [((jv 4 (.mov (jn 0))))] []) A18o_8) A18o_5)
def A18o_6 : AC := (.seq (.reg [.clr [7]] [(jm 5 0), ((jv 6 (.len (.t 5)))), (.mk (some 7) none false (.mk (.t 6) (.int .i64 (.ofNat 0)) (.int .i64 (.ofNat 0)))), (jm 3 7)] [.home 7 3]) A18o_7)
def A18o : AC := (.seq (.reg [] [((jv 2 (.mov (.k (.sl .nl .s 0 [])))))] []) A18o_6)
def an18o : List An := [{ id := 1, pre := [.clr [7]], ep := [.home 7 3], lin := [], sp := [] }, { id := 6, pre := [], ep := [.home 3 2], lin := [], sp := [] }]
theorem c18o : cC Try.prog Try.f18.ntmps an18o (Try.f18.body.getD .skip) = some A18o := by kernel_rfl
structure H18o (D : Den) (σ : Sig) (F : Nat) : Prop where
  mk ::
abbrev R18o (r : (NL Int)) : (Nat → V) → Prop := RR Try.prog [.tmp 2] 1 false (encO .sh (r : NL Int))
section
variable {D : Den} {σ : Sig} {F : Nat} {r : (NL Int)}
def w_toIntS_o_l1 (F : Nat) (x_1 : (List Int))  : Nat → (List Int) → Int → Option (NL Int)
  | 0, _, _ => none
  | k + 1, x_5, x_6 =>
    bif decide (x_6 < (x_1.length : Int)) then
      (idx x_1 x_6).bind fun e_9 =>
      (idx x_5 x_6).bind fun e_10 =>
      (w_toIntS_o_l1 F x_1 k) (x_5.set x_6.toNat e_9) (w64 (x_6 + 1))
    else
      some (.of x_5)
theorem t_f18o_l1 (H : H18o D σ F) (x_1 : (List Int))  : ∀ (k : Nat) (x_5 : (List Int)) (x_6 : Int) (s : Nat → V), Facts [(0, (eL x_1)), (2, (.sl .nl (Enc.shp Int) 0 [])), (3, (oI 3 [] (.of x_5))), (4, (ji x_6))] s → w_toIntS_o_l1 F x_1 k x_5 x_6 = some r → Run D σ (R18o r) (.run A18o_1 [.lp A18o_1, .bk 0, .sq A18o_5]) s := by
  intro k
  induction k with
  | zero => intro x_5 x_6 s _ h; exact nomatch (h : (none : Option _) = some r)
  | succ k ih =>
    intro x_5 x_6 s hs h
    rw [w_toIntS_o_l1] at h
    obtain ⟨h0, h2, h3, h4⟩ := hs
    refine .seq (.seq (rg (gm h4 fun h8 => gm h0 fun h9 => gv (ji (x_1.length : Int)) (ev_len (xs := x_1) h9) fun h10 => ?_)))
    refine g2 8 10 (jb (decide (x_6 < (x_1.length : Int)))) h8 h10 fun h11 => ?_
    refine gq (.nsq (run_cond (t := decide (x_6 < (x_1.length : Int))) h11 h (fun h => ?_) (fun h => ?_)))
    · refine .skip (.nsq (.seq (.block (rg (gm h3 fun h14 => gm h4 fun h15 => gm h0 fun h16 => gm h4 fun h17 => ?_)))))
      obtain ⟨e_9, E_e_9, h⟩ := bind_some h
      refine gv (.ref .sh 0 [] (ji e_9)) (ev_idx (t := .sh) (lo := 0) (xs := x_1) h16 h17 E_e_9 rfl rfl) fun h18 => ?_
      refine g1 18 (ji e_9) h18 fun h19 => ?_
      obtain ⟨e_10, E_e_10, h⟩ := bind_some h
      refine gv (.ref (.at 3 []) x_6.toNat [] (ji e_10)) (ev_idxO (o := (.of x_5)) h14 h15 E_e_10 rfl) fun h20 => ?_
      refine g_store (ji e_9) (rd_of h20 rfl) (rd_of h19 rfl) (by refine ⟨by decide, by decide, rfl, rfl, rfl, ?_⟩; first | rfl | simp [V.toks, V.tokss, Enc.toks_enc]) ?_
      refine gz [(0, (eL x_1)), (2, (.sl .nl (Enc.shp Int) 0 [])), (3, _), (4, (ji x_6))] ⟨(keep_mut h0 (Enc.mut_enc _ _ _ _ (x_1 : List Int))), (keep_mut h2 rfl), (keep_mut h3 mut_own), (keep_mut h4 rfl)⟩ ?_
      rintro s ⟨h0, h2, h3, h4⟩
      refine .nbk (.nsq (rg (gm h4 fun h12 => g1 12 (ji (w64 (x_6 + 1))) h12 fun h13 => ?_)))
      refine gm h13 fun h4 => gq (.nlp ?_)
      exact ih (x_5.set x_6.toNat e_9) (w64 (x_6 + 1)) _ ⟨h0, h2, h3, h4⟩ h
    refine .exit (.esq (.elp (.ebk (.nsq (.seq (rg (gm h3 fun h21 => gm h21 fun h2 => g_end ?_)))))))
    refine e_home (r := 3) (x := 2) (v := _) h2 rfl (fun s_3 hg_3 => ?_)
    refine ez [(2, (oI 2 [] (.of x_5)))] (hg_3 2 _ _ h2 (map_encO (r := 3) (p := []) rfl rfl)) ?_
    rintro s h2
    refine .nsq (.ret ?_)
    have hr := Option.some.inj h
    subst hr
    exact rrA (res_tmp h2) (fin_retO (finO_own (o := ((.of x_5) : NL Int))) rfl (mine_own rfl))
def w_toIntS_o (F : Nat) (x_1 : (List Int)) : Option (NL Int) :=
  (mkN (x_1.length : Int) (0 : Int)).bind fun mk_2 =>
  w_toIntS_o_l1 F x_1 F mk_2 0
theorem t18o (H : H18o D σ F) (x_1 : (List Int)) (s : Nat → V) (hs : Facts [(0, (eL x_1))] s) (h : w_toIntS_o F x_1 = some r) : Run D σ (R18o r) (.run A18o []) s := by
  unfold w_toIntS_o at h
  have h0 := hs
  refine .seq (rg (g0 (.sl .nl (Enc.shp Int) 0 []) fun h2 => ?_))
  refine gq (.nsq (.seq (run_reg ?_)))
  refine e_clr ?_
  refine ez [(0, _), (2, _), (7, _)] ⟨(keep_clear (pk := [7]) h0 rfl me), (keep_clear (pk := [7]) h2 rfl rfl), (gone_clear (pk := [7]) (t := 7) rfl)⟩ ?_
  rintro s ⟨h0, h2, h7⟩
  refine gm h0 fun h5 => gv (ji (x_1.length : Int)) (ev_len (xs := x_1) h5) fun h6 => ?_
  obtain ⟨mk_2, E_mk_2, h⟩ := bind_some h
  refine g_mk (0 : Int) h6 rfl h7 E_mk_2 ?_
  refine gm (rfl : (_ : V) = (oI 7 [] (.of mk_2))) fun h3 => ?_
  refine g_end ?_
  refine e_home (r := 7) (x := 3) (v := _) h3 rfl (fun s_2 hg_2 => ?_)
  refine ez [(0, (eL x_1)), (2, (.sl .nl (Enc.shp Int) 0 [])), (3, (oI 3 [] (.of mk_2)))] ⟨(hg_2 0 _ _ h0 me), (hg_2 2 _ (.sl .nl (Enc.shp Int) 0 []) h2 rfl), (hg_2 3 _ _ h3 (map_encO (r := 7) (p := []) rfl rfl))⟩ ?_
  rintro s ⟨h0, h2, h3⟩
  refine .nsq (.seq (.seq (rg (g0 (ji 0) fun h4 => gq (.nsq (.block (.loop ?_)))))))
  exact t_f18o_l1 H x_1 F mk_2 0 _ ⟨h0, h2, h3, h4⟩ h
end
def e18o (F : Nat) : Ent := ent 1000000018 (fun (x : ((List Int) × Unit)) => w_toIntS_o F x.1) (fun (r : (NL Int)) => (encO .sh (r : NL Int))) 1 false []
theorem p18o {F : Nat} {x0 : (List Int)} {r : (NL Int)} (h : w_toIntS_o F x0 = some r) : (e18o F).den [Enc.enc x0] = some (encO .sh (r : NL Int)) := ent_put (x0, ()) h
theorem o18o {D : Den} {σ : Sig} {F : Nat} (hF : Fits2 Try.prog D σ) (H : H18o D σ F) : (e18o F).Ok Try.prog := by
  refine ok_of (f := 18) (show unk 1000000018 = 18 from rfl) (fun args r h => ?_) ⟨Try.f18, Try.func18, rfl, rfl⟩
  obtain ⟨⟨x0, _⟩, y, rfl, hy, rfl⟩ := da_open h
  exact contract_run hF (by kernel_rfl) Try.func18 rfl c18o (show 1 ≤ Try.f18.ntmps by decide) (t18o H x0 _ rfl hy)
/- loop.example/g01109/laws.toIntSS -/
def A27o_2 : AC := (.cond (.t 11) .skip (.exit 0))
def A27o_4 : AC := (.reg [] [(jm 12 4), ((jv 13 (.bin .add (.t 12) (jn 1)))), (jm 4 13)] [])
def A27o_3 : AC := (.seq (.block 1 (.reg [.clr [20]] [(jm 14 3), (jm 15 4), (jm 16 0), (jm 17 4), ((jv 18 (.idx (.t 16) (.t 17) 1))), ((jv 19 (.load .p (.t 18)))), (.mk (some 20) none false (.callO (.k (.fn 18 [] [])) [(.t 19)])), ((jv 21 (.idx (.t 14) (.t 15) 1))), (.mk none none false (.store .p (.t 21) (.t 20)))] [.can 3])) A27o_4)
def A27o_1 : AC := (.seq (.seq (.reg [] [(jm 8 4), (jm 9 0), ((jv 10 (.len (.t 9)))), ((jv 11 (.bin .lss (.t 8) (.t 10))))] []) A27o_2) A27o_3)
def A27o_5 : AC := (.seq (.reg [] [(jm 22 3), (jm 2 22)] [.home 3 2]) .ret)
def A27o_8 : AC := (.block 0 (.loop A27o_1))
def A27o_7 : AC := (.seq (.seq (.reg [] [((jv 4 (.mov (jn 0))))] []) A27o_8) A27o_5)
def A27o_6 : AC := (.seq (.reg [.clr [7]] [(jm 5 0), ((jv 6 (.len (.t 5)))), (.mk (some 7) none false (.mk (.t 6) (.sl .nl .s 0 []) (.sl .nl .s 0 []))), (jm 3 7)] [.home 7 3]) A27o_7)
def A27o : AC := (.seq (.reg [] [((jv 2 (.mov (.k (.sl .nl .p 0 [])))))] []) A27o_6)
def an27o : List An := [{ id := 1, pre := [.clr [7]], ep := [.home 7 3], lin := [], sp := [2] }, { id := 5, pre := [.clr [20]], ep := [.can 3], lin := [], sp := [1006] }, { id := 6, pre := [], ep := [.home 3 2], lin := [], sp := [] }]
theorem c27o : cC Try.prog Try.f27.ntmps an27o (Try.f27.body.getD .skip) = some A27o := by kernel_rfl
structure H27o (D : Den) (σ : Sig) (F : Nat) : Prop where
  c18o : ∀ (x0 : (List Int)) r, w_toIntS_o F x0 = some r → D 1000000018 [Enc.enc x0] = some (encO .sh (r : NL Int))
  g18o : σ 1000000018 = some (1, false)
abbrev R27o (r : (NL (NL Int))) : (Nat → V) → Prop := RR Try.prog [.tmp 2] 2 false (encNs (r : NL (NL Int)))
section
variable {D : Den} {σ : Sig} {F : Nat} {r : (NL (NL Int))}
def w_toIntSS_o_l1 (F : Nat) (x_1 : (List (List Int)))  : Nat → (List (NL Int)) → Int → Option (NL (NL Int))
  | 0, _, _ => none
  | k + 1, out_6, x_7 =>
    bif decide (x_7 < (x_1.length : Int)) then
      (idx x_1 x_7).bind fun e_11 =>
      (w_toIntS_o F e_11).bind fun r_12 =>
      (idx out_6 x_7).bind fun e_13 =>
      (w_toIntSS_o_l1 F x_1 k) (out_6.set x_7.toNat r_12) (w64 (x_7 + 1))
    else
      some (.of out_6)
theorem t_f27o_l1 (H : H27o D σ F) (x_1 : (List (List Int)))  : ∀ (k : Nat) (out_6 : (List (NL Int))) (x_7 : Int) (s : Nat → V), Facts [(0, (Enc.enc (x_1 : List (List Int)))), (2, (.sl .nl (Enc.shp (List Int)) 0 [])), (3, (encN 3 [] (.of (out_6 : List (NL Int)) : NL (NL Int)))), (4, (ji x_7))] s → w_toIntSS_o_l1 F x_1 k out_6 x_7 = some r → Run D σ (R27o r) (.run A27o_1 [.lp A27o_1, .bk 0, .sq A27o_5]) s := by
  intro k
  induction k with
  | zero => intro out_6 x_7 s _ h; exact nomatch (h : (none : Option _) = some r)
  | succ k ih =>
    intro out_6 x_7 s hs h
    rw [w_toIntSS_o_l1] at h
    obtain ⟨h0, h2, h3, h4⟩ := hs
    refine .seq (.seq (rg (gm h4 fun h8 => gm h0 fun h9 => gv (ji (x_1.length : Int)) (ev_len (xs := x_1) h9) fun h10 => ?_)))
    refine g2 8 10 (jb (decide (x_7 < (x_1.length : Int)))) h8 h10 fun h11 => ?_
    refine gq (.nsq (run_cond (t := decide (x_7 < (x_1.length : Int))) h11 h (fun h => ?_) (fun h => ?_)))
    · refine .skip (.nsq (.seq (.block (run_reg ?_))))
      refine e_clr ?_
      refine ez [(0, _), (2, _), (3, _), (4, _), (20, _)] ⟨(keep_clear (pk := [20]) h0 rfl me), (keep_clear (pk := [20]) h2 rfl rfl), (keep_clear (pk := [20]) h3 rfl (map_encN (r := 3) (p := []) rfl (fun _ => rfl) rfl)), (keep_clear (pk := [20]) h4 rfl mi), (gone_clear (pk := [20]) (t := 20) rfl)⟩ ?_
      rintro s ⟨h0, h2, h3, h4, h20⟩
      refine gv (encN 3 [] (.of (out_6 : List (NL Int)) : NL (NL Int))) (ev_mov h3 ok_encN) fun h14 => ?_
      refine gm h4 fun h15 => gm h0 fun h16 => gm h4 fun h17 => ?_
      obtain ⟨e_11, E_e_11, h⟩ := bind_some h
      refine gv (.ref .sh 0 [] (eL e_11)) (ev_idx (t := .sh) (lo := 0) (xs := x_1) h16 h17 E_e_11 rfl rfl) fun h18 => ?_
      refine g1 18 (eL e_11) h18 fun h19 => ?_
      obtain ⟨r_12, E_r_12, h⟩ := bind_some h
      refine g_callO (m := 1) (al := false) (r := (encO .sh (r_12 : NL Int))) (v := (oI 20 [] r_12)) (kk := 1000000018) [Enc.enc (e_11 : (List Int))] (ta_cons (v := (eL e_11)) h19 rfl (Enc.erase_enc (e_11 : (List Int))) ta_nil) (H.c18o _ _ E_r_12) H.g18o rfl toks_encS tag_encO ok_encP h20 ?_
      obtain ⟨e_13, E_e_13, h⟩ := bind_some h
      refine gv (.ref (.at 3 []) x_7.toNat [] (oI 3 [x_7.toNat] e_13)) (ev_idxN (o := ((.of out_6) : NL (NL Int))) h14 h15 E_e_13 rfl) fun h21 => ?_
      refine g_store (oI 20 [] r_12) (rd_of h21 rfl) (rd_of rfl ok_encP) ⟨by decide, by decide, mem_encP, shp_encP, shp_encP, tok_encP rfl rfl⟩ ?_
      refine g_end ?_
      refine e_canSet (x := 3) (t := 20) (i := x_7.toNat) (os := (out_6.set x_7.toNat r_12 : List (NL Int))) rfl (keep_mut h3 (mut_setN (a := (r_12 : NL Int)) (os := out_6))) rfl (fun s_8 L_8 hv_8 hl_8 hg_8 => ?_)
      refine ez [(0, (Enc.enc (x_1 : List (List Int)))), (2, (.sl .nl (Enc.shp (List Int)) 0 [])), (3, (encN 3 [] (.of (out_6.set x_7.toNat r_12 : List (NL Int)) : NL (NL Int)))), (4, (ji x_7))] ⟨(show s_8 0 = (Enc.enc (x_1 : List (List Int))) from hg_8 0 _ _ (keep_mut h0 (Enc.mut_enc _ _ _ _ (x_1 : List (List Int)))) (Enc.map_enc _ (x_1 : List (List Int)))), (show s_8 2 = (.sl .nl (Enc.shp (List Int)) 0 []) from hg_8 2 _ _ (keep_mut h2 rfl) rfl), (show s_8 3 = (encN 3 [] (.of (out_6.set x_7.toNat r_12 : List (NL Int)) : NL (NL Int))) from hg_8 3 _ _ (keep_mut h3 (mut_setN (a := (r_12 : NL Int)) (os := out_6))) hv_8), (show s_8 4 = (ji x_7) from hg_8 4 _ _ (keep_mut h4 rfl) rfl)⟩ ?_
      rintro s ⟨h0, h2, h3, h4⟩
      refine .nbk (.nsq (rg (gm h4 fun h12 => g1 12 (ji (w64 (x_7 + 1))) h12 fun h13 => ?_)))
      refine gm h13 fun h4 => gq (.nlp ?_)
      exact ih (out_6.set x_7.toNat r_12) (w64 (x_7 + 1)) _ ⟨h0, h2, h3, h4⟩ h
    refine .exit (.esq (.elp (.ebk (.nsq (.seq (rg (gv (encN 3 [] (.of (out_6 : List (NL Int)) : NL (NL Int))) (ev_mov h3 ok_encN) fun h22 => ?_)))))))
    refine gv (encN 3 [] (.of (out_6 : List (NL Int)) : NL (NL Int))) (ev_mov h22 ok_encN) fun h2 => ?_
    refine g_end ?_
    refine e_home (r := 3) (x := 2) (v := _) h2 ok_encN (fun s_9 hg_9 => ?_)
    refine ez [(2, (encN 2 [] (.of (out_6 : List (NL Int)) : NL (NL Int))))] (hg_9 2 _ _ h2 (map_encN (r := 3) (p := []) rfl (fun _ => rfl) rfl)) ?_
    rintro s h2
    refine .nsq (.ret ?_)
    have hr := Option.some.inj h
    subst hr
    exact rrA (res_tmp h2) (fin_retN (finN_N (r := 2) (o := ((.of out_6) : NL (NL Int))) rfl) (mine_N rfl))
def w_toIntSS_o (F : Nat) (x_1 : (List (List Int))) : Option (NL (NL Int)) :=
  (mkN (x_1.length : Int) (.nil : NL Int)).bind fun mk_2 =>
  w_toIntSS_o_l1 F x_1 F mk_2 0
theorem t27o (H : H27o D σ F) (x_1 : (List (List Int))) (s : Nat → V) (hs : Facts [(0, (Enc.enc (x_1 : List (List Int))))] s) (h : w_toIntSS_o F x_1 = some r) : Run D σ (R27o r) (.run A27o []) s := by
  unfold w_toIntSS_o at h
  have h0 := hs
  refine .seq (rg (g0 (.sl .nl (Enc.shp (List Int)) 0 []) fun h2 => ?_))
  refine gq (.nsq (.seq (run_reg ?_)))
  refine e_clr ?_
  refine ez [(0, _), (2, _), (7, _)] ⟨(keep_clear (pk := [7]) h0 rfl me), (keep_clear (pk := [7]) h2 rfl rfl), (gone_clear (pk := [7]) (t := 7) rfl)⟩ ?_
  rintro s ⟨h0, h2, h7⟩
  refine gm h0 fun h5 => gv (ji (x_1.length : Int)) (ev_len (xs := x_1) h5) fun h6 => ?_
  obtain ⟨mk_2, E_mk_2, h⟩ := bind_some h
  refine g_mkN (α := Int) h6 rfl h7 E_mk_2 ?_
  refine gv (encN 7 [] (.of (mk_2 : List (NL Int)) : NL (NL Int))) (ev_mov rfl ok_encN) fun h3 => ?_
  refine g_end ?_
  refine e_home (r := 7) (x := 3) (v := _) h3 ok_encN (fun s_2 hg_2 => ?_)
  refine ez [(0, (Enc.enc (x_1 : List (List Int)))), (2, (.sl .nl (Enc.shp (List Int)) 0 [])), (3, (encN 3 [] (.of (mk_2 : List (NL Int)) : NL (NL Int))))] ⟨(hg_2 0 _ _ h0 me), (hg_2 2 _ (.sl .nl (Enc.shp (List Int)) 0 []) h2 rfl), (hg_2 3 _ _ h3 (map_encN (r := 7) (p := []) rfl (fun _ => rfl) rfl))⟩ ?_
  rintro s ⟨h0, h2, h3⟩
  refine .nsq (.seq (.seq (rg (g0 (ji 0) fun h4 => gq (.nsq (.block (.loop ?_)))))))
  exact t_f27o_l1 H x_1 F mk_2 0 _ ⟨h0, h2, h3, h4⟩ h
end
def e27o (F : Nat) : Ent := ent 1000000027 (fun (x : ((List (List Int)) × Unit)) => w_toIntSS_o F x.1) (fun (r : (NL (NL Int))) => (encNs (r : NL (NL Int)))) 2 false []
theorem p27o {F : Nat} {x0 : (List (List Int))} {r : (NL (NL Int))} (h : w_toIntSS_o F x0 = some r) : (e27o F).den [Enc.enc x0] = some (encNs (r : NL (NL Int))) := ent_put (x0, ()) h
theorem o27o {D : Den} {σ : Sig} {F : Nat} (hF : Fits2 Try.prog D σ) (H : H27o D σ F) : (e27o F).Ok Try.prog := by
  refine ok_of (f := 27) (show unk 1000000027 = 27 from rfl) (fun args r h => ?_) ⟨Try.f27, Try.func27, rfl, rfl⟩
  obtain ⟨⟨x0, _⟩, y, rfl, hy, rfl⟩ := da_open h
  exact contract_run hF (by kernel_rfl) Try.func27 rfl c27o (show 1 ≤ Try.f27.ntmps by decide) (t27o H x0 _ rfl hy)
/- loop.example/g01109/laws.markIntS -/
def A23_2 : AC := (.cond (.t 9) .skip (.exit 0))
def A23_4 : AC := (.reg [] [(jm 16 1), ((jv 17 (.bin .add (.t 16) (jn 1)))), (jm 1 17)] [])
def A23_5 : AC := (.reg [] [(jm 10 5), ((jv 11 (.bin .add (.t 10) (jn 1)))), (jm 5 11)] [])
def A23_3 : AC := (.seq (.block 1 (.seq (.reg [] [(jm 12 0), (jm 13 5), (jm 14 1), ((jv 15 (.idx (.t 12) (.t 13) 1))), (.mk none none false (.store .s (.t 15) (.t 14)))] []) A23_4)) A23_5)
def A23_1 : AC := (.seq (.seq (.reg [] [(jm 6 5), (jm 7 0), ((jv 8 (.len (.t 7)))), ((jv 9 (.bin .lss (.t 6) (.t 8))))] []) A23_2) A23_3)
def A23_6 : AC := (.seq (.reg [] [(jm 18 1), (jm 4 18)] []) .ret)
def A23_8 : AC := (.block 0 (.loop A23_1))
def A23_7 : AC := (.seq (.seq (.reg [] [((jv 5 (.mov (jn 0))))] []) A23_8) A23_6)
def A23 : AC := (.seq (.reg [] [((jv 4 (.mov (jn 0))))] []) A23_7)
def an23 : List An := []
theorem c23 : cC Try.prog Try.f23.ntmps an23 (Try.f23.body.getD .skip) = some A23 := by kernel_rfl
structure H23 (D : Den) (σ : Sig) (F : Nat) : Prop where
  mk ::
abbrev R23 (r : (Int × NL Int)) : (Nat → V) → Prop := RM Try.prog [.tmp 4] (Enc.enc (r.1 : Int)) (encO (.at pinR []) (r.2 : NL Int))
section
variable {D : Den} {σ : Sig} {F : Nat} {r : (Int × NL Int)}
def w_markIntS_l1 (F : Nat)   : Nat → (NL Int) → Int → Int → Option (Int × NL Int)
  | 0, _, _, _ => none
  | k + 1, x_4, x_5, x_6 =>
    bif decide (x_6 < (x_4.list.length : Int)) then
      (idx x_4.list x_6).bind fun e_8 =>
      (w_markIntS_l1 F k) (NL.set x_4 x_6.toNat x_5) (w64 (x_5 + 1)) (w64 (x_6 + 1))
    else
      some (x_5, x_4)
theorem t_f23_l1 (H : H23 D σ F)   : ∀ (k : Nat) (x_4 : (NL Int)) (x_5 : Int) (x_6 : Int) (s : Nat → V), Facts [(0, (oI pinR [] x_4)), (1, (ji x_5)), (4, (ji 0)), (5, (ji x_6))] s → w_markIntS_l1 F k x_4 x_5 x_6 = some r → Run D σ (R23 r) (.run A23_1 [.lp A23_1, .bk 0, .sq A23_6]) s := by
  intro k
  induction k with
  | zero => intro x_4 x_5 x_6 s _ h; exact nomatch (h : (none : Option _) = some r)
  | succ k ih =>
    intro x_4 x_5 x_6 s hs h
    rw [w_markIntS_l1] at h
    obtain ⟨h0, h1, h4, h5⟩ := hs
    refine .seq (.seq (rg (gm h5 fun h6 => gv (oI pinR [] x_4) (ev_mov h0 ok_encO) fun h7 => ?_)))
    refine gv (ji (x_4.list.length : Int)) (ev_lenO (o := x_4) h7) fun h8 => ?_
    refine g2 6 8 (jb (decide (x_6 < (x_4.list.length : Int)))) h6 h8 fun h9 => ?_
    refine gq (.nsq (run_cond (t := decide (x_6 < (x_4.list.length : Int))) h9 h (fun h => ?_) (fun h => ?_)))
    · refine .skip (.nsq (.seq (.block (.seq (rg (gv (oI pinR [] x_4) (ev_mov h0 ok_encO) fun h12 => ?_))))))
      refine gm h5 fun h13 => gm h1 fun h14 => ?_
      obtain ⟨e_8, E_e_8, h⟩ := bind_some h
      refine gv (.ref (.at pinR []) x_6.toNat [] (ji e_8)) (ev_idxO (o := x_4) h12 h13 E_e_8 rfl) fun h15 => ?_
      refine g_store (ji x_5) (rd_of h15 rfl) (rd_of h14 rfl) (by refine ⟨by decide, by decide, rfl, rfl, rfl, ?_⟩; first | rfl | simp [V.toks, V.tokss, Enc.toks_enc]) ?_
      refine gz [(0, _), (1, (ji x_5)), (4, (ji 0)), (5, (ji x_6))] ⟨(keep_mut h0 (mut_ownN (α := Int) (u := x_5) (i := x_6.toNat) (o := x_4))), (keep_mut h1 rfl), (keep_mut h4 rfl), (keep_mut h5 rfl)⟩ ?_
      rintro s ⟨h0, h1, h4, h5⟩
      refine .nsq (rg (gm h1 fun h16 => g1 16 (ji (w64 (x_5 + 1))) h16 fun h17 => ?_))
      refine gm h17 fun h1 => gq (.nbk (.nsq (rg (gm h5 fun h10 => g1 10 (ji (w64 (x_6 + 1))) h10 fun h11 => ?_))))
      refine gm h11 fun h5 => gq (.nlp ?_)
      exact ih (NL.set x_4 x_6.toNat x_5) (w64 (x_5 + 1)) (w64 (x_6 + 1)) _ ⟨h0, h1, h4, h5⟩ h
    refine .exit (.esq (.elp (.ebk (.nsq (.seq (rg (gm h1 fun h18 => gm h18 fun h4 => gq (.nsq (.ret ?_)))))))))
    have hr := Option.some.inj h
    subst hr
    exact rmA (res_tmp h4) h0
def w_markIntS (F : Nat) (x_1 : (On Int)) (x_2 : Int) : Option (Int × NL Int) :=
  w_markIntS_l1 F F x_1.v x_2 0
theorem t23 (H : H23 D σ F) (x_1 : (On Int)) (x_2 : Int) (s : Nat → V) (hs : Facts [(0, (oI pinR [] x_1.v)), (1, (ji x_2))] s) (h : w_markIntS F x_1 x_2 = some r) : Run D σ (R23 r) (.run A23 []) s := by
  unfold w_markIntS at h
  obtain ⟨h0, h1⟩ := hs
  refine .seq (rg (g0 (ji 0) fun h4 => gq (.nsq (.seq (.seq (rg (g0 (ji 0) fun h5 => gq (.nsq (.block (.loop ?_))))))))))
  exact t_f23_l1 H F x_1.v x_2 0 _ ⟨h0, h1, h4, h5⟩ h
end
def e23 (F : Nat) : Ent := ent 23 (fun (x : ((On Int) × Int × Unit)) => w_markIntS F x.1 x.2.1) (fun (r : (Int × NL Int)) => (.tup [Enc.enc (r.1 : Int), encO (.at pinR []) (r.2 : NL Int)])) pinR false []
theorem p23 {F : Nat} {x0 : (On Int)} {x1 : Int} {r : (Int × NL Int)} (h : w_markIntS F x0 x1 = some r) : (e23 F).den [Arg.arg x0, Enc.enc x1] = some (.tup [Enc.enc (r.1 : Int), encO (.at pinR []) (r.2 : NL Int)]) := ent_put (x0, x1, ()) h
theorem o23 {D : Den} {σ : Sig} {F : Nat} (hF : Fits2 Try.prog D σ) (H : H23 D σ F) : (e23 F).Ok Try.prog := by
  refine ok_of (f := 23) (show unk 23 = 23 from rfl) (fun args r h => ?_) ⟨Try.f23, Try.func23, rfl, rfl⟩
  obtain ⟨⟨x0, x1, _⟩, y, rfl, hy, rfl⟩ := da_open h
  exact contractM_run hF (by kernel_rfl) Try.func23 rfl c23 (all_ok2 ok_encP rfl) (show 2 ≤ Try.f23.ntmps by decide) (by decide) (t23 H x0 x1 _ ⟨rfl, rfl⟩ hy)
/- loop.example/g01109/laws.markIntSS -/
def A30_2 : AC := (.cond (.t 9) .skip (.exit 0))
def A30_4 : AC := (.reg [] [(jm 10 5), ((jv 11 (.bin .add (.t 10) (jn 1)))), (jm 5 11)] [])
def A30_3 : AC := (.seq (.block 1 (.reg [] [(jm 12 0), (jm 13 5), ((jv 14 (.idx (.t 12) (.t 13) 1))), ((jv 15 (.load .p (.t 14)))), (jm 16 1), (.mk (some 17) none false (.mark (.k (.fn 23 [] [])) [(.t 15), (.t 16)])), (jm 1 17)] [])) A30_4)
def A30_1 : AC := (.seq (.seq (.reg [] [(jm 6 5), (jm 7 0), ((jv 8 (.len (.t 7)))), ((jv 9 (.bin .lss (.t 6) (.t 8))))] []) A30_2) A30_3)
def A30_5 : AC := (.seq (.reg [] [(jm 18 1), (jm 4 18)] []) .ret)
def A30_7 : AC := (.block 0 (.loop A30_1))
def A30_6 : AC := (.seq (.seq (.reg [] [((jv 5 (.mov (jn 0))))] []) A30_7) A30_5)
def A30 : AC := (.seq (.reg [] [((jv 4 (.mov (jn 0))))] []) A30_6)
def an30 : List An := [{ id := 4, pre := [], ep := [], lin := [], sp := [5] }]
theorem c30 : cC Try.prog Try.f30.ntmps an30 (Try.f30.body.getD .skip) = some A30 := by kernel_rfl
structure H30 (D : Den) (σ : Sig) (F : Nat) : Prop where
  c23 : ∀ (x0 : (On Int)) (x1 : Int) r, w_markIntS F x0 x1 = some r → D 23 [Arg.arg x0, Enc.enc x1] = some (.tup [Enc.enc (r.1 : Int), encO (.at pinR []) (r.2 : NL Int)])
  g23 : σ 23 = some (pinR, false)
abbrev R30 (r : (Int × NL (NL Int))) : (Nat → V) → Prop := RM Try.prog [.tmp 4] (Enc.enc (r.1 : Int)) (encN pinR [] (r.2 : NL (NL Int)))
section
variable {D : Den} {σ : Sig} {F : Nat} {r : (Int × NL (NL Int))}
def w_markIntSS_l1 (F : Nat)   : Nat → (NL (NL Int)) → Int → Int → Option (Int × NL (NL Int))
  | 0, _, _, _ => none
  | k + 1, x_6, x_7, x_8 =>
    bif decide (x_8 < (x_6.list.length : Int)) then
      (idx x_6.list x_8).bind fun e_12 =>
      (w_markIntS F (On.mk e_12 : (On Int)) x_7).bind fun r_13 =>
      (remark e_12 r_13.2).bind fun m_14 =>
      (w_markIntSS_l1 F k) (NL.set x_6 x_8.toNat m_14) r_13.1 (w64 (x_8 + 1))
    else
      some (x_7, x_6)
theorem t_f30_l1 (H : H30 D σ F)   : ∀ (k : Nat) (x_6 : (NL (NL Int))) (x_7 : Int) (x_8 : Int) (s : Nat → V), Facts [(0, (encN pinR [] (x_6 : NL (NL Int)))), (1, (ji x_7)), (4, (ji 0)), (5, (ji x_8))] s → w_markIntSS_l1 F k x_6 x_7 x_8 = some r → Run D σ (R30 r) (.run A30_1 [.lp A30_1, .bk 0, .sq A30_5]) s := by
  intro k
  induction k with
  | zero => intro x_6 x_7 x_8 s _ h; exact nomatch (h : (none : Option _) = some r)
  | succ k ih =>
    intro x_6 x_7 x_8 s hs h
    rw [w_markIntSS_l1] at h
    obtain ⟨h0, h1, h4, h5⟩ := hs
    refine .seq (.seq (rg (gm h5 fun h6 => gv (encN pinR [] (x_6 : NL (NL Int))) (ev_mov h0 ok_encN) fun h7 => ?_)))
    refine gv (ji (x_6.list.length : Int)) (ev_lenN (o := (x_6 : NL (NL Int))) h7) fun h8 => ?_
    refine g2 6 8 (jb (decide (x_8 < (x_6.list.length : Int)))) h6 h8 fun h9 => ?_
    refine gq (.nsq (run_cond (t := decide (x_8 < (x_6.list.length : Int))) h9 h (fun h => ?_) (fun h => ?_)))
    · refine .skip (.nsq (.seq (.block (rg (gv (encN pinR [] (x_6 : NL (NL Int))) (ev_mov h0 ok_encN) fun h12 => ?_)))))
      refine gm h5 fun h13 => ?_
      obtain ⟨e_12, E_e_12, h⟩ := bind_some h
      refine gv (.ref (.at pinR []) x_8.toNat [] (oI pinR [x_8.toNat] e_12)) (ev_idxN (o := (x_6 : NL (NL Int))) h12 h13 E_e_12 rfl) fun h14 => ?_
      refine gv (oI pinR [x_8.toNat] e_12) (ev_loadN h14 beq_encO) fun h15 => ?_
      refine gm h1 fun h16 => ?_
      obtain ⟨r_13, E_r_13, h⟩ := bind_some h
      obtain ⟨m_14, E_m_14, h⟩ := bind_some h
      refine g_mark (v := (oI pinR [x_8.toNat] e_12)) h15 (canon_own (o := (e_12 : (NL Int))) rfl) (rdAll_cons (v := (ji x_7)) h16 rfl rdAll_nil) (H.c23 _ _ _ E_r_13) H.g23 rfl rfl (fun s_3 hm_3 => ?_)
      refine gm (rfl : (_ : V) = (ji r_13.1)) fun h1 => ?_
      refine gz [(0, (encN pinR [] ((NL.set x_6 x_8.toNat m_14) : NL (NL Int)))), (1, _), (4, (ji 0)), (5, (ji x_8))] ⟨(show s_3 0 = (encN pinR [] ((NL.set x_6 x_8.toNat m_14) : NL (NL Int))) from hm_3 0 (encN pinR [] (x_6 : NL (NL Int))) (encN pinR [] ((NL.set x_6 x_8.toNat m_14) : NL (NL Int))) h0 (rem_rowN (r := pinR) (p := []) (o := (x_6 : NL (NL Int))) rfl E_e_12 E_m_14)), h1, (show s_3 4 = (ji 0) from hm_3 4 (ji 0) (ji 0) h4 (rem_self _ rfl)), (show s_3 5 = (ji x_8) from hm_3 5 (ji x_8) (ji x_8) h5 (rem_self _ rfl))⟩ ?_
      rintro s ⟨h0, h1, h4, h5⟩
      refine .nbk (.nsq (rg (gm h5 fun h10 => g1 10 (ji (w64 (x_8 + 1))) h10 fun h11 => ?_)))
      refine gm h11 fun h5 => gq (.nlp ?_)
      exact ih (NL.set x_6 x_8.toNat m_14) r_13.1 (w64 (x_8 + 1)) _ ⟨h0, h1, h4, h5⟩ h
    refine .exit (.esq (.elp (.ebk (.nsq (.seq (rg (gm h1 fun h18 => gm h18 fun h4 => gq (.nsq (.ret ?_)))))))))
    have hr := Option.some.inj h
    subst hr
    exact rmA (res_tmp h4) h0
def w_markIntSS (F : Nat) (x_1 : (On2 Int)) (x_2 : Int) : Option (Int × NL (NL Int)) :=
  w_markIntSS_l1 F F x_1.v x_2 0
theorem t30 (H : H30 D σ F) (x_1 : (On2 Int)) (x_2 : Int) (s : Nat → V) (hs : Facts [(0, (encN pinR [] (x_1.v : NL (NL Int)))), (1, (ji x_2))] s) (h : w_markIntSS F x_1 x_2 = some r) : Run D σ (R30 r) (.run A30 []) s := by
  unfold w_markIntSS at h
  obtain ⟨h0, h1⟩ := hs
  refine .seq (rg (g0 (ji 0) fun h4 => gq (.nsq (.seq (.seq (rg (g0 (ji 0) fun h5 => gq (.nsq (.block (.loop ?_))))))))))
  exact t_f30_l1 H F x_1.v x_2 0 _ ⟨h0, h1, h4, h5⟩ h
end
def e30 (F : Nat) : Ent := ent 30 (fun (x : ((On2 Int) × Int × Unit)) => w_markIntSS F x.1 x.2.1) (fun (r : (Int × NL (NL Int))) => (.tup [Enc.enc (r.1 : Int), encN pinR [] (r.2 : NL (NL Int))])) pinR false []
theorem p30 {F : Nat} {x0 : (On2 Int)} {x1 : Int} {r : (Int × NL (NL Int))} (h : w_markIntSS F x0 x1 = some r) : (e30 F).den [Arg.arg x0, Enc.enc x1] = some (.tup [Enc.enc (r.1 : Int), encN pinR [] (r.2 : NL (NL Int))]) := ent_put (x0, x1, ()) h
theorem o30 {D : Den} {σ : Sig} {F : Nat} (hF : Fits2 Try.prog D σ) (H : H30 D σ F) : (e30 F).Ok Try.prog := by
  refine ok_of (f := 30) (show unk 30 = 30 from rfl) (fun args r h => ?_) ⟨Try.f30, Try.func30, rfl, rfl⟩
  obtain ⟨⟨x0, x1, _⟩, y, rfl, hy, rfl⟩ := da_open h
  exact contractM_run hF (by kernel_rfl) Try.func30 rfl c30 (all_ok2 ok_encN rfl) (show 2 ≤ Try.f30.ntmps by decide) (by decide) (t30 H x0 x1 _ ⟨rfl, rfl⟩ hy)
/- loop.example/g01109/laws.heldIntS -/
def A31_2 : AC := (.cond (.t 9) .skip (.exit 0))
def A31_4 : AC := (.cond (.t 17) (.seq (.reg [] [((jv 4 (.mov (jn (-1)))))] []) .ret) .skip)
def A31_5 : AC := (.reg [] [(jm 18 1), ((jv 19 (.bin .add (.t 18) (jn 1)))), (jm 1 19)] [])
def A31_6 : AC := (.reg [] [(jm 10 5), ((jv 11 (.bin .add (.t 10) (jn 1)))), (jm 5 11)] [])
def A31_3 : AC := (.seq (.block 1 (.seq (.seq (.reg [] [(jm 12 0), (jm 13 5), ((jv 14 (.idx (.t 12) (.t 13) 1))), ((jv 15 (.load .s (.t 14)))), (jm 16 1), ((jv 17 (.bin .neq (.t 15) (.t 16))))] []) A31_4) A31_5)) A31_6)
def A31_1 : AC := (.seq (.seq (.reg [] [(jm 6 5), (jm 7 0), ((jv 8 (.len (.t 7)))), ((jv 9 (.bin .lss (.t 6) (.t 8))))] []) A31_2) A31_3)
def A31_7 : AC := (.seq (.reg [] [(jm 20 1), (jm 4 20)] []) .ret)
def A31_9 : AC := (.block 0 (.loop A31_1))
def A31_8 : AC := (.seq (.seq (.reg [] [((jv 5 (.mov (jn 0))))] []) A31_9) A31_7)
def A31 : AC := (.seq (.reg [] [((jv 4 (.mov (jn 0))))] []) A31_8)
def an31 : List An := []
theorem c31 : cC Try.prog Try.f31.ntmps an31 (Try.f31.body.getD .skip) = some A31 := by kernel_rfl
structure H31 (D : Den) (σ : Sig) (F : Nat) : Prop where
  mk ::
abbrev R31 (r : Int) : (Nat → V) → Prop := RR Try.prog [.tmp 4] 0 false (Enc.enc (r : Int))
section
variable {D : Den} {σ : Sig} {F : Nat} {r : Int}
def w_heldIntS_l1 (F : Nat) (x_1 : (List Int))  : Nat → Int → Int → Option Int
  | 0, _, _ => none
  | k + 1, x_4, x_5 =>
    bif decide (x_5 < (x_1.length : Int)) then
      (idx x_1 x_5).bind fun e_7 =>
      bif (e_7 != x_4) then
        some (-1)
      else
        (w_heldIntS_l1 F x_1 k) (w64 (x_4 + 1)) (w64 (x_5 + 1))
    else
      some x_4
theorem t_f31_l1 (H : H31 D σ F) (x_1 : (List Int))  : ∀ (k : Nat) (x_4 : Int) (x_5 : Int) (s : Nat → V), Facts [(0, (eL x_1)), (1, (ji x_4)), (4, (ji 0)), (5, (ji x_5))] s → w_heldIntS_l1 F x_1 k x_4 x_5 = some r → Run D σ (R31 r) (.run A31_1 [.lp A31_1, .bk 0, .sq A31_7]) s := by
  intro k
  induction k with
  | zero => intro x_4 x_5 s _ h; exact nomatch (h : (none : Option _) = some r)
  | succ k ih =>
    intro x_4 x_5 s hs h
    rw [w_heldIntS_l1] at h
    obtain ⟨h0, h1, h4, h5⟩ := hs
    refine .seq (.seq (rg (gm h5 fun h6 => gm h0 fun h7 => gv (ji (x_1.length : Int)) (ev_len (xs := x_1) h7) fun h8 => ?_)))
    refine g2 6 8 (jb (decide (x_5 < (x_1.length : Int)))) h6 h8 fun h9 => ?_
    refine gq (.nsq (run_cond (t := decide (x_5 < (x_1.length : Int))) h9 h (fun h => ?_) (fun h => ?_)))
    · refine .skip (.nsq (.seq (.block (.seq (.seq (rg (gm h0 fun h12 => gm h5 fun h13 => ?_)))))))
      obtain ⟨e_7, E_e_7, h⟩ := bind_some h
      refine gv (.ref .sh 0 [] (ji e_7)) (ev_idx (t := .sh) (lo := 0) (xs := x_1) h12 h13 E_e_7 rfl rfl) fun h14 => ?_
      refine g1 14 (ji e_7) h14 fun h15 => ?_
      refine gm h1 fun h16 => g2 15 16 (jb (e_7 != x_4)) h15 h16 fun h17 => ?_
      refine gq (.nsq (run_cond (t := (e_7 != x_4)) h17 h (fun h => ?_) (fun h => ?_)))
      · refine .seq (rg (g0 (ji (-1)) fun h4 => ?_))
        refine gq (.nsq (.ret ?_))
        have hr := Option.some.inj h
        subst hr
        exact rrA (res_tmp h4) rfl
      refine .skip (.nsq (rg (gm h1 fun h18 => g1 18 (ji (w64 (x_4 + 1))) h18 fun h19 => ?_)))
      refine gm h19 fun h1 => gq (.nbk (.nsq (rg (gm h5 fun h10 => g1 10 (ji (w64 (x_5 + 1))) h10 fun h11 => ?_))))
      refine gm h11 fun h5 => gq (.nlp ?_)
      exact ih (w64 (x_4 + 1)) (w64 (x_5 + 1)) _ ⟨h0, h1, h4, h5⟩ h
    refine .exit (.esq (.elp (.ebk (.nsq (.seq (rg (gm h1 fun h20 => gm h20 fun h4 => gq (.nsq (.ret ?_)))))))))
    have hr := Option.some.inj h
    subst hr
    exact rrA (res_tmp h4) rfl
def w_heldIntS (F : Nat) (x_1 : (List Int)) (x_2 : Int) : Option Int :=
  w_heldIntS_l1 F x_1 F x_2 0
theorem t31 (H : H31 D σ F) (x_1 : (List Int)) (x_2 : Int) (s : Nat → V) (hs : Facts [(0, (eL x_1)), (1, (ji x_2))] s) (h : w_heldIntS F x_1 x_2 = some r) : Run D σ (R31 r) (.run A31 []) s := by
  unfold w_heldIntS at h
  obtain ⟨h0, h1⟩ := hs
  refine .seq (rg (g0 (ji 0) fun h4 => gq (.nsq (.seq (.seq (rg (g0 (ji 0) fun h5 => gq (.nsq (.block (.loop ?_))))))))))
  exact t_f31_l1 H x_1 F x_2 0 _ ⟨h0, h1, h4, h5⟩ h
end
def e31 (F : Nat) : Ent := ent 31 (fun (x : ((List Int) × Int × Unit)) => w_heldIntS F x.1 x.2.1) (fun (r : Int) => (Enc.enc (r : Int))) 0 false []
theorem p31 {F : Nat} {x0 : (List Int)} {x1 : Int} {r : Int} (h : w_heldIntS F x0 x1 = some r) : (e31 F).den [Enc.enc x0, Enc.enc x1] = some (Enc.enc (r : Int)) := ent_put (x0, x1, ()) h
theorem o31 {D : Den} {σ : Sig} {F : Nat} (hF : Fits2 Try.prog D σ) (H : H31 D σ F) : (e31 F).Ok Try.prog := by
  refine ok_of (f := 31) (show unk 31 = 31 from rfl) (fun args r h => ?_) ⟨Try.f31, Try.func31, rfl, rfl⟩
  obtain ⟨⟨x0, x1, _⟩, y, rfl, hy, rfl⟩ := da_open h
  exact contract_run hF (by kernel_rfl) Try.func31 rfl c31 (show 2 ≤ Try.f31.ntmps by decide) (t31 H x0 x1 _ ⟨rfl, rfl⟩ hy)
/- loop.example/g01109/laws.FnExactBrambleCover -/
def A8_1 : AC := (.cond (.t 110) (.seq (.reg [] [((jv 4 (.mov (.k (.bool false)))))] []) .ret) .skip)
def A8_5 : AC := (.cond (.t 115) (.seq (.reg [] [((jv 4 (.mov (.k (.bool false)))))] []) .ret) .skip)
def A8_7 : AC := (.cond (.t 118) (.seq (.reg [] [((jv 4 (.mov (.k (.bool false)))))] []) .ret) .skip)
def A8_8 : AC := (.seq (.reg [] [((jv 4 (.mov (.k (.bool true)))))] []) .ret)
def A8_6 : AC := (.seq (.seq (.reg [] [(jm 116 14), (jm 117 13), ((jv 118 (.bin .neq (.t 116) (.t 117))))] []) A8_7) A8_8)
def A8_4 : AC := (.seq (.seq (.reg [] [(jm 114 14), ((jv 115 (.bin .lss (.t 114) (jn 0))))] []) A8_5) A8_6)
def A8_3 : AC := (.seq (.reg [] [(jm 111 10), (jm 112 14), (.mk (some 113) none false (.call (.k (.fn 31 [] [])) [(.t 111), (.t 112)])), (jm 14 113)] []) A8_4)
def A8_2 : AC := (.seq (.reg [] [((jv 14 (.mov (jn 1))))] []) A8_3)
def A8_9 : AC := (.cond (.t 82) (.seq (.reg [] [((jv 4 (.mov (.k (.bool false)))))] []) .ret) .skip)
def A8_15 : AC := (.cond (.t 90) (.seq (.reg [] [((jv 4 (.mov (.k (.bool false)))))] []) .ret) .skip)
def A8_17 : AC := (.cond (.t 93) (.seq (.reg [] [((jv 4 (.mov (.k (.bool false)))))] []) .ret) .skip)
def A8_19 : AC := (.seq (.seq (.reg [] [(jm 102 15), (jm 103 6), (.mk (some 104) none false (.call (.k (.fn 21 [] [])) [(.t 102), (.t 103)])), ((jv 105 (.un .not (.t 104)))), (jm 106 105), ((jg 107 106 false (.mov (.t 16)))), ((jg 108 106 false (.mov (.t 7)))), ((jg 109 106 false (.beq true (.t 107) (.t 108)))), ((jv 110 (.pick (.t 106) (.k (.bool true)) (.t 109))))] []) A8_1) A8_2)
def A8_18 : AC := (.seq (.reg [.clr [99]] [((jv 95 (.load (.ag [.s, .p]) (.t 2)))), (.mk (some 96) none false (.call (.k (.fn 17 [] [])) [(.t 95)])), (jm 97 1), (.mk (some 98) none false (.call (.k (.fn 27 [] [])) [(.t 97)])), (.mk (some 99) none false (.callO (.k (.fn 40 [] [])) [(.t 96), (.t 98)])), (jm 94 99), ((jv 100 (.ext (.t 94) 0))), ((jv 101 (.extS (.t 94) 1))), (jm 15 100), (jm 16 101)] [.home 99 15]) A8_19)
def A8_16 : AC := (.seq (.seq (.reg [] [(jm 91 14), (jm 92 13), ((jv 93 (.bin .neq (.t 91) (.t 92))))] []) A8_17) A8_18)
def A8_14 : AC := (.seq (.seq (.reg [] [(jm 89 14), ((jv 90 (.bin .lss (.t 89) (jn 0))))] []) A8_15) A8_16)
def A8_13 : AC := (.seq (.reg [] [(jm 86 10), (jm 87 14), (.mk (some 88) none false (.call (.k (.fn 31 [] [])) [(.t 86), (.t 87)])), (jm 14 88)] []) A8_14)
def A8_12 : AC := (.seq (.reg [] [((jv 14 (.mov (jn 1))))] []) A8_13)
def A8_11 : AC := (.seq (.reg [] [(jm 83 10), (jm 84 13), (.mk (some 85) none false (.mark (.k (.fn 23 [] [])) [(.t 83), (.t 84)])), (jm 13 85)] []) A8_12)
def A8_10 : AC := (.seq (.reg [] [((jv 13 (.mov (jn 1))))] []) A8_11)
def A8_20 : AC := (.cond (.t 53) (.seq (.reg [] [((jv 4 (.mov (.k (.bool false)))))] []) .ret) .skip)
def A8_22 : AC := (.cond (.t 58) (.seq (.reg [] [((jv 4 (.mov (.k (.bool false)))))] []) .ret) .skip)
def A8_24 : AC := (.cond (.t 63) (.seq (.reg [] [((jv 4 (.mov (.k (.bool false)))))] []) .ret) .skip)
def A8_28 : AC := (.seq (.seq (.reg [] [(jm 70 12), ((jv 71 (.bin .lss (.t 70) (jn 0)))), (jm 72 71), ((jg 73 72 false (.mov (.t 10)))), ((jg 74 72 false (.mov (.t 6)))), (.mk (some 75) (some (72, false)) false (.call (.k (.fn 21 [] [])) [(.t 73), (.t 74)])), ((jg 76 72 false (.un .not (.t 75)))), ((jv 77 (.pick (.t 72) (.k (.bool true)) (.t 76)))), (jm 78 77), ((jg 79 78 false (.mov (.t 11)))), ((jg 80 78 false (.mov (.t 7)))), ((jg 81 78 false (.beq true (.t 79) (.t 80)))), ((jv 82 (.pick (.t 78) (.k (.bool true)) (.t 81))))] []) A8_9) A8_10)
def A8_27 : AC := (.seq (.reg [] [(jm 67 9), (jm 68 12), (.mk (some 69) none false (.mark (.k (.fn 30 [] [])) [(.t 67), (.t 68)])), (jm 12 69)] []) A8_28)
def A8_26 : AC := (.seq (.reg [] [((jv 64 (.load (.ag [.s, .p]) (.t 8)))), (jm 65 12), (.mk (some 66) none false (.mark (.k (.fn 22 [] [])) [(.t 64), (.t 65)])), (jm 12 66)] []) A8_27)
def A8_25 : AC := (.seq (.reg [] [((jv 12 (.mov (jn 1))))] []) A8_26)
def A8_23 : AC := (.seq (.seq (.reg [] [(jm 59 9), (jm 60 1), (.mk (some 61) none false (.call (.k (.fn 27 [] [])) [(.t 60)])), (.mk (some 62) none false (.call (.k (.fn 29 [] [])) [(.t 59), (.t 61)])), ((jv 63 (.un .not (.t 62))))] []) A8_24) A8_25)
def A8_21 : AC := (.seq (.seq (.reg [] [((jv 54 (.load (.ag [.s, .p]) (.t 8)))), ((jv 55 (.load (.ag [.s, .p]) (.t 2)))), (.mk (some 56) none false (.call (.k (.fn 17 [] [])) [(.t 55)])), (.mk (some 57) none false (.call (.k (.fn 20 [] [])) [(.t 54), (.t 56)])), ((jv 58 (.un .not (.t 57))))] []) A8_22) A8_23)
def A8_32 : AC := (.cond (.t 21) (.seq (.reg [] [((jv 4 (.mov (.k (.bool true)))))] []) .ret) .skip)
def A8_35 : AC := (.cond (.t 26) (.seq (.reg [] [((jv 4 (.mov (.k (.bool true)))))] []) .ret) .skip)
def A8_40 : AC := (.seq (.seq (.reg [] [(jm 45 10), (jm 46 6), (.mk (some 47) none false (.call (.k (.fn 21 [] [])) [(.t 45), (.t 46)])), ((jv 48 (.un .not (.t 47)))), (jm 49 48), ((jg 50 49 false (.mov (.t 11)))), ((jg 51 49 false (.mov (.t 7)))), ((jg 52 49 false (.beq true (.t 50) (.t 51)))), ((jv 53 (.pick (.t 49) (.k (.bool true)) (.t 52))))] []) A8_20) A8_21)
def A8_39 : AC := (.seq (.reg [.clr [42]] [((jv 40 (.load (.ag [.s, .p]) (.t 8)))), (jm 41 9), (.mk (some 42) none false (.callO (.k (.fn 40 [] [])) [(.t 40), (.t 41)])), (jm 39 42), ((jv 43 (.ext (.t 39) 0))), ((jv 44 (.extS (.t 39) 1))), (jm 10 43), (jm 11 44)] [.home 42 10]) A8_40)
def A8_38 : AC := (.seq (.reg [.clr [38]] [(jm 37 1), (.mk (some 38) none false (.callO (.k (.fn 27 [] [])) [(.t 37)])), (jm 9 38)] [.home 38 9]) A8_39)
def A8_37 : AC := (.seq (.reg [.clr [36, 8]] [((jv 35 (.load (.ag [.s, .p]) (.t 2)))), (.mk (some 36) none false (.callO (.k (.fn 17 [] [])) [(.t 35)])), (.mk (some 8) none false (.alloc (.agg [(.int .i64 (.ofNat 0)), (.sl .nl (.ag [.s, .s]) 0 [])]))), (.mk none none false (.store (.ag [.s, .p]) (.t 8) (.t 36)))] []) A8_38)
def A8_36 : AC := (.seq (.reg [] [((jv 28 (.load (.ag [.s, .p]) (.t 2)))), (.mk (some 29) none false (.call (.k (.fn 17 [] [])) [(.t 28)])), (jm 30 1), (.mk (some 31) none false (.call (.k (.fn 27 [] [])) [(.t 30)])), (.mk (some 32) none false (.call (.k (.fn 39 [] [])) [(.t 29), (.t 31)])), (jm 27 32), ((jv 33 (.ext (.t 27) 0))), ((jv 34 (.extS (.t 27) 1))), (jm 6 33), (jm 7 34)] []) A8_37)
def A8_34 : AC := (.seq (.seq (.reg [] [(jm 25 5), ((jv 26 (.bin .lss (.t 25) (jn 0))))] []) A8_35) A8_36)
def A8_33 : AC := (.seq (.reg [] [(jm 22 1), (jm 23 5), (.mk (some 24) none false (.call (.k (.fn 25 [] [])) [(.t 22), (.t 23)])), (jm 5 24)] []) A8_34)
def A8_31 : AC := (.seq (.seq (.reg [] [(jm 20 5), ((jv 21 (.bin .lss (.t 20) (jn 0))))] []) A8_32) A8_33)
def A8_30 : AC := (.seq (.reg [] [((jv 17 (.load (.ag [.s, .p]) (.t 2)))), (jm 18 5), (.mk (some 19) none false (.call (.k (.fn 15 [] [])) [(.t 17), (.t 18)])), (jm 5 19)] []) A8_31)
def A8_29 : AC := (.seq (.reg [] [((jv 5 (.mov (jn 1048576))))] []) A8_30)
def A8 : AC := (.seq (.reg [.clr [2]] [(.mk (some 2) none false (.box (.t 0))), ((jv 4 (.mov (.k (.bool false)))))] []) A8_29)
def an8 : List An := [{ id := 0, pre := [.clr [2]], ep := [], lin := [], sp := [] }, { id := 9, pre := [.clr [36, 8]], ep := [], lin := [], sp := [1001] }, { id := 10, pre := [.clr [38]], ep := [.home 38 9], lin := [], sp := [1001] }, { id := 11, pre := [.clr [42]], ep := [.home 42 10], lin := [], sp := [1002] }, { id := 19, pre := [], ep := [], lin := [], sp := [2] }, { id := 20, pre := [], ep := [], lin := [], sp := [2] }, { id := 24, pre := [], ep := [], lin := [], sp := [2] }, { id := 31, pre := [.clr [99]], ep := [.home 99 15], lin := [], sp := [1004] }]
theorem c8 : cC Try.prog Try.f8.ntmps an8 (Try.f8.body.getD .skip) = some A8 := by kernel_rfl
structure H8 (D : Den) (σ : Sig) (F : Nat) : Prop where
  c15 : ∀ (x0 : (Int × (List (Int × Int)))) (x1 : Int) r, w_szGraph F x0 x1 = some r → D 15 [Enc.enc x0, Enc.enc x1] = some (Enc.enc (r : Int))
  g15 : σ 15 = some (0, false)
  c25 : ∀ (x0 : (List (List Int))) (x1 : Int) r, w_szIntSS F x0 x1 = some r → D 25 [Enc.enc x0, Enc.enc x1] = some (Enc.enc (r : Int))
  g25 : σ 25 = some (0, false)
  c17 : ∀ (x0 : (Int × (List (Int × Int)))) r, w_toGraph F x0 = some r → D 17 [Enc.enc x0] = some (Enc.enc (r : (Int × (List (Int × Int)))))
  g17 : σ 17 = some (0, true)
  c27 : ∀ (x0 : (List (List Int))) r, w_toIntSS F x0 = some r → D 27 [Enc.enc x0] = some (Enc.enc (r : (List (List Int))))
  g27 : σ 27 = some (0, true)
  c39 : ∀ (x0 : (Int × (List (Int × Int)))) (x1 : (List (List Int))) r, s_BrambleCover F x0 x1 = some r → D 39 [Enc.enc x0, Enc.enc x1] = some (.tup [Enc.enc (r.1 : (List Int)), Enc.enc (r.2 : Bool)])
  g39 : σ 39 = some (0, true)
  c17o : ∀ (x0 : (Int × (List (Int × Int)))) r, w_toGraph_o F x0 = some r → D 1000000017 [Enc.enc x0] = some (.agg [(Enc.enc (r.1 : Int)), (encO .sh (r.2 : NL (Int × Int)))])
  g17o : σ 1000000017 = some (1, false)
  c27o : ∀ (x0 : (List (List Int))) r, w_toIntSS_o F x0 = some r → D 1000000027 [Enc.enc x0] = some (encNs (r : NL (NL Int)))
  g27o : σ 1000000027 = some (2, false)
  c40o : ∀ (x0 : (Int × (List (Int × Int)))) (x1 : (List (List Int))) r, i_BrambleCover_o F x0 x1 = some r → D 1000000040 [Enc.enc x0, Enc.enc x1] = some (.tup [(encO .sh (r.1 : NL Int)), (Enc.enc (r.2 : Bool))])
  g40o : σ 1000000040 = some (1, false)
  c21 : ∀ (x0 : (List Int)) (x1 : (List Int)) r, w_eqIntS F x0 x1 = some r → D 21 [Enc.enc x0, Enc.enc x1] = some (Enc.enc (r : Bool))
  g21 : σ 21 = some (0, false)
  c20 : ∀ (x0 : (Int × (List (Int × Int)))) (x1 : (Int × (List (Int × Int)))) r, w_eqGraph F x0 x1 = some r → D 20 [Enc.enc x0, Enc.enc x1] = some (Enc.enc (r : Bool))
  g20 : σ 20 = some (0, false)
  c29 : ∀ (x0 : (List (List Int))) (x1 : (List (List Int))) r, w_eqIntSS F x0 x1 = some r → D 29 [Enc.enc x0, Enc.enc x1] = some (Enc.enc (r : Bool))
  g29 : σ 29 = some (0, false)
  c22 : ∀ (x0 : (Og (Int × Int))) (x1 : Int) r, w_markGraph F x0 x1 = some r → D 22 [Arg.arg x0, Enc.enc x1] = some (.tup [Enc.enc (r.1 : Int), .agg [Enc.enc (r.2.a : Int), encO (.at pinR [1]) (r.2.v : NL (Int × Int))]])
  g22 : σ 22 = some (pinR, false)
  c30 : ∀ (x0 : (On2 Int)) (x1 : Int) r, w_markIntSS F x0 x1 = some r → D 30 [Arg.arg x0, Enc.enc x1] = some (.tup [Enc.enc (r.1 : Int), encN pinR [] (r.2 : NL (NL Int))])
  g30 : σ 30 = some (pinR, false)
  c23 : ∀ (x0 : (On Int)) (x1 : Int) r, w_markIntS F x0 x1 = some r → D 23 [Arg.arg x0, Enc.enc x1] = some (.tup [Enc.enc (r.1 : Int), encO (.at pinR []) (r.2 : NL Int)])
  g23 : σ 23 = some (pinR, false)
  c31 : ∀ (x0 : (List Int)) (x1 : Int) r, w_heldIntS F x0 x1 = some r → D 31 [Enc.enc x0, Enc.enc x1] = some (Enc.enc (r : Int))
  g31 : σ 31 = some (0, false)
abbrev R8 (r : Bool) : (Nat → V) → Prop := RR Try.prog [.tmp 4] 0 false (Enc.enc (r : Bool))
section
variable {D : Den} {σ : Sig} {F : Nat} {r : Bool}
def w_FnExactBrambleCover_j1 (F : Nat) (m_22 : (NL Int)) (r_21 : (Int × (NL Int)))  (x_28 : Bool) : Option Bool :=
  bif x_28 then
    some false
  else
    (w_heldIntS F m_22.list 1).bind fun r_29 =>
    bif decide (r_29 < 0) then
      some false
    else
      bif (r_29 != r_21.1) then
        some false
      else
        some true
theorem t_f8_j1 (H : H8 D σ F) (m_22 : (NL Int)) (r_21 : (Int × (NL Int)))  (x_28 : Bool) (s : Nat → V) (hs : Facts [(4, (jb false)), (10, (oI 10 [0] m_22)), (13, (ji r_21.1)), (110, (jb x_28))] s) (h : w_FnExactBrambleCover_j1 F m_22 r_21  x_28 = some r) : Run D σ (R8 r) (.nrm [.sq A8_1, .sq A8_2]) s := by
  unfold w_FnExactBrambleCover_j1 at h
  obtain ⟨h4, h10, h13, h110⟩ := hs
  refine .nsq (run_cond (t := x_28) h110 h (fun h => ?_) (fun h => ?_))
  · refine .seq (rg (g0 (jb false) fun h4 => ?_))
    refine gq (.nsq (.ret ?_))
    have hr := Option.some.inj h
    subst hr
    exact rrA (res_tmp h4) rfl
  refine .skip (.nsq (.seq (rg (g0 (ji 1) fun h14 => gq (.nsq (.seq (rg (gv (oI 10 [0] m_22) (ev_mov h10 ok_encO) fun h111 => ?_))))))))
  refine gm h14 fun h112 => ?_
  obtain ⟨r_29, E_r_29, h⟩ := bind_some h
  refine g_call (m := 0) (al := false) (r := (Enc.enc (r_29 : Int))) [Enc.enc (m_22.list : (List Int)), Enc.enc (1 : Int)] (ta_cons (v := (oI 10 [0] m_22)) h111 ok_encP (erase_encO (o := m_22)) (ta_cons (v := (ji 1)) h112 rfl rfl ta_nil)) (H.c31 _ _ _ E_r_29) H.g31 rfl rfl rfl rfl ?_
  refine gm (rfl : (_ : V) = (ji r_29)) fun h14 => ?_
  refine gq (.nsq (.seq (.seq (rg (gm h14 fun h114 => g1 114 (jb (decide (r_29 < 0))) h114 fun h115 => ?_)))))
  refine gq (.nsq (run_cond (t := decide (r_29 < 0)) h115 h (fun h => ?_) (fun h => ?_)))
  · refine .seq (rg (g0 (jb false) fun h4 => ?_))
    refine gq (.nsq (.ret ?_))
    have hr := Option.some.inj h
    subst hr
    exact rrA (res_tmp h4) rfl
  refine .skip (.nsq (.seq (.seq (rg (gm h14 fun h116 => gm h13 fun h117 => g2 116 117 (jb (r_29 != r_21.1)) h116 h117 fun h118 => ?_)))))
  refine gq (.nsq (run_cond (t := (r_29 != r_21.1)) h118 h (fun h => ?_) (fun h => ?_)))
  · refine .seq (rg (g0 (jb false) fun h4 => ?_))
    refine gq (.nsq (.ret ?_))
    have hr := Option.some.inj h
    subst hr
    exact rrA (res_tmp h4) rfl
  refine .skip (.nsq (.seq (rg (g0 (jb true) fun h4 => ?_))))
  refine gq (.nsq (.ret ?_))
  have hr := Option.some.inj h
  subst hr
  exact rrA (res_tmp h4) rfl
def w_FnExactBrambleCover_j2 (F : Nat) (x_2 : (List (List Int))) (x_1 : (Int × (List (Int × Int)))) (r_7 : ((List Int) × Bool)) (r_10 : ((NL Int) × Bool))  (x_20 : Bool) : Option Bool :=
  bif x_20 then
    some false
  else
    (w_markIntS F (On.mk r_10.1 : (On Int)) 1).bind fun r_21 =>
    (remark r_10.1 r_21.2).bind fun m_22 =>
    (w_heldIntS F m_22.list 1).bind fun r_23 =>
    bif decide (r_23 < 0) then
      some false
    else
      bif (r_23 != r_21.1) then
        some false
      else
        (w_toGraph F x_1).bind fun r_24 =>
        (w_toIntSS F x_2).bind fun r_25 =>
        (i_BrambleCover_o F r_24 r_25).bind fun r_26 =>
        (w_eqIntS F r_26.1.list r_7.1).bind fun r_30 =>
        bif (!r_30) then
          w_FnExactBrambleCover_j1 F m_22 r_21 true
        else
          w_FnExactBrambleCover_j1 F m_22 r_21 (r_26.2 != r_7.2)
theorem t_f8_j2 (H : H8 D σ F) (x_2 : (List (List Int))) (x_1 : (Int × (List (Int × Int)))) (r_7 : ((List Int) × Bool)) (r_10 : ((NL Int) × Bool))  (x_20 : Bool) (s : Nat → V) (hs : Facts [(1, (Enc.enc (x_2 : List (List Int)))), (2, (.ref (.bx 2) 0 [] (.agg [(ji x_1.1), (Enc.enc (x_1.2 : List (Int × Int)))]))), (4, (jb false)), (6, (eL r_7.1)), (7, (jb r_7.2)), (10, (oI 10 [0] r_10.1)), (82, (jb x_20))] s) (h : w_FnExactBrambleCover_j2 F x_2 x_1 r_7 r_10  x_20 = some r) : Run D σ (R8 r) (.nrm [.sq A8_9, .sq A8_10]) s := by
  unfold w_FnExactBrambleCover_j2 at h
  obtain ⟨h1, h2, h4, h6, h7, h10, h82⟩ := hs
  refine .nsq (run_cond (t := x_20) h82 h (fun h => ?_) (fun h => ?_))
  · refine .seq (rg (g0 (jb false) fun h4 => ?_))
    refine gq (.nsq (.ret ?_))
    have hr := Option.some.inj h
    subst hr
    exact rrA (res_tmp h4) rfl
  refine .skip (.nsq (.seq (rg (g0 (ji 1) fun h13 => gq (.nsq (.seq (rg (gv (oI 10 [0] r_10.1) (ev_mov h10 ok_encO) fun h83 => ?_))))))))
  refine gm h13 fun h84 => ?_
  obtain ⟨r_21, E_r_21, h⟩ := bind_some h
  obtain ⟨m_22, E_m_22, h⟩ := bind_some h
  refine g_mark (v := (oI 10 [0] r_10.1)) h83 (canon_own (o := (r_10.1 : (NL Int))) rfl) (rdAll_cons (v := (ji 1)) h84 rfl rdAll_nil) (H.c23 _ _ _ E_r_21) H.g23 rfl rfl (fun s_9 hm_9 => ?_)
  refine gm (rfl : (_ : V) = (ji r_21.1)) fun h13 => ?_
  refine gz [(1, _), (2, (.ref (.bx 2) 0 [] (.agg [(ji x_1.1), (Enc.enc (x_1.2 : List (Int × Int)))]))), (4, (jb false)), (6, _), (7, (jb r_7.2)), (10, (oI 10 [0] m_22)), (13, _)] ⟨(show s_9 1 = (Enc.enc (x_2 : List (List Int))) from hm_9 1 (Enc.enc (x_2 : List (List Int))) (Enc.enc (x_2 : List (List Int))) h1 (rem_enc (xs := (x_2 : List (List Int))))), (show s_9 2 = (.ref (.bx 2) 0 [] (.agg [(ji x_1.1), (Enc.enc (x_1.2 : List (Int × Int)))])) from hm_9 2 (.ref (.bx 2) 0 [] (.agg [(ji x_1.1), (Enc.enc (x_1.2 : List (Int × Int)))])) (.ref (.bx 2) 0 [] (.agg [(ji x_1.1), (Enc.enc (x_1.2 : List (Int × Int)))])) h2 (rem_self _ (map_bx (killO_ne rfl) (map_agg (maps_cons rfl (maps_cons (Enc.map_enc _ (x_1.2 : List (Int × Int))) maps_nil)))))), (show s_9 4 = (jb false) from hm_9 4 (jb false) (jb false) h4 (rem_self _ rfl)), (show s_9 6 = (eL r_7.1) from hm_9 6 (eL r_7.1) (eL r_7.1) h6 (rem_enc (xs := (r_7.1 : List Int)))), (show s_9 7 = (jb r_7.2) from hm_9 7 (jb r_7.2) (jb r_7.2) h7 (rem_self _ rfl)), (show s_9 10 = (oI 10 [0] m_22) from hm_9 10 (oI 10 [0] r_10.1) (oI 10 [0] m_22) h10 (marked_own (o := (r_10.1 : NL Int)) rfl E_m_22)), h13⟩ ?_
  rintro s ⟨h1, h2, h4, h6, h7, h10, h13⟩
  refine .nsq (.seq (rg (g0 (ji 1) fun h14 => gq (.nsq (.seq (rg (gv (oI 10 [0] m_22) (ev_mov h10 ok_encO) fun h86 => ?_)))))))
  refine gm h14 fun h87 => ?_
  obtain ⟨r_23, E_r_23, h⟩ := bind_some h
  refine g_call (m := 0) (al := false) (r := (Enc.enc (r_23 : Int))) [Enc.enc (m_22.list : (List Int)), Enc.enc (1 : Int)] (ta_cons (v := (oI 10 [0] m_22)) h86 ok_encP (erase_encO (o := m_22)) (ta_cons (v := (ji 1)) h87 rfl rfl ta_nil)) (H.c31 _ _ _ E_r_23) H.g31 rfl rfl rfl rfl ?_
  refine gm (rfl : (_ : V) = (ji r_23)) fun h14 => ?_
  refine gq (.nsq (.seq (.seq (rg (gm h14 fun h89 => g1 89 (jb (decide (r_23 < 0))) h89 fun h90 => ?_)))))
  refine gq (.nsq (run_cond (t := decide (r_23 < 0)) h90 h (fun h => ?_) (fun h => ?_)))
  · refine .seq (rg (g0 (jb false) fun h4 => ?_))
    refine gq (.nsq (.ret ?_))
    have hr := Option.some.inj h
    subst hr
    exact rrA (res_tmp h4) rfl
  refine .skip (.nsq (.seq (.seq (rg (gm h14 fun h91 => gm h13 fun h92 => g2 91 92 (jb (r_23 != r_21.1)) h91 h92 fun h93 => ?_)))))
  refine gq (.nsq (run_cond (t := (r_23 != r_21.1)) h93 h (fun h => ?_) (fun h => ?_)))
  · refine .seq (rg (g0 (jb false) fun h4 => ?_))
    refine gq (.nsq (.ret ?_))
    have hr := Option.some.inj h
    subst hr
    exact rrA (res_tmp h4) rfl
  refine .skip (.nsq (.seq (run_reg ?_)))
  refine e_clr ?_
  refine ez [(1, _), (2, _), (4, _), (6, _), (7, _), (10, _), (13, _), (99, _)] ⟨(keep_clear (pk := [99]) h1 rfl me), (keep_clear (pk := [99]) h2 rfl (map_bx rfl (map_agg (maps_cons mi (maps_cons me maps_nil))))), (keep_clear (pk := [99]) h4 rfl mb), (keep_clear (pk := [99]) h6 rfl me), (keep_clear (pk := [99]) h7 rfl mb), (keep_clear (pk := [99]) h10 rfl (map_encO (r := 10) (p := [0]) rfl rfl)), (keep_clear (pk := [99]) h13 rfl mi), (gone_clear (pk := [99]) (t := 99) rfl)⟩ ?_
  rintro s ⟨h1, h2, h4, h6, h7, h10, h13, h99⟩
  refine g1 2 (.agg [(ji x_1.1), (Enc.enc (x_1.2 : List (Int × Int)))]) h2 fun h95 => ?_
  obtain ⟨r_24, E_r_24, h⟩ := bind_some h
  refine g_call (m := 0) (al := true) (r := (Enc.enc (r_24 : (Int × (List (Int × Int)))))) [Enc.enc (x_1 : (Int × (List (Int × Int))))] (ta_cons (v := (.agg [(ji x_1.1), (Enc.enc (x_1.2 : List (Int × Int)))])) h95 rfl (Enc.erase_enc (x_1 : (Int × (List (Int × Int))))) ta_nil) (H.c17 _ _ E_r_24) H.g17 (hal_of (ht_cons (v := (.agg [(ji x_1.1), (Enc.enc (x_1.2 : List (Int × Int)))])) h95 rfl rfl ht_nil)) rfl rfl rfl ?_
  refine gm h1 fun h97 => ?_
  obtain ⟨r_25, E_r_25, h⟩ := bind_some h
  refine g_call (m := 0) (al := true) (r := (Enc.enc (r_25 : (List (List Int))))) [Enc.enc (x_2 : (List (List Int)))] (ta_cons (v := (Enc.enc (x_2 : List (List Int)))) h97 rfl (Enc.erase_enc (x_2 : (List (List Int)))) ta_nil) (H.c27 _ _ E_r_25) H.g27 (hal_of (ht_cons (v := (Enc.enc (x_2 : List (List Int)))) h97 rfl rfl ht_nil)) rfl rfl rfl ?_
  obtain ⟨r_26, E_r_26, h⟩ := bind_some h
  refine g_callO (m := 1) (al := false) (r := (.tup [(encO .sh (r_26.1 : NL Int)), (Enc.enc (r_26.2 : Bool))])) (v := (.tup [(oI 99 [0] r_26.1), (jb r_26.2)])) (kk := 1000000040) [Enc.enc (r_24 : (Int × (List (Int × Int)))), Enc.enc (r_25 : (List (List Int)))] (ta_cons (v := (.agg [(ji r_24.1), (Enc.enc (r_24.2 : List (Int × Int)))])) rfl rfl (Enc.erase_enc (r_24 : (Int × (List (Int × Int))))) (ta_cons (v := (Enc.enc (r_25 : List (List Int)))) rfl rfl (Enc.erase_enc (r_25 : (List (List Int)))) ta_nil)) (H.c40o _ _ _ E_r_26) H.g40o rfl (toks_tup (tokss_cons toks_encS (tokss_cons rfl tokss_nil))) (tag_tup (tags_cons tag_encO (tags_cons rfl tags_nil))) rfl h99 ?_
  refine gm (rfl : (_ : V) = (.tup [(oI 99 [0] r_26.1), (jb r_26.2)])) fun h94 => ?_
  refine gv (oI 99 [0] r_26.1) (ev_extN (v := (oI 99 [0] r_26.1)) h94 rfl ok_encP) fun h100 => ?_
  refine g1 94 (jb r_26.2) h94 fun h101 => ?_
  refine gv (oI 99 [0] r_26.1) (ev_mov h100 ok_encO) fun h15 => ?_
  refine gm h101 fun h16 => g_end ?_
  refine e_home (r := 99) (x := 15) (v := _) h15 ok_encO (fun s_11 hg_11 => ?_)
  refine ez [(4, (jb false)), (6, (eL r_7.1)), (7, (jb r_7.2)), (10, (oI 10 [0] m_22)), (13, (ji r_21.1)), (15, (oI 15 [0] r_26.1)), (16, (jb r_26.2))] ⟨(hg_11 4 _ _ h4 mb), (hg_11 6 _ _ h6 me), (hg_11 7 _ _ h7 mb), (hg_11 10 _ _ h10 (map_encO (r := 10) (p := [0]) rfl rfl)), (hg_11 13 _ _ h13 mi), (hg_11 15 _ _ h15 (map_encO (r := 99) (p := [0]) rfl rfl)), (hg_11 16 _ _ h16 mb)⟩ ?_
  rintro s ⟨h4, h6, h7, h10, h13, h15, h16⟩
  refine .nsq (.seq (.seq (rg (gv (oI 15 [0] r_26.1) (ev_mov h15 ok_encO) fun h102 => ?_))))
  refine gm h6 fun h103 => ?_
  obtain ⟨r_30, E_r_30, h⟩ := bind_some h
  refine g_call (m := 0) (al := false) (r := (Enc.enc (r_30 : Bool))) [Enc.enc (r_26.1.list : (List Int)), Enc.enc (r_7.1 : (List Int))] (ta_cons (v := (oI 15 [0] r_26.1)) h102 ok_encP (erase_encO (o := r_26.1)) (ta_cons (v := (eL r_7.1)) h103 rfl (Enc.erase_enc (r_7.1 : (List Int))) ta_nil)) (H.c21 _ _ _ E_r_30) H.g21 rfl rfl rfl rfl ?_
  refine g1 104 (jb (!r_30)) (rfl : (_ : V) = (jb r_30)) fun h105 => ?_
  refine gm h105 fun h106 => split_on (c := (!r_30)) h (fun hg5 h => ?_) (fun hg5 h => ?_)
  · refine g_no (h106.trans (congrArg V.bool hg5)) ?_
    refine g_no (h106.trans (congrArg V.bool hg5)) ?_
    refine g_no (h106.trans (congrArg V.bool hg5)) ?_
    refine g2 106 109 (jb true) (h106.trans (congrArg V.bool hg5)) (rfl : (_ : V) = (.tup [])) fun h110 => ?_
    refine gq ?_
    exact t_f8_j1 H m_22 r_21 true _ ⟨h4, h10, h13, h110⟩ h
  refine g_yes (h106.trans (congrArg V.bool hg5)) (gm h16 fun h107 => ?_)
  refine g_yes (h106.trans (congrArg V.bool hg5)) (gm h7 fun h108 => ?_)
  refine g_yes (h106.trans (congrArg V.bool hg5)) (g2 107 108 (jb (r_26.2 != r_7.2)) h107 h108 fun h109 => ?_)
  refine g2 106 109 (jb (r_26.2 != r_7.2)) (h106.trans (congrArg V.bool hg5)) h109 fun h110 => ?_
  refine gq ?_
  exact t_f8_j1 H m_22 r_21 (r_26.2 != r_7.2) _ ⟨h4, h10, h13, h110⟩ h
def w_FnExactBrambleCover_j3 (F : Nat) (x_2 : (List (List Int))) (x_1 : (Int × (List (Int × Int)))) (r_7 : ((List Int) × Bool)) (r_8 : (Int × (NL (Int × Int)))) (r_9 : (NL (NL Int))) (r_10 : ((NL Int) × Bool))  (x_12 : Bool) : Option Bool :=
  bif x_12 then
    some false
  else
    (w_toGraph F x_1).bind fun r_13 =>
    (w_eqGraph F (r_8.1, r_8.2.list) r_13).bind fun r_14 =>
    bif (!r_14) then
      some false
    else
      (w_toIntSS F x_2).bind fun r_15 =>
      (w_eqIntSS F (List.map NL.list r_9.list) r_15).bind fun r_16 =>
      bif (!r_16) then
        some false
      else
        (w_markGraph F (Og.mk r_8.1 r_8.2 : (Og (Int × Int))) 1).bind fun r_17 =>
        (w_markIntSS F (On2.mk r_9 : (On2 Int)) r_17.1).bind fun r_18 =>
        bif decide (r_18.1 < 0) then
          w_FnExactBrambleCover_j2 F x_2 x_1 r_7 r_10 true
        else
          (w_eqIntS F r_10.1.list r_7.1).bind fun r_31 =>
          bif (!r_31) then
            w_FnExactBrambleCover_j2 F x_2 x_1 r_7 r_10 true
          else
            w_FnExactBrambleCover_j2 F x_2 x_1 r_7 r_10 (r_10.2 != r_7.2)
theorem t_f8_j3 (H : H8 D σ F) (x_2 : (List (List Int))) (x_1 : (Int × (List (Int × Int)))) (r_7 : ((List Int) × Bool)) (r_8 : (Int × (NL (Int × Int)))) (r_9 : (NL (NL Int))) (r_10 : ((NL Int) × Bool))  (x_12 : Bool) (s : Nat → V) (hs : Facts [(1, (Enc.enc (x_2 : List (List Int)))), (2, (.ref (.bx 2) 0 [] (.agg [(ji x_1.1), (Enc.enc (x_1.2 : List (Int × Int)))]))), (4, (jb false)), (6, (eL r_7.1)), (7, (jb r_7.2)), (8, (.ref (.bx 8) 0 [] (.agg [(ji r_8.1), (encO (.at 36 [1]) (r_8.2 : NL (Int × Int)))]))), (9, (encN 9 [] (r_9 : NL (NL Int)))), (10, (oI 10 [0] r_10.1)), (11, (jb r_10.2)), (53, (jb x_12))] s) (h : w_FnExactBrambleCover_j3 F x_2 x_1 r_7 r_8 r_9 r_10  x_12 = some r) : Run D σ (R8 r) (.nrm [.sq A8_20, .sq A8_21]) s := by
  unfold w_FnExactBrambleCover_j3 at h
  obtain ⟨h1, h2, h4, h6, h7, h8, h9, h10, h11, h53⟩ := hs
  refine .nsq (run_cond (t := x_12) h53 h (fun h => ?_) (fun h => ?_))
  · refine .seq (rg (g0 (jb false) fun h4 => ?_))
    refine gq (.nsq (.ret ?_))
    have hr := Option.some.inj h
    subst hr
    exact rrA (res_tmp h4) rfl
  refine .skip (.nsq (.seq (.seq (rg (gv (.agg [(ji r_8.1), (encO (.at 36 [1]) (r_8.2 : NL (Int × Int)))]) (ev_loadN (c := (.agg [(ji r_8.1), (encO (.at 36 [1]) (r_8.2 : NL (Int × Int)))])) h8 (by simp [V.shape, V.shapes, shape_encP, Sh.beq, Sh.beqs])) fun h54 => ?_)))))
  refine g1 2 (.agg [(ji x_1.1), (Enc.enc (x_1.2 : List (Int × Int)))]) h2 fun h55 => ?_
  obtain ⟨r_13, E_r_13, h⟩ := bind_some h
  refine g_call (m := 0) (al := true) (r := (Enc.enc (r_13 : (Int × (List (Int × Int)))))) [Enc.enc (x_1 : (Int × (List (Int × Int))))] (ta_cons (v := (.agg [(ji x_1.1), (Enc.enc (x_1.2 : List (Int × Int)))])) h55 rfl (Enc.erase_enc (x_1 : (Int × (List (Int × Int))))) ta_nil) (H.c17 _ _ E_r_13) H.g17 (hal_of (ht_cons (v := (.agg [(ji x_1.1), (Enc.enc (x_1.2 : List (Int × Int)))])) h55 rfl rfl ht_nil)) rfl rfl rfl ?_
  obtain ⟨r_14, E_r_14, h⟩ := bind_some h
  refine g_call (m := 0) (al := false) (r := (Enc.enc (r_14 : Bool))) [Enc.enc ((r_8.1, r_8.2.list) : (Int × (List (Int × Int)))), Enc.enc (r_13 : (Int × (List (Int × Int))))] (ta_cons (v := (.agg [(ji r_8.1), (encO (.at 36 [1]) (r_8.2 : NL (Int × Int)))])) h54 rfl (erase_agg (erases_cons rfl (erases_cons (erase_encO (o := r_8.2)) erases_nil))) (ta_cons (v := (.agg [(ji r_13.1), (Enc.enc (r_13.2 : List (Int × Int)))])) rfl rfl (Enc.erase_enc (r_13 : (Int × (List (Int × Int))))) ta_nil)) (H.c20 _ _ _ E_r_14) H.g20 rfl rfl rfl rfl ?_
  refine g1 57 (jb (!r_14)) (rfl : (_ : V) = (jb r_14)) fun h58 => ?_
  refine gq (.nsq (run_cond (t := (!r_14)) h58 h (fun h => ?_) (fun h => ?_)))
  · refine .seq (rg (g0 (jb false) fun h4 => ?_))
    refine gq (.nsq (.ret ?_))
    have hr := Option.some.inj h
    subst hr
    exact rrA (res_tmp h4) rfl
  refine .skip (.nsq (.seq (.seq (rg (gv (encN 9 [] (r_9 : NL (NL Int))) (ev_mov h9 ok_encN) fun h59 => ?_)))))
  refine gm h1 fun h60 => ?_
  obtain ⟨r_15, E_r_15, h⟩ := bind_some h
  refine g_call (m := 0) (al := true) (r := (Enc.enc (r_15 : (List (List Int))))) [Enc.enc (x_2 : (List (List Int)))] (ta_cons (v := (Enc.enc (x_2 : List (List Int)))) h60 rfl (Enc.erase_enc (x_2 : (List (List Int)))) ta_nil) (H.c27 _ _ E_r_15) H.g27 (hal_of (ht_cons (v := (Enc.enc (x_2 : List (List Int)))) h60 rfl rfl ht_nil)) rfl rfl rfl ?_
  obtain ⟨r_16, E_r_16, h⟩ := bind_some h
  refine g_call (m := 0) (al := false) (r := (Enc.enc (r_16 : Bool))) [Enc.enc ((List.map NL.list r_9.list) : (List (List Int))), Enc.enc (r_15 : (List (List Int)))] (ta_cons (v := (encN 9 [] (r_9 : NL (NL Int)))) h59 ok_encN (erase_encN (o := (r_9 : NL (NL Int)))) (ta_cons (v := (Enc.enc (r_15 : List (List Int)))) rfl rfl (Enc.erase_enc (r_15 : (List (List Int)))) ta_nil)) (H.c29 _ _ _ E_r_16) H.g29 rfl rfl rfl rfl ?_
  refine g1 62 (jb (!r_16)) (rfl : (_ : V) = (jb r_16)) fun h63 => ?_
  refine gq (.nsq (run_cond (t := (!r_16)) h63 h (fun h => ?_) (fun h => ?_)))
  · refine .seq (rg (g0 (jb false) fun h4 => ?_))
    refine gq (.nsq (.ret ?_))
    have hr := Option.some.inj h
    subst hr
    exact rrA (res_tmp h4) rfl
  refine .skip (.nsq (.seq (rg (g0 (ji 1) fun h12 => gq (.nsq (.seq (rg (gv (.agg [(ji r_8.1), (encO (.at 36 [1]) (r_8.2 : NL (Int × Int)))]) (ev_loadN (c := (.agg [(ji r_8.1), (encO (.at 36 [1]) (r_8.2 : NL (Int × Int)))])) h8 (by simp [V.shape, V.shapes, shape_encP, Sh.beq, Sh.beqs])) fun h64 => ?_))))))))
  refine gm h12 fun h65 => ?_
  obtain ⟨r_17, E_r_17, h⟩ := bind_some h
  refine g_mark (v := (.agg [(ji r_8.1), (encO (.at 36 [1]) (r_8.2 : NL (Int × Int)))])) h64 (canon_agg (a := r_8.1) (o := (r_8.2 : NL (Int × Int))) rfl) (rdAll_cons (v := (ji 1)) h65 rfl rdAll_nil) (H.c22 _ _ _ E_r_17) H.g22 rfl rfl (fun s_7 hm_7 => ?_)
  refine gm (rfl : (_ : V) = (ji r_17.1)) fun h12 => ?_
  refine gz [(1, _), (2, (.ref (.bx 2) 0 [] (.agg [(ji x_1.1), (Enc.enc (x_1.2 : List (Int × Int)))]))), (4, (jb false)), (6, _), (7, (jb r_7.2)), (9, (encN 9 [] (r_9 : NL (NL Int)))), (10, (oI 10 [0] r_10.1)), (11, (jb r_10.2)), (12, _)] ⟨(show s_7 1 = (Enc.enc (x_2 : List (List Int))) from hm_7 1 (Enc.enc (x_2 : List (List Int))) (Enc.enc (x_2 : List (List Int))) h1 (rem_enc (xs := (x_2 : List (List Int))))), (show s_7 2 = (.ref (.bx 2) 0 [] (.agg [(ji x_1.1), (Enc.enc (x_1.2 : List (Int × Int)))])) from hm_7 2 (.ref (.bx 2) 0 [] (.agg [(ji x_1.1), (Enc.enc (x_1.2 : List (Int × Int)))])) (.ref (.bx 2) 0 [] (.agg [(ji x_1.1), (Enc.enc (x_1.2 : List (Int × Int)))])) h2 (rem_self _ (map_bx (killO_ne rfl) (map_agg (maps_cons rfl (maps_cons (Enc.map_enc _ (x_1.2 : List (Int × Int))) maps_nil)))))), (show s_7 4 = (jb false) from hm_7 4 (jb false) (jb false) h4 (rem_self _ rfl)), (show s_7 6 = (eL r_7.1) from hm_7 6 (eL r_7.1) (eL r_7.1) h6 (rem_enc (xs := (r_7.1 : List Int)))), (show s_7 7 = (jb r_7.2) from hm_7 7 (jb r_7.2) (jb r_7.2) h7 (rem_self _ rfl)), (show s_7 9 = (encN 9 [] (r_9 : NL (NL Int))) from hm_7 9 (encN 9 [] (r_9 : NL (NL Int))) (encN 9 [] (r_9 : NL (NL Int))) h9 (rem_self _ (map_encN (r := 9) (p := []) (killO_ne rfl) (fun _ => killO_ne rfl) (killO_ne rfl)))), (show s_7 10 = (oI 10 [0] r_10.1) from hm_7 10 (oI 10 [0] r_10.1) (oI 10 [0] r_10.1) h10 (rem_self _ (map_encO (r := 10) (p := [0]) (killO_ne rfl) (killO_ne rfl)))), (show s_7 11 = (jb r_10.2) from hm_7 11 (jb r_10.2) (jb r_10.2) h11 (rem_self _ rfl)), h12⟩ ?_
  rintro s ⟨h1, h2, h4, h6, h7, h9, h10, h11, h12⟩
  refine .nsq (.seq (rg (gv (encN 9 [] (r_9 : NL (NL Int))) (ev_mov h9 ok_encN) fun h67 => ?_)))
  refine gm h12 fun h68 => ?_
  obtain ⟨r_18, E_r_18, h⟩ := bind_some h
  refine g_mark (v := (encN 9 [] (r_9 : NL (NL Int)))) h67 (canon_N (o := (r_9 : (NL (NL Int)))) rfl) (rdAll_cons (v := (ji r_17.1)) h68 rfl rdAll_nil) (H.c30 _ _ _ E_r_18) H.g30 rfl rfl (fun s_8 hm_8 => ?_)
  refine gm (rfl : (_ : V) = (ji r_18.1)) fun h12 => ?_
  refine gz [(1, _), (2, (.ref (.bx 2) 0 [] (.agg [(ji x_1.1), (Enc.enc (x_1.2 : List (Int × Int)))]))), (4, (jb false)), (6, _), (7, (jb r_7.2)), (10, (oI 10 [0] r_10.1)), (11, (jb r_10.2)), (12, _)] ⟨(show s_8 1 = (Enc.enc (x_2 : List (List Int))) from hm_8 1 (Enc.enc (x_2 : List (List Int))) (Enc.enc (x_2 : List (List Int))) h1 (rem_enc (xs := (x_2 : List (List Int))))), (show s_8 2 = (.ref (.bx 2) 0 [] (.agg [(ji x_1.1), (Enc.enc (x_1.2 : List (Int × Int)))])) from hm_8 2 (.ref (.bx 2) 0 [] (.agg [(ji x_1.1), (Enc.enc (x_1.2 : List (Int × Int)))])) (.ref (.bx 2) 0 [] (.agg [(ji x_1.1), (Enc.enc (x_1.2 : List (Int × Int)))])) h2 (rem_self _ (map_bx killN_bx (map_agg (maps_cons rfl (maps_cons (Enc.map_enc _ (x_1.2 : List (Int × Int))) maps_nil)))))), (show s_8 4 = (jb false) from hm_8 4 (jb false) (jb false) h4 (rem_self _ rfl)), (show s_8 6 = (eL r_7.1) from hm_8 6 (eL r_7.1) (eL r_7.1) h6 (rem_enc (xs := (r_7.1 : List Int)))), (show s_8 7 = (jb r_7.2) from hm_8 7 (jb r_7.2) (jb r_7.2) h7 (rem_self _ rfl)), (show s_8 10 = (oI 10 [0] r_10.1) from hm_8 10 (oI 10 [0] r_10.1) (oI 10 [0] r_10.1) h10 (rem_self _ (map_encO (r := 10) (p := [0]) (killN_ne rfl) killN_nl))), (show s_8 11 = (jb r_10.2) from hm_8 11 (jb r_10.2) (jb r_10.2) h11 (rem_self _ rfl)), h12⟩ ?_
  rintro s ⟨h1, h2, h4, h6, h7, h10, h11, h12⟩
  refine .nsq (.seq (.seq (rg (gm h12 fun h70 => g1 70 (jb (decide (r_18.1 < 0))) h70 fun h71 => ?_))))
  refine gm h71 fun h72 => split_on (c := decide (r_18.1 < 0)) h (fun hg3 h => ?_) (fun hg3 h => ?_)
  · refine g_no (h72.trans (congrArg V.bool hg3)) ?_
    refine g_no (h72.trans (congrArg V.bool hg3)) ?_
    refine g_no (h72.trans (congrArg V.bool hg3)) ?_
    refine g_no (h72.trans (congrArg V.bool hg3)) ?_
    refine g2 72 76 (jb true) (h72.trans (congrArg V.bool hg3)) (rfl : (_ : V) = (.tup [])) fun h77 => ?_
    refine gm h77 fun h78 => g_no h78 ?_
    refine g_no h78 ?_
    refine g_no h78 ?_
    refine g2 78 81 (jb true) h78 (rfl : (_ : V) = (.tup [])) fun h82 => ?_
    refine gq ?_
    exact t_f8_j2 H x_2 x_1 r_7 r_10 true _ ⟨h1, h2, h4, h6, h7, h10, h82⟩ h
  refine g_yes (h72.trans (congrArg V.bool hg3)) (gv (oI 10 [0] r_10.1) (ev_mov h10 ok_encO) fun h73 => ?_)
  refine g_yes (h72.trans (congrArg V.bool hg3)) (gm h6 fun h74 => ?_)
  obtain ⟨r_31, E_r_31, h⟩ := bind_some h
  refine g_yes (h72.trans (congrArg V.bool hg3)) (g_call (m := 0) (al := false) (r := (Enc.enc (r_31 : Bool))) [Enc.enc (r_10.1.list : (List Int)), Enc.enc (r_7.1 : (List Int))] (ta_cons (v := (oI 10 [0] r_10.1)) h73 ok_encP (erase_encO (o := r_10.1)) (ta_cons (v := (eL r_7.1)) h74 rfl (Enc.erase_enc (r_7.1 : (List Int))) ta_nil)) (H.c21 _ _ _ E_r_31) H.g21 rfl rfl rfl rfl ?_)
  refine g_yes (h72.trans (congrArg V.bool hg3)) (g1 75 (jb (!r_31)) (rfl : (_ : V) = (jb r_31)) fun h76 => ?_)
  refine g2 72 76 (jb (!r_31)) (h72.trans (congrArg V.bool hg3)) h76 fun h77 => ?_
  refine gm h77 fun h78 => split_on (c := (!r_31)) h (fun hg9 h => ?_) (fun hg9 h => ?_)
  · refine g_no (h78.trans (congrArg V.bool hg9)) ?_
    refine g_no (h78.trans (congrArg V.bool hg9)) ?_
    refine g_no (h78.trans (congrArg V.bool hg9)) ?_
    refine g2 78 81 (jb true) (h78.trans (congrArg V.bool hg9)) (rfl : (_ : V) = (.tup [])) fun h82 => ?_
    refine gq ?_
    exact t_f8_j2 H x_2 x_1 r_7 r_10 true _ ⟨h1, h2, h4, h6, h7, h10, h82⟩ h
  refine g_yes (h78.trans (congrArg V.bool hg9)) (gm h11 fun h79 => ?_)
  refine g_yes (h78.trans (congrArg V.bool hg9)) (gm h7 fun h80 => ?_)
  refine g_yes (h78.trans (congrArg V.bool hg9)) (g2 79 80 (jb (r_10.2 != r_7.2)) h79 h80 fun h81 => ?_)
  refine g2 78 81 (jb (r_10.2 != r_7.2)) (h78.trans (congrArg V.bool hg9)) h81 fun h82 => ?_
  refine gq ?_
  exact t_f8_j2 H x_2 x_1 r_7 r_10 (r_10.2 != r_7.2) _ ⟨h1, h2, h4, h6, h7, h10, h82⟩ h
def w_FnExactBrambleCover (F : Nat) (x_1 : (Int × (List (Int × Int)))) (x_2 : (List (List Int))) : Option Bool :=
  (w_szGraph F x_1 1048576).bind fun r_3 =>
  bif decide (r_3 < 0) then
    some true
  else
    (w_szIntSS F x_2 r_3).bind fun r_4 =>
    bif decide (r_4 < 0) then
      some true
    else
      (w_toGraph F x_1).bind fun r_5 =>
      (w_toIntSS F x_2).bind fun r_6 =>
      (s_BrambleCover F r_5 r_6).bind fun r_7 =>
      (w_toGraph_o F x_1).bind fun r_8 =>
      (w_toIntSS_o F x_2).bind fun r_9 =>
      (i_BrambleCover_o F (r_8.1, r_8.2.list) (List.map NL.list r_9.list)).bind fun r_10 =>
      (w_eqIntS F r_10.1.list r_7.1).bind fun r_32 =>
      bif (!r_32) then
        w_FnExactBrambleCover_j3 F x_2 x_1 r_7 r_8 r_9 r_10 true
      else
        w_FnExactBrambleCover_j3 F x_2 x_1 r_7 r_8 r_9 r_10 (r_10.2 != r_7.2)
theorem t8 (H : H8 D σ F) (x_1 : (Int × (List (Int × Int)))) (x_2 : (List (List Int))) (s : Nat → V) (hs : Facts [(0, (.agg [(ji x_1.1), (Enc.enc (x_1.2 : List (Int × Int)))])), (1, (Enc.enc (x_2 : List (List Int))))] s) (h : w_FnExactBrambleCover F x_1 x_2 = some r) : Run D σ (R8 r) (.run A8 []) s := by
  unfold w_FnExactBrambleCover at h
  obtain ⟨h0, h1⟩ := hs
  refine .seq (run_reg ?_)
  refine e_clr ?_
  refine ez [(0, _), (1, _), (2, _)] ⟨(keep_clear (pk := [2]) h0 rfl (map_agg (maps_cons mi (maps_cons me maps_nil)))), (keep_clear (pk := [2]) h1 rfl me), (gone_clear (pk := [2]) (t := 2) rfl)⟩ ?_
  rintro s ⟨h0, h1, h2⟩
  refine g_box (.agg [(ji x_1.1), (Enc.enc (x_1.2 : List (Int × Int)))]) (rd_of h0 rfl) h2 rfl ?_
  refine g0 (jb false) fun h4 => ?_
  refine gq (.nsq (.seq (rg (g0 (ji 1048576) fun h5 => gq (.nsq (.seq (rg (g1 2 (.agg [(ji x_1.1), (Enc.enc (x_1.2 : List (Int × Int)))]) (rfl : (_ : V) = (.ref (.bx 2) 0 [] (.agg [(ji x_1.1), (Enc.enc (x_1.2 : List (Int × Int)))]))) fun h17 => ?_))))))))
  refine gm h5 fun h18 => ?_
  obtain ⟨r_3, E_r_3, h⟩ := bind_some h
  refine g_call (m := 0) (al := false) (r := (Enc.enc (r_3 : Int))) [Enc.enc (x_1 : (Int × (List (Int × Int)))), Enc.enc (1048576 : Int)] (ta_cons (v := (.agg [(ji x_1.1), (Enc.enc (x_1.2 : List (Int × Int)))])) h17 rfl (Enc.erase_enc (x_1 : (Int × (List (Int × Int))))) (ta_cons (v := (ji 1048576)) h18 rfl rfl ta_nil)) (H.c15 _ _ _ E_r_3) H.g15 rfl rfl rfl rfl ?_
  refine gm (rfl : (_ : V) = (ji r_3)) fun h5 => ?_
  refine gq (.nsq (.seq (.seq (rg (gm h5 fun h20 => g1 20 (jb (decide (r_3 < 0))) h20 fun h21 => ?_)))))
  refine gq (.nsq (run_cond (t := decide (r_3 < 0)) h21 h (fun h => ?_) (fun h => ?_)))
  · refine .seq (rg (g0 (jb true) fun h4 => ?_))
    refine gq (.nsq (.ret ?_))
    have hr := Option.some.inj h
    subst hr
    exact rrA (res_tmp h4) rfl
  refine .skip (.nsq (.seq (rg (gm h1 fun h22 => gm h5 fun h23 => ?_))))
  obtain ⟨r_4, E_r_4, h⟩ := bind_some h
  refine g_call (m := 0) (al := false) (r := (Enc.enc (r_4 : Int))) [Enc.enc (x_2 : (List (List Int))), Enc.enc (r_3 : Int)] (ta_cons (v := (Enc.enc (x_2 : List (List Int)))) h22 rfl (Enc.erase_enc (x_2 : (List (List Int)))) (ta_cons (v := (ji r_3)) h23 rfl rfl ta_nil)) (H.c25 _ _ _ E_r_4) H.g25 rfl rfl rfl rfl ?_
  refine gm (rfl : (_ : V) = (ji r_4)) fun h5 => ?_
  refine gq (.nsq (.seq (.seq (rg (gm h5 fun h25 => g1 25 (jb (decide (r_4 < 0))) h25 fun h26 => ?_)))))
  refine gq (.nsq (run_cond (t := decide (r_4 < 0)) h26 h (fun h => ?_) (fun h => ?_)))
  · refine .seq (rg (g0 (jb true) fun h4 => ?_))
    refine gq (.nsq (.ret ?_))
    have hr := Option.some.inj h
    subst hr
    exact rrA (res_tmp h4) rfl
  refine .skip (.nsq (.seq (rg (g1 2 (.agg [(ji x_1.1), (Enc.enc (x_1.2 : List (Int × Int)))]) (rfl : (_ : V) = (.ref (.bx 2) 0 [] (.agg [(ji x_1.1), (Enc.enc (x_1.2 : List (Int × Int)))]))) fun h28 => ?_))))
  obtain ⟨r_5, E_r_5, h⟩ := bind_some h
  refine g_call (m := 0) (al := true) (r := (Enc.enc (r_5 : (Int × (List (Int × Int)))))) [Enc.enc (x_1 : (Int × (List (Int × Int))))] (ta_cons (v := (.agg [(ji x_1.1), (Enc.enc (x_1.2 : List (Int × Int)))])) h28 rfl (Enc.erase_enc (x_1 : (Int × (List (Int × Int))))) ta_nil) (H.c17 _ _ E_r_5) H.g17 (hal_of (ht_cons (v := (.agg [(ji x_1.1), (Enc.enc (x_1.2 : List (Int × Int)))])) h28 rfl rfl ht_nil)) rfl rfl rfl ?_
  refine gm h1 fun h30 => ?_
  obtain ⟨r_6, E_r_6, h⟩ := bind_some h
  refine g_call (m := 0) (al := true) (r := (Enc.enc (r_6 : (List (List Int))))) [Enc.enc (x_2 : (List (List Int)))] (ta_cons (v := (Enc.enc (x_2 : List (List Int)))) h30 rfl (Enc.erase_enc (x_2 : (List (List Int)))) ta_nil) (H.c27 _ _ E_r_6) H.g27 (hal_of (ht_cons (v := (Enc.enc (x_2 : List (List Int)))) h30 rfl rfl ht_nil)) rfl rfl rfl ?_
  obtain ⟨r_7, E_r_7, h⟩ := bind_some h
  refine g_call (m := 0) (al := true) (r := (.tup [Enc.enc (r_7.1 : (List Int)), Enc.enc (r_7.2 : Bool)])) [Enc.enc (r_5 : (Int × (List (Int × Int)))), Enc.enc (r_6 : (List (List Int)))] (ta_cons (v := (.agg [(ji r_5.1), (Enc.enc (r_5.2 : List (Int × Int)))])) rfl rfl (Enc.erase_enc (r_5 : (Int × (List (Int × Int))))) (ta_cons (v := (Enc.enc (r_6 : List (List Int)))) rfl rfl (Enc.erase_enc (r_6 : (List (List Int)))) ta_nil)) (H.c39 _ _ _ E_r_7) H.g39 (hal_of (ht_cons (v := (.agg [(ji r_5.1), (Enc.enc (r_5.2 : List (Int × Int)))])) rfl rfl rfl (ht_cons (v := (Enc.enc (r_6 : List (List Int)))) rfl rfl rfl ht_nil))) rfl rfl rfl ?_
  refine gm (rfl : (_ : V) = (.tup [(eL r_7.1), (jb r_7.2)])) fun h27 => ?_
  refine g1 27 (eL r_7.1) h27 fun h33 => ?_
  refine g1 27 (jb r_7.2) h27 fun h34 => ?_
  refine gm h33 fun h6 => gm h34 fun h7 => gq (.nsq (.seq (run_reg ?_)))
  refine e_clr ?_
  refine ez [(1, _), (2, _), (4, _), (6, _), (7, _), (8, _), (36, _)] ⟨(keep_clear (pk := [36, 8]) h1 rfl me), (keep_clear (pk := [36, 8]) rfl rfl (map_bx rfl (map_agg (maps_cons mi (maps_cons me maps_nil))))), (keep_clear (pk := [36, 8]) h4 rfl mb), (keep_clear (pk := [36, 8]) h6 rfl me), (keep_clear (pk := [36, 8]) h7 rfl mb), (gone_clear (pk := [36, 8]) (t := 8) rfl), (gone_clear (pk := [36, 8]) (t := 36) rfl)⟩ ?_
  rintro s ⟨h1, h2, h4, h6, h7, h8, h36⟩
  refine g1 2 (.agg [(ji x_1.1), (Enc.enc (x_1.2 : List (Int × Int)))]) h2 fun h35 => ?_
  obtain ⟨r_8, E_r_8, h⟩ := bind_some h
  refine g_callO (m := 1) (al := false) (r := (.agg [(Enc.enc (r_8.1 : Int)), (encO .sh (r_8.2 : NL (Int × Int)))])) (v := (.agg [(ji r_8.1), (encO (.at 36 [1]) (r_8.2 : NL (Int × Int)))])) (kk := 1000000017) [Enc.enc (x_1 : (Int × (List (Int × Int))))] (ta_cons (v := (.agg [(ji x_1.1), (Enc.enc (x_1.2 : List (Int × Int)))])) h35 rfl (Enc.erase_enc (x_1 : (Int × (List (Int × Int))))) ta_nil) (H.c17o _ _ E_r_8) H.g17o rfl (toks_agg (tokss_cons rfl (tokss_cons toks_encS tokss_nil))) (tag_agg (tags_cons rfl (tags_cons tag_encO tags_nil))) rfl h36 ?_
  refine g_alloc h8 ?_
  refine g_store (.agg [(ji r_8.1), (encO (.at 36 [1]) (r_8.2 : NL (Int × Int)))]) (rd_of rfl rfl) (rd_of rfl rfl) ⟨by decide, by decide, rfl, (by simp [V.shape, V.shapes, shape_encP, Sh.beq, Sh.beqs]), (by simp [V.shape, V.shapes, shape_encP, Sh.beq, Sh.beqs]), (by simp [V.toks, V.tokss, tok_memP])⟩ ?_
  refine gz [(1, (Enc.enc (x_2 : List (List Int)))), (2, (.ref (.bx 2) 0 [] (.agg [(ji x_1.1), (Enc.enc (x_1.2 : List (Int × Int)))]))), (4, (jb false)), (6, (eL r_7.1)), (7, (jb r_7.2)), (8, (.ref (.bx 8) 0 [] (.agg [(ji r_8.1), (encO (.at 36 [1]) (r_8.2 : NL (Int × Int)))])))] ⟨(keep_mut h1 (Enc.mut_enc _ _ _ _ (x_2 : List (List Int)))), (keep_mut h2 (mut_ref_ne rfl rfl (mut_agg (muts_cons rfl (muts_cons (Enc.mut_enc _ _ _ _ (x_1.2 : List (Int × Int))) rfl))))), (keep_mut h4 rfl), (keep_mut h6 (Enc.mut_enc _ _ _ _ (r_7.1 : List Int))), (keep_mut h7 rfl), (keep_mut rfl rfl)⟩ ?_
  rintro s ⟨h1, h2, h4, h6, h7, h8⟩
  refine .nsq (.seq (run_reg ?_))
  refine e_clr ?_
  refine ez [(1, _), (2, _), (4, _), (6, _), (7, _), (8, _), (38, _)] ⟨(keep_clear (pk := [38]) h1 rfl me), (keep_clear (pk := [38]) h2 rfl (map_bx rfl (map_agg (maps_cons mi (maps_cons me maps_nil))))), (keep_clear (pk := [38]) h4 rfl mb), (keep_clear (pk := [38]) h6 rfl me), (keep_clear (pk := [38]) h7 rfl mb), (keep_clear (pk := [38]) h8 rfl (map_bx rfl (map_agg (maps_cons mi (maps_cons (map_encO (r := 36) (p := [1]) rfl rfl) maps_nil))))), (gone_clear (pk := [38]) (t := 38) rfl)⟩ ?_
  rintro s ⟨h1, h2, h4, h6, h7, h8, h38⟩
  refine gm h1 fun h37 => ?_
  obtain ⟨r_9, E_r_9, h⟩ := bind_some h
  refine g_callO (m := 2) (al := false) (r := (encNs (r_9 : NL (NL Int)))) (v := (encN 38 [] (r_9 : NL (NL Int)))) (kk := 1000000027) [Enc.enc (x_2 : (List (List Int)))] (ta_cons (v := (Enc.enc (x_2 : List (List Int)))) h37 rfl (Enc.erase_enc (x_2 : (List (List Int)))) ta_nil) (H.c27o _ _ E_r_9) H.g27o rfl toks_encNs (tag_encN rfl) ok_encN h38 ?_
  refine gv (encN 38 [] (r_9 : NL (NL Int))) (ev_mov rfl ok_encN) fun h9 => ?_
  refine g_end ?_
  refine e_home (r := 38) (x := 9) (v := _) h9 ok_encN (fun s_4 hg_4 => ?_)
  refine ez [(1, (Enc.enc (x_2 : List (List Int)))), (2, (.ref (.bx 2) 0 [] (.agg [(ji x_1.1), (Enc.enc (x_1.2 : List (Int × Int)))]))), (4, (jb false)), (6, (eL r_7.1)), (7, (jb r_7.2)), (8, (.ref (.bx 8) 0 [] (.agg [(ji r_8.1), (encO (.at 36 [1]) (r_8.2 : NL (Int × Int)))]))), (9, (encN 9 [] (r_9 : NL (NL Int))))] ⟨(hg_4 1 _ _ h1 me), (hg_4 2 _ _ h2 (map_bx rfl (map_agg (maps_cons mi (maps_cons me maps_nil))))), (hg_4 4 _ _ h4 mb), (hg_4 6 _ _ h6 me), (hg_4 7 _ _ h7 mb), (hg_4 8 _ (.ref (.bx 8) 0 [] (.agg [(ji r_8.1), (encO (.at 36 [1]) (r_8.2 : NL (Int × Int)))])) h8 (map_bx rfl (map_agg (maps_cons mi (maps_cons (map_encO (r := 36) (p := [1]) rfl rfl) maps_nil))))), (hg_4 9 _ _ h9 (map_encN (r := 38) (p := []) rfl (fun _ => rfl) rfl))⟩ ?_
  rintro s ⟨h1, h2, h4, h6, h7, h8, h9⟩
  refine .nsq (.seq (run_reg ?_))
  refine e_clr ?_
  refine ez [(1, _), (2, _), (4, _), (6, _), (7, _), (8, _), (9, _), (42, _)] ⟨(keep_clear (pk := [42]) h1 rfl me), (keep_clear (pk := [42]) h2 rfl (map_bx rfl (map_agg (maps_cons mi (maps_cons me maps_nil))))), (keep_clear (pk := [42]) h4 rfl mb), (keep_clear (pk := [42]) h6 rfl me), (keep_clear (pk := [42]) h7 rfl mb), (keep_clear (pk := [42]) h8 rfl (map_bx rfl (map_agg (maps_cons mi (maps_cons (map_encO (r := 36) (p := [1]) rfl rfl) maps_nil))))), (keep_clear (pk := [42]) h9 rfl (map_encN (r := 9) (p := []) rfl (fun _ => rfl) rfl)), (gone_clear (pk := [42]) (t := 42) rfl)⟩ ?_
  rintro s ⟨h1, h2, h4, h6, h7, h8, h9, h42⟩
  refine gv (.agg [(ji r_8.1), (encO (.at 36 [1]) (r_8.2 : NL (Int × Int)))]) (ev_loadN (c := (.agg [(ji r_8.1), (encO (.at 36 [1]) (r_8.2 : NL (Int × Int)))])) h8 (by simp [V.shape, V.shapes, shape_encP, Sh.beq, Sh.beqs])) fun h40 => ?_
  refine gv (encN 9 [] (r_9 : NL (NL Int))) (ev_mov h9 ok_encN) fun h41 => ?_
  obtain ⟨r_10, E_r_10, h⟩ := bind_some h
  refine g_callO (m := 1) (al := false) (r := (.tup [(encO .sh (r_10.1 : NL Int)), (Enc.enc (r_10.2 : Bool))])) (v := (.tup [(oI 42 [0] r_10.1), (jb r_10.2)])) (kk := 1000000040) [Enc.enc ((r_8.1, r_8.2.list) : (Int × (List (Int × Int)))), Enc.enc ((List.map NL.list r_9.list) : (List (List Int)))] (ta_cons (v := (.agg [(ji r_8.1), (encO (.at 36 [1]) (r_8.2 : NL (Int × Int)))])) h40 rfl (erase_agg (erases_cons rfl (erases_cons (erase_encO (o := r_8.2)) erases_nil))) (ta_cons (v := (encN 9 [] (r_9 : NL (NL Int)))) h41 ok_encN (erase_encN (o := (r_9 : NL (NL Int)))) ta_nil)) (H.c40o _ _ _ E_r_10) H.g40o rfl (toks_tup (tokss_cons toks_encS (tokss_cons rfl tokss_nil))) (tag_tup (tags_cons tag_encO (tags_cons rfl tags_nil))) rfl h42 ?_
  refine gm (rfl : (_ : V) = (.tup [(oI 42 [0] r_10.1), (jb r_10.2)])) fun h39 => ?_
  refine gv (oI 42 [0] r_10.1) (ev_extN (v := (oI 42 [0] r_10.1)) h39 rfl ok_encP) fun h43 => ?_
  refine g1 39 (jb r_10.2) h39 fun h44 => ?_
  refine gv (oI 42 [0] r_10.1) (ev_mov h43 ok_encO) fun h10 => ?_
  refine gm h44 fun h11 => g_end ?_
  refine e_home (r := 42) (x := 10) (v := _) h10 ok_encO (fun s_6 hg_6 => ?_)
  refine ez [(1, (Enc.enc (x_2 : List (List Int)))), (2, (.ref (.bx 2) 0 [] (.agg [(ji x_1.1), (Enc.enc (x_1.2 : List (Int × Int)))]))), (4, (jb false)), (6, (eL r_7.1)), (7, (jb r_7.2)), (8, (.ref (.bx 8) 0 [] (.agg [(ji r_8.1), (encO (.at 36 [1]) (r_8.2 : NL (Int × Int)))]))), (9, (encN 9 [] (r_9 : NL (NL Int)))), (10, (oI 10 [0] r_10.1)), (11, (jb r_10.2))] ⟨(hg_6 1 _ _ h1 me), (hg_6 2 _ _ h2 (map_bx rfl (map_agg (maps_cons mi (maps_cons me maps_nil))))), (hg_6 4 _ _ h4 mb), (hg_6 6 _ _ h6 me), (hg_6 7 _ _ h7 mb), (hg_6 8 _ (.ref (.bx 8) 0 [] (.agg [(ji r_8.1), (encO (.at 36 [1]) (r_8.2 : NL (Int × Int)))])) h8 (map_bx rfl (map_agg (maps_cons mi (maps_cons (map_encO (r := 36) (p := [1]) rfl rfl) maps_nil))))), (hg_6 9 _ _ h9 (map_encN (r := 9) (p := []) rfl (fun _ => rfl) rfl)), (hg_6 10 _ _ h10 (map_encO (r := 42) (p := [0]) rfl rfl)), (hg_6 11 _ _ h11 mb)⟩ ?_
  rintro s ⟨h1, h2, h4, h6, h7, h8, h9, h10, h11⟩
  refine .nsq (.seq (.seq (rg (gv (oI 10 [0] r_10.1) (ev_mov h10 ok_encO) fun h45 => ?_))))
  refine gm h6 fun h46 => ?_
  obtain ⟨r_32, E_r_32, h⟩ := bind_some h
  refine g_call (m := 0) (al := false) (r := (Enc.enc (r_32 : Bool))) [Enc.enc (r_10.1.list : (List Int)), Enc.enc (r_7.1 : (List Int))] (ta_cons (v := (oI 10 [0] r_10.1)) h45 ok_encP (erase_encO (o := r_10.1)) (ta_cons (v := (eL r_7.1)) h46 rfl (Enc.erase_enc (r_7.1 : (List Int))) ta_nil)) (H.c21 _ _ _ E_r_32) H.g21 rfl rfl rfl rfl ?_
  refine g1 47 (jb (!r_32)) (rfl : (_ : V) = (jb r_32)) fun h48 => ?_
  refine gm h48 fun h49 => split_on (c := (!r_32)) h (fun hg5 h => ?_) (fun hg5 h => ?_)
  · refine g_no (h49.trans (congrArg V.bool hg5)) ?_
    refine g_no (h49.trans (congrArg V.bool hg5)) ?_
    refine g_no (h49.trans (congrArg V.bool hg5)) ?_
    refine g2 49 52 (jb true) (h49.trans (congrArg V.bool hg5)) (rfl : (_ : V) = (.tup [])) fun h53 => ?_
    refine gq ?_
    exact t_f8_j3 H x_2 x_1 r_7 r_8 r_9 r_10 true _ ⟨h1, h2, h4, h6, h7, h8, h9, h10, h11, h53⟩ h
  refine g_yes (h49.trans (congrArg V.bool hg5)) (gm h11 fun h50 => ?_)
  refine g_yes (h49.trans (congrArg V.bool hg5)) (gm h7 fun h51 => ?_)
  refine g_yes (h49.trans (congrArg V.bool hg5)) (g2 50 51 (jb (r_10.2 != r_7.2)) h50 h51 fun h52 => ?_)
  refine g2 49 52 (jb (r_10.2 != r_7.2)) (h49.trans (congrArg V.bool hg5)) h52 fun h53 => ?_
  refine gq ?_
  exact t_f8_j3 H x_2 x_1 r_7 r_8 r_9 r_10 (r_10.2 != r_7.2) _ ⟨h1, h2, h4, h6, h7, h8, h9, h10, h11, h53⟩ h
end
def e8 (F : Nat) : Ent := ent 8 (fun (x : ((Int × (List (Int × Int))) × (List (List Int)) × Unit)) => w_FnExactBrambleCover F x.1 x.2.1) (fun (r : Bool) => (Enc.enc (r : Bool))) 0 false []
theorem p8 {F : Nat} {x0 : (Int × (List (Int × Int)))} {x1 : (List (List Int))} {r : Bool} (h : w_FnExactBrambleCover F x0 x1 = some r) : (e8 F).den [Enc.enc x0, Enc.enc x1] = some (Enc.enc (r : Bool)) := ent_put (x0, x1, ()) h
theorem o8 {D : Den} {σ : Sig} {F : Nat} (hF : Fits2 Try.prog D σ) (H : H8 D σ F) : (e8 F).Ok Try.prog := by
  refine ok_of (f := 8) (show unk 8 = 8 from rfl) (fun args r h => ?_) ⟨Try.f8, Try.func8, rfl, rfl⟩
  obtain ⟨⟨x0, x1, _⟩, y, rfl, hy, rfl⟩ := da_open h
  exact contract_run hF (by kernel_rfl) Try.func8 rfl c8 (show 2 ≤ Try.f8.ntmps by decide) (t8 H x0 x1 _ ⟨rfl, rfl⟩ hy)
end Go.Zq
