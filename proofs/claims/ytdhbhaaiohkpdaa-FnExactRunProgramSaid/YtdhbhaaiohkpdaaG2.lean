/- Functions of the program as typed functions, and that the machine runs as they say (part 2). No further condition. -/
import Derived.Test.YtdhbhaaiohkpdaaK3
import Derived.Test.YtdhbhaaiohkpdaaProg
import Derived.Test.YtdhbhaaiohkpdaaChecked
import Derived.KernelRfl
import Derived.Test.YtdhbhaaiohkpdaaG1
set_option linter.unusedVariables false
set_option linter.unusedSimpArgs false
/- Functions of the program, as typed functions, and that the machine runs as they say. -/
namespace Go.Zq
open Go.Proofs
/- loop.example/g01109/spec.RunProgram -/
def A41_2 : AC := (.cond (.t 26) .skip (.exit 0))
def A41_4 : AC := (.reg [] [(jm 27 8), ((jv 28 (.bin .add (.t 27) (jn 1)))), (jm 8 28)] [])
def A41_3 : AC := (.seq (.block 1 (.reg [.clr [36, 37]] [(jm 29 6), (jm 30 7), (jm 31 8), ((jv 32 (.idx (.t 30) (.t 31) 2))), ((jv 33 (.fld (.t 32) 1 1))), ((jv 34 (.load .p (.t 33)))), (.mk (some 35) none false (.call (.k (.fn 97 [] [])) [(.t 34)])), (.mk (some 36) none false (.lit (.sl .nl .s 0 []) 1 [(0, 0, (.t 35))])), (.mk (some 37) none false (.app .p (.t 29) (.t 36))), (jm 6 37)] [.home 37 6])) A41_4)
def A41_1 : AC := (.seq (.seq (.reg [] [(jm 23 8), (jm 24 7), ((jv 25 (.len (.t 24)))), ((jv 26 (.bin .lss (.t 23) (.t 25))))] []) A41_2) A41_3)
def A41_5 : AC := (.seq (.reg [] [(jm 38 6), (jm 4 38), ((jv 5 (.mov (.k (.bool true)))))] [.home 6 4]) .ret)
def A41_6 : AC := (.cond (.t 18) (.seq (.reg [] [(jm 19 6), (jm 4 19), ((jv 5 (.mov (.k (.bool false)))))] []) .ret) .skip)
def A41_9 : AC := (.block 0 (.loop A41_1))
def A41_8 : AC := (.seq (.seq (.reg [] [((jv 8 (.mov (jn 1))))] []) A41_9) A41_5)
def A41_7 : AC := (.seq (.reg [] [((jv 20 (.load (.ag [.s, .p]) (.t 2)))), (jm 21 1), (.mk (some 22) none false (.call (.k (.fn 96 [] [])) [(.t 20), (.t 21)])), (jm 7 22)] []) A41_8)
def A41_11 : AC := (.seq (.seq (.reg [] [((jv 10 (.load (.ag [.s, .p]) (.t 2)))), (.mk (some 11) none false (.call (.k (.fn 72 [] [])) [(.t 10)])), ((jv 12 (.un .not (.t 11)))), (jm 13 12), ((jg 14 13 false (.load (.ag [.s, .p]) (.t 2)))), ((jg 15 13 false (.mov (.t 1)))), (.mk (some 16) (some (13, false)) false (.call (.k (.fn 95 [] [])) [(.t 14), (.t 15)])), ((jg 17 13 false (.un .not (.t 16)))), ((jv 18 (.pick (.t 13) (.k (.bool true)) (.t 17))))] []) A41_6) A41_7)
def A41_10 : AC := (.seq (.reg [.clr [9]] [(.mk (some 9) none false (.lit (.sl .nl .s 0 []) 0 [])), (jm 6 9)] [.home 9 6]) A41_11)
def A41 : AC := (.seq (.reg [.clr [2]] [(.mk (some 2) none false (.box (.t 0))), ((jv 4 (.mov (.k (.sl .nl .p 0 []))))), ((jv 5 (.mov (.k (.bool false)))))] []) A41_10)
def an41 : List An := [{ id := 0, pre := [.clr [2]], ep := [], lin := [], sp := [] }, { id := 1, pre := [.clr [9]], ep := [.home 9 6], lin := [], sp := [] }, { id := 8, pre := [.clr [36, 37]], ep := [.home 37 6], lin := [], sp := [] }, { id := 9, pre := [], ep := [.home 6 4], lin := [], sp := [] }]
theorem c41 : cC Try.prog Try.f41.ntmps an41 (Try.f41.body.getD .skip) = some A41 := by kernel_rfl
structure H41 (D : Den) (σ : Sig) (F : Nat) : Prop where
  c72 : ∀ (x0 : (Int × (List (Int × Int)))) r, s_l2Good F x0 = some r → D 72 [Enc.enc x0] = some (Enc.enc (r : Bool))
  g72 : σ 72 = some (0, false)
  c95 : ∀ (x0 : (Int × (List (Int × Int)))) (x1 : (List Int)) r, s_l6Program F x0 x1 = some r → D 95 [Enc.enc x0, Enc.enc x1] = some (Enc.enc (r : Bool))
  g95 : σ 95 = some (0, false)
  c96 : ∀ (x0 : (Int × (List (Int × Int)))) (x1 : (List Int)) r, s_l6States F x0 x1 = some r → D 96 [Enc.enc x0, Enc.enc x1] = some (Enc.enc (r : (List ((List Int) × (List Int)))))
  g96 : σ 96 = some (0, true)
  c97 : ∀ (x0 : (List Int)) r, s_l1Own F x0 = some r → D 97 [Enc.enc x0] = some (Enc.enc (r : (List Int)))
  g97 : σ 97 = some (0, false)
abbrev R41 (r : ((List (List Int)) × Bool)) : (Nat → V) → Prop := RR Try.prog [.tmp 4, .tmp 5] 0 true (.tup [Enc.enc (r.1 : (List (List Int))), Enc.enc (r.2 : Bool)])
section
variable {D : Den} {σ : Sig} {F : Nat} {r : ((List (List Int)) × Bool)}
def s_RunProgram_l1 (F : Nat) (r_6 : (List ((List Int) × (List Int))))  : Nat → (List (List Int)) → Int → Option ((List (List Int)) × Bool)
  | 0, _, _ => none
  | k + 1, x_10, x_11 =>
    bif decide (x_11 < (r_6.length : Int)) then
      (idx r_6 x_11).bind fun e_15 =>
      (s_l1Own F e_15.2).bind fun r_16 =>
      (appL x_10 [r_16]).bind fun ap_17 =>
      (s_RunProgram_l1 F r_6 k) ap_17 (w64 (x_11 + 1))
    else
      some (x_10, true)
theorem t_f41_l1 (H : H41 D σ F) (r_6 : (List ((List Int) × (List Int))))  : ∀ (k : Nat) (x_10 : (List (List Int))) (x_11 : Int) (s : Nat → V), Facts [(4, (.sl .nl (Enc.shp (List Int)) 0 [])), (5, (jb false)), (6, (encO (.at 6 []) (.of (x_10 : List (List Int))))), (7, (Enc.enc (r_6 : List ((List Int) × (List Int))))), (8, (ji x_11))] s → s_RunProgram_l1 F r_6 k x_10 x_11 = some r → Run D σ (R41 r) (.run A41_1 [.lp A41_1, .bk 0, .sq A41_5]) s := by
  intro k
  induction k with
  | zero => intro x_10 x_11 s _ h; exact nomatch (h : (none : Option _) = some r)
  | succ k ih =>
    intro x_10 x_11 s hs h
    rw [s_RunProgram_l1] at h
    obtain ⟨h4, h5, h6, h7, h8⟩ := hs
    refine .seq (.seq (rg (gm h8 fun h23 => gm h7 fun h24 => gv (ji (r_6.length : Int)) (ev_len (xs := r_6) h24) fun h25 => ?_)))
    refine g2 23 25 (jb (decide (x_11 < (r_6.length : Int)))) h23 h25 fun h26 => ?_
    refine gq (.nsq (run_cond (t := decide (x_11 < (r_6.length : Int))) h26 h (fun h => ?_) (fun h => ?_)))
    · refine .skip (.nsq (.seq (.block (run_reg ?_))))
      refine e_clr ?_
      refine ez [(4, _), (5, _), (6, _), (7, _), (8, _), (36, _), (37, _)] ⟨(keep_clear (pk := [36, 37]) h4 rfl rfl), (keep_clear (pk := [36, 37]) h5 rfl mb), (keep_clear (pk := [36, 37]) h6 rfl (map_encO (r := 6) (p := []) rfl rfl)), (keep_clear (pk := [36, 37]) h7 rfl me), (keep_clear (pk := [36, 37]) h8 rfl mi), (gone_clear (pk := [36, 37]) (t := 36) rfl), (gone_clear (pk := [36, 37]) (t := 37) rfl)⟩ ?_
      rintro s ⟨h4, h5, h6, h7, h8, h36, h37⟩
      refine gm h6 fun h29 => gm h7 fun h30 => gm h8 fun h31 => ?_
      obtain ⟨e_15, E_e_15, h⟩ := bind_some h
      refine gv (.ref .sh 0 [] (.agg [(eL e_15.1), (eL e_15.2)])) (ev_idx (t := .sh) (lo := 0) (xs := r_6) h30 h31 E_e_15 rfl rfl) fun h32 => ?_
      refine g1 32 (.ref .sh 0 [1] (eL e_15.2)) h32 fun h33 => ?_
      refine g1 33 (eL e_15.2) h33 fun h34 => ?_
      obtain ⟨r_16, E_r_16, h⟩ := bind_some h
      refine g_call (m := 0) (al := false) (r := (Enc.enc (r_16 : (List Int)))) [Enc.enc (e_15.2 : (List Int))] (ta_cons (v := (eL e_15.2)) h34 rfl (Enc.erase_enc (e_15.2 : (List Int))) ta_nil) (H.c97 _ _ E_r_16) H.g97 rfl rfl rfl rfl ?_
      refine g_litL [(35, (eL r_16))] [Enc.enc (r_16 : (List Int))] rfl rfl rfl h36 ?_
      obtain ⟨ap_17, E_ap_17, h⟩ := bind_some h
      refine g_app (q := 6) (p := []) (o := (.of (x_10 : List (List Int)))) (ys := ([r_16] : List (List Int))) (t2 := (.at 36 [])) (lo2 := 0) h29 rfl rfl h37 (appN_L (o := (.of (x_10 : List (List Int)))) E_ap_17 trivial) (fun s_11 ha_11 => ?_)
      refine gm (rfl : (_ : V) = (encO (.at 37 []) (.of (ap_17 : List (List Int))))) fun h6 => ?_
      refine g_end ?_
      refine e_home (r := 37) (x := 6) (v := _) h6 rfl (fun s_12 hg_12 => ?_)
      refine ez [(4, (.sl .nl (Enc.shp (List Int)) 0 [])), (5, (jb false)), (6, (encO (.at 6 []) (.of (ap_17 : List (List Int))))), (7, (Enc.enc (r_6 : List ((List Int) × (List Int))))), (8, (ji x_11))] ⟨(hg_12 4 _ (.sl .nl (Enc.shp (List Int)) 0 []) (show s_11 4 = (.sl .nl (Enc.shp (List Int)) 0 []) from keep_app ha_11 h4 rfl) rfl), (hg_12 5 _ _ (show s_11 5 = (jb false) from keep_app ha_11 h5 mb) mb), (hg_12 6 _ _ h6 (map_encO (r := 37) (p := []) rfl rfl)), (hg_12 7 _ _ (show s_11 7 = (Enc.enc (r_6 : List ((List Int) × (List Int)))) from keep_app ha_11 h7 me) me), (hg_12 8 _ _ (show s_11 8 = (ji x_11) from keep_app ha_11 h8 mi) mi)⟩ ?_
      rintro s ⟨h4, h5, h6, h7, h8⟩
      refine .nbk (.nsq (rg (gm h8 fun h27 => g1 27 (ji (w64 (x_11 + 1))) h27 fun h28 => ?_)))
      refine gm h28 fun h8 => gq (.nlp ?_)
      exact ih ap_17 (w64 (x_11 + 1)) _ ⟨h4, h5, h6, h7, h8⟩ h
    refine .exit (.esq (.elp (.ebk (.nsq (.seq (rg (gm h6 fun h38 => gm h38 fun h4 => g0 (jb true) fun h5 => ?_)))))))
    refine g_end ?_
    refine e_home (r := 6) (x := 4) (v := _) h4 rfl (fun s_13 hg_13 => ?_)
    refine ez [(4, (encO (.at 4 []) (.of (x_10 : List (List Int))))), (5, (jb true))] ⟨(hg_13 4 _ _ h4 (map_encO (r := 6) (p := []) rfl rfl)), (hg_13 5 _ _ h5 mb)⟩ ?_
    rintro s ⟨h4, h5⟩
    refine .nsq (.ret ?_)
    have hr := Option.some.inj h
    subst hr
    exact rrB (res_tmp h4) (res_tmp h5) (fin_ret1 (fin_tup (fins_cons (fin_own (o := .of x_10)) (fins_cons (fin_enc (x := (true : Bool))) fins_nil))))
def s_RunProgram_j1 (F : Nat) (x_2 : (List Int)) (x_1 : (Int × (List (Int × Int))))  (x_5 : Bool) : Option ((List (List Int)) × Bool) :=
  bif x_5 then
    some ([], false)
  else
    (s_l6States F x_1 x_2).bind fun r_6 =>
    s_RunProgram_l1 F r_6 F [] 1
theorem t_f41_j1 (H : H41 D σ F) (x_2 : (List Int)) (x_1 : (Int × (List (Int × Int))))  (x_5 : Bool) (s : Nat → V) (hs : Facts [(1, (eL x_2)), (2, (.ref (.bx 2) 0 [] (.agg [(ji x_1.1), (Enc.enc (x_1.2 : List (Int × Int)))]))), (4, (.sl .nl (Enc.shp (List Int)) 0 [])), (5, (jb false)), (6, (encO (.at 6 []) (.of ([] : List (List Int))))), (18, (jb x_5))] s) (h : s_RunProgram_j1 F x_2 x_1  x_5 = some r) : Run D σ (R41 r) (.nrm [.sq A41_6, .sq A41_7]) s := by
  unfold s_RunProgram_j1 at h
  obtain ⟨h1, h2, h4, h5, h6, h18⟩ := hs
  refine .nsq (run_cond (t := x_5) h18 h (fun h => ?_) (fun h => ?_))
  · refine .seq (rg (gm h6 fun h19 => gm h19 fun h4 => g0 (jb false) fun h5 => ?_))
    refine gq (.nsq (.ret ?_))
    have hr := Option.some.inj h
    subst hr
    exact rrB (res_tmp h4) (res_tmp h5) (fin_ret1 (fin_tup (fins_cons (fin_own (o := .of [])) (fins_cons (fin_enc (x := (false : Bool))) fins_nil))))
  refine .skip (.nsq (.seq (rg (g1 2 (.agg [(ji x_1.1), (Enc.enc (x_1.2 : List (Int × Int)))]) h2 fun h20 => ?_))))
  refine gm h1 fun h21 => ?_
  obtain ⟨r_6, E_r_6, h⟩ := bind_some h
  refine g_call (m := 0) (al := true) (r := (Enc.enc (r_6 : (List ((List Int) × (List Int)))))) [Enc.enc (x_1 : (Int × (List (Int × Int)))), Enc.enc (x_2 : (List Int))] (ta_cons (v := (.agg [(ji x_1.1), (Enc.enc (x_1.2 : List (Int × Int)))])) h20 rfl (Enc.erase_enc (x_1 : (Int × (List (Int × Int))))) (ta_cons (v := (eL x_2)) h21 rfl (Enc.erase_enc (x_2 : (List Int))) ta_nil)) (H.c96 _ _ _ E_r_6) H.g96 (hal_of (ht_cons (v := (.agg [(ji x_1.1), (Enc.enc (x_1.2 : List (Int × Int)))])) h20 rfl rfl (ht_cons (v := (eL x_2)) h21 rfl rfl ht_nil))) rfl rfl rfl ?_
  refine gm (rfl : (_ : V) = (Enc.enc (r_6 : List ((List Int) × (List Int))))) fun h7 => ?_
  refine gq (.nsq (.seq (.seq (rg (g0 (ji 1) fun h8 => gq (.nsq (.block (.loop ?_))))))))
  exact t_f41_l1 H r_6 F [] 1 _ ⟨h4, h5, h6, h7, h8⟩ h
def s_RunProgram (F : Nat) (x_1 : (Int × (List (Int × Int)))) (x_2 : (List Int)) : Option ((List (List Int)) × Bool) :=
  (s_l2Good F x_1).bind fun r_18 =>
  bif (!r_18) then
    s_RunProgram_j1 F x_2 x_1 true
  else
    (s_l6Program F x_1 x_2).bind fun r_19 =>
    s_RunProgram_j1 F x_2 x_1 (!r_19)
theorem t41 (H : H41 D σ F) (x_1 : (Int × (List (Int × Int)))) (x_2 : (List Int)) (s : Nat → V) (hs : Facts [(0, (.agg [(ji x_1.1), (Enc.enc (x_1.2 : List (Int × Int)))])), (1, (eL x_2))] s) (h : s_RunProgram F x_1 x_2 = some r) : Run D σ (R41 r) (.run A41 []) s := by
  unfold s_RunProgram at h
  obtain ⟨h0, h1⟩ := hs
  refine .seq (run_reg ?_)
  refine e_clr ?_
  refine ez [(0, _), (1, _), (2, _)] ⟨(keep_clear (pk := [2]) h0 rfl (map_agg (maps_cons mi (maps_cons me maps_nil)))), (keep_clear (pk := [2]) h1 rfl me), (gone_clear (pk := [2]) (t := 2) rfl)⟩ ?_
  rintro s ⟨h0, h1, h2⟩
  refine g_box (.agg [(ji x_1.1), (Enc.enc (x_1.2 : List (Int × Int)))]) (rd_of h0 rfl) h2 rfl ?_
  refine g0 (.sl .nl (Enc.shp (List Int)) 0 []) fun h4 => ?_
  refine g0 (jb false) fun h5 => ?_
  refine gq (.nsq (.seq (run_reg ?_)))
  refine e_clr ?_
  refine ez [(1, _), (2, _), (4, _), (5, _), (9, _)] ⟨(keep_clear (pk := [9]) h1 rfl me), (keep_clear (pk := [9]) rfl rfl (map_bx rfl (map_agg (maps_cons mi (maps_cons me maps_nil))))), (keep_clear (pk := [9]) h4 rfl rfl), (keep_clear (pk := [9]) h5 rfl mb), (gone_clear (pk := [9]) (t := 9) rfl)⟩ ?_
  rintro s ⟨h1, h2, h4, h5, h9⟩
  refine g_litL [] [] trivial rfl rfl h9 ?_
  refine gm (rfl : (_ : V) = (encO (.at 9 []) (.of ([] : List (List Int))))) fun h6 => ?_
  refine g_end ?_
  refine e_home (r := 9) (x := 6) (v := _) h6 rfl (fun s_3 hg_3 => ?_)
  refine ez [(1, (eL x_2)), (2, (.ref (.bx 2) 0 [] (.agg [(ji x_1.1), (Enc.enc (x_1.2 : List (Int × Int)))]))), (4, (.sl .nl (Enc.shp (List Int)) 0 [])), (5, (jb false)), (6, (encO (.at 6 []) (.of ([] : List (List Int)))))] ⟨(hg_3 1 _ _ h1 me), (hg_3 2 _ _ h2 (map_bx rfl (map_agg (maps_cons mi (maps_cons me maps_nil))))), (hg_3 4 _ (.sl .nl (Enc.shp (List Int)) 0 []) h4 rfl), (hg_3 5 _ _ h5 mb), (hg_3 6 _ _ h6 (map_encO (r := 9) (p := []) rfl rfl))⟩ ?_
  rintro s ⟨h1, h2, h4, h5, h6⟩
  refine .nsq (.seq (.seq (rg (g1 2 (.agg [(ji x_1.1), (Enc.enc (x_1.2 : List (Int × Int)))]) h2 fun h10 => ?_))))
  obtain ⟨r_18, E_r_18, h⟩ := bind_some h
  refine g_call (m := 0) (al := false) (r := (Enc.enc (r_18 : Bool))) [Enc.enc (x_1 : (Int × (List (Int × Int))))] (ta_cons (v := (.agg [(ji x_1.1), (Enc.enc (x_1.2 : List (Int × Int)))])) h10 rfl (Enc.erase_enc (x_1 : (Int × (List (Int × Int))))) ta_nil) (H.c72 _ _ E_r_18) H.g72 rfl rfl rfl rfl ?_
  refine g1 11 (jb (!r_18)) (rfl : (_ : V) = (jb r_18)) fun h12 => ?_
  refine gm h12 fun h13 => split_on (c := (!r_18)) h (fun hg4 h => ?_) (fun hg4 h => ?_)
  · refine g_no (h13.trans (congrArg V.bool hg4)) ?_
    refine g_no (h13.trans (congrArg V.bool hg4)) ?_
    refine g_no (h13.trans (congrArg V.bool hg4)) ?_
    refine g_no (h13.trans (congrArg V.bool hg4)) ?_
    refine g2 13 17 (jb true) (h13.trans (congrArg V.bool hg4)) (rfl : (_ : V) = (.tup [])) fun h18 => ?_
    refine gq ?_
    exact t_f41_j1 H x_2 x_1 true _ ⟨h1, h2, h4, h5, h6, h18⟩ h
  refine g_yes (h13.trans (congrArg V.bool hg4)) (g1 2 (.agg [(ji x_1.1), (Enc.enc (x_1.2 : List (Int × Int)))]) h2 fun h14 => ?_)
  refine g_yes (h13.trans (congrArg V.bool hg4)) (gm h1 fun h15 => ?_)
  obtain ⟨r_19, E_r_19, h⟩ := bind_some h
  refine g_yes (h13.trans (congrArg V.bool hg4)) (g_call (m := 0) (al := false) (r := (Enc.enc (r_19 : Bool))) [Enc.enc (x_1 : (Int × (List (Int × Int)))), Enc.enc (x_2 : (List Int))] (ta_cons (v := (.agg [(ji x_1.1), (Enc.enc (x_1.2 : List (Int × Int)))])) h14 rfl (Enc.erase_enc (x_1 : (Int × (List (Int × Int))))) (ta_cons (v := (eL x_2)) h15 rfl (Enc.erase_enc (x_2 : (List Int))) ta_nil)) (H.c95 _ _ _ E_r_19) H.g95 rfl rfl rfl rfl ?_)
  refine g_yes (h13.trans (congrArg V.bool hg4)) (g1 16 (jb (!r_19)) (rfl : (_ : V) = (jb r_19)) fun h17 => ?_)
  refine g2 13 17 (jb (!r_19)) (h13.trans (congrArg V.bool hg4)) h17 fun h18 => ?_
  refine gq ?_
  exact t_f41_j1 H x_2 x_1 (!r_19) _ ⟨h1, h2, h4, h5, h6, h18⟩ h
end
def e41 (F : Nat) : Ent := ent 41 (fun (x : ((Int × (List (Int × Int))) × (List Int) × Unit)) => s_RunProgram F x.1 x.2.1) (fun (r : ((List (List Int)) × Bool)) => (.tup [Enc.enc (r.1 : (List (List Int))), Enc.enc (r.2 : Bool)])) 0 true []
theorem p41 {F : Nat} {x0 : (Int × (List (Int × Int)))} {x1 : (List Int)} {r : ((List (List Int)) × Bool)} (h : s_RunProgram F x0 x1 = some r) : (e41 F).den [Enc.enc x0, Enc.enc x1] = some (.tup [Enc.enc (r.1 : (List (List Int))), Enc.enc (r.2 : Bool)]) := ent_put (x0, x1, ()) h
theorem o41 {D : Den} {σ : Sig} {F : Nat} (hF : Fits2 Try.prog D σ) (H : H41 D σ F) : (e41 F).Ok Try.prog := by
  refine ok_of (f := 41) (show unk 41 = 41 from rfl) (fun args r h => ?_) ⟨Try.f41, Try.func41, rfl, rfl⟩
  obtain ⟨⟨x0, x1, _⟩, y, rfl, hy, rfl⟩ := da_open h
  exact contract_run hF (by kernel_rfl) Try.func41 rfl c41 (show 2 ≤ Try.f41.ntmps by decide) (t41 H x0 x1 _ ⟨rfl, rfl⟩ hy)
/- loop.example/g01109/impl.within -/
def A105_1 : AC := (.seq (.reg [] [(jm 7 0), (jm 8 1), ((jv 9 (.bin .geq (.t 7) (.t 8)))), (jm 10 9), ((jg 11 10 true (.mov (.t 0)))), ((jg 12 10 true (.mov (.t 2)))), ((jg 13 10 true (.bin .leq (.t 11) (.t 12)))), ((jv 14 (.pick (.t 10) (.t 13) (.k (.bool false))))), (jm 6 14)] []) .ret)
def A105 : AC := (.seq (.reg [] [((jv 6 (.mov (.k (.bool false)))))] []) A105_1)
def an105 : List An := []
theorem c105 : cC Try.prog Try.f105.ntmps an105 (Try.f105.body.getD .skip) = some A105 := by kernel_rfl
structure H105 (D : Den) (σ : Sig) (F : Nat) : Prop where
  mk ::
abbrev R105 (r : Bool) : (Nat → V) → Prop := RR Try.prog [.tmp 6] 0 false (Enc.enc (r : Bool))
section
variable {D : Den} {σ : Sig} {F : Nat} {r : Bool}
def i_within (F : Nat) (x_1 : Int) (x_2 : Int) (x_3 : Int) : Option Bool :=
  bif decide (x_1 ≥ x_2) then
    some (decide (x_1 ≤ x_3))
  else
    some false
theorem t105 (H : H105 D σ F) (x_1 : Int) (x_2 : Int) (x_3 : Int) (s : Nat → V) (hs : Facts [(0, (ji x_1)), (1, (ji x_2)), (2, (ji x_3))] s) (h : i_within F x_1 x_2 x_3 = some r) : Run D σ (R105 r) (.run A105 []) s := by
  unfold i_within at h
  obtain ⟨h0, h1, h2⟩ := hs
  refine .seq (rg (g0 (jb false) fun h6 => ?_))
  refine gq (.nsq (.seq (rg (gm h0 fun h7 => gm h1 fun h8 => g2 7 8 (jb (decide (x_1 ≥ x_2))) h7 h8 fun h9 => ?_))))
  refine gm h9 fun h10 => split_on (c := decide (x_1 ≥ x_2)) h (fun hg4 h => ?_) (fun hg4 h => ?_)
  · refine g_yes (h10.trans (congrArg V.bool hg4)) (gm h0 fun h11 => ?_)
    refine g_yes (h10.trans (congrArg V.bool hg4)) (gm h2 fun h12 => ?_)
    refine g_yes (h10.trans (congrArg V.bool hg4)) (g2 11 12 (jb (decide (x_1 ≤ x_3))) h11 h12 fun h13 => ?_)
    refine g2 10 13 (jb (decide (x_1 ≤ x_3))) (h10.trans (congrArg V.bool hg4)) h13 fun h14 => ?_
    refine gm h14 fun h6 => gq (.nsq (.ret ?_))
    have hr := Option.some.inj h
    subst hr
    exact rrA (res_tmp h6) rfl
  refine g_no (h10.trans (congrArg V.bool hg4)) ?_
  refine g_no (h10.trans (congrArg V.bool hg4)) ?_
  refine g_no (h10.trans (congrArg V.bool hg4)) ?_
  refine g2 10 13 (jb false) (h10.trans (congrArg V.bool hg4)) (rfl : (_ : V) = (.tup [])) fun h14 => ?_
  refine gm h14 fun h6 => gq (.nsq (.ret ?_))
  have hr := Option.some.inj h
  subst hr
  exact rrA (res_tmp h6) rfl
end
def e105 (F : Nat) : Ent := ent 105 (fun (x : (Int × Int × Int × Unit)) => i_within F x.1 x.2.1 x.2.2.1) (fun (r : Bool) => (Enc.enc (r : Bool))) 0 false []
theorem p105 {F : Nat} {x0 : Int} {x1 : Int} {x2 : Int} {r : Bool} (h : i_within F x0 x1 x2 = some r) : (e105 F).den [Enc.enc x0, Enc.enc x1, Enc.enc x2] = some (Enc.enc (r : Bool)) := ent_put (x0, x1, x2, ()) h
theorem o105 {D : Den} {σ : Sig} {F : Nat} (hF : Fits2 Try.prog D σ) (H : H105 D σ F) : (e105 F).Ok Try.prog := by
  refine ok_of (f := 105) (show unk 105 = 105 from rfl) (fun args r h => ?_) ⟨Try.f105, Try.func105, rfl, rfl⟩
  obtain ⟨⟨x0, x1, x2, _⟩, y, rfl, hy, rfl⟩ := da_open h
  exact contract_run hF (by kernel_rfl) Try.func105 rfl c105 (show 3 ≤ Try.f105.ntmps by decide) (t105 H x0 x1 x2 _ ⟨rfl, rfl, rfl⟩ hy)
/- cmp.isNaN[int] -/
def A180_1 : AC := (.seq (.reg [] [(jm 3 0), (jm 4 0), ((jv 5 (.bin .neq (.t 3) (.t 4)))), (jm 2 5)] []) .ret)
def A180 : AC := (.seq (.reg [] [((jv 2 (.mov (.k (.bool false)))))] []) A180_1)
def an180 : List An := []
theorem c180 : cC Try.prog Try.f180.ntmps an180 (Try.f180.body.getD .skip) = some A180 := by kernel_rfl
structure H180 (D : Den) (σ : Sig) (F : Nat) : Prop where
  mk ::
abbrev R180 (r : Bool) : (Nat → V) → Prop := RR Try.prog [.tmp 2] 0 false (Enc.enc (r : Bool))
section
variable {D : Den} {σ : Sig} {F : Nat} {r : Bool}
def cmp_isNaN_int (F : Nat) (x_1 : Int) : Option Bool :=
  some (x_1 != x_1)
theorem t180 (H : H180 D σ F) (x_1 : Int) (s : Nat → V) (hs : Facts [(0, (ji x_1))] s) (h : cmp_isNaN_int F x_1 = some r) : Run D σ (R180 r) (.run A180 []) s := by
  unfold cmp_isNaN_int at h
  have h0 := hs
  refine .seq (rg (g0 (jb false) fun h2 => ?_))
  refine gq (.nsq (.seq (rg (gm h0 fun h3 => gm h0 fun h4 => g2 3 4 (jb (x_1 != x_1)) h3 h4 fun h5 => ?_))))
  refine gm h5 fun h2 => gq (.nsq (.ret ?_))
  have hr := Option.some.inj h
  subst hr
  exact rrA (res_tmp h2) rfl
end
def e180 (F : Nat) : Ent := ent 180 (fun (x : (Int × Unit)) => cmp_isNaN_int F x.1) (fun (r : Bool) => (Enc.enc (r : Bool))) 0 false []
theorem p180 {F : Nat} {x0 : Int} {r : Bool} (h : cmp_isNaN_int F x0 = some r) : (e180 F).den [Enc.enc x0] = some (Enc.enc (r : Bool)) := ent_put (x0, ()) h
theorem o180 {D : Den} {σ : Sig} {F : Nat} (hF : Fits2 Try.prog D σ) (H : H180 D σ F) : (e180 F).Ok Try.prog := by
  refine ok_of (f := 180) (show unk 180 = 180 from rfl) (fun args r h => ?_) ⟨Try.f180, Try.func180, rfl, rfl⟩
  obtain ⟨⟨x0, _⟩, y, rfl, hy, rfl⟩ := da_open h
  exact contract_run hF (by kernel_rfl) Try.func180 rfl c180 (show 1 ≤ Try.f180.ntmps by decide) (t180 H x0 _ rfl hy)
/- cmp.Compare[int] -/
def A153_5 : AC := (.cond (.t 12) (.seq (.reg [] [((jv 4 (.mov (jn 0))))] []) .ret) .skip)
def A153_6 : AC := (.seq (.reg [] [((jv 4 (.mov (jn (-1)))))] []) .ret)
def A153_4 : AC := (.cond (.t 11) (.seq (.seq (.reg [] [(jm 12 6)] []) A153_5) A153_6) .skip)
def A153_8 : AC := (.cond (.t 13) (.seq (.reg [] [((jv 4 (.mov (jn 1))))] []) .ret) .skip)
def A153_10 : AC := (.cond (.t 16) (.seq (.reg [] [((jv 4 (.mov (jn (-1)))))] []) .ret) .skip)
def A153_12 : AC := (.cond (.t 19) (.seq (.reg [] [((jv 4 (.mov (jn 1))))] []) .ret) .skip)
def A153_13 : AC := (.seq (.reg [] [((jv 4 (.mov (jn 0))))] []) .ret)
def A153_11 : AC := (.seq (.seq (.reg [] [(jm 17 0), (jm 18 1), ((jv 19 (.bin .gtr (.t 17) (.t 18))))] []) A153_12) A153_13)
def A153_9 : AC := (.seq (.seq (.reg [] [(jm 14 0), (jm 15 1), ((jv 16 (.bin .lss (.t 14) (.t 15))))] []) A153_10) A153_11)
def A153_7 : AC := (.seq (.seq (.reg [] [(jm 13 6)] []) A153_8) A153_9)
def A153_3 : AC := (.seq (.seq (.reg [] [(jm 11 5)] []) A153_4) A153_7)
def A153_2 : AC := (.seq (.reg [] [(jm 9 1), (.mk (some 10) none false (.call (.k (.fn 180 [] [])) [(.t 9)])), (jm 6 10)] []) A153_3)
def A153_1 : AC := (.seq (.reg [] [(jm 7 0), (.mk (some 8) none false (.call (.k (.fn 180 [] [])) [(.t 7)])), (jm 5 8)] []) A153_2)
def A153 : AC := (.seq (.reg [] [((jv 4 (.mov (jn 0))))] []) A153_1)
def an153 : List An := []
theorem c153 : cC Try.prog Try.f153.ntmps an153 (Try.f153.body.getD .skip) = some A153 := by kernel_rfl
structure H153 (D : Den) (σ : Sig) (F : Nat) : Prop where
  c180 : ∀ (x0 : Int) r, cmp_isNaN_int F x0 = some r → D 180 [Enc.enc x0] = some (Enc.enc (r : Bool))
  g180 : σ 180 = some (0, false)
abbrev R153 (r : Int) : (Nat → V) → Prop := RR Try.prog [.tmp 4] 0 false (Enc.enc (r : Int))
section
variable {D : Den} {σ : Sig} {F : Nat} {r : Int}
def cmp_Compare_int (F : Nat) (x_1 : Int) (x_2 : Int) : Option Int :=
  (cmp_isNaN_int F x_1).bind fun r_3 =>
  (cmp_isNaN_int F x_2).bind fun r_4 =>
  bif r_3 then
    bif r_4 then
      some 0
    else
      some (-1)
  else
    bif r_4 then
      some 1
    else
      bif decide (x_1 < x_2) then
        some (-1)
      else
        bif decide (x_1 > x_2) then
          some 1
        else
          some 0
theorem t153 (H : H153 D σ F) (x_1 : Int) (x_2 : Int) (s : Nat → V) (hs : Facts [(0, (ji x_1)), (1, (ji x_2))] s) (h : cmp_Compare_int F x_1 x_2 = some r) : Run D σ (R153 r) (.run A153 []) s := by
  unfold cmp_Compare_int at h
  obtain ⟨h0, h1⟩ := hs
  refine .seq (rg (g0 (ji 0) fun h4 => gq (.nsq (.seq (rg (gm h0 fun h7 => ?_))))))
  obtain ⟨r_3, E_r_3, h⟩ := bind_some h
  refine g_call (m := 0) (al := false) (r := (Enc.enc (r_3 : Bool))) [Enc.enc (x_1 : Int)] (ta_cons (v := (ji x_1)) h7 rfl rfl ta_nil) (H.c180 _ _ E_r_3) H.g180 rfl rfl rfl rfl ?_
  refine gm (rfl : (_ : V) = (jb r_3)) fun h5 => ?_
  refine gq (.nsq (.seq (rg (gm h1 fun h9 => ?_))))
  obtain ⟨r_4, E_r_4, h⟩ := bind_some h
  refine g_call (m := 0) (al := false) (r := (Enc.enc (r_4 : Bool))) [Enc.enc (x_2 : Int)] (ta_cons (v := (ji x_2)) h9 rfl rfl ta_nil) (H.c180 _ _ E_r_4) H.g180 rfl rfl rfl rfl ?_
  refine gm (rfl : (_ : V) = (jb r_4)) fun h6 => ?_
  refine gq (.nsq (.seq (.seq (rg (gm h5 fun h11 => gq (.nsq (run_cond (t := r_3) h11 h (fun h => ?_) (fun h => ?_))))))))
  · refine .seq (.seq (rg (gm h6 fun h12 => gq (.nsq (run_cond (t := r_4) h12 h (fun h => ?_) (fun h => ?_))))))
    · refine .seq (rg (g0 (ji 0) fun h4 => gq (.nsq (.ret ?_))))
      have hr := Option.some.inj h
      subst hr
      exact rrA (res_tmp h4) rfl
    refine .skip (.nsq (.seq (rg (g0 (ji (-1)) fun h4 => ?_))))
    refine gq (.nsq (.ret ?_))
    have hr := Option.some.inj h
    subst hr
    exact rrA (res_tmp h4) rfl
  refine .skip (.nsq (.seq (.seq (rg (gm h6 fun h13 => gq (.nsq (run_cond (t := r_4) h13 h (fun h => ?_) (fun h => ?_))))))))
  · refine .seq (rg (g0 (ji 1) fun h4 => gq (.nsq (.ret ?_))))
    have hr := Option.some.inj h
    subst hr
    exact rrA (res_tmp h4) rfl
  refine .skip (.nsq (.seq (.seq (rg (gm h0 fun h14 => gm h1 fun h15 => g2 14 15 (jb (decide (x_1 < x_2))) h14 h15 fun h16 => ?_)))))
  refine gq (.nsq (run_cond (t := decide (x_1 < x_2)) h16 h (fun h => ?_) (fun h => ?_)))
  · refine .seq (rg (g0 (ji (-1)) fun h4 => ?_))
    refine gq (.nsq (.ret ?_))
    have hr := Option.some.inj h
    subst hr
    exact rrA (res_tmp h4) rfl
  refine .skip (.nsq (.seq (.seq (rg (gm h0 fun h17 => gm h1 fun h18 => g2 17 18 (jb (decide (x_1 > x_2))) h17 h18 fun h19 => ?_)))))
  refine gq (.nsq (run_cond (t := decide (x_1 > x_2)) h19 h (fun h => ?_) (fun h => ?_)))
  · refine .seq (rg (g0 (ji 1) fun h4 => gq (.nsq (.ret ?_))))
    have hr := Option.some.inj h
    subst hr
    exact rrA (res_tmp h4) rfl
  refine .skip (.nsq (.seq (rg (g0 (ji 0) fun h4 => gq (.nsq (.ret ?_))))))
  have hr := Option.some.inj h
  subst hr
  exact rrA (res_tmp h4) rfl
end
def e153 (F : Nat) : Ent := ent 153 (fun (x : (Int × Int × Unit)) => cmp_Compare_int F x.1 x.2.1) (fun (r : Int) => (Enc.enc (r : Int))) 0 false []
theorem p153 {F : Nat} {x0 : Int} {x1 : Int} {r : Int} (h : cmp_Compare_int F x0 x1 = some r) : (e153 F).den [Enc.enc x0, Enc.enc x1] = some (Enc.enc (r : Int)) := ent_put (x0, x1, ()) h
theorem o153 {D : Den} {σ : Sig} {F : Nat} (hF : Fits2 Try.prog D σ) (H : H153 D σ F) : (e153 F).Ok Try.prog := by
  refine ok_of (f := 153) (show unk 153 = 153 from rfl) (fun args r h => ?_) ⟨Try.f153, Try.func153, rfl, rfl⟩
  obtain ⟨⟨x0, x1, _⟩, y, rfl, hy, rfl⟩ := da_open h
  exact contract_run hF (by kernel_rfl) Try.func153 rfl c153 (show 2 ≤ Try.f153.ntmps by decide) (t153 H x0 x1 _ ⟨rfl, rfl⟩ hy)
/- slices.Compare[[]int,int] -/
def A94_5 : AC := (.cond (.t 19) (.seq (.reg [] [((jv 4 (.mov (jn 1))))] []) .ret) .skip)
def A94_9 : AC := (.cond (.t 28) (.seq (.reg [] [(jm 29 8), (jm 4 29)] []) .ret) .skip)
def A94_8 : AC := (.seq (.reg [] [(jm 27 8), ((jv 28 (.bin .neq (.t 27) (jn 0))))] []) A94_9)
def A94_7 : AC := (.seq (.reg [] [(jm 24 6), (jm 25 7), (.mk (some 26) none false (.call (.k (.fn 153 [] [])) [(.t 24), (.t 25)])), (jm 8 26)] []) A94_8)
def A94_6 : AC := (.seq (.reg [] [(jm 20 1), (jm 21 5), ((jv 22 (.idx (.t 20) (.t 21) 1))), ((jv 23 (.load .s (.t 22)))), (jm 7 23)] []) A94_7)
def A94_4 : AC := (.seq (.seq (.reg [] [(jm 16 5), (jm 17 1), ((jv 18 (.len (.t 17)))), ((jv 19 (.bin .geq (.t 16) (.t 18))))] []) A94_5) A94_6)
def A94_10 : AC := (.reg [] [((jv 30 (.bin .add (.t 11) (jn 1)))), (jm 11 30)] [])
def A94_3 : AC := (.seq (.block 1 (.seq (.reg [] [(jm 13 11), ((jv 14 (.idx (.t 9) (.t 11) 1))), ((jv 15 (.load .s (.t 14)))), (jm 5 13), (jm 6 15)] []) A94_4)) A94_10)
def A94_2 : AC := (.seq (.cond (.t 12) .skip (.exit 0)) A94_3)
def A94_1 : AC := (.seq (.reg [] [((jv 12 (.bin .lss (.t 11) (.t 10))))] []) A94_2)
def A94_12 : AC := (.cond (.t 35) (.seq (.reg [] [((jv 4 (.mov (jn (-1)))))] []) .ret) .skip)
def A94_13 : AC := (.seq (.reg [] [((jv 4 (.mov (jn 0))))] []) .ret)
def A94_11 : AC := (.seq (.seq (.reg [] [(jm 31 0), ((jv 32 (.len (.t 31)))), (jm 33 1), ((jv 34 (.len (.t 33)))), ((jv 35 (.bin .lss (.t 32) (.t 34))))] []) A94_12) A94_13)
def A94_15 : AC := (.block 0 (.loop A94_1))
def A94_14 : AC := (.seq (.seq (.reg [] [(jm 9 0), ((jv 10 (.len (.t 9)))), ((jv 11 (.mov (jn 0))))] []) A94_15) A94_11)
def A94 : AC := (.seq (.reg [] [((jv 4 (.mov (jn 0))))] []) A94_14)
def an94 : List An := []
theorem c94 : cC Try.prog Try.f94.ntmps an94 (Try.f94.body.getD .skip) = some A94 := by kernel_rfl
structure H94 (D : Den) (σ : Sig) (F : Nat) : Prop where
  c153 : ∀ (x0 : Int) (x1 : Int) r, cmp_Compare_int F x0 x1 = some r → D 153 [Enc.enc x0, Enc.enc x1] = some (Enc.enc (r : Int))
  g153 : σ 153 = some (0, false)
abbrev R94 (r : Int) : (Nat → V) → Prop := RR Try.prog [.tmp 4] 0 false (Enc.enc (r : Int))
section
variable {D : Den} {σ : Sig} {F : Nat} {r : Int}
def slices_Compare_l1 (F : Nat) (x_1 : (List Int)) (x_2 : (List Int))  : Nat → Int → Option Int
  | 0, _ => none
  | k + 1, x_6 =>
    bif decide (x_6 < (x_1.length : Int)) then
      (idx x_1 x_6).bind fun e_10 =>
      bif decide (x_6 ≥ (x_2.length : Int)) then
        some 1
      else
        (idx x_2 x_6).bind fun e_11 =>
        (cmp_Compare_int F e_10 e_11).bind fun r_12 =>
        bif (r_12 != 0) then
          some r_12
        else
          (slices_Compare_l1 F x_1 x_2 k) (w64 (x_6 + 1))
    else
      bif decide ((x_1.length : Int) < (x_2.length : Int)) then
        some (-1)
      else
        some 0
theorem t_f94_l1 (H : H94 D σ F) (x_1 : (List Int)) (x_2 : (List Int))  : ∀ (k : Nat) (x_6 : Int) (s : Nat → V), Facts [(0, (eL x_1)), (1, (eL x_2)), (4, (ji 0)), (9, (eL x_1)), (10, (ji (x_1.length : Int))), (11, (ji x_6))] s → slices_Compare_l1 F x_1 x_2 k x_6 = some r → Run D σ (R94 r) (.run A94_1 [.lp A94_1, .bk 0, .sq A94_11]) s := by
  intro k
  induction k with
  | zero => intro x_6 s _ h; exact nomatch (h : (none : Option _) = some r)
  | succ k ih =>
    intro x_6 s hs h
    rw [slices_Compare_l1] at h
    obtain ⟨h0, h1, h4, h9, h10, h11⟩ := hs
    refine .seq (rg (g2 11 10 (jb (decide (x_6 < (x_1.length : Int)))) h11 h10 fun h12 => ?_))
    refine gq (.nsq (.seq (run_cond (t := decide (x_6 < (x_1.length : Int))) h12 h (fun h => ?_) (fun h => ?_))))
    · refine .skip (.nsq (.seq (.block (.seq (rg (gm h11 fun h13 => ?_))))))
      obtain ⟨e_10, E_e_10, h⟩ := bind_some h
      refine gv (.ref .sh 0 [] (ji e_10)) (ev_idx (t := .sh) (lo := 0) (xs := x_1) h9 h11 E_e_10 rfl rfl) fun h14 => ?_
      refine g1 14 (ji e_10) h14 fun h15 => ?_
      refine gm h13 fun h5 => gm h15 fun h6 => gq (.nsq (.seq (.seq (rg (gm h5 fun h16 => gm h1 fun h17 => gv (ji (x_2.length : Int)) (ev_len (xs := x_2) h17) fun h18 => ?_)))))
      refine g2 16 18 (jb (decide (x_6 ≥ (x_2.length : Int)))) h16 h18 fun h19 => ?_
      refine gq (.nsq (run_cond (t := decide (x_6 ≥ (x_2.length : Int))) h19 h (fun h => ?_) (fun h => ?_)))
      · refine .seq (rg (g0 (ji 1) fun h4 => gq (.nsq (.ret ?_))))
        have hr := Option.some.inj h
        subst hr
        exact rrA (res_tmp h4) rfl
      refine .skip (.nsq (.seq (rg (gm h1 fun h20 => gm h5 fun h21 => ?_))))
      obtain ⟨e_11, E_e_11, h⟩ := bind_some h
      refine gv (.ref .sh 0 [] (ji e_11)) (ev_idx (t := .sh) (lo := 0) (xs := x_2) h20 h21 E_e_11 rfl rfl) fun h22 => ?_
      refine g1 22 (ji e_11) h22 fun h23 => ?_
      refine gm h23 fun h7 => gq (.nsq (.seq (rg (gm h6 fun h24 => gm h7 fun h25 => ?_))))
      obtain ⟨r_12, E_r_12, h⟩ := bind_some h
      refine g_call (m := 0) (al := false) (r := (Enc.enc (r_12 : Int))) [Enc.enc (e_10 : Int), Enc.enc (e_11 : Int)] (ta_cons (v := (ji e_10)) h24 rfl rfl (ta_cons (v := (ji e_11)) h25 rfl rfl ta_nil)) (H.c153 _ _ _ E_r_12) H.g153 rfl rfl rfl rfl ?_
      refine gm (rfl : (_ : V) = (ji r_12)) fun h8 => ?_
      refine gq (.nsq (.seq (rg (gm h8 fun h27 => g1 27 (jb (r_12 != 0)) h27 fun h28 => ?_))))
      refine gq (.nsq (run_cond (t := (r_12 != 0)) h28 h (fun h => ?_) (fun h => ?_)))
      · refine .seq (rg (gm h8 fun h29 => gm h29 fun h4 => gq (.nsq (.ret ?_))))
        have hr := Option.some.inj h
        subst hr
        exact rrA (res_tmp h4) rfl
      refine .skip (.nbk (.nsq (rg (g1 11 (ji (w64 (x_6 + 1))) h11 fun h30 => ?_))))
      refine gm h30 fun h11 => gq (.nlp ?_)
      exact ih (w64 (x_6 + 1)) _ ⟨h0, h1, h4, h9, h10, h11⟩ h
    refine .exit (.esq (.elp (.ebk (.nsq (.seq (.seq (rg (gm h0 fun h31 => gv (ji (x_1.length : Int)) (ev_len (xs := x_1) h31) fun h32 => ?_))))))))
    refine gm h1 fun h33 => gv (ji (x_2.length : Int)) (ev_len (xs := x_2) h33) fun h34 => ?_
    refine g2 32 34 (jb (decide ((x_1.length : Int) < (x_2.length : Int)))) h32 h34 fun h35 => ?_
    refine gq (.nsq (run_cond (t := decide ((x_1.length : Int) < (x_2.length : Int))) h35 h (fun h => ?_) (fun h => ?_)))
    · refine .seq (rg (g0 (ji (-1)) fun h4 => ?_))
      refine gq (.nsq (.ret ?_))
      have hr := Option.some.inj h
      subst hr
      exact rrA (res_tmp h4) rfl
    refine .skip (.nsq (.seq (rg (g0 (ji 0) fun h4 => gq (.nsq (.ret ?_))))))
    have hr := Option.some.inj h
    subst hr
    exact rrA (res_tmp h4) rfl
def slices_Compare (F : Nat) (x_1 : (List Int)) (x_2 : (List Int)) : Option Int :=
  slices_Compare_l1 F x_1 x_2 F 0
theorem t94 (H : H94 D σ F) (x_1 : (List Int)) (x_2 : (List Int)) (s : Nat → V) (hs : Facts [(0, (eL x_1)), (1, (eL x_2))] s) (h : slices_Compare F x_1 x_2 = some r) : Run D σ (R94 r) (.run A94 []) s := by
  unfold slices_Compare at h
  obtain ⟨h0, h1⟩ := hs
  refine .seq (rg (g0 (ji 0) fun h4 => gq (.nsq (.seq (.seq (rg (gm h0 fun h9 => gv (ji (x_1.length : Int)) (ev_len (xs := x_1) h9) fun h10 => ?_)))))))
  refine g0 (ji 0) fun h11 => gq (.nsq (.block (.loop ?_)))
  exact t_f94_l1 H x_1 x_2 F 0 _ ⟨h0, h1, h4, h9, h10, h11⟩ h
end
def e94 (F : Nat) : Ent := ent 94 (fun (x : ((List Int) × (List Int) × Unit)) => slices_Compare F x.1 x.2.1) (fun (r : Int) => (Enc.enc (r : Int))) 0 false []
theorem p94 {F : Nat} {x0 : (List Int)} {x1 : (List Int)} {r : Int} (h : slices_Compare F x0 x1 = some r) : (e94 F).den [Enc.enc x0, Enc.enc x1] = some (Enc.enc (r : Int)) := ent_put (x0, x1, ()) h
theorem o94 {D : Den} {σ : Sig} {F : Nat} (hF : Fits2 Try.prog D σ) (H : H94 D σ F) : (e94 F).Ok Try.prog := by
  refine ok_of (f := 94) (show unk 94 = 94 from rfl) (fun args r h => ?_) ⟨Try.f94, Try.func94, rfl, rfl⟩
  obtain ⟨⟨x0, x1, _⟩, y, rfl, hy, rfl⟩ := da_open h
  exact contract_run hF (by kernel_rfl) Try.func94 rfl c94 (show 2 ≤ Try.f94.ntmps by decide) (t94 H x0 x1 _ ⟨rfl, rfl⟩ hy)
/- loop.example/g01109/impl.IsGraph -/
def A63_5 : AC := (.cond (.t 48) (.seq (.reg [] [((jv 2 (.mov (.k (.bool false)))))] []) .ret) .skip)
def A63_4 : AC := (.seq (.reg [] [((jv 17 (.idxA (.t 4) (jn 0) 2 1))), ((jv 18 (.load .s (.t 17)))), ((jv 19 (.bin .lss (.t 18) (jn 0)))), (jm 20 19), ((jg 21 20 false (.idxA (.t 4) (jn 0) 2 1))), ((jg 22 20 false (.load .s (.t 21)))), ((jg 23 20 false (.idxA (.t 4) (jn 1) 2 1))), ((jg 24 20 false (.load .s (.t 23)))), ((jg 25 20 false (.bin .geq (.t 22) (.t 24)))), ((jv 26 (.pick (.t 20) (.k (.bool true)) (.t 25)))), (jm 27 26), ((jg 28 27 false (.idxA (.t 4) (jn 1) 2 1))), ((jg 29 27 false (.load .s (.t 28)))), ((jg 30 27 false (.fld (.t 1) 0 0))), ((jg 31 27 false (.load .s (.t 30)))), ((jg 32 27 false (.bin .geq (.t 29) (.t 31)))), ((jv 33 (.pick (.t 27) (.k (.bool true)) (.t 32)))), (jm 34 33), ((jg 35 34 false (.mov (.t 3)))), ((jg 36 34 false (.bin .gtr (.t 35) (jn 0)))), ((jg 37 34 false (.mov (.t 36)))), ((jg 38 37 true (.fld (.t 1) 1 1))), ((jg 39 37 true (.load .p (.t 38)))), ((jg 40 37 true (.mov (.t 3)))), ((jg 41 37 true (.bin .sub (.t 40) (jn 1)))), ((jg 42 37 true (.idx (.t 39) (.t 41) 2))), ((jg 43 37 true (.sliceA (.t 42) 2 .s))), ((jg 44 37 true (.sliceA (.t 4) 2 .s))), (.mk (some 45) (some (37, true)) false (.call (.k (.fn 94 [] [])) [(.t 43), (.t 44)])), ((jg 46 37 true (.bin .geq (.t 45) (jn 0)))), ((jg 47 34 false (.pick (.t 37) (.t 46) (.k (.bool false))))), ((jv 48 (.pick (.t 34) (.k (.bool true)) (.t 47))))] []) A63_5)
def A63_6 : AC := (.reg [] [((jv 49 (.bin .add (.t 12) (jn 1)))), (jm 12 49)] [])
def A63_3 : AC := (.seq (.block 1 (.seq (.reg [.clr [4]] [(jm 14 12), ((jv 15 (.idx (.t 10) (.t 12) 2))), ((jv 16 (.load (.ag [.s, .s]) (.t 15)))), (.mk (some 4) none false (.alloc (.agg [(.int .i64 (.ofNat 0)), (.int .i64 (.ofNat 0))]))), (jm 3 14), (.mk none none false (.store (.ag [.s, .s]) (.t 4) (.t 16)))] []) A63_4)) A63_6)
def A63_2 : AC := (.seq (.cond (.t 13) .skip (.exit 0)) A63_3)
def A63_1 : AC := (.seq (.reg [] [((jv 13 (.bin .lss (.t 12) (.t 11))))] []) A63_2)
def A63_7 : AC := (.seq (.reg [] [((jv 2 (.mov (.k (.bool true)))))] []) .ret)
def A63_9 : AC := (.cond (.t 8) (.seq (.reg [] [((jv 2 (.mov (.k (.bool false)))))] []) .ret) .skip)
def A63_11 : AC := (.block 0 (.loop A63_1))
def A63_10 : AC := (.seq (.seq (.reg [] [((jv 9 (.fld (.t 1) 1 1))), ((jv 10 (.load .p (.t 9)))), ((jv 11 (.len (.t 10)))), ((jv 12 (.mov (jn 0))))] []) A63_11) A63_7)
def A63_8 : AC := (.seq (.seq (.reg [] [((jv 5 (.fld (.t 1) 0 0))), ((jv 6 (.load .s (.t 5)))), (.mk (some 7) none false (.call (.k (.fn 105 [] [])) [(.t 6), (jn 0), (jn 8)])), ((jv 8 (.un .not (.t 7))))] []) A63_9) A63_10)
def A63 : AC := (.seq (.reg [.clr [1]] [(.mk (some 1) none false (.box (.t 0))), ((jv 2 (.mov (.k (.bool false)))))] []) A63_8)
def an63 : List An := [{ id := 0, pre := [.clr [1]], ep := [], lin := [], sp := [] }, { id := 5, pre := [.clr [4]], ep := [], lin := [], sp := [] }]
theorem c63 : cC Try.prog Try.f63.ntmps an63 (Try.f63.body.getD .skip) = some A63 := by kernel_rfl
structure H63 (D : Den) (σ : Sig) (F : Nat) : Prop where
  c105 : ∀ (x0 : Int) (x1 : Int) (x2 : Int) r, i_within F x0 x1 x2 = some r → D 105 [Enc.enc x0, Enc.enc x1, Enc.enc x2] = some (Enc.enc (r : Bool))
  g105 : σ 105 = some (0, false)
  c94 : ∀ (x0 : (List Int)) (x1 : (List Int)) r, slices_Compare F x0 x1 = some r → D 94 [Enc.enc x0, Enc.enc x1] = some (Enc.enc (r : Int))
  g94 : σ 94 = some (0, false)
abbrev R63 (r : Bool) : (Nat → V) → Prop := RR Try.prog [.tmp 2] 0 false (Enc.enc (r : Bool))
section
variable {D : Den} {σ : Sig} {F : Nat} {r : Bool}
def i_IsGraph_j1 (F : Nat) (x_1 : (Int × (List (Int × Int)))) (x_9 : Int) (c1 : Int → Option Bool) (x_19 : Bool) : Option Bool :=
  bif x_19 then
    some false
  else
    c1 (w64 (x_9 + 1))
theorem t_f63_j1 (H : H63 D σ F) (x_1 : (Int × (List (Int × Int)))) (x_9 : Int) (c1 : Int → Option Bool) (Hc1 : ∀ (x_9 : Int) (s : Nat → V), Facts [(1, (.ref (.bx 1) 0 [] (.agg [(ji x_1.1), (Enc.enc (x_1.2 : List (Int × Int)))]))), (2, (jb false)), (10, (Enc.enc (x_1.2 : List (Int × Int)))), (11, (ji (x_1.2.length : Int))), (12, (ji x_9))] s → c1 x_9 = some r → Run D σ (R63 r) (.run A63_1 [.lp A63_1, .bk 0, .sq A63_7]) s) (x_19 : Bool) (s : Nat → V) (hs : Facts [(1, (.ref (.bx 1) 0 [] (.agg [(ji x_1.1), (Enc.enc (x_1.2 : List (Int × Int)))]))), (2, (jb false)), (10, (Enc.enc (x_1.2 : List (Int × Int)))), (11, (ji (x_1.2.length : Int))), (12, (ji x_9)), (48, (jb x_19))] s) (h : i_IsGraph_j1 F x_1 x_9 c1 x_19 = some r) : Run D σ (R63 r) (.nrm [.sq A63_5, .bk 1, .sq A63_6, .lp A63_1, .bk 0, .sq A63_7]) s := by
  unfold i_IsGraph_j1 at h
  obtain ⟨h1, h2, h10, h11, h12, h48⟩ := hs
  refine .nsq (run_cond (t := x_19) h48 h (fun h => ?_) (fun h => ?_))
  · refine .seq (rg (g0 (jb false) fun h2 => ?_))
    refine gq (.nsq (.ret ?_))
    have hr := Option.some.inj h
    subst hr
    exact rrA (res_tmp h2) rfl
  refine .skip (.nbk (.nsq (rg (g1 12 (ji (w64 (x_9 + 1))) h12 fun h49 => ?_))))
  refine gm h49 fun h12 => gq (.nlp ?_)
  exact Hc1 (w64 (x_9 + 1)) _ ⟨h1, h2, h10, h11, h12⟩ h
def i_IsGraph_l1 (F : Nat) (x_1 : (Int × (List (Int × Int))))  : Nat → Int → Option Bool
  | 0, _ => none
  | k + 1, x_9 =>
    bif decide (x_9 < (x_1.2.length : Int)) then
      (idx x_1.2 x_9).bind fun e_16 =>
      bif decide (e_16.1 < 0) then
        i_IsGraph_j1 F x_1 x_9 (i_IsGraph_l1 F x_1 k) true
      else
        bif decide (e_16.1 ≥ e_16.2) then
          i_IsGraph_j1 F x_1 x_9 (i_IsGraph_l1 F x_1 k) true
        else
          bif decide (e_16.2 ≥ x_1.1) then
            i_IsGraph_j1 F x_1 x_9 (i_IsGraph_l1 F x_1 k) true
          else
            bif decide (x_9 > 0) then
              (idx x_1.2 (w64 (x_9 - 1))).bind fun e_20 =>
              (slices_Compare F [e_20.1, e_20.2] [e_16.1, e_16.2]).bind fun r_21 =>
              i_IsGraph_j1 F x_1 x_9 (i_IsGraph_l1 F x_1 k) (decide (r_21 ≥ 0))
            else
              i_IsGraph_j1 F x_1 x_9 (i_IsGraph_l1 F x_1 k) false
    else
      some true
theorem t_f63_l1 (H : H63 D σ F) (x_1 : (Int × (List (Int × Int))))  : ∀ (k : Nat) (x_9 : Int) (s : Nat → V), Facts [(1, (.ref (.bx 1) 0 [] (.agg [(ji x_1.1), (Enc.enc (x_1.2 : List (Int × Int)))]))), (2, (jb false)), (10, (Enc.enc (x_1.2 : List (Int × Int)))), (11, (ji (x_1.2.length : Int))), (12, (ji x_9))] s → i_IsGraph_l1 F x_1 k x_9 = some r → Run D σ (R63 r) (.run A63_1 [.lp A63_1, .bk 0, .sq A63_7]) s := by
  intro k
  induction k with
  | zero => intro x_9 s _ h; exact nomatch (h : (none : Option _) = some r)
  | succ k ih =>
    intro x_9 s hs h
    rw [i_IsGraph_l1] at h
    obtain ⟨h1, h2, h10, h11, h12⟩ := hs
    refine .seq (rg (g2 12 11 (jb (decide (x_9 < (x_1.2.length : Int)))) h12 h11 fun h13 => ?_))
    refine gq (.nsq (.seq (run_cond (t := decide (x_9 < (x_1.2.length : Int))) h13 h (fun h => ?_) (fun h => ?_))))
    · refine .skip (.nsq (.seq (.block (.seq (run_reg ?_)))))
      refine e_clr ?_
      refine ez [(1, _), (2, _), (4, _), (10, _), (11, _), (12, _)] ⟨(keep_clear (pk := [4]) h1 rfl (map_bx rfl (map_agg (maps_cons mi (maps_cons me maps_nil))))), (keep_clear (pk := [4]) h2 rfl mb), (gone_clear (pk := [4]) (t := 4) rfl), (keep_clear (pk := [4]) h10 rfl me), (keep_clear (pk := [4]) h11 rfl mi), (keep_clear (pk := [4]) h12 rfl mi)⟩ ?_
      rintro s ⟨h1, h2, h4, h10, h11, h12⟩
      refine gm h12 fun h14 => ?_
      obtain ⟨e_16, E_e_16, h⟩ := bind_some h
      refine gv (.ref .sh 0 [] (.agg [(ji e_16.1), (ji e_16.2)])) (ev_idx (t := .sh) (lo := 0) (xs := x_1.2) h10 h12 E_e_16 rfl rfl) fun h15 => ?_
      refine g1 15 (.agg [(ji e_16.1), (ji e_16.2)]) h15 fun h16 => ?_
      refine g_alloc h4 ?_
      refine gm h14 fun h3 => g_store (.agg [(ji e_16.1), (ji e_16.2)]) (rd_of rfl rfl) (rd_of h16 rfl) (by refine ⟨by decide, by decide, rfl, rfl, rfl, ?_⟩; first | rfl | simp [V.toks, V.tokss, Enc.toks_enc]) ?_
      refine gz [(1, (.ref (.bx 1) 0 [] (.agg [(ji x_1.1), (Enc.enc (x_1.2 : List (Int × Int)))]))), (2, (jb false)), (3, (ji x_9)), (4, (.ref (.bx 4) 0 [] (.agg [(ji e_16.1), (ji e_16.2)]))), (10, (Enc.enc (x_1.2 : List (Int × Int)))), (11, (ji (x_1.2.length : Int))), (12, (ji x_9))] ⟨(keep_mut h1 (mut_ref_ne rfl rfl (mut_agg (muts_cons rfl (muts_cons (Enc.mut_enc _ _ _ _ (x_1.2 : List (Int × Int))) rfl))))), (keep_mut h2 rfl), (keep_mut h3 rfl), (keep_mut rfl rfl), (keep_mut h10 (Enc.mut_enc _ _ _ _ (x_1.2 : List (Int × Int)))), (keep_mut h11 rfl), (keep_mut h12 rfl)⟩ ?_
      rintro s ⟨h1, h2, h3, h4, h10, h11, h12⟩
      refine .nsq (.seq (rg (g1 4 (.ref (.bx 4) 0 [0] (ji e_16.1)) h4 fun h17 => ?_)))
      refine g1 17 (ji e_16.1) h17 fun h18 => ?_
      refine g1 18 (jb (decide (e_16.1 < 0))) h18 fun h19 => ?_
      refine gm h19 fun h20 => split_on (c := decide (e_16.1 < 0)) h (fun hg4 h => ?_) (fun hg4 h => ?_)
      · refine g_no (h20.trans (congrArg V.bool hg4)) ?_
        refine g_no (h20.trans (congrArg V.bool hg4)) ?_
        refine g_no (h20.trans (congrArg V.bool hg4)) ?_
        refine g_no (h20.trans (congrArg V.bool hg4)) ?_
        refine g_no (h20.trans (congrArg V.bool hg4)) ?_
        refine g2 20 25 (jb true) (h20.trans (congrArg V.bool hg4)) (rfl : (_ : V) = (.tup [])) fun h26 => ?_
        refine gm h26 fun h27 => g_no h27 ?_
        refine g_no h27 ?_
        refine g_no h27 ?_
        refine g_no h27 ?_
        refine g_no h27 ?_
        refine g2 27 32 (jb true) h27 (rfl : (_ : V) = (.tup [])) fun h33 => ?_
        refine gm h33 fun h34 => g_no h34 ?_
        refine g_no h34 ?_
        refine g_no h34 ?_
        refine g_skip rfl ?_
        refine g_skip rfl ?_
        refine g_skip rfl ?_
        refine g_skip rfl ?_
        refine g_skip rfl ?_
        refine g_skip rfl ?_
        refine g_skip rfl ?_
        refine g_skip rfl ?_
        refine g_skip rfl ?_
        refine g_no h34 ?_
        refine g2 34 47 (jb true) h34 (rfl : (_ : V) = (.tup [])) fun h48 => ?_
        refine gz [(1, _), (2, _), (10, _), (11, _), (12, _), (48, _)] ⟨h1, h2, h10, h11, h12, h48⟩ ?_
        rintro s ⟨h1, h2, h10, h11, h12, h48⟩
        exact t_f63_j1 H x_1 x_9 (i_IsGraph_l1 F x_1 k) ih true _ ⟨h1, h2, h10, h11, h12, h48⟩ h
      refine g_yes (h20.trans (congrArg V.bool hg4)) (g1 4 (.ref (.bx 4) 0 [0] (ji e_16.1)) h4 fun h21 => ?_)
      refine g_yes (h20.trans (congrArg V.bool hg4)) (g1 21 (ji e_16.1) h21 fun h22 => ?_)
      refine g_yes (h20.trans (congrArg V.bool hg4)) (g1 4 (.ref (.bx 4) 0 [1] (ji e_16.2)) h4 fun h23 => ?_)
      refine g_yes (h20.trans (congrArg V.bool hg4)) (g1 23 (ji e_16.2) h23 fun h24 => ?_)
      refine g_yes (h20.trans (congrArg V.bool hg4)) (g2 22 24 (jb (decide (e_16.1 ≥ e_16.2))) h22 h24 fun h25 => ?_)
      refine g2 20 25 (jb (decide (e_16.1 ≥ e_16.2))) (h20.trans (congrArg V.bool hg4)) h25 fun h26 => ?_
      refine gm h26 fun h27 => split_on (c := decide (e_16.1 ≥ e_16.2)) h (fun hg11 h => ?_) (fun hg11 h => ?_)
      · refine g_no (h27.trans (congrArg V.bool hg11)) ?_
        refine g_no (h27.trans (congrArg V.bool hg11)) ?_
        refine g_no (h27.trans (congrArg V.bool hg11)) ?_
        refine g_no (h27.trans (congrArg V.bool hg11)) ?_
        refine g_no (h27.trans (congrArg V.bool hg11)) ?_
        refine g2 27 32 (jb true) (h27.trans (congrArg V.bool hg11)) (rfl : (_ : V) = (.tup [])) fun h33 => ?_
        refine gm h33 fun h34 => g_no h34 ?_
        refine g_no h34 ?_
        refine g_no h34 ?_
        refine g_skip rfl ?_
        refine g_skip rfl ?_
        refine g_skip rfl ?_
        refine g_skip rfl ?_
        refine g_skip rfl ?_
        refine g_skip rfl ?_
        refine g_skip rfl ?_
        refine g_skip rfl ?_
        refine g_skip rfl ?_
        refine g_no h34 ?_
        refine g2 34 47 (jb true) h34 (rfl : (_ : V) = (.tup [])) fun h48 => ?_
        refine gz [(1, _), (2, _), (10, _), (11, _), (12, _), (48, _)] ⟨h1, h2, h10, h11, h12, h48⟩ ?_
        rintro s ⟨h1, h2, h10, h11, h12, h48⟩
        exact t_f63_j1 H x_1 x_9 (i_IsGraph_l1 F x_1 k) ih true _ ⟨h1, h2, h10, h11, h12, h48⟩ h
      refine g_yes (h27.trans (congrArg V.bool hg11)) (g1 4 (.ref (.bx 4) 0 [1] (ji e_16.2)) h4 fun h28 => ?_)
      refine g_yes (h27.trans (congrArg V.bool hg11)) (g1 28 (ji e_16.2) h28 fun h29 => ?_)
      refine g_yes (h27.trans (congrArg V.bool hg11)) (g1 1 (.ref (.bx 1) 0 [0] (ji x_1.1)) h1 fun h30 => ?_)
      refine g_yes (h27.trans (congrArg V.bool hg11)) (g1 30 (ji x_1.1) h30 fun h31 => ?_)
      refine g_yes (h27.trans (congrArg V.bool hg11)) (g2 29 31 (jb (decide (e_16.2 ≥ x_1.1))) h29 h31 fun h32 => ?_)
      refine g2 27 32 (jb (decide (e_16.2 ≥ x_1.1))) (h27.trans (congrArg V.bool hg11)) h32 fun h33 => ?_
      refine gm h33 fun h34 => split_on (c := decide (e_16.2 ≥ x_1.1)) h (fun hg18 h => ?_) (fun hg18 h => ?_)
      · refine g_no (h34.trans (congrArg V.bool hg18)) ?_
        refine g_no (h34.trans (congrArg V.bool hg18)) ?_
        refine g_no (h34.trans (congrArg V.bool hg18)) ?_
        refine g_skip rfl ?_
        refine g_skip rfl ?_
        refine g_skip rfl ?_
        refine g_skip rfl ?_
        refine g_skip rfl ?_
        refine g_skip rfl ?_
        refine g_skip rfl ?_
        refine g_skip rfl ?_
        refine g_skip rfl ?_
        refine g_no (h34.trans (congrArg V.bool hg18)) ?_
        refine g2 34 47 (jb true) (h34.trans (congrArg V.bool hg18)) (rfl : (_ : V) = (.tup [])) fun h48 => ?_
        refine gz [(1, _), (2, _), (10, _), (11, _), (12, _), (48, _)] ⟨h1, h2, h10, h11, h12, h48⟩ ?_
        rintro s ⟨h1, h2, h10, h11, h12, h48⟩
        exact t_f63_j1 H x_1 x_9 (i_IsGraph_l1 F x_1 k) ih true _ ⟨h1, h2, h10, h11, h12, h48⟩ h
      refine g_yes (h34.trans (congrArg V.bool hg18)) (gm h3 fun h35 => ?_)
      refine g_yes (h34.trans (congrArg V.bool hg18)) (g1 35 (jb (decide (x_9 > 0))) h35 fun h36 => ?_)
      refine g_yes (h34.trans (congrArg V.bool hg18)) (gm h36 fun h37 => ?_)
      refine split_on (c := decide (x_9 > 0)) h (fun hg21 h => ?_) (fun hg21 h => ?_)
      · refine g_yes (h37.trans (congrArg V.bool hg21)) (g1 1 (.ref (.bx 1) 0 [1] (Enc.enc (x_1.2 : List (Int × Int)))) h1 fun h38 => ?_)
        refine g_yes (h37.trans (congrArg V.bool hg21)) (g1 38 (Enc.enc (x_1.2 : List (Int × Int))) h38 fun h39 => ?_)
        refine g_yes (h37.trans (congrArg V.bool hg21)) (gm h3 fun h40 => ?_)
        refine g_yes (h37.trans (congrArg V.bool hg21)) (g1 40 (ji (w64 (x_9 - 1))) h40 fun h41 => ?_)
        obtain ⟨e_20, E_e_20, h⟩ := bind_some h
        refine g_yes (h37.trans (congrArg V.bool hg21)) (gv (.ref .sh 0 [] (.agg [(ji e_20.1), (ji e_20.2)])) (ev_idx (t := .sh) (lo := 0) (xs := x_1.2) h39 h41 E_e_20 rfl rfl) fun h42 => ?_)
        refine g_yes (h37.trans (congrArg V.bool hg21)) (g1 42 (eL [e_20.1, e_20.2]) h42 fun h43 => ?_)
        refine g_yes (h37.trans (congrArg V.bool hg21)) (g1 4 (encO (.bx 4) (.of ([e_16.1, e_16.2] : List Int))) h4 fun h44 => ?_)
        obtain ⟨r_21, E_r_21, h⟩ := bind_some h
        refine g_yes (h37.trans (congrArg V.bool hg21)) (g_call (m := 0) (al := false) (r := (Enc.enc (r_21 : Int))) [Enc.enc ([e_20.1, e_20.2] : (List Int)), Enc.enc ([e_16.1, e_16.2] : (List Int))] (ta_cons (v := (eL [e_20.1, e_20.2])) h43 rfl (Enc.erase_enc ([e_20.1, e_20.2] : (List Int))) (ta_cons (v := (encO (.bx 4) (.of ([e_16.1, e_16.2] : List Int)))) h44 rfl (erase_encO (o := .of [e_16.1, e_16.2])) ta_nil)) (H.c94 _ _ _ E_r_21) H.g94 rfl rfl rfl rfl ?_)
        refine g_yes (h37.trans (congrArg V.bool hg21)) (g1 45 (jb (decide (r_21 ≥ 0))) (rfl : (_ : V) = (ji r_21)) fun h46 => ?_)
        refine g_yes (h34.trans (congrArg V.bool hg18)) (g2 37 46 (jb (decide (r_21 ≥ 0))) (h37.trans (congrArg V.bool hg21)) h46 fun h47 => ?_)
        refine g2 34 47 (jb (decide (r_21 ≥ 0))) (h34.trans (congrArg V.bool hg18)) h47 fun h48 => ?_
        refine gz [(1, _), (2, _), (10, _), (11, _), (12, _), (48, _)] ⟨h1, h2, h10, h11, h12, h48⟩ ?_
        rintro s ⟨h1, h2, h10, h11, h12, h48⟩
        exact t_f63_j1 H x_1 x_9 (i_IsGraph_l1 F x_1 k) ih (decide (r_21 ≥ 0)) _ ⟨h1, h2, h10, h11, h12, h48⟩ h
      refine g_no (h37.trans (congrArg V.bool hg21)) ?_
      refine g_no (h37.trans (congrArg V.bool hg21)) ?_
      refine g_no (h37.trans (congrArg V.bool hg21)) ?_
      refine g_no (h37.trans (congrArg V.bool hg21)) ?_
      refine g_no (h37.trans (congrArg V.bool hg21)) ?_
      refine g_no (h37.trans (congrArg V.bool hg21)) ?_
      refine g_no (h37.trans (congrArg V.bool hg21)) ?_
      refine g_no (h37.trans (congrArg V.bool hg21)) ?_
      refine g_no (h37.trans (congrArg V.bool hg21)) ?_
      refine g_yes (h34.trans (congrArg V.bool hg18)) (g2 37 46 (jb false) (h37.trans (congrArg V.bool hg21)) (rfl : (_ : V) = (.tup [])) fun h47 => ?_)
      refine g2 34 47 (jb false) (h34.trans (congrArg V.bool hg18)) h47 fun h48 => ?_
      refine gz [(1, _), (2, _), (10, _), (11, _), (12, _), (48, _)] ⟨h1, h2, h10, h11, h12, h48⟩ ?_
      rintro s ⟨h1, h2, h10, h11, h12, h48⟩
      exact t_f63_j1 H x_1 x_9 (i_IsGraph_l1 F x_1 k) ih false _ ⟨h1, h2, h10, h11, h12, h48⟩ h
    refine .exit (.esq (.elp (.ebk (.nsq (.seq (rg (g0 (jb true) fun h2 => ?_)))))))
    refine gq (.nsq (.ret ?_))
    have hr := Option.some.inj h
    subst hr
    exact rrA (res_tmp h2) rfl
def i_IsGraph (F : Nat) (x_1 : (Int × (List (Int × Int)))) : Option Bool :=
  (i_within F x_1.1 0 8).bind fun r_2 =>
  bif (!r_2) then
    some false
  else
    i_IsGraph_l1 F x_1 F 0
theorem t63 (H : H63 D σ F) (x_1 : (Int × (List (Int × Int)))) (s : Nat → V) (hs : Facts [(0, (.agg [(ji x_1.1), (Enc.enc (x_1.2 : List (Int × Int)))]))] s) (h : i_IsGraph F x_1 = some r) : Run D σ (R63 r) (.run A63 []) s := by
  unfold i_IsGraph at h
  have h0 := hs
  refine .seq (run_reg ?_)
  refine e_clr ?_
  refine ez [(0, _), (1, _)] ⟨(keep_clear (pk := [1]) h0 rfl (map_agg (maps_cons mi (maps_cons me maps_nil)))), (gone_clear (pk := [1]) (t := 1) rfl)⟩ ?_
  rintro s ⟨h0, h1⟩
  refine g_box (.agg [(ji x_1.1), (Enc.enc (x_1.2 : List (Int × Int)))]) (rd_of h0 rfl) h1 rfl ?_
  refine g0 (jb false) fun h2 => ?_
  refine gq (.nsq (.seq (.seq (rg (g1 1 (.ref (.bx 1) 0 [0] (ji x_1.1)) (rfl : (_ : V) = (.ref (.bx 1) 0 [] (.agg [(ji x_1.1), (Enc.enc (x_1.2 : List (Int × Int)))]))) fun h5 => ?_)))))
  refine g1 5 (ji x_1.1) h5 fun h6 => ?_
  obtain ⟨r_2, E_r_2, h⟩ := bind_some h
  refine g_call (m := 0) (al := false) (r := (Enc.enc (r_2 : Bool))) [Enc.enc (x_1.1 : Int), Enc.enc (0 : Int), Enc.enc (8 : Int)] (ta_cons (v := (ji x_1.1)) h6 rfl rfl (ta_cons (v := (ji 0)) rfl rfl rfl (ta_cons (v := (ji 8)) rfl rfl rfl ta_nil))) (H.c105 _ _ _ _ E_r_2) H.g105 rfl rfl rfl rfl ?_
  refine g1 7 (jb (!r_2)) (rfl : (_ : V) = (jb r_2)) fun h8 => ?_
  refine gq (.nsq (run_cond (t := (!r_2)) h8 h (fun h => ?_) (fun h => ?_)))
  · refine .seq (rg (g0 (jb false) fun h2 => ?_))
    refine gq (.nsq (.ret ?_))
    have hr := Option.some.inj h
    subst hr
    exact rrA (res_tmp h2) rfl
  refine .skip (.nsq (.seq (.seq (rg (g1 1 (.ref (.bx 1) 0 [1] (Enc.enc (x_1.2 : List (Int × Int)))) (rfl : (_ : V) = (.ref (.bx 1) 0 [] (.agg [(ji x_1.1), (Enc.enc (x_1.2 : List (Int × Int)))]))) fun h9 => ?_)))))
  refine g1 9 (Enc.enc (x_1.2 : List (Int × Int))) h9 fun h10 => ?_
  refine gv (ji (x_1.2.length : Int)) (ev_len (xs := x_1.2) h10) fun h11 => ?_
  refine g0 (ji 0) fun h12 => gq (.nsq (.block (.loop ?_)))
  exact t_f63_l1 H x_1 F 0 _ ⟨rfl, h2, h10, h11, h12⟩ h
end
def e63 (F : Nat) : Ent := ent 63 (fun (x : ((Int × (List (Int × Int))) × Unit)) => i_IsGraph F x.1) (fun (r : Bool) => (Enc.enc (r : Bool))) 0 false []
theorem p63 {F : Nat} {x0 : (Int × (List (Int × Int)))} {r : Bool} (h : i_IsGraph F x0 = some r) : (e63 F).den [Enc.enc x0] = some (Enc.enc (r : Bool)) := ent_put (x0, ()) h
theorem o63 {D : Den} {σ : Sig} {F : Nat} (hF : Fits2 Try.prog D σ) (H : H63 D σ F) : (e63 F).Ok Try.prog := by
  refine ok_of (f := 63) (show unk 63 = 63 from rfl) (fun args r h => ?_) ⟨Try.f63, Try.func63, rfl, rfl⟩
  obtain ⟨⟨x0, _⟩, y, rfl, hy, rfl⟩ := da_open h
  exact contract_run hF (by kernel_rfl) Try.func63 rfl c63 (show 1 ≤ Try.f63.ntmps by decide) (t63 H x0 _ rfl hy)
/- loop.example/g01109/impl.netOf -/
def A65_5 : AC := (.reg [] [((jv 28 (.fld (.t 3) 0 0))), ((jv 29 (.load .p (.t 28)))), ((jv 30 (.idxA (.t 5) (jn 1) 2 1))), ((jv 31 (.load .s (.t 30)))), ((jv 32 (.idx (.t 29) (.t 31) 1))), ((jv 33 (.load .s (.t 32)))), ((jv 34 (.idxA (.t 5) (jn 0) 2 1))), ((jv 35 (.load .s (.t 34)))), ((jv 36 (.bin .shl (jn 1) (.t 35)))), ((jv 37 (.bin .or (.t 33) (.t 36)))), ((jv 38 (.idx (.t 29) (.t 31) 1))), (.mk none none false (.store .s (.t 38) (.t 37)))] [])
def A65_4 : AC := (.seq (.reg [] [((jv 17 (.fld (.t 3) 0 0))), ((jv 18 (.load .p (.t 17)))), ((jv 19 (.idxA (.t 5) (jn 0) 2 1))), ((jv 20 (.load .s (.t 19)))), ((jv 21 (.idx (.t 18) (.t 20) 1))), ((jv 22 (.load .s (.t 21)))), ((jv 23 (.idxA (.t 5) (jn 1) 2 1))), ((jv 24 (.load .s (.t 23)))), ((jv 25 (.bin .shl (jn 1) (.t 24)))), ((jv 26 (.bin .or (.t 22) (.t 25)))), ((jv 27 (.idx (.t 18) (.t 20) 1))), (.mk none none false (.store .s (.t 27) (.t 26)))] []) A65_5)
def A65_6 : AC := (.reg [] [((jv 39 (.bin .add (.t 13) (jn 1)))), (jm 13 39)] [])
def A65_3 : AC := (.seq (.block 1 (.seq (.reg [.clr [5]] [((jv 15 (.idx (.t 11) (.t 13) 2))), ((jv 16 (.load (.ag [.s, .s]) (.t 15)))), (.mk (some 5) none false (.alloc (.agg [(.int .i64 (.ofNat 0)), (.int .i64 (.ofNat 0))]))), (.mk none none false (.store (.ag [.s, .s]) (.t 5) (.t 16)))] []) A65_4)) A65_6)
def A65_2 : AC := (.seq (.cond (.t 14) .skip (.exit 0)) A65_3)
def A65_1 : AC := (.seq (.reg [] [((jv 14 (.bin .lss (.t 13) (.t 12))))] []) A65_2)
def A65_7 : AC := (.seq (.reg [] [((jv 40 (.load (.ag [.p]) (.t 3)))), (.mk none none false (.store (.ag [.p]) (.t 2) (.t 40)))] []) .ret)
def A65_10 : AC := (.block 0 (.loop A65_1))
def A65_9 : AC := (.seq (.seq (.reg [] [((jv 10 (.fld (.t 1) 1 1))), ((jv 11 (.load .p (.t 10)))), ((jv 12 (.len (.t 11)))), ((jv 13 (.mov (jn 0))))] []) A65_10) A65_7)
def A65_8 : AC := (.seq (.reg [.clr [8, 3]] [((jv 6 (.fld (.t 1) 0 0))), ((jv 7 (.load .s (.t 6)))), (.mk (some 8) none false (.mk (.t 7) (.int .i64 (.ofNat 0)) (.int .i64 (.ofNat 0)))), ((jv 9 (.bld (.agg [(.sl .nl .s 0 [])]) [(0, 0, (.t 8))]))), (.mk (some 3) none false (.alloc (.agg [(.sl .nl .s 0 [])]))), (.mk none none false (.store (.ag [.p]) (.t 3) (.t 9)))] []) A65_9)
def A65 : AC := (.seq (.reg [.clr [1, 2]] [(.mk (some 1) none false (.box (.t 0))), (.mk (some 2) none false (.alloc (.agg [(.sl .nl .s 0 [])])))] []) A65_8)
def an65 : List An := [{ id := 0, pre := [.clr [1, 2]], ep := [], lin := [], sp := [] }, { id := 1, pre := [.clr [8, 3]], ep := [], lin := [], sp := [] }, { id := 4, pre := [.clr [5]], ep := [], lin := [], sp := [] }]
theorem c65 : cC Try.prog Try.f65.ntmps an65 (Try.f65.body.getD .skip) = some A65 := by kernel_rfl
structure H65 (D : Den) (σ : Sig) (F : Nat) : Prop where
  mk ::
abbrev R65 (r : (S1 (List Int))) : (Nat → V) → Prop := RR Try.prog [.cell 2 71] 0 false (Enc.enc (r : (S1 (List Int))))
section
variable {D : Den} {σ : Sig} {F : Nat} {r : (S1 (List Int))}
def i_netOf_l1 (F : Nat) (x_1 : (Int × (List (Int × Int))))  : Nat → (List Int) → Int → Option (S1 (List Int))
  | 0, _, _ => none
  | k + 1, x_10, x_11 =>
    bif decide (x_11 < (x_1.2.length : Int)) then
      (idx x_1.2 x_11).bind fun e_19 =>
      (idx x_10 e_19.1).bind fun e_20 =>
      (shlI .i64 1 e_19.2).bind fun q_21 =>
      (idx x_10 e_19.1).bind fun e_22 =>
      (idx (x_10.set e_19.1.toNat (ior .i64 e_20 q_21)) e_19.2).bind fun e_23 =>
      (shlI .i64 1 e_19.1).bind fun q_24 =>
      (idx (x_10.set e_19.1.toNat (ior .i64 e_20 q_21)) e_19.2).bind fun e_25 =>
      (i_netOf_l1 F x_1 k) ((x_10.set e_19.1.toNat (ior .i64 e_20 q_21)).set e_19.2.toNat (ior .i64 e_23 q_24)) (w64 (x_11 + 1))
    else
      some (S1.mk x_10)
theorem t_f65_l1 (H : H65 D σ F) (x_1 : (Int × (List (Int × Int))))  : ∀ (k : Nat) (x_10 : (List Int)) (x_11 : Int) (s : Nat → V), Facts [(2, (.ref (.bx 2) 0 [] (.agg [(.sl .nl (Enc.shp Int) 0 [])]))), (3, (.ref (.bx 3) 0 [] (.agg [(oI 8 [] (.of x_10))]))), (11, (Enc.enc (x_1.2 : List (Int × Int)))), (12, (ji (x_1.2.length : Int))), (13, (ji x_11))] s → i_netOf_l1 F x_1 k x_10 x_11 = some r → Run D σ (R65 r) (.run A65_1 [.lp A65_1, .bk 0, .sq A65_7]) s := by
  intro k
  induction k with
  | zero => intro x_10 x_11 s _ h; exact nomatch (h : (none : Option _) = some r)
  | succ k ih =>
    intro x_10 x_11 s hs h
    rw [i_netOf_l1] at h
    obtain ⟨h2, h3, h11, h12, h13⟩ := hs
    refine .seq (rg (g2 13 12 (jb (decide (x_11 < (x_1.2.length : Int)))) h13 h12 fun h14 => ?_))
    refine gq (.nsq (.seq (run_cond (t := decide (x_11 < (x_1.2.length : Int))) h14 h (fun h => ?_) (fun h => ?_))))
    · refine .skip (.nsq (.seq (.block (.seq (run_reg ?_)))))
      refine e_clr ?_
      refine ez [(2, _), (3, _), (5, _), (11, _), (12, _), (13, _)] ⟨(keep_clear (pk := [5]) h2 rfl (map_bx rfl (map_agg (maps_cons rfl maps_nil)))), (keep_clear (pk := [5]) h3 rfl (map_bx rfl (map_agg (maps_cons (map_encO (r := 8) (p := []) rfl rfl) maps_nil)))), (gone_clear (pk := [5]) (t := 5) rfl), (keep_clear (pk := [5]) h11 rfl me), (keep_clear (pk := [5]) h12 rfl mi), (keep_clear (pk := [5]) h13 rfl mi)⟩ ?_
      rintro s ⟨h2, h3, h5, h11, h12, h13⟩
      obtain ⟨e_19, E_e_19, h⟩ := bind_some h
      refine gv (.ref .sh 0 [] (.agg [(ji e_19.1), (ji e_19.2)])) (ev_idx (t := .sh) (lo := 0) (xs := x_1.2) h11 h13 E_e_19 rfl rfl) fun h15 => ?_
      refine g1 15 (.agg [(ji e_19.1), (ji e_19.2)]) h15 fun h16 => ?_
      refine g_alloc h5 ?_
      refine g_store (.agg [(ji e_19.1), (ji e_19.2)]) (rd_of rfl rfl) (rd_of h16 rfl) (by refine ⟨by decide, by decide, rfl, rfl, rfl, ?_⟩; first | rfl | simp [V.toks, V.tokss, Enc.toks_enc]) ?_
      refine gz [(2, (.ref (.bx 2) 0 [] (.agg [(.sl .nl (Enc.shp Int) 0 [])]))), (3, (.ref (.bx 3) 0 [] (.agg [(oI 8 [] (.of x_10))]))), (5, (.ref (.bx 5) 0 [] (.agg [(ji e_19.1), (ji e_19.2)]))), (11, (Enc.enc (x_1.2 : List (Int × Int)))), (12, (ji (x_1.2.length : Int))), (13, (ji x_11))] ⟨(keep_mut h2 (mut_ref_ne rfl rfl (mut_agg (muts_cons rfl rfl)))), (keep_mut h3 (mut_ref_ne rfl rfl (mut_agg (muts_cons (mut_own_ne rfl rfl) rfl)))), (keep_mut rfl rfl), (keep_mut h11 (Enc.mut_enc _ _ _ _ (x_1.2 : List (Int × Int)))), (keep_mut h12 rfl), (keep_mut h13 rfl)⟩ ?_
      rintro s ⟨h2, h3, h5, h11, h12, h13⟩
      refine .nsq (.seq (rg (g1 3 (.ref (.bx 3) 0 [0] (oI 8 [] (.of x_10))) h3 fun h17 => ?_)))
      refine g1 17 (oI 8 [] (.of x_10)) h17 fun h18 => ?_
      refine g1 5 (.ref (.bx 5) 0 [0] (ji e_19.1)) h5 fun h19 => ?_
      refine g1 19 (ji e_19.1) h19 fun h20 => ?_
      obtain ⟨e_20, E_e_20, h⟩ := bind_some h
      refine gv (.ref (.at 8 []) e_19.1.toNat [] (ji e_20)) (ev_idxO (o := (.of x_10)) h18 h20 E_e_20 rfl) fun h21 => ?_
      refine g1 21 (ji e_20) h21 fun h22 => ?_
      refine g1 5 (.ref (.bx 5) 0 [1] (ji e_19.2)) h5 fun h23 => ?_
      refine g1 23 (ji e_19.2) h23 fun h24 => ?_
      obtain ⟨q_21, E_q_21, h⟩ := bind_some h
      refine gv (ji q_21) (ev_shl rfl h24 E_q_21) fun h25 => ?_
      refine g2 22 25 (ji (ior .i64 e_20 q_21)) h22 h25 fun h26 => ?_
      obtain ⟨e_22, E_e_22, h⟩ := bind_some h
      refine gv (.ref (.at 8 []) e_19.1.toNat [] (ji e_22)) (ev_idxO (o := (.of x_10)) h18 h20 E_e_22 rfl) fun h27 => ?_
      refine g_store (ji (ior .i64 e_20 q_21)) (rd_of h27 rfl) (rd_of h26 rfl) (by refine ⟨by decide, by decide, rfl, rfl, rfl, ?_⟩; first | rfl | simp [V.toks, V.tokss, Enc.toks_enc]) ?_
      refine gz [(2, (.ref (.bx 2) 0 [] (.agg [(.sl .nl (Enc.shp Int) 0 [])]))), (3, (.ref (.bx 3) 0 [] (.agg [(oI 8 [] (.of (x_10.set e_19.1.toNat (ior .i64 e_20 q_21))))]))), (5, (.ref (.bx 5) 0 [] (.agg [(ji e_19.1), (ji e_19.2)]))), (11, (Enc.enc (x_1.2 : List (Int × Int)))), (12, (ji (x_1.2.length : Int))), (13, (ji x_11))] ⟨(keep_mut h2 (mut_ref_ne rfl rfl (mut_agg (muts_cons rfl rfl)))), (keep_mut h3 (mut_ref_ne rfl rfl (mut_agg (muts_cons mut_own rfl)))), (keep_mut h5 rfl), (keep_mut h11 (Enc.mut_enc _ _ _ _ (x_1.2 : List (Int × Int)))), (keep_mut h12 rfl), (keep_mut h13 rfl)⟩ ?_
      rintro s ⟨h2, h3, h5, h11, h12, h13⟩
      refine .nsq (rg (g1 3 (.ref (.bx 3) 0 [0] (oI 8 [] (.of (x_10.set e_19.1.toNat (ior .i64 e_20 q_21))))) h3 fun h28 => ?_))
      refine g1 28 (oI 8 [] (.of (x_10.set e_19.1.toNat (ior .i64 e_20 q_21)))) h28 fun h29 => ?_
      refine g1 5 (.ref (.bx 5) 0 [1] (ji e_19.2)) h5 fun h30 => ?_
      refine g1 30 (ji e_19.2) h30 fun h31 => ?_
      obtain ⟨e_23, E_e_23, h⟩ := bind_some h
      refine gv (.ref (.at 8 []) e_19.2.toNat [] (ji e_23)) (ev_idxO (o := (.of (x_10.set e_19.1.toNat (ior .i64 e_20 q_21)))) h29 h31 E_e_23 rfl) fun h32 => ?_
      refine g1 32 (ji e_23) h32 fun h33 => ?_
      refine g1 5 (.ref (.bx 5) 0 [0] (ji e_19.1)) h5 fun h34 => ?_
      refine g1 34 (ji e_19.1) h34 fun h35 => ?_
      obtain ⟨q_24, E_q_24, h⟩ := bind_some h
      refine gv (ji q_24) (ev_shl rfl h35 E_q_24) fun h36 => ?_
      refine g2 33 36 (ji (ior .i64 e_23 q_24)) h33 h36 fun h37 => ?_
      obtain ⟨e_25, E_e_25, h⟩ := bind_some h
      refine gv (.ref (.at 8 []) e_19.2.toNat [] (ji e_25)) (ev_idxO (o := (.of (x_10.set e_19.1.toNat (ior .i64 e_20 q_21)))) h29 h31 E_e_25 rfl) fun h38 => ?_
      refine g_store (ji (ior .i64 e_23 q_24)) (rd_of h38 rfl) (rd_of h37 rfl) (by refine ⟨by decide, by decide, rfl, rfl, rfl, ?_⟩; first | rfl | simp [V.toks, V.tokss, Enc.toks_enc]) ?_
      refine gz [(2, (.ref (.bx 2) 0 [] (.agg [(.sl .nl (Enc.shp Int) 0 [])]))), (3, (.ref (.bx 3) 0 [] (.agg [(oI 8 [] (.of ((x_10.set e_19.1.toNat (ior .i64 e_20 q_21)).set e_19.2.toNat (ior .i64 e_23 q_24))))]))), (11, (Enc.enc (x_1.2 : List (Int × Int)))), (12, (ji (x_1.2.length : Int))), (13, (ji x_11))] ⟨(keep_mut h2 (mut_ref_ne rfl rfl (mut_agg (muts_cons rfl rfl)))), (keep_mut h3 (mut_ref_ne rfl rfl (mut_agg (muts_cons mut_own rfl)))), (keep_mut h11 (Enc.mut_enc _ _ _ _ (x_1.2 : List (Int × Int)))), (keep_mut h12 rfl), (keep_mut h13 rfl)⟩ ?_
      rintro s ⟨h2, h3, h11, h12, h13⟩
      refine .nbk (.nsq (rg (g1 13 (ji (w64 (x_11 + 1))) h13 fun h39 => ?_)))
      refine gm h39 fun h13 => gq (.nlp ?_)
      exact ih ((x_10.set e_19.1.toNat (ior .i64 e_20 q_21)).set e_19.2.toNat (ior .i64 e_23 q_24)) (w64 (x_11 + 1)) _ ⟨h2, h3, h11, h12, h13⟩ h
    refine .exit (.esq (.elp (.ebk (.nsq (.seq (rg (g1 3 (.agg [(oI 8 [] (.of x_10))]) h3 fun h40 => ?_)))))))
    refine g_store (.agg [(oI 8 [] (.of x_10))]) (rd_of h2 rfl) (rd_of h40 rfl) (by refine ⟨by decide, by decide, rfl, rfl, rfl, ?_⟩; first | rfl | simp [V.toks, V.tokss, Enc.toks_enc]) ?_
    refine gz [(2, (.ref (.bx 2) 0 [] (.agg [(oI 8 [] (.of x_10))])))] (keep_mut h2 rfl) ?_
    rintro s h2
    refine .nsq (.ret ?_)
    have hr := Option.some.inj h
    subst hr
    exact rrA (res_cell h2 (by kernel_rfl)) (fin_retF (fin_agg (fins_cons (fin_own (o := .of x_10)) fins_nil)) (mine_agg (mines_cons (mine_own rfl) mines_nil)))
def i_netOf (F : Nat) (x_1 : (Int × (List (Int × Int)))) : Option (S1 (List Int)) :=
  (mkN x_1.1 (0 : Int)).bind fun mk_2 =>
  i_netOf_l1 F x_1 F mk_2 0
theorem t65 (H : H65 D σ F) (x_1 : (Int × (List (Int × Int)))) (s : Nat → V) (hs : Facts [(0, (.agg [(ji x_1.1), (Enc.enc (x_1.2 : List (Int × Int)))]))] s) (h : i_netOf F x_1 = some r) : Run D σ (R65 r) (.run A65 []) s := by
  unfold i_netOf at h
  have h0 := hs
  refine .seq (run_reg ?_)
  refine e_clr ?_
  refine ez [(0, _), (1, _), (2, _)] ⟨(keep_clear (pk := [1, 2]) h0 rfl (map_agg (maps_cons mi (maps_cons me maps_nil)))), (gone_clear (pk := [1, 2]) (t := 1) rfl), (gone_clear (pk := [1, 2]) (t := 2) rfl)⟩ ?_
  rintro s ⟨h0, h1, h2⟩
  refine g_box (.agg [(ji x_1.1), (Enc.enc (x_1.2 : List (Int × Int)))]) (rd_of h0 rfl) h1 rfl ?_
  refine g_alloc h2 ?_
  refine gq (.nsq (.seq (run_reg ?_)))
  refine e_clr ?_
  refine ez [(1, _), (2, _), (3, _), (8, _)] ⟨(keep_clear (pk := [8, 3]) rfl rfl (map_bx rfl (map_agg (maps_cons mi (maps_cons me maps_nil))))), (keep_clear (pk := [8, 3]) rfl rfl (map_bx rfl (map_agg (maps_cons rfl maps_nil)))), (gone_clear (pk := [8, 3]) (t := 3) rfl), (gone_clear (pk := [8, 3]) (t := 8) rfl)⟩ ?_
  rintro s ⟨h1, h2, h3, h8⟩
  refine g1 1 (.ref (.bx 1) 0 [0] (ji x_1.1)) h1 fun h6 => ?_
  refine g1 6 (ji x_1.1) h6 fun h7 => ?_
  obtain ⟨mk_2, E_mk_2, h⟩ := bind_some h
  refine g_mk (0 : Int) h7 rfl h8 E_mk_2 ?_
  refine g1 8 (.agg [(oI 8 [] (.of mk_2))]) (rfl : (_ : V) = (oI 8 [] (.of mk_2))) fun h9 => ?_
  refine g_alloc h3 ?_
  refine g_store (.agg [(oI 8 [] (.of mk_2))]) (rd_of rfl rfl) (rd_of h9 rfl) (by refine ⟨by decide, by decide, rfl, rfl, rfl, ?_⟩; first | rfl | simp [V.toks, V.tokss, Enc.toks_enc]) ?_
  refine gz [(1, (.ref (.bx 1) 0 [] (.agg [(ji x_1.1), (Enc.enc (x_1.2 : List (Int × Int)))]))), (2, (.ref (.bx 2) 0 [] (.agg [(.sl .nl (Enc.shp Int) 0 [])]))), (3, (.ref (.bx 3) 0 [] (.agg [(oI 8 [] (.of mk_2))])))] ⟨(keep_mut h1 (mut_ref_ne rfl rfl (mut_agg (muts_cons rfl (muts_cons (Enc.mut_enc _ _ _ _ (x_1.2 : List (Int × Int))) rfl))))), (keep_mut h2 (mut_ref_ne rfl rfl (mut_agg (muts_cons rfl rfl)))), (keep_mut rfl rfl)⟩ ?_
  rintro s ⟨h1, h2, h3⟩
  refine .nsq (.seq (.seq (rg (g1 1 (.ref (.bx 1) 0 [1] (Enc.enc (x_1.2 : List (Int × Int)))) h1 fun h10 => ?_))))
  refine g1 10 (Enc.enc (x_1.2 : List (Int × Int))) h10 fun h11 => ?_
  refine gv (ji (x_1.2.length : Int)) (ev_len (xs := x_1.2) h11) fun h12 => ?_
  refine g0 (ji 0) fun h13 => gq (.nsq (.block (.loop ?_)))
  exact t_f65_l1 H x_1 F mk_2 0 _ ⟨h2, h3, h11, h12, h13⟩ h
end
def e65 (F : Nat) : Ent := ent 65 (fun (x : ((Int × (List (Int × Int))) × Unit)) => i_netOf F x.1) (fun (r : (S1 (List Int))) => (Enc.enc (r : (S1 (List Int))))) 0 false []
theorem p65 {F : Nat} {x0 : (Int × (List (Int × Int)))} {r : (S1 (List Int))} (h : i_netOf F x0 = some r) : (e65 F).den [Enc.enc x0] = some (Enc.enc (r : (S1 (List Int)))) := ent_put (x0, ()) h
theorem o65 {D : Den} {σ : Sig} {F : Nat} (hF : Fits2 Try.prog D σ) (H : H65 D σ F) : (e65 F).Ok Try.prog := by
  refine ok_of (f := 65) (show unk 65 = 65 from rfl) (fun args r h => ?_) ⟨Try.f65, Try.func65, rfl, rfl⟩
  obtain ⟨⟨x0, _⟩, y, rfl, hy, rfl⟩ := da_open h
  exact contract_run hF (by kernel_rfl) Try.func65 rfl c65 (show 1 ≤ Try.f65.ntmps by decide) (t65 H x0 _ rfl hy)
/- (loop.example/g01109/impl.net).all -/
def A113_1 : AC := (.seq (.reg [] [((jv 3 (.fld (.t 1) 0 0))), ((jv 4 (.load .p (.t 3)))), ((jv 5 (.len (.t 4)))), ((jv 6 (.bin .shl (jn 1) (.t 5)))), ((jv 7 (.bin .sub (.t 6) (jn 1)))), (jm 2 7)] []) .ret)
def A113 : AC := (.seq (.reg [.clr [1]] [(.mk (some 1) none false (.box (.t 0))), ((jv 2 (.mov (jn 0))))] []) A113_1)
def an113 : List An := [{ id := 0, pre := [.clr [1]], ep := [], lin := [], sp := [] }]
theorem c113 : cC Try.prog Try.f113.ntmps an113 (Try.f113.body.getD .skip) = some A113 := by kernel_rfl
structure H113 (D : Den) (σ : Sig) (F : Nat) : Prop where
  mk ::
abbrev R113 (r : Int) : (Nat → V) → Prop := RR Try.prog [.tmp 2] 0 false (Enc.enc (r : Int))
section
variable {D : Den} {σ : Sig} {F : Nat} {r : Int}
def i_net_all (F : Nat) (x_1 : (S1 (List Int))) : Option Int :=
  (shlI .i64 1 (x_1.a.length : Int)).bind fun q_2 =>
  some (w64 (q_2 - 1))
theorem t113 (H : H113 D σ F) (x_1 : (S1 (List Int))) (s : Nat → V) (hs : Facts [(0, (.agg [(eL x_1.a)]))] s) (h : i_net_all F x_1 = some r) : Run D σ (R113 r) (.run A113 []) s := by
  unfold i_net_all at h
  have h0 := hs
  refine .seq (run_reg ?_)
  refine e_clr ?_
  refine ez [(0, _), (1, _)] ⟨(keep_clear (pk := [1]) h0 rfl (map_agg (maps_cons me maps_nil))), (gone_clear (pk := [1]) (t := 1) rfl)⟩ ?_
  rintro s ⟨h0, h1⟩
  refine g_box (.agg [(eL x_1.a)]) (rd_of h0 rfl) h1 rfl ?_
  refine g0 (ji 0) fun h2 => gq (.nsq (.seq (rg (g1 1 (.ref (.bx 1) 0 [0] (eL x_1.a)) (rfl : (_ : V) = (.ref (.bx 1) 0 [] (.agg [(eL x_1.a)]))) fun h3 => ?_))))
  refine g1 3 (eL x_1.a) h3 fun h4 => ?_
  refine gv (ji (x_1.a.length : Int)) (ev_len (xs := x_1.a) h4) fun h5 => ?_
  obtain ⟨q_2, E_q_2, h⟩ := bind_some h
  refine gv (ji q_2) (ev_shl rfl h5 E_q_2) fun h6 => ?_
  refine g1 6 (ji (w64 (q_2 - 1))) h6 fun h7 => ?_
  refine gm h7 fun h2 => gq (.nsq (.ret ?_))
  have hr := Option.some.inj h
  subst hr
  exact rrA (res_tmp h2) rfl
end
def e113 (F : Nat) : Ent := ent 113 (fun (x : ((S1 (List Int)) × Unit)) => i_net_all F x.1) (fun (r : Int) => (Enc.enc (r : Int))) 0 false []
theorem p113 {F : Nat} {x0 : (S1 (List Int))} {r : Int} (h : i_net_all F x0 = some r) : (e113 F).den [Enc.enc x0] = some (Enc.enc (r : Int)) := ent_put (x0, ()) h
theorem o113 {D : Den} {σ : Sig} {F : Nat} (hF : Fits2 Try.prog D σ) (H : H113 D σ F) : (e113 F).Ok Try.prog := by
  refine ok_of (f := 113) (show unk 113 = 113 from rfl) (fun args r h => ?_) ⟨Try.f113, Try.func113, rfl, rfl⟩
  obtain ⟨⟨x0, _⟩, y, rfl, hy, rfl⟩ := da_open h
  exact contract_run hF (by kernel_rfl) Try.func113 rfl c113 (show 1 ≤ Try.f113.ntmps by decide) (t113 H x0 _ rfl hy)
/- (loop.example/g01109/impl.net).size -/
def A127_1 : AC := (.seq (.reg [] [((jv 3 (.fld (.t 1) 0 0))), ((jv 4 (.load .p (.t 3)))), ((jv 5 (.len (.t 4)))), (jm 2 5)] []) .ret)
def A127 : AC := (.seq (.reg [.clr [1]] [(.mk (some 1) none false (.box (.t 0))), ((jv 2 (.mov (jn 0))))] []) A127_1)
def an127 : List An := [{ id := 0, pre := [.clr [1]], ep := [], lin := [], sp := [] }]
theorem c127 : cC Try.prog Try.f127.ntmps an127 (Try.f127.body.getD .skip) = some A127 := by kernel_rfl
structure H127 (D : Den) (σ : Sig) (F : Nat) : Prop where
  mk ::
abbrev R127 (r : Int) : (Nat → V) → Prop := RR Try.prog [.tmp 2] 0 false (Enc.enc (r : Int))
section
variable {D : Den} {σ : Sig} {F : Nat} {r : Int}
def i_net_size (F : Nat) (x_1 : (S1 (List Int))) : Option Int :=
  some (x_1.a.length : Int)
theorem t127 (H : H127 D σ F) (x_1 : (S1 (List Int))) (s : Nat → V) (hs : Facts [(0, (.agg [(eL x_1.a)]))] s) (h : i_net_size F x_1 = some r) : Run D σ (R127 r) (.run A127 []) s := by
  unfold i_net_size at h
  have h0 := hs
  refine .seq (run_reg ?_)
  refine e_clr ?_
  refine ez [(0, _), (1, _)] ⟨(keep_clear (pk := [1]) h0 rfl (map_agg (maps_cons me maps_nil))), (gone_clear (pk := [1]) (t := 1) rfl)⟩ ?_
  rintro s ⟨h0, h1⟩
  refine g_box (.agg [(eL x_1.a)]) (rd_of h0 rfl) h1 rfl ?_
  refine g0 (ji 0) fun h2 => gq (.nsq (.seq (rg (g1 1 (.ref (.bx 1) 0 [0] (eL x_1.a)) (rfl : (_ : V) = (.ref (.bx 1) 0 [] (.agg [(eL x_1.a)]))) fun h3 => ?_))))
  refine g1 3 (eL x_1.a) h3 fun h4 => ?_
  refine gv (ji (x_1.a.length : Int)) (ev_len (xs := x_1.a) h4) fun h5 => ?_
  refine gm h5 fun h2 => gq (.nsq (.ret ?_))
  have hr := Option.some.inj h
  subst hr
  exact rrA (res_tmp h2) rfl
end
def e127 (F : Nat) : Ent := ent 127 (fun (x : ((S1 (List Int)) × Unit)) => i_net_size F x.1) (fun (r : Int) => (Enc.enc (r : Int))) 0 false []
theorem p127 {F : Nat} {x0 : (S1 (List Int))} {r : Int} (h : i_net_size F x0 = some r) : (e127 F).den [Enc.enc x0] = some (Enc.enc (r : Int)) := ent_put (x0, ()) h
theorem o127 {D : Den} {σ : Sig} {F : Nat} (hF : Fits2 Try.prog D σ) (H : H127 D σ F) : (e127 F).Ok Try.prog := by
  refine ok_of (f := 127) (show unk 127 = 127 from rfl) (fun args r h => ?_) ⟨Try.f127, Try.func127, rfl, rfl⟩
  obtain ⟨⟨x0, _⟩, y, rfl, hy, rfl⟩ := da_open h
  exact contract_run hF (by kernel_rfl) Try.func127 rfl c127 (show 1 ≤ Try.f127.ntmps by decide) (t127 H x0 _ rfl hy)
/- (loop.example/g01109/impl.net).around -/
def A175_5 : AC := (.cond (.t 21) (.reg [] [(jm 22 5), (jm 23 7), ((jv 24 (.bin .or (.t 22) (.t 23)))), (jm 5 24)] []) .skip)
def A175_4 : AC := (.seq (.reg [] [(jm 17 1), (jm 18 6), ((jv 19 (.bin .shr (.t 17) (.t 18)))), ((jv 20 (.bin .and (.t 19) (jn 1)))), ((jv 21 (.bin .eql (.t 20) (jn 1))))] []) A175_5)
def A175_6 : AC := (.reg [] [((jv 25 (.bin .add (.t 12) (jn 1)))), (jm 12 25)] [])
def A175_3 : AC := (.seq (.block 1 (.seq (.reg [] [(jm 14 12), ((jv 15 (.idx (.t 10) (.t 12) 1))), ((jv 16 (.load .s (.t 15)))), (jm 6 14), (jm 7 16)] []) A175_4)) A175_6)
def A175_2 : AC := (.seq (.cond (.t 13) .skip (.exit 0)) A175_3)
def A175_1 : AC := (.seq (.reg [] [((jv 13 (.bin .lss (.t 12) (.t 11))))] []) A175_2)
def A175_7 : AC := (.seq (.reg [] [(jm 26 5), (jm 4 26)] []) .ret)
def A175_10 : AC := (.block 0 (.loop A175_1))
def A175_9 : AC := (.seq (.seq (.reg [] [((jv 9 (.fld (.t 2) 0 0))), ((jv 10 (.load .p (.t 9)))), ((jv 11 (.len (.t 10)))), ((jv 12 (.mov (jn 0))))] []) A175_10) A175_7)
def A175_8 : AC := (.seq (.reg [] [(jm 8 1), (jm 5 8)] []) A175_9)
def A175 : AC := (.seq (.reg [.clr [2]] [(.mk (some 2) none false (.box (.t 0))), ((jv 4 (.mov (jn 0))))] []) A175_8)
def an175 : List An := [{ id := 0, pre := [.clr [2]], ep := [], lin := [], sp := [] }]
theorem c175 : cC Try.prog Try.f175.ntmps an175 (Try.f175.body.getD .skip) = some A175 := by kernel_rfl
structure H175 (D : Den) (σ : Sig) (F : Nat) : Prop where
  mk ::
abbrev R175 (r : Int) : (Nat → V) → Prop := RR Try.prog [.tmp 4] 0 false (Enc.enc (r : Int))
section
variable {D : Den} {σ : Sig} {F : Nat} {r : Int}
def i_net_around_j1 (F : Nat) (x_2 : Int) (x_1 : (S1 (List Int))) (x_7 : Int) (c1 : Int → Int → Option Int) (x_13 : Int) : Option Int :=
  c1 x_13 (w64 (x_7 + 1))
theorem t_f175_j1 (H : H175 D σ F) (x_2 : Int) (x_1 : (S1 (List Int))) (x_7 : Int) (c1 : Int → Int → Option Int) (Hc1 : ∀ (x_6 : Int) (x_7 : Int) (s : Nat → V), Facts [(1, (ji x_2)), (4, (ji 0)), (5, (ji x_6)), (10, (eL x_1.a)), (11, (ji (x_1.a.length : Int))), (12, (ji x_7))] s → c1 x_6 x_7 = some r → Run D σ (R175 r) (.run A175_1 [.lp A175_1, .bk 0, .sq A175_7]) s) (x_13 : Int) (s : Nat → V) (hs : Facts [(1, (ji x_2)), (4, (ji 0)), (5, (ji x_13)), (10, (eL x_1.a)), (11, (ji (x_1.a.length : Int))), (12, (ji x_7))] s) (h : i_net_around_j1 F x_2 x_1 x_7 c1 x_13 = some r) : Run D σ (R175 r) (.nrm [.bk 1, .sq A175_6, .lp A175_1, .bk 0, .sq A175_7]) s := by
  unfold i_net_around_j1 at h
  obtain ⟨h1, h4, h5, h10, h11, h12⟩ := hs
  refine .nbk (.nsq (rg (g1 12 (ji (w64 (x_7 + 1))) h12 fun h25 => ?_)))
  refine gm h25 fun h12 => gq (.nlp ?_)
  exact Hc1 x_13 (w64 (x_7 + 1)) _ ⟨h1, h4, h5, h10, h11, h12⟩ h
def i_net_around_l1 (F : Nat) (x_2 : Int) (x_1 : (S1 (List Int)))  : Nat → Int → Int → Option Int
  | 0, _, _ => none
  | k + 1, x_6, x_7 =>
    bif decide (x_7 < (x_1.a.length : Int)) then
      (idx x_1.a x_7).bind fun e_11 =>
      (shrI .i64 x_2 x_7).bind fun q_12 =>
      bif ((iand .i64 q_12 1) == 1) then
        i_net_around_j1 F x_2 x_1 x_7 (i_net_around_l1 F x_2 x_1 k) (ior .i64 x_6 e_11)
      else
        i_net_around_j1 F x_2 x_1 x_7 (i_net_around_l1 F x_2 x_1 k) x_6
    else
      some x_6
theorem t_f175_l1 (H : H175 D σ F) (x_2 : Int) (x_1 : (S1 (List Int)))  : ∀ (k : Nat) (x_6 : Int) (x_7 : Int) (s : Nat → V), Facts [(1, (ji x_2)), (4, (ji 0)), (5, (ji x_6)), (10, (eL x_1.a)), (11, (ji (x_1.a.length : Int))), (12, (ji x_7))] s → i_net_around_l1 F x_2 x_1 k x_6 x_7 = some r → Run D σ (R175 r) (.run A175_1 [.lp A175_1, .bk 0, .sq A175_7]) s := by
  intro k
  induction k with
  | zero => intro x_6 x_7 s _ h; exact nomatch (h : (none : Option _) = some r)
  | succ k ih =>
    intro x_6 x_7 s hs h
    rw [i_net_around_l1] at h
    obtain ⟨h1, h4, h5, h10, h11, h12⟩ := hs
    refine .seq (rg (g2 12 11 (jb (decide (x_7 < (x_1.a.length : Int)))) h12 h11 fun h13 => ?_))
    refine gq (.nsq (.seq (run_cond (t := decide (x_7 < (x_1.a.length : Int))) h13 h (fun h => ?_) (fun h => ?_))))
    · refine .skip (.nsq (.seq (.block (.seq (rg (gm h12 fun h14 => ?_))))))
      obtain ⟨e_11, E_e_11, h⟩ := bind_some h
      refine gv (.ref .sh 0 [] (ji e_11)) (ev_idx (t := .sh) (lo := 0) (xs := x_1.a) h10 h12 E_e_11 rfl rfl) fun h15 => ?_
      refine g1 15 (ji e_11) h15 fun h16 => ?_
      refine gm h14 fun h6 => gm h16 fun h7 => gq (.nsq (.seq (rg (gm h1 fun h17 => gm h6 fun h18 => ?_))))
      obtain ⟨q_12, E_q_12, h⟩ := bind_some h
      refine gv (ji q_12) (ev_shr h17 h18 E_q_12) fun h19 => ?_
      refine g1 19 (ji (iand .i64 q_12 1)) h19 fun h20 => ?_
      refine g1 20 (jb ((iand .i64 q_12 1) == 1)) h20 fun h21 => ?_
      refine gq (.nsq (run_cond (t := ((iand .i64 q_12 1) == 1)) h21 h (fun h => ?_) (fun h => ?_)))
      · refine rg (gm h5 fun h22 => gm h7 fun h23 => g2 22 23 (ji (ior .i64 x_6 e_11)) h22 h23 fun h24 => ?_)
        refine gm h24 fun h5 => gq ?_
        exact t_f175_j1 H x_2 x_1 x_7 (i_net_around_l1 F x_2 x_1 k) ih (ior .i64 x_6 e_11) _ ⟨h1, h4, h5, h10, h11, h12⟩ h
      refine .skip ?_
      exact t_f175_j1 H x_2 x_1 x_7 (i_net_around_l1 F x_2 x_1 k) ih x_6 _ ⟨h1, h4, h5, h10, h11, h12⟩ h
    refine .exit (.esq (.elp (.ebk (.nsq (.seq (rg (gm h5 fun h26 => gm h26 fun h4 => gq (.nsq (.ret ?_)))))))))
    have hr := Option.some.inj h
    subst hr
    exact rrA (res_tmp h4) rfl
def i_net_around (F : Nat) (x_1 : (S1 (List Int))) (x_2 : Int) : Option Int :=
  i_net_around_l1 F x_2 x_1 F x_2 0
theorem t175 (H : H175 D σ F) (x_1 : (S1 (List Int))) (x_2 : Int) (s : Nat → V) (hs : Facts [(0, (.agg [(eL x_1.a)])), (1, (ji x_2))] s) (h : i_net_around F x_1 x_2 = some r) : Run D σ (R175 r) (.run A175 []) s := by
  unfold i_net_around at h
  obtain ⟨h0, h1⟩ := hs
  refine .seq (run_reg ?_)
  refine e_clr ?_
  refine ez [(0, _), (1, _), (2, _)] ⟨(keep_clear (pk := [2]) h0 rfl (map_agg (maps_cons me maps_nil))), (keep_clear (pk := [2]) h1 rfl mi), (gone_clear (pk := [2]) (t := 2) rfl)⟩ ?_
  rintro s ⟨h0, h1, h2⟩
  refine g_box (.agg [(eL x_1.a)]) (rd_of h0 rfl) h2 rfl ?_
  refine g0 (ji 0) fun h4 => gq (.nsq (.seq (rg (gm h1 fun h8 => gm h8 fun h5 => gq (.nsq (.seq (.seq (rg (g1 2 (.ref (.bx 2) 0 [0] (eL x_1.a)) (rfl : (_ : V) = (.ref (.bx 2) 0 [] (.agg [(eL x_1.a)]))) fun h9 => ?_)))))))))
  refine g1 9 (eL x_1.a) h9 fun h10 => ?_
  refine gv (ji (x_1.a.length : Int)) (ev_len (xs := x_1.a) h10) fun h11 => ?_
  refine g0 (ji 0) fun h12 => gq (.nsq (.block (.loop ?_)))
  exact t_f175_l1 H x_2 x_1 F x_2 0 _ ⟨h1, h4, h5, h10, h11, h12⟩ h
end
def e175 (F : Nat) : Ent := ent 175 (fun (x : ((S1 (List Int)) × Int × Unit)) => i_net_around F x.1 x.2.1) (fun (r : Int) => (Enc.enc (r : Int))) 0 false []
theorem p175 {F : Nat} {x0 : (S1 (List Int))} {x1 : Int} {r : Int} (h : i_net_around F x0 x1 = some r) : (e175 F).den [Enc.enc x0, Enc.enc x1] = some (Enc.enc (r : Int)) := ent_put (x0, x1, ()) h
theorem o175 {D : Den} {σ : Sig} {F : Nat} (hF : Fits2 Try.prog D σ) (H : H175 D σ F) : (e175 F).Ok Try.prog := by
  refine ok_of (f := 175) (show unk 175 = 175 from rfl) (fun args r h => ?_) ⟨Try.f175, Try.func175, rfl, rfl⟩
  obtain ⟨⟨x0, x1, _⟩, y, rfl, hy, rfl⟩ := da_open h
  exact contract_run hF (by kernel_rfl) Try.func175 rfl c175 (show 2 ≤ Try.f175.ntmps by decide) (t175 H x0 x1 _ ⟨rfl, rfl⟩ hy)
/- (loop.example/g01109/impl.net).after -/
def A160_3 : AC := (.cond (.t 55) (.seq (.reg [] [((jv 56 (.load (.ag [.s, .s]) (.t 4)))), (.mk none none false (.store (.ag [.s, .s]) (.t 6) (.t 56))), ((jv 7 (.mov (.k (.bool true)))))] []) .ret) .skip)
def A160_4 : AC := (.reg [] [(jm 57 9), ((jv 58 (.fld (.t 4) 1 1))), (.mk none none false (.store .s (.t 58) (.t 57)))] [])
def A160_2 : AC := (.seq (.seq (.reg [] [(jm 52 9), ((jv 53 (.fld (.t 4) 1 1))), ((jv 54 (.load .s (.t 53)))), ((jv 55 (.bin .eql (.t 52) (.t 54))))] []) A160_3) A160_4)
def A160_1 : AC := (.block 1 (.seq (.reg [] [((jv 45 (.load (.ag [.p]) (.t 3)))), ((jv 46 (.fld (.t 4) 1 1))), ((jv 47 (.load .s (.t 46)))), (.mk (some 48) none false (.call (.k (.fn 175 [] [])) [(.t 45), (.t 47)])), ((jv 49 (.fld (.t 4) 0 0))), ((jv 50 (.load .s (.t 49)))), ((jv 51 (.bin .andNot (.t 48) (.t 50)))), (jm 9 51)] []) A160_2))
def A160_5 : AC := (.cond (.t 31) (.seq (.reg [] [((jv 32 (.load (.ag [.s, .s]) (.t 4)))), (.mk none none false (.store (.ag [.s, .s]) (.t 6) (.t 32))), ((jv 7 (.mov (.k (.bool false)))))] []) .ret) .skip)
def A160_8 : AC := (.block 0 (.loop A160_1))
def A160_7 : AC := (.seq (.reg [] [((jv 39 (.fld (.t 4) 1 1))), ((jv 40 (.load .s (.t 39)))), ((jv 41 (.fld (.t 4) 0 0))), ((jv 42 (.load .s (.t 41)))), ((jv 43 (.bin .andNot (.t 40) (.t 42)))), ((jv 44 (.fld (.t 4) 1 1))), (.mk none none false (.store .s (.t 44) (.t 43)))] []) A160_8)
def A160_6 : AC := (.seq (.reg [] [((jv 33 (.fld (.t 4) 0 0))), ((jv 34 (.load .s (.t 33)))), (jm 35 8), ((jv 36 (.bin .shl (jn 1) (.t 35)))), ((jv 37 (.bin .xor (.t 34) (.t 36)))), ((jv 38 (.fld (.t 4) 0 0))), (.mk none none false (.store .s (.t 38) (.t 37)))] []) A160_7)
def A160_9 : AC := (.seq (.seq (.reg [] [(jm 15 8), ((jv 16 (.load (.ag [.p]) (.t 3)))), (.mk (some 17) none false (.call (.k (.fn 127 [] [])) [(.t 16)])), ((jv 18 (.bin .sub (.t 17) (jn 1)))), (.mk (some 19) none false (.call (.k (.fn 105 [] [])) [(.t 15), (jn 0), (.t 18)])), ((jv 20 (.un .not (.t 19)))), (jm 21 20), ((jg 22 21 false (.fld (.t 4) 0 0))), ((jg 23 21 false (.load .s (.t 22)))), ((jg 24 21 false (.mov (.t 8)))), ((jg 25 21 false (.bin .shr (.t 23) (.t 24)))), ((jg 26 21 false (.bin .and (.t 25) (jn 1)))), ((jg 27 21 false (.bin .eql (.t 26) (jn 1)))), ((jg 28 21 false (.mov (.t 2)))), ((jg 29 21 false (.bin .lss (.t 28) (jn 0)))), ((jg 30 21 false (.beq true (.t 27) (.t 29)))), ((jv 31 (.pick (.t 21) (.k (.bool true)) (.t 30))))] []) A160_5) A160_6)
def A160_12 : AC := (.cond (.t 12) (.reg [] [(jm 13 2), ((jv 14 (.bin .sub (jn (-1)) (.t 13)))), (jm 8 14)] []) .skip)
def A160_11 : AC := (.seq (.seq (.reg [] [(jm 11 2), ((jv 12 (.bin .lss (.t 11) (jn 0))))] []) A160_12) A160_9)
def A160_10 : AC := (.seq (.reg [] [(jm 10 2), (jm 8 10)] []) A160_11)
def A160 : AC := (.seq (.reg [.clr [3, 4, 6]] [(.mk (some 3) none false (.box (.t 0))), (.mk (some 4) none false (.box (.t 1))), (.mk (some 6) none false (.alloc (.agg [(.int .i64 (.ofNat 0)), (.int .i64 (.ofNat 0))]))), ((jv 7 (.mov (.k (.bool false)))))] []) A160_10)
def an160 : List An := [{ id := 0, pre := [.clr [3, 4, 6]], ep := [], lin := [], sp := [] }]
theorem c160 : cC Try.prog Try.f160.ntmps an160 (Try.f160.body.getD .skip) = some A160 := by kernel_rfl
structure H160 (D : Den) (σ : Sig) (F : Nat) : Prop where
  c127 : ∀ (x0 : (S1 (List Int))) r, i_net_size F x0 = some r → D 127 [Enc.enc x0] = some (Enc.enc (r : Int))
  g127 : σ 127 = some (0, false)
  c105 : ∀ (x0 : Int) (x1 : Int) (x2 : Int) r, i_within F x0 x1 x2 = some r → D 105 [Enc.enc x0, Enc.enc x1, Enc.enc x2] = some (Enc.enc (r : Bool))
  g105 : σ 105 = some (0, false)
  c175 : ∀ (x0 : (S1 (List Int))) (x1 : Int) r, i_net_around F x0 x1 = some r → D 175 [Enc.enc x0, Enc.enc x1] = some (Enc.enc (r : Int))
  g175 : σ 175 = some (0, false)
abbrev R160 (r : ((Int × Int) × Bool)) : (Nat → V) → Prop := RR Try.prog [.cell 6 99, .tmp 7] 0 false (.tup [Enc.enc (r.1 : (Int × Int)), Enc.enc (r.2 : Bool)])
section
variable {D : Den} {σ : Sig} {F : Nat} {r : ((Int × Int) × Bool)}
def i_net_after_l1 (F : Nat) (x_1 : (S1 (List Int))) (x_2 : (Int × Int)) (q_9 : Int)  : Nat → Int → Option ((Int × Int) × Bool)
  | 0, _ => none
  | k + 1, x_11 =>
    (i_net_around F x_1 x_11).bind fun r_13 =>
    bif ((iandNot .i64 r_13 (ixor .i64 x_2.1 q_9)) == x_11) then
      some ((ixor .i64 x_2.1 q_9, x_11), true)
    else
      (i_net_after_l1 F x_1 x_2 q_9 k) (iandNot .i64 r_13 (ixor .i64 x_2.1 q_9))
theorem t_f160_l1 (H : H160 D σ F) (x_1 : (S1 (List Int))) (x_2 : (Int × Int)) (q_9 : Int)  : ∀ (k : Nat) (x_11 : Int) (s : Nat → V), Facts [(3, (.ref (.bx 3) 0 [] (.agg [(eL x_1.a)]))), (4, (.ref (.bx 4) 0 [] (.agg [(ji (ixor .i64 x_2.1 q_9)), (ji x_11)]))), (6, (.ref (.bx 6) 0 [] (.agg [(ji 0), (ji 0)]))), (7, (jb false))] s → i_net_after_l1 F x_1 x_2 q_9 k x_11 = some r → Run D σ (R160 r) (.run A160_1 [.lp A160_1, .bk 0]) s := by
  intro k
  induction k with
  | zero => intro x_11 s _ h; exact nomatch (h : (none : Option _) = some r)
  | succ k ih =>
    intro x_11 s hs h
    rw [i_net_after_l1] at h
    obtain ⟨h3, h4, h6, h7⟩ := hs
    refine .block (.seq (rg (g1 3 (.agg [(eL x_1.a)]) h3 fun h45 => ?_)))
    refine g1 4 (.ref (.bx 4) 0 [1] (ji x_11)) h4 fun h46 => ?_
    refine g1 46 (ji x_11) h46 fun h47 => ?_
    obtain ⟨r_13, E_r_13, h⟩ := bind_some h
    refine g_call (m := 0) (al := false) (r := (Enc.enc (r_13 : Int))) [Enc.enc (x_1 : (S1 (List Int))), Enc.enc (x_11 : Int)] (ta_cons (v := (.agg [(eL x_1.a)])) h45 rfl (Enc.erase_enc (x_1 : (S1 (List Int)))) (ta_cons (v := (ji x_11)) h47 rfl rfl ta_nil)) (H.c175 _ _ _ E_r_13) H.g175 rfl rfl rfl rfl ?_
    refine g1 4 (.ref (.bx 4) 0 [0] (ji (ixor .i64 x_2.1 q_9))) h4 fun h49 => ?_
    refine g1 49 (ji (ixor .i64 x_2.1 q_9)) h49 fun h50 => ?_
    refine g2 48 50 (ji (iandNot .i64 r_13 (ixor .i64 x_2.1 q_9))) (rfl : (_ : V) = (ji r_13)) h50 fun h51 => ?_
    refine gm h51 fun h9 => gq (.nsq (.seq (.seq (rg (gm h9 fun h52 => g1 4 (.ref (.bx 4) 0 [1] (ji x_11)) h4 fun h53 => ?_)))))
    refine g1 53 (ji x_11) h53 fun h54 => ?_
    refine g2 52 54 (jb ((iandNot .i64 r_13 (ixor .i64 x_2.1 q_9)) == x_11)) h52 h54 fun h55 => ?_
    refine gq (.nsq (run_cond (t := ((iandNot .i64 r_13 (ixor .i64 x_2.1 q_9)) == x_11)) h55 h (fun h => ?_) (fun h => ?_)))
    · refine .seq (rg (g1 4 (.agg [(ji (ixor .i64 x_2.1 q_9)), (ji x_11)]) h4 fun h56 => ?_))
      refine g_store (.agg [(ji (ixor .i64 x_2.1 q_9)), (ji x_11)]) (rd_of h6 rfl) (rd_of h56 rfl) (by refine ⟨by decide, by decide, rfl, rfl, rfl, ?_⟩; first | rfl | simp [V.toks, V.tokss, Enc.toks_enc]) ?_
      refine g0 (jb true) fun h7 => ?_
      refine gz [(3, (.ref (.bx 3) 0 [] (.agg [(eL x_1.a)]))), (4, (.ref (.bx 4) 0 [] (.agg [(ji (ixor .i64 x_2.1 q_9)), (ji x_11)]))), (6, (.ref (.bx 6) 0 [] (.agg [(ji (ixor .i64 x_2.1 q_9)), (ji x_11)]))), (7, _), (9, (ji (iandNot .i64 r_13 (ixor .i64 x_2.1 q_9))))] ⟨(keep_mut h3 (mut_ref_ne rfl rfl (mut_agg (muts_cons (Enc.mut_enc _ _ _ _ (x_1.a : List Int)) rfl)))), (keep_mut h4 rfl), (keep_mut h6 rfl), h7, (keep_mut h9 rfl)⟩ ?_
      rintro s ⟨h3, h4, h6, h7, h9⟩
      refine .nsq (.ret ?_)
      have hr := Option.some.inj h
      subst hr
      exact rrB (res_cell h6 (by kernel_rfl)) (res_tmp h7) rfl
    refine .skip (.nsq (rg (gm h9 fun h57 => g1 4 (.ref (.bx 4) 0 [1] (ji x_11)) h4 fun h58 => ?_)))
    refine g_store (ji (iandNot .i64 r_13 (ixor .i64 x_2.1 q_9))) (rd_of h58 rfl) (rd_of h57 rfl) (by refine ⟨by decide, by decide, rfl, rfl, rfl, ?_⟩; first | rfl | simp [V.toks, V.tokss, Enc.toks_enc]) ?_
    refine gz [(3, (.ref (.bx 3) 0 [] (.agg [(eL x_1.a)]))), (4, (.ref (.bx 4) 0 [] (.agg [(ji (ixor .i64 x_2.1 q_9)), (ji (iandNot .i64 r_13 (ixor .i64 x_2.1 q_9)))]))), (6, (.ref (.bx 6) 0 [] (.agg [(ji 0), (ji 0)]))), (7, (jb false))] ⟨(keep_mut h3 (mut_ref_ne rfl rfl (mut_agg (muts_cons (Enc.mut_enc _ _ _ _ (x_1.a : List Int)) rfl)))), (keep_mut h4 rfl), (keep_mut h6 rfl), (keep_mut h7 rfl)⟩ ?_
    rintro s ⟨h3, h4, h6, h7⟩
    refine .nbk (.nlp ?_)
    exact ih (iandNot .i64 r_13 (ixor .i64 x_2.1 q_9)) _ ⟨h3, h4, h6, h7⟩ h
def i_net_after_j1 (F : Nat) (x_1 : (S1 (List Int))) (x_2 : (Int × Int)) (x_4 : Int)  (x_8 : Bool) : Option ((Int × Int) × Bool) :=
  bif x_8 then
    some (x_2, false)
  else
    (shlI .i64 1 x_4).bind fun q_9 =>
    i_net_after_l1 F x_1 x_2 q_9 F (iandNot .i64 x_2.2 (ixor .i64 x_2.1 q_9))
theorem t_f160_j1 (H : H160 D σ F) (x_1 : (S1 (List Int))) (x_2 : (Int × Int)) (x_4 : Int)  (x_8 : Bool) (s : Nat → V) (hs : Facts [(3, (.ref (.bx 3) 0 [] (.agg [(eL x_1.a)]))), (4, (.ref (.bx 4) 0 [] (.agg [(ji x_2.1), (ji x_2.2)]))), (6, (.ref (.bx 6) 0 [] (.agg [(ji 0), (ji 0)]))), (7, (jb false)), (8, (ji x_4)), (31, (jb x_8))] s) (h : i_net_after_j1 F x_1 x_2 x_4  x_8 = some r) : Run D σ (R160 r) (.nrm [.sq A160_5, .sq A160_6]) s := by
  unfold i_net_after_j1 at h
  obtain ⟨h3, h4, h6, h7, h8, h31⟩ := hs
  refine .nsq (run_cond (t := x_8) h31 h (fun h => ?_) (fun h => ?_))
  · refine .seq (rg (g1 4 (.agg [(ji x_2.1), (ji x_2.2)]) h4 fun h32 => ?_))
    refine g_store (.agg [(ji x_2.1), (ji x_2.2)]) (rd_of h6 rfl) (rd_of h32 rfl) (by refine ⟨by decide, by decide, rfl, rfl, rfl, ?_⟩; first | rfl | simp [V.toks, V.tokss, Enc.toks_enc]) ?_
    refine g0 (jb false) fun h7 => ?_
    refine gz [(3, (.ref (.bx 3) 0 [] (.agg [(eL x_1.a)]))), (4, (.ref (.bx 4) 0 [] (.agg [(ji x_2.1), (ji x_2.2)]))), (6, (.ref (.bx 6) 0 [] (.agg [(ji x_2.1), (ji x_2.2)]))), (7, _), (8, (ji x_4))] ⟨(keep_mut h3 (mut_ref_ne rfl rfl (mut_agg (muts_cons (Enc.mut_enc _ _ _ _ (x_1.a : List Int)) rfl)))), (keep_mut h4 rfl), (keep_mut h6 rfl), h7, (keep_mut h8 rfl)⟩ ?_
    rintro s ⟨h3, h4, h6, h7, h8⟩
    refine .nsq (.ret ?_)
    have hr := Option.some.inj h
    subst hr
    exact rrB (res_cell h6 (by kernel_rfl)) (res_tmp h7) rfl
  refine .skip (.nsq (.seq (rg (g1 4 (.ref (.bx 4) 0 [0] (ji x_2.1)) h4 fun h33 => ?_))))
  refine g1 33 (ji x_2.1) h33 fun h34 => ?_
  refine gm h8 fun h35 => ?_
  obtain ⟨q_9, E_q_9, h⟩ := bind_some h
  refine gv (ji q_9) (ev_shl rfl h35 E_q_9) fun h36 => ?_
  refine g2 34 36 (ji (ixor .i64 x_2.1 q_9)) h34 h36 fun h37 => ?_
  refine g1 4 (.ref (.bx 4) 0 [0] (ji x_2.1)) h4 fun h38 => ?_
  refine g_store (ji (ixor .i64 x_2.1 q_9)) (rd_of h38 rfl) (rd_of h37 rfl) (by refine ⟨by decide, by decide, rfl, rfl, rfl, ?_⟩; first | rfl | simp [V.toks, V.tokss, Enc.toks_enc]) ?_
  refine gz [(3, (.ref (.bx 3) 0 [] (.agg [(eL x_1.a)]))), (4, (.ref (.bx 4) 0 [] (.agg [(ji (ixor .i64 x_2.1 q_9)), (ji x_2.2)]))), (6, (.ref (.bx 6) 0 [] (.agg [(ji 0), (ji 0)]))), (7, (jb false))] ⟨(keep_mut h3 (mut_ref_ne rfl rfl (mut_agg (muts_cons (Enc.mut_enc _ _ _ _ (x_1.a : List Int)) rfl)))), (keep_mut h4 rfl), (keep_mut h6 rfl), (keep_mut h7 rfl)⟩ ?_
  rintro s ⟨h3, h4, h6, h7⟩
  refine .nsq (.seq (rg (g1 4 (.ref (.bx 4) 0 [1] (ji x_2.2)) h4 fun h39 => ?_)))
  refine g1 39 (ji x_2.2) h39 fun h40 => ?_
  refine g1 4 (.ref (.bx 4) 0 [0] (ji (ixor .i64 x_2.1 q_9))) h4 fun h41 => ?_
  refine g1 41 (ji (ixor .i64 x_2.1 q_9)) h41 fun h42 => ?_
  refine g2 40 42 (ji (iandNot .i64 x_2.2 (ixor .i64 x_2.1 q_9))) h40 h42 fun h43 => ?_
  refine g1 4 (.ref (.bx 4) 0 [1] (ji x_2.2)) h4 fun h44 => ?_
  refine g_store (ji (iandNot .i64 x_2.2 (ixor .i64 x_2.1 q_9))) (rd_of h44 rfl) (rd_of h43 rfl) (by refine ⟨by decide, by decide, rfl, rfl, rfl, ?_⟩; first | rfl | simp [V.toks, V.tokss, Enc.toks_enc]) ?_
  refine gz [(3, (.ref (.bx 3) 0 [] (.agg [(eL x_1.a)]))), (4, (.ref (.bx 4) 0 [] (.agg [(ji (ixor .i64 x_2.1 q_9)), (ji (iandNot .i64 x_2.2 (ixor .i64 x_2.1 q_9)))]))), (6, (.ref (.bx 6) 0 [] (.agg [(ji 0), (ji 0)]))), (7, (jb false))] ⟨(keep_mut h3 (mut_ref_ne rfl rfl (mut_agg (muts_cons (Enc.mut_enc _ _ _ _ (x_1.a : List Int)) rfl)))), (keep_mut h4 rfl), (keep_mut h6 rfl), (keep_mut h7 rfl)⟩ ?_
  rintro s ⟨h3, h4, h6, h7⟩
  refine .nsq (.block (.loop ?_))
  exact t_f160_l1 H x_1 x_2 q_9 F (iandNot .i64 x_2.2 (ixor .i64 x_2.1 q_9)) _ ⟨h3, h4, h6, h7⟩ h
def i_net_after_j2 (F : Nat) (x_3 : Int) (x_1 : (S1 (List Int))) (x_2 : (Int × Int))  (x_4 : Int) : Option ((Int × Int) × Bool) :=
  (i_net_size F x_1).bind fun r_14 =>
  (i_within F x_4 0 (w64 (r_14 - 1))).bind fun r_15 =>
  bif (!r_15) then
    i_net_after_j1 F x_1 x_2 x_4 true
  else
    (shrI .i64 x_2.1 x_4).bind fun q_16 =>
    i_net_after_j1 F x_1 x_2 x_4 (((iand .i64 q_16 1) == 1) != (decide (x_3 < 0)))
theorem t_f160_j2 (H : H160 D σ F) (x_3 : Int) (x_1 : (S1 (List Int))) (x_2 : (Int × Int))  (x_4 : Int) (s : Nat → V) (hs : Facts [(2, (ji x_3)), (3, (.ref (.bx 3) 0 [] (.agg [(eL x_1.a)]))), (4, (.ref (.bx 4) 0 [] (.agg [(ji x_2.1), (ji x_2.2)]))), (6, (.ref (.bx 6) 0 [] (.agg [(ji 0), (ji 0)]))), (7, (jb false)), (8, (ji x_4))] s) (h : i_net_after_j2 F x_3 x_1 x_2  x_4 = some r) : Run D σ (R160 r) (.nrm [.sq A160_9]) s := by
  unfold i_net_after_j2 at h
  obtain ⟨h2, h3, h4, h6, h7, h8⟩ := hs
  refine .nsq (.seq (.seq (rg (gm h8 fun h15 => g1 3 (.agg [(eL x_1.a)]) h3 fun h16 => ?_))))
  obtain ⟨r_14, E_r_14, h⟩ := bind_some h
  refine g_call (m := 0) (al := false) (r := (Enc.enc (r_14 : Int))) [Enc.enc (x_1 : (S1 (List Int)))] (ta_cons (v := (.agg [(eL x_1.a)])) h16 rfl (Enc.erase_enc (x_1 : (S1 (List Int)))) ta_nil) (H.c127 _ _ E_r_14) H.g127 rfl rfl rfl rfl ?_
  refine g1 17 (ji (w64 (r_14 - 1))) (rfl : (_ : V) = (ji r_14)) fun h18 => ?_
  obtain ⟨r_15, E_r_15, h⟩ := bind_some h
  refine g_call (m := 0) (al := false) (r := (Enc.enc (r_15 : Bool))) [Enc.enc (x_4 : Int), Enc.enc (0 : Int), Enc.enc (w64 (r_14 - 1) : Int)] (ta_cons (v := (ji x_4)) h15 rfl rfl (ta_cons (v := (ji 0)) rfl rfl rfl (ta_cons (v := (ji (w64 (r_14 - 1)))) h18 rfl rfl ta_nil))) (H.c105 _ _ _ _ E_r_15) H.g105 rfl rfl rfl rfl ?_
  refine g1 19 (jb (!r_15)) (rfl : (_ : V) = (jb r_15)) fun h20 => ?_
  refine gm h20 fun h21 => split_on (c := (!r_15)) h (fun hg7 h => ?_) (fun hg7 h => ?_)
  · refine g_no (h21.trans (congrArg V.bool hg7)) ?_
    refine g_no (h21.trans (congrArg V.bool hg7)) ?_
    refine g_no (h21.trans (congrArg V.bool hg7)) ?_
    refine g_no (h21.trans (congrArg V.bool hg7)) ?_
    refine g_no (h21.trans (congrArg V.bool hg7)) ?_
    refine g_no (h21.trans (congrArg V.bool hg7)) ?_
    refine g_no (h21.trans (congrArg V.bool hg7)) ?_
    refine g_no (h21.trans (congrArg V.bool hg7)) ?_
    refine g_no (h21.trans (congrArg V.bool hg7)) ?_
    refine g2 21 30 (jb true) (h21.trans (congrArg V.bool hg7)) (rfl : (_ : V) = (.tup [])) fun h31 => ?_
    refine gq ?_
    exact t_f160_j1 H x_1 x_2 x_4 true _ ⟨h3, h4, h6, h7, h8, h31⟩ h
  refine g_yes (h21.trans (congrArg V.bool hg7)) (g1 4 (.ref (.bx 4) 0 [0] (ji x_2.1)) h4 fun h22 => ?_)
  refine g_yes (h21.trans (congrArg V.bool hg7)) (g1 22 (ji x_2.1) h22 fun h23 => ?_)
  refine g_yes (h21.trans (congrArg V.bool hg7)) (gm h8 fun h24 => ?_)
  obtain ⟨q_16, E_q_16, h⟩ := bind_some h
  refine g_yes (h21.trans (congrArg V.bool hg7)) (gv (ji q_16) (ev_shr h23 h24 E_q_16) fun h25 => ?_)
  refine g_yes (h21.trans (congrArg V.bool hg7)) (g1 25 (ji (iand .i64 q_16 1)) h25 fun h26 => ?_)
  refine g_yes (h21.trans (congrArg V.bool hg7)) (g1 26 (jb ((iand .i64 q_16 1) == 1)) h26 fun h27 => ?_)
  refine g_yes (h21.trans (congrArg V.bool hg7)) (gm h2 fun h28 => ?_)
  refine g_yes (h21.trans (congrArg V.bool hg7)) (g1 28 (jb (decide (x_3 < 0))) h28 fun h29 => ?_)
  refine g_yes (h21.trans (congrArg V.bool hg7)) (g2 27 29 (jb (((iand .i64 q_16 1) == 1) != (decide (x_3 < 0)))) h27 h29 fun h30 => ?_)
  refine g2 21 30 (jb (((iand .i64 q_16 1) == 1) != (decide (x_3 < 0)))) (h21.trans (congrArg V.bool hg7)) h30 fun h31 => ?_
  refine gq ?_
  exact t_f160_j1 H x_1 x_2 x_4 (((iand .i64 q_16 1) == 1) != (decide (x_3 < 0))) _ ⟨h3, h4, h6, h7, h8, h31⟩ h
def i_net_after (F : Nat) (x_1 : (S1 (List Int))) (x_2 : (Int × Int)) (x_3 : Int) : Option ((Int × Int) × Bool) :=
  bif decide (x_3 < 0) then
    i_net_after_j2 F x_3 x_1 x_2 (w64 ((-1) - x_3))
  else
    i_net_after_j2 F x_3 x_1 x_2 x_3
theorem t160 (H : H160 D σ F) (x_1 : (S1 (List Int))) (x_2 : (Int × Int)) (x_3 : Int) (s : Nat → V) (hs : Facts [(0, (.agg [(eL x_1.a)])), (1, (.agg [(ji x_2.1), (ji x_2.2)])), (2, (ji x_3))] s) (h : i_net_after F x_1 x_2 x_3 = some r) : Run D σ (R160 r) (.run A160 []) s := by
  unfold i_net_after at h
  obtain ⟨h0, h1, h2⟩ := hs
  refine .seq (run_reg ?_)
  refine e_clr ?_
  refine ez [(0, _), (1, _), (2, _), (3, _), (4, _), (6, _)] ⟨(keep_clear (pk := [3, 4, 6]) h0 rfl (map_agg (maps_cons me maps_nil))), (keep_clear (pk := [3, 4, 6]) h1 rfl (map_agg (maps_cons mi (maps_cons mi maps_nil)))), (keep_clear (pk := [3, 4, 6]) h2 rfl mi), (gone_clear (pk := [3, 4, 6]) (t := 3) rfl), (gone_clear (pk := [3, 4, 6]) (t := 4) rfl), (gone_clear (pk := [3, 4, 6]) (t := 6) rfl)⟩ ?_
  rintro s ⟨h0, h1, h2, h3, h4, h6⟩
  refine g_box (.agg [(eL x_1.a)]) (rd_of h0 rfl) h3 rfl ?_
  refine g_box (.agg [(ji x_2.1), (ji x_2.2)]) (rd_of h1 rfl) h4 rfl ?_
  refine g_alloc h6 ?_
  refine g0 (jb false) fun h7 => ?_
  refine gq (.nsq (.seq (rg (gm h2 fun h10 => gm h10 fun h8 => gq (.nsq (.seq (.seq (rg (gm h2 fun h11 => g1 11 (jb (decide (x_3 < 0))) h11 fun h12 => ?_)))))))))
  refine gq (.nsq (run_cond (t := decide (x_3 < 0)) h12 h (fun h => ?_) (fun h => ?_)))
  · refine rg (gm h2 fun h13 => g1 13 (ji (w64 ((-1) - x_3))) h13 fun h14 => ?_)
    refine gm h14 fun h8 => gq ?_
    exact t_f160_j2 H x_3 x_1 x_2 (w64 ((-1) - x_3)) _ ⟨h2, rfl, rfl, rfl, h7, h8⟩ h
  refine .skip ?_
  exact t_f160_j2 H x_3 x_1 x_2 x_3 _ ⟨h2, rfl, rfl, rfl, h7, h8⟩ h
end
def e160 (F : Nat) : Ent := ent 160 (fun (x : ((S1 (List Int)) × (Int × Int) × Int × Unit)) => i_net_after F x.1 x.2.1 x.2.2.1) (fun (r : ((Int × Int) × Bool)) => (.tup [Enc.enc (r.1 : (Int × Int)), Enc.enc (r.2 : Bool)])) 0 false []
theorem p160 {F : Nat} {x0 : (S1 (List Int))} {x1 : (Int × Int)} {x2 : Int} {r : ((Int × Int) × Bool)} (h : i_net_after F x0 x1 x2 = some r) : (e160 F).den [Enc.enc x0, Enc.enc x1, Enc.enc x2] = some (.tup [Enc.enc (r.1 : (Int × Int)), Enc.enc (r.2 : Bool)]) := ent_put (x0, x1, x2, ()) h
theorem o160 {D : Den} {σ : Sig} {F : Nat} (hF : Fits2 Try.prog D σ) (H : H160 D σ F) : (e160 F).Ok Try.prog := by
  refine ok_of (f := 160) (show unk 160 = 160 from rfl) (fun args r h => ?_) ⟨Try.f160, Try.func160, rfl, rfl⟩
  obtain ⟨⟨x0, x1, x2, _⟩, y, rfl, hy, rfl⟩ := da_open h
  exact contract_run hF (by kernel_rfl) Try.func160 rfl c160 (show 3 ≤ Try.f160.ntmps by decide) (t160 H x0 x1 x2 _ ⟨rfl, rfl, rfl⟩ hy)
/- (loop.example/g01109/impl.net).runProgram -/
def A157_6 : AC := (.cond (.t 36) (.seq (.reg [] [((jv 4 (.mov (.k (.sl .nl (.ag [.s, .s]) 0 []))))), ((jv 5 (.mov (.k (.bool false)))))] []) .ret) .skip)
def A157_7 : AC := (.reg [.clr [39, 40]] [(jm 37 6), ((jv 38 (.load (.ag [.s, .s]) (.t 9)))), (.mk (some 39) none false (.lit (.agg [(.int .i64 (.ofNat 0)), (.int .i64 (.ofNat 0))]) 1 [(0, 0, (.t 38))])), (.mk (some 40) none false (.app (.ag [.s, .s]) (.t 37) (.t 39))), (jm 6 40)] [.home 40 6])
def A157_5 : AC := (.seq (.seq (.reg [] [(jm 35 10), ((jv 36 (.un .not (.t 35))))] []) A157_6) A157_7)
def A157_4 : AC := (.seq (.reg [.clr [9]] [((jv 26 (.load (.ag [.p]) (.t 2)))), (jm 27 6), (jm 28 7), ((jv 29 (.idx (.t 27) (.t 28) 2))), ((jv 30 (.load (.ag [.s, .s]) (.t 29)))), (jm 31 8), (.mk (some 32) none false (.call (.k (.fn 160 [] [])) [(.t 26), (.t 30), (.t 31)])), (jm 25 32), ((jv 33 (.ext (.t 25) 0))), ((jv 34 (.extS (.t 25) 1))), (.mk (some 9) none false (.alloc (.agg [(.int .i64 (.ofNat 0)), (.int .i64 (.ofNat 0))]))), (.mk none none false (.store (.ag [.s, .s]) (.t 9) (.t 33))), (jm 10 34)] []) A157_5)
def A157_8 : AC := (.reg [] [((jv 41 (.bin .add (.t 20) (jn 1)))), (jm 20 41)] [])
def A157_3 : AC := (.seq (.block 1 (.seq (.reg [] [(jm 22 20), ((jv 23 (.idx (.t 18) (.t 20) 1))), ((jv 24 (.load .s (.t 23)))), (jm 7 22), (jm 8 24)] []) A157_4)) A157_8)
def A157_2 : AC := (.seq (.cond (.t 21) .skip (.exit 0)) A157_3)
def A157_1 : AC := (.seq (.reg [] [((jv 21 (.bin .lss (.t 20) (.t 19))))] []) A157_2)
def A157_9 : AC := (.seq (.reg [] [(jm 42 6), (jm 4 42), ((jv 5 (.mov (.k (.bool true)))))] [.home 6 4]) .ret)
def A157_11 : AC := (.cond (.t 13) (.seq (.reg [] [((jv 4 (.mov (.k (.sl .nl (.ag [.s, .s]) 0 []))))), ((jv 5 (.mov (.k (.bool false)))))] []) .ret) .skip)
def A157_14 : AC := (.block 0 (.loop A157_1))
def A157_13 : AC := (.seq (.seq (.reg [] [(jm 18 1), ((jv 19 (.len (.t 18)))), ((jv 20 (.mov (jn 0))))] []) A157_14) A157_9)
def A157_12 : AC := (.seq (.reg [.clr [17]] [((jv 14 (.load (.ag [.p]) (.t 2)))), (.mk (some 15) none false (.call (.k (.fn 113 [] [])) [(.t 14)])), ((jv 16 (.bld (.agg [(.int .i64 (.ofNat 0)), (.int .i64 (.ofNat 0))]) [(0, 0, (jn 0)), (1, 1, (.t 15))]))), (.mk (some 17) none false (.lit (.agg [(.int .i64 (.ofNat 0)), (.int .i64 (.ofNat 0))]) 1 [(0, 0, (.t 16))])), (jm 6 17)] [.home 17 6]) A157_13)
def A157_10 : AC := (.seq (.seq (.reg [] [(jm 11 1), ((jv 12 (.len (.t 11)))), ((jv 13 (.bin .gtr (.t 12) (jn 40))))] []) A157_11) A157_12)
def A157 : AC := (.seq (.reg [.clr [2]] [(.mk (some 2) none false (.box (.t 0))), ((jv 4 (.mov (.k (.sl .nl (.ag [.s, .s]) 0 []))))), ((jv 5 (.mov (.k (.bool false)))))] []) A157_10)
def an157 : List An := [{ id := 0, pre := [.clr [2]], ep := [], lin := [], sp := [] }, { id := 3, pre := [.clr [17]], ep := [.home 17 6], lin := [], sp := [] }, { id := 7, pre := [.clr [9]], ep := [], lin := [], sp := [] }, { id := 10, pre := [.clr [39, 40]], ep := [.home 40 6], lin := [], sp := [] }, { id := 12, pre := [], ep := [.home 6 4], lin := [], sp := [] }]
theorem c157 : cC Try.prog Try.f157.ntmps an157 (Try.f157.body.getD .skip) = some A157 := by kernel_rfl
structure H157 (D : Den) (σ : Sig) (F : Nat) : Prop where
  c113 : ∀ (x0 : (S1 (List Int))) r, i_net_all F x0 = some r → D 113 [Enc.enc x0] = some (Enc.enc (r : Int))
  g113 : σ 113 = some (0, false)
  c160 : ∀ (x0 : (S1 (List Int))) (x1 : (Int × Int)) (x2 : Int) r, i_net_after F x0 x1 x2 = some r → D 160 [Enc.enc x0, Enc.enc x1, Enc.enc x2] = some (.tup [Enc.enc (r.1 : (Int × Int)), Enc.enc (r.2 : Bool)])
  g160 : σ 160 = some (0, false)
abbrev R157 (r : ((List (Int × Int)) × Bool)) : (Nat → V) → Prop := RR Try.prog [.tmp 4, .tmp 5] 0 false (.tup [Enc.enc (r.1 : (List (Int × Int))), Enc.enc (r.2 : Bool)])
section
variable {D : Den} {σ : Sig} {F : Nat} {r : ((List (Int × Int)) × Bool)}
def i_net_runProgram_l1 (F : Nat) (x_1 : (S1 (List Int))) (x_2 : (List Int))  : Nat → (List (Int × Int)) → Int → Option ((List (Int × Int)) × Bool)
  | 0, _, _ => none
  | k + 1, x_8, x_9 =>
    bif decide (x_9 < (x_2.length : Int)) then
      (idx x_2 x_9).bind fun e_14 =>
      (idx x_8 x_9).bind fun e_15 =>
      (i_net_after F x_1 e_15 e_14).bind fun r_16 =>
      bif (!r_16.2) then
        some ([], false)
      else
        (appL x_8 [r_16.1]).bind fun ap_17 =>
        (i_net_runProgram_l1 F x_1 x_2 k) ap_17 (w64 (x_9 + 1))
    else
      some (x_8, true)
theorem t_f157_l1 (H : H157 D σ F) (x_1 : (S1 (List Int))) (x_2 : (List Int))  : ∀ (k : Nat) (x_8 : (List (Int × Int))) (x_9 : Int) (s : Nat → V), Facts [(2, (.ref (.bx 2) 0 [] (.agg [(eL x_1.a)]))), (4, (.sl .nl (Enc.shp (Int × Int)) 0 [])), (5, (jb false)), (6, (encO (.at 6 []) (.of (x_8 : List (Int × Int))))), (18, (eL x_2)), (19, (ji (x_2.length : Int))), (20, (ji x_9))] s → i_net_runProgram_l1 F x_1 x_2 k x_8 x_9 = some r → Run D σ (R157 r) (.run A157_1 [.lp A157_1, .bk 0, .sq A157_9]) s := by
  intro k
  induction k with
  | zero => intro x_8 x_9 s _ h; exact nomatch (h : (none : Option _) = some r)
  | succ k ih =>
    intro x_8 x_9 s hs h
    rw [i_net_runProgram_l1] at h
    obtain ⟨h2, h4, h5, h6, h18, h19, h20⟩ := hs
    refine .seq (rg (g2 20 19 (jb (decide (x_9 < (x_2.length : Int)))) h20 h19 fun h21 => ?_))
    refine gq (.nsq (.seq (run_cond (t := decide (x_9 < (x_2.length : Int))) h21 h (fun h => ?_) (fun h => ?_))))
    · refine .skip (.nsq (.seq (.block (.seq (rg (gm h20 fun h22 => ?_))))))
      obtain ⟨e_14, E_e_14, h⟩ := bind_some h
      refine gv (.ref .sh 0 [] (ji e_14)) (ev_idx (t := .sh) (lo := 0) (xs := x_2) h18 h20 E_e_14 rfl rfl) fun h23 => ?_
      refine g1 23 (ji e_14) h23 fun h24 => ?_
      refine gm h22 fun h7 => gm h24 fun h8 => gq (.nsq (.seq (run_reg ?_)))
      refine e_clr ?_
      refine ez [(2, _), (4, _), (5, _), (6, _), (7, _), (8, _), (9, _), (18, _), (19, _), (20, _)] ⟨(keep_clear (pk := [9]) h2 rfl (map_bx rfl (map_agg (maps_cons me maps_nil)))), (keep_clear (pk := [9]) h4 rfl rfl), (keep_clear (pk := [9]) h5 rfl mb), (keep_clear (pk := [9]) h6 rfl (map_encO (r := 6) (p := []) rfl rfl)), (keep_clear (pk := [9]) h7 rfl mi), (keep_clear (pk := [9]) h8 rfl mi), (gone_clear (pk := [9]) (t := 9) rfl), (keep_clear (pk := [9]) h18 rfl me), (keep_clear (pk := [9]) h19 rfl mi), (keep_clear (pk := [9]) h20 rfl mi)⟩ ?_
      rintro s ⟨h2, h4, h5, h6, h7, h8, h9, h18, h19, h20⟩
      refine g1 2 (.agg [(eL x_1.a)]) h2 fun h26 => ?_
      refine gm h6 fun h27 => gm h7 fun h28 => ?_
      obtain ⟨e_15, E_e_15, h⟩ := bind_some h
      refine gv (.ref (.at 6 []) x_9.toNat [] (.agg [(ji e_15.1), (ji e_15.2)])) (ev_idxO (o := (.of x_8)) h27 h28 E_e_15 rfl) fun h29 => ?_
      refine g1 29 (.agg [(ji e_15.1), (ji e_15.2)]) h29 fun h30 => ?_
      refine gm h8 fun h31 => ?_
      obtain ⟨r_16, E_r_16, h⟩ := bind_some h
      refine g_call (m := 0) (al := false) (r := (.tup [Enc.enc (r_16.1 : (Int × Int)), Enc.enc (r_16.2 : Bool)])) [Enc.enc (x_1 : (S1 (List Int))), Enc.enc (e_15 : (Int × Int)), Enc.enc (e_14 : Int)] (ta_cons (v := (.agg [(eL x_1.a)])) h26 rfl (Enc.erase_enc (x_1 : (S1 (List Int)))) (ta_cons (v := (.agg [(ji e_15.1), (ji e_15.2)])) h30 rfl (Enc.erase_enc (e_15 : (Int × Int))) (ta_cons (v := (ji e_14)) h31 rfl rfl ta_nil))) (H.c160 _ _ _ _ E_r_16) H.g160 rfl rfl rfl rfl ?_
      refine gm (rfl : (_ : V) = (.tup [(.agg [(ji r_16.1.1), (ji r_16.1.2)]), (jb r_16.2)])) fun h25 => ?_
      refine g1 25 (.agg [(ji r_16.1.1), (ji r_16.1.2)]) h25 fun h33 => ?_
      refine g1 25 (jb r_16.2) h25 fun h34 => ?_
      refine g_alloc h9 ?_
      refine g_store (.agg [(ji r_16.1.1), (ji r_16.1.2)]) (rd_of rfl rfl) (rd_of h33 rfl) (by refine ⟨by decide, by decide, rfl, rfl, rfl, ?_⟩; first | rfl | simp [V.toks, V.tokss, Enc.toks_enc]) ?_
      refine gm (keep_mut h34 rfl) fun h10 => ?_
      refine gz [(2, (.ref (.bx 2) 0 [] (.agg [(eL x_1.a)]))), (4, (.sl .nl (Enc.shp (Int × Int)) 0 [])), (5, (jb false)), (6, (encO (.at 6 []) (.of (x_8 : List (Int × Int))))), (9, (.ref (.bx 9) 0 [] (.agg [(ji r_16.1.1), (ji r_16.1.2)]))), (10, _), (18, (eL x_2)), (19, (ji (x_2.length : Int))), (20, (ji x_9))] ⟨(keep_mut h2 (mut_ref_ne rfl rfl (mut_agg (muts_cons (Enc.mut_enc _ _ _ _ (x_1.a : List Int)) rfl)))), (keep_mut h4 rfl), (keep_mut h5 rfl), (keep_mut h6 (mut_own_ne rfl rfl)), (keep_mut rfl rfl), h10, (keep_mut h18 (Enc.mut_enc _ _ _ _ (x_2 : List Int))), (keep_mut h19 rfl), (keep_mut h20 rfl)⟩ ?_
      rintro s ⟨h2, h4, h5, h6, h9, h10, h18, h19, h20⟩
      refine .nsq (.seq (.seq (rg (gm h10 fun h35 => g1 35 (jb (!r_16.2)) h35 fun h36 => ?_))))
      refine gq (.nsq (run_cond (t := (!r_16.2)) h36 h (fun h => ?_) (fun h => ?_)))
      · refine .seq (rg (g0 (.sl .nl (Enc.shp (Int × Int)) 0 []) fun h4 => ?_))
        refine g0 (jb false) fun h5 => ?_
        refine gq (.nsq (.ret ?_))
        have hr := Option.some.inj h
        subst hr
        exact rrB (res_tmp h4) (res_tmp h5) (fin_retF (fin_tup (fins_cons (fin_own (o := (.nil : NL (Int × Int))) (t := .nl)) (fins_cons (fin_enc (x := (false : Bool))) fins_nil))) (mine_tup (mines_cons mine_nil (mines_cons rfl mines_nil))))
      refine .skip (.nsq (run_reg ?_))
      refine e_clr ?_
      refine ez [(2, _), (4, _), (5, _), (6, _), (9, _), (18, _), (19, _), (20, _), (39, _), (40, _)] ⟨(keep_clear (pk := [39, 40]) h2 rfl (map_bx rfl (map_agg (maps_cons me maps_nil)))), (keep_clear (pk := [39, 40]) h4 rfl rfl), (keep_clear (pk := [39, 40]) h5 rfl mb), (keep_clear (pk := [39, 40]) h6 rfl (map_encO (r := 6) (p := []) rfl rfl)), (keep_clear (pk := [39, 40]) h9 rfl (map_bx rfl (map_agg (maps_cons mi (maps_cons mi maps_nil))))), (keep_clear (pk := [39, 40]) h18 rfl me), (keep_clear (pk := [39, 40]) h19 rfl mi), (keep_clear (pk := [39, 40]) h20 rfl mi), (gone_clear (pk := [39, 40]) (t := 39) rfl), (gone_clear (pk := [39, 40]) (t := 40) rfl)⟩ ?_
      rintro s ⟨h2, h4, h5, h6, h9, h18, h19, h20, h39, h40⟩
      refine gm h6 fun h37 => g1 9 (.agg [(ji r_16.1.1), (ji r_16.1.2)]) h9 fun h38 => ?_
      refine g_litL [(38, (.agg [(ji r_16.1.1), (ji r_16.1.2)]))] [Enc.enc (r_16.1 : (Int × Int))] h38 rfl rfl h39 ?_
      obtain ⟨ap_17, E_ap_17, h⟩ := bind_some h
      refine g_app (q := 6) (p := []) (o := (.of (x_8 : List (Int × Int)))) (ys := ([r_16.1] : List (Int × Int))) (t2 := (.at 39 [])) (lo2 := 0) h37 rfl rfl h40 (appN_L (o := (.of (x_8 : List (Int × Int)))) E_ap_17 trivial) (fun s_14 ha_14 => ?_)
      refine gm (rfl : (_ : V) = (encO (.at 40 []) (.of (ap_17 : List (Int × Int))))) fun h6 => ?_
      refine g_end ?_
      refine e_home (r := 40) (x := 6) (v := _) h6 rfl (fun s_15 hg_15 => ?_)
      refine ez [(2, (.ref (.bx 2) 0 [] (.agg [(eL x_1.a)]))), (4, (.sl .nl (Enc.shp (Int × Int)) 0 [])), (5, (jb false)), (6, (encO (.at 6 []) (.of (ap_17 : List (Int × Int))))), (18, (eL x_2)), (19, (ji (x_2.length : Int))), (20, (ji x_9))] ⟨(hg_15 2 _ _ (show s_14 2 = (.ref (.bx 2) 0 [] (.agg [(eL x_1.a)])) from keep_app ha_14 h2 (map_bx rfl (map_agg (maps_cons me maps_nil)))) (map_bx rfl (map_agg (maps_cons me maps_nil)))), (hg_15 4 _ (.sl .nl (Enc.shp (Int × Int)) 0 []) (show s_14 4 = (.sl .nl (Enc.shp (Int × Int)) 0 []) from keep_app ha_14 h4 rfl) rfl), (hg_15 5 _ _ (show s_14 5 = (jb false) from keep_app ha_14 h5 mb) mb), (hg_15 6 _ _ h6 (map_encO (r := 40) (p := []) rfl rfl)), (hg_15 18 _ _ (show s_14 18 = (eL x_2) from keep_app ha_14 h18 me) me), (hg_15 19 _ _ (show s_14 19 = (ji (x_2.length : Int)) from keep_app ha_14 h19 mi) mi), (hg_15 20 _ _ (show s_14 20 = (ji x_9) from keep_app ha_14 h20 mi) mi)⟩ ?_
      rintro s ⟨h2, h4, h5, h6, h18, h19, h20⟩
      refine .nbk (.nsq (rg (g1 20 (ji (w64 (x_9 + 1))) h20 fun h41 => ?_)))
      refine gm h41 fun h20 => gq (.nlp ?_)
      exact ih ap_17 (w64 (x_9 + 1)) _ ⟨h2, h4, h5, h6, h18, h19, h20⟩ h
    refine .exit (.esq (.elp (.ebk (.nsq (.seq (rg (gm h6 fun h42 => gm h42 fun h4 => g0 (jb true) fun h5 => ?_)))))))
    refine g_end ?_
    refine e_home (r := 6) (x := 4) (v := _) h4 rfl (fun s_16 hg_16 => ?_)
    refine ez [(4, (encO (.at 4 []) (.of (x_8 : List (Int × Int))))), (5, (jb true))] ⟨(hg_16 4 _ _ h4 (map_encO (r := 6) (p := []) rfl rfl)), (hg_16 5 _ _ h5 mb)⟩ ?_
    rintro s ⟨h4, h5⟩
    refine .nsq (.ret ?_)
    have hr := Option.some.inj h
    subst hr
    exact rrB (res_tmp h4) (res_tmp h5) (fin_retF (fin_tup (fins_cons (fin_own (o := .of x_8)) (fins_cons (fin_enc (x := (true : Bool))) fins_nil))) (mine_tup (mines_cons (mine_own rfl) (mines_cons rfl mines_nil))))
def i_net_runProgram (F : Nat) (x_1 : (S1 (List Int))) (x_2 : (List Int)) : Option ((List (Int × Int)) × Bool) :=
  bif decide ((x_2.length : Int) > 40) then
    some ([], false)
  else
    (i_net_all F x_1).bind fun r_3 =>
    i_net_runProgram_l1 F x_1 x_2 F [(0, r_3)] 0
theorem t157 (H : H157 D σ F) (x_1 : (S1 (List Int))) (x_2 : (List Int)) (s : Nat → V) (hs : Facts [(0, (.agg [(eL x_1.a)])), (1, (eL x_2))] s) (h : i_net_runProgram F x_1 x_2 = some r) : Run D σ (R157 r) (.run A157 []) s := by
  unfold i_net_runProgram at h
  obtain ⟨h0, h1⟩ := hs
  refine .seq (run_reg ?_)
  refine e_clr ?_
  refine ez [(0, _), (1, _), (2, _)] ⟨(keep_clear (pk := [2]) h0 rfl (map_agg (maps_cons me maps_nil))), (keep_clear (pk := [2]) h1 rfl me), (gone_clear (pk := [2]) (t := 2) rfl)⟩ ?_
  rintro s ⟨h0, h1, h2⟩
  refine g_box (.agg [(eL x_1.a)]) (rd_of h0 rfl) h2 rfl ?_
  refine g0 (.sl .nl (Enc.shp (Int × Int)) 0 []) fun h4 => ?_
  refine g0 (jb false) fun h5 => ?_
  refine gq (.nsq (.seq (.seq (rg (gm h1 fun h11 => gv (ji (x_2.length : Int)) (ev_len (xs := x_2) h11) fun h12 => ?_)))))
  refine g1 12 (jb (decide ((x_2.length : Int) > 40))) h12 fun h13 => ?_
  refine gq (.nsq (run_cond (t := decide ((x_2.length : Int) > 40)) h13 h (fun h => ?_) (fun h => ?_)))
  · refine .seq (rg (g0 (.sl .nl (Enc.shp (Int × Int)) 0 []) fun h4 => ?_))
    refine g0 (jb false) fun h5 => ?_
    refine gq (.nsq (.ret ?_))
    have hr := Option.some.inj h
    subst hr
    exact rrB (res_tmp h4) (res_tmp h5) (fin_retF (fin_tup (fins_cons (fin_own (o := (.nil : NL (Int × Int))) (t := .nl)) (fins_cons (fin_enc (x := (false : Bool))) fins_nil))) (mine_tup (mines_cons mine_nil (mines_cons rfl mines_nil))))
  refine .skip (.nsq (.seq (run_reg ?_)))
  refine e_clr ?_
  refine ez [(1, _), (2, _), (4, _), (5, _), (17, _)] ⟨(keep_clear (pk := [17]) h1 rfl me), (keep_clear (pk := [17]) rfl rfl (map_bx rfl (map_agg (maps_cons me maps_nil)))), (keep_clear (pk := [17]) h4 rfl rfl), (keep_clear (pk := [17]) h5 rfl mb), (gone_clear (pk := [17]) (t := 17) rfl)⟩ ?_
  rintro s ⟨h1, h2, h4, h5, h17⟩
  refine g1 2 (.agg [(eL x_1.a)]) h2 fun h14 => ?_
  obtain ⟨r_3, E_r_3, h⟩ := bind_some h
  refine g_call (m := 0) (al := false) (r := (Enc.enc (r_3 : Int))) [Enc.enc (x_1 : (S1 (List Int)))] (ta_cons (v := (.agg [(eL x_1.a)])) h14 rfl (Enc.erase_enc (x_1 : (S1 (List Int)))) ta_nil) (H.c113 _ _ E_r_3) H.g113 rfl rfl rfl rfl ?_
  refine g1 15 (.agg [(ji 0), (ji r_3)]) (rfl : (_ : V) = (ji r_3)) fun h16 => ?_
  refine g_litL [(16, (.agg [(ji 0), (ji r_3)]))] [Enc.enc ((0, r_3) : (Int × Int))] h16 rfl rfl h17 ?_
  refine gm (rfl : (_ : V) = (encO (.at 17 []) (.of ([(0, r_3)] : List (Int × Int))))) fun h6 => ?_
  refine g_end ?_
  refine e_home (r := 17) (x := 6) (v := _) h6 rfl (fun s_3 hg_3 => ?_)
  refine ez [(1, (eL x_2)), (2, (.ref (.bx 2) 0 [] (.agg [(eL x_1.a)]))), (4, (.sl .nl (Enc.shp (Int × Int)) 0 [])), (5, (jb false)), (6, (encO (.at 6 []) (.of ([(0, r_3)] : List (Int × Int)))))] ⟨(hg_3 1 _ _ h1 me), (hg_3 2 _ _ h2 (map_bx rfl (map_agg (maps_cons me maps_nil)))), (hg_3 4 _ (.sl .nl (Enc.shp (Int × Int)) 0 []) h4 rfl), (hg_3 5 _ _ h5 mb), (hg_3 6 _ _ h6 (map_encO (r := 17) (p := []) rfl rfl))⟩ ?_
  rintro s ⟨h1, h2, h4, h5, h6⟩
  refine .nsq (.seq (.seq (rg (gm h1 fun h18 => gv (ji (x_2.length : Int)) (ev_len (xs := x_2) h18) fun h19 => ?_))))
  refine g0 (ji 0) fun h20 => gq (.nsq (.block (.loop ?_)))
  exact t_f157_l1 H x_1 x_2 F [(0, r_3)] 0 _ ⟨h2, h4, h5, h6, h18, h19, h20⟩ h
end
def e157 (F : Nat) : Ent := ent 157 (fun (x : ((S1 (List Int)) × (List Int) × Unit)) => i_net_runProgram F x.1 x.2.1) (fun (r : ((List (Int × Int)) × Bool)) => (.tup [Enc.enc (r.1 : (List (Int × Int))), Enc.enc (r.2 : Bool)])) 0 false []
theorem p157 {F : Nat} {x0 : (S1 (List Int))} {x1 : (List Int)} {r : ((List (Int × Int)) × Bool)} (h : i_net_runProgram F x0 x1 = some r) : (e157 F).den [Enc.enc x0, Enc.enc x1] = some (.tup [Enc.enc (r.1 : (List (Int × Int))), Enc.enc (r.2 : Bool)]) := ent_put (x0, x1, ()) h
theorem o157 {D : Den} {σ : Sig} {F : Nat} (hF : Fits2 Try.prog D σ) (H : H157 D σ F) : (e157 F).Ok Try.prog := by
  refine ok_of (f := 157) (show unk 157 = 157 from rfl) (fun args r h => ?_) ⟨Try.f157, Try.func157, rfl, rfl⟩
  obtain ⟨⟨x0, x1, _⟩, y, rfl, hy, rfl⟩ := da_open h
  exact contract_run hF (by kernel_rfl) Try.func157 rfl c157 (show 2 ≤ Try.f157.ntmps by decide) (t157 H x0 x1 _ ⟨rfl, rfl⟩ hy)
/- loop.example/g01109/impl.programOf -/
def A98_2 : AC := (.cond (.t 8) (.seq (.reg [] [((jv 4 (.mov (.k (.sl .nl (.ag [.s, .s]) 0 []))))), ((jv 5 (.mov (.k (.bool false)))))] []) .ret) .skip)
def A98_3 : AC := (.seq (.reg [] [((jv 9 (.load (.ag [.s, .p]) (.t 2)))), (.mk (some 10) none false (.call (.k (.fn 65 [] [])) [(.t 9)])), (jm 11 1), (.mk (some 12) none false (.call (.k (.fn 157 [] [])) [(.t 10), (.t 11)])), ((jv 13 (.ext (.t 12) 0))), ((jv 14 (.extS (.t 12) 1))), (jm 4 13), (jm 5 14)] []) .ret)
def A98_1 : AC := (.seq (.seq (.reg [] [((jv 6 (.load (.ag [.s, .p]) (.t 2)))), (.mk (some 7) none false (.call (.k (.fn 63 [] [])) [(.t 6)])), ((jv 8 (.un .not (.t 7))))] []) A98_2) A98_3)
def A98 : AC := (.seq (.reg [.clr [2]] [(.mk (some 2) none false (.box (.t 0))), ((jv 4 (.mov (.k (.sl .nl (.ag [.s, .s]) 0 []))))), ((jv 5 (.mov (.k (.bool false)))))] []) A98_1)
def an98 : List An := [{ id := 0, pre := [.clr [2]], ep := [], lin := [], sp := [] }]
theorem c98 : cC Try.prog Try.f98.ntmps an98 (Try.f98.body.getD .skip) = some A98 := by kernel_rfl
structure H98 (D : Den) (σ : Sig) (F : Nat) : Prop where
  c63 : ∀ (x0 : (Int × (List (Int × Int)))) r, i_IsGraph F x0 = some r → D 63 [Enc.enc x0] = some (Enc.enc (r : Bool))
  g63 : σ 63 = some (0, false)
  c65 : ∀ (x0 : (Int × (List (Int × Int)))) r, i_netOf F x0 = some r → D 65 [Enc.enc x0] = some (Enc.enc (r : (S1 (List Int))))
  g65 : σ 65 = some (0, false)
  c157 : ∀ (x0 : (S1 (List Int))) (x1 : (List Int)) r, i_net_runProgram F x0 x1 = some r → D 157 [Enc.enc x0, Enc.enc x1] = some (.tup [Enc.enc (r.1 : (List (Int × Int))), Enc.enc (r.2 : Bool)])
  g157 : σ 157 = some (0, false)
abbrev R98 (r : ((List (Int × Int)) × Bool)) : (Nat → V) → Prop := RR Try.prog [.tmp 4, .tmp 5] 0 true (.tup [Enc.enc (r.1 : (List (Int × Int))), Enc.enc (r.2 : Bool)])
section
variable {D : Den} {σ : Sig} {F : Nat} {r : ((List (Int × Int)) × Bool)}
def i_programOf (F : Nat) (x_1 : (Int × (List (Int × Int)))) (x_2 : (List Int)) : Option ((List (Int × Int)) × Bool) :=
  (i_IsGraph F x_1).bind fun r_3 =>
  bif (!r_3) then
    some ([], false)
  else
    (i_netOf F x_1).bind fun r_4 =>
    (i_net_runProgram F r_4 x_2).bind fun r_5 =>
    some (r_5.1, r_5.2)
theorem t98 (H : H98 D σ F) (x_1 : (Int × (List (Int × Int)))) (x_2 : (List Int)) (s : Nat → V) (hs : Facts [(0, (.agg [(ji x_1.1), (Enc.enc (x_1.2 : List (Int × Int)))])), (1, (eL x_2))] s) (h : i_programOf F x_1 x_2 = some r) : Run D σ (R98 r) (.run A98 []) s := by
  unfold i_programOf at h
  obtain ⟨h0, h1⟩ := hs
  refine .seq (run_reg ?_)
  refine e_clr ?_
  refine ez [(0, _), (1, _), (2, _)] ⟨(keep_clear (pk := [2]) h0 rfl (map_agg (maps_cons mi (maps_cons me maps_nil)))), (keep_clear (pk := [2]) h1 rfl me), (gone_clear (pk := [2]) (t := 2) rfl)⟩ ?_
  rintro s ⟨h0, h1, h2⟩
  refine g_box (.agg [(ji x_1.1), (Enc.enc (x_1.2 : List (Int × Int)))]) (rd_of h0 rfl) h2 rfl ?_
  refine g0 (.sl .nl (Enc.shp (Int × Int)) 0 []) fun h4 => ?_
  refine g0 (jb false) fun h5 => ?_
  refine gq (.nsq (.seq (.seq (rg (g1 2 (.agg [(ji x_1.1), (Enc.enc (x_1.2 : List (Int × Int)))]) (rfl : (_ : V) = (.ref (.bx 2) 0 [] (.agg [(ji x_1.1), (Enc.enc (x_1.2 : List (Int × Int)))]))) fun h6 => ?_)))))
  obtain ⟨r_3, E_r_3, h⟩ := bind_some h
  refine g_call (m := 0) (al := false) (r := (Enc.enc (r_3 : Bool))) [Enc.enc (x_1 : (Int × (List (Int × Int))))] (ta_cons (v := (.agg [(ji x_1.1), (Enc.enc (x_1.2 : List (Int × Int)))])) h6 rfl (Enc.erase_enc (x_1 : (Int × (List (Int × Int))))) ta_nil) (H.c63 _ _ E_r_3) H.g63 rfl rfl rfl rfl ?_
  refine g1 7 (jb (!r_3)) (rfl : (_ : V) = (jb r_3)) fun h8 => ?_
  refine gq (.nsq (run_cond (t := (!r_3)) h8 h (fun h => ?_) (fun h => ?_)))
  · refine .seq (rg (g0 (.sl .nl (Enc.shp (Int × Int)) 0 []) fun h4 => ?_))
    refine g0 (jb false) fun h5 => ?_
    refine gq (.nsq (.ret ?_))
    have hr := Option.some.inj h
    subst hr
    exact rrB (res_tmp h4) (res_tmp h5) (fin_ret1 (fin_tup (fins_cons (fin_own (o := (.nil : NL (Int × Int))) (t := .nl)) (fins_cons (fin_enc (x := (false : Bool))) fins_nil))))
  refine .skip (.nsq (.seq (rg (g1 2 (.agg [(ji x_1.1), (Enc.enc (x_1.2 : List (Int × Int)))]) (rfl : (_ : V) = (.ref (.bx 2) 0 [] (.agg [(ji x_1.1), (Enc.enc (x_1.2 : List (Int × Int)))]))) fun h9 => ?_))))
  obtain ⟨r_4, E_r_4, h⟩ := bind_some h
  refine g_call (m := 0) (al := false) (r := (Enc.enc (r_4 : (S1 (List Int))))) [Enc.enc (x_1 : (Int × (List (Int × Int))))] (ta_cons (v := (.agg [(ji x_1.1), (Enc.enc (x_1.2 : List (Int × Int)))])) h9 rfl (Enc.erase_enc (x_1 : (Int × (List (Int × Int))))) ta_nil) (H.c65 _ _ E_r_4) H.g65 rfl rfl rfl rfl ?_
  refine gm h1 fun h11 => ?_
  obtain ⟨r_5, E_r_5, h⟩ := bind_some h
  refine g_call (m := 0) (al := false) (r := (.tup [Enc.enc (r_5.1 : (List (Int × Int))), Enc.enc (r_5.2 : Bool)])) [Enc.enc (r_4 : (S1 (List Int))), Enc.enc (x_2 : (List Int))] (ta_cons (v := (.agg [(eL r_4.a)])) rfl rfl (Enc.erase_enc (r_4 : (S1 (List Int)))) (ta_cons (v := (eL x_2)) h11 rfl (Enc.erase_enc (x_2 : (List Int))) ta_nil)) (H.c157 _ _ _ E_r_5) H.g157 rfl rfl rfl rfl ?_
  refine g1 12 (Enc.enc (r_5.1 : List (Int × Int))) (rfl : (_ : V) = (.tup [(Enc.enc (r_5.1 : List (Int × Int))), (jb r_5.2)])) fun h13 => ?_
  refine g1 12 (jb r_5.2) (rfl : (_ : V) = (.tup [(Enc.enc (r_5.1 : List (Int × Int))), (jb r_5.2)])) fun h14 => ?_
  refine gm h13 fun h4 => gm h14 fun h5 => gq (.nsq (.ret ?_))
  have hr := Option.some.inj h
  subst hr
  exact rrB (res_tmp h4) (res_tmp h5) (fin_ret1 (fin_tup (fins_cons (fin_enc (x := (r_5.1 : (List (Int × Int))))) (fins_cons (fin_enc (x := (r_5.2 : Bool))) fins_nil))))
end
def e98 (F : Nat) : Ent := ent 98 (fun (x : ((Int × (List (Int × Int))) × (List Int) × Unit)) => i_programOf F x.1 x.2.1) (fun (r : ((List (Int × Int)) × Bool)) => (.tup [Enc.enc (r.1 : (List (Int × Int))), Enc.enc (r.2 : Bool)])) 0 true []
theorem p98 {F : Nat} {x0 : (Int × (List (Int × Int)))} {x1 : (List Int)} {r : ((List (Int × Int)) × Bool)} (h : i_programOf F x0 x1 = some r) : (e98 F).den [Enc.enc x0, Enc.enc x1] = some (.tup [Enc.enc (r.1 : (List (Int × Int))), Enc.enc (r.2 : Bool)]) := ent_put (x0, x1, ()) h
theorem o98 {D : Den} {σ : Sig} {F : Nat} (hF : Fits2 Try.prog D σ) (H : H98 D σ F) : (e98 F).Ok Try.prog := by
  refine ok_of (f := 98) (show unk 98 = 98 from rfl) (fun args r h => ?_) ⟨Try.f98, Try.func98, rfl, rfl⟩
  obtain ⟨⟨x0, x1, _⟩, y, rfl, hy, rfl⟩ := da_open h
  exact contract_run hF (by kernel_rfl) Try.func98 rfl c98 (show 2 ≤ Try.f98.ntmps by decide) (t98 H x0 x1 _ ⟨rfl, rfl⟩ hy)
/- loop.example/g01109/impl.setOf -/
def A83o_2 : AC := (.cond (.t 8) .skip (.exit 0))
def A83o_4 : AC := (.cond (.t 15) (.reg [.clr [18, 19]] [(jm 16 3), (jm 17 4), (.mk (some 18) none false (.lit (.int .i64 (.ofNat 0)) 1 [(0, 0, (.t 17))])), (.mk (some 19) none false (.app .s (.t 16) (.t 18))), (jm 3 19)] [.home 19 3]) .skip)
def A83o_5 : AC := (.reg [] [(jm 9 4), ((jv 10 (.bin .add (.t 9) (jn 1)))), (jm 4 10)] [])
def A83o_3 : AC := (.seq (.block 1 (.seq (.reg [] [(jm 11 0), (jm 12 4), ((jv 13 (.bin .shr (.t 11) (.t 12)))), ((jv 14 (.bin .and (.t 13) (jn 1)))), ((jv 15 (.bin .eql (.t 14) (jn 1))))] []) A83o_4)) A83o_5)
def A83o_1 : AC := (.seq (.seq (.reg [] [(jm 5 0), (jm 6 4), ((jv 7 (.bin .shr (.t 5) (.t 6)))), ((jv 8 (.bin .neq (.t 7) (jn 0))))] []) A83o_2) A83o_3)
def A83o_6 : AC := (.seq (.reg [] [(jm 20 3), (jm 2 20)] [.home 3 2]) .ret)
def A83o_9 : AC := (.block 0 (.loop A83o_1))
def A83o_8 : AC := (.seq (.seq (.reg [] [((jv 4 (.mov (jn 0))))] []) A83o_9) A83o_6)
def A83o_7 : AC := (.seq (.reg [] [((jv 3 (.mov (.k (.sl .nl .s 0 [])))))] []) A83o_8)
def A83o : AC := (.seq (.reg [] [((jv 2 (.mov (.k (.sl .nl .s 0 [])))))] []) A83o_7)
def an83o : List An := [{ id := 6, pre := [.clr [18, 19]], ep := [.home 19 3], lin := [], sp := [] }, { id := 7, pre := [], ep := [.home 3 2], lin := [], sp := [] }]
theorem c83o : cC Try.prog Try.f83.ntmps an83o (Try.f83.body.getD .skip) = some A83o := by kernel_rfl
structure H83o (D : Den) (σ : Sig) (F : Nat) : Prop where
  mk ::
abbrev R83o (r : (NL Int)) : (Nat → V) → Prop := RR Try.prog [.tmp 2] 1 false (encO .sh (r : NL Int))
section
variable {D : Den} {σ : Sig} {F : Nat} {r : (NL Int)}
def i_setOf_o_j1 (F : Nat) (x_1 : Int) (x_8 : Int) (c1 : (NL Int) → Int → Option (NL Int)) (x_17 : (NL Int)) : Option (NL Int) :=
  c1 x_17 (w64 (x_8 + 1))
theorem t_f83o_j1 (H : H83o D σ F) (x_1 : Int) (x_8 : Int) (c1 : (NL Int) → Int → Option (NL Int)) (Hc1 : ∀ (x_7 : (NL Int)) (x_8 : Int) (s : Nat → V), Facts [(0, (ji x_1)), (2, (.sl .nl (Enc.shp Int) 0 [])), (3, (oI 3 [] x_7)), (4, (ji x_8))] s → c1 x_7 x_8 = some r → Run D σ (R83o r) (.run A83o_1 [.lp A83o_1, .bk 0, .sq A83o_6]) s) (x_17 : (NL Int)) (s : Nat → V) (hs : Facts [(0, (ji x_1)), (2, (.sl .nl (Enc.shp Int) 0 [])), (3, (oI 3 [] x_17)), (4, (ji x_8))] s) (h : i_setOf_o_j1 F x_1 x_8 c1 x_17 = some r) : Run D σ (R83o r) (.nrm [.bk 1, .sq A83o_5, .lp A83o_1, .bk 0, .sq A83o_6]) s := by
  unfold i_setOf_o_j1 at h
  obtain ⟨h0, h2, h3, h4⟩ := hs
  refine .nbk (.nsq (rg (gm h4 fun h9 => g1 9 (ji (w64 (x_8 + 1))) h9 fun h10 => ?_)))
  refine gm h10 fun h4 => gq (.nlp ?_)
  exact Hc1 x_17 (w64 (x_8 + 1)) _ ⟨h0, h2, h3, h4⟩ h
def i_setOf_o_l1 (F : Nat) (x_1 : Int)  : Nat → (NL Int) → Int → Option (NL Int)
  | 0, _, _ => none
  | k + 1, x_7, x_8 =>
    (shrI .i64 x_1 x_8).bind fun q_14 =>
    bif (q_14 != 0) then
      (shrI .i64 x_1 x_8).bind fun q_15 =>
      bif ((iand .i64 q_15 1) == 1) then
        (appL x_7.list [x_8]).bind fun ap_18 =>
        i_setOf_o_j1 F x_1 x_8 (i_setOf_o_l1 F x_1 k) (.of ap_18)
      else
        i_setOf_o_j1 F x_1 x_8 (i_setOf_o_l1 F x_1 k) x_7
    else
      some x_7
theorem t_f83o_l1 (H : H83o D σ F) (x_1 : Int)  : ∀ (k : Nat) (x_7 : (NL Int)) (x_8 : Int) (s : Nat → V), Facts [(0, (ji x_1)), (2, (.sl .nl (Enc.shp Int) 0 [])), (3, (oI 3 [] x_7)), (4, (ji x_8))] s → i_setOf_o_l1 F x_1 k x_7 x_8 = some r → Run D σ (R83o r) (.run A83o_1 [.lp A83o_1, .bk 0, .sq A83o_6]) s := by
  intro k
  induction k with
  | zero => intro x_7 x_8 s _ h; exact nomatch (h : (none : Option _) = some r)
  | succ k ih =>
    intro x_7 x_8 s hs h
    rw [i_setOf_o_l1] at h
    obtain ⟨h0, h2, h3, h4⟩ := hs
    refine .seq (.seq (rg (gm h0 fun h5 => gm h4 fun h6 => ?_)))
    obtain ⟨q_14, E_q_14, h⟩ := bind_some h
    refine gv (ji q_14) (ev_shr h5 h6 E_q_14) fun h7 => ?_
    refine g1 7 (jb (q_14 != 0)) h7 fun h8 => ?_
    refine gq (.nsq (run_cond (t := (q_14 != 0)) h8 h (fun h => ?_) (fun h => ?_)))
    · refine .skip (.nsq (.seq (.block (.seq (rg (gm h0 fun h11 => gm h4 fun h12 => ?_))))))
      obtain ⟨q_15, E_q_15, h⟩ := bind_some h
      refine gv (ji q_15) (ev_shr h11 h12 E_q_15) fun h13 => ?_
      refine g1 13 (ji (iand .i64 q_15 1)) h13 fun h14 => ?_
      refine g1 14 (jb ((iand .i64 q_15 1) == 1)) h14 fun h15 => ?_
      refine gq (.nsq (run_cond (t := ((iand .i64 q_15 1) == 1)) h15 h (fun h => ?_) (fun h => ?_)))
      · refine run_reg ?_
        refine e_clr ?_
        refine ez [(0, _), (2, _), (3, _), (4, _), (18, _), (19, _)] ⟨(keep_clear (pk := [18, 19]) h0 rfl mi), (keep_clear (pk := [18, 19]) h2 rfl rfl), (keep_clear (pk := [18, 19]) h3 rfl (map_encO (r := 3) (p := []) rfl rfl)), (keep_clear (pk := [18, 19]) h4 rfl mi), (gone_clear (pk := [18, 19]) (t := 18) rfl), (gone_clear (pk := [18, 19]) (t := 19) rfl)⟩ ?_
        rintro s ⟨h0, h2, h3, h4, h18, h19⟩
        refine gv (oI 3 [] x_7) (ev_mov h3 ok_encO) fun h16 => ?_
        refine gm h4 fun h17 => g_litL [(17, (ji x_8))] [Enc.enc (x_8 : Int)] h17 rfl rfl h18 ?_
        obtain ⟨ap_18, E_ap_18, h⟩ := bind_some h
        refine g_app (q := 3) (p := []) (o := (x_7 : NL Int)) (ys := ([x_8] : List Int)) (t2 := (.at 18 [])) (lo2 := 0) h16 rfl rfl h19 (appN_L (o := (x_7 : NL Int)) E_ap_18 (by split <;> simp)) (fun s_17 ha_17 => ?_)
        refine gm (rfl : (_ : V) = (oI 19 [] (.of ap_18))) fun h3 => ?_
        refine g_end ?_
        refine e_home (r := 19) (x := 3) (v := _) h3 rfl (fun s_18 hg_18 => ?_)
        refine ez [(0, (ji x_1)), (2, (.sl .nl (Enc.shp Int) 0 [])), (3, (oI 3 [] (.of ap_18))), (4, (ji x_8))] ⟨(hg_18 0 _ _ (show s_17 0 = (ji x_1) from keep_app ha_17 h0 mi) mi), (hg_18 2 _ (.sl .nl (Enc.shp Int) 0 []) (show s_17 2 = (.sl .nl (Enc.shp Int) 0 []) from keep_app ha_17 h2 rfl) rfl), (hg_18 3 _ _ h3 (map_encO (r := 19) (p := []) rfl rfl)), (hg_18 4 _ _ (show s_17 4 = (ji x_8) from keep_app ha_17 h4 mi) mi)⟩ ?_
        rintro s ⟨h0, h2, h3, h4⟩
        exact t_f83o_j1 H x_1 x_8 (i_setOf_o_l1 F x_1 k) ih (.of ap_18) _ ⟨h0, h2, h3, h4⟩ h
      refine .skip ?_
      exact t_f83o_j1 H x_1 x_8 (i_setOf_o_l1 F x_1 k) ih x_7 _ ⟨h0, h2, h3, h4⟩ h
    refine .exit (.esq (.elp (.ebk (.nsq (.seq (rg (gv (oI 3 [] x_7) (ev_mov h3 ok_encO) fun h20 => ?_)))))))
    refine gv (oI 3 [] x_7) (ev_mov h20 ok_encO) fun h2 => ?_
    refine g_end ?_
    refine e_home (r := 3) (x := 2) (v := _) h2 ok_encO (fun s_19 hg_19 => ?_)
    refine ez [(2, (oI 2 [] x_7))] (hg_19 2 _ _ h2 (map_encO (r := 3) (p := []) rfl rfl)) ?_
    rintro s h2
    refine .nsq (.ret ?_)
    have hr := Option.some.inj h
    subst hr
    exact rrA (res_tmp h2) (fin_retO (finO_own (o := (x_7 : NL Int))) rfl (mine_own rfl))
def i_setOf_o (F : Nat) (x_1 : Int) : Option (NL Int) :=
  i_setOf_o_l1 F x_1 F .nil 0
theorem t83o (H : H83o D σ F) (x_1 : Int) (s : Nat → V) (hs : Facts [(0, (ji x_1))] s) (h : i_setOf_o F x_1 = some r) : Run D σ (R83o r) (.run A83o []) s := by
  unfold i_setOf_o at h
  have h0 := hs
  refine .seq (rg (g0 (.sl .nl (Enc.shp Int) 0 []) fun h2 => ?_))
  refine gq (.nsq (.seq (rg (g0 (.sl .nl (Enc.shp Int) 0 []) fun h3 => ?_))))
  refine gq (.nsq (.seq (.seq (rg (g0 (ji 0) fun h4 => gq (.nsq (.block (.loop ?_))))))))
  exact t_f83o_l1 H x_1 F .nil 0 _ ⟨h0, h2, h3, h4⟩ h
end
def e83o (F : Nat) : Ent := ent 1000000083 (fun (x : (Int × Unit)) => i_setOf_o F x.1) (fun (r : (NL Int)) => (encO .sh (r : NL Int))) 1 false []
theorem p83o {F : Nat} {x0 : Int} {r : (NL Int)} (h : i_setOf_o F x0 = some r) : (e83o F).den [Enc.enc x0] = some (encO .sh (r : NL Int)) := ent_put (x0, ()) h
theorem o83o {D : Den} {σ : Sig} {F : Nat} (hF : Fits2 Try.prog D σ) (H : H83o D σ F) : (e83o F).Ok Try.prog := by
  refine ok_of (f := 83) (show unk 1000000083 = 83 from rfl) (fun args r h => ?_) ⟨Try.f83, Try.func83, rfl, rfl⟩
  obtain ⟨⟨x0, _⟩, y, rfl, hy, rfl⟩ := da_open h
  exact contract_run hF (by kernel_rfl) Try.func83 rfl c83o (show 1 ≤ Try.f83.ntmps by decide) (t83o H x0 _ rfl hy)
/- loop.example/g01109/impl.RunProgram -/
def A42o_4 : AC := (.reg [.clr [29, 30, 31]] [(jm 26 8), ((jv 27 (.fld (.t 10) 1 1))), ((jv 28 (.load .s (.t 27)))), (.mk (some 29) none false (.callO (.k (.fn 83 [] [])) [(.t 28)])), (.mk (some 30) none false (.lit (.sl .nl .s 0 []) 1 [(0, 0, (.t 29))])), (.mk (some 31) none false (.app .p (.t 26) (.t 30))), (jm 8 31)] [.can 31, .home 31 8])
def A42o_5 : AC := (.reg [] [((jv 32 (.bin .add (.t 22) (jn 1)))), (jm 22 32)] [])
def A42o_3 : AC := (.seq (.block 1 (.seq (.reg [.clr [10]] [((jv 24 (.idx (.t 20) (.t 22) 2))), ((jv 25 (.load (.ag [.s, .s]) (.t 24)))), (.mk (some 10) none false (.alloc (.agg [(.int .i64 (.ofNat 0)), (.int .i64 (.ofNat 0))]))), (.mk none none false (.store (.ag [.s, .s]) (.t 10) (.t 25)))] []) A42o_4)) A42o_5)
def A42o_2 : AC := (.seq (.cond (.t 23) .skip (.exit 0)) A42o_3)
def A42o_1 : AC := (.seq (.reg [] [((jv 23 (.bin .lss (.t 22) (.t 21))))] []) A42o_2)
def A42o_6 : AC := (.seq (.reg [] [(jm 33 8), (jm 4 33), ((jv 5 (.mov (.k (.bool true)))))] [.home 8 4]) .ret)
def A42o_9 : AC := (.cond (.t 18) (.seq (.reg [] [((jv 4 (.mov (.k (.sl .nl .p 0 []))))), ((jv 5 (.mov (.k (.bool false)))))] []) .ret) .skip)
def A42o_12 : AC := (.block 0 (.loop A42o_1))
def A42o_11 : AC := (.seq (.seq (.reg [] [(jm 19 6), ((jv 20 (.slice (.t 19) (some (jn 1)) none 2))), ((jv 21 (.len (.t 20)))), ((jv 22 (.mov (jn 0))))] []) A42o_12) A42o_6)
def A42o_10 : AC := (.seq (.reg [] [((jv 8 (.mov (.k (.sl .nl .p 0 [])))))] []) A42o_11)
def A42o_8 : AC := (.seq (.seq (.reg [] [(jm 17 7), ((jv 18 (.un .not (.t 17))))] []) A42o_9) A42o_10)
def A42o_7 : AC := (.seq (.reg [] [((jv 12 (.load (.ag [.s, .p]) (.t 2)))), (jm 13 1), (.mk (some 14) none false (.call (.k (.fn 98 [] [])) [(.t 12), (.t 13)])), (jm 11 14), ((jv 15 (.ext (.t 11) 0))), ((jv 16 (.extS (.t 11) 1))), (jm 6 15), (jm 7 16)] []) A42o_8)
def A42o : AC := (.seq (.reg [.clr [2]] [(.mk (some 2) none false (.box (.t 0))), ((jv 4 (.mov (.k (.sl .nl .p 0 []))))), ((jv 5 (.mov (.k (.bool false)))))] []) A42o_7)
def an42o : List An := [{ id := 0, pre := [.clr [2]], ep := [], lin := [], sp := [] }, { id := 7, pre := [.clr [10]], ep := [], lin := [], sp := [] }, { id := 8, pre := [.clr [29, 30, 31]], ep := [.can 31, .home 31 8], lin := [], sp := [1003] }, { id := 10, pre := [], ep := [.home 8 4], lin := [], sp := [] }]
theorem c42o : cC Try.prog Try.f42.ntmps an42o (Try.f42.body.getD .skip) = some A42o := by kernel_rfl
structure H42o (D : Den) (σ : Sig) (F : Nat) : Prop where
  c98 : ∀ (x0 : (Int × (List (Int × Int)))) (x1 : (List Int)) r, i_programOf F x0 x1 = some r → D 98 [Enc.enc x0, Enc.enc x1] = some (.tup [Enc.enc (r.1 : (List (Int × Int))), Enc.enc (r.2 : Bool)])
  g98 : σ 98 = some (0, true)
  c83o : ∀ (x0 : Int) r, i_setOf_o F x0 = some r → D 1000000083 [Enc.enc x0] = some (encO .sh (r : NL Int))
  g83o : σ 1000000083 = some (1, false)
abbrev R42o (r : ((NL (NL Int)) × Bool)) : (Nat → V) → Prop := RR Try.prog [.tmp 4, .tmp 5] 2 false (.tup [(encNs (r.1 : NL (NL Int))), (Enc.enc (r.2 : Bool))])
section
variable {D : Den} {σ : Sig} {F : Nat} {r : ((NL (NL Int)) × Bool)}
def i_RunProgram_o_l1 (F : Nat) (sub_4 : (List (Int × Int)))  : Nat → (NL (NL Int)) → Int → Option ((NL (NL Int)) × Bool)
  | 0, _, _ => none
  | k + 1, x_8, x_9 =>
    bif decide (x_9 < (sub_4.length : Int)) then
      (idx sub_4 x_9).bind fun e_13 =>
      (i_setOf_o F e_13.2).bind fun r_14 =>
      (appL x_8.list [r_14]).bind fun ap_15 =>
      (i_RunProgram_o_l1 F sub_4 k) (.of ap_15) (w64 (x_9 + 1))
    else
      some (x_8, true)
theorem t_f42o_l1 (H : H42o D σ F) (sub_4 : (List (Int × Int)))  : ∀ (k : Nat) (x_8 : (NL (NL Int))) (x_9 : Int) (s : Nat → V), Facts [(4, (.sl .nl (Enc.shp (List Int)) 0 [])), (5, (jb false)), (8, (encN 8 [] (x_8 : NL (NL Int)))), (20, (Enc.enc (sub_4 : List (Int × Int)))), (21, (ji (sub_4.length : Int))), (22, (ji x_9))] s → i_RunProgram_o_l1 F sub_4 k x_8 x_9 = some r → Run D σ (R42o r) (.run A42o_1 [.lp A42o_1, .bk 0, .sq A42o_6]) s := by
  intro k
  induction k with
  | zero => intro x_8 x_9 s _ h; exact nomatch (h : (none : Option _) = some r)
  | succ k ih =>
    intro x_8 x_9 s hs h
    rw [i_RunProgram_o_l1] at h
    obtain ⟨h4, h5, h8, h20, h21, h22⟩ := hs
    refine .seq (rg (g2 22 21 (jb (decide (x_9 < (sub_4.length : Int)))) h22 h21 fun h23 => ?_))
    refine gq (.nsq (.seq (run_cond (t := decide (x_9 < (sub_4.length : Int))) h23 h (fun h => ?_) (fun h => ?_))))
    · refine .skip (.nsq (.seq (.block (.seq (run_reg ?_)))))
      refine e_clr ?_
      refine ez [(4, _), (5, _), (8, _), (10, _), (20, _), (21, _), (22, _)] ⟨(keep_clear (pk := [10]) h4 rfl rfl), (keep_clear (pk := [10]) h5 rfl mb), (keep_clear (pk := [10]) h8 rfl (map_encN (r := 8) (p := []) rfl (fun _ => rfl) rfl)), (gone_clear (pk := [10]) (t := 10) rfl), (keep_clear (pk := [10]) h20 rfl me), (keep_clear (pk := [10]) h21 rfl mi), (keep_clear (pk := [10]) h22 rfl mi)⟩ ?_
      rintro s ⟨h4, h5, h8, h10, h20, h21, h22⟩
      obtain ⟨e_13, E_e_13, h⟩ := bind_some h
      refine gv (.ref .sh 0 [] (.agg [(ji e_13.1), (ji e_13.2)])) (ev_idx (t := .sh) (lo := 0) (xs := sub_4) h20 h22 E_e_13 rfl rfl) fun h24 => ?_
      refine g1 24 (.agg [(ji e_13.1), (ji e_13.2)]) h24 fun h25 => ?_
      refine g_alloc h10 ?_
      refine g_store (.agg [(ji e_13.1), (ji e_13.2)]) (rd_of rfl rfl) (rd_of h25 rfl) (by refine ⟨by decide, by decide, rfl, rfl, rfl, ?_⟩; first | rfl | simp [V.toks, V.tokss, Enc.toks_enc]) ?_
      refine gz [(4, (.sl .nl (Enc.shp (List Int)) 0 [])), (5, (jb false)), (8, (encN 8 [] (x_8 : NL (NL Int)))), (10, (.ref (.bx 10) 0 [] (.agg [(ji e_13.1), (ji e_13.2)]))), (20, (Enc.enc (sub_4 : List (Int × Int)))), (21, (ji (sub_4.length : Int))), (22, (ji x_9))] ⟨(keep_mut h4 rfl), (keep_mut h5 rfl), (keep_mut h8 (mut_N_ne rfl (fun _ => rfl) rfl)), (keep_mut rfl rfl), (keep_mut h20 (Enc.mut_enc _ _ _ _ (sub_4 : List (Int × Int)))), (keep_mut h21 rfl), (keep_mut h22 rfl)⟩ ?_
      rintro s ⟨h4, h5, h8, h10, h20, h21, h22⟩
      refine .nsq (run_reg ?_)
      refine e_clr ?_
      refine ez [(4, _), (5, _), (8, _), (10, _), (20, _), (21, _), (22, _), (29, _), (30, _), (31, _)] ⟨(keep_clear (pk := [29, 30, 31]) h4 rfl rfl), (keep_clear (pk := [29, 30, 31]) h5 rfl mb), (keep_clear (pk := [29, 30, 31]) h8 rfl (map_encN (r := 8) (p := []) rfl (fun _ => rfl) rfl)), (keep_clear (pk := [29, 30, 31]) h10 rfl (map_bx rfl (map_agg (maps_cons mi (maps_cons mi maps_nil))))), (keep_clear (pk := [29, 30, 31]) h20 rfl me), (keep_clear (pk := [29, 30, 31]) h21 rfl mi), (keep_clear (pk := [29, 30, 31]) h22 rfl mi), (gone_clear (pk := [29, 30, 31]) (t := 29) rfl), (gone_clear (pk := [29, 30, 31]) (t := 30) rfl), (gone_clear (pk := [29, 30, 31]) (t := 31) rfl)⟩ ?_
      rintro s ⟨h4, h5, h8, h10, h20, h21, h22, h29, h30, h31⟩
      refine gv (encN 8 [] (x_8 : NL (NL Int))) (ev_mov h8 ok_encN) fun h26 => ?_
      refine g1 10 (.ref (.bx 10) 0 [1] (ji e_13.2)) h10 fun h27 => ?_
      refine g1 27 (ji e_13.2) h27 fun h28 => ?_
      obtain ⟨r_14, E_r_14, h⟩ := bind_some h
      refine g_callO (m := 1) (al := false) (r := (encO .sh (r_14 : NL Int))) (v := (oI 29 [] r_14)) (kk := 1000000083) [Enc.enc (e_13.2 : Int)] (ta_cons (v := (ji e_13.2)) h28 rfl rfl ta_nil) (H.c83o _ _ E_r_14) H.g83o rfl toks_encS tag_encO ok_encP h29 ?_
      refine g_litN (a := (r_14 : NL Int)) rfl rfl h30 ?_
      obtain ⟨ap_15, E_ap_15, h⟩ := bind_some h
      refine g_appN (q := 8) (p := []) (o := (x_8 : NL (NL Int))) (a := (r_14 : NL Int)) h26 rfl rfl h31 E_ap_15 rfl rfl (fun s_14 ha_14 => ?_)
      refine gm (rfl : (_ : V) = (.sl (.at 31 []) .p 0 (encR (Tapp 8 [] x_8.list.length 29) 0 (ap_15 : List (NL Int))))) fun h8 => ?_
      refine g_end ?_
      refine e_canApp (d := 31) (q := 8) (t := 29) (p := []) (xs := x_8.list) (zs := ap_15) (a := (r_14 : NL Int)) rfl rfl E_ap_15 rfl rfl rfl (fun s_15 L_15 hv_15 hl_15 hg_15 => ?_)
      refine e_home (r := 31) (x := 8) (v := _) (by exact (show s_15 8 = (encN 31 [] (.of (ap_15 : List (NL Int)) : NL (NL Int))) from hg_15 8 _ _ h8 hv_15)) ok_encN (fun s_16 hg_16 => ?_)
      refine ez [(4, (.sl .nl (Enc.shp (List Int)) 0 [])), (5, (jb false)), (8, (encN 8 [] (.of (ap_15 : List (NL Int)) : NL (NL Int)))), (20, (Enc.enc (sub_4 : List (Int × Int)))), (21, (ji (sub_4.length : Int))), (22, (ji x_9))] ⟨(hg_16 4 _ (.sl .nl (Enc.shp (List Int)) 0 []) (show s_15 4 = (.sl .nl (Enc.shp (List Int)) 0 []) from hg_15 4 _ _ (show s_14 4 = (.sl .nl (Enc.shp (List Int)) 0 []) from keep_app ha_14 h4 rfl) rfl) rfl), (hg_16 5 _ _ (show s_15 5 = (jb false) from hg_15 5 _ _ (show s_14 5 = (jb false) from keep_app ha_14 h5 mb) rfl) mb), (hg_16 8 _ _ (show s_15 8 = (encN 31 [] (.of (ap_15 : List (NL Int)) : NL (NL Int))) from hg_15 8 _ _ h8 hv_15) (map_encN (r := 31) (p := []) rfl (fun _ => rfl) rfl)), (hg_16 20 _ _ (show s_15 20 = (Enc.enc (sub_4 : List (Int × Int))) from hg_15 20 _ _ (show s_14 20 = (Enc.enc (sub_4 : List (Int × Int))) from keep_app ha_14 h20 me) (Enc.map_enc _ (sub_4 : List (Int × Int)))) me), (hg_16 21 _ _ (show s_15 21 = (ji (sub_4.length : Int)) from hg_15 21 _ _ (show s_14 21 = (ji (sub_4.length : Int)) from keep_app ha_14 h21 mi) rfl) mi), (hg_16 22 _ _ (show s_15 22 = (ji x_9) from hg_15 22 _ _ (show s_14 22 = (ji x_9) from keep_app ha_14 h22 mi) rfl) mi)⟩ ?_
      rintro s ⟨h4, h5, h8, h20, h21, h22⟩
      refine .nbk (.nsq (rg (g1 22 (ji (w64 (x_9 + 1))) h22 fun h32 => ?_)))
      refine gm h32 fun h22 => gq (.nlp ?_)
      exact ih (.of ap_15) (w64 (x_9 + 1)) _ ⟨h4, h5, h8, h20, h21, h22⟩ h
    refine .exit (.esq (.elp (.ebk (.nsq (.seq (rg (gv (encN 8 [] (x_8 : NL (NL Int))) (ev_mov h8 ok_encN) fun h33 => ?_)))))))
    refine gv (encN 8 [] (x_8 : NL (NL Int))) (ev_mov h33 ok_encN) fun h4 => ?_
    refine g0 (jb true) fun h5 => ?_
    refine g_end ?_
    refine e_home (r := 8) (x := 4) (v := _) h4 ok_encN (fun s_17 hg_17 => ?_)
    refine ez [(4, (encN 4 [] (x_8 : NL (NL Int)))), (5, (jb true))] ⟨(hg_17 4 _ _ h4 (map_encN (r := 8) (p := []) rfl (fun _ => rfl) rfl)), (hg_17 5 _ _ h5 mb)⟩ ?_
    rintro s ⟨h4, h5⟩
    refine .nsq (.ret ?_)
    have hr := Option.some.inj h
    subst hr
    exact rrB (res_tmp h4) (res_tmp h5) (fin_retN (finN_tup (finNs_cons (finN_N (r := 4) (o := (x_8 : NL (NL Int))) rfl) (finNs_cons finN_bool finNs_nil rfl) rfl)) (mine_tup (mines_cons (mine_N rfl) (mines_cons rfl mines_nil))))
def i_RunProgram_o (F : Nat) (x_1 : (Int × (List (Int × Int)))) (x_2 : (List Int)) : Option ((NL (NL Int)) × Bool) :=
  (i_programOf F x_1 x_2).bind fun r_3 =>
  bif (!r_3.2) then
    some (.nil, false)
  else
    (sub r_3.1 1 (r_3.1.length : Int)).bind fun sub_4 =>
    i_RunProgram_o_l1 F sub_4 F .nil 0
theorem t42o (H : H42o D σ F) (x_1 : (Int × (List (Int × Int)))) (x_2 : (List Int)) (s : Nat → V) (hs : Facts [(0, (.agg [(ji x_1.1), (Enc.enc (x_1.2 : List (Int × Int)))])), (1, (eL x_2))] s) (h : i_RunProgram_o F x_1 x_2 = some r) : Run D σ (R42o r) (.run A42o []) s := by
  unfold i_RunProgram_o at h
  obtain ⟨h0, h1⟩ := hs
  refine .seq (run_reg ?_)
  refine e_clr ?_
  refine ez [(0, _), (1, _), (2, _)] ⟨(keep_clear (pk := [2]) h0 rfl (map_agg (maps_cons mi (maps_cons me maps_nil)))), (keep_clear (pk := [2]) h1 rfl me), (gone_clear (pk := [2]) (t := 2) rfl)⟩ ?_
  rintro s ⟨h0, h1, h2⟩
  refine g_box (.agg [(ji x_1.1), (Enc.enc (x_1.2 : List (Int × Int)))]) (rd_of h0 rfl) h2 rfl ?_
  refine g0 (.sl .nl (Enc.shp (List Int)) 0 []) fun h4 => ?_
  refine g0 (jb false) fun h5 => ?_
  refine gq (.nsq (.seq (rg (g1 2 (.agg [(ji x_1.1), (Enc.enc (x_1.2 : List (Int × Int)))]) (rfl : (_ : V) = (.ref (.bx 2) 0 [] (.agg [(ji x_1.1), (Enc.enc (x_1.2 : List (Int × Int)))]))) fun h12 => ?_))))
  refine gm h1 fun h13 => ?_
  obtain ⟨r_3, E_r_3, h⟩ := bind_some h
  refine g_call (m := 0) (al := true) (r := (.tup [Enc.enc (r_3.1 : (List (Int × Int))), Enc.enc (r_3.2 : Bool)])) [Enc.enc (x_1 : (Int × (List (Int × Int)))), Enc.enc (x_2 : (List Int))] (ta_cons (v := (.agg [(ji x_1.1), (Enc.enc (x_1.2 : List (Int × Int)))])) h12 rfl (Enc.erase_enc (x_1 : (Int × (List (Int × Int))))) (ta_cons (v := (eL x_2)) h13 rfl (Enc.erase_enc (x_2 : (List Int))) ta_nil)) (H.c98 _ _ _ E_r_3) H.g98 (hal_of (ht_cons (v := (.agg [(ji x_1.1), (Enc.enc (x_1.2 : List (Int × Int)))])) h12 rfl rfl (ht_cons (v := (eL x_2)) h13 rfl rfl ht_nil))) rfl rfl rfl ?_
  refine gm (rfl : (_ : V) = (.tup [(Enc.enc (r_3.1 : List (Int × Int))), (jb r_3.2)])) fun h11 => ?_
  refine g1 11 (Enc.enc (r_3.1 : List (Int × Int))) h11 fun h15 => ?_
  refine g1 11 (jb r_3.2) h11 fun h16 => ?_
  refine gm h15 fun h6 => gm h16 fun h7 => gq (.nsq (.seq (.seq (rg (gm h7 fun h17 => g1 17 (jb (!r_3.2)) h17 fun h18 => ?_)))))
  refine gq (.nsq (run_cond (t := (!r_3.2)) h18 h (fun h => ?_) (fun h => ?_)))
  · refine .seq (rg (g0 (.sl .nl (Enc.shp (List Int)) 0 []) fun h4 => ?_))
    refine g0 (jb false) fun h5 => ?_
    refine gq (.nsq (.ret ?_))
    have hr := Option.some.inj h
    subst hr
    exact rrB (res_tmp h4) (res_tmp h5) (fin_retN (finN_tup (finNs_cons (finN_nilN (α := Int)) (finNs_cons finN_bool finNs_nil rfl) rfl)) (mine_tup (mines_cons mine_nil (mines_cons rfl mines_nil))))
  refine .skip (.nsq (.seq (rg (g0 (.sl .nl (Enc.shp (List Int)) 0 []) fun h8 => ?_))))
  refine gq (.nsq (.seq (.seq (rg (gm h6 fun h19 => ?_)))))
  obtain ⟨sub_4, E_sub_4, h⟩ := bind_some h
  refine gv (Enc.enc (sub_4 : List (Int × Int))) (ev_slice (xs := r_3.1) h19 (optI_some rfl) (optI_none) E_sub_4 rfl) fun h20 => ?_
  refine gv (ji (sub_4.length : Int)) (ev_len (xs := sub_4) h20) fun h21 => ?_
  refine g0 (ji 0) fun h22 => gq (.nsq (.block (.loop ?_)))
  exact t_f42o_l1 H sub_4 F .nil 0 _ ⟨h4, h5, h8, h20, h21, h22⟩ h
end
def e42o (F : Nat) : Ent := ent 1000000042 (fun (x : ((Int × (List (Int × Int))) × (List Int) × Unit)) => i_RunProgram_o F x.1 x.2.1) (fun (r : ((NL (NL Int)) × Bool)) => (.tup [(encNs (r.1 : NL (NL Int))), (Enc.enc (r.2 : Bool))])) 2 false []
theorem p42o {F : Nat} {x0 : (Int × (List (Int × Int)))} {x1 : (List Int)} {r : ((NL (NL Int)) × Bool)} (h : i_RunProgram_o F x0 x1 = some r) : (e42o F).den [Enc.enc x0, Enc.enc x1] = some (.tup [(encNs (r.1 : NL (NL Int))), (Enc.enc (r.2 : Bool))]) := ent_put (x0, x1, ()) h
theorem o42o {D : Den} {σ : Sig} {F : Nat} (hF : Fits2 Try.prog D σ) (H : H42o D σ F) : (e42o F).Ok Try.prog := by
  refine ok_of (f := 42) (show unk 1000000042 = 42 from rfl) (fun args r h => ?_) ⟨Try.f42, Try.func42, rfl, rfl⟩
  obtain ⟨⟨x0, x1, _⟩, y, rfl, hy, rfl⟩ := da_open h
  exact contract_run hF (by kernel_rfl) Try.func42 rfl c42o (show 2 ≤ Try.f42.ntmps by decide) (t42o H x0 x1 _ ⟨rfl, rfl⟩ hy)
/- loop.example/g01109/laws.eqIntS -/
def A21_2 : AC := (.cond (.t 14) .skip (.exit 0))
def A21_4 : AC := (.cond (.t 25) (.seq (.reg [] [((jv 4 (.mov (.k (.bool false)))))] []) .ret) .skip)
def A21_5 : AC := (.reg [] [(jm 15 5), ((jv 16 (.bin .add (.t 15) (jn 1)))), (jm 5 16)] [])
def A21_3 : AC := (.seq (.block 1 (.seq (.reg [] [(jm 17 0), (jm 18 5), ((jv 19 (.idx (.t 17) (.t 18) 1))), ((jv 20 (.load .s (.t 19)))), (jm 21 1), (jm 22 5), ((jv 23 (.idx (.t 21) (.t 22) 1))), ((jv 24 (.load .s (.t 23)))), ((jv 25 (.bin .neq (.t 20) (.t 24))))] []) A21_4)) A21_5)
def A21_1 : AC := (.seq (.seq (.reg [] [(jm 11 5), (jm 12 0), ((jv 13 (.len (.t 12)))), ((jv 14 (.bin .lss (.t 11) (.t 13))))] []) A21_2) A21_3)
def A21_6 : AC := (.seq (.reg [] [((jv 4 (.mov (.k (.bool true)))))] []) .ret)
def A21_8 : AC := (.cond (.t 10) (.seq (.reg [] [((jv 4 (.mov (.k (.bool false)))))] []) .ret) .skip)
def A21_10 : AC := (.block 0 (.loop A21_1))
def A21_9 : AC := (.seq (.seq (.reg [] [((jv 5 (.mov (jn 0))))] []) A21_10) A21_6)
def A21_7 : AC := (.seq (.seq (.reg [] [(jm 6 0), ((jv 7 (.len (.t 6)))), (jm 8 1), ((jv 9 (.len (.t 8)))), ((jv 10 (.bin .neq (.t 7) (.t 9))))] []) A21_8) A21_9)
def A21 : AC := (.seq (.reg [] [((jv 4 (.mov (.k (.bool false)))))] []) A21_7)
def an21 : List An := []
theorem c21 : cC Try.prog Try.f21.ntmps an21 (Try.f21.body.getD .skip) = some A21 := by kernel_rfl
structure H21 (D : Den) (σ : Sig) (F : Nat) : Prop where
  mk ::
abbrev R21 (r : Bool) : (Nat → V) → Prop := RR Try.prog [.tmp 4] 0 false (Enc.enc (r : Bool))
section
variable {D : Den} {σ : Sig} {F : Nat} {r : Bool}
def w_eqIntS_l1 (F : Nat) (x_1 : (List Int)) (x_2 : (List Int))  : Nat → Int → Option Bool
  | 0, _ => none
  | k + 1, x_5 =>
    bif decide (x_5 < (x_1.length : Int)) then
      (idx x_1 x_5).bind fun e_8 =>
      (idx x_2 x_5).bind fun e_9 =>
      bif (e_8 != e_9) then
        some false
      else
        (w_eqIntS_l1 F x_1 x_2 k) (w64 (x_5 + 1))
    else
      some true
theorem t_f21_l1 (H : H21 D σ F) (x_1 : (List Int)) (x_2 : (List Int))  : ∀ (k : Nat) (x_5 : Int) (s : Nat → V), Facts [(0, (eL x_1)), (1, (eL x_2)), (4, (jb false)), (5, (ji x_5))] s → w_eqIntS_l1 F x_1 x_2 k x_5 = some r → Run D σ (R21 r) (.run A21_1 [.lp A21_1, .bk 0, .sq A21_6]) s := by
  intro k
  induction k with
  | zero => intro x_5 s _ h; exact nomatch (h : (none : Option _) = some r)
  | succ k ih =>
    intro x_5 s hs h
    rw [w_eqIntS_l1] at h
    obtain ⟨h0, h1, h4, h5⟩ := hs
    refine .seq (.seq (rg (gm h5 fun h11 => gm h0 fun h12 => gv (ji (x_1.length : Int)) (ev_len (xs := x_1) h12) fun h13 => ?_)))
    refine g2 11 13 (jb (decide (x_5 < (x_1.length : Int)))) h11 h13 fun h14 => ?_
    refine gq (.nsq (run_cond (t := decide (x_5 < (x_1.length : Int))) h14 h (fun h => ?_) (fun h => ?_)))
    · refine .skip (.nsq (.seq (.block (.seq (rg (gm h0 fun h17 => gm h5 fun h18 => ?_))))))
      obtain ⟨e_8, E_e_8, h⟩ := bind_some h
      refine gv (.ref .sh 0 [] (ji e_8)) (ev_idx (t := .sh) (lo := 0) (xs := x_1) h17 h18 E_e_8 rfl rfl) fun h19 => ?_
      refine g1 19 (ji e_8) h19 fun h20 => ?_
      refine gm h1 fun h21 => gm h5 fun h22 => ?_
      obtain ⟨e_9, E_e_9, h⟩ := bind_some h
      refine gv (.ref .sh 0 [] (ji e_9)) (ev_idx (t := .sh) (lo := 0) (xs := x_2) h21 h22 E_e_9 rfl rfl) fun h23 => ?_
      refine g1 23 (ji e_9) h23 fun h24 => ?_
      refine g2 20 24 (jb (e_8 != e_9)) h20 h24 fun h25 => ?_
      refine gq (.nsq (run_cond (t := (e_8 != e_9)) h25 h (fun h => ?_) (fun h => ?_)))
      · refine .seq (rg (g0 (jb false) fun h4 => ?_))
        refine gq (.nsq (.ret ?_))
        have hr := Option.some.inj h
        subst hr
        exact rrA (res_tmp h4) rfl
      refine .skip (.nbk (.nsq (rg (gm h5 fun h15 => g1 15 (ji (w64 (x_5 + 1))) h15 fun h16 => ?_))))
      refine gm h16 fun h5 => gq (.nlp ?_)
      exact ih (w64 (x_5 + 1)) _ ⟨h0, h1, h4, h5⟩ h
    refine .exit (.esq (.elp (.ebk (.nsq (.seq (rg (g0 (jb true) fun h4 => ?_)))))))
    refine gq (.nsq (.ret ?_))
    have hr := Option.some.inj h
    subst hr
    exact rrA (res_tmp h4) rfl
def w_eqIntS (F : Nat) (x_1 : (List Int)) (x_2 : (List Int)) : Option Bool :=
  bif ((x_1.length : Int) != (x_2.length : Int)) then
    some false
  else
    w_eqIntS_l1 F x_1 x_2 F 0
theorem t21 (H : H21 D σ F) (x_1 : (List Int)) (x_2 : (List Int)) (s : Nat → V) (hs : Facts [(0, (eL x_1)), (1, (eL x_2))] s) (h : w_eqIntS F x_1 x_2 = some r) : Run D σ (R21 r) (.run A21 []) s := by
  unfold w_eqIntS at h
  obtain ⟨h0, h1⟩ := hs
  refine .seq (rg (g0 (jb false) fun h4 => ?_))
  refine gq (.nsq (.seq (.seq (rg (gm h0 fun h6 => gv (ji (x_1.length : Int)) (ev_len (xs := x_1) h6) fun h7 => ?_)))))
  refine gm h1 fun h8 => gv (ji (x_2.length : Int)) (ev_len (xs := x_2) h8) fun h9 => ?_
  refine g2 7 9 (jb ((x_1.length : Int) != (x_2.length : Int))) h7 h9 fun h10 => ?_
  refine gq (.nsq (run_cond (t := ((x_1.length : Int) != (x_2.length : Int))) h10 h (fun h => ?_) (fun h => ?_)))
  · refine .seq (rg (g0 (jb false) fun h4 => ?_))
    refine gq (.nsq (.ret ?_))
    have hr := Option.some.inj h
    subst hr
    exact rrA (res_tmp h4) rfl
  refine .skip (.nsq (.seq (.seq (rg (g0 (ji 0) fun h5 => gq (.nsq (.block (.loop ?_))))))))
  exact t_f21_l1 H x_1 x_2 F 0 _ ⟨h0, h1, h4, h5⟩ h
end
def e21 (F : Nat) : Ent := ent 21 (fun (x : ((List Int) × (List Int) × Unit)) => w_eqIntS F x.1 x.2.1) (fun (r : Bool) => (Enc.enc (r : Bool))) 0 false []
theorem p21 {F : Nat} {x0 : (List Int)} {x1 : (List Int)} {r : Bool} (h : w_eqIntS F x0 x1 = some r) : (e21 F).den [Enc.enc x0, Enc.enc x1] = some (Enc.enc (r : Bool)) := ent_put (x0, x1, ()) h
theorem o21 {D : Den} {σ : Sig} {F : Nat} (hF : Fits2 Try.prog D σ) (H : H21 D σ F) : (e21 F).Ok Try.prog := by
  refine ok_of (f := 21) (show unk 21 = 21 from rfl) (fun args r h => ?_) ⟨Try.f21, Try.func21, rfl, rfl⟩
  obtain ⟨⟨x0, x1, _⟩, y, rfl, hy, rfl⟩ := da_open h
  exact contract_run hF (by kernel_rfl) Try.func21 rfl c21 (show 2 ≤ Try.f21.ntmps by decide) (t21 H x0 x1 _ ⟨rfl, rfl⟩ hy)
/- loop.example/g01109/laws.eqIntSS -/
def A29_2 : AC := (.cond (.t 14) .skip (.exit 0))
def A29_4 : AC := (.cond (.t 26) (.seq (.reg [] [((jv 4 (.mov (.k (.bool false)))))] []) .ret) .skip)
def A29_5 : AC := (.reg [] [(jm 15 5), ((jv 16 (.bin .add (.t 15) (jn 1)))), (jm 5 16)] [])
def A29_3 : AC := (.seq (.block 1 (.seq (.reg [] [(jm 17 0), (jm 18 5), ((jv 19 (.idx (.t 17) (.t 18) 1))), ((jv 20 (.load .p (.t 19)))), (jm 21 1), (jm 22 5), ((jv 23 (.idx (.t 21) (.t 22) 1))), ((jv 24 (.load .p (.t 23)))), (.mk (some 25) none false (.call (.k (.fn 21 [] [])) [(.t 20), (.t 24)])), ((jv 26 (.un .not (.t 25))))] []) A29_4)) A29_5)
def A29_1 : AC := (.seq (.seq (.reg [] [(jm 11 5), (jm 12 0), ((jv 13 (.len (.t 12)))), ((jv 14 (.bin .lss (.t 11) (.t 13))))] []) A29_2) A29_3)
def A29_6 : AC := (.seq (.reg [] [((jv 4 (.mov (.k (.bool true)))))] []) .ret)
def A29_8 : AC := (.cond (.t 10) (.seq (.reg [] [((jv 4 (.mov (.k (.bool false)))))] []) .ret) .skip)
def A29_10 : AC := (.block 0 (.loop A29_1))
def A29_9 : AC := (.seq (.seq (.reg [] [((jv 5 (.mov (jn 0))))] []) A29_10) A29_6)
def A29_7 : AC := (.seq (.seq (.reg [] [(jm 6 0), ((jv 7 (.len (.t 6)))), (jm 8 1), ((jv 9 (.len (.t 8)))), ((jv 10 (.bin .neq (.t 7) (.t 9))))] []) A29_8) A29_9)
def A29 : AC := (.seq (.reg [] [((jv 4 (.mov (.k (.bool false)))))] []) A29_7)
def an29 : List An := []
theorem c29 : cC Try.prog Try.f29.ntmps an29 (Try.f29.body.getD .skip) = some A29 := by kernel_rfl
structure H29 (D : Den) (σ : Sig) (F : Nat) : Prop where
  c21 : ∀ (x0 : (List Int)) (x1 : (List Int)) r, w_eqIntS F x0 x1 = some r → D 21 [Enc.enc x0, Enc.enc x1] = some (Enc.enc (r : Bool))
  g21 : σ 21 = some (0, false)
abbrev R29 (r : Bool) : (Nat → V) → Prop := RR Try.prog [.tmp 4] 0 false (Enc.enc (r : Bool))
section
variable {D : Den} {σ : Sig} {F : Nat} {r : Bool}
def w_eqIntSS_l1 (F : Nat) (x_1 : (List (List Int))) (x_2 : (List (List Int)))  : Nat → Int → Option Bool
  | 0, _ => none
  | k + 1, x_6 =>
    bif decide (x_6 < (x_1.length : Int)) then
      (idx x_1 x_6).bind fun e_10 =>
      (idx x_2 x_6).bind fun e_11 =>
      (w_eqIntS F e_10 e_11).bind fun r_12 =>
      bif (!r_12) then
        some false
      else
        (w_eqIntSS_l1 F x_1 x_2 k) (w64 (x_6 + 1))
    else
      some true
theorem t_f29_l1 (H : H29 D σ F) (x_1 : (List (List Int))) (x_2 : (List (List Int)))  : ∀ (k : Nat) (x_6 : Int) (s : Nat → V), Facts [(0, (Enc.enc (x_1 : List (List Int)))), (1, (Enc.enc (x_2 : List (List Int)))), (4, (jb false)), (5, (ji x_6))] s → w_eqIntSS_l1 F x_1 x_2 k x_6 = some r → Run D σ (R29 r) (.run A29_1 [.lp A29_1, .bk 0, .sq A29_6]) s := by
  intro k
  induction k with
  | zero => intro x_6 s _ h; exact nomatch (h : (none : Option _) = some r)
  | succ k ih =>
    intro x_6 s hs h
    rw [w_eqIntSS_l1] at h
    obtain ⟨h0, h1, h4, h5⟩ := hs
    refine .seq (.seq (rg (gm h5 fun h11 => gm h0 fun h12 => gv (ji (x_1.length : Int)) (ev_len (xs := x_1) h12) fun h13 => ?_)))
    refine g2 11 13 (jb (decide (x_6 < (x_1.length : Int)))) h11 h13 fun h14 => ?_
    refine gq (.nsq (run_cond (t := decide (x_6 < (x_1.length : Int))) h14 h (fun h => ?_) (fun h => ?_)))
    · refine .skip (.nsq (.seq (.block (.seq (rg (gm h0 fun h17 => gm h5 fun h18 => ?_))))))
      obtain ⟨e_10, E_e_10, h⟩ := bind_some h
      refine gv (.ref .sh 0 [] (eL e_10)) (ev_idx (t := .sh) (lo := 0) (xs := x_1) h17 h18 E_e_10 rfl rfl) fun h19 => ?_
      refine g1 19 (eL e_10) h19 fun h20 => ?_
      refine gm h1 fun h21 => gm h5 fun h22 => ?_
      obtain ⟨e_11, E_e_11, h⟩ := bind_some h
      refine gv (.ref .sh 0 [] (eL e_11)) (ev_idx (t := .sh) (lo := 0) (xs := x_2) h21 h22 E_e_11 rfl rfl) fun h23 => ?_
      refine g1 23 (eL e_11) h23 fun h24 => ?_
      obtain ⟨r_12, E_r_12, h⟩ := bind_some h
      refine g_call (m := 0) (al := false) (r := (Enc.enc (r_12 : Bool))) [Enc.enc (e_10 : (List Int)), Enc.enc (e_11 : (List Int))] (ta_cons (v := (eL e_10)) h20 rfl (Enc.erase_enc (e_10 : (List Int))) (ta_cons (v := (eL e_11)) h24 rfl (Enc.erase_enc (e_11 : (List Int))) ta_nil)) (H.c21 _ _ _ E_r_12) H.g21 rfl rfl rfl rfl ?_
      refine g1 25 (jb (!r_12)) (rfl : (_ : V) = (jb r_12)) fun h26 => ?_
      refine gq (.nsq (run_cond (t := (!r_12)) h26 h (fun h => ?_) (fun h => ?_)))
      · refine .seq (rg (g0 (jb false) fun h4 => ?_))
        refine gq (.nsq (.ret ?_))
        have hr := Option.some.inj h
        subst hr
        exact rrA (res_tmp h4) rfl
      refine .skip (.nbk (.nsq (rg (gm h5 fun h15 => g1 15 (ji (w64 (x_6 + 1))) h15 fun h16 => ?_))))
      refine gm h16 fun h5 => gq (.nlp ?_)
      exact ih (w64 (x_6 + 1)) _ ⟨h0, h1, h4, h5⟩ h
    refine .exit (.esq (.elp (.ebk (.nsq (.seq (rg (g0 (jb true) fun h4 => ?_)))))))
    refine gq (.nsq (.ret ?_))
    have hr := Option.some.inj h
    subst hr
    exact rrA (res_tmp h4) rfl
def w_eqIntSS (F : Nat) (x_1 : (List (List Int))) (x_2 : (List (List Int))) : Option Bool :=
  bif ((x_1.length : Int) != (x_2.length : Int)) then
    some false
  else
    w_eqIntSS_l1 F x_1 x_2 F 0
theorem t29 (H : H29 D σ F) (x_1 : (List (List Int))) (x_2 : (List (List Int))) (s : Nat → V) (hs : Facts [(0, (Enc.enc (x_1 : List (List Int)))), (1, (Enc.enc (x_2 : List (List Int))))] s) (h : w_eqIntSS F x_1 x_2 = some r) : Run D σ (R29 r) (.run A29 []) s := by
  unfold w_eqIntSS at h
  obtain ⟨h0, h1⟩ := hs
  refine .seq (rg (g0 (jb false) fun h4 => ?_))
  refine gq (.nsq (.seq (.seq (rg (gm h0 fun h6 => gv (ji (x_1.length : Int)) (ev_len (xs := x_1) h6) fun h7 => ?_)))))
  refine gm h1 fun h8 => gv (ji (x_2.length : Int)) (ev_len (xs := x_2) h8) fun h9 => ?_
  refine g2 7 9 (jb ((x_1.length : Int) != (x_2.length : Int))) h7 h9 fun h10 => ?_
  refine gq (.nsq (run_cond (t := ((x_1.length : Int) != (x_2.length : Int))) h10 h (fun h => ?_) (fun h => ?_)))
  · refine .seq (rg (g0 (jb false) fun h4 => ?_))
    refine gq (.nsq (.ret ?_))
    have hr := Option.some.inj h
    subst hr
    exact rrA (res_tmp h4) rfl
  refine .skip (.nsq (.seq (.seq (rg (g0 (ji 0) fun h5 => gq (.nsq (.block (.loop ?_))))))))
  exact t_f29_l1 H x_1 x_2 F 0 _ ⟨h0, h1, h4, h5⟩ h
end
def e29 (F : Nat) : Ent := ent 29 (fun (x : ((List (List Int)) × (List (List Int)) × Unit)) => w_eqIntSS F x.1 x.2.1) (fun (r : Bool) => (Enc.enc (r : Bool))) 0 false []
theorem p29 {F : Nat} {x0 : (List (List Int))} {x1 : (List (List Int))} {r : Bool} (h : w_eqIntSS F x0 x1 = some r) : (e29 F).den [Enc.enc x0, Enc.enc x1] = some (Enc.enc (r : Bool)) := ent_put (x0, x1, ()) h
theorem o29 {D : Den} {σ : Sig} {F : Nat} (hF : Fits2 Try.prog D σ) (H : H29 D σ F) : (e29 F).Ok Try.prog := by
  refine ok_of (f := 29) (show unk 29 = 29 from rfl) (fun args r h => ?_) ⟨Try.f29, Try.func29, rfl, rfl⟩
  obtain ⟨⟨x0, x1, _⟩, y, rfl, hy, rfl⟩ := da_open h
  exact contract_run hF (by kernel_rfl) Try.func29 rfl c29 (show 2 ≤ Try.f29.ntmps by decide) (t29 H x0 x1 _ ⟨rfl, rfl⟩ hy)
/- loop.example/g01109/laws.eqIntA2 -/
def A129_2 : AC := (.cond (.t 7) .skip (.exit 0))
def A129_4 : AC := (.cond (.t 16) (.seq (.reg [] [((jv 4 (.mov (.k (.bool false)))))] []) .ret) .skip)
def A129_5 : AC := (.reg [] [(jm 8 5), ((jv 9 (.bin .add (.t 8) (jn 1)))), (jm 5 9)] [])
def A129_3 : AC := (.seq (.block 1 (.seq (.reg [] [(jm 10 5), ((jv 11 (.idxA (.t 2) (.t 10) 2 1))), ((jv 12 (.load .s (.t 11)))), (jm 13 5), ((jv 14 (.idxA (.t 3) (.t 13) 2 1))), ((jv 15 (.load .s (.t 14)))), ((jv 16 (.bin .neq (.t 12) (.t 15))))] []) A129_4)) A129_5)
def A129_1 : AC := (.seq (.seq (.reg [] [(jm 6 5), ((jv 7 (.bin .lss (.t 6) (jn 2))))] []) A129_2) A129_3)
def A129_6 : AC := (.seq (.reg [] [((jv 4 (.mov (.k (.bool true)))))] []) .ret)
def A129_8 : AC := (.block 0 (.loop A129_1))
def A129_7 : AC := (.seq (.seq (.reg [] [((jv 5 (.mov (jn 0))))] []) A129_8) A129_6)
def A129 : AC := (.seq (.reg [.clr [2, 3]] [(.mk (some 2) none false (.box (.t 0))), (.mk (some 3) none false (.box (.t 1))), ((jv 4 (.mov (.k (.bool false)))))] []) A129_7)
def an129 : List An := [{ id := 0, pre := [.clr [2, 3]], ep := [], lin := [], sp := [] }]
theorem c129 : cC Try.prog Try.f129.ntmps an129 (Try.f129.body.getD .skip) = some A129 := by kernel_rfl
structure H129 (D : Den) (σ : Sig) (F : Nat) : Prop where
  mk ::
abbrev R129 (r : Bool) : (Nat → V) → Prop := RR Try.prog [.tmp 4] 0 false (Enc.enc (r : Bool))
section
variable {D : Den} {σ : Sig} {F : Nat} {r : Bool}
def w_eqIntA2_l1 (F : Nat) (x_1 : (Int × Int)) (x_2 : (Int × Int))  : Nat → Int → Option Bool
  | 0, _ => none
  | k + 1, x_3 =>
    bif decide (x_3 < 2) then
      (idx [x_1.1, x_1.2] x_3).bind fun e_6 =>
      (idx [x_2.1, x_2.2] x_3).bind fun e_7 =>
      bif (e_6 != e_7) then
        some false
      else
        (w_eqIntA2_l1 F x_1 x_2 k) (w64 (x_3 + 1))
    else
      some true
theorem t_f129_l1 (H : H129 D σ F) (x_1 : (Int × Int)) (x_2 : (Int × Int))  : ∀ (k : Nat) (x_3 : Int) (s : Nat → V), Facts [(2, (.ref (.bx 2) 0 [] (.agg [(ji x_1.1), (ji x_1.2)]))), (3, (.ref (.bx 3) 0 [] (.agg [(ji x_2.1), (ji x_2.2)]))), (4, (jb false)), (5, (ji x_3))] s → w_eqIntA2_l1 F x_1 x_2 k x_3 = some r → Run D σ (R129 r) (.run A129_1 [.lp A129_1, .bk 0, .sq A129_6]) s := by
  intro k
  induction k with
  | zero => intro x_3 s _ h; exact nomatch (h : (none : Option _) = some r)
  | succ k ih =>
    intro x_3 s hs h
    rw [w_eqIntA2_l1] at h
    obtain ⟨h2, h3, h4, h5⟩ := hs
    refine .seq (.seq (rg (gm h5 fun h6 => g1 6 (jb (decide (x_3 < 2))) h6 fun h7 => ?_)))
    refine gq (.nsq (run_cond (t := decide (x_3 < 2)) h7 h (fun h => ?_) (fun h => ?_)))
    · refine .skip (.nsq (.seq (.block (.seq (rg (gm h5 fun h10 => ?_))))))
      obtain ⟨e_6, E_e_6, h⟩ := bind_some h
      refine gv (.ref (.bx 2) 0 [x_3.toNat] (ji e_6)) (ev_idxA (xs := [x_1.1, x_1.2]) (a := e_6) (n := x_3) (q := []) h2 h10 E_e_6 rfl rfl rfl) fun h11 => ?_
      refine g1 11 (ji e_6) h11 fun h12 => ?_
      refine gm h5 fun h13 => ?_
      obtain ⟨e_7, E_e_7, h⟩ := bind_some h
      refine gv (.ref (.bx 3) 0 [x_3.toNat] (ji e_7)) (ev_idxA (xs := [x_2.1, x_2.2]) (a := e_7) (n := x_3) (q := []) h3 h13 E_e_7 rfl rfl rfl) fun h14 => ?_
      refine g1 14 (ji e_7) h14 fun h15 => ?_
      refine g2 12 15 (jb (e_6 != e_7)) h12 h15 fun h16 => ?_
      refine gq (.nsq (run_cond (t := (e_6 != e_7)) h16 h (fun h => ?_) (fun h => ?_)))
      · refine .seq (rg (g0 (jb false) fun h4 => ?_))
        refine gq (.nsq (.ret ?_))
        have hr := Option.some.inj h
        subst hr
        exact rrA (res_tmp h4) rfl
      refine .skip (.nbk (.nsq (rg (gm h5 fun h8 => g1 8 (ji (w64 (x_3 + 1))) h8 fun h9 => ?_))))
      refine gm h9 fun h5 => gq (.nlp ?_)
      exact ih (w64 (x_3 + 1)) _ ⟨h2, h3, h4, h5⟩ h
    refine .exit (.esq (.elp (.ebk (.nsq (.seq (rg (g0 (jb true) fun h4 => ?_)))))))
    refine gq (.nsq (.ret ?_))
    have hr := Option.some.inj h
    subst hr
    exact rrA (res_tmp h4) rfl
def w_eqIntA2 (F : Nat) (x_1 : (Int × Int)) (x_2 : (Int × Int)) : Option Bool :=
  w_eqIntA2_l1 F x_1 x_2 F 0
theorem t129 (H : H129 D σ F) (x_1 : (Int × Int)) (x_2 : (Int × Int)) (s : Nat → V) (hs : Facts [(0, (.agg [(ji x_1.1), (ji x_1.2)])), (1, (.agg [(ji x_2.1), (ji x_2.2)]))] s) (h : w_eqIntA2 F x_1 x_2 = some r) : Run D σ (R129 r) (.run A129 []) s := by
  unfold w_eqIntA2 at h
  obtain ⟨h0, h1⟩ := hs
  refine .seq (run_reg ?_)
  refine e_clr ?_
  refine ez [(0, _), (1, _), (2, _), (3, _)] ⟨(keep_clear (pk := [2, 3]) h0 rfl (map_agg (maps_cons mi (maps_cons mi maps_nil)))), (keep_clear (pk := [2, 3]) h1 rfl (map_agg (maps_cons mi (maps_cons mi maps_nil)))), (gone_clear (pk := [2, 3]) (t := 2) rfl), (gone_clear (pk := [2, 3]) (t := 3) rfl)⟩ ?_
  rintro s ⟨h0, h1, h2, h3⟩
  refine g_box (.agg [(ji x_1.1), (ji x_1.2)]) (rd_of h0 rfl) h2 rfl ?_
  refine g_box (.agg [(ji x_2.1), (ji x_2.2)]) (rd_of h1 rfl) h3 rfl ?_
  refine g0 (jb false) fun h4 => ?_
  refine gq (.nsq (.seq (.seq (rg (g0 (ji 0) fun h5 => gq (.nsq (.block (.loop ?_))))))))
  exact t_f129_l1 H x_1 x_2 F 0 _ ⟨rfl, rfl, h4, h5⟩ h
end
def e129 (F : Nat) : Ent := ent 129 (fun (x : ((Int × Int) × (Int × Int) × Unit)) => w_eqIntA2 F x.1 x.2.1) (fun (r : Bool) => (Enc.enc (r : Bool))) 0 false []
theorem p129 {F : Nat} {x0 : (Int × Int)} {x1 : (Int × Int)} {r : Bool} (h : w_eqIntA2 F x0 x1 = some r) : (e129 F).den [Enc.enc x0, Enc.enc x1] = some (Enc.enc (r : Bool)) := ent_put (x0, x1, ()) h
theorem o129 {D : Den} {σ : Sig} {F : Nat} (hF : Fits2 Try.prog D σ) (H : H129 D σ F) : (e129 F).Ok Try.prog := by
  refine ok_of (f := 129) (show unk 129 = 129 from rfl) (fun args r h => ?_) ⟨Try.f129, Try.func129, rfl, rfl⟩
  obtain ⟨⟨x0, x1, _⟩, y, rfl, hy, rfl⟩ := da_open h
  exact contract_run hF (by kernel_rfl) Try.func129 rfl c129 (show 2 ≤ Try.f129.ntmps by decide) (t129 H x0 x1 _ ⟨rfl, rfl⟩ hy)
/- loop.example/g01109/laws.eqIntA2S -/
def A68_2 : AC := (.cond (.t 14) .skip (.exit 0))
def A68_4 : AC := (.cond (.t 26) (.seq (.reg [] [((jv 4 (.mov (.k (.bool false)))))] []) .ret) .skip)
def A68_5 : AC := (.reg [] [(jm 15 5), ((jv 16 (.bin .add (.t 15) (jn 1)))), (jm 5 16)] [])
def A68_3 : AC := (.seq (.block 1 (.seq (.reg [] [(jm 17 0), (jm 18 5), ((jv 19 (.idx (.t 17) (.t 18) 2))), ((jv 20 (.load (.ag [.s, .s]) (.t 19)))), (jm 21 1), (jm 22 5), ((jv 23 (.idx (.t 21) (.t 22) 2))), ((jv 24 (.load (.ag [.s, .s]) (.t 23)))), (.mk (some 25) none false (.call (.k (.fn 129 [] [])) [(.t 20), (.t 24)])), ((jv 26 (.un .not (.t 25))))] []) A68_4)) A68_5)
def A68_1 : AC := (.seq (.seq (.reg [] [(jm 11 5), (jm 12 0), ((jv 13 (.len (.t 12)))), ((jv 14 (.bin .lss (.t 11) (.t 13))))] []) A68_2) A68_3)
def A68_6 : AC := (.seq (.reg [] [((jv 4 (.mov (.k (.bool true)))))] []) .ret)
def A68_8 : AC := (.cond (.t 10) (.seq (.reg [] [((jv 4 (.mov (.k (.bool false)))))] []) .ret) .skip)
def A68_10 : AC := (.block 0 (.loop A68_1))
def A68_9 : AC := (.seq (.seq (.reg [] [((jv 5 (.mov (jn 0))))] []) A68_10) A68_6)
def A68_7 : AC := (.seq (.seq (.reg [] [(jm 6 0), ((jv 7 (.len (.t 6)))), (jm 8 1), ((jv 9 (.len (.t 8)))), ((jv 10 (.bin .neq (.t 7) (.t 9))))] []) A68_8) A68_9)
def A68 : AC := (.seq (.reg [] [((jv 4 (.mov (.k (.bool false)))))] []) A68_7)
def an68 : List An := []
theorem c68 : cC Try.prog Try.f68.ntmps an68 (Try.f68.body.getD .skip) = some A68 := by kernel_rfl
structure H68 (D : Den) (σ : Sig) (F : Nat) : Prop where
  c129 : ∀ (x0 : (Int × Int)) (x1 : (Int × Int)) r, w_eqIntA2 F x0 x1 = some r → D 129 [Enc.enc x0, Enc.enc x1] = some (Enc.enc (r : Bool))
  g129 : σ 129 = some (0, false)
abbrev R68 (r : Bool) : (Nat → V) → Prop := RR Try.prog [.tmp 4] 0 false (Enc.enc (r : Bool))
section
variable {D : Den} {σ : Sig} {F : Nat} {r : Bool}
def w_eqIntA2S_l1 (F : Nat) (x_1 : (List (Int × Int))) (x_2 : (List (Int × Int)))  : Nat → Int → Option Bool
  | 0, _ => none
  | k + 1, x_6 =>
    bif decide (x_6 < (x_1.length : Int)) then
      (idx x_1 x_6).bind fun e_10 =>
      (idx x_2 x_6).bind fun e_11 =>
      (w_eqIntA2 F e_10 e_11).bind fun r_12 =>
      bif (!r_12) then
        some false
      else
        (w_eqIntA2S_l1 F x_1 x_2 k) (w64 (x_6 + 1))
    else
      some true
theorem t_f68_l1 (H : H68 D σ F) (x_1 : (List (Int × Int))) (x_2 : (List (Int × Int)))  : ∀ (k : Nat) (x_6 : Int) (s : Nat → V), Facts [(0, (Enc.enc (x_1 : List (Int × Int)))), (1, (Enc.enc (x_2 : List (Int × Int)))), (4, (jb false)), (5, (ji x_6))] s → w_eqIntA2S_l1 F x_1 x_2 k x_6 = some r → Run D σ (R68 r) (.run A68_1 [.lp A68_1, .bk 0, .sq A68_6]) s := by
  intro k
  induction k with
  | zero => intro x_6 s _ h; exact nomatch (h : (none : Option _) = some r)
  | succ k ih =>
    intro x_6 s hs h
    rw [w_eqIntA2S_l1] at h
    obtain ⟨h0, h1, h4, h5⟩ := hs
    refine .seq (.seq (rg (gm h5 fun h11 => gm h0 fun h12 => gv (ji (x_1.length : Int)) (ev_len (xs := x_1) h12) fun h13 => ?_)))
    refine g2 11 13 (jb (decide (x_6 < (x_1.length : Int)))) h11 h13 fun h14 => ?_
    refine gq (.nsq (run_cond (t := decide (x_6 < (x_1.length : Int))) h14 h (fun h => ?_) (fun h => ?_)))
    · refine .skip (.nsq (.seq (.block (.seq (rg (gm h0 fun h17 => gm h5 fun h18 => ?_))))))
      obtain ⟨e_10, E_e_10, h⟩ := bind_some h
      refine gv (.ref .sh 0 [] (.agg [(ji e_10.1), (ji e_10.2)])) (ev_idx (t := .sh) (lo := 0) (xs := x_1) h17 h18 E_e_10 rfl rfl) fun h19 => ?_
      refine g1 19 (.agg [(ji e_10.1), (ji e_10.2)]) h19 fun h20 => ?_
      refine gm h1 fun h21 => gm h5 fun h22 => ?_
      obtain ⟨e_11, E_e_11, h⟩ := bind_some h
      refine gv (.ref .sh 0 [] (.agg [(ji e_11.1), (ji e_11.2)])) (ev_idx (t := .sh) (lo := 0) (xs := x_2) h21 h22 E_e_11 rfl rfl) fun h23 => ?_
      refine g1 23 (.agg [(ji e_11.1), (ji e_11.2)]) h23 fun h24 => ?_
      obtain ⟨r_12, E_r_12, h⟩ := bind_some h
      refine g_call (m := 0) (al := false) (r := (Enc.enc (r_12 : Bool))) [Enc.enc (e_10 : (Int × Int)), Enc.enc (e_11 : (Int × Int))] (ta_cons (v := (.agg [(ji e_10.1), (ji e_10.2)])) h20 rfl (Enc.erase_enc (e_10 : (Int × Int))) (ta_cons (v := (.agg [(ji e_11.1), (ji e_11.2)])) h24 rfl (Enc.erase_enc (e_11 : (Int × Int))) ta_nil)) (H.c129 _ _ _ E_r_12) H.g129 rfl rfl rfl rfl ?_
      refine g1 25 (jb (!r_12)) (rfl : (_ : V) = (jb r_12)) fun h26 => ?_
      refine gq (.nsq (run_cond (t := (!r_12)) h26 h (fun h => ?_) (fun h => ?_)))
      · refine .seq (rg (g0 (jb false) fun h4 => ?_))
        refine gq (.nsq (.ret ?_))
        have hr := Option.some.inj h
        subst hr
        exact rrA (res_tmp h4) rfl
      refine .skip (.nbk (.nsq (rg (gm h5 fun h15 => g1 15 (ji (w64 (x_6 + 1))) h15 fun h16 => ?_))))
      refine gm h16 fun h5 => gq (.nlp ?_)
      exact ih (w64 (x_6 + 1)) _ ⟨h0, h1, h4, h5⟩ h
    refine .exit (.esq (.elp (.ebk (.nsq (.seq (rg (g0 (jb true) fun h4 => ?_)))))))
    refine gq (.nsq (.ret ?_))
    have hr := Option.some.inj h
    subst hr
    exact rrA (res_tmp h4) rfl
def w_eqIntA2S (F : Nat) (x_1 : (List (Int × Int))) (x_2 : (List (Int × Int))) : Option Bool :=
  bif ((x_1.length : Int) != (x_2.length : Int)) then
    some false
  else
    w_eqIntA2S_l1 F x_1 x_2 F 0
theorem t68 (H : H68 D σ F) (x_1 : (List (Int × Int))) (x_2 : (List (Int × Int))) (s : Nat → V) (hs : Facts [(0, (Enc.enc (x_1 : List (Int × Int)))), (1, (Enc.enc (x_2 : List (Int × Int))))] s) (h : w_eqIntA2S F x_1 x_2 = some r) : Run D σ (R68 r) (.run A68 []) s := by
  unfold w_eqIntA2S at h
  obtain ⟨h0, h1⟩ := hs
  refine .seq (rg (g0 (jb false) fun h4 => ?_))
  refine gq (.nsq (.seq (.seq (rg (gm h0 fun h6 => gv (ji (x_1.length : Int)) (ev_len (xs := x_1) h6) fun h7 => ?_)))))
  refine gm h1 fun h8 => gv (ji (x_2.length : Int)) (ev_len (xs := x_2) h8) fun h9 => ?_
  refine g2 7 9 (jb ((x_1.length : Int) != (x_2.length : Int))) h7 h9 fun h10 => ?_
  refine gq (.nsq (run_cond (t := ((x_1.length : Int) != (x_2.length : Int))) h10 h (fun h => ?_) (fun h => ?_)))
  · refine .seq (rg (g0 (jb false) fun h4 => ?_))
    refine gq (.nsq (.ret ?_))
    have hr := Option.some.inj h
    subst hr
    exact rrA (res_tmp h4) rfl
  refine .skip (.nsq (.seq (.seq (rg (g0 (ji 0) fun h5 => gq (.nsq (.block (.loop ?_))))))))
  exact t_f68_l1 H x_1 x_2 F 0 _ ⟨h0, h1, h4, h5⟩ h
end
def e68 (F : Nat) : Ent := ent 68 (fun (x : ((List (Int × Int)) × (List (Int × Int)) × Unit)) => w_eqIntA2S F x.1 x.2.1) (fun (r : Bool) => (Enc.enc (r : Bool))) 0 false []
theorem p68 {F : Nat} {x0 : (List (Int × Int))} {x1 : (List (Int × Int))} {r : Bool} (h : w_eqIntA2S F x0 x1 = some r) : (e68 F).den [Enc.enc x0, Enc.enc x1] = some (Enc.enc (r : Bool)) := ent_put (x0, x1, ()) h
theorem o68 {D : Den} {σ : Sig} {F : Nat} (hF : Fits2 Try.prog D σ) (H : H68 D σ F) : (e68 F).Ok Try.prog := by
  refine ok_of (f := 68) (show unk 68 = 68 from rfl) (fun args r h => ?_) ⟨Try.f68, Try.func68, rfl, rfl⟩
  obtain ⟨⟨x0, x1, _⟩, y, rfl, hy, rfl⟩ := da_open h
  exact contract_run hF (by kernel_rfl) Try.func68 rfl c68 (show 2 ≤ Try.f68.ntmps by decide) (t68 H x0 x1 _ ⟨rfl, rfl⟩ hy)
/- loop.example/g01109/laws.eqGraph -/
def A20_2 : AC := (.cond (.t 9) (.seq (.reg [] [((jv 4 (.mov (.k (.bool false)))))] []) .ret) .skip)
def A20_4 : AC := (.cond (.t 15) (.seq (.reg [] [((jv 4 (.mov (.k (.bool false)))))] []) .ret) .skip)
def A20_5 : AC := (.seq (.reg [] [((jv 4 (.mov (.k (.bool true)))))] []) .ret)
def A20_3 : AC := (.seq (.seq (.reg [] [((jv 10 (.fld (.t 2) 1 1))), ((jv 11 (.load .p (.t 10)))), ((jv 12 (.fld (.t 3) 1 1))), ((jv 13 (.load .p (.t 12)))), (.mk (some 14) none false (.call (.k (.fn 68 [] [])) [(.t 11), (.t 13)])), ((jv 15 (.un .not (.t 14))))] []) A20_4) A20_5)
def A20_1 : AC := (.seq (.seq (.reg [] [((jv 5 (.fld (.t 2) 0 0))), ((jv 6 (.load .s (.t 5)))), ((jv 7 (.fld (.t 3) 0 0))), ((jv 8 (.load .s (.t 7)))), ((jv 9 (.bin .neq (.t 6) (.t 8))))] []) A20_2) A20_3)
def A20 : AC := (.seq (.reg [.clr [2, 3]] [(.mk (some 2) none false (.box (.t 0))), (.mk (some 3) none false (.box (.t 1))), ((jv 4 (.mov (.k (.bool false)))))] []) A20_1)
def an20 : List An := [{ id := 0, pre := [.clr [2, 3]], ep := [], lin := [], sp := [] }]
theorem c20 : cC Try.prog Try.f20.ntmps an20 (Try.f20.body.getD .skip) = some A20 := by kernel_rfl
structure H20 (D : Den) (σ : Sig) (F : Nat) : Prop where
  c68 : ∀ (x0 : (List (Int × Int))) (x1 : (List (Int × Int))) r, w_eqIntA2S F x0 x1 = some r → D 68 [Enc.enc x0, Enc.enc x1] = some (Enc.enc (r : Bool))
  g68 : σ 68 = some (0, false)
abbrev R20 (r : Bool) : (Nat → V) → Prop := RR Try.prog [.tmp 4] 0 false (Enc.enc (r : Bool))
section
variable {D : Den} {σ : Sig} {F : Nat} {r : Bool}
def w_eqGraph (F : Nat) (x_1 : (Int × (List (Int × Int)))) (x_2 : (Int × (List (Int × Int)))) : Option Bool :=
  bif (x_1.1 != x_2.1) then
    some false
  else
    (w_eqIntA2S F x_1.2 x_2.2).bind fun r_3 =>
    bif (!r_3) then
      some false
    else
      some true
theorem t20 (H : H20 D σ F) (x_1 : (Int × (List (Int × Int)))) (x_2 : (Int × (List (Int × Int)))) (s : Nat → V) (hs : Facts [(0, (.agg [(ji x_1.1), (Enc.enc (x_1.2 : List (Int × Int)))])), (1, (.agg [(ji x_2.1), (Enc.enc (x_2.2 : List (Int × Int)))]))] s) (h : w_eqGraph F x_1 x_2 = some r) : Run D σ (R20 r) (.run A20 []) s := by
  unfold w_eqGraph at h
  obtain ⟨h0, h1⟩ := hs
  refine .seq (run_reg ?_)
  refine e_clr ?_
  refine ez [(0, _), (1, _), (2, _), (3, _)] ⟨(keep_clear (pk := [2, 3]) h0 rfl (map_agg (maps_cons mi (maps_cons me maps_nil)))), (keep_clear (pk := [2, 3]) h1 rfl (map_agg (maps_cons mi (maps_cons me maps_nil)))), (gone_clear (pk := [2, 3]) (t := 2) rfl), (gone_clear (pk := [2, 3]) (t := 3) rfl)⟩ ?_
  rintro s ⟨h0, h1, h2, h3⟩
  refine g_box (.agg [(ji x_1.1), (Enc.enc (x_1.2 : List (Int × Int)))]) (rd_of h0 rfl) h2 rfl ?_
  refine g_box (.agg [(ji x_2.1), (Enc.enc (x_2.2 : List (Int × Int)))]) (rd_of h1 rfl) h3 rfl ?_
  refine g0 (jb false) fun h4 => ?_
  refine gq (.nsq (.seq (.seq (rg (g1 2 (.ref (.bx 2) 0 [0] (ji x_1.1)) (rfl : (_ : V) = (.ref (.bx 2) 0 [] (.agg [(ji x_1.1), (Enc.enc (x_1.2 : List (Int × Int)))]))) fun h5 => ?_)))))
  refine g1 5 (ji x_1.1) h5 fun h6 => ?_
  refine g1 3 (.ref (.bx 3) 0 [0] (ji x_2.1)) (rfl : (_ : V) = (.ref (.bx 3) 0 [] (.agg [(ji x_2.1), (Enc.enc (x_2.2 : List (Int × Int)))]))) fun h7 => ?_
  refine g1 7 (ji x_2.1) h7 fun h8 => ?_
  refine g2 6 8 (jb (x_1.1 != x_2.1)) h6 h8 fun h9 => ?_
  refine gq (.nsq (run_cond (t := (x_1.1 != x_2.1)) h9 h (fun h => ?_) (fun h => ?_)))
  · refine .seq (rg (g0 (jb false) fun h4 => ?_))
    refine gq (.nsq (.ret ?_))
    have hr := Option.some.inj h
    subst hr
    exact rrA (res_tmp h4) rfl
  refine .skip (.nsq (.seq (.seq (rg (g1 2 (.ref (.bx 2) 0 [1] (Enc.enc (x_1.2 : List (Int × Int)))) (rfl : (_ : V) = (.ref (.bx 2) 0 [] (.agg [(ji x_1.1), (Enc.enc (x_1.2 : List (Int × Int)))]))) fun h10 => ?_)))))
  refine g1 10 (Enc.enc (x_1.2 : List (Int × Int))) h10 fun h11 => ?_
  refine g1 3 (.ref (.bx 3) 0 [1] (Enc.enc (x_2.2 : List (Int × Int)))) (rfl : (_ : V) = (.ref (.bx 3) 0 [] (.agg [(ji x_2.1), (Enc.enc (x_2.2 : List (Int × Int)))]))) fun h12 => ?_
  refine g1 12 (Enc.enc (x_2.2 : List (Int × Int))) h12 fun h13 => ?_
  obtain ⟨r_3, E_r_3, h⟩ := bind_some h
  refine g_call (m := 0) (al := false) (r := (Enc.enc (r_3 : Bool))) [Enc.enc (x_1.2 : (List (Int × Int))), Enc.enc (x_2.2 : (List (Int × Int)))] (ta_cons (v := (Enc.enc (x_1.2 : List (Int × Int)))) h11 rfl (Enc.erase_enc (x_1.2 : (List (Int × Int)))) (ta_cons (v := (Enc.enc (x_2.2 : List (Int × Int)))) h13 rfl (Enc.erase_enc (x_2.2 : (List (Int × Int)))) ta_nil)) (H.c68 _ _ _ E_r_3) H.g68 rfl rfl rfl rfl ?_
  refine g1 14 (jb (!r_3)) (rfl : (_ : V) = (jb r_3)) fun h15 => ?_
  refine gq (.nsq (run_cond (t := (!r_3)) h15 h (fun h => ?_) (fun h => ?_)))
  · refine .seq (rg (g0 (jb false) fun h4 => ?_))
    refine gq (.nsq (.ret ?_))
    have hr := Option.some.inj h
    subst hr
    exact rrA (res_tmp h4) rfl
  refine .skip (.nsq (.seq (rg (g0 (jb true) fun h4 => ?_))))
  refine gq (.nsq (.ret ?_))
  have hr := Option.some.inj h
  subst hr
  exact rrA (res_tmp h4) rfl
end
def e20 (F : Nat) : Ent := ent 20 (fun (x : ((Int × (List (Int × Int))) × (Int × (List (Int × Int))) × Unit)) => w_eqGraph F x.1 x.2.1) (fun (r : Bool) => (Enc.enc (r : Bool))) 0 false []
theorem p20 {F : Nat} {x0 : (Int × (List (Int × Int)))} {x1 : (Int × (List (Int × Int)))} {r : Bool} (h : w_eqGraph F x0 x1 = some r) : (e20 F).den [Enc.enc x0, Enc.enc x1] = some (Enc.enc (r : Bool)) := ent_put (x0, x1, ()) h
theorem o20 {D : Den} {σ : Sig} {F : Nat} (hF : Fits2 Try.prog D σ) (H : H20 D σ F) : (e20 F).Ok Try.prog := by
  refine ok_of (f := 20) (show unk 20 = 20 from rfl) (fun args r h => ?_) ⟨Try.f20, Try.func20, rfl, rfl⟩
  obtain ⟨⟨x0, x1, _⟩, y, rfl, hy, rfl⟩ := da_open h
  exact contract_run hF (by kernel_rfl) Try.func20 rfl c20 (show 2 ≤ Try.f20.ntmps by decide) (t20 H x0 x1 _ ⟨rfl, rfl⟩ hy)
/- loop.example/g01109/laws.toIntA2S -/
def A62o_2 : AC := (.cond (.t 11) .skip (.exit 0))
def A62o_4 : AC := (.reg [] [(jm 12 4), ((jv 13 (.bin .add (.t 12) (jn 1)))), (jm 4 13)] [])
def A62o_3 : AC := (.seq (.block 1 (.reg [] [(jm 14 3), (jm 15 4), (jm 16 0), (jm 17 4), ((jv 18 (.idx (.t 16) (.t 17) 2))), ((jv 19 (.load (.ag [.s, .s]) (.t 18)))), (.mk (some 20) none false (.call (.k (.fn 123 [] [])) [(.t 19)])), ((jv 21 (.idx (.t 14) (.t 15) 2))), (.mk none none false (.store (.ag [.s, .s]) (.t 21) (.t 20)))] [])) A62o_4)
def A62o_1 : AC := (.seq (.seq (.reg [] [(jm 8 4), (jm 9 0), ((jv 10 (.len (.t 9)))), ((jv 11 (.bin .lss (.t 8) (.t 10))))] []) A62o_2) A62o_3)
def A62o_5 : AC := (.seq (.reg [] [(jm 22 3), (jm 2 22)] [.home 3 2]) .ret)
def A62o_8 : AC := (.block 0 (.loop A62o_1))
def A62o_7 : AC := (.seq (.seq (.reg [] [((jv 4 (.mov (jn 0))))] []) A62o_8) A62o_5)
def A62o_6 : AC := (.seq (.reg [.clr [7]] [(jm 5 0), ((jv 6 (.len (.t 5)))), (.mk (some 7) none false (.mk (.t 6) (.agg [(.int .i64 (.ofNat 0)), (.int .i64 (.ofNat 0))]) (.agg [(.int .i64 (.ofNat 0)), (.int .i64 (.ofNat 0))]))), (jm 3 7)] [.home 7 3]) A62o_7)
def A62o : AC := (.seq (.reg [] [((jv 2 (.mov (.k (.sl .nl (.ag [.s, .s]) 0 [])))))] []) A62o_6)
def an62o : List An := [{ id := 1, pre := [.clr [7]], ep := [.home 7 3], lin := [], sp := [] }, { id := 6, pre := [], ep := [.home 3 2], lin := [], sp := [] }]
theorem c62o : cC Try.prog Try.f62.ntmps an62o (Try.f62.body.getD .skip) = some A62o := by kernel_rfl
structure H62o (D : Den) (σ : Sig) (F : Nat) : Prop where
  c123 : ∀ (x0 : (Int × Int)) r, w_toIntA2 F x0 = some r → D 123 [Enc.enc x0] = some (Enc.enc (r : (Int × Int)))
  g123 : σ 123 = some (0, false)
abbrev R62o (r : (NL (Int × Int))) : (Nat → V) → Prop := RR Try.prog [.tmp 2] 1 false (encO .sh (r : NL (Int × Int)))
section
variable {D : Den} {σ : Sig} {F : Nat} {r : (NL (Int × Int))}
def w_toIntA2S_o_l1 (F : Nat) (x_1 : (List (Int × Int)))  : Nat → (List (Int × Int)) → Int → Option (NL (Int × Int))
  | 0, _, _ => none
  | k + 1, x_6, x_7 =>
    bif decide (x_7 < (x_1.length : Int)) then
      (idx x_1 x_7).bind fun e_11 =>
      (w_toIntA2 F e_11).bind fun r_12 =>
      (idx x_6 x_7).bind fun e_13 =>
      (w_toIntA2S_o_l1 F x_1 k) (x_6.set x_7.toNat r_12) (w64 (x_7 + 1))
    else
      some (.of x_6)
theorem t_f62o_l1 (H : H62o D σ F) (x_1 : (List (Int × Int)))  : ∀ (k : Nat) (x_6 : (List (Int × Int))) (x_7 : Int) (s : Nat → V), Facts [(0, (Enc.enc (x_1 : List (Int × Int)))), (2, (.sl .nl (Enc.shp (Int × Int)) 0 [])), (3, (encO (.at 3 []) (.of (x_6 : List (Int × Int))))), (4, (ji x_7))] s → w_toIntA2S_o_l1 F x_1 k x_6 x_7 = some r → Run D σ (R62o r) (.run A62o_1 [.lp A62o_1, .bk 0, .sq A62o_5]) s := by
  intro k
  induction k with
  | zero => intro x_6 x_7 s _ h; exact nomatch (h : (none : Option _) = some r)
  | succ k ih =>
    intro x_6 x_7 s hs h
    rw [w_toIntA2S_o_l1] at h
    obtain ⟨h0, h2, h3, h4⟩ := hs
    refine .seq (.seq (rg (gm h4 fun h8 => gm h0 fun h9 => gv (ji (x_1.length : Int)) (ev_len (xs := x_1) h9) fun h10 => ?_)))
    refine g2 8 10 (jb (decide (x_7 < (x_1.length : Int)))) h8 h10 fun h11 => ?_
    refine gq (.nsq (run_cond (t := decide (x_7 < (x_1.length : Int))) h11 h (fun h => ?_) (fun h => ?_)))
    · refine .skip (.nsq (.seq (.block (rg (gm h3 fun h14 => gm h4 fun h15 => gm h0 fun h16 => gm h4 fun h17 => ?_)))))
      obtain ⟨e_11, E_e_11, h⟩ := bind_some h
      refine gv (.ref .sh 0 [] (.agg [(ji e_11.1), (ji e_11.2)])) (ev_idx (t := .sh) (lo := 0) (xs := x_1) h16 h17 E_e_11 rfl rfl) fun h18 => ?_
      refine g1 18 (.agg [(ji e_11.1), (ji e_11.2)]) h18 fun h19 => ?_
      obtain ⟨r_12, E_r_12, h⟩ := bind_some h
      refine g_call (m := 0) (al := false) (r := (Enc.enc (r_12 : (Int × Int)))) [Enc.enc (e_11 : (Int × Int))] (ta_cons (v := (.agg [(ji e_11.1), (ji e_11.2)])) h19 rfl (Enc.erase_enc (e_11 : (Int × Int))) ta_nil) (H.c123 _ _ E_r_12) H.g123 rfl rfl rfl rfl ?_
      obtain ⟨e_13, E_e_13, h⟩ := bind_some h
      refine gv (.ref (.at 3 []) x_7.toNat [] (.agg [(ji e_13.1), (ji e_13.2)])) (ev_idxO (o := (.of x_6)) h14 h15 E_e_13 rfl) fun h21 => ?_
      refine g_store (.agg [(ji r_12.1), (ji r_12.2)]) (rd_of h21 rfl) (rd_of rfl rfl) (by refine ⟨by decide, by decide, rfl, rfl, rfl, ?_⟩; first | rfl | simp [V.toks, V.tokss, Enc.toks_enc]) ?_
      refine gz [(0, (Enc.enc (x_1 : List (Int × Int)))), (2, (.sl .nl (Enc.shp (Int × Int)) 0 [])), (3, _), (4, (ji x_7))] ⟨(keep_mut h0 (Enc.mut_enc _ _ _ _ (x_1 : List (Int × Int)))), (keep_mut h2 rfl), (keep_mut h3 mut_own), (keep_mut h4 rfl)⟩ ?_
      rintro s ⟨h0, h2, h3, h4⟩
      refine .nbk (.nsq (rg (gm h4 fun h12 => g1 12 (ji (w64 (x_7 + 1))) h12 fun h13 => ?_)))
      refine gm h13 fun h4 => gq (.nlp ?_)
      exact ih (x_6.set x_7.toNat r_12) (w64 (x_7 + 1)) _ ⟨h0, h2, h3, h4⟩ h
    refine .exit (.esq (.elp (.ebk (.nsq (.seq (rg (gm h3 fun h22 => gm h22 fun h2 => g_end ?_)))))))
    refine e_home (r := 3) (x := 2) (v := _) h2 rfl (fun s_3 hg_3 => ?_)
    refine ez [(2, (encO (.at 2 []) (.of (x_6 : List (Int × Int)))))] (hg_3 2 _ _ h2 (map_encO (r := 3) (p := []) rfl rfl)) ?_
    rintro s h2
    refine .nsq (.ret ?_)
    have hr := Option.some.inj h
    subst hr
    exact rrA (res_tmp h2) (fin_retO (finO_own (o := ((.of x_6) : NL (Int × Int)))) rfl (mine_own rfl))
def w_toIntA2S_o (F : Nat) (x_1 : (List (Int × Int))) : Option (NL (Int × Int)) :=
  (mkN (x_1.length : Int) (0, 0)).bind fun mk_2 =>
  w_toIntA2S_o_l1 F x_1 F mk_2 0
theorem t62o (H : H62o D σ F) (x_1 : (List (Int × Int))) (s : Nat → V) (hs : Facts [(0, (Enc.enc (x_1 : List (Int × Int))))] s) (h : w_toIntA2S_o F x_1 = some r) : Run D σ (R62o r) (.run A62o []) s := by
  unfold w_toIntA2S_o at h
  have h0 := hs
  refine .seq (rg (g0 (.sl .nl (Enc.shp (Int × Int)) 0 []) fun h2 => ?_))
  refine gq (.nsq (.seq (run_reg ?_)))
  refine e_clr ?_
  refine ez [(0, _), (2, _), (7, _)] ⟨(keep_clear (pk := [7]) h0 rfl me), (keep_clear (pk := [7]) h2 rfl rfl), (gone_clear (pk := [7]) (t := 7) rfl)⟩ ?_
  rintro s ⟨h0, h2, h7⟩
  refine gm h0 fun h5 => gv (ji (x_1.length : Int)) (ev_len (xs := x_1) h5) fun h6 => ?_
  obtain ⟨mk_2, E_mk_2, h⟩ := bind_some h
  refine g_mk ((0, 0) : (Int × Int)) h6 rfl h7 E_mk_2 ?_
  refine gm (rfl : (_ : V) = (encO (.at 7 []) (.of (mk_2 : List (Int × Int))))) fun h3 => ?_
  refine g_end ?_
  refine e_home (r := 7) (x := 3) (v := _) h3 rfl (fun s_2 hg_2 => ?_)
  refine ez [(0, (Enc.enc (x_1 : List (Int × Int)))), (2, (.sl .nl (Enc.shp (Int × Int)) 0 [])), (3, (encO (.at 3 []) (.of (mk_2 : List (Int × Int)))))] ⟨(hg_2 0 _ _ h0 me), (hg_2 2 _ (.sl .nl (Enc.shp (Int × Int)) 0 []) h2 rfl), (hg_2 3 _ _ h3 (map_encO (r := 7) (p := []) rfl rfl))⟩ ?_
  rintro s ⟨h0, h2, h3⟩
  refine .nsq (.seq (.seq (rg (g0 (ji 0) fun h4 => gq (.nsq (.block (.loop ?_)))))))
  exact t_f62o_l1 H x_1 F mk_2 0 _ ⟨h0, h2, h3, h4⟩ h
end
def e62o (F : Nat) : Ent := ent 1000000062 (fun (x : ((List (Int × Int)) × Unit)) => w_toIntA2S_o F x.1) (fun (r : (NL (Int × Int))) => (encO .sh (r : NL (Int × Int)))) 1 false []
theorem p62o {F : Nat} {x0 : (List (Int × Int))} {r : (NL (Int × Int))} (h : w_toIntA2S_o F x0 = some r) : (e62o F).den [Enc.enc x0] = some (encO .sh (r : NL (Int × Int))) := ent_put (x0, ()) h
theorem o62o {D : Den} {σ : Sig} {F : Nat} (hF : Fits2 Try.prog D σ) (H : H62o D σ F) : (e62o F).Ok Try.prog := by
  refine ok_of (f := 62) (show unk 1000000062 = 62 from rfl) (fun args r h => ?_) ⟨Try.f62, Try.func62, rfl, rfl⟩
  obtain ⟨⟨x0, _⟩, y, rfl, hy, rfl⟩ := da_open h
  exact contract_run hF (by kernel_rfl) Try.func62 rfl c62o (show 1 ≤ Try.f62.ntmps by decide) (t62o H x0 _ rfl hy)
/- loop.example/g01109/laws.toGraph -/
def A17o_4 : AC := (.seq (.reg [] [((jv 11 (.load (.ag [.s, .p]) (.t 3)))), (.mk none none false (.store (.ag [.s, .p]) (.t 2) (.t 11)))] []) .ret)
def A17o_3 : AC := (.seq (.reg [.clr [9]] [((jv 7 (.fld (.t 1) 1 1))), ((jv 8 (.load .p (.t 7)))), (.mk (some 9) none false (.callO (.k (.fn 62 [] [])) [(.t 8)])), ((jv 10 (.fld (.t 3) 1 1))), (.mk none none false (.store .p (.t 10) (.t 9)))] []) A17o_4)
def A17o_2 : AC := (.seq (.reg [] [((jv 4 (.fld (.t 1) 0 0))), ((jv 5 (.load .s (.t 4)))), ((jv 6 (.fld (.t 3) 0 0))), (.mk none none false (.store .s (.t 6) (.t 5)))] []) A17o_3)
def A17o_1 : AC := (.seq (.reg [.clr [3]] [(.mk (some 3) none false (.alloc (.agg [(.int .i64 (.ofNat 0)), (.sl .nl (.ag [.s, .s]) 0 [])])))] []) A17o_2)
def A17o : AC := (.seq (.reg [.clr [1, 2]] [(.mk (some 1) none false (.box (.t 0))), (.mk (some 2) none false (.alloc (.agg [(.int .i64 (.ofNat 0)), (.sl .nl (.ag [.s, .s]) 0 [])])))] []) A17o_1)
def an17o : List An := [{ id := 0, pre := [.clr [1, 2]], ep := [], lin := [], sp := [] }, { id := 1, pre := [.clr [3]], ep := [], lin := [], sp := [] }, { id := 3, pre := [.clr [9]], ep := [], lin := [], sp := [1002] }]
theorem c17o : cC Try.prog Try.f17.ntmps an17o (Try.f17.body.getD .skip) = some A17o := by kernel_rfl
structure H17o (D : Den) (σ : Sig) (F : Nat) : Prop where
  c62o : ∀ (x0 : (List (Int × Int))) r, w_toIntA2S_o F x0 = some r → D 1000000062 [Enc.enc x0] = some (encO .sh (r : NL (Int × Int)))
  g62o : σ 1000000062 = some (1, false)
abbrev R17o (r : (Int × (NL (Int × Int)))) : (Nat → V) → Prop := RR Try.prog [.cell 2 27] 1 false (.agg [(Enc.enc (r.1 : Int)), (encO .sh (r.2 : NL (Int × Int)))])
section
variable {D : Den} {σ : Sig} {F : Nat} {r : (Int × (NL (Int × Int)))}
def w_toGraph_o (F : Nat) (x_1 : (Int × (List (Int × Int)))) : Option (Int × (NL (Int × Int))) :=
  (w_toIntA2S_o F x_1.2).bind fun r_2 =>
  some (x_1.1, r_2)
theorem t17o (H : H17o D σ F) (x_1 : (Int × (List (Int × Int)))) (s : Nat → V) (hs : Facts [(0, (.agg [(ji x_1.1), (Enc.enc (x_1.2 : List (Int × Int)))]))] s) (h : w_toGraph_o F x_1 = some r) : Run D σ (R17o r) (.run A17o []) s := by
  unfold w_toGraph_o at h
  have h0 := hs
  refine .seq (run_reg ?_)
  refine e_clr ?_
  refine ez [(0, _), (1, _), (2, _)] ⟨(keep_clear (pk := [1, 2]) h0 rfl (map_agg (maps_cons mi (maps_cons me maps_nil)))), (gone_clear (pk := [1, 2]) (t := 1) rfl), (gone_clear (pk := [1, 2]) (t := 2) rfl)⟩ ?_
  rintro s ⟨h0, h1, h2⟩
  refine g_box (.agg [(ji x_1.1), (Enc.enc (x_1.2 : List (Int × Int)))]) (rd_of h0 rfl) h1 rfl ?_
  refine g_alloc h2 ?_
  refine gq (.nsq (.seq (run_reg ?_)))
  refine e_clr ?_
  refine ez [(1, _), (2, _), (3, _)] ⟨(keep_clear (pk := [3]) rfl rfl (map_bx rfl (map_agg (maps_cons mi (maps_cons me maps_nil))))), (keep_clear (pk := [3]) rfl rfl (map_bx rfl (map_agg (maps_cons mi (maps_cons rfl maps_nil))))), (gone_clear (pk := [3]) (t := 3) rfl)⟩ ?_
  rintro s ⟨h1, h2, h3⟩
  refine g_alloc h3 ?_
  refine gq (.nsq (.seq (rg (g1 1 (.ref (.bx 1) 0 [0] (ji x_1.1)) h1 fun h4 => ?_))))
  refine g1 4 (ji x_1.1) h4 fun h5 => ?_
  refine g1 3 (.ref (.bx 3) 0 [0] (ji 0)) (rfl : (_ : V) = (.ref (.bx 3) 0 [] (.agg [(ji 0), (.sl .nl (Enc.shp (Int × Int)) 0 [])]))) fun h6 => ?_
  refine g_store (ji x_1.1) (rd_of h6 rfl) (rd_of h5 rfl) (by refine ⟨by decide, by decide, rfl, rfl, rfl, ?_⟩; first | rfl | simp [V.toks, V.tokss, Enc.toks_enc]) ?_
  refine gz [(1, (.ref (.bx 1) 0 [] (.agg [(ji x_1.1), (Enc.enc (x_1.2 : List (Int × Int)))]))), (2, (.ref (.bx 2) 0 [] (.agg [(ji 0), (.sl .nl (Enc.shp (Int × Int)) 0 [])]))), (3, (.ref (.bx 3) 0 [] (.agg [(ji x_1.1), (.sl .nl (Enc.shp (Int × Int)) 0 [])])))] ⟨(keep_mut h1 (mut_ref_ne rfl rfl (mut_agg (muts_cons rfl (muts_cons (Enc.mut_enc _ _ _ _ (x_1.2 : List (Int × Int))) rfl))))), (keep_mut h2 (mut_ref_ne rfl rfl (mut_agg (muts_cons rfl (muts_cons rfl rfl))))), (keep_mut rfl rfl)⟩ ?_
  rintro s ⟨h1, h2, h3⟩
  refine .nsq (.seq (run_reg ?_))
  refine e_clr ?_
  refine ez [(1, _), (2, _), (3, _), (9, _)] ⟨(keep_clear (pk := [9]) h1 rfl (map_bx rfl (map_agg (maps_cons mi (maps_cons me maps_nil))))), (keep_clear (pk := [9]) h2 rfl (map_bx rfl (map_agg (maps_cons mi (maps_cons rfl maps_nil))))), (keep_clear (pk := [9]) h3 rfl (map_bx rfl (map_agg (maps_cons mi (maps_cons rfl maps_nil))))), (gone_clear (pk := [9]) (t := 9) rfl)⟩ ?_
  rintro s ⟨h1, h2, h3, h9⟩
  refine g1 1 (.ref (.bx 1) 0 [1] (Enc.enc (x_1.2 : List (Int × Int)))) h1 fun h7 => ?_
  refine g1 7 (Enc.enc (x_1.2 : List (Int × Int))) h7 fun h8 => ?_
  obtain ⟨r_2, E_r_2, h⟩ := bind_some h
  refine g_callO (m := 1) (al := false) (r := (encO .sh (r_2 : NL (Int × Int)))) (v := (encO (.at 9 []) (r_2 : NL (Int × Int)))) (kk := 1000000062) [Enc.enc (x_1.2 : (List (Int × Int)))] (ta_cons (v := (Enc.enc (x_1.2 : List (Int × Int)))) h8 rfl (Enc.erase_enc (x_1.2 : (List (Int × Int)))) ta_nil) (H.c62o _ _ E_r_2) H.g62o rfl toks_encS tag_encO ok_encP h9 ?_
  refine g1 3 (.ref (.bx 3) 0 [1] (.sl .nl (Enc.shp (Int × Int)) 0 [])) h3 fun h10 => ?_
  refine g_store (encO (.at 9 []) (r_2 : NL (Int × Int))) (rd_of h10 rfl) (rd_of rfl ok_encP) ⟨by decide, by decide, mem_encP, shp_encP, rfl, tok_encP rfl rfl⟩ ?_
  refine gz [(2, (.ref (.bx 2) 0 [] (.agg [(ji 0), (.sl .nl (Enc.shp (Int × Int)) 0 [])]))), (3, (.ref (.bx 3) 0 [] (.agg [(ji x_1.1), (encO (.at 9 []) (r_2 : NL (Int × Int)))])))] ⟨(keep_mut h2 (mut_ref_ne rfl rfl (mut_agg (muts_cons rfl (muts_cons rfl rfl))))), (keep_mut h3 rfl)⟩ ?_
  rintro s ⟨h2, h3⟩
  refine .nsq (.seq (rg (gv (.agg [(ji x_1.1), (encO (.at 9 []) (r_2 : NL (Int × Int)))]) (ev_loadN (c := (.agg [(ji x_1.1), (encO (.at 9 []) (r_2 : NL (Int × Int)))])) h3 (by simp [V.shape, V.shapes, shape_encP, Sh.beq, Sh.beqs])) fun h11 => ?_)))
  refine g_store (.agg [(ji x_1.1), (encO (.at 9 []) (r_2 : NL (Int × Int)))]) (rd_of h2 rfl) (rd_of h11 rfl) ⟨by decide, by decide, rfl, (by simp [V.shape, V.shapes, shape_encP, Sh.beq, Sh.beqs]), (by simp [V.shape, V.shapes, shape_encP, Sh.beq, Sh.beqs]), (by simp [V.toks, V.tokss, tok_memP])⟩ ?_
  refine gz [(2, (.ref (.bx 2) 0 [] (.agg [(ji x_1.1), (encO (.at 9 []) (r_2 : NL (Int × Int)))])))] (keep_mut h2 rfl) ?_
  rintro s h2
  refine .nsq (.ret ?_)
  have hr := Option.some.inj h
  subst hr
  exact rrA (res_cell h2 (by simp only [V.shape, V.shapes, shape_encP]; kernel_rfl)) (fin_retO (finO_agg (finOs_cons finO_int (finOs_cons (finO_own (o := (r_2 : NL (Int × Int)))) finOs_nil))) rfl (mine_agg (mines_cons rfl (mines_cons (mine_own rfl) mines_nil))))
end
def e17o (F : Nat) : Ent := ent 1000000017 (fun (x : ((Int × (List (Int × Int))) × Unit)) => w_toGraph_o F x.1) (fun (r : (Int × (NL (Int × Int)))) => (.agg [(Enc.enc (r.1 : Int)), (encO .sh (r.2 : NL (Int × Int)))])) 1 false []
theorem p17o {F : Nat} {x0 : (Int × (List (Int × Int)))} {r : (Int × (NL (Int × Int)))} (h : w_toGraph_o F x0 = some r) : (e17o F).den [Enc.enc x0] = some (.agg [(Enc.enc (r.1 : Int)), (encO .sh (r.2 : NL (Int × Int)))]) := ent_put (x0, ()) h
theorem o17o {D : Den} {σ : Sig} {F : Nat} (hF : Fits2 Try.prog D σ) (H : H17o D σ F) : (e17o F).Ok Try.prog := by
  refine ok_of (f := 17) (show unk 1000000017 = 17 from rfl) (fun args r h => ?_) ⟨Try.f17, Try.func17, rfl, rfl⟩
  obtain ⟨⟨x0, _⟩, y, rfl, hy, rfl⟩ := da_open h
  exact contract_run hF (by kernel_rfl) Try.func17 rfl c17o (show 1 ≤ Try.f17.ntmps by decide) (t17o H x0 _ rfl hy)
/- loop.example/g01109/laws.markIntA2S -/
def A69_2 : AC := (.cond (.t 10) .skip (.exit 0))
def A69_6 : AC := (.cond (.t 14) .skip (.exit 2))
def A69_8 : AC := (.reg [] [(jm 23 1), ((jv 24 (.bin .add (.t 23) (jn 1)))), (jm 1 24)] [])
def A69_9 : AC := (.reg [] [(jm 15 6), ((jv 16 (.bin .add (.t 15) (jn 1)))), (jm 6 16)] [])
def A69_7 : AC := (.seq (.block 3 (.seq (.reg [] [(jm 17 0), (jm 18 5), (jm 19 6), (jm 20 1), ((jv 21 (.idx (.t 17) (.t 18) 2))), ((jv 22 (.idxA (.t 21) (.t 19) 2 1))), (.mk none none false (.store .s (.t 22) (.t 20)))] []) A69_8)) A69_9)
def A69_5 : AC := (.seq (.seq (.reg [] [(jm 13 6), ((jv 14 (.bin .lss (.t 13) (jn 2))))] []) A69_6) A69_7)
def A69_4 : AC := (.block 2 (.loop A69_5))
def A69_10 : AC := (.reg [] [(jm 11 5), ((jv 12 (.bin .add (.t 11) (jn 1)))), (jm 5 12)] [])
def A69_3 : AC := (.seq (.block 1 (.seq (.reg [] [((jv 6 (.mov (jn 0))))] []) A69_4)) A69_10)
def A69_1 : AC := (.seq (.seq (.reg [] [(jm 7 5), (jm 8 0), ((jv 9 (.len (.t 8)))), ((jv 10 (.bin .lss (.t 7) (.t 9))))] []) A69_2) A69_3)
def A69_11 : AC := (.seq (.reg [] [(jm 25 1), (jm 4 25)] []) .ret)
def A69_13 : AC := (.block 0 (.loop A69_1))
def A69_12 : AC := (.seq (.seq (.reg [] [((jv 5 (.mov (jn 0))))] []) A69_13) A69_11)
def A69 : AC := (.seq (.reg [] [((jv 4 (.mov (jn 0))))] []) A69_12)
def an69 : List An := []
theorem c69 : cC Try.prog Try.f69.ntmps an69 (Try.f69.body.getD .skip) = some A69 := by kernel_rfl
structure H69 (D : Den) (σ : Sig) (F : Nat) : Prop where
  mk ::
abbrev R69 (r : (Int × NL (Int × Int))) : (Nat → V) → Prop := RM Try.prog [.tmp 4] (Enc.enc (r.1 : Int)) (encO (.at pinR []) (r.2 : NL (Int × Int)))
section
variable {D : Den} {σ : Sig} {F : Nat} {r : (Int × NL (Int × Int))}
def w_markIntA2S_l1 (F : Nat) (x_13 : Int) (c1 : (NL (Int × Int)) → Int → Int → Option (Int × NL (Int × Int))) : Nat → (NL (Int × Int)) → Int → Int → Option (Int × NL (Int × Int))
  | 0, _, _, _ => none
  | k + 1, x_23, x_24, x_25 =>
    bif decide (x_25 < 2) then
      (idx x_23.list x_13).bind fun e_28 =>
      (idx [e_28.1, e_28.2] x_25).bind fun e_29 =>
      (w_markIntA2S_l1 F x_13 c1 k) (NL.set2 x_23 x_13.toNat x_25 x_24) (w64 (x_24 + 1)) (w64 (x_25 + 1))
    else
      c1 x_23 x_24 (w64 (x_13 + 1))
theorem t_f69_l1 (H : H69 D σ F) (x_13 : Int) (c1 : (NL (Int × Int)) → Int → Int → Option (Int × NL (Int × Int))) (Hc1 : ∀ (x_11 : (NL (Int × Int))) (x_12 : Int) (x_13 : Int) (s : Nat → V), Facts [(0, (encO (.at pinR []) (x_11 : NL (Int × Int)))), (1, (ji x_12)), (4, (ji 0)), (5, (ji x_13))] s → c1 x_11 x_12 x_13 = some r → Run D σ (R69 r) (.run A69_1 [.lp A69_1, .bk 0, .sq A69_11]) s) : ∀ (k : Nat) (x_23 : (NL (Int × Int))) (x_24 : Int) (x_25 : Int) (s : Nat → V), Facts [(0, (encO (.at pinR []) (x_23 : NL (Int × Int)))), (1, (ji x_24)), (4, (ji 0)), (5, (ji x_13)), (6, (ji x_25))] s → w_markIntA2S_l1 F x_13 c1 k x_23 x_24 x_25 = some r → Run D σ (R69 r) (.run A69_5 [.lp A69_5, .bk 2, .bk 1, .sq A69_10, .lp A69_1, .bk 0, .sq A69_11]) s := by
  intro k
  induction k with
  | zero => intro x_23 x_24 x_25 s _ h; exact nomatch (h : (none : Option _) = some r)
  | succ k ih =>
    intro x_23 x_24 x_25 s hs h
    rw [w_markIntA2S_l1] at h
    obtain ⟨h0, h1, h4, h5, h6⟩ := hs
    refine .seq (.seq (rg (gm h6 fun h13 => g1 13 (jb (decide (x_25 < 2))) h13 fun h14 => ?_)))
    refine gq (.nsq (run_cond (t := decide (x_25 < 2)) h14 h (fun h => ?_) (fun h => ?_)))
    · refine .skip (.nsq (.seq (.block (.seq (rg (gv (encO (.at pinR []) (x_23 : NL (Int × Int))) (ev_mov h0 ok_encO) fun h17 => ?_))))))
      refine gm h5 fun h18 => gm h6 fun h19 => gm h1 fun h20 => ?_
      obtain ⟨e_28, E_e_28, h⟩ := bind_some h
      refine gv (.ref (.at pinR []) x_13.toNat [] (.agg [(ji e_28.1), (ji e_28.2)])) (ev_idxO (o := x_23) h17 h18 E_e_28 rfl) fun h21 => ?_
      obtain ⟨e_29, E_e_29, h⟩ := bind_some h
      refine gv (.ref (.at pinR []) x_13.toNat [x_25.toNat] (ji e_29)) (ev_idxA (xs := [e_28.1, e_28.2]) (a := e_29) (n := x_25) (q := []) h21 h19 E_e_29 rfl rfl rfl) fun h22 => ?_
      refine g_store (ji x_24) (rd_of h22 rfl) (rd_of h20 rfl) (by refine ⟨by decide, by decide, rfl, rfl, rfl, ?_⟩; first | rfl | simp [V.toks, V.tokss, Enc.toks_enc]) ?_
      refine gz [(0, (encO (.at pinR []) ((NL.set2 x_23 x_13.toNat x_25 x_24) : NL (Int × Int)))), (1, (ji x_24)), (4, (ji 0)), (5, (ji x_13)), (6, (ji x_25))] ⟨(keep_mut h0 (mut_own2 (o := x_23) E_e_29 rfl)), (keep_mut h1 rfl), (keep_mut h4 rfl), (keep_mut h5 rfl), (keep_mut h6 rfl)⟩ ?_
      rintro s ⟨h0, h1, h4, h5, h6⟩
      refine .nsq (rg (gm h1 fun h23 => g1 23 (ji (w64 (x_24 + 1))) h23 fun h24 => ?_))
      refine gm h24 fun h1 => gq (.nbk (.nsq (rg (gm h6 fun h15 => g1 15 (ji (w64 (x_25 + 1))) h15 fun h16 => ?_))))
      refine gm h16 fun h6 => gq (.nlp ?_)
      exact ih (NL.set2 x_23 x_13.toNat x_25 x_24) (w64 (x_24 + 1)) (w64 (x_25 + 1)) _ ⟨h0, h1, h4, h5, h6⟩ h
    refine .exit (.esq (.elp (.ebk (.nbk (.nsq (rg (gm h5 fun h11 => g1 11 (ji (w64 (x_13 + 1))) h11 fun h12 => ?_)))))))
    refine gm h12 fun h5 => gq (.nlp ?_)
    exact Hc1 x_23 x_24 (w64 (x_13 + 1)) _ ⟨h0, h1, h4, h5⟩ h
def w_markIntA2S_l2 (F : Nat)   : Nat → (NL (Int × Int)) → Int → Int → Option (Int × NL (Int × Int))
  | 0, _, _, _ => none
  | k + 1, x_11, x_12, x_13 =>
    bif decide (x_13 < (x_11.list.length : Int)) then
      w_markIntA2S_l1 F x_13 (w_markIntA2S_l2 F k) F x_11 x_12 0
    else
      some (x_12, x_11)
theorem t_f69_l2 (H : H69 D σ F)   : ∀ (k : Nat) (x_11 : (NL (Int × Int))) (x_12 : Int) (x_13 : Int) (s : Nat → V), Facts [(0, (encO (.at pinR []) (x_11 : NL (Int × Int)))), (1, (ji x_12)), (4, (ji 0)), (5, (ji x_13))] s → w_markIntA2S_l2 F k x_11 x_12 x_13 = some r → Run D σ (R69 r) (.run A69_1 [.lp A69_1, .bk 0, .sq A69_11]) s := by
  intro k
  induction k with
  | zero => intro x_11 x_12 x_13 s _ h; exact nomatch (h : (none : Option _) = some r)
  | succ k ih =>
    intro x_11 x_12 x_13 s hs h
    rw [w_markIntA2S_l2] at h
    obtain ⟨h0, h1, h4, h5⟩ := hs
    refine .seq (.seq (rg (gm h5 fun h7 => gv (encO (.at pinR []) (x_11 : NL (Int × Int))) (ev_mov h0 ok_encO) fun h8 => ?_)))
    refine gv (ji (x_11.list.length : Int)) (ev_lenO (o := x_11) h8) fun h9 => ?_
    refine g2 7 9 (jb (decide (x_13 < (x_11.list.length : Int)))) h7 h9 fun h10 => ?_
    refine gq (.nsq (run_cond (t := decide (x_13 < (x_11.list.length : Int))) h10 h (fun h => ?_) (fun h => ?_)))
    · refine .skip (.nsq (.seq (.block (.seq (rg (g0 (ji 0) fun h6 => gq (.nsq (.block (.loop ?_)))))))))
      exact t_f69_l1 H x_13 (w_markIntA2S_l2 F k) ih F x_11 x_12 0 _ ⟨h0, h1, h4, h5, h6⟩ h
    refine .exit (.esq (.elp (.ebk (.nsq (.seq (rg (gm h1 fun h25 => gm h25 fun h4 => gq (.nsq (.ret ?_)))))))))
    have hr := Option.some.inj h
    subst hr
    exact rmA (res_tmp h4) h0
def w_markIntA2S (F : Nat) (x_1 : (On (Int × Int))) (x_2 : Int) : Option (Int × NL (Int × Int)) :=
  w_markIntA2S_l2 F F x_1.v x_2 0
theorem t69 (H : H69 D σ F) (x_1 : (On (Int × Int))) (x_2 : Int) (s : Nat → V) (hs : Facts [(0, (encO (.at pinR []) (x_1.v : NL (Int × Int)))), (1, (ji x_2))] s) (h : w_markIntA2S F x_1 x_2 = some r) : Run D σ (R69 r) (.run A69 []) s := by
  unfold w_markIntA2S at h
  obtain ⟨h0, h1⟩ := hs
  refine .seq (rg (g0 (ji 0) fun h4 => gq (.nsq (.seq (.seq (rg (g0 (ji 0) fun h5 => gq (.nsq (.block (.loop ?_))))))))))
  exact t_f69_l2 H F x_1.v x_2 0 _ ⟨h0, h1, h4, h5⟩ h
end
def e69 (F : Nat) : Ent := ent 69 (fun (x : ((On (Int × Int)) × Int × Unit)) => w_markIntA2S F x.1 x.2.1) (fun (r : (Int × NL (Int × Int))) => (.tup [Enc.enc (r.1 : Int), encO (.at pinR []) (r.2 : NL (Int × Int))])) pinR false []
theorem p69 {F : Nat} {x0 : (On (Int × Int))} {x1 : Int} {r : (Int × NL (Int × Int))} (h : w_markIntA2S F x0 x1 = some r) : (e69 F).den [Arg.arg x0, Enc.enc x1] = some (.tup [Enc.enc (r.1 : Int), encO (.at pinR []) (r.2 : NL (Int × Int))]) := ent_put (x0, x1, ()) h
theorem o69 {D : Den} {σ : Sig} {F : Nat} (hF : Fits2 Try.prog D σ) (H : H69 D σ F) : (e69 F).Ok Try.prog := by
  refine ok_of (f := 69) (show unk 69 = 69 from rfl) (fun args r h => ?_) ⟨Try.f69, Try.func69, rfl, rfl⟩
  obtain ⟨⟨x0, x1, _⟩, y, rfl, hy, rfl⟩ := da_open h
  exact contractM_run hF (by kernel_rfl) Try.func69 rfl c69 (all_ok2 ok_encP rfl) (show 2 ≤ Try.f69.ntmps by decide) (by decide) (t69 H x0 x1 _ ⟨rfl, rfl⟩ hy)
/- loop.example/g01109/laws.markGraph -/
def A22_2 : AC := (.seq (.reg [] [(jm 9 1), (jm 4 9)] []) .ret)
def A22_1 : AC := (.seq (.reg [] [((jv 5 (.fld (.t 2) 1 1))), ((jv 6 (.load .p (.t 5)))), (jm 7 1), (.mk (some 8) none false (.mark (.k (.fn 69 [] [])) [(.t 6), (.t 7)])), (jm 1 8)] []) A22_2)
def A22 : AC := (.seq (.reg [.clr [2]] [(.mk (some 2) none false (.box (.t 0))), ((jv 4 (.mov (jn 0))))] []) A22_1)
def an22 : List An := [{ id := 0, pre := [.clr [2]], ep := [], lin := [], sp := [] }, { id := 1, pre := [], ep := [], lin := [], sp := [3] }]
theorem c22 : cC Try.prog Try.f22.ntmps an22 (Try.f22.body.getD .skip) = some A22 := by kernel_rfl
structure H22 (D : Den) (σ : Sig) (F : Nat) : Prop where
  c69 : ∀ (x0 : (On (Int × Int))) (x1 : Int) r, w_markIntA2S F x0 x1 = some r → D 69 [Arg.arg x0, Enc.enc x1] = some (.tup [Enc.enc (r.1 : Int), encO (.at pinR []) (r.2 : NL (Int × Int))])
  g69 : σ 69 = some (pinR, false)
abbrev R22 (r : (Int × Og (Int × Int))) : (Nat → V) → Prop := RM Try.prog [.tmp 4] (Enc.enc (r.1 : Int)) (.agg [Enc.enc (r.2.a : Int), encO (.at pinR [1]) (r.2.v : NL (Int × Int))])
section
variable {D : Den} {σ : Sig} {F : Nat} {r : (Int × Og (Int × Int))}
def w_markGraph (F : Nat) (x_1 : (Og (Int × Int))) (x_2 : Int) : Option (Int × Og (Int × Int)) :=
  (w_markIntA2S F (On.mk x_1.v : (On (Int × Int))) x_2).bind fun r_3 =>
  (remark x_1.v r_3.2).bind fun m_4 =>
  some (r_3.1, Og.mk x_1.a m_4)
theorem t22 (H : H22 D σ F) (x_1 : (Og (Int × Int))) (x_2 : Int) (s : Nat → V) (hs : Facts [(0, (.agg [(ji x_1.a), (encO (.at pinR [1]) (x_1.v : NL (Int × Int)))])), (1, (ji x_2))] s) (h : w_markGraph F x_1 x_2 = some r) : Run D σ (R22 r) (.run A22 []) s := by
  unfold w_markGraph at h
  obtain ⟨h0, h1⟩ := hs
  refine .seq (run_reg ?_)
  refine e_clr ?_
  refine ez [(0, _), (1, _), (2, _)] ⟨(keep_clear (pk := [2]) h0 rfl (map_agg (maps_cons mi (maps_cons (map_encO (r := pinR) (p := [1]) rfl rfl) maps_nil)))), (keep_clear (pk := [2]) h1 rfl mi), (gone_clear (pk := [2]) (t := 2) rfl)⟩ ?_
  rintro s ⟨h0, h1, h2⟩
  refine g_box (.agg [(ji x_1.a), (encO (.at pinR [1]) (x_1.v : NL (Int × Int)))]) (rd_of h0 rfl) h2 rfl ?_
  refine g0 (ji 0) fun h4 => gq (.nsq (.seq (rg (g1 2 (.ref (.bx 2) 0 [1] (encO (.at pinR [1]) (x_1.v : NL (Int × Int)))) (rfl : (_ : V) = (.ref (.bx 2) 0 [] (.agg [(ji x_1.a), (encO (.at pinR [1]) (x_1.v : NL (Int × Int)))]))) fun h5 => ?_))))
  refine gv (encO (.at pinR [1]) (x_1.v : NL (Int × Int))) (ev_loadN h5 beq_encO) fun h6 => ?_
  refine gm h1 fun h7 => ?_
  obtain ⟨r_3, E_r_3, h⟩ := bind_some h
  obtain ⟨m_4, E_m_4, h⟩ := bind_some h
  refine g_mark (v := (encO (.at pinR [1]) (x_1.v : NL (Int × Int)))) h6 (canon_own (o := (x_1.v : (NL (Int × Int)))) rfl) (rdAll_cons (v := (ji x_2)) h7 rfl rdAll_nil) (H.c69 _ _ _ E_r_3) H.g69 rfl rfl (fun s_2 hm_2 => ?_)
  refine gm (rfl : (_ : V) = (ji r_3.1)) fun h1 => ?_
  refine gz [(0, (.agg [(ji x_1.a), (encO (.at pinR [1]) (m_4 : NL (Int × Int)))])), (1, _), (4, (ji 0))] ⟨(show s_2 0 = (.agg [(ji x_1.a), (encO (.at pinR [1]) (m_4 : NL (Int × Int)))]) from hm_2 0 (.agg [(ji x_1.a), (encO (.at pinR [1]) (x_1.v : NL (Int × Int)))]) (.agg [(ji x_1.a), (encO (.at pinR [1]) (m_4 : NL (Int × Int)))]) h0 (rem_agg (rems_cons (rem_self _ rfl) (rems_cons (marked_own (o := (x_1.v : NL (Int × Int))) rfl E_m_4) rems_nil)))), h1, (show s_2 4 = (ji 0) from hm_2 4 (ji 0) (ji 0) h4 (rem_self _ rfl))⟩ ?_
  rintro s ⟨h0, h1, h4⟩
  refine .nsq (.seq (rg (gm h1 fun h9 => gm h9 fun h4 => gq (.nsq (.ret ?_)))))
  have hr := Option.some.inj h
  subst hr
  exact rmA (res_tmp h4) h0
end
def e22 (F : Nat) : Ent := ent 22 (fun (x : ((Og (Int × Int)) × Int × Unit)) => w_markGraph F x.1 x.2.1) (fun (r : (Int × Og (Int × Int))) => (.tup [Enc.enc (r.1 : Int), .agg [Enc.enc (r.2.a : Int), encO (.at pinR [1]) (r.2.v : NL (Int × Int))]])) pinR false []
theorem p22 {F : Nat} {x0 : (Og (Int × Int))} {x1 : Int} {r : (Int × Og (Int × Int))} (h : w_markGraph F x0 x1 = some r) : (e22 F).den [Arg.arg x0, Enc.enc x1] = some (.tup [Enc.enc (r.1 : Int), .agg [Enc.enc (r.2.a : Int), encO (.at pinR [1]) (r.2.v : NL (Int × Int))]]) := ent_put (x0, x1, ()) h
theorem o22 {D : Den} {σ : Sig} {F : Nat} (hF : Fits2 Try.prog D σ) (H : H22 D σ F) : (e22 F).Ok Try.prog := by
  refine ok_of (f := 22) (show unk 22 = 22 from rfl) (fun args r h => ?_) ⟨Try.f22, Try.func22, rfl, rfl⟩
  obtain ⟨⟨x0, x1, _⟩, y, rfl, hy, rfl⟩ := da_open h
  exact contractM_run hF (by kernel_rfl) Try.func22 rfl c22 (all_ok2 rfl rfl) (show 2 ≤ Try.f22.ntmps by decide) (by decide) (t22 H x0 x1 _ ⟨rfl, rfl⟩ hy)
/- loop.example/g01109/laws.toIntS -/
def A18o_2 : AC := (.cond (.t 11) .skip (.exit 0))
def A18o_4 : AC := (.reg [] [(jm 12 4), ((jv 13 (.bin .add (.t 12) (jn 1)))), (jm 4 13)] [])
def A18o_3 : AC := (.seq (.block 1 (.reg [] [(jm 14 3), (jm 15 4), (jm 16 0), (jm 17 4), ((jv 18 (.idx (.t 16) (.t 17) 1))), ((jv 19 (.load .s (.t 18)))), ((jv 20 (.idx (.t 14) (.t 15) 1))), (.mk none none false (.store .s (.t 20) (.t 19)))] [])) A18o_4)
def A18o_1 : AC := (.seq (.seq (.reg [] [(jm 8 4), (jm 9 0), ((jv 10 (.len (.t 9)))), ((jv 11 (.bin .lss (.t 8) (.t 10))))] []) A18o_2) A18o_3)
def A18o_5 : AC := (.seq (.reg [] [(jm 21 3), (jm 2 21)] [.home 3 2]) .ret)
def A18o_8 : AC := (.block 0 (.loop A18o_1))
def A18o_7 : AC := (.seq (.seq (.reg [] [((jv 4 (.mov (jn 0))))] []) A18o_8) A18o_5)
def A18o_6 : AC := (.seq (.reg [.clr [7]] [(jm 5 0), ((jv 6 (.len (.t 5)))), (.mk (some 7) none false (.mk (.t 6) (.int .i64 (.ofNat 0)) (.int .i64 (.ofNat 0)))), (jm 3 7)] [.home 7 3]) A18o_7)
def A18o : AC := (.seq (.reg [] [((jv 2 (.mov (.k (.sl .nl .s 0 [])))))] []) A18o_6)
def an18o : List An := [{ id := 1, pre := [.clr [7]], ep := [.home 7 3], lin := [], sp := [] }, { id := 6, pre := [], ep := [.home 3 2], lin := [], sp := [] }]
theorem c18o : cC Try.prog Try.f18.ntmps an18o (Try.f18.body.getD .skip) = some A18o := by kernel_rfl
structure H18o (D : Den) (σ : Sig) (F : Nat) : Prop where
  mk ::
abbrev R18o (r : (NL Int)) : (Nat → V) → Prop := RR Try.prog [.tmp 2] 1 false (encO .sh (r : NL Int))
section
variable {D : Den} {σ : Sig} {F : Nat} {r : (NL Int)}
def w_toIntS_o_l1 (F : Nat) (x_1 : (List Int))  : Nat → (List Int) → Int → Option (NL Int)
  | 0, _, _ => none
  | k + 1, x_5, x_6 =>
    bif decide (x_6 < (x_1.length : Int)) then
      (idx x_1 x_6).bind fun e_9 =>
      (idx x_5 x_6).bind fun e_10 =>
      (w_toIntS_o_l1 F x_1 k) (x_5.set x_6.toNat e_9) (w64 (x_6 + 1))
    else
      some (.of x_5)
theorem t_f18o_l1 (H : H18o D σ F) (x_1 : (List Int))  : ∀ (k : Nat) (x_5 : (List Int)) (x_6 : Int) (s : Nat → V), Facts [(0, (eL x_1)), (2, (.sl .nl (Enc.shp Int) 0 [])), (3, (oI 3 [] (.of x_5))), (4, (ji x_6))] s → w_toIntS_o_l1 F x_1 k x_5 x_6 = some r → Run D σ (R18o r) (.run A18o_1 [.lp A18o_1, .bk 0, .sq A18o_5]) s := by
  intro k
  induction k with
  | zero => intro x_5 x_6 s _ h; exact nomatch (h : (none : Option _) = some r)
  | succ k ih =>
    intro x_5 x_6 s hs h
    rw [w_toIntS_o_l1] at h
    obtain ⟨h0, h2, h3, h4⟩ := hs
    refine .seq (.seq (rg (gm h4 fun h8 => gm h0 fun h9 => gv (ji (x_1.length : Int)) (ev_len (xs := x_1) h9) fun h10 => ?_)))
    refine g2 8 10 (jb (decide (x_6 < (x_1.length : Int)))) h8 h10 fun h11 => ?_
    refine gq (.nsq (run_cond (t := decide (x_6 < (x_1.length : Int))) h11 h (fun h => ?_) (fun h => ?_)))
    · refine .skip (.nsq (.seq (.block (rg (gm h3 fun h14 => gm h4 fun h15 => gm h0 fun h16 => gm h4 fun h17 => ?_)))))
      obtain ⟨e_9, E_e_9, h⟩ := bind_some h
      refine gv (.ref .sh 0 [] (ji e_9)) (ev_idx (t := .sh) (lo := 0) (xs := x_1) h16 h17 E_e_9 rfl rfl) fun h18 => ?_
      refine g1 18 (ji e_9) h18 fun h19 => ?_
      obtain ⟨e_10, E_e_10, h⟩ := bind_some h
      refine gv (.ref (.at 3 []) x_6.toNat [] (ji e_10)) (ev_idxO (o := (.of x_5)) h14 h15 E_e_10 rfl) fun h20 => ?_
      refine g_store (ji e_9) (rd_of h20 rfl) (rd_of h19 rfl) (by refine ⟨by decide, by decide, rfl, rfl, rfl, ?_⟩; first | rfl | simp [V.toks, V.tokss, Enc.toks_enc]) ?_
      refine gz [(0, (eL x_1)), (2, (.sl .nl (Enc.shp Int) 0 [])), (3, _), (4, (ji x_6))] ⟨(keep_mut h0 (Enc.mut_enc _ _ _ _ (x_1 : List Int))), (keep_mut h2 rfl), (keep_mut h3 mut_own), (keep_mut h4 rfl)⟩ ?_
      rintro s ⟨h0, h2, h3, h4⟩
      refine .nbk (.nsq (rg (gm h4 fun h12 => g1 12 (ji (w64 (x_6 + 1))) h12 fun h13 => ?_)))
      refine gm h13 fun h4 => gq (.nlp ?_)
      exact ih (x_5.set x_6.toNat e_9) (w64 (x_6 + 1)) _ ⟨h0, h2, h3, h4⟩ h
    refine .exit (.esq (.elp (.ebk (.nsq (.seq (rg (gm h3 fun h21 => gm h21 fun h2 => g_end ?_)))))))
    refine e_home (r := 3) (x := 2) (v := _) h2 rfl (fun s_3 hg_3 => ?_)
    refine ez [(2, (oI 2 [] (.of x_5)))] (hg_3 2 _ _ h2 (map_encO (r := 3) (p := []) rfl rfl)) ?_
    rintro s h2
    refine .nsq (.ret ?_)
    have hr := Option.some.inj h
    subst hr
    exact rrA (res_tmp h2) (fin_retO (finO_own (o := ((.of x_5) : NL Int))) rfl (mine_own rfl))
def w_toIntS_o (F : Nat) (x_1 : (List Int)) : Option (NL Int) :=
  (mkN (x_1.length : Int) (0 : Int)).bind fun mk_2 =>
  w_toIntS_o_l1 F x_1 F mk_2 0
theorem t18o (H : H18o D σ F) (x_1 : (List Int)) (s : Nat → V) (hs : Facts [(0, (eL x_1))] s) (h : w_toIntS_o F x_1 = some r) : Run D σ (R18o r) (.run A18o []) s := by
  unfold w_toIntS_o at h
  have h0 := hs
  refine .seq (rg (g0 (.sl .nl (Enc.shp Int) 0 []) fun h2 => ?_))
  refine gq (.nsq (.seq (run_reg ?_)))
  refine e_clr ?_
  refine ez [(0, _), (2, _), (7, _)] ⟨(keep_clear (pk := [7]) h0 rfl me), (keep_clear (pk := [7]) h2 rfl rfl), (gone_clear (pk := [7]) (t := 7) rfl)⟩ ?_
  rintro s ⟨h0, h2, h7⟩
  refine gm h0 fun h5 => gv (ji (x_1.length : Int)) (ev_len (xs := x_1) h5) fun h6 => ?_
  obtain ⟨mk_2, E_mk_2, h⟩ := bind_some h
  refine g_mk (0 : Int) h6 rfl h7 E_mk_2 ?_
  refine gm (rfl : (_ : V) = (oI 7 [] (.of mk_2))) fun h3 => ?_
  refine g_end ?_
  refine e_home (r := 7) (x := 3) (v := _) h3 rfl (fun s_2 hg_2 => ?_)
  refine ez [(0, (eL x_1)), (2, (.sl .nl (Enc.shp Int) 0 [])), (3, (oI 3 [] (.of mk_2)))] ⟨(hg_2 0 _ _ h0 me), (hg_2 2 _ (.sl .nl (Enc.shp Int) 0 []) h2 rfl), (hg_2 3 _ _ h3 (map_encO (r := 7) (p := []) rfl rfl))⟩ ?_
  rintro s ⟨h0, h2, h3⟩
  refine .nsq (.seq (.seq (rg (g0 (ji 0) fun h4 => gq (.nsq (.block (.loop ?_)))))))
  exact t_f18o_l1 H x_1 F mk_2 0 _ ⟨h0, h2, h3, h4⟩ h
end
def e18o (F : Nat) : Ent := ent 1000000018 (fun (x : ((List Int) × Unit)) => w_toIntS_o F x.1) (fun (r : (NL Int)) => (encO .sh (r : NL Int))) 1 false []
theorem p18o {F : Nat} {x0 : (List Int)} {r : (NL Int)} (h : w_toIntS_o F x0 = some r) : (e18o F).den [Enc.enc x0] = some (encO .sh (r : NL Int)) := ent_put (x0, ()) h
theorem o18o {D : Den} {σ : Sig} {F : Nat} (hF : Fits2 Try.prog D σ) (H : H18o D σ F) : (e18o F).Ok Try.prog := by
  refine ok_of (f := 18) (show unk 1000000018 = 18 from rfl) (fun args r h => ?_) ⟨Try.f18, Try.func18, rfl, rfl⟩
  obtain ⟨⟨x0, _⟩, y, rfl, hy, rfl⟩ := da_open h
  exact contract_run hF (by kernel_rfl) Try.func18 rfl c18o (show 1 ≤ Try.f18.ntmps by decide) (t18o H x0 _ rfl hy)
/- loop.example/g01109/laws.markIntS -/
def A23_2 : AC := (.cond (.t 9) .skip (.exit 0))
def A23_4 : AC := (.reg [] [(jm 16 1), ((jv 17 (.bin .add (.t 16) (jn 1)))), (jm 1 17)] [])
def A23_5 : AC := (.reg [] [(jm 10 5), ((jv 11 (.bin .add (.t 10) (jn 1)))), (jm 5 11)] [])
def A23_3 : AC := (.seq (.block 1 (.seq (.reg [] [(jm 12 0), (jm 13 5), (jm 14 1), ((jv 15 (.idx (.t 12) (.t 13) 1))), (.mk none none false (.store .s (.t 15) (.t 14)))] []) A23_4)) A23_5)
def A23_1 : AC := (.seq (.seq (.reg [] [(jm 6 5), (jm 7 0), ((jv 8 (.len (.t 7)))), ((jv 9 (.bin .lss (.t 6) (.t 8))))] []) A23_2) A23_3)
def A23_6 : AC := (.seq (.reg [] [(jm 18 1), (jm 4 18)] []) .ret)
def A23_8 : AC := (.block 0 (.loop A23_1))
def A23_7 : AC := (.seq (.seq (.reg [] [((jv 5 (.mov (jn 0))))] []) A23_8) A23_6)
def A23 : AC := (.seq (.reg [] [((jv 4 (.mov (jn 0))))] []) A23_7)
def an23 : List An := []
theorem c23 : cC Try.prog Try.f23.ntmps an23 (Try.f23.body.getD .skip) = some A23 := by kernel_rfl
structure H23 (D : Den) (σ : Sig) (F : Nat) : Prop where
  mk ::
abbrev R23 (r : (Int × NL Int)) : (Nat → V) → Prop := RM Try.prog [.tmp 4] (Enc.enc (r.1 : Int)) (encO (.at pinR []) (r.2 : NL Int))
section
variable {D : Den} {σ : Sig} {F : Nat} {r : (Int × NL Int)}
def w_markIntS_l1 (F : Nat)   : Nat → (NL Int) → Int → Int → Option (Int × NL Int)
  | 0, _, _, _ => none
  | k + 1, x_4, x_5, x_6 =>
    bif decide (x_6 < (x_4.list.length : Int)) then
      (idx x_4.list x_6).bind fun e_8 =>
      (w_markIntS_l1 F k) (NL.set x_4 x_6.toNat x_5) (w64 (x_5 + 1)) (w64 (x_6 + 1))
    else
      some (x_5, x_4)
theorem t_f23_l1 (H : H23 D σ F)   : ∀ (k : Nat) (x_4 : (NL Int)) (x_5 : Int) (x_6 : Int) (s : Nat → V), Facts [(0, (oI pinR [] x_4)), (1, (ji x_5)), (4, (ji 0)), (5, (ji x_6))] s → w_markIntS_l1 F k x_4 x_5 x_6 = some r → Run D σ (R23 r) (.run A23_1 [.lp A23_1, .bk 0, .sq A23_6]) s := by
  intro k
  induction k with
  | zero => intro x_4 x_5 x_6 s _ h; exact nomatch (h : (none : Option _) = some r)
  | succ k ih =>
    intro x_4 x_5 x_6 s hs h
    rw [w_markIntS_l1] at h
    obtain ⟨h0, h1, h4, h5⟩ := hs
    refine .seq (.seq (rg (gm h5 fun h6 => gv (oI pinR [] x_4) (ev_mov h0 ok_encO) fun h7 => ?_)))
    refine gv (ji (x_4.list.length : Int)) (ev_lenO (o := x_4) h7) fun h8 => ?_
    refine g2 6 8 (jb (decide (x_6 < (x_4.list.length : Int)))) h6 h8 fun h9 => ?_
    refine gq (.nsq (run_cond (t := decide (x_6 < (x_4.list.length : Int))) h9 h (fun h => ?_) (fun h => ?_)))
    · refine .skip (.nsq (.seq (.block (.seq (rg (gv (oI pinR [] x_4) (ev_mov h0 ok_encO) fun h12 => ?_))))))
      refine gm h5 fun h13 => gm h1 fun h14 => ?_
      obtain ⟨e_8, E_e_8, h⟩ := bind_some h
      refine gv (.ref (.at pinR []) x_6.toNat [] (ji e_8)) (ev_idxO (o := x_4) h12 h13 E_e_8 rfl) fun h15 => ?_
      refine g_store (ji x_5) (rd_of h15 rfl) (rd_of h14 rfl) (by refine ⟨by decide, by decide, rfl, rfl, rfl, ?_⟩; first | rfl | simp [V.toks, V.tokss, Enc.toks_enc]) ?_
      refine gz [(0, _), (1, (ji x_5)), (4, (ji 0)), (5, (ji x_6))] ⟨(keep_mut h0 (mut_ownN (α := Int) (u := x_5) (i := x_6.toNat) (o := x_4))), (keep_mut h1 rfl), (keep_mut h4 rfl), (keep_mut h5 rfl)⟩ ?_
      rintro s ⟨h0, h1, h4, h5⟩
      refine .nsq (rg (gm h1 fun h16 => g1 16 (ji (w64 (x_5 + 1))) h16 fun h17 => ?_))
      refine gm h17 fun h1 => gq (.nbk (.nsq (rg (gm h5 fun h10 => g1 10 (ji (w64 (x_6 + 1))) h10 fun h11 => ?_))))
      refine gm h11 fun h5 => gq (.nlp ?_)
      exact ih (NL.set x_4 x_6.toNat x_5) (w64 (x_5 + 1)) (w64 (x_6 + 1)) _ ⟨h0, h1, h4, h5⟩ h
    refine .exit (.esq (.elp (.ebk (.nsq (.seq (rg (gm h1 fun h18 => gm h18 fun h4 => gq (.nsq (.ret ?_)))))))))
    have hr := Option.some.inj h
    subst hr
    exact rmA (res_tmp h4) h0
def w_markIntS (F : Nat) (x_1 : (On Int)) (x_2 : Int) : Option (Int × NL Int) :=
  w_markIntS_l1 F F x_1.v x_2 0
theorem t23 (H : H23 D σ F) (x_1 : (On Int)) (x_2 : Int) (s : Nat → V) (hs : Facts [(0, (oI pinR [] x_1.v)), (1, (ji x_2))] s) (h : w_markIntS F x_1 x_2 = some r) : Run D σ (R23 r) (.run A23 []) s := by
  unfold w_markIntS at h
  obtain ⟨h0, h1⟩ := hs
  refine .seq (rg (g0 (ji 0) fun h4 => gq (.nsq (.seq (.seq (rg (g0 (ji 0) fun h5 => gq (.nsq (.block (.loop ?_))))))))))
  exact t_f23_l1 H F x_1.v x_2 0 _ ⟨h0, h1, h4, h5⟩ h
end
def e23 (F : Nat) : Ent := ent 23 (fun (x : ((On Int) × Int × Unit)) => w_markIntS F x.1 x.2.1) (fun (r : (Int × NL Int)) => (.tup [Enc.enc (r.1 : Int), encO (.at pinR []) (r.2 : NL Int)])) pinR false []
theorem p23 {F : Nat} {x0 : (On Int)} {x1 : Int} {r : (Int × NL Int)} (h : w_markIntS F x0 x1 = some r) : (e23 F).den [Arg.arg x0, Enc.enc x1] = some (.tup [Enc.enc (r.1 : Int), encO (.at pinR []) (r.2 : NL Int)]) := ent_put (x0, x1, ()) h
theorem o23 {D : Den} {σ : Sig} {F : Nat} (hF : Fits2 Try.prog D σ) (H : H23 D σ F) : (e23 F).Ok Try.prog := by
  refine ok_of (f := 23) (show unk 23 = 23 from rfl) (fun args r h => ?_) ⟨Try.f23, Try.func23, rfl, rfl⟩
  obtain ⟨⟨x0, x1, _⟩, y, rfl, hy, rfl⟩ := da_open h
  exact contractM_run hF (by kernel_rfl) Try.func23 rfl c23 (all_ok2 ok_encP rfl) (show 2 ≤ Try.f23.ntmps by decide) (by decide) (t23 H x0 x1 _ ⟨rfl, rfl⟩ hy)
/- loop.example/g01109/laws.markIntSS -/
def A30_2 : AC := (.cond (.t 9) .skip (.exit 0))
def A30_4 : AC := (.reg [] [(jm 10 5), ((jv 11 (.bin .add (.t 10) (jn 1)))), (jm 5 11)] [])
def A30_3 : AC := (.seq (.block 1 (.reg [] [(jm 12 0), (jm 13 5), ((jv 14 (.idx (.t 12) (.t 13) 1))), ((jv 15 (.load .p (.t 14)))), (jm 16 1), (.mk (some 17) none false (.mark (.k (.fn 23 [] [])) [(.t 15), (.t 16)])), (jm 1 17)] [])) A30_4)
def A30_1 : AC := (.seq (.seq (.reg [] [(jm 6 5), (jm 7 0), ((jv 8 (.len (.t 7)))), ((jv 9 (.bin .lss (.t 6) (.t 8))))] []) A30_2) A30_3)
def A30_5 : AC := (.seq (.reg [] [(jm 18 1), (jm 4 18)] []) .ret)
def A30_7 : AC := (.block 0 (.loop A30_1))
def A30_6 : AC := (.seq (.seq (.reg [] [((jv 5 (.mov (jn 0))))] []) A30_7) A30_5)
def A30 : AC := (.seq (.reg [] [((jv 4 (.mov (jn 0))))] []) A30_6)
def an30 : List An := [{ id := 4, pre := [], ep := [], lin := [], sp := [5] }]
theorem c30 : cC Try.prog Try.f30.ntmps an30 (Try.f30.body.getD .skip) = some A30 := by kernel_rfl
structure H30 (D : Den) (σ : Sig) (F : Nat) : Prop where
  c23 : ∀ (x0 : (On Int)) (x1 : Int) r, w_markIntS F x0 x1 = some r → D 23 [Arg.arg x0, Enc.enc x1] = some (.tup [Enc.enc (r.1 : Int), encO (.at pinR []) (r.2 : NL Int)])
  g23 : σ 23 = some (pinR, false)
abbrev R30 (r : (Int × NL (NL Int))) : (Nat → V) → Prop := RM Try.prog [.tmp 4] (Enc.enc (r.1 : Int)) (encN pinR [] (r.2 : NL (NL Int)))
section
variable {D : Den} {σ : Sig} {F : Nat} {r : (Int × NL (NL Int))}
def w_markIntSS_l1 (F : Nat)   : Nat → (NL (NL Int)) → Int → Int → Option (Int × NL (NL Int))
  | 0, _, _, _ => none
  | k + 1, x_6, x_7, x_8 =>
    bif decide (x_8 < (x_6.list.length : Int)) then
      (idx x_6.list x_8).bind fun e_12 =>
      (w_markIntS F (On.mk e_12 : (On Int)) x_7).bind fun r_13 =>
      (remark e_12 r_13.2).bind fun m_14 =>
      (w_markIntSS_l1 F k) (NL.set x_6 x_8.toNat m_14) r_13.1 (w64 (x_8 + 1))
    else
      some (x_7, x_6)
theorem t_f30_l1 (H : H30 D σ F)   : ∀ (k : Nat) (x_6 : (NL (NL Int))) (x_7 : Int) (x_8 : Int) (s : Nat → V), Facts [(0, (encN pinR [] (x_6 : NL (NL Int)))), (1, (ji x_7)), (4, (ji 0)), (5, (ji x_8))] s → w_markIntSS_l1 F k x_6 x_7 x_8 = some r → Run D σ (R30 r) (.run A30_1 [.lp A30_1, .bk 0, .sq A30_5]) s := by
  intro k
  induction k with
  | zero => intro x_6 x_7 x_8 s _ h; exact nomatch (h : (none : Option _) = some r)
  | succ k ih =>
    intro x_6 x_7 x_8 s hs h
    rw [w_markIntSS_l1] at h
    obtain ⟨h0, h1, h4, h5⟩ := hs
    refine .seq (.seq (rg (gm h5 fun h6 => gv (encN pinR [] (x_6 : NL (NL Int))) (ev_mov h0 ok_encN) fun h7 => ?_)))
    refine gv (ji (x_6.list.length : Int)) (ev_lenN (o := (x_6 : NL (NL Int))) h7) fun h8 => ?_
    refine g2 6 8 (jb (decide (x_8 < (x_6.list.length : Int)))) h6 h8 fun h9 => ?_
    refine gq (.nsq (run_cond (t := decide (x_8 < (x_6.list.length : Int))) h9 h (fun h => ?_) (fun h => ?_)))
    · refine .skip (.nsq (.seq (.block (rg (gv (encN pinR [] (x_6 : NL (NL Int))) (ev_mov h0 ok_encN) fun h12 => ?_)))))
      refine gm h5 fun h13 => ?_
      obtain ⟨e_12, E_e_12, h⟩ := bind_some h
      refine gv (.ref (.at pinR []) x_8.toNat [] (oI pinR [x_8.toNat] e_12)) (ev_idxN (o := (x_6 : NL (NL Int))) h12 h13 E_e_12 rfl) fun h14 => ?_
      refine gv (oI pinR [x_8.toNat] e_12) (ev_loadN h14 beq_encO) fun h15 => ?_
      refine gm h1 fun h16 => ?_
      obtain ⟨r_13, E_r_13, h⟩ := bind_some h
      obtain ⟨m_14, E_m_14, h⟩ := bind_some h
      refine g_mark (v := (oI pinR [x_8.toNat] e_12)) h15 (canon_own (o := (e_12 : (NL Int))) rfl) (rdAll_cons (v := (ji x_7)) h16 rfl rdAll_nil) (H.c23 _ _ _ E_r_13) H.g23 rfl rfl (fun s_3 hm_3 => ?_)
      refine gm (rfl : (_ : V) = (ji r_13.1)) fun h1 => ?_
      refine gz [(0, (encN pinR [] ((NL.set x_6 x_8.toNat m_14) : NL (NL Int)))), (1, _), (4, (ji 0)), (5, (ji x_8))] ⟨(show s_3 0 = (encN pinR [] ((NL.set x_6 x_8.toNat m_14) : NL (NL Int))) from hm_3 0 (encN pinR [] (x_6 : NL (NL Int))) (encN pinR [] ((NL.set x_6 x_8.toNat m_14) : NL (NL Int))) h0 (rem_rowN (r := pinR) (p := []) (o := (x_6 : NL (NL Int))) rfl E_e_12 E_m_14)), h1, (show s_3 4 = (ji 0) from hm_3 4 (ji 0) (ji 0) h4 (rem_self _ rfl)), (show s_3 5 = (ji x_8) from hm_3 5 (ji x_8) (ji x_8) h5 (rem_self _ rfl))⟩ ?_
      rintro s ⟨h0, h1, h4, h5⟩
      refine .nbk (.nsq (rg (gm h5 fun h10 => g1 10 (ji (w64 (x_8 + 1))) h10 fun h11 => ?_)))
      refine gm h11 fun h5 => gq (.nlp ?_)
      exact ih (NL.set x_6 x_8.toNat m_14) r_13.1 (w64 (x_8 + 1)) _ ⟨h0, h1, h4, h5⟩ h
    refine .exit (.esq (.elp (.ebk (.nsq (.seq (rg (gm h1 fun h18 => gm h18 fun h4 => gq (.nsq (.ret ?_)))))))))
    have hr := Option.some.inj h
    subst hr
    exact rmA (res_tmp h4) h0
def w_markIntSS (F : Nat) (x_1 : (On2 Int)) (x_2 : Int) : Option (Int × NL (NL Int)) :=
  w_markIntSS_l1 F F x_1.v x_2 0
theorem t30 (H : H30 D σ F) (x_1 : (On2 Int)) (x_2 : Int) (s : Nat → V) (hs : Facts [(0, (encN pinR [] (x_1.v : NL (NL Int)))), (1, (ji x_2))] s) (h : w_markIntSS F x_1 x_2 = some r) : Run D σ (R30 r) (.run A30 []) s := by
  unfold w_markIntSS at h
  obtain ⟨h0, h1⟩ := hs
  refine .seq (rg (g0 (ji 0) fun h4 => gq (.nsq (.seq (.seq (rg (g0 (ji 0) fun h5 => gq (.nsq (.block (.loop ?_))))))))))
  exact t_f30_l1 H F x_1.v x_2 0 _ ⟨h0, h1, h4, h5⟩ h
end
def e30 (F : Nat) : Ent := ent 30 (fun (x : ((On2 Int) × Int × Unit)) => w_markIntSS F x.1 x.2.1) (fun (r : (Int × NL (NL Int))) => (.tup [Enc.enc (r.1 : Int), encN pinR [] (r.2 : NL (NL Int))])) pinR false []
theorem p30 {F : Nat} {x0 : (On2 Int)} {x1 : Int} {r : (Int × NL (NL Int))} (h : w_markIntSS F x0 x1 = some r) : (e30 F).den [Arg.arg x0, Enc.enc x1] = some (.tup [Enc.enc (r.1 : Int), encN pinR [] (r.2 : NL (NL Int))]) := ent_put (x0, x1, ()) h
theorem o30 {D : Den} {σ : Sig} {F : Nat} (hF : Fits2 Try.prog D σ) (H : H30 D σ F) : (e30 F).Ok Try.prog := by
  refine ok_of (f := 30) (show unk 30 = 30 from rfl) (fun args r h => ?_) ⟨Try.f30, Try.func30, rfl, rfl⟩
  obtain ⟨⟨x0, x1, _⟩, y, rfl, hy, rfl⟩ := da_open h
  exact contractM_run hF (by kernel_rfl) Try.func30 rfl c30 (all_ok2 ok_encN rfl) (show 2 ≤ Try.f30.ntmps by decide) (by decide) (t30 H x0 x1 _ ⟨rfl, rfl⟩ hy)
end Go.Zq
