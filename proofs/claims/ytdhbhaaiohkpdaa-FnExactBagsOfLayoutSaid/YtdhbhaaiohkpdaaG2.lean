/- Functions of the program as typed functions, and that the machine runs as they say (part 2). No further condition. -/
import Derived.Test.YtdhbhaaiohkpdaaK3
import Derived.Test.YtdhbhaaiohkpdaaProg
import Derived.Test.YtdhbhaaiohkpdaaChecked
import Derived.KernelRfl
import Derived.Test.YtdhbhaaiohkpdaaG1
set_option linter.unusedVariables false
set_option linter.unusedSimpArgs false
/- Functions of the program, as typed functions, and that the machine runs as they say. -/
namespace Go.Zq
open Go.Proofs
/- (loop.example/g01109/impl.net).front -/
def A84_5 : AC := (.cond (.t 22) (.reg [] [(jm 23 5), (jm 24 7), ((jv 25 (.bin .shl (jn 1) (.t 24)))), ((jv 26 (.bin .or (.t 23) (.t 25)))), (jm 5 26)] []) .skip)
def A84_4 : AC := (.seq (.reg [] [((jv 15 (.fld (.t 2) 0 0))), ((jv 16 (.load .p (.t 15)))), (jm 17 7), ((jv 18 (.idx (.t 16) (.t 17) 1))), ((jv 19 (.load .s (.t 18)))), (jm 20 1), ((jv 21 (.bin .andNot (.t 19) (.t 20)))), ((jv 22 (.bin .neq (.t 21) (jn 0))))] []) A84_5)
def A84_6 : AC := (.reg [] [((jv 27 (.bin .add (.t 11) (jn 1)))), (jm 11 27)] [])
def A84_3 : AC := (.seq (.block 1 (.seq (.reg [] [((jv 13 (.idx (.t 9) (.t 11) 1))), ((jv 14 (.load .s (.t 13)))), (jm 7 14)] []) A84_4)) A84_6)
def A84_2 : AC := (.seq (.cond (.t 12) .skip (.exit 0)) A84_3)
def A84_1 : AC := (.seq (.reg [] [((jv 12 (.bin .lss (.t 11) (.t 10))))] []) A84_2)
def A84_7 : AC := (.seq (.reg [] [(jm 28 5), (jm 4 28)] []) .ret)
def A84_10 : AC := (.block 0 (.loop A84_1))
def A84_9 : AC := (.seq (.seq (.reg [] [(jm 8 1), (.mk (some 9) none false (.call (.k (.fn 83 [] [])) [(.t 8)])), ((jv 10 (.len (.t 9)))), ((jv 11 (.mov (jn 0))))] []) A84_10) A84_7)
def A84_8 : AC := (.seq (.reg [] [((jv 5 (.mov (jn 0))))] []) A84_9)
def A84 : AC := (.seq (.reg [.clr [2]] [(.mk (some 2) none false (.box (.t 0))), ((jv 4 (.mov (jn 0))))] []) A84_8)
def an84 : List An := [{ id := 0, pre := [.clr [2]], ep := [], lin := [], sp := [] }]
theorem c84 : cC Try.prog Try.f84.ntmps an84 (Try.f84.body.getD .skip) = some A84 := by kernel_rfl
structure H84 (D : Den) (σ : Sig) (F : Nat) : Prop where
  c83 : ∀ (x0 : Int) r, i_setOf F x0 = some r → D 83 [Enc.enc x0] = some (Enc.enc (r : (List Int)))
  g83 : σ 83 = some (0, false)
abbrev R84 (r : Int) : (Nat → V) → Prop := RR Try.prog [.tmp 4] 0 false (Enc.enc (r : Int))
section
variable {D : Den} {σ : Sig} {F : Nat} {r : Int}
def i_net_front_j1 (F : Nat) (x_2 : Int) (x_1 : (S1 (List Int))) (r_3 : (List Int)) (x_10 : Int) (c1 : Int → Int → Option Int) (x_19 : Int) : Option Int :=
  c1 x_19 (w64 (x_10 + 1))
theorem t_f84_j1 (H : H84 D σ F) (x_2 : Int) (x_1 : (S1 (List Int))) (r_3 : (List Int)) (x_10 : Int) (c1 : Int → Int → Option Int) (Hc1 : ∀ (x_9 : Int) (x_10 : Int) (s : Nat → V), Facts [(1, (ji x_2)), (2, (.ref (.bx 2) 0 [] (.agg [(eL x_1.a)]))), (4, (ji 0)), (5, (ji x_9)), (9, (eL r_3)), (10, (ji (r_3.length : Int))), (11, (ji x_10))] s → c1 x_9 x_10 = some r → Run D σ (R84 r) (.run A84_1 [.lp A84_1, .bk 0, .sq A84_7]) s) (x_19 : Int) (s : Nat → V) (hs : Facts [(1, (ji x_2)), (2, (.ref (.bx 2) 0 [] (.agg [(eL x_1.a)]))), (4, (ji 0)), (5, (ji x_19)), (9, (eL r_3)), (10, (ji (r_3.length : Int))), (11, (ji x_10))] s) (h : i_net_front_j1 F x_2 x_1 r_3 x_10 c1 x_19 = some r) : Run D σ (R84 r) (.nrm [.bk 1, .sq A84_6, .lp A84_1, .bk 0, .sq A84_7]) s := by
  unfold i_net_front_j1 at h
  obtain ⟨h1, h2, h4, h5, h9, h10, h11⟩ := hs
  refine .nbk (.nsq (rg (g1 11 (ji (w64 (x_10 + 1))) h11 fun h27 => ?_)))
  refine gm h27 fun h11 => gq (.nlp ?_)
  exact Hc1 x_19 (w64 (x_10 + 1)) _ ⟨h1, h2, h4, h5, h9, h10, h11⟩ h
def i_net_front_l1 (F : Nat) (x_2 : Int) (x_1 : (S1 (List Int))) (r_3 : (List Int))  : Nat → Int → Int → Option Int
  | 0, _, _ => none
  | k + 1, x_9, x_10 =>
    bif decide (x_10 < (r_3.length : Int)) then
      (idx r_3 x_10).bind fun e_16 =>
      (idx x_1.a e_16).bind fun e_17 =>
      bif ((iandNot .i64 e_17 x_2) != 0) then
        (shlI .i64 1 e_16).bind fun q_20 =>
        i_net_front_j1 F x_2 x_1 r_3 x_10 (i_net_front_l1 F x_2 x_1 r_3 k) (ior .i64 x_9 q_20)
      else
        i_net_front_j1 F x_2 x_1 r_3 x_10 (i_net_front_l1 F x_2 x_1 r_3 k) x_9
    else
      some x_9
theorem t_f84_l1 (H : H84 D σ F) (x_2 : Int) (x_1 : (S1 (List Int))) (r_3 : (List Int))  : ∀ (k : Nat) (x_9 : Int) (x_10 : Int) (s : Nat → V), Facts [(1, (ji x_2)), (2, (.ref (.bx 2) 0 [] (.agg [(eL x_1.a)]))), (4, (ji 0)), (5, (ji x_9)), (9, (eL r_3)), (10, (ji (r_3.length : Int))), (11, (ji x_10))] s → i_net_front_l1 F x_2 x_1 r_3 k x_9 x_10 = some r → Run D σ (R84 r) (.run A84_1 [.lp A84_1, .bk 0, .sq A84_7]) s := by
  intro k
  induction k with
  | zero => intro x_9 x_10 s _ h; exact nomatch (h : (none : Option _) = some r)
  | succ k ih =>
    intro x_9 x_10 s hs h
    rw [i_net_front_l1] at h
    obtain ⟨h1, h2, h4, h5, h9, h10, h11⟩ := hs
    refine .seq (rg (g2 11 10 (jb (decide (x_10 < (r_3.length : Int)))) h11 h10 fun h12 => ?_))
    refine gq (.nsq (.seq (run_cond (t := decide (x_10 < (r_3.length : Int))) h12 h (fun h => ?_) (fun h => ?_))))
    · refine .skip (.nsq (.seq (.block (.seq (rg ?_)))))
      obtain ⟨e_16, E_e_16, h⟩ := bind_some h
      refine gv (.ref .sh 0 [] (ji e_16)) (ev_idx (t := .sh) (lo := 0) (xs := r_3) h9 h11 E_e_16 rfl rfl) fun h13 => ?_
      refine g1 13 (ji e_16) h13 fun h14 => ?_
      refine gm h14 fun h7 => gq (.nsq (.seq (rg (g1 2 (.ref (.bx 2) 0 [0] (eL x_1.a)) h2 fun h15 => ?_))))
      refine g1 15 (eL x_1.a) h15 fun h16 => ?_
      refine gm h7 fun h17 => ?_
      obtain ⟨e_17, E_e_17, h⟩ := bind_some h
      refine gv (.ref .sh 0 [] (ji e_17)) (ev_idx (t := .sh) (lo := 0) (xs := x_1.a) h16 h17 E_e_17 rfl rfl) fun h18 => ?_
      refine g1 18 (ji e_17) h18 fun h19 => ?_
      refine gm h1 fun h20 => g2 19 20 (ji (iandNot .i64 e_17 x_2)) h19 h20 fun h21 => ?_
      refine g1 21 (jb ((iandNot .i64 e_17 x_2) != 0)) h21 fun h22 => ?_
      refine gq (.nsq (run_cond (t := ((iandNot .i64 e_17 x_2) != 0)) h22 h (fun h => ?_) (fun h => ?_)))
      · refine rg (gm h5 fun h23 => gm h7 fun h24 => ?_)
        obtain ⟨q_20, E_q_20, h⟩ := bind_some h
        refine gv (ji q_20) (ev_shl rfl h24 E_q_20) fun h25 => ?_
        refine g2 23 25 (ji (ior .i64 x_9 q_20)) h23 h25 fun h26 => ?_
        refine gm h26 fun h5 => gq ?_
        exact t_f84_j1 H x_2 x_1 r_3 x_10 (i_net_front_l1 F x_2 x_1 r_3 k) ih (ior .i64 x_9 q_20) _ ⟨h1, h2, h4, h5, h9, h10, h11⟩ h
      refine .skip ?_
      exact t_f84_j1 H x_2 x_1 r_3 x_10 (i_net_front_l1 F x_2 x_1 r_3 k) ih x_9 _ ⟨h1, h2, h4, h5, h9, h10, h11⟩ h
    refine .exit (.esq (.elp (.ebk (.nsq (.seq (rg (gm h5 fun h28 => gm h28 fun h4 => gq (.nsq (.ret ?_)))))))))
    have hr := Option.some.inj h
    subst hr
    exact rrA (res_tmp h4) rfl
def i_net_front (F : Nat) (x_1 : (S1 (List Int))) (x_2 : Int) : Option Int :=
  (i_setOf F x_2).bind fun r_3 =>
  i_net_front_l1 F x_2 x_1 r_3 F 0 0
theorem t84 (H : H84 D σ F) (x_1 : (S1 (List Int))) (x_2 : Int) (s : Nat → V) (hs : Facts [(0, (.agg [(eL x_1.a)])), (1, (ji x_2))] s) (h : i_net_front F x_1 x_2 = some r) : Run D σ (R84 r) (.run A84 []) s := by
  unfold i_net_front at h
  obtain ⟨h0, h1⟩ := hs
  refine .seq (run_reg ?_)
  refine e_clr ?_
  refine ez [(0, _), (1, _), (2, _)] ⟨(keep_clear (pk := [2]) h0 rfl (map_agg (maps_cons me maps_nil))), (keep_clear (pk := [2]) h1 rfl mi), (gone_clear (pk := [2]) (t := 2) rfl)⟩ ?_
  rintro s ⟨h0, h1, h2⟩
  refine g_box (.agg [(eL x_1.a)]) (rd_of h0 rfl) h2 rfl ?_
  refine g0 (ji 0) fun h4 => gq (.nsq (.seq (rg (g0 (ji 0) fun h5 => gq (.nsq (.seq (.seq (rg (gm h1 fun h8 => ?_)))))))))
  obtain ⟨r_3, E_r_3, h⟩ := bind_some h
  refine g_call (m := 0) (al := false) (r := (Enc.enc (r_3 : (List Int)))) [Enc.enc (x_2 : Int)] (ta_cons (v := (ji x_2)) h8 rfl rfl ta_nil) (H.c83 _ _ E_r_3) H.g83 rfl rfl rfl rfl ?_
  refine gv (ji (r_3.length : Int)) (ev_len (xs := r_3) rfl) fun h10 => ?_
  refine g0 (ji 0) fun h11 => gq (.nsq (.block (.loop ?_)))
  exact t_f84_l1 H x_2 x_1 r_3 F 0 0 _ ⟨h1, rfl, h4, h5, rfl, h10, h11⟩ h
end
def e84 (F : Nat) : Ent := ent 84 (fun (x : ((S1 (List Int)) × Int × Unit)) => i_net_front F x.1 x.2.1) (fun (r : Int) => (Enc.enc (r : Int))) 0 false []
theorem p84 {F : Nat} {x0 : (S1 (List Int))} {x1 : Int} {r : Int} (h : i_net_front F x0 x1 = some r) : (e84 F).den [Enc.enc x0, Enc.enc x1] = some (Enc.enc (r : Int)) := ent_put (x0, x1, ()) h
theorem o84 {D : Den} {σ : Sig} {F : Nat} (hF : Fits2 Try.prog D σ) (H : H84 D σ F) : (e84 F).Ok Try.prog := by
  refine ok_of (f := 84) (show unk 84 = 84 from rfl) (fun args r h => ?_) ⟨Try.f84, Try.func84, rfl, rfl⟩
  obtain ⟨⟨x0, x1, _⟩, y, rfl, hy, rfl⟩ := da_open h
  exact contract_run hF (by kernel_rfl) Try.func84 rfl c84 (show 2 ≤ Try.f84.ntmps by decide) (t84 H x0 x1 _ ⟨rfl, rfl⟩ hy)
/- loop.example/g01109/impl.setOf -/
def A83o_2 : AC := (.cond (.t 8) .skip (.exit 0))
def A83o_4 : AC := (.cond (.t 15) (.reg [.clr [18, 19]] [(jm 16 3), (jm 17 4), (.mk (some 18) none false (.lit (.int .i64 (.ofNat 0)) 1 [(0, 0, (.t 17))])), (.mk (some 19) none false (.app .s (.t 16) (.t 18))), (jm 3 19)] [.home 19 3]) .skip)
def A83o_5 : AC := (.reg [] [(jm 9 4), ((jv 10 (.bin .add (.t 9) (jn 1)))), (jm 4 10)] [])
def A83o_3 : AC := (.seq (.block 1 (.seq (.reg [] [(jm 11 0), (jm 12 4), ((jv 13 (.bin .shr (.t 11) (.t 12)))), ((jv 14 (.bin .and (.t 13) (jn 1)))), ((jv 15 (.bin .eql (.t 14) (jn 1))))] []) A83o_4)) A83o_5)
def A83o_1 : AC := (.seq (.seq (.reg [] [(jm 5 0), (jm 6 4), ((jv 7 (.bin .shr (.t 5) (.t 6)))), ((jv 8 (.bin .neq (.t 7) (jn 0))))] []) A83o_2) A83o_3)
def A83o_6 : AC := (.seq (.reg [] [(jm 20 3), (jm 2 20)] [.home 3 2]) .ret)
def A83o_9 : AC := (.block 0 (.loop A83o_1))
def A83o_8 : AC := (.seq (.seq (.reg [] [((jv 4 (.mov (jn 0))))] []) A83o_9) A83o_6)
def A83o_7 : AC := (.seq (.reg [] [((jv 3 (.mov (.k (.sl .nl .s 0 [])))))] []) A83o_8)
def A83o : AC := (.seq (.reg [] [((jv 2 (.mov (.k (.sl .nl .s 0 [])))))] []) A83o_7)
def an83o : List An := [{ id := 6, pre := [.clr [18, 19]], ep := [.home 19 3], lin := [], sp := [] }, { id := 7, pre := [], ep := [.home 3 2], lin := [], sp := [] }]
theorem c83o : cC Try.prog Try.f83.ntmps an83o (Try.f83.body.getD .skip) = some A83o := by kernel_rfl
structure H83o (D : Den) (σ : Sig) (F : Nat) : Prop where
  mk ::
abbrev R83o (r : (NL Int)) : (Nat → V) → Prop := RR Try.prog [.tmp 2] 1 false (encO .sh (r : NL Int))
section
variable {D : Den} {σ : Sig} {F : Nat} {r : (NL Int)}
def i_setOf_o_j1 (F : Nat) (x_1 : Int) (x_8 : Int) (c1 : (NL Int) → Int → Option (NL Int)) (x_17 : (NL Int)) : Option (NL Int) :=
  c1 x_17 (w64 (x_8 + 1))
theorem t_f83o_j1 (H : H83o D σ F) (x_1 : Int) (x_8 : Int) (c1 : (NL Int) → Int → Option (NL Int)) (Hc1 : ∀ (x_7 : (NL Int)) (x_8 : Int) (s : Nat → V), Facts [(0, (ji x_1)), (2, (.sl .nl (Enc.shp Int) 0 [])), (3, (oI 3 [] x_7)), (4, (ji x_8))] s → c1 x_7 x_8 = some r → Run D σ (R83o r) (.run A83o_1 [.lp A83o_1, .bk 0, .sq A83o_6]) s) (x_17 : (NL Int)) (s : Nat → V) (hs : Facts [(0, (ji x_1)), (2, (.sl .nl (Enc.shp Int) 0 [])), (3, (oI 3 [] x_17)), (4, (ji x_8))] s) (h : i_setOf_o_j1 F x_1 x_8 c1 x_17 = some r) : Run D σ (R83o r) (.nrm [.bk 1, .sq A83o_5, .lp A83o_1, .bk 0, .sq A83o_6]) s := by
  unfold i_setOf_o_j1 at h
  obtain ⟨h0, h2, h3, h4⟩ := hs
  refine .nbk (.nsq (rg (gm h4 fun h9 => g1 9 (ji (w64 (x_8 + 1))) h9 fun h10 => ?_)))
  refine gm h10 fun h4 => gq (.nlp ?_)
  exact Hc1 x_17 (w64 (x_8 + 1)) _ ⟨h0, h2, h3, h4⟩ h
def i_setOf_o_l1 (F : Nat) (x_1 : Int)  : Nat → (NL Int) → Int → Option (NL Int)
  | 0, _, _ => none
  | k + 1, x_7, x_8 =>
    (shrI .i64 x_1 x_8).bind fun q_14 =>
    bif (q_14 != 0) then
      (shrI .i64 x_1 x_8).bind fun q_15 =>
      bif ((iand .i64 q_15 1) == 1) then
        (appL x_7.list [x_8]).bind fun ap_18 =>
        i_setOf_o_j1 F x_1 x_8 (i_setOf_o_l1 F x_1 k) (.of ap_18)
      else
        i_setOf_o_j1 F x_1 x_8 (i_setOf_o_l1 F x_1 k) x_7
    else
      some x_7
theorem t_f83o_l1 (H : H83o D σ F) (x_1 : Int)  : ∀ (k : Nat) (x_7 : (NL Int)) (x_8 : Int) (s : Nat → V), Facts [(0, (ji x_1)), (2, (.sl .nl (Enc.shp Int) 0 [])), (3, (oI 3 [] x_7)), (4, (ji x_8))] s → i_setOf_o_l1 F x_1 k x_7 x_8 = some r → Run D σ (R83o r) (.run A83o_1 [.lp A83o_1, .bk 0, .sq A83o_6]) s := by
  intro k
  induction k with
  | zero => intro x_7 x_8 s _ h; exact nomatch (h : (none : Option _) = some r)
  | succ k ih =>
    intro x_7 x_8 s hs h
    rw [i_setOf_o_l1] at h
    obtain ⟨h0, h2, h3, h4⟩ := hs
    refine .seq (.seq (rg (gm h0 fun h5 => gm h4 fun h6 => ?_)))
    obtain ⟨q_14, E_q_14, h⟩ := bind_some h
    refine gv (ji q_14) (ev_shr h5 h6 E_q_14) fun h7 => ?_
    refine g1 7 (jb (q_14 != 0)) h7 fun h8 => ?_
    refine gq (.nsq (run_cond (t := (q_14 != 0)) h8 h (fun h => ?_) (fun h => ?_)))
    · refine .skip (.nsq (.seq (.block (.seq (rg (gm h0 fun h11 => gm h4 fun h12 => ?_))))))
      obtain ⟨q_15, E_q_15, h⟩ := bind_some h
      refine gv (ji q_15) (ev_shr h11 h12 E_q_15) fun h13 => ?_
      refine g1 13 (ji (iand .i64 q_15 1)) h13 fun h14 => ?_
      refine g1 14 (jb ((iand .i64 q_15 1) == 1)) h14 fun h15 => ?_
      refine gq (.nsq (run_cond (t := ((iand .i64 q_15 1) == 1)) h15 h (fun h => ?_) (fun h => ?_)))
      · refine run_reg ?_
        refine e_clr ?_
        refine ez [(0, _), (2, _), (3, _), (4, _), (18, _), (19, _)] ⟨(keep_clear (pk := [18, 19]) h0 rfl mi), (keep_clear (pk := [18, 19]) h2 rfl rfl), (keep_clear (pk := [18, 19]) h3 rfl (map_encO (r := 3) (p := []) rfl rfl)), (keep_clear (pk := [18, 19]) h4 rfl mi), (gone_clear (pk := [18, 19]) (t := 18) rfl), (gone_clear (pk := [18, 19]) (t := 19) rfl)⟩ ?_
        rintro s ⟨h0, h2, h3, h4, h18, h19⟩
        refine gv (oI 3 [] x_7) (ev_mov h3 ok_encO) fun h16 => ?_
        refine gm h4 fun h17 => g_litL [(17, (ji x_8))] [Enc.enc (x_8 : Int)] h17 rfl rfl h18 ?_
        obtain ⟨ap_18, E_ap_18, h⟩ := bind_some h
        refine g_app (q := 3) (p := []) (o := (x_7 : NL Int)) (ys := ([x_8] : List Int)) (t2 := (.at 18 [])) (lo2 := 0) h16 rfl rfl h19 (appN_L (o := (x_7 : NL Int)) E_ap_18 (by split <;> simp)) (fun s_17 ha_17 => ?_)
        refine gm (rfl : (_ : V) = (oI 19 [] (.of ap_18))) fun h3 => ?_
        refine g_end ?_
        refine e_home (r := 19) (x := 3) (v := _) h3 rfl (fun s_18 hg_18 => ?_)
        refine ez [(0, (ji x_1)), (2, (.sl .nl (Enc.shp Int) 0 [])), (3, (oI 3 [] (.of ap_18))), (4, (ji x_8))] ⟨(hg_18 0 _ _ (show s_17 0 = (ji x_1) from keep_app ha_17 h0 mi) mi), (hg_18 2 _ (.sl .nl (Enc.shp Int) 0 []) (show s_17 2 = (.sl .nl (Enc.shp Int) 0 []) from keep_app ha_17 h2 rfl) rfl), (hg_18 3 _ _ h3 (map_encO (r := 19) (p := []) rfl rfl)), (hg_18 4 _ _ (show s_17 4 = (ji x_8) from keep_app ha_17 h4 mi) mi)⟩ ?_
        rintro s ⟨h0, h2, h3, h4⟩
        exact t_f83o_j1 H x_1 x_8 (i_setOf_o_l1 F x_1 k) ih (.of ap_18) _ ⟨h0, h2, h3, h4⟩ h
      refine .skip ?_
      exact t_f83o_j1 H x_1 x_8 (i_setOf_o_l1 F x_1 k) ih x_7 _ ⟨h0, h2, h3, h4⟩ h
    refine .exit (.esq (.elp (.ebk (.nsq (.seq (rg (gv (oI 3 [] x_7) (ev_mov h3 ok_encO) fun h20 => ?_)))))))
    refine gv (oI 3 [] x_7) (ev_mov h20 ok_encO) fun h2 => ?_
    refine g_end ?_
    refine e_home (r := 3) (x := 2) (v := _) h2 ok_encO (fun s_19 hg_19 => ?_)
    refine ez [(2, (oI 2 [] x_7))] (hg_19 2 _ _ h2 (map_encO (r := 3) (p := []) rfl rfl)) ?_
    rintro s h2
    refine .nsq (.ret ?_)
    have hr := Option.some.inj h
    subst hr
    exact rrA (res_tmp h2) (fin_retO (finO_own (o := (x_7 : NL Int))) rfl (mine_own rfl))
def i_setOf_o (F : Nat) (x_1 : Int) : Option (NL Int) :=
  i_setOf_o_l1 F x_1 F .nil 0
theorem t83o (H : H83o D σ F) (x_1 : Int) (s : Nat → V) (hs : Facts [(0, (ji x_1))] s) (h : i_setOf_o F x_1 = some r) : Run D σ (R83o r) (.run A83o []) s := by
  unfold i_setOf_o at h
  have h0 := hs
  refine .seq (rg (g0 (.sl .nl (Enc.shp Int) 0 []) fun h2 => ?_))
  refine gq (.nsq (.seq (rg (g0 (.sl .nl (Enc.shp Int) 0 []) fun h3 => ?_))))
  refine gq (.nsq (.seq (.seq (rg (g0 (ji 0) fun h4 => gq (.nsq (.block (.loop ?_))))))))
  exact t_f83o_l1 H x_1 F .nil 0 _ ⟨h0, h2, h3, h4⟩ h
end
def e83o (F : Nat) : Ent := ent 1000000083 (fun (x : (Int × Unit)) => i_setOf_o F x.1) (fun (r : (NL Int)) => (encO .sh (r : NL Int))) 1 false []
theorem p83o {F : Nat} {x0 : Int} {r : (NL Int)} (h : i_setOf_o F x0 = some r) : (e83o F).den [Enc.enc x0] = some (encO .sh (r : NL Int)) := ent_put (x0, ()) h
theorem o83o {D : Den} {σ : Sig} {F : Nat} (hF : Fits2 Try.prog D σ) (H : H83o D σ F) : (e83o F).Ok Try.prog := by
  refine ok_of (f := 83) (show unk 1000000083 = 83 from rfl) (fun args r h => ?_) ⟨Try.f83, Try.func83, rfl, rfl⟩
  obtain ⟨⟨x0, _⟩, y, rfl, hy, rfl⟩ := da_open h
  exact contract_run hF (by kernel_rfl) Try.func83 rfl c83o (show 1 ≤ Try.f83.ntmps by decide) (t83o H x0 _ rfl hy)
/- loop.example/g01109/impl.BagsOfLayout -/
def A37o_5 : AC := (.reg [] [(jm 38 8), (jm 39 10), ((jv 40 (.bin .shl (jn 1) (.t 39)))), ((jv 41 (.bin .or (.t 38) (.t 40)))), (jm 8 41)] [])
def A37o_4 : AC := (.seq (.reg [.clr [35, 36, 37]] [(jm 28 7), ((jv 29 (.load (.ag [.p]) (.t 6)))), (jm 30 8), (.mk (some 31) none false (.call (.k (.fn 84 [] [])) [(.t 29), (.t 30)])), (jm 32 10), ((jv 33 (.bin .shl (jn 1) (.t 32)))), ((jv 34 (.bin .or (.t 31) (.t 33)))), (.mk (some 35) none false (.callO (.k (.fn 83 [] [])) [(.t 34)])), (.mk (some 36) none false (.lit (.sl .nl .s 0 []) 1 [(0, 0, (.t 35))])), (.mk (some 37) none false (.app .p (.t 28) (.t 36))), (jm 7 37)] [.can 37, .home 37 7]) A37o_5)
def A37o_6 : AC := (.reg [] [((jv 42 (.bin .add (.t 24) (jn 1)))), (jm 24 42)] [])
def A37o_3 : AC := (.seq (.block 1 (.seq (.reg [] [((jv 26 (.idx (.t 22) (.t 24) 1))), ((jv 27 (.load .s (.t 26)))), (jm 10 27)] []) A37o_4)) A37o_6)
def A37o_2 : AC := (.seq (.cond (.t 25) .skip (.exit 0)) A37o_3)
def A37o_1 : AC := (.seq (.reg [] [((jv 25 (.bin .lss (.t 24) (.t 23))))] []) A37o_2)
def A37o_7 : AC := (.seq (.reg [] [(jm 43 7), (jm 4 43), ((jv 5 (.mov (.k (.bool true)))))] [.home 7 4]) .ret)
def A37o_8 : AC := (.cond (.t 19) (.seq (.reg [] [((jv 4 (.mov (.k (.sl .nl .p 0 []))))), ((jv 5 (.mov (.k (.bool false)))))] []) .ret) .skip)
def A37o_13 : AC := (.block 0 (.loop A37o_1))
def A37o_12 : AC := (.seq (.seq (.reg [] [(jm 22 1), ((jv 23 (.len (.t 22)))), ((jv 24 (.mov (jn 0))))] []) A37o_13) A37o_7)
def A37o_11 : AC := (.seq (.reg [] [((jv 8 (.mov (jn 0))))] []) A37o_12)
def A37o_10 : AC := (.seq (.reg [] [((jv 7 (.mov (.k (.sl .nl .p 0 [])))))] []) A37o_11)
def A37o_9 : AC := (.seq (.reg [.clr [6]] [((jv 20 (.load (.ag [.s, .p]) (.t 2)))), (.mk (some 21) none false (.call (.k (.fn 65 [] [])) [(.t 20)])), (.mk (some 6) none false (.alloc (.agg [(.sl .nl .s 0 [])]))), (.mk none none false (.store (.ag [.p]) (.t 6) (.t 21)))] []) A37o_10)
def A37o_14 : AC := (.seq (.seq (.reg [] [((jv 11 (.load (.ag [.s, .p]) (.t 2)))), (.mk (some 12) none false (.call (.k (.fn 63 [] [])) [(.t 11)])), ((jv 13 (.un .not (.t 12)))), (jm 14 13), ((jg 15 14 false (.load (.ag [.s, .p]) (.t 2)))), ((jg 16 14 false (.mov (.t 1)))), (.mk (some 17) (some (14, false)) false (.call (.k (.fn 64 [] [])) [(.t 15), (.t 16)])), ((jg 18 14 false (.un .not (.t 17)))), ((jv 19 (.pick (.t 14) (.k (.bool true)) (.t 18))))] []) A37o_8) A37o_9)
def A37o : AC := (.seq (.reg [.clr [2]] [(.mk (some 2) none false (.box (.t 0))), ((jv 4 (.mov (.k (.sl .nl .p 0 []))))), ((jv 5 (.mov (.k (.bool false)))))] []) A37o_14)
def an37o : List An := [{ id := 0, pre := [.clr [2]], ep := [], lin := [], sp := [] }, { id := 3, pre := [.clr [6]], ep := [], lin := [], sp := [] }, { id := 9, pre := [.clr [35, 36, 37]], ep := [.can 37, .home 37 7], lin := [], sp := [1007] }, { id := 12, pre := [], ep := [.home 7 4], lin := [], sp := [] }]
theorem c37o : cC Try.prog Try.f37.ntmps an37o (Try.f37.body.getD .skip) = some A37o := by kernel_rfl
structure H37o (D : Den) (σ : Sig) (F : Nat) : Prop where
  c63 : ∀ (x0 : (Int × (List (Int × Int)))) r, i_IsGraph F x0 = some r → D 63 [Enc.enc x0] = some (Enc.enc (r : Bool))
  g63 : σ 63 = some (0, false)
  c64 : ∀ (x0 : (Int × (List (Int × Int)))) (x1 : (List Int)) r, i_isOrder F x0 x1 = some r → D 64 [Enc.enc x0, Enc.enc x1] = some (Enc.enc (r : Bool))
  g64 : σ 64 = some (0, false)
  c65 : ∀ (x0 : (Int × (List (Int × Int)))) r, i_netOf F x0 = some r → D 65 [Enc.enc x0] = some (Enc.enc (r : (S1 (List Int))))
  g65 : σ 65 = some (0, false)
  c84 : ∀ (x0 : (S1 (List Int))) (x1 : Int) r, i_net_front F x0 x1 = some r → D 84 [Enc.enc x0, Enc.enc x1] = some (Enc.enc (r : Int))
  g84 : σ 84 = some (0, false)
  c83o : ∀ (x0 : Int) r, i_setOf_o F x0 = some r → D 1000000083 [Enc.enc x0] = some (encO .sh (r : NL Int))
  g83o : σ 1000000083 = some (1, false)
abbrev R37o (r : ((NL (NL Int)) × Bool)) : (Nat → V) → Prop := RR Try.prog [.tmp 4, .tmp 5] 2 false (.tup [(encNs (r.1 : NL (NL Int))), (Enc.enc (r.2 : Bool))])
section
variable {D : Den} {σ : Sig} {F : Nat} {r : ((NL (NL Int)) × Bool)}
def i_BagsOfLayout_o_l1 (F : Nat) (r_6 : (S1 (List Int))) (x_2 : (List Int))  : Nat → (NL (NL Int)) → Int → Int → Option ((NL (NL Int)) × Bool)
  | 0, _, _, _ => none
  | k + 1, x_13, x_14, x_15 =>
    bif decide (x_15 < (x_2.length : Int)) then
      (idx x_2 x_15).bind fun e_22 =>
      (i_net_front F r_6 x_14).bind fun r_23 =>
      (shlI .i64 1 e_22).bind fun q_24 =>
      (i_setOf_o F (ior .i64 r_23 q_24)).bind fun r_25 =>
      (appL x_13.list [r_25]).bind fun ap_26 =>
      (shlI .i64 1 e_22).bind fun q_27 =>
      (i_BagsOfLayout_o_l1 F r_6 x_2 k) (.of ap_26) (ior .i64 x_14 q_27) (w64 (x_15 + 1))
    else
      some (x_13, true)
theorem t_f37o_l1 (H : H37o D σ F) (r_6 : (S1 (List Int))) (x_2 : (List Int))  : ∀ (k : Nat) (x_13 : (NL (NL Int))) (x_14 : Int) (x_15 : Int) (s : Nat → V), Facts [(4, (.sl .nl (Enc.shp (List Int)) 0 [])), (5, (jb false)), (6, (.ref (.bx 6) 0 [] (.agg [(eL r_6.a)]))), (7, (encN 7 [] (x_13 : NL (NL Int)))), (8, (ji x_14)), (22, (eL x_2)), (23, (ji (x_2.length : Int))), (24, (ji x_15))] s → i_BagsOfLayout_o_l1 F r_6 x_2 k x_13 x_14 x_15 = some r → Run D σ (R37o r) (.run A37o_1 [.lp A37o_1, .bk 0, .sq A37o_7]) s := by
  intro k
  induction k with
  | zero => intro x_13 x_14 x_15 s _ h; exact nomatch (h : (none : Option _) = some r)
  | succ k ih =>
    intro x_13 x_14 x_15 s hs h
    rw [i_BagsOfLayout_o_l1] at h
    obtain ⟨h4, h5, h6, h7, h8, h22, h23, h24⟩ := hs
    refine .seq (rg (g2 24 23 (jb (decide (x_15 < (x_2.length : Int)))) h24 h23 fun h25 => ?_))
    refine gq (.nsq (.seq (run_cond (t := decide (x_15 < (x_2.length : Int))) h25 h (fun h => ?_) (fun h => ?_))))
    · refine .skip (.nsq (.seq (.block (.seq (rg ?_)))))
      obtain ⟨e_22, E_e_22, h⟩ := bind_some h
      refine gv (.ref .sh 0 [] (ji e_22)) (ev_idx (t := .sh) (lo := 0) (xs := x_2) h22 h24 E_e_22 rfl rfl) fun h26 => ?_
      refine g1 26 (ji e_22) h26 fun h27 => ?_
      refine gm h27 fun h10 => gq (.nsq (.seq (run_reg ?_)))
      refine e_clr ?_
      refine ez [(4, _), (5, _), (6, _), (7, _), (8, _), (10, _), (22, _), (23, _), (24, _), (35, _), (36, _), (37, _)] ⟨(keep_clear (pk := [35, 36, 37]) h4 rfl rfl), (keep_clear (pk := [35, 36, 37]) h5 rfl mb), (keep_clear (pk := [35, 36, 37]) h6 rfl (map_bx rfl (map_agg (maps_cons me maps_nil)))), (keep_clear (pk := [35, 36, 37]) h7 rfl (map_encN (r := 7) (p := []) rfl (fun _ => rfl) rfl)), (keep_clear (pk := [35, 36, 37]) h8 rfl mi), (keep_clear (pk := [35, 36, 37]) h10 rfl mi), (keep_clear (pk := [35, 36, 37]) h22 rfl me), (keep_clear (pk := [35, 36, 37]) h23 rfl mi), (keep_clear (pk := [35, 36, 37]) h24 rfl mi), (gone_clear (pk := [35, 36, 37]) (t := 35) rfl), (gone_clear (pk := [35, 36, 37]) (t := 36) rfl), (gone_clear (pk := [35, 36, 37]) (t := 37) rfl)⟩ ?_
      rintro s ⟨h4, h5, h6, h7, h8, h10, h22, h23, h24, h35, h36, h37⟩
      refine gv (encN 7 [] (x_13 : NL (NL Int))) (ev_mov h7 ok_encN) fun h28 => ?_
      refine g1 6 (.agg [(eL r_6.a)]) h6 fun h29 => ?_
      refine gm h8 fun h30 => ?_
      obtain ⟨r_23, E_r_23, h⟩ := bind_some h
      refine g_call (m := 0) (al := false) (r := (Enc.enc (r_23 : Int))) [Enc.enc (r_6 : (S1 (List Int))), Enc.enc (x_14 : Int)] (ta_cons (v := (.agg [(eL r_6.a)])) h29 rfl (Enc.erase_enc (r_6 : (S1 (List Int)))) (ta_cons (v := (ji x_14)) h30 rfl rfl ta_nil)) (H.c84 _ _ _ E_r_23) H.g84 rfl rfl rfl rfl ?_
      refine gm h10 fun h32 => ?_
      obtain ⟨q_24, E_q_24, h⟩ := bind_some h
      refine gv (ji q_24) (ev_shl rfl h32 E_q_24) fun h33 => ?_
      refine g2 31 33 (ji (ior .i64 r_23 q_24)) (rfl : (_ : V) = (ji r_23)) h33 fun h34 => ?_
      obtain ⟨r_25, E_r_25, h⟩ := bind_some h
      refine g_callO (m := 1) (al := false) (r := (encO .sh (r_25 : NL Int))) (v := (oI 35 [] r_25)) (kk := 1000000083) [Enc.enc (ior .i64 r_23 q_24 : Int)] (ta_cons (v := (ji (ior .i64 r_23 q_24))) h34 rfl rfl ta_nil) (H.c83o _ _ E_r_25) H.g83o rfl toks_encS tag_encO ok_encP h35 ?_
      refine g_litN (a := (r_25 : NL Int)) rfl rfl h36 ?_
      obtain ⟨ap_26, E_ap_26, h⟩ := bind_some h
      refine g_appN (q := 7) (p := []) (o := (x_13 : NL (NL Int))) (a := (r_25 : NL Int)) h28 rfl rfl h37 E_ap_26 rfl rfl (fun s_12 ha_12 => ?_)
      refine gm (rfl : (_ : V) = (.sl (.at 37 []) .p 0 (encR (Tapp 7 [] x_13.list.length 35) 0 (ap_26 : List (NL Int))))) fun h7 => ?_
      refine g_end ?_
      refine e_canApp (d := 37) (q := 7) (t := 35) (p := []) (xs := x_13.list) (zs := ap_26) (a := (r_25 : NL Int)) rfl rfl E_ap_26 rfl rfl rfl (fun s_13 L_13 hv_13 hl_13 hg_13 => ?_)
      refine e_home (r := 37) (x := 7) (v := _) (by exact (show s_13 7 = (encN 37 [] (.of (ap_26 : List (NL Int)) : NL (NL Int))) from hg_13 7 _ _ h7 hv_13)) ok_encN (fun s_14 hg_14 => ?_)
      refine ez [(4, (.sl .nl (Enc.shp (List Int)) 0 [])), (5, (jb false)), (6, (.ref (.bx 6) 0 [] (.agg [(eL r_6.a)]))), (7, (encN 7 [] (.of (ap_26 : List (NL Int)) : NL (NL Int)))), (8, (ji x_14)), (10, (ji e_22)), (22, (eL x_2)), (23, (ji (x_2.length : Int))), (24, (ji x_15))] ⟨(hg_14 4 _ (.sl .nl (Enc.shp (List Int)) 0 []) (show s_13 4 = (.sl .nl (Enc.shp (List Int)) 0 []) from hg_13 4 _ _ (show s_12 4 = (.sl .nl (Enc.shp (List Int)) 0 []) from keep_app ha_12 h4 rfl) rfl) rfl), (hg_14 5 _ _ (show s_13 5 = (jb false) from hg_13 5 _ _ (show s_12 5 = (jb false) from keep_app ha_12 h5 mb) rfl) mb), (hg_14 6 _ _ (show s_13 6 = (.ref (.bx 6) 0 [] (.agg [(eL r_6.a)])) from hg_13 6 _ _ (show s_12 6 = (.ref (.bx 6) 0 [] (.agg [(eL r_6.a)])) from keep_app ha_12 h6 (map_bx rfl (map_agg (maps_cons me maps_nil)))) (map_bx (canF_bx rfl) (map_agg (maps_cons (Enc.map_enc _ (r_6.a : List Int)) maps_nil)))) (map_bx rfl (map_agg (maps_cons me maps_nil)))), (hg_14 7 _ _ (show s_13 7 = (encN 37 [] (.of (ap_26 : List (NL Int)) : NL (NL Int))) from hg_13 7 _ _ h7 hv_13) (map_encN (r := 37) (p := []) rfl (fun _ => rfl) rfl)), (hg_14 8 _ _ (show s_13 8 = (ji x_14) from hg_13 8 _ _ (show s_12 8 = (ji x_14) from keep_app ha_12 h8 mi) rfl) mi), (hg_14 10 _ _ (show s_13 10 = (ji e_22) from hg_13 10 _ _ (show s_12 10 = (ji e_22) from keep_app ha_12 h10 mi) rfl) mi), (hg_14 22 _ _ (show s_13 22 = (eL x_2) from hg_13 22 _ _ (show s_12 22 = (eL x_2) from keep_app ha_12 h22 me) (Enc.map_enc _ (x_2 : List Int))) me), (hg_14 23 _ _ (show s_13 23 = (ji (x_2.length : Int)) from hg_13 23 _ _ (show s_12 23 = (ji (x_2.length : Int)) from keep_app ha_12 h23 mi) rfl) mi), (hg_14 24 _ _ (show s_13 24 = (ji x_15) from hg_13 24 _ _ (show s_12 24 = (ji x_15) from keep_app ha_12 h24 mi) rfl) mi)⟩ ?_
      rintro s ⟨h4, h5, h6, h7, h8, h10, h22, h23, h24⟩
      refine .nsq (rg (gm h8 fun h38 => gm h10 fun h39 => ?_))
      obtain ⟨q_27, E_q_27, h⟩ := bind_some h
      refine gv (ji q_27) (ev_shl rfl h39 E_q_27) fun h40 => ?_
      refine g2 38 40 (ji (ior .i64 x_14 q_27)) h38 h40 fun h41 => ?_
      refine gm h41 fun h8 => gq (.nbk (.nsq (rg (g1 24 (ji (w64 (x_15 + 1))) h24 fun h42 => ?_))))
      refine gm h42 fun h24 => gq (.nlp ?_)
      exact ih (.of ap_26) (ior .i64 x_14 q_27) (w64 (x_15 + 1)) _ ⟨h4, h5, h6, h7, h8, h22, h23, h24⟩ h
    refine .exit (.esq (.elp (.ebk (.nsq (.seq (rg (gv (encN 7 [] (x_13 : NL (NL Int))) (ev_mov h7 ok_encN) fun h43 => ?_)))))))
    refine gv (encN 7 [] (x_13 : NL (NL Int))) (ev_mov h43 ok_encN) fun h4 => ?_
    refine g0 (jb true) fun h5 => ?_
    refine g_end ?_
    refine e_home (r := 7) (x := 4) (v := _) h4 ok_encN (fun s_15 hg_15 => ?_)
    refine ez [(4, (encN 4 [] (x_13 : NL (NL Int)))), (5, (jb true))] ⟨(hg_15 4 _ _ h4 (map_encN (r := 7) (p := []) rfl (fun _ => rfl) rfl)), (hg_15 5 _ _ h5 mb)⟩ ?_
    rintro s ⟨h4, h5⟩
    refine .nsq (.ret ?_)
    have hr := Option.some.inj h
    subst hr
    exact rrB (res_tmp h4) (res_tmp h5) (fin_retN (finN_tup (finNs_cons (finN_N (r := 4) (o := (x_13 : NL (NL Int))) rfl) (finNs_cons finN_bool finNs_nil rfl) rfl)) (mine_tup (mines_cons (mine_N rfl) (mines_cons rfl mines_nil))))
def i_BagsOfLayout_o_j1 (F : Nat) (x_2 : (List Int)) (x_1 : (Int × (List (Int × Int))))  (x_5 : Bool) : Option ((NL (NL Int)) × Bool) :=
  bif x_5 then
    some (.nil, false)
  else
    (i_netOf F x_1).bind fun r_6 =>
    i_BagsOfLayout_o_l1 F r_6 x_2 F .nil 0 0
theorem t_f37o_j1 (H : H37o D σ F) (x_2 : (List Int)) (x_1 : (Int × (List (Int × Int))))  (x_5 : Bool) (s : Nat → V) (hs : Facts [(1, (eL x_2)), (2, (.ref (.bx 2) 0 [] (.agg [(ji x_1.1), (Enc.enc (x_1.2 : List (Int × Int)))]))), (4, (.sl .nl (Enc.shp (List Int)) 0 [])), (5, (jb false)), (19, (jb x_5))] s) (h : i_BagsOfLayout_o_j1 F x_2 x_1  x_5 = some r) : Run D σ (R37o r) (.nrm [.sq A37o_8, .sq A37o_9]) s := by
  unfold i_BagsOfLayout_o_j1 at h
  obtain ⟨h1, h2, h4, h5, h19⟩ := hs
  refine .nsq (run_cond (t := x_5) h19 h (fun h => ?_) (fun h => ?_))
  · refine .seq (rg (g0 (.sl .nl (Enc.shp (List Int)) 0 []) fun h4 => ?_))
    refine g0 (jb false) fun h5 => ?_
    refine gq (.nsq (.ret ?_))
    have hr := Option.some.inj h
    subst hr
    exact rrB (res_tmp h4) (res_tmp h5) (fin_retN (finN_tup (finNs_cons (finN_nilN (α := Int)) (finNs_cons finN_bool finNs_nil rfl) rfl)) (mine_tup (mines_cons mine_nil (mines_cons rfl mines_nil))))
  refine .skip (.nsq (.seq (run_reg ?_)))
  refine e_clr ?_
  refine ez [(1, _), (2, _), (4, _), (5, _), (6, _)] ⟨(keep_clear (pk := [6]) h1 rfl me), (keep_clear (pk := [6]) h2 rfl (map_bx rfl (map_agg (maps_cons mi (maps_cons me maps_nil))))), (keep_clear (pk := [6]) h4 rfl rfl), (keep_clear (pk := [6]) h5 rfl mb), (gone_clear (pk := [6]) (t := 6) rfl)⟩ ?_
  rintro s ⟨h1, h2, h4, h5, h6⟩
  refine g1 2 (.agg [(ji x_1.1), (Enc.enc (x_1.2 : List (Int × Int)))]) h2 fun h20 => ?_
  obtain ⟨r_6, E_r_6, h⟩ := bind_some h
  refine g_call (m := 0) (al := false) (r := (Enc.enc (r_6 : (S1 (List Int))))) [Enc.enc (x_1 : (Int × (List (Int × Int))))] (ta_cons (v := (.agg [(ji x_1.1), (Enc.enc (x_1.2 : List (Int × Int)))])) h20 rfl (Enc.erase_enc (x_1 : (Int × (List (Int × Int))))) ta_nil) (H.c65 _ _ E_r_6) H.g65 rfl rfl rfl rfl ?_
  refine g_alloc h6 ?_
  refine g_store (.agg [(eL r_6.a)]) (rd_of rfl rfl) (rd_of rfl rfl) (by refine ⟨by decide, by decide, rfl, rfl, rfl, ?_⟩; first | rfl | simp [V.toks, V.tokss, Enc.toks_enc]) ?_
  refine gz [(1, (eL x_2)), (4, (.sl .nl (Enc.shp (List Int)) 0 [])), (5, (jb false)), (6, (.ref (.bx 6) 0 [] (.agg [(eL r_6.a)])))] ⟨(keep_mut h1 (Enc.mut_enc _ _ _ _ (x_2 : List Int))), (keep_mut h4 rfl), (keep_mut h5 rfl), (keep_mut rfl rfl)⟩ ?_
  rintro s ⟨h1, h4, h5, h6⟩
  refine .nsq (.seq (rg (g0 (.sl .nl (Enc.shp (List Int)) 0 []) fun h7 => ?_)))
  refine gq (.nsq (.seq (rg (g0 (ji 0) fun h8 => gq (.nsq (.seq (.seq (rg (gm h1 fun h22 => gv (ji (x_2.length : Int)) (ev_len (xs := x_2) h22) fun h23 => ?_)))))))))
  refine g0 (ji 0) fun h24 => gq (.nsq (.block (.loop ?_)))
  exact t_f37o_l1 H r_6 x_2 F .nil 0 0 _ ⟨h4, h5, h6, h7, h8, h22, h23, h24⟩ h
def i_BagsOfLayout_o (F : Nat) (x_1 : (Int × (List (Int × Int)))) (x_2 : (List Int)) : Option ((NL (NL Int)) × Bool) :=
  (i_IsGraph F x_1).bind fun r_28 =>
  bif (!r_28) then
    i_BagsOfLayout_o_j1 F x_2 x_1 true
  else
    (i_isOrder F x_1 x_2).bind fun r_29 =>
    i_BagsOfLayout_o_j1 F x_2 x_1 (!r_29)
theorem t37o (H : H37o D σ F) (x_1 : (Int × (List (Int × Int)))) (x_2 : (List Int)) (s : Nat → V) (hs : Facts [(0, (.agg [(ji x_1.1), (Enc.enc (x_1.2 : List (Int × Int)))])), (1, (eL x_2))] s) (h : i_BagsOfLayout_o F x_1 x_2 = some r) : Run D σ (R37o r) (.run A37o []) s := by
  unfold i_BagsOfLayout_o at h
  obtain ⟨h0, h1⟩ := hs
  refine .seq (run_reg ?_)
  refine e_clr ?_
  refine ez [(0, _), (1, _), (2, _)] ⟨(keep_clear (pk := [2]) h0 rfl (map_agg (maps_cons mi (maps_cons me maps_nil)))), (keep_clear (pk := [2]) h1 rfl me), (gone_clear (pk := [2]) (t := 2) rfl)⟩ ?_
  rintro s ⟨h0, h1, h2⟩
  refine g_box (.agg [(ji x_1.1), (Enc.enc (x_1.2 : List (Int × Int)))]) (rd_of h0 rfl) h2 rfl ?_
  refine g0 (.sl .nl (Enc.shp (List Int)) 0 []) fun h4 => ?_
  refine g0 (jb false) fun h5 => ?_
  refine gq (.nsq (.seq (.seq (rg (g1 2 (.agg [(ji x_1.1), (Enc.enc (x_1.2 : List (Int × Int)))]) (rfl : (_ : V) = (.ref (.bx 2) 0 [] (.agg [(ji x_1.1), (Enc.enc (x_1.2 : List (Int × Int)))]))) fun h11 => ?_)))))
  obtain ⟨r_28, E_r_28, h⟩ := bind_some h
  refine g_call (m := 0) (al := false) (r := (Enc.enc (r_28 : Bool))) [Enc.enc (x_1 : (Int × (List (Int × Int))))] (ta_cons (v := (.agg [(ji x_1.1), (Enc.enc (x_1.2 : List (Int × Int)))])) h11 rfl (Enc.erase_enc (x_1 : (Int × (List (Int × Int))))) ta_nil) (H.c63 _ _ E_r_28) H.g63 rfl rfl rfl rfl ?_
  refine g1 12 (jb (!r_28)) (rfl : (_ : V) = (jb r_28)) fun h13 => ?_
  refine gm h13 fun h14 => split_on (c := (!r_28)) h (fun hg4 h => ?_) (fun hg4 h => ?_)
  · refine g_no (h14.trans (congrArg V.bool hg4)) ?_
    refine g_no (h14.trans (congrArg V.bool hg4)) ?_
    refine g_no (h14.trans (congrArg V.bool hg4)) ?_
    refine g_no (h14.trans (congrArg V.bool hg4)) ?_
    refine g2 14 18 (jb true) (h14.trans (congrArg V.bool hg4)) (rfl : (_ : V) = (.tup [])) fun h19 => ?_
    refine gq ?_
    exact t_f37o_j1 H x_2 x_1 true _ ⟨h1, rfl, h4, h5, h19⟩ h
  refine g_yes (h14.trans (congrArg V.bool hg4)) (g1 2 (.agg [(ji x_1.1), (Enc.enc (x_1.2 : List (Int × Int)))]) (rfl : (_ : V) = (.ref (.bx 2) 0 [] (.agg [(ji x_1.1), (Enc.enc (x_1.2 : List (Int × Int)))]))) fun h15 => ?_)
  refine g_yes (h14.trans (congrArg V.bool hg4)) (gm h1 fun h16 => ?_)
  obtain ⟨r_29, E_r_29, h⟩ := bind_some h
  refine g_yes (h14.trans (congrArg V.bool hg4)) (g_call (m := 0) (al := false) (r := (Enc.enc (r_29 : Bool))) [Enc.enc (x_1 : (Int × (List (Int × Int)))), Enc.enc (x_2 : (List Int))] (ta_cons (v := (.agg [(ji x_1.1), (Enc.enc (x_1.2 : List (Int × Int)))])) h15 rfl (Enc.erase_enc (x_1 : (Int × (List (Int × Int))))) (ta_cons (v := (eL x_2)) h16 rfl (Enc.erase_enc (x_2 : (List Int))) ta_nil)) (H.c64 _ _ _ E_r_29) H.g64 rfl rfl rfl rfl ?_)
  refine g_yes (h14.trans (congrArg V.bool hg4)) (g1 17 (jb (!r_29)) (rfl : (_ : V) = (jb r_29)) fun h18 => ?_)
  refine g2 14 18 (jb (!r_29)) (h14.trans (congrArg V.bool hg4)) h18 fun h19 => ?_
  refine gq ?_
  exact t_f37o_j1 H x_2 x_1 (!r_29) _ ⟨h1, rfl, h4, h5, h19⟩ h
end
def e37o (F : Nat) : Ent := ent 1000000037 (fun (x : ((Int × (List (Int × Int))) × (List Int) × Unit)) => i_BagsOfLayout_o F x.1 x.2.1) (fun (r : ((NL (NL Int)) × Bool)) => (.tup [(encNs (r.1 : NL (NL Int))), (Enc.enc (r.2 : Bool))])) 2 false []
theorem p37o {F : Nat} {x0 : (Int × (List (Int × Int)))} {x1 : (List Int)} {r : ((NL (NL Int)) × Bool)} (h : i_BagsOfLayout_o F x0 x1 = some r) : (e37o F).den [Enc.enc x0, Enc.enc x1] = some (.tup [(encNs (r.1 : NL (NL Int))), (Enc.enc (r.2 : Bool))]) := ent_put (x0, x1, ()) h
theorem o37o {D : Den} {σ : Sig} {F : Nat} (hF : Fits2 Try.prog D σ) (H : H37o D σ F) : (e37o F).Ok Try.prog := by
  refine ok_of (f := 37) (show unk 1000000037 = 37 from rfl) (fun args r h => ?_) ⟨Try.f37, Try.func37, rfl, rfl⟩
  obtain ⟨⟨x0, x1, _⟩, y, rfl, hy, rfl⟩ := da_open h
  exact contract_run hF (by kernel_rfl) Try.func37 rfl c37o (show 2 ≤ Try.f37.ntmps by decide) (t37o H x0 x1 _ ⟨rfl, rfl⟩ hy)
/- loop.example/g01109/laws.eqIntS -/
def A21_2 : AC := (.cond (.t 14) .skip (.exit 0))
def A21_4 : AC := (.cond (.t 25) (.seq (.reg [] [((jv 4 (.mov (.k (.bool false)))))] []) .ret) .skip)
def A21_5 : AC := (.reg [] [(jm 15 5), ((jv 16 (.bin .add (.t 15) (jn 1)))), (jm 5 16)] [])
def A21_3 : AC := (.seq (.block 1 (.seq (.reg [] [(jm 17 0), (jm 18 5), ((jv 19 (.idx (.t 17) (.t 18) 1))), ((jv 20 (.load .s (.t 19)))), (jm 21 1), (jm 22 5), ((jv 23 (.idx (.t 21) (.t 22) 1))), ((jv 24 (.load .s (.t 23)))), ((jv 25 (.bin .neq (.t 20) (.t 24))))] []) A21_4)) A21_5)
def A21_1 : AC := (.seq (.seq (.reg [] [(jm 11 5), (jm 12 0), ((jv 13 (.len (.t 12)))), ((jv 14 (.bin .lss (.t 11) (.t 13))))] []) A21_2) A21_3)
def A21_6 : AC := (.seq (.reg [] [((jv 4 (.mov (.k (.bool true)))))] []) .ret)
def A21_8 : AC := (.cond (.t 10) (.seq (.reg [] [((jv 4 (.mov (.k (.bool false)))))] []) .ret) .skip)
def A21_10 : AC := (.block 0 (.loop A21_1))
def A21_9 : AC := (.seq (.seq (.reg [] [((jv 5 (.mov (jn 0))))] []) A21_10) A21_6)
def A21_7 : AC := (.seq (.seq (.reg [] [(jm 6 0), ((jv 7 (.len (.t 6)))), (jm 8 1), ((jv 9 (.len (.t 8)))), ((jv 10 (.bin .neq (.t 7) (.t 9))))] []) A21_8) A21_9)
def A21 : AC := (.seq (.reg [] [((jv 4 (.mov (.k (.bool false)))))] []) A21_7)
def an21 : List An := []
theorem c21 : cC Try.prog Try.f21.ntmps an21 (Try.f21.body.getD .skip) = some A21 := by kernel_rfl
structure H21 (D : Den) (σ : Sig) (F : Nat) : Prop where
  mk ::
abbrev R21 (r : Bool) : (Nat → V) → Prop := RR Try.prog [.tmp 4] 0 false (Enc.enc (r : Bool))
section
variable {D : Den} {σ : Sig} {F : Nat} {r : Bool}
def w_eqIntS_l1 (F : Nat) (x_1 : (List Int)) (x_2 : (List Int))  : Nat → Int → Option Bool
  | 0, _ => none
  | k + 1, x_5 =>
    bif decide (x_5 < (x_1.length : Int)) then
      (idx x_1 x_5).bind fun e_8 =>
      (idx x_2 x_5).bind fun e_9 =>
      bif (e_8 != e_9) then
        some false
      else
        (w_eqIntS_l1 F x_1 x_2 k) (w64 (x_5 + 1))
    else
      some true
theorem t_f21_l1 (H : H21 D σ F) (x_1 : (List Int)) (x_2 : (List Int))  : ∀ (k : Nat) (x_5 : Int) (s : Nat → V), Facts [(0, (eL x_1)), (1, (eL x_2)), (4, (jb false)), (5, (ji x_5))] s → w_eqIntS_l1 F x_1 x_2 k x_5 = some r → Run D σ (R21 r) (.run A21_1 [.lp A21_1, .bk 0, .sq A21_6]) s := by
  intro k
  induction k with
  | zero => intro x_5 s _ h; exact nomatch (h : (none : Option _) = some r)
  | succ k ih =>
    intro x_5 s hs h
    rw [w_eqIntS_l1] at h
    obtain ⟨h0, h1, h4, h5⟩ := hs
    refine .seq (.seq (rg (gm h5 fun h11 => gm h0 fun h12 => gv (ji (x_1.length : Int)) (ev_len (xs := x_1) h12) fun h13 => ?_)))
    refine g2 11 13 (jb (decide (x_5 < (x_1.length : Int)))) h11 h13 fun h14 => ?_
    refine gq (.nsq (run_cond (t := decide (x_5 < (x_1.length : Int))) h14 h (fun h => ?_) (fun h => ?_)))
    · refine .skip (.nsq (.seq (.block (.seq (rg (gm h0 fun h17 => gm h5 fun h18 => ?_))))))
      obtain ⟨e_8, E_e_8, h⟩ := bind_some h
      refine gv (.ref .sh 0 [] (ji e_8)) (ev_idx (t := .sh) (lo := 0) (xs := x_1) h17 h18 E_e_8 rfl rfl) fun h19 => ?_
      refine g1 19 (ji e_8) h19 fun h20 => ?_
      refine gm h1 fun h21 => gm h5 fun h22 => ?_
      obtain ⟨e_9, E_e_9, h⟩ := bind_some h
      refine gv (.ref .sh 0 [] (ji e_9)) (ev_idx (t := .sh) (lo := 0) (xs := x_2) h21 h22 E_e_9 rfl rfl) fun h23 => ?_
      refine g1 23 (ji e_9) h23 fun h24 => ?_
      refine g2 20 24 (jb (e_8 != e_9)) h20 h24 fun h25 => ?_
      refine gq (.nsq (run_cond (t := (e_8 != e_9)) h25 h (fun h => ?_) (fun h => ?_)))
      · refine .seq (rg (g0 (jb false) fun h4 => ?_))
        refine gq (.nsq (.ret ?_))
        have hr := Option.some.inj h
        subst hr
        exact rrA (res_tmp h4) rfl
      refine .skip (.nbk (.nsq (rg (gm h5 fun h15 => g1 15 (ji (w64 (x_5 + 1))) h15 fun h16 => ?_))))
      refine gm h16 fun h5 => gq (.nlp ?_)
      exact ih (w64 (x_5 + 1)) _ ⟨h0, h1, h4, h5⟩ h
    refine .exit (.esq (.elp (.ebk (.nsq (.seq (rg (g0 (jb true) fun h4 => ?_)))))))
    refine gq (.nsq (.ret ?_))
    have hr := Option.some.inj h
    subst hr
    exact rrA (res_tmp h4) rfl
def w_eqIntS (F : Nat) (x_1 : (List Int)) (x_2 : (List Int)) : Option Bool :=
  bif ((x_1.length : Int) != (x_2.length : Int)) then
    some false
  else
    w_eqIntS_l1 F x_1 x_2 F 0
theorem t21 (H : H21 D σ F) (x_1 : (List Int)) (x_2 : (List Int)) (s : Nat → V) (hs : Facts [(0, (eL x_1)), (1, (eL x_2))] s) (h : w_eqIntS F x_1 x_2 = some r) : Run D σ (R21 r) (.run A21 []) s := by
  unfold w_eqIntS at h
  obtain ⟨h0, h1⟩ := hs
  refine .seq (rg (g0 (jb false) fun h4 => ?_))
  refine gq (.nsq (.seq (.seq (rg (gm h0 fun h6 => gv (ji (x_1.length : Int)) (ev_len (xs := x_1) h6) fun h7 => ?_)))))
  refine gm h1 fun h8 => gv (ji (x_2.length : Int)) (ev_len (xs := x_2) h8) fun h9 => ?_
  refine g2 7 9 (jb ((x_1.length : Int) != (x_2.length : Int))) h7 h9 fun h10 => ?_
  refine gq (.nsq (run_cond (t := ((x_1.length : Int) != (x_2.length : Int))) h10 h (fun h => ?_) (fun h => ?_)))
  · refine .seq (rg (g0 (jb false) fun h4 => ?_))
    refine gq (.nsq (.ret ?_))
    have hr := Option.some.inj h
    subst hr
    exact rrA (res_tmp h4) rfl
  refine .skip (.nsq (.seq (.seq (rg (g0 (ji 0) fun h5 => gq (.nsq (.block (.loop ?_))))))))
  exact t_f21_l1 H x_1 x_2 F 0 _ ⟨h0, h1, h4, h5⟩ h
end
def e21 (F : Nat) : Ent := ent 21 (fun (x : ((List Int) × (List Int) × Unit)) => w_eqIntS F x.1 x.2.1) (fun (r : Bool) => (Enc.enc (r : Bool))) 0 false []
theorem p21 {F : Nat} {x0 : (List Int)} {x1 : (List Int)} {r : Bool} (h : w_eqIntS F x0 x1 = some r) : (e21 F).den [Enc.enc x0, Enc.enc x1] = some (Enc.enc (r : Bool)) := ent_put (x0, x1, ()) h
theorem o21 {D : Den} {σ : Sig} {F : Nat} (hF : Fits2 Try.prog D σ) (H : H21 D σ F) : (e21 F).Ok Try.prog := by
  refine ok_of (f := 21) (show unk 21 = 21 from rfl) (fun args r h => ?_) ⟨Try.f21, Try.func21, rfl, rfl⟩
  obtain ⟨⟨x0, x1, _⟩, y, rfl, hy, rfl⟩ := da_open h
  exact contract_run hF (by kernel_rfl) Try.func21 rfl c21 (show 2 ≤ Try.f21.ntmps by decide) (t21 H x0 x1 _ ⟨rfl, rfl⟩ hy)
/- loop.example/g01109/laws.eqIntSS -/
def A29_2 : AC := (.cond (.t 14) .skip (.exit 0))
def A29_4 : AC := (.cond (.t 26) (.seq (.reg [] [((jv 4 (.mov (.k (.bool false)))))] []) .ret) .skip)
def A29_5 : AC := (.reg [] [(jm 15 5), ((jv 16 (.bin .add (.t 15) (jn 1)))), (jm 5 16)] [])
def A29_3 : AC := (.seq (.block 1 (.seq (.reg [] [(jm 17 0), (jm 18 5), ((jv 19 (.idx (.t 17) (.t 18) 1))), ((jv 20 (.load .p (.t 19)))), (jm 21 1), (jm 22 5), ((jv 23 (.idx (.t 21) (.t 22) 1))), ((jv 24 (.load .p (.t 23)))), (.mk (some 25) none false (.call (.k (.fn 21 [] [])) [(.t 20), (.t 24)])), ((jv 26 (.un .not (.t 25))))] []) A29_4)) A29_5)
def A29_1 : AC := (.seq (.seq (.reg [] [(jm 11 5), (jm 12 0), ((jv 13 (.len (.t 12)))), ((jv 14 (.bin .lss (.t 11) (.t 13))))] []) A29_2) A29_3)
def A29_6 : AC := (.seq (.reg [] [((jv 4 (.mov (.k (.bool true)))))] []) .ret)
def A29_8 : AC := (.cond (.t 10) (.seq (.reg [] [((jv 4 (.mov (.k (.bool false)))))] []) .ret) .skip)
def A29_10 : AC := (.block 0 (.loop A29_1))
def A29_9 : AC := (.seq (.seq (.reg [] [((jv 5 (.mov (jn 0))))] []) A29_10) A29_6)
def A29_7 : AC := (.seq (.seq (.reg [] [(jm 6 0), ((jv 7 (.len (.t 6)))), (jm 8 1), ((jv 9 (.len (.t 8)))), ((jv 10 (.bin .neq (.t 7) (.t 9))))] []) A29_8) A29_9)
def A29 : AC := (.seq (.reg [] [((jv 4 (.mov (.k (.bool false)))))] []) A29_7)
def an29 : List An := []
theorem c29 : cC Try.prog Try.f29.ntmps an29 (Try.f29.body.getD .skip) = some A29 := by kernel_rfl
structure H29 (D : Den) (σ : Sig) (F : Nat) : Prop where
  c21 : ∀ (x0 : (List Int)) (x1 : (List Int)) r, w_eqIntS F x0 x1 = some r → D 21 [Enc.enc x0, Enc.enc x1] = some (Enc.enc (r : Bool))
  g21 : σ 21 = some (0, false)
abbrev R29 (r : Bool) : (Nat → V) → Prop := RR Try.prog [.tmp 4] 0 false (Enc.enc (r : Bool))
section
variable {D : Den} {σ : Sig} {F : Nat} {r : Bool}
def w_eqIntSS_l1 (F : Nat) (x_1 : (List (List Int))) (x_2 : (List (List Int)))  : Nat → Int → Option Bool
  | 0, _ => none
  | k + 1, x_6 =>
    bif decide (x_6 < (x_1.length : Int)) then
      (idx x_1 x_6).bind fun e_10 =>
      (idx x_2 x_6).bind fun e_11 =>
      (w_eqIntS F e_10 e_11).bind fun r_12 =>
      bif (!r_12) then
        some false
      else
        (w_eqIntSS_l1 F x_1 x_2 k) (w64 (x_6 + 1))
    else
      some true
theorem t_f29_l1 (H : H29 D σ F) (x_1 : (List (List Int))) (x_2 : (List (List Int)))  : ∀ (k : Nat) (x_6 : Int) (s : Nat → V), Facts [(0, (Enc.enc (x_1 : List (List Int)))), (1, (Enc.enc (x_2 : List (List Int)))), (4, (jb false)), (5, (ji x_6))] s → w_eqIntSS_l1 F x_1 x_2 k x_6 = some r → Run D σ (R29 r) (.run A29_1 [.lp A29_1, .bk 0, .sq A29_6]) s := by
  intro k
  induction k with
  | zero => intro x_6 s _ h; exact nomatch (h : (none : Option _) = some r)
  | succ k ih =>
    intro x_6 s hs h
    rw [w_eqIntSS_l1] at h
    obtain ⟨h0, h1, h4, h5⟩ := hs
    refine .seq (.seq (rg (gm h5 fun h11 => gm h0 fun h12 => gv (ji (x_1.length : Int)) (ev_len (xs := x_1) h12) fun h13 => ?_)))
    refine g2 11 13 (jb (decide (x_6 < (x_1.length : Int)))) h11 h13 fun h14 => ?_
    refine gq (.nsq (run_cond (t := decide (x_6 < (x_1.length : Int))) h14 h (fun h => ?_) (fun h => ?_)))
    · refine .skip (.nsq (.seq (.block (.seq (rg (gm h0 fun h17 => gm h5 fun h18 => ?_))))))
      obtain ⟨e_10, E_e_10, h⟩ := bind_some h
      refine gv (.ref .sh 0 [] (eL e_10)) (ev_idx (t := .sh) (lo := 0) (xs := x_1) h17 h18 E_e_10 rfl rfl) fun h19 => ?_
      refine g1 19 (eL e_10) h19 fun h20 => ?_
      refine gm h1 fun h21 => gm h5 fun h22 => ?_
      obtain ⟨e_11, E_e_11, h⟩ := bind_some h
      refine gv (.ref .sh 0 [] (eL e_11)) (ev_idx (t := .sh) (lo := 0) (xs := x_2) h21 h22 E_e_11 rfl rfl) fun h23 => ?_
      refine g1 23 (eL e_11) h23 fun h24 => ?_
      obtain ⟨r_12, E_r_12, h⟩ := bind_some h
      refine g_call (m := 0) (al := false) (r := (Enc.enc (r_12 : Bool))) [Enc.enc (e_10 : (List Int)), Enc.enc (e_11 : (List Int))] (ta_cons (v := (eL e_10)) h20 rfl (Enc.erase_enc (e_10 : (List Int))) (ta_cons (v := (eL e_11)) h24 rfl (Enc.erase_enc (e_11 : (List Int))) ta_nil)) (H.c21 _ _ _ E_r_12) H.g21 rfl rfl rfl rfl ?_
      refine g1 25 (jb (!r_12)) (rfl : (_ : V) = (jb r_12)) fun h26 => ?_
      refine gq (.nsq (run_cond (t := (!r_12)) h26 h (fun h => ?_) (fun h => ?_)))
      · refine .seq (rg (g0 (jb false) fun h4 => ?_))
        refine gq (.nsq (.ret ?_))
        have hr := Option.some.inj h
        subst hr
        exact rrA (res_tmp h4) rfl
      refine .skip (.nbk (.nsq (rg (gm h5 fun h15 => g1 15 (ji (w64 (x_6 + 1))) h15 fun h16 => ?_))))
      refine gm h16 fun h5 => gq (.nlp ?_)
      exact ih (w64 (x_6 + 1)) _ ⟨h0, h1, h4, h5⟩ h
    refine .exit (.esq (.elp (.ebk (.nsq (.seq (rg (g0 (jb true) fun h4 => ?_)))))))
    refine gq (.nsq (.ret ?_))
    have hr := Option.some.inj h
    subst hr
    exact rrA (res_tmp h4) rfl
def w_eqIntSS (F : Nat) (x_1 : (List (List Int))) (x_2 : (List (List Int))) : Option Bool :=
  bif ((x_1.length : Int) != (x_2.length : Int)) then
    some false
  else
    w_eqIntSS_l1 F x_1 x_2 F 0
theorem t29 (H : H29 D σ F) (x_1 : (List (List Int))) (x_2 : (List (List Int))) (s : Nat → V) (hs : Facts [(0, (Enc.enc (x_1 : List (List Int)))), (1, (Enc.enc (x_2 : List (List Int))))] s) (h : w_eqIntSS F x_1 x_2 = some r) : Run D σ (R29 r) (.run A29 []) s := by
  unfold w_eqIntSS at h
  obtain ⟨h0, h1⟩ := hs
  refine .seq (rg (g0 (jb false) fun h4 => ?_))
  refine gq (.nsq (.seq (.seq (rg (gm h0 fun h6 => gv (ji (x_1.length : Int)) (ev_len (xs := x_1) h6) fun h7 => ?_)))))
  refine gm h1 fun h8 => gv (ji (x_2.length : Int)) (ev_len (xs := x_2) h8) fun h9 => ?_
  refine g2 7 9 (jb ((x_1.length : Int) != (x_2.length : Int))) h7 h9 fun h10 => ?_
  refine gq (.nsq (run_cond (t := ((x_1.length : Int) != (x_2.length : Int))) h10 h (fun h => ?_) (fun h => ?_)))
  · refine .seq (rg (g0 (jb false) fun h4 => ?_))
    refine gq (.nsq (.ret ?_))
    have hr := Option.some.inj h
    subst hr
    exact rrA (res_tmp h4) rfl
  refine .skip (.nsq (.seq (.seq (rg (g0 (ji 0) fun h5 => gq (.nsq (.block (.loop ?_))))))))
  exact t_f29_l1 H x_1 x_2 F 0 _ ⟨h0, h1, h4, h5⟩ h
end
def e29 (F : Nat) : Ent := ent 29 (fun (x : ((List (List Int)) × (List (List Int)) × Unit)) => w_eqIntSS F x.1 x.2.1) (fun (r : Bool) => (Enc.enc (r : Bool))) 0 false []
theorem p29 {F : Nat} {x0 : (List (List Int))} {x1 : (List (List Int))} {r : Bool} (h : w_eqIntSS F x0 x1 = some r) : (e29 F).den [Enc.enc x0, Enc.enc x1] = some (Enc.enc (r : Bool)) := ent_put (x0, x1, ()) h
theorem o29 {D : Den} {σ : Sig} {F : Nat} (hF : Fits2 Try.prog D σ) (H : H29 D σ F) : (e29 F).Ok Try.prog := by
  refine ok_of (f := 29) (show unk 29 = 29 from rfl) (fun args r h => ?_) ⟨Try.f29, Try.func29, rfl, rfl⟩
  obtain ⟨⟨x0, x1, _⟩, y, rfl, hy, rfl⟩ := da_open h
  exact contract_run hF (by kernel_rfl) Try.func29 rfl c29 (show 2 ≤ Try.f29.ntmps by decide) (t29 H x0 x1 _ ⟨rfl, rfl⟩ hy)
/- loop.example/g01109/laws.eqIntA2 -/
def A129_2 : AC := (.cond (.t 7) .skip (.exit 0))
def A129_4 : AC := (.cond (.t 16) (.seq (.reg [] [((jv 4 (.mov (.k (.bool false)))))] []) .ret) .skip)
def A129_5 : AC := (.reg [] [(jm 8 5), ((jv 9 (.bin .add (.t 8) (jn 1)))), (jm 5 9)] [])
def A129_3 : AC := (.seq (.block 1 (.seq (.reg [] [(jm 10 5), ((jv 11 (.idxA (.t 2) (.t 10) 2 1))), ((jv 12 (.load .s (.t 11)))), (jm 13 5), ((jv 14 (.idxA (.t 3) (.t 13) 2 1))), ((jv 15 (.load .s (.t 14)))), ((jv 16 (.bin .neq (.t 12) (.t 15))))] []) A129_4)) A129_5)
def A129_1 : AC := (.seq (.seq (.reg [] [(jm 6 5), ((jv 7 (.bin .lss (.t 6) (jn 2))))] []) A129_2) A129_3)
def A129_6 : AC := (.seq (.reg [] [((jv 4 (.mov (.k (.bool true)))))] []) .ret)
def A129_8 : AC := (.block 0 (.loop A129_1))
def A129_7 : AC := (.seq (.seq (.reg [] [((jv 5 (.mov (jn 0))))] []) A129_8) A129_6)
def A129 : AC := (.seq (.reg [.clr [2, 3]] [(.mk (some 2) none false (.box (.t 0))), (.mk (some 3) none false (.box (.t 1))), ((jv 4 (.mov (.k (.bool false)))))] []) A129_7)
def an129 : List An := [{ id := 0, pre := [.clr [2, 3]], ep := [], lin := [], sp := [] }]
theorem c129 : cC Try.prog Try.f129.ntmps an129 (Try.f129.body.getD .skip) = some A129 := by kernel_rfl
structure H129 (D : Den) (σ : Sig) (F : Nat) : Prop where
  mk ::
abbrev R129 (r : Bool) : (Nat → V) → Prop := RR Try.prog [.tmp 4] 0 false (Enc.enc (r : Bool))
section
variable {D : Den} {σ : Sig} {F : Nat} {r : Bool}
def w_eqIntA2_l1 (F : Nat) (x_1 : (Int × Int)) (x_2 : (Int × Int))  : Nat → Int → Option Bool
  | 0, _ => none
  | k + 1, x_3 =>
    bif decide (x_3 < 2) then
      (idx [x_1.1, x_1.2] x_3).bind fun e_6 =>
      (idx [x_2.1, x_2.2] x_3).bind fun e_7 =>
      bif (e_6 != e_7) then
        some false
      else
        (w_eqIntA2_l1 F x_1 x_2 k) (w64 (x_3 + 1))
    else
      some true
theorem t_f129_l1 (H : H129 D σ F) (x_1 : (Int × Int)) (x_2 : (Int × Int))  : ∀ (k : Nat) (x_3 : Int) (s : Nat → V), Facts [(2, (.ref (.bx 2) 0 [] (.agg [(ji x_1.1), (ji x_1.2)]))), (3, (.ref (.bx 3) 0 [] (.agg [(ji x_2.1), (ji x_2.2)]))), (4, (jb false)), (5, (ji x_3))] s → w_eqIntA2_l1 F x_1 x_2 k x_3 = some r → Run D σ (R129 r) (.run A129_1 [.lp A129_1, .bk 0, .sq A129_6]) s := by
  intro k
  induction k with
  | zero => intro x_3 s _ h; exact nomatch (h : (none : Option _) = some r)
  | succ k ih =>
    intro x_3 s hs h
    rw [w_eqIntA2_l1] at h
    obtain ⟨h2, h3, h4, h5⟩ := hs
    refine .seq (.seq (rg (gm h5 fun h6 => g1 6 (jb (decide (x_3 < 2))) h6 fun h7 => ?_)))
    refine gq (.nsq (run_cond (t := decide (x_3 < 2)) h7 h (fun h => ?_) (fun h => ?_)))
    · refine .skip (.nsq (.seq (.block (.seq (rg (gm h5 fun h10 => ?_))))))
      obtain ⟨e_6, E_e_6, h⟩ := bind_some h
      refine gv (.ref (.bx 2) 0 [x_3.toNat] (ji e_6)) (ev_idxA (xs := [x_1.1, x_1.2]) (a := e_6) (n := x_3) (q := []) h2 h10 E_e_6 rfl rfl rfl) fun h11 => ?_
      refine g1 11 (ji e_6) h11 fun h12 => ?_
      refine gm h5 fun h13 => ?_
      obtain ⟨e_7, E_e_7, h⟩ := bind_some h
      refine gv (.ref (.bx 3) 0 [x_3.toNat] (ji e_7)) (ev_idxA (xs := [x_2.1, x_2.2]) (a := e_7) (n := x_3) (q := []) h3 h13 E_e_7 rfl rfl rfl) fun h14 => ?_
      refine g1 14 (ji e_7) h14 fun h15 => ?_
      refine g2 12 15 (jb (e_6 != e_7)) h12 h15 fun h16 => ?_
      refine gq (.nsq (run_cond (t := (e_6 != e_7)) h16 h (fun h => ?_) (fun h => ?_)))
      · refine .seq (rg (g0 (jb false) fun h4 => ?_))
        refine gq (.nsq (.ret ?_))
        have hr := Option.some.inj h
        subst hr
        exact rrA (res_tmp h4) rfl
      refine .skip (.nbk (.nsq (rg (gm h5 fun h8 => g1 8 (ji (w64 (x_3 + 1))) h8 fun h9 => ?_))))
      refine gm h9 fun h5 => gq (.nlp ?_)
      exact ih (w64 (x_3 + 1)) _ ⟨h2, h3, h4, h5⟩ h
    refine .exit (.esq (.elp (.ebk (.nsq (.seq (rg (g0 (jb true) fun h4 => ?_)))))))
    refine gq (.nsq (.ret ?_))
    have hr := Option.some.inj h
    subst hr
    exact rrA (res_tmp h4) rfl
def w_eqIntA2 (F : Nat) (x_1 : (Int × Int)) (x_2 : (Int × Int)) : Option Bool :=
  w_eqIntA2_l1 F x_1 x_2 F 0
theorem t129 (H : H129 D σ F) (x_1 : (Int × Int)) (x_2 : (Int × Int)) (s : Nat → V) (hs : Facts [(0, (.agg [(ji x_1.1), (ji x_1.2)])), (1, (.agg [(ji x_2.1), (ji x_2.2)]))] s) (h : w_eqIntA2 F x_1 x_2 = some r) : Run D σ (R129 r) (.run A129 []) s := by
  unfold w_eqIntA2 at h
  obtain ⟨h0, h1⟩ := hs
  refine .seq (run_reg ?_)
  refine e_clr ?_
  refine ez [(0, _), (1, _), (2, _), (3, _)] ⟨(keep_clear (pk := [2, 3]) h0 rfl (map_agg (maps_cons mi (maps_cons mi maps_nil)))), (keep_clear (pk := [2, 3]) h1 rfl (map_agg (maps_cons mi (maps_cons mi maps_nil)))), (gone_clear (pk := [2, 3]) (t := 2) rfl), (gone_clear (pk := [2, 3]) (t := 3) rfl)⟩ ?_
  rintro s ⟨h0, h1, h2, h3⟩
  refine g_box (.agg [(ji x_1.1), (ji x_1.2)]) (rd_of h0 rfl) h2 rfl ?_
  refine g_box (.agg [(ji x_2.1), (ji x_2.2)]) (rd_of h1 rfl) h3 rfl ?_
  refine g0 (jb false) fun h4 => ?_
  refine gq (.nsq (.seq (.seq (rg (g0 (ji 0) fun h5 => gq (.nsq (.block (.loop ?_))))))))
  exact t_f129_l1 H x_1 x_2 F 0 _ ⟨rfl, rfl, h4, h5⟩ h
end
def e129 (F : Nat) : Ent := ent 129 (fun (x : ((Int × Int) × (Int × Int) × Unit)) => w_eqIntA2 F x.1 x.2.1) (fun (r : Bool) => (Enc.enc (r : Bool))) 0 false []
theorem p129 {F : Nat} {x0 : (Int × Int)} {x1 : (Int × Int)} {r : Bool} (h : w_eqIntA2 F x0 x1 = some r) : (e129 F).den [Enc.enc x0, Enc.enc x1] = some (Enc.enc (r : Bool)) := ent_put (x0, x1, ()) h
theorem o129 {D : Den} {σ : Sig} {F : Nat} (hF : Fits2 Try.prog D σ) (H : H129 D σ F) : (e129 F).Ok Try.prog := by
  refine ok_of (f := 129) (show unk 129 = 129 from rfl) (fun args r h => ?_) ⟨Try.f129, Try.func129, rfl, rfl⟩
  obtain ⟨⟨x0, x1, _⟩, y, rfl, hy, rfl⟩ := da_open h
  exact contract_run hF (by kernel_rfl) Try.func129 rfl c129 (show 2 ≤ Try.f129.ntmps by decide) (t129 H x0 x1 _ ⟨rfl, rfl⟩ hy)
/- loop.example/g01109/laws.eqIntA2S -/
def A68_2 : AC := (.cond (.t 14) .skip (.exit 0))
def A68_4 : AC := (.cond (.t 26) (.seq (.reg [] [((jv 4 (.mov (.k (.bool false)))))] []) .ret) .skip)
def A68_5 : AC := (.reg [] [(jm 15 5), ((jv 16 (.bin .add (.t 15) (jn 1)))), (jm 5 16)] [])
def A68_3 : AC := (.seq (.block 1 (.seq (.reg [] [(jm 17 0), (jm 18 5), ((jv 19 (.idx (.t 17) (.t 18) 2))), ((jv 20 (.load (.ag [.s, .s]) (.t 19)))), (jm 21 1), (jm 22 5), ((jv 23 (.idx (.t 21) (.t 22) 2))), ((jv 24 (.load (.ag [.s, .s]) (.t 23)))), (.mk (some 25) none false (.call (.k (.fn 129 [] [])) [(.t 20), (.t 24)])), ((jv 26 (.un .not (.t 25))))] []) A68_4)) A68_5)
def A68_1 : AC := (.seq (.seq (.reg [] [(jm 11 5), (jm 12 0), ((jv 13 (.len (.t 12)))), ((jv 14 (.bin .lss (.t 11) (.t 13))))] []) A68_2) A68_3)
def A68_6 : AC := (.seq (.reg [] [((jv 4 (.mov (.k (.bool true)))))] []) .ret)
def A68_8 : AC := (.cond (.t 10) (.seq (.reg [] [((jv 4 (.mov (.k (.bool false)))))] []) .ret) .skip)
def A68_10 : AC := (.block 0 (.loop A68_1))
def A68_9 : AC := (.seq (.seq (.reg [] [((jv 5 (.mov (jn 0))))] []) A68_10) A68_6)
def A68_7 : AC := (.seq (.seq (.reg [] [(jm 6 0), ((jv 7 (.len (.t 6)))), (jm 8 1), ((jv 9 (.len (.t 8)))), ((jv 10 (.bin .neq (.t 7) (.t 9))))] []) A68_8) A68_9)
def A68 : AC := (.seq (.reg [] [((jv 4 (.mov (.k (.bool false)))))] []) A68_7)
def an68 : List An := []
theorem c68 : cC Try.prog Try.f68.ntmps an68 (Try.f68.body.getD .skip) = some A68 := by kernel_rfl
structure H68 (D : Den) (σ : Sig) (F : Nat) : Prop where
  c129 : ∀ (x0 : (Int × Int)) (x1 : (Int × Int)) r, w_eqIntA2 F x0 x1 = some r → D 129 [Enc.enc x0, Enc.enc x1] = some (Enc.enc (r : Bool))
  g129 : σ 129 = some (0, false)
abbrev R68 (r : Bool) : (Nat → V) → Prop := RR Try.prog [.tmp 4] 0 false (Enc.enc (r : Bool))
section
variable {D : Den} {σ : Sig} {F : Nat} {r : Bool}
def w_eqIntA2S_l1 (F : Nat) (x_1 : (List (Int × Int))) (x_2 : (List (Int × Int)))  : Nat → Int → Option Bool
  | 0, _ => none
  | k + 1, x_6 =>
    bif decide (x_6 < (x_1.length : Int)) then
      (idx x_1 x_6).bind fun e_10 =>
      (idx x_2 x_6).bind fun e_11 =>
      (w_eqIntA2 F e_10 e_11).bind fun r_12 =>
      bif (!r_12) then
        some false
      else
        (w_eqIntA2S_l1 F x_1 x_2 k) (w64 (x_6 + 1))
    else
      some true
theorem t_f68_l1 (H : H68 D σ F) (x_1 : (List (Int × Int))) (x_2 : (List (Int × Int)))  : ∀ (k : Nat) (x_6 : Int) (s : Nat → V), Facts [(0, (Enc.enc (x_1 : List (Int × Int)))), (1, (Enc.enc (x_2 : List (Int × Int)))), (4, (jb false)), (5, (ji x_6))] s → w_eqIntA2S_l1 F x_1 x_2 k x_6 = some r → Run D σ (R68 r) (.run A68_1 [.lp A68_1, .bk 0, .sq A68_6]) s := by
  intro k
  induction k with
  | zero => intro x_6 s _ h; exact nomatch (h : (none : Option _) = some r)
  | succ k ih =>
    intro x_6 s hs h
    rw [w_eqIntA2S_l1] at h
    obtain ⟨h0, h1, h4, h5⟩ := hs
    refine .seq (.seq (rg (gm h5 fun h11 => gm h0 fun h12 => gv (ji (x_1.length : Int)) (ev_len (xs := x_1) h12) fun h13 => ?_)))
    refine g2 11 13 (jb (decide (x_6 < (x_1.length : Int)))) h11 h13 fun h14 => ?_
    refine gq (.nsq (run_cond (t := decide (x_6 < (x_1.length : Int))) h14 h (fun h => ?_) (fun h => ?_)))
    · refine .skip (.nsq (.seq (.block (.seq (rg (gm h0 fun h17 => gm h5 fun h18 => ?_))))))
      obtain ⟨e_10, E_e_10, h⟩ := bind_some h
      refine gv (.ref .sh 0 [] (.agg [(ji e_10.1), (ji e_10.2)])) (ev_idx (t := .sh) (lo := 0) (xs := x_1) h17 h18 E_e_10 rfl rfl) fun h19 => ?_
      refine g1 19 (.agg [(ji e_10.1), (ji e_10.2)]) h19 fun h20 => ?_
      refine gm h1 fun h21 => gm h5 fun h22 => ?_
      obtain ⟨e_11, E_e_11, h⟩ := bind_some h
      refine gv (.ref .sh 0 [] (.agg [(ji e_11.1), (ji e_11.2)])) (ev_idx (t := .sh) (lo := 0) (xs := x_2) h21 h22 E_e_11 rfl rfl) fun h23 => ?_
      refine g1 23 (.agg [(ji e_11.1), (ji e_11.2)]) h23 fun h24 => ?_
      obtain ⟨r_12, E_r_12, h⟩ := bind_some h
      refine g_call (m := 0) (al := false) (r := (Enc.enc (r_12 : Bool))) [Enc.enc (e_10 : (Int × Int)), Enc.enc (e_11 : (Int × Int))] (ta_cons (v := (.agg [(ji e_10.1), (ji e_10.2)])) h20 rfl (Enc.erase_enc (e_10 : (Int × Int))) (ta_cons (v := (.agg [(ji e_11.1), (ji e_11.2)])) h24 rfl (Enc.erase_enc (e_11 : (Int × Int))) ta_nil)) (H.c129 _ _ _ E_r_12) H.g129 rfl rfl rfl rfl ?_
      refine g1 25 (jb (!r_12)) (rfl : (_ : V) = (jb r_12)) fun h26 => ?_
      refine gq (.nsq (run_cond (t := (!r_12)) h26 h (fun h => ?_) (fun h => ?_)))
      · refine .seq (rg (g0 (jb false) fun h4 => ?_))
        refine gq (.nsq (.ret ?_))
        have hr := Option.some.inj h
        subst hr
        exact rrA (res_tmp h4) rfl
      refine .skip (.nbk (.nsq (rg (gm h5 fun h15 => g1 15 (ji (w64 (x_6 + 1))) h15 fun h16 => ?_))))
      refine gm h16 fun h5 => gq (.nlp ?_)
      exact ih (w64 (x_6 + 1)) _ ⟨h0, h1, h4, h5⟩ h
    refine .exit (.esq (.elp (.ebk (.nsq (.seq (rg (g0 (jb true) fun h4 => ?_)))))))
    refine gq (.nsq (.ret ?_))
    have hr := Option.some.inj h
    subst hr
    exact rrA (res_tmp h4) rfl
def w_eqIntA2S (F : Nat) (x_1 : (List (Int × Int))) (x_2 : (List (Int × Int))) : Option Bool :=
  bif ((x_1.length : Int) != (x_2.length : Int)) then
    some false
  else
    w_eqIntA2S_l1 F x_1 x_2 F 0
theorem t68 (H : H68 D σ F) (x_1 : (List (Int × Int))) (x_2 : (List (Int × Int))) (s : Nat → V) (hs : Facts [(0, (Enc.enc (x_1 : List (Int × Int)))), (1, (Enc.enc (x_2 : List (Int × Int))))] s) (h : w_eqIntA2S F x_1 x_2 = some r) : Run D σ (R68 r) (.run A68 []) s := by
  unfold w_eqIntA2S at h
  obtain ⟨h0, h1⟩ := hs
  refine .seq (rg (g0 (jb false) fun h4 => ?_))
  refine gq (.nsq (.seq (.seq (rg (gm h0 fun h6 => gv (ji (x_1.length : Int)) (ev_len (xs := x_1) h6) fun h7 => ?_)))))
  refine gm h1 fun h8 => gv (ji (x_2.length : Int)) (ev_len (xs := x_2) h8) fun h9 => ?_
  refine g2 7 9 (jb ((x_1.length : Int) != (x_2.length : Int))) h7 h9 fun h10 => ?_
  refine gq (.nsq (run_cond (t := ((x_1.length : Int) != (x_2.length : Int))) h10 h (fun h => ?_) (fun h => ?_)))
  · refine .seq (rg (g0 (jb false) fun h4 => ?_))
    refine gq (.nsq (.ret ?_))
    have hr := Option.some.inj h
    subst hr
    exact rrA (res_tmp h4) rfl
  refine .skip (.nsq (.seq (.seq (rg (g0 (ji 0) fun h5 => gq (.nsq (.block (.loop ?_))))))))
  exact t_f68_l1 H x_1 x_2 F 0 _ ⟨h0, h1, h4, h5⟩ h
end
def e68 (F : Nat) : Ent := ent 68 (fun (x : ((List (Int × Int)) × (List (Int × Int)) × Unit)) => w_eqIntA2S F x.1 x.2.1) (fun (r : Bool) => (Enc.enc (r : Bool))) 0 false []
theorem p68 {F : Nat} {x0 : (List (Int × Int))} {x1 : (List (Int × Int))} {r : Bool} (h : w_eqIntA2S F x0 x1 = some r) : (e68 F).den [Enc.enc x0, Enc.enc x1] = some (Enc.enc (r : Bool)) := ent_put (x0, x1, ()) h
theorem o68 {D : Den} {σ : Sig} {F : Nat} (hF : Fits2 Try.prog D σ) (H : H68 D σ F) : (e68 F).Ok Try.prog := by
  refine ok_of (f := 68) (show unk 68 = 68 from rfl) (fun args r h => ?_) ⟨Try.f68, Try.func68, rfl, rfl⟩
  obtain ⟨⟨x0, x1, _⟩, y, rfl, hy, rfl⟩ := da_open h
  exact contract_run hF (by kernel_rfl) Try.func68 rfl c68 (show 2 ≤ Try.f68.ntmps by decide) (t68 H x0 x1 _ ⟨rfl, rfl⟩ hy)
/- loop.example/g01109/laws.eqGraph -/
def A20_2 : AC := (.cond (.t 9) (.seq (.reg [] [((jv 4 (.mov (.k (.bool false)))))] []) .ret) .skip)
def A20_4 : AC := (.cond (.t 15) (.seq (.reg [] [((jv 4 (.mov (.k (.bool false)))))] []) .ret) .skip)
def A20_5 : AC := (.seq (.reg [] [((jv 4 (.mov (.k (.bool true)))))] []) .ret)
def A20_3 : AC := (.seq (.seq (.reg [] [((jv 10 (.fld (.t 2) 1 1))), ((jv 11 (.load .p (.t 10)))), ((jv 12 (.fld (.t 3) 1 1))), ((jv 13 (.load .p (.t 12)))), (.mk (some 14) none false (.call (.k (.fn 68 [] [])) [(.t 11), (.t 13)])), ((jv 15 (.un .not (.t 14))))] []) A20_4) A20_5)
def A20_1 : AC := (.seq (.seq (.reg [] [((jv 5 (.fld (.t 2) 0 0))), ((jv 6 (.load .s (.t 5)))), ((jv 7 (.fld (.t 3) 0 0))), ((jv 8 (.load .s (.t 7)))), ((jv 9 (.bin .neq (.t 6) (.t 8))))] []) A20_2) A20_3)
def A20 : AC := (.seq (.reg [.clr [2, 3]] [(.mk (some 2) none false (.box (.t 0))), (.mk (some 3) none false (.box (.t 1))), ((jv 4 (.mov (.k (.bool false)))))] []) A20_1)
def an20 : List An := [{ id := 0, pre := [.clr [2, 3]], ep := [], lin := [], sp := [] }]
theorem c20 : cC Try.prog Try.f20.ntmps an20 (Try.f20.body.getD .skip) = some A20 := by kernel_rfl
structure H20 (D : Den) (σ : Sig) (F : Nat) : Prop where
  c68 : ∀ (x0 : (List (Int × Int))) (x1 : (List (Int × Int))) r, w_eqIntA2S F x0 x1 = some r → D 68 [Enc.enc x0, Enc.enc x1] = some (Enc.enc (r : Bool))
  g68 : σ 68 = some (0, false)
abbrev R20 (r : Bool) : (Nat → V) → Prop := RR Try.prog [.tmp 4] 0 false (Enc.enc (r : Bool))
section
variable {D : Den} {σ : Sig} {F : Nat} {r : Bool}
def w_eqGraph (F : Nat) (x_1 : (Int × (List (Int × Int)))) (x_2 : (Int × (List (Int × Int)))) : Option Bool :=
  bif (x_1.1 != x_2.1) then
    some false
  else
    (w_eqIntA2S F x_1.2 x_2.2).bind fun r_3 =>
    bif (!r_3) then
      some false
    else
      some true
theorem t20 (H : H20 D σ F) (x_1 : (Int × (List (Int × Int)))) (x_2 : (Int × (List (Int × Int)))) (s : Nat → V) (hs : Facts [(0, (.agg [(ji x_1.1), (Enc.enc (x_1.2 : List (Int × Int)))])), (1, (.agg [(ji x_2.1), (Enc.enc (x_2.2 : List (Int × Int)))]))] s) (h : w_eqGraph F x_1 x_2 = some r) : Run D σ (R20 r) (.run A20 []) s := by
  unfold w_eqGraph at h
  obtain ⟨h0, h1⟩ := hs
  refine .seq (run_reg ?_)
  refine e_clr ?_
  refine ez [(0, _), (1, _), (2, _), (3, _)] ⟨(keep_clear (pk := [2, 3]) h0 rfl (map_agg (maps_cons mi (maps_cons me maps_nil)))), (keep_clear (pk := [2, 3]) h1 rfl (map_agg (maps_cons mi (maps_cons me maps_nil)))), (gone_clear (pk := [2, 3]) (t := 2) rfl), (gone_clear (pk := [2, 3]) (t := 3) rfl)⟩ ?_
  rintro s ⟨h0, h1, h2, h3⟩
  refine g_box (.agg [(ji x_1.1), (Enc.enc (x_1.2 : List (Int × Int)))]) (rd_of h0 rfl) h2 rfl ?_
  refine g_box (.agg [(ji x_2.1), (Enc.enc (x_2.2 : List (Int × Int)))]) (rd_of h1 rfl) h3 rfl ?_
  refine g0 (jb false) fun h4 => ?_
  refine gq (.nsq (.seq (.seq (rg (g1 2 (.ref (.bx 2) 0 [0] (ji x_1.1)) (rfl : (_ : V) = (.ref (.bx 2) 0 [] (.agg [(ji x_1.1), (Enc.enc (x_1.2 : List (Int × Int)))]))) fun h5 => ?_)))))
  refine g1 5 (ji x_1.1) h5 fun h6 => ?_
  refine g1 3 (.ref (.bx 3) 0 [0] (ji x_2.1)) (rfl : (_ : V) = (.ref (.bx 3) 0 [] (.agg [(ji x_2.1), (Enc.enc (x_2.2 : List (Int × Int)))]))) fun h7 => ?_
  refine g1 7 (ji x_2.1) h7 fun h8 => ?_
  refine g2 6 8 (jb (x_1.1 != x_2.1)) h6 h8 fun h9 => ?_
  refine gq (.nsq (run_cond (t := (x_1.1 != x_2.1)) h9 h (fun h => ?_) (fun h => ?_)))
  · refine .seq (rg (g0 (jb false) fun h4 => ?_))
    refine gq (.nsq (.ret ?_))
    have hr := Option.some.inj h
    subst hr
    exact rrA (res_tmp h4) rfl
  refine .skip (.nsq (.seq (.seq (rg (g1 2 (.ref (.bx 2) 0 [1] (Enc.enc (x_1.2 : List (Int × Int)))) (rfl : (_ : V) = (.ref (.bx 2) 0 [] (.agg [(ji x_1.1), (Enc.enc (x_1.2 : List (Int × Int)))]))) fun h10 => ?_)))))
  refine g1 10 (Enc.enc (x_1.2 : List (Int × Int))) h10 fun h11 => ?_
  refine g1 3 (.ref (.bx 3) 0 [1] (Enc.enc (x_2.2 : List (Int × Int)))) (rfl : (_ : V) = (.ref (.bx 3) 0 [] (.agg [(ji x_2.1), (Enc.enc (x_2.2 : List (Int × Int)))]))) fun h12 => ?_
  refine g1 12 (Enc.enc (x_2.2 : List (Int × Int))) h12 fun h13 => ?_
  obtain ⟨r_3, E_r_3, h⟩ := bind_some h
  refine g_call (m := 0) (al := false) (r := (Enc.enc (r_3 : Bool))) [Enc.enc (x_1.2 : (List (Int × Int))), Enc.enc (x_2.2 : (List (Int × Int)))] (ta_cons (v := (Enc.enc (x_1.2 : List (Int × Int)))) h11 rfl (Enc.erase_enc (x_1.2 : (List (Int × Int)))) (ta_cons (v := (Enc.enc (x_2.2 : List (Int × Int)))) h13 rfl (Enc.erase_enc (x_2.2 : (List (Int × Int)))) ta_nil)) (H.c68 _ _ _ E_r_3) H.g68 rfl rfl rfl rfl ?_
  refine g1 14 (jb (!r_3)) (rfl : (_ : V) = (jb r_3)) fun h15 => ?_
  refine gq (.nsq (run_cond (t := (!r_3)) h15 h (fun h => ?_) (fun h => ?_)))
  · refine .seq (rg (g0 (jb false) fun h4 => ?_))
    refine gq (.nsq (.ret ?_))
    have hr := Option.some.inj h
    subst hr
    exact rrA (res_tmp h4) rfl
  refine .skip (.nsq (.seq (rg (g0 (jb true) fun h4 => ?_))))
  refine gq (.nsq (.ret ?_))
  have hr := Option.some.inj h
  subst hr
  exact rrA (res_tmp h4) rfl
end
def e20 (F : Nat) : Ent := ent 20 (fun (x : ((Int × (List (Int × Int))) × (Int × (List (Int × Int))) × Unit)) => w_eqGraph F x.1 x.2.1) (fun (r : Bool) => (Enc.enc (r : Bool))) 0 false []
theorem p20 {F : Nat} {x0 : (Int × (List (Int × Int)))} {x1 : (Int × (List (Int × Int)))} {r : Bool} (h : w_eqGraph F x0 x1 = some r) : (e20 F).den [Enc.enc x0, Enc.enc x1] = some (Enc.enc (r : Bool)) := ent_put (x0, x1, ()) h
theorem o20 {D : Den} {σ : Sig} {F : Nat} (hF : Fits2 Try.prog D σ) (H : H20 D σ F) : (e20 F).Ok Try.prog := by
  refine ok_of (f := 20) (show unk 20 = 20 from rfl) (fun args r h => ?_) ⟨Try.f20, Try.func20, rfl, rfl⟩
  obtain ⟨⟨x0, x1, _⟩, y, rfl, hy, rfl⟩ := da_open h
  exact contract_run hF (by kernel_rfl) Try.func20 rfl c20 (show 2 ≤ Try.f20.ntmps by decide) (t20 H x0 x1 _ ⟨rfl, rfl⟩ hy)
/- loop.example/g01109/laws.toIntA2S -/
def A62o_2 : AC := (.cond (.t 11) .skip (.exit 0))
def A62o_4 : AC := (.reg [] [(jm 12 4), ((jv 13 (.bin .add (.t 12) (jn 1)))), (jm 4 13)] [])
def A62o_3 : AC := (.seq (.block 1 (.reg [] [(jm 14 3), (jm 15 4), (jm 16 0), (jm 17 4), ((jv 18 (.idx (.t 16) (.t 17) 2))), ((jv 19 (.load (.ag [.s, .s]) (.t 18)))), (.mk (some 20) none false (.call (.k (.fn 123 [] [])) [(.t 19)])), ((jv 21 (.idx (.t 14) (.t 15) 2))), (.mk none none false (.store (.ag [.s, .s]) (.t 21) (.t 20)))] [])) A62o_4)
def A62o_1 : AC := (.seq (.seq (.reg [] [(jm 8 4), (jm 9 0), ((jv 10 (.len (.t 9)))), ((jv 11 (.bin .lss (.t 8) (.t 10))))] []) A62o_2) A62o_3)
def A62o_5 : AC := (.seq (.reg [] [(jm 22 3), (jm 2 22)] [.home 3 2]) .ret)
def A62o_8 : AC := (.block 0 (.loop A62o_1))
def A62o_7 : AC := (.seq (.seq (.reg [] [((jv 4 (.mov (jn 0))))] []) A62o_8) A62o_5)
def A62o_6 : AC := (.seq (.reg [.clr [7]] [(jm 5 0), ((jv 6 (.len (.t 5)))), (.mk (some 7) none false (.mk (.t 6) (.agg [(.int .i64 (.ofNat 0)), (.int .i64 (.ofNat 0))]) (.agg [(.int .i64 (.ofNat 0)), (.int .i64 (.ofNat 0))]))), (jm 3 7)] [.home 7 3]) A62o_7)
def A62o : AC := (.seq (.reg [] [((jv 2 (.mov (.k (.sl .nl (.ag [.s, .s]) 0 [])))))] []) A62o_6)
def an62o : List An := [{ id := 1, pre := [.clr [7]], ep := [.home 7 3], lin := [], sp := [] }, { id := 6, pre := [], ep := [.home 3 2], lin := [], sp := [] }]
theorem c62o : cC Try.prog Try.f62.ntmps an62o (Try.f62.body.getD .skip) = some A62o := by kernel_rfl
structure H62o (D : Den) (σ : Sig) (F : Nat) : Prop where
  c123 : ∀ (x0 : (Int × Int)) r, w_toIntA2 F x0 = some r → D 123 [Enc.enc x0] = some (Enc.enc (r : (Int × Int)))
  g123 : σ 123 = some (0, false)
abbrev R62o (r : (NL (Int × Int))) : (Nat → V) → Prop := RR Try.prog [.tmp 2] 1 false (encO .sh (r : NL (Int × Int)))
section
variable {D : Den} {σ : Sig} {F : Nat} {r : (NL (Int × Int))}
def w_toIntA2S_o_l1 (F : Nat) (x_1 : (List (Int × Int)))  : Nat → (List (Int × Int)) → Int → Option (NL (Int × Int))
  | 0, _, _ => none
  | k + 1, x_6, x_7 =>
    bif decide (x_7 < (x_1.length : Int)) then
      (idx x_1 x_7).bind fun e_11 =>
      (w_toIntA2 F e_11).bind fun r_12 =>
      (idx x_6 x_7).bind fun e_13 =>
      (w_toIntA2S_o_l1 F x_1 k) (x_6.set x_7.toNat r_12) (w64 (x_7 + 1))
    else
      some (.of x_6)
theorem t_f62o_l1 (H : H62o D σ F) (x_1 : (List (Int × Int)))  : ∀ (k : Nat) (x_6 : (List (Int × Int))) (x_7 : Int) (s : Nat → V), Facts [(0, (Enc.enc (x_1 : List (Int × Int)))), (2, (.sl .nl (Enc.shp (Int × Int)) 0 [])), (3, (encO (.at 3 []) (.of (x_6 : List (Int × Int))))), (4, (ji x_7))] s → w_toIntA2S_o_l1 F x_1 k x_6 x_7 = some r → Run D σ (R62o r) (.run A62o_1 [.lp A62o_1, .bk 0, .sq A62o_5]) s := by
  intro k
  induction k with
  | zero => intro x_6 x_7 s _ h; exact nomatch (h : (none : Option _) = some r)
  | succ k ih =>
    intro x_6 x_7 s hs h
    rw [w_toIntA2S_o_l1] at h
    obtain ⟨h0, h2, h3, h4⟩ := hs
    refine .seq (.seq (rg (gm h4 fun h8 => gm h0 fun h9 => gv (ji (x_1.length : Int)) (ev_len (xs := x_1) h9) fun h10 => ?_)))
    refine g2 8 10 (jb (decide (x_7 < (x_1.length : Int)))) h8 h10 fun h11 => ?_
    refine gq (.nsq (run_cond (t := decide (x_7 < (x_1.length : Int))) h11 h (fun h => ?_) (fun h => ?_)))
    · refine .skip (.nsq (.seq (.block (rg (gm h3 fun h14 => gm h4 fun h15 => gm h0 fun h16 => gm h4 fun h17 => ?_)))))
      obtain ⟨e_11, E_e_11, h⟩ := bind_some h
      refine gv (.ref .sh 0 [] (.agg [(ji e_11.1), (ji e_11.2)])) (ev_idx (t := .sh) (lo := 0) (xs := x_1) h16 h17 E_e_11 rfl rfl) fun h18 => ?_
      refine g1 18 (.agg [(ji e_11.1), (ji e_11.2)]) h18 fun h19 => ?_
      obtain ⟨r_12, E_r_12, h⟩ := bind_some h
      refine g_call (m := 0) (al := false) (r := (Enc.enc (r_12 : (Int × Int)))) [Enc.enc (e_11 : (Int × Int))] (ta_cons (v := (.agg [(ji e_11.1), (ji e_11.2)])) h19 rfl (Enc.erase_enc (e_11 : (Int × Int))) ta_nil) (H.c123 _ _ E_r_12) H.g123 rfl rfl rfl rfl ?_
      obtain ⟨e_13, E_e_13, h⟩ := bind_some h
      refine gv (.ref (.at 3 []) x_7.toNat [] (.agg [(ji e_13.1), (ji e_13.2)])) (ev_idxO (o := (.of x_6)) h14 h15 E_e_13 rfl) fun h21 => ?_
      refine g_store (.agg [(ji r_12.1), (ji r_12.2)]) (rd_of h21 rfl) (rd_of rfl rfl) (by refine ⟨by decide, by decide, rfl, rfl, rfl, ?_⟩; first | rfl | simp [V.toks, V.tokss, Enc.toks_enc]) ?_
      refine gz [(0, (Enc.enc (x_1 : List (Int × Int)))), (2, (.sl .nl (Enc.shp (Int × Int)) 0 [])), (3, _), (4, (ji x_7))] ⟨(keep_mut h0 (Enc.mut_enc _ _ _ _ (x_1 : List (Int × Int)))), (keep_mut h2 rfl), (keep_mut h3 mut_own), (keep_mut h4 rfl)⟩ ?_
      rintro s ⟨h0, h2, h3, h4⟩
      refine .nbk (.nsq (rg (gm h4 fun h12 => g1 12 (ji (w64 (x_7 + 1))) h12 fun h13 => ?_)))
      refine gm h13 fun h4 => gq (.nlp ?_)
      exact ih (x_6.set x_7.toNat r_12) (w64 (x_7 + 1)) _ ⟨h0, h2, h3, h4⟩ h
    refine .exit (.esq (.elp (.ebk (.nsq (.seq (rg (gm h3 fun h22 => gm h22 fun h2 => g_end ?_)))))))
    refine e_home (r := 3) (x := 2) (v := _) h2 rfl (fun s_3 hg_3 => ?_)
    refine ez [(2, (encO (.at 2 []) (.of (x_6 : List (Int × Int)))))] (hg_3 2 _ _ h2 (map_encO (r := 3) (p := []) rfl rfl)) ?_
    rintro s h2
    refine .nsq (.ret ?_)
    have hr := Option.some.inj h
    subst hr
    exact rrA (res_tmp h2) (fin_retO (finO_own (o := ((.of x_6) : NL (Int × Int)))) rfl (mine_own rfl))
def w_toIntA2S_o (F : Nat) (x_1 : (List (Int × Int))) : Option (NL (Int × Int)) :=
  (mkN (x_1.length : Int) (0, 0)).bind fun mk_2 =>
  w_toIntA2S_o_l1 F x_1 F mk_2 0
theorem t62o (H : H62o D σ F) (x_1 : (List (Int × Int))) (s : Nat → V) (hs : Facts [(0, (Enc.enc (x_1 : List (Int × Int))))] s) (h : w_toIntA2S_o F x_1 = some r) : Run D σ (R62o r) (.run A62o []) s := by
  unfold w_toIntA2S_o at h
  have h0 := hs
  refine .seq (rg (g0 (.sl .nl (Enc.shp (Int × Int)) 0 []) fun h2 => ?_))
  refine gq (.nsq (.seq (run_reg ?_)))
  refine e_clr ?_
  refine ez [(0, _), (2, _), (7, _)] ⟨(keep_clear (pk := [7]) h0 rfl me), (keep_clear (pk := [7]) h2 rfl rfl), (gone_clear (pk := [7]) (t := 7) rfl)⟩ ?_
  rintro s ⟨h0, h2, h7⟩
  refine gm h0 fun h5 => gv (ji (x_1.length : Int)) (ev_len (xs := x_1) h5) fun h6 => ?_
  obtain ⟨mk_2, E_mk_2, h⟩ := bind_some h
  refine g_mk ((0, 0) : (Int × Int)) h6 rfl h7 E_mk_2 ?_
  refine gm (rfl : (_ : V) = (encO (.at 7 []) (.of (mk_2 : List (Int × Int))))) fun h3 => ?_
  refine g_end ?_
  refine e_home (r := 7) (x := 3) (v := _) h3 rfl (fun s_2 hg_2 => ?_)
  refine ez [(0, (Enc.enc (x_1 : List (Int × Int)))), (2, (.sl .nl (Enc.shp (Int × Int)) 0 [])), (3, (encO (.at 3 []) (.of (mk_2 : List (Int × Int)))))] ⟨(hg_2 0 _ _ h0 me), (hg_2 2 _ (.sl .nl (Enc.shp (Int × Int)) 0 []) h2 rfl), (hg_2 3 _ _ h3 (map_encO (r := 7) (p := []) rfl rfl))⟩ ?_
  rintro s ⟨h0, h2, h3⟩
  refine .nsq (.seq (.seq (rg (g0 (ji 0) fun h4 => gq (.nsq (.block (.loop ?_)))))))
  exact t_f62o_l1 H x_1 F mk_2 0 _ ⟨h0, h2, h3, h4⟩ h
end
def e62o (F : Nat) : Ent := ent 1000000062 (fun (x : ((List (Int × Int)) × Unit)) => w_toIntA2S_o F x.1) (fun (r : (NL (Int × Int))) => (encO .sh (r : NL (Int × Int)))) 1 false []
theorem p62o {F : Nat} {x0 : (List (Int × Int))} {r : (NL (Int × Int))} (h : w_toIntA2S_o F x0 = some r) : (e62o F).den [Enc.enc x0] = some (encO .sh (r : NL (Int × Int))) := ent_put (x0, ()) h
theorem o62o {D : Den} {σ : Sig} {F : Nat} (hF : Fits2 Try.prog D σ) (H : H62o D σ F) : (e62o F).Ok Try.prog := by
  refine ok_of (f := 62) (show unk 1000000062 = 62 from rfl) (fun args r h => ?_) ⟨Try.f62, Try.func62, rfl, rfl⟩
  obtain ⟨⟨x0, _⟩, y, rfl, hy, rfl⟩ := da_open h
  exact contract_run hF (by kernel_rfl) Try.func62 rfl c62o (show 1 ≤ Try.f62.ntmps by decide) (t62o H x0 _ rfl hy)
/- loop.example/g01109/laws.toGraph -/
def A17o_4 : AC := (.seq (.reg [] [((jv 11 (.load (.ag [.s, .p]) (.t 3)))), (.mk none none false (.store (.ag [.s, .p]) (.t 2) (.t 11)))] []) .ret)
def A17o_3 : AC := (.seq (.reg [.clr [9]] [((jv 7 (.fld (.t 1) 1 1))), ((jv 8 (.load .p (.t 7)))), (.mk (some 9) none false (.callO (.k (.fn 62 [] [])) [(.t 8)])), ((jv 10 (.fld (.t 3) 1 1))), (.mk none none false (.store .p (.t 10) (.t 9)))] []) A17o_4)
def A17o_2 : AC := (.seq (.reg [] [((jv 4 (.fld (.t 1) 0 0))), ((jv 5 (.load .s (.t 4)))), ((jv 6 (.fld (.t 3) 0 0))), (.mk none none false (.store .s (.t 6) (.t 5)))] []) A17o_3)
def A17o_1 : AC := (.seq (.reg [.clr [3]] [(.mk (some 3) none false (.alloc (.agg [(.int .i64 (.ofNat 0)), (.sl .nl (.ag [.s, .s]) 0 [])])))] []) A17o_2)
def A17o : AC := (.seq (.reg [.clr [1, 2]] [(.mk (some 1) none false (.box (.t 0))), (.mk (some 2) none false (.alloc (.agg [(.int .i64 (.ofNat 0)), (.sl .nl (.ag [.s, .s]) 0 [])])))] []) A17o_1)
def an17o : List An := [{ id := 0, pre := [.clr [1, 2]], ep := [], lin := [], sp := [] }, { id := 1, pre := [.clr [3]], ep := [], lin := [], sp := [] }, { id := 3, pre := [.clr [9]], ep := [], lin := [], sp := [1002] }]
theorem c17o : cC Try.prog Try.f17.ntmps an17o (Try.f17.body.getD .skip) = some A17o := by kernel_rfl
structure H17o (D : Den) (σ : Sig) (F : Nat) : Prop where
  c62o : ∀ (x0 : (List (Int × Int))) r, w_toIntA2S_o F x0 = some r → D 1000000062 [Enc.enc x0] = some (encO .sh (r : NL (Int × Int)))
  g62o : σ 1000000062 = some (1, false)
abbrev R17o (r : (Int × (NL (Int × Int)))) : (Nat → V) → Prop := RR Try.prog [.cell 2 27] 1 false (.agg [(Enc.enc (r.1 : Int)), (encO .sh (r.2 : NL (Int × Int)))])
section
variable {D : Den} {σ : Sig} {F : Nat} {r : (Int × (NL (Int × Int)))}
def w_toGraph_o (F : Nat) (x_1 : (Int × (List (Int × Int)))) : Option (Int × (NL (Int × Int))) :=
  (w_toIntA2S_o F x_1.2).bind fun r_2 =>
  some (x_1.1, r_2)
theorem t17o (H : H17o D σ F) (x_1 : (Int × (List (Int × Int)))) (s : Nat → V) (hs : Facts [(0, (.agg [(ji x_1.1), (Enc.enc (x_1.2 : List (Int × Int)))]))] s) (h : w_toGraph_o F x_1 = some r) : Run D σ (R17o r) (.run A17o []) s := by
  unfold w_toGraph_o at h
  have h0 := hs
  refine .seq (run_reg ?_)
  refine e_clr ?_
  refine ez [(0, _), (1, _), (2, _)] ⟨(keep_clear (pk := [1, 2]) h0 rfl (map_agg (maps_cons mi (maps_cons me maps_nil)))), (gone_clear (pk := [1, 2]) (t := 1) rfl), (gone_clear (pk := [1, 2]) (t := 2) rfl)⟩ ?_
  rintro s ⟨h0, h1, h2⟩
  refine g_box (.agg [(ji x_1.1), (Enc.enc (x_1.2 : List (Int × Int)))]) (rd_of h0 rfl) h1 rfl ?_
  refine g_alloc h2 ?_
  refine gq (.nsq (.seq (run_reg ?_)))
  refine e_clr ?_
  refine ez [(1, _), (2, _), (3, _)] ⟨(keep_clear (pk := [3]) rfl rfl (map_bx rfl (map_agg (maps_cons mi (maps_cons me maps_nil))))), (keep_clear (pk := [3]) rfl rfl (map_bx rfl (map_agg (maps_cons mi (maps_cons rfl maps_nil))))), (gone_clear (pk := [3]) (t := 3) rfl)⟩ ?_
  rintro s ⟨h1, h2, h3⟩
  refine g_alloc h3 ?_
  refine gq (.nsq (.seq (rg (g1 1 (.ref (.bx 1) 0 [0] (ji x_1.1)) h1 fun h4 => ?_))))
  refine g1 4 (ji x_1.1) h4 fun h5 => ?_
  refine g1 3 (.ref (.bx 3) 0 [0] (ji 0)) (rfl : (_ : V) = (.ref (.bx 3) 0 [] (.agg [(ji 0), (.sl .nl (Enc.shp (Int × Int)) 0 [])]))) fun h6 => ?_
  refine g_store (ji x_1.1) (rd_of h6 rfl) (rd_of h5 rfl) (by refine ⟨by decide, by decide, rfl, rfl, rfl, ?_⟩; first | rfl | simp [V.toks, V.tokss, Enc.toks_enc]) ?_
  refine gz [(1, (.ref (.bx 1) 0 [] (.agg [(ji x_1.1), (Enc.enc (x_1.2 : List (Int × Int)))]))), (2, (.ref (.bx 2) 0 [] (.agg [(ji 0), (.sl .nl (Enc.shp (Int × Int)) 0 [])]))), (3, (.ref (.bx 3) 0 [] (.agg [(ji x_1.1), (.sl .nl (Enc.shp (Int × Int)) 0 [])])))] ⟨(keep_mut h1 (mut_ref_ne rfl rfl (mut_agg (muts_cons rfl (muts_cons (Enc.mut_enc _ _ _ _ (x_1.2 : List (Int × Int))) rfl))))), (keep_mut h2 (mut_ref_ne rfl rfl (mut_agg (muts_cons rfl (muts_cons rfl rfl))))), (keep_mut rfl rfl)⟩ ?_
  rintro s ⟨h1, h2, h3⟩
  refine .nsq (.seq (run_reg ?_))
  refine e_clr ?_
  refine ez [(1, _), (2, _), (3, _), (9, _)] ⟨(keep_clear (pk := [9]) h1 rfl (map_bx rfl (map_agg (maps_cons mi (maps_cons me maps_nil))))), (keep_clear (pk := [9]) h2 rfl (map_bx rfl (map_agg (maps_cons mi (maps_cons rfl maps_nil))))), (keep_clear (pk := [9]) h3 rfl (map_bx rfl (map_agg (maps_cons mi (maps_cons rfl maps_nil))))), (gone_clear (pk := [9]) (t := 9) rfl)⟩ ?_
  rintro s ⟨h1, h2, h3, h9⟩
  refine g1 1 (.ref (.bx 1) 0 [1] (Enc.enc (x_1.2 : List (Int × Int)))) h1 fun h7 => ?_
  refine g1 7 (Enc.enc (x_1.2 : List (Int × Int))) h7 fun h8 => ?_
  obtain ⟨r_2, E_r_2, h⟩ := bind_some h
  refine g_callO (m := 1) (al := false) (r := (encO .sh (r_2 : NL (Int × Int)))) (v := (encO (.at 9 []) (r_2 : NL (Int × Int)))) (kk := 1000000062) [Enc.enc (x_1.2 : (List (Int × Int)))] (ta_cons (v := (Enc.enc (x_1.2 : List (Int × Int)))) h8 rfl (Enc.erase_enc (x_1.2 : (List (Int × Int)))) ta_nil) (H.c62o _ _ E_r_2) H.g62o rfl toks_encS tag_encO ok_encP h9 ?_
  refine g1 3 (.ref (.bx 3) 0 [1] (.sl .nl (Enc.shp (Int × Int)) 0 [])) h3 fun h10 => ?_
  refine g_store (encO (.at 9 []) (r_2 : NL (Int × Int))) (rd_of h10 rfl) (rd_of rfl ok_encP) ⟨by decide, by decide, mem_encP, shp_encP, rfl, tok_encP rfl rfl⟩ ?_
  refine gz [(2, (.ref (.bx 2) 0 [] (.agg [(ji 0), (.sl .nl (Enc.shp (Int × Int)) 0 [])]))), (3, (.ref (.bx 3) 0 [] (.agg [(ji x_1.1), (encO (.at 9 []) (r_2 : NL (Int × Int)))])))] ⟨(keep_mut h2 (mut_ref_ne rfl rfl (mut_agg (muts_cons rfl (muts_cons rfl rfl))))), (keep_mut h3 rfl)⟩ ?_
  rintro s ⟨h2, h3⟩
  refine .nsq (.seq (rg (gv (.agg [(ji x_1.1), (encO (.at 9 []) (r_2 : NL (Int × Int)))]) (ev_loadN (c := (.agg [(ji x_1.1), (encO (.at 9 []) (r_2 : NL (Int × Int)))])) h3 (by simp [V.shape, V.shapes, shape_encP, Sh.beq, Sh.beqs])) fun h11 => ?_)))
  refine g_store (.agg [(ji x_1.1), (encO (.at 9 []) (r_2 : NL (Int × Int)))]) (rd_of h2 rfl) (rd_of h11 rfl) ⟨by decide, by decide, rfl, (by simp [V.shape, V.shapes, shape_encP, Sh.beq, Sh.beqs]), (by simp [V.shape, V.shapes, shape_encP, Sh.beq, Sh.beqs]), (by simp [V.toks, V.tokss, tok_memP])⟩ ?_
  refine gz [(2, (.ref (.bx 2) 0 [] (.agg [(ji x_1.1), (encO (.at 9 []) (r_2 : NL (Int × Int)))])))] (keep_mut h2 rfl) ?_
  rintro s h2
  refine .nsq (.ret ?_)
  have hr := Option.some.inj h
  subst hr
  exact rrA (res_cell h2 (by simp only [V.shape, V.shapes, shape_encP]; kernel_rfl)) (fin_retO (finO_agg (finOs_cons finO_int (finOs_cons (finO_own (o := (r_2 : NL (Int × Int)))) finOs_nil))) rfl (mine_agg (mines_cons rfl (mines_cons (mine_own rfl) mines_nil))))
end
def e17o (F : Nat) : Ent := ent 1000000017 (fun (x : ((Int × (List (Int × Int))) × Unit)) => w_toGraph_o F x.1) (fun (r : (Int × (NL (Int × Int)))) => (.agg [(Enc.enc (r.1 : Int)), (encO .sh (r.2 : NL (Int × Int)))])) 1 false []
theorem p17o {F : Nat} {x0 : (Int × (List (Int × Int)))} {r : (Int × (NL (Int × Int)))} (h : w_toGraph_o F x0 = some r) : (e17o F).den [Enc.enc x0] = some (.agg [(Enc.enc (r.1 : Int)), (encO .sh (r.2 : NL (Int × Int)))]) := ent_put (x0, ()) h
theorem o17o {D : Den} {σ : Sig} {F : Nat} (hF : Fits2 Try.prog D σ) (H : H17o D σ F) : (e17o F).Ok Try.prog := by
  refine ok_of (f := 17) (show unk 1000000017 = 17 from rfl) (fun args r h => ?_) ⟨Try.f17, Try.func17, rfl, rfl⟩
  obtain ⟨⟨x0, _⟩, y, rfl, hy, rfl⟩ := da_open h
  exact contract_run hF (by kernel_rfl) Try.func17 rfl c17o (show 1 ≤ Try.f17.ntmps by decide) (t17o H x0 _ rfl hy)
/- loop.example/g01109/laws.markIntA2S -/
def A69_2 : AC := (.cond (.t 10) .skip (.exit 0))
def A69_6 : AC := (.cond (.t 14) .skip (.exit 2))
def A69_8 : AC := (.reg [] [(jm 23 1), ((jv 24 (.bin .add (.t 23) (jn 1)))), (jm 1 24)] [])
def A69_9 : AC := (.reg [] [(jm 15 6), ((jv 16 (.bin .add (.t 15) (jn 1)))), (jm 6 16)] [])
def A69_7 : AC := (.seq (.block 3 (.seq (.reg [] [(jm 17 0), (jm 18 5), (jm 19 6), (jm 20 1), ((jv 21 (.idx (.t 17) (.t 18) 2))), ((jv 22 (.idxA (.t 21) (.t 19) 2 1))), (.mk none none false (.store .s (.t 22) (.t 20)))] []) A69_8)) A69_9)
def A69_5 : AC := (.seq (.seq (.reg [] [(jm 13 6), ((jv 14 (.bin .lss (.t 13) (jn 2))))] []) A69_6) A69_7)
def A69_4 : AC := (.block 2 (.loop A69_5))
def A69_10 : AC := (.reg [] [(jm 11 5), ((jv 12 (.bin .add (.t 11) (jn 1)))), (jm 5 12)] [])
def A69_3 : AC := (.seq (.block 1 (.seq (.reg [] [((jv 6 (.mov (jn 0))))] []) A69_4)) A69_10)
def A69_1 : AC := (.seq (.seq (.reg [] [(jm 7 5), (jm 8 0), ((jv 9 (.len (.t 8)))), ((jv 10 (.bin .lss (.t 7) (.t 9))))] []) A69_2) A69_3)
def A69_11 : AC := (.seq (.reg [] [(jm 25 1), (jm 4 25)] []) .ret)
def A69_13 : AC := (.block 0 (.loop A69_1))
def A69_12 : AC := (.seq (.seq (.reg [] [((jv 5 (.mov (jn 0))))] []) A69_13) A69_11)
def A69 : AC := (.seq (.reg [] [((jv 4 (.mov (jn 0))))] []) A69_12)
def an69 : List An := []
theorem c69 : cC Try.prog Try.f69.ntmps an69 (Try.f69.body.getD .skip) = some A69 := by kernel_rfl
structure H69 (D : Den) (σ : Sig) (F : Nat) : Prop where
  mk ::
abbrev R69 (r : (Int × NL (Int × Int))) : (Nat → V) → Prop := RM Try.prog [.tmp 4] (Enc.enc (r.1 : Int)) (encO (.at pinR []) (r.2 : NL (Int × Int)))
section
variable {D : Den} {σ : Sig} {F : Nat} {r : (Int × NL (Int × Int))}
def w_markIntA2S_l1 (F : Nat) (x_13 : Int) (c1 : (NL (Int × Int)) → Int → Int → Option (Int × NL (Int × Int))) : Nat → (NL (Int × Int)) → Int → Int → Option (Int × NL (Int × Int))
  | 0, _, _, _ => none
  | k + 1, x_23, x_24, x_25 =>
    bif decide (x_25 < 2) then
      (idx x_23.list x_13).bind fun e_28 =>
      (idx [e_28.1, e_28.2] x_25).bind fun e_29 =>
      (w_markIntA2S_l1 F x_13 c1 k) (NL.set2 x_23 x_13.toNat x_25 x_24) (w64 (x_24 + 1)) (w64 (x_25 + 1))
    else
      c1 x_23 x_24 (w64 (x_13 + 1))
theorem t_f69_l1 (H : H69 D σ F) (x_13 : Int) (c1 : (NL (Int × Int)) → Int → Int → Option (Int × NL (Int × Int))) (Hc1 : ∀ (x_11 : (NL (Int × Int))) (x_12 : Int) (x_13 : Int) (s : Nat → V), Facts [(0, (encO (.at pinR []) (x_11 : NL (Int × Int)))), (1, (ji x_12)), (4, (ji 0)), (5, (ji x_13))] s → c1 x_11 x_12 x_13 = some r → Run D σ (R69 r) (.run A69_1 [.lp A69_1, .bk 0, .sq A69_11]) s) : ∀ (k : Nat) (x_23 : (NL (Int × Int))) (x_24 : Int) (x_25 : Int) (s : Nat → V), Facts [(0, (encO (.at pinR []) (x_23 : NL (Int × Int)))), (1, (ji x_24)), (4, (ji 0)), (5, (ji x_13)), (6, (ji x_25))] s → w_markIntA2S_l1 F x_13 c1 k x_23 x_24 x_25 = some r → Run D σ (R69 r) (.run A69_5 [.lp A69_5, .bk 2, .bk 1, .sq A69_10, .lp A69_1, .bk 0, .sq A69_11]) s := by
  intro k
  induction k with
  | zero => intro x_23 x_24 x_25 s _ h; exact nomatch (h : (none : Option _) = some r)
  | succ k ih =>
    intro x_23 x_24 x_25 s hs h
    rw [w_markIntA2S_l1] at h
    obtain ⟨h0, h1, h4, h5, h6⟩ := hs
    refine .seq (.seq (rg (gm h6 fun h13 => g1 13 (jb (decide (x_25 < 2))) h13 fun h14 => ?_)))
    refine gq (.nsq (run_cond (t := decide (x_25 < 2)) h14 h (fun h => ?_) (fun h => ?_)))
    · refine .skip (.nsq (.seq (.block (.seq (rg (gv (encO (.at pinR []) (x_23 : NL (Int × Int))) (ev_mov h0 ok_encO) fun h17 => ?_))))))
      refine gm h5 fun h18 => gm h6 fun h19 => gm h1 fun h20 => ?_
      obtain ⟨e_28, E_e_28, h⟩ := bind_some h
      refine gv (.ref (.at pinR []) x_13.toNat [] (.agg [(ji e_28.1), (ji e_28.2)])) (ev_idxO (o := x_23) h17 h18 E_e_28 rfl) fun h21 => ?_
      obtain ⟨e_29, E_e_29, h⟩ := bind_some h
      refine gv (.ref (.at pinR []) x_13.toNat [x_25.toNat] (ji e_29)) (ev_idxA (xs := [e_28.1, e_28.2]) (a := e_29) (n := x_25) (q := []) h21 h19 E_e_29 rfl rfl rfl) fun h22 => ?_
      refine g_store (ji x_24) (rd_of h22 rfl) (rd_of h20 rfl) (by refine ⟨by decide, by decide, rfl, rfl, rfl, ?_⟩; first | rfl | simp [V.toks, V.tokss, Enc.toks_enc]) ?_
      refine gz [(0, (encO (.at pinR []) ((NL.set2 x_23 x_13.toNat x_25 x_24) : NL (Int × Int)))), (1, (ji x_24)), (4, (ji 0)), (5, (ji x_13)), (6, (ji x_25))] ⟨(keep_mut h0 (mut_own2 (o := x_23) E_e_29 rfl)), (keep_mut h1 rfl), (keep_mut h4 rfl), (keep_mut h5 rfl), (keep_mut h6 rfl)⟩ ?_
      rintro s ⟨h0, h1, h4, h5, h6⟩
      refine .nsq (rg (gm h1 fun h23 => g1 23 (ji (w64 (x_24 + 1))) h23 fun h24 => ?_))
      refine gm h24 fun h1 => gq (.nbk (.nsq (rg (gm h6 fun h15 => g1 15 (ji (w64 (x_25 + 1))) h15 fun h16 => ?_))))
      refine gm h16 fun h6 => gq (.nlp ?_)
      exact ih (NL.set2 x_23 x_13.toNat x_25 x_24) (w64 (x_24 + 1)) (w64 (x_25 + 1)) _ ⟨h0, h1, h4, h5, h6⟩ h
    refine .exit (.esq (.elp (.ebk (.nbk (.nsq (rg (gm h5 fun h11 => g1 11 (ji (w64 (x_13 + 1))) h11 fun h12 => ?_)))))))
    refine gm h12 fun h5 => gq (.nlp ?_)
    exact Hc1 x_23 x_24 (w64 (x_13 + 1)) _ ⟨h0, h1, h4, h5⟩ h
def w_markIntA2S_l2 (F : Nat)   : Nat → (NL (Int × Int)) → Int → Int → Option (Int × NL (Int × Int))
  | 0, _, _, _ => none
  | k + 1, x_11, x_12, x_13 =>
    bif decide (x_13 < (x_11.list.length : Int)) then
      w_markIntA2S_l1 F x_13 (w_markIntA2S_l2 F k) F x_11 x_12 0
    else
      some (x_12, x_11)
theorem t_f69_l2 (H : H69 D σ F)   : ∀ (k : Nat) (x_11 : (NL (Int × Int))) (x_12 : Int) (x_13 : Int) (s : Nat → V), Facts [(0, (encO (.at pinR []) (x_11 : NL (Int × Int)))), (1, (ji x_12)), (4, (ji 0)), (5, (ji x_13))] s → w_markIntA2S_l2 F k x_11 x_12 x_13 = some r → Run D σ (R69 r) (.run A69_1 [.lp A69_1, .bk 0, .sq A69_11]) s := by
  intro k
  induction k with
  | zero => intro x_11 x_12 x_13 s _ h; exact nomatch (h : (none : Option _) = some r)
  | succ k ih =>
    intro x_11 x_12 x_13 s hs h
    rw [w_markIntA2S_l2] at h
    obtain ⟨h0, h1, h4, h5⟩ := hs
    refine .seq (.seq (rg (gm h5 fun h7 => gv (encO (.at pinR []) (x_11 : NL (Int × Int))) (ev_mov h0 ok_encO) fun h8 => ?_)))
    refine gv (ji (x_11.list.length : Int)) (ev_lenO (o := x_11) h8) fun h9 => ?_
    refine g2 7 9 (jb (decide (x_13 < (x_11.list.length : Int)))) h7 h9 fun h10 => ?_
    refine gq (.nsq (run_cond (t := decide (x_13 < (x_11.list.length : Int))) h10 h (fun h => ?_) (fun h => ?_)))
    · refine .skip (.nsq (.seq (.block (.seq (rg (g0 (ji 0) fun h6 => gq (.nsq (.block (.loop ?_)))))))))
      exact t_f69_l1 H x_13 (w_markIntA2S_l2 F k) ih F x_11 x_12 0 _ ⟨h0, h1, h4, h5, h6⟩ h
    refine .exit (.esq (.elp (.ebk (.nsq (.seq (rg (gm h1 fun h25 => gm h25 fun h4 => gq (.nsq (.ret ?_)))))))))
    have hr := Option.some.inj h
    subst hr
    exact rmA (res_tmp h4) h0
def w_markIntA2S (F : Nat) (x_1 : (On (Int × Int))) (x_2 : Int) : Option (Int × NL (Int × Int)) :=
  w_markIntA2S_l2 F F x_1.v x_2 0
theorem t69 (H : H69 D σ F) (x_1 : (On (Int × Int))) (x_2 : Int) (s : Nat → V) (hs : Facts [(0, (encO (.at pinR []) (x_1.v : NL (Int × Int)))), (1, (ji x_2))] s) (h : w_markIntA2S F x_1 x_2 = some r) : Run D σ (R69 r) (.run A69 []) s := by
  unfold w_markIntA2S at h
  obtain ⟨h0, h1⟩ := hs
  refine .seq (rg (g0 (ji 0) fun h4 => gq (.nsq (.seq (.seq (rg (g0 (ji 0) fun h5 => gq (.nsq (.block (.loop ?_))))))))))
  exact t_f69_l2 H F x_1.v x_2 0 _ ⟨h0, h1, h4, h5⟩ h
end
def e69 (F : Nat) : Ent := ent 69 (fun (x : ((On (Int × Int)) × Int × Unit)) => w_markIntA2S F x.1 x.2.1) (fun (r : (Int × NL (Int × Int))) => (.tup [Enc.enc (r.1 : Int), encO (.at pinR []) (r.2 : NL (Int × Int))])) pinR false []
theorem p69 {F : Nat} {x0 : (On (Int × Int))} {x1 : Int} {r : (Int × NL (Int × Int))} (h : w_markIntA2S F x0 x1 = some r) : (e69 F).den [Arg.arg x0, Enc.enc x1] = some (.tup [Enc.enc (r.1 : Int), encO (.at pinR []) (r.2 : NL (Int × Int))]) := ent_put (x0, x1, ()) h
theorem o69 {D : Den} {σ : Sig} {F : Nat} (hF : Fits2 Try.prog D σ) (H : H69 D σ F) : (e69 F).Ok Try.prog := by
  refine ok_of (f := 69) (show unk 69 = 69 from rfl) (fun args r h => ?_) ⟨Try.f69, Try.func69, rfl, rfl⟩
  obtain ⟨⟨x0, x1, _⟩, y, rfl, hy, rfl⟩ := da_open h
  exact contractM_run hF (by kernel_rfl) Try.func69 rfl c69 (all_ok2 ok_encP rfl) (show 2 ≤ Try.f69.ntmps by decide) (by decide) (t69 H x0 x1 _ ⟨rfl, rfl⟩ hy)
/- loop.example/g01109/laws.markGraph -/
def A22_2 : AC := (.seq (.reg [] [(jm 9 1), (jm 4 9)] []) .ret)
def A22_1 : AC := (.seq (.reg [] [((jv 5 (.fld (.t 2) 1 1))), ((jv 6 (.load .p (.t 5)))), (jm 7 1), (.mk (some 8) none false (.mark (.k (.fn 69 [] [])) [(.t 6), (.t 7)])), (jm 1 8)] []) A22_2)
def A22 : AC := (.seq (.reg [.clr [2]] [(.mk (some 2) none false (.box (.t 0))), ((jv 4 (.mov (jn 0))))] []) A22_1)
def an22 : List An := [{ id := 0, pre := [.clr [2]], ep := [], lin := [], sp := [] }, { id := 1, pre := [], ep := [], lin := [], sp := [3] }]
theorem c22 : cC Try.prog Try.f22.ntmps an22 (Try.f22.body.getD .skip) = some A22 := by kernel_rfl
structure H22 (D : Den) (σ : Sig) (F : Nat) : Prop where
  c69 : ∀ (x0 : (On (Int × Int))) (x1 : Int) r, w_markIntA2S F x0 x1 = some r → D 69 [Arg.arg x0, Enc.enc x1] = some (.tup [Enc.enc (r.1 : Int), encO (.at pinR []) (r.2 : NL (Int × Int))])
  g69 : σ 69 = some (pinR, false)
abbrev R22 (r : (Int × Og (Int × Int))) : (Nat → V) → Prop := RM Try.prog [.tmp 4] (Enc.enc (r.1 : Int)) (.agg [Enc.enc (r.2.a : Int), encO (.at pinR [1]) (r.2.v : NL (Int × Int))])
section
variable {D : Den} {σ : Sig} {F : Nat} {r : (Int × Og (Int × Int))}
def w_markGraph (F : Nat) (x_1 : (Og (Int × Int))) (x_2 : Int) : Option (Int × Og (Int × Int)) :=
  (w_markIntA2S F (On.mk x_1.v : (On (Int × Int))) x_2).bind fun r_3 =>
  (remark x_1.v r_3.2).bind fun m_4 =>
  some (r_3.1, Og.mk x_1.a m_4)
theorem t22 (H : H22 D σ F) (x_1 : (Og (Int × Int))) (x_2 : Int) (s : Nat → V) (hs : Facts [(0, (.agg [(ji x_1.a), (encO (.at pinR [1]) (x_1.v : NL (Int × Int)))])), (1, (ji x_2))] s) (h : w_markGraph F x_1 x_2 = some r) : Run D σ (R22 r) (.run A22 []) s := by
  unfold w_markGraph at h
  obtain ⟨h0, h1⟩ := hs
  refine .seq (run_reg ?_)
  refine e_clr ?_
  refine ez [(0, _), (1, _), (2, _)] ⟨(keep_clear (pk := [2]) h0 rfl (map_agg (maps_cons mi (maps_cons (map_encO (r := pinR) (p := [1]) rfl rfl) maps_nil)))), (keep_clear (pk := [2]) h1 rfl mi), (gone_clear (pk := [2]) (t := 2) rfl)⟩ ?_
  rintro s ⟨h0, h1, h2⟩
  refine g_box (.agg [(ji x_1.a), (encO (.at pinR [1]) (x_1.v : NL (Int × Int)))]) (rd_of h0 rfl) h2 rfl ?_
  refine g0 (ji 0) fun h4 => gq (.nsq (.seq (rg (g1 2 (.ref (.bx 2) 0 [1] (encO (.at pinR [1]) (x_1.v : NL (Int × Int)))) (rfl : (_ : V) = (.ref (.bx 2) 0 [] (.agg [(ji x_1.a), (encO (.at pinR [1]) (x_1.v : NL (Int × Int)))]))) fun h5 => ?_))))
  refine gv (encO (.at pinR [1]) (x_1.v : NL (Int × Int))) (ev_loadN h5 beq_encO) fun h6 => ?_
  refine gm h1 fun h7 => ?_
  obtain ⟨r_3, E_r_3, h⟩ := bind_some h
  obtain ⟨m_4, E_m_4, h⟩ := bind_some h
  refine g_mark (v := (encO (.at pinR [1]) (x_1.v : NL (Int × Int)))) h6 (canon_own (o := (x_1.v : (NL (Int × Int)))) rfl) (rdAll_cons (v := (ji x_2)) h7 rfl rdAll_nil) (H.c69 _ _ _ E_r_3) H.g69 rfl rfl (fun s_2 hm_2 => ?_)
  refine gm (rfl : (_ : V) = (ji r_3.1)) fun h1 => ?_
  refine gz [(0, (.agg [(ji x_1.a), (encO (.at pinR [1]) (m_4 : NL (Int × Int)))])), (1, _), (4, (ji 0))] ⟨(show s_2 0 = (.agg [(ji x_1.a), (encO (.at pinR [1]) (m_4 : NL (Int × Int)))]) from hm_2 0 (.agg [(ji x_1.a), (encO (.at pinR [1]) (x_1.v : NL (Int × Int)))]) (.agg [(ji x_1.a), (encO (.at pinR [1]) (m_4 : NL (Int × Int)))]) h0 (rem_agg (rems_cons (rem_self _ rfl) (rems_cons (marked_own (o := (x_1.v : NL (Int × Int))) rfl E_m_4) rems_nil)))), h1, (show s_2 4 = (ji 0) from hm_2 4 (ji 0) (ji 0) h4 (rem_self _ rfl))⟩ ?_
  rintro s ⟨h0, h1, h4⟩
  refine .nsq (.seq (rg (gm h1 fun h9 => gm h9 fun h4 => gq (.nsq (.ret ?_)))))
  have hr := Option.some.inj h
  subst hr
  exact rmA (res_tmp h4) h0
end
def e22 (F : Nat) : Ent := ent 22 (fun (x : ((Og (Int × Int)) × Int × Unit)) => w_markGraph F x.1 x.2.1) (fun (r : (Int × Og (Int × Int))) => (.tup [Enc.enc (r.1 : Int), .agg [Enc.enc (r.2.a : Int), encO (.at pinR [1]) (r.2.v : NL (Int × Int))]])) pinR false []
theorem p22 {F : Nat} {x0 : (Og (Int × Int))} {x1 : Int} {r : (Int × Og (Int × Int))} (h : w_markGraph F x0 x1 = some r) : (e22 F).den [Arg.arg x0, Enc.enc x1] = some (.tup [Enc.enc (r.1 : Int), .agg [Enc.enc (r.2.a : Int), encO (.at pinR [1]) (r.2.v : NL (Int × Int))]]) := ent_put (x0, x1, ()) h
theorem o22 {D : Den} {σ : Sig} {F : Nat} (hF : Fits2 Try.prog D σ) (H : H22 D σ F) : (e22 F).Ok Try.prog := by
  refine ok_of (f := 22) (show unk 22 = 22 from rfl) (fun args r h => ?_) ⟨Try.f22, Try.func22, rfl, rfl⟩
  obtain ⟨⟨x0, x1, _⟩, y, rfl, hy, rfl⟩ := da_open h
  exact contractM_run hF (by kernel_rfl) Try.func22 rfl c22 (all_ok2 rfl rfl) (show 2 ≤ Try.f22.ntmps by decide) (by decide) (t22 H x0 x1 _ ⟨rfl, rfl⟩ hy)
/- loop.example/g01109/laws.toIntS -/
def A18o_2 : AC := (.cond (.t 11) .skip (.exit 0))
def A18o_4 : AC := (.reg [] [(jm 12 4), ((jv 13 (.bin .add (.t 12) (jn 1)))), (jm 4 13)] [])
def A18o_3 : AC := (.seq (.block 1 (.reg [] [(jm 14 3), (jm 15 4), (jm 16 0), (jm 17 4), ((jv 18 (.idx (.t 16) (.t 17) 1))), ((jv 19 (.load .s (.t 18)))), ((jv 20 (.idx (.t 14) (.t 15) 1))), (.mk none none false (.store .s (.t 20) (.t 19)))] [])) A18o_4)
def A18o_1 : AC := (.seq (.seq (.reg [] [(jm 8 4), (jm 9 0), ((jv 10 (.len (.t 9)))), ((jv 11 (.bin .lss (.t 8) (.t 10))))] []) A18o_2) A18o_3)
def A18o_5 : AC := (.seq (.reg [] [(jm 21 3), (jm 2 21)] [.home 3 2]) .ret)
def A18o_8 : AC := (.block 0 (.loop A18o_1))
def A18o_7 : AC := (.seq (.seq (.reg [] [((jv 4 (.mov (jn 0))))] []) A18o_8) A18o_5)
def A18o_6 : AC := (.seq (.reg [.clr [7]] [(jm 5 0), ((jv 6 (.len (.t 5)))), (.mk (some 7) none false (.mk (.t 6) (.int .i64 (.ofNat 0)) (.int .i64 (.ofNat 0)))), (jm 3 7)] [.home 7 3]) A18o_7)
def A18o : AC := (.seq (.reg [] [((jv 2 (.mov (.k (.sl .nl .s 0 [])))))] []) A18o_6)
def an18o : List An := [{ id := 1, pre := [.clr [7]], ep := [.home 7 3], lin := [], sp := [] }, { id := 6, pre := [], ep := [.home 3 2], lin := [], sp := [] }]
theorem c18o : cC Try.prog Try.f18.ntmps an18o (Try.f18.body.getD .skip) = some A18o := by kernel_rfl
structure H18o (D : Den) (σ : Sig) (F : Nat) : Prop where
  mk ::
abbrev R18o (r : (NL Int)) : (Nat → V) → Prop := RR Try.prog [.tmp 2] 1 false (encO .sh (r : NL Int))
section
variable {D : Den} {σ : Sig} {F : Nat} {r : (NL Int)}
def w_toIntS_o_l1 (F : Nat) (x_1 : (List Int))  : Nat → (List Int) → Int → Option (NL Int)
  | 0, _, _ => none
  | k + 1, x_5, x_6 =>
    bif decide (x_6 < (x_1.length : Int)) then
      (idx x_1 x_6).bind fun e_9 =>
      (idx x_5 x_6).bind fun e_10 =>
      (w_toIntS_o_l1 F x_1 k) (x_5.set x_6.toNat e_9) (w64 (x_6 + 1))
    else
      some (.of x_5)
theorem t_f18o_l1 (H : H18o D σ F) (x_1 : (List Int))  : ∀ (k : Nat) (x_5 : (List Int)) (x_6 : Int) (s : Nat → V), Facts [(0, (eL x_1)), (2, (.sl .nl (Enc.shp Int) 0 [])), (3, (oI 3 [] (.of x_5))), (4, (ji x_6))] s → w_toIntS_o_l1 F x_1 k x_5 x_6 = some r → Run D σ (R18o r) (.run A18o_1 [.lp A18o_1, .bk 0, .sq A18o_5]) s := by
  intro k
  induction k with
  | zero => intro x_5 x_6 s _ h; exact nomatch (h : (none : Option _) = some r)
  | succ k ih =>
    intro x_5 x_6 s hs h
    rw [w_toIntS_o_l1] at h
    obtain ⟨h0, h2, h3, h4⟩ := hs
    refine .seq (.seq (rg (gm h4 fun h8 => gm h0 fun h9 => gv (ji (x_1.length : Int)) (ev_len (xs := x_1) h9) fun h10 => ?_)))
    refine g2 8 10 (jb (decide (x_6 < (x_1.length : Int)))) h8 h10 fun h11 => ?_
    refine gq (.nsq (run_cond (t := decide (x_6 < (x_1.length : Int))) h11 h (fun h => ?_) (fun h => ?_)))
    · refine .skip (.nsq (.seq (.block (rg (gm h3 fun h14 => gm h4 fun h15 => gm h0 fun h16 => gm h4 fun h17 => ?_)))))
      obtain ⟨e_9, E_e_9, h⟩ := bind_some h
      refine gv (.ref .sh 0 [] (ji e_9)) (ev_idx (t := .sh) (lo := 0) (xs := x_1) h16 h17 E_e_9 rfl rfl) fun h18 => ?_
      refine g1 18 (ji e_9) h18 fun h19 => ?_
      obtain ⟨e_10, E_e_10, h⟩ := bind_some h
      refine gv (.ref (.at 3 []) x_6.toNat [] (ji e_10)) (ev_idxO (o := (.of x_5)) h14 h15 E_e_10 rfl) fun h20 => ?_
      refine g_store (ji e_9) (rd_of h20 rfl) (rd_of h19 rfl) (by refine ⟨by decide, by decide, rfl, rfl, rfl, ?_⟩; first | rfl | simp [V.toks, V.tokss, Enc.toks_enc]) ?_
      refine gz [(0, (eL x_1)), (2, (.sl .nl (Enc.shp Int) 0 [])), (3, _), (4, (ji x_6))] ⟨(keep_mut h0 (Enc.mut_enc _ _ _ _ (x_1 : List Int))), (keep_mut h2 rfl), (keep_mut h3 mut_own), (keep_mut h4 rfl)⟩ ?_
      rintro s ⟨h0, h2, h3, h4⟩
      refine .nbk (.nsq (rg (gm h4 fun h12 => g1 12 (ji (w64 (x_6 + 1))) h12 fun h13 => ?_)))
      refine gm h13 fun h4 => gq (.nlp ?_)
      exact ih (x_5.set x_6.toNat e_9) (w64 (x_6 + 1)) _ ⟨h0, h2, h3, h4⟩ h
    refine .exit (.esq (.elp (.ebk (.nsq (.seq (rg (gm h3 fun h21 => gm h21 fun h2 => g_end ?_)))))))
    refine e_home (r := 3) (x := 2) (v := _) h2 rfl (fun s_3 hg_3 => ?_)
    refine ez [(2, (oI 2 [] (.of x_5)))] (hg_3 2 _ _ h2 (map_encO (r := 3) (p := []) rfl rfl)) ?_
    rintro s h2
    refine .nsq (.ret ?_)
    have hr := Option.some.inj h
    subst hr
    exact rrA (res_tmp h2) (fin_retO (finO_own (o := ((.of x_5) : NL Int))) rfl (mine_own rfl))
def w_toIntS_o (F : Nat) (x_1 : (List Int)) : Option (NL Int) :=
  (mkN (x_1.length : Int) (0 : Int)).bind fun mk_2 =>
  w_toIntS_o_l1 F x_1 F mk_2 0
theorem t18o (H : H18o D σ F) (x_1 : (List Int)) (s : Nat → V) (hs : Facts [(0, (eL x_1))] s) (h : w_toIntS_o F x_1 = some r) : Run D σ (R18o r) (.run A18o []) s := by
  unfold w_toIntS_o at h
  have h0 := hs
  refine .seq (rg (g0 (.sl .nl (Enc.shp Int) 0 []) fun h2 => ?_))
  refine gq (.nsq (.seq (run_reg ?_)))
  refine e_clr ?_
  refine ez [(0, _), (2, _), (7, _)] ⟨(keep_clear (pk := [7]) h0 rfl me), (keep_clear (pk := [7]) h2 rfl rfl), (gone_clear (pk := [7]) (t := 7) rfl)⟩ ?_
  rintro s ⟨h0, h2, h7⟩
  refine gm h0 fun h5 => gv (ji (x_1.length : Int)) (ev_len (xs := x_1) h5) fun h6 => ?_
  obtain ⟨mk_2, E_mk_2, h⟩ := bind_some h
  refine g_mk (0 : Int) h6 rfl h7 E_mk_2 ?_
  refine gm (rfl : (_ : V) = (oI 7 [] (.of mk_2))) fun h3 => ?_
  refine g_end ?_
  refine e_home (r := 7) (x := 3) (v := _) h3 rfl (fun s_2 hg_2 => ?_)
  refine ez [(0, (eL x_1)), (2, (.sl .nl (Enc.shp Int) 0 [])), (3, (oI 3 [] (.of mk_2)))] ⟨(hg_2 0 _ _ h0 me), (hg_2 2 _ (.sl .nl (Enc.shp Int) 0 []) h2 rfl), (hg_2 3 _ _ h3 (map_encO (r := 7) (p := []) rfl rfl))⟩ ?_
  rintro s ⟨h0, h2, h3⟩
  refine .nsq (.seq (.seq (rg (g0 (ji 0) fun h4 => gq (.nsq (.block (.loop ?_)))))))
  exact t_f18o_l1 H x_1 F mk_2 0 _ ⟨h0, h2, h3, h4⟩ h
end
def e18o (F : Nat) : Ent := ent 1000000018 (fun (x : ((List Int) × Unit)) => w_toIntS_o F x.1) (fun (r : (NL Int)) => (encO .sh (r : NL Int))) 1 false []
theorem p18o {F : Nat} {x0 : (List Int)} {r : (NL Int)} (h : w_toIntS_o F x0 = some r) : (e18o F).den [Enc.enc x0] = some (encO .sh (r : NL Int)) := ent_put (x0, ()) h
theorem o18o {D : Den} {σ : Sig} {F : Nat} (hF : Fits2 Try.prog D σ) (H : H18o D σ F) : (e18o F).Ok Try.prog := by
  refine ok_of (f := 18) (show unk 1000000018 = 18 from rfl) (fun args r h => ?_) ⟨Try.f18, Try.func18, rfl, rfl⟩
  obtain ⟨⟨x0, _⟩, y, rfl, hy, rfl⟩ := da_open h
  exact contract_run hF (by kernel_rfl) Try.func18 rfl c18o (show 1 ≤ Try.f18.ntmps by decide) (t18o H x0 _ rfl hy)
/- loop.example/g01109/laws.markIntS -/
def A23_2 : AC := (.cond (.t 9) .skip (.exit 0))
def A23_4 : AC := (.reg [] [(jm 16 1), ((jv 17 (.bin .add (.t 16) (jn 1)))), (jm 1 17)] [])
def A23_5 : AC := (.reg [] [(jm 10 5), ((jv 11 (.bin .add (.t 10) (jn 1)))), (jm 5 11)] [])
def A23_3 : AC := (.seq (.block 1 (.seq (.reg [] [(jm 12 0), (jm 13 5), (jm 14 1), ((jv 15 (.idx (.t 12) (.t 13) 1))), (.mk none none false (.store .s (.t 15) (.t 14)))] []) A23_4)) A23_5)
def A23_1 : AC := (.seq (.seq (.reg [] [(jm 6 5), (jm 7 0), ((jv 8 (.len (.t 7)))), ((jv 9 (.bin .lss (.t 6) (.t 8))))] []) A23_2) A23_3)
def A23_6 : AC := (.seq (.reg [] [(jm 18 1), (jm 4 18)] []) .ret)
def A23_8 : AC := (.block 0 (.loop A23_1))
def A23_7 : AC := (.seq (.seq (.reg [] [((jv 5 (.mov (jn 0))))] []) A23_8) A23_6)
def A23 : AC := (.seq (.reg [] [((jv 4 (.mov (jn 0))))] []) A23_7)
def an23 : List An := []
theorem c23 : cC Try.prog Try.f23.ntmps an23 (Try.f23.body.getD .skip) = some A23 := by kernel_rfl
structure H23 (D : Den) (σ : Sig) (F : Nat) : Prop where
  mk ::
abbrev R23 (r : (Int × NL Int)) : (Nat → V) → Prop := RM Try.prog [.tmp 4] (Enc.enc (r.1 : Int)) (encO (.at pinR []) (r.2 : NL Int))
section
variable {D : Den} {σ : Sig} {F : Nat} {r : (Int × NL Int)}
def w_markIntS_l1 (F : Nat)   : Nat → (NL Int) → Int → Int → Option (Int × NL Int)
  | 0, _, _, _ => none
  | k + 1, x_4, x_5, x_6 =>
    bif decide (x_6 < (x_4.list.length : Int)) then
      (idx x_4.list x_6).bind fun e_8 =>
      (w_markIntS_l1 F k) (NL.set x_4 x_6.toNat x_5) (w64 (x_5 + 1)) (w64 (x_6 + 1))
    else
      some (x_5, x_4)
theorem t_f23_l1 (H : H23 D σ F)   : ∀ (k : Nat) (x_4 : (NL Int)) (x_5 : Int) (x_6 : Int) (s : Nat → V), Facts [(0, (oI pinR [] x_4)), (1, (ji x_5)), (4, (ji 0)), (5, (ji x_6))] s → w_markIntS_l1 F k x_4 x_5 x_6 = some r → Run D σ (R23 r) (.run A23_1 [.lp A23_1, .bk 0, .sq A23_6]) s := by
  intro k
  induction k with
  | zero => intro x_4 x_5 x_6 s _ h; exact nomatch (h : (none : Option _) = some r)
  | succ k ih =>
    intro x_4 x_5 x_6 s hs h
    rw [w_markIntS_l1] at h
    obtain ⟨h0, h1, h4, h5⟩ := hs
    refine .seq (.seq (rg (gm h5 fun h6 => gv (oI pinR [] x_4) (ev_mov h0 ok_encO) fun h7 => ?_)))
    refine gv (ji (x_4.list.length : Int)) (ev_lenO (o := x_4) h7) fun h8 => ?_
    refine g2 6 8 (jb (decide (x_6 < (x_4.list.length : Int)))) h6 h8 fun h9 => ?_
    refine gq (.nsq (run_cond (t := decide (x_6 < (x_4.list.length : Int))) h9 h (fun h => ?_) (fun h => ?_)))
    · refine .skip (.nsq (.seq (.block (.seq (rg (gv (oI pinR [] x_4) (ev_mov h0 ok_encO) fun h12 => ?_))))))
      refine gm h5 fun h13 => gm h1 fun h14 => ?_
      obtain ⟨e_8, E_e_8, h⟩ := bind_some h
      refine gv (.ref (.at pinR []) x_6.toNat [] (ji e_8)) (ev_idxO (o := x_4) h12 h13 E_e_8 rfl) fun h15 => ?_
      refine g_store (ji x_5) (rd_of h15 rfl) (rd_of h14 rfl) (by refine ⟨by decide, by decide, rfl, rfl, rfl, ?_⟩; first | rfl | simp [V.toks, V.tokss, Enc.toks_enc]) ?_
      refine gz [(0, _), (1, (ji x_5)), (4, (ji 0)), (5, (ji x_6))] ⟨(keep_mut h0 (mut_ownN (α := Int) (u := x_5) (i := x_6.toNat) (o := x_4))), (keep_mut h1 rfl), (keep_mut h4 rfl), (keep_mut h5 rfl)⟩ ?_
      rintro s ⟨h0, h1, h4, h5⟩
      refine .nsq (rg (gm h1 fun h16 => g1 16 (ji (w64 (x_5 + 1))) h16 fun h17 => ?_))
      refine gm h17 fun h1 => gq (.nbk (.nsq (rg (gm h5 fun h10 => g1 10 (ji (w64 (x_6 + 1))) h10 fun h11 => ?_))))
      refine gm h11 fun h5 => gq (.nlp ?_)
      exact ih (NL.set x_4 x_6.toNat x_5) (w64 (x_5 + 1)) (w64 (x_6 + 1)) _ ⟨h0, h1, h4, h5⟩ h
    refine .exit (.esq (.elp (.ebk (.nsq (.seq (rg (gm h1 fun h18 => gm h18 fun h4 => gq (.nsq (.ret ?_)))))))))
    have hr := Option.some.inj h
    subst hr
    exact rmA (res_tmp h4) h0
def w_markIntS (F : Nat) (x_1 : (On Int)) (x_2 : Int) : Option (Int × NL Int) :=
  w_markIntS_l1 F F x_1.v x_2 0
theorem t23 (H : H23 D σ F) (x_1 : (On Int)) (x_2 : Int) (s : Nat → V) (hs : Facts [(0, (oI pinR [] x_1.v)), (1, (ji x_2))] s) (h : w_markIntS F x_1 x_2 = some r) : Run D σ (R23 r) (.run A23 []) s := by
  unfold w_markIntS at h
  obtain ⟨h0, h1⟩ := hs
  refine .seq (rg (g0 (ji 0) fun h4 => gq (.nsq (.seq (.seq (rg (g0 (ji 0) fun h5 => gq (.nsq (.block (.loop ?_))))))))))
  exact t_f23_l1 H F x_1.v x_2 0 _ ⟨h0, h1, h4, h5⟩ h
end
def e23 (F : Nat) : Ent := ent 23 (fun (x : ((On Int) × Int × Unit)) => w_markIntS F x.1 x.2.1) (fun (r : (Int × NL Int)) => (.tup [Enc.enc (r.1 : Int), encO (.at pinR []) (r.2 : NL Int)])) pinR false []
theorem p23 {F : Nat} {x0 : (On Int)} {x1 : Int} {r : (Int × NL Int)} (h : w_markIntS F x0 x1 = some r) : (e23 F).den [Arg.arg x0, Enc.enc x1] = some (.tup [Enc.enc (r.1 : Int), encO (.at pinR []) (r.2 : NL Int)]) := ent_put (x0, x1, ()) h
theorem o23 {D : Den} {σ : Sig} {F : Nat} (hF : Fits2 Try.prog D σ) (H : H23 D σ F) : (e23 F).Ok Try.prog := by
  refine ok_of (f := 23) (show unk 23 = 23 from rfl) (fun args r h => ?_) ⟨Try.f23, Try.func23, rfl, rfl⟩
  obtain ⟨⟨x0, x1, _⟩, y, rfl, hy, rfl⟩ := da_open h
  exact contractM_run hF (by kernel_rfl) Try.func23 rfl c23 (all_ok2 ok_encP rfl) (show 2 ≤ Try.f23.ntmps by decide) (by decide) (t23 H x0 x1 _ ⟨rfl, rfl⟩ hy)
/- loop.example/g01109/laws.markIntSS -/
def A30_2 : AC := (.cond (.t 9) .skip (.exit 0))
def A30_4 : AC := (.reg [] [(jm 10 5), ((jv 11 (.bin .add (.t 10) (jn 1)))), (jm 5 11)] [])
def A30_3 : AC := (.seq (.block 1 (.reg [] [(jm 12 0), (jm 13 5), ((jv 14 (.idx (.t 12) (.t 13) 1))), ((jv 15 (.load .p (.t 14)))), (jm 16 1), (.mk (some 17) none false (.mark (.k (.fn 23 [] [])) [(.t 15), (.t 16)])), (jm 1 17)] [])) A30_4)
def A30_1 : AC := (.seq (.seq (.reg [] [(jm 6 5), (jm 7 0), ((jv 8 (.len (.t 7)))), ((jv 9 (.bin .lss (.t 6) (.t 8))))] []) A30_2) A30_3)
def A30_5 : AC := (.seq (.reg [] [(jm 18 1), (jm 4 18)] []) .ret)
def A30_7 : AC := (.block 0 (.loop A30_1))
def A30_6 : AC := (.seq (.seq (.reg [] [((jv 5 (.mov (jn 0))))] []) A30_7) A30_5)
def A30 : AC := (.seq (.reg [] [((jv 4 (.mov (jn 0))))] []) A30_6)
def an30 : List An := [{ id := 4, pre := [], ep := [], lin := [], sp := [5] }]
theorem c30 : cC Try.prog Try.f30.ntmps an30 (Try.f30.body.getD .skip) = some A30 := by kernel_rfl
structure H30 (D : Den) (σ : Sig) (F : Nat) : Prop where
  c23 : ∀ (x0 : (On Int)) (x1 : Int) r, w_markIntS F x0 x1 = some r → D 23 [Arg.arg x0, Enc.enc x1] = some (.tup [Enc.enc (r.1 : Int), encO (.at pinR []) (r.2 : NL Int)])
  g23 : σ 23 = some (pinR, false)
abbrev R30 (r : (Int × NL (NL Int))) : (Nat → V) → Prop := RM Try.prog [.tmp 4] (Enc.enc (r.1 : Int)) (encN pinR [] (r.2 : NL (NL Int)))
section
variable {D : Den} {σ : Sig} {F : Nat} {r : (Int × NL (NL Int))}
def w_markIntSS_l1 (F : Nat)   : Nat → (NL (NL Int)) → Int → Int → Option (Int × NL (NL Int))
  | 0, _, _, _ => none
  | k + 1, x_6, x_7, x_8 =>
    bif decide (x_8 < (x_6.list.length : Int)) then
      (idx x_6.list x_8).bind fun e_12 =>
      (w_markIntS F (On.mk e_12 : (On Int)) x_7).bind fun r_13 =>
      (remark e_12 r_13.2).bind fun m_14 =>
      (w_markIntSS_l1 F k) (NL.set x_6 x_8.toNat m_14) r_13.1 (w64 (x_8 + 1))
    else
      some (x_7, x_6)
theorem t_f30_l1 (H : H30 D σ F)   : ∀ (k : Nat) (x_6 : (NL (NL Int))) (x_7 : Int) (x_8 : Int) (s : Nat → V), Facts [(0, (encN pinR [] (x_6 : NL (NL Int)))), (1, (ji x_7)), (4, (ji 0)), (5, (ji x_8))] s → w_markIntSS_l1 F k x_6 x_7 x_8 = some r → Run D σ (R30 r) (.run A30_1 [.lp A30_1, .bk 0, .sq A30_5]) s := by
  intro k
  induction k with
  | zero => intro x_6 x_7 x_8 s _ h; exact nomatch (h : (none : Option _) = some r)
  | succ k ih =>
    intro x_6 x_7 x_8 s hs h
    rw [w_markIntSS_l1] at h
    obtain ⟨h0, h1, h4, h5⟩ := hs
    refine .seq (.seq (rg (gm h5 fun h6 => gv (encN pinR [] (x_6 : NL (NL Int))) (ev_mov h0 ok_encN) fun h7 => ?_)))
    refine gv (ji (x_6.list.length : Int)) (ev_lenN (o := (x_6 : NL (NL Int))) h7) fun h8 => ?_
    refine g2 6 8 (jb (decide (x_8 < (x_6.list.length : Int)))) h6 h8 fun h9 => ?_
    refine gq (.nsq (run_cond (t := decide (x_8 < (x_6.list.length : Int))) h9 h (fun h => ?_) (fun h => ?_)))
    · refine .skip (.nsq (.seq (.block (rg (gv (encN pinR [] (x_6 : NL (NL Int))) (ev_mov h0 ok_encN) fun h12 => ?_)))))
      refine gm h5 fun h13 => ?_
      obtain ⟨e_12, E_e_12, h⟩ := bind_some h
      refine gv (.ref (.at pinR []) x_8.toNat [] (oI pinR [x_8.toNat] e_12)) (ev_idxN (o := (x_6 : NL (NL Int))) h12 h13 E_e_12 rfl) fun h14 => ?_
      refine gv (oI pinR [x_8.toNat] e_12) (ev_loadN h14 beq_encO) fun h15 => ?_
      refine gm h1 fun h16 => ?_
      obtain ⟨r_13, E_r_13, h⟩ := bind_some h
      obtain ⟨m_14, E_m_14, h⟩ := bind_some h
      refine g_mark (v := (oI pinR [x_8.toNat] e_12)) h15 (canon_own (o := (e_12 : (NL Int))) rfl) (rdAll_cons (v := (ji x_7)) h16 rfl rdAll_nil) (H.c23 _ _ _ E_r_13) H.g23 rfl rfl (fun s_3 hm_3 => ?_)
      refine gm (rfl : (_ : V) = (ji r_13.1)) fun h1 => ?_
      refine gz [(0, (encN pinR [] ((NL.set x_6 x_8.toNat m_14) : NL (NL Int)))), (1, _), (4, (ji 0)), (5, (ji x_8))] ⟨(show s_3 0 = (encN pinR [] ((NL.set x_6 x_8.toNat m_14) : NL (NL Int))) from hm_3 0 (encN pinR [] (x_6 : NL (NL Int))) (encN pinR [] ((NL.set x_6 x_8.toNat m_14) : NL (NL Int))) h0 (rem_rowN (r := pinR) (p := []) (o := (x_6 : NL (NL Int))) rfl E_e_12 E_m_14)), h1, (show s_3 4 = (ji 0) from hm_3 4 (ji 0) (ji 0) h4 (rem_self _ rfl)), (show s_3 5 = (ji x_8) from hm_3 5 (ji x_8) (ji x_8) h5 (rem_self _ rfl))⟩ ?_
      rintro s ⟨h0, h1, h4, h5⟩
      refine .nbk (.nsq (rg (gm h5 fun h10 => g1 10 (ji (w64 (x_8 + 1))) h10 fun h11 => ?_)))
      refine gm h11 fun h5 => gq (.nlp ?_)
      exact ih (NL.set x_6 x_8.toNat m_14) r_13.1 (w64 (x_8 + 1)) _ ⟨h0, h1, h4, h5⟩ h
    refine .exit (.esq (.elp (.ebk (.nsq (.seq (rg (gm h1 fun h18 => gm h18 fun h4 => gq (.nsq (.ret ?_)))))))))
    have hr := Option.some.inj h
    subst hr
    exact rmA (res_tmp h4) h0
def w_markIntSS (F : Nat) (x_1 : (On2 Int)) (x_2 : Int) : Option (Int × NL (NL Int)) :=
  w_markIntSS_l1 F F x_1.v x_2 0
theorem t30 (H : H30 D σ F) (x_1 : (On2 Int)) (x_2 : Int) (s : Nat → V) (hs : Facts [(0, (encN pinR [] (x_1.v : NL (NL Int)))), (1, (ji x_2))] s) (h : w_markIntSS F x_1 x_2 = some r) : Run D σ (R30 r) (.run A30 []) s := by
  unfold w_markIntSS at h
  obtain ⟨h0, h1⟩ := hs
  refine .seq (rg (g0 (ji 0) fun h4 => gq (.nsq (.seq (.seq (rg (g0 (ji 0) fun h5 => gq (.nsq (.block (.loop ?_))))))))))
  exact t_f30_l1 H F x_1.v x_2 0 _ ⟨h0, h1, h4, h5⟩ h
end
def e30 (F : Nat) : Ent := ent 30 (fun (x : ((On2 Int) × Int × Unit)) => w_markIntSS F x.1 x.2.1) (fun (r : (Int × NL (NL Int))) => (.tup [Enc.enc (r.1 : Int), encN pinR [] (r.2 : NL (NL Int))])) pinR false []
theorem p30 {F : Nat} {x0 : (On2 Int)} {x1 : Int} {r : (Int × NL (NL Int))} (h : w_markIntSS F x0 x1 = some r) : (e30 F).den [Arg.arg x0, Enc.enc x1] = some (.tup [Enc.enc (r.1 : Int), encN pinR [] (r.2 : NL (NL Int))]) := ent_put (x0, x1, ()) h
theorem o30 {D : Den} {σ : Sig} {F : Nat} (hF : Fits2 Try.prog D σ) (H : H30 D σ F) : (e30 F).Ok Try.prog := by
  refine ok_of (f := 30) (show unk 30 = 30 from rfl) (fun args r h => ?_) ⟨Try.f30, Try.func30, rfl, rfl⟩
  obtain ⟨⟨x0, x1, _⟩, y, rfl, hy, rfl⟩ := da_open h
  exact contractM_run hF (by kernel_rfl) Try.func30 rfl c30 (all_ok2 ok_encN rfl) (show 2 ≤ Try.f30.ntmps by decide) (by decide) (t30 H x0 x1 _ ⟨rfl, rfl⟩ hy)
/- loop.example/g01109/laws.heldIntS -/
def A31_2 : AC := (.cond (.t 9) .skip (.exit 0))
def A31_4 : AC := (.cond (.t 17) (.seq (.reg [] [((jv 4 (.mov (jn (-1)))))] []) .ret) .skip)
def A31_5 : AC := (.reg [] [(jm 18 1), ((jv 19 (.bin .add (.t 18) (jn 1)))), (jm 1 19)] [])
def A31_6 : AC := (.reg [] [(jm 10 5), ((jv 11 (.bin .add (.t 10) (jn 1)))), (jm 5 11)] [])
def A31_3 : AC := (.seq (.block 1 (.seq (.seq (.reg [] [(jm 12 0), (jm 13 5), ((jv 14 (.idx (.t 12) (.t 13) 1))), ((jv 15 (.load .s (.t 14)))), (jm 16 1), ((jv 17 (.bin .neq (.t 15) (.t 16))))] []) A31_4) A31_5)) A31_6)
def A31_1 : AC := (.seq (.seq (.reg [] [(jm 6 5), (jm 7 0), ((jv 8 (.len (.t 7)))), ((jv 9 (.bin .lss (.t 6) (.t 8))))] []) A31_2) A31_3)
def A31_7 : AC := (.seq (.reg [] [(jm 20 1), (jm 4 20)] []) .ret)
def A31_9 : AC := (.block 0 (.loop A31_1))
def A31_8 : AC := (.seq (.seq (.reg [] [((jv 5 (.mov (jn 0))))] []) A31_9) A31_7)
def A31 : AC := (.seq (.reg [] [((jv 4 (.mov (jn 0))))] []) A31_8)
def an31 : List An := []
theorem c31 : cC Try.prog Try.f31.ntmps an31 (Try.f31.body.getD .skip) = some A31 := by kernel_rfl
structure H31 (D : Den) (σ : Sig) (F : Nat) : Prop where
  mk ::
abbrev R31 (r : Int) : (Nat → V) → Prop := RR Try.prog [.tmp 4] 0 false (Enc.enc (r : Int))
section
variable {D : Den} {σ : Sig} {F : Nat} {r : Int}
def w_heldIntS_l1 (F : Nat) (x_1 : (List Int))  : Nat → Int → Int → Option Int
  | 0, _, _ => none
  | k + 1, x_4, x_5 =>
    bif decide (x_5 < (x_1.length : Int)) then
      (idx x_1 x_5).bind fun e_7 =>
      bif (e_7 != x_4) then
        some (-1)
      else
        (w_heldIntS_l1 F x_1 k) (w64 (x_4 + 1)) (w64 (x_5 + 1))
    else
      some x_4
theorem t_f31_l1 (H : H31 D σ F) (x_1 : (List Int))  : ∀ (k : Nat) (x_4 : Int) (x_5 : Int) (s : Nat → V), Facts [(0, (eL x_1)), (1, (ji x_4)), (4, (ji 0)), (5, (ji x_5))] s → w_heldIntS_l1 F x_1 k x_4 x_5 = some r → Run D σ (R31 r) (.run A31_1 [.lp A31_1, .bk 0, .sq A31_7]) s := by
  intro k
  induction k with
  | zero => intro x_4 x_5 s _ h; exact nomatch (h : (none : Option _) = some r)
  | succ k ih =>
    intro x_4 x_5 s hs h
    rw [w_heldIntS_l1] at h
    obtain ⟨h0, h1, h4, h5⟩ := hs
    refine .seq (.seq (rg (gm h5 fun h6 => gm h0 fun h7 => gv (ji (x_1.length : Int)) (ev_len (xs := x_1) h7) fun h8 => ?_)))
    refine g2 6 8 (jb (decide (x_5 < (x_1.length : Int)))) h6 h8 fun h9 => ?_
    refine gq (.nsq (run_cond (t := decide (x_5 < (x_1.length : Int))) h9 h (fun h => ?_) (fun h => ?_)))
    · refine .skip (.nsq (.seq (.block (.seq (.seq (rg (gm h0 fun h12 => gm h5 fun h13 => ?_)))))))
      obtain ⟨e_7, E_e_7, h⟩ := bind_some h
      refine gv (.ref .sh 0 [] (ji e_7)) (ev_idx (t := .sh) (lo := 0) (xs := x_1) h12 h13 E_e_7 rfl rfl) fun h14 => ?_
      refine g1 14 (ji e_7) h14 fun h15 => ?_
      refine gm h1 fun h16 => g2 15 16 (jb (e_7 != x_4)) h15 h16 fun h17 => ?_
      refine gq (.nsq (run_cond (t := (e_7 != x_4)) h17 h (fun h => ?_) (fun h => ?_)))
      · refine .seq (rg (g0 (ji (-1)) fun h4 => ?_))
        refine gq (.nsq (.ret ?_))
        have hr := Option.some.inj h
        subst hr
        exact rrA (res_tmp h4) rfl
      refine .skip (.nsq (rg (gm h1 fun h18 => g1 18 (ji (w64 (x_4 + 1))) h18 fun h19 => ?_)))
      refine gm h19 fun h1 => gq (.nbk (.nsq (rg (gm h5 fun h10 => g1 10 (ji (w64 (x_5 + 1))) h10 fun h11 => ?_))))
      refine gm h11 fun h5 => gq (.nlp ?_)
      exact ih (w64 (x_4 + 1)) (w64 (x_5 + 1)) _ ⟨h0, h1, h4, h5⟩ h
    refine .exit (.esq (.elp (.ebk (.nsq (.seq (rg (gm h1 fun h20 => gm h20 fun h4 => gq (.nsq (.ret ?_)))))))))
    have hr := Option.some.inj h
    subst hr
    exact rrA (res_tmp h4) rfl
def w_heldIntS (F : Nat) (x_1 : (List Int)) (x_2 : Int) : Option Int :=
  w_heldIntS_l1 F x_1 F x_2 0
theorem t31 (H : H31 D σ F) (x_1 : (List Int)) (x_2 : Int) (s : Nat → V) (hs : Facts [(0, (eL x_1)), (1, (ji x_2))] s) (h : w_heldIntS F x_1 x_2 = some r) : Run D σ (R31 r) (.run A31 []) s := by
  unfold w_heldIntS at h
  obtain ⟨h0, h1⟩ := hs
  refine .seq (rg (g0 (ji 0) fun h4 => gq (.nsq (.seq (.seq (rg (g0 (ji 0) fun h5 => gq (.nsq (.block (.loop ?_))))))))))
  exact t_f31_l1 H x_1 F x_2 0 _ ⟨h0, h1, h4, h5⟩ h
end
def e31 (F : Nat) : Ent := ent 31 (fun (x : ((List Int) × Int × Unit)) => w_heldIntS F x.1 x.2.1) (fun (r : Int) => (Enc.enc (r : Int))) 0 false []
theorem p31 {F : Nat} {x0 : (List Int)} {x1 : Int} {r : Int} (h : w_heldIntS F x0 x1 = some r) : (e31 F).den [Enc.enc x0, Enc.enc x1] = some (Enc.enc (r : Int)) := ent_put (x0, x1, ()) h
theorem o31 {D : Den} {σ : Sig} {F : Nat} (hF : Fits2 Try.prog D σ) (H : H31 D σ F) : (e31 F).Ok Try.prog := by
  refine ok_of (f := 31) (show unk 31 = 31 from rfl) (fun args r h => ?_) ⟨Try.f31, Try.func31, rfl, rfl⟩
  obtain ⟨⟨x0, x1, _⟩, y, rfl, hy, rfl⟩ := da_open h
  exact contract_run hF (by kernel_rfl) Try.func31 rfl c31 (show 2 ≤ Try.f31.ntmps by decide) (t31 H x0 x1 _ ⟨rfl, rfl⟩ hy)
/- loop.example/g01109/laws.heldIntSS -/
def A38_2 : AC := (.cond (.t 9) .skip (.exit 0))
def A38_5 : AC := (.cond (.t 19) (.seq (.reg [] [((jv 4 (.mov (jn (-1)))))] []) .ret) .skip)
def A38_4 : AC := (.seq (.reg [] [(jm 18 1), ((jv 19 (.bin .lss (.t 18) (jn 0))))] []) A38_5)
def A38_6 : AC := (.reg [] [(jm 10 5), ((jv 11 (.bin .add (.t 10) (jn 1)))), (jm 5 11)] [])
def A38_3 : AC := (.seq (.block 1 (.seq (.reg [] [(jm 12 0), (jm 13 5), ((jv 14 (.idx (.t 12) (.t 13) 1))), ((jv 15 (.load .p (.t 14)))), (jm 16 1), (.mk (some 17) none false (.call (.k (.fn 31 [] [])) [(.t 15), (.t 16)])), (jm 1 17)] []) A38_4)) A38_6)
def A38_1 : AC := (.seq (.seq (.reg [] [(jm 6 5), (jm 7 0), ((jv 8 (.len (.t 7)))), ((jv 9 (.bin .lss (.t 6) (.t 8))))] []) A38_2) A38_3)
def A38_7 : AC := (.seq (.reg [] [(jm 20 1), (jm 4 20)] []) .ret)
def A38_9 : AC := (.block 0 (.loop A38_1))
def A38_8 : AC := (.seq (.seq (.reg [] [((jv 5 (.mov (jn 0))))] []) A38_9) A38_7)
def A38 : AC := (.seq (.reg [] [((jv 4 (.mov (jn 0))))] []) A38_8)
def an38 : List An := []
theorem c38 : cC Try.prog Try.f38.ntmps an38 (Try.f38.body.getD .skip) = some A38 := by kernel_rfl
structure H38 (D : Den) (σ : Sig) (F : Nat) : Prop where
  c31 : ∀ (x0 : (List Int)) (x1 : Int) r, w_heldIntS F x0 x1 = some r → D 31 [Enc.enc x0, Enc.enc x1] = some (Enc.enc (r : Int))
  g31 : σ 31 = some (0, false)
abbrev R38 (r : Int) : (Nat → V) → Prop := RR Try.prog [.tmp 4] 0 false (Enc.enc (r : Int))
section
variable {D : Den} {σ : Sig} {F : Nat} {r : Int}
def w_heldIntSS_l1 (F : Nat) (x_1 : (List (List Int)))  : Nat → Int → Int → Option Int
  | 0, _, _ => none
  | k + 1, x_5, x_6 =>
    bif decide (x_6 < (x_1.length : Int)) then
      (idx x_1 x_6).bind fun e_9 =>
      (w_heldIntS F e_9 x_5).bind fun r_10 =>
      bif decide (r_10 < 0) then
        some (-1)
      else
        (w_heldIntSS_l1 F x_1 k) r_10 (w64 (x_6 + 1))
    else
      some x_5
theorem t_f38_l1 (H : H38 D σ F) (x_1 : (List (List Int)))  : ∀ (k : Nat) (x_5 : Int) (x_6 : Int) (s : Nat → V), Facts [(0, (Enc.enc (x_1 : List (List Int)))), (1, (ji x_5)), (4, (ji 0)), (5, (ji x_6))] s → w_heldIntSS_l1 F x_1 k x_5 x_6 = some r → Run D σ (R38 r) (.run A38_1 [.lp A38_1, .bk 0, .sq A38_7]) s := by
  intro k
  induction k with
  | zero => intro x_5 x_6 s _ h; exact nomatch (h : (none : Option _) = some r)
  | succ k ih =>
    intro x_5 x_6 s hs h
    rw [w_heldIntSS_l1] at h
    obtain ⟨h0, h1, h4, h5⟩ := hs
    refine .seq (.seq (rg (gm h5 fun h6 => gm h0 fun h7 => gv (ji (x_1.length : Int)) (ev_len (xs := x_1) h7) fun h8 => ?_)))
    refine g2 6 8 (jb (decide (x_6 < (x_1.length : Int)))) h6 h8 fun h9 => ?_
    refine gq (.nsq (run_cond (t := decide (x_6 < (x_1.length : Int))) h9 h (fun h => ?_) (fun h => ?_)))
    · refine .skip (.nsq (.seq (.block (.seq (rg (gm h0 fun h12 => gm h5 fun h13 => ?_))))))
      obtain ⟨e_9, E_e_9, h⟩ := bind_some h
      refine gv (.ref .sh 0 [] (eL e_9)) (ev_idx (t := .sh) (lo := 0) (xs := x_1) h12 h13 E_e_9 rfl rfl) fun h14 => ?_
      refine g1 14 (eL e_9) h14 fun h15 => ?_
      refine gm h1 fun h16 => ?_
      obtain ⟨r_10, E_r_10, h⟩ := bind_some h
      refine g_call (m := 0) (al := false) (r := (Enc.enc (r_10 : Int))) [Enc.enc (e_9 : (List Int)), Enc.enc (x_5 : Int)] (ta_cons (v := (eL e_9)) h15 rfl (Enc.erase_enc (e_9 : (List Int))) (ta_cons (v := (ji x_5)) h16 rfl rfl ta_nil)) (H.c31 _ _ _ E_r_10) H.g31 rfl rfl rfl rfl ?_
      refine gm (rfl : (_ : V) = (ji r_10)) fun h1 => ?_
      refine gq (.nsq (.seq (rg (gm h1 fun h18 => g1 18 (jb (decide (r_10 < 0))) h18 fun h19 => ?_))))
      refine gq (.nsq (run_cond (t := decide (r_10 < 0)) h19 h (fun h => ?_) (fun h => ?_)))
      · refine .seq (rg (g0 (ji (-1)) fun h4 => ?_))
        refine gq (.nsq (.ret ?_))
        have hr := Option.some.inj h
        subst hr
        exact rrA (res_tmp h4) rfl
      refine .skip (.nbk (.nsq (rg (gm h5 fun h10 => g1 10 (ji (w64 (x_6 + 1))) h10 fun h11 => ?_))))
      refine gm h11 fun h5 => gq (.nlp ?_)
      exact ih r_10 (w64 (x_6 + 1)) _ ⟨h0, h1, h4, h5⟩ h
    refine .exit (.esq (.elp (.ebk (.nsq (.seq (rg (gm h1 fun h20 => gm h20 fun h4 => gq (.nsq (.ret ?_)))))))))
    have hr := Option.some.inj h
    subst hr
    exact rrA (res_tmp h4) rfl
def w_heldIntSS (F : Nat) (x_1 : (List (List Int))) (x_2 : Int) : Option Int :=
  w_heldIntSS_l1 F x_1 F x_2 0
theorem t38 (H : H38 D σ F) (x_1 : (List (List Int))) (x_2 : Int) (s : Nat → V) (hs : Facts [(0, (Enc.enc (x_1 : List (List Int)))), (1, (ji x_2))] s) (h : w_heldIntSS F x_1 x_2 = some r) : Run D σ (R38 r) (.run A38 []) s := by
  unfold w_heldIntSS at h
  obtain ⟨h0, h1⟩ := hs
  refine .seq (rg (g0 (ji 0) fun h4 => gq (.nsq (.seq (.seq (rg (g0 (ji 0) fun h5 => gq (.nsq (.block (.loop ?_))))))))))
  exact t_f38_l1 H x_1 F x_2 0 _ ⟨h0, h1, h4, h5⟩ h
end
def e38 (F : Nat) : Ent := ent 38 (fun (x : ((List (List Int)) × Int × Unit)) => w_heldIntSS F x.1 x.2.1) (fun (r : Int) => (Enc.enc (r : Int))) 0 false []
theorem p38 {F : Nat} {x0 : (List (List Int))} {x1 : Int} {r : Int} (h : w_heldIntSS F x0 x1 = some r) : (e38 F).den [Enc.enc x0, Enc.enc x1] = some (Enc.enc (r : Int)) := ent_put (x0, x1, ()) h
theorem o38 {D : Den} {σ : Sig} {F : Nat} (hF : Fits2 Try.prog D σ) (H : H38 D σ F) : (e38 F).Ok Try.prog := by
  refine ok_of (f := 38) (show unk 38 = 38 from rfl) (fun args r h => ?_) ⟨Try.f38, Try.func38, rfl, rfl⟩
  obtain ⟨⟨x0, x1, _⟩, y, rfl, hy, rfl⟩ := da_open h
  exact contract_run hF (by kernel_rfl) Try.func38 rfl c38 (show 2 ≤ Try.f38.ntmps by decide) (t38 H x0 x1 _ ⟨rfl, rfl⟩ hy)
/- loop.example/g01109/laws.FnExactBagsOfLayout -/
def A7_1 : AC := (.cond (.t 108) (.seq (.reg [] [((jv 4 (.mov (.k (.bool false)))))] []) .ret) .skip)
def A7_5 : AC := (.cond (.t 113) (.seq (.reg [] [((jv 4 (.mov (.k (.bool false)))))] []) .ret) .skip)
def A7_7 : AC := (.cond (.t 116) (.seq (.reg [] [((jv 4 (.mov (.k (.bool false)))))] []) .ret) .skip)
def A7_8 : AC := (.seq (.reg [] [((jv 4 (.mov (.k (.bool true)))))] []) .ret)
def A7_6 : AC := (.seq (.seq (.reg [] [(jm 114 14), (jm 115 13), ((jv 116 (.bin .neq (.t 114) (.t 115))))] []) A7_7) A7_8)
def A7_4 : AC := (.seq (.seq (.reg [] [(jm 112 14), ((jv 113 (.bin .lss (.t 112) (jn 0))))] []) A7_5) A7_6)
def A7_3 : AC := (.seq (.reg [] [(jm 109 10), (jm 110 14), (.mk (some 111) none false (.call (.k (.fn 38 [] [])) [(.t 109), (.t 110)])), (jm 14 111)] []) A7_4)
def A7_2 : AC := (.seq (.reg [] [((jv 14 (.mov (jn 1))))] []) A7_3)
def A7_9 : AC := (.cond (.t 80) (.seq (.reg [] [((jv 4 (.mov (.k (.bool false)))))] []) .ret) .skip)
def A7_15 : AC := (.cond (.t 88) (.seq (.reg [] [((jv 4 (.mov (.k (.bool false)))))] []) .ret) .skip)
def A7_17 : AC := (.cond (.t 91) (.seq (.reg [] [((jv 4 (.mov (.k (.bool false)))))] []) .ret) .skip)
def A7_19 : AC := (.seq (.seq (.reg [] [(jm 100 15), (jm 101 6), (.mk (some 102) none false (.call (.k (.fn 29 [] [])) [(.t 100), (.t 101)])), ((jv 103 (.un .not (.t 102)))), (jm 104 103), ((jg 105 104 false (.mov (.t 16)))), ((jg 106 104 false (.mov (.t 7)))), ((jg 107 104 false (.beq true (.t 105) (.t 106)))), ((jv 108 (.pick (.t 104) (.k (.bool true)) (.t 107))))] []) A7_1) A7_2)
def A7_18 : AC := (.seq (.reg [.clr [97]] [((jv 93 (.load (.ag [.s, .p]) (.t 2)))), (.mk (some 94) none false (.call (.k (.fn 17 [] [])) [(.t 93)])), (jm 95 1), (.mk (some 96) none false (.call (.k (.fn 18 [] [])) [(.t 95)])), (.mk (some 97) none false (.callO (.k (.fn 37 [] [])) [(.t 94), (.t 96)])), (jm 92 97), ((jv 98 (.ext (.t 92) 0))), ((jv 99 (.extS (.t 92) 1))), (jm 15 98), (jm 16 99)] [.home 97 15]) A7_19)
def A7_16 : AC := (.seq (.seq (.reg [] [(jm 89 14), (jm 90 13), ((jv 91 (.bin .neq (.t 89) (.t 90))))] []) A7_17) A7_18)
def A7_14 : AC := (.seq (.seq (.reg [] [(jm 87 14), ((jv 88 (.bin .lss (.t 87) (jn 0))))] []) A7_15) A7_16)
def A7_13 : AC := (.seq (.reg [] [(jm 84 10), (jm 85 14), (.mk (some 86) none false (.call (.k (.fn 38 [] [])) [(.t 84), (.t 85)])), (jm 14 86)] []) A7_14)
def A7_12 : AC := (.seq (.reg [] [((jv 14 (.mov (jn 1))))] []) A7_13)
def A7_11 : AC := (.seq (.reg [] [(jm 81 10), (jm 82 13), (.mk (some 83) none false (.mark (.k (.fn 30 [] [])) [(.t 81), (.t 82)])), (jm 13 83)] []) A7_12)
def A7_10 : AC := (.seq (.reg [] [((jv 13 (.mov (jn 1))))] []) A7_11)
def A7_20 : AC := (.cond (.t 51) (.seq (.reg [] [((jv 4 (.mov (.k (.bool false)))))] []) .ret) .skip)
def A7_22 : AC := (.cond (.t 56) (.seq (.reg [] [((jv 4 (.mov (.k (.bool false)))))] []) .ret) .skip)
def A7_24 : AC := (.cond (.t 61) (.seq (.reg [] [((jv 4 (.mov (.k (.bool false)))))] []) .ret) .skip)
def A7_28 : AC := (.seq (.seq (.reg [] [(jm 68 12), ((jv 69 (.bin .lss (.t 68) (jn 0)))), (jm 70 69), ((jg 71 70 false (.mov (.t 10)))), ((jg 72 70 false (.mov (.t 6)))), (.mk (some 73) (some (70, false)) false (.call (.k (.fn 29 [] [])) [(.t 71), (.t 72)])), ((jg 74 70 false (.un .not (.t 73)))), ((jv 75 (.pick (.t 70) (.k (.bool true)) (.t 74)))), (jm 76 75), ((jg 77 76 false (.mov (.t 11)))), ((jg 78 76 false (.mov (.t 7)))), ((jg 79 76 false (.beq true (.t 77) (.t 78)))), ((jv 80 (.pick (.t 76) (.k (.bool true)) (.t 79))))] []) A7_9) A7_10)
def A7_27 : AC := (.seq (.reg [] [(jm 65 9), (jm 66 12), (.mk (some 67) none false (.mark (.k (.fn 23 [] [])) [(.t 65), (.t 66)])), (jm 12 67)] []) A7_28)
def A7_26 : AC := (.seq (.reg [] [((jv 62 (.load (.ag [.s, .p]) (.t 8)))), (jm 63 12), (.mk (some 64) none false (.mark (.k (.fn 22 [] [])) [(.t 62), (.t 63)])), (jm 12 64)] []) A7_27)
def A7_25 : AC := (.seq (.reg [] [((jv 12 (.mov (jn 1))))] []) A7_26)
def A7_23 : AC := (.seq (.seq (.reg [] [(jm 57 9), (jm 58 1), (.mk (some 59) none false (.call (.k (.fn 18 [] [])) [(.t 58)])), (.mk (some 60) none false (.call (.k (.fn 21 [] [])) [(.t 57), (.t 59)])), ((jv 61 (.un .not (.t 60))))] []) A7_24) A7_25)
def A7_21 : AC := (.seq (.seq (.reg [] [((jv 52 (.load (.ag [.s, .p]) (.t 8)))), ((jv 53 (.load (.ag [.s, .p]) (.t 2)))), (.mk (some 54) none false (.call (.k (.fn 17 [] [])) [(.t 53)])), (.mk (some 55) none false (.call (.k (.fn 20 [] [])) [(.t 52), (.t 54)])), ((jv 56 (.un .not (.t 55))))] []) A7_22) A7_23)
def A7_30 : AC := (.cond (.t 19) (.seq (.reg [] [((jv 4 (.mov (.k (.bool true)))))] []) .ret) .skip)
def A7_34 : AC := (.cond (.t 24) (.seq (.reg [] [((jv 4 (.mov (.k (.bool true)))))] []) .ret) .skip)
def A7_39 : AC := (.seq (.seq (.reg [] [(jm 43 10), (jm 44 6), (.mk (some 45) none false (.call (.k (.fn 29 [] [])) [(.t 43), (.t 44)])), ((jv 46 (.un .not (.t 45)))), (jm 47 46), ((jg 48 47 false (.mov (.t 11)))), ((jg 49 47 false (.mov (.t 7)))), ((jg 50 47 false (.beq true (.t 48) (.t 49)))), ((jv 51 (.pick (.t 47) (.k (.bool true)) (.t 50))))] []) A7_20) A7_21)
def A7_38 : AC := (.seq (.reg [.clr [40]] [((jv 38 (.load (.ag [.s, .p]) (.t 8)))), (jm 39 9), (.mk (some 40) none false (.callO (.k (.fn 37 [] [])) [(.t 38), (.t 39)])), (jm 37 40), ((jv 41 (.ext (.t 37) 0))), ((jv 42 (.extS (.t 37) 1))), (jm 10 41), (jm 11 42)] [.home 40 10]) A7_39)
def A7_37 : AC := (.seq (.reg [.clr [36]] [(jm 35 1), (.mk (some 36) none false (.callO (.k (.fn 18 [] [])) [(.t 35)])), (jm 9 36)] [.home 36 9]) A7_38)
def A7_36 : AC := (.seq (.reg [.clr [34, 8]] [((jv 33 (.load (.ag [.s, .p]) (.t 2)))), (.mk (some 34) none false (.callO (.k (.fn 17 [] [])) [(.t 33)])), (.mk (some 8) none false (.alloc (.agg [(.int .i64 (.ofNat 0)), (.sl .nl (.ag [.s, .s]) 0 [])]))), (.mk none none false (.store (.ag [.s, .p]) (.t 8) (.t 34)))] []) A7_37)
def A7_35 : AC := (.seq (.reg [] [((jv 26 (.load (.ag [.s, .p]) (.t 2)))), (.mk (some 27) none false (.call (.k (.fn 17 [] [])) [(.t 26)])), (jm 28 1), (.mk (some 29) none false (.call (.k (.fn 18 [] [])) [(.t 28)])), (.mk (some 30) none false (.call (.k (.fn 36 [] [])) [(.t 27), (.t 29)])), (jm 25 30), ((jv 31 (.ext (.t 25) 0))), ((jv 32 (.extS (.t 25) 1))), (jm 6 31), (jm 7 32)] []) A7_36)
def A7_33 : AC := (.seq (.seq (.reg [] [(jm 23 5), ((jv 24 (.bin .lss (.t 23) (jn 0))))] []) A7_34) A7_35)
def A7_32 : AC := (.seq (.reg [] [((jv 20 (.load (.ag [.s, .p]) (.t 2)))), (jm 21 5), (.mk (some 22) none false (.call (.k (.fn 15 [] [])) [(.t 20), (.t 21)])), (jm 5 22)] []) A7_33)
def A7_31 : AC := (.seq (.reg [] [((jv 5 (.mov (jn 1048576))))] []) A7_32)
def A7_29 : AC := (.seq (.seq (.reg [] [(jm 17 1), ((jv 18 (.len (.t 17)))), ((jv 19 (.bin .gtr (.t 18) (jn 1048576))))] []) A7_30) A7_31)
def A7 : AC := (.seq (.reg [.clr [2]] [(.mk (some 2) none false (.box (.t 0))), ((jv 4 (.mov (.k (.bool false)))))] []) A7_29)
def an7 : List An := [{ id := 0, pre := [.clr [2]], ep := [], lin := [], sp := [] }, { id := 8, pre := [.clr [34, 8]], ep := [], lin := [], sp := [1001] }, { id := 9, pre := [.clr [36]], ep := [.home 36 9], lin := [], sp := [1001] }, { id := 10, pre := [.clr [40]], ep := [.home 40 10], lin := [], sp := [1002] }, { id := 18, pre := [], ep := [], lin := [], sp := [2] }, { id := 19, pre := [], ep := [], lin := [], sp := [2] }, { id := 23, pre := [], ep := [], lin := [], sp := [2] }, { id := 30, pre := [.clr [97]], ep := [.home 97 15], lin := [], sp := [1004] }]
theorem c7 : cC Try.prog Try.f7.ntmps an7 (Try.f7.body.getD .skip) = some A7 := by kernel_rfl
structure H7 (D : Den) (σ : Sig) (F : Nat) : Prop where
  c15 : ∀ (x0 : (Int × (List (Int × Int)))) (x1 : Int) r, w_szGraph F x0 x1 = some r → D 15 [Enc.enc x0, Enc.enc x1] = some (Enc.enc (r : Int))
  g15 : σ 15 = some (0, false)
  c17 : ∀ (x0 : (Int × (List (Int × Int)))) r, w_toGraph F x0 = some r → D 17 [Enc.enc x0] = some (Enc.enc (r : (Int × (List (Int × Int)))))
  g17 : σ 17 = some (0, true)
  c18 : ∀ (x0 : (List Int)) r, w_toIntS F x0 = some r → D 18 [Enc.enc x0] = some (Enc.enc (r : (List Int)))
  g18 : σ 18 = some (0, false)
  c36 : ∀ (x0 : (Int × (List (Int × Int)))) (x1 : (List Int)) r, s_BagsOfLayout F x0 x1 = some r → D 36 [Enc.enc x0, Enc.enc x1] = some (.tup [Enc.enc (r.1 : (List (List Int))), Enc.enc (r.2 : Bool)])
  g36 : σ 36 = some (0, true)
  c17o : ∀ (x0 : (Int × (List (Int × Int)))) r, w_toGraph_o F x0 = some r → D 1000000017 [Enc.enc x0] = some (.agg [(Enc.enc (r.1 : Int)), (encO .sh (r.2 : NL (Int × Int)))])
  g17o : σ 1000000017 = some (1, false)
  c18o : ∀ (x0 : (List Int)) r, w_toIntS_o F x0 = some r → D 1000000018 [Enc.enc x0] = some (encO .sh (r : NL Int))
  g18o : σ 1000000018 = some (1, false)
  c37o : ∀ (x0 : (Int × (List (Int × Int)))) (x1 : (List Int)) r, i_BagsOfLayout_o F x0 x1 = some r → D 1000000037 [Enc.enc x0, Enc.enc x1] = some (.tup [(encNs (r.1 : NL (NL Int))), (Enc.enc (r.2 : Bool))])
  g37o : σ 1000000037 = some (2, false)
  c29 : ∀ (x0 : (List (List Int))) (x1 : (List (List Int))) r, w_eqIntSS F x0 x1 = some r → D 29 [Enc.enc x0, Enc.enc x1] = some (Enc.enc (r : Bool))
  g29 : σ 29 = some (0, false)
  c20 : ∀ (x0 : (Int × (List (Int × Int)))) (x1 : (Int × (List (Int × Int)))) r, w_eqGraph F x0 x1 = some r → D 20 [Enc.enc x0, Enc.enc x1] = some (Enc.enc (r : Bool))
  g20 : σ 20 = some (0, false)
  c21 : ∀ (x0 : (List Int)) (x1 : (List Int)) r, w_eqIntS F x0 x1 = some r → D 21 [Enc.enc x0, Enc.enc x1] = some (Enc.enc (r : Bool))
  g21 : σ 21 = some (0, false)
  c22 : ∀ (x0 : (Og (Int × Int))) (x1 : Int) r, w_markGraph F x0 x1 = some r → D 22 [Arg.arg x0, Enc.enc x1] = some (.tup [Enc.enc (r.1 : Int), .agg [Enc.enc (r.2.a : Int), encO (.at pinR [1]) (r.2.v : NL (Int × Int))]])
  g22 : σ 22 = some (pinR, false)
  c23 : ∀ (x0 : (On Int)) (x1 : Int) r, w_markIntS F x0 x1 = some r → D 23 [Arg.arg x0, Enc.enc x1] = some (.tup [Enc.enc (r.1 : Int), encO (.at pinR []) (r.2 : NL Int)])
  g23 : σ 23 = some (pinR, false)
  c30 : ∀ (x0 : (On2 Int)) (x1 : Int) r, w_markIntSS F x0 x1 = some r → D 30 [Arg.arg x0, Enc.enc x1] = some (.tup [Enc.enc (r.1 : Int), encN pinR [] (r.2 : NL (NL Int))])
  g30 : σ 30 = some (pinR, false)
  c38 : ∀ (x0 : (List (List Int))) (x1 : Int) r, w_heldIntSS F x0 x1 = some r → D 38 [Enc.enc x0, Enc.enc x1] = some (Enc.enc (r : Int))
  g38 : σ 38 = some (0, false)
abbrev R7 (r : Bool) : (Nat → V) → Prop := RR Try.prog [.tmp 4] 0 false (Enc.enc (r : Bool))
section
variable {D : Den} {σ : Sig} {F : Nat} {r : Bool}
def w_FnExactBagsOfLayout_j1 (F : Nat) (m_21 : (NL (NL Int))) (r_20 : (Int × (NL (NL Int))))  (x_27 : Bool) : Option Bool :=
  bif x_27 then
    some false
  else
    (w_heldIntSS F (List.map NL.list m_21.list) 1).bind fun r_28 =>
    bif decide (r_28 < 0) then
      some false
    else
      bif (r_28 != r_20.1) then
        some false
      else
        some true
theorem t_f7_j1 (H : H7 D σ F) (m_21 : (NL (NL Int))) (r_20 : (Int × (NL (NL Int))))  (x_27 : Bool) (s : Nat → V) (hs : Facts [(4, (jb false)), (10, (encN 10 [0] (m_21 : NL (NL Int)))), (13, (ji r_20.1)), (108, (jb x_27))] s) (h : w_FnExactBagsOfLayout_j1 F m_21 r_20  x_27 = some r) : Run D σ (R7 r) (.nrm [.sq A7_1, .sq A7_2]) s := by
  unfold w_FnExactBagsOfLayout_j1 at h
  obtain ⟨h4, h10, h13, h108⟩ := hs
  refine .nsq (run_cond (t := x_27) h108 h (fun h => ?_) (fun h => ?_))
  · refine .seq (rg (g0 (jb false) fun h4 => ?_))
    refine gq (.nsq (.ret ?_))
    have hr := Option.some.inj h
    subst hr
    exact rrA (res_tmp h4) rfl
  refine .skip (.nsq (.seq (rg (g0 (ji 1) fun h14 => gq (.nsq (.seq (rg (gv (encN 10 [0] (m_21 : NL (NL Int))) (ev_mov h10 ok_encN) fun h109 => ?_))))))))
  refine gm h14 fun h110 => ?_
  obtain ⟨r_28, E_r_28, h⟩ := bind_some h
  refine g_call (m := 0) (al := false) (r := (Enc.enc (r_28 : Int))) [Enc.enc ((List.map NL.list m_21.list) : (List (List Int))), Enc.enc (1 : Int)] (ta_cons (v := (encN 10 [0] (m_21 : NL (NL Int)))) h109 ok_encN (erase_encN (o := (m_21 : NL (NL Int)))) (ta_cons (v := (ji 1)) h110 rfl rfl ta_nil)) (H.c38 _ _ _ E_r_28) H.g38 rfl rfl rfl rfl ?_
  refine gm (rfl : (_ : V) = (ji r_28)) fun h14 => ?_
  refine gq (.nsq (.seq (.seq (rg (gm h14 fun h112 => g1 112 (jb (decide (r_28 < 0))) h112 fun h113 => ?_)))))
  refine gq (.nsq (run_cond (t := decide (r_28 < 0)) h113 h (fun h => ?_) (fun h => ?_)))
  · refine .seq (rg (g0 (jb false) fun h4 => ?_))
    refine gq (.nsq (.ret ?_))
    have hr := Option.some.inj h
    subst hr
    exact rrA (res_tmp h4) rfl
  refine .skip (.nsq (.seq (.seq (rg (gm h14 fun h114 => gm h13 fun h115 => g2 114 115 (jb (r_28 != r_20.1)) h114 h115 fun h116 => ?_)))))
  refine gq (.nsq (run_cond (t := (r_28 != r_20.1)) h116 h (fun h => ?_) (fun h => ?_)))
  · refine .seq (rg (g0 (jb false) fun h4 => ?_))
    refine gq (.nsq (.ret ?_))
    have hr := Option.some.inj h
    subst hr
    exact rrA (res_tmp h4) rfl
  refine .skip (.nsq (.seq (rg (g0 (jb true) fun h4 => ?_))))
  refine gq (.nsq (.ret ?_))
  have hr := Option.some.inj h
  subst hr
  exact rrA (res_tmp h4) rfl
def w_FnExactBagsOfLayout_j2 (F : Nat) (x_2 : (List Int)) (x_1 : (Int × (List (Int × Int)))) (r_6 : ((List (List Int)) × Bool)) (r_9 : ((NL (NL Int)) × Bool))  (x_19 : Bool) : Option Bool :=
  bif x_19 then
    some false
  else
    (w_markIntSS F (On2.mk r_9.1 : (On2 Int)) 1).bind fun r_20 =>
    (remark2 r_9.1 r_20.2).bind fun m_21 =>
    (w_heldIntSS F (List.map NL.list m_21.list) 1).bind fun r_22 =>
    bif decide (r_22 < 0) then
      some false
    else
      bif (r_22 != r_20.1) then
        some false
      else
        (w_toGraph F x_1).bind fun r_23 =>
        (w_toIntS F x_2).bind fun r_24 =>
        (i_BagsOfLayout_o F r_23 r_24).bind fun r_25 =>
        (w_eqIntSS F (List.map NL.list r_25.1.list) r_6.1).bind fun r_29 =>
        bif (!r_29) then
          w_FnExactBagsOfLayout_j1 F m_21 r_20 true
        else
          w_FnExactBagsOfLayout_j1 F m_21 r_20 (r_25.2 != r_6.2)
theorem t_f7_j2 (H : H7 D σ F) (x_2 : (List Int)) (x_1 : (Int × (List (Int × Int)))) (r_6 : ((List (List Int)) × Bool)) (r_9 : ((NL (NL Int)) × Bool))  (x_19 : Bool) (s : Nat → V) (hs : Facts [(1, (eL x_2)), (2, (.ref (.bx 2) 0 [] (.agg [(ji x_1.1), (Enc.enc (x_1.2 : List (Int × Int)))]))), (4, (jb false)), (6, (Enc.enc (r_6.1 : List (List Int)))), (7, (jb r_6.2)), (10, (encN 10 [0] (r_9.1 : NL (NL Int)))), (80, (jb x_19))] s) (h : w_FnExactBagsOfLayout_j2 F x_2 x_1 r_6 r_9  x_19 = some r) : Run D σ (R7 r) (.nrm [.sq A7_9, .sq A7_10]) s := by
  unfold w_FnExactBagsOfLayout_j2 at h
  obtain ⟨h1, h2, h4, h6, h7, h10, h80⟩ := hs
  refine .nsq (run_cond (t := x_19) h80 h (fun h => ?_) (fun h => ?_))
  · refine .seq (rg (g0 (jb false) fun h4 => ?_))
    refine gq (.nsq (.ret ?_))
    have hr := Option.some.inj h
    subst hr
    exact rrA (res_tmp h4) rfl
  refine .skip (.nsq (.seq (rg (g0 (ji 1) fun h13 => gq (.nsq (.seq (rg (gv (encN 10 [0] (r_9.1 : NL (NL Int))) (ev_mov h10 ok_encN) fun h81 => ?_))))))))
  refine gm h13 fun h82 => ?_
  obtain ⟨r_20, E_r_20, h⟩ := bind_some h
  obtain ⟨m_21, E_m_21, h⟩ := bind_some h
  refine g_mark (v := (encN 10 [0] (r_9.1 : NL (NL Int)))) h81 (canon_N (o := (r_9.1 : (NL (NL Int)))) rfl) (rdAll_cons (v := (ji 1)) h82 rfl rdAll_nil) (H.c30 _ _ _ E_r_20) H.g30 rfl rfl (fun s_9 hm_9 => ?_)
  refine gm (rfl : (_ : V) = (ji r_20.1)) fun h13 => ?_
  refine gz [(1, _), (2, (.ref (.bx 2) 0 [] (.agg [(ji x_1.1), (Enc.enc (x_1.2 : List (Int × Int)))]))), (4, (jb false)), (6, _), (7, (jb r_6.2)), (10, (encN 10 [0] (m_21 : NL (NL Int)))), (13, _)] ⟨(show s_9 1 = (eL x_2) from hm_9 1 (eL x_2) (eL x_2) h1 (rem_enc (xs := (x_2 : List Int)))), (show s_9 2 = (.ref (.bx 2) 0 [] (.agg [(ji x_1.1), (Enc.enc (x_1.2 : List (Int × Int)))])) from hm_9 2 (.ref (.bx 2) 0 [] (.agg [(ji x_1.1), (Enc.enc (x_1.2 : List (Int × Int)))])) (.ref (.bx 2) 0 [] (.agg [(ji x_1.1), (Enc.enc (x_1.2 : List (Int × Int)))])) h2 (rem_self _ (map_bx killN_bx (map_agg (maps_cons rfl (maps_cons (Enc.map_enc _ (x_1.2 : List (Int × Int))) maps_nil)))))), (show s_9 4 = (jb false) from hm_9 4 (jb false) (jb false) h4 (rem_self _ rfl)), (show s_9 6 = (Enc.enc (r_6.1 : List (List Int))) from hm_9 6 (Enc.enc (r_6.1 : List (List Int))) (Enc.enc (r_6.1 : List (List Int))) h6 (rem_enc (xs := (r_6.1 : List (List Int))))), (show s_9 7 = (jb r_6.2) from hm_9 7 (jb r_6.2) (jb r_6.2) h7 (rem_self _ rfl)), (show s_9 10 = (encN 10 [0] (m_21 : NL (NL Int))) from hm_9 10 (encN 10 [0] (r_9.1 : NL (NL Int))) (encN 10 [0] (m_21 : NL (NL Int))) h10 (marked_N (o := (r_9.1 : NL (NL Int))) rfl E_m_21)), h13⟩ ?_
  rintro s ⟨h1, h2, h4, h6, h7, h10, h13⟩
  refine .nsq (.seq (rg (g0 (ji 1) fun h14 => gq (.nsq (.seq (rg (gv (encN 10 [0] (m_21 : NL (NL Int))) (ev_mov h10 ok_encN) fun h84 => ?_)))))))
  refine gm h14 fun h85 => ?_
  obtain ⟨r_22, E_r_22, h⟩ := bind_some h
  refine g_call (m := 0) (al := false) (r := (Enc.enc (r_22 : Int))) [Enc.enc ((List.map NL.list m_21.list) : (List (List Int))), Enc.enc (1 : Int)] (ta_cons (v := (encN 10 [0] (m_21 : NL (NL Int)))) h84 ok_encN (erase_encN (o := (m_21 : NL (NL Int)))) (ta_cons (v := (ji 1)) h85 rfl rfl ta_nil)) (H.c38 _ _ _ E_r_22) H.g38 rfl rfl rfl rfl ?_
  refine gm (rfl : (_ : V) = (ji r_22)) fun h14 => ?_
  refine gq (.nsq (.seq (.seq (rg (gm h14 fun h87 => g1 87 (jb (decide (r_22 < 0))) h87 fun h88 => ?_)))))
  refine gq (.nsq (run_cond (t := decide (r_22 < 0)) h88 h (fun h => ?_) (fun h => ?_)))
  · refine .seq (rg (g0 (jb false) fun h4 => ?_))
    refine gq (.nsq (.ret ?_))
    have hr := Option.some.inj h
    subst hr
    exact rrA (res_tmp h4) rfl
  refine .skip (.nsq (.seq (.seq (rg (gm h14 fun h89 => gm h13 fun h90 => g2 89 90 (jb (r_22 != r_20.1)) h89 h90 fun h91 => ?_)))))
  refine gq (.nsq (run_cond (t := (r_22 != r_20.1)) h91 h (fun h => ?_) (fun h => ?_)))
  · refine .seq (rg (g0 (jb false) fun h4 => ?_))
    refine gq (.nsq (.ret ?_))
    have hr := Option.some.inj h
    subst hr
    exact rrA (res_tmp h4) rfl
  refine .skip (.nsq (.seq (run_reg ?_)))
  refine e_clr ?_
  refine ez [(1, _), (2, _), (4, _), (6, _), (7, _), (10, _), (13, _), (97, _)] ⟨(keep_clear (pk := [97]) h1 rfl me), (keep_clear (pk := [97]) h2 rfl (map_bx rfl (map_agg (maps_cons mi (maps_cons me maps_nil))))), (keep_clear (pk := [97]) h4 rfl mb), (keep_clear (pk := [97]) h6 rfl me), (keep_clear (pk := [97]) h7 rfl mb), (keep_clear (pk := [97]) h10 rfl (map_encN (r := 10) (p := [0]) rfl (fun _ => rfl) rfl)), (keep_clear (pk := [97]) h13 rfl mi), (gone_clear (pk := [97]) (t := 97) rfl)⟩ ?_
  rintro s ⟨h1, h2, h4, h6, h7, h10, h13, h97⟩
  refine g1 2 (.agg [(ji x_1.1), (Enc.enc (x_1.2 : List (Int × Int)))]) h2 fun h93 => ?_
  obtain ⟨r_23, E_r_23, h⟩ := bind_some h
  refine g_call (m := 0) (al := true) (r := (Enc.enc (r_23 : (Int × (List (Int × Int)))))) [Enc.enc (x_1 : (Int × (List (Int × Int))))] (ta_cons (v := (.agg [(ji x_1.1), (Enc.enc (x_1.2 : List (Int × Int)))])) h93 rfl (Enc.erase_enc (x_1 : (Int × (List (Int × Int))))) ta_nil) (H.c17 _ _ E_r_23) H.g17 (hal_of (ht_cons (v := (.agg [(ji x_1.1), (Enc.enc (x_1.2 : List (Int × Int)))])) h93 rfl rfl ht_nil)) rfl rfl rfl ?_
  refine gm h1 fun h95 => ?_
  obtain ⟨r_24, E_r_24, h⟩ := bind_some h
  refine g_call (m := 0) (al := false) (r := (Enc.enc (r_24 : (List Int)))) [Enc.enc (x_2 : (List Int))] (ta_cons (v := (eL x_2)) h95 rfl (Enc.erase_enc (x_2 : (List Int))) ta_nil) (H.c18 _ _ E_r_24) H.g18 rfl rfl rfl rfl ?_
  obtain ⟨r_25, E_r_25, h⟩ := bind_some h
  refine g_callO (m := 2) (al := false) (r := (.tup [(encNs (r_25.1 : NL (NL Int))), (Enc.enc (r_25.2 : Bool))])) (v := (.tup [(encN 97 [0] (r_25.1 : NL (NL Int))), (jb r_25.2)])) (kk := 1000000037) [Enc.enc (r_23 : (Int × (List (Int × Int)))), Enc.enc (r_24 : (List Int))] (ta_cons (v := (.agg [(ji r_23.1), (Enc.enc (r_23.2 : List (Int × Int)))])) rfl rfl (Enc.erase_enc (r_23 : (Int × (List (Int × Int))))) (ta_cons (v := (eL r_24)) rfl rfl (Enc.erase_enc (r_24 : (List Int))) ta_nil)) (H.c37o _ _ _ E_r_25) H.g37o rfl (toks_tup (tokss_cons toks_encNs (tokss_cons rfl tokss_nil))) (tag_tup (tags_cons (tag_encN rfl) (tags_cons rfl tags_nil))) rfl h97 ?_
  refine gm (rfl : (_ : V) = (.tup [(encN 97 [0] (r_25.1 : NL (NL Int))), (jb r_25.2)])) fun h92 => ?_
  refine gv (encN 97 [0] (r_25.1 : NL (NL Int))) (ev_extN (v := (encN 97 [0] (r_25.1 : NL (NL Int)))) h92 rfl ok_encN) fun h98 => ?_
  refine g1 92 (jb r_25.2) h92 fun h99 => ?_
  refine gv (encN 97 [0] (r_25.1 : NL (NL Int))) (ev_mov h98 ok_encN) fun h15 => ?_
  refine gm h99 fun h16 => g_end ?_
  refine e_home (r := 97) (x := 15) (v := _) h15 ok_encN (fun s_11 hg_11 => ?_)
  refine ez [(4, (jb false)), (6, (Enc.enc (r_6.1 : List (List Int)))), (7, (jb r_6.2)), (10, (encN 10 [0] (m_21 : NL (NL Int)))), (13, (ji r_20.1)), (15, (encN 15 [0] (r_25.1 : NL (NL Int)))), (16, (jb r_25.2))] ⟨(hg_11 4 _ _ h4 mb), (hg_11 6 _ _ h6 me), (hg_11 7 _ _ h7 mb), (hg_11 10 _ _ h10 (map_encN (r := 10) (p := [0]) rfl (fun _ => rfl) rfl)), (hg_11 13 _ _ h13 mi), (hg_11 15 _ _ h15 (map_encN (r := 97) (p := [0]) rfl (fun _ => rfl) rfl)), (hg_11 16 _ _ h16 mb)⟩ ?_
  rintro s ⟨h4, h6, h7, h10, h13, h15, h16⟩
  refine .nsq (.seq (.seq (rg (gv (encN 15 [0] (r_25.1 : NL (NL Int))) (ev_mov h15 ok_encN) fun h100 => ?_))))
  refine gm h6 fun h101 => ?_
  obtain ⟨r_29, E_r_29, h⟩ := bind_some h
  refine g_call (m := 0) (al := false) (r := (Enc.enc (r_29 : Bool))) [Enc.enc ((List.map NL.list r_25.1.list) : (List (List Int))), Enc.enc (r_6.1 : (List (List Int)))] (ta_cons (v := (encN 15 [0] (r_25.1 : NL (NL Int)))) h100 ok_encN (erase_encN (o := (r_25.1 : NL (NL Int)))) (ta_cons (v := (Enc.enc (r_6.1 : List (List Int)))) h101 rfl (Enc.erase_enc (r_6.1 : (List (List Int)))) ta_nil)) (H.c29 _ _ _ E_r_29) H.g29 rfl rfl rfl rfl ?_
  refine g1 102 (jb (!r_29)) (rfl : (_ : V) = (jb r_29)) fun h103 => ?_
  refine gm h103 fun h104 => split_on (c := (!r_29)) h (fun hg5 h => ?_) (fun hg5 h => ?_)
  · refine g_no (h104.trans (congrArg V.bool hg5)) ?_
    refine g_no (h104.trans (congrArg V.bool hg5)) ?_
    refine g_no (h104.trans (congrArg V.bool hg5)) ?_
    refine g2 104 107 (jb true) (h104.trans (congrArg V.bool hg5)) (rfl : (_ : V) = (.tup [])) fun h108 => ?_
    refine gq ?_
    exact t_f7_j1 H m_21 r_20 true _ ⟨h4, h10, h13, h108⟩ h
  refine g_yes (h104.trans (congrArg V.bool hg5)) (gm h16 fun h105 => ?_)
  refine g_yes (h104.trans (congrArg V.bool hg5)) (gm h7 fun h106 => ?_)
  refine g_yes (h104.trans (congrArg V.bool hg5)) (g2 105 106 (jb (r_25.2 != r_6.2)) h105 h106 fun h107 => ?_)
  refine g2 104 107 (jb (r_25.2 != r_6.2)) (h104.trans (congrArg V.bool hg5)) h107 fun h108 => ?_
  refine gq ?_
  exact t_f7_j1 H m_21 r_20 (r_25.2 != r_6.2) _ ⟨h4, h10, h13, h108⟩ h
def w_FnExactBagsOfLayout_j3 (F : Nat) (x_2 : (List Int)) (x_1 : (Int × (List (Int × Int)))) (r_6 : ((List (List Int)) × Bool)) (r_7 : (Int × (NL (Int × Int)))) (r_8 : (NL Int)) (r_9 : ((NL (NL Int)) × Bool))  (x_11 : Bool) : Option Bool :=
  bif x_11 then
    some false
  else
    (w_toGraph F x_1).bind fun r_12 =>
    (w_eqGraph F (r_7.1, r_7.2.list) r_12).bind fun r_13 =>
    bif (!r_13) then
      some false
    else
      (w_toIntS F x_2).bind fun r_14 =>
      (w_eqIntS F r_8.list r_14).bind fun r_15 =>
      bif (!r_15) then
        some false
      else
        (w_markGraph F (Og.mk r_7.1 r_7.2 : (Og (Int × Int))) 1).bind fun r_16 =>
        (w_markIntS F (On.mk r_8 : (On Int)) r_16.1).bind fun r_17 =>
        bif decide (r_17.1 < 0) then
          w_FnExactBagsOfLayout_j2 F x_2 x_1 r_6 r_9 true
        else
          (w_eqIntSS F (List.map NL.list r_9.1.list) r_6.1).bind fun r_30 =>
          bif (!r_30) then
            w_FnExactBagsOfLayout_j2 F x_2 x_1 r_6 r_9 true
          else
            w_FnExactBagsOfLayout_j2 F x_2 x_1 r_6 r_9 (r_9.2 != r_6.2)
theorem t_f7_j3 (H : H7 D σ F) (x_2 : (List Int)) (x_1 : (Int × (List (Int × Int)))) (r_6 : ((List (List Int)) × Bool)) (r_7 : (Int × (NL (Int × Int)))) (r_8 : (NL Int)) (r_9 : ((NL (NL Int)) × Bool))  (x_11 : Bool) (s : Nat → V) (hs : Facts [(1, (eL x_2)), (2, (.ref (.bx 2) 0 [] (.agg [(ji x_1.1), (Enc.enc (x_1.2 : List (Int × Int)))]))), (4, (jb false)), (6, (Enc.enc (r_6.1 : List (List Int)))), (7, (jb r_6.2)), (8, (.ref (.bx 8) 0 [] (.agg [(ji r_7.1), (encO (.at 34 [1]) (r_7.2 : NL (Int × Int)))]))), (9, (oI 9 [] r_8)), (10, (encN 10 [0] (r_9.1 : NL (NL Int)))), (11, (jb r_9.2)), (51, (jb x_11))] s) (h : w_FnExactBagsOfLayout_j3 F x_2 x_1 r_6 r_7 r_8 r_9  x_11 = some r) : Run D σ (R7 r) (.nrm [.sq A7_20, .sq A7_21]) s := by
  unfold w_FnExactBagsOfLayout_j3 at h
  obtain ⟨h1, h2, h4, h6, h7, h8, h9, h10, h11, h51⟩ := hs
  refine .nsq (run_cond (t := x_11) h51 h (fun h => ?_) (fun h => ?_))
  · refine .seq (rg (g0 (jb false) fun h4 => ?_))
    refine gq (.nsq (.ret ?_))
    have hr := Option.some.inj h
    subst hr
    exact rrA (res_tmp h4) rfl
  refine .skip (.nsq (.seq (.seq (rg (gv (.agg [(ji r_7.1), (encO (.at 34 [1]) (r_7.2 : NL (Int × Int)))]) (ev_loadN (c := (.agg [(ji r_7.1), (encO (.at 34 [1]) (r_7.2 : NL (Int × Int)))])) h8 (by simp [V.shape, V.shapes, shape_encP, Sh.beq, Sh.beqs])) fun h52 => ?_)))))
  refine g1 2 (.agg [(ji x_1.1), (Enc.enc (x_1.2 : List (Int × Int)))]) h2 fun h53 => ?_
  obtain ⟨r_12, E_r_12, h⟩ := bind_some h
  refine g_call (m := 0) (al := true) (r := (Enc.enc (r_12 : (Int × (List (Int × Int)))))) [Enc.enc (x_1 : (Int × (List (Int × Int))))] (ta_cons (v := (.agg [(ji x_1.1), (Enc.enc (x_1.2 : List (Int × Int)))])) h53 rfl (Enc.erase_enc (x_1 : (Int × (List (Int × Int))))) ta_nil) (H.c17 _ _ E_r_12) H.g17 (hal_of (ht_cons (v := (.agg [(ji x_1.1), (Enc.enc (x_1.2 : List (Int × Int)))])) h53 rfl rfl ht_nil)) rfl rfl rfl ?_
  obtain ⟨r_13, E_r_13, h⟩ := bind_some h
  refine g_call (m := 0) (al := false) (r := (Enc.enc (r_13 : Bool))) [Enc.enc ((r_7.1, r_7.2.list) : (Int × (List (Int × Int)))), Enc.enc (r_12 : (Int × (List (Int × Int))))] (ta_cons (v := (.agg [(ji r_7.1), (encO (.at 34 [1]) (r_7.2 : NL (Int × Int)))])) h52 rfl (erase_agg (erases_cons rfl (erases_cons (erase_encO (o := r_7.2)) erases_nil))) (ta_cons (v := (.agg [(ji r_12.1), (Enc.enc (r_12.2 : List (Int × Int)))])) rfl rfl (Enc.erase_enc (r_12 : (Int × (List (Int × Int))))) ta_nil)) (H.c20 _ _ _ E_r_13) H.g20 rfl rfl rfl rfl ?_
  refine g1 55 (jb (!r_13)) (rfl : (_ : V) = (jb r_13)) fun h56 => ?_
  refine gq (.nsq (run_cond (t := (!r_13)) h56 h (fun h => ?_) (fun h => ?_)))
  · refine .seq (rg (g0 (jb false) fun h4 => ?_))
    refine gq (.nsq (.ret ?_))
    have hr := Option.some.inj h
    subst hr
    exact rrA (res_tmp h4) rfl
  refine .skip (.nsq (.seq (.seq (rg (gv (oI 9 [] r_8) (ev_mov h9 ok_encO) fun h57 => ?_)))))
  refine gm h1 fun h58 => ?_
  obtain ⟨r_14, E_r_14, h⟩ := bind_some h
  refine g_call (m := 0) (al := false) (r := (Enc.enc (r_14 : (List Int)))) [Enc.enc (x_2 : (List Int))] (ta_cons (v := (eL x_2)) h58 rfl (Enc.erase_enc (x_2 : (List Int))) ta_nil) (H.c18 _ _ E_r_14) H.g18 rfl rfl rfl rfl ?_
  obtain ⟨r_15, E_r_15, h⟩ := bind_some h
  refine g_call (m := 0) (al := false) (r := (Enc.enc (r_15 : Bool))) [Enc.enc (r_8.list : (List Int)), Enc.enc (r_14 : (List Int))] (ta_cons (v := (oI 9 [] r_8)) h57 ok_encP (erase_encO (o := r_8)) (ta_cons (v := (eL r_14)) rfl rfl (Enc.erase_enc (r_14 : (List Int))) ta_nil)) (H.c21 _ _ _ E_r_15) H.g21 rfl rfl rfl rfl ?_
  refine g1 60 (jb (!r_15)) (rfl : (_ : V) = (jb r_15)) fun h61 => ?_
  refine gq (.nsq (run_cond (t := (!r_15)) h61 h (fun h => ?_) (fun h => ?_)))
  · refine .seq (rg (g0 (jb false) fun h4 => ?_))
    refine gq (.nsq (.ret ?_))
    have hr := Option.some.inj h
    subst hr
    exact rrA (res_tmp h4) rfl
  refine .skip (.nsq (.seq (rg (g0 (ji 1) fun h12 => gq (.nsq (.seq (rg (gv (.agg [(ji r_7.1), (encO (.at 34 [1]) (r_7.2 : NL (Int × Int)))]) (ev_loadN (c := (.agg [(ji r_7.1), (encO (.at 34 [1]) (r_7.2 : NL (Int × Int)))])) h8 (by simp [V.shape, V.shapes, shape_encP, Sh.beq, Sh.beqs])) fun h62 => ?_))))))))
  refine gm h12 fun h63 => ?_
  obtain ⟨r_16, E_r_16, h⟩ := bind_some h
  refine g_mark (v := (.agg [(ji r_7.1), (encO (.at 34 [1]) (r_7.2 : NL (Int × Int)))])) h62 (canon_agg (a := r_7.1) (o := (r_7.2 : NL (Int × Int))) rfl) (rdAll_cons (v := (ji 1)) h63 rfl rdAll_nil) (H.c22 _ _ _ E_r_16) H.g22 rfl rfl (fun s_7 hm_7 => ?_)
  refine gm (rfl : (_ : V) = (ji r_16.1)) fun h12 => ?_
  refine gz [(1, _), (2, (.ref (.bx 2) 0 [] (.agg [(ji x_1.1), (Enc.enc (x_1.2 : List (Int × Int)))]))), (4, (jb false)), (6, _), (7, (jb r_6.2)), (9, (oI 9 [] r_8)), (10, (encN 10 [0] (r_9.1 : NL (NL Int)))), (11, (jb r_9.2)), (12, _)] ⟨(show s_7 1 = (eL x_2) from hm_7 1 (eL x_2) (eL x_2) h1 (rem_enc (xs := (x_2 : List Int)))), (show s_7 2 = (.ref (.bx 2) 0 [] (.agg [(ji x_1.1), (Enc.enc (x_1.2 : List (Int × Int)))])) from hm_7 2 (.ref (.bx 2) 0 [] (.agg [(ji x_1.1), (Enc.enc (x_1.2 : List (Int × Int)))])) (.ref (.bx 2) 0 [] (.agg [(ji x_1.1), (Enc.enc (x_1.2 : List (Int × Int)))])) h2 (rem_self _ (map_bx (killO_ne rfl) (map_agg (maps_cons rfl (maps_cons (Enc.map_enc _ (x_1.2 : List (Int × Int))) maps_nil)))))), (show s_7 4 = (jb false) from hm_7 4 (jb false) (jb false) h4 (rem_self _ rfl)), (show s_7 6 = (Enc.enc (r_6.1 : List (List Int))) from hm_7 6 (Enc.enc (r_6.1 : List (List Int))) (Enc.enc (r_6.1 : List (List Int))) h6 (rem_enc (xs := (r_6.1 : List (List Int))))), (show s_7 7 = (jb r_6.2) from hm_7 7 (jb r_6.2) (jb r_6.2) h7 (rem_self _ rfl)), (show s_7 9 = (oI 9 [] r_8) from hm_7 9 (oI 9 [] r_8) (oI 9 [] r_8) h9 (rem_self _ (map_encO (r := 9) (p := []) (killO_ne rfl) (killO_ne rfl)))), (show s_7 10 = (encN 10 [0] (r_9.1 : NL (NL Int))) from hm_7 10 (encN 10 [0] (r_9.1 : NL (NL Int))) (encN 10 [0] (r_9.1 : NL (NL Int))) h10 (rem_self _ (map_encN (r := 10) (p := [0]) (killO_ne rfl) (fun _ => killO_ne rfl) (killO_ne rfl)))), (show s_7 11 = (jb r_9.2) from hm_7 11 (jb r_9.2) (jb r_9.2) h11 (rem_self _ rfl)), h12⟩ ?_
  rintro s ⟨h1, h2, h4, h6, h7, h9, h10, h11, h12⟩
  refine .nsq (.seq (rg (gv (oI 9 [] r_8) (ev_mov h9 ok_encO) fun h65 => ?_)))
  refine gm h12 fun h66 => ?_
  obtain ⟨r_17, E_r_17, h⟩ := bind_some h
  refine g_mark (v := (oI 9 [] r_8)) h65 (canon_own (o := (r_8 : (NL Int))) rfl) (rdAll_cons (v := (ji r_16.1)) h66 rfl rdAll_nil) (H.c23 _ _ _ E_r_17) H.g23 rfl rfl (fun s_8 hm_8 => ?_)
  refine gm (rfl : (_ : V) = (ji r_17.1)) fun h12 => ?_
  refine gz [(1, _), (2, (.ref (.bx 2) 0 [] (.agg [(ji x_1.1), (Enc.enc (x_1.2 : List (Int × Int)))]))), (4, (jb false)), (6, _), (7, (jb r_6.2)), (10, (encN 10 [0] (r_9.1 : NL (NL Int)))), (11, (jb r_9.2)), (12, _)] ⟨(show s_8 1 = (eL x_2) from hm_8 1 (eL x_2) (eL x_2) h1 (rem_enc (xs := (x_2 : List Int)))), (show s_8 2 = (.ref (.bx 2) 0 [] (.agg [(ji x_1.1), (Enc.enc (x_1.2 : List (Int × Int)))])) from hm_8 2 (.ref (.bx 2) 0 [] (.agg [(ji x_1.1), (Enc.enc (x_1.2 : List (Int × Int)))])) (.ref (.bx 2) 0 [] (.agg [(ji x_1.1), (Enc.enc (x_1.2 : List (Int × Int)))])) h2 (rem_self _ (map_bx (killO_ne rfl) (map_agg (maps_cons rfl (maps_cons (Enc.map_enc _ (x_1.2 : List (Int × Int))) maps_nil)))))), (show s_8 4 = (jb false) from hm_8 4 (jb false) (jb false) h4 (rem_self _ rfl)), (show s_8 6 = (Enc.enc (r_6.1 : List (List Int))) from hm_8 6 (Enc.enc (r_6.1 : List (List Int))) (Enc.enc (r_6.1 : List (List Int))) h6 (rem_enc (xs := (r_6.1 : List (List Int))))), (show s_8 7 = (jb r_6.2) from hm_8 7 (jb r_6.2) (jb r_6.2) h7 (rem_self _ rfl)), (show s_8 10 = (encN 10 [0] (r_9.1 : NL (NL Int))) from hm_8 10 (encN 10 [0] (r_9.1 : NL (NL Int))) (encN 10 [0] (r_9.1 : NL (NL Int))) h10 (rem_self _ (map_encN (r := 10) (p := [0]) (killO_ne rfl) (fun _ => killO_ne rfl) (killO_ne rfl)))), (show s_8 11 = (jb r_9.2) from hm_8 11 (jb r_9.2) (jb r_9.2) h11 (rem_self _ rfl)), h12⟩ ?_
  rintro s ⟨h1, h2, h4, h6, h7, h10, h11, h12⟩
  refine .nsq (.seq (.seq (rg (gm h12 fun h68 => g1 68 (jb (decide (r_17.1 < 0))) h68 fun h69 => ?_))))
  refine gm h69 fun h70 => split_on (c := decide (r_17.1 < 0)) h (fun hg3 h => ?_) (fun hg3 h => ?_)
  · refine g_no (h70.trans (congrArg V.bool hg3)) ?_
    refine g_no (h70.trans (congrArg V.bool hg3)) ?_
    refine g_no (h70.trans (congrArg V.bool hg3)) ?_
    refine g_no (h70.trans (congrArg V.bool hg3)) ?_
    refine g2 70 74 (jb true) (h70.trans (congrArg V.bool hg3)) (rfl : (_ : V) = (.tup [])) fun h75 => ?_
    refine gm h75 fun h76 => g_no h76 ?_
    refine g_no h76 ?_
    refine g_no h76 ?_
    refine g2 76 79 (jb true) h76 (rfl : (_ : V) = (.tup [])) fun h80 => ?_
    refine gq ?_
    exact t_f7_j2 H x_2 x_1 r_6 r_9 true _ ⟨h1, h2, h4, h6, h7, h10, h80⟩ h
  refine g_yes (h70.trans (congrArg V.bool hg3)) (gv (encN 10 [0] (r_9.1 : NL (NL Int))) (ev_mov h10 ok_encN) fun h71 => ?_)
  refine g_yes (h70.trans (congrArg V.bool hg3)) (gm h6 fun h72 => ?_)
  obtain ⟨r_30, E_r_30, h⟩ := bind_some h
  refine g_yes (h70.trans (congrArg V.bool hg3)) (g_call (m := 0) (al := false) (r := (Enc.enc (r_30 : Bool))) [Enc.enc ((List.map NL.list r_9.1.list) : (List (List Int))), Enc.enc (r_6.1 : (List (List Int)))] (ta_cons (v := (encN 10 [0] (r_9.1 : NL (NL Int)))) h71 ok_encN (erase_encN (o := (r_9.1 : NL (NL Int)))) (ta_cons (v := (Enc.enc (r_6.1 : List (List Int)))) h72 rfl (Enc.erase_enc (r_6.1 : (List (List Int)))) ta_nil)) (H.c29 _ _ _ E_r_30) H.g29 rfl rfl rfl rfl ?_)
  refine g_yes (h70.trans (congrArg V.bool hg3)) (g1 73 (jb (!r_30)) (rfl : (_ : V) = (jb r_30)) fun h74 => ?_)
  refine g2 70 74 (jb (!r_30)) (h70.trans (congrArg V.bool hg3)) h74 fun h75 => ?_
  refine gm h75 fun h76 => split_on (c := (!r_30)) h (fun hg9 h => ?_) (fun hg9 h => ?_)
  · refine g_no (h76.trans (congrArg V.bool hg9)) ?_
    refine g_no (h76.trans (congrArg V.bool hg9)) ?_
    refine g_no (h76.trans (congrArg V.bool hg9)) ?_
    refine g2 76 79 (jb true) (h76.trans (congrArg V.bool hg9)) (rfl : (_ : V) = (.tup [])) fun h80 => ?_
    refine gq ?_
    exact t_f7_j2 H x_2 x_1 r_6 r_9 true _ ⟨h1, h2, h4, h6, h7, h10, h80⟩ h
  refine g_yes (h76.trans (congrArg V.bool hg9)) (gm h11 fun h77 => ?_)
  refine g_yes (h76.trans (congrArg V.bool hg9)) (gm h7 fun h78 => ?_)
  refine g_yes (h76.trans (congrArg V.bool hg9)) (g2 77 78 (jb (r_9.2 != r_6.2)) h77 h78 fun h79 => ?_)
  refine g2 76 79 (jb (r_9.2 != r_6.2)) (h76.trans (congrArg V.bool hg9)) h79 fun h80 => ?_
  refine gq ?_
  exact t_f7_j2 H x_2 x_1 r_6 r_9 (r_9.2 != r_6.2) _ ⟨h1, h2, h4, h6, h7, h10, h80⟩ h
def w_FnExactBagsOfLayout (F : Nat) (x_1 : (Int × (List (Int × Int)))) (x_2 : (List Int)) : Option Bool :=
  bif decide ((x_2.length : Int) > 1048576) then
    some true
  else
    (w_szGraph F x_1 1048576).bind fun r_3 =>
    bif decide (r_3 < 0) then
      some true
    else
      (w_toGraph F x_1).bind fun r_4 =>
      (w_toIntS F x_2).bind fun r_5 =>
      (s_BagsOfLayout F r_4 r_5).bind fun r_6 =>
      (w_toGraph_o F x_1).bind fun r_7 =>
      (w_toIntS_o F x_2).bind fun r_8 =>
      (i_BagsOfLayout_o F (r_7.1, r_7.2.list) r_8.list).bind fun r_9 =>
      (w_eqIntSS F (List.map NL.list r_9.1.list) r_6.1).bind fun r_31 =>
      bif (!r_31) then
        w_FnExactBagsOfLayout_j3 F x_2 x_1 r_6 r_7 r_8 r_9 true
      else
        w_FnExactBagsOfLayout_j3 F x_2 x_1 r_6 r_7 r_8 r_9 (r_9.2 != r_6.2)
theorem t7 (H : H7 D σ F) (x_1 : (Int × (List (Int × Int)))) (x_2 : (List Int)) (s : Nat → V) (hs : Facts [(0, (.agg [(ji x_1.1), (Enc.enc (x_1.2 : List (Int × Int)))])), (1, (eL x_2))] s) (h : w_FnExactBagsOfLayout F x_1 x_2 = some r) : Run D σ (R7 r) (.run A7 []) s := by
  unfold w_FnExactBagsOfLayout at h
  obtain ⟨h0, h1⟩ := hs
  refine .seq (run_reg ?_)
  refine e_clr ?_
  refine ez [(0, _), (1, _), (2, _)] ⟨(keep_clear (pk := [2]) h0 rfl (map_agg (maps_cons mi (maps_cons me maps_nil)))), (keep_clear (pk := [2]) h1 rfl me), (gone_clear (pk := [2]) (t := 2) rfl)⟩ ?_
  rintro s ⟨h0, h1, h2⟩
  refine g_box (.agg [(ji x_1.1), (Enc.enc (x_1.2 : List (Int × Int)))]) (rd_of h0 rfl) h2 rfl ?_
  refine g0 (jb false) fun h4 => ?_
  refine gq (.nsq (.seq (.seq (rg (gm h1 fun h17 => gv (ji (x_2.length : Int)) (ev_len (xs := x_2) h17) fun h18 => ?_)))))
  refine g1 18 (jb (decide ((x_2.length : Int) > 1048576))) h18 fun h19 => ?_
  refine gq (.nsq (run_cond (t := decide ((x_2.length : Int) > 1048576)) h19 h (fun h => ?_) (fun h => ?_)))
  · refine .seq (rg (g0 (jb true) fun h4 => ?_))
    refine gq (.nsq (.ret ?_))
    have hr := Option.some.inj h
    subst hr
    exact rrA (res_tmp h4) rfl
  refine .skip (.nsq (.seq (rg (g0 (ji 1048576) fun h5 => gq (.nsq (.seq (rg (g1 2 (.agg [(ji x_1.1), (Enc.enc (x_1.2 : List (Int × Int)))]) (rfl : (_ : V) = (.ref (.bx 2) 0 [] (.agg [(ji x_1.1), (Enc.enc (x_1.2 : List (Int × Int)))]))) fun h20 => ?_))))))))
  refine gm h5 fun h21 => ?_
  obtain ⟨r_3, E_r_3, h⟩ := bind_some h
  refine g_call (m := 0) (al := false) (r := (Enc.enc (r_3 : Int))) [Enc.enc (x_1 : (Int × (List (Int × Int)))), Enc.enc (1048576 : Int)] (ta_cons (v := (.agg [(ji x_1.1), (Enc.enc (x_1.2 : List (Int × Int)))])) h20 rfl (Enc.erase_enc (x_1 : (Int × (List (Int × Int))))) (ta_cons (v := (ji 1048576)) h21 rfl rfl ta_nil)) (H.c15 _ _ _ E_r_3) H.g15 rfl rfl rfl rfl ?_
  refine gm (rfl : (_ : V) = (ji r_3)) fun h5 => ?_
  refine gq (.nsq (.seq (.seq (rg (gm h5 fun h23 => g1 23 (jb (decide (r_3 < 0))) h23 fun h24 => ?_)))))
  refine gq (.nsq (run_cond (t := decide (r_3 < 0)) h24 h (fun h => ?_) (fun h => ?_)))
  · refine .seq (rg (g0 (jb true) fun h4 => ?_))
    refine gq (.nsq (.ret ?_))
    have hr := Option.some.inj h
    subst hr
    exact rrA (res_tmp h4) rfl
  refine .skip (.nsq (.seq (rg (g1 2 (.agg [(ji x_1.1), (Enc.enc (x_1.2 : List (Int × Int)))]) (rfl : (_ : V) = (.ref (.bx 2) 0 [] (.agg [(ji x_1.1), (Enc.enc (x_1.2 : List (Int × Int)))]))) fun h26 => ?_))))
  obtain ⟨r_4, E_r_4, h⟩ := bind_some h
  refine g_call (m := 0) (al := true) (r := (Enc.enc (r_4 : (Int × (List (Int × Int)))))) [Enc.enc (x_1 : (Int × (List (Int × Int))))] (ta_cons (v := (.agg [(ji x_1.1), (Enc.enc (x_1.2 : List (Int × Int)))])) h26 rfl (Enc.erase_enc (x_1 : (Int × (List (Int × Int))))) ta_nil) (H.c17 _ _ E_r_4) H.g17 (hal_of (ht_cons (v := (.agg [(ji x_1.1), (Enc.enc (x_1.2 : List (Int × Int)))])) h26 rfl rfl ht_nil)) rfl rfl rfl ?_
  refine gm h1 fun h28 => ?_
  obtain ⟨r_5, E_r_5, h⟩ := bind_some h
  refine g_call (m := 0) (al := false) (r := (Enc.enc (r_5 : (List Int)))) [Enc.enc (x_2 : (List Int))] (ta_cons (v := (eL x_2)) h28 rfl (Enc.erase_enc (x_2 : (List Int))) ta_nil) (H.c18 _ _ E_r_5) H.g18 rfl rfl rfl rfl ?_
  obtain ⟨r_6, E_r_6, h⟩ := bind_some h
  refine g_call (m := 0) (al := true) (r := (.tup [Enc.enc (r_6.1 : (List (List Int))), Enc.enc (r_6.2 : Bool)])) [Enc.enc (r_4 : (Int × (List (Int × Int)))), Enc.enc (r_5 : (List Int))] (ta_cons (v := (.agg [(ji r_4.1), (Enc.enc (r_4.2 : List (Int × Int)))])) rfl rfl (Enc.erase_enc (r_4 : (Int × (List (Int × Int))))) (ta_cons (v := (eL r_5)) rfl rfl (Enc.erase_enc (r_5 : (List Int))) ta_nil)) (H.c36 _ _ _ E_r_6) H.g36 (hal_of (ht_cons (v := (.agg [(ji r_4.1), (Enc.enc (r_4.2 : List (Int × Int)))])) rfl rfl rfl (ht_cons (v := (eL r_5)) rfl rfl rfl ht_nil))) rfl rfl rfl ?_
  refine gm (rfl : (_ : V) = (.tup [(Enc.enc (r_6.1 : List (List Int))), (jb r_6.2)])) fun h25 => ?_
  refine g1 25 (Enc.enc (r_6.1 : List (List Int))) h25 fun h31 => ?_
  refine g1 25 (jb r_6.2) h25 fun h32 => ?_
  refine gm h31 fun h6 => gm h32 fun h7 => gq (.nsq (.seq (run_reg ?_)))
  refine e_clr ?_
  refine ez [(1, _), (2, _), (4, _), (6, _), (7, _), (8, _), (34, _)] ⟨(keep_clear (pk := [34, 8]) h1 rfl me), (keep_clear (pk := [34, 8]) rfl rfl (map_bx rfl (map_agg (maps_cons mi (maps_cons me maps_nil))))), (keep_clear (pk := [34, 8]) h4 rfl mb), (keep_clear (pk := [34, 8]) h6 rfl me), (keep_clear (pk := [34, 8]) h7 rfl mb), (gone_clear (pk := [34, 8]) (t := 8) rfl), (gone_clear (pk := [34, 8]) (t := 34) rfl)⟩ ?_
  rintro s ⟨h1, h2, h4, h6, h7, h8, h34⟩
  refine g1 2 (.agg [(ji x_1.1), (Enc.enc (x_1.2 : List (Int × Int)))]) h2 fun h33 => ?_
  obtain ⟨r_7, E_r_7, h⟩ := bind_some h
  refine g_callO (m := 1) (al := false) (r := (.agg [(Enc.enc (r_7.1 : Int)), (encO .sh (r_7.2 : NL (Int × Int)))])) (v := (.agg [(ji r_7.1), (encO (.at 34 [1]) (r_7.2 : NL (Int × Int)))])) (kk := 1000000017) [Enc.enc (x_1 : (Int × (List (Int × Int))))] (ta_cons (v := (.agg [(ji x_1.1), (Enc.enc (x_1.2 : List (Int × Int)))])) h33 rfl (Enc.erase_enc (x_1 : (Int × (List (Int × Int))))) ta_nil) (H.c17o _ _ E_r_7) H.g17o rfl (toks_agg (tokss_cons rfl (tokss_cons toks_encS tokss_nil))) (tag_agg (tags_cons rfl (tags_cons tag_encO tags_nil))) rfl h34 ?_
  refine g_alloc h8 ?_
  refine g_store (.agg [(ji r_7.1), (encO (.at 34 [1]) (r_7.2 : NL (Int × Int)))]) (rd_of rfl rfl) (rd_of rfl rfl) ⟨by decide, by decide, rfl, (by simp [V.shape, V.shapes, shape_encP, Sh.beq, Sh.beqs]), (by simp [V.shape, V.shapes, shape_encP, Sh.beq, Sh.beqs]), (by simp [V.toks, V.tokss, tok_memP])⟩ ?_
  refine gz [(1, (eL x_2)), (2, (.ref (.bx 2) 0 [] (.agg [(ji x_1.1), (Enc.enc (x_1.2 : List (Int × Int)))]))), (4, (jb false)), (6, (Enc.enc (r_6.1 : List (List Int)))), (7, (jb r_6.2)), (8, (.ref (.bx 8) 0 [] (.agg [(ji r_7.1), (encO (.at 34 [1]) (r_7.2 : NL (Int × Int)))])))] ⟨(keep_mut h1 (Enc.mut_enc _ _ _ _ (x_2 : List Int))), (keep_mut h2 (mut_ref_ne rfl rfl (mut_agg (muts_cons rfl (muts_cons (Enc.mut_enc _ _ _ _ (x_1.2 : List (Int × Int))) rfl))))), (keep_mut h4 rfl), (keep_mut h6 (Enc.mut_enc _ _ _ _ (r_6.1 : List (List Int)))), (keep_mut h7 rfl), (keep_mut rfl rfl)⟩ ?_
  rintro s ⟨h1, h2, h4, h6, h7, h8⟩
  refine .nsq (.seq (run_reg ?_))
  refine e_clr ?_
  refine ez [(1, _), (2, _), (4, _), (6, _), (7, _), (8, _), (36, _)] ⟨(keep_clear (pk := [36]) h1 rfl me), (keep_clear (pk := [36]) h2 rfl (map_bx rfl (map_agg (maps_cons mi (maps_cons me maps_nil))))), (keep_clear (pk := [36]) h4 rfl mb), (keep_clear (pk := [36]) h6 rfl me), (keep_clear (pk := [36]) h7 rfl mb), (keep_clear (pk := [36]) h8 rfl (map_bx rfl (map_agg (maps_cons mi (maps_cons (map_encO (r := 34) (p := [1]) rfl rfl) maps_nil))))), (gone_clear (pk := [36]) (t := 36) rfl)⟩ ?_
  rintro s ⟨h1, h2, h4, h6, h7, h8, h36⟩
  refine gm h1 fun h35 => ?_
  obtain ⟨r_8, E_r_8, h⟩ := bind_some h
  refine g_callO (m := 1) (al := false) (r := (encO .sh (r_8 : NL Int))) (v := (oI 36 [] r_8)) (kk := 1000000018) [Enc.enc (x_2 : (List Int))] (ta_cons (v := (eL x_2)) h35 rfl (Enc.erase_enc (x_2 : (List Int))) ta_nil) (H.c18o _ _ E_r_8) H.g18o rfl toks_encS tag_encO ok_encP h36 ?_
  refine gv (oI 36 [] r_8) (ev_mov rfl ok_encO) fun h9 => ?_
  refine g_end ?_
  refine e_home (r := 36) (x := 9) (v := _) h9 ok_encO (fun s_4 hg_4 => ?_)
  refine ez [(1, (eL x_2)), (2, (.ref (.bx 2) 0 [] (.agg [(ji x_1.1), (Enc.enc (x_1.2 : List (Int × Int)))]))), (4, (jb false)), (6, (Enc.enc (r_6.1 : List (List Int)))), (7, (jb r_6.2)), (8, (.ref (.bx 8) 0 [] (.agg [(ji r_7.1), (encO (.at 34 [1]) (r_7.2 : NL (Int × Int)))]))), (9, (oI 9 [] r_8))] ⟨(hg_4 1 _ _ h1 me), (hg_4 2 _ _ h2 (map_bx rfl (map_agg (maps_cons mi (maps_cons me maps_nil))))), (hg_4 4 _ _ h4 mb), (hg_4 6 _ _ h6 me), (hg_4 7 _ _ h7 mb), (hg_4 8 _ (.ref (.bx 8) 0 [] (.agg [(ji r_7.1), (encO (.at 34 [1]) (r_7.2 : NL (Int × Int)))])) h8 (map_bx rfl (map_agg (maps_cons mi (maps_cons (map_encO (r := 34) (p := [1]) rfl rfl) maps_nil))))), (hg_4 9 _ _ h9 (map_encO (r := 36) (p := []) rfl rfl))⟩ ?_
  rintro s ⟨h1, h2, h4, h6, h7, h8, h9⟩
  refine .nsq (.seq (run_reg ?_))
  refine e_clr ?_
  refine ez [(1, _), (2, _), (4, _), (6, _), (7, _), (8, _), (9, _), (40, _)] ⟨(keep_clear (pk := [40]) h1 rfl me), (keep_clear (pk := [40]) h2 rfl (map_bx rfl (map_agg (maps_cons mi (maps_cons me maps_nil))))), (keep_clear (pk := [40]) h4 rfl mb), (keep_clear (pk := [40]) h6 rfl me), (keep_clear (pk := [40]) h7 rfl mb), (keep_clear (pk := [40]) h8 rfl (map_bx rfl (map_agg (maps_cons mi (maps_cons (map_encO (r := 34) (p := [1]) rfl rfl) maps_nil))))), (keep_clear (pk := [40]) h9 rfl (map_encO (r := 9) (p := []) rfl rfl)), (gone_clear (pk := [40]) (t := 40) rfl)⟩ ?_
  rintro s ⟨h1, h2, h4, h6, h7, h8, h9, h40⟩
  refine gv (.agg [(ji r_7.1), (encO (.at 34 [1]) (r_7.2 : NL (Int × Int)))]) (ev_loadN (c := (.agg [(ji r_7.1), (encO (.at 34 [1]) (r_7.2 : NL (Int × Int)))])) h8 (by simp [V.shape, V.shapes, shape_encP, Sh.beq, Sh.beqs])) fun h38 => ?_
  refine gv (oI 9 [] r_8) (ev_mov h9 ok_encO) fun h39 => ?_
  obtain ⟨r_9, E_r_9, h⟩ := bind_some h
  refine g_callO (m := 2) (al := false) (r := (.tup [(encNs (r_9.1 : NL (NL Int))), (Enc.enc (r_9.2 : Bool))])) (v := (.tup [(encN 40 [0] (r_9.1 : NL (NL Int))), (jb r_9.2)])) (kk := 1000000037) [Enc.enc ((r_7.1, r_7.2.list) : (Int × (List (Int × Int)))), Enc.enc (r_8.list : (List Int))] (ta_cons (v := (.agg [(ji r_7.1), (encO (.at 34 [1]) (r_7.2 : NL (Int × Int)))])) h38 rfl (erase_agg (erases_cons rfl (erases_cons (erase_encO (o := r_7.2)) erases_nil))) (ta_cons (v := (oI 9 [] r_8)) h39 ok_encP (erase_encO (o := r_8)) ta_nil)) (H.c37o _ _ _ E_r_9) H.g37o rfl (toks_tup (tokss_cons toks_encNs (tokss_cons rfl tokss_nil))) (tag_tup (tags_cons (tag_encN rfl) (tags_cons rfl tags_nil))) rfl h40 ?_
  refine gm (rfl : (_ : V) = (.tup [(encN 40 [0] (r_9.1 : NL (NL Int))), (jb r_9.2)])) fun h37 => ?_
  refine gv (encN 40 [0] (r_9.1 : NL (NL Int))) (ev_extN (v := (encN 40 [0] (r_9.1 : NL (NL Int)))) h37 rfl ok_encN) fun h41 => ?_
  refine g1 37 (jb r_9.2) h37 fun h42 => ?_
  refine gv (encN 40 [0] (r_9.1 : NL (NL Int))) (ev_mov h41 ok_encN) fun h10 => ?_
  refine gm h42 fun h11 => g_end ?_
  refine e_home (r := 40) (x := 10) (v := _) h10 ok_encN (fun s_6 hg_6 => ?_)
  refine ez [(1, (eL x_2)), (2, (.ref (.bx 2) 0 [] (.agg [(ji x_1.1), (Enc.enc (x_1.2 : List (Int × Int)))]))), (4, (jb false)), (6, (Enc.enc (r_6.1 : List (List Int)))), (7, (jb r_6.2)), (8, (.ref (.bx 8) 0 [] (.agg [(ji r_7.1), (encO (.at 34 [1]) (r_7.2 : NL (Int × Int)))]))), (9, (oI 9 [] r_8)), (10, (encN 10 [0] (r_9.1 : NL (NL Int)))), (11, (jb r_9.2))] ⟨(hg_6 1 _ _ h1 me), (hg_6 2 _ _ h2 (map_bx rfl (map_agg (maps_cons mi (maps_cons me maps_nil))))), (hg_6 4 _ _ h4 mb), (hg_6 6 _ _ h6 me), (hg_6 7 _ _ h7 mb), (hg_6 8 _ (.ref (.bx 8) 0 [] (.agg [(ji r_7.1), (encO (.at 34 [1]) (r_7.2 : NL (Int × Int)))])) h8 (map_bx rfl (map_agg (maps_cons mi (maps_cons (map_encO (r := 34) (p := [1]) rfl rfl) maps_nil))))), (hg_6 9 _ _ h9 (map_encO (r := 9) (p := []) rfl rfl)), (hg_6 10 _ _ h10 (map_encN (r := 40) (p := [0]) rfl (fun _ => rfl) rfl)), (hg_6 11 _ _ h11 mb)⟩ ?_
  rintro s ⟨h1, h2, h4, h6, h7, h8, h9, h10, h11⟩
  refine .nsq (.seq (.seq (rg (gv (encN 10 [0] (r_9.1 : NL (NL Int))) (ev_mov h10 ok_encN) fun h43 => ?_))))
  refine gm h6 fun h44 => ?_
  obtain ⟨r_31, E_r_31, h⟩ := bind_some h
  refine g_call (m := 0) (al := false) (r := (Enc.enc (r_31 : Bool))) [Enc.enc ((List.map NL.list r_9.1.list) : (List (List Int))), Enc.enc (r_6.1 : (List (List Int)))] (ta_cons (v := (encN 10 [0] (r_9.1 : NL (NL Int)))) h43 ok_encN (erase_encN (o := (r_9.1 : NL (NL Int)))) (ta_cons (v := (Enc.enc (r_6.1 : List (List Int)))) h44 rfl (Enc.erase_enc (r_6.1 : (List (List Int)))) ta_nil)) (H.c29 _ _ _ E_r_31) H.g29 rfl rfl rfl rfl ?_
  refine g1 45 (jb (!r_31)) (rfl : (_ : V) = (jb r_31)) fun h46 => ?_
  refine gm h46 fun h47 => split_on (c := (!r_31)) h (fun hg5 h => ?_) (fun hg5 h => ?_)
  · refine g_no (h47.trans (congrArg V.bool hg5)) ?_
    refine g_no (h47.trans (congrArg V.bool hg5)) ?_
    refine g_no (h47.trans (congrArg V.bool hg5)) ?_
    refine g2 47 50 (jb true) (h47.trans (congrArg V.bool hg5)) (rfl : (_ : V) = (.tup [])) fun h51 => ?_
    refine gq ?_
    exact t_f7_j3 H x_2 x_1 r_6 r_7 r_8 r_9 true _ ⟨h1, h2, h4, h6, h7, h8, h9, h10, h11, h51⟩ h
  refine g_yes (h47.trans (congrArg V.bool hg5)) (gm h11 fun h48 => ?_)
  refine g_yes (h47.trans (congrArg V.bool hg5)) (gm h7 fun h49 => ?_)
  refine g_yes (h47.trans (congrArg V.bool hg5)) (g2 48 49 (jb (r_9.2 != r_6.2)) h48 h49 fun h50 => ?_)
  refine g2 47 50 (jb (r_9.2 != r_6.2)) (h47.trans (congrArg V.bool hg5)) h50 fun h51 => ?_
  refine gq ?_
  exact t_f7_j3 H x_2 x_1 r_6 r_7 r_8 r_9 (r_9.2 != r_6.2) _ ⟨h1, h2, h4, h6, h7, h8, h9, h10, h11, h51⟩ h
end
def e7 (F : Nat) : Ent := ent 7 (fun (x : ((Int × (List (Int × Int))) × (List Int) × Unit)) => w_FnExactBagsOfLayout F x.1 x.2.1) (fun (r : Bool) => (Enc.enc (r : Bool))) 0 false []
theorem p7 {F : Nat} {x0 : (Int × (List (Int × Int)))} {x1 : (List Int)} {r : Bool} (h : w_FnExactBagsOfLayout F x0 x1 = some r) : (e7 F).den [Enc.enc x0, Enc.enc x1] = some (Enc.enc (r : Bool)) := ent_put (x0, x1, ()) h
theorem o7 {D : Den} {σ : Sig} {F : Nat} (hF : Fits2 Try.prog D σ) (H : H7 D σ F) : (e7 F).Ok Try.prog := by
  refine ok_of (f := 7) (show unk 7 = 7 from rfl) (fun args r h => ?_) ⟨Try.f7, Try.func7, rfl, rfl⟩
  obtain ⟨⟨x0, x1, _⟩, y, rfl, hy, rfl⟩ := da_open h
  exact contract_run hF (by kernel_rfl) Try.func7 rfl c7 (show 2 ≤ Try.f7.ntmps by decide) (t7 H x0 x1 _ ⟨rfl, rfl⟩ hy)
end Go.Zq
