/- Functions of the program as typed functions, and that the machine runs as they say (part 2). No further condition. -/
import Derived.Test.YtdhbhaaiohkpdaaK3
import Derived.Test.YtdhbhaaiohkpdaaKC
import Derived.Test.YtdhbhaaiohkpdaaProg
import Derived.Test.YtdhbhaaiohkpdaaChecked
import Derived.KernelRfl
import Derived.Test.YtdhbhaaiohkpdaaG1
set_option linter.unusedVariables false
set_option linter.unusedSimpArgs false
/- Functions of the program, as typed functions, and that the machine runs as they say. -/
namespace Go.Zq
open Go.Proofs Go.Shelf
/- loop.example/g01109/impl.allWithin -/
def A124_5 : AC := (.cond (.t 19) (.seq (.reg [] [((jv 6 (.mov (.k (.bool false)))))] []) .ret) .skip)
def A124_4 : AC := (.seq (.reg [] [(jm 15 8), (jm 16 1), (jm 17 2), (.mk (some 18) none false (.call (.k (.fn 105 [] [])) [(.t 15), (.t 16), (.t 17)])), ((jv 19 (.un .not (.t 18))))] []) A124_5)
def A124_6 : AC := (.reg [] [((jv 20 (.bin .add (.t 11) (jn 1)))), (jm 11 20)] [])
def A124_3 : AC := (.seq (.block 1 (.seq (.reg [] [((jv 13 (.idx (.t 9) (.t 11) 1))), ((jv 14 (.load .s (.t 13)))), (jm 8 14)] []) A124_4)) A124_6)
def A124_2 : AC := (.seq (.cond (.t 12) .skip (.exit 0)) A124_3)
def A124_1 : AC := (.seq (.reg [] [((jv 12 (.bin .lss (.t 11) (.t 10))))] []) A124_2)
def A124_7 : AC := (.seq (.reg [] [((jv 6 (.mov (.k (.bool true)))))] []) .ret)
def A124_9 : AC := (.block 0 (.loop A124_1))
def A124_8 : AC := (.seq (.seq (.reg [] [(jm 9 0), ((jv 10 (.len (.t 9)))), ((jv 11 (.mov (jn 0))))] []) A124_9) A124_7)
def A124 : AC := (.seq (.reg [] [((jv 6 (.mov (.k (.bool false)))))] []) A124_8)
def an124 : List An := []
theorem c124 : cC Try.prog Try.f124.ntmps an124 (Try.f124.body.getD .skip) = some A124 := by kernel_rfl
structure H124 (D : Den) (σ : Sig) (F : Nat) : Prop where
  c105 : ∀ (x0 : Int) (x1 : Int) (x2 : Int) r, i_within F x0 x1 x2 = some r → D 105 [Enc.enc x0, Enc.enc x1, Enc.enc x2] = some (Enc.enc (r : Bool))
  g105 : σ 105 = some (0, false)
abbrev R124 (r : Bool) : (Nat → V) → Prop := RR Try.prog [.tmp 6] 0 false (Enc.enc (r : Bool))
section
variable {D : Den} {σ : Sig} {F : Nat} {r : Bool}
def i_allWithin_l1 (F : Nat) (x_2 : Int) (x_3 : Int) (x_1 : (List Int))  : Nat → Int → Option Bool
  | 0, _ => none
  | k + 1, x_6 =>
    bif decide (x_6 < (x_1.length : Int)) then
      (idx x_1 x_6).bind fun e_9 =>
      (i_within F e_9 x_2 x_3).bind fun r_10 =>
      bif (!r_10) then
        some false
      else
        (i_allWithin_l1 F x_2 x_3 x_1 k) (w64 (x_6 + 1))
    else
      some true
theorem t_f124_l1 (H : H124 D σ F) (x_2 : Int) (x_3 : Int) (x_1 : (List Int))  : ∀ (k : Nat) (x_6 : Int) (s : Nat → V), Facts [(1, (ji x_2)), (2, (ji x_3)), (6, (jb false)), (9, (eL x_1)), (10, (ji (x_1.length : Int))), (11, (ji x_6))] s → i_allWithin_l1 F x_2 x_3 x_1 k x_6 = some r → Run D σ (R124 r) (.run A124_1 [.lp A124_1, .bk 0, .sq A124_7]) s := by
  intro k
  induction k with
  | zero => intro x_6 s _ h; exact nomatch (h : (none : Option _) = some r)
  | succ k ih =>
    intro x_6 s hs h
    rw [i_allWithin_l1] at h
    obtain ⟨h1, h2, h6, h9, h10, h11⟩ := hs
    refine .seq (rg (g2 11 10 (jb (decide (x_6 < (x_1.length : Int)))) h11 h10 fun h12 => ?_))
    refine gq (.nsq (.seq (run_cond (t := decide (x_6 < (x_1.length : Int))) h12 h (fun h => ?_) (fun h => ?_))))
    · refine .skip (.nsq (.seq (.block (.seq (rg ?_)))))
      obtain ⟨e_9, E_e_9, h⟩ := bind_some h
      refine gv (.ref .sh 0 [] (ji e_9)) (ev_idx (t := .sh) (lo := 0) (xs := x_1) h9 h11 E_e_9 rfl rfl) fun h13 => ?_
      refine g1 13 (ji e_9) h13 fun h14 => ?_
      refine gm h14 fun h8 => gq (.nsq (.seq (rg (gm h8 fun h15 => gm h1 fun h16 => gm h2 fun h17 => ?_))))
      obtain ⟨r_10, E_r_10, h⟩ := bind_some h
      refine g_call (m := 0) (al := false) (r := (Enc.enc (r_10 : Bool))) [Enc.enc (e_9 : Int), Enc.enc (x_2 : Int), Enc.enc (x_3 : Int)] (ta_cons (v := (ji e_9)) h15 rfl rfl (ta_cons (v := (ji x_2)) h16 rfl rfl (ta_cons (v := (ji x_3)) h17 rfl rfl ta_nil))) (H.c105 _ _ _ _ E_r_10) H.g105 rfl rfl rfl rfl ?_
      refine g1 18 (jb (!r_10)) (rfl : (_ : V) = (jb r_10)) fun h19 => ?_
      refine gq (.nsq (run_cond (t := (!r_10)) h19 h (fun h => ?_) (fun h => ?_)))
      · refine .seq (rg (g0 (jb false) fun h6 => ?_))
        refine gq (.nsq (.ret ?_))
        have hr := Option.some.inj h
        subst hr
        exact rrA (res_tmp h6) rfl
      refine .skip (.nbk (.nsq (rg (g1 11 (ji (w64 (x_6 + 1))) h11 fun h20 => ?_))))
      refine gm h20 fun h11 => gq (.nlp ?_)
      exact ih (w64 (x_6 + 1)) _ ⟨h1, h2, h6, h9, h10, h11⟩ h
    refine .exit (.esq (.elp (.ebk (.nsq (.seq (rg (g0 (jb true) fun h6 => ?_)))))))
    refine gq (.nsq (.ret ?_))
    have hr := Option.some.inj h
    subst hr
    exact rrA (res_tmp h6) rfl
def i_allWithin (F : Nat) (x_1 : (List Int)) (x_2 : Int) (x_3 : Int) : Option Bool :=
  i_allWithin_l1 F x_2 x_3 x_1 F 0
theorem t124 (H : H124 D σ F) (x_1 : (List Int)) (x_2 : Int) (x_3 : Int) (s : Nat → V) (hs : Facts [(0, (eL x_1)), (1, (ji x_2)), (2, (ji x_3))] s) (h : i_allWithin F x_1 x_2 x_3 = some r) : Run D σ (R124 r) (.run A124 []) s := by
  unfold i_allWithin at h
  obtain ⟨h0, h1, h2⟩ := hs
  refine .seq (rg (g0 (jb false) fun h6 => ?_))
  refine gq (.nsq (.seq (.seq (rg (gm h0 fun h9 => gv (ji (x_1.length : Int)) (ev_len (xs := x_1) h9) fun h10 => ?_)))))
  refine g0 (ji 0) fun h11 => gq (.nsq (.block (.loop ?_)))
  exact t_f124_l1 H x_2 x_3 x_1 F 0 _ ⟨h1, h2, h6, h9, h10, h11⟩ h
end
def e124 (F : Nat) : Ent := ent 124 (fun (x : ((List Int) × Int × Int × Unit)) => i_allWithin F x.1 x.2.1 x.2.2.1) (fun (r : Bool) => (Enc.enc (r : Bool))) 0 false []
theorem p124 {F : Nat} {x0 : (List Int)} {x1 : Int} {x2 : Int} {r : Bool} (h : i_allWithin F x0 x1 x2 = some r) : (e124 F).den [Enc.enc x0, Enc.enc x1, Enc.enc x2] = some (Enc.enc (r : Bool)) := ent_put (x0, x1, x2, ()) h
theorem o124 {D : Den} {σ : Sig} {F : Nat} (hF : Fits2 Try.prog D σ) (H : H124 D σ F) : (e124 F).Ok Try.prog := by
  refine ok_of (f := 124) (show unk 124 = 124 from rfl) (fun args r h => ?_) ⟨Try.f124, Try.func124, rfl, rfl⟩
  obtain ⟨⟨x0, x1, x2, _⟩, y, rfl, hy, rfl⟩ := da_open h
  exact contract_run hF (by kernel_rfl) Try.func124 rfl c124 (show 3 ≤ Try.f124.ntmps by decide) (t124 H x0 x1 x2 _ ⟨rfl, rfl, rfl⟩ hy)
/- loop.example/g01109/impl.maskOf -/
def A93_4 : AC := (.reg [] [(jm 12 3), (jm 13 5), ((jv 14 (.bin .shl (jn 1) (.t 13)))), ((jv 15 (.bin .or (.t 12) (.t 14)))), (jm 3 15)] [])
def A93_5 : AC := (.reg [] [((jv 16 (.bin .add (.t 8) (jn 1)))), (jm 8 16)] [])
def A93_3 : AC := (.seq (.block 1 (.seq (.reg [] [((jv 10 (.idx (.t 6) (.t 8) 1))), ((jv 11 (.load .s (.t 10)))), (jm 5 11)] []) A93_4)) A93_5)
def A93_2 : AC := (.seq (.cond (.t 9) .skip (.exit 0)) A93_3)
def A93_1 : AC := (.seq (.reg [] [((jv 9 (.bin .lss (.t 8) (.t 7))))] []) A93_2)
def A93_6 : AC := (.seq (.reg [] [(jm 17 3), (jm 2 17)] []) .ret)
def A93_9 : AC := (.block 0 (.loop A93_1))
def A93_8 : AC := (.seq (.seq (.reg [] [(jm 6 0), ((jv 7 (.len (.t 6)))), ((jv 8 (.mov (jn 0))))] []) A93_9) A93_6)
def A93_7 : AC := (.seq (.reg [] [((jv 3 (.mov (jn 0))))] []) A93_8)
def A93 : AC := (.seq (.reg [] [((jv 2 (.mov (jn 0))))] []) A93_7)
def an93 : List An := []
theorem c93 : cC Try.prog Try.f93.ntmps an93 (Try.f93.body.getD .skip) = some A93 := by kernel_rfl
structure H93 (D : Den) (σ : Sig) (F : Nat) : Prop where
  mk ::
abbrev R93 (r : Int) : (Nat → V) → Prop := RR Try.prog [.tmp 2] 0 false (Enc.enc (r : Int))
section
variable {D : Den} {σ : Sig} {F : Nat} {r : Int}
def i_maskOf_l1 (F : Nat) (x_1 : (List Int))  : Nat → Int → Int → Option Int
  | 0, _, _ => none
  | k + 1, x_4, x_5 =>
    bif decide (x_5 < (x_1.length : Int)) then
      (idx x_1 x_5).bind fun e_8 =>
      (shlI .i64 1 e_8).bind fun q_9 =>
      (i_maskOf_l1 F x_1 k) (ior .i64 x_4 q_9) (w64 (x_5 + 1))
    else
      some x_4
theorem t_f93_l1 (H : H93 D σ F) (x_1 : (List Int))  : ∀ (k : Nat) (x_4 : Int) (x_5 : Int) (s : Nat → V), Facts [(2, (ji 0)), (3, (ji x_4)), (6, (eL x_1)), (7, (ji (x_1.length : Int))), (8, (ji x_5))] s → i_maskOf_l1 F x_1 k x_4 x_5 = some r → Run D σ (R93 r) (.run A93_1 [.lp A93_1, .bk 0, .sq A93_6]) s := by
  intro k
  induction k with
  | zero => intro x_4 x_5 s _ h; exact nomatch (h : (none : Option _) = some r)
  | succ k ih =>
    intro x_4 x_5 s hs h
    rw [i_maskOf_l1] at h
    obtain ⟨h2, h3, h6, h7, h8⟩ := hs
    refine .seq (rg (g2 8 7 (jb (decide (x_5 < (x_1.length : Int)))) h8 h7 fun h9 => ?_))
    refine gq (.nsq (.seq (run_cond (t := decide (x_5 < (x_1.length : Int))) h9 h (fun h => ?_) (fun h => ?_))))
    · refine .skip (.nsq (.seq (.block (.seq (rg ?_)))))
      obtain ⟨e_8, E_e_8, h⟩ := bind_some h
      refine gv (.ref .sh 0 [] (ji e_8)) (ev_idx (t := .sh) (lo := 0) (xs := x_1) h6 h8 E_e_8 rfl rfl) fun h10 => ?_
      refine g1 10 (ji e_8) h10 fun h11 => ?_
      refine gm h11 fun h5 => gq (.nsq (rg (gm h3 fun h12 => gm h5 fun h13 => ?_)))
      obtain ⟨q_9, E_q_9, h⟩ := bind_some h
      refine gv (ji q_9) (ev_shl rfl h13 E_q_9) fun h14 => ?_
      refine g2 12 14 (ji (ior .i64 x_4 q_9)) h12 h14 fun h15 => ?_
      refine gm h15 fun h3 => gq (.nbk (.nsq (rg (g1 8 (ji (w64 (x_5 + 1))) h8 fun h16 => ?_))))
      refine gm h16 fun h8 => gq (.nlp ?_)
      exact ih (ior .i64 x_4 q_9) (w64 (x_5 + 1)) _ ⟨h2, h3, h6, h7, h8⟩ h
    refine .exit (.esq (.elp (.ebk (.nsq (.seq (rg (gm h3 fun h17 => gm h17 fun h2 => gq (.nsq (.ret ?_)))))))))
    have hr := Option.some.inj h
    subst hr
    exact rrA (res_tmp h2) rfl
def i_maskOf (F : Nat) (x_1 : (List Int)) : Option Int :=
  i_maskOf_l1 F x_1 F 0 0
theorem t93 (H : H93 D σ F) (x_1 : (List Int)) (s : Nat → V) (hs : Facts [(0, (eL x_1))] s) (h : i_maskOf F x_1 = some r) : Run D σ (R93 r) (.run A93 []) s := by
  unfold i_maskOf at h
  have h0 := hs
  refine .seq (rg (g0 (ji 0) fun h2 => gq (.nsq (.seq (rg (g0 (ji 0) fun h3 => gq (.nsq (.seq (.seq (rg (gm h0 fun h6 => gv (ji (x_1.length : Int)) (ev_len (xs := x_1) h6) fun h7 => ?_)))))))))))
  refine g0 (ji 0) fun h8 => gq (.nsq (.block (.loop ?_)))
  exact t_f93_l1 H x_1 F 0 0 _ ⟨h2, h3, h6, h7, h8⟩ h
end
def e93 (F : Nat) : Ent := ent 93 (fun (x : ((List Int) × Unit)) => i_maskOf F x.1) (fun (r : Int) => (Enc.enc (r : Int))) 0 false []
theorem p93 {F : Nat} {x0 : (List Int)} {r : Int} (h : i_maskOf F x0 = some r) : (e93 F).den [Enc.enc x0] = some (Enc.enc (r : Int)) := ent_put (x0, ()) h
theorem o93 {D : Den} {σ : Sig} {F : Nat} (hF : Fits2 Try.prog D σ) (H : H93 D σ F) : (e93 F).Ok Try.prog := by
  refine ok_of (f := 93) (show unk 93 = 93 from rfl) (fun args r h => ?_) ⟨Try.f93, Try.func93, rfl, rfl⟩
  obtain ⟨⟨x0, _⟩, y, rfl, hy, rfl⟩ := da_open h
  exact contract_run hF (by kernel_rfl) Try.func93 rfl c93 (show 1 ≤ Try.f93.ntmps by decide) (t93 H x0 _ rfl hy)
/- loop.example/g01109/impl.isOrder -/
def A64_1 : AC := (.seq (.reg [] [(jm 5 1), ((jv 6 (.len (.t 5)))), ((jv 7 (.fld (.t 2) 0 0))), ((jv 8 (.load .s (.t 7)))), ((jv 9 (.bin .eql (.t 6) (.t 8)))), (jm 10 9), ((jg 11 10 true (.mov (.t 1)))), ((jg 12 10 true (.fld (.t 2) 0 0))), ((jg 13 10 true (.load .s (.t 12)))), ((jg 14 10 true (.bin .sub (.t 13) (jn 1)))), (.mk (some 15) (some (10, true)) false (.call (.k (.fn 124 [] [])) [(.t 11), (jn 0), (.t 14)])), ((jv 16 (.pick (.t 10) (.t 15) (.k (.bool false))))), (jm 17 16), ((jg 18 17 true (.mov (.t 1)))), (.mk (some 19) (some (17, true)) false (.call (.k (.fn 93 [] [])) [(.t 18)])), ((jg 20 17 true (.fld (.t 2) 0 0))), ((jg 21 17 true (.load .s (.t 20)))), ((jg 22 17 true (.bin .shl (jn 1) (.t 21)))), ((jg 23 17 true (.bin .sub (.t 22) (jn 1)))), ((jg 24 17 true (.bin .eql (.t 19) (.t 23)))), ((jv 25 (.pick (.t 17) (.t 24) (.k (.bool false))))), (jm 4 25)] []) .ret)
def A64 : AC := (.seq (.reg [.clr [2]] [(.mk (some 2) none false (.box (.t 0))), ((jv 4 (.mov (.k (.bool false)))))] []) A64_1)
def an64 : List An := [{ id := 0, pre := [.clr [2]], ep := [], lin := [], sp := [] }]
theorem c64 : cC Try.prog Try.f64.ntmps an64 (Try.f64.body.getD .skip) = some A64 := by kernel_rfl
structure H64 (D : Den) (σ : Sig) (F : Nat) : Prop where
  c124 : ∀ (x0 : (List Int)) (x1 : Int) (x2 : Int) r, i_allWithin F x0 x1 x2 = some r → D 124 [Enc.enc x0, Enc.enc x1, Enc.enc x2] = some (Enc.enc (r : Bool))
  g124 : σ 124 = some (0, false)
  c93 : ∀ (x0 : (List Int)) r, i_maskOf F x0 = some r → D 93 [Enc.enc x0] = some (Enc.enc (r : Int))
  g93 : σ 93 = some (0, false)
abbrev R64 (r : Bool) : (Nat → V) → Prop := RR Try.prog [.tmp 4] 0 false (Enc.enc (r : Bool))
section
variable {D : Den} {σ : Sig} {F : Nat} {r : Bool}
def i_isOrder (F : Nat) (x_1 : (Int × (List (Int × Int)))) (x_2 : (List Int)) : Option Bool :=
  bif ((x_2.length : Int) == x_1.1) then
    (i_allWithin F x_2 0 (w64 (x_1.1 - 1))).bind fun r_3 =>
    bif r_3 then
      (i_maskOf F x_2).bind fun r_4 =>
      (shlI .i64 1 x_1.1).bind fun q_5 =>
      some (r_4 == (w64 (q_5 - 1)))
    else
      some false
  else
    some false
theorem t64 (H : H64 D σ F) (x_1 : (Int × (List (Int × Int)))) (x_2 : (List Int)) (s : Nat → V) (hs : Facts [(0, (.agg [(ji x_1.1), (Enc.enc (x_1.2 : List (Int × Int)))])), (1, (eL x_2))] s) (h : i_isOrder F x_1 x_2 = some r) : Run D σ (R64 r) (.run A64 []) s := by
  unfold i_isOrder at h
  obtain ⟨h0, h1⟩ := hs
  refine .seq (run_reg ?_)
  refine e_clr ?_
  refine ez [(0, _), (1, _), (2, _)] ⟨(keep_clear (pk := [2]) h0 rfl (map_agg (maps_cons mi (maps_cons me maps_nil)))), (keep_clear (pk := [2]) h1 rfl me), (gone_clear (pk := [2]) (t := 2) rfl)⟩ ?_
  rintro s ⟨h0, h1, h2⟩
  refine g_box (.agg [(ji x_1.1), (Enc.enc (x_1.2 : List (Int × Int)))]) (rd_of h0 rfl) h2 rfl ?_
  refine g0 (jb false) fun h4 => ?_
  refine gq (.nsq (.seq (rg (gm h1 fun h5 => gv (ji (x_2.length : Int)) (ev_len (xs := x_2) h5) fun h6 => ?_))))
  refine g1 2 (.ref (.bx 2) 0 [0] (ji x_1.1)) (rfl : (_ : V) = (.ref (.bx 2) 0 [] (.agg [(ji x_1.1), (Enc.enc (x_1.2 : List (Int × Int)))]))) fun h7 => ?_
  refine g1 7 (ji x_1.1) h7 fun h8 => ?_
  refine g2 6 8 (jb ((x_2.length : Int) == x_1.1)) h6 h8 fun h9 => ?_
  refine gm h9 fun h10 => split_on (c := ((x_2.length : Int) == x_1.1)) h (fun hg6 h => ?_) (fun hg6 h => ?_)
  · refine g_yes (h10.trans (congrArg V.bool hg6)) (gm h1 fun h11 => ?_)
    refine g_yes (h10.trans (congrArg V.bool hg6)) (g1 2 (.ref (.bx 2) 0 [0] (ji x_1.1)) (rfl : (_ : V) = (.ref (.bx 2) 0 [] (.agg [(ji x_1.1), (Enc.enc (x_1.2 : List (Int × Int)))]))) fun h12 => ?_)
    refine g_yes (h10.trans (congrArg V.bool hg6)) (g1 12 (ji x_1.1) h12 fun h13 => ?_)
    refine g_yes (h10.trans (congrArg V.bool hg6)) (g1 13 (ji (w64 (x_1.1 - 1))) h13 fun h14 => ?_)
    obtain ⟨r_3, E_r_3, h⟩ := bind_some h
    refine g_yes (h10.trans (congrArg V.bool hg6)) (g_call (m := 0) (al := false) (r := (Enc.enc (r_3 : Bool))) [Enc.enc (x_2 : (List Int)), Enc.enc (0 : Int), Enc.enc (w64 (x_1.1 - 1) : Int)] (ta_cons (v := (eL x_2)) h11 rfl (Enc.erase_enc (x_2 : (List Int))) (ta_cons (v := (ji 0)) rfl rfl rfl (ta_cons (v := (ji (w64 (x_1.1 - 1)))) h14 rfl rfl ta_nil))) (H.c124 _ _ _ _ E_r_3) H.g124 rfl rfl rfl rfl ?_)
    refine g2 10 15 (jb r_3) (h10.trans (congrArg V.bool hg6)) (rfl : (_ : V) = (jb r_3)) fun h16 => ?_
    refine gm h16 fun h17 => split_on (c := r_3) h (fun hg13 h => ?_) (fun hg13 h => ?_)
    · refine g_yes (h17.trans (congrArg V.bool hg13)) (gm h1 fun h18 => ?_)
      obtain ⟨r_4, E_r_4, h⟩ := bind_some h
      refine g_yes (h17.trans (congrArg V.bool hg13)) (g_call (m := 0) (al := false) (r := (Enc.enc (r_4 : Int))) [Enc.enc (x_2 : (List Int))] (ta_cons (v := (eL x_2)) h18 rfl (Enc.erase_enc (x_2 : (List Int))) ta_nil) (H.c93 _ _ E_r_4) H.g93 rfl rfl rfl rfl ?_)
      refine g_yes (h17.trans (congrArg V.bool hg13)) (g1 2 (.ref (.bx 2) 0 [0] (ji x_1.1)) (rfl : (_ : V) = (.ref (.bx 2) 0 [] (.agg [(ji x_1.1), (Enc.enc (x_1.2 : List (Int × Int)))]))) fun h20 => ?_)
      refine g_yes (h17.trans (congrArg V.bool hg13)) (g1 20 (ji x_1.1) h20 fun h21 => ?_)
      obtain ⟨q_5, E_q_5, h⟩ := bind_some h
      refine g_yes (h17.trans (congrArg V.bool hg13)) (gv (ji q_5) (ev_shl rfl h21 E_q_5) fun h22 => ?_)
      refine g_yes (h17.trans (congrArg V.bool hg13)) (g1 22 (ji (w64 (q_5 - 1))) h22 fun h23 => ?_)
      refine g_yes (h17.trans (congrArg V.bool hg13)) (g2 19 23 (jb (r_4 == (w64 (q_5 - 1)))) (rfl : (_ : V) = (ji r_4)) h23 fun h24 => ?_)
      refine g2 17 24 (jb (r_4 == (w64 (q_5 - 1)))) (h17.trans (congrArg V.bool hg13)) h24 fun h25 => ?_
      refine gm h25 fun h4 => gq (.nsq (.ret ?_))
      have hr := Option.some.inj h
      subst hr
      exact rrA (res_tmp h4) rfl
    refine g_no (h17.trans (congrArg V.bool hg13)) ?_
    refine g_no (h17.trans (congrArg V.bool hg13)) ?_
    refine g_no (h17.trans (congrArg V.bool hg13)) ?_
    refine g_no (h17.trans (congrArg V.bool hg13)) ?_
    refine g_no (h17.trans (congrArg V.bool hg13)) ?_
    refine g_no (h17.trans (congrArg V.bool hg13)) ?_
    refine g_no (h17.trans (congrArg V.bool hg13)) ?_
    refine g2 17 24 (jb false) (h17.trans (congrArg V.bool hg13)) (rfl : (_ : V) = (.tup [])) fun h25 => ?_
    refine gm h25 fun h4 => gq (.nsq (.ret ?_))
    have hr := Option.some.inj h
    subst hr
    exact rrA (res_tmp h4) rfl
  refine g_no (h10.trans (congrArg V.bool hg6)) ?_
  refine g_no (h10.trans (congrArg V.bool hg6)) ?_
  refine g_no (h10.trans (congrArg V.bool hg6)) ?_
  refine g_no (h10.trans (congrArg V.bool hg6)) ?_
  refine g_no (h10.trans (congrArg V.bool hg6)) ?_
  refine g2 10 15 (jb false) (h10.trans (congrArg V.bool hg6)) (rfl : (_ : V) = (.tup [])) fun h16 => ?_
  refine gm h16 fun h17 => g_no h17 ?_
  refine g_no h17 ?_
  refine g_no h17 ?_
  refine g_no h17 ?_
  refine g_no h17 ?_
  refine g_no h17 ?_
  refine g_no h17 ?_
  refine g2 17 24 (jb false) h17 (rfl : (_ : V) = (.tup [])) fun h25 => ?_
  refine gm h25 fun h4 => gq (.nsq (.ret ?_))
  have hr := Option.some.inj h
  subst hr
  exact rrA (res_tmp h4) rfl
end
def e64 (F : Nat) : Ent := ent 64 (fun (x : ((Int × (List (Int × Int))) × (List Int) × Unit)) => i_isOrder F x.1 x.2.1) (fun (r : Bool) => (Enc.enc (r : Bool))) 0 false []
theorem p64 {F : Nat} {x0 : (Int × (List (Int × Int)))} {x1 : (List Int)} {r : Bool} (h : i_isOrder F x0 x1 = some r) : (e64 F).den [Enc.enc x0, Enc.enc x1] = some (Enc.enc (r : Bool)) := ent_put (x0, x1, ()) h
theorem o64 {D : Den} {σ : Sig} {F : Nat} (hF : Fits2 Try.prog D σ) (H : H64 D σ F) : (e64 F).Ok Try.prog := by
  refine ok_of (f := 64) (show unk 64 = 64 from rfl) (fun args r h => ?_) ⟨Try.f64, Try.func64, rfl, rfl⟩
  obtain ⟨⟨x0, x1, _⟩, y, rfl, hy, rfl⟩ := da_open h
  exact contract_run hF (by kernel_rfl) Try.func64 rfl c64 (show 2 ≤ Try.f64.ntmps by decide) (t64 H x0 x1 _ ⟨rfl, rfl⟩ hy)
/- loop.example/g01109/impl.netOf -/
def A65_5 : AC := (.reg [] [((jv 28 (.fld (.t 3) 0 0))), ((jv 29 (.load .p (.t 28)))), ((jv 30 (.idxA (.t 5) (jn 1) 2 1))), ((jv 31 (.load .s (.t 30)))), ((jv 32 (.idx (.t 29) (.t 31) 1))), ((jv 33 (.load .s (.t 32)))), ((jv 34 (.idxA (.t 5) (jn 0) 2 1))), ((jv 35 (.load .s (.t 34)))), ((jv 36 (.bin .shl (jn 1) (.t 35)))), ((jv 37 (.bin .or (.t 33) (.t 36)))), ((jv 38 (.idx (.t 29) (.t 31) 1))), (.mk none none false (.store .s (.t 38) (.t 37)))] [])
def A65_4 : AC := (.seq (.reg [] [((jv 17 (.fld (.t 3) 0 0))), ((jv 18 (.load .p (.t 17)))), ((jv 19 (.idxA (.t 5) (jn 0) 2 1))), ((jv 20 (.load .s (.t 19)))), ((jv 21 (.idx (.t 18) (.t 20) 1))), ((jv 22 (.load .s (.t 21)))), ((jv 23 (.idxA (.t 5) (jn 1) 2 1))), ((jv 24 (.load .s (.t 23)))), ((jv 25 (.bin .shl (jn 1) (.t 24)))), ((jv 26 (.bin .or (.t 22) (.t 25)))), ((jv 27 (.idx (.t 18) (.t 20) 1))), (.mk none none false (.store .s (.t 27) (.t 26)))] []) A65_5)
def A65_6 : AC := (.reg [] [((jv 39 (.bin .add (.t 13) (jn 1)))), (jm 13 39)] [])
def A65_3 : AC := (.seq (.block 1 (.seq (.reg [.clr [5]] [((jv 15 (.idx (.t 11) (.t 13) 2))), ((jv 16 (.load (.ag [.s, .s]) (.t 15)))), (.mk (some 5) none false (.alloc (.agg [(.int .i64 (.ofNat 0)), (.int .i64 (.ofNat 0))]))), (.mk none none false (.store (.ag [.s, .s]) (.t 5) (.t 16)))] []) A65_4)) A65_6)
def A65_2 : AC := (.seq (.cond (.t 14) .skip (.exit 0)) A65_3)
def A65_1 : AC := (.seq (.reg [] [((jv 14 (.bin .lss (.t 13) (.t 12))))] []) A65_2)
def A65_7 : AC := (.seq (.reg [] [((jv 40 (.load (.ag [.p]) (.t 3)))), (.mk none none false (.store (.ag [.p]) (.t 2) (.t 40)))] []) .ret)
def A65_10 : AC := (.block 0 (.loop A65_1))
def A65_9 : AC := (.seq (.seq (.reg [] [((jv 10 (.fld (.t 1) 1 1))), ((jv 11 (.load .p (.t 10)))), ((jv 12 (.len (.t 11)))), ((jv 13 (.mov (jn 0))))] []) A65_10) A65_7)
def A65_8 : AC := (.seq (.reg [.clr [8, 3]] [((jv 6 (.fld (.t 1) 0 0))), ((jv 7 (.load .s (.t 6)))), (.mk (some 8) none false (.mk (.t 7) (.int .i64 (.ofNat 0)) (.int .i64 (.ofNat 0)))), ((jv 9 (.bld (.agg [(.sl .nl .s 0 [])]) [(0, 0, (.t 8))]))), (.mk (some 3) none false (.alloc (.agg [(.sl .nl .s 0 [])]))), (.mk none none false (.store (.ag [.p]) (.t 3) (.t 9)))] []) A65_9)
def A65 : AC := (.seq (.reg [.clr [1, 2]] [(.mk (some 1) none false (.box (.t 0))), (.mk (some 2) none false (.alloc (.agg [(.sl .nl .s 0 [])])))] []) A65_8)
def an65 : List An := [{ id := 0, pre := [.clr [1, 2]], ep := [], lin := [], sp := [] }, { id := 1, pre := [.clr [8, 3]], ep := [], lin := [], sp := [] }, { id := 4, pre := [.clr [5]], ep := [], lin := [], sp := [] }]
theorem c65 : cC Try.prog Try.f65.ntmps an65 (Try.f65.body.getD .skip) = some A65 := by kernel_rfl
structure H65 (D : Den) (σ : Sig) (F : Nat) : Prop where
  mk ::
abbrev R65 (r : (S1 (List Int))) : (Nat → V) → Prop := RR Try.prog [.cell 2 71] 0 false (Enc.enc (r : (S1 (List Int))))
section
variable {D : Den} {σ : Sig} {F : Nat} {r : (S1 (List Int))}
def i_netOf_l1 (F : Nat) (x_1 : (Int × (List (Int × Int))))  : Nat → (List Int) → Int → Option (S1 (List Int))
  | 0, _, _ => none
  | k + 1, x_10, x_11 =>
    bif decide (x_11 < (x_1.2.length : Int)) then
      (idx x_1.2 x_11).bind fun e_19 =>
      (idx x_10 e_19.1).bind fun e_20 =>
      (shlI .i64 1 e_19.2).bind fun q_21 =>
      (idx x_10 e_19.1).bind fun e_22 =>
      (idx (x_10.set e_19.1.toNat (ior .i64 e_20 q_21)) e_19.2).bind fun e_23 =>
      (shlI .i64 1 e_19.1).bind fun q_24 =>
      (idx (x_10.set e_19.1.toNat (ior .i64 e_20 q_21)) e_19.2).bind fun e_25 =>
      (i_netOf_l1 F x_1 k) ((x_10.set e_19.1.toNat (ior .i64 e_20 q_21)).set e_19.2.toNat (ior .i64 e_23 q_24)) (w64 (x_11 + 1))
    else
      some (S1.mk x_10)
theorem t_f65_l1 (H : H65 D σ F) (x_1 : (Int × (List (Int × Int))))  : ∀ (k : Nat) (x_10 : (List Int)) (x_11 : Int) (s : Nat → V), Facts [(2, (.ref (.bx 2) 0 [] (.agg [(.sl .nl (Enc.shp Int) 0 [])]))), (3, (.ref (.bx 3) 0 [] (.agg [(oI 8 [] (.of x_10))]))), (11, (Enc.enc (x_1.2 : List (Int × Int)))), (12, (ji (x_1.2.length : Int))), (13, (ji x_11))] s → i_netOf_l1 F x_1 k x_10 x_11 = some r → Run D σ (R65 r) (.run A65_1 [.lp A65_1, .bk 0, .sq A65_7]) s := by
  intro k
  induction k with
  | zero => intro x_10 x_11 s _ h; exact nomatch (h : (none : Option _) = some r)
  | succ k ih =>
    intro x_10 x_11 s hs h
    rw [i_netOf_l1] at h
    obtain ⟨h2, h3, h11, h12, h13⟩ := hs
    refine .seq (rg (g2 13 12 (jb (decide (x_11 < (x_1.2.length : Int)))) h13 h12 fun h14 => ?_))
    refine gq (.nsq (.seq (run_cond (t := decide (x_11 < (x_1.2.length : Int))) h14 h (fun h => ?_) (fun h => ?_))))
    · refine .skip (.nsq (.seq (.block (.seq (run_reg ?_)))))
      refine e_clr ?_
      refine ez [(2, _), (3, _), (5, _), (11, _), (12, _), (13, _)] ⟨(keep_clear (pk := [5]) h2 rfl (map_bx rfl (map_agg (maps_cons rfl maps_nil)))), (keep_clear (pk := [5]) h3 rfl (map_bx rfl (map_agg (maps_cons (map_encO (r := 8) (p := []) rfl rfl) maps_nil)))), (gone_clear (pk := [5]) (t := 5) rfl), (keep_clear (pk := [5]) h11 rfl me), (keep_clear (pk := [5]) h12 rfl mi), (keep_clear (pk := [5]) h13 rfl mi)⟩ ?_
      rintro s ⟨h2, h3, h5, h11, h12, h13⟩
      obtain ⟨e_19, E_e_19, h⟩ := bind_some h
      refine gv (.ref .sh 0 [] (.agg [(ji e_19.1), (ji e_19.2)])) (ev_idx (t := .sh) (lo := 0) (xs := x_1.2) h11 h13 E_e_19 rfl rfl) fun h15 => ?_
      refine g1 15 (.agg [(ji e_19.1), (ji e_19.2)]) h15 fun h16 => ?_
      refine g_alloc h5 ?_
      refine g_store (.agg [(ji e_19.1), (ji e_19.2)]) (rd_of rfl rfl) (rd_of h16 rfl) (by refine ⟨by decide, by decide, rfl, rfl, rfl, ?_⟩; first | rfl | (simp [V.toks, V.tokss, Enc.toks_enc]; done) | simp [V.toks, V.tokss, Enc.toks_enc, tok_memP]) ?_
      refine gz [(2, (.ref (.bx 2) 0 [] (.agg [(.sl .nl (Enc.shp Int) 0 [])]))), (3, (.ref (.bx 3) 0 [] (.agg [(oI 8 [] (.of x_10))]))), (5, (.ref (.bx 5) 0 [] (.agg [(ji e_19.1), (ji e_19.2)]))), (11, (Enc.enc (x_1.2 : List (Int × Int)))), (12, (ji (x_1.2.length : Int))), (13, (ji x_11))] ⟨(keep_mut h2 (mut_ref_ne rfl rfl (mut_agg (muts_cons rfl rfl)))), (keep_mut h3 (mut_ref_ne rfl rfl (mut_agg (muts_cons (mut_own_ne rfl rfl) rfl)))), (keep_mut rfl rfl), (keep_mut h11 (Enc.mut_enc _ _ _ _ (x_1.2 : List (Int × Int)))), (keep_mut h12 rfl), (keep_mut h13 rfl)⟩ ?_
      rintro s ⟨h2, h3, h5, h11, h12, h13⟩
      refine .nsq (.seq (rg (g1 3 (.ref (.bx 3) 0 [0] (oI 8 [] (.of x_10))) h3 fun h17 => ?_)))
      refine g1 17 (oI 8 [] (.of x_10)) h17 fun h18 => ?_
      refine g1 5 (.ref (.bx 5) 0 [0] (ji e_19.1)) h5 fun h19 => ?_
      refine g1 19 (ji e_19.1) h19 fun h20 => ?_
      obtain ⟨e_20, E_e_20, h⟩ := bind_some h
      refine gv (.ref (.at 8 []) e_19.1.toNat [] (ji e_20)) (ev_idxO (o := (.of x_10)) h18 h20 E_e_20 rfl) fun h21 => ?_
      refine g1 21 (ji e_20) h21 fun h22 => ?_
      refine g1 5 (.ref (.bx 5) 0 [1] (ji e_19.2)) h5 fun h23 => ?_
      refine g1 23 (ji e_19.2) h23 fun h24 => ?_
      obtain ⟨q_21, E_q_21, h⟩ := bind_some h
      refine gv (ji q_21) (ev_shl rfl h24 E_q_21) fun h25 => ?_
      refine g2 22 25 (ji (ior .i64 e_20 q_21)) h22 h25 fun h26 => ?_
      obtain ⟨e_22, E_e_22, h⟩ := bind_some h
      refine gv (.ref (.at 8 []) e_19.1.toNat [] (ji e_22)) (ev_idxO (o := (.of x_10)) h18 h20 E_e_22 rfl) fun h27 => ?_
      refine g_store (ji (ior .i64 e_20 q_21)) (rd_of h27 rfl) (rd_of h26 rfl) (by refine ⟨by decide, by decide, rfl, rfl, rfl, ?_⟩; first | rfl | (simp [V.toks, V.tokss, Enc.toks_enc]; done) | simp [V.toks, V.tokss, Enc.toks_enc, tok_memP]) ?_
      refine gz [(2, (.ref (.bx 2) 0 [] (.agg [(.sl .nl (Enc.shp Int) 0 [])]))), (3, (.ref (.bx 3) 0 [] (.agg [(oI 8 [] (.of (x_10.set e_19.1.toNat (ior .i64 e_20 q_21))))]))), (5, (.ref (.bx 5) 0 [] (.agg [(ji e_19.1), (ji e_19.2)]))), (11, (Enc.enc (x_1.2 : List (Int × Int)))), (12, (ji (x_1.2.length : Int))), (13, (ji x_11))] ⟨(keep_mut h2 (mut_ref_ne rfl rfl (mut_agg (muts_cons rfl rfl)))), (keep_mut h3 (mut_ref_ne rfl rfl (mut_agg (muts_cons mut_own rfl)))), (keep_mut h5 rfl), (keep_mut h11 (Enc.mut_enc _ _ _ _ (x_1.2 : List (Int × Int)))), (keep_mut h12 rfl), (keep_mut h13 rfl)⟩ ?_
      rintro s ⟨h2, h3, h5, h11, h12, h13⟩
      refine .nsq (rg (g1 3 (.ref (.bx 3) 0 [0] (oI 8 [] (.of (x_10.set e_19.1.toNat (ior .i64 e_20 q_21))))) h3 fun h28 => ?_))
      refine g1 28 (oI 8 [] (.of (x_10.set e_19.1.toNat (ior .i64 e_20 q_21)))) h28 fun h29 => ?_
      refine g1 5 (.ref (.bx 5) 0 [1] (ji e_19.2)) h5 fun h30 => ?_
      refine g1 30 (ji e_19.2) h30 fun h31 => ?_
      obtain ⟨e_23, E_e_23, h⟩ := bind_some h
      refine gv (.ref (.at 8 []) e_19.2.toNat [] (ji e_23)) (ev_idxO (o := (.of (x_10.set e_19.1.toNat (ior .i64 e_20 q_21)))) h29 h31 E_e_23 rfl) fun h32 => ?_
      refine g1 32 (ji e_23) h32 fun h33 => ?_
      refine g1 5 (.ref (.bx 5) 0 [0] (ji e_19.1)) h5 fun h34 => ?_
      refine g1 34 (ji e_19.1) h34 fun h35 => ?_
      obtain ⟨q_24, E_q_24, h⟩ := bind_some h
      refine gv (ji q_24) (ev_shl rfl h35 E_q_24) fun h36 => ?_
      refine g2 33 36 (ji (ior .i64 e_23 q_24)) h33 h36 fun h37 => ?_
      obtain ⟨e_25, E_e_25, h⟩ := bind_some h
      refine gv (.ref (.at 8 []) e_19.2.toNat [] (ji e_25)) (ev_idxO (o := (.of (x_10.set e_19.1.toNat (ior .i64 e_20 q_21)))) h29 h31 E_e_25 rfl) fun h38 => ?_
      refine g_store (ji (ior .i64 e_23 q_24)) (rd_of h38 rfl) (rd_of h37 rfl) (by refine ⟨by decide, by decide, rfl, rfl, rfl, ?_⟩; first | rfl | (simp [V.toks, V.tokss, Enc.toks_enc]; done) | simp [V.toks, V.tokss, Enc.toks_enc, tok_memP]) ?_
      refine gz [(2, (.ref (.bx 2) 0 [] (.agg [(.sl .nl (Enc.shp Int) 0 [])]))), (3, (.ref (.bx 3) 0 [] (.agg [(oI 8 [] (.of ((x_10.set e_19.1.toNat (ior .i64 e_20 q_21)).set e_19.2.toNat (ior .i64 e_23 q_24))))]))), (11, (Enc.enc (x_1.2 : List (Int × Int)))), (12, (ji (x_1.2.length : Int))), (13, (ji x_11))] ⟨(keep_mut h2 (mut_ref_ne rfl rfl (mut_agg (muts_cons rfl rfl)))), (keep_mut h3 (mut_ref_ne rfl rfl (mut_agg (muts_cons mut_own rfl)))), (keep_mut h11 (Enc.mut_enc _ _ _ _ (x_1.2 : List (Int × Int)))), (keep_mut h12 rfl), (keep_mut h13 rfl)⟩ ?_
      rintro s ⟨h2, h3, h11, h12, h13⟩
      refine .nbk (.nsq (rg (g1 13 (ji (w64 (x_11 + 1))) h13 fun h39 => ?_)))
      refine gm h39 fun h13 => gq (.nlp ?_)
      exact ih ((x_10.set e_19.1.toNat (ior .i64 e_20 q_21)).set e_19.2.toNat (ior .i64 e_23 q_24)) (w64 (x_11 + 1)) _ ⟨h2, h3, h11, h12, h13⟩ h
    refine .exit (.esq (.elp (.ebk (.nsq (.seq (rg (g1 3 (.agg [(oI 8 [] (.of x_10))]) h3 fun h40 => ?_)))))))
    refine g_store (.agg [(oI 8 [] (.of x_10))]) (rd_of h2 rfl) (rd_of h40 rfl) (by refine ⟨by decide, by decide, rfl, rfl, rfl, ?_⟩; first | rfl | (simp [V.toks, V.tokss, Enc.toks_enc]; done) | simp [V.toks, V.tokss, Enc.toks_enc, tok_memP]) ?_
    refine gz [(2, (.ref (.bx 2) 0 [] (.agg [(oI 8 [] (.of x_10))])))] (keep_mut h2 rfl) ?_
    rintro s h2
    refine .nsq (.ret ?_)
    have hr := Option.some.inj h
    subst hr
    exact rrA (res_cell h2 (by kernel_rfl)) (fin_retF (fin_agg (fins_cons (fin_own (o := .of x_10)) fins_nil)) (mine_agg (mines_cons (mine_own rfl) mines_nil)))
def i_netOf (F : Nat) (x_1 : (Int × (List (Int × Int)))) : Option (S1 (List Int)) :=
  (mkN x_1.1 (0 : Int)).bind fun mk_2 =>
  i_netOf_l1 F x_1 F mk_2 0
theorem t65 (H : H65 D σ F) (x_1 : (Int × (List (Int × Int)))) (s : Nat → V) (hs : Facts [(0, (.agg [(ji x_1.1), (Enc.enc (x_1.2 : List (Int × Int)))]))] s) (h : i_netOf F x_1 = some r) : Run D σ (R65 r) (.run A65 []) s := by
  unfold i_netOf at h
  have h0 := hs
  refine .seq (run_reg ?_)
  refine e_clr ?_
  refine ez [(0, _), (1, _), (2, _)] ⟨(keep_clear (pk := [1, 2]) h0 rfl (map_agg (maps_cons mi (maps_cons me maps_nil)))), (gone_clear (pk := [1, 2]) (t := 1) rfl), (gone_clear (pk := [1, 2]) (t := 2) rfl)⟩ ?_
  rintro s ⟨h0, h1, h2⟩
  refine g_box (.agg [(ji x_1.1), (Enc.enc (x_1.2 : List (Int × Int)))]) (rd_of h0 rfl) h1 rfl ?_
  refine g_alloc h2 ?_
  refine gq (.nsq (.seq (run_reg ?_)))
  refine e_clr ?_
  refine ez [(1, _), (2, _), (3, _), (8, _)] ⟨(keep_clear (pk := [8, 3]) rfl rfl (map_bx rfl (map_agg (maps_cons mi (maps_cons me maps_nil))))), (keep_clear (pk := [8, 3]) rfl rfl (map_bx rfl (map_agg (maps_cons rfl maps_nil)))), (gone_clear (pk := [8, 3]) (t := 3) rfl), (gone_clear (pk := [8, 3]) (t := 8) rfl)⟩ ?_
  rintro s ⟨h1, h2, h3, h8⟩
  refine g1 1 (.ref (.bx 1) 0 [0] (ji x_1.1)) h1 fun h6 => ?_
  refine g1 6 (ji x_1.1) h6 fun h7 => ?_
  obtain ⟨mk_2, E_mk_2, h⟩ := bind_some h
  refine g_mk (0 : Int) h7 rfl h8 E_mk_2 ?_
  refine g1 8 (.agg [(oI 8 [] (.of mk_2))]) (rfl : (_ : V) = (oI 8 [] (.of mk_2))) fun h9 => ?_
  refine g_alloc h3 ?_
  refine g_store (.agg [(oI 8 [] (.of mk_2))]) (rd_of rfl rfl) (rd_of h9 rfl) (by refine ⟨by decide, by decide, rfl, rfl, rfl, ?_⟩; first | rfl | (simp [V.toks, V.tokss, Enc.toks_enc]; done) | simp [V.toks, V.tokss, Enc.toks_enc, tok_memP]) ?_
  refine gz [(1, (.ref (.bx 1) 0 [] (.agg [(ji x_1.1), (Enc.enc (x_1.2 : List (Int × Int)))]))), (2, (.ref (.bx 2) 0 [] (.agg [(.sl .nl (Enc.shp Int) 0 [])]))), (3, (.ref (.bx 3) 0 [] (.agg [(oI 8 [] (.of mk_2))])))] ⟨(keep_mut h1 (mut_ref_ne rfl rfl (mut_agg (muts_cons rfl (muts_cons (Enc.mut_enc _ _ _ _ (x_1.2 : List (Int × Int))) rfl))))), (keep_mut h2 (mut_ref_ne rfl rfl (mut_agg (muts_cons rfl rfl)))), (keep_mut rfl rfl)⟩ ?_
  rintro s ⟨h1, h2, h3⟩
  refine .nsq (.seq (.seq (rg (g1 1 (.ref (.bx 1) 0 [1] (Enc.enc (x_1.2 : List (Int × Int)))) h1 fun h10 => ?_))))
  refine g1 10 (Enc.enc (x_1.2 : List (Int × Int))) h10 fun h11 => ?_
  refine gv (ji (x_1.2.length : Int)) (ev_len (xs := x_1.2) h11) fun h12 => ?_
  refine g0 (ji 0) fun h13 => gq (.nsq (.block (.loop ?_)))
  exact t_f65_l1 H x_1 F mk_2 0 _ ⟨h2, h3, h11, h12, h13⟩ h
end
def e65 (F : Nat) : Ent := ent 65 (fun (x : ((Int × (List (Int × Int))) × Unit)) => i_netOf F x.1) (fun (r : (S1 (List Int))) => (Enc.enc (r : (S1 (List Int))))) 0 false []
theorem p65 {F : Nat} {x0 : (Int × (List (Int × Int)))} {r : (S1 (List Int))} (h : i_netOf F x0 = some r) : (e65 F).den [Enc.enc x0] = some (Enc.enc (r : (S1 (List Int)))) := ent_put (x0, ()) h
theorem o65 {D : Den} {σ : Sig} {F : Nat} (hF : Fits2 Try.prog D σ) (H : H65 D σ F) : (e65 F).Ok Try.prog := by
  refine ok_of (f := 65) (show unk 65 = 65 from rfl) (fun args r h => ?_) ⟨Try.f65, Try.func65, rfl, rfl⟩
  obtain ⟨⟨x0, _⟩, y, rfl, hy, rfl⟩ := da_open h
  exact contract_run hF (by kernel_rfl) Try.func65 rfl c65 (show 1 ≤ Try.f65.ntmps by decide) (t65 H x0 _ rfl hy)
/- (loop.example/g01109/impl.net).all -/
def A113_1 : AC := (.seq (.reg [] [((jv 3 (.fld (.t 1) 0 0))), ((jv 4 (.load .p (.t 3)))), ((jv 5 (.len (.t 4)))), ((jv 6 (.bin .shl (jn 1) (.t 5)))), ((jv 7 (.bin .sub (.t 6) (jn 1)))), (jm 2 7)] []) .ret)
def A113 : AC := (.seq (.reg [.clr [1]] [(.mk (some 1) none false (.box (.t 0))), ((jv 2 (.mov (jn 0))))] []) A113_1)
def an113 : List An := [{ id := 0, pre := [.clr [1]], ep := [], lin := [], sp := [] }]
theorem c113 : cC Try.prog Try.f113.ntmps an113 (Try.f113.body.getD .skip) = some A113 := by kernel_rfl
structure H113 (D : Den) (σ : Sig) (F : Nat) : Prop where
  mk ::
abbrev R113 (r : Int) : (Nat → V) → Prop := RR Try.prog [.tmp 2] 0 false (Enc.enc (r : Int))
section
variable {D : Den} {σ : Sig} {F : Nat} {r : Int}
def i_net_all (F : Nat) (x_1 : (S1 (List Int))) : Option Int :=
  (shlI .i64 1 (x_1.a.length : Int)).bind fun q_2 =>
  some (w64 (q_2 - 1))
theorem t113 (H : H113 D σ F) (x_1 : (S1 (List Int))) (s : Nat → V) (hs : Facts [(0, (.agg [(eL x_1.a)]))] s) (h : i_net_all F x_1 = some r) : Run D σ (R113 r) (.run A113 []) s := by
  unfold i_net_all at h
  have h0 := hs
  refine .seq (run_reg ?_)
  refine e_clr ?_
  refine ez [(0, _), (1, _)] ⟨(keep_clear (pk := [1]) h0 rfl (map_agg (maps_cons me maps_nil))), (gone_clear (pk := [1]) (t := 1) rfl)⟩ ?_
  rintro s ⟨h0, h1⟩
  refine g_box (.agg [(eL x_1.a)]) (rd_of h0 rfl) h1 rfl ?_
  refine g0 (ji 0) fun h2 => gq (.nsq (.seq (rg (g1 1 (.ref (.bx 1) 0 [0] (eL x_1.a)) (rfl : (_ : V) = (.ref (.bx 1) 0 [] (.agg [(eL x_1.a)]))) fun h3 => ?_))))
  refine g1 3 (eL x_1.a) h3 fun h4 => ?_
  refine gv (ji (x_1.a.length : Int)) (ev_len (xs := x_1.a) h4) fun h5 => ?_
  obtain ⟨q_2, E_q_2, h⟩ := bind_some h
  refine gv (ji q_2) (ev_shl rfl h5 E_q_2) fun h6 => ?_
  refine g1 6 (ji (w64 (q_2 - 1))) h6 fun h7 => ?_
  refine gm h7 fun h2 => gq (.nsq (.ret ?_))
  have hr := Option.some.inj h
  subst hr
  exact rrA (res_tmp h2) rfl
end
def e113 (F : Nat) : Ent := ent 113 (fun (x : ((S1 (List Int)) × Unit)) => i_net_all F x.1) (fun (r : Int) => (Enc.enc (r : Int))) 0 false []
theorem p113 {F : Nat} {x0 : (S1 (List Int))} {r : Int} (h : i_net_all F x0 = some r) : (e113 F).den [Enc.enc x0] = some (Enc.enc (r : Int)) := ent_put (x0, ()) h
theorem o113 {D : Den} {σ : Sig} {F : Nat} (hF : Fits2 Try.prog D σ) (H : H113 D σ F) : (e113 F).Ok Try.prog := by
  refine ok_of (f := 113) (show unk 113 = 113 from rfl) (fun args r h => ?_) ⟨Try.f113, Try.func113, rfl, rfl⟩
  obtain ⟨⟨x0, _⟩, y, rfl, hy, rfl⟩ := da_open h
  exact contract_run hF (by kernel_rfl) Try.func113 rfl c113 (show 1 ≤ Try.f113.ntmps by decide) (t113 H x0 _ rfl hy)
/- loop.example/g01109/impl.setOf -/
def A83_2 : AC := (.cond (.t 8) .skip (.exit 0))
def A83_4 : AC := (.cond (.t 15) (.reg [.clr [18, 19]] [(jm 16 3), (jm 17 4), (.mk (some 18) none false (.lit (.int .i64 (.ofNat 0)) 1 [(0, 0, (.t 17))])), (.mk (some 19) none false (.app .s (.t 16) (.t 18))), (jm 3 19)] [.home 19 3]) .skip)
def A83_5 : AC := (.reg [] [(jm 9 4), ((jv 10 (.bin .add (.t 9) (jn 1)))), (jm 4 10)] [])
def A83_3 : AC := (.seq (.block 1 (.seq (.reg [] [(jm 11 0), (jm 12 4), ((jv 13 (.bin .shr (.t 11) (.t 12)))), ((jv 14 (.bin .and (.t 13) (jn 1)))), ((jv 15 (.bin .eql (.t 14) (jn 1))))] []) A83_4)) A83_5)
def A83_1 : AC := (.seq (.seq (.reg [] [(jm 5 0), (jm 6 4), ((jv 7 (.bin .shr (.t 5) (.t 6)))), ((jv 8 (.bin .neq (.t 7) (jn 0))))] []) A83_2) A83_3)
def A83_6 : AC := (.seq (.reg [] [(jm 20 3), (jm 2 20)] [.home 3 2]) .ret)
def A83_9 : AC := (.block 0 (.loop A83_1))
def A83_8 : AC := (.seq (.seq (.reg [] [((jv 4 (.mov (jn 0))))] []) A83_9) A83_6)
def A83_7 : AC := (.seq (.reg [] [((jv 3 (.mov (.k (.sl .nl .s 0 [])))))] []) A83_8)
def A83 : AC := (.seq (.reg [] [((jv 2 (.mov (.k (.sl .nl .s 0 [])))))] []) A83_7)
def an83 : List An := [{ id := 6, pre := [.clr [18, 19]], ep := [.home 19 3], lin := [], sp := [] }, { id := 7, pre := [], ep := [.home 3 2], lin := [], sp := [] }]
theorem c83 : cC Try.prog Try.f83.ntmps an83 (Try.f83.body.getD .skip) = some A83 := by kernel_rfl
structure H83 (D : Den) (σ : Sig) (F : Nat) : Prop where
  mk ::
abbrev R83 (r : (List Int)) : (Nat → V) → Prop := RR Try.prog [.tmp 2] 0 false (Enc.enc (r : (List Int)))
section
variable {D : Den} {σ : Sig} {F : Nat} {r : (List Int)}
def i_setOf_j1 (F : Nat) (x_1 : Int) (x_8 : Int) (c1 : (NL Int) → Int → Option (List Int)) (x_17 : (NL Int)) : Option (List Int) :=
  c1 x_17 (w64 (x_8 + 1))
theorem t_f83_j1 (H : H83 D σ F) (x_1 : Int) (x_8 : Int) (c1 : (NL Int) → Int → Option (List Int)) (Hc1 : ∀ (x_7 : (NL Int)) (x_8 : Int) (s : Nat → V), Facts [(0, (ji x_1)), (2, (.sl .nl (Enc.shp Int) 0 [])), (3, (oI 3 [] x_7)), (4, (ji x_8))] s → c1 x_7 x_8 = some r → Run D σ (R83 r) (.run A83_1 [.lp A83_1, .bk 0, .sq A83_6]) s) (x_17 : (NL Int)) (s : Nat → V) (hs : Facts [(0, (ji x_1)), (2, (.sl .nl (Enc.shp Int) 0 [])), (3, (oI 3 [] x_17)), (4, (ji x_8))] s) (h : i_setOf_j1 F x_1 x_8 c1 x_17 = some r) : Run D σ (R83 r) (.nrm [.bk 1, .sq A83_5, .lp A83_1, .bk 0, .sq A83_6]) s := by
  unfold i_setOf_j1 at h
  obtain ⟨h0, h2, h3, h4⟩ := hs
  refine .nbk (.nsq (rg (gm h4 fun h9 => g1 9 (ji (w64 (x_8 + 1))) h9 fun h10 => ?_)))
  refine gm h10 fun h4 => gq (.nlp ?_)
  exact Hc1 x_17 (w64 (x_8 + 1)) _ ⟨h0, h2, h3, h4⟩ h
def i_setOf_l1 (F : Nat) (x_1 : Int)  : Nat → (NL Int) → Int → Option (List Int)
  | 0, _, _ => none
  | k + 1, x_7, x_8 =>
    (shrI .i64 x_1 x_8).bind fun q_14 =>
    bif (q_14 != 0) then
      (shrI .i64 x_1 x_8).bind fun q_15 =>
      bif ((iand .i64 q_15 1) == 1) then
        (appL x_7.list [x_8]).bind fun ap_18 =>
        i_setOf_j1 F x_1 x_8 (i_setOf_l1 F x_1 k) (.of ap_18)
      else
        i_setOf_j1 F x_1 x_8 (i_setOf_l1 F x_1 k) x_7
    else
      some x_7.list
theorem t_f83_l1 (H : H83 D σ F) (x_1 : Int)  : ∀ (k : Nat) (x_7 : (NL Int)) (x_8 : Int) (s : Nat → V), Facts [(0, (ji x_1)), (2, (.sl .nl (Enc.shp Int) 0 [])), (3, (oI 3 [] x_7)), (4, (ji x_8))] s → i_setOf_l1 F x_1 k x_7 x_8 = some r → Run D σ (R83 r) (.run A83_1 [.lp A83_1, .bk 0, .sq A83_6]) s := by
  intro k
  induction k with
  | zero => intro x_7 x_8 s _ h; exact nomatch (h : (none : Option _) = some r)
  | succ k ih =>
    intro x_7 x_8 s hs h
    rw [i_setOf_l1] at h
    obtain ⟨h0, h2, h3, h4⟩ := hs
    refine .seq (.seq (rg (gm h0 fun h5 => gm h4 fun h6 => ?_)))
    obtain ⟨q_14, E_q_14, h⟩ := bind_some h
    refine gv (ji q_14) (ev_shr h5 h6 E_q_14) fun h7 => ?_
    refine g1 7 (jb (q_14 != 0)) h7 fun h8 => ?_
    refine gq (.nsq (run_cond (t := (q_14 != 0)) h8 h (fun h => ?_) (fun h => ?_)))
    · refine .skip (.nsq (.seq (.block (.seq (rg (gm h0 fun h11 => gm h4 fun h12 => ?_))))))
      obtain ⟨q_15, E_q_15, h⟩ := bind_some h
      refine gv (ji q_15) (ev_shr h11 h12 E_q_15) fun h13 => ?_
      refine g1 13 (ji (iand .i64 q_15 1)) h13 fun h14 => ?_
      refine g1 14 (jb ((iand .i64 q_15 1) == 1)) h14 fun h15 => ?_
      refine gq (.nsq (run_cond (t := ((iand .i64 q_15 1) == 1)) h15 h (fun h => ?_) (fun h => ?_)))
      · refine run_reg ?_
        refine e_clr ?_
        refine ez [(0, _), (2, _), (3, _), (4, _), (18, _), (19, _)] ⟨(keep_clear (pk := [18, 19]) h0 rfl mi), (keep_clear (pk := [18, 19]) h2 rfl rfl), (keep_clear (pk := [18, 19]) h3 rfl (map_encO (r := 3) (p := []) rfl rfl)), (keep_clear (pk := [18, 19]) h4 rfl mi), (gone_clear (pk := [18, 19]) (t := 18) rfl), (gone_clear (pk := [18, 19]) (t := 19) rfl)⟩ ?_
        rintro s ⟨h0, h2, h3, h4, h18, h19⟩
        refine gv (oI 3 [] x_7) (ev_mov h3 ok_encO) fun h16 => ?_
        refine gm h4 fun h17 => g_litL [(17, (ji x_8))] [Enc.enc (x_8 : Int)] h17 rfl rfl h18 ?_
        obtain ⟨ap_18, E_ap_18, h⟩ := bind_some h
        refine g_app (q := 3) (p := []) (o := (x_7 : NL Int)) (ys := ([x_8] : List Int)) (t2 := (.at 18 [])) (lo2 := 0) h16 rfl rfl h19 (appN_L (o := (x_7 : NL Int)) E_ap_18 (by split <;> simp)) (fun s_17 ha_17 => ?_)
        refine gm (rfl : (_ : V) = (oI 19 [] (.of ap_18))) fun h3 => ?_
        refine g_end ?_
        refine e_home (r := 19) (x := 3) (v := _) h3 rfl (fun s_18 hg_18 => ?_)
        refine ez [(0, (ji x_1)), (2, (.sl .nl (Enc.shp Int) 0 [])), (3, (oI 3 [] (.of ap_18))), (4, (ji x_8))] ⟨(hg_18 0 _ _ (show s_17 0 = (ji x_1) from keep_app ha_17 h0 mi) mi), (hg_18 2 _ (.sl .nl (Enc.shp Int) 0 []) (show s_17 2 = (.sl .nl (Enc.shp Int) 0 []) from keep_app ha_17 h2 rfl) rfl), (hg_18 3 _ _ h3 (map_encO (r := 19) (p := []) rfl rfl)), (hg_18 4 _ _ (show s_17 4 = (ji x_8) from keep_app ha_17 h4 mi) mi)⟩ ?_
        rintro s ⟨h0, h2, h3, h4⟩
        exact t_f83_j1 H x_1 x_8 (i_setOf_l1 F x_1 k) ih (.of ap_18) _ ⟨h0, h2, h3, h4⟩ h
      refine .skip ?_
      exact t_f83_j1 H x_1 x_8 (i_setOf_l1 F x_1 k) ih x_7 _ ⟨h0, h2, h3, h4⟩ h
    refine .exit (.esq (.elp (.ebk (.nsq (.seq (rg (gv (oI 3 [] x_7) (ev_mov h3 ok_encO) fun h20 => ?_)))))))
    refine gv (oI 3 [] x_7) (ev_mov h20 ok_encO) fun h2 => ?_
    refine g_end ?_
    refine e_home (r := 3) (x := 2) (v := _) h2 ok_encO (fun s_19 hg_19 => ?_)
    refine ez [(2, (oI 2 [] x_7))] (hg_19 2 _ _ h2 (map_encO (r := 3) (p := []) rfl rfl)) ?_
    rintro s h2
    refine .nsq (.ret ?_)
    have hr := Option.some.inj h
    subst hr
    exact rrA (res_tmp h2) (fin_retF (fin_own (o := x_7)) (mine_own rfl))
def i_setOf (F : Nat) (x_1 : Int) : Option (List Int) :=
  i_setOf_l1 F x_1 F .nil 0
theorem t83 (H : H83 D σ F) (x_1 : Int) (s : Nat → V) (hs : Facts [(0, (ji x_1))] s) (h : i_setOf F x_1 = some r) : Run D σ (R83 r) (.run A83 []) s := by
  unfold i_setOf at h
  have h0 := hs
  refine .seq (rg (g0 (.sl .nl (Enc.shp Int) 0 []) fun h2 => ?_))
  refine gq (.nsq (.seq (rg (g0 (.sl .nl (Enc.shp Int) 0 []) fun h3 => ?_))))
  refine gq (.nsq (.seq (.seq (rg (g0 (ji 0) fun h4 => gq (.nsq (.block (.loop ?_))))))))
  exact t_f83_l1 H x_1 F .nil 0 _ ⟨h0, h2, h3, h4⟩ h
end
def e83 (F : Nat) : Ent := ent 83 (fun (x : (Int × Unit)) => i_setOf F x.1) (fun (r : (List Int)) => (Enc.enc (r : (List Int)))) 0 false []
theorem p83 {F : Nat} {x0 : Int} {r : (List Int)} (h : i_setOf F x0 = some r) : (e83 F).den [Enc.enc x0] = some (Enc.enc (r : (List Int))) := ent_put (x0, ()) h
theorem o83 {D : Den} {σ : Sig} {F : Nat} (hF : Fits2 Try.prog D σ) (H : H83 D σ F) : (e83 F).Ok Try.prog := by
  refine ok_of (f := 83) (show unk 83 = 83 from rfl) (fun args r h => ?_) ⟨Try.f83, Try.func83, rfl, rfl⟩
  obtain ⟨⟨x0, _⟩, y, rfl, hy, rfl⟩ := da_open h
  exact contract_run hF (by kernel_rfl) Try.func83 rfl c83 (show 1 ≤ Try.f83.ntmps by decide) (t83 H x0 _ rfl hy)
/- slices.Clone[[]int,int] -/
shelf_lay Lays2.n15 Nm2 15 at Try as Lay170o
structure H170o (D : Den) (σ : Sig) (F : Nat) : Prop where
  mk ::
def slices_Clone_o (F : Nat) (s_1 : (List Int)) : Option (NL Int) :=
  cloneO s_1
def e170o (F : Nat) : Ent := ent 1000000170 (fun (x : ((List Int) × Unit)) => slices_Clone_o F x.1) (fun (r : (NL Int)) => (encO .sh (r : NL Int))) 1 false []
theorem p170o {F : Nat} {x0 : (List Int)} {r : (NL Int)} (h : slices_Clone_o F x0 = some r) : (e170o F).den [Enc.enc x0] = some (encO .sh (r : NL Int)) := da_put (f := fun (x : ((List Int) × Unit)) => slices_Clone_o F x.1) (t := fun (r : (NL Int)) => (encO .sh (r : NL Int))) (x0, ()) h
theorem o170o {D : Den} {σ : Sig} {F : Nat} (hF : Fits2 Try.prog D σ) (H : H170o D σ F) : (e170o F).Ok Try.prog := by
  refine ok_of (f := 170) (show unk 1000000170 = 170 from rfl) (fun args r h => ?_) ⟨Try.f170, Try.func170, rfl, rfl⟩
  obtain ⟨⟨x0, _⟩, y, rfl, hy, rfl⟩ := da_open h
  exact con_plain (f := 170) (clone_conO Lay170o hy) rfl
/- (loop.example/g01109/impl.net).clone -/
def A125o_1 : AC := (.seq (.reg [.clr [5]] [((jv 3 (.fld (.t 1) 0 0))), ((jv 4 (.load .p (.t 3)))), (.mk (some 5) none false (.callO (.k (.fn 170 [] [])) [(.t 4)])), ((jv 6 (.bld (.agg [(.sl .nl .s 0 [])]) [(0, 0, (.t 5))]))), (.mk none none false (.store (.ag [.p]) (.t 2) (.t 6)))] []) .ret)
def A125o : AC := (.seq (.reg [.clr [1, 2]] [(.mk (some 1) none false (.box (.t 0))), (.mk (some 2) none false (.alloc (.agg [(.sl .nl .s 0 [])])))] []) A125o_1)
def an125o : List An := [{ id := 0, pre := [.clr [1, 2]], ep := [], lin := [], sp := [] }, { id := 1, pre := [.clr [5]], ep := [], lin := [], sp := [1002] }]
theorem c125o : cC Try.prog Try.f125.ntmps an125o (Try.f125.body.getD .skip) = some A125o := by kernel_rfl
structure H125o (D : Den) (σ : Sig) (F : Nat) : Prop where
  c170o : ∀ (x0 : (List Int)) r, slices_Clone_o F x0 = some r → D 1000000170 [Enc.enc x0] = some (encO .sh (r : NL Int))
  g170o : σ 1000000170 = some (1, false)
abbrev R125o (r : (S1 (NL Int))) : (Nat → V) → Prop := RR Try.prog [.cell 2 71] 1 false (.agg [(encO .sh (r.a : NL Int))])
section
variable {D : Den} {σ : Sig} {F : Nat} {r : (S1 (NL Int))}
def i_net_clone_o (F : Nat) (x_1 : (S1 (List Int))) : Option (S1 (NL Int)) :=
  (slices_Clone_o F x_1.a).bind fun r_2 =>
  some (S1.mk r_2)
theorem t125o (H : H125o D σ F) (x_1 : (S1 (List Int))) (s : Nat → V) (hs : Facts [(0, (.agg [(eL x_1.a)]))] s) (h : i_net_clone_o F x_1 = some r) : Run D σ (R125o r) (.run A125o []) s := by
  unfold i_net_clone_o at h
  have h0 := hs
  refine .seq (run_reg ?_)
  refine e_clr ?_
  refine ez [(0, _), (1, _), (2, _)] ⟨(keep_clear (pk := [1, 2]) h0 rfl (map_agg (maps_cons me maps_nil))), (gone_clear (pk := [1, 2]) (t := 1) rfl), (gone_clear (pk := [1, 2]) (t := 2) rfl)⟩ ?_
  rintro s ⟨h0, h1, h2⟩
  refine g_box (.agg [(eL x_1.a)]) (rd_of h0 rfl) h1 rfl ?_
  refine g_alloc h2 ?_
  refine gq (.nsq (.seq (run_reg ?_)))
  refine e_clr ?_
  refine ez [(1, _), (2, _), (5, _)] ⟨(keep_clear (pk := [5]) rfl rfl (map_bx rfl (map_agg (maps_cons me maps_nil)))), (keep_clear (pk := [5]) rfl rfl (map_bx rfl (map_agg (maps_cons rfl maps_nil)))), (gone_clear (pk := [5]) (t := 5) rfl)⟩ ?_
  rintro s ⟨h1, h2, h5⟩
  refine g1 1 (.ref (.bx 1) 0 [0] (eL x_1.a)) h1 fun h3 => ?_
  refine g1 3 (eL x_1.a) h3 fun h4 => ?_
  obtain ⟨r_2, E_r_2, h⟩ := bind_some h
  refine g_callO (m := 1) (al := false) (r := (encO .sh (r_2 : NL Int))) (v := (oI 5 [] r_2)) (kk := 1000000170) [Enc.enc (x_1.a : (List Int))] (ta_cons (v := (eL x_1.a)) h4 rfl (Enc.erase_enc (x_1.a : (List Int))) ta_nil) (H.c170o _ _ E_r_2) H.g170o rfl toks_encS tag_encO ok_encP h5 ?_
  refine gv (.agg [(oI 5 [] r_2)]) (ev_bldN rfl) fun h6 => ?_
  refine g_store (.agg [(oI 5 [] r_2)]) (rd_of h2 rfl) (rd_of h6 rfl) ⟨by decide, by decide, rfl, (by simp [V.shape, V.shapes, shape_encP, Sh.beq, Sh.beqs]), (by simp [V.shape, V.shapes, shape_encP, Sh.beq, Sh.beqs]), (by simp [V.toks, V.tokss, tok_memP])⟩ ?_
  refine gz [(2, (.ref (.bx 2) 0 [] (.agg [(oI 5 [] r_2)])))] (keep_mut h2 rfl) ?_
  rintro s h2
  refine .nsq (.ret ?_)
  have hr := Option.some.inj h
  subst hr
  exact rrA (res_cell h2 (by simp only [V.shape, V.shapes, shape_encP]; kernel_rfl)) (fin_retO (finO_agg (finOs_cons (finO_own (o := (r_2 : NL Int))) finOs_nil)) rfl (mine_agg (mines_cons (mine_own rfl) mines_nil)))
end
def e125o (F : Nat) : Ent := ent 1000000125 (fun (x : ((S1 (List Int)) × Unit)) => i_net_clone_o F x.1) (fun (r : (S1 (NL Int))) => (.agg [(encO .sh (r.a : NL Int))])) 1 false []
theorem p125o {F : Nat} {x0 : (S1 (List Int))} {r : (S1 (NL Int))} (h : i_net_clone_o F x0 = some r) : (e125o F).den [Enc.enc x0] = some (.agg [(encO .sh (r.a : NL Int))]) := ent_put (x0, ()) h
theorem o125o {D : Den} {σ : Sig} {F : Nat} (hF : Fits2 Try.prog D σ) (H : H125o D σ F) : (e125o F).Ok Try.prog := by
  refine ok_of (f := 125) (show unk 1000000125 = 125 from rfl) (fun args r h => ?_) ⟨Try.f125, Try.func125, rfl, rfl⟩
  obtain ⟨⟨x0, _⟩, y, rfl, hy, rfl⟩ := da_open h
  exact contract_run hF (by kernel_rfl) Try.func125 rfl c125o (show 1 ≤ Try.f125.ntmps by decide) (t125o H x0 _ rfl hy)
/- (loop.example/g01109/impl.net).filling -/
def A66_11 : AC := (.reg [] [((jv 40 (.fld (.t 5) 0 0))), ((jv 41 (.load .p (.t 40)))), (jm 42 11), ((jv 43 (.idx (.t 41) (.t 42) 1))), ((jv 44 (.load .s (.t 43)))), (jm 45 9), (jm 46 11), ((jv 47 (.bin .shl (jn 1) (.t 46)))), ((jv 48 (.bin .andNot (.t 45) (.t 47)))), ((jv 49 (.bin .or (.t 44) (.t 48)))), ((jv 50 (.idx (.t 41) (.t 42) 1))), (.mk none none false (.store .s (.t 50) (.t 49)))] [])
def A66_12 : AC := (.reg [] [((jv 51 (.bin .add (.t 36) (jn 1)))), (jm 36 51)] [])
def A66_10 : AC := (.seq (.block 3 (.seq (.reg [] [((jv 38 (.idx (.t 34) (.t 36) 1))), ((jv 39 (.load .s (.t 38)))), (jm 11 39)] []) A66_11)) A66_12)
def A66_9 : AC := (.seq (.cond (.t 37) .skip (.exit 2)) A66_10)
def A66_8 : AC := (.seq (.reg [] [((jv 37 (.bin .lss (.t 36) (.t 35))))] []) A66_9)
def A66_7 : AC := (.block 2 (.loop A66_8))
def A66_6 : AC := (.seq (.reg [] [(jm 33 9), (.mk (some 34) none false (.call (.k (.fn 83 [] [])) [(.t 33)])), ((jv 35 (.len (.t 34)))), ((jv 36 (.mov (jn 0))))] []) A66_7)
def A66_5 : AC := (.seq (.reg [] [((jv 26 (.fld (.t 5) 0 0))), ((jv 27 (.load .p (.t 26)))), (jm 28 8), ((jv 29 (.idx (.t 27) (.t 28) 1))), ((jv 30 (.load .s (.t 29)))), (jm 31 6), ((jv 32 (.bin .and (.t 30) (.t 31)))), (jm 9 32)] []) A66_6)
def A66_4 : AC := (.seq (.reg [] [(jm 22 6), (jm 23 8), ((jv 24 (.bin .shl (jn 1) (.t 23)))), ((jv 25 (.bin .andNot (.t 22) (.t 24)))), (jm 6 25)] []) A66_5)
def A66_13 : AC := (.reg [] [((jv 52 (.bin .add (.t 18) (jn 1)))), (jm 18 52)] [])
def A66_3 : AC := (.seq (.block 1 (.seq (.reg [] [((jv 20 (.idx (.t 16) (.t 18) 1))), ((jv 21 (.load .s (.t 20)))), (jm 8 21)] []) A66_4)) A66_13)
def A66_2 : AC := (.seq (.cond (.t 19) .skip (.exit 0)) A66_3)
def A66_1 : AC := (.seq (.reg [] [((jv 19 (.bin .lss (.t 18) (.t 17))))] []) A66_2)
def A66_14 : AC := (.seq (.reg [] [((jv 53 (.load (.ag [.p]) (.t 5)))), (.mk none none false (.store (.ag [.p]) (.t 4) (.t 53)))] []) .ret)
def A66_18 : AC := (.block 0 (.loop A66_1))
def A66_17 : AC := (.seq (.seq (.reg [] [(jm 16 1), ((jv 17 (.len (.t 16)))), ((jv 18 (.mov (jn 0))))] []) A66_18) A66_14)
def A66_16 : AC := (.seq (.reg [] [((jv 14 (.load (.ag [.p]) (.t 2)))), (.mk (some 15) none false (.call (.k (.fn 113 [] [])) [(.t 14)])), (jm 6 15)] []) A66_17)
def A66_15 : AC := (.seq (.reg [.clr [13, 5]] [((jv 12 (.load (.ag [.p]) (.t 2)))), (.mk (some 13) none false (.callO (.k (.fn 125 [] [])) [(.t 12)])), (.mk (some 5) none false (.alloc (.agg [(.sl .nl .s 0 [])]))), (.mk none none false (.store (.ag [.p]) (.t 5) (.t 13)))] []) A66_16)
def A66 : AC := (.seq (.reg [.clr [2, 4]] [(.mk (some 2) none false (.box (.t 0))), (.mk (some 4) none false (.alloc (.agg [(.sl .nl .s 0 [])])))] []) A66_15)
def an66 : List An := [{ id := 0, pre := [.clr [2, 4]], ep := [], lin := [], sp := [] }, { id := 1, pre := [.clr [13, 5]], ep := [], lin := [], sp := [1001] }]
theorem c66 : cC Try.prog Try.f66.ntmps an66 (Try.f66.body.getD .skip) = some A66 := by kernel_rfl
structure H66 (D : Den) (σ : Sig) (F : Nat) : Prop where
  c125o : ∀ (x0 : (S1 (List Int))) r, i_net_clone_o F x0 = some r → D 1000000125 [Enc.enc x0] = some (.agg [(encO .sh (r.a : NL Int))])
  g125o : σ 1000000125 = some (1, false)
  c113 : ∀ (x0 : (S1 (List Int))) r, i_net_all F x0 = some r → D 113 [Enc.enc x0] = some (Enc.enc (r : Int))
  g113 : σ 113 = some (0, false)
  c83 : ∀ (x0 : Int) r, i_setOf F x0 = some r → D 83 [Enc.enc x0] = some (Enc.enc (r : (List Int)))
  g83 : σ 83 = some (0, false)
abbrev R66 (r : (S1 (List Int))) : (Nat → V) → Prop := RR Try.prog [.cell 4 71] 0 false (Enc.enc (r : (S1 (List Int))))
section
variable {D : Den} {σ : Sig} {F : Nat} {r : (S1 (List Int))}
def i_net_filling_l1 (F : Nat) (x_24 : Int) (q_45 : Int) (e_46 : Int) (x_2 : (List Int)) (x_25 : Int) (r_47 : (List Int)) (c1 : (NL Int) → Int → Int → Option (S1 (List Int))) : Nat → (NL Int) → Int → Option (S1 (List Int))
  | 0, _, _ => none
  | k + 1, x_52, x_53 =>
    bif decide (x_53 < (r_47.length : Int)) then
      (idx r_47 x_53).bind fun e_58 =>
      (idx x_52.list e_58).bind fun e_59 =>
      (shlI .i64 1 e_58).bind fun q_60 =>
      (idx x_52.list e_58).bind fun e_61 =>
      (i_net_filling_l1 F x_24 q_45 e_46 x_2 x_25 r_47 c1 k) (NL.set x_52 e_58.toNat (ior .i64 e_59 (iandNot .i64 (iand .i64 e_46 (iandNot .i64 x_24 q_45)) q_60))) (w64 (x_53 + 1))
    else
      c1 x_52 (iandNot .i64 x_24 q_45) (w64 (x_25 + 1))
theorem t_f66_l1 (H : H66 D σ F) (x_24 : Int) (q_45 : Int) (e_46 : Int) (x_2 : (List Int)) (x_25 : Int) (r_47 : (List Int)) (c1 : (NL Int) → Int → Int → Option (S1 (List Int))) (Hc1 : ∀ (x_23 : (NL Int)) (x_24 : Int) (x_25 : Int) (s : Nat → V), Facts [(4, (.ref (.bx 4) 0 [] (.agg [(.sl .nl (Enc.shp Int) 0 [])]))), (5, (.ref (.bx 5) 0 [] (.agg [(oI 13 [0] x_23)]))), (6, (ji x_24)), (16, (eL x_2)), (17, (ji (x_2.length : Int))), (18, (ji x_25))] s → c1 x_23 x_24 x_25 = some r → Run D σ (R66 r) (.run A66_1 [.lp A66_1, .bk 0, .sq A66_14]) s) : ∀ (k : Nat) (x_52 : (NL Int)) (x_53 : Int) (s : Nat → V), Facts [(4, (.ref (.bx 4) 0 [] (.agg [(.sl .nl (Enc.shp Int) 0 [])]))), (5, (.ref (.bx 5) 0 [] (.agg [(oI 13 [0] x_52)]))), (6, (ji (iandNot .i64 x_24 q_45))), (9, (ji (iand .i64 e_46 (iandNot .i64 x_24 q_45)))), (16, (eL x_2)), (17, (ji (x_2.length : Int))), (18, (ji x_25)), (34, (eL r_47)), (35, (ji (r_47.length : Int))), (36, (ji x_53))] s → i_net_filling_l1 F x_24 q_45 e_46 x_2 x_25 r_47 c1 k x_52 x_53 = some r → Run D σ (R66 r) (.run A66_8 [.lp A66_8, .bk 2, .bk 1, .sq A66_13, .lp A66_1, .bk 0, .sq A66_14]) s := by
  intro k
  induction k with
  | zero => intro x_52 x_53 s _ h; exact nomatch (h : (none : Option _) = some r)
  | succ k ih =>
    intro x_52 x_53 s hs h
    rw [i_net_filling_l1] at h
    obtain ⟨h4, h5, h6, h9, h16, h17, h18, h34, h35, h36⟩ := hs
    refine .seq (rg (g2 36 35 (jb (decide (x_53 < (r_47.length : Int)))) h36 h35 fun h37 => ?_))
    refine gq (.nsq (.seq (run_cond (t := decide (x_53 < (r_47.length : Int))) h37 h (fun h => ?_) (fun h => ?_))))
    · refine .skip (.nsq (.seq (.block (.seq (rg ?_)))))
      obtain ⟨e_58, E_e_58, h⟩ := bind_some h
      refine gv (.ref .sh 0 [] (ji e_58)) (ev_idx (t := .sh) (lo := 0) (xs := r_47) h34 h36 E_e_58 rfl rfl) fun h38 => ?_
      refine g1 38 (ji e_58) h38 fun h39 => ?_
      refine gm h39 fun h11 => gz [(4, _), (5, _), (6, _), (9, _), (11, _), (16, _), (17, _), (18, _), (34, _), (35, _), (36, _)] ⟨h4, h5, h6, h9, h11, h16, h17, h18, h34, h35, h36⟩ ?_
      rintro s ⟨h4, h5, h6, h9, h11, h16, h17, h18, h34, h35, h36⟩
      refine .nsq (rg (g1 5 (.ref (.bx 5) 0 [0] (oI 13 [0] x_52)) h5 fun h40 => ?_))
      refine gv (oI 13 [0] x_52) (ev_loadN h40 beq_encO) fun h41 => ?_
      refine gm h11 fun h42 => ?_
      obtain ⟨e_59, E_e_59, h⟩ := bind_some h
      refine gv (.ref (.at 13 [0]) e_58.toNat [] (ji e_59)) (ev_idxO (o := x_52) h41 h42 E_e_59 rfl) fun h43 => ?_
      refine g1 43 (ji e_59) h43 fun h44 => ?_
      refine gm h9 fun h45 => gm h11 fun h46 => ?_
      obtain ⟨q_60, E_q_60, h⟩ := bind_some h
      refine gv (ji q_60) (ev_shl rfl h46 E_q_60) fun h47 => ?_
      refine g2 45 47 (ji (iandNot .i64 (iand .i64 e_46 (iandNot .i64 x_24 q_45)) q_60)) h45 h47 fun h48 => ?_
      refine g2 44 48 (ji (ior .i64 e_59 (iandNot .i64 (iand .i64 e_46 (iandNot .i64 x_24 q_45)) q_60))) h44 h48 fun h49 => ?_
      obtain ⟨e_61, E_e_61, h⟩ := bind_some h
      refine gv (.ref (.at 13 [0]) e_58.toNat [] (ji e_61)) (ev_idxO (o := x_52) h41 h42 E_e_61 rfl) fun h50 => ?_
      refine g_store (ji (ior .i64 e_59 (iandNot .i64 (iand .i64 e_46 (iandNot .i64 x_24 q_45)) q_60))) (rd_of h50 rfl) (rd_of h49 rfl) (by refine ⟨by decide, by decide, rfl, rfl, rfl, ?_⟩; first | rfl | (simp [V.toks, V.tokss, Enc.toks_enc]; done) | simp [V.toks, V.tokss, Enc.toks_enc, tok_memP]) ?_
      refine gz [(4, (.ref (.bx 4) 0 [] (.agg [(.sl .nl (Enc.shp Int) 0 [])]))), (5, (.ref (.bx 5) 0 [] (.agg [(oI 13 [0] (NL.set x_52 e_58.toNat (ior .i64 e_59 (iandNot .i64 (iand .i64 e_46 (iandNot .i64 x_24 q_45)) q_60))))]))), (6, (ji (iandNot .i64 x_24 q_45))), (9, (ji (iand .i64 e_46 (iandNot .i64 x_24 q_45)))), (16, (eL x_2)), (17, (ji (x_2.length : Int))), (18, (ji x_25)), (34, (eL r_47)), (35, (ji (r_47.length : Int))), (36, (ji x_53))] ⟨(keep_mut h4 (mut_ref_ne rfl rfl (mut_agg (muts_cons rfl rfl)))), (keep_mut h5 (mut_ref_ne rfl rfl (mut_agg (muts_cons (mut_ownN (α := Int) (u := ior .i64 e_59 (iandNot .i64 (iand .i64 e_46 (iandNot .i64 x_24 q_45)) q_60)) (i := e_58.toNat) (o := x_52)) rfl)))), (keep_mut h6 rfl), (keep_mut h9 rfl), (keep_mut h16 (Enc.mut_enc _ _ _ _ (x_2 : List Int))), (keep_mut h17 rfl), (keep_mut h18 rfl), (keep_mut h34 (Enc.mut_enc _ _ _ _ (r_47 : List Int))), (keep_mut h35 rfl), (keep_mut h36 rfl)⟩ ?_
      rintro s ⟨h4, h5, h6, h9, h16, h17, h18, h34, h35, h36⟩
      refine .nbk (.nsq (rg (g1 36 (ji (w64 (x_53 + 1))) h36 fun h51 => ?_)))
      refine gm h51 fun h36 => gq (.nlp ?_)
      exact ih (NL.set x_52 e_58.toNat (ior .i64 e_59 (iandNot .i64 (iand .i64 e_46 (iandNot .i64 x_24 q_45)) q_60))) (w64 (x_53 + 1)) _ ⟨h4, h5, h6, h9, h16, h17, h18, h34, h35, h36⟩ h
    refine .exit (.esq (.elp (.ebk (.nbk (.nsq (rg (g1 18 (ji (w64 (x_25 + 1))) h18 fun h52 => ?_)))))))
    refine gm h52 fun h18 => gq (.nlp ?_)
    exact Hc1 x_52 (iandNot .i64 x_24 q_45) (w64 (x_25 + 1)) _ ⟨h4, h5, h6, h16, h17, h18⟩ h
def i_net_filling_l2 (F : Nat) (x_2 : (List Int))  : Nat → (NL Int) → Int → Int → Option (S1 (List Int))
  | 0, _, _, _ => none
  | k + 1, x_23, x_24, x_25 =>
    bif decide (x_25 < (x_2.length : Int)) then
      (idx x_2 x_25).bind fun e_44 =>
      (shlI .i64 1 e_44).bind fun q_45 =>
      (idx x_23.list e_44).bind fun e_46 =>
      (i_setOf F (iand .i64 e_46 (iandNot .i64 x_24 q_45))).bind fun r_47 =>
      i_net_filling_l1 F x_24 q_45 e_46 x_2 x_25 r_47 (i_net_filling_l2 F x_2 k) F x_23 0
    else
      some (S1.mk x_23.list)
theorem t_f66_l2 (H : H66 D σ F) (x_2 : (List Int))  : ∀ (k : Nat) (x_23 : (NL Int)) (x_24 : Int) (x_25 : Int) (s : Nat → V), Facts [(4, (.ref (.bx 4) 0 [] (.agg [(.sl .nl (Enc.shp Int) 0 [])]))), (5, (.ref (.bx 5) 0 [] (.agg [(oI 13 [0] x_23)]))), (6, (ji x_24)), (16, (eL x_2)), (17, (ji (x_2.length : Int))), (18, (ji x_25))] s → i_net_filling_l2 F x_2 k x_23 x_24 x_25 = some r → Run D σ (R66 r) (.run A66_1 [.lp A66_1, .bk 0, .sq A66_14]) s := by
  intro k
  induction k with
  | zero => intro x_23 x_24 x_25 s _ h; exact nomatch (h : (none : Option _) = some r)
  | succ k ih =>
    intro x_23 x_24 x_25 s hs h
    rw [i_net_filling_l2] at h
    obtain ⟨h4, h5, h6, h16, h17, h18⟩ := hs
    refine .seq (rg (g2 18 17 (jb (decide (x_25 < (x_2.length : Int)))) h18 h17 fun h19 => ?_))
    refine gq (.nsq (.seq (run_cond (t := decide (x_25 < (x_2.length : Int))) h19 h (fun h => ?_) (fun h => ?_))))
    · refine .skip (.nsq (.seq (.block (.seq (rg ?_)))))
      obtain ⟨e_44, E_e_44, h⟩ := bind_some h
      refine gv (.ref .sh 0 [] (ji e_44)) (ev_idx (t := .sh) (lo := 0) (xs := x_2) h16 h18 E_e_44 rfl rfl) fun h20 => ?_
      refine g1 20 (ji e_44) h20 fun h21 => ?_
      refine gm h21 fun h8 => gq (.nsq (.seq (rg (gm h6 fun h22 => gm h8 fun h23 => ?_))))
      obtain ⟨q_45, E_q_45, h⟩ := bind_some h
      refine gv (ji q_45) (ev_shl rfl h23 E_q_45) fun h24 => ?_
      refine g2 22 24 (ji (iandNot .i64 x_24 q_45)) h22 h24 fun h25 => ?_
      refine gm h25 fun h6 => gq (.nsq (.seq (rg (g1 5 (.ref (.bx 5) 0 [0] (oI 13 [0] x_23)) h5 fun h26 => ?_))))
      refine gv (oI 13 [0] x_23) (ev_loadN h26 beq_encO) fun h27 => ?_
      refine gm h8 fun h28 => ?_
      obtain ⟨e_46, E_e_46, h⟩ := bind_some h
      refine gv (.ref (.at 13 [0]) e_44.toNat [] (ji e_46)) (ev_idxO (o := x_23) h27 h28 E_e_46 rfl) fun h29 => ?_
      refine g1 29 (ji e_46) h29 fun h30 => ?_
      refine gm h6 fun h31 => g2 30 31 (ji (iand .i64 e_46 (iandNot .i64 x_24 q_45))) h30 h31 fun h32 => ?_
      refine gm h32 fun h9 => gq (.nsq (.seq (rg (gm h9 fun h33 => ?_))))
      obtain ⟨r_47, E_r_47, h⟩ := bind_some h
      refine g_call (m := 0) (al := false) (r := (Enc.enc (r_47 : (List Int)))) [Enc.enc (iand .i64 e_46 (iandNot .i64 x_24 q_45) : Int)] (ta_cons (v := (ji (iand .i64 e_46 (iandNot .i64 x_24 q_45)))) h33 rfl rfl ta_nil) (H.c83 _ _ E_r_47) H.g83 rfl rfl rfl rfl ?_
      refine gv (ji (r_47.length : Int)) (ev_len (xs := r_47) rfl) fun h35 => ?_
      refine g0 (ji 0) fun h36 => gq (.nsq (.block (.loop ?_)))
      exact t_f66_l1 H x_24 q_45 e_46 x_2 x_25 r_47 (i_net_filling_l2 F x_2 k) ih F x_23 0 _ ⟨h4, h5, h6, h9, h16, h17, h18, rfl, h35, h36⟩ h
    refine .exit (.esq (.elp (.ebk (.nsq (.seq (rg (gv (.agg [(oI 13 [0] x_23)]) (ev_loadN (c := (.agg [(oI 13 [0] x_23)])) h5 (by simp [V.shape, V.shapes, shape_encP, shape_encN, Sh.beq, Sh.beqs])) fun h53 => ?_)))))))
    refine g_store (.agg [(oI 13 [0] x_23)]) (rd_of h4 rfl) (rd_of h53 rfl) ⟨by decide, by decide, rfl, (by simp [V.shape, V.shapes, shape_encP, Sh.beq, Sh.beqs]), (by simp [V.shape, V.shapes, shape_encP, Sh.beq, Sh.beqs]), (by simp [V.toks, V.tokss, tok_memP])⟩ ?_
    refine gz [(4, (.ref (.bx 4) 0 [] (.agg [(oI 13 [0] x_23)])))] (keep_mut h4 rfl) ?_
    rintro s h4
    refine .nsq (.ret ?_)
    have hr := Option.some.inj h
    subst hr
    exact rrA (res_cell h4 (by simp only [V.shape, V.shapes, shape_encP]; kernel_rfl)) (fin_retF (fin_agg (fins_cons (fin_own (o := x_23)) fins_nil)) (mine_agg (mines_cons (mine_own rfl) mines_nil)))
def i_net_filling (F : Nat) (x_1 : (S1 (List Int))) (x_2 : (List Int)) : Option (S1 (List Int)) :=
  (i_net_clone_o F x_1).bind fun r_3 =>
  (i_net_all F x_1).bind fun r_4 =>
  i_net_filling_l2 F x_2 F r_3.a r_4 0
theorem t66 (H : H66 D σ F) (x_1 : (S1 (List Int))) (x_2 : (List Int)) (s : Nat → V) (hs : Facts [(0, (.agg [(eL x_1.a)])), (1, (eL x_2))] s) (h : i_net_filling F x_1 x_2 = some r) : Run D σ (R66 r) (.run A66 []) s := by
  unfold i_net_filling at h
  obtain ⟨h0, h1⟩ := hs
  refine .seq (run_reg ?_)
  refine e_clr ?_
  refine ez [(0, _), (1, _), (2, _), (4, _)] ⟨(keep_clear (pk := [2, 4]) h0 rfl (map_agg (maps_cons me maps_nil))), (keep_clear (pk := [2, 4]) h1 rfl me), (gone_clear (pk := [2, 4]) (t := 2) rfl), (gone_clear (pk := [2, 4]) (t := 4) rfl)⟩ ?_
  rintro s ⟨h0, h1, h2, h4⟩
  refine g_box (.agg [(eL x_1.a)]) (rd_of h0 rfl) h2 rfl ?_
  refine g_alloc h4 ?_
  refine gq (.nsq (.seq (run_reg ?_)))
  refine e_clr ?_
  refine ez [(1, _), (2, _), (4, _), (5, _), (13, _)] ⟨(keep_clear (pk := [13, 5]) h1 rfl me), (keep_clear (pk := [13, 5]) rfl rfl (map_bx rfl (map_agg (maps_cons me maps_nil)))), (keep_clear (pk := [13, 5]) rfl rfl (map_bx rfl (map_agg (maps_cons rfl maps_nil)))), (gone_clear (pk := [13, 5]) (t := 5) rfl), (gone_clear (pk := [13, 5]) (t := 13) rfl)⟩ ?_
  rintro s ⟨h1, h2, h4, h5, h13⟩
  refine g1 2 (.agg [(eL x_1.a)]) h2 fun h12 => ?_
  obtain ⟨r_3, E_r_3, h⟩ := bind_some h
  refine g_callO (m := 1) (al := false) (r := (.agg [(encO .sh (r_3.a : NL Int))])) (v := (.agg [(oI 13 [0] r_3.a)])) (kk := 1000000125) [Enc.enc (x_1 : (S1 (List Int)))] (ta_cons (v := (.agg [(eL x_1.a)])) h12 rfl (Enc.erase_enc (x_1 : (S1 (List Int)))) ta_nil) (H.c125o _ _ E_r_3) H.g125o rfl (toks_agg (tokss_cons toks_encS tokss_nil)) (tag_agg (tags_cons tag_encO tags_nil)) rfl h13 ?_
  refine g_alloc h5 ?_
  refine g_store (.agg [(oI 13 [0] r_3.a)]) (rd_of rfl rfl) (rd_of rfl rfl) ⟨by decide, by decide, rfl, (by simp [V.shape, V.shapes, shape_encP, Sh.beq, Sh.beqs]), (by simp [V.shape, V.shapes, shape_encP, Sh.beq, Sh.beqs]), (by simp [V.toks, V.tokss, tok_memP])⟩ ?_
  refine gz [(1, (eL x_2)), (2, (.ref (.bx 2) 0 [] (.agg [(eL x_1.a)]))), (4, (.ref (.bx 4) 0 [] (.agg [(.sl .nl (Enc.shp Int) 0 [])]))), (5, (.ref (.bx 5) 0 [] (.agg [(oI 13 [0] r_3.a)])))] ⟨(keep_mut h1 (Enc.mut_enc _ _ _ _ (x_2 : List Int))), (keep_mut h2 (mut_ref_ne rfl rfl (mut_agg (muts_cons (Enc.mut_enc _ _ _ _ (x_1.a : List Int)) rfl)))), (keep_mut h4 (mut_ref_ne rfl rfl (mut_agg (muts_cons rfl rfl)))), (keep_mut rfl rfl)⟩ ?_
  rintro s ⟨h1, h2, h4, h5⟩
  refine .nsq (.seq (rg (g1 2 (.agg [(eL x_1.a)]) h2 fun h14 => ?_)))
  obtain ⟨r_4, E_r_4, h⟩ := bind_some h
  refine g_call (m := 0) (al := false) (r := (Enc.enc (r_4 : Int))) [Enc.enc (x_1 : (S1 (List Int)))] (ta_cons (v := (.agg [(eL x_1.a)])) h14 rfl (Enc.erase_enc (x_1 : (S1 (List Int)))) ta_nil) (H.c113 _ _ E_r_4) H.g113 rfl rfl rfl rfl ?_
  refine gm (rfl : (_ : V) = (ji r_4)) fun h6 => ?_
  refine gq (.nsq (.seq (.seq (rg (gm h1 fun h16 => gv (ji (x_2.length : Int)) (ev_len (xs := x_2) h16) fun h17 => ?_)))))
  refine g0 (ji 0) fun h18 => gq (.nsq (.block (.loop ?_)))
  exact t_f66_l2 H x_2 F r_3.a r_4 0 _ ⟨h4, h5, h6, h16, h17, h18⟩ h
end
def e66 (F : Nat) : Ent := ent 66 (fun (x : ((S1 (List Int)) × (List Int) × Unit)) => i_net_filling F x.1 x.2.1) (fun (r : (S1 (List Int))) => (Enc.enc (r : (S1 (List Int))))) 0 false []
theorem p66 {F : Nat} {x0 : (S1 (List Int))} {x1 : (List Int)} {r : (S1 (List Int))} (h : i_net_filling F x0 x1 = some r) : (e66 F).den [Enc.enc x0, Enc.enc x1] = some (Enc.enc (r : (S1 (List Int)))) := ent_put (x0, x1, ()) h
theorem o66 {D : Den} {σ : Sig} {F : Nat} (hF : Fits2 Try.prog D σ) (H : H66 D σ F) : (e66 F).Ok Try.prog := by
  refine ok_of (f := 66) (show unk 66 = 66 from rfl) (fun args r h => ?_) ⟨Try.f66, Try.func66, rfl, rfl⟩
  obtain ⟨⟨x0, x1, _⟩, y, rfl, hy, rfl⟩ := da_open h
  exact contract_run hF (by kernel_rfl) Try.func66 rfl c66 (show 2 ≤ Try.f66.ntmps by decide) (t66 H x0 x1 _ ⟨rfl, rfl⟩ hy)
/- (loop.example/g01109/impl.net).neighborsBehind -/
def A100_5 : AC := (.reg [.clr [33, 34]] [(jm 25 7), ((jv 26 (.fld (.t 5) 0 0))), ((jv 27 (.load .p (.t 26)))), (jm 28 9), ((jv 29 (.idx (.t 27) (.t 28) 1))), ((jv 30 (.load .s (.t 29)))), (jm 31 6), ((jv 32 (.bin .and (.t 30) (.t 31)))), (.mk (some 33) none false (.lit (.int .i64 (.ofNat 0)) 1 [(0, 0, (.t 32))])), (.mk (some 34) none false (.app .s (.t 25) (.t 33))), (jm 7 34)] [.home 34 7])
def A100_4 : AC := (.seq (.reg [] [(jm 21 6), (jm 22 9), ((jv 23 (.bin .shl (jn 1) (.t 22)))), ((jv 24 (.bin .andNot (.t 21) (.t 23)))), (jm 6 24)] []) A100_5)
def A100_6 : AC := (.reg [] [((jv 35 (.bin .add (.t 17) (jn 1)))), (jm 17 35)] [])
def A100_3 : AC := (.seq (.block 1 (.seq (.reg [] [((jv 19 (.idx (.t 15) (.t 17) 1))), ((jv 20 (.load .s (.t 19)))), (jm 9 20)] []) A100_4)) A100_6)
def A100_2 : AC := (.seq (.cond (.t 18) .skip (.exit 0)) A100_3)
def A100_1 : AC := (.seq (.reg [] [((jv 18 (.bin .lss (.t 17) (.t 16))))] []) A100_2)
def A100_7 : AC := (.seq (.reg [] [(jm 36 7), (jm 4 36)] [.home 7 4]) .ret)
def A100_12 : AC := (.block 0 (.loop A100_1))
def A100_11 : AC := (.seq (.seq (.reg [] [(jm 15 1), ((jv 16 (.len (.t 15)))), ((jv 17 (.mov (jn 0))))] []) A100_12) A100_7)
def A100_10 : AC := (.seq (.reg [] [((jv 7 (.mov (.k (.sl .nl .s 0 [])))))] []) A100_11)
def A100_9 : AC := (.seq (.reg [] [((jv 13 (.load (.ag [.p]) (.t 2)))), (.mk (some 14) none false (.call (.k (.fn 113 [] [])) [(.t 13)])), (jm 6 14)] []) A100_10)
def A100_8 : AC := (.seq (.reg [.clr [5]] [((jv 10 (.load (.ag [.p]) (.t 2)))), (jm 11 1), (.mk (some 12) none false (.call (.k (.fn 66 [] [])) [(.t 10), (.t 11)])), (.mk (some 5) none false (.alloc (.agg [(.sl .nl .s 0 [])]))), (.mk none none false (.store (.ag [.p]) (.t 5) (.t 12)))] []) A100_9)
def A100 : AC := (.seq (.reg [.clr [2]] [(.mk (some 2) none false (.box (.t 0))), ((jv 4 (.mov (.k (.sl .nl .s 0 [])))))] []) A100_8)
def an100 : List An := [{ id := 0, pre := [.clr [2]], ep := [], lin := [], sp := [] }, { id := 1, pre := [.clr [5]], ep := [], lin := [], sp := [] }, { id := 8, pre := [.clr [33, 34]], ep := [.home 34 7], lin := [], sp := [] }, { id := 10, pre := [], ep := [.home 7 4], lin := [], sp := [] }]
theorem c100 : cC Try.prog Try.f100.ntmps an100 (Try.f100.body.getD .skip) = some A100 := by kernel_rfl
structure H100 (D : Den) (σ : Sig) (F : Nat) : Prop where
  c66 : ∀ (x0 : (S1 (List Int))) (x1 : (List Int)) r, i_net_filling F x0 x1 = some r → D 66 [Enc.enc x0, Enc.enc x1] = some (Enc.enc (r : (S1 (List Int))))
  g66 : σ 66 = some (0, false)
  c113 : ∀ (x0 : (S1 (List Int))) r, i_net_all F x0 = some r → D 113 [Enc.enc x0] = some (Enc.enc (r : Int))
  g113 : σ 113 = some (0, false)
abbrev R100 (r : (List Int)) : (Nat → V) → Prop := RR Try.prog [.tmp 4] 0 false (Enc.enc (r : (List Int)))
section
variable {D : Den} {σ : Sig} {F : Nat} {r : (List Int)}
def i_net_neighborsBehind_l1 (F : Nat) (r_3 : (S1 (List Int))) (x_2 : (List Int))  : Nat → Int → (NL Int) → Int → Option (List Int)
  | 0, _, _, _ => none
  | k + 1, x_9, x_10, x_11 =>
    bif decide (x_11 < (x_2.length : Int)) then
      (idx x_2 x_11).bind fun e_16 =>
      (shlI .i64 1 e_16).bind fun q_17 =>
      (idx r_3.a e_16).bind fun e_18 =>
      (appL x_10.list [iand .i64 e_18 (iandNot .i64 x_9 q_17)]).bind fun ap_19 =>
      (i_net_neighborsBehind_l1 F r_3 x_2 k) (iandNot .i64 x_9 q_17) (.of ap_19) (w64 (x_11 + 1))
    else
      some x_10.list
theorem t_f100_l1 (H : H100 D σ F) (r_3 : (S1 (List Int))) (x_2 : (List Int))  : ∀ (k : Nat) (x_9 : Int) (x_10 : (NL Int)) (x_11 : Int) (s : Nat → V), Facts [(4, (.sl .nl (Enc.shp Int) 0 [])), (5, (.ref (.bx 5) 0 [] (.agg [(eL r_3.a)]))), (6, (ji x_9)), (7, (oI 7 [] x_10)), (15, (eL x_2)), (16, (ji (x_2.length : Int))), (17, (ji x_11))] s → i_net_neighborsBehind_l1 F r_3 x_2 k x_9 x_10 x_11 = some r → Run D σ (R100 r) (.run A100_1 [.lp A100_1, .bk 0, .sq A100_7]) s := by
  intro k
  induction k with
  | zero => intro x_9 x_10 x_11 s _ h; exact nomatch (h : (none : Option _) = some r)
  | succ k ih =>
    intro x_9 x_10 x_11 s hs h
    rw [i_net_neighborsBehind_l1] at h
    obtain ⟨h4, h5, h6, h7, h15, h16, h17⟩ := hs
    refine .seq (rg (g2 17 16 (jb (decide (x_11 < (x_2.length : Int)))) h17 h16 fun h18 => ?_))
    refine gq (.nsq (.seq (run_cond (t := decide (x_11 < (x_2.length : Int))) h18 h (fun h => ?_) (fun h => ?_))))
    · refine .skip (.nsq (.seq (.block (.seq (rg ?_)))))
      obtain ⟨e_16, E_e_16, h⟩ := bind_some h
      refine gv (.ref .sh 0 [] (ji e_16)) (ev_idx (t := .sh) (lo := 0) (xs := x_2) h15 h17 E_e_16 rfl rfl) fun h19 => ?_
      refine g1 19 (ji e_16) h19 fun h20 => ?_
      refine gm h20 fun h9 => gq (.nsq (.seq (rg (gm h6 fun h21 => gm h9 fun h22 => ?_))))
      obtain ⟨q_17, E_q_17, h⟩ := bind_some h
      refine gv (ji q_17) (ev_shl rfl h22 E_q_17) fun h23 => ?_
      refine g2 21 23 (ji (iandNot .i64 x_9 q_17)) h21 h23 fun h24 => ?_
      refine gm h24 fun h6 => gq (.nsq (run_reg ?_))
      refine e_clr ?_
      refine ez [(4, _), (5, _), (6, _), (7, _), (9, _), (15, _), (16, _), (17, _), (33, _), (34, _)] ⟨(keep_clear (pk := [33, 34]) h4 rfl rfl), (keep_clear (pk := [33, 34]) h5 rfl (map_bx rfl (map_agg (maps_cons me maps_nil)))), (keep_clear (pk := [33, 34]) h6 rfl mi), (keep_clear (pk := [33, 34]) h7 rfl (map_encO (r := 7) (p := []) rfl rfl)), (keep_clear (pk := [33, 34]) h9 rfl mi), (keep_clear (pk := [33, 34]) h15 rfl me), (keep_clear (pk := [33, 34]) h16 rfl mi), (keep_clear (pk := [33, 34]) h17 rfl mi), (gone_clear (pk := [33, 34]) (t := 33) rfl), (gone_clear (pk := [33, 34]) (t := 34) rfl)⟩ ?_
      rintro s ⟨h4, h5, h6, h7, h9, h15, h16, h17, h33, h34⟩
      refine gv (oI 7 [] x_10) (ev_mov h7 ok_encO) fun h25 => ?_
      refine g1 5 (.ref (.bx 5) 0 [0] (eL r_3.a)) h5 fun h26 => ?_
      refine g1 26 (eL r_3.a) h26 fun h27 => ?_
      refine gm h9 fun h28 => ?_
      obtain ⟨e_18, E_e_18, h⟩ := bind_some h
      refine gv (.ref .sh 0 [] (ji e_18)) (ev_idx (t := .sh) (lo := 0) (xs := r_3.a) h27 h28 E_e_18 rfl rfl) fun h29 => ?_
      refine g1 29 (ji e_18) h29 fun h30 => ?_
      refine gm h6 fun h31 => g2 30 31 (ji (iand .i64 e_18 (iandNot .i64 x_9 q_17))) h30 h31 fun h32 => ?_
      refine g_litL [(32, (ji (iand .i64 e_18 (iandNot .i64 x_9 q_17))))] [Enc.enc (iand .i64 e_18 (iandNot .i64 x_9 q_17) : Int)] h32 rfl rfl h33 ?_
      obtain ⟨ap_19, E_ap_19, h⟩ := bind_some h
      refine g_app (q := 7) (p := []) (o := (x_10 : NL Int)) (ys := ([iand .i64 e_18 (iandNot .i64 x_9 q_17)] : List Int)) (t2 := (.at 33 [])) (lo2 := 0) h25 rfl rfl h34 (appN_L (o := (x_10 : NL Int)) E_ap_19 (by split <;> simp)) (fun s_10 ha_10 => ?_)
      refine gm (rfl : (_ : V) = (oI 34 [] (.of ap_19))) fun h7 => ?_
      refine g_end ?_
      refine e_home (r := 34) (x := 7) (v := _) h7 rfl (fun s_11 hg_11 => ?_)
      refine ez [(4, (.sl .nl (Enc.shp Int) 0 [])), (5, (.ref (.bx 5) 0 [] (.agg [(eL r_3.a)]))), (6, (ji (iandNot .i64 x_9 q_17))), (7, (oI 7 [] (.of ap_19))), (15, (eL x_2)), (16, (ji (x_2.length : Int))), (17, (ji x_11))] ⟨(hg_11 4 _ (.sl .nl (Enc.shp Int) 0 []) (show s_10 4 = (.sl .nl (Enc.shp Int) 0 []) from keep_app ha_10 h4 rfl) rfl), (hg_11 5 _ _ (show s_10 5 = (.ref (.bx 5) 0 [] (.agg [(eL r_3.a)])) from keep_app ha_10 h5 (map_bx rfl (map_agg (maps_cons me maps_nil)))) (map_bx rfl (map_agg (maps_cons me maps_nil)))), (hg_11 6 _ _ (show s_10 6 = (ji (iandNot .i64 x_9 q_17)) from keep_app ha_10 h6 mi) mi), (hg_11 7 _ _ h7 (map_encO (r := 34) (p := []) rfl rfl)), (hg_11 15 _ _ (show s_10 15 = (eL x_2) from keep_app ha_10 h15 me) me), (hg_11 16 _ _ (show s_10 16 = (ji (x_2.length : Int)) from keep_app ha_10 h16 mi) mi), (hg_11 17 _ _ (show s_10 17 = (ji x_11) from keep_app ha_10 h17 mi) mi)⟩ ?_
      rintro s ⟨h4, h5, h6, h7, h15, h16, h17⟩
      refine .nbk (.nsq (rg (g1 17 (ji (w64 (x_11 + 1))) h17 fun h35 => ?_)))
      refine gm h35 fun h17 => gq (.nlp ?_)
      exact ih (iandNot .i64 x_9 q_17) (.of ap_19) (w64 (x_11 + 1)) _ ⟨h4, h5, h6, h7, h15, h16, h17⟩ h
    refine .exit (.esq (.elp (.ebk (.nsq (.seq (rg (gv (oI 7 [] x_10) (ev_mov h7 ok_encO) fun h36 => ?_)))))))
    refine gv (oI 7 [] x_10) (ev_mov h36 ok_encO) fun h4 => ?_
    refine g_end ?_
    refine e_home (r := 7) (x := 4) (v := _) h4 ok_encO (fun s_12 hg_12 => ?_)
    refine ez [(4, (oI 4 [] x_10))] (hg_12 4 _ _ h4 (map_encO (r := 7) (p := []) rfl rfl)) ?_
    rintro s h4
    refine .nsq (.ret ?_)
    have hr := Option.some.inj h
    subst hr
    exact rrA (res_tmp h4) (fin_retF (fin_own (o := x_10)) (mine_own rfl))
def i_net_neighborsBehind (F : Nat) (x_1 : (S1 (List Int))) (x_2 : (List Int)) : Option (List Int) :=
  (i_net_filling F x_1 x_2).bind fun r_3 =>
  (i_net_all F x_1).bind fun r_4 =>
  i_net_neighborsBehind_l1 F r_3 x_2 F r_4 .nil 0
theorem t100 (H : H100 D σ F) (x_1 : (S1 (List Int))) (x_2 : (List Int)) (s : Nat → V) (hs : Facts [(0, (.agg [(eL x_1.a)])), (1, (eL x_2))] s) (h : i_net_neighborsBehind F x_1 x_2 = some r) : Run D σ (R100 r) (.run A100 []) s := by
  unfold i_net_neighborsBehind at h
  obtain ⟨h0, h1⟩ := hs
  refine .seq (run_reg ?_)
  refine e_clr ?_
  refine ez [(0, _), (1, _), (2, _)] ⟨(keep_clear (pk := [2]) h0 rfl (map_agg (maps_cons me maps_nil))), (keep_clear (pk := [2]) h1 rfl me), (gone_clear (pk := [2]) (t := 2) rfl)⟩ ?_
  rintro s ⟨h0, h1, h2⟩
  refine g_box (.agg [(eL x_1.a)]) (rd_of h0 rfl) h2 rfl ?_
  refine g0 (.sl .nl (Enc.shp Int) 0 []) fun h4 => ?_
  refine gq (.nsq (.seq (run_reg ?_)))
  refine e_clr ?_
  refine ez [(1, _), (2, _), (4, _), (5, _)] ⟨(keep_clear (pk := [5]) h1 rfl me), (keep_clear (pk := [5]) rfl rfl (map_bx rfl (map_agg (maps_cons me maps_nil)))), (keep_clear (pk := [5]) h4 rfl rfl), (gone_clear (pk := [5]) (t := 5) rfl)⟩ ?_
  rintro s ⟨h1, h2, h4, h5⟩
  refine g1 2 (.agg [(eL x_1.a)]) h2 fun h10 => ?_
  refine gm h1 fun h11 => ?_
  obtain ⟨r_3, E_r_3, h⟩ := bind_some h
  refine g_call (m := 0) (al := false) (r := (Enc.enc (r_3 : (S1 (List Int))))) [Enc.enc (x_1 : (S1 (List Int))), Enc.enc (x_2 : (List Int))] (ta_cons (v := (.agg [(eL x_1.a)])) h10 rfl (Enc.erase_enc (x_1 : (S1 (List Int)))) (ta_cons (v := (eL x_2)) h11 rfl (Enc.erase_enc (x_2 : (List Int))) ta_nil)) (H.c66 _ _ _ E_r_3) H.g66 rfl rfl rfl rfl ?_
  refine g_alloc h5 ?_
  refine g_store (.agg [(eL r_3.a)]) (rd_of rfl rfl) (rd_of rfl rfl) (by refine ⟨by decide, by decide, rfl, rfl, rfl, ?_⟩; first | rfl | (simp [V.toks, V.tokss, Enc.toks_enc]; done) | simp [V.toks, V.tokss, Enc.toks_enc, tok_memP]) ?_
  refine gz [(1, (eL x_2)), (2, (.ref (.bx 2) 0 [] (.agg [(eL x_1.a)]))), (4, (.sl .nl (Enc.shp Int) 0 [])), (5, (.ref (.bx 5) 0 [] (.agg [(eL r_3.a)])))] ⟨(keep_mut h1 (Enc.mut_enc _ _ _ _ (x_2 : List Int))), (keep_mut h2 (mut_ref_ne rfl rfl (mut_agg (muts_cons (Enc.mut_enc _ _ _ _ (x_1.a : List Int)) rfl)))), (keep_mut h4 rfl), (keep_mut rfl rfl)⟩ ?_
  rintro s ⟨h1, h2, h4, h5⟩
  refine .nsq (.seq (rg (g1 2 (.agg [(eL x_1.a)]) h2 fun h13 => ?_)))
  obtain ⟨r_4, E_r_4, h⟩ := bind_some h
  refine g_call (m := 0) (al := false) (r := (Enc.enc (r_4 : Int))) [Enc.enc (x_1 : (S1 (List Int)))] (ta_cons (v := (.agg [(eL x_1.a)])) h13 rfl (Enc.erase_enc (x_1 : (S1 (List Int)))) ta_nil) (H.c113 _ _ E_r_4) H.g113 rfl rfl rfl rfl ?_
  refine gm (rfl : (_ : V) = (ji r_4)) fun h6 => ?_
  refine gq (.nsq (.seq (rg (g0 (.sl .nl (Enc.shp Int) 0 []) fun h7 => ?_))))
  refine gq (.nsq (.seq (.seq (rg (gm h1 fun h15 => gv (ji (x_2.length : Int)) (ev_len (xs := x_2) h15) fun h16 => ?_)))))
  refine g0 (ji 0) fun h17 => gq (.nsq (.block (.loop ?_)))
  exact t_f100_l1 H r_3 x_2 F r_4 .nil 0 _ ⟨h4, h5, h6, h7, h15, h16, h17⟩ h
end
def e100 (F : Nat) : Ent := ent 100 (fun (x : ((S1 (List Int)) × (List Int) × Unit)) => i_net_neighborsBehind F x.1 x.2.1) (fun (r : (List Int)) => (Enc.enc (r : (List Int)))) 0 false []
theorem p100 {F : Nat} {x0 : (S1 (List Int))} {x1 : (List Int)} {r : (List Int)} (h : i_net_neighborsBehind F x0 x1 = some r) : (e100 F).den [Enc.enc x0, Enc.enc x1] = some (Enc.enc (r : (List Int))) := ent_put (x0, x1, ()) h
theorem o100 {D : Den} {σ : Sig} {F : Nat} (hF : Fits2 Try.prog D σ) (H : H100 D σ F) : (e100 F).Ok Try.prog := by
  refine ok_of (f := 100) (show unk 100 = 100 from rfl) (fun args r h => ?_) ⟨Try.f100, Try.func100, rfl, rfl⟩
  obtain ⟨⟨x0, x1, _⟩, y, rfl, hy, rfl⟩ := da_open h
  exact contract_run hF (by kernel_rfl) Try.func100 rfl c100 (show 2 ≤ Try.f100.ntmps by decide) (t100 H x0 x1 _ ⟨rfl, rfl⟩ hy)
/- loop.example/g01109/impl.setOf -/
def A83o_2 : AC := (.cond (.t 8) .skip (.exit 0))
def A83o_4 : AC := (.cond (.t 15) (.reg [.clr [18, 19]] [(jm 16 3), (jm 17 4), (.mk (some 18) none false (.lit (.int .i64 (.ofNat 0)) 1 [(0, 0, (.t 17))])), (.mk (some 19) none false (.app .s (.t 16) (.t 18))), (jm 3 19)] [.home 19 3]) .skip)
def A83o_5 : AC := (.reg [] [(jm 9 4), ((jv 10 (.bin .add (.t 9) (jn 1)))), (jm 4 10)] [])
def A83o_3 : AC := (.seq (.block 1 (.seq (.reg [] [(jm 11 0), (jm 12 4), ((jv 13 (.bin .shr (.t 11) (.t 12)))), ((jv 14 (.bin .and (.t 13) (jn 1)))), ((jv 15 (.bin .eql (.t 14) (jn 1))))] []) A83o_4)) A83o_5)
def A83o_1 : AC := (.seq (.seq (.reg [] [(jm 5 0), (jm 6 4), ((jv 7 (.bin .shr (.t 5) (.t 6)))), ((jv 8 (.bin .neq (.t 7) (jn 0))))] []) A83o_2) A83o_3)
def A83o_6 : AC := (.seq (.reg [] [(jm 20 3), (jm 2 20)] [.home 3 2]) .ret)
def A83o_9 : AC := (.block 0 (.loop A83o_1))
def A83o_8 : AC := (.seq (.seq (.reg [] [((jv 4 (.mov (jn 0))))] []) A83o_9) A83o_6)
def A83o_7 : AC := (.seq (.reg [] [((jv 3 (.mov (.k (.sl .nl .s 0 [])))))] []) A83o_8)
def A83o : AC := (.seq (.reg [] [((jv 2 (.mov (.k (.sl .nl .s 0 [])))))] []) A83o_7)
def an83o : List An := [{ id := 6, pre := [.clr [18, 19]], ep := [.home 19 3], lin := [], sp := [] }, { id := 7, pre := [], ep := [.home 3 2], lin := [], sp := [] }]
theorem c83o : cC Try.prog Try.f83.ntmps an83o (Try.f83.body.getD .skip) = some A83o := by kernel_rfl
structure H83o (D : Den) (σ : Sig) (F : Nat) : Prop where
  mk ::
abbrev R83o (r : (NL Int)) : (Nat → V) → Prop := RR Try.prog [.tmp 2] 1 false (encO .sh (r : NL Int))
section
variable {D : Den} {σ : Sig} {F : Nat} {r : (NL Int)}
def i_setOf_o_j1 (F : Nat) (x_1 : Int) (x_8 : Int) (c1 : (NL Int) → Int → Option (NL Int)) (x_17 : (NL Int)) : Option (NL Int) :=
  c1 x_17 (w64 (x_8 + 1))
theorem t_f83o_j1 (H : H83o D σ F) (x_1 : Int) (x_8 : Int) (c1 : (NL Int) → Int → Option (NL Int)) (Hc1 : ∀ (x_7 : (NL Int)) (x_8 : Int) (s : Nat → V), Facts [(0, (ji x_1)), (2, (.sl .nl (Enc.shp Int) 0 [])), (3, (oI 3 [] x_7)), (4, (ji x_8))] s → c1 x_7 x_8 = some r → Run D σ (R83o r) (.run A83o_1 [.lp A83o_1, .bk 0, .sq A83o_6]) s) (x_17 : (NL Int)) (s : Nat → V) (hs : Facts [(0, (ji x_1)), (2, (.sl .nl (Enc.shp Int) 0 [])), (3, (oI 3 [] x_17)), (4, (ji x_8))] s) (h : i_setOf_o_j1 F x_1 x_8 c1 x_17 = some r) : Run D σ (R83o r) (.nrm [.bk 1, .sq A83o_5, .lp A83o_1, .bk 0, .sq A83o_6]) s := by
  unfold i_setOf_o_j1 at h
  obtain ⟨h0, h2, h3, h4⟩ := hs
  refine .nbk (.nsq (rg (gm h4 fun h9 => g1 9 (ji (w64 (x_8 + 1))) h9 fun h10 => ?_)))
  refine gm h10 fun h4 => gq (.nlp ?_)
  exact Hc1 x_17 (w64 (x_8 + 1)) _ ⟨h0, h2, h3, h4⟩ h
def i_setOf_o_l1 (F : Nat) (x_1 : Int)  : Nat → (NL Int) → Int → Option (NL Int)
  | 0, _, _ => none
  | k + 1, x_7, x_8 =>
    (shrI .i64 x_1 x_8).bind fun q_14 =>
    bif (q_14 != 0) then
      (shrI .i64 x_1 x_8).bind fun q_15 =>
      bif ((iand .i64 q_15 1) == 1) then
        (appL x_7.list [x_8]).bind fun ap_18 =>
        i_setOf_o_j1 F x_1 x_8 (i_setOf_o_l1 F x_1 k) (.of ap_18)
      else
        i_setOf_o_j1 F x_1 x_8 (i_setOf_o_l1 F x_1 k) x_7
    else
      some x_7
theorem t_f83o_l1 (H : H83o D σ F) (x_1 : Int)  : ∀ (k : Nat) (x_7 : (NL Int)) (x_8 : Int) (s : Nat → V), Facts [(0, (ji x_1)), (2, (.sl .nl (Enc.shp Int) 0 [])), (3, (oI 3 [] x_7)), (4, (ji x_8))] s → i_setOf_o_l1 F x_1 k x_7 x_8 = some r → Run D σ (R83o r) (.run A83o_1 [.lp A83o_1, .bk 0, .sq A83o_6]) s := by
  intro k
  induction k with
  | zero => intro x_7 x_8 s _ h; exact nomatch (h : (none : Option _) = some r)
  | succ k ih =>
    intro x_7 x_8 s hs h
    rw [i_setOf_o_l1] at h
    obtain ⟨h0, h2, h3, h4⟩ := hs
    refine .seq (.seq (rg (gm h0 fun h5 => gm h4 fun h6 => ?_)))
    obtain ⟨q_14, E_q_14, h⟩ := bind_some h
    refine gv (ji q_14) (ev_shr h5 h6 E_q_14) fun h7 => ?_
    refine g1 7 (jb (q_14 != 0)) h7 fun h8 => ?_
    refine gq (.nsq (run_cond (t := (q_14 != 0)) h8 h (fun h => ?_) (fun h => ?_)))
    · refine .skip (.nsq (.seq (.block (.seq (rg (gm h0 fun h11 => gm h4 fun h12 => ?_))))))
      obtain ⟨q_15, E_q_15, h⟩ := bind_some h
      refine gv (ji q_15) (ev_shr h11 h12 E_q_15) fun h13 => ?_
      refine g1 13 (ji (iand .i64 q_15 1)) h13 fun h14 => ?_
      refine g1 14 (jb ((iand .i64 q_15 1) == 1)) h14 fun h15 => ?_
      refine gq (.nsq (run_cond (t := ((iand .i64 q_15 1) == 1)) h15 h (fun h => ?_) (fun h => ?_)))
      · refine run_reg ?_
        refine e_clr ?_
        refine ez [(0, _), (2, _), (3, _), (4, _), (18, _), (19, _)] ⟨(keep_clear (pk := [18, 19]) h0 rfl mi), (keep_clear (pk := [18, 19]) h2 rfl rfl), (keep_clear (pk := [18, 19]) h3 rfl (map_encO (r := 3) (p := []) rfl rfl)), (keep_clear (pk := [18, 19]) h4 rfl mi), (gone_clear (pk := [18, 19]) (t := 18) rfl), (gone_clear (pk := [18, 19]) (t := 19) rfl)⟩ ?_
        rintro s ⟨h0, h2, h3, h4, h18, h19⟩
        refine gv (oI 3 [] x_7) (ev_mov h3 ok_encO) fun h16 => ?_
        refine gm h4 fun h17 => g_litL [(17, (ji x_8))] [Enc.enc (x_8 : Int)] h17 rfl rfl h18 ?_
        obtain ⟨ap_18, E_ap_18, h⟩ := bind_some h
        refine g_app (q := 3) (p := []) (o := (x_7 : NL Int)) (ys := ([x_8] : List Int)) (t2 := (.at 18 [])) (lo2 := 0) h16 rfl rfl h19 (appN_L (o := (x_7 : NL Int)) E_ap_18 (by split <;> simp)) (fun s_17 ha_17 => ?_)
        refine gm (rfl : (_ : V) = (oI 19 [] (.of ap_18))) fun h3 => ?_
        refine g_end ?_
        refine e_home (r := 19) (x := 3) (v := _) h3 rfl (fun s_18 hg_18 => ?_)
        refine ez [(0, (ji x_1)), (2, (.sl .nl (Enc.shp Int) 0 [])), (3, (oI 3 [] (.of ap_18))), (4, (ji x_8))] ⟨(hg_18 0 _ _ (show s_17 0 = (ji x_1) from keep_app ha_17 h0 mi) mi), (hg_18 2 _ (.sl .nl (Enc.shp Int) 0 []) (show s_17 2 = (.sl .nl (Enc.shp Int) 0 []) from keep_app ha_17 h2 rfl) rfl), (hg_18 3 _ _ h3 (map_encO (r := 19) (p := []) rfl rfl)), (hg_18 4 _ _ (show s_17 4 = (ji x_8) from keep_app ha_17 h4 mi) mi)⟩ ?_
        rintro s ⟨h0, h2, h3, h4⟩
        exact t_f83o_j1 H x_1 x_8 (i_setOf_o_l1 F x_1 k) ih (.of ap_18) _ ⟨h0, h2, h3, h4⟩ h
      refine .skip ?_
      exact t_f83o_j1 H x_1 x_8 (i_setOf_o_l1 F x_1 k) ih x_7 _ ⟨h0, h2, h3, h4⟩ h
    refine .exit (.esq (.elp (.ebk (.nsq (.seq (rg (gv (oI 3 [] x_7) (ev_mov h3 ok_encO) fun h20 => ?_)))))))
    refine gv (oI 3 [] x_7) (ev_mov h20 ok_encO) fun h2 => ?_
    refine g_end ?_
    refine e_home (r := 3) (x := 2) (v := _) h2 ok_encO (fun s_19 hg_19 => ?_)
    refine ez [(2, (oI 2 [] x_7))] (hg_19 2 _ _ h2 (map_encO (r := 3) (p := []) rfl rfl)) ?_
    rintro s h2
    refine .nsq (.ret ?_)
    have hr := Option.some.inj h
    subst hr
    exact rrA (res_tmp h2) (fin_retO (finO_own (o := (x_7 : NL Int))) rfl (mine_own rfl))
def i_setOf_o (F : Nat) (x_1 : Int) : Option (NL Int) :=
  i_setOf_o_l1 F x_1 F .nil 0
theorem t83o (H : H83o D σ F) (x_1 : Int) (s : Nat → V) (hs : Facts [(0, (ji x_1))] s) (h : i_setOf_o F x_1 = some r) : Run D σ (R83o r) (.run A83o []) s := by
  unfold i_setOf_o at h
  have h0 := hs
  refine .seq (rg (g0 (.sl .nl (Enc.shp Int) 0 []) fun h2 => ?_))
  refine gq (.nsq (.seq (rg (g0 (.sl .nl (Enc.shp Int) 0 []) fun h3 => ?_))))
  refine gq (.nsq (.seq (.seq (rg (g0 (ji 0) fun h4 => gq (.nsq (.block (.loop ?_))))))))
  exact t_f83o_l1 H x_1 F .nil 0 _ ⟨h0, h2, h3, h4⟩ h
end
def e83o (F : Nat) : Ent := ent 1000000083 (fun (x : (Int × Unit)) => i_setOf_o F x.1) (fun (r : (NL Int)) => (encO .sh (r : NL Int))) 1 false []
theorem p83o {F : Nat} {x0 : Int} {r : (NL Int)} (h : i_setOf_o F x0 = some r) : (e83o F).den [Enc.enc x0] = some (encO .sh (r : NL Int)) := ent_put (x0, ()) h
theorem o83o {D : Den} {σ : Sig} {F : Nat} (hF : Fits2 Try.prog D σ) (H : H83o D σ F) : (e83o F).Ok Try.prog := by
  refine ok_of (f := 83) (show unk 1000000083 = 83 from rfl) (fun args r h => ?_) ⟨Try.f83, Try.func83, rfl, rfl⟩
  obtain ⟨⟨x0, _⟩, y, rfl, hy, rfl⟩ := da_open h
  exact contract_run hF (by kernel_rfl) Try.func83 rfl c83o (show 1 ≤ Try.f83.ntmps by decide) (t83o H x0 _ rfl hy)
/- loop.example/g01109/impl.DecompositionOf$1 -/
def A102_1 : AC := (.seq (.reg [] [((jv 4 (.load .s (.t 1)))), (jm 5 0), ((jv 6 (.bin .shr (.t 4) (.t 5)))), ((jv 7 (.bin .and (.t 6) (jn 1)))), ((jv 8 (.bin .eql (.t 7) (jn 1)))), (jm 3 8)] []) .ret)
def A102 : AC := (.seq (.reg [] [((jv 3 (.mov (.k (.bool false)))))] []) A102_1)
def an102 : List An := []
theorem c102 : cC Try.prog Try.f102.ntmps an102 (Try.f102.body.getD .skip) = some A102 := by kernel_rfl
structure H102 (D : Den) (σ : Sig) (F : Nat) : Prop where
  mk ::
abbrev R102 (r : Bool) : (Nat → V) → Prop := RR Try.prog [.tmp 3] 0 false (Enc.enc (r : Bool))
section
variable {D : Den} {σ : Sig} {F : Nat} {r : Bool}
def i_DecompositionOf_1 (F : Nat) (x_1 : Int) (rf_2 : (Rf Int)) : Option Bool :=
  (shrI .i64 rf_2.v x_1).bind fun q_3 =>
  some ((iand .i64 q_3 1) == 1)
theorem t102 (H : H102 D σ F) (x_1 : Int) (rf_2 : (Rf Int)) (s : Nat → V) (hs : Facts [(0, (ji x_1)), (1, (.ref .sh 0 [] (ji rf_2.v)))] s) (h : i_DecompositionOf_1 F x_1 rf_2 = some r) : Run D σ (R102 r) (.run A102 []) s := by
  unfold i_DecompositionOf_1 at h
  obtain ⟨h0, h1⟩ := hs
  refine .seq (rg (g0 (jb false) fun h3 => ?_))
  refine gq (.nsq (.seq (rg (g1 1 (ji rf_2.v) h1 fun h4 => ?_))))
  refine gm h0 fun h5 => ?_
  obtain ⟨q_3, E_q_3, h⟩ := bind_some h
  refine gv (ji q_3) (ev_shr h4 h5 E_q_3) fun h6 => ?_
  refine g1 6 (ji (iand .i64 q_3 1)) h6 fun h7 => ?_
  refine g1 7 (jb ((iand .i64 q_3 1) == 1)) h7 fun h8 => ?_
  refine gm h8 fun h3 => gq (.nsq (.ret ?_))
  have hr := Option.some.inj h
  subst hr
  exact rrA (res_tmp h3) rfl
end
def e102 (F : Nat) : Ent := ent 102 (fun (x : (Int × (Rf Int) × Unit)) => i_DecompositionOf_1 F x.1 x.2.1) (fun (r : Bool) => (Enc.enc (r : Bool))) 0 false []
theorem p102 {F : Nat} {x0 : Int} {x1 : (Rf Int)} {r : Bool} (h : i_DecompositionOf_1 F x0 x1 = some r) : (e102 F).den [Enc.enc x0, Arg.arg x1] = some (Enc.enc (r : Bool)) := ent_put (x0, x1, ()) h
theorem o102 {D : Den} {σ : Sig} {F : Nat} (hF : Fits2 Try.prog D σ) (H : H102 D σ F) : (e102 F).Ok Try.prog := by
  refine ok_of (f := 102) (show unk 102 = 102 from rfl) (fun args r h => ?_) ⟨Try.f102, Try.func102, rfl, rfl⟩
  obtain ⟨⟨x0, x1, _⟩, y, rfl, hy, rfl⟩ := da_open h
  exact contract_run hF (by kernel_rfl) Try.func102 rfl c102 (show 2 ≤ Try.f102.ntmps by decide) (t102 H x0 x1 _ ⟨rfl, rfl⟩ hy)
/- slices.IndexFunc[[]int,int] -/
def A101s1_5 : AC := (.cond (.t 16) (.seq (.reg [] [(jm 17 5), (jm 4 17)] []) .ret) .skip)
def A101s1_4 : AC := (.seq (.reg [] [(jm 11 1), (jm 12 0), (jm 13 5), ((jv 14 (.idx (.t 12) (.t 13) 1))), ((jv 15 (.load .s (.t 14)))), (.mk (some 16) none false (.call (.t 11) [(.t 15)]))] []) A101s1_5)
def A101s1_6 : AC := (.reg [] [((jv 18 (.bin .add (.t 8) (jn 1)))), (jm 8 18)] [])
def A101s1_3 : AC := (.seq (.block 1 (.seq (.reg [] [(jm 10 8), (jm 5 10)] []) A101s1_4)) A101s1_6)
def A101s1_2 : AC := (.seq (.cond (.t 9) .skip (.exit 0)) A101s1_3)
def A101s1_1 : AC := (.seq (.reg [] [((jv 9 (.bin .lss (.t 8) (.t 7))))] []) A101s1_2)
def A101s1_7 : AC := (.seq (.reg [] [((jv 4 (.mov (jn (-1)))))] []) .ret)
def A101s1_9 : AC := (.block 0 (.loop A101s1_1))
def A101s1_8 : AC := (.seq (.seq (.reg [] [(jm 6 0), ((jv 7 (.len (.t 6)))), ((jv 8 (.mov (jn 0))))] []) A101s1_9) A101s1_7)
def A101s1 : AC := (.seq (.reg [] [((jv 4 (.mov (jn 0))))] []) A101s1_8)
def an101s1 : List An := []
theorem c101s1 : cC Try.prog Try.f101.ntmps an101s1 (Try.f101.body.getD .skip) = some A101s1 := by kernel_rfl
structure H101s1 (D : Den) (σ : Sig) (F : Nat) : Prop where
  c102 : ∀ (x0 : Int) (x1 : (Rf Int)) r, i_DecompositionOf_1 F x0 x1 = some r → D 102 [Enc.enc x0, Arg.arg x1] = some (Enc.enc (r : Bool))
  g102 : σ 102 = some (0, false)
abbrev R101s1 (r : Int) : (Nat → V) → Prop := RR Try.prog [.tmp 4] 0 false (Enc.enc (r : Int))
section
variable {D : Den} {σ : Sig} {F : Nat} {r : Int}
def slices_IndexFunc_of_i_DecompositionOf_1_l1 (F : Nat) (x_1 : (List Int)) (x_2 : (Cl 102 Unit ((Rf Int) × Unit)))  : Nat → Int → Option Int
  | 0, _ => none
  | k + 1, x_5 =>
    bif decide (x_5 < (x_1.length : Int)) then
      (idx x_1 x_5).bind fun e_8 =>
      (i_DecompositionOf_1 F e_8 x_2.env.1).bind fun r_9 =>
      bif r_9 then
        some x_5
      else
        (slices_IndexFunc_of_i_DecompositionOf_1_l1 F x_1 x_2 k) (w64 (x_5 + 1))
    else
      some (-1)
theorem t_f101s1_l1 (H : H101s1 D σ F) (x_1 : (List Int)) (x_2 : (Cl 102 Unit ((Rf Int) × Unit)))  : ∀ (k : Nat) (x_5 : Int) (s : Nat → V), Facts [(0, (eL x_1)), (1, (.fn 102 [] [(.ref .sh 0 [] (ji x_2.env.1.v))])), (4, (ji 0)), (7, (ji (x_1.length : Int))), (8, (ji x_5))] s → slices_IndexFunc_of_i_DecompositionOf_1_l1 F x_1 x_2 k x_5 = some r → Run D σ (R101s1 r) (.run A101s1_1 [.lp A101s1_1, .bk 0, .sq A101s1_7]) s := by
  intro k
  induction k with
  | zero => intro x_5 s _ h; exact nomatch (h : (none : Option _) = some r)
  | succ k ih =>
    intro x_5 s hs h
    rw [slices_IndexFunc_of_i_DecompositionOf_1_l1] at h
    obtain ⟨h0, h1, h4, h7, h8⟩ := hs
    refine .seq (rg (g2 8 7 (jb (decide (x_5 < (x_1.length : Int)))) h8 h7 fun h9 => ?_))
    refine gq (.nsq (.seq (run_cond (t := decide (x_5 < (x_1.length : Int))) h9 h (fun h => ?_) (fun h => ?_))))
    · refine .skip (.nsq (.seq (.block (.seq (rg (gm h8 fun h10 => gm h10 fun h5 => gq (.nsq (.seq (rg (gm h1 fun h11 => gm h0 fun h12 => gm h5 fun h13 => ?_))))))))))
      obtain ⟨e_8, E_e_8, h⟩ := bind_some h
      refine gv (.ref .sh 0 [] (ji e_8)) (ev_idx (t := .sh) (lo := 0) (xs := x_1) h12 h13 E_e_8 rfl rfl) fun h14 => ?_
      refine g1 14 (ji e_8) h14 fun h15 => ?_
      obtain ⟨r_9, E_r_9, h⟩ := bind_some h
      refine g_callF (m := 0) (al := false) (r := (Enc.enc (r_9 : Bool))) (fs := []) (env := [(.ref .sh 0 [] (ji x_2.env.1.v))]) (us := []) (ws := [Arg.arg (x_2.env.1 : (Rf Int))]) h11 erases_nil (erases_cons (erase_ref rfl) erases_nil) rfl [Enc.enc (e_8 : Int)] (ta_cons (v := (ji e_8)) h15 rfl rfl ta_nil) (H.c102 _ _ _ E_r_9) H.g102 rfl rfl rfl rfl ?_
      refine gq (.nsq (run_cond (t := r_9) rfl h (fun h => ?_) (fun h => ?_)))
      · refine .seq (rg (gm h5 fun h17 => gm h17 fun h4 => gq (.nsq (.ret ?_))))
        have hr := Option.some.inj h
        subst hr
        exact rrA (res_tmp h4) rfl
      refine .skip (.nbk (.nsq (rg (g1 8 (ji (w64 (x_5 + 1))) h8 fun h18 => ?_))))
      refine gm h18 fun h8 => gq (.nlp ?_)
      exact ih (w64 (x_5 + 1)) _ ⟨h0, h1, h4, h7, h8⟩ h
    refine .exit (.esq (.elp (.ebk (.nsq (.seq (rg (g0 (ji (-1)) fun h4 => ?_)))))))
    refine gq (.nsq (.ret ?_))
    have hr := Option.some.inj h
    subst hr
    exact rrA (res_tmp h4) rfl
def slices_IndexFunc_of_i_DecompositionOf_1 (F : Nat) (x_1 : (List Int)) (x_2 : (Cl 102 Unit ((Rf Int) × Unit))) : Option Int :=
  slices_IndexFunc_of_i_DecompositionOf_1_l1 F x_1 x_2 F 0
theorem t101s1 (H : H101s1 D σ F) (x_1 : (List Int)) (x_2 : (Cl 102 Unit ((Rf Int) × Unit))) (s : Nat → V) (hs : Facts [(0, (eL x_1)), (1, (.fn 102 [] [(.ref .sh 0 [] (ji x_2.env.1.v))]))] s) (h : slices_IndexFunc_of_i_DecompositionOf_1 F x_1 x_2 = some r) : Run D σ (R101s1 r) (.run A101s1 []) s := by
  unfold slices_IndexFunc_of_i_DecompositionOf_1 at h
  obtain ⟨h0, h1⟩ := hs
  refine .seq (rg (g0 (ji 0) fun h4 => gq (.nsq (.seq (.seq (rg (gm h0 fun h6 => gv (ji (x_1.length : Int)) (ev_len (xs := x_1) h6) fun h7 => ?_)))))))
  refine g0 (ji 0) fun h8 => gq (.nsq (.block (.loop ?_)))
  exact t_f101s1_l1 H x_1 x_2 F 0 _ ⟨h0, h1, h4, h7, h8⟩ h
end
def e101s1 (F : Nat) : Ent := ent 101 (fun (x : ((List Int) × (Cl 102 Unit ((Rf Int) × Unit)) × Unit)) => slices_IndexFunc_of_i_DecompositionOf_1 F x.1 x.2.1) (fun (r : Int) => (Enc.enc (r : Int))) 0 false [(1, 102)]
theorem p101s1 {F : Nat} {x0 : (List Int)} {x1 : (Cl 102 Unit ((Rf Int) × Unit))} {r : Int} (h : slices_IndexFunc_of_i_DecompositionOf_1 F x0 x1 = some r) : (e101s1 F).den [Enc.enc x0, Arg.arg x1] = some (Enc.enc (r : Int)) := ent_put (x0, x1, ()) h
theorem o101s1 {D : Den} {σ : Sig} {F : Nat} (hF : Fits2 Try.prog D σ) (H : H101s1 D σ F) : (e101s1 F).Ok Try.prog := by
  refine ok_of (f := 101) (show unk 101 = 101 from rfl) (fun args r h => ?_) ⟨Try.f101, Try.func101, rfl, rfl⟩
  obtain ⟨⟨x0, x1, _⟩, y, rfl, hy, rfl⟩ := da_open h
  exact contract_run hF (by kernel_rfl) Try.func101 rfl c101s1 (show 2 ≤ Try.f101.ntmps by decide) (t101s1 H x0 x1 _ ⟨rfl, rfl⟩ hy)
/- loop.example/g01109/impl.DecompositionOf -/
def A44o_6 : AC := (.cond (.t 52) (.exit 0) .skip)
def A44o_9 : AC := (.cond (.t 56) (.reg [] [(jm 57 1), ((jv 58 (.fn 102 [] [(.t 8)]))), (.mk (some 59) none false (.call (.k (.fn 101 [] [])) [(.t 57), (.t 58)])), (jm 9 59)] []) .skip)
def A44o_10 : AC := (.reg [.clr [65, 66]] [((jv 60 (.fld (.t 6) 1 1))), ((jv 61 (.load .p (.t 60)))), (jm 62 7), (jm 63 9), ((jv 64 (.bld (.agg [(.int .i64 (.ofNat 0)), (.int .i64 (.ofNat 0))]) [(0, 0, (.t 62)), (1, 1, (.t 63))]))), (.mk (some 65) none false (.lit (.agg [(.int .i64 (.ofNat 0)), (.int .i64 (.ofNat 0))]) 1 [(0, 0, (.t 64))])), (.mk (some 66) none false (.app (.ag [.s, .s]) (.t 61) (.t 65))), ((jv 67 (.fld (.t 6) 1 1))), (.mk none none false (.store .p (.t 67) (.t 66)))] [.drp 2121, .home 66 2121])
def A44o_8 : AC := (.seq (.seq (.reg [] [((jv 55 (.load .s (.t 8)))), ((jv 56 (.bin .neq (.t 55) (jn 0))))] []) A44o_9) A44o_10)
def A44o_7 : AC := (.seq (.reg [] [(jm 53 7), ((jv 54 (.bin .add (.t 53) (jn 1)))), (jm 9 54)] []) A44o_8)
def A44o_5 : AC := (.seq (.seq (.reg [] [(jm 48 7), ((jv 49 (.fld (.t 2) 0 0))), ((jv 50 (.load .s (.t 49)))), ((jv 51 (.bin .sub (.t 50) (jn 1)))), ((jv 52 (.bin .eql (.t 48) (.t 51))))] []) A44o_6) A44o_7)
def A44o_4 : AC := (.seq (.reg [.clr [44, 45, 46]] [((jv 35 (.fld (.t 6) 0 0))), ((jv 36 (.load .p (.t 35)))), ((jv 37 (.load .s (.t 8)))), (jm 38 1), (jm 39 7), ((jv 40 (.idx (.t 38) (.t 39) 1))), ((jv 41 (.load .s (.t 40)))), ((jv 42 (.bin .shl (jn 1) (.t 41)))), ((jv 43 (.bin .or (.t 37) (.t 42)))), (.mk (some 44) none false (.callO (.k (.fn 83 [] [])) [(.t 43)])), (.mk (some 45) none false (.lit (.sl .nl .s 0 []) 1 [(0, 0, (.t 44))])), (.mk (some 46) none false (.app .p (.t 36) (.t 45))), ((jv 47 (.fld (.t 6) 0 0))), (.mk none none false (.store .p (.t 47) (.t 46)))] [.can 46, .drp 2120, .home 46 2120]) A44o_5)
def A44o_11 : AC := (.reg [] [((jv 68 (.bin .add (.t 30) (jn 1)))), (jm 30 68)] [])
def A44o_3 : AC := (.seq (.block 1 (.seq (.reg [.clr [8]] [(jm 32 30), ((jv 33 (.idx (.t 28) (.t 30) 1))), ((jv 34 (.load .s (.t 33)))), (.mk (some 8) none false (.alloc (.int .i64 (.ofNat 0)))), (jm 7 32), (.mk none none false (.store .s (.t 8) (.t 34)))] []) A44o_4)) A44o_11)
def A44o_2 : AC := (.seq (.cond (.t 31) .skip (.exit 0)) A44o_3)
def A44o_1 : AC := (.seq (.reg [] [((jv 31 (.bin .lss (.t 30) (.t 29))))] []) A44o_2)
def A44o_12 : AC := (.seq (.reg [] [((jv 69 (.load (.ag [.p, .p]) (.t 6)))), (.mk none none false (.store (.ag [.p, .p]) (.t 4) (.t 69))), ((jv 5 (.mov (.k (.bool true)))))] []) .ret)
def A44o_13 : AC := (.cond (.t 23) (.seq (.reg [] [((jv 24 (.bld (.agg [(.sl .nl .p 0 []), (.sl .nl (.ag [.s, .s]) 0 [])]) []))), (.mk none none false (.store (.ag [.p, .p]) (.t 4) (.t 24))), ((jv 5 (.mov (.k (.bool false)))))] []) .ret) .skip)
def A44o_16 : AC := (.block 0 (.loop A44o_1))
def A44o_15 : AC := (.seq (.seq (.reg [] [((jv 25 (.load (.ag [.s, .p]) (.t 2)))), (.mk (some 26) none false (.call (.k (.fn 65 [] [])) [(.t 25)])), (jm 27 1), (.mk (some 28) none false (.call (.k (.fn 100 [] [])) [(.t 26), (.t 27)])), ((jv 29 (.len (.t 28)))), ((jv 30 (.mov (jn 0))))] []) A44o_16) A44o_12)
def A44o_14 : AC := (.seq (.reg [.clr [6]] [(.mk (some 6) none false (.alloc (.agg [(.sl .nl .p 0 []), (.sl .nl (.ag [.s, .s]) 0 [])])))] []) A44o_15)
def A44o_17 : AC := (.seq (.seq (.reg [] [((jv 10 (.load (.ag [.s, .p]) (.t 2)))), (.mk (some 11) none false (.call (.k (.fn 63 [] [])) [(.t 10)])), ((jv 12 (.un .not (.t 11)))), (jm 13 12), ((jg 14 13 false (.load (.ag [.s, .p]) (.t 2)))), ((jg 15 13 false (.mov (.t 1)))), (.mk (some 16) (some (13, false)) false (.call (.k (.fn 64 [] [])) [(.t 14), (.t 15)])), ((jg 17 13 false (.un .not (.t 16)))), ((jv 18 (.pick (.t 13) (.k (.bool true)) (.t 17)))), (jm 19 18), ((jg 20 19 false (.fld (.t 2) 0 0))), ((jg 21 19 false (.load .s (.t 20)))), ((jg 22 19 false (.bin .eql (.t 21) (jn 0)))), ((jv 23 (.pick (.t 19) (.k (.bool true)) (.t 22))))] []) A44o_13) A44o_14)
def A44o : AC := (.seq (.reg [.clr [2, 4]] [(.mk (some 2) none false (.box (.t 0))), (.mk (some 4) none false (.alloc (.agg [(.sl .nl .p 0 []), (.sl .nl (.ag [.s, .s]) 0 [])]))), ((jv 5 (.mov (.k (.bool false)))))] []) A44o_17)
def an44o : List An := [{ id := 0, pre := [.clr [2, 4]], ep := [], lin := [], sp := [] }, { id := 3, pre := [.clr [6]], ep := [], lin := [], sp := [] }, { id := 6, pre := [.clr [8]], ep := [], lin := [], sp := [] }, { id := 7, pre := [.clr [44, 45, 46]], ep := [.can 46, .drp 2120, .home 46 2120], lin := [], sp := [1009] }, { id := 12, pre := [.clr [65, 66]], ep := [.drp 2121, .home 66 2121], lin := [], sp := [] }]
theorem c44o : cC Try.prog Try.f44.ntmps an44o (Try.f44.body.getD .skip) = some A44o := by kernel_rfl
structure H44o (D : Den) (σ : Sig) (F : Nat) : Prop where
  c63 : ∀ (x0 : (Int × (List (Int × Int)))) r, i_IsGraph F x0 = some r → D 63 [Enc.enc x0] = some (Enc.enc (r : Bool))
  g63 : σ 63 = some (0, false)
  c64 : ∀ (x0 : (Int × (List (Int × Int)))) (x1 : (List Int)) r, i_isOrder F x0 x1 = some r → D 64 [Enc.enc x0, Enc.enc x1] = some (Enc.enc (r : Bool))
  g64 : σ 64 = some (0, false)
  c65 : ∀ (x0 : (Int × (List (Int × Int)))) r, i_netOf F x0 = some r → D 65 [Enc.enc x0] = some (Enc.enc (r : (S1 (List Int))))
  g65 : σ 65 = some (0, false)
  c100 : ∀ (x0 : (S1 (List Int))) (x1 : (List Int)) r, i_net_neighborsBehind F x0 x1 = some r → D 100 [Enc.enc x0, Enc.enc x1] = some (Enc.enc (r : (List Int)))
  g100 : σ 100 = some (0, false)
  c83o : ∀ (x0 : Int) r, i_setOf_o F x0 = some r → D 1000000083 [Enc.enc x0] = some (encO .sh (r : NL Int))
  g83o : σ 1000000083 = some (1, false)
  c101s1 : ∀ (x0 : (List Int)) (x1 : (Cl 102 Unit ((Rf Int) × Unit))) r, slices_IndexFunc_of_i_DecompositionOf_1 F x0 x1 = some r → D 101 [Enc.enc x0, Arg.arg x1] = some (Enc.enc (r : Int))
  g101s1 : σ 101 = some (0, false)
abbrev R44o (r : (((NL (NL Int)) × (NL (Int × Int))) × Bool)) : (Nat → V) → Prop := RR Try.prog [.cell 4 49, .tmp 5] 2 false (.tup [(.agg [(encNs (r.1.1 : NL (NL Int))), (encO .sh (r.1.2 : NL (Int × Int)))]), (Enc.enc (r.2 : Bool))])
section
variable {D : Den} {σ : Sig} {F : Nat} {r : (((NL (NL Int)) × (NL (Int × Int))) × Bool)}
def i_DecompositionOf_o_j1 (F : Nat) (x_2 : (List Int)) (x_1 : (Int × (List (Int × Int)))) (ap_33 : (List (NL Int))) (x_18 : (NL (Int × Int))) (x_19 : Int) (r_7 : (List Int)) (c1 : (NL (NL Int)) → (NL (Int × Int)) → Int → Option (((NL (NL Int)) × (NL (Int × Int))) × Bool)) (x_35 : Int) : Option (((NL (NL Int)) × (NL (Int × Int))) × Bool) :=
  (appL x_18.list [(x_19, x_35)]).bind fun ap_36 =>
  c1 (.of ap_33) (.of ap_36) (w64 (x_19 + 1))
theorem t_f44o_j1 (H : H44o D σ F) (x_2 : (List Int)) (x_1 : (Int × (List (Int × Int)))) (ap_33 : (List (NL Int))) (x_18 : (NL (Int × Int))) (x_19 : Int) (r_7 : (List Int)) (c1 : (NL (NL Int)) → (NL (Int × Int)) → Int → Option (((NL (NL Int)) × (NL (Int × Int))) × Bool)) (Hc1 : ∀ (x_17 : (NL (NL Int))) (x_18 : (NL (Int × Int))) (x_19 : Int) (s : Nat → V), Facts [(1, (eL x_2)), (2, (.ref (.bx 2) 0 [] (.agg [(ji x_1.1), (Enc.enc (x_1.2 : List (Int × Int)))]))), (4, (.ref (.bx 4) 0 [] (.agg [(.sl .nl (Enc.shp (List Int)) 0 []), (.sl .nl (Enc.shp (Int × Int)) 0 [])]))), (5, (jb false)), (6, (.ref (.bx 6) 0 [] (.agg [(encN 2120 [] (x_17 : NL (NL Int))), (encO (.at 2121 []) (x_18 : NL (Int × Int)))]))), (28, (eL r_7)), (29, (ji (r_7.length : Int))), (30, (ji x_19))] s → c1 x_17 x_18 x_19 = some r → Run D σ (R44o r) (.run A44o_1 [.lp A44o_1, .bk 0, .sq A44o_12]) s) (x_35 : Int) (s : Nat → V) (hs : Facts [(1, (eL x_2)), (2, (.ref (.bx 2) 0 [] (.agg [(ji x_1.1), (Enc.enc (x_1.2 : List (Int × Int)))]))), (4, (.ref (.bx 4) 0 [] (.agg [(.sl .nl (Enc.shp (List Int)) 0 []), (.sl .nl (Enc.shp (Int × Int)) 0 [])]))), (5, (jb false)), (6, (.ref (.bx 6) 0 [] (.agg [(encN 2120 [] (.of (ap_33 : List (NL Int)) : NL (NL Int))), (encO (.at 2121 []) (x_18 : NL (Int × Int)))]))), (7, (ji x_19)), (9, (ji x_35)), (28, (eL r_7)), (29, (ji (r_7.length : Int))), (30, (ji x_19))] s) (h : i_DecompositionOf_o_j1 F x_2 x_1 ap_33 x_18 x_19 r_7 c1 x_35 = some r) : Run D σ (R44o r) (.nrm [.sq A44o_10, .bk 1, .sq A44o_11, .lp A44o_1, .bk 0, .sq A44o_12]) s := by
  unfold i_DecompositionOf_o_j1 at h
  obtain ⟨h1, h2, h4, h5, h6, h7, h9, h28, h29, h30⟩ := hs
  refine .nsq (run_reg ?_)
  refine e_clr ?_
  refine ez [(1, _), (2, _), (4, _), (5, _), (6, _), (7, _), (9, _), (28, _), (29, _), (30, _), (65, _), (66, _)] ⟨(keep_clear (pk := [65, 66]) h1 rfl me), (keep_clear (pk := [65, 66]) h2 rfl (map_bx rfl (map_agg (maps_cons mi (maps_cons me maps_nil))))), (keep_clear (pk := [65, 66]) h4 rfl (map_bx rfl (map_agg (maps_cons rfl (maps_cons rfl maps_nil))))), (keep_clear (pk := [65, 66]) h5 rfl mb), (keep_clear (pk := [65, 66]) h6 rfl (map_bx rfl (map_agg (maps_cons (map_encN (r := 2120) (p := []) rfl (fun _ => rfl) rfl) (maps_cons (map_encO (r := 2121) (p := []) rfl rfl) maps_nil))))), (keep_clear (pk := [65, 66]) h7 rfl mi), (keep_clear (pk := [65, 66]) h9 rfl mi), (keep_clear (pk := [65, 66]) h28 rfl me), (keep_clear (pk := [65, 66]) h29 rfl mi), (keep_clear (pk := [65, 66]) h30 rfl mi), (gone_clear (pk := [65, 66]) (t := 65) rfl), (gone_clear (pk := [65, 66]) (t := 66) rfl)⟩ ?_
  rintro s ⟨h1, h2, h4, h5, h6, h7, h9, h28, h29, h30, h65, h66⟩
  refine g1 6 (.ref (.bx 6) 0 [1] (encO (.at 2121 []) (x_18 : NL (Int × Int)))) h6 fun h60 => ?_
  refine gv (encO (.at 2121 []) (x_18 : NL (Int × Int))) (ev_loadN h60 beq_encO) fun h61 => ?_
  refine gm h7 fun h62 => gm h9 fun h63 => g2 62 63 (.agg [(ji x_19), (ji x_35)]) h62 h63 fun h64 => ?_
  refine g_litL [(64, (.agg [(ji x_19), (ji x_35)]))] [Enc.enc ((x_19, x_35) : (Int × Int))] h64 rfl rfl h65 ?_
  obtain ⟨ap_36, E_ap_36, h⟩ := bind_some h
  refine g_app (q := 2121) (p := []) (o := (x_18 : NL (Int × Int))) (ys := ([(x_19, x_35)] : List (Int × Int))) (t2 := (.at 65 [])) (lo2 := 0) h61 rfl rfl h66 (appN_L (o := (x_18 : NL (Int × Int))) E_ap_36 (by split <;> simp)) (fun s_30 ha_30 => ?_)
  refine g1 6 (.ref (.bx 6) 0 [1] (kdO (x_18 : NL (Int × Int)))) (show s_30 6 = (.ref (.bx 6) 0 [] (.agg [(encN 2120 [] (.of (ap_33 : List (NL Int)) : NL (NL Int))), (kdO (x_18 : NL (Int × Int)))])) from keep_appK ha_30 h6 (map_bx rfl (map_agg (maps_cons (map_encN (r := 2120) (p := []) rfl (fun _ => rfl) rfl) (maps_cons map_kdT maps_nil)))) (by intro h; first | (cases h; done) | (subst h; rfl))) fun h67 => ?_
  refine g_store (encO (.at 66 []) (.of (ap_36 : List (Int × Int)))) (rd_of h67 rfl) (rd_of rfl rfl) ⟨by decide, by decide, rfl, rfl, shp_kdO, tok_encP rfl rfl⟩ ?_
  refine g_end ?_
  refine e_drp (x := 2121) (fun s_31 hx_31 hd_31 => ?_)
  refine e_home (r := 66) (x := 2121) (v := _) (by exact hx_31) rfl (fun s_32 hg_32 => ?_)
  refine ez [(1, (eL x_2)), (2, (.ref (.bx 2) 0 [] (.agg [(ji x_1.1), (Enc.enc (x_1.2 : List (Int × Int)))]))), (4, (.ref (.bx 4) 0 [] (.agg [(.sl .nl (Enc.shp (List Int)) 0 []), (.sl .nl (Enc.shp (Int × Int)) 0 [])]))), (5, (jb false)), (6, (.ref (.bx 6) 0 [] (.agg [(encN 2120 [] (.of (ap_33 : List (NL Int)) : NL (NL Int))), (encO (.at 2121 []) (.of (ap_36 : List (Int × Int))))]))), (28, (eL r_7)), (29, (ji (r_7.length : Int))), (30, (ji x_19))] ⟨(hg_32 1 _ _ (show s_31 1 = (eL x_2) from (hd_31 1 (by decide)).trans (keep_mut (show s_30 1 = (eL x_2) from keep_app ha_30 h1 me) (Enc.mut_enc _ _ _ _ (x_2 : List Int)))) me), (hg_32 2 _ _ (show s_31 2 = (.ref (.bx 2) 0 [] (.agg [(ji x_1.1), (Enc.enc (x_1.2 : List (Int × Int)))])) from (hd_31 2 (by decide)).trans (keep_mut (show s_30 2 = (.ref (.bx 2) 0 [] (.agg [(ji x_1.1), (Enc.enc (x_1.2 : List (Int × Int)))])) from keep_app ha_30 h2 (map_bx rfl (map_agg (maps_cons mi (maps_cons me maps_nil))))) (mut_ref_ne rfl rfl (mut_agg (muts_cons rfl (muts_cons (Enc.mut_enc _ _ _ _ (x_1.2 : List (Int × Int))) rfl)))))) (map_bx rfl (map_agg (maps_cons mi (maps_cons me maps_nil))))), (hg_32 4 _ _ (show s_31 4 = (.ref (.bx 4) 0 [] (.agg [(.sl .nl (Enc.shp (List Int)) 0 []), (.sl .nl (Enc.shp (Int × Int)) 0 [])])) from (hd_31 4 (by decide)).trans (keep_mut (show s_30 4 = (.ref (.bx 4) 0 [] (.agg [(.sl .nl (Enc.shp (List Int)) 0 []), (.sl .nl (Enc.shp (Int × Int)) 0 [])])) from keep_app ha_30 h4 (map_bx rfl (map_agg (maps_cons rfl (maps_cons rfl maps_nil))))) (mut_ref_ne rfl rfl (mut_agg (muts_cons rfl (muts_cons rfl rfl)))))) (map_bx rfl (map_agg (maps_cons rfl (maps_cons rfl maps_nil))))), (hg_32 5 _ _ (show s_31 5 = (jb false) from (hd_31 5 (by decide)).trans (keep_mut (show s_30 5 = (jb false) from keep_app ha_30 h5 mb) rfl)) mb), (hg_32 6 _ (.ref (.bx 6) 0 [] (.agg [(encN 2120 [] (.of (ap_33 : List (NL Int)) : NL (NL Int))), (encO (.at 2121 []) (.of (ap_36 : List (Int × Int))))])) (show s_31 6 = (.ref (.bx 6) 0 [] (.agg [(encN 2120 [] (.of (ap_33 : List (NL Int)) : NL (NL Int))), (encO (.at 66 []) (.of (ap_36 : List (Int × Int))))])) from (hd_31 6 (by decide)).trans (keep_mut (show s_30 6 = (.ref (.bx 6) 0 [] (.agg [(encN 2120 [] (.of (ap_33 : List (NL Int)) : NL (NL Int))), (kdO (x_18 : NL (Int × Int)))])) from keep_appK ha_30 h6 (map_bx rfl (map_agg (maps_cons (map_encN (r := 2120) (p := []) rfl (fun _ => rfl) rfl) (maps_cons map_kdT maps_nil)))) (by intro h; first | (cases h; done) | (subst h; rfl))) (mut_bxf (muts_cons (mut_N_ne rfl (fun _ => rfl) rfl) (muts_cons mut_kdO rfl))))) (map_bx rfl (map_agg (maps_cons (map_encN (r := 2120) (p := []) rfl (fun _ => rfl) rfl) (maps_cons (map_encO (r := 66) (p := []) rfl rfl) maps_nil))))), (hg_32 28 _ _ (show s_31 28 = (eL r_7) from (hd_31 28 (by decide)).trans (keep_mut (show s_30 28 = (eL r_7) from keep_app ha_30 h28 me) (Enc.mut_enc _ _ _ _ (r_7 : List Int)))) me), (hg_32 29 _ _ (show s_31 29 = (ji (r_7.length : Int)) from (hd_31 29 (by decide)).trans (keep_mut (show s_30 29 = (ji (r_7.length : Int)) from keep_app ha_30 h29 mi) rfl)) mi), (hg_32 30 _ _ (show s_31 30 = (ji x_19) from (hd_31 30 (by decide)).trans (keep_mut (show s_30 30 = (ji x_19) from keep_app ha_30 h30 mi) rfl)) mi)⟩ ?_
  rintro s ⟨h1, h2, h4, h5, h6, h28, h29, h30⟩
  refine .nbk (.nsq (rg (g1 30 (ji (w64 (x_19 + 1))) h30 fun h68 => ?_)))
  refine gm h68 fun h30 => gq (.nlp ?_)
  exact Hc1 (.of ap_33) (.of ap_36) (w64 (x_19 + 1)) _ ⟨h1, h2, h4, h5, h6, h28, h29, h30⟩ h
def i_DecompositionOf_o_l1 (F : Nat) (x_2 : (List Int)) (x_1 : (Int × (List (Int × Int)))) (r_7 : (List Int))  : Nat → (NL (NL Int)) → (NL (Int × Int)) → Int → Option (((NL (NL Int)) × (NL (Int × Int))) × Bool)
  | 0, _, _, _ => none
  | k + 1, x_17, x_18, x_19 =>
    bif decide (x_19 < (r_7.length : Int)) then
      (idx r_7 x_19).bind fun e_29 =>
      (idx x_2 x_19).bind fun e_30 =>
      (shlI .i64 1 e_30).bind fun q_31 =>
      (i_setOf_o F (ior .i64 e_29 q_31)).bind fun r_32 =>
      (appL x_17.list [r_32]).bind fun ap_33 =>
      bif (x_19 == (w64 (x_1.1 - 1))) then
        some (((.of ap_33), x_18), true)
      else
        bif (e_29 != 0) then
          (slices_IndexFunc_of_i_DecompositionOf_1 F x_2 (Cl.mk () ((Rf.mk e_29 : (Rf Int)), ()) : (Cl 102 Unit ((Rf Int) × Unit)))).bind fun r_37 =>
          i_DecompositionOf_o_j1 F x_2 x_1 ap_33 x_18 x_19 r_7 (i_DecompositionOf_o_l1 F x_2 x_1 r_7 k) r_37
        else
          i_DecompositionOf_o_j1 F x_2 x_1 ap_33 x_18 x_19 r_7 (i_DecompositionOf_o_l1 F x_2 x_1 r_7 k) (w64 (x_19 + 1))
    else
      some ((x_17, x_18), true)
theorem t_f44o_l1 (H : H44o D σ F) (x_2 : (List Int)) (x_1 : (Int × (List (Int × Int)))) (r_7 : (List Int))  : ∀ (k : Nat) (x_17 : (NL (NL Int))) (x_18 : (NL (Int × Int))) (x_19 : Int) (s : Nat → V), Facts [(1, (eL x_2)), (2, (.ref (.bx 2) 0 [] (.agg [(ji x_1.1), (Enc.enc (x_1.2 : List (Int × Int)))]))), (4, (.ref (.bx 4) 0 [] (.agg [(.sl .nl (Enc.shp (List Int)) 0 []), (.sl .nl (Enc.shp (Int × Int)) 0 [])]))), (5, (jb false)), (6, (.ref (.bx 6) 0 [] (.agg [(encN 2120 [] (x_17 : NL (NL Int))), (encO (.at 2121 []) (x_18 : NL (Int × Int)))]))), (28, (eL r_7)), (29, (ji (r_7.length : Int))), (30, (ji x_19))] s → i_DecompositionOf_o_l1 F x_2 x_1 r_7 k x_17 x_18 x_19 = some r → Run D σ (R44o r) (.run A44o_1 [.lp A44o_1, .bk 0, .sq A44o_12]) s := by
  intro k
  induction k with
  | zero => intro x_17 x_18 x_19 s _ h; exact nomatch (h : (none : Option _) = some r)
  | succ k ih =>
    intro x_17 x_18 x_19 s hs h
    rw [i_DecompositionOf_o_l1] at h
    obtain ⟨h1, h2, h4, h5, h6, h28, h29, h30⟩ := hs
    refine .seq (rg (g2 30 29 (jb (decide (x_19 < (r_7.length : Int)))) h30 h29 fun h31 => ?_))
    refine gq (.nsq (.seq (run_cond (t := decide (x_19 < (r_7.length : Int))) h31 h (fun h => ?_) (fun h => ?_))))
    · refine .skip (.nsq (.seq (.block (.seq (run_reg ?_)))))
      refine e_clr ?_
      refine ez [(1, _), (2, _), (4, _), (5, _), (6, _), (8, _), (28, _), (29, _), (30, _)] ⟨(keep_clear (pk := [8]) h1 rfl me), (keep_clear (pk := [8]) h2 rfl (map_bx rfl (map_agg (maps_cons mi (maps_cons me maps_nil))))), (keep_clear (pk := [8]) h4 rfl (map_bx rfl (map_agg (maps_cons rfl (maps_cons rfl maps_nil))))), (keep_clear (pk := [8]) h5 rfl mb), (keep_clear (pk := [8]) h6 rfl (map_bx rfl (map_agg (maps_cons (map_encN (r := 2120) (p := []) rfl (fun _ => rfl) rfl) (maps_cons (map_encO (r := 2121) (p := []) rfl rfl) maps_nil))))), (gone_clear (pk := [8]) (t := 8) rfl), (keep_clear (pk := [8]) h28 rfl me), (keep_clear (pk := [8]) h29 rfl mi), (keep_clear (pk := [8]) h30 rfl mi)⟩ ?_
      rintro s ⟨h1, h2, h4, h5, h6, h8, h28, h29, h30⟩
      refine gm h30 fun h32 => ?_
      obtain ⟨e_29, E_e_29, h⟩ := bind_some h
      refine gv (.ref .sh 0 [] (ji e_29)) (ev_idx (t := .sh) (lo := 0) (xs := r_7) h28 h30 E_e_29 rfl rfl) fun h33 => ?_
      refine g1 33 (ji e_29) h33 fun h34 => ?_
      refine g_alloc h8 ?_
      refine gm h32 fun h7 => g_store (ji e_29) (rd_of rfl rfl) (rd_of h34 rfl) (by refine ⟨by decide, by decide, rfl, rfl, rfl, ?_⟩; first | rfl | (simp [V.toks, V.tokss, Enc.toks_enc]; done) | simp [V.toks, V.tokss, Enc.toks_enc, tok_memP]) ?_
      refine gz [(1, (eL x_2)), (2, (.ref (.bx 2) 0 [] (.agg [(ji x_1.1), (Enc.enc (x_1.2 : List (Int × Int)))]))), (4, (.ref (.bx 4) 0 [] (.agg [(.sl .nl (Enc.shp (List Int)) 0 []), (.sl .nl (Enc.shp (Int × Int)) 0 [])]))), (5, (jb false)), (6, (.ref (.bx 6) 0 [] (.agg [(encN 2120 [] (x_17 : NL (NL Int))), (encO (.at 2121 []) (x_18 : NL (Int × Int)))]))), (7, (ji x_19)), (8, (.ref (.bx 8) 0 [] (ji e_29))), (28, (eL r_7)), (29, (ji (r_7.length : Int))), (30, (ji x_19))] ⟨(keep_mut h1 (Enc.mut_enc _ _ _ _ (x_2 : List Int))), (keep_mut h2 (mut_ref_ne rfl rfl (mut_agg (muts_cons rfl (muts_cons (Enc.mut_enc _ _ _ _ (x_1.2 : List (Int × Int))) rfl))))), (keep_mut h4 (mut_ref_ne rfl rfl (mut_agg (muts_cons rfl (muts_cons rfl rfl))))), (keep_mut h5 rfl), (keep_mut h6 (mut_ref_ne rfl rfl (mut_agg (muts_cons (mut_N_ne rfl (fun _ => rfl) rfl) (muts_cons (mut_own_ne rfl rfl) rfl))))), (keep_mut h7 rfl), (keep_mut rfl rfl), (keep_mut h28 (Enc.mut_enc _ _ _ _ (r_7 : List Int))), (keep_mut h29 rfl), (keep_mut h30 rfl)⟩ ?_
      rintro s ⟨h1, h2, h4, h5, h6, h7, h8, h28, h29, h30⟩
      refine .nsq (.seq (run_reg ?_))
      refine e_clr ?_
      refine ez [(1, _), (2, _), (4, _), (5, _), (6, _), (7, _), (8, _), (28, _), (29, _), (30, _), (44, _), (45, _), (46, _)] ⟨(keep_clear (pk := [44, 45, 46]) h1 rfl me), (keep_clear (pk := [44, 45, 46]) h2 rfl (map_bx rfl (map_agg (maps_cons mi (maps_cons me maps_nil))))), (keep_clear (pk := [44, 45, 46]) h4 rfl (map_bx rfl (map_agg (maps_cons rfl (maps_cons rfl maps_nil))))), (keep_clear (pk := [44, 45, 46]) h5 rfl mb), (keep_clear (pk := [44, 45, 46]) h6 rfl (map_bx rfl (map_agg (maps_cons (map_encN (r := 2120) (p := []) rfl (fun _ => rfl) rfl) (maps_cons (map_encO (r := 2121) (p := []) rfl rfl) maps_nil))))), (keep_clear (pk := [44, 45, 46]) h7 rfl mi), (keep_clear (pk := [44, 45, 46]) h8 rfl (map_bx rfl mi)), (keep_clear (pk := [44, 45, 46]) h28 rfl me), (keep_clear (pk := [44, 45, 46]) h29 rfl mi), (keep_clear (pk := [44, 45, 46]) h30 rfl mi), (gone_clear (pk := [44, 45, 46]) (t := 44) rfl), (gone_clear (pk := [44, 45, 46]) (t := 45) rfl), (gone_clear (pk := [44, 45, 46]) (t := 46) rfl)⟩ ?_
      rintro s ⟨h1, h2, h4, h5, h6, h7, h8, h28, h29, h30, h44, h45, h46⟩
      refine g1 6 (.ref (.bx 6) 0 [0] (encN 2120 [] (x_17 : NL (NL Int)))) h6 fun h35 => ?_
      refine gv (encN 2120 [] (x_17 : NL (NL Int))) (ev_loadN (c := (encN 2120 [] (x_17 : NL (NL Int)))) h35 (by rw [shape_encN]; rfl)) fun h36 => ?_
      refine g1 8 (ji e_29) h8 fun h37 => ?_
      refine gm h1 fun h38 => gm h7 fun h39 => ?_
      obtain ⟨e_30, E_e_30, h⟩ := bind_some h
      refine gv (.ref .sh 0 [] (ji e_30)) (ev_idx (t := .sh) (lo := 0) (xs := x_2) h38 h39 E_e_30 rfl rfl) fun h40 => ?_
      refine g1 40 (ji e_30) h40 fun h41 => ?_
      obtain ⟨q_31, E_q_31, h⟩ := bind_some h
      refine gv (ji q_31) (ev_shl rfl h41 E_q_31) fun h42 => ?_
      refine g2 37 42 (ji (ior .i64 e_29 q_31)) h37 h42 fun h43 => ?_
      obtain ⟨r_32, E_r_32, h⟩ := bind_some h
      refine g_callO (m := 1) (al := false) (r := (encO .sh (r_32 : NL Int))) (v := (oI 44 [] r_32)) (kk := 1000000083) [Enc.enc (ior .i64 e_29 q_31 : Int)] (ta_cons (v := (ji (ior .i64 e_29 q_31))) h43 rfl rfl ta_nil) (H.c83o _ _ E_r_32) H.g83o rfl toks_encS tag_encO ok_encP h44 ?_
      refine g_litN (a := (r_32 : NL Int)) rfl rfl h45 ?_
      obtain ⟨ap_33, E_ap_33, h⟩ := bind_some h
      refine g_appN (q := 2120) (p := []) (o := (x_17 : NL (NL Int))) (a := (r_32 : NL Int)) h36 rfl rfl h46 E_ap_33 rfl rfl (fun s_25 ha_25 => ?_)
      refine g1 6 (.ref (.bx 6) 0 [0] (kdO (NL.fl (x_17 : NL (NL Int))))) (show s_25 6 = (.ref (.bx 6) 0 [] (.agg [(kdO (NL.fl (x_17 : NL (NL Int)))), (encO (.at 2121 []) (x_18 : NL (Int × Int)))])) from keep_appK ha_25 h6 (map_bx rfl (map_agg (maps_cons map_kdN (maps_cons (map_encO (r := 2121) (p := []) rfl rfl) maps_nil)))) (by intro h; first | (cases h; done) | (subst h; rfl))) fun h47 => ?_
      refine g_store (.sl (.at 46 []) .p 0 (encR (Tapp 2120 [] x_17.list.length 44) 0 (ap_33 : List (NL Int)))) (rd_of h47 rfl) (rd_of rfl rfl) ⟨by decide, by decide, rfl, rfl, shp_kdO, tok_rowsBx⟩ ?_
      refine g_end ?_
      refine e_canApp (d := 46) (q := 2120) (t := 44) (p := []) (xs := x_17.list) (zs := ap_33) (a := (r_32 : NL Int)) rfl (keep_mut rfl mut_rowsBx) E_ap_33 rfl rfl rfl (fun s_26 L_26 hv_26 hl_26 hg_26 => ?_)
      refine e_drp (x := 2120) (fun s_27 hx_27 hd_27 => ?_)
      refine e_home (r := 46) (x := 2120) (v := _) (by exact hx_27) rfl (fun s_28 hg_28 => ?_)
      refine ez [(1, (eL x_2)), (2, (.ref (.bx 2) 0 [] (.agg [(ji x_1.1), (Enc.enc (x_1.2 : List (Int × Int)))]))), (4, (.ref (.bx 4) 0 [] (.agg [(.sl .nl (Enc.shp (List Int)) 0 []), (.sl .nl (Enc.shp (Int × Int)) 0 [])]))), (5, (jb false)), (6, (.ref (.bx 6) 0 [] (.agg [(encN 2120 [] (.of (ap_33 : List (NL Int)) : NL (NL Int))), (encO (.at 2121 []) (x_18 : NL (Int × Int)))]))), (7, (ji x_19)), (8, (.ref (.bx 8) 0 [] (ji e_29))), (28, (eL r_7)), (29, (ji (r_7.length : Int))), (30, (ji x_19))] ⟨(hg_28 1 _ _ (show s_27 1 = (eL x_2) from (hd_27 1 (by decide)).trans (show s_26 1 = (eL x_2) from hg_26 1 _ _ (keep_mut (show s_25 1 = (eL x_2) from keep_app ha_25 h1 me) (Enc.mut_enc _ _ _ _ (x_2 : List Int))) (Enc.map_enc _ (x_2 : List Int)))) me), (hg_28 2 _ _ (show s_27 2 = (.ref (.bx 2) 0 [] (.agg [(ji x_1.1), (Enc.enc (x_1.2 : List (Int × Int)))])) from (hd_27 2 (by decide)).trans (show s_26 2 = (.ref (.bx 2) 0 [] (.agg [(ji x_1.1), (Enc.enc (x_1.2 : List (Int × Int)))])) from hg_26 2 _ _ (keep_mut (show s_25 2 = (.ref (.bx 2) 0 [] (.agg [(ji x_1.1), (Enc.enc (x_1.2 : List (Int × Int)))])) from keep_app ha_25 h2 (map_bx rfl (map_agg (maps_cons mi (maps_cons me maps_nil))))) (mut_ref_ne rfl rfl (mut_agg (muts_cons rfl (muts_cons (Enc.mut_enc _ _ _ _ (x_1.2 : List (Int × Int))) rfl))))) (map_bx (canF_bx rfl) (map_agg (maps_cons rfl (maps_cons (Enc.map_enc _ (x_1.2 : List (Int × Int))) maps_nil)))))) (map_bx rfl (map_agg (maps_cons mi (maps_cons me maps_nil))))), (hg_28 4 _ _ (show s_27 4 = (.ref (.bx 4) 0 [] (.agg [(.sl .nl (Enc.shp (List Int)) 0 []), (.sl .nl (Enc.shp (Int × Int)) 0 [])])) from (hd_27 4 (by decide)).trans (show s_26 4 = (.ref (.bx 4) 0 [] (.agg [(.sl .nl (Enc.shp (List Int)) 0 []), (.sl .nl (Enc.shp (Int × Int)) 0 [])])) from hg_26 4 _ _ (keep_mut (show s_25 4 = (.ref (.bx 4) 0 [] (.agg [(.sl .nl (Enc.shp (List Int)) 0 []), (.sl .nl (Enc.shp (Int × Int)) 0 [])])) from keep_app ha_25 h4 (map_bx rfl (map_agg (maps_cons rfl (maps_cons rfl maps_nil))))) (mut_ref_ne rfl rfl (mut_agg (muts_cons rfl (muts_cons rfl rfl))))) (map_bx (canF_bx rfl) (map_agg (maps_cons rfl (maps_cons rfl maps_nil)))))) (map_bx rfl (map_agg (maps_cons rfl (maps_cons rfl maps_nil))))), (hg_28 5 _ _ (show s_27 5 = (jb false) from (hd_27 5 (by decide)).trans (show s_26 5 = (jb false) from hg_26 5 _ _ (keep_mut (show s_25 5 = (jb false) from keep_app ha_25 h5 mb) rfl) rfl)) mb), (hg_28 6 _ (.ref (.bx 6) 0 [] (.agg [(encN 2120 [] (.of (ap_33 : List (NL Int)) : NL (NL Int))), (encO (.at 2121 []) (x_18 : NL (Int × Int)))])) (show s_27 6 = (.ref (.bx 6) 0 [] (.agg [(encN 46 [] (.of (ap_33 : List (NL Int)) : NL (NL Int))), (encO (.at 2121 []) (x_18 : NL (Int × Int)))])) from (hd_27 6 (by decide)).trans (show s_26 6 = (.ref (.bx 6) 0 [] (.agg [(encN 46 [] (.of (ap_33 : List (NL Int)) : NL (NL Int))), (encO (.at 2121 []) (x_18 : NL (Int × Int)))])) from hg_26 6 _ _ (keep_mut (show s_25 6 = (.ref (.bx 6) 0 [] (.agg [(kdO (NL.fl (x_17 : NL (NL Int)))), (encO (.at 2121 []) (x_18 : NL (Int × Int)))])) from keep_appK ha_25 h6 (map_bx rfl (map_agg (maps_cons map_kdN (maps_cons (map_encO (r := 2121) (p := []) rfl rfl) maps_nil)))) (by intro h; first | (cases h; done) | (subst h; rfl))) (mut_bxf (muts_cons mut_kdO (muts_cons (mut_own_ne rfl rfl) rfl)))) (map_bx (canF_bx rfl) (map_agg (maps_cons hv_26 (maps_cons (map_encO (r := 2121) (p := []) (canF_ne hl_26 rfl rfl) rfl) maps_nil)))))) (map_bx rfl (map_agg (maps_cons (map_encN (r := 46) (p := []) rfl (fun _ => rfl) rfl) (maps_cons (map_encO (r := 2121) (p := []) rfl rfl) maps_nil))))), (hg_28 7 _ _ (show s_27 7 = (ji x_19) from (hd_27 7 (by decide)).trans (show s_26 7 = (ji x_19) from hg_26 7 _ _ (keep_mut (show s_25 7 = (ji x_19) from keep_app ha_25 h7 mi) rfl) rfl)) mi), (hg_28 8 _ _ (show s_27 8 = (.ref (.bx 8) 0 [] (ji e_29)) from (hd_27 8 (by decide)).trans (show s_26 8 = (.ref (.bx 8) 0 [] (ji e_29)) from hg_26 8 _ _ (keep_mut (show s_25 8 = (.ref (.bx 8) 0 [] (ji e_29)) from keep_app ha_25 h8 (map_bx rfl mi)) rfl) (map_bx (canF_bx rfl) rfl))) (map_bx rfl mi)), (hg_28 28 _ _ (show s_27 28 = (eL r_7) from (hd_27 28 (by decide)).trans (show s_26 28 = (eL r_7) from hg_26 28 _ _ (keep_mut (show s_25 28 = (eL r_7) from keep_app ha_25 h28 me) (Enc.mut_enc _ _ _ _ (r_7 : List Int))) (Enc.map_enc _ (r_7 : List Int)))) me), (hg_28 29 _ _ (show s_27 29 = (ji (r_7.length : Int)) from (hd_27 29 (by decide)).trans (show s_26 29 = (ji (r_7.length : Int)) from hg_26 29 _ _ (keep_mut (show s_25 29 = (ji (r_7.length : Int)) from keep_app ha_25 h29 mi) rfl) rfl)) mi), (hg_28 30 _ _ (show s_27 30 = (ji x_19) from (hd_27 30 (by decide)).trans (show s_26 30 = (ji x_19) from hg_26 30 _ _ (keep_mut (show s_25 30 = (ji x_19) from keep_app ha_25 h30 mi) rfl) rfl)) mi)⟩ ?_
      rintro s ⟨h1, h2, h4, h5, h6, h7, h8, h28, h29, h30⟩
      refine .nsq (.seq (.seq (rg (gm h7 fun h48 => g1 2 (.ref (.bx 2) 0 [0] (ji x_1.1)) h2 fun h49 => ?_))))
      refine g1 49 (ji x_1.1) h49 fun h50 => ?_
      refine g1 50 (ji (w64 (x_1.1 - 1))) h50 fun h51 => ?_
      refine g2 48 51 (jb (x_19 == (w64 (x_1.1 - 1)))) h48 h51 fun h52 => ?_
      refine gq (.nsq (run_cond (t := (x_19 == (w64 (x_1.1 - 1)))) h52 h (fun h => ?_) (fun h => ?_)))
      · refine .exit (.esq (.ebn (by decide) (.esq (.elp (.ebk (.nsq (.seq (rg (gv (.agg [(encN 2120 [] (.of (ap_33 : List (NL Int)) : NL (NL Int))), (encO (.at 2121 []) (x_18 : NL (Int × Int)))]) (ev_loadN (c := (.agg [(encN 2120 [] (.of (ap_33 : List (NL Int)) : NL (NL Int))), (encO (.at 2121 []) (x_18 : NL (Int × Int)))])) h6 (by simp [V.shape, V.shapes, shape_encP, shape_encN, Sh.beq, Sh.beqs])) fun h69 => ?_)))))))))
        refine g_store (.agg [(encN 2120 [] (.of (ap_33 : List (NL Int)) : NL (NL Int))), (encO (.at 2121 []) (x_18 : NL (Int × Int)))]) (rd_of h4 rfl) (rd_of h69 rfl) ⟨by decide, by decide, rfl, (by simp [V.shape, V.shapes, shape_encP, shape_encN, Sh.beq, Sh.beqs]), (by simp [V.shape, V.shapes, shape_encP, shape_encN, Sh.beq, Sh.beqs]), (by simp [V.toks, V.tokss, tok_memP, tok_memN])⟩ ?_
        refine g0 (jb true) fun h5 => ?_
        refine gz [(4, (.ref (.bx 4) 0 [] (.agg [(encN 2120 [] (.of (ap_33 : List (NL Int)) : NL (NL Int))), (encO (.at 2121 []) (x_18 : NL (Int × Int)))]))), (5, _)] ⟨(keep_mut h4 rfl), h5⟩ ?_
        rintro s ⟨h4, h5⟩
        refine .nsq (.ret ?_)
        have hr := Option.some.inj h
        subst hr
        exact rrB (res_cell h4 (by simp only [V.shape, V.shapes, shape_encP, shape_encN]; kernel_rfl)) (res_tmp h5) (fin_retN (finN_tup (finNs_cons (finN_agg (finNs_cons (finN_N (r := 2120) (o := ((.of ap_33) : NL (NL Int))) rfl) (finNs_cons (finN_O (o := (x_18 : NL (Int × Int))) rfl) finNs_nil rfl) rfl)) (finNs_cons finN_bool finNs_nil rfl) rfl)) (mine_tup (mines_cons (mine_agg (mines_cons (mine_N rfl) (mines_cons (mine_own rfl) mines_nil))) (mines_cons rfl mines_nil))))
      refine .skip (.nsq (.seq (rg (gm h7 fun h53 => g1 53 (ji (w64 (x_19 + 1))) h53 fun h54 => ?_))))
      refine gm h54 fun h9 => gq (.nsq (.seq (.seq (rg (g1 8 (ji e_29) h8 fun h55 => ?_)))))
      refine g1 55 (jb (e_29 != 0)) h55 fun h56 => ?_
      refine gq (.nsq (run_cond (t := (e_29 != 0)) h56 h (fun h => ?_) (fun h => ?_)))
      · refine rg (gm h1 fun h57 => g1 8 (.fn 102 [] [(.ref (.bx 8) 0 [] (ji e_29))]) h8 fun h58 => ?_)
        obtain ⟨r_37, E_r_37, h⟩ := bind_some h
        refine g_call (m := 0) (al := false) (r := (Enc.enc (r_37 : Int))) [Enc.enc (x_2 : (List Int)), Arg.arg ((Cl.mk () ((Rf.mk e_29 : (Rf Int)), ()) : (Cl 102 Unit ((Rf Int) × Unit))) : (Cl 102 Unit ((Rf Int) × Unit)))] (ta_cons (v := (eL x_2)) h57 rfl (Enc.erase_enc (x_2 : (List Int))) (ta_cons (v := (.fn 102 [] [(.ref (.bx 8) 0 [] (ji e_29))])) h58 rfl (erase_fn erases_nil (erases_cons (erase_ref rfl) erases_nil)) ta_nil)) (H.c101s1 _ _ _ E_r_37) H.g101s1 rfl rfl rfl rfl ?_
        refine gm (rfl : (_ : V) = (ji r_37)) fun h9 => ?_
        refine gq ?_
        exact t_f44o_j1 H x_2 x_1 ap_33 x_18 x_19 r_7 (i_DecompositionOf_o_l1 F x_2 x_1 r_7 k) ih r_37 _ ⟨h1, h2, h4, h5, h6, h7, h9, h28, h29, h30⟩ h
      refine .skip ?_
      exact t_f44o_j1 H x_2 x_1 ap_33 x_18 x_19 r_7 (i_DecompositionOf_o_l1 F x_2 x_1 r_7 k) ih (w64 (x_19 + 1)) _ ⟨h1, h2, h4, h5, h6, h7, h9, h28, h29, h30⟩ h
    refine .exit (.esq (.elp (.ebk (.nsq (.seq (rg (gv (.agg [(encN 2120 [] (x_17 : NL (NL Int))), (encO (.at 2121 []) (x_18 : NL (Int × Int)))]) (ev_loadN (c := (.agg [(encN 2120 [] (x_17 : NL (NL Int))), (encO (.at 2121 []) (x_18 : NL (Int × Int)))])) h6 (by simp [V.shape, V.shapes, shape_encP, shape_encN, Sh.beq, Sh.beqs])) fun h69 => ?_)))))))
    refine g_store (.agg [(encN 2120 [] (x_17 : NL (NL Int))), (encO (.at 2121 []) (x_18 : NL (Int × Int)))]) (rd_of h4 rfl) (rd_of h69 rfl) ⟨by decide, by decide, rfl, (by simp [V.shape, V.shapes, shape_encP, shape_encN, Sh.beq, Sh.beqs]), (by simp [V.shape, V.shapes, shape_encP, shape_encN, Sh.beq, Sh.beqs]), (by simp [V.toks, V.tokss, tok_memP, tok_memN])⟩ ?_
    refine g0 (jb true) fun h5 => ?_
    refine gz [(4, (.ref (.bx 4) 0 [] (.agg [(encN 2120 [] (x_17 : NL (NL Int))), (encO (.at 2121 []) (x_18 : NL (Int × Int)))]))), (5, _)] ⟨(keep_mut h4 rfl), h5⟩ ?_
    rintro s ⟨h4, h5⟩
    refine .nsq (.ret ?_)
    have hr := Option.some.inj h
    subst hr
    exact rrB (res_cell h4 (by simp only [V.shape, V.shapes, shape_encP, shape_encN]; kernel_rfl)) (res_tmp h5) (fin_retN (finN_tup (finNs_cons (finN_agg (finNs_cons (finN_N (r := 2120) (o := (x_17 : NL (NL Int))) rfl) (finNs_cons (finN_O (o := (x_18 : NL (Int × Int))) rfl) finNs_nil rfl) rfl)) (finNs_cons finN_bool finNs_nil rfl) rfl)) (mine_tup (mines_cons (mine_agg (mines_cons (mine_N rfl) (mines_cons (mine_own rfl) mines_nil))) (mines_cons rfl mines_nil))))
def i_DecompositionOf_o_j2 (F : Nat) (x_2 : (List Int)) (x_1 : (Int × (List (Int × Int))))  (x_5 : Bool) : Option (((NL (NL Int)) × (NL (Int × Int))) × Bool) :=
  bif x_5 then
    some ((.nil, .nil), false)
  else
    (i_netOf F x_1).bind fun r_6 =>
    (i_net_neighborsBehind F r_6 x_2).bind fun r_7 =>
    i_DecompositionOf_o_l1 F x_2 x_1 r_7 F .nil .nil 0
theorem t_f44o_j2 (H : H44o D σ F) (x_2 : (List Int)) (x_1 : (Int × (List (Int × Int))))  (x_5 : Bool) (s : Nat → V) (hs : Facts [(1, (eL x_2)), (2, (.ref (.bx 2) 0 [] (.agg [(ji x_1.1), (Enc.enc (x_1.2 : List (Int × Int)))]))), (4, (.ref (.bx 4) 0 [] (.agg [(.sl .nl (Enc.shp (List Int)) 0 []), (.sl .nl (Enc.shp (Int × Int)) 0 [])]))), (5, (jb false)), (23, (jb x_5))] s) (h : i_DecompositionOf_o_j2 F x_2 x_1  x_5 = some r) : Run D σ (R44o r) (.nrm [.sq A44o_13, .sq A44o_14]) s := by
  unfold i_DecompositionOf_o_j2 at h
  obtain ⟨h1, h2, h4, h5, h23⟩ := hs
  refine .nsq (run_cond (t := x_5) h23 h (fun h => ?_) (fun h => ?_))
  · refine .seq (rg (g0 (.agg [(.sl .nl (Enc.shp (List Int)) 0 []), (.sl .nl (Enc.shp (Int × Int)) 0 [])]) fun h24 => ?_))
    refine g_store (.agg [(.sl .nl (Enc.shp (List Int)) 0 []), (.sl .nl (Enc.shp (Int × Int)) 0 [])]) (rd_of h4 rfl) (rd_of h24 rfl) (by refine ⟨by decide, by decide, rfl, rfl, rfl, ?_⟩; first | rfl | (simp [V.toks, V.tokss, Enc.toks_enc]; done) | simp [V.toks, V.tokss, Enc.toks_enc, tok_memP]) ?_
    refine g0 (jb false) fun h5 => ?_
    refine gz [(1, (eL x_2)), (2, (.ref (.bx 2) 0 [] (.agg [(ji x_1.1), (Enc.enc (x_1.2 : List (Int × Int)))]))), (4, (.ref (.bx 4) 0 [] (.agg [(.sl .nl (Enc.shp (List Int)) 0 []), (.sl .nl (Enc.shp (Int × Int)) 0 [])]))), (5, _)] ⟨(keep_mut h1 (Enc.mut_enc _ _ _ _ (x_2 : List Int))), (keep_mut h2 (mut_ref_ne rfl rfl (mut_agg (muts_cons rfl (muts_cons (Enc.mut_enc _ _ _ _ (x_1.2 : List (Int × Int))) rfl))))), (keep_mut h4 rfl), h5⟩ ?_
    rintro s ⟨h1, h2, h4, h5⟩
    refine .nsq (.ret ?_)
    have hr := Option.some.inj h
    subst hr
    exact rrB (res_cell h4 (by kernel_rfl)) (res_tmp h5) (fin_retN (finN_tup (finNs_cons (finN_agg (finNs_cons (finN_nilN (α := Int)) (finNs_cons (finN_nil (α := (Int × Int))) finNs_nil rfl) rfl)) (finNs_cons finN_bool finNs_nil rfl) rfl)) (mine_tup (mines_cons (mine_agg (mines_cons mine_nil (mines_cons mine_nil mines_nil))) (mines_cons rfl mines_nil))))
  refine .skip (.nsq (.seq (run_reg ?_)))
  refine e_clr ?_
  refine ez [(1, _), (2, _), (4, _), (5, _), (6, _)] ⟨(keep_clear (pk := [6]) h1 rfl me), (keep_clear (pk := [6]) h2 rfl (map_bx rfl (map_agg (maps_cons mi (maps_cons me maps_nil))))), (keep_clear (pk := [6]) h4 rfl (map_bx rfl (map_agg (maps_cons rfl (maps_cons rfl maps_nil))))), (keep_clear (pk := [6]) h5 rfl mb), (gone_clear (pk := [6]) (t := 6) rfl)⟩ ?_
  rintro s ⟨h1, h2, h4, h5, h6⟩
  refine g_alloc h6 ?_
  refine gq (.nsq (.seq (.seq (rg (g1 2 (.agg [(ji x_1.1), (Enc.enc (x_1.2 : List (Int × Int)))]) h2 fun h25 => ?_)))))
  obtain ⟨r_6, E_r_6, h⟩ := bind_some h
  refine g_call (m := 0) (al := false) (r := (Enc.enc (r_6 : (S1 (List Int))))) [Enc.enc (x_1 : (Int × (List (Int × Int))))] (ta_cons (v := (.agg [(ji x_1.1), (Enc.enc (x_1.2 : List (Int × Int)))])) h25 rfl (Enc.erase_enc (x_1 : (Int × (List (Int × Int))))) ta_nil) (H.c65 _ _ E_r_6) H.g65 rfl rfl rfl rfl ?_
  refine gm h1 fun h27 => ?_
  obtain ⟨r_7, E_r_7, h⟩ := bind_some h
  refine g_call (m := 0) (al := false) (r := (Enc.enc (r_7 : (List Int)))) [Enc.enc (r_6 : (S1 (List Int))), Enc.enc (x_2 : (List Int))] (ta_cons (v := (.agg [(eL r_6.a)])) rfl rfl (Enc.erase_enc (r_6 : (S1 (List Int)))) (ta_cons (v := (eL x_2)) h27 rfl (Enc.erase_enc (x_2 : (List Int))) ta_nil)) (H.c100 _ _ _ E_r_7) H.g100 rfl rfl rfl rfl ?_
  refine gv (ji (r_7.length : Int)) (ev_len (xs := r_7) rfl) fun h29 => ?_
  refine g0 (ji 0) fun h30 => gq (.nsq (.block (.loop ?_)))
  exact t_f44o_l1 H x_2 x_1 r_7 F .nil .nil 0 _ ⟨h1, h2, h4, h5, rfl, rfl, h29, h30⟩ h
def i_DecompositionOf_o (F : Nat) (x_1 : (Int × (List (Int × Int)))) (x_2 : (List Int)) : Option (((NL (NL Int)) × (NL (Int × Int))) × Bool) :=
  (i_IsGraph F x_1).bind fun r_38 =>
  bif (!r_38) then
    i_DecompositionOf_o_j2 F x_2 x_1 true
  else
    (i_isOrder F x_1 x_2).bind fun r_39 =>
    bif (!r_39) then
      i_DecompositionOf_o_j2 F x_2 x_1 true
    else
      i_DecompositionOf_o_j2 F x_2 x_1 (x_1.1 == 0)
theorem t44o (H : H44o D σ F) (x_1 : (Int × (List (Int × Int)))) (x_2 : (List Int)) (s : Nat → V) (hs : Facts [(0, (.agg [(ji x_1.1), (Enc.enc (x_1.2 : List (Int × Int)))])), (1, (eL x_2))] s) (h : i_DecompositionOf_o F x_1 x_2 = some r) : Run D σ (R44o r) (.run A44o []) s := by
  unfold i_DecompositionOf_o at h
  obtain ⟨h0, h1⟩ := hs
  refine .seq (run_reg ?_)
  refine e_clr ?_
  refine ez [(0, _), (1, _), (2, _), (4, _)] ⟨(keep_clear (pk := [2, 4]) h0 rfl (map_agg (maps_cons mi (maps_cons me maps_nil)))), (keep_clear (pk := [2, 4]) h1 rfl me), (gone_clear (pk := [2, 4]) (t := 2) rfl), (gone_clear (pk := [2, 4]) (t := 4) rfl)⟩ ?_
  rintro s ⟨h0, h1, h2, h4⟩
  refine g_box (.agg [(ji x_1.1), (Enc.enc (x_1.2 : List (Int × Int)))]) (rd_of h0 rfl) h2 rfl ?_
  refine g_alloc h4 ?_
  refine g0 (jb false) fun h5 => ?_
  refine gq (.nsq (.seq (.seq (rg (g1 2 (.agg [(ji x_1.1), (Enc.enc (x_1.2 : List (Int × Int)))]) (rfl : (_ : V) = (.ref (.bx 2) 0 [] (.agg [(ji x_1.1), (Enc.enc (x_1.2 : List (Int × Int)))]))) fun h10 => ?_)))))
  obtain ⟨r_38, E_r_38, h⟩ := bind_some h
  refine g_call (m := 0) (al := false) (r := (Enc.enc (r_38 : Bool))) [Enc.enc (x_1 : (Int × (List (Int × Int))))] (ta_cons (v := (.agg [(ji x_1.1), (Enc.enc (x_1.2 : List (Int × Int)))])) h10 rfl (Enc.erase_enc (x_1 : (Int × (List (Int × Int))))) ta_nil) (H.c63 _ _ E_r_38) H.g63 rfl rfl rfl rfl ?_
  refine g1 11 (jb (!r_38)) (rfl : (_ : V) = (jb r_38)) fun h12 => ?_
  refine gm h12 fun h13 => split_on (c := (!r_38)) h (fun hg4 h => ?_) (fun hg4 h => ?_)
  · refine g_no (h13.trans (congrArg V.bool hg4)) ?_
    refine g_no (h13.trans (congrArg V.bool hg4)) ?_
    refine g_no (h13.trans (congrArg V.bool hg4)) ?_
    refine g_no (h13.trans (congrArg V.bool hg4)) ?_
    refine g2 13 17 (jb true) (h13.trans (congrArg V.bool hg4)) (rfl : (_ : V) = (.tup [])) fun h18 => ?_
    refine gm h18 fun h19 => g_no h19 ?_
    refine g_no h19 ?_
    refine g_no h19 ?_
    refine g2 19 22 (jb true) h19 (rfl : (_ : V) = (.tup [])) fun h23 => ?_
    refine gq ?_
    exact t_f44o_j2 H x_2 x_1 true _ ⟨h1, rfl, rfl, h5, h23⟩ h
  refine g_yes (h13.trans (congrArg V.bool hg4)) (g1 2 (.agg [(ji x_1.1), (Enc.enc (x_1.2 : List (Int × Int)))]) (rfl : (_ : V) = (.ref (.bx 2) 0 [] (.agg [(ji x_1.1), (Enc.enc (x_1.2 : List (Int × Int)))]))) fun h14 => ?_)
  refine g_yes (h13.trans (congrArg V.bool hg4)) (gm h1 fun h15 => ?_)
  obtain ⟨r_39, E_r_39, h⟩ := bind_some h
  refine g_yes (h13.trans (congrArg V.bool hg4)) (g_call (m := 0) (al := false) (r := (Enc.enc (r_39 : Bool))) [Enc.enc (x_1 : (Int × (List (Int × Int)))), Enc.enc (x_2 : (List Int))] (ta_cons (v := (.agg [(ji x_1.1), (Enc.enc (x_1.2 : List (Int × Int)))])) h14 rfl (Enc.erase_enc (x_1 : (Int × (List (Int × Int))))) (ta_cons (v := (eL x_2)) h15 rfl (Enc.erase_enc (x_2 : (List Int))) ta_nil)) (H.c64 _ _ _ E_r_39) H.g64 rfl rfl rfl rfl ?_)
  refine g_yes (h13.trans (congrArg V.bool hg4)) (g1 16 (jb (!r_39)) (rfl : (_ : V) = (jb r_39)) fun h17 => ?_)
  refine g2 13 17 (jb (!r_39)) (h13.trans (congrArg V.bool hg4)) h17 fun h18 => ?_
  refine gm h18 fun h19 => split_on (c := (!r_39)) h (fun hg10 h => ?_) (fun hg10 h => ?_)
  · refine g_no (h19.trans (congrArg V.bool hg10)) ?_
    refine g_no (h19.trans (congrArg V.bool hg10)) ?_
    refine g_no (h19.trans (congrArg V.bool hg10)) ?_
    refine g2 19 22 (jb true) (h19.trans (congrArg V.bool hg10)) (rfl : (_ : V) = (.tup [])) fun h23 => ?_
    refine gq ?_
    exact t_f44o_j2 H x_2 x_1 true _ ⟨h1, rfl, rfl, h5, h23⟩ h
  refine g_yes (h19.trans (congrArg V.bool hg10)) (g1 2 (.ref (.bx 2) 0 [0] (ji x_1.1)) (rfl : (_ : V) = (.ref (.bx 2) 0 [] (.agg [(ji x_1.1), (Enc.enc (x_1.2 : List (Int × Int)))]))) fun h20 => ?_)
  refine g_yes (h19.trans (congrArg V.bool hg10)) (g1 20 (ji x_1.1) h20 fun h21 => ?_)
  refine g_yes (h19.trans (congrArg V.bool hg10)) (g1 21 (jb (x_1.1 == 0)) h21 fun h22 => ?_)
  refine g2 19 22 (jb (x_1.1 == 0)) (h19.trans (congrArg V.bool hg10)) h22 fun h23 => ?_
  refine gq ?_
  exact t_f44o_j2 H x_2 x_1 (x_1.1 == 0) _ ⟨h1, rfl, rfl, h5, h23⟩ h
end
def e44o (F : Nat) : Ent := ent 1000000044 (fun (x : ((Int × (List (Int × Int))) × (List Int) × Unit)) => i_DecompositionOf_o F x.1 x.2.1) (fun (r : (((NL (NL Int)) × (NL (Int × Int))) × Bool)) => (.tup [(.agg [(encNs (r.1.1 : NL (NL Int))), (encO .sh (r.1.2 : NL (Int × Int)))]), (Enc.enc (r.2 : Bool))])) 2 false []
theorem p44o {F : Nat} {x0 : (Int × (List (Int × Int)))} {x1 : (List Int)} {r : (((NL (NL Int)) × (NL (Int × Int))) × Bool)} (h : i_DecompositionOf_o F x0 x1 = some r) : (e44o F).den [Enc.enc x0, Enc.enc x1] = some (.tup [(.agg [(encNs (r.1.1 : NL (NL Int))), (encO .sh (r.1.2 : NL (Int × Int)))]), (Enc.enc (r.2 : Bool))]) := ent_put (x0, x1, ()) h
theorem o44o {D : Den} {σ : Sig} {F : Nat} (hF : Fits2 Try.prog D σ) (H : H44o D σ F) : (e44o F).Ok Try.prog := by
  refine ok_of (f := 44) (show unk 1000000044 = 44 from rfl) (fun args r h => ?_) ⟨Try.f44, Try.func44, rfl, rfl⟩
  obtain ⟨⟨x0, x1, _⟩, y, rfl, hy, rfl⟩ := da_open h
  exact contract_run hF (by kernel_rfl) Try.func44 rfl c44o (show 2 ≤ Try.f44.ntmps by decide) (t44o H x0 x1 _ ⟨rfl, rfl⟩ hy)
/- loop.example/g01109/laws.eqIntS -/
def A21_2 : AC := (.cond (.t 14) .skip (.exit 0))
def A21_4 : AC := (.cond (.t 25) (.seq (.reg [] [((jv 4 (.mov (.k (.bool false)))))] []) .ret) .skip)
def A21_5 : AC := (.reg [] [(jm 15 5), ((jv 16 (.bin .add (.t 15) (jn 1)))), (jm 5 16)] [])
def A21_3 : AC := (.seq (.block 1 (.seq (.reg [] [(jm 17 0), (jm 18 5), ((jv 19 (.idx (.t 17) (.t 18) 1))), ((jv 20 (.load .s (.t 19)))), (jm 21 1), (jm 22 5), ((jv 23 (.idx (.t 21) (.t 22) 1))), ((jv 24 (.load .s (.t 23)))), ((jv 25 (.bin .neq (.t 20) (.t 24))))] []) A21_4)) A21_5)
def A21_1 : AC := (.seq (.seq (.reg [] [(jm 11 5), (jm 12 0), ((jv 13 (.len (.t 12)))), ((jv 14 (.bin .lss (.t 11) (.t 13))))] []) A21_2) A21_3)
def A21_6 : AC := (.seq (.reg [] [((jv 4 (.mov (.k (.bool true)))))] []) .ret)
def A21_8 : AC := (.cond (.t 10) (.seq (.reg [] [((jv 4 (.mov (.k (.bool false)))))] []) .ret) .skip)
def A21_10 : AC := (.block 0 (.loop A21_1))
def A21_9 : AC := (.seq (.seq (.reg [] [((jv 5 (.mov (jn 0))))] []) A21_10) A21_6)
def A21_7 : AC := (.seq (.seq (.reg [] [(jm 6 0), ((jv 7 (.len (.t 6)))), (jm 8 1), ((jv 9 (.len (.t 8)))), ((jv 10 (.bin .neq (.t 7) (.t 9))))] []) A21_8) A21_9)
def A21 : AC := (.seq (.reg [] [((jv 4 (.mov (.k (.bool false)))))] []) A21_7)
def an21 : List An := []
theorem c21 : cC Try.prog Try.f21.ntmps an21 (Try.f21.body.getD .skip) = some A21 := by kernel_rfl
structure H21 (D : Den) (σ : Sig) (F : Nat) : Prop where
  mk ::
abbrev R21 (r : Bool) : (Nat → V) → Prop := RR Try.prog [.tmp 4] 0 false (Enc.enc (r : Bool))
section
variable {D : Den} {σ : Sig} {F : Nat} {r : Bool}
def w_eqIntS_l1 (F : Nat) (x_1 : (List Int)) (x_2 : (List Int))  : Nat → Int → Option Bool
  | 0, _ => none
  | k + 1, x_5 =>
    bif decide (x_5 < (x_1.length : Int)) then
      (idx x_1 x_5).bind fun e_8 =>
      (idx x_2 x_5).bind fun e_9 =>
      bif (e_8 != e_9) then
        some false
      else
        (w_eqIntS_l1 F x_1 x_2 k) (w64 (x_5 + 1))
    else
      some true
theorem t_f21_l1 (H : H21 D σ F) (x_1 : (List Int)) (x_2 : (List Int))  : ∀ (k : Nat) (x_5 : Int) (s : Nat → V), Facts [(0, (eL x_1)), (1, (eL x_2)), (4, (jb false)), (5, (ji x_5))] s → w_eqIntS_l1 F x_1 x_2 k x_5 = some r → Run D σ (R21 r) (.run A21_1 [.lp A21_1, .bk 0, .sq A21_6]) s := by
  intro k
  induction k with
  | zero => intro x_5 s _ h; exact nomatch (h : (none : Option _) = some r)
  | succ k ih =>
    intro x_5 s hs h
    rw [w_eqIntS_l1] at h
    obtain ⟨h0, h1, h4, h5⟩ := hs
    refine .seq (.seq (rg (gm h5 fun h11 => gm h0 fun h12 => gv (ji (x_1.length : Int)) (ev_len (xs := x_1) h12) fun h13 => ?_)))
    refine g2 11 13 (jb (decide (x_5 < (x_1.length : Int)))) h11 h13 fun h14 => ?_
    refine gq (.nsq (run_cond (t := decide (x_5 < (x_1.length : Int))) h14 h (fun h => ?_) (fun h => ?_)))
    · refine .skip (.nsq (.seq (.block (.seq (rg (gm h0 fun h17 => gm h5 fun h18 => ?_))))))
      obtain ⟨e_8, E_e_8, h⟩ := bind_some h
      refine gv (.ref .sh 0 [] (ji e_8)) (ev_idx (t := .sh) (lo := 0) (xs := x_1) h17 h18 E_e_8 rfl rfl) fun h19 => ?_
      refine g1 19 (ji e_8) h19 fun h20 => ?_
      refine gm h1 fun h21 => gm h5 fun h22 => ?_
      obtain ⟨e_9, E_e_9, h⟩ := bind_some h
      refine gv (.ref .sh 0 [] (ji e_9)) (ev_idx (t := .sh) (lo := 0) (xs := x_2) h21 h22 E_e_9 rfl rfl) fun h23 => ?_
      refine g1 23 (ji e_9) h23 fun h24 => ?_
      refine g2 20 24 (jb (e_8 != e_9)) h20 h24 fun h25 => ?_
      refine gq (.nsq (run_cond (t := (e_8 != e_9)) h25 h (fun h => ?_) (fun h => ?_)))
      · refine .seq (rg (g0 (jb false) fun h4 => ?_))
        refine gq (.nsq (.ret ?_))
        have hr := Option.some.inj h
        subst hr
        exact rrA (res_tmp h4) rfl
      refine .skip (.nbk (.nsq (rg (gm h5 fun h15 => g1 15 (ji (w64 (x_5 + 1))) h15 fun h16 => ?_))))
      refine gm h16 fun h5 => gq (.nlp ?_)
      exact ih (w64 (x_5 + 1)) _ ⟨h0, h1, h4, h5⟩ h
    refine .exit (.esq (.elp (.ebk (.nsq (.seq (rg (g0 (jb true) fun h4 => ?_)))))))
    refine gq (.nsq (.ret ?_))
    have hr := Option.some.inj h
    subst hr
    exact rrA (res_tmp h4) rfl
def w_eqIntS (F : Nat) (x_1 : (List Int)) (x_2 : (List Int)) : Option Bool :=
  bif ((x_1.length : Int) != (x_2.length : Int)) then
    some false
  else
    w_eqIntS_l1 F x_1 x_2 F 0
theorem t21 (H : H21 D σ F) (x_1 : (List Int)) (x_2 : (List Int)) (s : Nat → V) (hs : Facts [(0, (eL x_1)), (1, (eL x_2))] s) (h : w_eqIntS F x_1 x_2 = some r) : Run D σ (R21 r) (.run A21 []) s := by
  unfold w_eqIntS at h
  obtain ⟨h0, h1⟩ := hs
  refine .seq (rg (g0 (jb false) fun h4 => ?_))
  refine gq (.nsq (.seq (.seq (rg (gm h0 fun h6 => gv (ji (x_1.length : Int)) (ev_len (xs := x_1) h6) fun h7 => ?_)))))
  refine gm h1 fun h8 => gv (ji (x_2.length : Int)) (ev_len (xs := x_2) h8) fun h9 => ?_
  refine g2 7 9 (jb ((x_1.length : Int) != (x_2.length : Int))) h7 h9 fun h10 => ?_
  refine gq (.nsq (run_cond (t := ((x_1.length : Int) != (x_2.length : Int))) h10 h (fun h => ?_) (fun h => ?_)))
  · refine .seq (rg (g0 (jb false) fun h4 => ?_))
    refine gq (.nsq (.ret ?_))
    have hr := Option.some.inj h
    subst hr
    exact rrA (res_tmp h4) rfl
  refine .skip (.nsq (.seq (.seq (rg (g0 (ji 0) fun h5 => gq (.nsq (.block (.loop ?_))))))))
  exact t_f21_l1 H x_1 x_2 F 0 _ ⟨h0, h1, h4, h5⟩ h
end
def e21 (F : Nat) : Ent := ent 21 (fun (x : ((List Int) × (List Int) × Unit)) => w_eqIntS F x.1 x.2.1) (fun (r : Bool) => (Enc.enc (r : Bool))) 0 false []
theorem p21 {F : Nat} {x0 : (List Int)} {x1 : (List Int)} {r : Bool} (h : w_eqIntS F x0 x1 = some r) : (e21 F).den [Enc.enc x0, Enc.enc x1] = some (Enc.enc (r : Bool)) := ent_put (x0, x1, ()) h
theorem o21 {D : Den} {σ : Sig} {F : Nat} (hF : Fits2 Try.prog D σ) (H : H21 D σ F) : (e21 F).Ok Try.prog := by
  refine ok_of (f := 21) (show unk 21 = 21 from rfl) (fun args r h => ?_) ⟨Try.f21, Try.func21, rfl, rfl⟩
  obtain ⟨⟨x0, x1, _⟩, y, rfl, hy, rfl⟩ := da_open h
  exact contract_run hF (by kernel_rfl) Try.func21 rfl c21 (show 2 ≤ Try.f21.ntmps by decide) (t21 H x0 x1 _ ⟨rfl, rfl⟩ hy)
/- loop.example/g01109/laws.eqIntSS -/
def A29_2 : AC := (.cond (.t 14) .skip (.exit 0))
def A29_4 : AC := (.cond (.t 26) (.seq (.reg [] [((jv 4 (.mov (.k (.bool false)))))] []) .ret) .skip)
def A29_5 : AC := (.reg [] [(jm 15 5), ((jv 16 (.bin .add (.t 15) (jn 1)))), (jm 5 16)] [])
def A29_3 : AC := (.seq (.block 1 (.seq (.reg [] [(jm 17 0), (jm 18 5), ((jv 19 (.idx (.t 17) (.t 18) 1))), ((jv 20 (.load .p (.t 19)))), (jm 21 1), (jm 22 5), ((jv 23 (.idx (.t 21) (.t 22) 1))), ((jv 24 (.load .p (.t 23)))), (.mk (some 25) none false (.call (.k (.fn 21 [] [])) [(.t 20), (.t 24)])), ((jv 26 (.un .not (.t 25))))] []) A29_4)) A29_5)
def A29_1 : AC := (.seq (.seq (.reg [] [(jm 11 5), (jm 12 0), ((jv 13 (.len (.t 12)))), ((jv 14 (.bin .lss (.t 11) (.t 13))))] []) A29_2) A29_3)
def A29_6 : AC := (.seq (.reg [] [((jv 4 (.mov (.k (.bool true)))))] []) .ret)
def A29_8 : AC := (.cond (.t 10) (.seq (.reg [] [((jv 4 (.mov (.k (.bool false)))))] []) .ret) .skip)
def A29_10 : AC := (.block 0 (.loop A29_1))
def A29_9 : AC := (.seq (.seq (.reg [] [((jv 5 (.mov (jn 0))))] []) A29_10) A29_6)
def A29_7 : AC := (.seq (.seq (.reg [] [(jm 6 0), ((jv 7 (.len (.t 6)))), (jm 8 1), ((jv 9 (.len (.t 8)))), ((jv 10 (.bin .neq (.t 7) (.t 9))))] []) A29_8) A29_9)
def A29 : AC := (.seq (.reg [] [((jv 4 (.mov (.k (.bool false)))))] []) A29_7)
def an29 : List An := []
theorem c29 : cC Try.prog Try.f29.ntmps an29 (Try.f29.body.getD .skip) = some A29 := by kernel_rfl
structure H29 (D : Den) (σ : Sig) (F : Nat) : Prop where
  c21 : ∀ (x0 : (List Int)) (x1 : (List Int)) r, w_eqIntS F x0 x1 = some r → D 21 [Enc.enc x0, Enc.enc x1] = some (Enc.enc (r : Bool))
  g21 : σ 21 = some (0, false)
abbrev R29 (r : Bool) : (Nat → V) → Prop := RR Try.prog [.tmp 4] 0 false (Enc.enc (r : Bool))
section
variable {D : Den} {σ : Sig} {F : Nat} {r : Bool}
def w_eqIntSS_l1 (F : Nat) (x_1 : (List (List Int))) (x_2 : (List (List Int)))  : Nat → Int → Option Bool
  | 0, _ => none
  | k + 1, x_6 =>
    bif decide (x_6 < (x_1.length : Int)) then
      (idx x_1 x_6).bind fun e_10 =>
      (idx x_2 x_6).bind fun e_11 =>
      (w_eqIntS F e_10 e_11).bind fun r_12 =>
      bif (!r_12) then
        some false
      else
        (w_eqIntSS_l1 F x_1 x_2 k) (w64 (x_6 + 1))
    else
      some true
theorem t_f29_l1 (H : H29 D σ F) (x_1 : (List (List Int))) (x_2 : (List (List Int)))  : ∀ (k : Nat) (x_6 : Int) (s : Nat → V), Facts [(0, (Enc.enc (x_1 : List (List Int)))), (1, (Enc.enc (x_2 : List (List Int)))), (4, (jb false)), (5, (ji x_6))] s → w_eqIntSS_l1 F x_1 x_2 k x_6 = some r → Run D σ (R29 r) (.run A29_1 [.lp A29_1, .bk 0, .sq A29_6]) s := by
  intro k
  induction k with
  | zero => intro x_6 s _ h; exact nomatch (h : (none : Option _) = some r)
  | succ k ih =>
    intro x_6 s hs h
    rw [w_eqIntSS_l1] at h
    obtain ⟨h0, h1, h4, h5⟩ := hs
    refine .seq (.seq (rg (gm h5 fun h11 => gm h0 fun h12 => gv (ji (x_1.length : Int)) (ev_len (xs := x_1) h12) fun h13 => ?_)))
    refine g2 11 13 (jb (decide (x_6 < (x_1.length : Int)))) h11 h13 fun h14 => ?_
    refine gq (.nsq (run_cond (t := decide (x_6 < (x_1.length : Int))) h14 h (fun h => ?_) (fun h => ?_)))
    · refine .skip (.nsq (.seq (.block (.seq (rg (gm h0 fun h17 => gm h5 fun h18 => ?_))))))
      obtain ⟨e_10, E_e_10, h⟩ := bind_some h
      refine gv (.ref .sh 0 [] (eL e_10)) (ev_idx (t := .sh) (lo := 0) (xs := x_1) h17 h18 E_e_10 rfl rfl) fun h19 => ?_
      refine g1 19 (eL e_10) h19 fun h20 => ?_
      refine gm h1 fun h21 => gm h5 fun h22 => ?_
      obtain ⟨e_11, E_e_11, h⟩ := bind_some h
      refine gv (.ref .sh 0 [] (eL e_11)) (ev_idx (t := .sh) (lo := 0) (xs := x_2) h21 h22 E_e_11 rfl rfl) fun h23 => ?_
      refine g1 23 (eL e_11) h23 fun h24 => ?_
      obtain ⟨r_12, E_r_12, h⟩ := bind_some h
      refine g_call (m := 0) (al := false) (r := (Enc.enc (r_12 : Bool))) [Enc.enc (e_10 : (List Int)), Enc.enc (e_11 : (List Int))] (ta_cons (v := (eL e_10)) h20 rfl (Enc.erase_enc (e_10 : (List Int))) (ta_cons (v := (eL e_11)) h24 rfl (Enc.erase_enc (e_11 : (List Int))) ta_nil)) (H.c21 _ _ _ E_r_12) H.g21 rfl rfl rfl rfl ?_
      refine g1 25 (jb (!r_12)) (rfl : (_ : V) = (jb r_12)) fun h26 => ?_
      refine gq (.nsq (run_cond (t := (!r_12)) h26 h (fun h => ?_) (fun h => ?_)))
      · refine .seq (rg (g0 (jb false) fun h4 => ?_))
        refine gq (.nsq (.ret ?_))
        have hr := Option.some.inj h
        subst hr
        exact rrA (res_tmp h4) rfl
      refine .skip (.nbk (.nsq (rg (gm h5 fun h15 => g1 15 (ji (w64 (x_6 + 1))) h15 fun h16 => ?_))))
      refine gm h16 fun h5 => gq (.nlp ?_)
      exact ih (w64 (x_6 + 1)) _ ⟨h0, h1, h4, h5⟩ h
    refine .exit (.esq (.elp (.ebk (.nsq (.seq (rg (g0 (jb true) fun h4 => ?_)))))))
    refine gq (.nsq (.ret ?_))
    have hr := Option.some.inj h
    subst hr
    exact rrA (res_tmp h4) rfl
def w_eqIntSS (F : Nat) (x_1 : (List (List Int))) (x_2 : (List (List Int))) : Option Bool :=
  bif ((x_1.length : Int) != (x_2.length : Int)) then
    some false
  else
    w_eqIntSS_l1 F x_1 x_2 F 0
theorem t29 (H : H29 D σ F) (x_1 : (List (List Int))) (x_2 : (List (List Int))) (s : Nat → V) (hs : Facts [(0, (Enc.enc (x_1 : List (List Int)))), (1, (Enc.enc (x_2 : List (List Int))))] s) (h : w_eqIntSS F x_1 x_2 = some r) : Run D σ (R29 r) (.run A29 []) s := by
  unfold w_eqIntSS at h
  obtain ⟨h0, h1⟩ := hs
  refine .seq (rg (g0 (jb false) fun h4 => ?_))
  refine gq (.nsq (.seq (.seq (rg (gm h0 fun h6 => gv (ji (x_1.length : Int)) (ev_len (xs := x_1) h6) fun h7 => ?_)))))
  refine gm h1 fun h8 => gv (ji (x_2.length : Int)) (ev_len (xs := x_2) h8) fun h9 => ?_
  refine g2 7 9 (jb ((x_1.length : Int) != (x_2.length : Int))) h7 h9 fun h10 => ?_
  refine gq (.nsq (run_cond (t := ((x_1.length : Int) != (x_2.length : Int))) h10 h (fun h => ?_) (fun h => ?_)))
  · refine .seq (rg (g0 (jb false) fun h4 => ?_))
    refine gq (.nsq (.ret ?_))
    have hr := Option.some.inj h
    subst hr
    exact rrA (res_tmp h4) rfl
  refine .skip (.nsq (.seq (.seq (rg (g0 (ji 0) fun h5 => gq (.nsq (.block (.loop ?_))))))))
  exact t_f29_l1 H x_1 x_2 F 0 _ ⟨h0, h1, h4, h5⟩ h
end
def e29 (F : Nat) : Ent := ent 29 (fun (x : ((List (List Int)) × (List (List Int)) × Unit)) => w_eqIntSS F x.1 x.2.1) (fun (r : Bool) => (Enc.enc (r : Bool))) 0 false []
theorem p29 {F : Nat} {x0 : (List (List Int))} {x1 : (List (List Int))} {r : Bool} (h : w_eqIntSS F x0 x1 = some r) : (e29 F).den [Enc.enc x0, Enc.enc x1] = some (Enc.enc (r : Bool)) := ent_put (x0, x1, ()) h
theorem o29 {D : Den} {σ : Sig} {F : Nat} (hF : Fits2 Try.prog D σ) (H : H29 D σ F) : (e29 F).Ok Try.prog := by
  refine ok_of (f := 29) (show unk 29 = 29 from rfl) (fun args r h => ?_) ⟨Try.f29, Try.func29, rfl, rfl⟩
  obtain ⟨⟨x0, x1, _⟩, y, rfl, hy, rfl⟩ := da_open h
  exact contract_run hF (by kernel_rfl) Try.func29 rfl c29 (show 2 ≤ Try.f29.ntmps by decide) (t29 H x0 x1 _ ⟨rfl, rfl⟩ hy)
/- loop.example/g01109/laws.eqIntA2 -/
def A129_2 : AC := (.cond (.t 7) .skip (.exit 0))
def A129_4 : AC := (.cond (.t 16) (.seq (.reg [] [((jv 4 (.mov (.k (.bool false)))))] []) .ret) .skip)
def A129_5 : AC := (.reg [] [(jm 8 5), ((jv 9 (.bin .add (.t 8) (jn 1)))), (jm 5 9)] [])
def A129_3 : AC := (.seq (.block 1 (.seq (.reg [] [(jm 10 5), ((jv 11 (.idxA (.t 2) (.t 10) 2 1))), ((jv 12 (.load .s (.t 11)))), (jm 13 5), ((jv 14 (.idxA (.t 3) (.t 13) 2 1))), ((jv 15 (.load .s (.t 14)))), ((jv 16 (.bin .neq (.t 12) (.t 15))))] []) A129_4)) A129_5)
def A129_1 : AC := (.seq (.seq (.reg [] [(jm 6 5), ((jv 7 (.bin .lss (.t 6) (jn 2))))] []) A129_2) A129_3)
def A129_6 : AC := (.seq (.reg [] [((jv 4 (.mov (.k (.bool true)))))] []) .ret)
def A129_8 : AC := (.block 0 (.loop A129_1))
def A129_7 : AC := (.seq (.seq (.reg [] [((jv 5 (.mov (jn 0))))] []) A129_8) A129_6)
def A129 : AC := (.seq (.reg [.clr [2, 3]] [(.mk (some 2) none false (.box (.t 0))), (.mk (some 3) none false (.box (.t 1))), ((jv 4 (.mov (.k (.bool false)))))] []) A129_7)
def an129 : List An := [{ id := 0, pre := [.clr [2, 3]], ep := [], lin := [], sp := [] }]
theorem c129 : cC Try.prog Try.f129.ntmps an129 (Try.f129.body.getD .skip) = some A129 := by kernel_rfl
structure H129 (D : Den) (σ : Sig) (F : Nat) : Prop where
  mk ::
abbrev R129 (r : Bool) : (Nat → V) → Prop := RR Try.prog [.tmp 4] 0 false (Enc.enc (r : Bool))
section
variable {D : Den} {σ : Sig} {F : Nat} {r : Bool}
def w_eqIntA2_l1 (F : Nat) (x_1 : (Int × Int)) (x_2 : (Int × Int))  : Nat → Int → Option Bool
  | 0, _ => none
  | k + 1, x_3 =>
    bif decide (x_3 < 2) then
      (idx [x_1.1, x_1.2] x_3).bind fun e_6 =>
      (idx [x_2.1, x_2.2] x_3).bind fun e_7 =>
      bif (e_6 != e_7) then
        some false
      else
        (w_eqIntA2_l1 F x_1 x_2 k) (w64 (x_3 + 1))
    else
      some true
theorem t_f129_l1 (H : H129 D σ F) (x_1 : (Int × Int)) (x_2 : (Int × Int))  : ∀ (k : Nat) (x_3 : Int) (s : Nat → V), Facts [(2, (.ref (.bx 2) 0 [] (.agg [(ji x_1.1), (ji x_1.2)]))), (3, (.ref (.bx 3) 0 [] (.agg [(ji x_2.1), (ji x_2.2)]))), (4, (jb false)), (5, (ji x_3))] s → w_eqIntA2_l1 F x_1 x_2 k x_3 = some r → Run D σ (R129 r) (.run A129_1 [.lp A129_1, .bk 0, .sq A129_6]) s := by
  intro k
  induction k with
  | zero => intro x_3 s _ h; exact nomatch (h : (none : Option _) = some r)
  | succ k ih =>
    intro x_3 s hs h
    rw [w_eqIntA2_l1] at h
    obtain ⟨h2, h3, h4, h5⟩ := hs
    refine .seq (.seq (rg (gm h5 fun h6 => g1 6 (jb (decide (x_3 < 2))) h6 fun h7 => ?_)))
    refine gq (.nsq (run_cond (t := decide (x_3 < 2)) h7 h (fun h => ?_) (fun h => ?_)))
    · refine .skip (.nsq (.seq (.block (.seq (rg (gm h5 fun h10 => ?_))))))
      obtain ⟨e_6, E_e_6, h⟩ := bind_some h
      refine gv (.ref (.bx 2) 0 [x_3.toNat] (ji e_6)) (ev_idxA (xs := [x_1.1, x_1.2]) (a := e_6) (n := x_3) (q := []) h2 h10 E_e_6 rfl rfl rfl) fun h11 => ?_
      refine g1 11 (ji e_6) h11 fun h12 => ?_
      refine gm h5 fun h13 => ?_
      obtain ⟨e_7, E_e_7, h⟩ := bind_some h
      refine gv (.ref (.bx 3) 0 [x_3.toNat] (ji e_7)) (ev_idxA (xs := [x_2.1, x_2.2]) (a := e_7) (n := x_3) (q := []) h3 h13 E_e_7 rfl rfl rfl) fun h14 => ?_
      refine g1 14 (ji e_7) h14 fun h15 => ?_
      refine g2 12 15 (jb (e_6 != e_7)) h12 h15 fun h16 => ?_
      refine gq (.nsq (run_cond (t := (e_6 != e_7)) h16 h (fun h => ?_) (fun h => ?_)))
      · refine .seq (rg (g0 (jb false) fun h4 => ?_))
        refine gq (.nsq (.ret ?_))
        have hr := Option.some.inj h
        subst hr
        exact rrA (res_tmp h4) rfl
      refine .skip (.nbk (.nsq (rg (gm h5 fun h8 => g1 8 (ji (w64 (x_3 + 1))) h8 fun h9 => ?_))))
      refine gm h9 fun h5 => gq (.nlp ?_)
      exact ih (w64 (x_3 + 1)) _ ⟨h2, h3, h4, h5⟩ h
    refine .exit (.esq (.elp (.ebk (.nsq (.seq (rg (g0 (jb true) fun h4 => ?_)))))))
    refine gq (.nsq (.ret ?_))
    have hr := Option.some.inj h
    subst hr
    exact rrA (res_tmp h4) rfl
def w_eqIntA2 (F : Nat) (x_1 : (Int × Int)) (x_2 : (Int × Int)) : Option Bool :=
  w_eqIntA2_l1 F x_1 x_2 F 0
theorem t129 (H : H129 D σ F) (x_1 : (Int × Int)) (x_2 : (Int × Int)) (s : Nat → V) (hs : Facts [(0, (.agg [(ji x_1.1), (ji x_1.2)])), (1, (.agg [(ji x_2.1), (ji x_2.2)]))] s) (h : w_eqIntA2 F x_1 x_2 = some r) : Run D σ (R129 r) (.run A129 []) s := by
  unfold w_eqIntA2 at h
  obtain ⟨h0, h1⟩ := hs
  refine .seq (run_reg ?_)
  refine e_clr ?_
  refine ez [(0, _), (1, _), (2, _), (3, _)] ⟨(keep_clear (pk := [2, 3]) h0 rfl (map_agg (maps_cons mi (maps_cons mi maps_nil)))), (keep_clear (pk := [2, 3]) h1 rfl (map_agg (maps_cons mi (maps_cons mi maps_nil)))), (gone_clear (pk := [2, 3]) (t := 2) rfl), (gone_clear (pk := [2, 3]) (t := 3) rfl)⟩ ?_
  rintro s ⟨h0, h1, h2, h3⟩
  refine g_box (.agg [(ji x_1.1), (ji x_1.2)]) (rd_of h0 rfl) h2 rfl ?_
  refine g_box (.agg [(ji x_2.1), (ji x_2.2)]) (rd_of h1 rfl) h3 rfl ?_
  refine g0 (jb false) fun h4 => ?_
  refine gq (.nsq (.seq (.seq (rg (g0 (ji 0) fun h5 => gq (.nsq (.block (.loop ?_))))))))
  exact t_f129_l1 H x_1 x_2 F 0 _ ⟨rfl, rfl, h4, h5⟩ h
end
def e129 (F : Nat) : Ent := ent 129 (fun (x : ((Int × Int) × (Int × Int) × Unit)) => w_eqIntA2 F x.1 x.2.1) (fun (r : Bool) => (Enc.enc (r : Bool))) 0 false []
theorem p129 {F : Nat} {x0 : (Int × Int)} {x1 : (Int × Int)} {r : Bool} (h : w_eqIntA2 F x0 x1 = some r) : (e129 F).den [Enc.enc x0, Enc.enc x1] = some (Enc.enc (r : Bool)) := ent_put (x0, x1, ()) h
theorem o129 {D : Den} {σ : Sig} {F : Nat} (hF : Fits2 Try.prog D σ) (H : H129 D σ F) : (e129 F).Ok Try.prog := by
  refine ok_of (f := 129) (show unk 129 = 129 from rfl) (fun args r h => ?_) ⟨Try.f129, Try.func129, rfl, rfl⟩
  obtain ⟨⟨x0, x1, _⟩, y, rfl, hy, rfl⟩ := da_open h
  exact contract_run hF (by kernel_rfl) Try.func129 rfl c129 (show 2 ≤ Try.f129.ntmps by decide) (t129 H x0 x1 _ ⟨rfl, rfl⟩ hy)
/- loop.example/g01109/laws.eqIntA2S -/
def A68_2 : AC := (.cond (.t 14) .skip (.exit 0))
def A68_4 : AC := (.cond (.t 26) (.seq (.reg [] [((jv 4 (.mov (.k (.bool false)))))] []) .ret) .skip)
def A68_5 : AC := (.reg [] [(jm 15 5), ((jv 16 (.bin .add (.t 15) (jn 1)))), (jm 5 16)] [])
def A68_3 : AC := (.seq (.block 1 (.seq (.reg [] [(jm 17 0), (jm 18 5), ((jv 19 (.idx (.t 17) (.t 18) 2))), ((jv 20 (.load (.ag [.s, .s]) (.t 19)))), (jm 21 1), (jm 22 5), ((jv 23 (.idx (.t 21) (.t 22) 2))), ((jv 24 (.load (.ag [.s, .s]) (.t 23)))), (.mk (some 25) none false (.call (.k (.fn 129 [] [])) [(.t 20), (.t 24)])), ((jv 26 (.un .not (.t 25))))] []) A68_4)) A68_5)
def A68_1 : AC := (.seq (.seq (.reg [] [(jm 11 5), (jm 12 0), ((jv 13 (.len (.t 12)))), ((jv 14 (.bin .lss (.t 11) (.t 13))))] []) A68_2) A68_3)
def A68_6 : AC := (.seq (.reg [] [((jv 4 (.mov (.k (.bool true)))))] []) .ret)
def A68_8 : AC := (.cond (.t 10) (.seq (.reg [] [((jv 4 (.mov (.k (.bool false)))))] []) .ret) .skip)
def A68_10 : AC := (.block 0 (.loop A68_1))
def A68_9 : AC := (.seq (.seq (.reg [] [((jv 5 (.mov (jn 0))))] []) A68_10) A68_6)
def A68_7 : AC := (.seq (.seq (.reg [] [(jm 6 0), ((jv 7 (.len (.t 6)))), (jm 8 1), ((jv 9 (.len (.t 8)))), ((jv 10 (.bin .neq (.t 7) (.t 9))))] []) A68_8) A68_9)
def A68 : AC := (.seq (.reg [] [((jv 4 (.mov (.k (.bool false)))))] []) A68_7)
def an68 : List An := []
theorem c68 : cC Try.prog Try.f68.ntmps an68 (Try.f68.body.getD .skip) = some A68 := by kernel_rfl
structure H68 (D : Den) (σ : Sig) (F : Nat) : Prop where
  c129 : ∀ (x0 : (Int × Int)) (x1 : (Int × Int)) r, w_eqIntA2 F x0 x1 = some r → D 129 [Enc.enc x0, Enc.enc x1] = some (Enc.enc (r : Bool))
  g129 : σ 129 = some (0, false)
abbrev R68 (r : Bool) : (Nat → V) → Prop := RR Try.prog [.tmp 4] 0 false (Enc.enc (r : Bool))
section
variable {D : Den} {σ : Sig} {F : Nat} {r : Bool}
def w_eqIntA2S_l1 (F : Nat) (x_1 : (List (Int × Int))) (x_2 : (List (Int × Int)))  : Nat → Int → Option Bool
  | 0, _ => none
  | k + 1, x_6 =>
    bif decide (x_6 < (x_1.length : Int)) then
      (idx x_1 x_6).bind fun e_10 =>
      (idx x_2 x_6).bind fun e_11 =>
      (w_eqIntA2 F e_10 e_11).bind fun r_12 =>
      bif (!r_12) then
        some false
      else
        (w_eqIntA2S_l1 F x_1 x_2 k) (w64 (x_6 + 1))
    else
      some true
theorem t_f68_l1 (H : H68 D σ F) (x_1 : (List (Int × Int))) (x_2 : (List (Int × Int)))  : ∀ (k : Nat) (x_6 : Int) (s : Nat → V), Facts [(0, (Enc.enc (x_1 : List (Int × Int)))), (1, (Enc.enc (x_2 : List (Int × Int)))), (4, (jb false)), (5, (ji x_6))] s → w_eqIntA2S_l1 F x_1 x_2 k x_6 = some r → Run D σ (R68 r) (.run A68_1 [.lp A68_1, .bk 0, .sq A68_6]) s := by
  intro k
  induction k with
  | zero => intro x_6 s _ h; exact nomatch (h : (none : Option _) = some r)
  | succ k ih =>
    intro x_6 s hs h
    rw [w_eqIntA2S_l1] at h
    obtain ⟨h0, h1, h4, h5⟩ := hs
    refine .seq (.seq (rg (gm h5 fun h11 => gm h0 fun h12 => gv (ji (x_1.length : Int)) (ev_len (xs := x_1) h12) fun h13 => ?_)))
    refine g2 11 13 (jb (decide (x_6 < (x_1.length : Int)))) h11 h13 fun h14 => ?_
    refine gq (.nsq (run_cond (t := decide (x_6 < (x_1.length : Int))) h14 h (fun h => ?_) (fun h => ?_)))
    · refine .skip (.nsq (.seq (.block (.seq (rg (gm h0 fun h17 => gm h5 fun h18 => ?_))))))
      obtain ⟨e_10, E_e_10, h⟩ := bind_some h
      refine gv (.ref .sh 0 [] (.agg [(ji e_10.1), (ji e_10.2)])) (ev_idx (t := .sh) (lo := 0) (xs := x_1) h17 h18 E_e_10 rfl rfl) fun h19 => ?_
      refine g1 19 (.agg [(ji e_10.1), (ji e_10.2)]) h19 fun h20 => ?_
      refine gm h1 fun h21 => gm h5 fun h22 => ?_
      obtain ⟨e_11, E_e_11, h⟩ := bind_some h
      refine gv (.ref .sh 0 [] (.agg [(ji e_11.1), (ji e_11.2)])) (ev_idx (t := .sh) (lo := 0) (xs := x_2) h21 h22 E_e_11 rfl rfl) fun h23 => ?_
      refine g1 23 (.agg [(ji e_11.1), (ji e_11.2)]) h23 fun h24 => ?_
      obtain ⟨r_12, E_r_12, h⟩ := bind_some h
      refine g_call (m := 0) (al := false) (r := (Enc.enc (r_12 : Bool))) [Enc.enc (e_10 : (Int × Int)), Enc.enc (e_11 : (Int × Int))] (ta_cons (v := (.agg [(ji e_10.1), (ji e_10.2)])) h20 rfl (Enc.erase_enc (e_10 : (Int × Int))) (ta_cons (v := (.agg [(ji e_11.1), (ji e_11.2)])) h24 rfl (Enc.erase_enc (e_11 : (Int × Int))) ta_nil)) (H.c129 _ _ _ E_r_12) H.g129 rfl rfl rfl rfl ?_
      refine g1 25 (jb (!r_12)) (rfl : (_ : V) = (jb r_12)) fun h26 => ?_
      refine gq (.nsq (run_cond (t := (!r_12)) h26 h (fun h => ?_) (fun h => ?_)))
      · refine .seq (rg (g0 (jb false) fun h4 => ?_))
        refine gq (.nsq (.ret ?_))
        have hr := Option.some.inj h
        subst hr
        exact rrA (res_tmp h4) rfl
      refine .skip (.nbk (.nsq (rg (gm h5 fun h15 => g1 15 (ji (w64 (x_6 + 1))) h15 fun h16 => ?_))))
      refine gm h16 fun h5 => gq (.nlp ?_)
      exact ih (w64 (x_6 + 1)) _ ⟨h0, h1, h4, h5⟩ h
    refine .exit (.esq (.elp (.ebk (.nsq (.seq (rg (g0 (jb true) fun h4 => ?_)))))))
    refine gq (.nsq (.ret ?_))
    have hr := Option.some.inj h
    subst hr
    exact rrA (res_tmp h4) rfl
def w_eqIntA2S (F : Nat) (x_1 : (List (Int × Int))) (x_2 : (List (Int × Int))) : Option Bool :=
  bif ((x_1.length : Int) != (x_2.length : Int)) then
    some false
  else
    w_eqIntA2S_l1 F x_1 x_2 F 0
theorem t68 (H : H68 D σ F) (x_1 : (List (Int × Int))) (x_2 : (List (Int × Int))) (s : Nat → V) (hs : Facts [(0, (Enc.enc (x_1 : List (Int × Int)))), (1, (Enc.enc (x_2 : List (Int × Int))))] s) (h : w_eqIntA2S F x_1 x_2 = some r) : Run D σ (R68 r) (.run A68 []) s := by
  unfold w_eqIntA2S at h
  obtain ⟨h0, h1⟩ := hs
  refine .seq (rg (g0 (jb false) fun h4 => ?_))
  refine gq (.nsq (.seq (.seq (rg (gm h0 fun h6 => gv (ji (x_1.length : Int)) (ev_len (xs := x_1) h6) fun h7 => ?_)))))
  refine gm h1 fun h8 => gv (ji (x_2.length : Int)) (ev_len (xs := x_2) h8) fun h9 => ?_
  refine g2 7 9 (jb ((x_1.length : Int) != (x_2.length : Int))) h7 h9 fun h10 => ?_
  refine gq (.nsq (run_cond (t := ((x_1.length : Int) != (x_2.length : Int))) h10 h (fun h => ?_) (fun h => ?_)))
  · refine .seq (rg (g0 (jb false) fun h4 => ?_))
    refine gq (.nsq (.ret ?_))
    have hr := Option.some.inj h
    subst hr
    exact rrA (res_tmp h4) rfl
  refine .skip (.nsq (.seq (.seq (rg (g0 (ji 0) fun h5 => gq (.nsq (.block (.loop ?_))))))))
  exact t_f68_l1 H x_1 x_2 F 0 _ ⟨h0, h1, h4, h5⟩ h
end
def e68 (F : Nat) : Ent := ent 68 (fun (x : ((List (Int × Int)) × (List (Int × Int)) × Unit)) => w_eqIntA2S F x.1 x.2.1) (fun (r : Bool) => (Enc.enc (r : Bool))) 0 false []
theorem p68 {F : Nat} {x0 : (List (Int × Int))} {x1 : (List (Int × Int))} {r : Bool} (h : w_eqIntA2S F x0 x1 = some r) : (e68 F).den [Enc.enc x0, Enc.enc x1] = some (Enc.enc (r : Bool)) := ent_put (x0, x1, ()) h
theorem o68 {D : Den} {σ : Sig} {F : Nat} (hF : Fits2 Try.prog D σ) (H : H68 D σ F) : (e68 F).Ok Try.prog := by
  refine ok_of (f := 68) (show unk 68 = 68 from rfl) (fun args r h => ?_) ⟨Try.f68, Try.func68, rfl, rfl⟩
  obtain ⟨⟨x0, x1, _⟩, y, rfl, hy, rfl⟩ := da_open h
  exact contract_run hF (by kernel_rfl) Try.func68 rfl c68 (show 2 ≤ Try.f68.ntmps by decide) (t68 H x0 x1 _ ⟨rfl, rfl⟩ hy)
/- loop.example/g01109/laws.eqDecomposition -/
def A45_2 : AC := (.cond (.t 10) (.seq (.reg [] [((jv 4 (.mov (.k (.bool false)))))] []) .ret) .skip)
def A45_4 : AC := (.cond (.t 16) (.seq (.reg [] [((jv 4 (.mov (.k (.bool false)))))] []) .ret) .skip)
def A45_5 : AC := (.seq (.reg [] [((jv 4 (.mov (.k (.bool true)))))] []) .ret)
def A45_3 : AC := (.seq (.seq (.reg [] [((jv 11 (.fld (.t 2) 1 1))), ((jv 12 (.load .p (.t 11)))), ((jv 13 (.fld (.t 3) 1 1))), ((jv 14 (.load .p (.t 13)))), (.mk (some 15) none false (.call (.k (.fn 68 [] [])) [(.t 12), (.t 14)])), ((jv 16 (.un .not (.t 15))))] []) A45_4) A45_5)
def A45_1 : AC := (.seq (.seq (.reg [] [((jv 5 (.fld (.t 2) 0 0))), ((jv 6 (.load .p (.t 5)))), ((jv 7 (.fld (.t 3) 0 0))), ((jv 8 (.load .p (.t 7)))), (.mk (some 9) none false (.call (.k (.fn 29 [] [])) [(.t 6), (.t 8)])), ((jv 10 (.un .not (.t 9))))] []) A45_2) A45_3)
def A45 : AC := (.seq (.reg [.clr [2, 3]] [(.mk (some 2) none false (.box (.t 0))), (.mk (some 3) none false (.box (.t 1))), ((jv 4 (.mov (.k (.bool false)))))] []) A45_1)
def an45 : List An := [{ id := 0, pre := [.clr [2, 3]], ep := [], lin := [], sp := [] }]
theorem c45 : cC Try.prog Try.f45.ntmps an45 (Try.f45.body.getD .skip) = some A45 := by kernel_rfl
structure H45 (D : Den) (σ : Sig) (F : Nat) : Prop where
  c29 : ∀ (x0 : (List (List Int))) (x1 : (List (List Int))) r, w_eqIntSS F x0 x1 = some r → D 29 [Enc.enc x0, Enc.enc x1] = some (Enc.enc (r : Bool))
  g29 : σ 29 = some (0, false)
  c68 : ∀ (x0 : (List (Int × Int))) (x1 : (List (Int × Int))) r, w_eqIntA2S F x0 x1 = some r → D 68 [Enc.enc x0, Enc.enc x1] = some (Enc.enc (r : Bool))
  g68 : σ 68 = some (0, false)
abbrev R45 (r : Bool) : (Nat → V) → Prop := RR Try.prog [.tmp 4] 0 false (Enc.enc (r : Bool))
section
variable {D : Den} {σ : Sig} {F : Nat} {r : Bool}
def w_eqDecomposition (F : Nat) (x_1 : ((List (List Int)) × (List (Int × Int)))) (x_2 : ((List (List Int)) × (List (Int × Int)))) : Option Bool :=
  (w_eqIntSS F x_1.1 x_2.1).bind fun r_3 =>
  bif (!r_3) then
    some false
  else
    (w_eqIntA2S F x_1.2 x_2.2).bind fun r_4 =>
    bif (!r_4) then
      some false
    else
      some true
theorem t45 (H : H45 D σ F) (x_1 : ((List (List Int)) × (List (Int × Int)))) (x_2 : ((List (List Int)) × (List (Int × Int)))) (s : Nat → V) (hs : Facts [(0, (.agg [(Enc.enc (x_1.1 : List (List Int))), (Enc.enc (x_1.2 : List (Int × Int)))])), (1, (.agg [(Enc.enc (x_2.1 : List (List Int))), (Enc.enc (x_2.2 : List (Int × Int)))]))] s) (h : w_eqDecomposition F x_1 x_2 = some r) : Run D σ (R45 r) (.run A45 []) s := by
  unfold w_eqDecomposition at h
  obtain ⟨h0, h1⟩ := hs
  refine .seq (run_reg ?_)
  refine e_clr ?_
  refine ez [(0, _), (1, _), (2, _), (3, _)] ⟨(keep_clear (pk := [2, 3]) h0 rfl (map_agg (maps_cons me (maps_cons me maps_nil)))), (keep_clear (pk := [2, 3]) h1 rfl (map_agg (maps_cons me (maps_cons me maps_nil)))), (gone_clear (pk := [2, 3]) (t := 2) rfl), (gone_clear (pk := [2, 3]) (t := 3) rfl)⟩ ?_
  rintro s ⟨h0, h1, h2, h3⟩
  refine g_box (.agg [(Enc.enc (x_1.1 : List (List Int))), (Enc.enc (x_1.2 : List (Int × Int)))]) (rd_of h0 rfl) h2 rfl ?_
  refine g_box (.agg [(Enc.enc (x_2.1 : List (List Int))), (Enc.enc (x_2.2 : List (Int × Int)))]) (rd_of h1 rfl) h3 rfl ?_
  refine g0 (jb false) fun h4 => ?_
  refine gq (.nsq (.seq (.seq (rg (g1 2 (.ref (.bx 2) 0 [0] (Enc.enc (x_1.1 : List (List Int)))) (rfl : (_ : V) = (.ref (.bx 2) 0 [] (.agg [(Enc.enc (x_1.1 : List (List Int))), (Enc.enc (x_1.2 : List (Int × Int)))]))) fun h5 => ?_)))))
  refine g1 5 (Enc.enc (x_1.1 : List (List Int))) h5 fun h6 => ?_
  refine g1 3 (.ref (.bx 3) 0 [0] (Enc.enc (x_2.1 : List (List Int)))) (rfl : (_ : V) = (.ref (.bx 3) 0 [] (.agg [(Enc.enc (x_2.1 : List (List Int))), (Enc.enc (x_2.2 : List (Int × Int)))]))) fun h7 => ?_
  refine g1 7 (Enc.enc (x_2.1 : List (List Int))) h7 fun h8 => ?_
  obtain ⟨r_3, E_r_3, h⟩ := bind_some h
  refine g_call (m := 0) (al := false) (r := (Enc.enc (r_3 : Bool))) [Enc.enc (x_1.1 : (List (List Int))), Enc.enc (x_2.1 : (List (List Int)))] (ta_cons (v := (Enc.enc (x_1.1 : List (List Int)))) h6 rfl (Enc.erase_enc (x_1.1 : (List (List Int)))) (ta_cons (v := (Enc.enc (x_2.1 : List (List Int)))) h8 rfl (Enc.erase_enc (x_2.1 : (List (List Int)))) ta_nil)) (H.c29 _ _ _ E_r_3) H.g29 rfl rfl rfl rfl ?_
  refine g1 9 (jb (!r_3)) (rfl : (_ : V) = (jb r_3)) fun h10 => ?_
  refine gq (.nsq (run_cond (t := (!r_3)) h10 h (fun h => ?_) (fun h => ?_)))
  · refine .seq (rg (g0 (jb false) fun h4 => ?_))
    refine gq (.nsq (.ret ?_))
    have hr := Option.some.inj h
    subst hr
    exact rrA (res_tmp h4) rfl
  refine .skip (.nsq (.seq (.seq (rg (g1 2 (.ref (.bx 2) 0 [1] (Enc.enc (x_1.2 : List (Int × Int)))) (rfl : (_ : V) = (.ref (.bx 2) 0 [] (.agg [(Enc.enc (x_1.1 : List (List Int))), (Enc.enc (x_1.2 : List (Int × Int)))]))) fun h11 => ?_)))))
  refine g1 11 (Enc.enc (x_1.2 : List (Int × Int))) h11 fun h12 => ?_
  refine g1 3 (.ref (.bx 3) 0 [1] (Enc.enc (x_2.2 : List (Int × Int)))) (rfl : (_ : V) = (.ref (.bx 3) 0 [] (.agg [(Enc.enc (x_2.1 : List (List Int))), (Enc.enc (x_2.2 : List (Int × Int)))]))) fun h13 => ?_
  refine g1 13 (Enc.enc (x_2.2 : List (Int × Int))) h13 fun h14 => ?_
  obtain ⟨r_4, E_r_4, h⟩ := bind_some h
  refine g_call (m := 0) (al := false) (r := (Enc.enc (r_4 : Bool))) [Enc.enc (x_1.2 : (List (Int × Int))), Enc.enc (x_2.2 : (List (Int × Int)))] (ta_cons (v := (Enc.enc (x_1.2 : List (Int × Int)))) h12 rfl (Enc.erase_enc (x_1.2 : (List (Int × Int)))) (ta_cons (v := (Enc.enc (x_2.2 : List (Int × Int)))) h14 rfl (Enc.erase_enc (x_2.2 : (List (Int × Int)))) ta_nil)) (H.c68 _ _ _ E_r_4) H.g68 rfl rfl rfl rfl ?_
  refine g1 15 (jb (!r_4)) (rfl : (_ : V) = (jb r_4)) fun h16 => ?_
  refine gq (.nsq (run_cond (t := (!r_4)) h16 h (fun h => ?_) (fun h => ?_)))
  · refine .seq (rg (g0 (jb false) fun h4 => ?_))
    refine gq (.nsq (.ret ?_))
    have hr := Option.some.inj h
    subst hr
    exact rrA (res_tmp h4) rfl
  refine .skip (.nsq (.seq (rg (g0 (jb true) fun h4 => ?_))))
  refine gq (.nsq (.ret ?_))
  have hr := Option.some.inj h
  subst hr
  exact rrA (res_tmp h4) rfl
end
def e45 (F : Nat) : Ent := ent 45 (fun (x : (((List (List Int)) × (List (Int × Int))) × ((List (List Int)) × (List (Int × Int))) × Unit)) => w_eqDecomposition F x.1 x.2.1) (fun (r : Bool) => (Enc.enc (r : Bool))) 0 false []
theorem p45 {F : Nat} {x0 : ((List (List Int)) × (List (Int × Int)))} {x1 : ((List (List Int)) × (List (Int × Int)))} {r : Bool} (h : w_eqDecomposition F x0 x1 = some r) : (e45 F).den [Enc.enc x0, Enc.enc x1] = some (Enc.enc (r : Bool)) := ent_put (x0, x1, ()) h
theorem o45 {D : Den} {σ : Sig} {F : Nat} (hF : Fits2 Try.prog D σ) (H : H45 D σ F) : (e45 F).Ok Try.prog := by
  refine ok_of (f := 45) (show unk 45 = 45 from rfl) (fun args r h => ?_) ⟨Try.f45, Try.func45, rfl, rfl⟩
  obtain ⟨⟨x0, x1, _⟩, y, rfl, hy, rfl⟩ := da_open h
  exact contract_run hF (by kernel_rfl) Try.func45 rfl c45 (show 2 ≤ Try.f45.ntmps by decide) (t45 H x0 x1 _ ⟨rfl, rfl⟩ hy)
/- loop.example/g01109/laws.eqGraph -/
def A20_2 : AC := (.cond (.t 9) (.seq (.reg [] [((jv 4 (.mov (.k (.bool false)))))] []) .ret) .skip)
def A20_4 : AC := (.cond (.t 15) (.seq (.reg [] [((jv 4 (.mov (.k (.bool false)))))] []) .ret) .skip)
def A20_5 : AC := (.seq (.reg [] [((jv 4 (.mov (.k (.bool true)))))] []) .ret)
def A20_3 : AC := (.seq (.seq (.reg [] [((jv 10 (.fld (.t 2) 1 1))), ((jv 11 (.load .p (.t 10)))), ((jv 12 (.fld (.t 3) 1 1))), ((jv 13 (.load .p (.t 12)))), (.mk (some 14) none false (.call (.k (.fn 68 [] [])) [(.t 11), (.t 13)])), ((jv 15 (.un .not (.t 14))))] []) A20_4) A20_5)
def A20_1 : AC := (.seq (.seq (.reg [] [((jv 5 (.fld (.t 2) 0 0))), ((jv 6 (.load .s (.t 5)))), ((jv 7 (.fld (.t 3) 0 0))), ((jv 8 (.load .s (.t 7)))), ((jv 9 (.bin .neq (.t 6) (.t 8))))] []) A20_2) A20_3)
def A20 : AC := (.seq (.reg [.clr [2, 3]] [(.mk (some 2) none false (.box (.t 0))), (.mk (some 3) none false (.box (.t 1))), ((jv 4 (.mov (.k (.bool false)))))] []) A20_1)
def an20 : List An := [{ id := 0, pre := [.clr [2, 3]], ep := [], lin := [], sp := [] }]
theorem c20 : cC Try.prog Try.f20.ntmps an20 (Try.f20.body.getD .skip) = some A20 := by kernel_rfl
structure H20 (D : Den) (σ : Sig) (F : Nat) : Prop where
  c68 : ∀ (x0 : (List (Int × Int))) (x1 : (List (Int × Int))) r, w_eqIntA2S F x0 x1 = some r → D 68 [Enc.enc x0, Enc.enc x1] = some (Enc.enc (r : Bool))
  g68 : σ 68 = some (0, false)
abbrev R20 (r : Bool) : (Nat → V) → Prop := RR Try.prog [.tmp 4] 0 false (Enc.enc (r : Bool))
section
variable {D : Den} {σ : Sig} {F : Nat} {r : Bool}
def w_eqGraph (F : Nat) (x_1 : (Int × (List (Int × Int)))) (x_2 : (Int × (List (Int × Int)))) : Option Bool :=
  bif (x_1.1 != x_2.1) then
    some false
  else
    (w_eqIntA2S F x_1.2 x_2.2).bind fun r_3 =>
    bif (!r_3) then
      some false
    else
      some true
theorem t20 (H : H20 D σ F) (x_1 : (Int × (List (Int × Int)))) (x_2 : (Int × (List (Int × Int)))) (s : Nat → V) (hs : Facts [(0, (.agg [(ji x_1.1), (Enc.enc (x_1.2 : List (Int × Int)))])), (1, (.agg [(ji x_2.1), (Enc.enc (x_2.2 : List (Int × Int)))]))] s) (h : w_eqGraph F x_1 x_2 = some r) : Run D σ (R20 r) (.run A20 []) s := by
  unfold w_eqGraph at h
  obtain ⟨h0, h1⟩ := hs
  refine .seq (run_reg ?_)
  refine e_clr ?_
  refine ez [(0, _), (1, _), (2, _), (3, _)] ⟨(keep_clear (pk := [2, 3]) h0 rfl (map_agg (maps_cons mi (maps_cons me maps_nil)))), (keep_clear (pk := [2, 3]) h1 rfl (map_agg (maps_cons mi (maps_cons me maps_nil)))), (gone_clear (pk := [2, 3]) (t := 2) rfl), (gone_clear (pk := [2, 3]) (t := 3) rfl)⟩ ?_
  rintro s ⟨h0, h1, h2, h3⟩
  refine g_box (.agg [(ji x_1.1), (Enc.enc (x_1.2 : List (Int × Int)))]) (rd_of h0 rfl) h2 rfl ?_
  refine g_box (.agg [(ji x_2.1), (Enc.enc (x_2.2 : List (Int × Int)))]) (rd_of h1 rfl) h3 rfl ?_
  refine g0 (jb false) fun h4 => ?_
  refine gq (.nsq (.seq (.seq (rg (g1 2 (.ref (.bx 2) 0 [0] (ji x_1.1)) (rfl : (_ : V) = (.ref (.bx 2) 0 [] (.agg [(ji x_1.1), (Enc.enc (x_1.2 : List (Int × Int)))]))) fun h5 => ?_)))))
  refine g1 5 (ji x_1.1) h5 fun h6 => ?_
  refine g1 3 (.ref (.bx 3) 0 [0] (ji x_2.1)) (rfl : (_ : V) = (.ref (.bx 3) 0 [] (.agg [(ji x_2.1), (Enc.enc (x_2.2 : List (Int × Int)))]))) fun h7 => ?_
  refine g1 7 (ji x_2.1) h7 fun h8 => ?_
  refine g2 6 8 (jb (x_1.1 != x_2.1)) h6 h8 fun h9 => ?_
  refine gq (.nsq (run_cond (t := (x_1.1 != x_2.1)) h9 h (fun h => ?_) (fun h => ?_)))
  · refine .seq (rg (g0 (jb false) fun h4 => ?_))
    refine gq (.nsq (.ret ?_))
    have hr := Option.some.inj h
    subst hr
    exact rrA (res_tmp h4) rfl
  refine .skip (.nsq (.seq (.seq (rg (g1 2 (.ref (.bx 2) 0 [1] (Enc.enc (x_1.2 : List (Int × Int)))) (rfl : (_ : V) = (.ref (.bx 2) 0 [] (.agg [(ji x_1.1), (Enc.enc (x_1.2 : List (Int × Int)))]))) fun h10 => ?_)))))
  refine g1 10 (Enc.enc (x_1.2 : List (Int × Int))) h10 fun h11 => ?_
  refine g1 3 (.ref (.bx 3) 0 [1] (Enc.enc (x_2.2 : List (Int × Int)))) (rfl : (_ : V) = (.ref (.bx 3) 0 [] (.agg [(ji x_2.1), (Enc.enc (x_2.2 : List (Int × Int)))]))) fun h12 => ?_
  refine g1 12 (Enc.enc (x_2.2 : List (Int × Int))) h12 fun h13 => ?_
  obtain ⟨r_3, E_r_3, h⟩ := bind_some h
  refine g_call (m := 0) (al := false) (r := (Enc.enc (r_3 : Bool))) [Enc.enc (x_1.2 : (List (Int × Int))), Enc.enc (x_2.2 : (List (Int × Int)))] (ta_cons (v := (Enc.enc (x_1.2 : List (Int × Int)))) h11 rfl (Enc.erase_enc (x_1.2 : (List (Int × Int)))) (ta_cons (v := (Enc.enc (x_2.2 : List (Int × Int)))) h13 rfl (Enc.erase_enc (x_2.2 : (List (Int × Int)))) ta_nil)) (H.c68 _ _ _ E_r_3) H.g68 rfl rfl rfl rfl ?_
  refine g1 14 (jb (!r_3)) (rfl : (_ : V) = (jb r_3)) fun h15 => ?_
  refine gq (.nsq (run_cond (t := (!r_3)) h15 h (fun h => ?_) (fun h => ?_)))
  · refine .seq (rg (g0 (jb false) fun h4 => ?_))
    refine gq (.nsq (.ret ?_))
    have hr := Option.some.inj h
    subst hr
    exact rrA (res_tmp h4) rfl
  refine .skip (.nsq (.seq (rg (g0 (jb true) fun h4 => ?_))))
  refine gq (.nsq (.ret ?_))
  have hr := Option.some.inj h
  subst hr
  exact rrA (res_tmp h4) rfl
end
def e20 (F : Nat) : Ent := ent 20 (fun (x : ((Int × (List (Int × Int))) × (Int × (List (Int × Int))) × Unit)) => w_eqGraph F x.1 x.2.1) (fun (r : Bool) => (Enc.enc (r : Bool))) 0 false []
theorem p20 {F : Nat} {x0 : (Int × (List (Int × Int)))} {x1 : (Int × (List (Int × Int)))} {r : Bool} (h : w_eqGraph F x0 x1 = some r) : (e20 F).den [Enc.enc x0, Enc.enc x1] = some (Enc.enc (r : Bool)) := ent_put (x0, x1, ()) h
theorem o20 {D : Den} {σ : Sig} {F : Nat} (hF : Fits2 Try.prog D σ) (H : H20 D σ F) : (e20 F).Ok Try.prog := by
  refine ok_of (f := 20) (show unk 20 = 20 from rfl) (fun args r h => ?_) ⟨Try.f20, Try.func20, rfl, rfl⟩
  obtain ⟨⟨x0, x1, _⟩, y, rfl, hy, rfl⟩ := da_open h
  exact contract_run hF (by kernel_rfl) Try.func20 rfl c20 (show 2 ≤ Try.f20.ntmps by decide) (t20 H x0 x1 _ ⟨rfl, rfl⟩ hy)
/- loop.example/g01109/laws.toIntA2S -/
def A62o_2 : AC := (.cond (.t 11) .skip (.exit 0))
def A62o_4 : AC := (.reg [] [(jm 12 4), ((jv 13 (.bin .add (.t 12) (jn 1)))), (jm 4 13)] [])
def A62o_3 : AC := (.seq (.block 1 (.reg [] [(jm 14 3), (jm 15 4), (jm 16 0), (jm 17 4), ((jv 18 (.idx (.t 16) (.t 17) 2))), ((jv 19 (.load (.ag [.s, .s]) (.t 18)))), (.mk (some 20) none false (.call (.k (.fn 123 [] [])) [(.t 19)])), ((jv 21 (.idx (.t 14) (.t 15) 2))), (.mk none none false (.store (.ag [.s, .s]) (.t 21) (.t 20)))] [])) A62o_4)
def A62o_1 : AC := (.seq (.seq (.reg [] [(jm 8 4), (jm 9 0), ((jv 10 (.len (.t 9)))), ((jv 11 (.bin .lss (.t 8) (.t 10))))] []) A62o_2) A62o_3)
def A62o_5 : AC := (.seq (.reg [] [(jm 22 3), (jm 2 22)] [.home 3 2]) .ret)
def A62o_8 : AC := (.block 0 (.loop A62o_1))
def A62o_7 : AC := (.seq (.seq (.reg [] [((jv 4 (.mov (jn 0))))] []) A62o_8) A62o_5)
def A62o_6 : AC := (.seq (.reg [.clr [7]] [(jm 5 0), ((jv 6 (.len (.t 5)))), (.mk (some 7) none false (.mk (.t 6) (.agg [(.int .i64 (.ofNat 0)), (.int .i64 (.ofNat 0))]) (.agg [(.int .i64 (.ofNat 0)), (.int .i64 (.ofNat 0))]))), (jm 3 7)] [.home 7 3]) A62o_7)
def A62o : AC := (.seq (.reg [] [((jv 2 (.mov (.k (.sl .nl (.ag [.s, .s]) 0 [])))))] []) A62o_6)
def an62o : List An := [{ id := 1, pre := [.clr [7]], ep := [.home 7 3], lin := [], sp := [] }, { id := 6, pre := [], ep := [.home 3 2], lin := [], sp := [] }]
theorem c62o : cC Try.prog Try.f62.ntmps an62o (Try.f62.body.getD .skip) = some A62o := by kernel_rfl
structure H62o (D : Den) (σ : Sig) (F : Nat) : Prop where
  c123 : ∀ (x0 : (Int × Int)) r, w_toIntA2 F x0 = some r → D 123 [Enc.enc x0] = some (Enc.enc (r : (Int × Int)))
  g123 : σ 123 = some (0, false)
abbrev R62o (r : (NL (Int × Int))) : (Nat → V) → Prop := RR Try.prog [.tmp 2] 1 false (encO .sh (r : NL (Int × Int)))
section
variable {D : Den} {σ : Sig} {F : Nat} {r : (NL (Int × Int))}
def w_toIntA2S_o_l1 (F : Nat) (x_1 : (List (Int × Int)))  : Nat → (List (Int × Int)) → Int → Option (NL (Int × Int))
  | 0, _, _ => none
  | k + 1, x_6, x_7 =>
    bif decide (x_7 < (x_1.length : Int)) then
      (idx x_1 x_7).bind fun e_11 =>
      (w_toIntA2 F e_11).bind fun r_12 =>
      (idx x_6 x_7).bind fun e_13 =>
      (w_toIntA2S_o_l1 F x_1 k) (x_6.set x_7.toNat r_12) (w64 (x_7 + 1))
    else
      some (.of x_6)
theorem t_f62o_l1 (H : H62o D σ F) (x_1 : (List (Int × Int)))  : ∀ (k : Nat) (x_6 : (List (Int × Int))) (x_7 : Int) (s : Nat → V), Facts [(0, (Enc.enc (x_1 : List (Int × Int)))), (2, (.sl .nl (Enc.shp (Int × Int)) 0 [])), (3, (encO (.at 3 []) (.of (x_6 : List (Int × Int))))), (4, (ji x_7))] s → w_toIntA2S_o_l1 F x_1 k x_6 x_7 = some r → Run D σ (R62o r) (.run A62o_1 [.lp A62o_1, .bk 0, .sq A62o_5]) s := by
  intro k
  induction k with
  | zero => intro x_6 x_7 s _ h; exact nomatch (h : (none : Option _) = some r)
  | succ k ih =>
    intro x_6 x_7 s hs h
    rw [w_toIntA2S_o_l1] at h
    obtain ⟨h0, h2, h3, h4⟩ := hs
    refine .seq (.seq (rg (gm h4 fun h8 => gm h0 fun h9 => gv (ji (x_1.length : Int)) (ev_len (xs := x_1) h9) fun h10 => ?_)))
    refine g2 8 10 (jb (decide (x_7 < (x_1.length : Int)))) h8 h10 fun h11 => ?_
    refine gq (.nsq (run_cond (t := decide (x_7 < (x_1.length : Int))) h11 h (fun h => ?_) (fun h => ?_)))
    · refine .skip (.nsq (.seq (.block (rg (gm h3 fun h14 => gm h4 fun h15 => gm h0 fun h16 => gm h4 fun h17 => ?_)))))
      obtain ⟨e_11, E_e_11, h⟩ := bind_some h
      refine gv (.ref .sh 0 [] (.agg [(ji e_11.1), (ji e_11.2)])) (ev_idx (t := .sh) (lo := 0) (xs := x_1) h16 h17 E_e_11 rfl rfl) fun h18 => ?_
      refine g1 18 (.agg [(ji e_11.1), (ji e_11.2)]) h18 fun h19 => ?_
      obtain ⟨r_12, E_r_12, h⟩ := bind_some h
      refine g_call (m := 0) (al := false) (r := (Enc.enc (r_12 : (Int × Int)))) [Enc.enc (e_11 : (Int × Int))] (ta_cons (v := (.agg [(ji e_11.1), (ji e_11.2)])) h19 rfl (Enc.erase_enc (e_11 : (Int × Int))) ta_nil) (H.c123 _ _ E_r_12) H.g123 rfl rfl rfl rfl ?_
      obtain ⟨e_13, E_e_13, h⟩ := bind_some h
      refine gv (.ref (.at 3 []) x_7.toNat [] (.agg [(ji e_13.1), (ji e_13.2)])) (ev_idxO (o := (.of x_6)) h14 h15 E_e_13 rfl) fun h21 => ?_
      refine g_store (.agg [(ji r_12.1), (ji r_12.2)]) (rd_of h21 rfl) (rd_of rfl rfl) (by refine ⟨by decide, by decide, rfl, rfl, rfl, ?_⟩; first | rfl | (simp [V.toks, V.tokss, Enc.toks_enc]; done) | simp [V.toks, V.tokss, Enc.toks_enc, tok_memP]) ?_
      refine gz [(0, (Enc.enc (x_1 : List (Int × Int)))), (2, (.sl .nl (Enc.shp (Int × Int)) 0 [])), (3, _), (4, (ji x_7))] ⟨(keep_mut h0 (Enc.mut_enc _ _ _ _ (x_1 : List (Int × Int)))), (keep_mut h2 rfl), (keep_mut h3 mut_own), (keep_mut h4 rfl)⟩ ?_
      rintro s ⟨h0, h2, h3, h4⟩
      refine .nbk (.nsq (rg (gm h4 fun h12 => g1 12 (ji (w64 (x_7 + 1))) h12 fun h13 => ?_)))
      refine gm h13 fun h4 => gq (.nlp ?_)
      exact ih (x_6.set x_7.toNat r_12) (w64 (x_7 + 1)) _ ⟨h0, h2, h3, h4⟩ h
    refine .exit (.esq (.elp (.ebk (.nsq (.seq (rg (gm h3 fun h22 => gm h22 fun h2 => g_end ?_)))))))
    refine e_home (r := 3) (x := 2) (v := _) h2 rfl (fun s_3 hg_3 => ?_)
    refine ez [(2, (encO (.at 2 []) (.of (x_6 : List (Int × Int)))))] (hg_3 2 _ _ h2 (map_encO (r := 3) (p := []) rfl rfl)) ?_
    rintro s h2
    refine .nsq (.ret ?_)
    have hr := Option.some.inj h
    subst hr
    exact rrA (res_tmp h2) (fin_retO (finO_own (o := ((.of x_6) : NL (Int × Int)))) rfl (mine_own rfl))
def w_toIntA2S_o (F : Nat) (x_1 : (List (Int × Int))) : Option (NL (Int × Int)) :=
  (mkN (x_1.length : Int) (0, 0)).bind fun mk_2 =>
  w_toIntA2S_o_l1 F x_1 F mk_2 0
theorem t62o (H : H62o D σ F) (x_1 : (List (Int × Int))) (s : Nat → V) (hs : Facts [(0, (Enc.enc (x_1 : List (Int × Int))))] s) (h : w_toIntA2S_o F x_1 = some r) : Run D σ (R62o r) (.run A62o []) s := by
  unfold w_toIntA2S_o at h
  have h0 := hs
  refine .seq (rg (g0 (.sl .nl (Enc.shp (Int × Int)) 0 []) fun h2 => ?_))
  refine gq (.nsq (.seq (run_reg ?_)))
  refine e_clr ?_
  refine ez [(0, _), (2, _), (7, _)] ⟨(keep_clear (pk := [7]) h0 rfl me), (keep_clear (pk := [7]) h2 rfl rfl), (gone_clear (pk := [7]) (t := 7) rfl)⟩ ?_
  rintro s ⟨h0, h2, h7⟩
  refine gm h0 fun h5 => gv (ji (x_1.length : Int)) (ev_len (xs := x_1) h5) fun h6 => ?_
  obtain ⟨mk_2, E_mk_2, h⟩ := bind_some h
  refine g_mk ((0, 0) : (Int × Int)) h6 rfl h7 E_mk_2 ?_
  refine gm (rfl : (_ : V) = (encO (.at 7 []) (.of (mk_2 : List (Int × Int))))) fun h3 => ?_
  refine g_end ?_
  refine e_home (r := 7) (x := 3) (v := _) h3 rfl (fun s_2 hg_2 => ?_)
  refine ez [(0, (Enc.enc (x_1 : List (Int × Int)))), (2, (.sl .nl (Enc.shp (Int × Int)) 0 [])), (3, (encO (.at 3 []) (.of (mk_2 : List (Int × Int)))))] ⟨(hg_2 0 _ _ h0 me), (hg_2 2 _ (.sl .nl (Enc.shp (Int × Int)) 0 []) h2 rfl), (hg_2 3 _ _ h3 (map_encO (r := 7) (p := []) rfl rfl))⟩ ?_
  rintro s ⟨h0, h2, h3⟩
  refine .nsq (.seq (.seq (rg (g0 (ji 0) fun h4 => gq (.nsq (.block (.loop ?_)))))))
  exact t_f62o_l1 H x_1 F mk_2 0 _ ⟨h0, h2, h3, h4⟩ h
end
def e62o (F : Nat) : Ent := ent 1000000062 (fun (x : ((List (Int × Int)) × Unit)) => w_toIntA2S_o F x.1) (fun (r : (NL (Int × Int))) => (encO .sh (r : NL (Int × Int)))) 1 false []
theorem p62o {F : Nat} {x0 : (List (Int × Int))} {r : (NL (Int × Int))} (h : w_toIntA2S_o F x0 = some r) : (e62o F).den [Enc.enc x0] = some (encO .sh (r : NL (Int × Int))) := ent_put (x0, ()) h
theorem o62o {D : Den} {σ : Sig} {F : Nat} (hF : Fits2 Try.prog D σ) (H : H62o D σ F) : (e62o F).Ok Try.prog := by
  refine ok_of (f := 62) (show unk 1000000062 = 62 from rfl) (fun args r h => ?_) ⟨Try.f62, Try.func62, rfl, rfl⟩
  obtain ⟨⟨x0, _⟩, y, rfl, hy, rfl⟩ := da_open h
  exact contract_run hF (by kernel_rfl) Try.func62 rfl c62o (show 1 ≤ Try.f62.ntmps by decide) (t62o H x0 _ rfl hy)
/- loop.example/g01109/laws.toGraph -/
def A17o_4 : AC := (.seq (.reg [] [((jv 11 (.load (.ag [.s, .p]) (.t 3)))), (.mk none none false (.store (.ag [.s, .p]) (.t 2) (.t 11)))] []) .ret)
def A17o_3 : AC := (.seq (.reg [.clr [9]] [((jv 7 (.fld (.t 1) 1 1))), ((jv 8 (.load .p (.t 7)))), (.mk (some 9) none false (.callO (.k (.fn 62 [] [])) [(.t 8)])), ((jv 10 (.fld (.t 3) 1 1))), (.mk none none false (.store .p (.t 10) (.t 9)))] []) A17o_4)
def A17o_2 : AC := (.seq (.reg [] [((jv 4 (.fld (.t 1) 0 0))), ((jv 5 (.load .s (.t 4)))), ((jv 6 (.fld (.t 3) 0 0))), (.mk none none false (.store .s (.t 6) (.t 5)))] []) A17o_3)
def A17o_1 : AC := (.seq (.reg [.clr [3]] [(.mk (some 3) none false (.alloc (.agg [(.int .i64 (.ofNat 0)), (.sl .nl (.ag [.s, .s]) 0 [])])))] []) A17o_2)
def A17o : AC := (.seq (.reg [.clr [1, 2]] [(.mk (some 1) none false (.box (.t 0))), (.mk (some 2) none false (.alloc (.agg [(.int .i64 (.ofNat 0)), (.sl .nl (.ag [.s, .s]) 0 [])])))] []) A17o_1)
def an17o : List An := [{ id := 0, pre := [.clr [1, 2]], ep := [], lin := [], sp := [] }, { id := 1, pre := [.clr [3]], ep := [], lin := [], sp := [] }, { id := 3, pre := [.clr [9]], ep := [], lin := [], sp := [1002] }]
theorem c17o : cC Try.prog Try.f17.ntmps an17o (Try.f17.body.getD .skip) = some A17o := by kernel_rfl
structure H17o (D : Den) (σ : Sig) (F : Nat) : Prop where
  c62o : ∀ (x0 : (List (Int × Int))) r, w_toIntA2S_o F x0 = some r → D 1000000062 [Enc.enc x0] = some (encO .sh (r : NL (Int × Int)))
  g62o : σ 1000000062 = some (1, false)
abbrev R17o (r : (Int × (NL (Int × Int)))) : (Nat → V) → Prop := RR Try.prog [.cell 2 27] 1 false (.agg [(Enc.enc (r.1 : Int)), (encO .sh (r.2 : NL (Int × Int)))])
section
variable {D : Den} {σ : Sig} {F : Nat} {r : (Int × (NL (Int × Int)))}
def w_toGraph_o (F : Nat) (x_1 : (Int × (List (Int × Int)))) : Option (Int × (NL (Int × Int))) :=
  (w_toIntA2S_o F x_1.2).bind fun r_2 =>
  some (x_1.1, r_2)
theorem t17o (H : H17o D σ F) (x_1 : (Int × (List (Int × Int)))) (s : Nat → V) (hs : Facts [(0, (.agg [(ji x_1.1), (Enc.enc (x_1.2 : List (Int × Int)))]))] s) (h : w_toGraph_o F x_1 = some r) : Run D σ (R17o r) (.run A17o []) s := by
  unfold w_toGraph_o at h
  have h0 := hs
  refine .seq (run_reg ?_)
  refine e_clr ?_
  refine ez [(0, _), (1, _), (2, _)] ⟨(keep_clear (pk := [1, 2]) h0 rfl (map_agg (maps_cons mi (maps_cons me maps_nil)))), (gone_clear (pk := [1, 2]) (t := 1) rfl), (gone_clear (pk := [1, 2]) (t := 2) rfl)⟩ ?_
  rintro s ⟨h0, h1, h2⟩
  refine g_box (.agg [(ji x_1.1), (Enc.enc (x_1.2 : List (Int × Int)))]) (rd_of h0 rfl) h1 rfl ?_
  refine g_alloc h2 ?_
  refine gq (.nsq (.seq (run_reg ?_)))
  refine e_clr ?_
  refine ez [(1, _), (2, _), (3, _)] ⟨(keep_clear (pk := [3]) rfl rfl (map_bx rfl (map_agg (maps_cons mi (maps_cons me maps_nil))))), (keep_clear (pk := [3]) rfl rfl (map_bx rfl (map_agg (maps_cons mi (maps_cons rfl maps_nil))))), (gone_clear (pk := [3]) (t := 3) rfl)⟩ ?_
  rintro s ⟨h1, h2, h3⟩
  refine g_alloc h3 ?_
  refine gq (.nsq (.seq (rg (g1 1 (.ref (.bx 1) 0 [0] (ji x_1.1)) h1 fun h4 => ?_))))
  refine g1 4 (ji x_1.1) h4 fun h5 => ?_
  refine g1 3 (.ref (.bx 3) 0 [0] (ji 0)) (rfl : (_ : V) = (.ref (.bx 3) 0 [] (.agg [(ji 0), (.sl .nl (Enc.shp (Int × Int)) 0 [])]))) fun h6 => ?_
  refine g_store (ji x_1.1) (rd_of h6 rfl) (rd_of h5 rfl) (by refine ⟨by decide, by decide, rfl, rfl, rfl, ?_⟩; first | rfl | (simp [V.toks, V.tokss, Enc.toks_enc]; done) | simp [V.toks, V.tokss, Enc.toks_enc, tok_memP]) ?_
  refine gz [(1, (.ref (.bx 1) 0 [] (.agg [(ji x_1.1), (Enc.enc (x_1.2 : List (Int × Int)))]))), (2, (.ref (.bx 2) 0 [] (.agg [(ji 0), (.sl .nl (Enc.shp (Int × Int)) 0 [])]))), (3, (.ref (.bx 3) 0 [] (.agg [(ji x_1.1), (.sl .nl (Enc.shp (Int × Int)) 0 [])])))] ⟨(keep_mut h1 (mut_ref_ne rfl rfl (mut_agg (muts_cons rfl (muts_cons (Enc.mut_enc _ _ _ _ (x_1.2 : List (Int × Int))) rfl))))), (keep_mut h2 (mut_ref_ne rfl rfl (mut_agg (muts_cons rfl (muts_cons rfl rfl))))), (keep_mut rfl rfl)⟩ ?_
  rintro s ⟨h1, h2, h3⟩
  refine .nsq (.seq (run_reg ?_))
  refine e_clr ?_
  refine ez [(1, _), (2, _), (3, _), (9, _)] ⟨(keep_clear (pk := [9]) h1 rfl (map_bx rfl (map_agg (maps_cons mi (maps_cons me maps_nil))))), (keep_clear (pk := [9]) h2 rfl (map_bx rfl (map_agg (maps_cons mi (maps_cons rfl maps_nil))))), (keep_clear (pk := [9]) h3 rfl (map_bx rfl (map_agg (maps_cons mi (maps_cons rfl maps_nil))))), (gone_clear (pk := [9]) (t := 9) rfl)⟩ ?_
  rintro s ⟨h1, h2, h3, h9⟩
  refine g1 1 (.ref (.bx 1) 0 [1] (Enc.enc (x_1.2 : List (Int × Int)))) h1 fun h7 => ?_
  refine g1 7 (Enc.enc (x_1.2 : List (Int × Int))) h7 fun h8 => ?_
  obtain ⟨r_2, E_r_2, h⟩ := bind_some h
  refine g_callO (m := 1) (al := false) (r := (encO .sh (r_2 : NL (Int × Int)))) (v := (encO (.at 9 []) (r_2 : NL (Int × Int)))) (kk := 1000000062) [Enc.enc (x_1.2 : (List (Int × Int)))] (ta_cons (v := (Enc.enc (x_1.2 : List (Int × Int)))) h8 rfl (Enc.erase_enc (x_1.2 : (List (Int × Int)))) ta_nil) (H.c62o _ _ E_r_2) H.g62o rfl toks_encS tag_encO ok_encP h9 ?_
  refine g1 3 (.ref (.bx 3) 0 [1] (.sl .nl (Enc.shp (Int × Int)) 0 [])) h3 fun h10 => ?_
  refine g_store (encO (.at 9 []) (r_2 : NL (Int × Int))) (rd_of h10 rfl) (rd_of rfl ok_encP) ⟨by decide, by decide, mem_encP, shp_encP, rfl, tok_encP rfl rfl⟩ ?_
  refine gz [(2, (.ref (.bx 2) 0 [] (.agg [(ji 0), (.sl .nl (Enc.shp (Int × Int)) 0 [])]))), (3, (.ref (.bx 3) 0 [] (.agg [(ji x_1.1), (encO (.at 9 []) (r_2 : NL (Int × Int)))])))] ⟨(keep_mut h2 (mut_ref_ne rfl rfl (mut_agg (muts_cons rfl (muts_cons rfl rfl))))), (keep_mut h3 rfl)⟩ ?_
  rintro s ⟨h2, h3⟩
  refine .nsq (.seq (rg (gv (.agg [(ji x_1.1), (encO (.at 9 []) (r_2 : NL (Int × Int)))]) (ev_loadN (c := (.agg [(ji x_1.1), (encO (.at 9 []) (r_2 : NL (Int × Int)))])) h3 (by simp [V.shape, V.shapes, shape_encP, shape_encN, Sh.beq, Sh.beqs])) fun h11 => ?_)))
  refine g_store (.agg [(ji x_1.1), (encO (.at 9 []) (r_2 : NL (Int × Int)))]) (rd_of h2 rfl) (rd_of h11 rfl) ⟨by decide, by decide, rfl, (by simp [V.shape, V.shapes, shape_encP, Sh.beq, Sh.beqs]), (by simp [V.shape, V.shapes, shape_encP, Sh.beq, Sh.beqs]), (by simp [V.toks, V.tokss, tok_memP])⟩ ?_
  refine gz [(2, (.ref (.bx 2) 0 [] (.agg [(ji x_1.1), (encO (.at 9 []) (r_2 : NL (Int × Int)))])))] (keep_mut h2 rfl) ?_
  rintro s h2
  refine .nsq (.ret ?_)
  have hr := Option.some.inj h
  subst hr
  exact rrA (res_cell h2 (by simp only [V.shape, V.shapes, shape_encP]; kernel_rfl)) (fin_retO (finO_agg (finOs_cons finO_int (finOs_cons (finO_own (o := (r_2 : NL (Int × Int)))) finOs_nil))) rfl (mine_agg (mines_cons rfl (mines_cons (mine_own rfl) mines_nil))))
end
def e17o (F : Nat) : Ent := ent 1000000017 (fun (x : ((Int × (List (Int × Int))) × Unit)) => w_toGraph_o F x.1) (fun (r : (Int × (NL (Int × Int)))) => (.agg [(Enc.enc (r.1 : Int)), (encO .sh (r.2 : NL (Int × Int)))])) 1 false []
theorem p17o {F : Nat} {x0 : (Int × (List (Int × Int)))} {r : (Int × (NL (Int × Int)))} (h : w_toGraph_o F x0 = some r) : (e17o F).den [Enc.enc x0] = some (.agg [(Enc.enc (r.1 : Int)), (encO .sh (r.2 : NL (Int × Int)))]) := ent_put (x0, ()) h
theorem o17o {D : Den} {σ : Sig} {F : Nat} (hF : Fits2 Try.prog D σ) (H : H17o D σ F) : (e17o F).Ok Try.prog := by
  refine ok_of (f := 17) (show unk 1000000017 = 17 from rfl) (fun args r h => ?_) ⟨Try.f17, Try.func17, rfl, rfl⟩
  obtain ⟨⟨x0, _⟩, y, rfl, hy, rfl⟩ := da_open h
  exact contract_run hF (by kernel_rfl) Try.func17 rfl c17o (show 1 ≤ Try.f17.ntmps by decide) (t17o H x0 _ rfl hy)
/- loop.example/g01109/laws.markIntA2S -/
def A69_2 : AC := (.cond (.t 10) .skip (.exit 0))
def A69_6 : AC := (.cond (.t 14) .skip (.exit 2))
def A69_8 : AC := (.reg [] [(jm 23 1), ((jv 24 (.bin .add (.t 23) (jn 1)))), (jm 1 24)] [])
def A69_9 : AC := (.reg [] [(jm 15 6), ((jv 16 (.bin .add (.t 15) (jn 1)))), (jm 6 16)] [])
def A69_7 : AC := (.seq (.block 3 (.seq (.reg [] [(jm 17 0), (jm 18 5), (jm 19 6), (jm 20 1), ((jv 21 (.idx (.t 17) (.t 18) 2))), ((jv 22 (.idxA (.t 21) (.t 19) 2 1))), (.mk none none false (.store .s (.t 22) (.t 20)))] []) A69_8)) A69_9)
def A69_5 : AC := (.seq (.seq (.reg [] [(jm 13 6), ((jv 14 (.bin .lss (.t 13) (jn 2))))] []) A69_6) A69_7)
def A69_4 : AC := (.block 2 (.loop A69_5))
def A69_10 : AC := (.reg [] [(jm 11 5), ((jv 12 (.bin .add (.t 11) (jn 1)))), (jm 5 12)] [])
def A69_3 : AC := (.seq (.block 1 (.seq (.reg [] [((jv 6 (.mov (jn 0))))] []) A69_4)) A69_10)
def A69_1 : AC := (.seq (.seq (.reg [] [(jm 7 5), (jm 8 0), ((jv 9 (.len (.t 8)))), ((jv 10 (.bin .lss (.t 7) (.t 9))))] []) A69_2) A69_3)
def A69_11 : AC := (.seq (.reg [] [(jm 25 1), (jm 4 25)] []) .ret)
def A69_13 : AC := (.block 0 (.loop A69_1))
def A69_12 : AC := (.seq (.seq (.reg [] [((jv 5 (.mov (jn 0))))] []) A69_13) A69_11)
def A69 : AC := (.seq (.reg [] [((jv 4 (.mov (jn 0))))] []) A69_12)
def an69 : List An := []
theorem c69 : cC Try.prog Try.f69.ntmps an69 (Try.f69.body.getD .skip) = some A69 := by kernel_rfl
structure H69 (D : Den) (σ : Sig) (F : Nat) : Prop where
  mk ::
abbrev R69 (r : (Int × NL (Int × Int))) : (Nat → V) → Prop := RM Try.prog [.tmp 4] (Enc.enc (r.1 : Int)) (encO (.at pinR []) (r.2 : NL (Int × Int)))
section
variable {D : Den} {σ : Sig} {F : Nat} {r : (Int × NL (Int × Int))}
def w_markIntA2S_l1 (F : Nat) (x_13 : Int) (c1 : (NL (Int × Int)) → Int → Int → Option (Int × NL (Int × Int))) : Nat → (NL (Int × Int)) → Int → Int → Option (Int × NL (Int × Int))
  | 0, _, _, _ => none
  | k + 1, x_23, x_24, x_25 =>
    bif decide (x_25 < 2) then
      (idx x_23.list x_13).bind fun e_28 =>
      (idx [e_28.1, e_28.2] x_25).bind fun e_29 =>
      (w_markIntA2S_l1 F x_13 c1 k) (NL.set2 x_23 x_13.toNat x_25 x_24) (w64 (x_24 + 1)) (w64 (x_25 + 1))
    else
      c1 x_23 x_24 (w64 (x_13 + 1))
theorem t_f69_l1 (H : H69 D σ F) (x_13 : Int) (c1 : (NL (Int × Int)) → Int → Int → Option (Int × NL (Int × Int))) (Hc1 : ∀ (x_11 : (NL (Int × Int))) (x_12 : Int) (x_13 : Int) (s : Nat → V), Facts [(0, (encO (.at pinR []) (x_11 : NL (Int × Int)))), (1, (ji x_12)), (4, (ji 0)), (5, (ji x_13))] s → c1 x_11 x_12 x_13 = some r → Run D σ (R69 r) (.run A69_1 [.lp A69_1, .bk 0, .sq A69_11]) s) : ∀ (k : Nat) (x_23 : (NL (Int × Int))) (x_24 : Int) (x_25 : Int) (s : Nat → V), Facts [(0, (encO (.at pinR []) (x_23 : NL (Int × Int)))), (1, (ji x_24)), (4, (ji 0)), (5, (ji x_13)), (6, (ji x_25))] s → w_markIntA2S_l1 F x_13 c1 k x_23 x_24 x_25 = some r → Run D σ (R69 r) (.run A69_5 [.lp A69_5, .bk 2, .bk 1, .sq A69_10, .lp A69_1, .bk 0, .sq A69_11]) s := by
  intro k
  induction k with
  | zero => intro x_23 x_24 x_25 s _ h; exact nomatch (h : (none : Option _) = some r)
  | succ k ih =>
    intro x_23 x_24 x_25 s hs h
    rw [w_markIntA2S_l1] at h
    obtain ⟨h0, h1, h4, h5, h6⟩ := hs
    refine .seq (.seq (rg (gm h6 fun h13 => g1 13 (jb (decide (x_25 < 2))) h13 fun h14 => ?_)))
    refine gq (.nsq (run_cond (t := decide (x_25 < 2)) h14 h (fun h => ?_) (fun h => ?_)))
    · refine .skip (.nsq (.seq (.block (.seq (rg (gv (encO (.at pinR []) (x_23 : NL (Int × Int))) (ev_mov h0 ok_encO) fun h17 => ?_))))))
      refine gm h5 fun h18 => gm h6 fun h19 => gm h1 fun h20 => ?_
      obtain ⟨e_28, E_e_28, h⟩ := bind_some h
      refine gv (.ref (.at pinR []) x_13.toNat [] (.agg [(ji e_28.1), (ji e_28.2)])) (ev_idxO (o := x_23) h17 h18 E_e_28 rfl) fun h21 => ?_
      obtain ⟨e_29, E_e_29, h⟩ := bind_some h
      refine gv (.ref (.at pinR []) x_13.toNat [x_25.toNat] (ji e_29)) (ev_idxA (xs := [e_28.1, e_28.2]) (a := e_29) (n := x_25) (q := []) h21 h19 E_e_29 rfl rfl rfl) fun h22 => ?_
      refine g_store (ji x_24) (rd_of h22 rfl) (rd_of h20 rfl) (by refine ⟨by decide, by decide, rfl, rfl, rfl, ?_⟩; first | rfl | (simp [V.toks, V.tokss, Enc.toks_enc]; done) | simp [V.toks, V.tokss, Enc.toks_enc, tok_memP]) ?_
      refine gz [(0, (encO (.at pinR []) ((NL.set2 x_23 x_13.toNat x_25 x_24) : NL (Int × Int)))), (1, (ji x_24)), (4, (ji 0)), (5, (ji x_13)), (6, (ji x_25))] ⟨(keep_mut h0 (mut_own2 (o := x_23) E_e_29 rfl)), (keep_mut h1 rfl), (keep_mut h4 rfl), (keep_mut h5 rfl), (keep_mut h6 rfl)⟩ ?_
      rintro s ⟨h0, h1, h4, h5, h6⟩
      refine .nsq (rg (gm h1 fun h23 => g1 23 (ji (w64 (x_24 + 1))) h23 fun h24 => ?_))
      refine gm h24 fun h1 => gq (.nbk (.nsq (rg (gm h6 fun h15 => g1 15 (ji (w64 (x_25 + 1))) h15 fun h16 => ?_))))
      refine gm h16 fun h6 => gq (.nlp ?_)
      exact ih (NL.set2 x_23 x_13.toNat x_25 x_24) (w64 (x_24 + 1)) (w64 (x_25 + 1)) _ ⟨h0, h1, h4, h5, h6⟩ h
    refine .exit (.esq (.elp (.ebk (.nbk (.nsq (rg (gm h5 fun h11 => g1 11 (ji (w64 (x_13 + 1))) h11 fun h12 => ?_)))))))
    refine gm h12 fun h5 => gq (.nlp ?_)
    exact Hc1 x_23 x_24 (w64 (x_13 + 1)) _ ⟨h0, h1, h4, h5⟩ h
def w_markIntA2S_l2 (F : Nat)   : Nat → (NL (Int × Int)) → Int → Int → Option (Int × NL (Int × Int))
  | 0, _, _, _ => none
  | k + 1, x_11, x_12, x_13 =>
    bif decide (x_13 < (x_11.list.length : Int)) then
      w_markIntA2S_l1 F x_13 (w_markIntA2S_l2 F k) F x_11 x_12 0
    else
      some (x_12, x_11)
theorem t_f69_l2 (H : H69 D σ F)   : ∀ (k : Nat) (x_11 : (NL (Int × Int))) (x_12 : Int) (x_13 : Int) (s : Nat → V), Facts [(0, (encO (.at pinR []) (x_11 : NL (Int × Int)))), (1, (ji x_12)), (4, (ji 0)), (5, (ji x_13))] s → w_markIntA2S_l2 F k x_11 x_12 x_13 = some r → Run D σ (R69 r) (.run A69_1 [.lp A69_1, .bk 0, .sq A69_11]) s := by
  intro k
  induction k with
  | zero => intro x_11 x_12 x_13 s _ h; exact nomatch (h : (none : Option _) = some r)
  | succ k ih =>
    intro x_11 x_12 x_13 s hs h
    rw [w_markIntA2S_l2] at h
    obtain ⟨h0, h1, h4, h5⟩ := hs
    refine .seq (.seq (rg (gm h5 fun h7 => gv (encO (.at pinR []) (x_11 : NL (Int × Int))) (ev_mov h0 ok_encO) fun h8 => ?_)))
    refine gv (ji (x_11.list.length : Int)) (ev_lenO (o := x_11) h8) fun h9 => ?_
    refine g2 7 9 (jb (decide (x_13 < (x_11.list.length : Int)))) h7 h9 fun h10 => ?_
    refine gq (.nsq (run_cond (t := decide (x_13 < (x_11.list.length : Int))) h10 h (fun h => ?_) (fun h => ?_)))
    · refine .skip (.nsq (.seq (.block (.seq (rg (g0 (ji 0) fun h6 => gq (.nsq (.block (.loop ?_)))))))))
      exact t_f69_l1 H x_13 (w_markIntA2S_l2 F k) ih F x_11 x_12 0 _ ⟨h0, h1, h4, h5, h6⟩ h
    refine .exit (.esq (.elp (.ebk (.nsq (.seq (rg (gm h1 fun h25 => gm h25 fun h4 => gq (.nsq (.ret ?_)))))))))
    have hr := Option.some.inj h
    subst hr
    exact rmA (res_tmp h4) h0
def w_markIntA2S (F : Nat) (x_1 : (On (Int × Int))) (x_2 : Int) : Option (Int × NL (Int × Int)) :=
  w_markIntA2S_l2 F F x_1.v x_2 0
theorem t69 (H : H69 D σ F) (x_1 : (On (Int × Int))) (x_2 : Int) (s : Nat → V) (hs : Facts [(0, (encO (.at pinR []) (x_1.v : NL (Int × Int)))), (1, (ji x_2))] s) (h : w_markIntA2S F x_1 x_2 = some r) : Run D σ (R69 r) (.run A69 []) s := by
  unfold w_markIntA2S at h
  obtain ⟨h0, h1⟩ := hs
  refine .seq (rg (g0 (ji 0) fun h4 => gq (.nsq (.seq (.seq (rg (g0 (ji 0) fun h5 => gq (.nsq (.block (.loop ?_))))))))))
  exact t_f69_l2 H F x_1.v x_2 0 _ ⟨h0, h1, h4, h5⟩ h
end
def e69 (F : Nat) : Ent := ent 69 (fun (x : ((On (Int × Int)) × Int × Unit)) => w_markIntA2S F x.1 x.2.1) (fun (r : (Int × NL (Int × Int))) => (.tup [Enc.enc (r.1 : Int), encO (.at pinR []) (r.2 : NL (Int × Int))])) pinR false []
theorem p69 {F : Nat} {x0 : (On (Int × Int))} {x1 : Int} {r : (Int × NL (Int × Int))} (h : w_markIntA2S F x0 x1 = some r) : (e69 F).den [Arg.arg x0, Enc.enc x1] = some (.tup [Enc.enc (r.1 : Int), encO (.at pinR []) (r.2 : NL (Int × Int))]) := ent_put (x0, x1, ()) h
theorem o69 {D : Den} {σ : Sig} {F : Nat} (hF : Fits2 Try.prog D σ) (H : H69 D σ F) : (e69 F).Ok Try.prog := by
  refine ok_of (f := 69) (show unk 69 = 69 from rfl) (fun args r h => ?_) ⟨Try.f69, Try.func69, rfl, rfl⟩
  obtain ⟨⟨x0, x1, _⟩, y, rfl, hy, rfl⟩ := da_open h
  exact contractM_run hF (by kernel_rfl) Try.func69 rfl c69 (all_ok2 ok_encP rfl) (show 2 ≤ Try.f69.ntmps by decide) (by decide) (t69 H x0 x1 _ ⟨rfl, rfl⟩ hy)
/- loop.example/g01109/laws.markGraph -/
def A22_2 : AC := (.seq (.reg [] [(jm 9 1), (jm 4 9)] []) .ret)
def A22_1 : AC := (.seq (.reg [] [((jv 5 (.fld (.t 2) 1 1))), ((jv 6 (.load .p (.t 5)))), (jm 7 1), (.mk (some 8) none false (.mark (.k (.fn 69 [] [])) [(.t 6), (.t 7)])), (jm 1 8)] []) A22_2)
def A22 : AC := (.seq (.reg [.clr [2]] [(.mk (some 2) none false (.box (.t 0))), ((jv 4 (.mov (jn 0))))] []) A22_1)
def an22 : List An := [{ id := 0, pre := [.clr [2]], ep := [], lin := [], sp := [] }, { id := 1, pre := [], ep := [], lin := [], sp := [3] }]
theorem c22 : cC Try.prog Try.f22.ntmps an22 (Try.f22.body.getD .skip) = some A22 := by kernel_rfl
structure H22 (D : Den) (σ : Sig) (F : Nat) : Prop where
  c69 : ∀ (x0 : (On (Int × Int))) (x1 : Int) r, w_markIntA2S F x0 x1 = some r → D 69 [Arg.arg x0, Enc.enc x1] = some (.tup [Enc.enc (r.1 : Int), encO (.at pinR []) (r.2 : NL (Int × Int))])
  g69 : σ 69 = some (pinR, false)
abbrev R22 (r : (Int × Og (Int × Int))) : (Nat → V) → Prop := RM Try.prog [.tmp 4] (Enc.enc (r.1 : Int)) (.agg [Enc.enc (r.2.a : Int), encO (.at pinR [1]) (r.2.v : NL (Int × Int))])
section
variable {D : Den} {σ : Sig} {F : Nat} {r : (Int × Og (Int × Int))}
def w_markGraph (F : Nat) (x_1 : (Og (Int × Int))) (x_2 : Int) : Option (Int × Og (Int × Int)) :=
  (w_markIntA2S F (On.mk x_1.v : (On (Int × Int))) x_2).bind fun r_3 =>
  (remark x_1.v r_3.2).bind fun m_4 =>
  some (r_3.1, Og.mk x_1.a m_4)
theorem t22 (H : H22 D σ F) (x_1 : (Og (Int × Int))) (x_2 : Int) (s : Nat → V) (hs : Facts [(0, (.agg [(ji x_1.a), (encO (.at pinR [1]) (x_1.v : NL (Int × Int)))])), (1, (ji x_2))] s) (h : w_markGraph F x_1 x_2 = some r) : Run D σ (R22 r) (.run A22 []) s := by
  unfold w_markGraph at h
  obtain ⟨h0, h1⟩ := hs
  refine .seq (run_reg ?_)
  refine e_clr ?_
  refine ez [(0, _), (1, _), (2, _)] ⟨(keep_clear (pk := [2]) h0 rfl (map_agg (maps_cons mi (maps_cons (map_encO (r := pinR) (p := [1]) rfl rfl) maps_nil)))), (keep_clear (pk := [2]) h1 rfl mi), (gone_clear (pk := [2]) (t := 2) rfl)⟩ ?_
  rintro s ⟨h0, h1, h2⟩
  refine g_box (.agg [(ji x_1.a), (encO (.at pinR [1]) (x_1.v : NL (Int × Int)))]) (rd_of h0 rfl) h2 rfl ?_
  refine g0 (ji 0) fun h4 => gq (.nsq (.seq (rg (g1 2 (.ref (.bx 2) 0 [1] (encO (.at pinR [1]) (x_1.v : NL (Int × Int)))) (rfl : (_ : V) = (.ref (.bx 2) 0 [] (.agg [(ji x_1.a), (encO (.at pinR [1]) (x_1.v : NL (Int × Int)))]))) fun h5 => ?_))))
  refine gv (encO (.at pinR [1]) (x_1.v : NL (Int × Int))) (ev_loadN h5 beq_encO) fun h6 => ?_
  refine gm h1 fun h7 => ?_
  obtain ⟨r_3, E_r_3, h⟩ := bind_some h
  obtain ⟨m_4, E_m_4, h⟩ := bind_some h
  refine g_mark (v := (encO (.at pinR [1]) (x_1.v : NL (Int × Int)))) h6 (canon_own (o := (x_1.v : (NL (Int × Int)))) rfl) (rdAll_cons (v := (ji x_2)) h7 rfl rdAll_nil) (H.c69 _ _ _ E_r_3) H.g69 rfl rfl (fun s_2 hm_2 => ?_)
  refine gm (rfl : (_ : V) = (ji r_3.1)) fun h1 => ?_
  refine gz [(0, (.agg [(ji x_1.a), (encO (.at pinR [1]) (m_4 : NL (Int × Int)))])), (1, _), (4, (ji 0))] ⟨(show s_2 0 = (.agg [(ji x_1.a), (encO (.at pinR [1]) (m_4 : NL (Int × Int)))]) from hm_2 0 (.agg [(ji x_1.a), (encO (.at pinR [1]) (x_1.v : NL (Int × Int)))]) (.agg [(ji x_1.a), (encO (.at pinR [1]) (m_4 : NL (Int × Int)))]) h0 (rem_agg (rems_cons (rem_self _ rfl) (rems_cons (marked_own (o := (x_1.v : NL (Int × Int))) rfl E_m_4) rems_nil)))), h1, (show s_2 4 = (ji 0) from hm_2 4 (ji 0) (ji 0) h4 (rem_self _ rfl))⟩ ?_
  rintro s ⟨h0, h1, h4⟩
  refine .nsq (.seq (rg (gm h1 fun h9 => gm h9 fun h4 => gq (.nsq (.ret ?_)))))
  have hr := Option.some.inj h
  subst hr
  exact rmA (res_tmp h4) h0
end
def e22 (F : Nat) : Ent := ent 22 (fun (x : ((Og (Int × Int)) × Int × Unit)) => w_markGraph F x.1 x.2.1) (fun (r : (Int × Og (Int × Int))) => (.tup [Enc.enc (r.1 : Int), .agg [Enc.enc (r.2.a : Int), encO (.at pinR [1]) (r.2.v : NL (Int × Int))]])) pinR false []
theorem p22 {F : Nat} {x0 : (Og (Int × Int))} {x1 : Int} {r : (Int × Og (Int × Int))} (h : w_markGraph F x0 x1 = some r) : (e22 F).den [Arg.arg x0, Enc.enc x1] = some (.tup [Enc.enc (r.1 : Int), .agg [Enc.enc (r.2.a : Int), encO (.at pinR [1]) (r.2.v : NL (Int × Int))]]) := ent_put (x0, x1, ()) h
theorem o22 {D : Den} {σ : Sig} {F : Nat} (hF : Fits2 Try.prog D σ) (H : H22 D σ F) : (e22 F).Ok Try.prog := by
  refine ok_of (f := 22) (show unk 22 = 22 from rfl) (fun args r h => ?_) ⟨Try.f22, Try.func22, rfl, rfl⟩
  obtain ⟨⟨x0, x1, _⟩, y, rfl, hy, rfl⟩ := da_open h
  exact contractM_run hF (by kernel_rfl) Try.func22 rfl c22 (all_ok2 rfl rfl) (show 2 ≤ Try.f22.ntmps by decide) (by decide) (t22 H x0 x1 _ ⟨rfl, rfl⟩ hy)
/- loop.example/g01109/laws.toIntS -/
def A18o_2 : AC := (.cond (.t 11) .skip (.exit 0))
def A18o_4 : AC := (.reg [] [(jm 12 4), ((jv 13 (.bin .add (.t 12) (jn 1)))), (jm 4 13)] [])
def A18o_3 : AC := (.seq (.block 1 (.reg [] [(jm 14 3), (jm 15 4), (jm 16 0), (jm 17 4), ((jv 18 (.idx (.t 16) (.t 17) 1))), ((jv 19 (.load .s (.t 18)))), ((jv 20 (.idx (.t 14) (.t 15) 1))), (.mk none none false (.store .s (.t 20) (.t 19)))] [])) A18o_4)
def A18o_1 : AC := (.seq (.seq (.reg [] [(jm 8 4), (jm 9 0), ((jv 10 (.len (.t 9)))), ((jv 11 (.bin .lss (.t 8) (.t 10))))] []) A18o_2) A18o_3)
def A18o_5 : AC := (.seq (.reg [] [(jm 21 3), (jm 2 21)] [.home 3 2]) .ret)
def A18o_8 : AC := (.block 0 (.loop A18o_1))
def A18o_7 : AC := (.seq (.seq (.reg [] [((jv 4 (.mov (jn 0))))] []) A18o_8) A18o_5)
def A18o_6 : AC := (.seq (.reg [.clr [7]] [(jm 5 0), ((jv 6 (.len (.t 5)))), (.mk (some 7) none false (.mk (.t 6) (.int .i64 (.ofNat 0)) (.int .i64 (.ofNat 0)))), (jm 3 7)] [.home 7 3]) A18o_7)
def A18o : AC := (.seq (.reg [] [((jv 2 (.mov (.k (.sl .nl .s 0 [])))))] []) A18o_6)
def an18o : List An := [{ id := 1, pre := [.clr [7]], ep := [.home 7 3], lin := [], sp := [] }, { id := 6, pre := [], ep := [.home 3 2], lin := [], sp := [] }]
theorem c18o : cC Try.prog Try.f18.ntmps an18o (Try.f18.body.getD .skip) = some A18o := by kernel_rfl
structure H18o (D : Den) (σ : Sig) (F : Nat) : Prop where
  mk ::
abbrev R18o (r : (NL Int)) : (Nat → V) → Prop := RR Try.prog [.tmp 2] 1 false (encO .sh (r : NL Int))
section
variable {D : Den} {σ : Sig} {F : Nat} {r : (NL Int)}
def w_toIntS_o_l1 (F : Nat) (x_1 : (List Int))  : Nat → (List Int) → Int → Option (NL Int)
  | 0, _, _ => none
  | k + 1, x_5, x_6 =>
    bif decide (x_6 < (x_1.length : Int)) then
      (idx x_1 x_6).bind fun e_9 =>
      (idx x_5 x_6).bind fun e_10 =>
      (w_toIntS_o_l1 F x_1 k) (x_5.set x_6.toNat e_9) (w64 (x_6 + 1))
    else
      some (.of x_5)
theorem t_f18o_l1 (H : H18o D σ F) (x_1 : (List Int))  : ∀ (k : Nat) (x_5 : (List Int)) (x_6 : Int) (s : Nat → V), Facts [(0, (eL x_1)), (2, (.sl .nl (Enc.shp Int) 0 [])), (3, (oI 3 [] (.of x_5))), (4, (ji x_6))] s → w_toIntS_o_l1 F x_1 k x_5 x_6 = some r → Run D σ (R18o r) (.run A18o_1 [.lp A18o_1, .bk 0, .sq A18o_5]) s := by
  intro k
  induction k with
  | zero => intro x_5 x_6 s _ h; exact nomatch (h : (none : Option _) = some r)
  | succ k ih =>
    intro x_5 x_6 s hs h
    rw [w_toIntS_o_l1] at h
    obtain ⟨h0, h2, h3, h4⟩ := hs
    refine .seq (.seq (rg (gm h4 fun h8 => gm h0 fun h9 => gv (ji (x_1.length : Int)) (ev_len (xs := x_1) h9) fun h10 => ?_)))
    refine g2 8 10 (jb (decide (x_6 < (x_1.length : Int)))) h8 h10 fun h11 => ?_
    refine gq (.nsq (run_cond (t := decide (x_6 < (x_1.length : Int))) h11 h (fun h => ?_) (fun h => ?_)))
    · refine .skip (.nsq (.seq (.block (rg (gm h3 fun h14 => gm h4 fun h15 => gm h0 fun h16 => gm h4 fun h17 => ?_)))))
      obtain ⟨e_9, E_e_9, h⟩ := bind_some h
      refine gv (.ref .sh 0 [] (ji e_9)) (ev_idx (t := .sh) (lo := 0) (xs := x_1) h16 h17 E_e_9 rfl rfl) fun h18 => ?_
      refine g1 18 (ji e_9) h18 fun h19 => ?_
      obtain ⟨e_10, E_e_10, h⟩ := bind_some h
      refine gv (.ref (.at 3 []) x_6.toNat [] (ji e_10)) (ev_idxO (o := (.of x_5)) h14 h15 E_e_10 rfl) fun h20 => ?_
      refine g_store (ji e_9) (rd_of h20 rfl) (rd_of h19 rfl) (by refine ⟨by decide, by decide, rfl, rfl, rfl, ?_⟩; first | rfl | (simp [V.toks, V.tokss, Enc.toks_enc]; done) | simp [V.toks, V.tokss, Enc.toks_enc, tok_memP]) ?_
      refine gz [(0, (eL x_1)), (2, (.sl .nl (Enc.shp Int) 0 [])), (3, _), (4, (ji x_6))] ⟨(keep_mut h0 (Enc.mut_enc _ _ _ _ (x_1 : List Int))), (keep_mut h2 rfl), (keep_mut h3 mut_own), (keep_mut h4 rfl)⟩ ?_
      rintro s ⟨h0, h2, h3, h4⟩
      refine .nbk (.nsq (rg (gm h4 fun h12 => g1 12 (ji (w64 (x_6 + 1))) h12 fun h13 => ?_)))
      refine gm h13 fun h4 => gq (.nlp ?_)
      exact ih (x_5.set x_6.toNat e_9) (w64 (x_6 + 1)) _ ⟨h0, h2, h3, h4⟩ h
    refine .exit (.esq (.elp (.ebk (.nsq (.seq (rg (gm h3 fun h21 => gm h21 fun h2 => g_end ?_)))))))
    refine e_home (r := 3) (x := 2) (v := _) h2 rfl (fun s_3 hg_3 => ?_)
    refine ez [(2, (oI 2 [] (.of x_5)))] (hg_3 2 _ _ h2 (map_encO (r := 3) (p := []) rfl rfl)) ?_
    rintro s h2
    refine .nsq (.ret ?_)
    have hr := Option.some.inj h
    subst hr
    exact rrA (res_tmp h2) (fin_retO (finO_own (o := ((.of x_5) : NL Int))) rfl (mine_own rfl))
def w_toIntS_o (F : Nat) (x_1 : (List Int)) : Option (NL Int) :=
  (mkN (x_1.length : Int) (0 : Int)).bind fun mk_2 =>
  w_toIntS_o_l1 F x_1 F mk_2 0
theorem t18o (H : H18o D σ F) (x_1 : (List Int)) (s : Nat → V) (hs : Facts [(0, (eL x_1))] s) (h : w_toIntS_o F x_1 = some r) : Run D σ (R18o r) (.run A18o []) s := by
  unfold w_toIntS_o at h
  have h0 := hs
  refine .seq (rg (g0 (.sl .nl (Enc.shp Int) 0 []) fun h2 => ?_))
  refine gq (.nsq (.seq (run_reg ?_)))
  refine e_clr ?_
  refine ez [(0, _), (2, _), (7, _)] ⟨(keep_clear (pk := [7]) h0 rfl me), (keep_clear (pk := [7]) h2 rfl rfl), (gone_clear (pk := [7]) (t := 7) rfl)⟩ ?_
  rintro s ⟨h0, h2, h7⟩
  refine gm h0 fun h5 => gv (ji (x_1.length : Int)) (ev_len (xs := x_1) h5) fun h6 => ?_
  obtain ⟨mk_2, E_mk_2, h⟩ := bind_some h
  refine g_mk (0 : Int) h6 rfl h7 E_mk_2 ?_
  refine gm (rfl : (_ : V) = (oI 7 [] (.of mk_2))) fun h3 => ?_
  refine g_end ?_
  refine e_home (r := 7) (x := 3) (v := _) h3 rfl (fun s_2 hg_2 => ?_)
  refine ez [(0, (eL x_1)), (2, (.sl .nl (Enc.shp Int) 0 [])), (3, (oI 3 [] (.of mk_2)))] ⟨(hg_2 0 _ _ h0 me), (hg_2 2 _ (.sl .nl (Enc.shp Int) 0 []) h2 rfl), (hg_2 3 _ _ h3 (map_encO (r := 7) (p := []) rfl rfl))⟩ ?_
  rintro s ⟨h0, h2, h3⟩
  refine .nsq (.seq (.seq (rg (g0 (ji 0) fun h4 => gq (.nsq (.block (.loop ?_)))))))
  exact t_f18o_l1 H x_1 F mk_2 0 _ ⟨h0, h2, h3, h4⟩ h
end
def e18o (F : Nat) : Ent := ent 1000000018 (fun (x : ((List Int) × Unit)) => w_toIntS_o F x.1) (fun (r : (NL Int)) => (encO .sh (r : NL Int))) 1 false []
theorem p18o {F : Nat} {x0 : (List Int)} {r : (NL Int)} (h : w_toIntS_o F x0 = some r) : (e18o F).den [Enc.enc x0] = some (encO .sh (r : NL Int)) := ent_put (x0, ()) h
theorem o18o {D : Den} {σ : Sig} {F : Nat} (hF : Fits2 Try.prog D σ) (H : H18o D σ F) : (e18o F).Ok Try.prog := by
  refine ok_of (f := 18) (show unk 1000000018 = 18 from rfl) (fun args r h => ?_) ⟨Try.f18, Try.func18, rfl, rfl⟩
  obtain ⟨⟨x0, _⟩, y, rfl, hy, rfl⟩ := da_open h
  exact contract_run hF (by kernel_rfl) Try.func18 rfl c18o (show 1 ≤ Try.f18.ntmps by decide) (t18o H x0 _ rfl hy)
/- loop.example/g01109/laws.markIntS -/
def A23_2 : AC := (.cond (.t 9) .skip (.exit 0))
def A23_4 : AC := (.reg [] [(jm 16 1), ((jv 17 (.bin .add (.t 16) (jn 1)))), (jm 1 17)] [])
def A23_5 : AC := (.reg [] [(jm 10 5), ((jv 11 (.bin .add (.t 10) (jn 1)))), (jm 5 11)] [])
def A23_3 : AC := (.seq (.block 1 (.seq (.reg [] [(jm 12 0), (jm 13 5), (jm 14 1), ((jv 15 (.idx (.t 12) (.t 13) 1))), (.mk none none false (.store .s (.t 15) (.t 14)))] []) A23_4)) A23_5)
def A23_1 : AC := (.seq (.seq (.reg [] [(jm 6 5), (jm 7 0), ((jv 8 (.len (.t 7)))), ((jv 9 (.bin .lss (.t 6) (.t 8))))] []) A23_2) A23_3)
def A23_6 : AC := (.seq (.reg [] [(jm 18 1), (jm 4 18)] []) .ret)
def A23_8 : AC := (.block 0 (.loop A23_1))
def A23_7 : AC := (.seq (.seq (.reg [] [((jv 5 (.mov (jn 0))))] []) A23_8) A23_6)
def A23 : AC := (.seq (.reg [] [((jv 4 (.mov (jn 0))))] []) A23_7)
def an23 : List An := []
theorem c23 : cC Try.prog Try.f23.ntmps an23 (Try.f23.body.getD .skip) = some A23 := by kernel_rfl
structure H23 (D : Den) (σ : Sig) (F : Nat) : Prop where
  mk ::
abbrev R23 (r : (Int × NL Int)) : (Nat → V) → Prop := RM Try.prog [.tmp 4] (Enc.enc (r.1 : Int)) (encO (.at pinR []) (r.2 : NL Int))
section
variable {D : Den} {σ : Sig} {F : Nat} {r : (Int × NL Int)}
def w_markIntS_l1 (F : Nat)   : Nat → (NL Int) → Int → Int → Option (Int × NL Int)
  | 0, _, _, _ => none
  | k + 1, x_4, x_5, x_6 =>
    bif decide (x_6 < (x_4.list.length : Int)) then
      (idx x_4.list x_6).bind fun e_8 =>
      (w_markIntS_l1 F k) (NL.set x_4 x_6.toNat x_5) (w64 (x_5 + 1)) (w64 (x_6 + 1))
    else
      some (x_5, x_4)
theorem t_f23_l1 (H : H23 D σ F)   : ∀ (k : Nat) (x_4 : (NL Int)) (x_5 : Int) (x_6 : Int) (s : Nat → V), Facts [(0, (oI pinR [] x_4)), (1, (ji x_5)), (4, (ji 0)), (5, (ji x_6))] s → w_markIntS_l1 F k x_4 x_5 x_6 = some r → Run D σ (R23 r) (.run A23_1 [.lp A23_1, .bk 0, .sq A23_6]) s := by
  intro k
  induction k with
  | zero => intro x_4 x_5 x_6 s _ h; exact nomatch (h : (none : Option _) = some r)
  | succ k ih =>
    intro x_4 x_5 x_6 s hs h
    rw [w_markIntS_l1] at h
    obtain ⟨h0, h1, h4, h5⟩ := hs
    refine .seq (.seq (rg (gm h5 fun h6 => gv (oI pinR [] x_4) (ev_mov h0 ok_encO) fun h7 => ?_)))
    refine gv (ji (x_4.list.length : Int)) (ev_lenO (o := x_4) h7) fun h8 => ?_
    refine g2 6 8 (jb (decide (x_6 < (x_4.list.length : Int)))) h6 h8 fun h9 => ?_
    refine gq (.nsq (run_cond (t := decide (x_6 < (x_4.list.length : Int))) h9 h (fun h => ?_) (fun h => ?_)))
    · refine .skip (.nsq (.seq (.block (.seq (rg (gv (oI pinR [] x_4) (ev_mov h0 ok_encO) fun h12 => ?_))))))
      refine gm h5 fun h13 => gm h1 fun h14 => ?_
      obtain ⟨e_8, E_e_8, h⟩ := bind_some h
      refine gv (.ref (.at pinR []) x_6.toNat [] (ji e_8)) (ev_idxO (o := x_4) h12 h13 E_e_8 rfl) fun h15 => ?_
      refine g_store (ji x_5) (rd_of h15 rfl) (rd_of h14 rfl) (by refine ⟨by decide, by decide, rfl, rfl, rfl, ?_⟩; first | rfl | (simp [V.toks, V.tokss, Enc.toks_enc]; done) | simp [V.toks, V.tokss, Enc.toks_enc, tok_memP]) ?_
      refine gz [(0, _), (1, (ji x_5)), (4, (ji 0)), (5, (ji x_6))] ⟨(keep_mut h0 (mut_ownN (α := Int) (u := x_5) (i := x_6.toNat) (o := x_4))), (keep_mut h1 rfl), (keep_mut h4 rfl), (keep_mut h5 rfl)⟩ ?_
      rintro s ⟨h0, h1, h4, h5⟩
      refine .nsq (rg (gm h1 fun h16 => g1 16 (ji (w64 (x_5 + 1))) h16 fun h17 => ?_))
      refine gm h17 fun h1 => gq (.nbk (.nsq (rg (gm h5 fun h10 => g1 10 (ji (w64 (x_6 + 1))) h10 fun h11 => ?_))))
      refine gm h11 fun h5 => gq (.nlp ?_)
      exact ih (NL.set x_4 x_6.toNat x_5) (w64 (x_5 + 1)) (w64 (x_6 + 1)) _ ⟨h0, h1, h4, h5⟩ h
    refine .exit (.esq (.elp (.ebk (.nsq (.seq (rg (gm h1 fun h18 => gm h18 fun h4 => gq (.nsq (.ret ?_)))))))))
    have hr := Option.some.inj h
    subst hr
    exact rmA (res_tmp h4) h0
def w_markIntS (F : Nat) (x_1 : (On Int)) (x_2 : Int) : Option (Int × NL Int) :=
  w_markIntS_l1 F F x_1.v x_2 0
theorem t23 (H : H23 D σ F) (x_1 : (On Int)) (x_2 : Int) (s : Nat → V) (hs : Facts [(0, (oI pinR [] x_1.v)), (1, (ji x_2))] s) (h : w_markIntS F x_1 x_2 = some r) : Run D σ (R23 r) (.run A23 []) s := by
  unfold w_markIntS at h
  obtain ⟨h0, h1⟩ := hs
  refine .seq (rg (g0 (ji 0) fun h4 => gq (.nsq (.seq (.seq (rg (g0 (ji 0) fun h5 => gq (.nsq (.block (.loop ?_))))))))))
  exact t_f23_l1 H F x_1.v x_2 0 _ ⟨h0, h1, h4, h5⟩ h
end
def e23 (F : Nat) : Ent := ent 23 (fun (x : ((On Int) × Int × Unit)) => w_markIntS F x.1 x.2.1) (fun (r : (Int × NL Int)) => (.tup [Enc.enc (r.1 : Int), encO (.at pinR []) (r.2 : NL Int)])) pinR false []
theorem p23 {F : Nat} {x0 : (On Int)} {x1 : Int} {r : (Int × NL Int)} (h : w_markIntS F x0 x1 = some r) : (e23 F).den [Arg.arg x0, Enc.enc x1] = some (.tup [Enc.enc (r.1 : Int), encO (.at pinR []) (r.2 : NL Int)]) := ent_put (x0, x1, ()) h
theorem o23 {D : Den} {σ : Sig} {F : Nat} (hF : Fits2 Try.prog D σ) (H : H23 D σ F) : (e23 F).Ok Try.prog := by
  refine ok_of (f := 23) (show unk 23 = 23 from rfl) (fun args r h => ?_) ⟨Try.f23, Try.func23, rfl, rfl⟩
  obtain ⟨⟨x0, x1, _⟩, y, rfl, hy, rfl⟩ := da_open h
  exact contractM_run hF (by kernel_rfl) Try.func23 rfl c23 (all_ok2 ok_encP rfl) (show 2 ≤ Try.f23.ntmps by decide) (by decide) (t23 H x0 x1 _ ⟨rfl, rfl⟩ hy)
/- loop.example/g01109/laws.markIntSS -/
def A30_2 : AC := (.cond (.t 9) .skip (.exit 0))
def A30_4 : AC := (.reg [] [(jm 10 5), ((jv 11 (.bin .add (.t 10) (jn 1)))), (jm 5 11)] [])
def A30_3 : AC := (.seq (.block 1 (.reg [] [(jm 12 0), (jm 13 5), ((jv 14 (.idx (.t 12) (.t 13) 1))), ((jv 15 (.load .p (.t 14)))), (jm 16 1), (.mk (some 17) none false (.mark (.k (.fn 23 [] [])) [(.t 15), (.t 16)])), (jm 1 17)] [])) A30_4)
def A30_1 : AC := (.seq (.seq (.reg [] [(jm 6 5), (jm 7 0), ((jv 8 (.len (.t 7)))), ((jv 9 (.bin .lss (.t 6) (.t 8))))] []) A30_2) A30_3)
def A30_5 : AC := (.seq (.reg [] [(jm 18 1), (jm 4 18)] []) .ret)
def A30_7 : AC := (.block 0 (.loop A30_1))
def A30_6 : AC := (.seq (.seq (.reg [] [((jv 5 (.mov (jn 0))))] []) A30_7) A30_5)
def A30 : AC := (.seq (.reg [] [((jv 4 (.mov (jn 0))))] []) A30_6)
def an30 : List An := [{ id := 4, pre := [], ep := [], lin := [], sp := [5] }]
theorem c30 : cC Try.prog Try.f30.ntmps an30 (Try.f30.body.getD .skip) = some A30 := by kernel_rfl
structure H30 (D : Den) (σ : Sig) (F : Nat) : Prop where
  c23 : ∀ (x0 : (On Int)) (x1 : Int) r, w_markIntS F x0 x1 = some r → D 23 [Arg.arg x0, Enc.enc x1] = some (.tup [Enc.enc (r.1 : Int), encO (.at pinR []) (r.2 : NL Int)])
  g23 : σ 23 = some (pinR, false)
abbrev R30 (r : (Int × NL (NL Int))) : (Nat → V) → Prop := RM Try.prog [.tmp 4] (Enc.enc (r.1 : Int)) (encN pinR [] (r.2 : NL (NL Int)))
section
variable {D : Den} {σ : Sig} {F : Nat} {r : (Int × NL (NL Int))}
def w_markIntSS_l1 (F : Nat)   : Nat → (NL (NL Int)) → Int → Int → Option (Int × NL (NL Int))
  | 0, _, _, _ => none
  | k + 1, x_6, x_7, x_8 =>
    bif decide (x_8 < (x_6.list.length : Int)) then
      (idx x_6.list x_8).bind fun e_12 =>
      (w_markIntS F (On.mk e_12 : (On Int)) x_7).bind fun r_13 =>
      (remark e_12 r_13.2).bind fun m_14 =>
      (w_markIntSS_l1 F k) (NL.set x_6 x_8.toNat m_14) r_13.1 (w64 (x_8 + 1))
    else
      some (x_7, x_6)
theorem t_f30_l1 (H : H30 D σ F)   : ∀ (k : Nat) (x_6 : (NL (NL Int))) (x_7 : Int) (x_8 : Int) (s : Nat → V), Facts [(0, (encN pinR [] (x_6 : NL (NL Int)))), (1, (ji x_7)), (4, (ji 0)), (5, (ji x_8))] s → w_markIntSS_l1 F k x_6 x_7 x_8 = some r → Run D σ (R30 r) (.run A30_1 [.lp A30_1, .bk 0, .sq A30_5]) s := by
  intro k
  induction k with
  | zero => intro x_6 x_7 x_8 s _ h; exact nomatch (h : (none : Option _) = some r)
  | succ k ih =>
    intro x_6 x_7 x_8 s hs h
    rw [w_markIntSS_l1] at h
    obtain ⟨h0, h1, h4, h5⟩ := hs
    refine .seq (.seq (rg (gm h5 fun h6 => gv (encN pinR [] (x_6 : NL (NL Int))) (ev_mov h0 ok_encN) fun h7 => ?_)))
    refine gv (ji (x_6.list.length : Int)) (ev_lenN (o := (x_6 : NL (NL Int))) h7) fun h8 => ?_
    refine g2 6 8 (jb (decide (x_8 < (x_6.list.length : Int)))) h6 h8 fun h9 => ?_
    refine gq (.nsq (run_cond (t := decide (x_8 < (x_6.list.length : Int))) h9 h (fun h => ?_) (fun h => ?_)))
    · refine .skip (.nsq (.seq (.block (rg (gv (encN pinR [] (x_6 : NL (NL Int))) (ev_mov h0 ok_encN) fun h12 => ?_)))))
      refine gm h5 fun h13 => ?_
      obtain ⟨e_12, E_e_12, h⟩ := bind_some h
      refine gv (.ref (.at pinR []) x_8.toNat [] (oI pinR [x_8.toNat] e_12)) (ev_idxN (o := (x_6 : NL (NL Int))) h12 h13 E_e_12 rfl) fun h14 => ?_
      refine gv (oI pinR [x_8.toNat] e_12) (ev_loadN h14 beq_encO) fun h15 => ?_
      refine gm h1 fun h16 => ?_
      obtain ⟨r_13, E_r_13, h⟩ := bind_some h
      obtain ⟨m_14, E_m_14, h⟩ := bind_some h
      refine g_mark (v := (oI pinR [x_8.toNat] e_12)) h15 (canon_own (o := (e_12 : (NL Int))) rfl) (rdAll_cons (v := (ji x_7)) h16 rfl rdAll_nil) (H.c23 _ _ _ E_r_13) H.g23 rfl rfl (fun s_3 hm_3 => ?_)
      refine gm (rfl : (_ : V) = (ji r_13.1)) fun h1 => ?_
      refine gz [(0, (encN pinR [] ((NL.set x_6 x_8.toNat m_14) : NL (NL Int)))), (1, _), (4, (ji 0)), (5, (ji x_8))] ⟨(show s_3 0 = (encN pinR [] ((NL.set x_6 x_8.toNat m_14) : NL (NL Int))) from hm_3 0 (encN pinR [] (x_6 : NL (NL Int))) (encN pinR [] ((NL.set x_6 x_8.toNat m_14) : NL (NL Int))) h0 (rem_rowN (r := pinR) (p := []) (o := (x_6 : NL (NL Int))) rfl E_e_12 E_m_14)), h1, (show s_3 4 = (ji 0) from hm_3 4 (ji 0) (ji 0) h4 (rem_self _ rfl)), (show s_3 5 = (ji x_8) from hm_3 5 (ji x_8) (ji x_8) h5 (rem_self _ rfl))⟩ ?_
      rintro s ⟨h0, h1, h4, h5⟩
      refine .nbk (.nsq (rg (gm h5 fun h10 => g1 10 (ji (w64 (x_8 + 1))) h10 fun h11 => ?_)))
      refine gm h11 fun h5 => gq (.nlp ?_)
      exact ih (NL.set x_6 x_8.toNat m_14) r_13.1 (w64 (x_8 + 1)) _ ⟨h0, h1, h4, h5⟩ h
    refine .exit (.esq (.elp (.ebk (.nsq (.seq (rg (gm h1 fun h18 => gm h18 fun h4 => gq (.nsq (.ret ?_)))))))))
    have hr := Option.some.inj h
    subst hr
    exact rmA (res_tmp h4) h0
def w_markIntSS (F : Nat) (x_1 : (On2 Int)) (x_2 : Int) : Option (Int × NL (NL Int)) :=
  w_markIntSS_l1 F F x_1.v x_2 0
theorem t30 (H : H30 D σ F) (x_1 : (On2 Int)) (x_2 : Int) (s : Nat → V) (hs : Facts [(0, (encN pinR [] (x_1.v : NL (NL Int)))), (1, (ji x_2))] s) (h : w_markIntSS F x_1 x_2 = some r) : Run D σ (R30 r) (.run A30 []) s := by
  unfold w_markIntSS at h
  obtain ⟨h0, h1⟩ := hs
  refine .seq (rg (g0 (ji 0) fun h4 => gq (.nsq (.seq (.seq (rg (g0 (ji 0) fun h5 => gq (.nsq (.block (.loop ?_))))))))))
  exact t_f30_l1 H F x_1.v x_2 0 _ ⟨h0, h1, h4, h5⟩ h
end
def e30 (F : Nat) : Ent := ent 30 (fun (x : ((On2 Int) × Int × Unit)) => w_markIntSS F x.1 x.2.1) (fun (r : (Int × NL (NL Int))) => (.tup [Enc.enc (r.1 : Int), encN pinR [] (r.2 : NL (NL Int))])) pinR false []
theorem p30 {F : Nat} {x0 : (On2 Int)} {x1 : Int} {r : (Int × NL (NL Int))} (h : w_markIntSS F x0 x1 = some r) : (e30 F).den [Arg.arg x0, Enc.enc x1] = some (.tup [Enc.enc (r.1 : Int), encN pinR [] (r.2 : NL (NL Int))]) := ent_put (x0, x1, ()) h
theorem o30 {D : Den} {σ : Sig} {F : Nat} (hF : Fits2 Try.prog D σ) (H : H30 D σ F) : (e30 F).Ok Try.prog := by
  refine ok_of (f := 30) (show unk 30 = 30 from rfl) (fun args r h => ?_) ⟨Try.f30, Try.func30, rfl, rfl⟩
  obtain ⟨⟨x0, x1, _⟩, y, rfl, hy, rfl⟩ := da_open h
  exact contractM_run hF (by kernel_rfl) Try.func30 rfl c30 (all_ok2 ok_encN rfl) (show 2 ≤ Try.f30.ntmps by decide) (by decide) (t30 H x0 x1 _ ⟨rfl, rfl⟩ hy)
end Go.Zq
