/- Functions of the program as typed functions, and that the machine runs as they say (part 1). No further condition. -/
import Derived.Test.YtdhbhaaiohkpdaaK3
import Derived.Test.YtdhbhaaiohkpdaaProg
import Derived.Test.YtdhbhaaiohkpdaaChecked
import Derived.KernelRfl
set_option linter.unusedVariables false
set_option linter.unusedSimpArgs false
/- Functions of the program, as typed functions, and that the machine runs as they say. -/
namespace Go.Zq
open Go.Proofs
/- loop.example/g01109/laws.szIntA2S -/
def A59_3 : AC := (.cond (.t 10) (.seq (.reg [] [((jv 4 (.mov (jn (-1)))))] []) .ret) .skip)
def A59_4 : AC := (.seq (.reg [] [(jm 11 1), (jm 4 11)] []) .ret)
def A59_2 : AC := (.seq (.seq (.reg [] [(jm 9 1), ((jv 10 (.bin .lss (.t 9) (jn 0))))] []) A59_3) A59_4)
def A59_1 : AC := (.seq (.reg [] [(jm 5 1), (jm 6 0), ((jv 7 (.len (.t 6)))), ((jv 8 (.bin .sub (.t 5) (.t 7)))), (jm 1 8)] []) A59_2)
def A59 : AC := (.seq (.reg [] [((jv 4 (.mov (jn 0))))] []) A59_1)
def an59 : List An := []
theorem c59 : cC Try.prog Try.f59.ntmps an59 (Try.f59.body.getD .skip) = some A59 := by kernel_rfl
structure H59 (D : Den) (σ : Sig) (F : Nat) : Prop where
  mk ::
abbrev R59 (r : Int) : (Nat → V) → Prop := RR Try.prog [.tmp 4] 0 false (Enc.enc (r : Int))
section
variable {D : Den} {σ : Sig} {F : Nat} {r : Int}
def w_szIntA2S (F : Nat) (x_1 : (List (Int × Int))) (x_2 : Int) : Option Int :=
  bif decide ((w64 (x_2 - (x_1.length : Int))) < 0) then
    some (-1)
  else
    some (w64 (x_2 - (x_1.length : Int)))
theorem t59 (H : H59 D σ F) (x_1 : (List (Int × Int))) (x_2 : Int) (s : Nat → V) (hs : Facts [(0, (Enc.enc (x_1 : List (Int × Int)))), (1, (ji x_2))] s) (h : w_szIntA2S F x_1 x_2 = some r) : Run D σ (R59 r) (.run A59 []) s := by
  unfold w_szIntA2S at h
  obtain ⟨h0, h1⟩ := hs
  refine .seq (rg (g0 (ji 0) fun h4 => gq (.nsq (.seq (rg (gm h1 fun h5 => gm h0 fun h6 => gv (ji (x_1.length : Int)) (ev_len (xs := x_1) h6) fun h7 => ?_))))))
  refine g2 5 7 (ji (w64 (x_2 - (x_1.length : Int)))) h5 h7 fun h8 => ?_
  refine gm h8 fun h1 => gq (.nsq (.seq (.seq (rg (gm h1 fun h9 => g1 9 (jb (decide ((w64 (x_2 - (x_1.length : Int))) < 0))) h9 fun h10 => ?_)))))
  refine gq (.nsq (run_cond (t := decide ((w64 (x_2 - (x_1.length : Int))) < 0)) h10 h (fun h => ?_) (fun h => ?_)))
  · refine .seq (rg (g0 (ji (-1)) fun h4 => ?_))
    refine gq (.nsq (.ret ?_))
    have hr := Option.some.inj h
    subst hr
    exact rrA (res_tmp h4) rfl
  refine .skip (.nsq (.seq (rg (gm h1 fun h11 => gm h11 fun h4 => gq (.nsq (.ret ?_))))))
  have hr := Option.some.inj h
  subst hr
  exact rrA (res_tmp h4) rfl
end
def e59 (F : Nat) : Ent := ent 59 (fun (x : ((List (Int × Int)) × Int × Unit)) => w_szIntA2S F x.1 x.2.1) (fun (r : Int) => (Enc.enc (r : Int))) 0 false []
theorem p59 {F : Nat} {x0 : (List (Int × Int))} {x1 : Int} {r : Int} (h : w_szIntA2S F x0 x1 = some r) : (e59 F).den [Enc.enc x0, Enc.enc x1] = some (Enc.enc (r : Int)) := ent_put (x0, x1, ()) h
theorem o59 {D : Den} {σ : Sig} {F : Nat} (hF : Fits2 Try.prog D σ) (H : H59 D σ F) : (e59 F).Ok Try.prog := by
  refine ok_of (f := 59) (show unk 59 = 59 from rfl) (fun args r h => ?_) ⟨Try.f59, Try.func59, rfl, rfl⟩
  obtain ⟨⟨x0, x1, _⟩, y, rfl, hy, rfl⟩ := da_open h
  exact contract_run hF (by kernel_rfl) Try.func59 rfl c59 (show 2 ≤ Try.f59.ntmps by decide) (t59 H x0 x1 _ ⟨rfl, rfl⟩ hy)
/- loop.example/g01109/laws.szGraph -/
def A15_3 : AC := (.cond (.t 10) (.seq (.reg [] [((jv 4 (.mov (jn (-1)))))] []) .ret) .skip)
def A15_4 : AC := (.seq (.reg [] [(jm 11 1), (jm 4 11)] []) .ret)
def A15_2 : AC := (.seq (.seq (.reg [] [(jm 9 1), ((jv 10 (.bin .lss (.t 9) (jn 0))))] []) A15_3) A15_4)
def A15_1 : AC := (.seq (.reg [] [((jv 5 (.fld (.t 2) 1 1))), ((jv 6 (.load .p (.t 5)))), (jm 7 1), (.mk (some 8) none false (.call (.k (.fn 59 [] [])) [(.t 6), (.t 7)])), (jm 1 8)] []) A15_2)
def A15 : AC := (.seq (.reg [.clr [2]] [(.mk (some 2) none false (.box (.t 0))), ((jv 4 (.mov (jn 0))))] []) A15_1)
def an15 : List An := [{ id := 0, pre := [.clr [2]], ep := [], lin := [], sp := [] }]
theorem c15 : cC Try.prog Try.f15.ntmps an15 (Try.f15.body.getD .skip) = some A15 := by kernel_rfl
structure H15 (D : Den) (σ : Sig) (F : Nat) : Prop where
  c59 : ∀ (x0 : (List (Int × Int))) (x1 : Int) r, w_szIntA2S F x0 x1 = some r → D 59 [Enc.enc x0, Enc.enc x1] = some (Enc.enc (r : Int))
  g59 : σ 59 = some (0, false)
abbrev R15 (r : Int) : (Nat → V) → Prop := RR Try.prog [.tmp 4] 0 false (Enc.enc (r : Int))
section
variable {D : Den} {σ : Sig} {F : Nat} {r : Int}
def w_szGraph (F : Nat) (x_1 : (Int × (List (Int × Int)))) (x_2 : Int) : Option Int :=
  (w_szIntA2S F x_1.2 x_2).bind fun r_3 =>
  bif decide (r_3 < 0) then
    some (-1)
  else
    some r_3
theorem t15 (H : H15 D σ F) (x_1 : (Int × (List (Int × Int)))) (x_2 : Int) (s : Nat → V) (hs : Facts [(0, (.agg [(ji x_1.1), (Enc.enc (x_1.2 : List (Int × Int)))])), (1, (ji x_2))] s) (h : w_szGraph F x_1 x_2 = some r) : Run D σ (R15 r) (.run A15 []) s := by
  unfold w_szGraph at h
  obtain ⟨h0, h1⟩ := hs
  refine .seq (run_reg ?_)
  refine e_clr ?_
  refine ez [(0, _), (1, _), (2, _)] ⟨(keep_clear (pk := [2]) h0 rfl (map_agg (maps_cons mi (maps_cons me maps_nil)))), (keep_clear (pk := [2]) h1 rfl mi), (gone_clear (pk := [2]) (t := 2) rfl)⟩ ?_
  rintro s ⟨h0, h1, h2⟩
  refine g_box (.agg [(ji x_1.1), (Enc.enc (x_1.2 : List (Int × Int)))]) (rd_of h0 rfl) h2 rfl ?_
  refine g0 (ji 0) fun h4 => gq (.nsq (.seq (rg (g1 2 (.ref (.bx 2) 0 [1] (Enc.enc (x_1.2 : List (Int × Int)))) (rfl : (_ : V) = (.ref (.bx 2) 0 [] (.agg [(ji x_1.1), (Enc.enc (x_1.2 : List (Int × Int)))]))) fun h5 => ?_))))
  refine g1 5 (Enc.enc (x_1.2 : List (Int × Int))) h5 fun h6 => ?_
  refine gm h1 fun h7 => ?_
  obtain ⟨r_3, E_r_3, h⟩ := bind_some h
  refine g_call (m := 0) (al := false) (r := (Enc.enc (r_3 : Int))) [Enc.enc (x_1.2 : (List (Int × Int))), Enc.enc (x_2 : Int)] (ta_cons (v := (Enc.enc (x_1.2 : List (Int × Int)))) h6 rfl (Enc.erase_enc (x_1.2 : (List (Int × Int)))) (ta_cons (v := (ji x_2)) h7 rfl rfl ta_nil)) (H.c59 _ _ _ E_r_3) H.g59 rfl rfl rfl rfl ?_
  refine gm (rfl : (_ : V) = (ji r_3)) fun h1 => ?_
  refine gq (.nsq (.seq (.seq (rg (gm h1 fun h9 => g1 9 (jb (decide (r_3 < 0))) h9 fun h10 => ?_)))))
  refine gq (.nsq (run_cond (t := decide (r_3 < 0)) h10 h (fun h => ?_) (fun h => ?_)))
  · refine .seq (rg (g0 (ji (-1)) fun h4 => ?_))
    refine gq (.nsq (.ret ?_))
    have hr := Option.some.inj h
    subst hr
    exact rrA (res_tmp h4) rfl
  refine .skip (.nsq (.seq (rg (gm h1 fun h11 => gm h11 fun h4 => gq (.nsq (.ret ?_))))))
  have hr := Option.some.inj h
  subst hr
  exact rrA (res_tmp h4) rfl
end
def e15 (F : Nat) : Ent := ent 15 (fun (x : ((Int × (List (Int × Int))) × Int × Unit)) => w_szGraph F x.1 x.2.1) (fun (r : Int) => (Enc.enc (r : Int))) 0 false []
theorem p15 {F : Nat} {x0 : (Int × (List (Int × Int)))} {x1 : Int} {r : Int} (h : w_szGraph F x0 x1 = some r) : (e15 F).den [Enc.enc x0, Enc.enc x1] = some (Enc.enc (r : Int)) := ent_put (x0, x1, ()) h
theorem o15 {D : Den} {σ : Sig} {F : Nat} (hF : Fits2 Try.prog D σ) (H : H15 D σ F) : (e15 F).Ok Try.prog := by
  refine ok_of (f := 15) (show unk 15 = 15 from rfl) (fun args r h => ?_) ⟨Try.f15, Try.func15, rfl, rfl⟩
  obtain ⟨⟨x0, x1, _⟩, y, rfl, hy, rfl⟩ := da_open h
  exact contract_run hF (by kernel_rfl) Try.func15 rfl c15 (show 2 ≤ Try.f15.ntmps by decide) (t15 H x0 x1 _ ⟨rfl, rfl⟩ hy)
/- loop.example/g01109/laws.szIntS -/
def A71_3 : AC := (.cond (.t 10) (.seq (.reg [] [((jv 4 (.mov (jn (-1)))))] []) .ret) .skip)
def A71_4 : AC := (.seq (.reg [] [(jm 11 1), (jm 4 11)] []) .ret)
def A71_2 : AC := (.seq (.seq (.reg [] [(jm 9 1), ((jv 10 (.bin .lss (.t 9) (jn 0))))] []) A71_3) A71_4)
def A71_1 : AC := (.seq (.reg [] [(jm 5 1), (jm 6 0), ((jv 7 (.len (.t 6)))), ((jv 8 (.bin .sub (.t 5) (.t 7)))), (jm 1 8)] []) A71_2)
def A71 : AC := (.seq (.reg [] [((jv 4 (.mov (jn 0))))] []) A71_1)
def an71 : List An := []
theorem c71 : cC Try.prog Try.f71.ntmps an71 (Try.f71.body.getD .skip) = some A71 := by kernel_rfl
structure H71 (D : Den) (σ : Sig) (F : Nat) : Prop where
  mk ::
abbrev R71 (r : Int) : (Nat → V) → Prop := RR Try.prog [.tmp 4] 0 false (Enc.enc (r : Int))
section
variable {D : Den} {σ : Sig} {F : Nat} {r : Int}
def w_szIntS (F : Nat) (x_1 : (List Int)) (x_2 : Int) : Option Int :=
  bif decide ((w64 (x_2 - (x_1.length : Int))) < 0) then
    some (-1)
  else
    some (w64 (x_2 - (x_1.length : Int)))
theorem t71 (H : H71 D σ F) (x_1 : (List Int)) (x_2 : Int) (s : Nat → V) (hs : Facts [(0, (eL x_1)), (1, (ji x_2))] s) (h : w_szIntS F x_1 x_2 = some r) : Run D σ (R71 r) (.run A71 []) s := by
  unfold w_szIntS at h
  obtain ⟨h0, h1⟩ := hs
  refine .seq (rg (g0 (ji 0) fun h4 => gq (.nsq (.seq (rg (gm h1 fun h5 => gm h0 fun h6 => gv (ji (x_1.length : Int)) (ev_len (xs := x_1) h6) fun h7 => ?_))))))
  refine g2 5 7 (ji (w64 (x_2 - (x_1.length : Int)))) h5 h7 fun h8 => ?_
  refine gm h8 fun h1 => gq (.nsq (.seq (.seq (rg (gm h1 fun h9 => g1 9 (jb (decide ((w64 (x_2 - (x_1.length : Int))) < 0))) h9 fun h10 => ?_)))))
  refine gq (.nsq (run_cond (t := decide ((w64 (x_2 - (x_1.length : Int))) < 0)) h10 h (fun h => ?_) (fun h => ?_)))
  · refine .seq (rg (g0 (ji (-1)) fun h4 => ?_))
    refine gq (.nsq (.ret ?_))
    have hr := Option.some.inj h
    subst hr
    exact rrA (res_tmp h4) rfl
  refine .skip (.nsq (.seq (rg (gm h1 fun h11 => gm h11 fun h4 => gq (.nsq (.ret ?_))))))
  have hr := Option.some.inj h
  subst hr
  exact rrA (res_tmp h4) rfl
end
def e71 (F : Nat) : Ent := ent 71 (fun (x : ((List Int) × Int × Unit)) => w_szIntS F x.1 x.2.1) (fun (r : Int) => (Enc.enc (r : Int))) 0 false []
theorem p71 {F : Nat} {x0 : (List Int)} {x1 : Int} {r : Int} (h : w_szIntS F x0 x1 = some r) : (e71 F).den [Enc.enc x0, Enc.enc x1] = some (Enc.enc (r : Int)) := ent_put (x0, x1, ()) h
theorem o71 {D : Den} {σ : Sig} {F : Nat} (hF : Fits2 Try.prog D σ) (H : H71 D σ F) : (e71 F).Ok Try.prog := by
  refine ok_of (f := 71) (show unk 71 = 71 from rfl) (fun args r h => ?_) ⟨Try.f71, Try.func71, rfl, rfl⟩
  obtain ⟨⟨x0, x1, _⟩, y, rfl, hy, rfl⟩ := da_open h
  exact contract_run hF (by kernel_rfl) Try.func71 rfl c71 (show 2 ≤ Try.f71.ntmps by decide) (t71 H x0 x1 _ ⟨rfl, rfl⟩ hy)
/- loop.example/g01109/laws.szIntSS -/
def A25_2 : AC := (.cond (.t 15) .skip (.exit 0))
def A25_5 : AC := (.cond (.t 25) (.seq (.reg [] [((jv 4 (.mov (jn (-1)))))] []) .ret) .skip)
def A25_4 : AC := (.seq (.reg [] [(jm 24 1), ((jv 25 (.bin .lss (.t 24) (jn 0))))] []) A25_5)
def A25_6 : AC := (.reg [] [(jm 16 5), ((jv 17 (.bin .add (.t 16) (jn 1)))), (jm 5 17)] [])
def A25_3 : AC := (.seq (.block 1 (.seq (.reg [] [(jm 18 0), (jm 19 5), ((jv 20 (.idx (.t 18) (.t 19) 1))), ((jv 21 (.load .p (.t 20)))), (jm 22 1), (.mk (some 23) none false (.call (.k (.fn 71 [] [])) [(.t 21), (.t 22)])), (jm 1 23)] []) A25_4)) A25_6)
def A25_1 : AC := (.seq (.seq (.reg [] [(jm 12 5), (jm 13 0), ((jv 14 (.len (.t 13)))), ((jv 15 (.bin .lss (.t 12) (.t 14))))] []) A25_2) A25_3)
def A25_7 : AC := (.seq (.reg [] [(jm 26 1), (jm 4 26)] []) .ret)
def A25_10 : AC := (.cond (.t 11) (.seq (.reg [] [((jv 4 (.mov (jn (-1)))))] []) .ret) .skip)
def A25_12 : AC := (.block 0 (.loop A25_1))
def A25_11 : AC := (.seq (.seq (.reg [] [((jv 5 (.mov (jn 0))))] []) A25_12) A25_7)
def A25_9 : AC := (.seq (.seq (.reg [] [(jm 10 1), ((jv 11 (.bin .lss (.t 10) (jn 0))))] []) A25_10) A25_11)
def A25_8 : AC := (.seq (.reg [] [(jm 6 1), (jm 7 0), ((jv 8 (.len (.t 7)))), ((jv 9 (.bin .sub (.t 6) (.t 8)))), (jm 1 9)] []) A25_9)
def A25 : AC := (.seq (.reg [] [((jv 4 (.mov (jn 0))))] []) A25_8)
def an25 : List An := []
theorem c25 : cC Try.prog Try.f25.ntmps an25 (Try.f25.body.getD .skip) = some A25 := by kernel_rfl
structure H25 (D : Den) (σ : Sig) (F : Nat) : Prop where
  c71 : ∀ (x0 : (List Int)) (x1 : Int) r, w_szIntS F x0 x1 = some r → D 71 [Enc.enc x0, Enc.enc x1] = some (Enc.enc (r : Int))
  g71 : σ 71 = some (0, false)
abbrev R25 (r : Int) : (Nat → V) → Prop := RR Try.prog [.tmp 4] 0 false (Enc.enc (r : Int))
section
variable {D : Den} {σ : Sig} {F : Nat} {r : Int}
def w_szIntSS_l1 (F : Nat) (x_1 : (List (List Int)))  : Nat → Int → Int → Option Int
  | 0, _, _ => none
  | k + 1, x_5, x_6 =>
    bif decide (x_6 < (x_1.length : Int)) then
      (idx x_1 x_6).bind fun e_9 =>
      (w_szIntS F e_9 x_5).bind fun r_10 =>
      bif decide (r_10 < 0) then
        some (-1)
      else
        (w_szIntSS_l1 F x_1 k) r_10 (w64 (x_6 + 1))
    else
      some x_5
theorem t_f25_l1 (H : H25 D σ F) (x_1 : (List (List Int)))  : ∀ (k : Nat) (x_5 : Int) (x_6 : Int) (s : Nat → V), Facts [(0, (Enc.enc (x_1 : List (List Int)))), (1, (ji x_5)), (4, (ji 0)), (5, (ji x_6))] s → w_szIntSS_l1 F x_1 k x_5 x_6 = some r → Run D σ (R25 r) (.run A25_1 [.lp A25_1, .bk 0, .sq A25_7]) s := by
  intro k
  induction k with
  | zero => intro x_5 x_6 s _ h; exact nomatch (h : (none : Option _) = some r)
  | succ k ih =>
    intro x_5 x_6 s hs h
    rw [w_szIntSS_l1] at h
    obtain ⟨h0, h1, h4, h5⟩ := hs
    refine .seq (.seq (rg (gm h5 fun h12 => gm h0 fun h13 => gv (ji (x_1.length : Int)) (ev_len (xs := x_1) h13) fun h14 => ?_)))
    refine g2 12 14 (jb (decide (x_6 < (x_1.length : Int)))) h12 h14 fun h15 => ?_
    refine gq (.nsq (run_cond (t := decide (x_6 < (x_1.length : Int))) h15 h (fun h => ?_) (fun h => ?_)))
    · refine .skip (.nsq (.seq (.block (.seq (rg (gm h0 fun h18 => gm h5 fun h19 => ?_))))))
      obtain ⟨e_9, E_e_9, h⟩ := bind_some h
      refine gv (.ref .sh 0 [] (eL e_9)) (ev_idx (t := .sh) (lo := 0) (xs := x_1) h18 h19 E_e_9 rfl rfl) fun h20 => ?_
      refine g1 20 (eL e_9) h20 fun h21 => ?_
      refine gm h1 fun h22 => ?_
      obtain ⟨r_10, E_r_10, h⟩ := bind_some h
      refine g_call (m := 0) (al := false) (r := (Enc.enc (r_10 : Int))) [Enc.enc (e_9 : (List Int)), Enc.enc (x_5 : Int)] (ta_cons (v := (eL e_9)) h21 rfl (Enc.erase_enc (e_9 : (List Int))) (ta_cons (v := (ji x_5)) h22 rfl rfl ta_nil)) (H.c71 _ _ _ E_r_10) H.g71 rfl rfl rfl rfl ?_
      refine gm (rfl : (_ : V) = (ji r_10)) fun h1 => ?_
      refine gq (.nsq (.seq (rg (gm h1 fun h24 => g1 24 (jb (decide (r_10 < 0))) h24 fun h25 => ?_))))
      refine gq (.nsq (run_cond (t := decide (r_10 < 0)) h25 h (fun h => ?_) (fun h => ?_)))
      · refine .seq (rg (g0 (ji (-1)) fun h4 => ?_))
        refine gq (.nsq (.ret ?_))
        have hr := Option.some.inj h
        subst hr
        exact rrA (res_tmp h4) rfl
      refine .skip (.nbk (.nsq (rg (gm h5 fun h16 => g1 16 (ji (w64 (x_6 + 1))) h16 fun h17 => ?_))))
      refine gm h17 fun h5 => gq (.nlp ?_)
      exact ih r_10 (w64 (x_6 + 1)) _ ⟨h0, h1, h4, h5⟩ h
    refine .exit (.esq (.elp (.ebk (.nsq (.seq (rg (gm h1 fun h26 => gm h26 fun h4 => gq (.nsq (.ret ?_)))))))))
    have hr := Option.some.inj h
    subst hr
    exact rrA (res_tmp h4) rfl
def w_szIntSS (F : Nat) (x_1 : (List (List Int))) (x_2 : Int) : Option Int :=
  bif decide ((w64 (x_2 - (x_1.length : Int))) < 0) then
    some (-1)
  else
    w_szIntSS_l1 F x_1 F (w64 (x_2 - (x_1.length : Int))) 0
theorem t25 (H : H25 D σ F) (x_1 : (List (List Int))) (x_2 : Int) (s : Nat → V) (hs : Facts [(0, (Enc.enc (x_1 : List (List Int)))), (1, (ji x_2))] s) (h : w_szIntSS F x_1 x_2 = some r) : Run D σ (R25 r) (.run A25 []) s := by
  unfold w_szIntSS at h
  obtain ⟨h0, h1⟩ := hs
  refine .seq (rg (g0 (ji 0) fun h4 => gq (.nsq (.seq (rg (gm h1 fun h6 => gm h0 fun h7 => gv (ji (x_1.length : Int)) (ev_len (xs := x_1) h7) fun h8 => ?_))))))
  refine g2 6 8 (ji (w64 (x_2 - (x_1.length : Int)))) h6 h8 fun h9 => ?_
  refine gm h9 fun h1 => gq (.nsq (.seq (.seq (rg (gm h1 fun h10 => g1 10 (jb (decide ((w64 (x_2 - (x_1.length : Int))) < 0))) h10 fun h11 => ?_)))))
  refine gq (.nsq (run_cond (t := decide ((w64 (x_2 - (x_1.length : Int))) < 0)) h11 h (fun h => ?_) (fun h => ?_)))
  · refine .seq (rg (g0 (ji (-1)) fun h4 => ?_))
    refine gq (.nsq (.ret ?_))
    have hr := Option.some.inj h
    subst hr
    exact rrA (res_tmp h4) rfl
  refine .skip (.nsq (.seq (.seq (rg (g0 (ji 0) fun h5 => gq (.nsq (.block (.loop ?_))))))))
  exact t_f25_l1 H x_1 F (w64 (x_2 - (x_1.length : Int))) 0 _ ⟨h0, h1, h4, h5⟩ h
end
def e25 (F : Nat) : Ent := ent 25 (fun (x : ((List (List Int)) × Int × Unit)) => w_szIntSS F x.1 x.2.1) (fun (r : Int) => (Enc.enc (r : Int))) 0 false []
theorem p25 {F : Nat} {x0 : (List (List Int))} {x1 : Int} {r : Int} (h : w_szIntSS F x0 x1 = some r) : (e25 F).den [Enc.enc x0, Enc.enc x1] = some (Enc.enc (r : Int)) := ent_put (x0, x1, ()) h
theorem o25 {D : Den} {σ : Sig} {F : Nat} (hF : Fits2 Try.prog D σ) (H : H25 D σ F) : (e25 F).Ok Try.prog := by
  refine ok_of (f := 25) (show unk 25 = 25 from rfl) (fun args r h => ?_) ⟨Try.f25, Try.func25, rfl, rfl⟩
  obtain ⟨⟨x0, x1, _⟩, y, rfl, hy, rfl⟩ := da_open h
  exact contract_run hF (by kernel_rfl) Try.func25 rfl c25 (show 2 ≤ Try.f25.ntmps by decide) (t25 H x0 x1 _ ⟨rfl, rfl⟩ hy)
/- loop.example/g01109/laws.toIntA2 -/
def A123_2 : AC := (.cond (.t 6) .skip (.exit 0))
def A123_4 : AC := (.reg [] [(jm 7 4), ((jv 8 (.bin .add (.t 7) (jn 1)))), (jm 4 8)] [])
def A123_3 : AC := (.seq (.block 1 (.reg [] [(jm 9 4), (jm 10 4), ((jv 11 (.idxA (.t 1) (.t 10) 2 1))), ((jv 12 (.load .s (.t 11)))), ((jv 13 (.idxA (.t 3) (.t 9) 2 1))), (.mk none none false (.store .s (.t 13) (.t 12)))] [])) A123_4)
def A123_1 : AC := (.seq (.seq (.reg [] [(jm 5 4), ((jv 6 (.bin .lss (.t 5) (jn 2))))] []) A123_2) A123_3)
def A123_5 : AC := (.seq (.reg [] [((jv 14 (.load (.ag [.s, .s]) (.t 3)))), (.mk none none false (.store (.ag [.s, .s]) (.t 2) (.t 14)))] []) .ret)
def A123_8 : AC := (.block 0 (.loop A123_1))
def A123_7 : AC := (.seq (.seq (.reg [] [((jv 4 (.mov (jn 0))))] []) A123_8) A123_5)
def A123_6 : AC := (.seq (.reg [.clr [3]] [(.mk (some 3) none false (.alloc (.agg [(.int .i64 (.ofNat 0)), (.int .i64 (.ofNat 0))])))] []) A123_7)
def A123 : AC := (.seq (.reg [.clr [1, 2]] [(.mk (some 1) none false (.box (.t 0))), (.mk (some 2) none false (.alloc (.agg [(.int .i64 (.ofNat 0)), (.int .i64 (.ofNat 0))])))] []) A123_6)
def an123 : List An := [{ id := 0, pre := [.clr [1, 2]], ep := [], lin := [], sp := [] }, { id := 1, pre := [.clr [3]], ep := [], lin := [], sp := [] }]
theorem c123 : cC Try.prog Try.f123.ntmps an123 (Try.f123.body.getD .skip) = some A123 := by kernel_rfl
structure H123 (D : Den) (σ : Sig) (F : Nat) : Prop where
  mk ::
abbrev R123 (r : (Int × Int)) : (Nat → V) → Prop := RR Try.prog [.cell 2 103] 0 false (Enc.enc (r : (Int × Int)))
section
variable {D : Den} {σ : Sig} {F : Nat} {r : (Int × Int)}
def w_toIntA2_l1 (F : Nat) (x_1 : (Int × Int))  : Nat → Int → Int → Int → Option (Int × Int)
  | 0, _, _, _ => none
  | k + 1, x_2, x_3, x_6 =>
    bif decide (x_3 < 2) then
      (idx [x_1.1, x_1.2] x_3).bind fun e_9 =>
      (idx [x_2, x_6] x_3).bind fun e_10 =>
      (w_toIntA2_l1 F x_1 k) (bif x_3 == 0 then e_9 else x_2) (w64 (x_3 + 1)) (bif x_3 == 1 then e_9 else x_6)
    else
      some (x_2, x_6)
theorem t_f123_l1 (H : H123 D σ F) (x_1 : (Int × Int))  : ∀ (k : Nat) (x_2 : Int) (x_3 : Int) (x_6 : Int) (s : Nat → V), Facts [(1, (.ref (.bx 1) 0 [] (.agg [(ji x_1.1), (ji x_1.2)]))), (2, (.ref (.bx 2) 0 [] (.agg [(ji 0), (ji 0)]))), (3, (.ref (.bx 3) 0 [] (.agg [(ji x_2), (ji x_6)]))), (4, (ji x_3))] s → w_toIntA2_l1 F x_1 k x_2 x_3 x_6 = some r → Run D σ (R123 r) (.run A123_1 [.lp A123_1, .bk 0, .sq A123_5]) s := by
  intro k
  induction k with
  | zero => intro x_2 x_3 x_6 s _ h; exact nomatch (h : (none : Option _) = some r)
  | succ k ih =>
    intro x_2 x_3 x_6 s hs h
    rw [w_toIntA2_l1] at h
    obtain ⟨h1, h2, h3, h4⟩ := hs
    refine .seq (.seq (rg (gm h4 fun h5 => g1 5 (jb (decide (x_3 < 2))) h5 fun h6 => ?_)))
    refine gq (.nsq (run_cond (t := decide (x_3 < 2)) h6 h (fun h => ?_) (fun h => ?_)))
    · refine .skip (.nsq (.seq (.block (rg (gm h4 fun h9 => gm h4 fun h10 => ?_)))))
      obtain ⟨e_9, E_e_9, h⟩ := bind_some h
      refine gv (.ref (.bx 1) 0 [x_3.toNat] (ji e_9)) (ev_idxA (xs := [x_1.1, x_1.2]) (a := e_9) (n := x_3) (q := []) h1 h10 E_e_9 rfl rfl rfl) fun h11 => ?_
      refine g1 11 (ji e_9) h11 fun h12 => ?_
      obtain ⟨e_10, E_e_10, h⟩ := bind_some h
      refine gv (.ref (.bx 3) 0 [x_3.toNat] (ji e_10)) (ev_idxA (xs := [x_2, x_6]) (a := e_10) (n := x_3) (q := []) h3 h9 E_e_10 rfl rfl rfl) fun h13 => ?_
      refine g_store (ji e_9) (rd_of h13 rfl) (rd_of h12 rfl) (by refine ⟨by decide, by decide, rfl, rfl, rfl, ?_⟩; first | rfl | simp [V.toks, V.tokss, Enc.toks_enc]) ?_
      refine gz [(1, (.ref (.bx 1) 0 [] (.agg [(ji x_1.1), (ji x_1.2)]))), (2, (.ref (.bx 2) 0 [] (.agg [(ji 0), (ji 0)]))), (3, (.ref (.bx 3) 0 [] (.agg [(ji (bif x_3 == 0 then e_9 else x_2)), (ji (bif x_3 == 1 then e_9 else x_6))]))), (4, (ji x_3))] ⟨(keep_mut h1 rfl), (keep_mut h2 rfl), (keep_mut h3 (mut_ix2 E_e_10 rfl)), (keep_mut h4 rfl)⟩ ?_
      rintro s ⟨h1, h2, h3, h4⟩
      refine .nbk (.nsq (rg (gm h4 fun h7 => g1 7 (ji (w64 (x_3 + 1))) h7 fun h8 => ?_)))
      refine gm h8 fun h4 => gq (.nlp ?_)
      exact ih (bif x_3 == 0 then e_9 else x_2) (w64 (x_3 + 1)) (bif x_3 == 1 then e_9 else x_6) _ ⟨h1, h2, h3, h4⟩ h
    refine .exit (.esq (.elp (.ebk (.nsq (.seq (rg (g1 3 (.agg [(ji x_2), (ji x_6)]) h3 fun h14 => ?_)))))))
    refine g_store (.agg [(ji x_2), (ji x_6)]) (rd_of h2 rfl) (rd_of h14 rfl) (by refine ⟨by decide, by decide, rfl, rfl, rfl, ?_⟩; first | rfl | simp [V.toks, V.tokss, Enc.toks_enc]) ?_
    refine gz [(2, (.ref (.bx 2) 0 [] (.agg [(ji x_2), (ji x_6)])))] (keep_mut h2 rfl) ?_
    rintro s h2
    refine .nsq (.ret ?_)
    have hr := Option.some.inj h
    subst hr
    exact rrA (res_cell h2 (by kernel_rfl)) rfl
def w_toIntA2 (F : Nat) (x_1 : (Int × Int)) : Option (Int × Int) :=
  w_toIntA2_l1 F x_1 F 0 0 0
theorem t123 (H : H123 D σ F) (x_1 : (Int × Int)) (s : Nat → V) (hs : Facts [(0, (.agg [(ji x_1.1), (ji x_1.2)]))] s) (h : w_toIntA2 F x_1 = some r) : Run D σ (R123 r) (.run A123 []) s := by
  unfold w_toIntA2 at h
  have h0 := hs
  refine .seq (run_reg ?_)
  refine e_clr ?_
  refine ez [(0, _), (1, _), (2, _)] ⟨(keep_clear (pk := [1, 2]) h0 rfl (map_agg (maps_cons mi (maps_cons mi maps_nil)))), (gone_clear (pk := [1, 2]) (t := 1) rfl), (gone_clear (pk := [1, 2]) (t := 2) rfl)⟩ ?_
  rintro s ⟨h0, h1, h2⟩
  refine g_box (.agg [(ji x_1.1), (ji x_1.2)]) (rd_of h0 rfl) h1 rfl ?_
  refine g_alloc h2 ?_
  refine gq (.nsq (.seq (run_reg ?_)))
  refine e_clr ?_
  refine ez [(1, _), (2, _), (3, _)] ⟨(keep_clear (pk := [3]) rfl rfl (map_bx rfl (map_agg (maps_cons mi (maps_cons mi maps_nil))))), (keep_clear (pk := [3]) rfl rfl (map_bx rfl (map_agg (maps_cons mi (maps_cons mi maps_nil))))), (gone_clear (pk := [3]) (t := 3) rfl)⟩ ?_
  rintro s ⟨h1, h2, h3⟩
  refine g_alloc h3 ?_
  refine gq (.nsq (.seq (.seq (rg (g0 (ji 0) fun h4 => gq (.nsq (.block (.loop ?_))))))))
  exact t_f123_l1 H x_1 F 0 0 0 _ ⟨h1, h2, rfl, h4⟩ h
end
def e123 (F : Nat) : Ent := ent 123 (fun (x : ((Int × Int) × Unit)) => w_toIntA2 F x.1) (fun (r : (Int × Int)) => (Enc.enc (r : (Int × Int)))) 0 false []
theorem p123 {F : Nat} {x0 : (Int × Int)} {r : (Int × Int)} (h : w_toIntA2 F x0 = some r) : (e123 F).den [Enc.enc x0] = some (Enc.enc (r : (Int × Int))) := ent_put (x0, ()) h
theorem o123 {D : Den} {σ : Sig} {F : Nat} (hF : Fits2 Try.prog D σ) (H : H123 D σ F) : (e123 F).Ok Try.prog := by
  refine ok_of (f := 123) (show unk 123 = 123 from rfl) (fun args r h => ?_) ⟨Try.f123, Try.func123, rfl, rfl⟩
  obtain ⟨⟨x0, _⟩, y, rfl, hy, rfl⟩ := da_open h
  exact contract_run hF (by kernel_rfl) Try.func123 rfl c123 (show 1 ≤ Try.f123.ntmps by decide) (t123 H x0 _ rfl hy)
/- loop.example/g01109/laws.toIntA2S -/
def A62_2 : AC := (.cond (.t 11) .skip (.exit 0))
def A62_4 : AC := (.reg [] [(jm 12 4), ((jv 13 (.bin .add (.t 12) (jn 1)))), (jm 4 13)] [])
def A62_3 : AC := (.seq (.block 1 (.reg [] [(jm 14 3), (jm 15 4), (jm 16 0), (jm 17 4), ((jv 18 (.idx (.t 16) (.t 17) 2))), ((jv 19 (.load (.ag [.s, .s]) (.t 18)))), (.mk (some 20) none false (.call (.k (.fn 123 [] [])) [(.t 19)])), ((jv 21 (.idx (.t 14) (.t 15) 2))), (.mk none none false (.store (.ag [.s, .s]) (.t 21) (.t 20)))] [])) A62_4)
def A62_1 : AC := (.seq (.seq (.reg [] [(jm 8 4), (jm 9 0), ((jv 10 (.len (.t 9)))), ((jv 11 (.bin .lss (.t 8) (.t 10))))] []) A62_2) A62_3)
def A62_5 : AC := (.seq (.reg [] [(jm 22 3), (jm 2 22)] [.home 3 2]) .ret)
def A62_8 : AC := (.block 0 (.loop A62_1))
def A62_7 : AC := (.seq (.seq (.reg [] [((jv 4 (.mov (jn 0))))] []) A62_8) A62_5)
def A62_6 : AC := (.seq (.reg [.clr [7]] [(jm 5 0), ((jv 6 (.len (.t 5)))), (.mk (some 7) none false (.mk (.t 6) (.agg [(.int .i64 (.ofNat 0)), (.int .i64 (.ofNat 0))]) (.agg [(.int .i64 (.ofNat 0)), (.int .i64 (.ofNat 0))]))), (jm 3 7)] [.home 7 3]) A62_7)
def A62 : AC := (.seq (.reg [] [((jv 2 (.mov (.k (.sl .nl (.ag [.s, .s]) 0 [])))))] []) A62_6)
def an62 : List An := [{ id := 1, pre := [.clr [7]], ep := [.home 7 3], lin := [], sp := [] }, { id := 6, pre := [], ep := [.home 3 2], lin := [], sp := [] }]
theorem c62 : cC Try.prog Try.f62.ntmps an62 (Try.f62.body.getD .skip) = some A62 := by kernel_rfl
structure H62 (D : Den) (σ : Sig) (F : Nat) : Prop where
  c123 : ∀ (x0 : (Int × Int)) r, w_toIntA2 F x0 = some r → D 123 [Enc.enc x0] = some (Enc.enc (r : (Int × Int)))
  g123 : σ 123 = some (0, false)
abbrev R62 (r : (List (Int × Int))) : (Nat → V) → Prop := RR Try.prog [.tmp 2] 0 false (Enc.enc (r : (List (Int × Int))))
section
variable {D : Den} {σ : Sig} {F : Nat} {r : (List (Int × Int))}
def w_toIntA2S_l1 (F : Nat) (x_1 : (List (Int × Int)))  : Nat → (List (Int × Int)) → Int → Option (List (Int × Int))
  | 0, _, _ => none
  | k + 1, x_6, x_7 =>
    bif decide (x_7 < (x_1.length : Int)) then
      (idx x_1 x_7).bind fun e_11 =>
      (w_toIntA2 F e_11).bind fun r_12 =>
      (idx x_6 x_7).bind fun e_13 =>
      (w_toIntA2S_l1 F x_1 k) (x_6.set x_7.toNat r_12) (w64 (x_7 + 1))
    else
      some x_6
theorem t_f62_l1 (H : H62 D σ F) (x_1 : (List (Int × Int)))  : ∀ (k : Nat) (x_6 : (List (Int × Int))) (x_7 : Int) (s : Nat → V), Facts [(0, (Enc.enc (x_1 : List (Int × Int)))), (2, (.sl .nl (Enc.shp (Int × Int)) 0 [])), (3, (encO (.at 3 []) (.of (x_6 : List (Int × Int))))), (4, (ji x_7))] s → w_toIntA2S_l1 F x_1 k x_6 x_7 = some r → Run D σ (R62 r) (.run A62_1 [.lp A62_1, .bk 0, .sq A62_5]) s := by
  intro k
  induction k with
  | zero => intro x_6 x_7 s _ h; exact nomatch (h : (none : Option _) = some r)
  | succ k ih =>
    intro x_6 x_7 s hs h
    rw [w_toIntA2S_l1] at h
    obtain ⟨h0, h2, h3, h4⟩ := hs
    refine .seq (.seq (rg (gm h4 fun h8 => gm h0 fun h9 => gv (ji (x_1.length : Int)) (ev_len (xs := x_1) h9) fun h10 => ?_)))
    refine g2 8 10 (jb (decide (x_7 < (x_1.length : Int)))) h8 h10 fun h11 => ?_
    refine gq (.nsq (run_cond (t := decide (x_7 < (x_1.length : Int))) h11 h (fun h => ?_) (fun h => ?_)))
    · refine .skip (.nsq (.seq (.block (rg (gm h3 fun h14 => gm h4 fun h15 => gm h0 fun h16 => gm h4 fun h17 => ?_)))))
      obtain ⟨e_11, E_e_11, h⟩ := bind_some h
      refine gv (.ref .sh 0 [] (.agg [(ji e_11.1), (ji e_11.2)])) (ev_idx (t := .sh) (lo := 0) (xs := x_1) h16 h17 E_e_11 rfl rfl) fun h18 => ?_
      refine g1 18 (.agg [(ji e_11.1), (ji e_11.2)]) h18 fun h19 => ?_
      obtain ⟨r_12, E_r_12, h⟩ := bind_some h
      refine g_call (m := 0) (al := false) (r := (Enc.enc (r_12 : (Int × Int)))) [Enc.enc (e_11 : (Int × Int))] (ta_cons (v := (.agg [(ji e_11.1), (ji e_11.2)])) h19 rfl (Enc.erase_enc (e_11 : (Int × Int))) ta_nil) (H.c123 _ _ E_r_12) H.g123 rfl rfl rfl rfl ?_
      obtain ⟨e_13, E_e_13, h⟩ := bind_some h
      refine gv (.ref (.at 3 []) x_7.toNat [] (.agg [(ji e_13.1), (ji e_13.2)])) (ev_idxO (o := (.of x_6)) h14 h15 E_e_13 rfl) fun h21 => ?_
      refine g_store (.agg [(ji r_12.1), (ji r_12.2)]) (rd_of h21 rfl) (rd_of rfl rfl) (by refine ⟨by decide, by decide, rfl, rfl, rfl, ?_⟩; first | rfl | simp [V.toks, V.tokss, Enc.toks_enc]) ?_
      refine gz [(0, (Enc.enc (x_1 : List (Int × Int)))), (2, (.sl .nl (Enc.shp (Int × Int)) 0 [])), (3, _), (4, (ji x_7))] ⟨(keep_mut h0 (Enc.mut_enc _ _ _ _ (x_1 : List (Int × Int)))), (keep_mut h2 rfl), (keep_mut h3 mut_own), (keep_mut h4 rfl)⟩ ?_
      rintro s ⟨h0, h2, h3, h4⟩
      refine .nbk (.nsq (rg (gm h4 fun h12 => g1 12 (ji (w64 (x_7 + 1))) h12 fun h13 => ?_)))
      refine gm h13 fun h4 => gq (.nlp ?_)
      exact ih (x_6.set x_7.toNat r_12) (w64 (x_7 + 1)) _ ⟨h0, h2, h3, h4⟩ h
    refine .exit (.esq (.elp (.ebk (.nsq (.seq (rg (gm h3 fun h22 => gm h22 fun h2 => g_end ?_)))))))
    refine e_home (r := 3) (x := 2) (v := _) h2 rfl (fun s_3 hg_3 => ?_)
    refine ez [(2, (encO (.at 2 []) (.of (x_6 : List (Int × Int)))))] (hg_3 2 _ _ h2 (map_encO (r := 3) (p := []) rfl rfl)) ?_
    rintro s h2
    refine .nsq (.ret ?_)
    have hr := Option.some.inj h
    subst hr
    exact rrA (res_tmp h2) (fin_retF (fin_own (o := .of x_6)) (mine_own rfl))
def w_toIntA2S (F : Nat) (x_1 : (List (Int × Int))) : Option (List (Int × Int)) :=
  (mkN (x_1.length : Int) (0, 0)).bind fun mk_2 =>
  w_toIntA2S_l1 F x_1 F mk_2 0
theorem t62 (H : H62 D σ F) (x_1 : (List (Int × Int))) (s : Nat → V) (hs : Facts [(0, (Enc.enc (x_1 : List (Int × Int))))] s) (h : w_toIntA2S F x_1 = some r) : Run D σ (R62 r) (.run A62 []) s := by
  unfold w_toIntA2S at h
  have h0 := hs
  refine .seq (rg (g0 (.sl .nl (Enc.shp (Int × Int)) 0 []) fun h2 => ?_))
  refine gq (.nsq (.seq (run_reg ?_)))
  refine e_clr ?_
  refine ez [(0, _), (2, _), (7, _)] ⟨(keep_clear (pk := [7]) h0 rfl me), (keep_clear (pk := [7]) h2 rfl rfl), (gone_clear (pk := [7]) (t := 7) rfl)⟩ ?_
  rintro s ⟨h0, h2, h7⟩
  refine gm h0 fun h5 => gv (ji (x_1.length : Int)) (ev_len (xs := x_1) h5) fun h6 => ?_
  obtain ⟨mk_2, E_mk_2, h⟩ := bind_some h
  refine g_mk ((0, 0) : (Int × Int)) h6 rfl h7 E_mk_2 ?_
  refine gm (rfl : (_ : V) = (encO (.at 7 []) (.of (mk_2 : List (Int × Int))))) fun h3 => ?_
  refine g_end ?_
  refine e_home (r := 7) (x := 3) (v := _) h3 rfl (fun s_2 hg_2 => ?_)
  refine ez [(0, (Enc.enc (x_1 : List (Int × Int)))), (2, (.sl .nl (Enc.shp (Int × Int)) 0 [])), (3, (encO (.at 3 []) (.of (mk_2 : List (Int × Int)))))] ⟨(hg_2 0 _ _ h0 me), (hg_2 2 _ (.sl .nl (Enc.shp (Int × Int)) 0 []) h2 rfl), (hg_2 3 _ _ h3 (map_encO (r := 7) (p := []) rfl rfl))⟩ ?_
  rintro s ⟨h0, h2, h3⟩
  refine .nsq (.seq (.seq (rg (g0 (ji 0) fun h4 => gq (.nsq (.block (.loop ?_)))))))
  exact t_f62_l1 H x_1 F mk_2 0 _ ⟨h0, h2, h3, h4⟩ h
end
def e62 (F : Nat) : Ent := ent 62 (fun (x : ((List (Int × Int)) × Unit)) => w_toIntA2S F x.1) (fun (r : (List (Int × Int))) => (Enc.enc (r : (List (Int × Int))))) 0 false []
theorem p62 {F : Nat} {x0 : (List (Int × Int))} {r : (List (Int × Int))} (h : w_toIntA2S F x0 = some r) : (e62 F).den [Enc.enc x0] = some (Enc.enc (r : (List (Int × Int)))) := ent_put (x0, ()) h
theorem o62 {D : Den} {σ : Sig} {F : Nat} (hF : Fits2 Try.prog D σ) (H : H62 D σ F) : (e62 F).Ok Try.prog := by
  refine ok_of (f := 62) (show unk 62 = 62 from rfl) (fun args r h => ?_) ⟨Try.f62, Try.func62, rfl, rfl⟩
  obtain ⟨⟨x0, _⟩, y, rfl, hy, rfl⟩ := da_open h
  exact contract_run hF (by kernel_rfl) Try.func62 rfl c62 (show 1 ≤ Try.f62.ntmps by decide) (t62 H x0 _ rfl hy)
/- loop.example/g01109/laws.toGraph -/
def A17_4 : AC := (.seq (.reg [] [((jv 11 (.load (.ag [.s, .p]) (.t 3)))), (.mk none none false (.store (.ag [.s, .p]) (.t 2) (.t 11)))] []) .ret)
def A17_3 : AC := (.seq (.reg [] [((jv 7 (.fld (.t 1) 1 1))), ((jv 8 (.load .p (.t 7)))), (.mk (some 9) none false (.call (.k (.fn 62 [] [])) [(.t 8)])), ((jv 10 (.fld (.t 3) 1 1))), (.mk none none false (.store .p (.t 10) (.t 9)))] []) A17_4)
def A17_2 : AC := (.seq (.reg [] [((jv 4 (.fld (.t 1) 0 0))), ((jv 5 (.load .s (.t 4)))), ((jv 6 (.fld (.t 3) 0 0))), (.mk none none false (.store .s (.t 6) (.t 5)))] []) A17_3)
def A17_1 : AC := (.seq (.reg [.clr [3]] [(.mk (some 3) none false (.alloc (.agg [(.int .i64 (.ofNat 0)), (.sl .nl (.ag [.s, .s]) 0 [])])))] []) A17_2)
def A17 : AC := (.seq (.reg [.clr [1, 2]] [(.mk (some 1) none false (.box (.t 0))), (.mk (some 2) none false (.alloc (.agg [(.int .i64 (.ofNat 0)), (.sl .nl (.ag [.s, .s]) 0 [])])))] []) A17_1)
def an17 : List An := [{ id := 0, pre := [.clr [1, 2]], ep := [], lin := [], sp := [] }, { id := 1, pre := [.clr [3]], ep := [], lin := [], sp := [] }]
theorem c17 : cC Try.prog Try.f17.ntmps an17 (Try.f17.body.getD .skip) = some A17 := by kernel_rfl
structure H17 (D : Den) (σ : Sig) (F : Nat) : Prop where
  c62 : ∀ (x0 : (List (Int × Int))) r, w_toIntA2S F x0 = some r → D 62 [Enc.enc x0] = some (Enc.enc (r : (List (Int × Int))))
  g62 : σ 62 = some (0, false)
abbrev R17 (r : (Int × (List (Int × Int)))) : (Nat → V) → Prop := RR Try.prog [.cell 2 27] 0 true (Enc.enc (r : (Int × (List (Int × Int)))))
section
variable {D : Den} {σ : Sig} {F : Nat} {r : (Int × (List (Int × Int)))}
def w_toGraph (F : Nat) (x_1 : (Int × (List (Int × Int)))) : Option (Int × (List (Int × Int))) :=
  (w_toIntA2S F x_1.2).bind fun r_2 =>
  some (x_1.1, r_2)
theorem t17 (H : H17 D σ F) (x_1 : (Int × (List (Int × Int)))) (s : Nat → V) (hs : Facts [(0, (.agg [(ji x_1.1), (Enc.enc (x_1.2 : List (Int × Int)))]))] s) (h : w_toGraph F x_1 = some r) : Run D σ (R17 r) (.run A17 []) s := by
  unfold w_toGraph at h
  have h0 := hs
  refine .seq (run_reg ?_)
  refine e_clr ?_
  refine ez [(0, _), (1, _), (2, _)] ⟨(keep_clear (pk := [1, 2]) h0 rfl (map_agg (maps_cons mi (maps_cons me maps_nil)))), (gone_clear (pk := [1, 2]) (t := 1) rfl), (gone_clear (pk := [1, 2]) (t := 2) rfl)⟩ ?_
  rintro s ⟨h0, h1, h2⟩
  refine g_box (.agg [(ji x_1.1), (Enc.enc (x_1.2 : List (Int × Int)))]) (rd_of h0 rfl) h1 rfl ?_
  refine g_alloc h2 ?_
  refine gq (.nsq (.seq (run_reg ?_)))
  refine e_clr ?_
  refine ez [(1, _), (2, _), (3, _)] ⟨(keep_clear (pk := [3]) rfl rfl (map_bx rfl (map_agg (maps_cons mi (maps_cons me maps_nil))))), (keep_clear (pk := [3]) rfl rfl (map_bx rfl (map_agg (maps_cons mi (maps_cons rfl maps_nil))))), (gone_clear (pk := [3]) (t := 3) rfl)⟩ ?_
  rintro s ⟨h1, h2, h3⟩
  refine g_alloc h3 ?_
  refine gq (.nsq (.seq (rg (g1 1 (.ref (.bx 1) 0 [0] (ji x_1.1)) h1 fun h4 => ?_))))
  refine g1 4 (ji x_1.1) h4 fun h5 => ?_
  refine g1 3 (.ref (.bx 3) 0 [0] (ji 0)) (rfl : (_ : V) = (.ref (.bx 3) 0 [] (.agg [(ji 0), (.sl .nl (Enc.shp (Int × Int)) 0 [])]))) fun h6 => ?_
  refine g_store (ji x_1.1) (rd_of h6 rfl) (rd_of h5 rfl) (by refine ⟨by decide, by decide, rfl, rfl, rfl, ?_⟩; first | rfl | simp [V.toks, V.tokss, Enc.toks_enc]) ?_
  refine gz [(1, (.ref (.bx 1) 0 [] (.agg [(ji x_1.1), (Enc.enc (x_1.2 : List (Int × Int)))]))), (2, (.ref (.bx 2) 0 [] (.agg [(ji 0), (.sl .nl (Enc.shp (Int × Int)) 0 [])]))), (3, (.ref (.bx 3) 0 [] (.agg [(ji x_1.1), (.sl .nl (Enc.shp (Int × Int)) 0 [])])))] ⟨(keep_mut h1 (mut_ref_ne rfl rfl (mut_agg (muts_cons rfl (muts_cons (Enc.mut_enc _ _ _ _ (x_1.2 : List (Int × Int))) rfl))))), (keep_mut h2 (mut_ref_ne rfl rfl (mut_agg (muts_cons rfl (muts_cons rfl rfl))))), (keep_mut rfl rfl)⟩ ?_
  rintro s ⟨h1, h2, h3⟩
  refine .nsq (.seq (rg (g1 1 (.ref (.bx 1) 0 [1] (Enc.enc (x_1.2 : List (Int × Int)))) h1 fun h7 => ?_)))
  refine g1 7 (Enc.enc (x_1.2 : List (Int × Int))) h7 fun h8 => ?_
  obtain ⟨r_2, E_r_2, h⟩ := bind_some h
  refine g_call (m := 0) (al := false) (r := (Enc.enc (r_2 : (List (Int × Int))))) [Enc.enc (x_1.2 : (List (Int × Int)))] (ta_cons (v := (Enc.enc (x_1.2 : List (Int × Int)))) h8 rfl (Enc.erase_enc (x_1.2 : (List (Int × Int)))) ta_nil) (H.c62 _ _ E_r_2) H.g62 rfl rfl rfl rfl ?_
  refine g1 3 (.ref (.bx 3) 0 [1] (.sl .nl (Enc.shp (Int × Int)) 0 [])) h3 fun h10 => ?_
  refine g_store (Enc.enc (r_2 : List (Int × Int))) (rd_of h10 rfl) (rd_of rfl rfl) (by refine ⟨by decide, by decide, rfl, rfl, rfl, ?_⟩; first | rfl | simp [V.toks, V.tokss, Enc.toks_enc]) ?_
  refine gz [(2, (.ref (.bx 2) 0 [] (.agg [(ji 0), (.sl .nl (Enc.shp (Int × Int)) 0 [])]))), (3, (.ref (.bx 3) 0 [] (.agg [(ji x_1.1), (Enc.enc (r_2 : List (Int × Int)))])))] ⟨(keep_mut h2 (mut_ref_ne rfl rfl (mut_agg (muts_cons rfl (muts_cons rfl rfl))))), (keep_mut h3 rfl)⟩ ?_
  rintro s ⟨h2, h3⟩
  refine .nsq (.seq (rg (g1 3 (.agg [(ji x_1.1), (Enc.enc (r_2 : List (Int × Int)))]) h3 fun h11 => ?_)))
  refine g_store (.agg [(ji x_1.1), (Enc.enc (r_2 : List (Int × Int)))]) (rd_of h2 rfl) (rd_of h11 rfl) (by refine ⟨by decide, by decide, rfl, rfl, rfl, ?_⟩; first | rfl | simp [V.toks, V.tokss, Enc.toks_enc]) ?_
  refine gz [(2, (.ref (.bx 2) 0 [] (.agg [(ji x_1.1), (Enc.enc (r_2 : List (Int × Int)))])))] (keep_mut h2 rfl) ?_
  rintro s h2
  refine .nsq (.ret ?_)
  have hr := Option.some.inj h
  subst hr
  exact rrA (res_cell h2 (by kernel_rfl)) (fin_ret1 (fin_enc (x := ((x_1.1, r_2) : (Int × (List (Int × Int)))))))
end
def e17 (F : Nat) : Ent := ent 17 (fun (x : ((Int × (List (Int × Int))) × Unit)) => w_toGraph F x.1) (fun (r : (Int × (List (Int × Int)))) => (Enc.enc (r : (Int × (List (Int × Int)))))) 0 true []
theorem p17 {F : Nat} {x0 : (Int × (List (Int × Int)))} {r : (Int × (List (Int × Int)))} (h : w_toGraph F x0 = some r) : (e17 F).den [Enc.enc x0] = some (Enc.enc (r : (Int × (List (Int × Int))))) := ent_put (x0, ()) h
theorem o17 {D : Den} {σ : Sig} {F : Nat} (hF : Fits2 Try.prog D σ) (H : H17 D σ F) : (e17 F).Ok Try.prog := by
  refine ok_of (f := 17) (show unk 17 = 17 from rfl) (fun args r h => ?_) ⟨Try.f17, Try.func17, rfl, rfl⟩
  obtain ⟨⟨x0, _⟩, y, rfl, hy, rfl⟩ := da_open h
  exact contract_run hF (by kernel_rfl) Try.func17 rfl c17 (show 1 ≤ Try.f17.ntmps by decide) (t17 H x0 _ rfl hy)
/- loop.example/g01109/laws.toIntS -/
def A18_2 : AC := (.cond (.t 11) .skip (.exit 0))
def A18_4 : AC := (.reg [] [(jm 12 4), ((jv 13 (.bin .add (.t 12) (jn 1)))), (jm 4 13)] [])
def A18_3 : AC := (.seq (.block 1 (.reg [] [(jm 14 3), (jm 15 4), (jm 16 0), (jm 17 4), ((jv 18 (.idx (.t 16) (.t 17) 1))), ((jv 19 (.load .s (.t 18)))), ((jv 20 (.idx (.t 14) (.t 15) 1))), (.mk none none false (.store .s (.t 20) (.t 19)))] [])) A18_4)
def A18_1 : AC := (.seq (.seq (.reg [] [(jm 8 4), (jm 9 0), ((jv 10 (.len (.t 9)))), ((jv 11 (.bin .lss (.t 8) (.t 10))))] []) A18_2) A18_3)
def A18_5 : AC := (.seq (.reg [] [(jm 21 3), (jm 2 21)] [.home 3 2]) .ret)
def A18_8 : AC := (.block 0 (.loop A18_1))
def A18_7 : AC := (.seq (.seq (.reg [] [((jv 4 (.mov (jn 0))))] []) A18_8) A18_5)
def A18_6 : AC := (.seq (.reg [.clr [7]] [(jm 5 0), ((jv 6 (.len (.t 5)))), (.mk (some 7) none false (.mk (.t 6) (.int .i64 (.ofNat 0)) (.int .i64 (.ofNat 0)))), (jm 3 7)] [.home 7 3]) A18_7)
def A18 : AC := (.seq (.reg [] [((jv 2 (.mov (.k (.sl .nl .s 0 [])))))] []) A18_6)
def an18 : List An := [{ id := 1, pre := [.clr [7]], ep := [.home 7 3], lin := [], sp := [] }, { id := 6, pre := [], ep := [.home 3 2], lin := [], sp := [] }]
theorem c18 : cC Try.prog Try.f18.ntmps an18 (Try.f18.body.getD .skip) = some A18 := by kernel_rfl
structure H18 (D : Den) (σ : Sig) (F : Nat) : Prop where
  mk ::
abbrev R18 (r : (List Int)) : (Nat → V) → Prop := RR Try.prog [.tmp 2] 0 false (Enc.enc (r : (List Int)))
section
variable {D : Den} {σ : Sig} {F : Nat} {r : (List Int)}
def w_toIntS_l1 (F : Nat) (x_1 : (List Int))  : Nat → (List Int) → Int → Option (List Int)
  | 0, _, _ => none
  | k + 1, x_5, x_6 =>
    bif decide (x_6 < (x_1.length : Int)) then
      (idx x_1 x_6).bind fun e_9 =>
      (idx x_5 x_6).bind fun e_10 =>
      (w_toIntS_l1 F x_1 k) (x_5.set x_6.toNat e_9) (w64 (x_6 + 1))
    else
      some x_5
theorem t_f18_l1 (H : H18 D σ F) (x_1 : (List Int))  : ∀ (k : Nat) (x_5 : (List Int)) (x_6 : Int) (s : Nat → V), Facts [(0, (eL x_1)), (2, (.sl .nl (Enc.shp Int) 0 [])), (3, (oI 3 [] (.of x_5))), (4, (ji x_6))] s → w_toIntS_l1 F x_1 k x_5 x_6 = some r → Run D σ (R18 r) (.run A18_1 [.lp A18_1, .bk 0, .sq A18_5]) s := by
  intro k
  induction k with
  | zero => intro x_5 x_6 s _ h; exact nomatch (h : (none : Option _) = some r)
  | succ k ih =>
    intro x_5 x_6 s hs h
    rw [w_toIntS_l1] at h
    obtain ⟨h0, h2, h3, h4⟩ := hs
    refine .seq (.seq (rg (gm h4 fun h8 => gm h0 fun h9 => gv (ji (x_1.length : Int)) (ev_len (xs := x_1) h9) fun h10 => ?_)))
    refine g2 8 10 (jb (decide (x_6 < (x_1.length : Int)))) h8 h10 fun h11 => ?_
    refine gq (.nsq (run_cond (t := decide (x_6 < (x_1.length : Int))) h11 h (fun h => ?_) (fun h => ?_)))
    · refine .skip (.nsq (.seq (.block (rg (gm h3 fun h14 => gm h4 fun h15 => gm h0 fun h16 => gm h4 fun h17 => ?_)))))
      obtain ⟨e_9, E_e_9, h⟩ := bind_some h
      refine gv (.ref .sh 0 [] (ji e_9)) (ev_idx (t := .sh) (lo := 0) (xs := x_1) h16 h17 E_e_9 rfl rfl) fun h18 => ?_
      refine g1 18 (ji e_9) h18 fun h19 => ?_
      obtain ⟨e_10, E_e_10, h⟩ := bind_some h
      refine gv (.ref (.at 3 []) x_6.toNat [] (ji e_10)) (ev_idxO (o := (.of x_5)) h14 h15 E_e_10 rfl) fun h20 => ?_
      refine g_store (ji e_9) (rd_of h20 rfl) (rd_of h19 rfl) (by refine ⟨by decide, by decide, rfl, rfl, rfl, ?_⟩; first | rfl | simp [V.toks, V.tokss, Enc.toks_enc]) ?_
      refine gz [(0, (eL x_1)), (2, (.sl .nl (Enc.shp Int) 0 [])), (3, _), (4, (ji x_6))] ⟨(keep_mut h0 (Enc.mut_enc _ _ _ _ (x_1 : List Int))), (keep_mut h2 rfl), (keep_mut h3 mut_own), (keep_mut h4 rfl)⟩ ?_
      rintro s ⟨h0, h2, h3, h4⟩
      refine .nbk (.nsq (rg (gm h4 fun h12 => g1 12 (ji (w64 (x_6 + 1))) h12 fun h13 => ?_)))
      refine gm h13 fun h4 => gq (.nlp ?_)
      exact ih (x_5.set x_6.toNat e_9) (w64 (x_6 + 1)) _ ⟨h0, h2, h3, h4⟩ h
    refine .exit (.esq (.elp (.ebk (.nsq (.seq (rg (gm h3 fun h21 => gm h21 fun h2 => g_end ?_)))))))
    refine e_home (r := 3) (x := 2) (v := _) h2 rfl (fun s_3 hg_3 => ?_)
    refine ez [(2, (oI 2 [] (.of x_5)))] (hg_3 2 _ _ h2 (map_encO (r := 3) (p := []) rfl rfl)) ?_
    rintro s h2
    refine .nsq (.ret ?_)
    have hr := Option.some.inj h
    subst hr
    exact rrA (res_tmp h2) (fin_retF (fin_own (o := .of x_5)) (mine_own rfl))
def w_toIntS (F : Nat) (x_1 : (List Int)) : Option (List Int) :=
  (mkN (x_1.length : Int) (0 : Int)).bind fun mk_2 =>
  w_toIntS_l1 F x_1 F mk_2 0
theorem t18 (H : H18 D σ F) (x_1 : (List Int)) (s : Nat → V) (hs : Facts [(0, (eL x_1))] s) (h : w_toIntS F x_1 = some r) : Run D σ (R18 r) (.run A18 []) s := by
  unfold w_toIntS at h
  have h0 := hs
  refine .seq (rg (g0 (.sl .nl (Enc.shp Int) 0 []) fun h2 => ?_))
  refine gq (.nsq (.seq (run_reg ?_)))
  refine e_clr ?_
  refine ez [(0, _), (2, _), (7, _)] ⟨(keep_clear (pk := [7]) h0 rfl me), (keep_clear (pk := [7]) h2 rfl rfl), (gone_clear (pk := [7]) (t := 7) rfl)⟩ ?_
  rintro s ⟨h0, h2, h7⟩
  refine gm h0 fun h5 => gv (ji (x_1.length : Int)) (ev_len (xs := x_1) h5) fun h6 => ?_
  obtain ⟨mk_2, E_mk_2, h⟩ := bind_some h
  refine g_mk (0 : Int) h6 rfl h7 E_mk_2 ?_
  refine gm (rfl : (_ : V) = (oI 7 [] (.of mk_2))) fun h3 => ?_
  refine g_end ?_
  refine e_home (r := 7) (x := 3) (v := _) h3 rfl (fun s_2 hg_2 => ?_)
  refine ez [(0, (eL x_1)), (2, (.sl .nl (Enc.shp Int) 0 [])), (3, (oI 3 [] (.of mk_2)))] ⟨(hg_2 0 _ _ h0 me), (hg_2 2 _ (.sl .nl (Enc.shp Int) 0 []) h2 rfl), (hg_2 3 _ _ h3 (map_encO (r := 7) (p := []) rfl rfl))⟩ ?_
  rintro s ⟨h0, h2, h3⟩
  refine .nsq (.seq (.seq (rg (g0 (ji 0) fun h4 => gq (.nsq (.block (.loop ?_)))))))
  exact t_f18_l1 H x_1 F mk_2 0 _ ⟨h0, h2, h3, h4⟩ h
end
def e18 (F : Nat) : Ent := ent 18 (fun (x : ((List Int) × Unit)) => w_toIntS F x.1) (fun (r : (List Int)) => (Enc.enc (r : (List Int)))) 0 false []
theorem p18 {F : Nat} {x0 : (List Int)} {r : (List Int)} (h : w_toIntS F x0 = some r) : (e18 F).den [Enc.enc x0] = some (Enc.enc (r : (List Int))) := ent_put (x0, ()) h
theorem o18 {D : Den} {σ : Sig} {F : Nat} (hF : Fits2 Try.prog D σ) (H : H18 D σ F) : (e18 F).Ok Try.prog := by
  refine ok_of (f := 18) (show unk 18 = 18 from rfl) (fun args r h => ?_) ⟨Try.f18, Try.func18, rfl, rfl⟩
  obtain ⟨⟨x0, _⟩, y, rfl, hy, rfl⟩ := da_open h
  exact contract_run hF (by kernel_rfl) Try.func18 rfl c18 (show 1 ≤ Try.f18.ntmps by decide) (t18 H x0 _ rfl hy)
/- loop.example/g01109/laws.toIntSS -/
def A27_2 : AC := (.cond (.t 11) .skip (.exit 0))
def A27_4 : AC := (.reg [] [(jm 12 4), ((jv 13 (.bin .add (.t 12) (jn 1)))), (jm 4 13)] [])
def A27_3 : AC := (.seq (.block 1 (.reg [] [(jm 14 3), (jm 15 4), (jm 16 0), (jm 17 4), ((jv 18 (.idx (.t 16) (.t 17) 1))), ((jv 19 (.load .p (.t 18)))), (.mk (some 20) none false (.call (.k (.fn 18 [] [])) [(.t 19)])), ((jv 21 (.idx (.t 14) (.t 15) 1))), (.mk none none false (.store .p (.t 21) (.t 20)))] [])) A27_4)
def A27_1 : AC := (.seq (.seq (.reg [] [(jm 8 4), (jm 9 0), ((jv 10 (.len (.t 9)))), ((jv 11 (.bin .lss (.t 8) (.t 10))))] []) A27_2) A27_3)
def A27_5 : AC := (.seq (.reg [] [(jm 22 3), (jm 2 22)] [.home 3 2]) .ret)
def A27_8 : AC := (.block 0 (.loop A27_1))
def A27_7 : AC := (.seq (.seq (.reg [] [((jv 4 (.mov (jn 0))))] []) A27_8) A27_5)
def A27_6 : AC := (.seq (.reg [.clr [7]] [(jm 5 0), ((jv 6 (.len (.t 5)))), (.mk (some 7) none false (.mk (.t 6) (.sl .sh .s 0 []) (.sl .nl .s 0 []))), (jm 3 7)] [.home 7 3]) A27_7)
def A27 : AC := (.seq (.reg [] [((jv 2 (.mov (.k (.sl .nl .p 0 [])))))] []) A27_6)
def an27 : List An := [{ id := 1, pre := [.clr [7]], ep := [.home 7 3], lin := [], sp := [] }, { id := 6, pre := [], ep := [.home 3 2], lin := [], sp := [] }]
theorem c27 : cC Try.prog Try.f27.ntmps an27 (Try.f27.body.getD .skip) = some A27 := by kernel_rfl
structure H27 (D : Den) (σ : Sig) (F : Nat) : Prop where
  c18 : ∀ (x0 : (List Int)) r, w_toIntS F x0 = some r → D 18 [Enc.enc x0] = some (Enc.enc (r : (List Int)))
  g18 : σ 18 = some (0, false)
abbrev R27 (r : (List (List Int))) : (Nat → V) → Prop := RR Try.prog [.tmp 2] 0 true (Enc.enc (r : (List (List Int))))
section
variable {D : Den} {σ : Sig} {F : Nat} {r : (List (List Int))}
def w_toIntSS_l1 (F : Nat) (x_1 : (List (List Int)))  : Nat → (List (List Int)) → Int → Option (List (List Int))
  | 0, _, _ => none
  | k + 1, x_6, x_7 =>
    bif decide (x_7 < (x_1.length : Int)) then
      (idx x_1 x_7).bind fun e_11 =>
      (w_toIntS F e_11).bind fun r_12 =>
      (idx x_6 x_7).bind fun e_13 =>
      (w_toIntSS_l1 F x_1 k) (x_6.set x_7.toNat r_12) (w64 (x_7 + 1))
    else
      some x_6
theorem t_f27_l1 (H : H27 D σ F) (x_1 : (List (List Int)))  : ∀ (k : Nat) (x_6 : (List (List Int))) (x_7 : Int) (s : Nat → V), Facts [(0, (Enc.enc (x_1 : List (List Int)))), (2, (.sl .nl (Enc.shp (List Int)) 0 [])), (3, (encO (.at 3 []) (.of (x_6 : List (List Int))))), (4, (ji x_7))] s → w_toIntSS_l1 F x_1 k x_6 x_7 = some r → Run D σ (R27 r) (.run A27_1 [.lp A27_1, .bk 0, .sq A27_5]) s := by
  intro k
  induction k with
  | zero => intro x_6 x_7 s _ h; exact nomatch (h : (none : Option _) = some r)
  | succ k ih =>
    intro x_6 x_7 s hs h
    rw [w_toIntSS_l1] at h
    obtain ⟨h0, h2, h3, h4⟩ := hs
    refine .seq (.seq (rg (gm h4 fun h8 => gm h0 fun h9 => gv (ji (x_1.length : Int)) (ev_len (xs := x_1) h9) fun h10 => ?_)))
    refine g2 8 10 (jb (decide (x_7 < (x_1.length : Int)))) h8 h10 fun h11 => ?_
    refine gq (.nsq (run_cond (t := decide (x_7 < (x_1.length : Int))) h11 h (fun h => ?_) (fun h => ?_)))
    · refine .skip (.nsq (.seq (.block (rg (gm h3 fun h14 => gm h4 fun h15 => gm h0 fun h16 => gm h4 fun h17 => ?_)))))
      obtain ⟨e_11, E_e_11, h⟩ := bind_some h
      refine gv (.ref .sh 0 [] (eL e_11)) (ev_idx (t := .sh) (lo := 0) (xs := x_1) h16 h17 E_e_11 rfl rfl) fun h18 => ?_
      refine g1 18 (eL e_11) h18 fun h19 => ?_
      obtain ⟨r_12, E_r_12, h⟩ := bind_some h
      refine g_call (m := 0) (al := false) (r := (Enc.enc (r_12 : (List Int)))) [Enc.enc (e_11 : (List Int))] (ta_cons (v := (eL e_11)) h19 rfl (Enc.erase_enc (e_11 : (List Int))) ta_nil) (H.c18 _ _ E_r_12) H.g18 rfl rfl rfl rfl ?_
      obtain ⟨e_13, E_e_13, h⟩ := bind_some h
      refine gv (.ref (.at 3 []) x_7.toNat [] (eL e_13)) (ev_idxO (o := (.of x_6)) h14 h15 E_e_13 rfl) fun h21 => ?_
      refine g_store (eL r_12) (rd_of h21 rfl) (rd_of rfl rfl) (by refine ⟨by decide, by decide, rfl, rfl, rfl, ?_⟩; first | rfl | simp [V.toks, V.tokss, Enc.toks_enc]) ?_
      refine gz [(0, (Enc.enc (x_1 : List (List Int)))), (2, (.sl .nl (Enc.shp (List Int)) 0 [])), (3, _), (4, (ji x_7))] ⟨(keep_mut h0 (Enc.mut_enc _ _ _ _ (x_1 : List (List Int)))), (keep_mut h2 rfl), (keep_mut h3 mut_own), (keep_mut h4 rfl)⟩ ?_
      rintro s ⟨h0, h2, h3, h4⟩
      refine .nbk (.nsq (rg (gm h4 fun h12 => g1 12 (ji (w64 (x_7 + 1))) h12 fun h13 => ?_)))
      refine gm h13 fun h4 => gq (.nlp ?_)
      exact ih (x_6.set x_7.toNat r_12) (w64 (x_7 + 1)) _ ⟨h0, h2, h3, h4⟩ h
    refine .exit (.esq (.elp (.ebk (.nsq (.seq (rg (gm h3 fun h22 => gm h22 fun h2 => g_end ?_)))))))
    refine e_home (r := 3) (x := 2) (v := _) h2 rfl (fun s_3 hg_3 => ?_)
    refine ez [(2, (encO (.at 2 []) (.of (x_6 : List (List Int)))))] (hg_3 2 _ _ h2 (map_encO (r := 3) (p := []) rfl rfl)) ?_
    rintro s h2
    refine .nsq (.ret ?_)
    have hr := Option.some.inj h
    subst hr
    exact rrA (res_tmp h2) (fin_ret1 (fin_own (o := .of x_6)))
def w_toIntSS (F : Nat) (x_1 : (List (List Int))) : Option (List (List Int)) :=
  (mkN (x_1.length : Int) []).bind fun mk_2 =>
  w_toIntSS_l1 F x_1 F mk_2 0
theorem t27 (H : H27 D σ F) (x_1 : (List (List Int))) (s : Nat → V) (hs : Facts [(0, (Enc.enc (x_1 : List (List Int))))] s) (h : w_toIntSS F x_1 = some r) : Run D σ (R27 r) (.run A27 []) s := by
  unfold w_toIntSS at h
  have h0 := hs
  refine .seq (rg (g0 (.sl .nl (Enc.shp (List Int)) 0 []) fun h2 => ?_))
  refine gq (.nsq (.seq (run_reg ?_)))
  refine e_clr ?_
  refine ez [(0, _), (2, _), (7, _)] ⟨(keep_clear (pk := [7]) h0 rfl me), (keep_clear (pk := [7]) h2 rfl rfl), (gone_clear (pk := [7]) (t := 7) rfl)⟩ ?_
  rintro s ⟨h0, h2, h7⟩
  refine gm h0 fun h5 => gv (ji (x_1.length : Int)) (ev_len (xs := x_1) h5) fun h6 => ?_
  obtain ⟨mk_2, E_mk_2, h⟩ := bind_some h
  refine g_mk ([] : (List Int)) h6 rfl h7 E_mk_2 ?_
  refine gm (rfl : (_ : V) = (encO (.at 7 []) (.of (mk_2 : List (List Int))))) fun h3 => ?_
  refine g_end ?_
  refine e_home (r := 7) (x := 3) (v := _) h3 rfl (fun s_2 hg_2 => ?_)
  refine ez [(0, (Enc.enc (x_1 : List (List Int)))), (2, (.sl .nl (Enc.shp (List Int)) 0 [])), (3, (encO (.at 3 []) (.of (mk_2 : List (List Int)))))] ⟨(hg_2 0 _ _ h0 me), (hg_2 2 _ (.sl .nl (Enc.shp (List Int)) 0 []) h2 rfl), (hg_2 3 _ _ h3 (map_encO (r := 7) (p := []) rfl rfl))⟩ ?_
  rintro s ⟨h0, h2, h3⟩
  refine .nsq (.seq (.seq (rg (g0 (ji 0) fun h4 => gq (.nsq (.block (.loop ?_)))))))
  exact t_f27_l1 H x_1 F mk_2 0 _ ⟨h0, h2, h3, h4⟩ h
end
def e27 (F : Nat) : Ent := ent 27 (fun (x : ((List (List Int)) × Unit)) => w_toIntSS F x.1) (fun (r : (List (List Int))) => (Enc.enc (r : (List (List Int))))) 0 true []
theorem p27 {F : Nat} {x0 : (List (List Int))} {r : (List (List Int))} (h : w_toIntSS F x0 = some r) : (e27 F).den [Enc.enc x0] = some (Enc.enc (r : (List (List Int)))) := ent_put (x0, ()) h
theorem o27 {D : Den} {σ : Sig} {F : Nat} (hF : Fits2 Try.prog D σ) (H : H27 D σ F) : (e27 F).Ok Try.prog := by
  refine ok_of (f := 27) (show unk 27 = 27 from rfl) (fun args r h => ?_) ⟨Try.f27, Try.func27, rfl, rfl⟩
  obtain ⟨⟨x0, _⟩, y, rfl, hy, rfl⟩ := da_open h
  exact contract_run hF (by kernel_rfl) Try.func27 rfl c27 (show 1 ≤ Try.f27.ntmps by decide) (t27 H x0 _ rfl hy)
/- loop.example/g01109/spec.l1In -/
def A103_1 : AC := (.seq (.reg [] [(jm 7 0), (jm 8 1), ((jv 9 (.bin .geq (.t 7) (.t 8)))), (jm 10 9), ((jg 11 10 true (.mov (.t 0)))), ((jg 12 10 true (.mov (.t 2)))), ((jg 13 10 true (.bin .leq (.t 11) (.t 12)))), ((jv 14 (.pick (.t 10) (.t 13) (.k (.bool false))))), (jm 6 14)] []) .ret)
def A103 : AC := (.seq (.reg [] [((jv 6 (.mov (.k (.bool false)))))] []) A103_1)
def an103 : List An := []
theorem c103 : cC Try.prog Try.f103.ntmps an103 (Try.f103.body.getD .skip) = some A103 := by kernel_rfl
structure H103 (D : Den) (σ : Sig) (F : Nat) : Prop where
  mk ::
abbrev R103 (r : Bool) : (Nat → V) → Prop := RR Try.prog [.tmp 6] 0 false (Enc.enc (r : Bool))
section
variable {D : Den} {σ : Sig} {F : Nat} {r : Bool}
def s_l1In (F : Nat) (x_1 : Int) (x_2 : Int) (x_3 : Int) : Option Bool :=
  bif decide (x_1 ≥ x_2) then
    some (decide (x_1 ≤ x_3))
  else
    some false
theorem t103 (H : H103 D σ F) (x_1 : Int) (x_2 : Int) (x_3 : Int) (s : Nat → V) (hs : Facts [(0, (ji x_1)), (1, (ji x_2)), (2, (ji x_3))] s) (h : s_l1In F x_1 x_2 x_3 = some r) : Run D σ (R103 r) (.run A103 []) s := by
  unfold s_l1In at h
  obtain ⟨h0, h1, h2⟩ := hs
  refine .seq (rg (g0 (jb false) fun h6 => ?_))
  refine gq (.nsq (.seq (rg (gm h0 fun h7 => gm h1 fun h8 => g2 7 8 (jb (decide (x_1 ≥ x_2))) h7 h8 fun h9 => ?_))))
  refine gm h9 fun h10 => split_on (c := decide (x_1 ≥ x_2)) h (fun hg4 h => ?_) (fun hg4 h => ?_)
  · refine g_yes (h10.trans (congrArg V.bool hg4)) (gm h0 fun h11 => ?_)
    refine g_yes (h10.trans (congrArg V.bool hg4)) (gm h2 fun h12 => ?_)
    refine g_yes (h10.trans (congrArg V.bool hg4)) (g2 11 12 (jb (decide (x_1 ≤ x_3))) h11 h12 fun h13 => ?_)
    refine g2 10 13 (jb (decide (x_1 ≤ x_3))) (h10.trans (congrArg V.bool hg4)) h13 fun h14 => ?_
    refine gm h14 fun h6 => gq (.nsq (.ret ?_))
    have hr := Option.some.inj h
    subst hr
    exact rrA (res_tmp h6) rfl
  refine g_no (h10.trans (congrArg V.bool hg4)) ?_
  refine g_no (h10.trans (congrArg V.bool hg4)) ?_
  refine g_no (h10.trans (congrArg V.bool hg4)) ?_
  refine g2 10 13 (jb false) (h10.trans (congrArg V.bool hg4)) (rfl : (_ : V) = (.tup [])) fun h14 => ?_
  refine gm h14 fun h6 => gq (.nsq (.ret ?_))
  have hr := Option.some.inj h
  subst hr
  exact rrA (res_tmp h6) rfl
end
def e103 (F : Nat) : Ent := ent 103 (fun (x : (Int × Int × Int × Unit)) => s_l1In F x.1 x.2.1 x.2.2.1) (fun (r : Bool) => (Enc.enc (r : Bool))) 0 false []
theorem p103 {F : Nat} {x0 : Int} {x1 : Int} {x2 : Int} {r : Bool} (h : s_l1In F x0 x1 x2 = some r) : (e103 F).den [Enc.enc x0, Enc.enc x1, Enc.enc x2] = some (Enc.enc (r : Bool)) := ent_put (x0, x1, x2, ()) h
theorem o103 {D : Den} {σ : Sig} {F : Nat} (hF : Fits2 Try.prog D σ) (H : H103 D σ F) : (e103 F).Ok Try.prog := by
  refine ok_of (f := 103) (show unk 103 = 103 from rfl) (fun args r h => ?_) ⟨Try.f103, Try.func103, rfl, rfl⟩
  obtain ⟨⟨x0, x1, x2, _⟩, y, rfl, hy, rfl⟩ := da_open h
  exact contract_run hF (by kernel_rfl) Try.func103 rfl c103 (show 3 ≤ Try.f103.ntmps by decide) (t103 H x0 x1 x2 _ ⟨rfl, rfl, rfl⟩ hy)
/- loop.example/g01109/spec.l2Before -/
def A130_1 : AC := (.seq (.reg [] [((jv 5 (.idxA (.t 2) (jn 0) 2 1))), ((jv 6 (.load .s (.t 5)))), ((jv 7 (.idxA (.t 3) (jn 0) 2 1))), ((jv 8 (.load .s (.t 7)))), ((jv 9 (.bin .lss (.t 6) (.t 8)))), (jm 10 9), ((jg 11 10 false (.idxA (.t 2) (jn 0) 2 1))), ((jg 12 10 false (.load .s (.t 11)))), ((jg 13 10 false (.idxA (.t 3) (jn 0) 2 1))), ((jg 14 10 false (.load .s (.t 13)))), ((jg 15 10 false (.bin .eql (.t 12) (.t 14)))), ((jg 16 10 false (.mov (.t 15)))), ((jg 17 16 true (.idxA (.t 2) (jn 1) 2 1))), ((jg 18 16 true (.load .s (.t 17)))), ((jg 19 16 true (.idxA (.t 3) (jn 1) 2 1))), ((jg 20 16 true (.load .s (.t 19)))), ((jg 21 16 true (.bin .lss (.t 18) (.t 20)))), ((jg 22 10 false (.pick (.t 16) (.t 21) (.k (.bool false))))), ((jv 23 (.pick (.t 10) (.k (.bool true)) (.t 22)))), (jm 4 23)] []) .ret)
def A130 : AC := (.seq (.reg [.clr [2, 3]] [(.mk (some 2) none false (.box (.t 0))), (.mk (some 3) none false (.box (.t 1))), ((jv 4 (.mov (.k (.bool false)))))] []) A130_1)
def an130 : List An := [{ id := 0, pre := [.clr [2, 3]], ep := [], lin := [], sp := [] }]
theorem c130 : cC Try.prog Try.f130.ntmps an130 (Try.f130.body.getD .skip) = some A130 := by kernel_rfl
structure H130 (D : Den) (σ : Sig) (F : Nat) : Prop where
  mk ::
abbrev R130 (r : Bool) : (Nat → V) → Prop := RR Try.prog [.tmp 4] 0 false (Enc.enc (r : Bool))
section
variable {D : Den} {σ : Sig} {F : Nat} {r : Bool}
def s_l2Before (F : Nat) (x_1 : (Int × Int)) (x_2 : (Int × Int)) : Option Bool :=
  bif decide (x_1.1 < x_2.1) then
    some true
  else
    bif (x_1.1 == x_2.1) then
      some (decide (x_1.2 < x_2.2))
    else
      some false
theorem t130 (H : H130 D σ F) (x_1 : (Int × Int)) (x_2 : (Int × Int)) (s : Nat → V) (hs : Facts [(0, (.agg [(ji x_1.1), (ji x_1.2)])), (1, (.agg [(ji x_2.1), (ji x_2.2)]))] s) (h : s_l2Before F x_1 x_2 = some r) : Run D σ (R130 r) (.run A130 []) s := by
  unfold s_l2Before at h
  obtain ⟨h0, h1⟩ := hs
  refine .seq (run_reg ?_)
  refine e_clr ?_
  refine ez [(0, _), (1, _), (2, _), (3, _)] ⟨(keep_clear (pk := [2, 3]) h0 rfl (map_agg (maps_cons mi (maps_cons mi maps_nil)))), (keep_clear (pk := [2, 3]) h1 rfl (map_agg (maps_cons mi (maps_cons mi maps_nil)))), (gone_clear (pk := [2, 3]) (t := 2) rfl), (gone_clear (pk := [2, 3]) (t := 3) rfl)⟩ ?_
  rintro s ⟨h0, h1, h2, h3⟩
  refine g_box (.agg [(ji x_1.1), (ji x_1.2)]) (rd_of h0 rfl) h2 rfl ?_
  refine g_box (.agg [(ji x_2.1), (ji x_2.2)]) (rd_of h1 rfl) h3 rfl ?_
  refine g0 (jb false) fun h4 => ?_
  refine gq (.nsq (.seq (rg (g1 2 (.ref (.bx 2) 0 [0] (ji x_1.1)) (rfl : (_ : V) = (.ref (.bx 2) 0 [] (.agg [(ji x_1.1), (ji x_1.2)]))) fun h5 => ?_))))
  refine g1 5 (ji x_1.1) h5 fun h6 => ?_
  refine g1 3 (.ref (.bx 3) 0 [0] (ji x_2.1)) (rfl : (_ : V) = (.ref (.bx 3) 0 [] (.agg [(ji x_2.1), (ji x_2.2)]))) fun h7 => ?_
  refine g1 7 (ji x_2.1) h7 fun h8 => ?_
  refine g2 6 8 (jb (decide (x_1.1 < x_2.1))) h6 h8 fun h9 => ?_
  refine gm h9 fun h10 => split_on (c := decide (x_1.1 < x_2.1)) h (fun hg6 h => ?_) (fun hg6 h => ?_)
  · refine g_no (h10.trans (congrArg V.bool hg6)) ?_
    refine g_no (h10.trans (congrArg V.bool hg6)) ?_
    refine g_no (h10.trans (congrArg V.bool hg6)) ?_
    refine g_no (h10.trans (congrArg V.bool hg6)) ?_
    refine g_no (h10.trans (congrArg V.bool hg6)) ?_
    refine g_no (h10.trans (congrArg V.bool hg6)) ?_
    refine g_skip rfl ?_
    refine g_skip rfl ?_
    refine g_skip rfl ?_
    refine g_skip rfl ?_
    refine g_skip rfl ?_
    refine g_no (h10.trans (congrArg V.bool hg6)) ?_
    refine g2 10 22 (jb true) (h10.trans (congrArg V.bool hg6)) (rfl : (_ : V) = (.tup [])) fun h23 => ?_
    refine gm h23 fun h4 => gq (.nsq (.ret ?_))
    have hr := Option.some.inj h
    subst hr
    exact rrA (res_tmp h4) rfl
  refine g_yes (h10.trans (congrArg V.bool hg6)) (g1 2 (.ref (.bx 2) 0 [0] (ji x_1.1)) (rfl : (_ : V) = (.ref (.bx 2) 0 [] (.agg [(ji x_1.1), (ji x_1.2)]))) fun h11 => ?_)
  refine g_yes (h10.trans (congrArg V.bool hg6)) (g1 11 (ji x_1.1) h11 fun h12 => ?_)
  refine g_yes (h10.trans (congrArg V.bool hg6)) (g1 3 (.ref (.bx 3) 0 [0] (ji x_2.1)) (rfl : (_ : V) = (.ref (.bx 3) 0 [] (.agg [(ji x_2.1), (ji x_2.2)]))) fun h13 => ?_)
  refine g_yes (h10.trans (congrArg V.bool hg6)) (g1 13 (ji x_2.1) h13 fun h14 => ?_)
  refine g_yes (h10.trans (congrArg V.bool hg6)) (g2 12 14 (jb (x_1.1 == x_2.1)) h12 h14 fun h15 => ?_)
  refine g_yes (h10.trans (congrArg V.bool hg6)) (gm h15 fun h16 => ?_)
  refine split_on (c := (x_1.1 == x_2.1)) h (fun hg12 h => ?_) (fun hg12 h => ?_)
  · refine g_yes (h16.trans (congrArg V.bool hg12)) (g1 2 (.ref (.bx 2) 0 [1] (ji x_1.2)) (rfl : (_ : V) = (.ref (.bx 2) 0 [] (.agg [(ji x_1.1), (ji x_1.2)]))) fun h17 => ?_)
    refine g_yes (h16.trans (congrArg V.bool hg12)) (g1 17 (ji x_1.2) h17 fun h18 => ?_)
    refine g_yes (h16.trans (congrArg V.bool hg12)) (g1 3 (.ref (.bx 3) 0 [1] (ji x_2.2)) (rfl : (_ : V) = (.ref (.bx 3) 0 [] (.agg [(ji x_2.1), (ji x_2.2)]))) fun h19 => ?_)
    refine g_yes (h16.trans (congrArg V.bool hg12)) (g1 19 (ji x_2.2) h19 fun h20 => ?_)
    refine g_yes (h16.trans (congrArg V.bool hg12)) (g2 18 20 (jb (decide (x_1.2 < x_2.2))) h18 h20 fun h21 => ?_)
    refine g_yes (h10.trans (congrArg V.bool hg6)) (g2 16 21 (jb (decide (x_1.2 < x_2.2))) (h16.trans (congrArg V.bool hg12)) h21 fun h22 => ?_)
    refine g2 10 22 (jb (decide (x_1.2 < x_2.2))) (h10.trans (congrArg V.bool hg6)) h22 fun h23 => ?_
    refine gm h23 fun h4 => gq (.nsq (.ret ?_))
    have hr := Option.some.inj h
    subst hr
    exact rrA (res_tmp h4) rfl
  refine g_no (h16.trans (congrArg V.bool hg12)) ?_
  refine g_no (h16.trans (congrArg V.bool hg12)) ?_
  refine g_no (h16.trans (congrArg V.bool hg12)) ?_
  refine g_no (h16.trans (congrArg V.bool hg12)) ?_
  refine g_no (h16.trans (congrArg V.bool hg12)) ?_
  refine g_yes (h10.trans (congrArg V.bool hg6)) (g2 16 21 (jb false) (h16.trans (congrArg V.bool hg12)) (rfl : (_ : V) = (.tup [])) fun h22 => ?_)
  refine g2 10 22 (jb false) (h10.trans (congrArg V.bool hg6)) h22 fun h23 => ?_
  refine gm h23 fun h4 => gq (.nsq (.ret ?_))
  have hr := Option.some.inj h
  subst hr
  exact rrA (res_tmp h4) rfl
end
def e130 (F : Nat) : Ent := ent 130 (fun (x : ((Int × Int) × (Int × Int) × Unit)) => s_l2Before F x.1 x.2.1) (fun (r : Bool) => (Enc.enc (r : Bool))) 0 false []
theorem p130 {F : Nat} {x0 : (Int × Int)} {x1 : (Int × Int)} {r : Bool} (h : s_l2Before F x0 x1 = some r) : (e130 F).den [Enc.enc x0, Enc.enc x1] = some (Enc.enc (r : Bool)) := ent_put (x0, x1, ()) h
theorem o130 {D : Den} {σ : Sig} {F : Nat} (hF : Fits2 Try.prog D σ) (H : H130 D σ F) : (e130 F).Ok Try.prog := by
  refine ok_of (f := 130) (show unk 130 = 130 from rfl) (fun args r h => ?_) ⟨Try.f130, Try.func130, rfl, rfl⟩
  obtain ⟨⟨x0, x1, _⟩, y, rfl, hy, rfl⟩ := da_open h
  exact contract_run hF (by kernel_rfl) Try.func130 rfl c130 (show 2 ≤ Try.f130.ntmps by decide) (t130 H x0 x1 _ ⟨rfl, rfl⟩ hy)
/- loop.example/g01109/spec.l2Good -/
def A72_2 : AC := (.cond (.t 9) .skip (.exit 0))
def A72_5 : AC := (.cond (.t 54) (.seq (.reg [] [((jv 2 (.mov (.k (.bool false)))))] []) .ret) .skip)
def A72_4 : AC := (.seq (.reg [] [((jv 17 (.idxA (.t 4) (jn 0) 2 1))), ((jv 18 (.load .s (.t 17)))), ((jv 19 (.fld (.t 1) 0 0))), ((jv 20 (.load .s (.t 19)))), ((jv 21 (.bin .sub (.t 20) (jn 1)))), (.mk (some 22) none false (.call (.k (.fn 103 [] [])) [(.t 18), (jn 0), (.t 21)])), ((jv 23 (.un .not (.t 22)))), (jm 24 23), ((jg 25 24 false (.idxA (.t 4) (jn 1) 2 1))), ((jg 26 24 false (.load .s (.t 25)))), ((jg 27 24 false (.fld (.t 1) 0 0))), ((jg 28 24 false (.load .s (.t 27)))), ((jg 29 24 false (.bin .sub (.t 28) (jn 1)))), (.mk (some 30) (some (24, false)) false (.call (.k (.fn 103 [] [])) [(.t 26), (jn 0), (.t 29)])), ((jg 31 24 false (.un .not (.t 30)))), ((jv 32 (.pick (.t 24) (.k (.bool true)) (.t 31)))), (jm 33 32), ((jg 34 33 false (.idxA (.t 4) (jn 0) 2 1))), ((jg 35 33 false (.load .s (.t 34)))), ((jg 36 33 false (.idxA (.t 4) (jn 1) 2 1))), ((jg 37 33 false (.load .s (.t 36)))), ((jg 38 33 false (.bin .geq (.t 35) (.t 37)))), ((jv 39 (.pick (.t 33) (.k (.bool true)) (.t 38)))), (jm 40 39), ((jg 41 40 false (.mov (.t 3)))), ((jg 42 40 false (.bin .gtr (.t 41) (jn 0)))), ((jg 43 40 false (.mov (.t 42)))), ((jg 44 43 true (.fld (.t 1) 1 1))), ((jg 45 43 true (.load .p (.t 44)))), ((jg 46 43 true (.mov (.t 3)))), ((jg 47 43 true (.bin .sub (.t 46) (jn 1)))), ((jg 48 43 true (.idx (.t 45) (.t 47) 2))), ((jg 49 43 true (.load (.ag [.s, .s]) (.t 48)))), ((jg 50 43 true (.load (.ag [.s, .s]) (.t 4)))), (.mk (some 51) (some (43, true)) false (.call (.k (.fn 130 [] [])) [(.t 49), (.t 50)])), ((jg 52 43 true (.un .not (.t 51)))), ((jg 53 40 false (.pick (.t 43) (.t 52) (.k (.bool false))))), ((jv 54 (.pick (.t 40) (.k (.bool true)) (.t 53))))] []) A72_5)
def A72_6 : AC := (.reg [] [(jm 10 3), ((jv 11 (.bin .add (.t 10) (jn 1)))), (jm 3 11)] [])
def A72_3 : AC := (.seq (.block 1 (.seq (.reg [.clr [4]] [((jv 12 (.fld (.t 1) 1 1))), ((jv 13 (.load .p (.t 12)))), (jm 14 3), ((jv 15 (.idx (.t 13) (.t 14) 2))), ((jv 16 (.load (.ag [.s, .s]) (.t 15)))), (.mk (some 4) none false (.alloc (.agg [(.int .i64 (.ofNat 0)), (.int .i64 (.ofNat 0))]))), (.mk none none false (.store (.ag [.s, .s]) (.t 4) (.t 16)))] []) A72_4)) A72_6)
def A72_1 : AC := (.seq (.seq (.reg [] [(jm 5 3), ((jv 6 (.fld (.t 1) 1 1))), ((jv 7 (.load .p (.t 6)))), ((jv 8 (.len (.t 7)))), ((jv 9 (.bin .lss (.t 5) (.t 8))))] []) A72_2) A72_3)
def A72_7 : AC := (.seq (.reg [] [((jv 55 (.fld (.t 1) 0 0))), ((jv 56 (.load .s (.t 55)))), (.mk (some 57) none false (.call (.k (.fn 103 [] [])) [(.t 56), (jn 0), (jn 8)])), (jm 2 57)] []) .ret)
def A72_9 : AC := (.block 0 (.loop A72_1))
def A72_8 : AC := (.seq (.seq (.reg [] [((jv 3 (.mov (jn 0))))] []) A72_9) A72_7)
def A72 : AC := (.seq (.reg [.clr [1]] [(.mk (some 1) none false (.box (.t 0))), ((jv 2 (.mov (.k (.bool false)))))] []) A72_8)
def an72 : List An := [{ id := 0, pre := [.clr [1]], ep := [], lin := [], sp := [] }, { id := 4, pre := [.clr [4]], ep := [], lin := [], sp := [] }]
theorem c72 : cC Try.prog Try.f72.ntmps an72 (Try.f72.body.getD .skip) = some A72 := by kernel_rfl
structure H72 (D : Den) (σ : Sig) (F : Nat) : Prop where
  c103 : ∀ (x0 : Int) (x1 : Int) (x2 : Int) r, s_l1In F x0 x1 x2 = some r → D 103 [Enc.enc x0, Enc.enc x1, Enc.enc x2] = some (Enc.enc (r : Bool))
  g103 : σ 103 = some (0, false)
  c130 : ∀ (x0 : (Int × Int)) (x1 : (Int × Int)) r, s_l2Before F x0 x1 = some r → D 130 [Enc.enc x0, Enc.enc x1] = some (Enc.enc (r : Bool))
  g130 : σ 130 = some (0, false)
abbrev R72 (r : Bool) : (Nat → V) → Prop := RR Try.prog [.tmp 2] 0 false (Enc.enc (r : Bool))
section
variable {D : Den} {σ : Sig} {F : Nat} {r : Bool}
def s_l2Good_j1 (F : Nat) (x_1 : (Int × (List (Int × Int)))) (x_12 : Int) (c1 : Int → Option Bool) (x_28 : Bool) : Option Bool :=
  bif x_28 then
    some false
  else
    c1 (w64 (x_12 + 1))
theorem t_f72_j1 (H : H72 D σ F) (x_1 : (Int × (List (Int × Int)))) (x_12 : Int) (c1 : Int → Option Bool) (Hc1 : ∀ (x_12 : Int) (s : Nat → V), Facts [(1, (.ref (.bx 1) 0 [] (.agg [(ji x_1.1), (Enc.enc (x_1.2 : List (Int × Int)))]))), (2, (jb false)), (3, (ji x_12))] s → c1 x_12 = some r → Run D σ (R72 r) (.run A72_1 [.lp A72_1, .bk 0, .sq A72_7]) s) (x_28 : Bool) (s : Nat → V) (hs : Facts [(1, (.ref (.bx 1) 0 [] (.agg [(ji x_1.1), (Enc.enc (x_1.2 : List (Int × Int)))]))), (2, (jb false)), (3, (ji x_12)), (54, (jb x_28))] s) (h : s_l2Good_j1 F x_1 x_12 c1 x_28 = some r) : Run D σ (R72 r) (.nrm [.sq A72_5, .bk 1, .sq A72_6, .lp A72_1, .bk 0, .sq A72_7]) s := by
  unfold s_l2Good_j1 at h
  obtain ⟨h1, h2, h3, h54⟩ := hs
  refine .nsq (run_cond (t := x_28) h54 h (fun h => ?_) (fun h => ?_))
  · refine .seq (rg (g0 (jb false) fun h2 => ?_))
    refine gq (.nsq (.ret ?_))
    have hr := Option.some.inj h
    subst hr
    exact rrA (res_tmp h2) rfl
  refine .skip (.nbk (.nsq (rg (gm h3 fun h10 => g1 10 (ji (w64 (x_12 + 1))) h10 fun h11 => ?_))))
  refine gm h11 fun h3 => gq (.nlp ?_)
  exact Hc1 (w64 (x_12 + 1)) _ ⟨h1, h2, h3⟩ h
def s_l2Good_l1 (F : Nat) (x_1 : (Int × (List (Int × Int))))  : Nat → Int → Option Bool
  | 0, _ => none
  | k + 1, x_12 =>
    bif decide (x_12 < (x_1.2.length : Int)) then
      (idx x_1.2 x_12).bind fun e_23 =>
      (s_l1In F e_23.1 0 (w64 (x_1.1 - 1))).bind fun r_29 =>
      bif (!r_29) then
        s_l2Good_j1 F x_1 x_12 (s_l2Good_l1 F x_1 k) true
      else
        (s_l1In F e_23.2 0 (w64 (x_1.1 - 1))).bind fun r_30 =>
        bif (!r_30) then
          s_l2Good_j1 F x_1 x_12 (s_l2Good_l1 F x_1 k) true
        else
          bif decide (e_23.1 ≥ e_23.2) then
            s_l2Good_j1 F x_1 x_12 (s_l2Good_l1 F x_1 k) true
          else
            bif decide (x_12 > 0) then
              (idx x_1.2 (w64 (x_12 - 1))).bind fun e_31 =>
              (s_l2Before F e_31 e_23).bind fun r_32 =>
              s_l2Good_j1 F x_1 x_12 (s_l2Good_l1 F x_1 k) (!r_32)
            else
              s_l2Good_j1 F x_1 x_12 (s_l2Good_l1 F x_1 k) false
    else
      (s_l1In F x_1.1 0 8).bind fun r_33 =>
      some r_33
theorem t_f72_l1 (H : H72 D σ F) (x_1 : (Int × (List (Int × Int))))  : ∀ (k : Nat) (x_12 : Int) (s : Nat → V), Facts [(1, (.ref (.bx 1) 0 [] (.agg [(ji x_1.1), (Enc.enc (x_1.2 : List (Int × Int)))]))), (2, (jb false)), (3, (ji x_12))] s → s_l2Good_l1 F x_1 k x_12 = some r → Run D σ (R72 r) (.run A72_1 [.lp A72_1, .bk 0, .sq A72_7]) s := by
  intro k
  induction k with
  | zero => intro x_12 s _ h; exact nomatch (h : (none : Option _) = some r)
  | succ k ih =>
    intro x_12 s hs h
    rw [s_l2Good_l1] at h
    obtain ⟨h1, h2, h3⟩ := hs
    refine .seq (.seq (rg (gm h3 fun h5 => g1 1 (.ref (.bx 1) 0 [1] (Enc.enc (x_1.2 : List (Int × Int)))) h1 fun h6 => ?_)))
    refine g1 6 (Enc.enc (x_1.2 : List (Int × Int))) h6 fun h7 => ?_
    refine gv (ji (x_1.2.length : Int)) (ev_len (xs := x_1.2) h7) fun h8 => ?_
    refine g2 5 8 (jb (decide (x_12 < (x_1.2.length : Int)))) h5 h8 fun h9 => ?_
    refine gq (.nsq (run_cond (t := decide (x_12 < (x_1.2.length : Int))) h9 h (fun h => ?_) (fun h => ?_)))
    · refine .skip (.nsq (.seq (.block (.seq (run_reg ?_)))))
      refine e_clr ?_
      refine ez [(1, _), (2, _), (3, _), (4, _)] ⟨(keep_clear (pk := [4]) h1 rfl (map_bx rfl (map_agg (maps_cons mi (maps_cons me maps_nil))))), (keep_clear (pk := [4]) h2 rfl mb), (keep_clear (pk := [4]) h3 rfl mi), (gone_clear (pk := [4]) (t := 4) rfl)⟩ ?_
      rintro s ⟨h1, h2, h3, h4⟩
      refine g1 1 (.ref (.bx 1) 0 [1] (Enc.enc (x_1.2 : List (Int × Int)))) h1 fun h12 => ?_
      refine g1 12 (Enc.enc (x_1.2 : List (Int × Int))) h12 fun h13 => ?_
      refine gm h3 fun h14 => ?_
      obtain ⟨e_23, E_e_23, h⟩ := bind_some h
      refine gv (.ref .sh 0 [] (.agg [(ji e_23.1), (ji e_23.2)])) (ev_idx (t := .sh) (lo := 0) (xs := x_1.2) h13 h14 E_e_23 rfl rfl) fun h15 => ?_
      refine g1 15 (.agg [(ji e_23.1), (ji e_23.2)]) h15 fun h16 => ?_
      refine g_alloc h4 ?_
      refine g_store (.agg [(ji e_23.1), (ji e_23.2)]) (rd_of rfl rfl) (rd_of h16 rfl) (by refine ⟨by decide, by decide, rfl, rfl, rfl, ?_⟩; first | rfl | simp [V.toks, V.tokss, Enc.toks_enc]) ?_
      refine gz [(1, (.ref (.bx 1) 0 [] (.agg [(ji x_1.1), (Enc.enc (x_1.2 : List (Int × Int)))]))), (2, (jb false)), (3, (ji x_12)), (4, (.ref (.bx 4) 0 [] (.agg [(ji e_23.1), (ji e_23.2)])))] ⟨(keep_mut h1 (mut_ref_ne rfl rfl (mut_agg (muts_cons rfl (muts_cons (Enc.mut_enc _ _ _ _ (x_1.2 : List (Int × Int))) rfl))))), (keep_mut h2 rfl), (keep_mut h3 rfl), (keep_mut rfl rfl)⟩ ?_
      rintro s ⟨h1, h2, h3, h4⟩
      refine .nsq (.seq (rg (g1 4 (.ref (.bx 4) 0 [0] (ji e_23.1)) h4 fun h17 => ?_)))
      refine g1 17 (ji e_23.1) h17 fun h18 => ?_
      refine g1 1 (.ref (.bx 1) 0 [0] (ji x_1.1)) h1 fun h19 => ?_
      refine g1 19 (ji x_1.1) h19 fun h20 => ?_
      refine g1 20 (ji (w64 (x_1.1 - 1))) h20 fun h21 => ?_
      obtain ⟨r_29, E_r_29, h⟩ := bind_some h
      refine g_call (m := 0) (al := false) (r := (Enc.enc (r_29 : Bool))) [Enc.enc (e_23.1 : Int), Enc.enc (0 : Int), Enc.enc (w64 (x_1.1 - 1) : Int)] (ta_cons (v := (ji e_23.1)) h18 rfl rfl (ta_cons (v := (ji 0)) rfl rfl rfl (ta_cons (v := (ji (w64 (x_1.1 - 1)))) h21 rfl rfl ta_nil))) (H.c103 _ _ _ _ E_r_29) H.g103 rfl rfl rfl rfl ?_
      refine g1 22 (jb (!r_29)) (rfl : (_ : V) = (jb r_29)) fun h23 => ?_
      refine gm h23 fun h24 => split_on (c := (!r_29)) h (fun hg8 h => ?_) (fun hg8 h => ?_)
      · refine g_no (h24.trans (congrArg V.bool hg8)) ?_
        refine g_no (h24.trans (congrArg V.bool hg8)) ?_
        refine g_no (h24.trans (congrArg V.bool hg8)) ?_
        refine g_no (h24.trans (congrArg V.bool hg8)) ?_
        refine g_no (h24.trans (congrArg V.bool hg8)) ?_
        refine g_no (h24.trans (congrArg V.bool hg8)) ?_
        refine g_no (h24.trans (congrArg V.bool hg8)) ?_
        refine g2 24 31 (jb true) (h24.trans (congrArg V.bool hg8)) (rfl : (_ : V) = (.tup [])) fun h32 => ?_
        refine gm h32 fun h33 => g_no h33 ?_
        refine g_no h33 ?_
        refine g_no h33 ?_
        refine g_no h33 ?_
        refine g_no h33 ?_
        refine g2 33 38 (jb true) h33 (rfl : (_ : V) = (.tup [])) fun h39 => ?_
        refine gm h39 fun h40 => g_no h40 ?_
        refine g_no h40 ?_
        refine g_no h40 ?_
        refine g_skip rfl ?_
        refine g_skip rfl ?_
        refine g_skip rfl ?_
        refine g_skip rfl ?_
        refine g_skip rfl ?_
        refine g_skip rfl ?_
        refine g_skip rfl ?_
        refine g_skip rfl ?_
        refine g_skip rfl ?_
        refine g_no h40 ?_
        refine g2 40 53 (jb true) h40 (rfl : (_ : V) = (.tup [])) fun h54 => ?_
        refine gz [(1, _), (2, _), (3, _), (54, _)] ⟨h1, h2, h3, h54⟩ ?_
        rintro s ⟨h1, h2, h3, h54⟩
        exact t_f72_j1 H x_1 x_12 (s_l2Good_l1 F x_1 k) ih true _ ⟨h1, h2, h3, h54⟩ h
      refine g_yes (h24.trans (congrArg V.bool hg8)) (g1 4 (.ref (.bx 4) 0 [1] (ji e_23.2)) h4 fun h25 => ?_)
      refine g_yes (h24.trans (congrArg V.bool hg8)) (g1 25 (ji e_23.2) h25 fun h26 => ?_)
      refine g_yes (h24.trans (congrArg V.bool hg8)) (g1 1 (.ref (.bx 1) 0 [0] (ji x_1.1)) h1 fun h27 => ?_)
      refine g_yes (h24.trans (congrArg V.bool hg8)) (g1 27 (ji x_1.1) h27 fun h28 => ?_)
      refine g_yes (h24.trans (congrArg V.bool hg8)) (g1 28 (ji (w64 (x_1.1 - 1))) h28 fun h29 => ?_)
      obtain ⟨r_30, E_r_30, h⟩ := bind_some h
      refine g_yes (h24.trans (congrArg V.bool hg8)) (g_call (m := 0) (al := false) (r := (Enc.enc (r_30 : Bool))) [Enc.enc (e_23.2 : Int), Enc.enc (0 : Int), Enc.enc (w64 (x_1.1 - 1) : Int)] (ta_cons (v := (ji e_23.2)) h26 rfl rfl (ta_cons (v := (ji 0)) rfl rfl rfl (ta_cons (v := (ji (w64 (x_1.1 - 1)))) h29 rfl rfl ta_nil))) (H.c103 _ _ _ _ E_r_30) H.g103 rfl rfl rfl rfl ?_)
      refine g_yes (h24.trans (congrArg V.bool hg8)) (g1 30 (jb (!r_30)) (rfl : (_ : V) = (jb r_30)) fun h31 => ?_)
      refine g2 24 31 (jb (!r_30)) (h24.trans (congrArg V.bool hg8)) h31 fun h32 => ?_
      refine gm h32 fun h33 => split_on (c := (!r_30)) h (fun hg17 h => ?_) (fun hg17 h => ?_)
      · refine g_no (h33.trans (congrArg V.bool hg17)) ?_
        refine g_no (h33.trans (congrArg V.bool hg17)) ?_
        refine g_no (h33.trans (congrArg V.bool hg17)) ?_
        refine g_no (h33.trans (congrArg V.bool hg17)) ?_
        refine g_no (h33.trans (congrArg V.bool hg17)) ?_
        refine g2 33 38 (jb true) (h33.trans (congrArg V.bool hg17)) (rfl : (_ : V) = (.tup [])) fun h39 => ?_
        refine gm h39 fun h40 => g_no h40 ?_
        refine g_no h40 ?_
        refine g_no h40 ?_
        refine g_skip rfl ?_
        refine g_skip rfl ?_
        refine g_skip rfl ?_
        refine g_skip rfl ?_
        refine g_skip rfl ?_
        refine g_skip rfl ?_
        refine g_skip rfl ?_
        refine g_skip rfl ?_
        refine g_skip rfl ?_
        refine g_no h40 ?_
        refine g2 40 53 (jb true) h40 (rfl : (_ : V) = (.tup [])) fun h54 => ?_
        refine gz [(1, _), (2, _), (3, _), (54, _)] ⟨h1, h2, h3, h54⟩ ?_
        rintro s ⟨h1, h2, h3, h54⟩
        exact t_f72_j1 H x_1 x_12 (s_l2Good_l1 F x_1 k) ih true _ ⟨h1, h2, h3, h54⟩ h
      refine g_yes (h33.trans (congrArg V.bool hg17)) (g1 4 (.ref (.bx 4) 0 [0] (ji e_23.1)) h4 fun h34 => ?_)
      refine g_yes (h33.trans (congrArg V.bool hg17)) (g1 34 (ji e_23.1) h34 fun h35 => ?_)
      refine g_yes (h33.trans (congrArg V.bool hg17)) (g1 4 (.ref (.bx 4) 0 [1] (ji e_23.2)) h4 fun h36 => ?_)
      refine g_yes (h33.trans (congrArg V.bool hg17)) (g1 36 (ji e_23.2) h36 fun h37 => ?_)
      refine g_yes (h33.trans (congrArg V.bool hg17)) (g2 35 37 (jb (decide (e_23.1 ≥ e_23.2))) h35 h37 fun h38 => ?_)
      refine g2 33 38 (jb (decide (e_23.1 ≥ e_23.2))) (h33.trans (congrArg V.bool hg17)) h38 fun h39 => ?_
      refine gm h39 fun h40 => split_on (c := decide (e_23.1 ≥ e_23.2)) h (fun hg24 h => ?_) (fun hg24 h => ?_)
      · refine g_no (h40.trans (congrArg V.bool hg24)) ?_
        refine g_no (h40.trans (congrArg V.bool hg24)) ?_
        refine g_no (h40.trans (congrArg V.bool hg24)) ?_
        refine g_skip rfl ?_
        refine g_skip rfl ?_
        refine g_skip rfl ?_
        refine g_skip rfl ?_
        refine g_skip rfl ?_
        refine g_skip rfl ?_
        refine g_skip rfl ?_
        refine g_skip rfl ?_
        refine g_skip rfl ?_
        refine g_no (h40.trans (congrArg V.bool hg24)) ?_
        refine g2 40 53 (jb true) (h40.trans (congrArg V.bool hg24)) (rfl : (_ : V) = (.tup [])) fun h54 => ?_
        refine gz [(1, _), (2, _), (3, _), (54, _)] ⟨h1, h2, h3, h54⟩ ?_
        rintro s ⟨h1, h2, h3, h54⟩
        exact t_f72_j1 H x_1 x_12 (s_l2Good_l1 F x_1 k) ih true _ ⟨h1, h2, h3, h54⟩ h
      refine g_yes (h40.trans (congrArg V.bool hg24)) (gm h3 fun h41 => ?_)
      refine g_yes (h40.trans (congrArg V.bool hg24)) (g1 41 (jb (decide (x_12 > 0))) h41 fun h42 => ?_)
      refine g_yes (h40.trans (congrArg V.bool hg24)) (gm h42 fun h43 => ?_)
      refine split_on (c := decide (x_12 > 0)) h (fun hg27 h => ?_) (fun hg27 h => ?_)
      · refine g_yes (h43.trans (congrArg V.bool hg27)) (g1 1 (.ref (.bx 1) 0 [1] (Enc.enc (x_1.2 : List (Int × Int)))) h1 fun h44 => ?_)
        refine g_yes (h43.trans (congrArg V.bool hg27)) (g1 44 (Enc.enc (x_1.2 : List (Int × Int))) h44 fun h45 => ?_)
        refine g_yes (h43.trans (congrArg V.bool hg27)) (gm h3 fun h46 => ?_)
        refine g_yes (h43.trans (congrArg V.bool hg27)) (g1 46 (ji (w64 (x_12 - 1))) h46 fun h47 => ?_)
        obtain ⟨e_31, E_e_31, h⟩ := bind_some h
        refine g_yes (h43.trans (congrArg V.bool hg27)) (gv (.ref .sh 0 [] (.agg [(ji e_31.1), (ji e_31.2)])) (ev_idx (t := .sh) (lo := 0) (xs := x_1.2) h45 h47 E_e_31 rfl rfl) fun h48 => ?_)
        refine g_yes (h43.trans (congrArg V.bool hg27)) (g1 48 (.agg [(ji e_31.1), (ji e_31.2)]) h48 fun h49 => ?_)
        refine g_yes (h43.trans (congrArg V.bool hg27)) (g1 4 (.agg [(ji e_23.1), (ji e_23.2)]) h4 fun h50 => ?_)
        obtain ⟨r_32, E_r_32, h⟩ := bind_some h
        refine g_yes (h43.trans (congrArg V.bool hg27)) (g_call (m := 0) (al := false) (r := (Enc.enc (r_32 : Bool))) [Enc.enc (e_31 : (Int × Int)), Enc.enc (e_23 : (Int × Int))] (ta_cons (v := (.agg [(ji e_31.1), (ji e_31.2)])) h49 rfl (Enc.erase_enc (e_31 : (Int × Int))) (ta_cons (v := (.agg [(ji e_23.1), (ji e_23.2)])) h50 rfl (Enc.erase_enc (e_23 : (Int × Int))) ta_nil)) (H.c130 _ _ _ E_r_32) H.g130 rfl rfl rfl rfl ?_)
        refine g_yes (h43.trans (congrArg V.bool hg27)) (g1 51 (jb (!r_32)) (rfl : (_ : V) = (jb r_32)) fun h52 => ?_)
        refine g_yes (h40.trans (congrArg V.bool hg24)) (g2 43 52 (jb (!r_32)) (h43.trans (congrArg V.bool hg27)) h52 fun h53 => ?_)
        refine g2 40 53 (jb (!r_32)) (h40.trans (congrArg V.bool hg24)) h53 fun h54 => ?_
        refine gz [(1, _), (2, _), (3, _), (54, _)] ⟨h1, h2, h3, h54⟩ ?_
        rintro s ⟨h1, h2, h3, h54⟩
        exact t_f72_j1 H x_1 x_12 (s_l2Good_l1 F x_1 k) ih (!r_32) _ ⟨h1, h2, h3, h54⟩ h
      refine g_no (h43.trans (congrArg V.bool hg27)) ?_
      refine g_no (h43.trans (congrArg V.bool hg27)) ?_
      refine g_no (h43.trans (congrArg V.bool hg27)) ?_
      refine g_no (h43.trans (congrArg V.bool hg27)) ?_
      refine g_no (h43.trans (congrArg V.bool hg27)) ?_
      refine g_no (h43.trans (congrArg V.bool hg27)) ?_
      refine g_no (h43.trans (congrArg V.bool hg27)) ?_
      refine g_no (h43.trans (congrArg V.bool hg27)) ?_
      refine g_no (h43.trans (congrArg V.bool hg27)) ?_
      refine g_yes (h40.trans (congrArg V.bool hg24)) (g2 43 52 (jb false) (h43.trans (congrArg V.bool hg27)) (rfl : (_ : V) = (.tup [])) fun h53 => ?_)
      refine g2 40 53 (jb false) (h40.trans (congrArg V.bool hg24)) h53 fun h54 => ?_
      refine gz [(1, _), (2, _), (3, _), (54, _)] ⟨h1, h2, h3, h54⟩ ?_
      rintro s ⟨h1, h2, h3, h54⟩
      exact t_f72_j1 H x_1 x_12 (s_l2Good_l1 F x_1 k) ih false _ ⟨h1, h2, h3, h54⟩ h
    refine .exit (.esq (.elp (.ebk (.nsq (.seq (rg (g1 1 (.ref (.bx 1) 0 [0] (ji x_1.1)) h1 fun h55 => ?_)))))))
    refine g1 55 (ji x_1.1) h55 fun h56 => ?_
    obtain ⟨r_33, E_r_33, h⟩ := bind_some h
    refine g_call (m := 0) (al := false) (r := (Enc.enc (r_33 : Bool))) [Enc.enc (x_1.1 : Int), Enc.enc (0 : Int), Enc.enc (8 : Int)] (ta_cons (v := (ji x_1.1)) h56 rfl rfl (ta_cons (v := (ji 0)) rfl rfl rfl (ta_cons (v := (ji 8)) rfl rfl rfl ta_nil))) (H.c103 _ _ _ _ E_r_33) H.g103 rfl rfl rfl rfl ?_
    refine gm (rfl : (_ : V) = (jb r_33)) fun h2 => ?_
    refine gq (.nsq (.ret ?_))
    have hr := Option.some.inj h
    subst hr
    exact rrA (res_tmp h2) rfl
def s_l2Good (F : Nat) (x_1 : (Int × (List (Int × Int)))) : Option Bool :=
  s_l2Good_l1 F x_1 F 0
theorem t72 (H : H72 D σ F) (x_1 : (Int × (List (Int × Int)))) (s : Nat → V) (hs : Facts [(0, (.agg [(ji x_1.1), (Enc.enc (x_1.2 : List (Int × Int)))]))] s) (h : s_l2Good F x_1 = some r) : Run D σ (R72 r) (.run A72 []) s := by
  unfold s_l2Good at h
  have h0 := hs
  refine .seq (run_reg ?_)
  refine e_clr ?_
  refine ez [(0, _), (1, _)] ⟨(keep_clear (pk := [1]) h0 rfl (map_agg (maps_cons mi (maps_cons me maps_nil)))), (gone_clear (pk := [1]) (t := 1) rfl)⟩ ?_
  rintro s ⟨h0, h1⟩
  refine g_box (.agg [(ji x_1.1), (Enc.enc (x_1.2 : List (Int × Int)))]) (rd_of h0 rfl) h1 rfl ?_
  refine g0 (jb false) fun h2 => ?_
  refine gq (.nsq (.seq (.seq (rg (g0 (ji 0) fun h3 => gq (.nsq (.block (.loop ?_))))))))
  exact t_f72_l1 H x_1 F 0 _ ⟨rfl, h2, h3⟩ h
end
def e72 (F : Nat) : Ent := ent 72 (fun (x : ((Int × (List (Int × Int))) × Unit)) => s_l2Good F x.1) (fun (r : Bool) => (Enc.enc (r : Bool))) 0 false []
theorem p72 {F : Nat} {x0 : (Int × (List (Int × Int)))} {r : Bool} (h : s_l2Good F x0 = some r) : (e72 F).den [Enc.enc x0] = some (Enc.enc (r : Bool)) := ent_put (x0, ()) h
theorem o72 {D : Den} {σ : Sig} {F : Nat} (hF : Fits2 Try.prog D σ) (H : H72 D σ F) : (e72 F).Ok Try.prog := by
  refine ok_of (f := 72) (show unk 72 = 72 from rfl) (fun args r h => ?_) ⟨Try.f72, Try.func72, rfl, rfl⟩
  obtain ⟨⟨x0, _⟩, y, rfl, hy, rfl⟩ := da_open h
  exact contract_run hF (by kernel_rfl) Try.func72 rfl c72 (show 1 ≤ Try.f72.ntmps by decide) (t72 H x0 _ rfl hy)
/- loop.example/g01109/spec.l1Rising -/
def A178_2 : AC := (.cond (.t 11) .skip (.exit 0))
def A178_4 : AC := (.cond (.t 37) (.seq (.reg [] [((jv 6 (.mov (.k (.bool false)))))] []) .ret) .skip)
def A178_5 : AC := (.reg [] [(jm 12 7), ((jv 13 (.bin .add (.t 12) (jn 1)))), (jm 7 13)] [])
def A178_3 : AC := (.seq (.block 1 (.seq (.reg [] [(jm 14 0), (jm 15 7), ((jv 16 (.idx (.t 14) (.t 15) 1))), ((jv 17 (.load .s (.t 16)))), (jm 18 1), (jm 19 2), (.mk (some 20) none false (.call (.k (.fn 103 [] [])) [(.t 17), (.t 18), (.t 19)])), ((jv 21 (.un .not (.t 20)))), (jm 22 21), ((jg 23 22 false (.mov (.t 7)))), ((jg 24 22 false (.bin .gtr (.t 23) (jn 0)))), ((jg 25 22 false (.mov (.t 24)))), ((jg 26 25 true (.mov (.t 0)))), ((jg 27 25 true (.mov (.t 7)))), ((jg 28 25 true (.bin .sub (.t 27) (jn 1)))), ((jg 29 25 true (.idx (.t 26) (.t 28) 1))), ((jg 30 25 true (.load .s (.t 29)))), ((jg 31 25 true (.mov (.t 0)))), ((jg 32 25 true (.mov (.t 7)))), ((jg 33 25 true (.idx (.t 31) (.t 32) 1))), ((jg 34 25 true (.load .s (.t 33)))), ((jg 35 25 true (.bin .geq (.t 30) (.t 34)))), ((jg 36 22 false (.pick (.t 25) (.t 35) (.k (.bool false))))), ((jv 37 (.pick (.t 22) (.k (.bool true)) (.t 36))))] []) A178_4)) A178_5)
def A178_1 : AC := (.seq (.seq (.reg [] [(jm 8 7), (jm 9 0), ((jv 10 (.len (.t 9)))), ((jv 11 (.bin .lss (.t 8) (.t 10))))] []) A178_2) A178_3)
def A178_6 : AC := (.seq (.reg [] [((jv 6 (.mov (.k (.bool true)))))] []) .ret)
def A178_8 : AC := (.block 0 (.loop A178_1))
def A178_7 : AC := (.seq (.seq (.reg [] [((jv 7 (.mov (jn 0))))] []) A178_8) A178_6)
def A178 : AC := (.seq (.reg [] [((jv 6 (.mov (.k (.bool false)))))] []) A178_7)
def an178 : List An := []
theorem c178 : cC Try.prog Try.f178.ntmps an178 (Try.f178.body.getD .skip) = some A178 := by kernel_rfl
structure H178 (D : Den) (σ : Sig) (F : Nat) : Prop where
  c103 : ∀ (x0 : Int) (x1 : Int) (x2 : Int) r, s_l1In F x0 x1 x2 = some r → D 103 [Enc.enc x0, Enc.enc x1, Enc.enc x2] = some (Enc.enc (r : Bool))
  g103 : σ 103 = some (0, false)
abbrev R178 (r : Bool) : (Nat → V) → Prop := RR Try.prog [.tmp 6] 0 false (Enc.enc (r : Bool))
section
variable {D : Den} {σ : Sig} {F : Nat} {r : Bool}
def s_l1Rising_j1 (F : Nat) (x_1 : (List Int)) (x_2 : Int) (x_3 : Int) (x_13 : Int) (c1 : Int → Option Bool) (x_27 : Bool) : Option Bool :=
  bif x_27 then
    some false
  else
    c1 (w64 (x_13 + 1))
theorem t_f178_j1 (H : H178 D σ F) (x_1 : (List Int)) (x_2 : Int) (x_3 : Int) (x_13 : Int) (c1 : Int → Option Bool) (Hc1 : ∀ (x_13 : Int) (s : Nat → V), Facts [(0, (eL x_1)), (1, (ji x_2)), (2, (ji x_3)), (6, (jb false)), (7, (ji x_13))] s → c1 x_13 = some r → Run D σ (R178 r) (.run A178_1 [.lp A178_1, .bk 0, .sq A178_6]) s) (x_27 : Bool) (s : Nat → V) (hs : Facts [(0, (eL x_1)), (1, (ji x_2)), (2, (ji x_3)), (6, (jb false)), (7, (ji x_13)), (37, (jb x_27))] s) (h : s_l1Rising_j1 F x_1 x_2 x_3 x_13 c1 x_27 = some r) : Run D σ (R178 r) (.nrm [.sq A178_4, .bk 1, .sq A178_5, .lp A178_1, .bk 0, .sq A178_6]) s := by
  unfold s_l1Rising_j1 at h
  obtain ⟨h0, h1, h2, h6, h7, h37⟩ := hs
  refine .nsq (run_cond (t := x_27) h37 h (fun h => ?_) (fun h => ?_))
  · refine .seq (rg (g0 (jb false) fun h6 => ?_))
    refine gq (.nsq (.ret ?_))
    have hr := Option.some.inj h
    subst hr
    exact rrA (res_tmp h6) rfl
  refine .skip (.nbk (.nsq (rg (gm h7 fun h12 => g1 12 (ji (w64 (x_13 + 1))) h12 fun h13 => ?_))))
  refine gm h13 fun h7 => gq (.nlp ?_)
  exact Hc1 (w64 (x_13 + 1)) _ ⟨h0, h1, h2, h6, h7⟩ h
def s_l1Rising_l1 (F : Nat) (x_1 : (List Int)) (x_2 : Int) (x_3 : Int)  : Nat → Int → Option Bool
  | 0, _ => none
  | k + 1, x_13 =>
    bif decide (x_13 < (x_1.length : Int)) then
      (idx x_1 x_13).bind fun e_28 =>
      (s_l1In F e_28 x_2 x_3).bind fun r_29 =>
      bif (!r_29) then
        s_l1Rising_j1 F x_1 x_2 x_3 x_13 (s_l1Rising_l1 F x_1 x_2 x_3 k) true
      else
        bif decide (x_13 > 0) then
          (idx x_1 (w64 (x_13 - 1))).bind fun e_30 =>
          (idx x_1 x_13).bind fun e_31 =>
          s_l1Rising_j1 F x_1 x_2 x_3 x_13 (s_l1Rising_l1 F x_1 x_2 x_3 k) (decide (e_30 ≥ e_31))
        else
          s_l1Rising_j1 F x_1 x_2 x_3 x_13 (s_l1Rising_l1 F x_1 x_2 x_3 k) false
    else
      some true
theorem t_f178_l1 (H : H178 D σ F) (x_1 : (List Int)) (x_2 : Int) (x_3 : Int)  : ∀ (k : Nat) (x_13 : Int) (s : Nat → V), Facts [(0, (eL x_1)), (1, (ji x_2)), (2, (ji x_3)), (6, (jb false)), (7, (ji x_13))] s → s_l1Rising_l1 F x_1 x_2 x_3 k x_13 = some r → Run D σ (R178 r) (.run A178_1 [.lp A178_1, .bk 0, .sq A178_6]) s := by
  intro k
  induction k with
  | zero => intro x_13 s _ h; exact nomatch (h : (none : Option _) = some r)
  | succ k ih =>
    intro x_13 s hs h
    rw [s_l1Rising_l1] at h
    obtain ⟨h0, h1, h2, h6, h7⟩ := hs
    refine .seq (.seq (rg (gm h7 fun h8 => gm h0 fun h9 => gv (ji (x_1.length : Int)) (ev_len (xs := x_1) h9) fun h10 => ?_)))
    refine g2 8 10 (jb (decide (x_13 < (x_1.length : Int)))) h8 h10 fun h11 => ?_
    refine gq (.nsq (run_cond (t := decide (x_13 < (x_1.length : Int))) h11 h (fun h => ?_) (fun h => ?_)))
    · refine .skip (.nsq (.seq (.block (.seq (rg (gm h0 fun h14 => gm h7 fun h15 => ?_))))))
      obtain ⟨e_28, E_e_28, h⟩ := bind_some h
      refine gv (.ref .sh 0 [] (ji e_28)) (ev_idx (t := .sh) (lo := 0) (xs := x_1) h14 h15 E_e_28 rfl rfl) fun h16 => ?_
      refine g1 16 (ji e_28) h16 fun h17 => ?_
      refine gm h1 fun h18 => gm h2 fun h19 => ?_
      obtain ⟨r_29, E_r_29, h⟩ := bind_some h
      refine g_call (m := 0) (al := false) (r := (Enc.enc (r_29 : Bool))) [Enc.enc (e_28 : Int), Enc.enc (x_2 : Int), Enc.enc (x_3 : Int)] (ta_cons (v := (ji e_28)) h17 rfl rfl (ta_cons (v := (ji x_2)) h18 rfl rfl (ta_cons (v := (ji x_3)) h19 rfl rfl ta_nil))) (H.c103 _ _ _ _ E_r_29) H.g103 rfl rfl rfl rfl ?_
      refine g1 20 (jb (!r_29)) (rfl : (_ : V) = (jb r_29)) fun h21 => ?_
      refine gm h21 fun h22 => split_on (c := (!r_29)) h (fun hg9 h => ?_) (fun hg9 h => ?_)
      · refine g_no (h22.trans (congrArg V.bool hg9)) ?_
        refine g_no (h22.trans (congrArg V.bool hg9)) ?_
        refine g_no (h22.trans (congrArg V.bool hg9)) ?_
        refine g_skip rfl ?_
        refine g_skip rfl ?_
        refine g_skip rfl ?_
        refine g_skip rfl ?_
        refine g_skip rfl ?_
        refine g_skip rfl ?_
        refine g_skip rfl ?_
        refine g_skip rfl ?_
        refine g_skip rfl ?_
        refine g_skip rfl ?_
        refine g_no (h22.trans (congrArg V.bool hg9)) ?_
        refine g2 22 36 (jb true) (h22.trans (congrArg V.bool hg9)) (rfl : (_ : V) = (.tup [])) fun h37 => ?_
        refine gq ?_
        exact t_f178_j1 H x_1 x_2 x_3 x_13 (s_l1Rising_l1 F x_1 x_2 x_3 k) ih true _ ⟨h0, h1, h2, h6, h7, h37⟩ h
      refine g_yes (h22.trans (congrArg V.bool hg9)) (gm h7 fun h23 => ?_)
      refine g_yes (h22.trans (congrArg V.bool hg9)) (g1 23 (jb (decide (x_13 > 0))) h23 fun h24 => ?_)
      refine g_yes (h22.trans (congrArg V.bool hg9)) (gm h24 fun h25 => ?_)
      refine split_on (c := decide (x_13 > 0)) h (fun hg12 h => ?_) (fun hg12 h => ?_)
      · refine g_yes (h25.trans (congrArg V.bool hg12)) (gm h0 fun h26 => ?_)
        refine g_yes (h25.trans (congrArg V.bool hg12)) (gm h7 fun h27 => ?_)
        refine g_yes (h25.trans (congrArg V.bool hg12)) (g1 27 (ji (w64 (x_13 - 1))) h27 fun h28 => ?_)
        obtain ⟨e_30, E_e_30, h⟩ := bind_some h
        refine g_yes (h25.trans (congrArg V.bool hg12)) (gv (.ref .sh 0 [] (ji e_30)) (ev_idx (t := .sh) (lo := 0) (xs := x_1) h26 h28 E_e_30 rfl rfl) fun h29 => ?_)
        refine g_yes (h25.trans (congrArg V.bool hg12)) (g1 29 (ji e_30) h29 fun h30 => ?_)
        refine g_yes (h25.trans (congrArg V.bool hg12)) (gm h0 fun h31 => ?_)
        refine g_yes (h25.trans (congrArg V.bool hg12)) (gm h7 fun h32 => ?_)
        obtain ⟨e_31, E_e_31, h⟩ := bind_some h
        refine g_yes (h25.trans (congrArg V.bool hg12)) (gv (.ref .sh 0 [] (ji e_31)) (ev_idx (t := .sh) (lo := 0) (xs := x_1) h31 h32 E_e_31 rfl rfl) fun h33 => ?_)
        refine g_yes (h25.trans (congrArg V.bool hg12)) (g1 33 (ji e_31) h33 fun h34 => ?_)
        refine g_yes (h25.trans (congrArg V.bool hg12)) (g2 30 34 (jb (decide (e_30 ≥ e_31))) h30 h34 fun h35 => ?_)
        refine g_yes (h22.trans (congrArg V.bool hg9)) (g2 25 35 (jb (decide (e_30 ≥ e_31))) (h25.trans (congrArg V.bool hg12)) h35 fun h36 => ?_)
        refine g2 22 36 (jb (decide (e_30 ≥ e_31))) (h22.trans (congrArg V.bool hg9)) h36 fun h37 => ?_
        refine gq ?_
        exact t_f178_j1 H x_1 x_2 x_3 x_13 (s_l1Rising_l1 F x_1 x_2 x_3 k) ih (decide (e_30 ≥ e_31)) _ ⟨h0, h1, h2, h6, h7, h37⟩ h
      refine g_no (h25.trans (congrArg V.bool hg12)) ?_
      refine g_no (h25.trans (congrArg V.bool hg12)) ?_
      refine g_no (h25.trans (congrArg V.bool hg12)) ?_
      refine g_no (h25.trans (congrArg V.bool hg12)) ?_
      refine g_no (h25.trans (congrArg V.bool hg12)) ?_
      refine g_no (h25.trans (congrArg V.bool hg12)) ?_
      refine g_no (h25.trans (congrArg V.bool hg12)) ?_
      refine g_no (h25.trans (congrArg V.bool hg12)) ?_
      refine g_no (h25.trans (congrArg V.bool hg12)) ?_
      refine g_no (h25.trans (congrArg V.bool hg12)) ?_
      refine g_yes (h22.trans (congrArg V.bool hg9)) (g2 25 35 (jb false) (h25.trans (congrArg V.bool hg12)) (rfl : (_ : V) = (.tup [])) fun h36 => ?_)
      refine g2 22 36 (jb false) (h22.trans (congrArg V.bool hg9)) h36 fun h37 => ?_
      refine gq ?_
      exact t_f178_j1 H x_1 x_2 x_3 x_13 (s_l1Rising_l1 F x_1 x_2 x_3 k) ih false _ ⟨h0, h1, h2, h6, h7, h37⟩ h
    refine .exit (.esq (.elp (.ebk (.nsq (.seq (rg (g0 (jb true) fun h6 => ?_)))))))
    refine gq (.nsq (.ret ?_))
    have hr := Option.some.inj h
    subst hr
    exact rrA (res_tmp h6) rfl
def s_l1Rising (F : Nat) (x_1 : (List Int)) (x_2 : Int) (x_3 : Int) : Option Bool :=
  s_l1Rising_l1 F x_1 x_2 x_3 F 0
theorem t178 (H : H178 D σ F) (x_1 : (List Int)) (x_2 : Int) (x_3 : Int) (s : Nat → V) (hs : Facts [(0, (eL x_1)), (1, (ji x_2)), (2, (ji x_3))] s) (h : s_l1Rising F x_1 x_2 x_3 = some r) : Run D σ (R178 r) (.run A178 []) s := by
  unfold s_l1Rising at h
  obtain ⟨h0, h1, h2⟩ := hs
  refine .seq (rg (g0 (jb false) fun h6 => ?_))
  refine gq (.nsq (.seq (.seq (rg (g0 (ji 0) fun h7 => gq (.nsq (.block (.loop ?_))))))))
  exact t_f178_l1 H x_1 x_2 x_3 F 0 _ ⟨h0, h1, h2, h6, h7⟩ h
end
def e178 (F : Nat) : Ent := ent 178 (fun (x : ((List Int) × Int × Int × Unit)) => s_l1Rising F x.1 x.2.1 x.2.2.1) (fun (r : Bool) => (Enc.enc (r : Bool))) 0 false []
theorem p178 {F : Nat} {x0 : (List Int)} {x1 : Int} {x2 : Int} {r : Bool} (h : s_l1Rising F x0 x1 x2 = some r) : (e178 F).den [Enc.enc x0, Enc.enc x1, Enc.enc x2] = some (Enc.enc (r : Bool)) := ent_put (x0, x1, x2, ()) h
theorem o178 {D : Den} {σ : Sig} {F : Nat} (hF : Fits2 Try.prog D σ) (H : H178 D σ F) : (e178 F).Ok Try.prog := by
  refine ok_of (f := 178) (show unk 178 = 178 from rfl) (fun args r h => ?_) ⟨Try.f178, Try.func178, rfl, rfl⟩
  obtain ⟨⟨x0, x1, x2, _⟩, y, rfl, hy, rfl⟩ := da_open h
  exact contract_run hF (by kernel_rfl) Try.func178 rfl c178 (show 3 ≤ Try.f178.ntmps by decide) (t178 H x0 x1 x2 _ ⟨rfl, rfl, rfl⟩ hy)
/- loop.example/g01109/spec.l2Set -/
def A147_1 : AC := (.seq (.reg [] [(jm 5 1), ((jv 6 (.fld (.t 2) 0 0))), ((jv 7 (.load .s (.t 6)))), ((jv 8 (.bin .sub (.t 7) (jn 1)))), (.mk (some 9) none false (.call (.k (.fn 178 [] [])) [(.t 5), (jn 0), (.t 8)])), (jm 4 9)] []) .ret)
def A147 : AC := (.seq (.reg [.clr [2]] [(.mk (some 2) none false (.box (.t 0))), ((jv 4 (.mov (.k (.bool false)))))] []) A147_1)
def an147 : List An := [{ id := 0, pre := [.clr [2]], ep := [], lin := [], sp := [] }]
theorem c147 : cC Try.prog Try.f147.ntmps an147 (Try.f147.body.getD .skip) = some A147 := by kernel_rfl
structure H147 (D : Den) (σ : Sig) (F : Nat) : Prop where
  c178 : ∀ (x0 : (List Int)) (x1 : Int) (x2 : Int) r, s_l1Rising F x0 x1 x2 = some r → D 178 [Enc.enc x0, Enc.enc x1, Enc.enc x2] = some (Enc.enc (r : Bool))
  g178 : σ 178 = some (0, false)
abbrev R147 (r : Bool) : (Nat → V) → Prop := RR Try.prog [.tmp 4] 0 false (Enc.enc (r : Bool))
section
variable {D : Den} {σ : Sig} {F : Nat} {r : Bool}
def s_l2Set (F : Nat) (x_1 : (Int × (List (Int × Int)))) (x_2 : (List Int)) : Option Bool :=
  (s_l1Rising F x_2 0 (w64 (x_1.1 - 1))).bind fun r_3 =>
  some r_3
theorem t147 (H : H147 D σ F) (x_1 : (Int × (List (Int × Int)))) (x_2 : (List Int)) (s : Nat → V) (hs : Facts [(0, (.agg [(ji x_1.1), (Enc.enc (x_1.2 : List (Int × Int)))])), (1, (eL x_2))] s) (h : s_l2Set F x_1 x_2 = some r) : Run D σ (R147 r) (.run A147 []) s := by
  unfold s_l2Set at h
  obtain ⟨h0, h1⟩ := hs
  refine .seq (run_reg ?_)
  refine e_clr ?_
  refine ez [(0, _), (1, _), (2, _)] ⟨(keep_clear (pk := [2]) h0 rfl (map_agg (maps_cons mi (maps_cons me maps_nil)))), (keep_clear (pk := [2]) h1 rfl me), (gone_clear (pk := [2]) (t := 2) rfl)⟩ ?_
  rintro s ⟨h0, h1, h2⟩
  refine g_box (.agg [(ji x_1.1), (Enc.enc (x_1.2 : List (Int × Int)))]) (rd_of h0 rfl) h2 rfl ?_
  refine g0 (jb false) fun h4 => ?_
  refine gq (.nsq (.seq (rg (gm h1 fun h5 => g1 2 (.ref (.bx 2) 0 [0] (ji x_1.1)) (rfl : (_ : V) = (.ref (.bx 2) 0 [] (.agg [(ji x_1.1), (Enc.enc (x_1.2 : List (Int × Int)))]))) fun h6 => ?_))))
  refine g1 6 (ji x_1.1) h6 fun h7 => ?_
  refine g1 7 (ji (w64 (x_1.1 - 1))) h7 fun h8 => ?_
  obtain ⟨r_3, E_r_3, h⟩ := bind_some h
  refine g_call (m := 0) (al := false) (r := (Enc.enc (r_3 : Bool))) [Enc.enc (x_2 : (List Int)), Enc.enc (0 : Int), Enc.enc (w64 (x_1.1 - 1) : Int)] (ta_cons (v := (eL x_2)) h5 rfl (Enc.erase_enc (x_2 : (List Int))) (ta_cons (v := (ji 0)) rfl rfl rfl (ta_cons (v := (ji (w64 (x_1.1 - 1)))) h8 rfl rfl ta_nil))) (H.c178 _ _ _ _ E_r_3) H.g178 rfl rfl rfl rfl ?_
  refine gm (rfl : (_ : V) = (jb r_3)) fun h4 => ?_
  refine gq (.nsq (.ret ?_))
  have hr := Option.some.inj h
  subst hr
  exact rrA (res_tmp h4) rfl
end
def e147 (F : Nat) : Ent := ent 147 (fun (x : ((Int × (List (Int × Int))) × (List Int) × Unit)) => s_l2Set F x.1 x.2.1) (fun (r : Bool) => (Enc.enc (r : Bool))) 0 false []
theorem p147 {F : Nat} {x0 : (Int × (List (Int × Int)))} {x1 : (List Int)} {r : Bool} (h : s_l2Set F x0 x1 = some r) : (e147 F).den [Enc.enc x0, Enc.enc x1] = some (Enc.enc (r : Bool)) := ent_put (x0, x1, ()) h
theorem o147 {D : Den} {σ : Sig} {F : Nat} (hF : Fits2 Try.prog D σ) (H : H147 D σ F) : (e147 F).Ok Try.prog := by
  refine ok_of (f := 147) (show unk 147 = 147 from rfl) (fun args r h => ?_) ⟨Try.f147, Try.func147, rfl, rfl⟩
  obtain ⟨⟨x0, x1, _⟩, y, rfl, hy, rfl⟩ := da_open h
  exact contract_run hF (by kernel_rfl) Try.func147 rfl c147 (show 2 ≤ Try.f147.ntmps by decide) (t147 H x0 x1 _ ⟨rfl, rfl⟩ hy)
/- loop.example/g01109/spec.l6Bags -/
def A131_2 : AC := (.cond (.t 9) .skip (.exit 0))
def A131_4 : AC := (.cond (.t 18) (.seq (.reg [] [((jv 4 (.mov (.k (.bool false)))))] []) .ret) .skip)
def A131_5 : AC := (.reg [] [(jm 10 5), ((jv 11 (.bin .add (.t 10) (jn 1)))), (jm 5 11)] [])
def A131_3 : AC := (.seq (.block 1 (.seq (.reg [] [((jv 12 (.load (.ag [.s, .p]) (.t 2)))), (jm 13 1), (jm 14 5), ((jv 15 (.idx (.t 13) (.t 14) 1))), ((jv 16 (.load .p (.t 15)))), (.mk (some 17) none false (.call (.k (.fn 147 [] [])) [(.t 12), (.t 16)])), ((jv 18 (.un .not (.t 17))))] []) A131_4)) A131_5)
def A131_1 : AC := (.seq (.seq (.reg [] [(jm 6 5), (jm 7 1), ((jv 8 (.len (.t 7)))), ((jv 9 (.bin .lss (.t 6) (.t 8))))] []) A131_2) A131_3)
def A131_6 : AC := (.seq (.reg [] [(jm 19 1), ((jv 20 (.len (.t 19)))), ((jv 21 (.bin .leq (.t 20) (jn 16)))), (jm 4 21)] []) .ret)
def A131_8 : AC := (.block 0 (.loop A131_1))
def A131_7 : AC := (.seq (.seq (.reg [] [((jv 5 (.mov (jn 0))))] []) A131_8) A131_6)
def A131 : AC := (.seq (.reg [.clr [2]] [(.mk (some 2) none false (.box (.t 0))), ((jv 4 (.mov (.k (.bool false)))))] []) A131_7)
def an131 : List An := [{ id := 0, pre := [.clr [2]], ep := [], lin := [], sp := [] }]
theorem c131 : cC Try.prog Try.f131.ntmps an131 (Try.f131.body.getD .skip) = some A131 := by kernel_rfl
structure H131 (D : Den) (σ : Sig) (F : Nat) : Prop where
  c147 : ∀ (x0 : (Int × (List (Int × Int)))) (x1 : (List Int)) r, s_l2Set F x0 x1 = some r → D 147 [Enc.enc x0, Enc.enc x1] = some (Enc.enc (r : Bool))
  g147 : σ 147 = some (0, false)
abbrev R131 (r : Bool) : (Nat → V) → Prop := RR Try.prog [.tmp 4] 0 false (Enc.enc (r : Bool))
section
variable {D : Den} {σ : Sig} {F : Nat} {r : Bool}
def s_l6Bags_l1 (F : Nat) (x_2 : (List (List Int))) (x_1 : (Int × (List (Int × Int))))  : Nat → Int → Option Bool
  | 0, _ => none
  | k + 1, x_5 =>
    bif decide (x_5 < (x_2.length : Int)) then
      (idx x_2 x_5).bind fun e_8 =>
      (s_l2Set F x_1 e_8).bind fun r_9 =>
      bif (!r_9) then
        some false
      else
        (s_l6Bags_l1 F x_2 x_1 k) (w64 (x_5 + 1))
    else
      some (decide ((x_2.length : Int) ≤ 16))
theorem t_f131_l1 (H : H131 D σ F) (x_2 : (List (List Int))) (x_1 : (Int × (List (Int × Int))))  : ∀ (k : Nat) (x_5 : Int) (s : Nat → V), Facts [(1, (Enc.enc (x_2 : List (List Int)))), (2, (.ref (.bx 2) 0 [] (.agg [(ji x_1.1), (Enc.enc (x_1.2 : List (Int × Int)))]))), (4, (jb false)), (5, (ji x_5))] s → s_l6Bags_l1 F x_2 x_1 k x_5 = some r → Run D σ (R131 r) (.run A131_1 [.lp A131_1, .bk 0, .sq A131_6]) s := by
  intro k
  induction k with
  | zero => intro x_5 s _ h; exact nomatch (h : (none : Option _) = some r)
  | succ k ih =>
    intro x_5 s hs h
    rw [s_l6Bags_l1] at h
    obtain ⟨h1, h2, h4, h5⟩ := hs
    refine .seq (.seq (rg (gm h5 fun h6 => gm h1 fun h7 => gv (ji (x_2.length : Int)) (ev_len (xs := x_2) h7) fun h8 => ?_)))
    refine g2 6 8 (jb (decide (x_5 < (x_2.length : Int)))) h6 h8 fun h9 => ?_
    refine gq (.nsq (run_cond (t := decide (x_5 < (x_2.length : Int))) h9 h (fun h => ?_) (fun h => ?_)))
    · refine .skip (.nsq (.seq (.block (.seq (rg (g1 2 (.agg [(ji x_1.1), (Enc.enc (x_1.2 : List (Int × Int)))]) h2 fun h12 => ?_))))))
      refine gm h1 fun h13 => gm h5 fun h14 => ?_
      obtain ⟨e_8, E_e_8, h⟩ := bind_some h
      refine gv (.ref .sh 0 [] (eL e_8)) (ev_idx (t := .sh) (lo := 0) (xs := x_2) h13 h14 E_e_8 rfl rfl) fun h15 => ?_
      refine g1 15 (eL e_8) h15 fun h16 => ?_
      obtain ⟨r_9, E_r_9, h⟩ := bind_some h
      refine g_call (m := 0) (al := false) (r := (Enc.enc (r_9 : Bool))) [Enc.enc (x_1 : (Int × (List (Int × Int)))), Enc.enc (e_8 : (List Int))] (ta_cons (v := (.agg [(ji x_1.1), (Enc.enc (x_1.2 : List (Int × Int)))])) h12 rfl (Enc.erase_enc (x_1 : (Int × (List (Int × Int))))) (ta_cons (v := (eL e_8)) h16 rfl (Enc.erase_enc (e_8 : (List Int))) ta_nil)) (H.c147 _ _ _ E_r_9) H.g147 rfl rfl rfl rfl ?_
      refine g1 17 (jb (!r_9)) (rfl : (_ : V) = (jb r_9)) fun h18 => ?_
      refine gq (.nsq (run_cond (t := (!r_9)) h18 h (fun h => ?_) (fun h => ?_)))
      · refine .seq (rg (g0 (jb false) fun h4 => ?_))
        refine gq (.nsq (.ret ?_))
        have hr := Option.some.inj h
        subst hr
        exact rrA (res_tmp h4) rfl
      refine .skip (.nbk (.nsq (rg (gm h5 fun h10 => g1 10 (ji (w64 (x_5 + 1))) h10 fun h11 => ?_))))
      refine gm h11 fun h5 => gq (.nlp ?_)
      exact ih (w64 (x_5 + 1)) _ ⟨h1, h2, h4, h5⟩ h
    refine .exit (.esq (.elp (.ebk (.nsq (.seq (rg (gm h1 fun h19 => gv (ji (x_2.length : Int)) (ev_len (xs := x_2) h19) fun h20 => ?_)))))))
    refine g1 20 (jb (decide ((x_2.length : Int) ≤ 16))) h20 fun h21 => ?_
    refine gm h21 fun h4 => gq (.nsq (.ret ?_))
    have hr := Option.some.inj h
    subst hr
    exact rrA (res_tmp h4) rfl
def s_l6Bags (F : Nat) (x_1 : (Int × (List (Int × Int)))) (x_2 : (List (List Int))) : Option Bool :=
  s_l6Bags_l1 F x_2 x_1 F 0
theorem t131 (H : H131 D σ F) (x_1 : (Int × (List (Int × Int)))) (x_2 : (List (List Int))) (s : Nat → V) (hs : Facts [(0, (.agg [(ji x_1.1), (Enc.enc (x_1.2 : List (Int × Int)))])), (1, (Enc.enc (x_2 : List (List Int))))] s) (h : s_l6Bags F x_1 x_2 = some r) : Run D σ (R131 r) (.run A131 []) s := by
  unfold s_l6Bags at h
  obtain ⟨h0, h1⟩ := hs
  refine .seq (run_reg ?_)
  refine e_clr ?_
  refine ez [(0, _), (1, _), (2, _)] ⟨(keep_clear (pk := [2]) h0 rfl (map_agg (maps_cons mi (maps_cons me maps_nil)))), (keep_clear (pk := [2]) h1 rfl me), (gone_clear (pk := [2]) (t := 2) rfl)⟩ ?_
  rintro s ⟨h0, h1, h2⟩
  refine g_box (.agg [(ji x_1.1), (Enc.enc (x_1.2 : List (Int × Int)))]) (rd_of h0 rfl) h2 rfl ?_
  refine g0 (jb false) fun h4 => ?_
  refine gq (.nsq (.seq (.seq (rg (g0 (ji 0) fun h5 => gq (.nsq (.block (.loop ?_))))))))
  exact t_f131_l1 H x_2 x_1 F 0 _ ⟨h1, rfl, h4, h5⟩ h
end
def e131 (F : Nat) : Ent := ent 131 (fun (x : ((Int × (List (Int × Int))) × (List (List Int)) × Unit)) => s_l6Bags F x.1 x.2.1) (fun (r : Bool) => (Enc.enc (r : Bool))) 0 false []
theorem p131 {F : Nat} {x0 : (Int × (List (Int × Int)))} {x1 : (List (List Int))} {r : Bool} (h : s_l6Bags F x0 x1 = some r) : (e131 F).den [Enc.enc x0, Enc.enc x1] = some (Enc.enc (r : Bool)) := ent_put (x0, x1, ()) h
theorem o131 {D : Den} {σ : Sig} {F : Nat} (hF : Fits2 Try.prog D σ) (H : H131 D σ F) : (e131 F).Ok Try.prog := by
  refine ok_of (f := 131) (show unk 131 = 131 from rfl) (fun args r h => ?_) ⟨Try.f131, Try.func131, rfl, rfl⟩
  obtain ⟨⟨x0, x1, _⟩, y, rfl, hy, rfl⟩ := da_open h
  exact contract_run hF (by kernel_rfl) Try.func131 rfl c131 (show 2 ≤ Try.f131.ntmps by decide) (t131 H x0 x1 _ ⟨rfl, rfl⟩ hy)
/- loop.example/g01109/spec.l1Has -/
def A74_2 : AC := (.cond (.t 9) .skip (.exit 0))
def A74_4 : AC := (.cond (.t 17) (.seq (.reg [] [((jv 4 (.mov (.k (.bool true)))))] []) .ret) .skip)
def A74_5 : AC := (.reg [] [(jm 10 5), ((jv 11 (.bin .add (.t 10) (jn 1)))), (jm 5 11)] [])
def A74_3 : AC := (.seq (.block 1 (.seq (.reg [] [(jm 12 0), (jm 13 5), ((jv 14 (.idx (.t 12) (.t 13) 1))), ((jv 15 (.load .s (.t 14)))), (jm 16 1), ((jv 17 (.bin .eql (.t 15) (.t 16))))] []) A74_4)) A74_5)
def A74_1 : AC := (.seq (.seq (.reg [] [(jm 6 5), (jm 7 0), ((jv 8 (.len (.t 7)))), ((jv 9 (.bin .lss (.t 6) (.t 8))))] []) A74_2) A74_3)
def A74_6 : AC := (.seq (.reg [] [((jv 4 (.mov (.k (.bool false)))))] []) .ret)
def A74_8 : AC := (.block 0 (.loop A74_1))
def A74_7 : AC := (.seq (.seq (.reg [] [((jv 5 (.mov (jn 0))))] []) A74_8) A74_6)
def A74 : AC := (.seq (.reg [] [((jv 4 (.mov (.k (.bool false)))))] []) A74_7)
def an74 : List An := []
theorem c74 : cC Try.prog Try.f74.ntmps an74 (Try.f74.body.getD .skip) = some A74 := by kernel_rfl
structure H74 (D : Den) (σ : Sig) (F : Nat) : Prop where
  mk ::
abbrev R74 (r : Bool) : (Nat → V) → Prop := RR Try.prog [.tmp 4] 0 false (Enc.enc (r : Bool))
section
variable {D : Den} {σ : Sig} {F : Nat} {r : Bool}
def s_l1Has_l1 (F : Nat) (x_1 : (List Int)) (x_2 : Int)  : Nat → Int → Option Bool
  | 0, _ => none
  | k + 1, x_4 =>
    bif decide (x_4 < (x_1.length : Int)) then
      (idx x_1 x_4).bind fun e_6 =>
      bif (e_6 == x_2) then
        some true
      else
        (s_l1Has_l1 F x_1 x_2 k) (w64 (x_4 + 1))
    else
      some false
theorem t_f74_l1 (H : H74 D σ F) (x_1 : (List Int)) (x_2 : Int)  : ∀ (k : Nat) (x_4 : Int) (s : Nat → V), Facts [(0, (eL x_1)), (1, (ji x_2)), (4, (jb false)), (5, (ji x_4))] s → s_l1Has_l1 F x_1 x_2 k x_4 = some r → Run D σ (R74 r) (.run A74_1 [.lp A74_1, .bk 0, .sq A74_6]) s := by
  intro k
  induction k with
  | zero => intro x_4 s _ h; exact nomatch (h : (none : Option _) = some r)
  | succ k ih =>
    intro x_4 s hs h
    rw [s_l1Has_l1] at h
    obtain ⟨h0, h1, h4, h5⟩ := hs
    refine .seq (.seq (rg (gm h5 fun h6 => gm h0 fun h7 => gv (ji (x_1.length : Int)) (ev_len (xs := x_1) h7) fun h8 => ?_)))
    refine g2 6 8 (jb (decide (x_4 < (x_1.length : Int)))) h6 h8 fun h9 => ?_
    refine gq (.nsq (run_cond (t := decide (x_4 < (x_1.length : Int))) h9 h (fun h => ?_) (fun h => ?_)))
    · refine .skip (.nsq (.seq (.block (.seq (rg (gm h0 fun h12 => gm h5 fun h13 => ?_))))))
      obtain ⟨e_6, E_e_6, h⟩ := bind_some h
      refine gv (.ref .sh 0 [] (ji e_6)) (ev_idx (t := .sh) (lo := 0) (xs := x_1) h12 h13 E_e_6 rfl rfl) fun h14 => ?_
      refine g1 14 (ji e_6) h14 fun h15 => ?_
      refine gm h1 fun h16 => g2 15 16 (jb (e_6 == x_2)) h15 h16 fun h17 => ?_
      refine gq (.nsq (run_cond (t := (e_6 == x_2)) h17 h (fun h => ?_) (fun h => ?_)))
      · refine .seq (rg (g0 (jb true) fun h4 => ?_))
        refine gq (.nsq (.ret ?_))
        have hr := Option.some.inj h
        subst hr
        exact rrA (res_tmp h4) rfl
      refine .skip (.nbk (.nsq (rg (gm h5 fun h10 => g1 10 (ji (w64 (x_4 + 1))) h10 fun h11 => ?_))))
      refine gm h11 fun h5 => gq (.nlp ?_)
      exact ih (w64 (x_4 + 1)) _ ⟨h0, h1, h4, h5⟩ h
    refine .exit (.esq (.elp (.ebk (.nsq (.seq (rg (g0 (jb false) fun h4 => ?_)))))))
    refine gq (.nsq (.ret ?_))
    have hr := Option.some.inj h
    subst hr
    exact rrA (res_tmp h4) rfl
def s_l1Has (F : Nat) (x_1 : (List Int)) (x_2 : Int) : Option Bool :=
  s_l1Has_l1 F x_1 x_2 F 0
theorem t74 (H : H74 D σ F) (x_1 : (List Int)) (x_2 : Int) (s : Nat → V) (hs : Facts [(0, (eL x_1)), (1, (ji x_2))] s) (h : s_l1Has F x_1 x_2 = some r) : Run D σ (R74 r) (.run A74 []) s := by
  unfold s_l1Has at h
  obtain ⟨h0, h1⟩ := hs
  refine .seq (rg (g0 (jb false) fun h4 => ?_))
  refine gq (.nsq (.seq (.seq (rg (g0 (ji 0) fun h5 => gq (.nsq (.block (.loop ?_))))))))
  exact t_f74_l1 H x_1 x_2 F 0 _ ⟨h0, h1, h4, h5⟩ h
end
def e74 (F : Nat) : Ent := ent 74 (fun (x : ((List Int) × Int × Unit)) => s_l1Has F x.1 x.2.1) (fun (r : Bool) => (Enc.enc (r : Bool))) 0 false []
theorem p74 {F : Nat} {x0 : (List Int)} {x1 : Int} {r : Bool} (h : s_l1Has F x0 x1 = some r) : (e74 F).den [Enc.enc x0, Enc.enc x1] = some (Enc.enc (r : Bool)) := ent_put (x0, x1, ()) h
theorem o74 {D : Den} {σ : Sig} {F : Nat} (hF : Fits2 Try.prog D σ) (H : H74 D σ F) : (e74 F).Ok Try.prog := by
  refine ok_of (f := 74) (show unk 74 = 74 from rfl) (fun args r h => ?_) ⟨Try.f74, Try.func74, rfl, rfl⟩
  obtain ⟨⟨x0, x1, _⟩, y, rfl, hy, rfl⟩ := da_open h
  exact contract_run hF (by kernel_rfl) Try.func74 rfl c74 (show 2 ≤ Try.f74.ntmps by decide) (t74 H x0 x1 _ ⟨rfl, rfl⟩ hy)
/- loop.example/g01109/spec.l6Run -/
def A132_2 : AC := (.cond (.t 11) .skip (.exit 0))
def A132_4 : AC := (.cond (.t 23) (.reg [] [(jm 24 5), ((jv 25 (.bin .add (.t 24) (jn 1)))), (jm 5 25)] []) .skip)
def A132_5 : AC := (.reg [] [(jm 26 0), (jm 27 7), ((jv 28 (.idx (.t 26) (.t 27) 1))), ((jv 29 (.load .p (.t 28)))), (jm 30 1), (.mk (some 31) none false (.call (.k (.fn 74 [] [])) [(.t 29), (.t 30)])), (jm 6 31)] [])
def A132_6 : AC := (.reg [] [(jm 12 7), ((jv 13 (.bin .add (.t 12) (jn 1)))), (jm 7 13)] [])
def A132_3 : AC := (.seq (.block 1 (.seq (.seq (.reg [] [(jm 14 0), (jm 15 7), ((jv 16 (.idx (.t 14) (.t 15) 1))), ((jv 17 (.load .p (.t 16)))), (jm 18 1), (.mk (some 19) none false (.call (.k (.fn 74 [] [])) [(.t 17), (.t 18)])), (jm 20 19), ((jg 21 20 true (.mov (.t 6)))), ((jg 22 20 true (.un .not (.t 21)))), ((jv 23 (.pick (.t 20) (.t 22) (.k (.bool false)))))] []) A132_4) A132_5)) A132_6)
def A132_1 : AC := (.seq (.seq (.reg [] [(jm 8 7), (jm 9 0), ((jv 10 (.len (.t 9)))), ((jv 11 (.bin .lss (.t 8) (.t 10))))] []) A132_2) A132_3)
def A132_7 : AC := (.seq (.reg [] [(jm 32 5), ((jv 33 (.bin .eql (.t 32) (jn 1)))), (jm 4 33)] []) .ret)
def A132_10 : AC := (.block 0 (.loop A132_1))
def A132_9 : AC := (.seq (.seq (.reg [] [((jv 7 (.mov (jn 0))))] []) A132_10) A132_7)
def A132_8 : AC := (.seq (.reg [] [((jv 5 (.mov (jn 0)))), ((jv 6 (.mov (.k (.bool false)))))] []) A132_9)
def A132 : AC := (.seq (.reg [] [((jv 4 (.mov (.k (.bool false)))))] []) A132_8)
def an132 : List An := []
theorem c132 : cC Try.prog Try.f132.ntmps an132 (Try.f132.body.getD .skip) = some A132 := by kernel_rfl
structure H132 (D : Den) (σ : Sig) (F : Nat) : Prop where
  c74 : ∀ (x0 : (List Int)) (x1 : Int) r, s_l1Has F x0 x1 = some r → D 74 [Enc.enc x0, Enc.enc x1] = some (Enc.enc (r : Bool))
  g74 : σ 74 = some (0, false)
abbrev R132 (r : Bool) : (Nat → V) → Prop := RR Try.prog [.tmp 4] 0 false (Enc.enc (r : Bool))
section
variable {D : Den} {σ : Sig} {F : Nat} {r : Bool}
def s_l6Run_j1 (F : Nat) (x_1 : (List (List Int))) (x_2 : Int) (x_12 : Bool) (x_13 : Int) (c1 : Int → Bool → Int → Option Bool) (x_25 : Int) : Option Bool :=
  (idx x_1 x_13).bind fun e_26 =>
  (s_l1Has F e_26 x_2).bind fun r_27 =>
  c1 x_25 r_27 (w64 (x_13 + 1))
theorem t_f132_j1 (H : H132 D σ F) (x_1 : (List (List Int))) (x_2 : Int) (x_12 : Bool) (x_13 : Int) (c1 : Int → Bool → Int → Option Bool) (Hc1 : ∀ (x_11 : Int) (x_12 : Bool) (x_13 : Int) (s : Nat → V), Facts [(0, (Enc.enc (x_1 : List (List Int)))), (1, (ji x_2)), (4, (jb false)), (5, (ji x_11)), (6, (jb x_12)), (7, (ji x_13))] s → c1 x_11 x_12 x_13 = some r → Run D σ (R132 r) (.run A132_1 [.lp A132_1, .bk 0, .sq A132_7]) s) (x_25 : Int) (s : Nat → V) (hs : Facts [(0, (Enc.enc (x_1 : List (List Int)))), (1, (ji x_2)), (4, (jb false)), (5, (ji x_25)), (6, (jb x_12)), (7, (ji x_13))] s) (h : s_l6Run_j1 F x_1 x_2 x_12 x_13 c1 x_25 = some r) : Run D σ (R132 r) (.nrm [.sq A132_5, .bk 1, .sq A132_6, .lp A132_1, .bk 0, .sq A132_7]) s := by
  unfold s_l6Run_j1 at h
  obtain ⟨h0, h1, h4, h5, h6, h7⟩ := hs
  refine .nsq (rg (gm h0 fun h26 => gm h7 fun h27 => ?_))
  obtain ⟨e_26, E_e_26, h⟩ := bind_some h
  refine gv (.ref .sh 0 [] (eL e_26)) (ev_idx (t := .sh) (lo := 0) (xs := x_1) h26 h27 E_e_26 rfl rfl) fun h28 => ?_
  refine g1 28 (eL e_26) h28 fun h29 => ?_
  refine gm h1 fun h30 => ?_
  obtain ⟨r_27, E_r_27, h⟩ := bind_some h
  refine g_call (m := 0) (al := false) (r := (Enc.enc (r_27 : Bool))) [Enc.enc (e_26 : (List Int)), Enc.enc (x_2 : Int)] (ta_cons (v := (eL e_26)) h29 rfl (Enc.erase_enc (e_26 : (List Int))) (ta_cons (v := (ji x_2)) h30 rfl rfl ta_nil)) (H.c74 _ _ _ E_r_27) H.g74 rfl rfl rfl rfl ?_
  refine gm (rfl : (_ : V) = (jb r_27)) fun h6 => ?_
  refine gq (.nbk (.nsq (rg (gm h7 fun h12 => g1 12 (ji (w64 (x_13 + 1))) h12 fun h13 => ?_))))
  refine gm h13 fun h7 => gq (.nlp ?_)
  exact Hc1 x_25 r_27 (w64 (x_13 + 1)) _ ⟨h0, h1, h4, h5, h6, h7⟩ h
def s_l6Run_j2 (F : Nat) (x_1 : (List (List Int))) (x_2 : Int) (x_11 : Int) (x_12 : Bool) (x_13 : Int) (c1 : Int → Bool → Int → Option Bool) (x_24 : Bool) : Option Bool :=
  bif x_24 then
    s_l6Run_j1 F x_1 x_2 x_12 x_13 c1 (w64 (x_11 + 1))
  else
    s_l6Run_j1 F x_1 x_2 x_12 x_13 c1 x_11
theorem t_f132_j2 (H : H132 D σ F) (x_1 : (List (List Int))) (x_2 : Int) (x_11 : Int) (x_12 : Bool) (x_13 : Int) (c1 : Int → Bool → Int → Option Bool) (Hc1 : ∀ (x_11 : Int) (x_12 : Bool) (x_13 : Int) (s : Nat → V), Facts [(0, (Enc.enc (x_1 : List (List Int)))), (1, (ji x_2)), (4, (jb false)), (5, (ji x_11)), (6, (jb x_12)), (7, (ji x_13))] s → c1 x_11 x_12 x_13 = some r → Run D σ (R132 r) (.run A132_1 [.lp A132_1, .bk 0, .sq A132_7]) s) (x_24 : Bool) (s : Nat → V) (hs : Facts [(0, (Enc.enc (x_1 : List (List Int)))), (1, (ji x_2)), (4, (jb false)), (5, (ji x_11)), (6, (jb x_12)), (7, (ji x_13)), (23, (jb x_24))] s) (h : s_l6Run_j2 F x_1 x_2 x_11 x_12 x_13 c1 x_24 = some r) : Run D σ (R132 r) (.nrm [.sq A132_4, .sq A132_5, .bk 1, .sq A132_6, .lp A132_1, .bk 0, .sq A132_7]) s := by
  unfold s_l6Run_j2 at h
  obtain ⟨h0, h1, h4, h5, h6, h7, h23⟩ := hs
  refine .nsq (run_cond (t := x_24) h23 h (fun h => ?_) (fun h => ?_))
  · refine rg (gm h5 fun h24 => g1 24 (ji (w64 (x_11 + 1))) h24 fun h25 => ?_)
    refine gm h25 fun h5 => gq ?_
    exact t_f132_j1 H x_1 x_2 x_12 x_13 c1 Hc1 (w64 (x_11 + 1)) _ ⟨h0, h1, h4, h5, h6, h7⟩ h
  refine .skip ?_
  exact t_f132_j1 H x_1 x_2 x_12 x_13 c1 Hc1 x_11 _ ⟨h0, h1, h4, h5, h6, h7⟩ h
def s_l6Run_l1 (F : Nat) (x_1 : (List (List Int))) (x_2 : Int)  : Nat → Int → Bool → Int → Option Bool
  | 0, _, _, _ => none
  | k + 1, x_11, x_12, x_13 =>
    bif decide (x_13 < (x_1.length : Int)) then
      (idx x_1 x_13).bind fun e_28 =>
      (s_l1Has F e_28 x_2).bind fun r_29 =>
      bif r_29 then
        s_l6Run_j2 F x_1 x_2 x_11 x_12 x_13 (s_l6Run_l1 F x_1 x_2 k) (!x_12)
      else
        s_l6Run_j2 F x_1 x_2 x_11 x_12 x_13 (s_l6Run_l1 F x_1 x_2 k) false
    else
      some (x_11 == 1)
theorem t_f132_l1 (H : H132 D σ F) (x_1 : (List (List Int))) (x_2 : Int)  : ∀ (k : Nat) (x_11 : Int) (x_12 : Bool) (x_13 : Int) (s : Nat → V), Facts [(0, (Enc.enc (x_1 : List (List Int)))), (1, (ji x_2)), (4, (jb false)), (5, (ji x_11)), (6, (jb x_12)), (7, (ji x_13))] s → s_l6Run_l1 F x_1 x_2 k x_11 x_12 x_13 = some r → Run D σ (R132 r) (.run A132_1 [.lp A132_1, .bk 0, .sq A132_7]) s := by
  intro k
  induction k with
  | zero => intro x_11 x_12 x_13 s _ h; exact nomatch (h : (none : Option _) = some r)
  | succ k ih =>
    intro x_11 x_12 x_13 s hs h
    rw [s_l6Run_l1] at h
    obtain ⟨h0, h1, h4, h5, h6, h7⟩ := hs
    refine .seq (.seq (rg (gm h7 fun h8 => gm h0 fun h9 => gv (ji (x_1.length : Int)) (ev_len (xs := x_1) h9) fun h10 => ?_)))
    refine g2 8 10 (jb (decide (x_13 < (x_1.length : Int)))) h8 h10 fun h11 => ?_
    refine gq (.nsq (run_cond (t := decide (x_13 < (x_1.length : Int))) h11 h (fun h => ?_) (fun h => ?_)))
    · refine .skip (.nsq (.seq (.block (.seq (.seq (rg (gm h0 fun h14 => gm h7 fun h15 => ?_)))))))
      obtain ⟨e_28, E_e_28, h⟩ := bind_some h
      refine gv (.ref .sh 0 [] (eL e_28)) (ev_idx (t := .sh) (lo := 0) (xs := x_1) h14 h15 E_e_28 rfl rfl) fun h16 => ?_
      refine g1 16 (eL e_28) h16 fun h17 => ?_
      refine gm h1 fun h18 => ?_
      obtain ⟨r_29, E_r_29, h⟩ := bind_some h
      refine g_call (m := 0) (al := false) (r := (Enc.enc (r_29 : Bool))) [Enc.enc (e_28 : (List Int)), Enc.enc (x_2 : Int)] (ta_cons (v := (eL e_28)) h17 rfl (Enc.erase_enc (e_28 : (List Int))) (ta_cons (v := (ji x_2)) h18 rfl rfl ta_nil)) (H.c74 _ _ _ E_r_29) H.g74 rfl rfl rfl rfl ?_
      refine gm (rfl : (_ : V) = (jb r_29)) fun h20 => ?_
      refine split_on (c := r_29) h (fun hg7 h => ?_) (fun hg7 h => ?_)
      · refine g_yes (h20.trans (congrArg V.bool hg7)) (gm h6 fun h21 => ?_)
        refine g_yes (h20.trans (congrArg V.bool hg7)) (g1 21 (jb (!x_12)) h21 fun h22 => ?_)
        refine g2 20 22 (jb (!x_12)) (h20.trans (congrArg V.bool hg7)) h22 fun h23 => ?_
        refine gq ?_
        exact t_f132_j2 H x_1 x_2 x_11 x_12 x_13 (s_l6Run_l1 F x_1 x_2 k) ih (!x_12) _ ⟨h0, h1, h4, h5, h6, h7, h23⟩ h
      refine g_no (h20.trans (congrArg V.bool hg7)) ?_
      refine g_no (h20.trans (congrArg V.bool hg7)) ?_
      refine g2 20 22 (jb false) (h20.trans (congrArg V.bool hg7)) (rfl : (_ : V) = (.tup [])) fun h23 => ?_
      refine gq ?_
      exact t_f132_j2 H x_1 x_2 x_11 x_12 x_13 (s_l6Run_l1 F x_1 x_2 k) ih false _ ⟨h0, h1, h4, h5, h6, h7, h23⟩ h
    refine .exit (.esq (.elp (.ebk (.nsq (.seq (rg (gm h5 fun h32 => g1 32 (jb (x_11 == 1)) h32 fun h33 => ?_)))))))
    refine gm h33 fun h4 => gq (.nsq (.ret ?_))
    have hr := Option.some.inj h
    subst hr
    exact rrA (res_tmp h4) rfl
def s_l6Run (F : Nat) (x_1 : (List (List Int))) (x_2 : Int) : Option Bool :=
  s_l6Run_l1 F x_1 x_2 F 0 false 0
theorem t132 (H : H132 D σ F) (x_1 : (List (List Int))) (x_2 : Int) (s : Nat → V) (hs : Facts [(0, (Enc.enc (x_1 : List (List Int)))), (1, (ji x_2))] s) (h : s_l6Run F x_1 x_2 = some r) : Run D σ (R132 r) (.run A132 []) s := by
  unfold s_l6Run at h
  obtain ⟨h0, h1⟩ := hs
  refine .seq (rg (g0 (jb false) fun h4 => ?_))
  refine gq (.nsq (.seq (rg (g0 (ji 0) fun h5 => g0 (jb false) fun h6 => ?_))))
  refine gq (.nsq (.seq (.seq (rg (g0 (ji 0) fun h7 => gq (.nsq (.block (.loop ?_))))))))
  exact t_f132_l1 H x_1 x_2 F 0 false 0 _ ⟨h0, h1, h4, h5, h6, h7⟩ h
end
def e132 (F : Nat) : Ent := ent 132 (fun (x : ((List (List Int)) × Int × Unit)) => s_l6Run F x.1 x.2.1) (fun (r : Bool) => (Enc.enc (r : Bool))) 0 false []
theorem p132 {F : Nat} {x0 : (List (List Int))} {x1 : Int} {r : Bool} (h : s_l6Run F x0 x1 = some r) : (e132 F).den [Enc.enc x0, Enc.enc x1] = some (Enc.enc (r : Bool)) := ent_put (x0, x1, ()) h
theorem o132 {D : Den} {σ : Sig} {F : Nat} (hF : Fits2 Try.prog D σ) (H : H132 D σ F) : (e132 F).Ok Try.prog := by
  refine ok_of (f := 132) (show unk 132 = 132 from rfl) (fun args r h => ?_) ⟨Try.f132, Try.func132, rfl, rfl⟩
  obtain ⟨⟨x0, x1, _⟩, y, rfl, hy, rfl⟩ := da_open h
  exact contract_run hF (by kernel_rfl) Try.func132 rfl c132 (show 2 ≤ Try.f132.ntmps by decide) (t132 H x0 x1 _ ⟨rfl, rfl⟩ hy)
/- loop.example/g01109/spec.l6Together -/
def A133_2 : AC := (.cond (.t 11) .skip (.exit 0))
def A133_4 : AC := (.cond (.t 27) (.seq (.reg [] [((jv 6 (.mov (.k (.bool true)))))] []) .ret) .skip)
def A133_5 : AC := (.reg [] [(jm 12 7), ((jv 13 (.bin .add (.t 12) (jn 1)))), (jm 7 13)] [])
def A133_3 : AC := (.seq (.block 1 (.seq (.reg [] [(jm 14 0), (jm 15 7), ((jv 16 (.idx (.t 14) (.t 15) 1))), ((jv 17 (.load .p (.t 16)))), (jm 18 1), (.mk (some 19) none false (.call (.k (.fn 74 [] [])) [(.t 17), (.t 18)])), (jm 20 19), ((jg 21 20 true (.mov (.t 0)))), ((jg 22 20 true (.mov (.t 7)))), ((jg 23 20 true (.idx (.t 21) (.t 22) 1))), ((jg 24 20 true (.load .p (.t 23)))), ((jg 25 20 true (.mov (.t 2)))), (.mk (some 26) (some (20, true)) false (.call (.k (.fn 74 [] [])) [(.t 24), (.t 25)])), ((jv 27 (.pick (.t 20) (.t 26) (.k (.bool false)))))] []) A133_4)) A133_5)
def A133_1 : AC := (.seq (.seq (.reg [] [(jm 8 7), (jm 9 0), ((jv 10 (.len (.t 9)))), ((jv 11 (.bin .lss (.t 8) (.t 10))))] []) A133_2) A133_3)
def A133_6 : AC := (.seq (.reg [] [((jv 6 (.mov (.k (.bool false)))))] []) .ret)
def A133_8 : AC := (.block 0 (.loop A133_1))
def A133_7 : AC := (.seq (.seq (.reg [] [((jv 7 (.mov (jn 0))))] []) A133_8) A133_6)
def A133 : AC := (.seq (.reg [] [((jv 6 (.mov (.k (.bool false)))))] []) A133_7)
def an133 : List An := []
theorem c133 : cC Try.prog Try.f133.ntmps an133 (Try.f133.body.getD .skip) = some A133 := by kernel_rfl
structure H133 (D : Den) (σ : Sig) (F : Nat) : Prop where
  c74 : ∀ (x0 : (List Int)) (x1 : Int) r, s_l1Has F x0 x1 = some r → D 74 [Enc.enc x0, Enc.enc x1] = some (Enc.enc (r : Bool))
  g74 : σ 74 = some (0, false)
abbrev R133 (r : Bool) : (Nat → V) → Prop := RR Try.prog [.tmp 6] 0 false (Enc.enc (r : Bool))
section
variable {D : Den} {σ : Sig} {F : Nat} {r : Bool}
def s_l6Together_j1 (F : Nat) (x_1 : (List (List Int))) (x_2 : Int) (x_3 : Int) (x_13 : Int) (c1 : Int → Option Bool) (x_27 : Bool) : Option Bool :=
  bif x_27 then
    some true
  else
    c1 (w64 (x_13 + 1))
theorem t_f133_j1 (H : H133 D σ F) (x_1 : (List (List Int))) (x_2 : Int) (x_3 : Int) (x_13 : Int) (c1 : Int → Option Bool) (Hc1 : ∀ (x_13 : Int) (s : Nat → V), Facts [(0, (Enc.enc (x_1 : List (List Int)))), (1, (ji x_2)), (2, (ji x_3)), (6, (jb false)), (7, (ji x_13))] s → c1 x_13 = some r → Run D σ (R133 r) (.run A133_1 [.lp A133_1, .bk 0, .sq A133_6]) s) (x_27 : Bool) (s : Nat → V) (hs : Facts [(0, (Enc.enc (x_1 : List (List Int)))), (1, (ji x_2)), (2, (ji x_3)), (6, (jb false)), (7, (ji x_13)), (27, (jb x_27))] s) (h : s_l6Together_j1 F x_1 x_2 x_3 x_13 c1 x_27 = some r) : Run D σ (R133 r) (.nrm [.sq A133_4, .bk 1, .sq A133_5, .lp A133_1, .bk 0, .sq A133_6]) s := by
  unfold s_l6Together_j1 at h
  obtain ⟨h0, h1, h2, h6, h7, h27⟩ := hs
  refine .nsq (run_cond (t := x_27) h27 h (fun h => ?_) (fun h => ?_))
  · refine .seq (rg (g0 (jb true) fun h6 => ?_))
    refine gq (.nsq (.ret ?_))
    have hr := Option.some.inj h
    subst hr
    exact rrA (res_tmp h6) rfl
  refine .skip (.nbk (.nsq (rg (gm h7 fun h12 => g1 12 (ji (w64 (x_13 + 1))) h12 fun h13 => ?_))))
  refine gm h13 fun h7 => gq (.nlp ?_)
  exact Hc1 (w64 (x_13 + 1)) _ ⟨h0, h1, h2, h6, h7⟩ h
def s_l6Together_l1 (F : Nat) (x_1 : (List (List Int))) (x_2 : Int) (x_3 : Int)  : Nat → Int → Option Bool
  | 0, _ => none
  | k + 1, x_13 =>
    bif decide (x_13 < (x_1.length : Int)) then
      (idx x_1 x_13).bind fun e_28 =>
      (s_l1Has F e_28 x_2).bind fun r_29 =>
      bif r_29 then
        (idx x_1 x_13).bind fun e_30 =>
        (s_l1Has F e_30 x_3).bind fun r_31 =>
        s_l6Together_j1 F x_1 x_2 x_3 x_13 (s_l6Together_l1 F x_1 x_2 x_3 k) r_31
      else
        s_l6Together_j1 F x_1 x_2 x_3 x_13 (s_l6Together_l1 F x_1 x_2 x_3 k) false
    else
      some false
theorem t_f133_l1 (H : H133 D σ F) (x_1 : (List (List Int))) (x_2 : Int) (x_3 : Int)  : ∀ (k : Nat) (x_13 : Int) (s : Nat → V), Facts [(0, (Enc.enc (x_1 : List (List Int)))), (1, (ji x_2)), (2, (ji x_3)), (6, (jb false)), (7, (ji x_13))] s → s_l6Together_l1 F x_1 x_2 x_3 k x_13 = some r → Run D σ (R133 r) (.run A133_1 [.lp A133_1, .bk 0, .sq A133_6]) s := by
  intro k
  induction k with
  | zero => intro x_13 s _ h; exact nomatch (h : (none : Option _) = some r)
  | succ k ih =>
    intro x_13 s hs h
    rw [s_l6Together_l1] at h
    obtain ⟨h0, h1, h2, h6, h7⟩ := hs
    refine .seq (.seq (rg (gm h7 fun h8 => gm h0 fun h9 => gv (ji (x_1.length : Int)) (ev_len (xs := x_1) h9) fun h10 => ?_)))
    refine g2 8 10 (jb (decide (x_13 < (x_1.length : Int)))) h8 h10 fun h11 => ?_
    refine gq (.nsq (run_cond (t := decide (x_13 < (x_1.length : Int))) h11 h (fun h => ?_) (fun h => ?_)))
    · refine .skip (.nsq (.seq (.block (.seq (rg (gm h0 fun h14 => gm h7 fun h15 => ?_))))))
      obtain ⟨e_28, E_e_28, h⟩ := bind_some h
      refine gv (.ref .sh 0 [] (eL e_28)) (ev_idx (t := .sh) (lo := 0) (xs := x_1) h14 h15 E_e_28 rfl rfl) fun h16 => ?_
      refine g1 16 (eL e_28) h16 fun h17 => ?_
      refine gm h1 fun h18 => ?_
      obtain ⟨r_29, E_r_29, h⟩ := bind_some h
      refine g_call (m := 0) (al := false) (r := (Enc.enc (r_29 : Bool))) [Enc.enc (e_28 : (List Int)), Enc.enc (x_2 : Int)] (ta_cons (v := (eL e_28)) h17 rfl (Enc.erase_enc (e_28 : (List Int))) (ta_cons (v := (ji x_2)) h18 rfl rfl ta_nil)) (H.c74 _ _ _ E_r_29) H.g74 rfl rfl rfl rfl ?_
      refine gm (rfl : (_ : V) = (jb r_29)) fun h20 => ?_
      refine split_on (c := r_29) h (fun hg7 h => ?_) (fun hg7 h => ?_)
      · refine g_yes (h20.trans (congrArg V.bool hg7)) (gm h0 fun h21 => ?_)
        refine g_yes (h20.trans (congrArg V.bool hg7)) (gm h7 fun h22 => ?_)
        obtain ⟨e_30, E_e_30, h⟩ := bind_some h
        refine g_yes (h20.trans (congrArg V.bool hg7)) (gv (.ref .sh 0 [] (eL e_30)) (ev_idx (t := .sh) (lo := 0) (xs := x_1) h21 h22 E_e_30 rfl rfl) fun h23 => ?_)
        refine g_yes (h20.trans (congrArg V.bool hg7)) (g1 23 (eL e_30) h23 fun h24 => ?_)
        refine g_yes (h20.trans (congrArg V.bool hg7)) (gm h2 fun h25 => ?_)
        obtain ⟨r_31, E_r_31, h⟩ := bind_some h
        refine g_yes (h20.trans (congrArg V.bool hg7)) (g_call (m := 0) (al := false) (r := (Enc.enc (r_31 : Bool))) [Enc.enc (e_30 : (List Int)), Enc.enc (x_3 : Int)] (ta_cons (v := (eL e_30)) h24 rfl (Enc.erase_enc (e_30 : (List Int))) (ta_cons (v := (ji x_3)) h25 rfl rfl ta_nil)) (H.c74 _ _ _ E_r_31) H.g74 rfl rfl rfl rfl ?_)
        refine g2 20 26 (jb r_31) (h20.trans (congrArg V.bool hg7)) (rfl : (_ : V) = (jb r_31)) fun h27 => ?_
        refine gq ?_
        exact t_f133_j1 H x_1 x_2 x_3 x_13 (s_l6Together_l1 F x_1 x_2 x_3 k) ih r_31 _ ⟨h0, h1, h2, h6, h7, h27⟩ h
      refine g_no (h20.trans (congrArg V.bool hg7)) ?_
      refine g_no (h20.trans (congrArg V.bool hg7)) ?_
      refine g_no (h20.trans (congrArg V.bool hg7)) ?_
      refine g_no (h20.trans (congrArg V.bool hg7)) ?_
      refine g_no (h20.trans (congrArg V.bool hg7)) ?_
      refine g_no (h20.trans (congrArg V.bool hg7)) ?_
      refine g2 20 26 (jb false) (h20.trans (congrArg V.bool hg7)) (rfl : (_ : V) = (.tup [])) fun h27 => ?_
      refine gq ?_
      exact t_f133_j1 H x_1 x_2 x_3 x_13 (s_l6Together_l1 F x_1 x_2 x_3 k) ih false _ ⟨h0, h1, h2, h6, h7, h27⟩ h
    refine .exit (.esq (.elp (.ebk (.nsq (.seq (rg (g0 (jb false) fun h6 => ?_)))))))
    refine gq (.nsq (.ret ?_))
    have hr := Option.some.inj h
    subst hr
    exact rrA (res_tmp h6) rfl
def s_l6Together (F : Nat) (x_1 : (List (List Int))) (x_2 : Int) (x_3 : Int) : Option Bool :=
  s_l6Together_l1 F x_1 x_2 x_3 F 0
theorem t133 (H : H133 D σ F) (x_1 : (List (List Int))) (x_2 : Int) (x_3 : Int) (s : Nat → V) (hs : Facts [(0, (Enc.enc (x_1 : List (List Int)))), (1, (ji x_2)), (2, (ji x_3))] s) (h : s_l6Together F x_1 x_2 x_3 = some r) : Run D σ (R133 r) (.run A133 []) s := by
  unfold s_l6Together at h
  obtain ⟨h0, h1, h2⟩ := hs
  refine .seq (rg (g0 (jb false) fun h6 => ?_))
  refine gq (.nsq (.seq (.seq (rg (g0 (ji 0) fun h7 => gq (.nsq (.block (.loop ?_))))))))
  exact t_f133_l1 H x_1 x_2 x_3 F 0 _ ⟨h0, h1, h2, h6, h7⟩ h
end
def e133 (F : Nat) : Ent := ent 133 (fun (x : ((List (List Int)) × Int × Int × Unit)) => s_l6Together F x.1 x.2.1 x.2.2.1) (fun (r : Bool) => (Enc.enc (r : Bool))) 0 false []
theorem p133 {F : Nat} {x0 : (List (List Int))} {x1 : Int} {x2 : Int} {r : Bool} (h : s_l6Together F x0 x1 x2 = some r) : (e133 F).den [Enc.enc x0, Enc.enc x1, Enc.enc x2] = some (Enc.enc (r : Bool)) := ent_put (x0, x1, x2, ()) h
theorem o133 {D : Den} {σ : Sig} {F : Nat} (hF : Fits2 Try.prog D σ) (H : H133 D σ F) : (e133 F).Ok Try.prog := by
  refine ok_of (f := 133) (show unk 133 = 133 from rfl) (fun args r h => ?_) ⟨Try.f133, Try.func133, rfl, rfl⟩
  obtain ⟨⟨x0, x1, x2, _⟩, y, rfl, hy, rfl⟩ := da_open h
  exact contract_run hF (by kernel_rfl) Try.func133 rfl c133 (show 3 ≤ Try.f133.ntmps by decide) (t133 H x0 x1 x2 _ ⟨rfl, rfl, rfl⟩ hy)
/- loop.example/g01109/spec.l6Decomposes -/
def A73_2 : AC := (.cond (.t 25) .skip (.exit 2))
def A73_4 : AC := (.cond (.t 42) (.seq (.reg [] [((jv 4 (.mov (.k (.bool false)))))] []) .ret) .skip)
def A73_5 : AC := (.reg [] [(jm 26 6), ((jv 27 (.bin .add (.t 26) (jn 1)))), (jm 6 27)] [])
def A73_3 : AC := (.seq (.block 3 (.seq (.reg [] [(jm 28 1), ((jv 29 (.fld (.t 2) 1 1))), ((jv 30 (.load .p (.t 29)))), (jm 31 6), ((jv 32 (.idx (.t 30) (.t 31) 2))), ((jv 33 (.idxA (.t 32) (jn 0) 2 1))), ((jv 34 (.load .s (.t 33)))), ((jv 35 (.fld (.t 2) 1 1))), ((jv 36 (.load .p (.t 35)))), (jm 37 6), ((jv 38 (.idx (.t 36) (.t 37) 2))), ((jv 39 (.idxA (.t 38) (jn 1) 2 1))), ((jv 40 (.load .s (.t 39)))), (.mk (some 41) none false (.call (.k (.fn 133 [] [])) [(.t 28), (.t 34), (.t 40)])), ((jv 42 (.un .not (.t 41))))] []) A73_4)) A73_5)
def A73_1 : AC := (.seq (.seq (.reg [] [(jm 21 6), ((jv 22 (.fld (.t 2) 1 1))), ((jv 23 (.load .p (.t 22)))), ((jv 24 (.len (.t 23)))), ((jv 25 (.bin .lss (.t 21) (.t 24))))] []) A73_2) A73_3)
def A73_6 : AC := (.seq (.reg [] [((jv 4 (.mov (.k (.bool true)))))] []) .ret)
def A73_8 : AC := (.cond (.t 14) .skip (.exit 0))
def A73_10 : AC := (.cond (.t 20) (.seq (.reg [] [((jv 4 (.mov (.k (.bool false)))))] []) .ret) .skip)
def A73_11 : AC := (.reg [] [(jm 15 5), ((jv 16 (.bin .add (.t 15) (jn 1)))), (jm 5 16)] [])
def A73_9 : AC := (.seq (.block 1 (.seq (.reg [] [(jm 17 1), (jm 18 5), (.mk (some 19) none false (.call (.k (.fn 132 [] [])) [(.t 17), (.t 18)])), ((jv 20 (.un .not (.t 19))))] []) A73_10)) A73_11)
def A73_7 : AC := (.seq (.seq (.reg [] [(jm 11 5), ((jv 12 (.fld (.t 2) 0 0))), ((jv 13 (.load .s (.t 12)))), ((jv 14 (.bin .lss (.t 11) (.t 13))))] []) A73_8) A73_9)
def A73_13 : AC := (.block 2 (.loop A73_1))
def A73_12 : AC := (.seq (.seq (.reg [] [((jv 6 (.mov (jn 0))))] []) A73_13) A73_6)
def A73_15 : AC := (.cond (.t 10) (.seq (.reg [] [((jv 4 (.mov (.k (.bool false)))))] []) .ret) .skip)
def A73_17 : AC := (.block 0 (.loop A73_7))
def A73_16 : AC := (.seq (.seq (.reg [] [((jv 5 (.mov (jn 0))))] []) A73_17) A73_12)
def A73_14 : AC := (.seq (.seq (.reg [] [((jv 7 (.load (.ag [.s, .p]) (.t 2)))), (jm 8 1), (.mk (some 9) none false (.call (.k (.fn 131 [] [])) [(.t 7), (.t 8)])), ((jv 10 (.un .not (.t 9))))] []) A73_15) A73_16)
def A73 : AC := (.seq (.reg [.clr [2]] [(.mk (some 2) none false (.box (.t 0))), ((jv 4 (.mov (.k (.bool false)))))] []) A73_14)
def an73 : List An := [{ id := 0, pre := [.clr [2]], ep := [], lin := [], sp := [] }]
theorem c73 : cC Try.prog Try.f73.ntmps an73 (Try.f73.body.getD .skip) = some A73 := by kernel_rfl
structure H73 (D : Den) (σ : Sig) (F : Nat) : Prop where
  c131 : ∀ (x0 : (Int × (List (Int × Int)))) (x1 : (List (List Int))) r, s_l6Bags F x0 x1 = some r → D 131 [Enc.enc x0, Enc.enc x1] = some (Enc.enc (r : Bool))
  g131 : σ 131 = some (0, false)
  c132 : ∀ (x0 : (List (List Int))) (x1 : Int) r, s_l6Run F x0 x1 = some r → D 132 [Enc.enc x0, Enc.enc x1] = some (Enc.enc (r : Bool))
  g132 : σ 132 = some (0, false)
  c133 : ∀ (x0 : (List (List Int))) (x1 : Int) (x2 : Int) r, s_l6Together F x0 x1 x2 = some r → D 133 [Enc.enc x0, Enc.enc x1, Enc.enc x2] = some (Enc.enc (r : Bool))
  g133 : σ 133 = some (0, false)
abbrev R73 (r : Bool) : (Nat → V) → Prop := RR Try.prog [.tmp 4] 0 false (Enc.enc (r : Bool))
section
variable {D : Den} {σ : Sig} {F : Nat} {r : Bool}
def s_l6Decomposes_l1 (F : Nat) (x_2 : (List (List Int))) (x_1 : (Int × (List (Int × Int))))  : Nat → Int → Option Bool
  | 0, _ => none
  | k + 1, x_11 =>
    bif decide (x_11 < (x_1.2.length : Int)) then
      (idx x_1.2 x_11).bind fun e_15 =>
      (idx x_1.2 x_11).bind fun e_16 =>
      (s_l6Together F x_2 e_15.1 e_16.2).bind fun r_17 =>
      bif (!r_17) then
        some false
      else
        (s_l6Decomposes_l1 F x_2 x_1 k) (w64 (x_11 + 1))
    else
      some true
theorem t_f73_l1 (H : H73 D σ F) (x_2 : (List (List Int))) (x_1 : (Int × (List (Int × Int))))  : ∀ (k : Nat) (x_11 : Int) (s : Nat → V), Facts [(1, (Enc.enc (x_2 : List (List Int)))), (2, (.ref (.bx 2) 0 [] (.agg [(ji x_1.1), (Enc.enc (x_1.2 : List (Int × Int)))]))), (4, (jb false)), (6, (ji x_11))] s → s_l6Decomposes_l1 F x_2 x_1 k x_11 = some r → Run D σ (R73 r) (.run A73_1 [.lp A73_1, .bk 2, .sq A73_6]) s := by
  intro k
  induction k with
  | zero => intro x_11 s _ h; exact nomatch (h : (none : Option _) = some r)
  | succ k ih =>
    intro x_11 s hs h
    rw [s_l6Decomposes_l1] at h
    obtain ⟨h1, h2, h4, h6⟩ := hs
    refine .seq (.seq (rg (gm h6 fun h21 => g1 2 (.ref (.bx 2) 0 [1] (Enc.enc (x_1.2 : List (Int × Int)))) h2 fun h22 => ?_)))
    refine g1 22 (Enc.enc (x_1.2 : List (Int × Int))) h22 fun h23 => ?_
    refine gv (ji (x_1.2.length : Int)) (ev_len (xs := x_1.2) h23) fun h24 => ?_
    refine g2 21 24 (jb (decide (x_11 < (x_1.2.length : Int)))) h21 h24 fun h25 => ?_
    refine gq (.nsq (run_cond (t := decide (x_11 < (x_1.2.length : Int))) h25 h (fun h => ?_) (fun h => ?_)))
    · refine .skip (.nsq (.seq (.block (.seq (rg (gm h1 fun h28 => g1 2 (.ref (.bx 2) 0 [1] (Enc.enc (x_1.2 : List (Int × Int)))) h2 fun h29 => ?_))))))
      refine g1 29 (Enc.enc (x_1.2 : List (Int × Int))) h29 fun h30 => ?_
      refine gm h6 fun h31 => ?_
      obtain ⟨e_15, E_e_15, h⟩ := bind_some h
      refine gv (.ref .sh 0 [] (.agg [(ji e_15.1), (ji e_15.2)])) (ev_idx (t := .sh) (lo := 0) (xs := x_1.2) h30 h31 E_e_15 rfl rfl) fun h32 => ?_
      refine g1 32 (.ref .sh 0 [0] (ji e_15.1)) h32 fun h33 => ?_
      refine g1 33 (ji e_15.1) h33 fun h34 => ?_
      refine g1 2 (.ref (.bx 2) 0 [1] (Enc.enc (x_1.2 : List (Int × Int)))) h2 fun h35 => ?_
      refine g1 35 (Enc.enc (x_1.2 : List (Int × Int))) h35 fun h36 => ?_
      refine gm h6 fun h37 => ?_
      obtain ⟨e_16, E_e_16, h⟩ := bind_some h
      refine gv (.ref .sh 0 [] (.agg [(ji e_16.1), (ji e_16.2)])) (ev_idx (t := .sh) (lo := 0) (xs := x_1.2) h36 h37 E_e_16 rfl rfl) fun h38 => ?_
      refine g1 38 (.ref .sh 0 [1] (ji e_16.2)) h38 fun h39 => ?_
      refine g1 39 (ji e_16.2) h39 fun h40 => ?_
      obtain ⟨r_17, E_r_17, h⟩ := bind_some h
      refine g_call (m := 0) (al := false) (r := (Enc.enc (r_17 : Bool))) [Enc.enc (x_2 : (List (List Int))), Enc.enc (e_15.1 : Int), Enc.enc (e_16.2 : Int)] (ta_cons (v := (Enc.enc (x_2 : List (List Int)))) h28 rfl (Enc.erase_enc (x_2 : (List (List Int)))) (ta_cons (v := (ji e_15.1)) h34 rfl rfl (ta_cons (v := (ji e_16.2)) h40 rfl rfl ta_nil))) (H.c133 _ _ _ _ E_r_17) H.g133 rfl rfl rfl rfl ?_
      refine g1 41 (jb (!r_17)) (rfl : (_ : V) = (jb r_17)) fun h42 => ?_
      refine gz [(1, _), (2, _), (4, _), (6, _), (42, _)] ⟨h1, h2, h4, h6, h42⟩ ?_
      rintro s ⟨h1, h2, h4, h6, h42⟩
      refine .nsq (run_cond (t := (!r_17)) h42 h (fun h => ?_) (fun h => ?_))
      · refine .seq (rg (g0 (jb false) fun h4 => ?_))
        refine gq (.nsq (.ret ?_))
        have hr := Option.some.inj h
        subst hr
        exact rrA (res_tmp h4) rfl
      refine .skip (.nbk (.nsq (rg (gm h6 fun h26 => g1 26 (ji (w64 (x_11 + 1))) h26 fun h27 => ?_))))
      refine gm h27 fun h6 => gq (.nlp ?_)
      exact ih (w64 (x_11 + 1)) _ ⟨h1, h2, h4, h6⟩ h
    refine .exit (.esq (.elp (.ebk (.nsq (.seq (rg (g0 (jb true) fun h4 => ?_)))))))
    refine gq (.nsq (.ret ?_))
    have hr := Option.some.inj h
    subst hr
    exact rrA (res_tmp h4) rfl
def s_l6Decomposes_l2 (F : Nat) (x_2 : (List (List Int))) (x_1 : (Int × (List (Int × Int))))  : Nat → Int → Option Bool
  | 0, _ => none
  | k + 1, x_5 =>
    bif decide (x_5 < x_1.1) then
      (s_l6Run F x_2 x_5).bind fun r_7 =>
      bif (!r_7) then
        some false
      else
        (s_l6Decomposes_l2 F x_2 x_1 k) (w64 (x_5 + 1))
    else
      s_l6Decomposes_l1 F x_2 x_1 F 0
theorem t_f73_l2 (H : H73 D σ F) (x_2 : (List (List Int))) (x_1 : (Int × (List (Int × Int))))  : ∀ (k : Nat) (x_5 : Int) (s : Nat → V), Facts [(1, (Enc.enc (x_2 : List (List Int)))), (2, (.ref (.bx 2) 0 [] (.agg [(ji x_1.1), (Enc.enc (x_1.2 : List (Int × Int)))]))), (4, (jb false)), (5, (ji x_5))] s → s_l6Decomposes_l2 F x_2 x_1 k x_5 = some r → Run D σ (R73 r) (.run A73_7 [.lp A73_7, .bk 0, .sq A73_12]) s := by
  intro k
  induction k with
  | zero => intro x_5 s _ h; exact nomatch (h : (none : Option _) = some r)
  | succ k ih =>
    intro x_5 s hs h
    rw [s_l6Decomposes_l2] at h
    obtain ⟨h1, h2, h4, h5⟩ := hs
    refine .seq (.seq (rg (gm h5 fun h11 => g1 2 (.ref (.bx 2) 0 [0] (ji x_1.1)) h2 fun h12 => ?_)))
    refine g1 12 (ji x_1.1) h12 fun h13 => ?_
    refine g2 11 13 (jb (decide (x_5 < x_1.1))) h11 h13 fun h14 => ?_
    refine gq (.nsq (run_cond (t := decide (x_5 < x_1.1)) h14 h (fun h => ?_) (fun h => ?_)))
    · refine .skip (.nsq (.seq (.block (.seq (rg (gm h1 fun h17 => gm h5 fun h18 => ?_))))))
      obtain ⟨r_7, E_r_7, h⟩ := bind_some h
      refine g_call (m := 0) (al := false) (r := (Enc.enc (r_7 : Bool))) [Enc.enc (x_2 : (List (List Int))), Enc.enc (x_5 : Int)] (ta_cons (v := (Enc.enc (x_2 : List (List Int)))) h17 rfl (Enc.erase_enc (x_2 : (List (List Int)))) (ta_cons (v := (ji x_5)) h18 rfl rfl ta_nil)) (H.c132 _ _ _ E_r_7) H.g132 rfl rfl rfl rfl ?_
      refine g1 19 (jb (!r_7)) (rfl : (_ : V) = (jb r_7)) fun h20 => ?_
      refine gq (.nsq (run_cond (t := (!r_7)) h20 h (fun h => ?_) (fun h => ?_)))
      · refine .seq (rg (g0 (jb false) fun h4 => ?_))
        refine gq (.nsq (.ret ?_))
        have hr := Option.some.inj h
        subst hr
        exact rrA (res_tmp h4) rfl
      refine .skip (.nbk (.nsq (rg (gm h5 fun h15 => g1 15 (ji (w64 (x_5 + 1))) h15 fun h16 => ?_))))
      refine gm h16 fun h5 => gq (.nlp ?_)
      exact ih (w64 (x_5 + 1)) _ ⟨h1, h2, h4, h5⟩ h
    refine .exit (.esq (.elp (.ebk (.nsq (.seq (.seq (rg (g0 (ji 0) fun h6 => gq (.nsq (.block (.loop ?_)))))))))))
    exact t_f73_l1 H x_2 x_1 F 0 _ ⟨h1, h2, h4, h6⟩ h
def s_l6Decomposes (F : Nat) (x_1 : (Int × (List (Int × Int)))) (x_2 : (List (List Int))) : Option Bool :=
  (s_l6Bags F x_1 x_2).bind fun r_3 =>
  bif (!r_3) then
    some false
  else
    s_l6Decomposes_l2 F x_2 x_1 F 0
theorem t73 (H : H73 D σ F) (x_1 : (Int × (List (Int × Int)))) (x_2 : (List (List Int))) (s : Nat → V) (hs : Facts [(0, (.agg [(ji x_1.1), (Enc.enc (x_1.2 : List (Int × Int)))])), (1, (Enc.enc (x_2 : List (List Int))))] s) (h : s_l6Decomposes F x_1 x_2 = some r) : Run D σ (R73 r) (.run A73 []) s := by
  unfold s_l6Decomposes at h
  obtain ⟨h0, h1⟩ := hs
  refine .seq (run_reg ?_)
  refine e_clr ?_
  refine ez [(0, _), (1, _), (2, _)] ⟨(keep_clear (pk := [2]) h0 rfl (map_agg (maps_cons mi (maps_cons me maps_nil)))), (keep_clear (pk := [2]) h1 rfl me), (gone_clear (pk := [2]) (t := 2) rfl)⟩ ?_
  rintro s ⟨h0, h1, h2⟩
  refine g_box (.agg [(ji x_1.1), (Enc.enc (x_1.2 : List (Int × Int)))]) (rd_of h0 rfl) h2 rfl ?_
  refine g0 (jb false) fun h4 => ?_
  refine gq (.nsq (.seq (.seq (rg (g1 2 (.agg [(ji x_1.1), (Enc.enc (x_1.2 : List (Int × Int)))]) (rfl : (_ : V) = (.ref (.bx 2) 0 [] (.agg [(ji x_1.1), (Enc.enc (x_1.2 : List (Int × Int)))]))) fun h7 => ?_)))))
  refine gm h1 fun h8 => ?_
  obtain ⟨r_3, E_r_3, h⟩ := bind_some h
  refine g_call (m := 0) (al := false) (r := (Enc.enc (r_3 : Bool))) [Enc.enc (x_1 : (Int × (List (Int × Int)))), Enc.enc (x_2 : (List (List Int)))] (ta_cons (v := (.agg [(ji x_1.1), (Enc.enc (x_1.2 : List (Int × Int)))])) h7 rfl (Enc.erase_enc (x_1 : (Int × (List (Int × Int))))) (ta_cons (v := (Enc.enc (x_2 : List (List Int)))) h8 rfl (Enc.erase_enc (x_2 : (List (List Int)))) ta_nil)) (H.c131 _ _ _ E_r_3) H.g131 rfl rfl rfl rfl ?_
  refine g1 9 (jb (!r_3)) (rfl : (_ : V) = (jb r_3)) fun h10 => ?_
  refine gq (.nsq (run_cond (t := (!r_3)) h10 h (fun h => ?_) (fun h => ?_)))
  · refine .seq (rg (g0 (jb false) fun h4 => ?_))
    refine gq (.nsq (.ret ?_))
    have hr := Option.some.inj h
    subst hr
    exact rrA (res_tmp h4) rfl
  refine .skip (.nsq (.seq (.seq (rg (g0 (ji 0) fun h5 => gq (.nsq (.block (.loop ?_))))))))
  exact t_f73_l2 H x_2 x_1 F 0 _ ⟨h1, rfl, h4, h5⟩ h
end
def e73 (F : Nat) : Ent := ent 73 (fun (x : ((Int × (List (Int × Int))) × (List (List Int)) × Unit)) => s_l6Decomposes F x.1 x.2.1) (fun (r : Bool) => (Enc.enc (r : Bool))) 0 false []
theorem p73 {F : Nat} {x0 : (Int × (List (Int × Int)))} {x1 : (List (List Int))} {r : Bool} (h : s_l6Decomposes F x0 x1 = some r) : (e73 F).den [Enc.enc x0, Enc.enc x1] = some (Enc.enc (r : Bool)) := ent_put (x0, x1, ()) h
theorem o73 {D : Den} {σ : Sig} {F : Nat} (hF : Fits2 Try.prog D σ) (H : H73 D σ F) : (e73 F).Ok Try.prog := by
  refine ok_of (f := 73) (show unk 73 = 73 from rfl) (fun args r h => ?_) ⟨Try.f73, Try.func73, rfl, rfl⟩
  obtain ⟨⟨x0, x1, _⟩, y, rfl, hy, rfl⟩ := da_open h
  exact contract_run hF (by kernel_rfl) Try.func73 rfl c73 (show 2 ≤ Try.f73.ntmps by decide) (t73 H x0 x1 _ ⟨rfl, rfl⟩ hy)
/- loop.example/g01109/spec.LayoutOfBags -/
def A26_2 : AC := (.cond (.t 23) .skip (.exit 0))
def A26_6 : AC := (.cond (.t 32) .skip (.exit 2))
def A26_8 : AC := (.cond (.t 44) (.reg [.clr [53, 54]] [(jm 45 6), (jm 46 1), (jm 47 7), ((jv 48 (.idx (.t 46) (.t 47) 1))), ((jv 49 (.load .p (.t 48)))), (jm 50 8), ((jv 51 (.idx (.t 49) (.t 50) 1))), ((jv 52 (.load .s (.t 51)))), (.mk (some 53) none false (.lit (.int .i64 (.ofNat 0)) 1 [(0, 0, (.t 52))])), (.mk (some 54) none false (.app .s (.t 45) (.t 53))), (jm 6 54)] [.home 54 6]) .skip)
def A26_9 : AC := (.reg [] [(jm 33 8), ((jv 34 (.bin .add (.t 33) (jn 1)))), (jm 8 34)] [])
def A26_7 : AC := (.seq (.block 3 (.seq (.reg [] [(jm 35 6), (jm 36 1), (jm 37 7), ((jv 38 (.idx (.t 36) (.t 37) 1))), ((jv 39 (.load .p (.t 38)))), (jm 40 8), ((jv 41 (.idx (.t 39) (.t 40) 1))), ((jv 42 (.load .s (.t 41)))), (.mk (some 43) none false (.call (.k (.fn 74 [] [])) [(.t 35), (.t 42)])), ((jv 44 (.un .not (.t 43))))] []) A26_8)) A26_9)
def A26_5 : AC := (.seq (.seq (.reg [] [(jm 26 8), (jm 27 1), (jm 28 7), ((jv 29 (.idx (.t 27) (.t 28) 1))), ((jv 30 (.load .p (.t 29)))), ((jv 31 (.len (.t 30)))), ((jv 32 (.bin .lss (.t 26) (.t 31))))] []) A26_6) A26_7)
def A26_4 : AC := (.block 2 (.loop A26_5))
def A26_10 : AC := (.reg [] [(jm 24 7), ((jv 25 (.bin .add (.t 24) (jn 1)))), (jm 7 25)] [])
def A26_3 : AC := (.seq (.block 1 (.seq (.reg [] [((jv 8 (.mov (jn 0))))] []) A26_4)) A26_10)
def A26_1 : AC := (.seq (.seq (.reg [] [(jm 20 7), (jm 21 1), ((jv 22 (.len (.t 21)))), ((jv 23 (.bin .lss (.t 20) (.t 22))))] []) A26_2) A26_3)
def A26_11 : AC := (.seq (.reg [] [(jm 55 6), (jm 4 55), ((jv 5 (.mov (.k (.bool true)))))] [.home 6 4]) .ret)
def A26_12 : AC := (.cond (.t 18) (.seq (.reg [] [(jm 19 6), (jm 4 19), ((jv 5 (.mov (.k (.bool false)))))] []) .ret) .skip)
def A26_14 : AC := (.block 0 (.loop A26_1))
def A26_13 : AC := (.seq (.seq (.reg [] [((jv 7 (.mov (jn 0))))] []) A26_14) A26_11)
def A26_16 : AC := (.seq (.seq (.reg [] [((jv 10 (.load (.ag [.s, .p]) (.t 2)))), (.mk (some 11) none false (.call (.k (.fn 72 [] [])) [(.t 10)])), ((jv 12 (.un .not (.t 11)))), (jm 13 12), ((jg 14 13 false (.load (.ag [.s, .p]) (.t 2)))), ((jg 15 13 false (.mov (.t 1)))), (.mk (some 16) (some (13, false)) false (.call (.k (.fn 73 [] [])) [(.t 14), (.t 15)])), ((jg 17 13 false (.un .not (.t 16)))), ((jv 18 (.pick (.t 13) (.k (.bool true)) (.t 17))))] []) A26_12) A26_13)
def A26_15 : AC := (.seq (.reg [.clr [9]] [(.mk (some 9) none false (.lit (.int .i64 (.ofNat 0)) 0 [])), (jm 6 9)] [.home 9 6]) A26_16)
def A26 : AC := (.seq (.reg [.clr [2]] [(.mk (some 2) none false (.box (.t 0))), ((jv 4 (.mov (.k (.sl .nl .s 0 []))))), ((jv 5 (.mov (.k (.bool false)))))] []) A26_15)
def an26 : List An := [{ id := 0, pre := [.clr [2]], ep := [], lin := [], sp := [] }, { id := 1, pre := [.clr [9]], ep := [.home 9 6], lin := [], sp := [] }, { id := 11, pre := [.clr [53, 54]], ep := [.home 54 6], lin := [], sp := [] }, { id := 12, pre := [], ep := [.home 6 4], lin := [], sp := [] }]
theorem c26 : cC Try.prog Try.f26.ntmps an26 (Try.f26.body.getD .skip) = some A26 := by kernel_rfl
structure H26 (D : Den) (σ : Sig) (F : Nat) : Prop where
  c72 : ∀ (x0 : (Int × (List (Int × Int)))) r, s_l2Good F x0 = some r → D 72 [Enc.enc x0] = some (Enc.enc (r : Bool))
  g72 : σ 72 = some (0, false)
  c73 : ∀ (x0 : (Int × (List (Int × Int)))) (x1 : (List (List Int))) r, s_l6Decomposes F x0 x1 = some r → D 73 [Enc.enc x0, Enc.enc x1] = some (Enc.enc (r : Bool))
  g73 : σ 73 = some (0, false)
  c74 : ∀ (x0 : (List Int)) (x1 : Int) r, s_l1Has F x0 x1 = some r → D 74 [Enc.enc x0, Enc.enc x1] = some (Enc.enc (r : Bool))
  g74 : σ 74 = some (0, false)
abbrev R26 (r : ((List Int) × Bool)) : (Nat → V) → Prop := RR Try.prog [.tmp 4, .tmp 5] 0 false (.tup [Enc.enc (r.1 : (List Int)), Enc.enc (r.2 : Bool)])
section
variable {D : Den} {σ : Sig} {F : Nat} {r : ((List Int) × Bool)}
def s_LayoutOfBags_j1 (F : Nat) (x_2 : (List (List Int))) (x_42 : Int) (x_90 : Int) (c1 : (List Int) → Int → Option ((List Int) × Bool)) (c4 : (List Int) → Int → Option ((List Int) × Bool)) (x_109 : (List Int)) : Option ((List Int) × Bool) :=
  c4 x_109 (w64 (x_90 + 1))
theorem t_f26_j1 (H : H26 D σ F) (x_2 : (List (List Int))) (x_42 : Int) (x_90 : Int) (c1 : (List Int) → Int → Option ((List Int) × Bool)) (Hc1 : ∀ (x_41 : (List Int)) (x_42 : Int) (s : Nat → V), Facts [(1, (Enc.enc (x_2 : List (List Int)))), (4, (.sl .nl (Enc.shp Int) 0 [])), (5, (jb false)), (6, (oI 6 [] (.of x_41))), (7, (ji x_42))] s → c1 x_41 x_42 = some r → Run D σ (R26 r) (.run A26_1 [.lp A26_1, .bk 0, .sq A26_11]) s) (c4 : (List Int) → Int → Option ((List Int) × Bool)) (Hc4 : ∀ (x_89 : (List Int)) (x_90 : Int) (s : Nat → V), Facts [(1, (Enc.enc (x_2 : List (List Int)))), (4, (.sl .nl (Enc.shp Int) 0 [])), (5, (jb false)), (6, (oI 6 [] (.of x_89))), (7, (ji x_42)), (8, (ji x_90))] s → c4 x_89 x_90 = some r → Run D σ (R26 r) (.run A26_5 [.lp A26_5, .bk 2, .bk 1, .sq A26_10, .lp A26_1, .bk 0, .sq A26_11]) s) (x_109 : (List Int)) (s : Nat → V) (hs : Facts [(1, (Enc.enc (x_2 : List (List Int)))), (4, (.sl .nl (Enc.shp Int) 0 [])), (5, (jb false)), (6, (oI 6 [] (.of x_109))), (7, (ji x_42)), (8, (ji x_90))] s) (h : s_LayoutOfBags_j1 F x_2 x_42 x_90 c1 c4 x_109 = some r) : Run D σ (R26 r) (.nrm [.bk 3, .sq A26_9, .lp A26_5, .bk 2, .bk 1, .sq A26_10, .lp A26_1, .bk 0, .sq A26_11]) s := by
  unfold s_LayoutOfBags_j1 at h
  obtain ⟨h1, h4, h5, h6, h7, h8⟩ := hs
  refine .nbk (.nsq (rg (gm h8 fun h33 => g1 33 (ji (w64 (x_90 + 1))) h33 fun h34 => ?_)))
  refine gm h34 fun h8 => gq (.nlp ?_)
  exact Hc4 x_109 (w64 (x_90 + 1)) _ ⟨h1, h4, h5, h6, h7, h8⟩ h
def s_LayoutOfBags_l1 (F : Nat) (x_2 : (List (List Int))) (x_42 : Int) (c1 : (List Int) → Int → Option ((List Int) × Bool)) : Nat → (List Int) → Int → Option ((List Int) × Bool)
  | 0, _, _ => none
  | k + 1, x_89, x_90 =>
    (idx x_2 x_42).bind fun e_102 =>
    bif decide (x_90 < (e_102.length : Int)) then
      (idx x_2 x_42).bind fun e_103 =>
      (idx e_103 x_90).bind fun e_104 =>
      (s_l1Has F x_89 e_104).bind fun r_105 =>
      bif (!r_105) then
        (idx x_2 x_42).bind fun e_110 =>
        (idx e_110 x_90).bind fun e_111 =>
        (appL x_89 [e_111]).bind fun ap_112 =>
        s_LayoutOfBags_j1 F x_2 x_42 x_90 c1 (s_LayoutOfBags_l1 F x_2 x_42 c1 k) ap_112
      else
        s_LayoutOfBags_j1 F x_2 x_42 x_90 c1 (s_LayoutOfBags_l1 F x_2 x_42 c1 k) x_89
    else
      c1 x_89 (w64 (x_42 + 1))
theorem t_f26_l1 (H : H26 D σ F) (x_2 : (List (List Int))) (x_42 : Int) (c1 : (List Int) → Int → Option ((List Int) × Bool)) (Hc1 : ∀ (x_41 : (List Int)) (x_42 : Int) (s : Nat → V), Facts [(1, (Enc.enc (x_2 : List (List Int)))), (4, (.sl .nl (Enc.shp Int) 0 [])), (5, (jb false)), (6, (oI 6 [] (.of x_41))), (7, (ji x_42))] s → c1 x_41 x_42 = some r → Run D σ (R26 r) (.run A26_1 [.lp A26_1, .bk 0, .sq A26_11]) s) : ∀ (k : Nat) (x_89 : (List Int)) (x_90 : Int) (s : Nat → V), Facts [(1, (Enc.enc (x_2 : List (List Int)))), (4, (.sl .nl (Enc.shp Int) 0 [])), (5, (jb false)), (6, (oI 6 [] (.of x_89))), (7, (ji x_42)), (8, (ji x_90))] s → s_LayoutOfBags_l1 F x_2 x_42 c1 k x_89 x_90 = some r → Run D σ (R26 r) (.run A26_5 [.lp A26_5, .bk 2, .bk 1, .sq A26_10, .lp A26_1, .bk 0, .sq A26_11]) s := by
  intro k
  induction k with
  | zero => intro x_89 x_90 s _ h; exact nomatch (h : (none : Option _) = some r)
  | succ k ih =>
    intro x_89 x_90 s hs h
    rw [s_LayoutOfBags_l1] at h
    obtain ⟨h1, h4, h5, h6, h7, h8⟩ := hs
    refine .seq (.seq (rg (gm h8 fun h26 => gm h1 fun h27 => gm h7 fun h28 => ?_)))
    obtain ⟨e_102, E_e_102, h⟩ := bind_some h
    refine gv (.ref .sh 0 [] (eL e_102)) (ev_idx (t := .sh) (lo := 0) (xs := x_2) h27 h28 E_e_102 rfl rfl) fun h29 => ?_
    refine g1 29 (eL e_102) h29 fun h30 => ?_
    refine gv (ji (e_102.length : Int)) (ev_len (xs := e_102) h30) fun h31 => ?_
    refine g2 26 31 (jb (decide (x_90 < (e_102.length : Int)))) h26 h31 fun h32 => ?_
    refine gq (.nsq (run_cond (t := decide (x_90 < (e_102.length : Int))) h32 h (fun h => ?_) (fun h => ?_)))
    · refine .skip (.nsq (.seq (.block (.seq (rg (gm h6 fun h35 => gm h1 fun h36 => gm h7 fun h37 => ?_))))))
      obtain ⟨e_103, E_e_103, h⟩ := bind_some h
      refine gv (.ref .sh 0 [] (eL e_103)) (ev_idx (t := .sh) (lo := 0) (xs := x_2) h36 h37 E_e_103 rfl rfl) fun h38 => ?_
      refine g1 38 (eL e_103) h38 fun h39 => ?_
      refine gm h8 fun h40 => ?_
      obtain ⟨e_104, E_e_104, h⟩ := bind_some h
      refine gv (.ref .sh 0 [] (ji e_104)) (ev_idx (t := .sh) (lo := 0) (xs := e_103) h39 h40 E_e_104 rfl rfl) fun h41 => ?_
      refine g1 41 (ji e_104) h41 fun h42 => ?_
      obtain ⟨r_105, E_r_105, h⟩ := bind_some h
      refine g_call (m := 0) (al := false) (r := (Enc.enc (r_105 : Bool))) [Enc.enc (x_89 : (List Int)), Enc.enc (e_104 : Int)] (ta_cons (v := (oI 6 [] (.of x_89))) h35 rfl (erase_encO (o := .of x_89)) (ta_cons (v := (ji e_104)) h42 rfl rfl ta_nil)) (H.c74 _ _ _ E_r_105) H.g74 rfl rfl rfl rfl ?_
      refine g1 43 (jb (!r_105)) (rfl : (_ : V) = (jb r_105)) fun h44 => ?_
      refine gq (.nsq (run_cond (t := (!r_105)) h44 h (fun h => ?_) (fun h => ?_)))
      · refine run_reg ?_
        refine e_clr ?_
        refine ez [(1, _), (4, _), (5, _), (6, _), (7, _), (8, _), (53, _), (54, _)] ⟨(keep_clear (pk := [53, 54]) h1 rfl me), (keep_clear (pk := [53, 54]) h4 rfl rfl), (keep_clear (pk := [53, 54]) h5 rfl mb), (keep_clear (pk := [53, 54]) h6 rfl (map_encO (r := 6) (p := []) rfl rfl)), (keep_clear (pk := [53, 54]) h7 rfl mi), (keep_clear (pk := [53, 54]) h8 rfl mi), (gone_clear (pk := [53, 54]) (t := 53) rfl), (gone_clear (pk := [53, 54]) (t := 54) rfl)⟩ ?_
        rintro s ⟨h1, h4, h5, h6, h7, h8, h53, h54⟩
        refine gm h6 fun h45 => gm h1 fun h46 => gm h7 fun h47 => ?_
        obtain ⟨e_110, E_e_110, h⟩ := bind_some h
        refine gv (.ref .sh 0 [] (eL e_110)) (ev_idx (t := .sh) (lo := 0) (xs := x_2) h46 h47 E_e_110 rfl rfl) fun h48 => ?_
        refine g1 48 (eL e_110) h48 fun h49 => ?_
        refine gm h8 fun h50 => ?_
        obtain ⟨e_111, E_e_111, h⟩ := bind_some h
        refine gv (.ref .sh 0 [] (ji e_111)) (ev_idx (t := .sh) (lo := 0) (xs := e_110) h49 h50 E_e_111 rfl rfl) fun h51 => ?_
        refine g1 51 (ji e_111) h51 fun h52 => ?_
        refine g_litL [(52, (ji e_111))] [Enc.enc (e_111 : Int)] h52 rfl rfl h53 ?_
        obtain ⟨ap_112, E_ap_112, h⟩ := bind_some h
        refine g_app (q := 6) (p := []) (o := (.of (x_89 : List Int))) (ys := ([e_111] : List Int)) (t2 := (.at 53 [])) (lo2 := 0) h45 rfl rfl h54 (appN_L (o := (.of (x_89 : List Int))) E_ap_112 trivial) (fun s_56 ha_56 => ?_)
        refine gm (rfl : (_ : V) = (oI 54 [] (.of ap_112))) fun h6 => ?_
        refine g_end ?_
        refine e_home (r := 54) (x := 6) (v := _) h6 rfl (fun s_57 hg_57 => ?_)
        refine ez [(1, (Enc.enc (x_2 : List (List Int)))), (4, (.sl .nl (Enc.shp Int) 0 [])), (5, (jb false)), (6, (oI 6 [] (.of ap_112))), (7, (ji x_42)), (8, (ji x_90))] ⟨(hg_57 1 _ _ (show s_56 1 = (Enc.enc (x_2 : List (List Int))) from keep_app ha_56 h1 me) me), (hg_57 4 _ (.sl .nl (Enc.shp Int) 0 []) (show s_56 4 = (.sl .nl (Enc.shp Int) 0 []) from keep_app ha_56 h4 rfl) rfl), (hg_57 5 _ _ (show s_56 5 = (jb false) from keep_app ha_56 h5 mb) mb), (hg_57 6 _ _ h6 (map_encO (r := 54) (p := []) rfl rfl)), (hg_57 7 _ _ (show s_56 7 = (ji x_42) from keep_app ha_56 h7 mi) mi), (hg_57 8 _ _ (show s_56 8 = (ji x_90) from keep_app ha_56 h8 mi) mi)⟩ ?_
        rintro s ⟨h1, h4, h5, h6, h7, h8⟩
        exact t_f26_j1 H x_2 x_42 x_90 c1 Hc1 (s_LayoutOfBags_l1 F x_2 x_42 c1 k) ih ap_112 _ ⟨h1, h4, h5, h6, h7, h8⟩ h
      refine .skip ?_
      exact t_f26_j1 H x_2 x_42 x_90 c1 Hc1 (s_LayoutOfBags_l1 F x_2 x_42 c1 k) ih x_89 _ ⟨h1, h4, h5, h6, h7, h8⟩ h
    refine .exit (.esq (.elp (.ebk (.nbk (.nsq (rg (gm h7 fun h24 => g1 24 (ji (w64 (x_42 + 1))) h24 fun h25 => ?_)))))))
    refine gm h25 fun h7 => gq (.nlp ?_)
    exact Hc1 x_89 (w64 (x_42 + 1)) _ ⟨h1, h4, h5, h6, h7⟩ h
def s_LayoutOfBags_l2 (F : Nat) (x_2 : (List (List Int)))  : Nat → (List Int) → Int → Option ((List Int) × Bool)
  | 0, _, _ => none
  | k + 1, x_41, x_42 =>
    bif decide (x_42 < (x_2.length : Int)) then
      s_LayoutOfBags_l1 F x_2 x_42 (s_LayoutOfBags_l2 F x_2 k) F x_41 0
    else
      some (x_41, true)
theorem t_f26_l2 (H : H26 D σ F) (x_2 : (List (List Int)))  : ∀ (k : Nat) (x_41 : (List Int)) (x_42 : Int) (s : Nat → V), Facts [(1, (Enc.enc (x_2 : List (List Int)))), (4, (.sl .nl (Enc.shp Int) 0 [])), (5, (jb false)), (6, (oI 6 [] (.of x_41))), (7, (ji x_42))] s → s_LayoutOfBags_l2 F x_2 k x_41 x_42 = some r → Run D σ (R26 r) (.run A26_1 [.lp A26_1, .bk 0, .sq A26_11]) s := by
  intro k
  induction k with
  | zero => intro x_41 x_42 s _ h; exact nomatch (h : (none : Option _) = some r)
  | succ k ih =>
    intro x_41 x_42 s hs h
    rw [s_LayoutOfBags_l2] at h
    obtain ⟨h1, h4, h5, h6, h7⟩ := hs
    refine .seq (.seq (rg (gm h7 fun h20 => gm h1 fun h21 => gv (ji (x_2.length : Int)) (ev_len (xs := x_2) h21) fun h22 => ?_)))
    refine g2 20 22 (jb (decide (x_42 < (x_2.length : Int)))) h20 h22 fun h23 => ?_
    refine gq (.nsq (run_cond (t := decide (x_42 < (x_2.length : Int))) h23 h (fun h => ?_) (fun h => ?_)))
    · refine .skip (.nsq (.seq (.block (.seq (rg (g0 (ji 0) fun h8 => gq (.nsq (.block (.loop ?_)))))))))
      exact t_f26_l1 H x_2 x_42 (s_LayoutOfBags_l2 F x_2 k) ih F x_41 0 _ ⟨h1, h4, h5, h6, h7, h8⟩ h
    refine .exit (.esq (.elp (.ebk (.nsq (.seq (rg (gm h6 fun h55 => gm h55 fun h4 => g0 (jb true) fun h5 => ?_)))))))
    refine g_end ?_
    refine e_home (r := 6) (x := 4) (v := _) h4 rfl (fun s_58 hg_58 => ?_)
    refine ez [(4, (oI 4 [] (.of x_41))), (5, (jb true))] ⟨(hg_58 4 _ _ h4 (map_encO (r := 6) (p := []) rfl rfl)), (hg_58 5 _ _ h5 mb)⟩ ?_
    rintro s ⟨h4, h5⟩
    refine .nsq (.ret ?_)
    have hr := Option.some.inj h
    subst hr
    exact rrB (res_tmp h4) (res_tmp h5) (fin_retF (fin_tup (fins_cons (fin_own (o := .of x_41)) (fins_cons (fin_enc (x := (true : Bool))) fins_nil))) (mine_tup (mines_cons (mine_own rfl) (mines_cons rfl mines_nil))))
def s_LayoutOfBags_j2 (F : Nat) (x_2 : (List (List Int)))  (x_5 : Bool) : Option ((List Int) × Bool) :=
  bif x_5 then
    some ([], false)
  else
    s_LayoutOfBags_l2 F x_2 F [] 0
theorem t_f26_j2 (H : H26 D σ F) (x_2 : (List (List Int)))  (x_5 : Bool) (s : Nat → V) (hs : Facts [(1, (Enc.enc (x_2 : List (List Int)))), (4, (.sl .nl (Enc.shp Int) 0 [])), (5, (jb false)), (6, (oI 6 [] (.of []))), (18, (jb x_5))] s) (h : s_LayoutOfBags_j2 F x_2  x_5 = some r) : Run D σ (R26 r) (.nrm [.sq A26_12, .sq A26_13]) s := by
  unfold s_LayoutOfBags_j2 at h
  obtain ⟨h1, h4, h5, h6, h18⟩ := hs
  refine .nsq (run_cond (t := x_5) h18 h (fun h => ?_) (fun h => ?_))
  · refine .seq (rg (gm h6 fun h19 => gm h19 fun h4 => g0 (jb false) fun h5 => ?_))
    refine gq (.nsq (.ret ?_))
    have hr := Option.some.inj h
    subst hr
    exact rrB (res_tmp h4) (res_tmp h5) (fin_retF (fin_tup (fins_cons (fin_own (o := .of [])) (fins_cons (fin_enc (x := (false : Bool))) fins_nil))) (mine_tup (mines_cons (mine_own rfl) (mines_cons rfl mines_nil))))
  refine .skip (.nsq (.seq (.seq (rg (g0 (ji 0) fun h7 => gq (.nsq (.block (.loop ?_))))))))
  exact t_f26_l2 H x_2 F [] 0 _ ⟨h1, h4, h5, h6, h7⟩ h
def s_LayoutOfBags (F : Nat) (x_1 : (Int × (List (Int × Int)))) (x_2 : (List (List Int))) : Option ((List Int) × Bool) :=
  (s_l2Good F x_1).bind fun r_113 =>
  bif (!r_113) then
    s_LayoutOfBags_j2 F x_2 true
  else
    (s_l6Decomposes F x_1 x_2).bind fun r_114 =>
    s_LayoutOfBags_j2 F x_2 (!r_114)
theorem t26 (H : H26 D σ F) (x_1 : (Int × (List (Int × Int)))) (x_2 : (List (List Int))) (s : Nat → V) (hs : Facts [(0, (.agg [(ji x_1.1), (Enc.enc (x_1.2 : List (Int × Int)))])), (1, (Enc.enc (x_2 : List (List Int))))] s) (h : s_LayoutOfBags F x_1 x_2 = some r) : Run D σ (R26 r) (.run A26 []) s := by
  unfold s_LayoutOfBags at h
  obtain ⟨h0, h1⟩ := hs
  refine .seq (run_reg ?_)
  refine e_clr ?_
  refine ez [(0, _), (1, _), (2, _)] ⟨(keep_clear (pk := [2]) h0 rfl (map_agg (maps_cons mi (maps_cons me maps_nil)))), (keep_clear (pk := [2]) h1 rfl me), (gone_clear (pk := [2]) (t := 2) rfl)⟩ ?_
  rintro s ⟨h0, h1, h2⟩
  refine g_box (.agg [(ji x_1.1), (Enc.enc (x_1.2 : List (Int × Int)))]) (rd_of h0 rfl) h2 rfl ?_
  refine g0 (.sl .nl (Enc.shp Int) 0 []) fun h4 => ?_
  refine g0 (jb false) fun h5 => ?_
  refine gq (.nsq (.seq (run_reg ?_)))
  refine e_clr ?_
  refine ez [(1, _), (2, _), (4, _), (5, _), (9, _)] ⟨(keep_clear (pk := [9]) h1 rfl me), (keep_clear (pk := [9]) rfl rfl (map_bx rfl (map_agg (maps_cons mi (maps_cons me maps_nil))))), (keep_clear (pk := [9]) h4 rfl rfl), (keep_clear (pk := [9]) h5 rfl mb), (gone_clear (pk := [9]) (t := 9) rfl)⟩ ?_
  rintro s ⟨h1, h2, h4, h5, h9⟩
  refine g_litL [] [] trivial rfl rfl h9 ?_
  refine gm (rfl : (_ : V) = (oI 9 [] (.of []))) fun h6 => ?_
  refine g_end ?_
  refine e_home (r := 9) (x := 6) (v := _) h6 rfl (fun s_3 hg_3 => ?_)
  refine ez [(1, (Enc.enc (x_2 : List (List Int)))), (2, (.ref (.bx 2) 0 [] (.agg [(ji x_1.1), (Enc.enc (x_1.2 : List (Int × Int)))]))), (4, (.sl .nl (Enc.shp Int) 0 [])), (5, (jb false)), (6, (oI 6 [] (.of [])))] ⟨(hg_3 1 _ _ h1 me), (hg_3 2 _ _ h2 (map_bx rfl (map_agg (maps_cons mi (maps_cons me maps_nil))))), (hg_3 4 _ (.sl .nl (Enc.shp Int) 0 []) h4 rfl), (hg_3 5 _ _ h5 mb), (hg_3 6 _ _ h6 (map_encO (r := 9) (p := []) rfl rfl))⟩ ?_
  rintro s ⟨h1, h2, h4, h5, h6⟩
  refine .nsq (.seq (.seq (rg (g1 2 (.agg [(ji x_1.1), (Enc.enc (x_1.2 : List (Int × Int)))]) h2 fun h10 => ?_))))
  obtain ⟨r_113, E_r_113, h⟩ := bind_some h
  refine g_call (m := 0) (al := false) (r := (Enc.enc (r_113 : Bool))) [Enc.enc (x_1 : (Int × (List (Int × Int))))] (ta_cons (v := (.agg [(ji x_1.1), (Enc.enc (x_1.2 : List (Int × Int)))])) h10 rfl (Enc.erase_enc (x_1 : (Int × (List (Int × Int))))) ta_nil) (H.c72 _ _ E_r_113) H.g72 rfl rfl rfl rfl ?_
  refine g1 11 (jb (!r_113)) (rfl : (_ : V) = (jb r_113)) fun h12 => ?_
  refine gm h12 fun h13 => split_on (c := (!r_113)) h (fun hg4 h => ?_) (fun hg4 h => ?_)
  · refine g_no (h13.trans (congrArg V.bool hg4)) ?_
    refine g_no (h13.trans (congrArg V.bool hg4)) ?_
    refine g_no (h13.trans (congrArg V.bool hg4)) ?_
    refine g_no (h13.trans (congrArg V.bool hg4)) ?_
    refine g2 13 17 (jb true) (h13.trans (congrArg V.bool hg4)) (rfl : (_ : V) = (.tup [])) fun h18 => ?_
    refine gq ?_
    exact t_f26_j2 H x_2 true _ ⟨h1, h4, h5, h6, h18⟩ h
  refine g_yes (h13.trans (congrArg V.bool hg4)) (g1 2 (.agg [(ji x_1.1), (Enc.enc (x_1.2 : List (Int × Int)))]) h2 fun h14 => ?_)
  refine g_yes (h13.trans (congrArg V.bool hg4)) (gm h1 fun h15 => ?_)
  obtain ⟨r_114, E_r_114, h⟩ := bind_some h
  refine g_yes (h13.trans (congrArg V.bool hg4)) (g_call (m := 0) (al := false) (r := (Enc.enc (r_114 : Bool))) [Enc.enc (x_1 : (Int × (List (Int × Int)))), Enc.enc (x_2 : (List (List Int)))] (ta_cons (v := (.agg [(ji x_1.1), (Enc.enc (x_1.2 : List (Int × Int)))])) h14 rfl (Enc.erase_enc (x_1 : (Int × (List (Int × Int))))) (ta_cons (v := (Enc.enc (x_2 : List (List Int)))) h15 rfl (Enc.erase_enc (x_2 : (List (List Int)))) ta_nil)) (H.c73 _ _ _ E_r_114) H.g73 rfl rfl rfl rfl ?_)
  refine g_yes (h13.trans (congrArg V.bool hg4)) (g1 16 (jb (!r_114)) (rfl : (_ : V) = (jb r_114)) fun h17 => ?_)
  refine g2 13 17 (jb (!r_114)) (h13.trans (congrArg V.bool hg4)) h17 fun h18 => ?_
  refine gq ?_
  exact t_f26_j2 H x_2 (!r_114) _ ⟨h1, h4, h5, h6, h18⟩ h
end
def e26 (F : Nat) : Ent := ent 26 (fun (x : ((Int × (List (Int × Int))) × (List (List Int)) × Unit)) => s_LayoutOfBags F x.1 x.2.1) (fun (r : ((List Int) × Bool)) => (.tup [Enc.enc (r.1 : (List Int)), Enc.enc (r.2 : Bool)])) 0 false []
theorem p26 {F : Nat} {x0 : (Int × (List (Int × Int)))} {x1 : (List (List Int))} {r : ((List Int) × Bool)} (h : s_LayoutOfBags F x0 x1 = some r) : (e26 F).den [Enc.enc x0, Enc.enc x1] = some (.tup [Enc.enc (r.1 : (List Int)), Enc.enc (r.2 : Bool)]) := ent_put (x0, x1, ()) h
theorem o26 {D : Den} {σ : Sig} {F : Nat} (hF : Fits2 Try.prog D σ) (H : H26 D σ F) : (e26 F).Ok Try.prog := by
  refine ok_of (f := 26) (show unk 26 = 26 from rfl) (fun args r h => ?_) ⟨Try.f26, Try.func26, rfl, rfl⟩
  obtain ⟨⟨x0, x1, _⟩, y, rfl, hy, rfl⟩ := da_open h
  exact contract_run hF (by kernel_rfl) Try.func26 rfl c26 (show 2 ≤ Try.f26.ntmps by decide) (t26 H x0 x1 _ ⟨rfl, rfl⟩ hy)
/- loop.example/g01109/impl.within -/
def A105_1 : AC := (.seq (.reg [] [(jm 7 0), (jm 8 1), ((jv 9 (.bin .geq (.t 7) (.t 8)))), (jm 10 9), ((jg 11 10 true (.mov (.t 0)))), ((jg 12 10 true (.mov (.t 2)))), ((jg 13 10 true (.bin .leq (.t 11) (.t 12)))), ((jv 14 (.pick (.t 10) (.t 13) (.k (.bool false))))), (jm 6 14)] []) .ret)
def A105 : AC := (.seq (.reg [] [((jv 6 (.mov (.k (.bool false)))))] []) A105_1)
def an105 : List An := []
theorem c105 : cC Try.prog Try.f105.ntmps an105 (Try.f105.body.getD .skip) = some A105 := by kernel_rfl
structure H105 (D : Den) (σ : Sig) (F : Nat) : Prop where
  mk ::
abbrev R105 (r : Bool) : (Nat → V) → Prop := RR Try.prog [.tmp 6] 0 false (Enc.enc (r : Bool))
section
variable {D : Den} {σ : Sig} {F : Nat} {r : Bool}
def i_within (F : Nat) (x_1 : Int) (x_2 : Int) (x_3 : Int) : Option Bool :=
  bif decide (x_1 ≥ x_2) then
    some (decide (x_1 ≤ x_3))
  else
    some false
theorem t105 (H : H105 D σ F) (x_1 : Int) (x_2 : Int) (x_3 : Int) (s : Nat → V) (hs : Facts [(0, (ji x_1)), (1, (ji x_2)), (2, (ji x_3))] s) (h : i_within F x_1 x_2 x_3 = some r) : Run D σ (R105 r) (.run A105 []) s := by
  unfold i_within at h
  obtain ⟨h0, h1, h2⟩ := hs
  refine .seq (rg (g0 (jb false) fun h6 => ?_))
  refine gq (.nsq (.seq (rg (gm h0 fun h7 => gm h1 fun h8 => g2 7 8 (jb (decide (x_1 ≥ x_2))) h7 h8 fun h9 => ?_))))
  refine gm h9 fun h10 => split_on (c := decide (x_1 ≥ x_2)) h (fun hg4 h => ?_) (fun hg4 h => ?_)
  · refine g_yes (h10.trans (congrArg V.bool hg4)) (gm h0 fun h11 => ?_)
    refine g_yes (h10.trans (congrArg V.bool hg4)) (gm h2 fun h12 => ?_)
    refine g_yes (h10.trans (congrArg V.bool hg4)) (g2 11 12 (jb (decide (x_1 ≤ x_3))) h11 h12 fun h13 => ?_)
    refine g2 10 13 (jb (decide (x_1 ≤ x_3))) (h10.trans (congrArg V.bool hg4)) h13 fun h14 => ?_
    refine gm h14 fun h6 => gq (.nsq (.ret ?_))
    have hr := Option.some.inj h
    subst hr
    exact rrA (res_tmp h6) rfl
  refine g_no (h10.trans (congrArg V.bool hg4)) ?_
  refine g_no (h10.trans (congrArg V.bool hg4)) ?_
  refine g_no (h10.trans (congrArg V.bool hg4)) ?_
  refine g2 10 13 (jb false) (h10.trans (congrArg V.bool hg4)) (rfl : (_ : V) = (.tup [])) fun h14 => ?_
  refine gm h14 fun h6 => gq (.nsq (.ret ?_))
  have hr := Option.some.inj h
  subst hr
  exact rrA (res_tmp h6) rfl
end
def e105 (F : Nat) : Ent := ent 105 (fun (x : (Int × Int × Int × Unit)) => i_within F x.1 x.2.1 x.2.2.1) (fun (r : Bool) => (Enc.enc (r : Bool))) 0 false []
theorem p105 {F : Nat} {x0 : Int} {x1 : Int} {x2 : Int} {r : Bool} (h : i_within F x0 x1 x2 = some r) : (e105 F).den [Enc.enc x0, Enc.enc x1, Enc.enc x2] = some (Enc.enc (r : Bool)) := ent_put (x0, x1, x2, ()) h
theorem o105 {D : Den} {σ : Sig} {F : Nat} (hF : Fits2 Try.prog D σ) (H : H105 D σ F) : (e105 F).Ok Try.prog := by
  refine ok_of (f := 105) (show unk 105 = 105 from rfl) (fun args r h => ?_) ⟨Try.f105, Try.func105, rfl, rfl⟩
  obtain ⟨⟨x0, x1, x2, _⟩, y, rfl, hy, rfl⟩ := da_open h
  exact contract_run hF (by kernel_rfl) Try.func105 rfl c105 (show 3 ≤ Try.f105.ntmps by decide) (t105 H x0 x1 x2 _ ⟨rfl, rfl, rfl⟩ hy)
/- cmp.isNaN[int] -/
def A180_1 : AC := (.seq (.reg [] [(jm 3 0), (jm 4 0), ((jv 5 (.bin .neq (.t 3) (.t 4)))), (jm 2 5)] []) .ret)
def A180 : AC := (.seq (.reg [] [((jv 2 (.mov (.k (.bool false)))))] []) A180_1)
def an180 : List An := []
theorem c180 : cC Try.prog Try.f180.ntmps an180 (Try.f180.body.getD .skip) = some A180 := by kernel_rfl
structure H180 (D : Den) (σ : Sig) (F : Nat) : Prop where
  mk ::
abbrev R180 (r : Bool) : (Nat → V) → Prop := RR Try.prog [.tmp 2] 0 false (Enc.enc (r : Bool))
section
variable {D : Den} {σ : Sig} {F : Nat} {r : Bool}
def cmp_isNaN_int (F : Nat) (x_1 : Int) : Option Bool :=
  some (x_1 != x_1)
theorem t180 (H : H180 D σ F) (x_1 : Int) (s : Nat → V) (hs : Facts [(0, (ji x_1))] s) (h : cmp_isNaN_int F x_1 = some r) : Run D σ (R180 r) (.run A180 []) s := by
  unfold cmp_isNaN_int at h
  have h0 := hs
  refine .seq (rg (g0 (jb false) fun h2 => ?_))
  refine gq (.nsq (.seq (rg (gm h0 fun h3 => gm h0 fun h4 => g2 3 4 (jb (x_1 != x_1)) h3 h4 fun h5 => ?_))))
  refine gm h5 fun h2 => gq (.nsq (.ret ?_))
  have hr := Option.some.inj h
  subst hr
  exact rrA (res_tmp h2) rfl
end
def e180 (F : Nat) : Ent := ent 180 (fun (x : (Int × Unit)) => cmp_isNaN_int F x.1) (fun (r : Bool) => (Enc.enc (r : Bool))) 0 false []
theorem p180 {F : Nat} {x0 : Int} {r : Bool} (h : cmp_isNaN_int F x0 = some r) : (e180 F).den [Enc.enc x0] = some (Enc.enc (r : Bool)) := ent_put (x0, ()) h
theorem o180 {D : Den} {σ : Sig} {F : Nat} (hF : Fits2 Try.prog D σ) (H : H180 D σ F) : (e180 F).Ok Try.prog := by
  refine ok_of (f := 180) (show unk 180 = 180 from rfl) (fun args r h => ?_) ⟨Try.f180, Try.func180, rfl, rfl⟩
  obtain ⟨⟨x0, _⟩, y, rfl, hy, rfl⟩ := da_open h
  exact contract_run hF (by kernel_rfl) Try.func180 rfl c180 (show 1 ≤ Try.f180.ntmps by decide) (t180 H x0 _ rfl hy)
/- cmp.Compare[int] -/
def A153_5 : AC := (.cond (.t 12) (.seq (.reg [] [((jv 4 (.mov (jn 0))))] []) .ret) .skip)
def A153_6 : AC := (.seq (.reg [] [((jv 4 (.mov (jn (-1)))))] []) .ret)
def A153_4 : AC := (.cond (.t 11) (.seq (.seq (.reg [] [(jm 12 6)] []) A153_5) A153_6) .skip)
def A153_8 : AC := (.cond (.t 13) (.seq (.reg [] [((jv 4 (.mov (jn 1))))] []) .ret) .skip)
def A153_10 : AC := (.cond (.t 16) (.seq (.reg [] [((jv 4 (.mov (jn (-1)))))] []) .ret) .skip)
def A153_12 : AC := (.cond (.t 19) (.seq (.reg [] [((jv 4 (.mov (jn 1))))] []) .ret) .skip)
def A153_13 : AC := (.seq (.reg [] [((jv 4 (.mov (jn 0))))] []) .ret)
def A153_11 : AC := (.seq (.seq (.reg [] [(jm 17 0), (jm 18 1), ((jv 19 (.bin .gtr (.t 17) (.t 18))))] []) A153_12) A153_13)
def A153_9 : AC := (.seq (.seq (.reg [] [(jm 14 0), (jm 15 1), ((jv 16 (.bin .lss (.t 14) (.t 15))))] []) A153_10) A153_11)
def A153_7 : AC := (.seq (.seq (.reg [] [(jm 13 6)] []) A153_8) A153_9)
def A153_3 : AC := (.seq (.seq (.reg [] [(jm 11 5)] []) A153_4) A153_7)
def A153_2 : AC := (.seq (.reg [] [(jm 9 1), (.mk (some 10) none false (.call (.k (.fn 180 [] [])) [(.t 9)])), (jm 6 10)] []) A153_3)
def A153_1 : AC := (.seq (.reg [] [(jm 7 0), (.mk (some 8) none false (.call (.k (.fn 180 [] [])) [(.t 7)])), (jm 5 8)] []) A153_2)
def A153 : AC := (.seq (.reg [] [((jv 4 (.mov (jn 0))))] []) A153_1)
def an153 : List An := []
theorem c153 : cC Try.prog Try.f153.ntmps an153 (Try.f153.body.getD .skip) = some A153 := by kernel_rfl
structure H153 (D : Den) (σ : Sig) (F : Nat) : Prop where
  c180 : ∀ (x0 : Int) r, cmp_isNaN_int F x0 = some r → D 180 [Enc.enc x0] = some (Enc.enc (r : Bool))
  g180 : σ 180 = some (0, false)
abbrev R153 (r : Int) : (Nat → V) → Prop := RR Try.prog [.tmp 4] 0 false (Enc.enc (r : Int))
section
variable {D : Den} {σ : Sig} {F : Nat} {r : Int}
def cmp_Compare_int (F : Nat) (x_1 : Int) (x_2 : Int) : Option Int :=
  (cmp_isNaN_int F x_1).bind fun r_3 =>
  (cmp_isNaN_int F x_2).bind fun r_4 =>
  bif r_3 then
    bif r_4 then
      some 0
    else
      some (-1)
  else
    bif r_4 then
      some 1
    else
      bif decide (x_1 < x_2) then
        some (-1)
      else
        bif decide (x_1 > x_2) then
          some 1
        else
          some 0
theorem t153 (H : H153 D σ F) (x_1 : Int) (x_2 : Int) (s : Nat → V) (hs : Facts [(0, (ji x_1)), (1, (ji x_2))] s) (h : cmp_Compare_int F x_1 x_2 = some r) : Run D σ (R153 r) (.run A153 []) s := by
  unfold cmp_Compare_int at h
  obtain ⟨h0, h1⟩ := hs
  refine .seq (rg (g0 (ji 0) fun h4 => gq (.nsq (.seq (rg (gm h0 fun h7 => ?_))))))
  obtain ⟨r_3, E_r_3, h⟩ := bind_some h
  refine g_call (m := 0) (al := false) (r := (Enc.enc (r_3 : Bool))) [Enc.enc (x_1 : Int)] (ta_cons (v := (ji x_1)) h7 rfl rfl ta_nil) (H.c180 _ _ E_r_3) H.g180 rfl rfl rfl rfl ?_
  refine gm (rfl : (_ : V) = (jb r_3)) fun h5 => ?_
  refine gq (.nsq (.seq (rg (gm h1 fun h9 => ?_))))
  obtain ⟨r_4, E_r_4, h⟩ := bind_some h
  refine g_call (m := 0) (al := false) (r := (Enc.enc (r_4 : Bool))) [Enc.enc (x_2 : Int)] (ta_cons (v := (ji x_2)) h9 rfl rfl ta_nil) (H.c180 _ _ E_r_4) H.g180 rfl rfl rfl rfl ?_
  refine gm (rfl : (_ : V) = (jb r_4)) fun h6 => ?_
  refine gq (.nsq (.seq (.seq (rg (gm h5 fun h11 => gq (.nsq (run_cond (t := r_3) h11 h (fun h => ?_) (fun h => ?_))))))))
  · refine .seq (.seq (rg (gm h6 fun h12 => gq (.nsq (run_cond (t := r_4) h12 h (fun h => ?_) (fun h => ?_))))))
    · refine .seq (rg (g0 (ji 0) fun h4 => gq (.nsq (.ret ?_))))
      have hr := Option.some.inj h
      subst hr
      exact rrA (res_tmp h4) rfl
    refine .skip (.nsq (.seq (rg (g0 (ji (-1)) fun h4 => ?_))))
    refine gq (.nsq (.ret ?_))
    have hr := Option.some.inj h
    subst hr
    exact rrA (res_tmp h4) rfl
  refine .skip (.nsq (.seq (.seq (rg (gm h6 fun h13 => gq (.nsq (run_cond (t := r_4) h13 h (fun h => ?_) (fun h => ?_))))))))
  · refine .seq (rg (g0 (ji 1) fun h4 => gq (.nsq (.ret ?_))))
    have hr := Option.some.inj h
    subst hr
    exact rrA (res_tmp h4) rfl
  refine .skip (.nsq (.seq (.seq (rg (gm h0 fun h14 => gm h1 fun h15 => g2 14 15 (jb (decide (x_1 < x_2))) h14 h15 fun h16 => ?_)))))
  refine gq (.nsq (run_cond (t := decide (x_1 < x_2)) h16 h (fun h => ?_) (fun h => ?_)))
  · refine .seq (rg (g0 (ji (-1)) fun h4 => ?_))
    refine gq (.nsq (.ret ?_))
    have hr := Option.some.inj h
    subst hr
    exact rrA (res_tmp h4) rfl
  refine .skip (.nsq (.seq (.seq (rg (gm h0 fun h17 => gm h1 fun h18 => g2 17 18 (jb (decide (x_1 > x_2))) h17 h18 fun h19 => ?_)))))
  refine gq (.nsq (run_cond (t := decide (x_1 > x_2)) h19 h (fun h => ?_) (fun h => ?_)))
  · refine .seq (rg (g0 (ji 1) fun h4 => gq (.nsq (.ret ?_))))
    have hr := Option.some.inj h
    subst hr
    exact rrA (res_tmp h4) rfl
  refine .skip (.nsq (.seq (rg (g0 (ji 0) fun h4 => gq (.nsq (.ret ?_))))))
  have hr := Option.some.inj h
  subst hr
  exact rrA (res_tmp h4) rfl
end
def e153 (F : Nat) : Ent := ent 153 (fun (x : (Int × Int × Unit)) => cmp_Compare_int F x.1 x.2.1) (fun (r : Int) => (Enc.enc (r : Int))) 0 false []
theorem p153 {F : Nat} {x0 : Int} {x1 : Int} {r : Int} (h : cmp_Compare_int F x0 x1 = some r) : (e153 F).den [Enc.enc x0, Enc.enc x1] = some (Enc.enc (r : Int)) := ent_put (x0, x1, ()) h
theorem o153 {D : Den} {σ : Sig} {F : Nat} (hF : Fits2 Try.prog D σ) (H : H153 D σ F) : (e153 F).Ok Try.prog := by
  refine ok_of (f := 153) (show unk 153 = 153 from rfl) (fun args r h => ?_) ⟨Try.f153, Try.func153, rfl, rfl⟩
  obtain ⟨⟨x0, x1, _⟩, y, rfl, hy, rfl⟩ := da_open h
  exact contract_run hF (by kernel_rfl) Try.func153 rfl c153 (show 2 ≤ Try.f153.ntmps by decide) (t153 H x0 x1 _ ⟨rfl, rfl⟩ hy)
/- slices.Compare[[]int,int] -/
def A94_5 : AC := (.cond (.t 19) (.seq (.reg [] [((jv 4 (.mov (jn 1))))] []) .ret) .skip)
def A94_9 : AC := (.cond (.t 28) (.seq (.reg [] [(jm 29 8), (jm 4 29)] []) .ret) .skip)
def A94_8 : AC := (.seq (.reg [] [(jm 27 8), ((jv 28 (.bin .neq (.t 27) (jn 0))))] []) A94_9)
def A94_7 : AC := (.seq (.reg [] [(jm 24 6), (jm 25 7), (.mk (some 26) none false (.call (.k (.fn 153 [] [])) [(.t 24), (.t 25)])), (jm 8 26)] []) A94_8)
def A94_6 : AC := (.seq (.reg [] [(jm 20 1), (jm 21 5), ((jv 22 (.idx (.t 20) (.t 21) 1))), ((jv 23 (.load .s (.t 22)))), (jm 7 23)] []) A94_7)
def A94_4 : AC := (.seq (.seq (.reg [] [(jm 16 5), (jm 17 1), ((jv 18 (.len (.t 17)))), ((jv 19 (.bin .geq (.t 16) (.t 18))))] []) A94_5) A94_6)
def A94_10 : AC := (.reg [] [((jv 30 (.bin .add (.t 11) (jn 1)))), (jm 11 30)] [])
def A94_3 : AC := (.seq (.block 1 (.seq (.reg [] [(jm 13 11), ((jv 14 (.idx (.t 9) (.t 11) 1))), ((jv 15 (.load .s (.t 14)))), (jm 5 13), (jm 6 15)] []) A94_4)) A94_10)
def A94_2 : AC := (.seq (.cond (.t 12) .skip (.exit 0)) A94_3)
def A94_1 : AC := (.seq (.reg [] [((jv 12 (.bin .lss (.t 11) (.t 10))))] []) A94_2)
def A94_12 : AC := (.cond (.t 35) (.seq (.reg [] [((jv 4 (.mov (jn (-1)))))] []) .ret) .skip)
def A94_13 : AC := (.seq (.reg [] [((jv 4 (.mov (jn 0))))] []) .ret)
def A94_11 : AC := (.seq (.seq (.reg [] [(jm 31 0), ((jv 32 (.len (.t 31)))), (jm 33 1), ((jv 34 (.len (.t 33)))), ((jv 35 (.bin .lss (.t 32) (.t 34))))] []) A94_12) A94_13)
def A94_15 : AC := (.block 0 (.loop A94_1))
def A94_14 : AC := (.seq (.seq (.reg [] [(jm 9 0), ((jv 10 (.len (.t 9)))), ((jv 11 (.mov (jn 0))))] []) A94_15) A94_11)
def A94 : AC := (.seq (.reg [] [((jv 4 (.mov (jn 0))))] []) A94_14)
def an94 : List An := []
theorem c94 : cC Try.prog Try.f94.ntmps an94 (Try.f94.body.getD .skip) = some A94 := by kernel_rfl
structure H94 (D : Den) (σ : Sig) (F : Nat) : Prop where
  c153 : ∀ (x0 : Int) (x1 : Int) r, cmp_Compare_int F x0 x1 = some r → D 153 [Enc.enc x0, Enc.enc x1] = some (Enc.enc (r : Int))
  g153 : σ 153 = some (0, false)
abbrev R94 (r : Int) : (Nat → V) → Prop := RR Try.prog [.tmp 4] 0 false (Enc.enc (r : Int))
section
variable {D : Den} {σ : Sig} {F : Nat} {r : Int}
def slices_Compare_l1 (F : Nat) (x_1 : (List Int)) (x_2 : (List Int))  : Nat → Int → Option Int
  | 0, _ => none
  | k + 1, x_6 =>
    bif decide (x_6 < (x_1.length : Int)) then
      (idx x_1 x_6).bind fun e_10 =>
      bif decide (x_6 ≥ (x_2.length : Int)) then
        some 1
      else
        (idx x_2 x_6).bind fun e_11 =>
        (cmp_Compare_int F e_10 e_11).bind fun r_12 =>
        bif (r_12 != 0) then
          some r_12
        else
          (slices_Compare_l1 F x_1 x_2 k) (w64 (x_6 + 1))
    else
      bif decide ((x_1.length : Int) < (x_2.length : Int)) then
        some (-1)
      else
        some 0
theorem t_f94_l1 (H : H94 D σ F) (x_1 : (List Int)) (x_2 : (List Int))  : ∀ (k : Nat) (x_6 : Int) (s : Nat → V), Facts [(0, (eL x_1)), (1, (eL x_2)), (4, (ji 0)), (9, (eL x_1)), (10, (ji (x_1.length : Int))), (11, (ji x_6))] s → slices_Compare_l1 F x_1 x_2 k x_6 = some r → Run D σ (R94 r) (.run A94_1 [.lp A94_1, .bk 0, .sq A94_11]) s := by
  intro k
  induction k with
  | zero => intro x_6 s _ h; exact nomatch (h : (none : Option _) = some r)
  | succ k ih =>
    intro x_6 s hs h
    rw [slices_Compare_l1] at h
    obtain ⟨h0, h1, h4, h9, h10, h11⟩ := hs
    refine .seq (rg (g2 11 10 (jb (decide (x_6 < (x_1.length : Int)))) h11 h10 fun h12 => ?_))
    refine gq (.nsq (.seq (run_cond (t := decide (x_6 < (x_1.length : Int))) h12 h (fun h => ?_) (fun h => ?_))))
    · refine .skip (.nsq (.seq (.block (.seq (rg (gm h11 fun h13 => ?_))))))
      obtain ⟨e_10, E_e_10, h⟩ := bind_some h
      refine gv (.ref .sh 0 [] (ji e_10)) (ev_idx (t := .sh) (lo := 0) (xs := x_1) h9 h11 E_e_10 rfl rfl) fun h14 => ?_
      refine g1 14 (ji e_10) h14 fun h15 => ?_
      refine gm h13 fun h5 => gm h15 fun h6 => gq (.nsq (.seq (.seq (rg (gm h5 fun h16 => gm h1 fun h17 => gv (ji (x_2.length : Int)) (ev_len (xs := x_2) h17) fun h18 => ?_)))))
      refine g2 16 18 (jb (decide (x_6 ≥ (x_2.length : Int)))) h16 h18 fun h19 => ?_
      refine gq (.nsq (run_cond (t := decide (x_6 ≥ (x_2.length : Int))) h19 h (fun h => ?_) (fun h => ?_)))
      · refine .seq (rg (g0 (ji 1) fun h4 => gq (.nsq (.ret ?_))))
        have hr := Option.some.inj h
        subst hr
        exact rrA (res_tmp h4) rfl
      refine .skip (.nsq (.seq (rg (gm h1 fun h20 => gm h5 fun h21 => ?_))))
      obtain ⟨e_11, E_e_11, h⟩ := bind_some h
      refine gv (.ref .sh 0 [] (ji e_11)) (ev_idx (t := .sh) (lo := 0) (xs := x_2) h20 h21 E_e_11 rfl rfl) fun h22 => ?_
      refine g1 22 (ji e_11) h22 fun h23 => ?_
      refine gm h23 fun h7 => gq (.nsq (.seq (rg (gm h6 fun h24 => gm h7 fun h25 => ?_))))
      obtain ⟨r_12, E_r_12, h⟩ := bind_some h
      refine g_call (m := 0) (al := false) (r := (Enc.enc (r_12 : Int))) [Enc.enc (e_10 : Int), Enc.enc (e_11 : Int)] (ta_cons (v := (ji e_10)) h24 rfl rfl (ta_cons (v := (ji e_11)) h25 rfl rfl ta_nil)) (H.c153 _ _ _ E_r_12) H.g153 rfl rfl rfl rfl ?_
      refine gm (rfl : (_ : V) = (ji r_12)) fun h8 => ?_
      refine gq (.nsq (.seq (rg (gm h8 fun h27 => g1 27 (jb (r_12 != 0)) h27 fun h28 => ?_))))
      refine gq (.nsq (run_cond (t := (r_12 != 0)) h28 h (fun h => ?_) (fun h => ?_)))
      · refine .seq (rg (gm h8 fun h29 => gm h29 fun h4 => gq (.nsq (.ret ?_))))
        have hr := Option.some.inj h
        subst hr
        exact rrA (res_tmp h4) rfl
      refine .skip (.nbk (.nsq (rg (g1 11 (ji (w64 (x_6 + 1))) h11 fun h30 => ?_))))
      refine gm h30 fun h11 => gq (.nlp ?_)
      exact ih (w64 (x_6 + 1)) _ ⟨h0, h1, h4, h9, h10, h11⟩ h
    refine .exit (.esq (.elp (.ebk (.nsq (.seq (.seq (rg (gm h0 fun h31 => gv (ji (x_1.length : Int)) (ev_len (xs := x_1) h31) fun h32 => ?_))))))))
    refine gm h1 fun h33 => gv (ji (x_2.length : Int)) (ev_len (xs := x_2) h33) fun h34 => ?_
    refine g2 32 34 (jb (decide ((x_1.length : Int) < (x_2.length : Int)))) h32 h34 fun h35 => ?_
    refine gq (.nsq (run_cond (t := decide ((x_1.length : Int) < (x_2.length : Int))) h35 h (fun h => ?_) (fun h => ?_)))
    · refine .seq (rg (g0 (ji (-1)) fun h4 => ?_))
      refine gq (.nsq (.ret ?_))
      have hr := Option.some.inj h
      subst hr
      exact rrA (res_tmp h4) rfl
    refine .skip (.nsq (.seq (rg (g0 (ji 0) fun h4 => gq (.nsq (.ret ?_))))))
    have hr := Option.some.inj h
    subst hr
    exact rrA (res_tmp h4) rfl
def slices_Compare (F : Nat) (x_1 : (List Int)) (x_2 : (List Int)) : Option Int :=
  slices_Compare_l1 F x_1 x_2 F 0
theorem t94 (H : H94 D σ F) (x_1 : (List Int)) (x_2 : (List Int)) (s : Nat → V) (hs : Facts [(0, (eL x_1)), (1, (eL x_2))] s) (h : slices_Compare F x_1 x_2 = some r) : Run D σ (R94 r) (.run A94 []) s := by
  unfold slices_Compare at h
  obtain ⟨h0, h1⟩ := hs
  refine .seq (rg (g0 (ji 0) fun h4 => gq (.nsq (.seq (.seq (rg (gm h0 fun h9 => gv (ji (x_1.length : Int)) (ev_len (xs := x_1) h9) fun h10 => ?_)))))))
  refine g0 (ji 0) fun h11 => gq (.nsq (.block (.loop ?_)))
  exact t_f94_l1 H x_1 x_2 F 0 _ ⟨h0, h1, h4, h9, h10, h11⟩ h
end
def e94 (F : Nat) : Ent := ent 94 (fun (x : ((List Int) × (List Int) × Unit)) => slices_Compare F x.1 x.2.1) (fun (r : Int) => (Enc.enc (r : Int))) 0 false []
theorem p94 {F : Nat} {x0 : (List Int)} {x1 : (List Int)} {r : Int} (h : slices_Compare F x0 x1 = some r) : (e94 F).den [Enc.enc x0, Enc.enc x1] = some (Enc.enc (r : Int)) := ent_put (x0, x1, ()) h
theorem o94 {D : Den} {σ : Sig} {F : Nat} (hF : Fits2 Try.prog D σ) (H : H94 D σ F) : (e94 F).Ok Try.prog := by
  refine ok_of (f := 94) (show unk 94 = 94 from rfl) (fun args r h => ?_) ⟨Try.f94, Try.func94, rfl, rfl⟩
  obtain ⟨⟨x0, x1, _⟩, y, rfl, hy, rfl⟩ := da_open h
  exact contract_run hF (by kernel_rfl) Try.func94 rfl c94 (show 2 ≤ Try.f94.ntmps by decide) (t94 H x0 x1 _ ⟨rfl, rfl⟩ hy)
/- loop.example/g01109/impl.IsGraph -/
def A63_5 : AC := (.cond (.t 48) (.seq (.reg [] [((jv 2 (.mov (.k (.bool false)))))] []) .ret) .skip)
def A63_4 : AC := (.seq (.reg [] [((jv 17 (.idxA (.t 4) (jn 0) 2 1))), ((jv 18 (.load .s (.t 17)))), ((jv 19 (.bin .lss (.t 18) (jn 0)))), (jm 20 19), ((jg 21 20 false (.idxA (.t 4) (jn 0) 2 1))), ((jg 22 20 false (.load .s (.t 21)))), ((jg 23 20 false (.idxA (.t 4) (jn 1) 2 1))), ((jg 24 20 false (.load .s (.t 23)))), ((jg 25 20 false (.bin .geq (.t 22) (.t 24)))), ((jv 26 (.pick (.t 20) (.k (.bool true)) (.t 25)))), (jm 27 26), ((jg 28 27 false (.idxA (.t 4) (jn 1) 2 1))), ((jg 29 27 false (.load .s (.t 28)))), ((jg 30 27 false (.fld (.t 1) 0 0))), ((jg 31 27 false (.load .s (.t 30)))), ((jg 32 27 false (.bin .geq (.t 29) (.t 31)))), ((jv 33 (.pick (.t 27) (.k (.bool true)) (.t 32)))), (jm 34 33), ((jg 35 34 false (.mov (.t 3)))), ((jg 36 34 false (.bin .gtr (.t 35) (jn 0)))), ((jg 37 34 false (.mov (.t 36)))), ((jg 38 37 true (.fld (.t 1) 1 1))), ((jg 39 37 true (.load .p (.t 38)))), ((jg 40 37 true (.mov (.t 3)))), ((jg 41 37 true (.bin .sub (.t 40) (jn 1)))), ((jg 42 37 true (.idx (.t 39) (.t 41) 2))), ((jg 43 37 true (.sliceA (.t 42) 2 .s))), ((jg 44 37 true (.sliceA (.t 4) 2 .s))), (.mk (some 45) (some (37, true)) false (.call (.k (.fn 94 [] [])) [(.t 43), (.t 44)])), ((jg 46 37 true (.bin .geq (.t 45) (jn 0)))), ((jg 47 34 false (.pick (.t 37) (.t 46) (.k (.bool false))))), ((jv 48 (.pick (.t 34) (.k (.bool true)) (.t 47))))] []) A63_5)
def A63_6 : AC := (.reg [] [((jv 49 (.bin .add (.t 12) (jn 1)))), (jm 12 49)] [])
def A63_3 : AC := (.seq (.block 1 (.seq (.reg [.clr [4]] [(jm 14 12), ((jv 15 (.idx (.t 10) (.t 12) 2))), ((jv 16 (.load (.ag [.s, .s]) (.t 15)))), (.mk (some 4) none false (.alloc (.agg [(.int .i64 (.ofNat 0)), (.int .i64 (.ofNat 0))]))), (jm 3 14), (.mk none none false (.store (.ag [.s, .s]) (.t 4) (.t 16)))] []) A63_4)) A63_6)
def A63_2 : AC := (.seq (.cond (.t 13) .skip (.exit 0)) A63_3)
def A63_1 : AC := (.seq (.reg [] [((jv 13 (.bin .lss (.t 12) (.t 11))))] []) A63_2)
def A63_7 : AC := (.seq (.reg [] [((jv 2 (.mov (.k (.bool true)))))] []) .ret)
def A63_9 : AC := (.cond (.t 8) (.seq (.reg [] [((jv 2 (.mov (.k (.bool false)))))] []) .ret) .skip)
def A63_11 : AC := (.block 0 (.loop A63_1))
def A63_10 : AC := (.seq (.seq (.reg [] [((jv 9 (.fld (.t 1) 1 1))), ((jv 10 (.load .p (.t 9)))), ((jv 11 (.len (.t 10)))), ((jv 12 (.mov (jn 0))))] []) A63_11) A63_7)
def A63_8 : AC := (.seq (.seq (.reg [] [((jv 5 (.fld (.t 1) 0 0))), ((jv 6 (.load .s (.t 5)))), (.mk (some 7) none false (.call (.k (.fn 105 [] [])) [(.t 6), (jn 0), (jn 8)])), ((jv 8 (.un .not (.t 7))))] []) A63_9) A63_10)
def A63 : AC := (.seq (.reg [.clr [1]] [(.mk (some 1) none false (.box (.t 0))), ((jv 2 (.mov (.k (.bool false)))))] []) A63_8)
def an63 : List An := [{ id := 0, pre := [.clr [1]], ep := [], lin := [], sp := [] }, { id := 5, pre := [.clr [4]], ep := [], lin := [], sp := [] }]
theorem c63 : cC Try.prog Try.f63.ntmps an63 (Try.f63.body.getD .skip) = some A63 := by kernel_rfl
structure H63 (D : Den) (σ : Sig) (F : Nat) : Prop where
  c105 : ∀ (x0 : Int) (x1 : Int) (x2 : Int) r, i_within F x0 x1 x2 = some r → D 105 [Enc.enc x0, Enc.enc x1, Enc.enc x2] = some (Enc.enc (r : Bool))
  g105 : σ 105 = some (0, false)
  c94 : ∀ (x0 : (List Int)) (x1 : (List Int)) r, slices_Compare F x0 x1 = some r → D 94 [Enc.enc x0, Enc.enc x1] = some (Enc.enc (r : Int))
  g94 : σ 94 = some (0, false)
abbrev R63 (r : Bool) : (Nat → V) → Prop := RR Try.prog [.tmp 2] 0 false (Enc.enc (r : Bool))
section
variable {D : Den} {σ : Sig} {F : Nat} {r : Bool}
def i_IsGraph_j1 (F : Nat) (x_1 : (Int × (List (Int × Int)))) (x_9 : Int) (c1 : Int → Option Bool) (x_19 : Bool) : Option Bool :=
  bif x_19 then
    some false
  else
    c1 (w64 (x_9 + 1))
theorem t_f63_j1 (H : H63 D σ F) (x_1 : (Int × (List (Int × Int)))) (x_9 : Int) (c1 : Int → Option Bool) (Hc1 : ∀ (x_9 : Int) (s : Nat → V), Facts [(1, (.ref (.bx 1) 0 [] (.agg [(ji x_1.1), (Enc.enc (x_1.2 : List (Int × Int)))]))), (2, (jb false)), (10, (Enc.enc (x_1.2 : List (Int × Int)))), (11, (ji (x_1.2.length : Int))), (12, (ji x_9))] s → c1 x_9 = some r → Run D σ (R63 r) (.run A63_1 [.lp A63_1, .bk 0, .sq A63_7]) s) (x_19 : Bool) (s : Nat → V) (hs : Facts [(1, (.ref (.bx 1) 0 [] (.agg [(ji x_1.1), (Enc.enc (x_1.2 : List (Int × Int)))]))), (2, (jb false)), (10, (Enc.enc (x_1.2 : List (Int × Int)))), (11, (ji (x_1.2.length : Int))), (12, (ji x_9)), (48, (jb x_19))] s) (h : i_IsGraph_j1 F x_1 x_9 c1 x_19 = some r) : Run D σ (R63 r) (.nrm [.sq A63_5, .bk 1, .sq A63_6, .lp A63_1, .bk 0, .sq A63_7]) s := by
  unfold i_IsGraph_j1 at h
  obtain ⟨h1, h2, h10, h11, h12, h48⟩ := hs
  refine .nsq (run_cond (t := x_19) h48 h (fun h => ?_) (fun h => ?_))
  · refine .seq (rg (g0 (jb false) fun h2 => ?_))
    refine gq (.nsq (.ret ?_))
    have hr := Option.some.inj h
    subst hr
    exact rrA (res_tmp h2) rfl
  refine .skip (.nbk (.nsq (rg (g1 12 (ji (w64 (x_9 + 1))) h12 fun h49 => ?_))))
  refine gm h49 fun h12 => gq (.nlp ?_)
  exact Hc1 (w64 (x_9 + 1)) _ ⟨h1, h2, h10, h11, h12⟩ h
def i_IsGraph_l1 (F : Nat) (x_1 : (Int × (List (Int × Int))))  : Nat → Int → Option Bool
  | 0, _ => none
  | k + 1, x_9 =>
    bif decide (x_9 < (x_1.2.length : Int)) then
      (idx x_1.2 x_9).bind fun e_16 =>
      bif decide (e_16.1 < 0) then
        i_IsGraph_j1 F x_1 x_9 (i_IsGraph_l1 F x_1 k) true
      else
        bif decide (e_16.1 ≥ e_16.2) then
          i_IsGraph_j1 F x_1 x_9 (i_IsGraph_l1 F x_1 k) true
        else
          bif decide (e_16.2 ≥ x_1.1) then
            i_IsGraph_j1 F x_1 x_9 (i_IsGraph_l1 F x_1 k) true
          else
            bif decide (x_9 > 0) then
              (idx x_1.2 (w64 (x_9 - 1))).bind fun e_20 =>
              (slices_Compare F [e_20.1, e_20.2] [e_16.1, e_16.2]).bind fun r_21 =>
              i_IsGraph_j1 F x_1 x_9 (i_IsGraph_l1 F x_1 k) (decide (r_21 ≥ 0))
            else
              i_IsGraph_j1 F x_1 x_9 (i_IsGraph_l1 F x_1 k) false
    else
      some true
theorem t_f63_l1 (H : H63 D σ F) (x_1 : (Int × (List (Int × Int))))  : ∀ (k : Nat) (x_9 : Int) (s : Nat → V), Facts [(1, (.ref (.bx 1) 0 [] (.agg [(ji x_1.1), (Enc.enc (x_1.2 : List (Int × Int)))]))), (2, (jb false)), (10, (Enc.enc (x_1.2 : List (Int × Int)))), (11, (ji (x_1.2.length : Int))), (12, (ji x_9))] s → i_IsGraph_l1 F x_1 k x_9 = some r → Run D σ (R63 r) (.run A63_1 [.lp A63_1, .bk 0, .sq A63_7]) s := by
  intro k
  induction k with
  | zero => intro x_9 s _ h; exact nomatch (h : (none : Option _) = some r)
  | succ k ih =>
    intro x_9 s hs h
    rw [i_IsGraph_l1] at h
    obtain ⟨h1, h2, h10, h11, h12⟩ := hs
    refine .seq (rg (g2 12 11 (jb (decide (x_9 < (x_1.2.length : Int)))) h12 h11 fun h13 => ?_))
    refine gq (.nsq (.seq (run_cond (t := decide (x_9 < (x_1.2.length : Int))) h13 h (fun h => ?_) (fun h => ?_))))
    · refine .skip (.nsq (.seq (.block (.seq (run_reg ?_)))))
      refine e_clr ?_
      refine ez [(1, _), (2, _), (4, _), (10, _), (11, _), (12, _)] ⟨(keep_clear (pk := [4]) h1 rfl (map_bx rfl (map_agg (maps_cons mi (maps_cons me maps_nil))))), (keep_clear (pk := [4]) h2 rfl mb), (gone_clear (pk := [4]) (t := 4) rfl), (keep_clear (pk := [4]) h10 rfl me), (keep_clear (pk := [4]) h11 rfl mi), (keep_clear (pk := [4]) h12 rfl mi)⟩ ?_
      rintro s ⟨h1, h2, h4, h10, h11, h12⟩
      refine gm h12 fun h14 => ?_
      obtain ⟨e_16, E_e_16, h⟩ := bind_some h
      refine gv (.ref .sh 0 [] (.agg [(ji e_16.1), (ji e_16.2)])) (ev_idx (t := .sh) (lo := 0) (xs := x_1.2) h10 h12 E_e_16 rfl rfl) fun h15 => ?_
      refine g1 15 (.agg [(ji e_16.1), (ji e_16.2)]) h15 fun h16 => ?_
      refine g_alloc h4 ?_
      refine gm h14 fun h3 => g_store (.agg [(ji e_16.1), (ji e_16.2)]) (rd_of rfl rfl) (rd_of h16 rfl) (by refine ⟨by decide, by decide, rfl, rfl, rfl, ?_⟩; first | rfl | simp [V.toks, V.tokss, Enc.toks_enc]) ?_
      refine gz [(1, (.ref (.bx 1) 0 [] (.agg [(ji x_1.1), (Enc.enc (x_1.2 : List (Int × Int)))]))), (2, (jb false)), (3, (ji x_9)), (4, (.ref (.bx 4) 0 [] (.agg [(ji e_16.1), (ji e_16.2)]))), (10, (Enc.enc (x_1.2 : List (Int × Int)))), (11, (ji (x_1.2.length : Int))), (12, (ji x_9))] ⟨(keep_mut h1 (mut_ref_ne rfl rfl (mut_agg (muts_cons rfl (muts_cons (Enc.mut_enc _ _ _ _ (x_1.2 : List (Int × Int))) rfl))))), (keep_mut h2 rfl), (keep_mut h3 rfl), (keep_mut rfl rfl), (keep_mut h10 (Enc.mut_enc _ _ _ _ (x_1.2 : List (Int × Int)))), (keep_mut h11 rfl), (keep_mut h12 rfl)⟩ ?_
      rintro s ⟨h1, h2, h3, h4, h10, h11, h12⟩
      refine .nsq (.seq (rg (g1 4 (.ref (.bx 4) 0 [0] (ji e_16.1)) h4 fun h17 => ?_)))
      refine g1 17 (ji e_16.1) h17 fun h18 => ?_
      refine g1 18 (jb (decide (e_16.1 < 0))) h18 fun h19 => ?_
      refine gm h19 fun h20 => split_on (c := decide (e_16.1 < 0)) h (fun hg4 h => ?_) (fun hg4 h => ?_)
      · refine g_no (h20.trans (congrArg V.bool hg4)) ?_
        refine g_no (h20.trans (congrArg V.bool hg4)) ?_
        refine g_no (h20.trans (congrArg V.bool hg4)) ?_
        refine g_no (h20.trans (congrArg V.bool hg4)) ?_
        refine g_no (h20.trans (congrArg V.bool hg4)) ?_
        refine g2 20 25 (jb true) (h20.trans (congrArg V.bool hg4)) (rfl : (_ : V) = (.tup [])) fun h26 => ?_
        refine gm h26 fun h27 => g_no h27 ?_
        refine g_no h27 ?_
        refine g_no h27 ?_
        refine g_no h27 ?_
        refine g_no h27 ?_
        refine g2 27 32 (jb true) h27 (rfl : (_ : V) = (.tup [])) fun h33 => ?_
        refine gm h33 fun h34 => g_no h34 ?_
        refine g_no h34 ?_
        refine g_no h34 ?_
        refine g_skip rfl ?_
        refine g_skip rfl ?_
        refine g_skip rfl ?_
        refine g_skip rfl ?_
        refine g_skip rfl ?_
        refine g_skip rfl ?_
        refine g_skip rfl ?_
        refine g_skip rfl ?_
        refine g_skip rfl ?_
        refine g_no h34 ?_
        refine g2 34 47 (jb true) h34 (rfl : (_ : V) = (.tup [])) fun h48 => ?_
        refine gz [(1, _), (2, _), (10, _), (11, _), (12, _), (48, _)] ⟨h1, h2, h10, h11, h12, h48⟩ ?_
        rintro s ⟨h1, h2, h10, h11, h12, h48⟩
        exact t_f63_j1 H x_1 x_9 (i_IsGraph_l1 F x_1 k) ih true _ ⟨h1, h2, h10, h11, h12, h48⟩ h
      refine g_yes (h20.trans (congrArg V.bool hg4)) (g1 4 (.ref (.bx 4) 0 [0] (ji e_16.1)) h4 fun h21 => ?_)
      refine g_yes (h20.trans (congrArg V.bool hg4)) (g1 21 (ji e_16.1) h21 fun h22 => ?_)
      refine g_yes (h20.trans (congrArg V.bool hg4)) (g1 4 (.ref (.bx 4) 0 [1] (ji e_16.2)) h4 fun h23 => ?_)
      refine g_yes (h20.trans (congrArg V.bool hg4)) (g1 23 (ji e_16.2) h23 fun h24 => ?_)
      refine g_yes (h20.trans (congrArg V.bool hg4)) (g2 22 24 (jb (decide (e_16.1 ≥ e_16.2))) h22 h24 fun h25 => ?_)
      refine g2 20 25 (jb (decide (e_16.1 ≥ e_16.2))) (h20.trans (congrArg V.bool hg4)) h25 fun h26 => ?_
      refine gm h26 fun h27 => split_on (c := decide (e_16.1 ≥ e_16.2)) h (fun hg11 h => ?_) (fun hg11 h => ?_)
      · refine g_no (h27.trans (congrArg V.bool hg11)) ?_
        refine g_no (h27.trans (congrArg V.bool hg11)) ?_
        refine g_no (h27.trans (congrArg V.bool hg11)) ?_
        refine g_no (h27.trans (congrArg V.bool hg11)) ?_
        refine g_no (h27.trans (congrArg V.bool hg11)) ?_
        refine g2 27 32 (jb true) (h27.trans (congrArg V.bool hg11)) (rfl : (_ : V) = (.tup [])) fun h33 => ?_
        refine gm h33 fun h34 => g_no h34 ?_
        refine g_no h34 ?_
        refine g_no h34 ?_
        refine g_skip rfl ?_
        refine g_skip rfl ?_
        refine g_skip rfl ?_
        refine g_skip rfl ?_
        refine g_skip rfl ?_
        refine g_skip rfl ?_
        refine g_skip rfl ?_
        refine g_skip rfl ?_
        refine g_skip rfl ?_
        refine g_no h34 ?_
        refine g2 34 47 (jb true) h34 (rfl : (_ : V) = (.tup [])) fun h48 => ?_
        refine gz [(1, _), (2, _), (10, _), (11, _), (12, _), (48, _)] ⟨h1, h2, h10, h11, h12, h48⟩ ?_
        rintro s ⟨h1, h2, h10, h11, h12, h48⟩
        exact t_f63_j1 H x_1 x_9 (i_IsGraph_l1 F x_1 k) ih true _ ⟨h1, h2, h10, h11, h12, h48⟩ h
      refine g_yes (h27.trans (congrArg V.bool hg11)) (g1 4 (.ref (.bx 4) 0 [1] (ji e_16.2)) h4 fun h28 => ?_)
      refine g_yes (h27.trans (congrArg V.bool hg11)) (g1 28 (ji e_16.2) h28 fun h29 => ?_)
      refine g_yes (h27.trans (congrArg V.bool hg11)) (g1 1 (.ref (.bx 1) 0 [0] (ji x_1.1)) h1 fun h30 => ?_)
      refine g_yes (h27.trans (congrArg V.bool hg11)) (g1 30 (ji x_1.1) h30 fun h31 => ?_)
      refine g_yes (h27.trans (congrArg V.bool hg11)) (g2 29 31 (jb (decide (e_16.2 ≥ x_1.1))) h29 h31 fun h32 => ?_)
      refine g2 27 32 (jb (decide (e_16.2 ≥ x_1.1))) (h27.trans (congrArg V.bool hg11)) h32 fun h33 => ?_
      refine gm h33 fun h34 => split_on (c := decide (e_16.2 ≥ x_1.1)) h (fun hg18 h => ?_) (fun hg18 h => ?_)
      · refine g_no (h34.trans (congrArg V.bool hg18)) ?_
        refine g_no (h34.trans (congrArg V.bool hg18)) ?_
        refine g_no (h34.trans (congrArg V.bool hg18)) ?_
        refine g_skip rfl ?_
        refine g_skip rfl ?_
        refine g_skip rfl ?_
        refine g_skip rfl ?_
        refine g_skip rfl ?_
        refine g_skip rfl ?_
        refine g_skip rfl ?_
        refine g_skip rfl ?_
        refine g_skip rfl ?_
        refine g_no (h34.trans (congrArg V.bool hg18)) ?_
        refine g2 34 47 (jb true) (h34.trans (congrArg V.bool hg18)) (rfl : (_ : V) = (.tup [])) fun h48 => ?_
        refine gz [(1, _), (2, _), (10, _), (11, _), (12, _), (48, _)] ⟨h1, h2, h10, h11, h12, h48⟩ ?_
        rintro s ⟨h1, h2, h10, h11, h12, h48⟩
        exact t_f63_j1 H x_1 x_9 (i_IsGraph_l1 F x_1 k) ih true _ ⟨h1, h2, h10, h11, h12, h48⟩ h
      refine g_yes (h34.trans (congrArg V.bool hg18)) (gm h3 fun h35 => ?_)
      refine g_yes (h34.trans (congrArg V.bool hg18)) (g1 35 (jb (decide (x_9 > 0))) h35 fun h36 => ?_)
      refine g_yes (h34.trans (congrArg V.bool hg18)) (gm h36 fun h37 => ?_)
      refine split_on (c := decide (x_9 > 0)) h (fun hg21 h => ?_) (fun hg21 h => ?_)
      · refine g_yes (h37.trans (congrArg V.bool hg21)) (g1 1 (.ref (.bx 1) 0 [1] (Enc.enc (x_1.2 : List (Int × Int)))) h1 fun h38 => ?_)
        refine g_yes (h37.trans (congrArg V.bool hg21)) (g1 38 (Enc.enc (x_1.2 : List (Int × Int))) h38 fun h39 => ?_)
        refine g_yes (h37.trans (congrArg V.bool hg21)) (gm h3 fun h40 => ?_)
        refine g_yes (h37.trans (congrArg V.bool hg21)) (g1 40 (ji (w64 (x_9 - 1))) h40 fun h41 => ?_)
        obtain ⟨e_20, E_e_20, h⟩ := bind_some h
        refine g_yes (h37.trans (congrArg V.bool hg21)) (gv (.ref .sh 0 [] (.agg [(ji e_20.1), (ji e_20.2)])) (ev_idx (t := .sh) (lo := 0) (xs := x_1.2) h39 h41 E_e_20 rfl rfl) fun h42 => ?_)
        refine g_yes (h37.trans (congrArg V.bool hg21)) (g1 42 (eL [e_20.1, e_20.2]) h42 fun h43 => ?_)
        refine g_yes (h37.trans (congrArg V.bool hg21)) (g1 4 (encO (.bx 4) (.of ([e_16.1, e_16.2] : List Int))) h4 fun h44 => ?_)
        obtain ⟨r_21, E_r_21, h⟩ := bind_some h
        refine g_yes (h37.trans (congrArg V.bool hg21)) (g_call (m := 0) (al := false) (r := (Enc.enc (r_21 : Int))) [Enc.enc ([e_20.1, e_20.2] : (List Int)), Enc.enc ([e_16.1, e_16.2] : (List Int))] (ta_cons (v := (eL [e_20.1, e_20.2])) h43 rfl (Enc.erase_enc ([e_20.1, e_20.2] : (List Int))) (ta_cons (v := (encO (.bx 4) (.of ([e_16.1, e_16.2] : List Int)))) h44 rfl (erase_encO (o := .of [e_16.1, e_16.2])) ta_nil)) (H.c94 _ _ _ E_r_21) H.g94 rfl rfl rfl rfl ?_)
        refine g_yes (h37.trans (congrArg V.bool hg21)) (g1 45 (jb (decide (r_21 ≥ 0))) (rfl : (_ : V) = (ji r_21)) fun h46 => ?_)
        refine g_yes (h34.trans (congrArg V.bool hg18)) (g2 37 46 (jb (decide (r_21 ≥ 0))) (h37.trans (congrArg V.bool hg21)) h46 fun h47 => ?_)
        refine g2 34 47 (jb (decide (r_21 ≥ 0))) (h34.trans (congrArg V.bool hg18)) h47 fun h48 => ?_
        refine gz [(1, _), (2, _), (10, _), (11, _), (12, _), (48, _)] ⟨h1, h2, h10, h11, h12, h48⟩ ?_
        rintro s ⟨h1, h2, h10, h11, h12, h48⟩
        exact t_f63_j1 H x_1 x_9 (i_IsGraph_l1 F x_1 k) ih (decide (r_21 ≥ 0)) _ ⟨h1, h2, h10, h11, h12, h48⟩ h
      refine g_no (h37.trans (congrArg V.bool hg21)) ?_
      refine g_no (h37.trans (congrArg V.bool hg21)) ?_
      refine g_no (h37.trans (congrArg V.bool hg21)) ?_
      refine g_no (h37.trans (congrArg V.bool hg21)) ?_
      refine g_no (h37.trans (congrArg V.bool hg21)) ?_
      refine g_no (h37.trans (congrArg V.bool hg21)) ?_
      refine g_no (h37.trans (congrArg V.bool hg21)) ?_
      refine g_no (h37.trans (congrArg V.bool hg21)) ?_
      refine g_no (h37.trans (congrArg V.bool hg21)) ?_
      refine g_yes (h34.trans (congrArg V.bool hg18)) (g2 37 46 (jb false) (h37.trans (congrArg V.bool hg21)) (rfl : (_ : V) = (.tup [])) fun h47 => ?_)
      refine g2 34 47 (jb false) (h34.trans (congrArg V.bool hg18)) h47 fun h48 => ?_
      refine gz [(1, _), (2, _), (10, _), (11, _), (12, _), (48, _)] ⟨h1, h2, h10, h11, h12, h48⟩ ?_
      rintro s ⟨h1, h2, h10, h11, h12, h48⟩
      exact t_f63_j1 H x_1 x_9 (i_IsGraph_l1 F x_1 k) ih false _ ⟨h1, h2, h10, h11, h12, h48⟩ h
    refine .exit (.esq (.elp (.ebk (.nsq (.seq (rg (g0 (jb true) fun h2 => ?_)))))))
    refine gq (.nsq (.ret ?_))
    have hr := Option.some.inj h
    subst hr
    exact rrA (res_tmp h2) rfl
def i_IsGraph (F : Nat) (x_1 : (Int × (List (Int × Int)))) : Option Bool :=
  (i_within F x_1.1 0 8).bind fun r_2 =>
  bif (!r_2) then
    some false
  else
    i_IsGraph_l1 F x_1 F 0
theorem t63 (H : H63 D σ F) (x_1 : (Int × (List (Int × Int)))) (s : Nat → V) (hs : Facts [(0, (.agg [(ji x_1.1), (Enc.enc (x_1.2 : List (Int × Int)))]))] s) (h : i_IsGraph F x_1 = some r) : Run D σ (R63 r) (.run A63 []) s := by
  unfold i_IsGraph at h
  have h0 := hs
  refine .seq (run_reg ?_)
  refine e_clr ?_
  refine ez [(0, _), (1, _)] ⟨(keep_clear (pk := [1]) h0 rfl (map_agg (maps_cons mi (maps_cons me maps_nil)))), (gone_clear (pk := [1]) (t := 1) rfl)⟩ ?_
  rintro s ⟨h0, h1⟩
  refine g_box (.agg [(ji x_1.1), (Enc.enc (x_1.2 : List (Int × Int)))]) (rd_of h0 rfl) h1 rfl ?_
  refine g0 (jb false) fun h2 => ?_
  refine gq (.nsq (.seq (.seq (rg (g1 1 (.ref (.bx 1) 0 [0] (ji x_1.1)) (rfl : (_ : V) = (.ref (.bx 1) 0 [] (.agg [(ji x_1.1), (Enc.enc (x_1.2 : List (Int × Int)))]))) fun h5 => ?_)))))
  refine g1 5 (ji x_1.1) h5 fun h6 => ?_
  obtain ⟨r_2, E_r_2, h⟩ := bind_some h
  refine g_call (m := 0) (al := false) (r := (Enc.enc (r_2 : Bool))) [Enc.enc (x_1.1 : Int), Enc.enc (0 : Int), Enc.enc (8 : Int)] (ta_cons (v := (ji x_1.1)) h6 rfl rfl (ta_cons (v := (ji 0)) rfl rfl rfl (ta_cons (v := (ji 8)) rfl rfl rfl ta_nil))) (H.c105 _ _ _ _ E_r_2) H.g105 rfl rfl rfl rfl ?_
  refine g1 7 (jb (!r_2)) (rfl : (_ : V) = (jb r_2)) fun h8 => ?_
  refine gq (.nsq (run_cond (t := (!r_2)) h8 h (fun h => ?_) (fun h => ?_)))
  · refine .seq (rg (g0 (jb false) fun h2 => ?_))
    refine gq (.nsq (.ret ?_))
    have hr := Option.some.inj h
    subst hr
    exact rrA (res_tmp h2) rfl
  refine .skip (.nsq (.seq (.seq (rg (g1 1 (.ref (.bx 1) 0 [1] (Enc.enc (x_1.2 : List (Int × Int)))) (rfl : (_ : V) = (.ref (.bx 1) 0 [] (.agg [(ji x_1.1), (Enc.enc (x_1.2 : List (Int × Int)))]))) fun h9 => ?_)))))
  refine g1 9 (Enc.enc (x_1.2 : List (Int × Int))) h9 fun h10 => ?_
  refine gv (ji (x_1.2.length : Int)) (ev_len (xs := x_1.2) h10) fun h11 => ?_
  refine g0 (ji 0) fun h12 => gq (.nsq (.block (.loop ?_)))
  exact t_f63_l1 H x_1 F 0 _ ⟨rfl, h2, h10, h11, h12⟩ h
end
def e63 (F : Nat) : Ent := ent 63 (fun (x : ((Int × (List (Int × Int))) × Unit)) => i_IsGraph F x.1) (fun (r : Bool) => (Enc.enc (r : Bool))) 0 false []
theorem p63 {F : Nat} {x0 : (Int × (List (Int × Int)))} {r : Bool} (h : i_IsGraph F x0 = some r) : (e63 F).den [Enc.enc x0] = some (Enc.enc (r : Bool)) := ent_put (x0, ()) h
theorem o63 {D : Den} {σ : Sig} {F : Nat} (hF : Fits2 Try.prog D σ) (H : H63 D σ F) : (e63 F).Ok Try.prog := by
  refine ok_of (f := 63) (show unk 63 = 63 from rfl) (fun args r h => ?_) ⟨Try.f63, Try.func63, rfl, rfl⟩
  obtain ⟨⟨x0, _⟩, y, rfl, hy, rfl⟩ := da_open h
  exact contract_run hF (by kernel_rfl) Try.func63 rfl c63 (show 1 ≤ Try.f63.ntmps by decide) (t63 H x0 _ rfl hy)
/- loop.example/g01109/impl.allWithin -/
def A124_5 : AC := (.cond (.t 19) (.seq (.reg [] [((jv 6 (.mov (.k (.bool false)))))] []) .ret) .skip)
def A124_4 : AC := (.seq (.reg [] [(jm 15 8), (jm 16 1), (jm 17 2), (.mk (some 18) none false (.call (.k (.fn 105 [] [])) [(.t 15), (.t 16), (.t 17)])), ((jv 19 (.un .not (.t 18))))] []) A124_5)
def A124_6 : AC := (.reg [] [((jv 20 (.bin .add (.t 11) (jn 1)))), (jm 11 20)] [])
def A124_3 : AC := (.seq (.block 1 (.seq (.reg [] [((jv 13 (.idx (.t 9) (.t 11) 1))), ((jv 14 (.load .s (.t 13)))), (jm 8 14)] []) A124_4)) A124_6)
def A124_2 : AC := (.seq (.cond (.t 12) .skip (.exit 0)) A124_3)
def A124_1 : AC := (.seq (.reg [] [((jv 12 (.bin .lss (.t 11) (.t 10))))] []) A124_2)
def A124_7 : AC := (.seq (.reg [] [((jv 6 (.mov (.k (.bool true)))))] []) .ret)
def A124_9 : AC := (.block 0 (.loop A124_1))
def A124_8 : AC := (.seq (.seq (.reg [] [(jm 9 0), ((jv 10 (.len (.t 9)))), ((jv 11 (.mov (jn 0))))] []) A124_9) A124_7)
def A124 : AC := (.seq (.reg [] [((jv 6 (.mov (.k (.bool false)))))] []) A124_8)
def an124 : List An := []
theorem c124 : cC Try.prog Try.f124.ntmps an124 (Try.f124.body.getD .skip) = some A124 := by kernel_rfl
structure H124 (D : Den) (σ : Sig) (F : Nat) : Prop where
  c105 : ∀ (x0 : Int) (x1 : Int) (x2 : Int) r, i_within F x0 x1 x2 = some r → D 105 [Enc.enc x0, Enc.enc x1, Enc.enc x2] = some (Enc.enc (r : Bool))
  g105 : σ 105 = some (0, false)
abbrev R124 (r : Bool) : (Nat → V) → Prop := RR Try.prog [.tmp 6] 0 false (Enc.enc (r : Bool))
section
variable {D : Den} {σ : Sig} {F : Nat} {r : Bool}
def i_allWithin_l1 (F : Nat) (x_2 : Int) (x_3 : Int) (x_1 : (List Int))  : Nat → Int → Option Bool
  | 0, _ => none
  | k + 1, x_6 =>
    bif decide (x_6 < (x_1.length : Int)) then
      (idx x_1 x_6).bind fun e_9 =>
      (i_within F e_9 x_2 x_3).bind fun r_10 =>
      bif (!r_10) then
        some false
      else
        (i_allWithin_l1 F x_2 x_3 x_1 k) (w64 (x_6 + 1))
    else
      some true
theorem t_f124_l1 (H : H124 D σ F) (x_2 : Int) (x_3 : Int) (x_1 : (List Int))  : ∀ (k : Nat) (x_6 : Int) (s : Nat → V), Facts [(1, (ji x_2)), (2, (ji x_3)), (6, (jb false)), (9, (eL x_1)), (10, (ji (x_1.length : Int))), (11, (ji x_6))] s → i_allWithin_l1 F x_2 x_3 x_1 k x_6 = some r → Run D σ (R124 r) (.run A124_1 [.lp A124_1, .bk 0, .sq A124_7]) s := by
  intro k
  induction k with
  | zero => intro x_6 s _ h; exact nomatch (h : (none : Option _) = some r)
  | succ k ih =>
    intro x_6 s hs h
    rw [i_allWithin_l1] at h
    obtain ⟨h1, h2, h6, h9, h10, h11⟩ := hs
    refine .seq (rg (g2 11 10 (jb (decide (x_6 < (x_1.length : Int)))) h11 h10 fun h12 => ?_))
    refine gq (.nsq (.seq (run_cond (t := decide (x_6 < (x_1.length : Int))) h12 h (fun h => ?_) (fun h => ?_))))
    · refine .skip (.nsq (.seq (.block (.seq (rg ?_)))))
      obtain ⟨e_9, E_e_9, h⟩ := bind_some h
      refine gv (.ref .sh 0 [] (ji e_9)) (ev_idx (t := .sh) (lo := 0) (xs := x_1) h9 h11 E_e_9 rfl rfl) fun h13 => ?_
      refine g1 13 (ji e_9) h13 fun h14 => ?_
      refine gm h14 fun h8 => gq (.nsq (.seq (rg (gm h8 fun h15 => gm h1 fun h16 => gm h2 fun h17 => ?_))))
      obtain ⟨r_10, E_r_10, h⟩ := bind_some h
      refine g_call (m := 0) (al := false) (r := (Enc.enc (r_10 : Bool))) [Enc.enc (e_9 : Int), Enc.enc (x_2 : Int), Enc.enc (x_3 : Int)] (ta_cons (v := (ji e_9)) h15 rfl rfl (ta_cons (v := (ji x_2)) h16 rfl rfl (ta_cons (v := (ji x_3)) h17 rfl rfl ta_nil))) (H.c105 _ _ _ _ E_r_10) H.g105 rfl rfl rfl rfl ?_
      refine g1 18 (jb (!r_10)) (rfl : (_ : V) = (jb r_10)) fun h19 => ?_
      refine gq (.nsq (run_cond (t := (!r_10)) h19 h (fun h => ?_) (fun h => ?_)))
      · refine .seq (rg (g0 (jb false) fun h6 => ?_))
        refine gq (.nsq (.ret ?_))
        have hr := Option.some.inj h
        subst hr
        exact rrA (res_tmp h6) rfl
      refine .skip (.nbk (.nsq (rg (g1 11 (ji (w64 (x_6 + 1))) h11 fun h20 => ?_))))
      refine gm h20 fun h11 => gq (.nlp ?_)
      exact ih (w64 (x_6 + 1)) _ ⟨h1, h2, h6, h9, h10, h11⟩ h
    refine .exit (.esq (.elp (.ebk (.nsq (.seq (rg (g0 (jb true) fun h6 => ?_)))))))
    refine gq (.nsq (.ret ?_))
    have hr := Option.some.inj h
    subst hr
    exact rrA (res_tmp h6) rfl
def i_allWithin (F : Nat) (x_1 : (List Int)) (x_2 : Int) (x_3 : Int) : Option Bool :=
  i_allWithin_l1 F x_2 x_3 x_1 F 0
theorem t124 (H : H124 D σ F) (x_1 : (List Int)) (x_2 : Int) (x_3 : Int) (s : Nat → V) (hs : Facts [(0, (eL x_1)), (1, (ji x_2)), (2, (ji x_3))] s) (h : i_allWithin F x_1 x_2 x_3 = some r) : Run D σ (R124 r) (.run A124 []) s := by
  unfold i_allWithin at h
  obtain ⟨h0, h1, h2⟩ := hs
  refine .seq (rg (g0 (jb false) fun h6 => ?_))
  refine gq (.nsq (.seq (.seq (rg (gm h0 fun h9 => gv (ji (x_1.length : Int)) (ev_len (xs := x_1) h9) fun h10 => ?_)))))
  refine g0 (ji 0) fun h11 => gq (.nsq (.block (.loop ?_)))
  exact t_f124_l1 H x_2 x_3 x_1 F 0 _ ⟨h1, h2, h6, h9, h10, h11⟩ h
end
def e124 (F : Nat) : Ent := ent 124 (fun (x : ((List Int) × Int × Int × Unit)) => i_allWithin F x.1 x.2.1 x.2.2.1) (fun (r : Bool) => (Enc.enc (r : Bool))) 0 false []
theorem p124 {F : Nat} {x0 : (List Int)} {x1 : Int} {x2 : Int} {r : Bool} (h : i_allWithin F x0 x1 x2 = some r) : (e124 F).den [Enc.enc x0, Enc.enc x1, Enc.enc x2] = some (Enc.enc (r : Bool)) := ent_put (x0, x1, x2, ()) h
theorem o124 {D : Den} {σ : Sig} {F : Nat} (hF : Fits2 Try.prog D σ) (H : H124 D σ F) : (e124 F).Ok Try.prog := by
  refine ok_of (f := 124) (show unk 124 = 124 from rfl) (fun args r h => ?_) ⟨Try.f124, Try.func124, rfl, rfl⟩
  obtain ⟨⟨x0, x1, x2, _⟩, y, rfl, hy, rfl⟩ := da_open h
  exact contract_run hF (by kernel_rfl) Try.func124 rfl c124 (show 3 ≤ Try.f124.ntmps by decide) (t124 H x0 x1 x2 _ ⟨rfl, rfl, rfl⟩ hy)
/- loop.example/g01109/impl.hasNodes -/
def A171_1 : AC := (.seq (.reg [] [((jv 5 (.load (.ag [.s, .p]) (.t 2)))), (.mk (some 6) none false (.call (.k (.fn 63 [] [])) [(.t 5)])), (jm 7 6), ((jg 8 7 true (.mov (.t 1)))), ((jg 9 7 true (.fld (.t 2) 0 0))), ((jg 10 7 true (.load .s (.t 9)))), ((jg 11 7 true (.bin .sub (.t 10) (jn 1)))), (.mk (some 12) (some (7, true)) false (.call (.k (.fn 124 [] [])) [(.t 8), (jn 0), (.t 11)])), ((jv 13 (.pick (.t 7) (.t 12) (.k (.bool false))))), (jm 4 13)] []) .ret)
def A171 : AC := (.seq (.reg [.clr [2]] [(.mk (some 2) none false (.box (.t 0))), ((jv 4 (.mov (.k (.bool false)))))] []) A171_1)
def an171 : List An := [{ id := 0, pre := [.clr [2]], ep := [], lin := [], sp := [] }]
theorem c171 : cC Try.prog Try.f171.ntmps an171 (Try.f171.body.getD .skip) = some A171 := by kernel_rfl
structure H171 (D : Den) (σ : Sig) (F : Nat) : Prop where
  c63 : ∀ (x0 : (Int × (List (Int × Int)))) r, i_IsGraph F x0 = some r → D 63 [Enc.enc x0] = some (Enc.enc (r : Bool))
  g63 : σ 63 = some (0, false)
  c124 : ∀ (x0 : (List Int)) (x1 : Int) (x2 : Int) r, i_allWithin F x0 x1 x2 = some r → D 124 [Enc.enc x0, Enc.enc x1, Enc.enc x2] = some (Enc.enc (r : Bool))
  g124 : σ 124 = some (0, false)
abbrev R171 (r : Bool) : (Nat → V) → Prop := RR Try.prog [.tmp 4] 0 false (Enc.enc (r : Bool))
section
variable {D : Den} {σ : Sig} {F : Nat} {r : Bool}
def i_hasNodes (F : Nat) (x_1 : (Int × (List (Int × Int)))) (x_2 : (List Int)) : Option Bool :=
  (i_IsGraph F x_1).bind fun r_3 =>
  bif r_3 then
    (i_allWithin F x_2 0 (w64 (x_1.1 - 1))).bind fun r_4 =>
    some r_4
  else
    some false
theorem t171 (H : H171 D σ F) (x_1 : (Int × (List (Int × Int)))) (x_2 : (List Int)) (s : Nat → V) (hs : Facts [(0, (.agg [(ji x_1.1), (Enc.enc (x_1.2 : List (Int × Int)))])), (1, (eL x_2))] s) (h : i_hasNodes F x_1 x_2 = some r) : Run D σ (R171 r) (.run A171 []) s := by
  unfold i_hasNodes at h
  obtain ⟨h0, h1⟩ := hs
  refine .seq (run_reg ?_)
  refine e_clr ?_
  refine ez [(0, _), (1, _), (2, _)] ⟨(keep_clear (pk := [2]) h0 rfl (map_agg (maps_cons mi (maps_cons me maps_nil)))), (keep_clear (pk := [2]) h1 rfl me), (gone_clear (pk := [2]) (t := 2) rfl)⟩ ?_
  rintro s ⟨h0, h1, h2⟩
  refine g_box (.agg [(ji x_1.1), (Enc.enc (x_1.2 : List (Int × Int)))]) (rd_of h0 rfl) h2 rfl ?_
  refine g0 (jb false) fun h4 => ?_
  refine gq (.nsq (.seq (rg (g1 2 (.agg [(ji x_1.1), (Enc.enc (x_1.2 : List (Int × Int)))]) (rfl : (_ : V) = (.ref (.bx 2) 0 [] (.agg [(ji x_1.1), (Enc.enc (x_1.2 : List (Int × Int)))]))) fun h5 => ?_))))
  obtain ⟨r_3, E_r_3, h⟩ := bind_some h
  refine g_call (m := 0) (al := false) (r := (Enc.enc (r_3 : Bool))) [Enc.enc (x_1 : (Int × (List (Int × Int))))] (ta_cons (v := (.agg [(ji x_1.1), (Enc.enc (x_1.2 : List (Int × Int)))])) h5 rfl (Enc.erase_enc (x_1 : (Int × (List (Int × Int))))) ta_nil) (H.c63 _ _ E_r_3) H.g63 rfl rfl rfl rfl ?_
  refine gm (rfl : (_ : V) = (jb r_3)) fun h7 => ?_
  refine split_on (c := r_3) h (fun hg3 h => ?_) (fun hg3 h => ?_)
  · refine g_yes (h7.trans (congrArg V.bool hg3)) (gm h1 fun h8 => ?_)
    refine g_yes (h7.trans (congrArg V.bool hg3)) (g1 2 (.ref (.bx 2) 0 [0] (ji x_1.1)) (rfl : (_ : V) = (.ref (.bx 2) 0 [] (.agg [(ji x_1.1), (Enc.enc (x_1.2 : List (Int × Int)))]))) fun h9 => ?_)
    refine g_yes (h7.trans (congrArg V.bool hg3)) (g1 9 (ji x_1.1) h9 fun h10 => ?_)
    refine g_yes (h7.trans (congrArg V.bool hg3)) (g1 10 (ji (w64 (x_1.1 - 1))) h10 fun h11 => ?_)
    obtain ⟨r_4, E_r_4, h⟩ := bind_some h
    refine g_yes (h7.trans (congrArg V.bool hg3)) (g_call (m := 0) (al := false) (r := (Enc.enc (r_4 : Bool))) [Enc.enc (x_2 : (List Int)), Enc.enc (0 : Int), Enc.enc (w64 (x_1.1 - 1) : Int)] (ta_cons (v := (eL x_2)) h8 rfl (Enc.erase_enc (x_2 : (List Int))) (ta_cons (v := (ji 0)) rfl rfl rfl (ta_cons (v := (ji (w64 (x_1.1 - 1)))) h11 rfl rfl ta_nil))) (H.c124 _ _ _ _ E_r_4) H.g124 rfl rfl rfl rfl ?_)
    refine g2 7 12 (jb r_4) (h7.trans (congrArg V.bool hg3)) (rfl : (_ : V) = (jb r_4)) fun h13 => ?_
    refine gm h13 fun h4 => gq (.nsq (.ret ?_))
    have hr := Option.some.inj h
    subst hr
    exact rrA (res_tmp h4) rfl
  refine g_no (h7.trans (congrArg V.bool hg3)) ?_
  refine g_no (h7.trans (congrArg V.bool hg3)) ?_
  refine g_no (h7.trans (congrArg V.bool hg3)) ?_
  refine g_no (h7.trans (congrArg V.bool hg3)) ?_
  refine g_no (h7.trans (congrArg V.bool hg3)) ?_
  refine g2 7 12 (jb false) (h7.trans (congrArg V.bool hg3)) (rfl : (_ : V) = (.tup [])) fun h13 => ?_
  refine gm h13 fun h4 => gq (.nsq (.ret ?_))
  have hr := Option.some.inj h
  subst hr
  exact rrA (res_tmp h4) rfl
end
def e171 (F : Nat) : Ent := ent 171 (fun (x : ((Int × (List (Int × Int))) × (List Int) × Unit)) => i_hasNodes F x.1 x.2.1) (fun (r : Bool) => (Enc.enc (r : Bool))) 0 false []
theorem p171 {F : Nat} {x0 : (Int × (List (Int × Int)))} {x1 : (List Int)} {r : Bool} (h : i_hasNodes F x0 x1 = some r) : (e171 F).den [Enc.enc x0, Enc.enc x1] = some (Enc.enc (r : Bool)) := ent_put (x0, x1, ()) h
theorem o171 {D : Den} {σ : Sig} {F : Nat} (hF : Fits2 Try.prog D σ) (H : H171 D σ F) : (e171 F).Ok Try.prog := by
  refine ok_of (f := 171) (show unk 171 = 171 from rfl) (fun args r h => ?_) ⟨Try.f171, Try.func171, rfl, rfl⟩
  obtain ⟨⟨x0, x1, _⟩, y, rfl, hy, rfl⟩ := da_open h
  exact contract_run hF (by kernel_rfl) Try.func171 rfl c171 (show 2 ≤ Try.f171.ntmps by decide) (t171 H x0 x1 _ ⟨rfl, rfl⟩ hy)
/- loop.example/g01109/impl.increasing -/
def A172_2 : AC := (.cond (.t 7) .skip (.exit 0))
def A172_4 : AC := (.cond (.t 19) (.seq (.reg [] [((jv 2 (.mov (.k (.bool false)))))] []) .ret) .skip)
def A172_5 : AC := (.reg [] [(jm 8 3), ((jv 9 (.bin .add (.t 8) (jn 1)))), (jm 3 9)] [])
def A172_3 : AC := (.seq (.block 1 (.seq (.reg [] [(jm 10 0), (jm 11 3), ((jv 12 (.bin .sub (.t 11) (jn 1)))), ((jv 13 (.idx (.t 10) (.t 12) 1))), ((jv 14 (.load .s (.t 13)))), (jm 15 0), (jm 16 3), ((jv 17 (.idx (.t 15) (.t 16) 1))), ((jv 18 (.load .s (.t 17)))), ((jv 19 (.bin .geq (.t 14) (.t 18))))] []) A172_4)) A172_5)
def A172_1 : AC := (.seq (.seq (.reg [] [(jm 4 3), (jm 5 0), ((jv 6 (.len (.t 5)))), ((jv 7 (.bin .lss (.t 4) (.t 6))))] []) A172_2) A172_3)
def A172_6 : AC := (.seq (.reg [] [((jv 2 (.mov (.k (.bool true)))))] []) .ret)
def A172_8 : AC := (.block 0 (.loop A172_1))
def A172_7 : AC := (.seq (.seq (.reg [] [((jv 3 (.mov (jn 1))))] []) A172_8) A172_6)
def A172 : AC := (.seq (.reg [] [((jv 2 (.mov (.k (.bool false)))))] []) A172_7)
def an172 : List An := []
theorem c172 : cC Try.prog Try.f172.ntmps an172 (Try.f172.body.getD .skip) = some A172 := by kernel_rfl
structure H172 (D : Den) (σ : Sig) (F : Nat) : Prop where
  mk ::
abbrev R172 (r : Bool) : (Nat → V) → Prop := RR Try.prog [.tmp 2] 0 false (Enc.enc (r : Bool))
section
variable {D : Den} {σ : Sig} {F : Nat} {r : Bool}
def i_increasing_l1 (F : Nat) (x_1 : (List Int))  : Nat → Int → Option Bool
  | 0, _ => none
  | k + 1, x_4 =>
    bif decide (x_4 < (x_1.length : Int)) then
      (idx x_1 (w64 (x_4 - 1))).bind fun e_7 =>
      (idx x_1 x_4).bind fun e_8 =>
      bif decide (e_7 ≥ e_8) then
        some false
      else
        (i_increasing_l1 F x_1 k) (w64 (x_4 + 1))
    else
      some true
theorem t_f172_l1 (H : H172 D σ F) (x_1 : (List Int))  : ∀ (k : Nat) (x_4 : Int) (s : Nat → V), Facts [(0, (eL x_1)), (2, (jb false)), (3, (ji x_4))] s → i_increasing_l1 F x_1 k x_4 = some r → Run D σ (R172 r) (.run A172_1 [.lp A172_1, .bk 0, .sq A172_6]) s := by
  intro k
  induction k with
  | zero => intro x_4 s _ h; exact nomatch (h : (none : Option _) = some r)
  | succ k ih =>
    intro x_4 s hs h
    rw [i_increasing_l1] at h
    obtain ⟨h0, h2, h3⟩ := hs
    refine .seq (.seq (rg (gm h3 fun h4 => gm h0 fun h5 => gv (ji (x_1.length : Int)) (ev_len (xs := x_1) h5) fun h6 => ?_)))
    refine g2 4 6 (jb (decide (x_4 < (x_1.length : Int)))) h4 h6 fun h7 => ?_
    refine gq (.nsq (run_cond (t := decide (x_4 < (x_1.length : Int))) h7 h (fun h => ?_) (fun h => ?_)))
    · refine .skip (.nsq (.seq (.block (.seq (rg (gm h0 fun h10 => gm h3 fun h11 => g1 11 (ji (w64 (x_4 - 1))) h11 fun h12 => ?_))))))
      obtain ⟨e_7, E_e_7, h⟩ := bind_some h
      refine gv (.ref .sh 0 [] (ji e_7)) (ev_idx (t := .sh) (lo := 0) (xs := x_1) h10 h12 E_e_7 rfl rfl) fun h13 => ?_
      refine g1 13 (ji e_7) h13 fun h14 => ?_
      refine gm h0 fun h15 => gm h3 fun h16 => ?_
      obtain ⟨e_8, E_e_8, h⟩ := bind_some h
      refine gv (.ref .sh 0 [] (ji e_8)) (ev_idx (t := .sh) (lo := 0) (xs := x_1) h15 h16 E_e_8 rfl rfl) fun h17 => ?_
      refine g1 17 (ji e_8) h17 fun h18 => ?_
      refine g2 14 18 (jb (decide (e_7 ≥ e_8))) h14 h18 fun h19 => ?_
      refine gq (.nsq (run_cond (t := decide (e_7 ≥ e_8)) h19 h (fun h => ?_) (fun h => ?_)))
      · refine .seq (rg (g0 (jb false) fun h2 => ?_))
        refine gq (.nsq (.ret ?_))
        have hr := Option.some.inj h
        subst hr
        exact rrA (res_tmp h2) rfl
      refine .skip (.nbk (.nsq (rg (gm h3 fun h8 => g1 8 (ji (w64 (x_4 + 1))) h8 fun h9 => ?_))))
      refine gm h9 fun h3 => gq (.nlp ?_)
      exact ih (w64 (x_4 + 1)) _ ⟨h0, h2, h3⟩ h
    refine .exit (.esq (.elp (.ebk (.nsq (.seq (rg (g0 (jb true) fun h2 => ?_)))))))
    refine gq (.nsq (.ret ?_))
    have hr := Option.some.inj h
    subst hr
    exact rrA (res_tmp h2) rfl
def i_increasing (F : Nat) (x_1 : (List Int)) : Option Bool :=
  i_increasing_l1 F x_1 F 1
theorem t172 (H : H172 D σ F) (x_1 : (List Int)) (s : Nat → V) (hs : Facts [(0, (eL x_1))] s) (h : i_increasing F x_1 = some r) : Run D σ (R172 r) (.run A172 []) s := by
  unfold i_increasing at h
  have h0 := hs
  refine .seq (rg (g0 (jb false) fun h2 => ?_))
  refine gq (.nsq (.seq (.seq (rg (g0 (ji 1) fun h3 => gq (.nsq (.block (.loop ?_))))))))
  exact t_f172_l1 H x_1 F 1 _ ⟨h0, h2, h3⟩ h
end
def e172 (F : Nat) : Ent := ent 172 (fun (x : ((List Int) × Unit)) => i_increasing F x.1) (fun (r : Bool) => (Enc.enc (r : Bool))) 0 false []
theorem p172 {F : Nat} {x0 : (List Int)} {r : Bool} (h : i_increasing F x0 = some r) : (e172 F).den [Enc.enc x0] = some (Enc.enc (r : Bool)) := ent_put (x0, ()) h
theorem o172 {D : Den} {σ : Sig} {F : Nat} (hF : Fits2 Try.prog D σ) (H : H172 D σ F) : (e172 F).Ok Try.prog := by
  refine ok_of (f := 172) (show unk 172 = 172 from rfl) (fun args r h => ?_) ⟨Try.f172, Try.func172, rfl, rfl⟩
  obtain ⟨⟨x0, _⟩, y, rfl, hy, rfl⟩ := da_open h
  exact contract_run hF (by kernel_rfl) Try.func172 rfl c172 (show 1 ≤ Try.f172.ntmps by decide) (t172 H x0 _ rfl hy)
/- loop.example/g01109/impl.isSet -/
def A135_1 : AC := (.seq (.reg [] [((jv 5 (.load (.ag [.s, .p]) (.t 2)))), (jm 6 1), (.mk (some 7) none false (.call (.k (.fn 171 [] [])) [(.t 5), (.t 6)])), (jm 8 7), ((jg 9 8 true (.mov (.t 1)))), (.mk (some 10) (some (8, true)) false (.call (.k (.fn 172 [] [])) [(.t 9)])), ((jv 11 (.pick (.t 8) (.t 10) (.k (.bool false))))), (jm 4 11)] []) .ret)
def A135 : AC := (.seq (.reg [.clr [2]] [(.mk (some 2) none false (.box (.t 0))), ((jv 4 (.mov (.k (.bool false)))))] []) A135_1)
def an135 : List An := [{ id := 0, pre := [.clr [2]], ep := [], lin := [], sp := [] }]
theorem c135 : cC Try.prog Try.f135.ntmps an135 (Try.f135.body.getD .skip) = some A135 := by kernel_rfl
structure H135 (D : Den) (σ : Sig) (F : Nat) : Prop where
  c171 : ∀ (x0 : (Int × (List (Int × Int)))) (x1 : (List Int)) r, i_hasNodes F x0 x1 = some r → D 171 [Enc.enc x0, Enc.enc x1] = some (Enc.enc (r : Bool))
  g171 : σ 171 = some (0, false)
  c172 : ∀ (x0 : (List Int)) r, i_increasing F x0 = some r → D 172 [Enc.enc x0] = some (Enc.enc (r : Bool))
  g172 : σ 172 = some (0, false)
abbrev R135 (r : Bool) : (Nat → V) → Prop := RR Try.prog [.tmp 4] 0 false (Enc.enc (r : Bool))
section
variable {D : Den} {σ : Sig} {F : Nat} {r : Bool}
def i_isSet (F : Nat) (x_1 : (Int × (List (Int × Int)))) (x_2 : (List Int)) : Option Bool :=
  (i_hasNodes F x_1 x_2).bind fun r_3 =>
  bif r_3 then
    (i_increasing F x_2).bind fun r_4 =>
    some r_4
  else
    some false
theorem t135 (H : H135 D σ F) (x_1 : (Int × (List (Int × Int)))) (x_2 : (List Int)) (s : Nat → V) (hs : Facts [(0, (.agg [(ji x_1.1), (Enc.enc (x_1.2 : List (Int × Int)))])), (1, (eL x_2))] s) (h : i_isSet F x_1 x_2 = some r) : Run D σ (R135 r) (.run A135 []) s := by
  unfold i_isSet at h
  obtain ⟨h0, h1⟩ := hs
  refine .seq (run_reg ?_)
  refine e_clr ?_
  refine ez [(0, _), (1, _), (2, _)] ⟨(keep_clear (pk := [2]) h0 rfl (map_agg (maps_cons mi (maps_cons me maps_nil)))), (keep_clear (pk := [2]) h1 rfl me), (gone_clear (pk := [2]) (t := 2) rfl)⟩ ?_
  rintro s ⟨h0, h1, h2⟩
  refine g_box (.agg [(ji x_1.1), (Enc.enc (x_1.2 : List (Int × Int)))]) (rd_of h0 rfl) h2 rfl ?_
  refine g0 (jb false) fun h4 => ?_
  refine gq (.nsq (.seq (rg (g1 2 (.agg [(ji x_1.1), (Enc.enc (x_1.2 : List (Int × Int)))]) (rfl : (_ : V) = (.ref (.bx 2) 0 [] (.agg [(ji x_1.1), (Enc.enc (x_1.2 : List (Int × Int)))]))) fun h5 => ?_))))
  refine gm h1 fun h6 => ?_
  obtain ⟨r_3, E_r_3, h⟩ := bind_some h
  refine g_call (m := 0) (al := false) (r := (Enc.enc (r_3 : Bool))) [Enc.enc (x_1 : (Int × (List (Int × Int)))), Enc.enc (x_2 : (List Int))] (ta_cons (v := (.agg [(ji x_1.1), (Enc.enc (x_1.2 : List (Int × Int)))])) h5 rfl (Enc.erase_enc (x_1 : (Int × (List (Int × Int))))) (ta_cons (v := (eL x_2)) h6 rfl (Enc.erase_enc (x_2 : (List Int))) ta_nil)) (H.c171 _ _ _ E_r_3) H.g171 rfl rfl rfl rfl ?_
  refine gm (rfl : (_ : V) = (jb r_3)) fun h8 => ?_
  refine split_on (c := r_3) h (fun hg4 h => ?_) (fun hg4 h => ?_)
  · refine g_yes (h8.trans (congrArg V.bool hg4)) (gm h1 fun h9 => ?_)
    obtain ⟨r_4, E_r_4, h⟩ := bind_some h
    refine g_yes (h8.trans (congrArg V.bool hg4)) (g_call (m := 0) (al := false) (r := (Enc.enc (r_4 : Bool))) [Enc.enc (x_2 : (List Int))] (ta_cons (v := (eL x_2)) h9 rfl (Enc.erase_enc (x_2 : (List Int))) ta_nil) (H.c172 _ _ E_r_4) H.g172 rfl rfl rfl rfl ?_)
    refine g2 8 10 (jb r_4) (h8.trans (congrArg V.bool hg4)) (rfl : (_ : V) = (jb r_4)) fun h11 => ?_
    refine gm h11 fun h4 => gq (.nsq (.ret ?_))
    have hr := Option.some.inj h
    subst hr
    exact rrA (res_tmp h4) rfl
  refine g_no (h8.trans (congrArg V.bool hg4)) ?_
  refine g_no (h8.trans (congrArg V.bool hg4)) ?_
  refine g2 8 10 (jb false) (h8.trans (congrArg V.bool hg4)) (rfl : (_ : V) = (.tup [])) fun h11 => ?_
  refine gm h11 fun h4 => gq (.nsq (.ret ?_))
  have hr := Option.some.inj h
  subst hr
  exact rrA (res_tmp h4) rfl
end
def e135 (F : Nat) : Ent := ent 135 (fun (x : ((Int × (List (Int × Int))) × (List Int) × Unit)) => i_isSet F x.1 x.2.1) (fun (r : Bool) => (Enc.enc (r : Bool))) 0 false []
theorem p135 {F : Nat} {x0 : (Int × (List (Int × Int)))} {x1 : (List Int)} {r : Bool} (h : i_isSet F x0 x1 = some r) : (e135 F).den [Enc.enc x0, Enc.enc x1] = some (Enc.enc (r : Bool)) := ent_put (x0, x1, ()) h
theorem o135 {D : Den} {σ : Sig} {F : Nat} (hF : Fits2 Try.prog D σ) (H : H135 D σ F) : (e135 F).Ok Try.prog := by
  refine ok_of (f := 135) (show unk 135 = 135 from rfl) (fun args r h => ?_) ⟨Try.f135, Try.func135, rfl, rfl⟩
  obtain ⟨⟨x0, x1, _⟩, y, rfl, hy, rfl⟩ := da_open h
  exact contract_run hF (by kernel_rfl) Try.func135 rfl c135 (show 2 ≤ Try.f135.ntmps by decide) (t135 H x0 x1 _ ⟨rfl, rfl⟩ hy)
/- loop.example/g01109/impl.isPathDecomposition$1 -/
def A134_1 : AC := (.seq (.reg [] [((jv 4 (.load (.ag [.s, .p]) (.t 1)))), (jm 5 0), (.mk (some 6) none false (.call (.k (.fn 135 [] [])) [(.t 4), (.t 5)])), ((jv 7 (.un .not (.t 6)))), (jm 3 7)] []) .ret)
def A134 : AC := (.seq (.reg [] [((jv 3 (.mov (.k (.bool false)))))] []) A134_1)
def an134 : List An := []
theorem c134 : cC Try.prog Try.f134.ntmps an134 (Try.f134.body.getD .skip) = some A134 := by kernel_rfl
structure H134 (D : Den) (σ : Sig) (F : Nat) : Prop where
  c135 : ∀ (x0 : (Int × (List (Int × Int)))) (x1 : (List Int)) r, i_isSet F x0 x1 = some r → D 135 [Enc.enc x0, Enc.enc x1] = some (Enc.enc (r : Bool))
  g135 : σ 135 = some (0, false)
abbrev R134 (r : Bool) : (Nat → V) → Prop := RR Try.prog [.tmp 3] 0 false (Enc.enc (r : Bool))
section
variable {D : Den} {σ : Sig} {F : Nat} {r : Bool}
def i_isPathDecomposition_1 (F : Nat) (x_1 : (List Int)) (rf_2 : (Rf (Int × (List (Int × Int))))) : Option Bool :=
  (i_isSet F rf_2.v x_1).bind fun r_3 =>
  some (!r_3)
theorem t134 (H : H134 D σ F) (x_1 : (List Int)) (rf_2 : (Rf (Int × (List (Int × Int))))) (s : Nat → V) (hs : Facts [(0, (eL x_1)), (1, (.ref .sh 0 [] (.agg [(ji rf_2.v.1), (Enc.enc (rf_2.v.2 : List (Int × Int)))])))] s) (h : i_isPathDecomposition_1 F x_1 rf_2 = some r) : Run D σ (R134 r) (.run A134 []) s := by
  unfold i_isPathDecomposition_1 at h
  obtain ⟨h0, h1⟩ := hs
  refine .seq (rg (g0 (jb false) fun h3 => ?_))
  refine gq (.nsq (.seq (rg (g1 1 (.agg [(ji rf_2.v.1), (Enc.enc (rf_2.v.2 : List (Int × Int)))]) h1 fun h4 => ?_))))
  refine gm h0 fun h5 => ?_
  obtain ⟨r_3, E_r_3, h⟩ := bind_some h
  refine g_call (m := 0) (al := false) (r := (Enc.enc (r_3 : Bool))) [Enc.enc (rf_2.v : (Int × (List (Int × Int)))), Enc.enc (x_1 : (List Int))] (ta_cons (v := (.agg [(ji rf_2.v.1), (Enc.enc (rf_2.v.2 : List (Int × Int)))])) h4 rfl (Enc.erase_enc (rf_2.v : (Int × (List (Int × Int))))) (ta_cons (v := (eL x_1)) h5 rfl (Enc.erase_enc (x_1 : (List Int))) ta_nil)) (H.c135 _ _ _ E_r_3) H.g135 rfl rfl rfl rfl ?_
  refine g1 6 (jb (!r_3)) (rfl : (_ : V) = (jb r_3)) fun h7 => ?_
  refine gm h7 fun h3 => gq (.nsq (.ret ?_))
  have hr := Option.some.inj h
  subst hr
  exact rrA (res_tmp h3) rfl
end
def e134 (F : Nat) : Ent := ent 134 (fun (x : ((List Int) × (Rf (Int × (List (Int × Int)))) × Unit)) => i_isPathDecomposition_1 F x.1 x.2.1) (fun (r : Bool) => (Enc.enc (r : Bool))) 0 false []
theorem p134 {F : Nat} {x0 : (List Int)} {x1 : (Rf (Int × (List (Int × Int))))} {r : Bool} (h : i_isPathDecomposition_1 F x0 x1 = some r) : (e134 F).den [Enc.enc x0, Arg.arg x1] = some (Enc.enc (r : Bool)) := ent_put (x0, x1, ()) h
theorem o134 {D : Den} {σ : Sig} {F : Nat} (hF : Fits2 Try.prog D σ) (H : H134 D σ F) : (e134 F).Ok Try.prog := by
  refine ok_of (f := 134) (show unk 134 = 134 from rfl) (fun args r h => ?_) ⟨Try.f134, Try.func134, rfl, rfl⟩
  obtain ⟨⟨x0, x1, _⟩, y, rfl, hy, rfl⟩ := da_open h
  exact contract_run hF (by kernel_rfl) Try.func134 rfl c134 (show 2 ≤ Try.f134.ntmps by decide) (t134 H x0 x1 _ ⟨rfl, rfl⟩ hy)
end Go.Zq
